-- Written by xprint.py, a program of this session over the kit's print. Not trusted: Lean checks it.
import Derived.Test.YtgmpdkefegofhaaPFnFallenx0
import Derived.Test.YtgmpdkefegofhaaPFnFallenx2
import Derived.Test.YtgmpdkefegofhaaPFnFallenx3
import Derived.Test.YtgmpdkefegofhaaPFnFallenx4
import Derived.Test.YtgmpdkefegofhaaPFnFallenx6
import Derived.Test.YtgmpdkefegofhaaPFnFallenx7
namespace Go.Proofs.Ytgmpdkefegofhaa.PFnFallen
open Go.RowKit Go.Proofs.YtgmpdkefegofhaaW.PrintWords Go.Proofs.YtgmpdkefegofhaaW.PrintLast Go.Proofs.YtgmpdkefegofhaaW.PrintMore
attribute [local go_sem] max2_int min2_int max_two min_two max_three min_three max_four min_four   -- for this text's walks alone
set_option linter.unusedVariables false
set_option linter.unusedSimpArgs false

/-! ### laws_FnFallen: function 11 -/
mutual
def laws_FnFallen.j0 : Nat → List Int → Option (Bool)
 | 0, _ => none
 | k + 1, x0 => (spec_DrawFall.f k x0).bind fun bt331 => ((impl_Fall.f k bt331.1 bt331.2.1 bt331.2.2).bind fun bt341 => ((spec_DiskOk.f k bt331.1 bt331.2.1).bind fun t348 => (if t348 = true then (laws_FnFallen.j1 k bt331.1 bt331.2.1 bt341.1 bt341.2) else ((spec_DiskSame.f k bt341.1 bt341.2 bt331.1 bt331.2.1).bind fun t349 => (some t349)))))
def laws_FnFallen.j1 : Nat → List ByteArray → List (S65) → List ByteArray → List (S65) → Option (Bool)
 | 0, _, _, _, _ => none
 | k + 1, x341000, x341001, x348000, x348001 => laws_FnFallen.l0 k (([] : List Bool)) 0 x341000 x341001 x348000 x348001
def laws_FnFallen.l0 : Nat → List Bool → Int → List ByteArray → List (S65) → List ByteArray → List (S65) → Option (Bool)
 | 0, _, _, _, _, _, _ => none
 | k + 1, x6, x7, x341000, x341001, x348000, x348001 => if x7 < (x341001.length : Int) then (if x6.length < 140737488355328 then (laws_FnFallen.l0 k (x6 ++ [true]) (wrap64 (x7 + 1)) x341000 x341001 x348000 x348001) else (none)) else (if (x348000.length : Int) = (x341000.length : Int) then (if (x348001.length : Int) = 0 then ((impl_Fall.f k x341000 x341001 x6).bind fun bt356 => ((impl_Flush.f k x341000 x341001).bind fun bt362 => ((impl_DiskSame.f k bt356.1 bt356.2 bt362.1 bt362.2).bind fun t368 => (laws_FnFallen.j3 k (!t368) x341000 x341001 x348000 x348001)))) else (laws_FnFallen.j3 k true x341000 x341001 x348000 x348001)) else (laws_FnFallen.j3 k true x341000 x341001 x348000 x348001))
def laws_FnFallen.j3 : Nat → Bool → List ByteArray → List (S65) → List ByteArray → List (S65) → Option (Bool)
 | 0, _, _, _, _, _ => none
 | k + 1, x62, x341000, x341001, x348000, x348001 => if x62 = true then (some false) else (laws_FnFallen.j4 k x341000 x341001 x348000 x348001)
def laws_FnFallen.j4 : Nat → List ByteArray → List (S65) → List ByteArray → List (S65) → Option (Bool)
 | 0, _, _, _, _ => none
 | k + 1, x341000, x341001, x348000, x348001 => (impl_Fall.f k x341000 x341001 ([] : List Bool)).bind fun bt369 => (laws_FnFallen.l1 k 0 x341000 x341001 x348000 x348001 bt369.1 bt369.2)
def laws_FnFallen.l1 : Nat → Int → List ByteArray → List (S65) → List ByteArray → List (S65) → List ByteArray → List (S65) → Option (Bool)
 | 0, _, _, _, _, _, _, _ => none
 | k + 1, x9, x341000, x341001, x348000, x348001, x376000, x376001 => if x9 < (x341000.length : Int) then (laws_FnFallen.j6 k x9 x341000 x341001 x348000 x348001 x376000 x376001) else (some true)
def laws_FnFallen.j6 : Nat → Int → List ByteArray → List (S65) → List ByteArray → List (S65) → List ByteArray → List (S65) → Option (Bool)
 | 0, _, _, _, _, _, _, _ => none
 | k + 1, x9, x341000, x341001, x348000, x348001, x376000, x376001 => if 0 ≤ x9 then (if x9 < (x348000.length : Int) then (if x9 < (x341000.length : Int) then (laws_FnFallen.l2 k x9 ((rdOf ByteArray.empty x348000 x9).toList == (rdOf ByteArray.empty x341000 x9).toList) 0 x341000 x341001 x348000 x348001 x376000 x376001) else (none)) else (none)) else (none)
def laws_FnFallen.l2 : Nat → Int → Bool → Int → List ByteArray → List (S65) → List ByteArray → List (S65) → List ByteArray → List (S65) → Option (Bool)
 | 0, _, _, _, _, _, _, _, _, _ => none
 | k + 1, x9, x10, x11, x341000, x341001, x348000, x348001, x376000, x376001 => if x11 < (x341001.length : Int) then (if x10 = true then (laws_FnFallen.l2 k x9 true (wrap64 (x11 + 1)) x341000 x341001 x348000 x348001 x376000 x376001) else (if 0 ≤ x11 then (if ((rd_T65 x341001 x11).f0) = x9 then (if 0 ≤ x9 then (if x9 < (x348000.length : Int) then (laws_FnFallen.l2 k x9 (((rd_T65 x341001 x11).f1).toList == (rdOf ByteArray.empty x348000 x9).toList) (wrap64 (x11 + 1)) x341000 x341001 x348000 x348001 x376000 x376001) else (none)) else (none)) else (laws_FnFallen.l2 k x9 false (wrap64 (x11 + 1)) x341000 x341001 x348000 x348001 x376000 x376001)) else (none))) else ((impl_SectorRead.f k x376000 x376001 x9).bind fun bt381 => (if x10 = true then (if bt381.2 = true then (if 0 ≤ x9 then (if x9 < (x341000.length : Int) then (if bt381.1.toList = (rdOf ByteArray.empty x341000 x9).toList then (laws_FnFallen.l1 k (wrap64 (x9 + 1)) x341000 x341001 x348000 x348001 x376000 x376001) else (some false)) else (none)) else (none)) else (some false)) else (some false)))
end
def laws_FnFallen.f (k : Nat) (l0 : List Int) : Option (Bool) := (laws_big.f l0).bind fun t330 => (if t330 = true then (some true) else (laws_FnFallen.j0 k l0))
theorem laws_FnFallen.mono_l : ∀ k, (∀ y0, LeO (laws_FnFallen.j0 k y0) (laws_FnFallen.j0 (k + 1) y0)) ∧ (∀ y0 y1 y2 y3, LeO (laws_FnFallen.j1 k y0 y1 y2 y3) (laws_FnFallen.j1 (k + 1) y0 y1 y2 y3)) ∧ (∀ y0 y1 y2 y3 y4 y5, LeO (laws_FnFallen.l0 k y0 y1 y2 y3 y4 y5) (laws_FnFallen.l0 (k + 1) y0 y1 y2 y3 y4 y5)) ∧ (∀ y0 y1 y2 y3 y4, LeO (laws_FnFallen.j3 k y0 y1 y2 y3 y4) (laws_FnFallen.j3 (k + 1) y0 y1 y2 y3 y4)) ∧ (∀ y0 y1 y2 y3, LeO (laws_FnFallen.j4 k y0 y1 y2 y3) (laws_FnFallen.j4 (k + 1) y0 y1 y2 y3)) ∧ (∀ y0 y1 y2 y3 y4 y5 y6, LeO (laws_FnFallen.l1 k y0 y1 y2 y3 y4 y5 y6) (laws_FnFallen.l1 (k + 1) y0 y1 y2 y3 y4 y5 y6)) ∧ (∀ y0 y1 y2 y3 y4 y5 y6, LeO (laws_FnFallen.j6 k y0 y1 y2 y3 y4 y5 y6) (laws_FnFallen.j6 (k + 1) y0 y1 y2 y3 y4 y5 y6)) ∧ (∀ y0 y1 y2 y3 y4 y5 y6 y7 y8, LeO (laws_FnFallen.l2 k y0 y1 y2 y3 y4 y5 y6 y7 y8) (laws_FnFallen.l2 (k + 1) y0 y1 y2 y3 y4 y5 y6 y7 y8))
 | 0 => ⟨fun _ r h => by simp [laws_FnFallen.j0] at h, fun _ _ _ _ r h => by simp [laws_FnFallen.j1] at h, fun _ _ _ _ _ _ r h => by simp [laws_FnFallen.l0] at h, fun _ _ _ _ _ r h => by simp [laws_FnFallen.j3] at h, fun _ _ _ _ r h => by simp [laws_FnFallen.j4] at h, fun _ _ _ _ _ _ _ r h => by simp [laws_FnFallen.l1] at h, fun _ _ _ _ _ _ _ r h => by simp [laws_FnFallen.j6] at h, fun _ _ _ _ _ _ _ _ _ r h => by simp [laws_FnFallen.l2] at h⟩
 | k + 1 => by
  obtain ⟨ih0, ih1, ih2, ih3, ih4, ih5, ih6, ih7⟩ := laws_FnFallen.mono_l k
  refine ⟨?_, ?_, ?_, ?_, ?_, ?_, ?_, ?_⟩
  ·intro y0
   unfold laws_FnFallen.j0
   have m0_ := @impl_DiskSame.mono
   have m1_ := @impl_Fall.mono
   have m2_ := @impl_Flush.mono
   have m3_ := @impl_SectorRead.mono
   have m4_ := @spec_DiskOk.mono
   have m5_ := @spec_DiskSame.mono
   have m6_ := @spec_DrawFall.mono
   exact mM
  ·intro y0 y1 y2 y3
   unfold laws_FnFallen.j1
   have m0_ := @impl_DiskSame.mono
   have m1_ := @impl_Fall.mono
   have m2_ := @impl_Flush.mono
   have m3_ := @impl_SectorRead.mono
   have m4_ := @spec_DiskOk.mono
   have m5_ := @spec_DiskSame.mono
   have m6_ := @spec_DrawFall.mono
   exact mM
  ·intro y0 y1 y2 y3 y4 y5
   unfold laws_FnFallen.l0
   have m0_ := @impl_DiskSame.mono
   have m1_ := @impl_Fall.mono
   have m2_ := @impl_Flush.mono
   have m3_ := @impl_SectorRead.mono
   have m4_ := @spec_DiskOk.mono
   have m5_ := @spec_DiskSame.mono
   have m6_ := @spec_DrawFall.mono
   exact mM
  ·intro y0 y1 y2 y3 y4
   unfold laws_FnFallen.j3
   have m0_ := @impl_DiskSame.mono
   have m1_ := @impl_Fall.mono
   have m2_ := @impl_Flush.mono
   have m3_ := @impl_SectorRead.mono
   have m4_ := @spec_DiskOk.mono
   have m5_ := @spec_DiskSame.mono
   have m6_ := @spec_DrawFall.mono
   exact mM
  ·intro y0 y1 y2 y3
   unfold laws_FnFallen.j4
   have m0_ := @impl_DiskSame.mono
   have m1_ := @impl_Fall.mono
   have m2_ := @impl_Flush.mono
   have m3_ := @impl_SectorRead.mono
   have m4_ := @spec_DiskOk.mono
   have m5_ := @spec_DiskSame.mono
   have m6_ := @spec_DrawFall.mono
   exact mM
  ·intro y0 y1 y2 y3 y4 y5 y6
   unfold laws_FnFallen.l1
   have m0_ := @impl_DiskSame.mono
   have m1_ := @impl_Fall.mono
   have m2_ := @impl_Flush.mono
   have m3_ := @impl_SectorRead.mono
   have m4_ := @spec_DiskOk.mono
   have m5_ := @spec_DiskSame.mono
   have m6_ := @spec_DrawFall.mono
   exact mM
  ·intro y0 y1 y2 y3 y4 y5 y6
   unfold laws_FnFallen.j6
   have m0_ := @impl_DiskSame.mono
   have m1_ := @impl_Fall.mono
   have m2_ := @impl_Flush.mono
   have m3_ := @impl_SectorRead.mono
   have m4_ := @spec_DiskOk.mono
   have m5_ := @spec_DiskSame.mono
   have m6_ := @spec_DrawFall.mono
   exact mM
  ·intro y0 y1 y2 y3 y4 y5 y6 y7 y8
   unfold laws_FnFallen.l2
   have m0_ := @impl_DiskSame.mono
   have m1_ := @impl_Fall.mono
   have m2_ := @impl_Flush.mono
   have m3_ := @impl_SectorRead.mono
   have m4_ := @spec_DiskOk.mono
   have m5_ := @spec_DiskSame.mono
   have m6_ := @spec_DrawFall.mono
   exact mM
theorem laws_FnFallen.mono : ∀ a0 k, LeO (laws_FnFallen.f k a0) (laws_FnFallen.f (k + 1) a0) := by
 intro a0 k
 obtain ⟨ih0, ih1, ih2, ih3, ih4, ih5, ih6, ih7⟩ := laws_FnFallen.mono_l k
 unfold laws_FnFallen.f
 have m0_ := @impl_DiskSame.mono
 have m1_ := @impl_Fall.mono
 have m2_ := @impl_Flush.mono
 have m3_ := @impl_SectorRead.mono
 have m4_ := @spec_DiskOk.mono
 have m5_ := @spec_DiskSame.mono
 have m6_ := @spec_DrawFall.mono
 exact mM
def laws_FnFallen.T12 : Bool × List (List Nat × List Nat) := (true, [([], []), ([0], [0]), ([1], [1]), ([], []), ([3], [3]), ([4], [4]), ([2, 5], [2, 5]), ([6], [6]), ([7], [7]), ([8, 7], [7, 8]), ([9, 7], [7, 9]), ([10, 7], [7, 10]), ([7, 11], [7, 11]), ([12, 7], [12]), ([13], [13]), ([13], [13]), ([14, 15, 13, 13], [13, 14, 15]), ([13], [13]), ([17, 16, 13], [13, 17]), ([16, 18, 18, 13], [13, 16, 18]), ([19, 13], [13, 19]), ([13, 20], [13, 20])])
def laws_FnFallen.B12 : List Nat := [0, 1, 3, 0, 8, 24, 63, 127, 255, 511, 1023, 2047, 4095, 8191, 16383, 16383, 65535, 16383, 262143, 524287, 1048575, 2097151]
theorem laws_FnFallen.tab12 : rtab .any (opsOf Try.f11 12) = laws_FnFallen.T12 := by kernel_rfl
theorem laws_FnFallen.bits12 : waitsOk laws_FnFallen.T12.2 laws_FnFallen.B12 = true := by kernel_rfl
def laws_FnFallen.T18 : Bool × List (List Nat × List Nat) := (true, [([], []), ([0], [0]), ([], []), ([1, 2], [1, 2]), ([3], [3]), ([], []), ([5], [5]), ([], []), ([6, 7], [6, 7]), ([8], [8]), ([4, 9], [4, 9]), ([10, 0, 1, 2, 3, 4, 5, 6, 7, 8, 9, 10], [10])])
def laws_FnFallen.B18 : List Nat := [0, 1, 0, 7, 15, 0, 32, 0, 224, 480, 1023, 2047]
theorem laws_FnFallen.tab18 : rtab .any (opsOf Try.f11 18) = laws_FnFallen.T18 := by kernel_rfl
theorem laws_FnFallen.bits18 : waitsOk laws_FnFallen.T18.2 laws_FnFallen.B18 = true := by kernel_rfl
def laws_FnFallen.T22 : Bool × List (List Nat × List Nat) := (true, [([], []), ([0], [0]), ([1], [1]), ([2, 1], [1, 2]), ([1], [1]), ([3, 4, 1], [1, 3, 4]), ([5, 1], [1, 5]), ([6, 1], [1, 6]), ([1], [1]), ([7, 8, 1], [1, 7, 8]), ([9, 1, 1], [1, 9]), ([10], [10]), ([11, 10], [10, 11]), ([10], [10]), ([12, 13, 10], [10, 12, 13]), ([14, 10], [10, 14]), ([15, 10], [10, 15]), ([10], [10]), ([17, 10], [10, 17]), ([10], [10]), ([18, 19, 10], [10, 18, 19]), ([20, 10], [10, 20]), ([16, 21, 10], [10, 16, 21]), ([10, 22, 1], [1, 10, 22]), ([1, 23], [1, 23]), ([24, 10, 0, 1, 2, 3, 4, 5, 6, 7, 8, 9, 10, 11, 12, 13, 14, 15, 16, 17, 18, 19, 20, 21, 22, 23, 24], [0, 24])])
def laws_FnFallen.B22 : List Nat := [0, 1, 3, 7, 3, 31, 63, 127, 3, 511, 1023, 2047, 4095, 2047, 16383, 32767, 65535, 2047, 133119, 2047, 919551, 1968127, 4194303, 8388607, 16777215, 33554431]
theorem laws_FnFallen.tab22 : rtab .any (opsOf Try.f11 22) = laws_FnFallen.T22 := by kernel_rfl
theorem laws_FnFallen.bits22 : waitsOk laws_FnFallen.T22.2 laws_FnFallen.B22 = true := by kernel_rfl
set_option maxHeartbeats 8000000 in
set_option maxRecDepth 100000 in
theorem laws_FnFallen.calls (k : Nat) (A0 : Option Addr) (c0 : Nat) (l0 : List Int) (r : Bool) (w : World) (hr0 : Kd.C (Kd.int .u8) w A0 l0.length l0) (hc0 : l0.length ≤ c0) (h : laws_FnFallen.f k l0 = some r) :
  Calls Try.prog 11 #[.slice A0 l0.length c0] w fun e w' => e = .returned (.bool r) ∧ Below w.heap.size w w' := by
 have hu30 := Try.underlying30
 have HR0 := Aside0.mk hr0
 have HC0 := Aside0.mk hc0
 clear hr0 hc0
 have HB := Aside0.mk (Below.refl w.heap.size w)
 unfold laws_FnFallen.f at h
 have H := h
 clear h
 replace H := Option.bind_eq_some_iff.mp H
 obtain ⟨t330, A20, H⟩ := H
 try dsimp only at H
 have A2 := Aside0.mk A20
 clear A20
 have HC3 := Aside0.mk H
 clear H
 go_enter Try.func11, Try.ntmps11
 go_upto_if 15 with (first | ((with_reducible refine gate_callee (f := 46) rfl ?_); refine gL (some 15) Try.func46 #[.slice A0 l0.length c0] ?_; (with_reducible refine (laws_big.calls _ _ l0 t330 _ ?side1 ?side2 A2.out).mono ?_); (case side1 => repeat (first | exact HR0.out | (with_reducible refine Kd.C_alloc ?_ _) | (with_reducible refine Kd.C_drewN ?_ _) | (with_reducible refine Kd.C_drew ?_))); (case side2 => exact HC0.out); rintro e w' ⟨rfl, ⟨nd, rfl⟩⟩; refine ⟨_, rfl, ?_⟩))
 (try simp only [Act.put, List.setIfInBounds_toArray, List.set_cons_zero, List.set_cons_succ])
 go_cut [] (fun wc => ∃ (kq : Nat), Aside0 (laws_FnFallen.j0 kq l0 = some r) ∧ Aside0 (kq ≤ k) ∧ Aside0 (Below w.heap.size w wc))
 case first =>
  have H := HC3.out
  clear HC3
  by_cases c4 : t330 = true
  ·subst c4
   rw [if_pos rfl] at H
   obtain rfl := Option.some.inj H
   go_wp2
   go_ret
   exact ⟨eW, bB⟩
  replace c4 := Bool.eq_false_iff.mpr c4
  subst c4
  rw [if_neg (show ¬ (false = true) by decide)] at H
  have H' := Aside0.mk H
  clear H
  go_wp2
  go_meet
  case rel => exact ⟨_, H', ⟨by first | omega | exact Nat.le_refl _⟩, ⟨bB⟩⟩
 case rest =>
  clear HC3
  try clear c1
  try clear p2
  try clear c4
  obtain ⟨kq, HA, HJ2, HB⟩ := hcut
  cases kq with
  | zero => exact absurd HA.out (by simp [laws_FnFallen.j0])
  | succ kj2 =>
   have H := HA.out
   clear HA
   simp only [laws_FnFallen.j0] at H
   replace H := Option.bind_eq_some_iff.mp H
   obtain ⟨⟨t331, t334, t337⟩, A50, H⟩ := H
   try dsimp only at H
   have A5 := Aside0.mk A50
   clear A50
   replace H := Option.bind_eq_some_iff.mp H
   obtain ⟨⟨t341, t344⟩, A60, H⟩ := H
   try dsimp only at H
   have A6 := Aside0.mk A60
   clear A60
   replace H := Option.bind_eq_some_iff.mp H
   obtain ⟨t348, A70, H⟩ := H
   try dsimp only at H
   have A7 := Aside0.mk A70
   clear A70
   have HC8 := Aside0.mk H
   clear H
   go_upto_if 26 with (first | ((with_reducible refine gate_callee (f := 47) rfl ?_); refine gL (some 18) Try.func47 #[.slice A0 l0.length c0] ?_; (with_reducible refine (spec_DrawFall.calls kj2 _ _ l0 t331 t334 t337 _ ?side1 ?side2 A5.out).mono ?_); (case side1 => exact cS HR0 HB); (case side2 => exact HC0.out); rintro e w9 ⟨v332, v335, v338, rfl, ho0, ho1, ho2, hb⟩; refine ⟨_, rfl, ?_⟩; have n_ := And.intro (lR HB ho0) (And.intro (lR HB ho1) (And.intro (lR HB ho2) (sB HB hb))); clear HB; obtain ⟨HO333, HO336, HO339, HB⟩ := n_; (try clear hb ho0 ho1 ho2)) | ((with_reducible refine gate_dst (N := 3) rfl ?_); (try (refine gate_guard (by rfl) ?_; dsimp only)); refine box_event ?hg (N := 3) ?hd (cs := #[.slice none 0 0, .slice none 0 0]) (t := 30) ?hr ?_; (case hd => rfl); (case hg => rfl); (case hr => first | (go_simp; done) | (go_simp; rfl)); intro gb340 hg w10 hbox hb; have n_ := And.intro (rB HO333 hb) (And.intro (rB HO336 hb) (And.intro (rB HO339 hb) (And.intro (sB HB hb) (And.intro (Aside0.mk hbox) (And.intro (gE HB hg) (gE HB hg)))))); clear HO333 HO336 HO339 HB; obtain ⟨HO333, HO336, HO339, HB, BK340, GW340, GE340⟩ := n_; (try clear hb hbox hg); obtain ⟨Ao11, co11, eo11⟩ := Kd.R_slice HO333.out; subst eo11; have hcz12_0 := cZ0 BK340; have hcz12_1 := cZ1 BK340; have hfz12_0 := blk_frozen BK340.out 0; have hfz12_1 := blk_frozen BK340.out 1; obtain ⟨Ao13, co13, eo13⟩ := Kd.R_slice HO336.out; subst eo13; obtain ⟨Ao14, co14, eo14⟩ := Kd.R_slice HO339.out; subst eo14) | ((with_reducible refine gate_callee (f := 35) rfl ?_); refine gL (some 23) Try.func35 #[.agg #[.slice Ao11 t331.length co11, .slice Ao13 t334.length co13], .slice Ao14 t337.length co14] ?_; (with_reducible refine (impl_Fall.calls kj2 _ _ t331 _ _ t334 _ _ t337 t341 t344 _ ?side1 ?side2 ?side3 ?side4 ?side5 ?side6 A6.out).mono ?_); (case side1 => refine (Kd.R_reads' (e := 9) (base := w.heap.size) (ok := fun k_ => True) (n := t331.length) (c := co11) ?_).2.2; exact (rP (Kd.R_mono (Kd.R_far (p := ⟨gb340, 1, none⟩) (Kd.R_far (p := ⟨gb340, 0, none⟩) (Kd.R_types HO333.out BK340.out (by decide)) (fun _ hk => hk.2) (.slice Ao11 t331.length co11)) (fun _ hk => hk.2) (.slice Ao13 t334.length co13)) (fun _ h_ => h_.1)))); (case side2 => exact (Kd.R_reads' HO333.out).2.1); (case side3 => refine (Kd.R_reads' (e := 65) (base := w.heap.size) (ok := fun k_ => True) (n := t334.length) (c := co13) ?_).2.2; exact (rP (Kd.R_mono (Kd.R_far (p := ⟨gb340, 1, none⟩) (Kd.R_far (p := ⟨gb340, 0, none⟩) (Kd.R_types HO336.out BK340.out (by decide)) (fun _ hk => hk.2) (.slice Ao11 t331.length co11)) (fun _ hk => hk.2) (.slice Ao13 t334.length co13)) (fun _ h_ => h_.1)))); (case side4 => exact (Kd.R_reads' HO336.out).2.1); (case side5 => refine (Kd.R_reads' (e := 4) (base := w.heap.size) (ok := fun k_ => True) (n := t337.length) (c := co14) ?_).2.2; exact (rP (Kd.R_mono (Kd.R_far (p := ⟨gb340, 1, none⟩) (Kd.R_far (p := ⟨gb340, 0, none⟩) (Kd.R_types HO339.out BK340.out (by decide)) (fun _ hk => hk.2) (.slice Ao11 t331.length co11)) (fun _ hk => hk.2) (.slice Ao13 t334.length co13)) (fun _ h_ => h_.1)))); (case side6 => exact (Kd.R_reads' HO339.out).2.1); rintro e w15 ⟨v342, v345, rfl, ho0, ho1, hb⟩; refine ⟨_, rfl, ?_⟩; have n_ := And.intro (Aside0.mk (Kd.R_elder' (rP (Kd.R_mono (Kd.R_far (p := ⟨gb340, 1, none⟩) (Kd.R_far (p := ⟨gb340, 0, none⟩) (Kd.R_types HO333.out BK340.out (by decide)) (fun _ hk => hk.2) (.slice Ao11 t331.length co11)) (fun _ hk => hk.2) (.slice Ao13 t334.length co13)) (fun _ h_ => h_.1))) (Kd.R_base ho0) hb)) (And.intro (Aside0.mk (Kd.R_elder' (rP (Kd.R_mono (Kd.R_far (p := ⟨gb340, 1, none⟩) (Kd.R_far (p := ⟨gb340, 0, none⟩) (Kd.R_types HO336.out BK340.out (by decide)) (fun _ hk => hk.2) (.slice Ao11 t331.length co11)) (fun _ hk => hk.2) (.slice Ao13 t334.length co13)) (fun _ h_ => h_.1))) (Kd.R_base ho1) hb)) (And.intro (Aside0.mk (Kd.R_below (rP (Kd.R_mono (Kd.R_far (p := ⟨gb340, 1, none⟩) (Kd.R_far (p := ⟨gb340, 0, none⟩) (Kd.R_types HO339.out BK340.out (by decide)) (fun _ hk => hk.2) (.slice Ao11 t331.length co11)) (fun _ hk => hk.2) (.slice Ao13 t334.length co13)) (fun _ h_ => h_.1))) hb)) (And.intro (Aside0.mk (Kd.R_lower (Kd.R_new' ho0 (Kd.R_lt (rP (Kd.R_mono (Kd.R_far (p := ⟨gb340, 1, none⟩) (Kd.R_far (p := ⟨gb340, 0, none⟩) (Kd.R_types HO333.out BK340.out (by decide)) (fun _ hk => hk.2) (.slice Ao11 t331.length co11)) (fun _ hk => hk.2) (.slice Ao13 t334.length co13)) (fun _ h_ => h_.1))))) (zB HB))) (And.intro (Aside0.mk (Kd.R_lower (Kd.R_new' ho1 (Kd.R_lt (rP (Kd.R_mono (Kd.R_far (p := ⟨gb340, 1, none⟩) (Kd.R_far (p := ⟨gb340, 0, none⟩) (Kd.R_types HO336.out BK340.out (by decide)) (fun _ hk => hk.2) (.slice Ao11 t331.length co11)) (fun _ hk => hk.2) (.slice Ao13 t334.length co13)) (fun _ h_ => h_.1))))) (zB HB))) (And.intro (Aside0.mk (blk_below (g := gb340) (o := .cells #[.slice Ao11 t331.length co11, .slice Ao13 t334.length co13] 30 (0, 0)) (by (with_reducible repeat (first | refine blk_drewN ?_ _ | refine blk_drew ?_ | refine blk_alloc ?_ _)); refine blk_put (cs := #[.slice Ao11 t331.length co11, .slice none 0 0]) ?_ 1 _ rfl; (with_reducible repeat (first | refine blk_drewN ?_ _ | refine blk_drew ?_ | refine blk_alloc ?_ _)); refine blk_put (cs := #[.slice none 0 0, .slice none 0 0]) ?_ 0 _ rfl; (with_reducible repeat (first | refine blk_drewN ?_ _ | refine blk_drew ?_ | refine blk_alloc ?_ _)); exact BK340.out) hb)) (sB HB hb)))))); clear HO333 HO336 HO339 BK340 HB; obtain ⟨HO333, HO336, HO339, HO343, HO346, BK340, HB⟩ := n_; (try clear hb ho0 ho1)) | ((with_reducible refine gate_dst (N := 5) rfl ?_); (try (refine gate_guard (by rfl) ?_; dsimp only)); refine box_event ?hg (N := 5) ?hd (cs := #[.slice none 0 0, .slice none 0 0]) (t := 30) ?hr ?_; (case hd => rfl); (case hg => rfl); (case hr => first | (go_simp; done) | (go_simp; rfl)); intro gb347 hg w16 hbox hb; have n_ := And.intro (rB HO333 hb) (And.intro (rB HO336 hb) (And.intro (rB HO339 hb) (And.intro (rB HO343 hb) (And.intro (rB HO346 hb) (And.intro (kB BK340 hb) (And.intro (sB HB hb) (And.intro (Aside0.mk hbox) (And.intro (gE HB hg) (And.intro (gE HB hg) (And.intro (nL BK340 hg) (nG BK340 hg))))))))))); clear HO333 HO336 HO339 HO343 HO346 BK340 HB; obtain ⟨HO333, HO336, HO339, HO343, HO346, BK340, HB, BK347, GW347, GE347, NB340_347, NB347_340⟩ := n_; (try clear hb hbox hg); obtain ⟨Ao17, co17, eo17⟩ := Kd.R_slice HO343.out; subst eo17; have hnb18 := NB347_340.out; have hnc18 := NB340_347.out; have hcz19_0 := cZ0 BK347; have hcz19_1 := cZ1 BK347; have hfz19_0 := blk_frozen BK347.out 0; have hfz19_1 := blk_frozen BK347.out 1; obtain ⟨Ao20, co20, eo20⟩ := Kd.R_slice HO346.out; subst eo20; have hcz21_0 := cZ0 BK340; have hcz21_1 := cZ1 BK340; have hfz21_0 := blk_frozen BK340.out 0; have hfz21_1 := blk_frozen BK340.out 1) | ((with_reducible refine gate_callee (f := 16) rfl ?_); refine gL (some 25) Try.func16 #[.agg #[.slice Ao11 t331.length co11, .slice Ao13 t334.length co13]] ?_; (with_reducible refine (spec_DiskOk.calls kj2 _ _ t331 _ _ t334 t348 _ ?side1 ?side2 ?side3 ?side4 A7.out).mono ?_); (case side1 => refine (Kd.R_reads' (e := 9) (base := w.heap.size) (ok := fun k_ => (True ∧ some k_ ≠ (.slice Ao17 t341.length co17 : Value).ownBlock)) (n := t331.length) (c := co11) ?_).2.2; exact (rP (Kd.R_mono (Kd.R_far (p := ⟨gb347, 1, none⟩) (Kd.R_far (p := ⟨gb347, 0, none⟩) (Kd.R_types HO333.out BK347.out (by decide)) (fun _ hk => hk.2) (.slice Ao17 t341.length co17)) (fun _ hk => hk.2) (.slice Ao20 t344.length co20)) (fun _ h_ => h_.1)))); (case side2 => exact (Kd.R_reads' HO333.out).2.1); (case side3 => refine (Kd.R_reads' (e := 65) (base := w.heap.size) (ok := fun k_ => (True ∧ some k_ ≠ (.slice Ao20 t344.length co20 : Value).ownBlock)) (n := t334.length) (c := co13) ?_).2.2; exact (rP (Kd.R_mono (Kd.R_far (p := ⟨gb347, 1, none⟩) (Kd.R_far (p := ⟨gb347, 0, none⟩) (Kd.R_types HO336.out BK347.out (by decide)) (fun _ hk => hk.2) (.slice Ao17 t341.length co17)) (fun _ hk => hk.2) (.slice Ao20 t344.length co20)) (fun _ h_ => h_.1)))); (case side4 => exact (Kd.R_reads' HO336.out).2.1); rintro e w22 ⟨rfl, hb⟩; refine ⟨_, rfl, ?_⟩; have n_ := And.intro (Aside0.mk (Kd.R_below (rP (Kd.R_mono (Kd.R_far (p := ⟨gb347, 1, none⟩) (Kd.R_far (p := ⟨gb347, 0, none⟩) (Kd.R_types HO333.out BK347.out (by decide)) (fun _ hk => hk.2) (.slice Ao17 t341.length co17)) (fun _ hk => hk.2) (.slice Ao20 t344.length co20)) (fun _ h_ => h_.1))) hb)) (And.intro (Aside0.mk (Kd.R_below (rP (Kd.R_mono (Kd.R_far (p := ⟨gb347, 1, none⟩) (Kd.R_far (p := ⟨gb347, 0, none⟩) (Kd.R_types HO336.out BK347.out (by decide)) (fun _ hk => hk.2) (.slice Ao17 t341.length co17)) (fun _ hk => hk.2) (.slice Ao20 t344.length co20)) (fun _ h_ => h_.1))) hb)) (And.intro (Aside0.mk (Kd.R_below (rP (Kd.R_mono (Kd.R_far (p := ⟨gb347, 1, none⟩) (Kd.R_far (p := ⟨gb347, 0, none⟩) (Kd.R_types HO339.out BK347.out (by decide)) (fun _ hk => hk.2) (.slice Ao17 t341.length co17)) (fun _ hk => hk.2) (.slice Ao20 t344.length co20)) (fun _ h_ => h_.1))) hb)) (And.intro (Aside0.mk (Kd.R_below (rP (Kd.R_mono (Kd.R_far (p := ⟨gb347, 1, none⟩) (Kd.R_far (p := ⟨gb347, 0, none⟩) (Kd.R_types HO343.out BK347.out (by decide)) (fun _ hk => hk.2) (.slice Ao17 t341.length co17)) (fun _ hk => hk.2) (.slice Ao20 t344.length co20)) (fun _ h_ => h_.1))) hb)) (And.intro (Aside0.mk (Kd.R_below (rP (Kd.R_mono (Kd.R_far (p := ⟨gb347, 1, none⟩) (Kd.R_far (p := ⟨gb347, 0, none⟩) (Kd.R_types HO346.out BK347.out (by decide)) (fun _ hk => hk.2) (.slice Ao17 t341.length co17)) (fun _ hk => hk.2) (.slice Ao20 t344.length co20)) (fun _ h_ => h_.1))) hb)) (And.intro (kB BK340 hb) (And.intro (Aside0.mk (blk_below (g := gb347) (o := .cells #[.slice Ao17 t341.length co17, .slice Ao20 t344.length co20] 30 (0, 0)) (by (with_reducible repeat (first | refine blk_drewN ?_ _ | refine blk_drew ?_ | refine blk_alloc ?_ _)); refine blk_put (cs := #[.slice Ao17 t341.length co17, .slice none 0 0]) ?_ 1 _ rfl; (with_reducible repeat (first | refine blk_drewN ?_ _ | refine blk_drew ?_ | refine blk_alloc ?_ _)); refine blk_put (cs := #[.slice none 0 0, .slice none 0 0]) ?_ 0 _ rfl; (with_reducible repeat (first | refine blk_drewN ?_ _ | refine blk_drew ?_ | refine blk_alloc ?_ _)); exact BK347.out) hb)) (sB HB hb))))))); clear HO333 HO336 HO339 HO343 HO346 BK340 BK347 HB; obtain ⟨HO333, HO336, HO339, HO343, HO346, BK340, BK347, HB⟩ := n_; (try clear hb)))
   (try simp only [Act.put, List.setIfInBounds_toArray, List.set_cons_zero, List.set_cons_succ])
   go_cut [] (fun wc => ∃ (kq : Nat), Aside0 (laws_FnFallen.j1 kq t331 t334 t341 t344 = some r) ∧ Aside0 (kq ≤ kj2) ∧ Aside0 (Kd.R Kd.string 9 wc w.heap.size (fun k_ => some k_ ≠ ((.slice Ao17 t341.length co17) : Value).ownBlock) (.slice Ao11 t331.length co11) t331) ∧ Aside0 (Kd.R k65 65 wc w.heap.size (fun k_ => some k_ ≠ ((.slice Ao20 t344.length co20) : Value).ownBlock) (.slice Ao13 t334.length co13) t334) ∧ Aside0 (Kd.R Kd.string 9 wc w.heap.size (fun k_ => some k_ ≠ ((.slice Ao11 t331.length co11) : Value).ownBlock) (.slice Ao17 t341.length co17) t341) ∧ Aside0 (Kd.R k65 65 wc w.heap.size (fun k_ => some k_ ≠ ((.slice Ao13 t334.length co13) : Value).ownBlock) (.slice Ao20 t344.length co20) t344) ∧ Aside0 (wc.heap[gb340]? = some (.cells #[(.slice Ao11 t331.length co11), (.slice Ao13 t334.length co13)] 30 (0, 0))) ∧ Aside0 (wc.heap[gb347]? = some (.cells #[(.slice Ao17 t341.length co17), (.slice Ao20 t344.length co20)] 30 (0, 0))) ∧ Aside0 (Below w.heap.size w wc))
   case first =>
    have H := HC8.out
    clear HC8
    by_cases c23 : t348 = true
    ·subst c23
     rw [if_pos rfl] at H
     have H' := Aside0.mk H
     clear H
     go_wp2
     go_meet
     case rel => exact ⟨_, H', ⟨by have := HJ2.out; first | omega | exact Nat.le_refl _⟩, ⟨rP (Kd.R_mono HO333.out (fun _ hk => hk.2))⟩, ⟨rP (Kd.R_mono HO336.out (fun _ hk => hk.2))⟩, ⟨rP (Kd.R_mono HO343.out (fun _ hk => hk.2))⟩, ⟨rP (Kd.R_mono HO346.out (fun _ hk => hk.2))⟩, ⟨kP BK340⟩, ⟨kP BK347⟩, ⟨bB⟩⟩
    ·replace c23 := Bool.eq_false_iff.mpr c23
     subst c23
     rw [if_neg (show ¬ (false = true) by decide)] at H
     replace H := Option.bind_eq_some_iff.mp H
     obtain ⟨t349, A240, H⟩ := H
     try dsimp only at H
     have A24 := Aside0.mk A240
     clear A240
     obtain rfl := Option.some.inj H
     have hnb25 := NB347_340.out
     have hnc25 := NB340_347.out
     have hcz26_0 := cZ0 BK347
     have hcz26_1 := cZ1 BK347
     have hfz26_0 := blk_frozen BK347.out 0
     have hfz26_1 := blk_frozen BK347.out 1
     have hcz27_0 := cZ0 BK340
     have hcz27_1 := cZ1 BK340
     have hfz27_0 := blk_frozen BK340.out 0
     have hfz27_1 := blk_frozen BK340.out 1
     go_wp2_with (first | ((with_reducible refine gate_callee (f := 48) rfl ?_); refine gL (some 29) Try.func48 #[.agg #[.slice Ao17 t341.length co17, .slice Ao20 t344.length co20], .agg #[.slice Ao11 t331.length co11, .slice Ao13 t334.length co13]] ?_; (with_reducible refine (spec_DiskSame.calls kj2 _ _ t341 _ _ t344 _ _ t331 _ _ t334 t349 _ ?side1 ?side2 ?side3 ?side4 ?side5 ?side6 ?side7 ?side8 A24.out).mono ?_); (case side1 => exact cR HO343); (case side2 => exact (Kd.R_reads' HO343.out).2.1); (case side3 => exact cR HO346); (case side4 => exact (Kd.R_reads' HO346.out).2.1); (case side5 => exact cR HO333); (case side6 => exact (Kd.R_reads' HO333.out).2.1); (case side7 => exact cR HO336); (case side8 => exact (Kd.R_reads' HO336.out).2.1); rintro e w28 ⟨rfl, hb⟩; refine ⟨_, rfl, ?_⟩; have n_ := And.intro (rB HO333 hb) (And.intro (rB HO336 hb) (And.intro (rB HO339 hb) (And.intro (rB HO343 hb) (And.intro (rB HO346 hb) (And.intro (kB BK340 hb) (And.intro (kB BK347 hb) (sB HB hb))))))); clear HO333 HO336 HO339 HO343 HO346 BK340 BK347 HB; obtain ⟨HO333, HO336, HO339, HO343, HO346, BK340, BK347, HB⟩ := n_; (try clear hb)))
     go_ret
     exact ⟨eW, bB⟩
   case rest =>
    clear HC8
    try clear c1
    try clear c2
    try clear p2
    try clear c3
    try clear c4
    try clear c11
    try clear c16
    try clear c18
    try clear c23
    try clear c25
    try clear hcz12_0
    try clear hcz12_1
    try clear hcz19_0
    try clear hcz19_1
    try clear hcz21_0
    try clear hcz21_1
    try clear hcz26_0
    try clear hcz26_1
    try clear hcz27_0
    try clear hcz27_1
    try clear hfz12_0
    try clear hfz12_1
    try clear hfz19_0
    try clear hfz19_1
    try clear hfz21_0
    try clear hfz21_1
    try clear hfz26_0
    try clear hfz26_1
    try clear hfz27_0
    try clear hfz27_1
    try clear p2
    obtain ⟨kq, HA, HJ7, HO_341000, HO_341001, HO_348000, HO_348001, BK340, BK347, HB⟩ := hcut
    cases kq with
    | zero => exact absurd HA.out (by simp [laws_FnFallen.j1])
    | succ kj7 =>
     have H := HA.out
     clear HA
     simp only [laws_FnFallen.j1] at H
     obtain ⟨y350, hy350⟩ : ∃ y_ : List Bool, y_ = (([] : List Bool)) := ⟨_, rfl⟩
     replace H : (laws_FnFallen.l0 kj7 y350 0 t331 t334 t341 t344) = some r := by first | (rw [hy350]; with_reducible exact H) | (have H2_ := (Option.bind_some _ _).symm.trans H; rw [hy350]; with_reducible exact H2_) | (have H2_ := (Option.bind_some _ _).symm.trans H; with_reducible exact H2_) | with_reducible exact H | (rw [hy350]; exact H) | exact H
     have Ny350 := Aside0.mk hy350
     clear hy350
     have H' := Aside0.mk H
     clear H
     go_wp2_with (first | ((with_reducible refine gate_dst (N := 30) rfl ?_); (try (refine gate_guard (by rfl) ?_; dsimp only)); refine Kd.R_lit Kd.bool _ 4 ?hg (N := 30) ?hd (xs := ([] : List Bool)) (inner := []) (ok := fun _ => True) (okp := fun _ => True) ?hr ?hp (fun _ hk => hk) trivial (Below.refl _ _) (Nat.le_refl _) (by simp) ?_; (case hd => rfl); (case hg => rfl); (case hr => first | (go_simp; done) | (go_simp; rfl)); (case hp => exact (Reps.none _ _)); intro v351 w29 ho30 hb hg_ hnew_; clear hg_ hnew_; (first | rw [← Ny350.out] at ho30 | (simp only [Int.reduceToNat] at ho30; rw [← Ny350.out] at ho30)); have n_ := And.intro (rB HO_341000 hb) (And.intro (rB HO_341001 hb) (And.intro (rB HO_348000 hb) (And.intro (rB HO_348001 hb) (And.intro (lR HB ho30) (And.intro (kB BK340 hb) (And.intro (kB BK347 hb) (sB HB hb))))))); clear HO_341000 HO_341001 HO_348000 HO_348001 BK340 BK347 HB; obtain ⟨HO_341000, HO_341001, HO_348000, HO_348001, HO352, BK340, BK347, HB⟩ := n_; (try clear hb ho30)))
     go_loopg [6, 7] kj7 (fun kq v6 v7 w' => ∃ (x6_3 : List Bool) (x7_3 : Int), v7 = .int .i64 x7_3 ∧ Aside0 (laws_FnFallen.l0 kq x6_3 x7_3 t331 t334 t341 t344 = some r) ∧ Aside0 (kq ≤ kj7) ∧ Aside0 (Kd.R Kd.bool 4 w' w.heap.size (fun _ => True) v6 x6_3) ∧ Aside0 (Kd.R Kd.string 9 w' w.heap.size (fun k_ => some k_ ≠ ((.slice Ao17 t341.length co17) : Value).ownBlock) (.slice Ao11 t331.length co11) t331) ∧ Aside0 (Kd.R k65 65 w' w.heap.size (fun k_ => some k_ ≠ ((.slice Ao20 t344.length co20) : Value).ownBlock) (.slice Ao13 t334.length co13) t334) ∧ Aside0 (Kd.R Kd.string 9 w' w.heap.size (fun k_ => some k_ ≠ ((.slice Ao11 t331.length co11) : Value).ownBlock) (.slice Ao17 t341.length co17) t341) ∧ Aside0 (Kd.R k65 65 w' w.heap.size (fun k_ => some k_ ≠ ((.slice Ao13 t334.length co13) : Value).ownBlock) (.slice Ao20 t344.length co20) t344) ∧ Aside0 (w'.heap[gb340]? = some (.cells #[(.slice Ao11 t331.length co11), (.slice Ao13 t334.length co13)] 30 (0, 0))) ∧ Aside0 (w'.heap[gb347]? = some (.cells #[(.slice Ao17 t341.length co17), (.slice Ao20 t344.length co20)] 30 (0, 0))) ∧ Aside0 (Below w.heap.size w w'))
     case atStart => exact ⟨(y350), (0), (by first | rfl | (simp; done) | (simp [*]; done) | (simp; exact (by intro l_; cases l_ <;> rfl : ∀ l_ : List UInt8, l_.isEmpty = !(l_ != [])) _)), H', ⟨Nat.le_refl _⟩, ⟨rP HO352.out⟩, ⟨rP HO_341000.out⟩, ⟨rP HO_341001.out⟩, ⟨rP HO_348000.out⟩, ⟨rP HO_348001.out⟩, ⟨kP BK340⟩, ⟨kP BK347⟩, ⟨bB⟩⟩
     case round =>
      clear H'
      try clear c1
      try clear c2
      try clear p2
      try clear c3
      try clear c4
      try clear c11
      try clear c16
      try clear c18
      try clear c23
      try clear c25
      try clear hcz12_0
      try clear hcz12_1
      try clear hcz19_0
      try clear hcz19_1
      try clear hcz21_0
      try clear hcz21_1
      try clear hcz26_0
      try clear hcz26_1
      try clear hcz27_0
      try clear hcz27_1
      try clear hfz12_0
      try clear hfz12_1
      try clear hfz19_0
      try clear hfz19_1
      try clear hfz21_0
      try clear hfz21_1
      try clear hfz26_0
      try clear hfz26_1
      try clear hfz27_0
      try clear hfz27_1
      try clear p2
      obtain ⟨x6_3, x7_3, rfl, HA, HK3, HO_6, HO_341000, HO_341001, HO_348000, HO_348001, BK340, BK347, HB⟩ := hrel
      cases gk with
      | zero => exact absurd HA.out (by simp [laws_FnFallen.l0])
      | succ k3 =>
       have H := HA.out
       clear HA
       simp only [laws_FnFallen.l0] at H
       by_cases c31 : x7_3 < (t334.length : Int)
       ·rw [if_pos c31] at H
        have c31b0 : decide (x7_3 < (t334.length : Int)) = true := decide_eq_true c31
        clear c31
        by_cases c32 : x6_3.length < 140737488355328
        ·rw [if_pos c32] at H
         have LMc32 := Aside0.mk c32
         clear c32
         obtain ⟨y353, hy353⟩ : ∃ y_ : List Bool, y_ = (x6_3 ++ [true]) := ⟨_, rfl⟩
         replace H : (laws_FnFallen.l0 k3 y353 (wrap64 (x7_3 + 1)) t331 t334 t341 t344) = some r := by first | (rw [hy353]; with_reducible exact H) | (have H2_ := (Option.bind_some _ _).symm.trans H; rw [hy353]; with_reducible exact H2_) | (have H2_ := (Option.bind_some _ _).symm.trans H; with_reducible exact H2_) | with_reducible exact H | (rw [hy353]; exact H) | exact H
         have Ny353 := Aside0.mk hy353
         clear hy353
         have H' := Aside0.mk H
         clear H
         have hnb33 := NB340_347.out
         have hnc33 := NB347_340.out
         have hcz34_0 := cZ0 BK340
         have hcz34_1 := cZ1 BK340
         have hfz34_0 := blk_frozen BK340.out 0
         have hfz34_1 := blk_frozen BK340.out 1
         go_wp2_with (first | ((with_reducible refine gate_builtin (b := .append) (xs := #[.tmp 38, .tmp 39]) rfl ?_); (try (refine gate_guard (by rfl) ?_; dsimp only)); at_builtin; refine Kd.R_append Kd.bool (w0 := w) w.heap.size rfl (.tmp 38) (.tmp 39) 45 4 (.bool false) 1 rfl Try.underlying45 info4 rfl (by decide) (by omega) u6 x6_3 true [.bool true] (fun _ => True) (fun _ => False) rfl rfl ?aP (fun _ hk => hk.elim) ?aF ?aO ?aB ?aS ?aL ?_; (case aP => exact rfl); (case aB => exact bB); (case aF => exact (fun _ _ => trivial)); (case aO => exact (rP HO_6.out)); (case aS => exact (zB HB)); (case aL => have := LMc32.out; omega); intro v354 w35 ho hb hg hat; rw [← Ny353.out] at ho; have n_ := And.intro (Aside0.mk (Kd.R_over' (rP HO_341000.out) (Kd.R_typed (rP HO_6.out)) (by decide) hg)) (And.intro (Aside0.mk (Kd.R_over' (rP HO_341001.out) (Kd.R_typed (rP HO_6.out)) (by decide) hg)) (And.intro (Aside0.mk (Kd.R_over' (rP HO_348000.out) (Kd.R_typed (rP HO_6.out)) (by decide) hg)) (And.intro (Aside0.mk (Kd.R_over' (rP HO_348001.out) (Kd.R_typed (rP HO_6.out)) (by decide) hg)) (And.intro (Aside0.mk (blk_grown (g := gb340) (o := .cells #[.slice Ao11 t331.length co11, .slice Ao13 t334.length co13] 30 (0, 0)) (kP BK340) hg (Kd.R_ne HO_6.out BK340.out (by decide)))) (And.intro (Aside0.mk (blk_grown (g := gb347) (o := .cells #[.slice Ao17 t341.length co17, .slice Ao20 t344.length co20] 30 (0, 0)) (kP BK347) hg (Kd.R_ne HO_6.out BK347.out (by decide)))) (And.intro (Aside0.mk (hb)) (Aside0.mk (ho)))))))); clear HO_341000 HO_341001 HO_348000 HO_348001 BK340 BK347 HB HO_6; obtain ⟨HO_341000, HO_341001, HO_348000, HO_348001, BK340, BK347, HB, HO355⟩ := n_; (try clear ho hb hg hat)))
         go_roundg k3
         case measure => have := HJ2.out; have := HJ7.out; have := HK3.out; omega
         case rel => exact ⟨(y353), (wrap64 (x7_3 + 1)), (by first | rfl | (simp; done) | (simp [*]; done) | (simp; exact (by intro l_; cases l_ <;> rfl : ∀ l_ : List UInt8, l_.isEmpty = !(l_ != [])) _)), H', ⟨by have := HJ2.out; have := HJ7.out; have := HK3.out; omega⟩, ⟨rP HO355.out⟩, ⟨rP HO_341000.out⟩, ⟨rP HO_341001.out⟩, ⟨rP HO_348000.out⟩, ⟨rP HO_348001.out⟩, ⟨kP BK340⟩, ⟨kP BK347⟩, ⟨bB⟩⟩
        ·rw [if_neg c32] at H
         exact absurd H (by simp)
       ·rw [if_neg c31] at H
        have c31b0 : decide (x7_3 < (t334.length : Int)) = false := decide_eq_false c31
        clear c31
        have HC36 := Aside0.mk H
        clear H
        have hnb37 := NB340_347.out
        have hnc37 := NB347_340.out
        have hcz38_0 := cZ0 BK340
        have hcz38_1 := cZ1 BK340
        have hfz38_0 := blk_frozen BK340.out 0
        have hfz38_1 := blk_frozen BK340.out 1
        go_upto_region 12 with (fail)
        go_cut [62] (fun v62 wc => ∃ (kq : Nat) (x62_35 : Bool), v62 = .bool x62_35 ∧ Aside0 (laws_FnFallen.j3 kq x62_35 t331 t334 t341 t344 = some r) ∧ Aside0 (kq ≤ k3) ∧ Aside0 (Kd.R Kd.string 9 wc w.heap.size (fun k_ => some k_ ≠ ((.slice Ao17 t341.length co17) : Value).ownBlock) (.slice Ao11 t331.length co11) t331) ∧ Aside0 (Kd.R k65 65 wc w.heap.size (fun k_ => some k_ ≠ ((.slice Ao20 t344.length co20) : Value).ownBlock) (.slice Ao13 t334.length co13) t334) ∧ Aside0 (Kd.R Kd.string 9 wc w.heap.size (fun k_ => some k_ ≠ ((.slice Ao11 t331.length co11) : Value).ownBlock) (.slice Ao17 t341.length co17) t341) ∧ Aside0 (Kd.R k65 65 wc w.heap.size (fun k_ => some k_ ≠ ((.slice Ao13 t334.length co13) : Value).ownBlock) (.slice Ao20 t344.length co20) t344) ∧ Aside0 (wc.heap[gb340]? = some (.cells #[(.slice Ao11 t331.length co11), (.slice Ao13 t334.length co13)] 30 (0, 0))) ∧ Aside0 (wc.heap[gb347]? = some (.cells #[(.slice Ao17 t341.length co17), (.slice Ao20 t344.length co20)] 30 (0, 0))) ∧ Aside0 (Below w.heap.size w wc))
        case first =>
         have H := HC36.out
         clear HC36
         by_cases c39 : (t341.length : Int) = (t331.length : Int)
         ·rw [if_pos c39] at H
          have c39b0 : ((t341.length : Int) == (t331.length : Int)) = true := beq_iff_eq.mpr c39
          have c39b1 : ((t341.length : Int) != (t331.length : Int)) = false := bne_eq_false_iff_eq.mpr c39
          have c39b2 : (t341.length == t331.length) = true := by first | simpa using c39 | (simp at c39 ⊢; omega)
          clear c39
          (first | rw [c39b0] | (simp only [i64_w, i32_w]; rw [c39b0]) | rw [c39b1] | rw [c39b2] | skip)
          by_cases c40 : (t344.length : Int) = 0
          ·rw [if_pos c40] at H
           have c40b0 : ((t344.length : Int) == 0) = true := beq_iff_eq.mpr c40
           have c40b1 : ((t344.length : Int) != 0) = false := bne_eq_false_iff_eq.mpr c40
           clear c40
           replace H := Option.bind_eq_some_iff.mp H
           obtain ⟨⟨t356, t359⟩, A410, H⟩ := H
           try dsimp only at H
           have A41 := Aside0.mk A410
           clear A410
           replace H := Option.bind_eq_some_iff.mp H
           obtain ⟨⟨t362, t365⟩, A420, H⟩ := H
           try dsimp only at H
           have A42 := Aside0.mk A420
           clear A420
           replace H := Option.bind_eq_some_iff.mp H
           obtain ⟨t368, A430, H⟩ := H
           try dsimp only at H
           have A43 := Aside0.mk A430
           clear A430
           have H' := Aside0.mk H
           clear H
           try go_wp2
           have n0_ := Aside0.mk (Kd.R_drew HO_6.out)
           have n1_ := Aside0.mk (Kd.R_drew HO_341000.out)
           have n2_ := Aside0.mk (Kd.R_drew HO_341001.out)
           have n3_ := Aside0.mk (Kd.R_drew HO_348000.out)
           have n4_ := Aside0.mk (Kd.R_drew HO_348001.out)
           have n5_ := Aside0.mk (blk_drew BK340.out)
           have n6_ := Aside0.mk (blk_drew BK347.out)
           have n7_ := Aside0.mk (below_drew1 HB.out)
           clear HO_6
           clear HO_341000
           clear HO_341001
           clear HO_348000
           clear HO_348001
           clear BK340
           clear BK347
           clear HB
           have HO_6 := n0_
           have HO_341000 := n1_
           have HO_341001 := n2_
           have HO_348000 := n3_
           have HO_348001 := n4_
           have BK340 := n5_
           have BK347 := n6_
           have HB := n7_
           clear n0_ n1_ n2_ n3_ n4_ n5_ n6_ n7_
           obtain ⟨Ao45, co45, eo45⟩ := Kd.R_slice HO_6.out
           (first | subst eo45 | (injection eo45 with f1_ f2_ f3_; have f4_ := f1_.symm; have f5_ := f3_.symm; clear f1_ f2_ f3_; subst f4_; subst f5_))
           refine start_ (n := 22) (S := fun w' => w'.cell? ⟨gb347, 0, none⟩ = some (.slice Ao17 t341.length co17) ∧ w'.cell? ⟨gb347, 1, none⟩ = some (.slice Ao20 t344.length co20) ∧ w'.cell? ⟨gb340, 0, none⟩ = some (.slice Ao11 t331.length co11) ∧ w'.cell? ⟨gb340, 1, none⟩ = some (.slice Ao13 t334.length co13)) (ds := []) #[false, false, false, false, false, false, false, false, false, false, false, false, false, false, false, false, false, false, false, false, false, false] (by kernel_rfl) rfl rfl ⟨(blk_cell BK347.out 0).trans rfl, (blk_cell BK347.out 1).trans rfl, (blk_cell BK340.out 0).trans rfl, (blk_cell BK340.out 1).trans rfl⟩ (fun hHeld => ?_); refine with_tabW laws_FnFallen.tab12 laws_FnFallen.bits12 (fun HT_ HW_ => ?_)
           generalize wr.drew = w44 at HO_6 HO_341000 HO_341001 HO_348000 HO_348001 BK340 BK347 HB hHeld ⊢
           refine pure_ (i := 0) (N := some 41) (v := ?_) (a' := ?_) #[true, false, false, false, false, false, false, false, false, false, false, false, false, false, false, false, false, false, false, false, false, false] rfl rfl (any_of HT_.out (by kernel_rfl)) (fun _ _ _ h => h) (Or.inl ⟨by rfl, ?_⟩) ?_ ?_
           rotate_left
           ·intro w'
            go_simp
            with_reducible rfl
           rotate_left
           ·simp only [Act.put, List.setIfInBounds_toArray, List.set_cons_zero, List.set_cons_succ, i64_w, i32_w]
            rfl
           refine pure_ (i := 3) (N := some 44) (v := ?_) (a' := ?_) #[true, false, false, true, false, false, false, false, false, false, false, false, false, false, false, false, false, false, false, false, false, false] rfl rfl (any_of HT_.out (by kernel_rfl)) (fun _ _ _ h => h) (Or.inl ⟨by rfl, ?_⟩) ?_ ?_
           rotate_left
           ·intro w'
            go_simp
            with_reducible rfl
           rotate_left
           ·simp only [Act.put, List.setIfInBounds_toArray, List.set_cons_zero, List.set_cons_succ, i64_w, i32_w]
            rfl
           refine take_ (i := 1) (N := some 42) (v := ?_) (a' := ?_) #[true, true, false, true, false, false, false, false, false, false, false, false, false, false, false, false, false, false, false, false, false, false] rfl rfl (take_ofW HT_.out HW_.out (by kernel_rfl)) (fun _ _ _ h => h) (Or.inl ⟨by rfl, ?_⟩) hHeld ?_ ?_
           rotate_left
           ·rintro w' ⟨s0, s1, s2, s3⟩
            go_simp
            with_reducible rfl
           rotate_left
           ·simp only [Act.put, List.setIfInBounds_toArray, List.set_cons_zero, List.set_cons_succ, i64_w, i32_w]
            rfl
           refine pure_ (i := 2) (N := some 43) (v := ?_) (a' := ?_) #[true, true, true, true, false, false, false, false, false, false, false, false, false, false, false, false, false, false, false, false, false, false] rfl rfl (any_of HT_.out (by kernel_rfl)) (fun _ _ _ h => h) (Or.inl ⟨by rfl, ?_⟩) ?_ ?_
           rotate_left
           ·intro w'
            go_simp
            with_reducible rfl
           rotate_left
           ·simp only [Act.put, List.setIfInBounds_toArray, List.set_cons_zero, List.set_cons_succ, i64_w, i32_w]
            rfl
           refine take_ (i := 4) (N := some 45) (v := ?_) (a' := ?_) #[true, true, true, true, true, false, false, false, false, false, false, false, false, false, false, false, false, false, false, false, false, false] rfl rfl (take_ofW HT_.out HW_.out (by kernel_rfl)) (fun _ _ _ h => h) (Or.inl ⟨by rfl, ?_⟩) hHeld ?_ ?_
           rotate_left
           ·rintro w' ⟨s0, s1, s2, s3⟩
            go_simp
            with_reducible rfl
           rotate_left
           ·simp only [Act.put, List.setIfInBounds_toArray, List.set_cons_zero, List.set_cons_succ, i64_w, i32_w]
            rfl
           refine pure_ (i := 5) (N := some 46) (v := ?_) (a' := ?_) #[true, true, true, true, true, true, false, false, false, false, false, false, false, false, false, false, false, false, false, false, false, false] rfl rfl (any_of HT_.out (by kernel_rfl)) (fun _ _ _ h => h) (Or.inl ⟨by rfl, ?_⟩) ?_ ?_
           rotate_left
           ·intro w'
            go_simp
            with_reducible rfl
           rotate_left
           ·simp only [Act.put, List.setIfInBounds_toArray, List.set_cons_zero, List.set_cons_succ, i64_w, i32_w]
            rfl
           refine pure_ (i := 6) (N := some 47) (v := ?_) (a' := ?_) #[true, true, true, true, true, true, true, false, false, false, false, false, false, false, false, false, false, false, false, false, false, false] rfl rfl (any_of HT_.out (by kernel_rfl)) (fun _ _ _ h => h) (Or.inl ⟨by rfl, ?_⟩) ?_ ?_
           rotate_left
           ·intro w'
            go_simp
            with_reducible rfl
           rotate_left
           ·simp only [Act.put, List.setIfInBounds_toArray, List.set_cons_zero, List.set_cons_succ, i64_w, i32_w]
            rfl
           refine pure_ (i := 7) (N := some 48) (v := ?_) (a' := ?_) #[true, true, true, true, true, true, true, true, false, false, false, false, false, false, false, false, false, false, false, false, false, false] rfl rfl (any_of HT_.out (by kernel_rfl)) (fun _ _ _ h => h) (Or.inl ⟨by rfl, ?_⟩) ?_ ?_
           rotate_left
           ·intro w'
            go_simp
            with_reducible rfl
           rotate_left
           ·simp only [Act.put, List.setIfInBounds_toArray, List.set_cons_zero, List.set_cons_succ, i64_w, i32_w]
            rfl
           refine pure_ (i := 8) (N := some 49) (v := ?_) (a' := ?_) #[true, true, true, true, true, true, true, true, true, false, false, false, false, false, false, false, false, false, false, false, false, false] rfl rfl (any_of HT_.out (by kernel_rfl)) (fun _ _ _ h => h) (Or.inl ⟨by rfl, ?_⟩) ?_ ?_
           rotate_left
           ·intro w'
            go_simp
            with_reducible rfl
           rotate_left
           ·simp only [Act.put, List.setIfInBounds_toArray, List.set_cons_zero, List.set_cons_succ, i64_w, i32_w]
            rfl
           refine take_ (i := 9) (N := some 50) (v := ?_) (a' := ?_) #[true, true, true, true, true, true, true, true, true, true, false, false, false, false, false, false, false, false, false, false, false, false] rfl rfl (take_ofW HT_.out HW_.out (by kernel_rfl)) (fun _ _ _ h => h) (Or.inl ⟨by rfl, ?_⟩) hHeld ?_ ?_
           rotate_left
           ·rintro w' ⟨s0, s1, s2, s3⟩
            go_simp
            with_reducible rfl
           rotate_left
           ·simp only [Act.put, List.setIfInBounds_toArray, List.set_cons_zero, List.set_cons_succ, i64_w, i32_w]
            rfl
           refine pure_ (i := 10) (N := some 51) (v := ?_) (a' := ?_) #[true, true, true, true, true, true, true, true, true, true, true, false, false, false, false, false, false, false, false, false, false, false] rfl rfl (any_of HT_.out (by kernel_rfl)) (fun _ _ _ h => h) (Or.inl ⟨by rfl, ?_⟩) ?_ ?_
           rotate_left
           ·intro w'
            go_simp
            with_reducible rfl
           rotate_left
           ·simp only [Act.put, List.setIfInBounds_toArray, List.set_cons_zero, List.set_cons_succ, i64_w, i32_w]
            rfl
           refine pure_ (i := 11) (N := some 52) (v := ?_) (a' := ?_) #[true, true, true, true, true, true, true, true, true, true, true, true, false, false, false, false, false, false, false, false, false, false] rfl rfl (any_of HT_.out (by kernel_rfl)) (fun _ _ _ h => h) (Or.inl ⟨by rfl, ?_⟩) ?_ ?_
           rotate_left
           ·intro w'
            go_simp
            with_reducible rfl
           rotate_left
           ·simp only [Act.put, List.setIfInBounds_toArray, List.set_cons_zero, List.set_cons_succ, i64_w, i32_w]
            rfl
           refine pure_ (i := 12) (N := some 53) (v := ?_) (a' := ?_) #[true, true, true, true, true, true, true, true, true, true, true, true, true, false, false, false, false, false, false, false, false, false] rfl rfl (any_of HT_.out (by kernel_rfl)) (fun _ _ _ h => h) (Or.inl ⟨by rfl, ?_⟩) ?_ ?_
           rotate_left
           ·intro w'
            go_simp
            with_reducible rfl
           rotate_left
           ·simp only [Act.put, List.setIfInBounds_toArray, List.set_cons_zero, List.set_cons_succ, i64_w, i32_w]
            rfl
           refine pure_ (i := 13) (N := some 54) (v := ?_) (a' := ?_) #[true, true, true, true, true, true, true, true, true, true, true, true, true, true, false, false, false, false, false, false, false, false] rfl rfl (any_of HT_.out (by kernel_rfl)) (fun _ _ _ h => h) (Or.inl ⟨by rfl, ?_⟩) ?_ ?_
           rotate_left
           ·intro w'
            go_simp
            with_reducible rfl
           rotate_left
           ·simp only [Act.put, List.setIfInBounds_toArray, List.set_cons_zero, List.set_cons_succ, i64_w, i32_w]
            rfl
           refine pure_ (i := 15) (N := some 56) (v := ?_) (a' := ?_) #[true, true, true, true, true, true, true, true, true, true, true, true, true, true, false, true, false, false, false, false, false, false] rfl rfl (any_of HT_.out (by kernel_rfl)) (fun _ _ _ h => h) (Or.inl ⟨by rfl, ?_⟩) ?_ ?_
           rotate_left
           ·intro w'
            go_simp
            with_reducible rfl
           rotate_left
           ·simp only [Act.put, List.setIfInBounds_toArray, List.set_cons_zero, List.set_cons_succ, i64_w, i32_w]
            rfl
           refine take_ (i := 14) (N := some 55) (v := ?_) (a' := ?_) #[true, true, true, true, true, true, true, true, true, true, true, true, true, true, true, true, false, false, false, false, false, false] rfl rfl (take_ofW HT_.out HW_.out (by kernel_rfl)) (fun _ _ _ h => h) (Or.inl ⟨by rfl, ?_⟩) hHeld ?_ ?_
           rotate_left
           ·rintro w' ⟨s0, s1, s2, s3⟩
            go_simp
            with_reducible rfl
           rotate_left
           ·simp only [Act.put, List.setIfInBounds_toArray, List.set_cons_zero, List.set_cons_succ, i64_w, i32_w]
            rfl
           refine take_ (i := 17) (N := some 58) (v := ?_) (a' := ?_) #[true, true, true, true, true, true, true, true, true, true, true, true, true, true, true, true, false, true, false, false, false, false] rfl rfl (take_ofW HT_.out HW_.out (by kernel_rfl)) (fun _ _ _ h => h) (Or.inl ⟨by rfl, ?_⟩) hHeld ?_ ?_
           rotate_left
           ·rintro w' ⟨s0, s1, s2, s3⟩
            go_simp
            with_reducible rfl
           rotate_left
           ·simp only [Act.put, List.setIfInBounds_toArray, List.set_cons_zero, List.set_cons_succ, i64_w, i32_w]
            rfl
           refine one_ (i := 16) (N := some 57) #[true, true, true, true, true, true, true, true, true, true, true, true, true, true, true, true, true, true, false, false, false, false] rfl rfl (one_of HT_.out (by kernel_rfl)) (by decide) (fun K hK => ?_)
           refine goes_ Try.func35 (by kernel_rfl) rfl #[.agg #[.slice Ao11 t331.length co11, .slice Ao13 t334.length co13], .slice Ao45 x6_3.length co45] (by rfl) rfl rfl (by (try simp only [List.map_toArray, List.map_cons, List.map_nil]); first | done | rfl | (simp only [List.length_drop, List.length_take]; rfl)) ?_
           with_reducible refine (impl_Fall.calls k3 _ _ t331 _ _ t334 _ _ x6_3 t356 t359 _ ?side1 ?side2 ?side3 ?side4 ?side5 ?side6 A41.out).mono ?_
           (case side1 => exact cR HO_341000)
           (case side2 => exact (Kd.R_reads' HO_341000.out).2.1)
           (case side3 => exact cR HO_341001)
           (case side4 => exact (Kd.R_reads' HO_341001.out).2.1)
           (case side5 => exact cR HO_6)
           (case side6 => exact (Kd.R_reads' HO_6.out).2.1)
           rintro e w46 ⟨v357, v360, rfl, ho0, ho1, hb⟩
           refine ⟨_, rfl, ?_⟩
           have n0_ := rB HO_6 hb
           have n1_ := eR HO_341000 ho0 hb
           have n2_ := eR HO_341001 ho1 hb
           have n3_ := eR HO_348000 ho0 hb
           have n4_ := eR HO_348001 ho1 hb
           have n5_ := Aside0.mk (Kd.R_lower (Kd.R_new' (Kd.R_new' ho0 (rL HO_341000)) (rL HO_348000)) (zB HB))
           have n6_ := Aside0.mk (Kd.R_lower (Kd.R_new' (Kd.R_new' ho1 (rL HO_341001)) (rL HO_348001)) (zB HB))
           have n7_ := kB BK340 hb
           have n8_ := kB BK347 hb
           have n9_ := sB HB hb
           clear HO_6
           clear HO_341000
           clear HO_341001
           clear HO_348000
           clear HO_348001
           clear BK340
           clear BK347
           clear HB
           have HO_6 := n0_
           have HO_341000 := n1_
           have HO_341001 := n2_
           have HO_348000 := n3_
           have HO_348001 := n4_
           have HO358 := n5_
           have HO361 := n6_
           have BK340 := n7_
           have BK347 := n8_
           have HB := n9_
           clear n0_ n1_ n2_ n3_ n4_ n5_ n6_ n7_ n8_ n9_
           (try clear hb)
           (try clear hb2)
           (try clear hk)
           (try clear hi)
           (try clear ho0)
           (try clear ho1)
           refine hK.out _ _ ⟨(blk_cell BK347.out 0).trans rfl, (blk_cell BK347.out 1).trans rfl, (blk_cell BK340.out 0).trans rfl, (blk_cell BK340.out 1).trans rfl⟩ (fun hHeld => ?_)
           clear hK K
           refine norm_ (a' := ?_) ?_ ?_
           rotate_left
           ·show Act.put _ (some 57) _ = _
            simp only [Act.put, List.setIfInBounds_toArray, List.set_cons_zero, List.set_cons_succ, i64_w, i32_w]
            rfl
           refine one_ (i := 18) (N := some 59) #[true, true, true, true, true, true, true, true, true, true, true, true, true, true, true, true, true, true, true, false, false, false] rfl rfl (one_of HT_.out (by kernel_rfl)) (by decide) (fun K hK => ?_)
           refine goes_ Try.func32 (by kernel_rfl) rfl #[.agg #[.slice Ao11 t331.length co11, .slice Ao13 t334.length co13]] (by rfl) rfl rfl (by (try simp only [List.map_toArray, List.map_cons, List.map_nil]); first | done | rfl | (simp only [List.length_drop, List.length_take]; rfl)) ?_
           with_reducible refine (impl_Flush.calls k3 _ _ t331 _ _ t334 t362 t365 _ ?side1 ?side2 ?side3 ?side4 A42.out).mono ?_
           (case side1 => exact cR HO_341000)
           (case side2 => exact (Kd.R_reads' HO_341000.out).2.1)
           (case side3 => exact cR HO_341001)
           (case side4 => exact (Kd.R_reads' HO_341001.out).2.1)
           rintro e w47 ⟨v363, v366, rfl, ho0, ho1, hb⟩
           refine ⟨_, rfl, ?_⟩
           have n0_ := rB HO_6 hb
           have n1_ := eR HO_341000 ho0 hb
           have n2_ := eR HO_341001 ho1 hb
           have n3_ := eR HO_348000 ho0 hb
           have n4_ := eR HO_348001 ho1 hb
           have n5_ := eR HO358 ho0 hb
           have n6_ := eR HO361 ho1 hb
           have n7_ := Aside0.mk (Kd.R_lower (Kd.R_new' (Kd.R_new' (Kd.R_new' ho0 (rL HO_341000)) (rL HO_348000)) (rL HO358)) (zB HB))
           have n8_ := Aside0.mk (Kd.R_lower (Kd.R_new' (Kd.R_new' (Kd.R_new' ho1 (rL HO_341001)) (rL HO_348001)) (rL HO361)) (zB HB))
           have n9_ := kB BK340 hb
           have n10_ := kB BK347 hb
           have n11_ := sB HB hb
           clear HO_6
           clear HO_341000
           clear HO_341001
           clear HO_348000
           clear HO_348001
           clear HO358
           clear HO361
           clear BK340
           clear BK347
           clear HB
           have HO_6 := n0_
           have HO_341000 := n1_
           have HO_341001 := n2_
           have HO_348000 := n3_
           have HO_348001 := n4_
           have HO358 := n5_
           have HO361 := n6_
           have HO364 := n7_
           have HO367 := n8_
           have BK340 := n9_
           have BK347 := n10_
           have HB := n11_
           clear n0_ n1_ n2_ n3_ n4_ n5_ n6_ n7_ n8_ n9_ n10_ n11_
           (try clear hb)
           (try clear hb2)
           (try clear hk)
           (try clear hi)
           (try clear ho0)
           (try clear ho1)
           obtain ⟨Ao48, co48, eo48⟩ := Kd.R_slice HO358.out
           (first | subst eo48 | (injection eo48 with f1_ f2_ f3_; have f4_ := f1_.symm; have f5_ := f3_.symm; clear f1_ f2_ f3_; subst f4_; subst f5_))
           obtain ⟨Ao49, co49, eo49⟩ := Kd.R_slice HO361.out
           (first | subst eo49 | (injection eo49 with f1_ f2_ f3_; have f4_ := f1_.symm; have f5_ := f3_.symm; clear f1_ f2_ f3_; subst f4_; subst f5_))
           obtain ⟨Ao50, co50, eo50⟩ := Kd.R_slice HO364.out
           (first | subst eo50 | (injection eo50 with f1_ f2_ f3_; have f4_ := f1_.symm; have f5_ := f3_.symm; clear f1_ f2_ f3_; subst f4_; subst f5_))
           obtain ⟨Ao51, co51, eo51⟩ := Kd.R_slice HO367.out
           (first | subst eo51 | (injection eo51 with f1_ f2_ f3_; have f4_ := f1_.symm; have f5_ := f3_.symm; clear f1_ f2_ f3_; subst f4_; subst f5_))
           refine hK.out _ _ ⟨(blk_cell BK347.out 0).trans rfl, (blk_cell BK347.out 1).trans rfl, (blk_cell BK340.out 0).trans rfl, (blk_cell BK340.out 1).trans rfl⟩ (fun hHeld => ?_)
           clear hK K
           refine norm_ (a' := ?_) ?_ ?_
           rotate_left
           ·show Act.put _ (some 59) _ = _
            simp only [Act.put, List.setIfInBounds_toArray, List.set_cons_zero, List.set_cons_succ, i64_w, i32_w]
            rfl
           refine one_ (i := 19) (N := some 60) #[true, true, true, true, true, true, true, true, true, true, true, true, true, true, true, true, true, true, true, true, false, false] rfl rfl (one_of HT_.out (by kernel_rfl)) (by decide) (fun K hK => ?_)
           refine goes_ Try.func49 (by kernel_rfl) rfl #[.agg #[.slice Ao48 t356.length co48, .slice Ao49 t359.length co49], .agg #[.slice Ao50 t362.length co50, .slice Ao51 t365.length co51]] (by rfl) rfl rfl (by (try simp only [List.map_toArray, List.map_cons, List.map_nil]); first | done | rfl | (simp only [List.length_drop, List.length_take]; rfl)) ?_
           with_reducible refine (impl_DiskSame.calls k3 _ _ t356 _ _ t359 _ _ t362 _ _ t365 t368 _ ?side1 ?side2 ?side3 ?side4 ?side5 ?side6 ?side7 ?side8 A43.out).mono ?_
           (case side1 => exact cR HO358)
           (case side2 => exact (Kd.R_reads' HO358.out).2.1)
           (case side3 => exact cR HO361)
           (case side4 => exact (Kd.R_reads' HO361.out).2.1)
           (case side5 => exact cR HO364)
           (case side6 => exact (Kd.R_reads' HO364.out).2.1)
           (case side7 => exact cR HO367)
           (case side8 => exact (Kd.R_reads' HO367.out).2.1)
           rintro e w52 ⟨rfl, hb⟩
           refine ⟨_, rfl, ?_⟩
           have n0_ := rB HO_6 hb
           have n1_ := rB HO_341000 hb
           have n2_ := rB HO_341001 hb
           have n3_ := rB HO_348000 hb
           have n4_ := rB HO_348001 hb
           have n5_ := rB HO358 hb
           have n6_ := rB HO361 hb
           have n7_ := rB HO364 hb
           have n8_ := rB HO367 hb
           have n9_ := kB BK340 hb
           have n10_ := kB BK347 hb
           have n11_ := sB HB hb
           clear HO_6
           clear HO_341000
           clear HO_341001
           clear HO_348000
           clear HO_348001
           clear HO358
           clear HO361
           clear HO364
           clear HO367
           clear BK340
           clear BK347
           clear HB
           have HO_6 := n0_
           have HO_341000 := n1_
           have HO_341001 := n2_
           have HO_348000 := n3_
           have HO_348001 := n4_
           have HO358 := n5_
           have HO361 := n6_
           have HO364 := n7_
           have HO367 := n8_
           have BK340 := n9_
           have BK347 := n10_
           have HB := n11_
           clear n0_ n1_ n2_ n3_ n4_ n5_ n6_ n7_ n8_ n9_ n10_ n11_
           (try clear hb)
           (try clear hb2)
           (try clear hk)
           (try clear hi)
           refine hK.out _ _ ⟨(blk_cell BK347.out 0).trans rfl, (blk_cell BK347.out 1).trans rfl, (blk_cell BK340.out 0).trans rfl, (blk_cell BK340.out 1).trans rfl⟩ (fun hHeld => ?_)
           clear hK K
           refine norm_ (a' := ?_) ?_ ?_
           rotate_left
           ·show Act.put _ (some 60) _ = _
            simp only [Act.put, List.setIfInBounds_toArray, List.set_cons_zero, List.set_cons_succ, i64_w, i32_w]
            rfl
           refine pure_ (i := 20) (N := some 61) (v := ?_) (a' := ?_) #[true, true, true, true, true, true, true, true, true, true, true, true, true, true, true, true, true, true, true, true, true, false] rfl rfl (any_of HT_.out (by kernel_rfl)) (fun _ _ _ h => h) (Or.inl ⟨by rfl, ?_⟩) ?_ ?_
           rotate_left
           ·intro w'
            go_simp
            with_reducible rfl
           rotate_left
           ·simp only [Act.put, List.setIfInBounds_toArray, List.set_cons_zero, List.set_cons_succ, i64_w, i32_w]
            rfl
           refine pure_ (i := 21) (N := some 62) (v := ?_) (a' := ?_) #[true, true, true, true, true, true, true, true, true, true, true, true, true, true, true, true, true, true, true, true, true, true] rfl rfl (any_of HT_.out (by kernel_rfl)) (fun _ _ _ h => h) (Or.inl ⟨by rfl, ?_⟩) ?_ ?_
           rotate_left
           ·intro w'
            go_simp
            with_reducible rfl
           rotate_left
           ·simp only [Act.put, List.setIfInBounds_toArray, List.set_cons_zero, List.set_cons_succ, i64_w, i32_w]
            rfl
           refine done_ (done_of HT_.out (by kernel_rfl)) ?_
           try go_wp2
           go_meet
           case rel => exact ⟨_, (!t368), (by first | rfl | (simp; done) | (simp [*]; done) | (simp; exact (by intro l_; cases l_ <;> rfl : ∀ l_ : List UInt8, l_.isEmpty = !(l_ != [])) _)), H', ⟨by have := HJ2.out; have := HJ7.out; have := HK3.out; first | omega | exact Nat.le_refl _⟩, ⟨rP (Kd.R_mono HO_341000.out (fun _ hk => hk.1.1))⟩, ⟨rP (Kd.R_mono HO_341001.out (fun _ hk => hk.1.1))⟩, ⟨rP (Kd.R_mono HO_348000.out (fun _ hk => hk.1.1))⟩, ⟨rP (Kd.R_mono HO_348001.out (fun _ hk => hk.1.1))⟩, ⟨kP BK340⟩, ⟨kP BK347⟩, ⟨bB⟩⟩
          ·rw [if_neg c40] at H
           have c40b0 : ((t344.length : Int) == 0) = false := beq_eq_false_iff_ne.mpr c40
           have c40b1 : ((t344.length : Int) != 0) = true := bne_iff_ne.mpr c40
           have c40b2 : ¬ (t344 = []) := fun h_ => c40 (by rw [h_]; rfl)
           have H' := Aside0.mk H
           clear H
           try go_wp2
           have n0_ := Aside0.mk (Kd.R_drew HO_6.out)
           have n1_ := Aside0.mk (Kd.R_drew HO_341000.out)
           have n2_ := Aside0.mk (Kd.R_drew HO_341001.out)
           have n3_ := Aside0.mk (Kd.R_drew HO_348000.out)
           have n4_ := Aside0.mk (Kd.R_drew HO_348001.out)
           have n5_ := Aside0.mk (blk_drew BK340.out)
           have n6_ := Aside0.mk (blk_drew BK347.out)
           have n7_ := Aside0.mk (below_drew1 HB.out)
           clear HO_6
           clear HO_341000
           clear HO_341001
           clear HO_348000
           clear HO_348001
           clear BK340
           clear BK347
           clear HB
           have HO_6 := n0_
           have HO_341000 := n1_
           have HO_341001 := n2_
           have HO_348000 := n3_
           have HO_348001 := n4_
           have BK340 := n5_
           have BK347 := n6_
           have HB := n7_
           clear n0_ n1_ n2_ n3_ n4_ n5_ n6_ n7_
           refine start_ (n := 22) (S := fun w' => w'.cell? ⟨gb347, 0, none⟩ = some (.slice Ao17 t341.length co17) ∧ w'.cell? ⟨gb347, 1, none⟩ = some (.slice Ao20 t344.length co20) ∧ w'.cell? ⟨gb340, 0, none⟩ = some (.slice Ao11 t331.length co11) ∧ w'.cell? ⟨gb340, 1, none⟩ = some (.slice Ao13 t334.length co13)) (ds := []) #[false, false, false, false, false, false, false, false, false, false, false, false, false, false, false, false, false, false, false, false, false, false] (by kernel_rfl) rfl rfl ⟨(blk_cell BK347.out 0).trans rfl, (blk_cell BK347.out 1).trans rfl, (blk_cell BK340.out 0).trans rfl, (blk_cell BK340.out 1).trans rfl⟩ (fun hHeld => ?_); refine with_tabW laws_FnFallen.tab12 laws_FnFallen.bits12 (fun HT_ HW_ => ?_)
           generalize wr.drew = w53 at HO_6 HO_341000 HO_341001 HO_348000 HO_348001 BK340 BK347 HB hHeld ⊢
           refine pure_ (i := 0) (N := some 41) (v := ?_) (a' := ?_) #[true, false, false, false, false, false, false, false, false, false, false, false, false, false, false, false, false, false, false, false, false, false] rfl rfl (any_of HT_.out (by kernel_rfl)) (fun _ _ _ h => h) (Or.inl ⟨by rfl, ?_⟩) ?_ ?_
           rotate_left
           ·intro w'
            go_simp
            with_reducible rfl
           rotate_left
           ·simp only [Act.put, List.setIfInBounds_toArray, List.set_cons_zero, List.set_cons_succ, i64_w, i32_w]
            rfl
           refine pure_ (i := 3) (N := some 44) (v := ?_) (a' := ?_) #[true, false, false, true, false, false, false, false, false, false, false, false, false, false, false, false, false, false, false, false, false, false] rfl rfl (any_of HT_.out (by kernel_rfl)) (fun _ _ _ h => h) (Or.inl ⟨by rfl, ?_⟩) ?_ ?_
           rotate_left
           ·intro w'
            go_simp
            with_reducible rfl
           rotate_left
           ·simp only [Act.put, List.setIfInBounds_toArray, List.set_cons_zero, List.set_cons_succ, i64_w, i32_w]
            rfl
           refine take_ (i := 1) (N := some 42) (v := ?_) (a' := ?_) #[true, true, false, true, false, false, false, false, false, false, false, false, false, false, false, false, false, false, false, false, false, false] rfl rfl (take_ofW HT_.out HW_.out (by kernel_rfl)) (fun _ _ _ h => h) (Or.inl ⟨by rfl, ?_⟩) hHeld ?_ ?_
           rotate_left
           ·rintro w' ⟨s0, s1, s2, s3⟩
            go_simp
            with_reducible rfl
           rotate_left
           ·simp only [Act.put, List.setIfInBounds_toArray, List.set_cons_zero, List.set_cons_succ, i64_w, i32_w]
            rfl
           refine pure_ (i := 2) (N := some 43) (v := ?_) (a' := ?_) #[true, true, true, true, false, false, false, false, false, false, false, false, false, false, false, false, false, false, false, false, false, false] rfl rfl (any_of HT_.out (by kernel_rfl)) (fun _ _ _ h => h) (Or.inl ⟨by rfl, ?_⟩) ?_ ?_
           rotate_left
           ·intro w'
            go_simp
            with_reducible rfl
           rotate_left
           ·simp only [Act.put, List.setIfInBounds_toArray, List.set_cons_zero, List.set_cons_succ, i64_w, i32_w]
            rfl
           refine take_ (i := 4) (N := some 45) (v := ?_) (a' := ?_) #[true, true, true, true, true, false, false, false, false, false, false, false, false, false, false, false, false, false, false, false, false, false] rfl rfl (take_ofW HT_.out HW_.out (by kernel_rfl)) (fun _ _ _ h => h) (Or.inl ⟨by rfl, ?_⟩) hHeld ?_ ?_
           rotate_left
           ·rintro w' ⟨s0, s1, s2, s3⟩
            go_simp
            with_reducible rfl
           rotate_left
           ·simp only [Act.put, List.setIfInBounds_toArray, List.set_cons_zero, List.set_cons_succ, i64_w, i32_w]
            rfl
           refine pure_ (i := 5) (N := some 46) (v := ?_) (a' := ?_) #[true, true, true, true, true, true, false, false, false, false, false, false, false, false, false, false, false, false, false, false, false, false] rfl rfl (any_of HT_.out (by kernel_rfl)) (fun _ _ _ h => h) (Or.inl ⟨by rfl, ?_⟩) ?_ ?_
           rotate_left
           ·intro w'
            go_simp
            with_reducible rfl
           rotate_left
           ·simp only [Act.put, List.setIfInBounds_toArray, List.set_cons_zero, List.set_cons_succ, i64_w, i32_w]
            rfl
           refine pure_ (i := 6) (N := some 47) (v := ?_) (a' := ?_) #[true, true, true, true, true, true, true, false, false, false, false, false, false, false, false, false, false, false, false, false, false, false] rfl rfl (any_of HT_.out (by kernel_rfl)) (fun _ _ _ h => h) (Or.inl ⟨by rfl, ?_⟩) ?_ ?_
           rotate_left
           ·intro w'
            go_simp
            with_reducible rfl
           rotate_left
           ·simp only [Act.put, List.setIfInBounds_toArray, List.set_cons_zero, List.set_cons_succ, i64_w, i32_w]
            rfl
           refine pure_ (i := 7) (N := some 48) (v := ?_) (a' := ?_) #[true, true, true, true, true, true, true, true, false, false, false, false, false, false, false, false, false, false, false, false, false, false] rfl rfl (any_of HT_.out (by kernel_rfl)) (fun _ _ _ h => h) (Or.inl ⟨by rfl, ?_⟩) ?_ ?_
           rotate_left
           ·intro w'
            go_simp
            with_reducible rfl
           rotate_left
           ·simp only [Act.put, List.setIfInBounds_toArray, List.set_cons_zero, List.set_cons_succ, i64_w, i32_w]
            rfl
           refine pure_ (i := 8) (N := some 49) (v := ?_) (a' := ?_) #[true, true, true, true, true, true, true, true, true, false, false, false, false, false, false, false, false, false, false, false, false, false] rfl rfl (any_of HT_.out (by kernel_rfl)) (fun _ _ _ h => h) (Or.inl ⟨by rfl, ?_⟩) ?_ ?_
           rotate_left
           ·intro w'
            go_simp
            with_reducible rfl
           rotate_left
           ·simp only [Act.put, List.setIfInBounds_toArray, List.set_cons_zero, List.set_cons_succ, i64_w, i32_w]
            rfl
           refine take_ (i := 9) (N := some 50) (v := ?_) (a' := ?_) #[true, true, true, true, true, true, true, true, true, true, false, false, false, false, false, false, false, false, false, false, false, false] rfl rfl (take_ofW HT_.out HW_.out (by kernel_rfl)) (fun _ _ _ h => h) (Or.inl ⟨by rfl, ?_⟩) hHeld ?_ ?_
           rotate_left
           ·rintro w' ⟨s0, s1, s2, s3⟩
            go_simp
            with_reducible rfl
           rotate_left
           ·simp only [Act.put, List.setIfInBounds_toArray, List.set_cons_zero, List.set_cons_succ, i64_w, i32_w]
            rfl
           refine pure_ (i := 10) (N := some 51) (v := ?_) (a' := ?_) #[true, true, true, true, true, true, true, true, true, true, true, false, false, false, false, false, false, false, false, false, false, false] rfl rfl (any_of HT_.out (by kernel_rfl)) (fun _ _ _ h => h) (Or.inl ⟨by rfl, ?_⟩) ?_ ?_
           rotate_left
           ·intro w'
            go_simp
            with_reducible rfl
           rotate_left
           ·simp only [Act.put, List.setIfInBounds_toArray, List.set_cons_zero, List.set_cons_succ, i64_w, i32_w]
            rfl
           refine pure_ (i := 11) (N := some 52) (v := ?_) (a' := ?_) #[true, true, true, true, true, true, true, true, true, true, true, true, false, false, false, false, false, false, false, false, false, false] rfl rfl (any_of HT_.out (by kernel_rfl)) (fun _ _ _ h => h) (Or.inl ⟨by rfl, ?_⟩) ?_ ?_
           rotate_left
           ·intro w'
            go_simp
            with_reducible rfl
           rotate_left
           ·simp only [Act.put, List.setIfInBounds_toArray, List.set_cons_zero, List.set_cons_succ, i64_w, i32_w]
            rfl
           refine pure_ (i := 12) (N := some 53) (v := ?_) (a' := ?_) #[true, true, true, true, true, true, true, true, true, true, true, true, true, false, false, false, false, false, false, false, false, false] rfl rfl (any_of HT_.out (by kernel_rfl)) (fun _ _ _ h => h) (Or.inl ⟨by rfl, ?_⟩) ?_ ?_
           rotate_left
           ·intro w'
            go_simp
            with_reducible rfl
           rotate_left
           ·simp only [Act.put, List.setIfInBounds_toArray, List.set_cons_zero, List.set_cons_succ, i64_w, i32_w]
            rfl
           refine pure_ (i := 13) (N := some 54) (v := ?_) (a' := ?_) #[true, true, true, true, true, true, true, true, true, true, true, true, true, true, false, false, false, false, false, false, false, false] rfl rfl (any_of HT_.out (by kernel_rfl)) (fun _ _ _ h => h) (Or.inl ⟨by rfl, ?_⟩) ?_ ?_
           rotate_left
           ·intro w'
            go_simp
            with_reducible rfl
           rotate_left
           ·simp only [Act.put, List.setIfInBounds_toArray, List.set_cons_zero, List.set_cons_succ, i64_w, i32_w]
            rfl
           refine pure_ (i := 14) (N := some 55) (v := undef) (a' := ?_) #[true, true, true, true, true, true, true, true, true, true, true, true, true, true, true, false, false, false, false, false, false, false] rfl rfl (any_of HT_.out (by kernel_rfl)) (fun _ _ _ h => h) (Or.inr ⟨by rfl, rfl⟩) ?_ ?_
           rotate_left
           ·simp only [Act.put, List.setIfInBounds_toArray, List.set_cons_zero, List.set_cons_succ, i64_w, i32_w]
            rfl
           refine pure_ (i := 15) (N := some 56) (v := undef) (a' := ?_) #[true, true, true, true, true, true, true, true, true, true, true, true, true, true, true, true, false, false, false, false, false, false] rfl rfl (any_of HT_.out (by kernel_rfl)) (fun _ _ _ h => h) (Or.inr ⟨by rfl, rfl⟩) ?_ ?_
           rotate_left
           ·simp only [Act.put, List.setIfInBounds_toArray, List.set_cons_zero, List.set_cons_succ, i64_w, i32_w]
            rfl
           refine pure_ (i := 16) (N := some 57) (v := undef) (a' := ?_) #[true, true, true, true, true, true, true, true, true, true, true, true, true, true, true, true, true, false, false, false, false, false] rfl rfl (any_of HT_.out (by kernel_rfl)) (fun _ _ _ h => h) (Or.inr ⟨by rfl, rfl⟩) ?_ ?_
           rotate_left
           ·simp only [Act.put, List.setIfInBounds_toArray, List.set_cons_zero, List.set_cons_succ, i64_w, i32_w]
            rfl
           refine pure_ (i := 17) (N := some 58) (v := undef) (a' := ?_) #[true, true, true, true, true, true, true, true, true, true, true, true, true, true, true, true, true, true, false, false, false, false] rfl rfl (any_of HT_.out (by kernel_rfl)) (fun _ _ _ h => h) (Or.inr ⟨by rfl, rfl⟩) ?_ ?_
           rotate_left
           ·simp only [Act.put, List.setIfInBounds_toArray, List.set_cons_zero, List.set_cons_succ, i64_w, i32_w]
            rfl
           refine pure_ (i := 18) (N := some 59) (v := undef) (a' := ?_) #[true, true, true, true, true, true, true, true, true, true, true, true, true, true, true, true, true, true, true, false, false, false] rfl rfl (any_of HT_.out (by kernel_rfl)) (fun _ _ _ h => h) (Or.inr ⟨by rfl, rfl⟩) ?_ ?_
           rotate_left
           ·simp only [Act.put, List.setIfInBounds_toArray, List.set_cons_zero, List.set_cons_succ, i64_w, i32_w]
            rfl
           refine pure_ (i := 19) (N := some 60) (v := undef) (a' := ?_) #[true, true, true, true, true, true, true, true, true, true, true, true, true, true, true, true, true, true, true, true, false, false] rfl rfl (any_of HT_.out (by kernel_rfl)) (fun _ _ _ h => h) (Or.inr ⟨by rfl, rfl⟩) ?_ ?_
           rotate_left
           ·simp only [Act.put, List.setIfInBounds_toArray, List.set_cons_zero, List.set_cons_succ, i64_w, i32_w]
            rfl
           refine pure_ (i := 20) (N := some 61) (v := undef) (a' := ?_) #[true, true, true, true, true, true, true, true, true, true, true, true, true, true, true, true, true, true, true, true, true, false] rfl rfl (any_of HT_.out (by kernel_rfl)) (fun _ _ _ h => h) (Or.inr ⟨by rfl, rfl⟩) ?_ ?_
           rotate_left
           ·simp only [Act.put, List.setIfInBounds_toArray, List.set_cons_zero, List.set_cons_succ, i64_w, i32_w]
            rfl
           refine pure_ (i := 21) (N := some 62) (v := ?_) (a' := ?_) #[true, true, true, true, true, true, true, true, true, true, true, true, true, true, true, true, true, true, true, true, true, true] rfl rfl (any_of HT_.out (by kernel_rfl)) (fun _ _ _ h => h) (Or.inl ⟨by rfl, ?_⟩) ?_ ?_
           rotate_left
           ·intro w'
            go_simp
            with_reducible rfl
           rotate_left
           ·simp only [Act.put, List.setIfInBounds_toArray, List.set_cons_zero, List.set_cons_succ, i64_w, i32_w]
            rfl
           refine done_ (done_of HT_.out (by kernel_rfl)) ?_
           try go_wp2
           go_meet
           case rel => exact ⟨_, (true), (by first | rfl | (simp; done) | (simp [*]; done) | (simp; exact (by intro l_; cases l_ <;> rfl : ∀ l_ : List UInt8, l_.isEmpty = !(l_ != [])) _)), H', ⟨by have := HJ2.out; have := HJ7.out; have := HK3.out; first | omega | exact Nat.le_refl _⟩, ⟨rP HO_341000.out⟩, ⟨rP HO_341001.out⟩, ⟨rP HO_348000.out⟩, ⟨rP HO_348001.out⟩, ⟨kP BK340⟩, ⟨kP BK347⟩, ⟨bB⟩⟩
         ·rw [if_neg c39] at H
          have c39b0 : ((t341.length : Int) == (t331.length : Int)) = false := beq_eq_false_iff_ne.mpr c39
          have c39b1 : ((t341.length : Int) != (t331.length : Int)) = true := bne_iff_ne.mpr c39
          have c39b2 : (t341.length == t331.length) = false := by first | simpa using c39 | (simp at c39 ⊢; omega)
          (first | rw [c39b0] | (simp only [i64_w, i32_w]; rw [c39b0]) | rw [c39b1] | rw [c39b2] | skip)
          have H' := Aside0.mk H
          clear H
          try go_wp2
          have n0_ := Aside0.mk (Kd.R_drew HO_6.out)
          have n1_ := Aside0.mk (Kd.R_drew HO_341000.out)
          have n2_ := Aside0.mk (Kd.R_drew HO_341001.out)
          have n3_ := Aside0.mk (Kd.R_drew HO_348000.out)
          have n4_ := Aside0.mk (Kd.R_drew HO_348001.out)
          have n5_ := Aside0.mk (blk_drew BK340.out)
          have n6_ := Aside0.mk (blk_drew BK347.out)
          have n7_ := Aside0.mk (below_drew1 HB.out)
          clear HO_6
          clear HO_341000
          clear HO_341001
          clear HO_348000
          clear HO_348001
          clear BK340
          clear BK347
          clear HB
          have HO_6 := n0_
          have HO_341000 := n1_
          have HO_341001 := n2_
          have HO_348000 := n3_
          have HO_348001 := n4_
          have BK340 := n5_
          have BK347 := n6_
          have HB := n7_
          clear n0_ n1_ n2_ n3_ n4_ n5_ n6_ n7_
          refine start_ (n := 22) (S := fun w' => w'.cell? ⟨gb347, 0, none⟩ = some (.slice Ao17 t341.length co17) ∧ w'.cell? ⟨gb347, 1, none⟩ = some (.slice Ao20 t344.length co20) ∧ w'.cell? ⟨gb340, 0, none⟩ = some (.slice Ao11 t331.length co11) ∧ w'.cell? ⟨gb340, 1, none⟩ = some (.slice Ao13 t334.length co13)) (ds := []) #[false, false, false, false, false, false, false, false, false, false, false, false, false, false, false, false, false, false, false, false, false, false] (by kernel_rfl) rfl rfl ⟨(blk_cell BK347.out 0).trans rfl, (blk_cell BK347.out 1).trans rfl, (blk_cell BK340.out 0).trans rfl, (blk_cell BK340.out 1).trans rfl⟩ (fun hHeld => ?_); refine with_tabW laws_FnFallen.tab12 laws_FnFallen.bits12 (fun HT_ HW_ => ?_)
          generalize wr.drew = w54 at HO_6 HO_341000 HO_341001 HO_348000 HO_348001 BK340 BK347 HB hHeld ⊢
          refine pure_ (i := 0) (N := some 41) (v := ?_) (a' := ?_) #[true, false, false, false, false, false, false, false, false, false, false, false, false, false, false, false, false, false, false, false, false, false] rfl rfl (any_of HT_.out (by kernel_rfl)) (fun _ _ _ h => h) (Or.inl ⟨by rfl, ?_⟩) ?_ ?_
          rotate_left
          ·intro w'
           go_simp
           with_reducible rfl
          rotate_left
          ·simp only [Act.put, List.setIfInBounds_toArray, List.set_cons_zero, List.set_cons_succ, i64_w, i32_w]
           rfl
          refine pure_ (i := 3) (N := some 44) (v := ?_) (a' := ?_) #[true, false, false, true, false, false, false, false, false, false, false, false, false, false, false, false, false, false, false, false, false, false] rfl rfl (any_of HT_.out (by kernel_rfl)) (fun _ _ _ h => h) (Or.inl ⟨by rfl, ?_⟩) ?_ ?_
          rotate_left
          ·intro w'
           go_simp
           with_reducible rfl
          rotate_left
          ·simp only [Act.put, List.setIfInBounds_toArray, List.set_cons_zero, List.set_cons_succ, i64_w, i32_w]
           rfl
          refine take_ (i := 1) (N := some 42) (v := ?_) (a' := ?_) #[true, true, false, true, false, false, false, false, false, false, false, false, false, false, false, false, false, false, false, false, false, false] rfl rfl (take_ofW HT_.out HW_.out (by kernel_rfl)) (fun _ _ _ h => h) (Or.inl ⟨by rfl, ?_⟩) hHeld ?_ ?_
          rotate_left
          ·rintro w' ⟨s0, s1, s2, s3⟩
           go_simp
           with_reducible rfl
          rotate_left
          ·simp only [Act.put, List.setIfInBounds_toArray, List.set_cons_zero, List.set_cons_succ, i64_w, i32_w]
           rfl
          refine pure_ (i := 2) (N := some 43) (v := ?_) (a' := ?_) #[true, true, true, true, false, false, false, false, false, false, false, false, false, false, false, false, false, false, false, false, false, false] rfl rfl (any_of HT_.out (by kernel_rfl)) (fun _ _ _ h => h) (Or.inl ⟨by rfl, ?_⟩) ?_ ?_
          rotate_left
          ·intro w'
           go_simp
           with_reducible rfl
          rotate_left
          ·simp only [Act.put, List.setIfInBounds_toArray, List.set_cons_zero, List.set_cons_succ, i64_w, i32_w]
           rfl
          refine take_ (i := 4) (N := some 45) (v := ?_) (a' := ?_) #[true, true, true, true, true, false, false, false, false, false, false, false, false, false, false, false, false, false, false, false, false, false] rfl rfl (take_ofW HT_.out HW_.out (by kernel_rfl)) (fun _ _ _ h => h) (Or.inl ⟨by rfl, ?_⟩) hHeld ?_ ?_
          rotate_left
          ·rintro w' ⟨s0, s1, s2, s3⟩
           go_simp
           with_reducible rfl
          rotate_left
          ·simp only [Act.put, List.setIfInBounds_toArray, List.set_cons_zero, List.set_cons_succ, i64_w, i32_w]
           rfl
          refine pure_ (i := 5) (N := some 46) (v := ?_) (a' := ?_) #[true, true, true, true, true, true, false, false, false, false, false, false, false, false, false, false, false, false, false, false, false, false] rfl rfl (any_of HT_.out (by kernel_rfl)) (fun _ _ _ h => h) (Or.inl ⟨by rfl, ?_⟩) ?_ ?_
          rotate_left
          ·intro w'
           go_simp
           with_reducible rfl
          rotate_left
          ·simp only [Act.put, List.setIfInBounds_toArray, List.set_cons_zero, List.set_cons_succ, i64_w, i32_w]
           rfl
          refine pure_ (i := 6) (N := some 47) (v := ?_) (a' := ?_) #[true, true, true, true, true, true, true, false, false, false, false, false, false, false, false, false, false, false, false, false, false, false] rfl rfl (any_of HT_.out (by kernel_rfl)) (fun _ _ _ h => h) (Or.inl ⟨by rfl, ?_⟩) ?_ ?_
          rotate_left
          ·intro w'
           go_simp
           with_reducible rfl
          rotate_left
          ·simp only [Act.put, List.setIfInBounds_toArray, List.set_cons_zero, List.set_cons_succ, i64_w, i32_w]
           rfl
          refine pure_ (i := 7) (N := some 48) (v := ?_) (a' := ?_) #[true, true, true, true, true, true, true, true, false, false, false, false, false, false, false, false, false, false, false, false, false, false] rfl rfl (any_of HT_.out (by kernel_rfl)) (fun _ _ _ h => h) (Or.inl ⟨by rfl, ?_⟩) ?_ ?_
          rotate_left
          ·intro w'
           go_simp
           with_reducible rfl
          rotate_left
          ·simp only [Act.put, List.setIfInBounds_toArray, List.set_cons_zero, List.set_cons_succ, i64_w, i32_w]
           rfl
          refine pure_ (i := 8) (N := some 49) (v := undef) (a' := ?_) #[true, true, true, true, true, true, true, true, true, false, false, false, false, false, false, false, false, false, false, false, false, false] rfl rfl (any_of HT_.out (by kernel_rfl)) (fun _ _ _ h => h) (Or.inr ⟨by rfl, rfl⟩) ?_ ?_
          rotate_left
          ·simp only [Act.put, List.setIfInBounds_toArray, List.set_cons_zero, List.set_cons_succ, i64_w, i32_w]
           rfl
          refine pure_ (i := 9) (N := some 50) (v := undef) (a' := ?_) #[true, true, true, true, true, true, true, true, true, true, false, false, false, false, false, false, false, false, false, false, false, false] rfl rfl (any_of HT_.out (by kernel_rfl)) (fun _ _ _ h => h) (Or.inr ⟨by rfl, rfl⟩) ?_ ?_
          rotate_left
          ·simp only [Act.put, List.setIfInBounds_toArray, List.set_cons_zero, List.set_cons_succ, i64_w, i32_w]
           rfl
          refine pure_ (i := 10) (N := some 51) (v := undef) (a' := ?_) #[true, true, true, true, true, true, true, true, true, true, true, false, false, false, false, false, false, false, false, false, false, false] rfl rfl (any_of HT_.out (by kernel_rfl)) (fun _ _ _ h => h) (Or.inr ⟨by rfl, rfl⟩) ?_ ?_
          rotate_left
          ·simp only [Act.put, List.setIfInBounds_toArray, List.set_cons_zero, List.set_cons_succ, i64_w, i32_w]
           rfl
          refine pure_ (i := 11) (N := some 52) (v := undef) (a' := ?_) #[true, true, true, true, true, true, true, true, true, true, true, true, false, false, false, false, false, false, false, false, false, false] rfl rfl (any_of HT_.out (by kernel_rfl)) (fun _ _ _ h => h) (Or.inr ⟨by rfl, rfl⟩) ?_ ?_
          rotate_left
          ·simp only [Act.put, List.setIfInBounds_toArray, List.set_cons_zero, List.set_cons_succ, i64_w, i32_w]
           rfl
          refine pure_ (i := 12) (N := some 53) (v := ?_) (a' := ?_) #[true, true, true, true, true, true, true, true, true, true, true, true, true, false, false, false, false, false, false, false, false, false] rfl rfl (any_of HT_.out (by kernel_rfl)) (fun _ _ _ h => h) (Or.inl ⟨by rfl, ?_⟩) ?_ ?_
          rotate_left
          ·intro w'
           go_simp
           with_reducible rfl
          rotate_left
          ·simp only [Act.put, List.setIfInBounds_toArray, List.set_cons_zero, List.set_cons_succ, i64_w, i32_w]
           rfl
          refine pure_ (i := 13) (N := some 54) (v := ?_) (a' := ?_) #[true, true, true, true, true, true, true, true, true, true, true, true, true, true, false, false, false, false, false, false, false, false] rfl rfl (any_of HT_.out (by kernel_rfl)) (fun _ _ _ h => h) (Or.inl ⟨by rfl, ?_⟩) ?_ ?_
          rotate_left
          ·intro w'
           go_simp
           with_reducible rfl
          rotate_left
          ·simp only [Act.put, List.setIfInBounds_toArray, List.set_cons_zero, List.set_cons_succ, i64_w, i32_w]
           rfl
          refine pure_ (i := 14) (N := some 55) (v := undef) (a' := ?_) #[true, true, true, true, true, true, true, true, true, true, true, true, true, true, true, false, false, false, false, false, false, false] rfl rfl (any_of HT_.out (by kernel_rfl)) (fun _ _ _ h => h) (Or.inr ⟨by rfl, rfl⟩) ?_ ?_
          rotate_left
          ·simp only [Act.put, List.setIfInBounds_toArray, List.set_cons_zero, List.set_cons_succ, i64_w, i32_w]
           rfl
          refine pure_ (i := 15) (N := some 56) (v := undef) (a' := ?_) #[true, true, true, true, true, true, true, true, true, true, true, true, true, true, true, true, false, false, false, false, false, false] rfl rfl (any_of HT_.out (by kernel_rfl)) (fun _ _ _ h => h) (Or.inr ⟨by rfl, rfl⟩) ?_ ?_
          rotate_left
          ·simp only [Act.put, List.setIfInBounds_toArray, List.set_cons_zero, List.set_cons_succ, i64_w, i32_w]
           rfl
          refine pure_ (i := 16) (N := some 57) (v := undef) (a' := ?_) #[true, true, true, true, true, true, true, true, true, true, true, true, true, true, true, true, true, false, false, false, false, false] rfl rfl (any_of HT_.out (by kernel_rfl)) (fun _ _ _ h => h) (Or.inr ⟨by rfl, rfl⟩) ?_ ?_
          rotate_left
          ·simp only [Act.put, List.setIfInBounds_toArray, List.set_cons_zero, List.set_cons_succ, i64_w, i32_w]
           rfl
          refine pure_ (i := 17) (N := some 58) (v := undef) (a' := ?_) #[true, true, true, true, true, true, true, true, true, true, true, true, true, true, true, true, true, true, false, false, false, false] rfl rfl (any_of HT_.out (by kernel_rfl)) (fun _ _ _ h => h) (Or.inr ⟨by rfl, rfl⟩) ?_ ?_
          rotate_left
          ·simp only [Act.put, List.setIfInBounds_toArray, List.set_cons_zero, List.set_cons_succ, i64_w, i32_w]
           rfl
          refine pure_ (i := 18) (N := some 59) (v := undef) (a' := ?_) #[true, true, true, true, true, true, true, true, true, true, true, true, true, true, true, true, true, true, true, false, false, false] rfl rfl (any_of HT_.out (by kernel_rfl)) (fun _ _ _ h => h) (Or.inr ⟨by rfl, rfl⟩) ?_ ?_
          rotate_left
          ·simp only [Act.put, List.setIfInBounds_toArray, List.set_cons_zero, List.set_cons_succ, i64_w, i32_w]
           rfl
          refine pure_ (i := 19) (N := some 60) (v := undef) (a' := ?_) #[true, true, true, true, true, true, true, true, true, true, true, true, true, true, true, true, true, true, true, true, false, false] rfl rfl (any_of HT_.out (by kernel_rfl)) (fun _ _ _ h => h) (Or.inr ⟨by rfl, rfl⟩) ?_ ?_
          rotate_left
          ·simp only [Act.put, List.setIfInBounds_toArray, List.set_cons_zero, List.set_cons_succ, i64_w, i32_w]
           rfl
          refine pure_ (i := 20) (N := some 61) (v := undef) (a' := ?_) #[true, true, true, true, true, true, true, true, true, true, true, true, true, true, true, true, true, true, true, true, true, false] rfl rfl (any_of HT_.out (by kernel_rfl)) (fun _ _ _ h => h) (Or.inr ⟨by rfl, rfl⟩) ?_ ?_
          rotate_left
          ·simp only [Act.put, List.setIfInBounds_toArray, List.set_cons_zero, List.set_cons_succ, i64_w, i32_w]
           rfl
          refine pure_ (i := 21) (N := some 62) (v := ?_) (a' := ?_) #[true, true, true, true, true, true, true, true, true, true, true, true, true, true, true, true, true, true, true, true, true, true] rfl rfl (any_of HT_.out (by kernel_rfl)) (fun _ _ _ h => h) (Or.inl ⟨by rfl, ?_⟩) ?_ ?_
          rotate_left
          ·intro w'
           go_simp
           with_reducible rfl
          rotate_left
          ·simp only [Act.put, List.setIfInBounds_toArray, List.set_cons_zero, List.set_cons_succ, i64_w, i32_w]
           rfl
          refine done_ (done_of HT_.out (by kernel_rfl)) ?_
          try go_wp2
          go_meet
          case rel => exact ⟨_, (true), (by first | rfl | (simp; done) | (simp [*]; done) | (simp; exact (by intro l_; cases l_ <;> rfl : ∀ l_ : List UInt8, l_.isEmpty = !(l_ != [])) _)), H', ⟨by have := HJ2.out; have := HJ7.out; have := HK3.out; first | omega | exact Nat.le_refl _⟩, ⟨rP HO_341000.out⟩, ⟨rP HO_341001.out⟩, ⟨rP HO_348000.out⟩, ⟨rP HO_348001.out⟩, ⟨kP BK340⟩, ⟨kP BK347⟩, ⟨bB⟩⟩
        case rest =>
         clear HC36
         try clear p2
         try clear c3
         try clear c4
         try clear c32
         try clear c35
         try clear c39
         try clear c39b0
         try clear c39b1
         try clear c39b2
         try clear c40
         try clear c40b0
         try clear c40b1
         try clear c40b2
         try clear c49
         obtain ⟨kq, x62_35, rfl, HA, HJ35, HO_341000, HO_341001, HO_348000, HO_348001, BK340, BK347, HB⟩ := hcut
         cases kq with
         | zero => exact absurd HA.out (by simp [laws_FnFallen.j3])
         | succ kj35 =>
          have H := HA.out
          clear HA
          simp only [laws_FnFallen.j3] at H
          have HC55 := Aside0.mk H
          clear H
          go_upto_if 62 with (fail)
          go_cut [] (fun wc => ∃ (kq : Nat), Aside0 (laws_FnFallen.j4 kq t331 t334 t341 t344 = some r) ∧ Aside0 (kq ≤ kj35) ∧ Aside0 (Kd.R Kd.string 9 wc w.heap.size (fun k_ => some k_ ≠ ((.slice Ao17 t341.length co17) : Value).ownBlock) (.slice Ao11 t331.length co11) t331) ∧ Aside0 (Kd.R k65 65 wc w.heap.size (fun k_ => some k_ ≠ ((.slice Ao20 t344.length co20) : Value).ownBlock) (.slice Ao13 t334.length co13) t334) ∧ Aside0 (Kd.R Kd.string 9 wc w.heap.size (fun k_ => some k_ ≠ ((.slice Ao11 t331.length co11) : Value).ownBlock) (.slice Ao17 t341.length co17) t341) ∧ Aside0 (Kd.R k65 65 wc w.heap.size (fun k_ => some k_ ≠ ((.slice Ao13 t334.length co13) : Value).ownBlock) (.slice Ao20 t344.length co20) t344) ∧ Aside0 (wc.heap[gb340]? = some (.cells #[(.slice Ao11 t331.length co11), (.slice Ao13 t334.length co13)] 30 (0, 0))) ∧ Aside0 (wc.heap[gb347]? = some (.cells #[(.slice Ao17 t341.length co17), (.slice Ao20 t344.length co20)] 30 (0, 0))) ∧ Aside0 (Below w.heap.size w wc))
          case first =>
           have H := HC55.out
           clear HC55
           by_cases c56 : x62_35 = true
           ·subst c56
            rw [if_pos rfl] at H
            obtain rfl := Option.some.inj H
            go_wp2
            go_ret
            exact ⟨eW, bB⟩
           ·replace c56 := Bool.eq_false_iff.mpr c56
            subst c56
            rw [if_neg (show ¬ (false = true) by decide)] at H
            have H' := Aside0.mk H
            clear H
            go_wp2
            go_meet
            case rel => exact ⟨_, H', ⟨by have := HJ2.out; have := HJ7.out; have := HK3.out; have := HJ35.out; first | omega | exact Nat.le_refl _⟩, ⟨rP HO_341000.out⟩, ⟨rP HO_341001.out⟩, ⟨rP HO_348000.out⟩, ⟨rP HO_348001.out⟩, ⟨kP BK340⟩, ⟨kP BK347⟩, ⟨bB⟩⟩
          case rest =>
           clear HC55
           try clear p2
           try clear c3
           try clear c4
           try clear c5
           try clear c32
           try clear c35
           try clear c39
           try clear c39b0
           try clear c39b1
           try clear c39b2
           try clear c40
           try clear c40b0
           try clear c40b1
           try clear c40b2
           try clear c49
           try clear c56
           try clear p2
           obtain ⟨kq, HA, HJ54, HO_341000, HO_341001, HO_348000, HO_348001, BK340, BK347, HB⟩ := hcut
           cases kq with
           | zero => exact absurd HA.out (by simp [laws_FnFallen.j4])
           | succ kj54 =>
            have H := HA.out
            clear HA
            simp only [laws_FnFallen.j4] at H
            replace H := Option.bind_eq_some_iff.mp H
            obtain ⟨⟨t369, t372⟩, A570, H⟩ := H
            try dsimp only at H
            have A57 := Aside0.mk A570
            clear A570
            have H' := Aside0.mk H
            clear H
            have hnb58 := NB340_347.out
            have hnc58 := NB347_340.out
            have hcz59_0 := cZ0 BK340
            have hcz59_1 := cZ1 BK340
            have hfz59_0 := blk_frozen BK340.out 0
            have hfz59_1 := blk_frozen BK340.out 1
            go_wp2_with (first | ((with_reducible refine gate_callee (f := 35) rfl ?_); refine gL (some 64) Try.func35 #[.agg #[.slice Ao11 t331.length co11, .slice Ao13 t334.length co13], .slice none 0 0] ?_; (refine (impl_Fall.calls kj54 _ _ t331 _ _ t334 _ _ ([] : List Bool) t369 t372 _ ?side1 ?side2 ?side3 ?side4 ?side5 ?side6 A57.out).mono ?_); (case side1 => exact cR HO_341000); (case side2 => exact (Kd.R_reads' HO_341000.out).2.1); (case side3 => exact cR HO_341001); (case side4 => exact (Kd.R_reads' HO_341001.out).2.1); (case side5 => exact Kd.C_nil _ _); (case side6 => exact Nat.le_refl _); rintro e w60 ⟨v370, v373, rfl, ho0, ho1, hb⟩; refine ⟨_, rfl, ?_⟩; have n_ := And.intro (eR HO_341000 ho0 hb) (And.intro (eR HO_341001 ho1 hb) (And.intro (eR HO_348000 ho0 hb) (And.intro (eR HO_348001 ho1 hb) (And.intro (Aside0.mk (Kd.R_lower (Kd.R_new' (Kd.R_new' ho0 (rL HO_341000)) (rL HO_348000)) (zB HB))) (And.intro (Aside0.mk (Kd.R_lower (Kd.R_new' (Kd.R_new' ho1 (rL HO_341001)) (rL HO_348001)) (zB HB))) (And.intro (kB BK340 hb) (And.intro (kB BK347 hb) (sB HB hb)))))))); clear HO_341000 HO_341001 HO_348000 HO_348001 BK340 BK347 HB; obtain ⟨HO_341000, HO_341001, HO_348000, HO_348001, HO371, HO374, BK340, BK347, HB⟩ := n_; (try clear hb ho0 ho1)) | ((with_reducible refine gate_dst (N := 8) rfl ?_); (try (refine gate_guard (by rfl) ?_; dsimp only)); refine box_event ?hg (N := 8) ?hd (cs := #[.slice none 0 0, .slice none 0 0]) (t := 30) ?hr ?_; (case hd => rfl); (case hg => rfl); (case hr => first | (go_simp; done) | (go_simp; rfl)); intro gb375 hg w61 hbox hb; have n_ := And.intro (rB HO_341000 hb) (And.intro (rB HO_341001 hb) (And.intro (rB HO_348000 hb) (And.intro (rB HO_348001 hb) (And.intro (rB HO371 hb) (And.intro (rB HO374 hb) (And.intro (kB BK340 hb) (And.intro (kB BK347 hb) (And.intro (sB HB hb) (And.intro (Aside0.mk hbox) (And.intro (gE HB hg) (And.intro (gE HB hg) (And.intro (nL BK340 hg) (And.intro (nG BK340 hg) (And.intro (nL BK347 hg) (nG BK347 hg))))))))))))))); clear HO_341000 HO_341001 HO_348000 HO_348001 HO371 HO374 BK340 BK347 HB; obtain ⟨HO_341000, HO_341001, HO_348000, HO_348001, HO371, HO374, BK340, BK347, HB, BK375, GW375, GE375, NB340_375, NB375_340, NB347_375, NB375_347⟩ := n_; (try clear hb hbox hg); obtain ⟨Ao62, co62, eo62⟩ := Kd.R_slice HO371.out; subst eo62; have hnb63 := NB375_340.out; have hnc63 := NB340_375.out; have hnb64 := NB375_347.out; have hnc64 := NB347_375.out; have hcz65_0 := cZ0 BK375; have hcz65_1 := cZ1 BK375; have hfz65_0 := blk_frozen BK375.out 0; have hfz65_1 := blk_frozen BK375.out 1; obtain ⟨Ao66, co66, eo66⟩ := Kd.R_slice HO374.out; subst eo66))
            go_loopg [9] kj54 (fun kq v9 w' => ∃ (x9_6 : Int), v9 = .int .i64 x9_6 ∧ Aside0 (laws_FnFallen.l1 kq x9_6 t331 t334 t341 t344 t369 t372 = some r) ∧ Aside0 (kq ≤ kj54) ∧ Aside0 (Kd.R Kd.string 9 w' w.heap.size (fun k_ => some k_ ≠ ((.slice Ao17 t341.length co17) : Value).ownBlock ∧ some k_ ≠ ((.slice Ao62 t369.length co62) : Value).ownBlock) (.slice Ao11 t331.length co11) t331) ∧ Aside0 (Kd.R k65 65 w' w.heap.size (fun k_ => some k_ ≠ ((.slice Ao20 t344.length co20) : Value).ownBlock ∧ some k_ ≠ ((.slice Ao66 t372.length co66) : Value).ownBlock) (.slice Ao13 t334.length co13) t334) ∧ Aside0 (Kd.R Kd.string 9 w' w.heap.size (fun k_ => some k_ ≠ ((.slice Ao11 t331.length co11) : Value).ownBlock ∧ some k_ ≠ ((.slice Ao62 t369.length co62) : Value).ownBlock) (.slice Ao17 t341.length co17) t341) ∧ Aside0 (Kd.R k65 65 w' w.heap.size (fun k_ => some k_ ≠ ((.slice Ao13 t334.length co13) : Value).ownBlock ∧ some k_ ≠ ((.slice Ao66 t372.length co66) : Value).ownBlock) (.slice Ao20 t344.length co20) t344) ∧ Aside0 (Kd.R Kd.string 9 w' w.heap.size (fun k_ => some k_ ≠ ((.slice Ao11 t331.length co11) : Value).ownBlock ∧ some k_ ≠ ((.slice Ao17 t341.length co17) : Value).ownBlock) (.slice Ao62 t369.length co62) t369) ∧ Aside0 (Kd.R k65 65 w' w.heap.size (fun k_ => some k_ ≠ ((.slice Ao13 t334.length co13) : Value).ownBlock ∧ some k_ ≠ ((.slice Ao20 t344.length co20) : Value).ownBlock) (.slice Ao66 t372.length co66) t372) ∧ Aside0 (w'.heap[gb340]? = some (.cells #[(.slice Ao11 t331.length co11), (.slice Ao13 t334.length co13)] 30 (0, 0))) ∧ Aside0 (w'.heap[gb347]? = some (.cells #[(.slice Ao17 t341.length co17), (.slice Ao20 t344.length co20)] 30 (0, 0))) ∧ Aside0 (w'.heap[gb375]? = some (.cells #[(.slice Ao62 t369.length co62), (.slice Ao66 t372.length co66)] 30 (0, 0))) ∧ Aside0 (Below w.heap.size w w'))
            case atStart => exact ⟨(0), (by first | rfl | (simp; done) | (simp [*]; done) | (simp; exact (by intro l_; cases l_ <;> rfl : ∀ l_ : List UInt8, l_.isEmpty = !(l_ != [])) _)), H', ⟨Nat.le_refl _⟩, ⟨rP (Kd.R_mono (Kd.R_far (p := ⟨gb375, 1, none⟩) (Kd.R_far (p := ⟨gb375, 0, none⟩) (Kd.R_types HO_341000.out BK375.out (by decide)) (fun _ hk => hk.2) (.slice Ao62 t369.length co62)) (fun _ hk => hk.2) (.slice Ao66 t372.length co66)) (fun _ hk => ⟨hk.1.1, hk.1.2⟩))⟩, ⟨rP (Kd.R_mono (Kd.R_far (p := ⟨gb375, 1, none⟩) (Kd.R_far (p := ⟨gb375, 0, none⟩) (Kd.R_types HO_341001.out BK375.out (by decide)) (fun _ hk => hk.2) (.slice Ao62 t369.length co62)) (fun _ hk => hk.2) (.slice Ao66 t372.length co66)) (fun _ hk => ⟨hk.1.1, hk.1.2⟩))⟩, ⟨rP (Kd.R_mono (Kd.R_far (p := ⟨gb375, 1, none⟩) (Kd.R_far (p := ⟨gb375, 0, none⟩) (Kd.R_types HO_348000.out BK375.out (by decide)) (fun _ hk => hk.2) (.slice Ao62 t369.length co62)) (fun _ hk => hk.2) (.slice Ao66 t372.length co66)) (fun _ hk => ⟨hk.1.1, hk.1.2⟩))⟩, ⟨rP (Kd.R_mono (Kd.R_far (p := ⟨gb375, 1, none⟩) (Kd.R_far (p := ⟨gb375, 0, none⟩) (Kd.R_types HO_348001.out BK375.out (by decide)) (fun _ hk => hk.2) (.slice Ao62 t369.length co62)) (fun _ hk => hk.2) (.slice Ao66 t372.length co66)) (fun _ hk => ⟨hk.1.1, hk.1.2⟩))⟩, ⟨rP (Kd.R_mono (Kd.R_far (p := ⟨gb375, 1, none⟩) (Kd.R_far (p := ⟨gb375, 0, none⟩) (Kd.R_types HO371.out BK375.out (by decide)) (fun _ hk => hk.2) (.slice Ao62 t369.length co62)) (fun _ hk => hk.2) (.slice Ao66 t372.length co66)) (fun _ hk => ⟨hk.1.1.2, hk.1.2⟩))⟩, ⟨rP (Kd.R_mono (Kd.R_far (p := ⟨gb375, 1, none⟩) (Kd.R_far (p := ⟨gb375, 0, none⟩) (Kd.R_types HO374.out BK375.out (by decide)) (fun _ hk => hk.2) (.slice Ao62 t369.length co62)) (fun _ hk => hk.2) (.slice Ao66 t372.length co66)) (fun _ hk => ⟨hk.1.1.2, hk.1.2⟩))⟩, ⟨kP BK340⟩, ⟨kP BK347⟩, ⟨by (with_reducible repeat (first | refine blk_drewN ?_ _ | refine blk_drew ?_ | refine blk_alloc ?_ _)); refine blk_put (cs := #[.slice Ao62 t369.length co62, .slice none 0 0]) ?_ 1 _ rfl; (with_reducible repeat (first | refine blk_drewN ?_ _ | refine blk_drew ?_ | refine blk_alloc ?_ _)); refine blk_put (cs := #[.slice none 0 0, .slice none 0 0]) ?_ 0 _ rfl; (with_reducible repeat (first | refine blk_drewN ?_ _ | refine blk_drew ?_ | refine blk_alloc ?_ _)); exact BK375.out⟩, ⟨bB⟩⟩
            case round =>
             clear H'
             try clear p2
             try clear c3
             try clear c4
             try clear c5
             try clear c6
             try clear c32
             try clear c35
             try clear c39
             try clear c39b0
             try clear c39b1
             try clear c39b2
             try clear c40
             try clear c40b0
             try clear c40b1
             try clear c40b2
             try clear c49
             try clear c56
             try clear c58
             try clear c63
             try clear c64
             try clear hcz59_0
             try clear hcz59_1
             try clear hcz65_0
             try clear hcz65_1
             try clear hfz59_0
             try clear hfz59_1
             try clear hfz65_0
             try clear hfz65_1
             try clear p2
             obtain ⟨x9_6, rfl, HA, HK6, HO_341000, HO_341001, HO_348000, HO_348001, HO_376000, HO_376001, BK340, BK347, BK375, HB⟩ := hrel
             cases gk with
             | zero => exact absurd HA.out (by simp [laws_FnFallen.l1])
             | succ k6 =>
              have H := HA.out
              clear HA
              simp only [laws_FnFallen.l1] at H
              have HC67 := Aside0.mk H
              clear H
              have hnb68 := NB340_347.out
              have hnc68 := NB347_340.out
              have hnb69 := NB340_375.out
              have hnc69 := NB375_340.out
              have hcz70_0 := cZ0 BK340
              have hcz70_1 := cZ1 BK340
              have hfz70_0 := blk_frozen BK340.out 0
              have hfz70_1 := blk_frozen BK340.out 1
              go_upto_if 69 with (fail)
              go_cut [] (fun wc => ∃ (kq : Nat), Aside0 (laws_FnFallen.j6 kq x9_6 t331 t334 t341 t344 t369 t372 = some r) ∧ Aside0 (kq ≤ k6) ∧ Aside0 (Kd.R Kd.string 9 wc w.heap.size (fun k_ => some k_ ≠ ((.slice Ao17 t341.length co17) : Value).ownBlock ∧ some k_ ≠ ((.slice Ao62 t369.length co62) : Value).ownBlock) (.slice Ao11 t331.length co11) t331) ∧ Aside0 (Kd.R k65 65 wc w.heap.size (fun k_ => some k_ ≠ ((.slice Ao20 t344.length co20) : Value).ownBlock ∧ some k_ ≠ ((.slice Ao66 t372.length co66) : Value).ownBlock) (.slice Ao13 t334.length co13) t334) ∧ Aside0 (Kd.R Kd.string 9 wc w.heap.size (fun k_ => some k_ ≠ ((.slice Ao11 t331.length co11) : Value).ownBlock ∧ some k_ ≠ ((.slice Ao62 t369.length co62) : Value).ownBlock) (.slice Ao17 t341.length co17) t341) ∧ Aside0 (Kd.R k65 65 wc w.heap.size (fun k_ => some k_ ≠ ((.slice Ao13 t334.length co13) : Value).ownBlock ∧ some k_ ≠ ((.slice Ao66 t372.length co66) : Value).ownBlock) (.slice Ao20 t344.length co20) t344) ∧ Aside0 (Kd.R Kd.string 9 wc w.heap.size (fun k_ => some k_ ≠ ((.slice Ao11 t331.length co11) : Value).ownBlock ∧ some k_ ≠ ((.slice Ao17 t341.length co17) : Value).ownBlock) (.slice Ao62 t369.length co62) t369) ∧ Aside0 (Kd.R k65 65 wc w.heap.size (fun k_ => some k_ ≠ ((.slice Ao13 t334.length co13) : Value).ownBlock ∧ some k_ ≠ ((.slice Ao20 t344.length co20) : Value).ownBlock) (.slice Ao66 t372.length co66) t372) ∧ Aside0 (wc.heap[gb340]? = some (.cells #[(.slice Ao11 t331.length co11), (.slice Ao13 t334.length co13)] 30 (0, 0))) ∧ Aside0 (wc.heap[gb347]? = some (.cells #[(.slice Ao17 t341.length co17), (.slice Ao20 t344.length co20)] 30 (0, 0))) ∧ Aside0 (wc.heap[gb375]? = some (.cells #[(.slice Ao62 t369.length co62), (.slice Ao66 t372.length co66)] 30 (0, 0))) ∧ Aside0 (Below w.heap.size w wc))
              case first =>
               have H := HC67.out
               clear HC67
               by_cases c71 : x9_6 < (t331.length : Int)
               ·rw [if_pos c71] at H
                have c71b0 : decide (x9_6 < (t331.length : Int)) = true := decide_eq_true c71
                clear c71
                (first | rw [c71b0] | (simp only [i64_w, i32_w]; rw [c71b0]) | rw [c71b1] | rw [c71b2] | skip)
                have H' := Aside0.mk H
                clear H
                go_wp2
                go_meet
                case rel => exact ⟨_, H', ⟨by have := HJ2.out; have := HJ7.out; have := HK3.out; have := HJ35.out; have := HJ54.out; have := HK6.out; first | omega | exact Nat.le_refl _⟩, ⟨rP HO_341000.out⟩, ⟨rP HO_341001.out⟩, ⟨rP HO_348000.out⟩, ⟨rP HO_348001.out⟩, ⟨rP HO_376000.out⟩, ⟨rP HO_376001.out⟩, ⟨kP BK340⟩, ⟨kP BK347⟩, ⟨kP BK375⟩, ⟨bB⟩⟩
               ·rw [if_neg c71] at H
                have c71b0 : decide (x9_6 < (t331.length : Int)) = false := decide_eq_false c71
                clear c71
                (first | rw [c71b0] | (simp only [i64_w, i32_w]; rw [c71b0]) | rw [c71b1] | rw [c71b2] | skip)
                obtain rfl := Option.some.inj H
                go_wp2
                go_ret
                exact ⟨eW, bB⟩
              case rest =>
               clear HC67
               try clear p2
               try clear c3
               try clear c4
               try clear c5
               try clear c6
               try clear c7
               try clear c32
               try clear c35
               try clear c39
               try clear c39b0
               try clear c39b1
               try clear c39b2
               try clear c40
               try clear c40b0
               try clear c40b1
               try clear c40b2
               try clear c49
               try clear c56
               try clear c58
               try clear c63
               try clear c64
               try clear c68
               try clear c69
               try clear c71
               try clear c71b0
               try clear c71b1
               try clear c71b2
               try clear hcz59_0
               try clear hcz59_1
               try clear hcz65_0
               try clear hcz65_1
               try clear hcz70_0
               try clear hcz70_1
               try clear hfz59_0
               try clear hfz59_1
               try clear hfz65_0
               try clear hfz65_1
               try clear hfz70_0
               try clear hfz70_1
               try clear p2
               obtain ⟨kq, HA, HJ66, HO_341000, HO_341001, HO_348000, HO_348001, HO_376000, HO_376001, BK340, BK347, BK375, HB⟩ := hcut
               cases kq with
               | zero => exact absurd HA.out (by simp [laws_FnFallen.j6])
               | succ kj66 =>
                have H := HA.out
                clear HA
                simp only [laws_FnFallen.j6] at H
                by_cases c72 : 0 ≤ x9_6
                ·rw [if_pos c72] at H
                 have c72b0 : decide (0 ≤ x9_6) = true := decide_eq_true c72
                 clear c72
                 by_cases c73 : x9_6 < (t341.length : Int)
                 ·rw [if_pos c73] at H
                  have c73b0 : decide (x9_6 < (t341.length : Int)) = true := decide_eq_true c73
                  clear c73
                  by_cases c74 : x9_6 < (t331.length : Int)
                  ·rw [if_pos c74] at H
                   have c74b0 : decide (x9_6 < (t331.length : Int)) = true := decide_eq_true c74
                   clear c74
                   have H' := Aside0.mk H
                   clear H
                   try go_wp2
                   have n0_ := Aside0.mk (Kd.R_drew HO_341000.out)
                   have n1_ := Aside0.mk (Kd.R_drew HO_341001.out)
                   have n2_ := Aside0.mk (Kd.R_drew HO_348000.out)
                   have n3_ := Aside0.mk (Kd.R_drew HO_348001.out)
                   have n4_ := Aside0.mk (Kd.R_drew HO_376000.out)
                   have n5_ := Aside0.mk (Kd.R_drew HO_376001.out)
                   have n6_ := Aside0.mk (blk_drew BK340.out)
                   have n7_ := Aside0.mk (blk_drew BK347.out)
                   have n8_ := Aside0.mk (blk_drew BK375.out)
                   have n9_ := Aside0.mk (below_drew1 HB.out)
                   clear HO_341000
                   clear HO_341001
                   clear HO_348000
                   clear HO_348001
                   clear HO_376000
                   clear HO_376001
                   clear BK340
                   clear BK347
                   clear BK375
                   clear HB
                   have HO_341000 := n0_
                   have HO_341001 := n1_
                   have HO_348000 := n2_
                   have HO_348001 := n3_
                   have HO_376000 := n4_
                   have HO_376001 := n5_
                   have BK340 := n6_
                   have BK347 := n7_
                   have BK375 := n8_
                   have HB := n9_
                   clear n0_ n1_ n2_ n3_ n4_ n5_ n6_ n7_ n8_ n9_
                   have p376 : 0 ≤ (x9_6 : Int) := dT
                   have q376 : x9_6 < (t341.length : Int) := dT
                   obtain ⟨ad376, e376, hx376_0⟩ := Kd.at_string (Kd.R_reads' HO_348000.out).2.2 x9_6 p376 q376
                   cases e376
                   replace p376 := eq_true p376
                   replace q376 := eq_true q376
                   have p377 : 0 ≤ (x9_6 : Int) := dT
                   have q377 : x9_6 < (t331.length : Int) := dT
                   obtain ⟨ad377, e377, hx377_0⟩ := Kd.at_string (Kd.R_reads' HO_341000.out).2.2 x9_6 p377 q377
                   cases e377
                   replace p377 := eq_true p377
                   replace q377 := eq_true q377
                   refine start_ (n := 12) (S := fun w' => w'.cell? ⟨gb347, 0, none⟩ = some (.slice (some ad376) t341.length co17) ∧ w'.cell? ⟨gb347, 1, none⟩ = some (.slice Ao20 t344.length co20) ∧ w'.cell? ⟨gb340, 0, none⟩ = some (.slice (some ad377) t331.length co11) ∧ w'.cell? ⟨gb340, 1, none⟩ = some (.slice Ao13 t334.length co13) ∧ w'.cell? (ad376.add (x9_6).toNat) = some (.string (rdOf ByteArray.empty t341 x9_6)) ∧ w'.cell? (ad377.add (x9_6).toNat) = some (.string (rdOf ByteArray.empty t331 x9_6))) (ds := []) #[false, false, false, false, false, false, false, false, false, false, false, false] (by kernel_rfl) rfl rfl ⟨(blk_cell BK347.out 0).trans rfl, (blk_cell BK347.out 1).trans rfl, (blk_cell BK340.out 0).trans rfl, (blk_cell BK340.out 1).trans rfl, hx376_0, hx377_0⟩ (fun hHeld => ?_); refine with_tabW laws_FnFallen.tab18 laws_FnFallen.bits18 (fun HT_ HW_ => ?_)
                   generalize wc.drew = w75 at HO_341000 HO_341001 HO_348000 HO_348001 HO_376000 HO_376001 BK340 BK347 BK375 HB hx376_0 hx377_0 hHeld ⊢
                   refine pure_ (i := 0) (N := some 72) (v := ?_) (a' := ?_) #[true, false, false, false, false, false, false, false, false, false, false, false] rfl rfl (any_of HT_.out (by kernel_rfl)) (fun _ _ _ h => h) (Or.inl ⟨by rfl, ?_⟩) ?_ ?_
                   rotate_left
                   ·intro w'
                    go_simp
                    with_reducible rfl
                   rotate_left
                   ·simp only [Act.put, List.setIfInBounds_toArray, List.set_cons_zero, List.set_cons_succ, i64_w, i32_w]
                    rfl
                   refine pure_ (i := 2) (N := some 74) (v := ?_) (a' := ?_) #[true, false, true, false, false, false, false, false, false, false, false, false] rfl rfl (any_of HT_.out (by kernel_rfl)) (fun _ _ _ h => h) (Or.inl ⟨by rfl, ?_⟩) ?_ ?_
                   rotate_left
                   ·intro w'
                    go_simp
                    with_reducible rfl
                   rotate_left
                   ·simp only [Act.put, List.setIfInBounds_toArray, List.set_cons_zero, List.set_cons_succ, i64_w, i32_w]
                    rfl
                   refine pure_ (i := 5) (N := some 77) (v := ?_) (a' := ?_) #[true, false, true, false, false, true, false, false, false, false, false, false] rfl rfl (any_of HT_.out (by kernel_rfl)) (fun _ _ _ h => h) (Or.inl ⟨by rfl, ?_⟩) ?_ ?_
                   rotate_left
                   ·intro w'
                    go_simp
                    with_reducible rfl
                   rotate_left
                   ·simp only [Act.put, List.setIfInBounds_toArray, List.set_cons_zero, List.set_cons_succ, i64_w, i32_w]
                    rfl
                   refine pure_ (i := 7) (N := some 79) (v := ?_) (a' := ?_) #[true, false, true, false, false, true, false, true, false, false, false, false] rfl rfl (any_of HT_.out (by kernel_rfl)) (fun _ _ _ h => h) (Or.inl ⟨by rfl, ?_⟩) ?_ ?_
                   rotate_left
                   ·intro w'
                    go_simp
                    with_reducible rfl
                   rotate_left
                   ·simp only [Act.put, List.setIfInBounds_toArray, List.set_cons_zero, List.set_cons_succ, i64_w, i32_w]
                    rfl
                   refine take_ (i := 1) (N := some 73) (v := ?_) (a' := ?_) #[true, true, true, false, false, true, false, true, false, false, false, false] rfl rfl (take_ofW HT_.out HW_.out (by kernel_rfl)) (fun _ _ _ h => h) (Or.inl ⟨by rfl, ?_⟩) hHeld ?_ ?_
                   rotate_left
                   ·rintro w' ⟨s0, s1, s2, s3, s4, s5⟩
                    go_simp
                    with_reducible rfl
                   rotate_left
                   ·simp only [Act.put, List.setIfInBounds_toArray, List.set_cons_zero, List.set_cons_succ, i64_w, i32_w]
                    rfl
                   refine pure_ (i := 3) (N := some 75) (v := ?_) (a' := ?_) #[true, true, true, true, false, true, false, true, false, false, false, false] rfl rfl (any_of HT_.out (by kernel_rfl)) (fun _ _ _ h => h) (Or.inl ⟨by rfl, ?_⟩) ?_ ?_
                   rotate_left
                   ·intro w'
                    go_simp
                    with_reducible rfl
                   rotate_left
                   ·simp only [Act.put, List.setIfInBounds_toArray, List.set_cons_zero, List.set_cons_succ, i64_w, i32_w]
                    rfl
                   refine take_ (i := 4) (N := some 76) (v := ?_) (a' := ?_) #[true, true, true, true, true, true, false, true, false, false, false, false] rfl rfl (take_ofW HT_.out HW_.out (by kernel_rfl)) (fun _ _ _ h => h) (Or.inl ⟨by rfl, ?_⟩) hHeld ?_ ?_
                   rotate_left
                   ·rintro w' ⟨s0, s1, s2, s3, s4, s5⟩
                    go_simp
                    with_reducible rfl
                   rotate_left
                   ·simp only [Act.put, List.setIfInBounds_toArray, List.set_cons_zero, List.set_cons_succ, i64_w, i32_w]
                    rfl
                   refine take_ (i := 6) (N := some 78) (v := ?_) (a' := ?_) #[true, true, true, true, true, true, true, true, false, false, false, false] rfl rfl (take_ofW HT_.out HW_.out (by kernel_rfl)) (fun _ _ _ h => h) (Or.inl ⟨by rfl, ?_⟩) hHeld ?_ ?_
                   rotate_left
                   ·rintro w' ⟨s0, s1, s2, s3, s4, s5⟩
                    go_simp
                    with_reducible rfl
                   rotate_left
                   ·simp only [Act.put, List.setIfInBounds_toArray, List.set_cons_zero, List.set_cons_succ, i64_w, i32_w]
                    rfl
                   refine pure_ (i := 8) (N := some 80) (v := ?_) (a' := ?_) #[true, true, true, true, true, true, true, true, true, false, false, false] rfl rfl (any_of HT_.out (by kernel_rfl)) (fun _ _ _ h => h) (Or.inl ⟨by rfl, ?_⟩) ?_ ?_
                   rotate_left
                   ·intro w'
                    go_simp
                    with_reducible rfl
                   rotate_left
                   ·simp only [Act.put, List.setIfInBounds_toArray, List.set_cons_zero, List.set_cons_succ, i64_w, i32_w]
                    rfl
                   refine take_ (i := 9) (N := some 81) (v := ?_) (a' := ?_) #[true, true, true, true, true, true, true, true, true, true, false, false] rfl rfl (take_ofW HT_.out HW_.out (by kernel_rfl)) (fun _ _ _ h => h) (Or.inl ⟨by rfl, ?_⟩) hHeld ?_ ?_
                   rotate_left
                   ·rintro w' ⟨s0, s1, s2, s3, s4, s5⟩
                    go_simp
                    with_reducible rfl
                   rotate_left
                   ·simp only [Act.put, List.setIfInBounds_toArray, List.set_cons_zero, List.set_cons_succ, i64_w, i32_w]
                    rfl
                   refine pure_ (i := 10) (N := some 82) (v := ?_) (a' := ?_) #[true, true, true, true, true, true, true, true, true, true, true, false] rfl rfl (any_of HT_.out (by kernel_rfl)) (fun _ _ _ h => h) (Or.inl ⟨by rfl, ?_⟩) ?_ ?_
                   rotate_left
                   ·intro w'
                    go_simp
                    with_reducible rfl
                   rotate_left
                   ·simp only [Act.put, List.setIfInBounds_toArray, List.set_cons_zero, List.set_cons_succ, i64_w, i32_w]
                    rfl
                   refine pure_ (i := 11) (N := some 10) (v := ?_) (a' := ?_) #[true, true, true, true, true, true, true, true, true, true, true, true] rfl rfl (any_of HT_.out (by kernel_rfl)) (fun _ _ _ h => h) (Or.inl ⟨by rfl, ?_⟩) ?_ ?_
                   rotate_left
                   ·intro w'
                    go_simp
                    with_reducible rfl
                   rotate_left
                   ·simp only [Act.put, List.setIfInBounds_toArray, List.set_cons_zero, List.set_cons_succ, i64_w, i32_w]
                    rfl
                   refine done_ (done_of HT_.out (by kernel_rfl)) ?_
                   try go_wp2
                   go_loopg [10, 11] kj66 (fun kq v10 v11 w' => ∃ (x10_8 : Bool) (x11_8 : Int), v10 = .bool x10_8 ∧ v11 = .int .i64 x11_8 ∧ Aside0 (laws_FnFallen.l2 kq x9_6 x10_8 x11_8 t331 t334 t341 t344 t369 t372 = some r) ∧ Aside0 (kq ≤ kj66) ∧ Aside0 (Kd.R Kd.string 9 w' w.heap.size (fun k_ => some k_ ≠ ((.slice (some ad376) t341.length co17) : Value).ownBlock ∧ some k_ ≠ ((.slice Ao62 t369.length co62) : Value).ownBlock) (.slice (some ad377) t331.length co11) t331) ∧ Aside0 (Kd.R k65 65 w' w.heap.size (fun k_ => some k_ ≠ ((.slice Ao20 t344.length co20) : Value).ownBlock ∧ some k_ ≠ ((.slice Ao66 t372.length co66) : Value).ownBlock) (.slice Ao13 t334.length co13) t334) ∧ Aside0 (Kd.R Kd.string 9 w' w.heap.size (fun k_ => some k_ ≠ ((.slice (some ad377) t331.length co11) : Value).ownBlock ∧ some k_ ≠ ((.slice Ao62 t369.length co62) : Value).ownBlock) (.slice (some ad376) t341.length co17) t341) ∧ Aside0 (Kd.R k65 65 w' w.heap.size (fun k_ => some k_ ≠ ((.slice Ao13 t334.length co13) : Value).ownBlock ∧ some k_ ≠ ((.slice Ao66 t372.length co66) : Value).ownBlock) (.slice Ao20 t344.length co20) t344) ∧ Aside0 (Kd.R Kd.string 9 w' w.heap.size (fun k_ => some k_ ≠ ((.slice (some ad377) t331.length co11) : Value).ownBlock ∧ some k_ ≠ ((.slice (some ad376) t341.length co17) : Value).ownBlock) (.slice Ao62 t369.length co62) t369) ∧ Aside0 (Kd.R k65 65 w' w.heap.size (fun k_ => some k_ ≠ ((.slice Ao13 t334.length co13) : Value).ownBlock ∧ some k_ ≠ ((.slice Ao20 t344.length co20) : Value).ownBlock) (.slice Ao66 t372.length co66) t372) ∧ Aside0 (w'.heap[gb340]? = some (.cells #[(.slice (some ad377) t331.length co11), (.slice Ao13 t334.length co13)] 30 (0, 0))) ∧ Aside0 (w'.heap[gb347]? = some (.cells #[(.slice (some ad376) t341.length co17), (.slice Ao20 t344.length co20)] 30 (0, 0))) ∧ Aside0 (w'.heap[gb375]? = some (.cells #[(.slice Ao62 t369.length co62), (.slice Ao66 t372.length co66)] 30 (0, 0))) ∧ Aside0 (Below w.heap.size w w'))
                   case atStart => exact ⟨(((rdOf ByteArray.empty t341 x9_6).toList == (rdOf ByteArray.empty t331 x9_6).toList)), (0), (by first | rfl | (simp; done) | (simp [*]; done) | (simp; exact (by intro l_; cases l_ <;> rfl : ∀ l_ : List UInt8, l_.isEmpty = !(l_ != [])) _)), (by first | rfl | (simp; done) | (simp [*]; done) | (simp; exact (by intro l_; cases l_ <;> rfl : ∀ l_ : List UInt8, l_.isEmpty = !(l_ != [])) _)), H', ⟨Nat.le_refl _⟩, ⟨rP HO_341000.out⟩, ⟨rP HO_341001.out⟩, ⟨rP HO_348000.out⟩, ⟨rP HO_348001.out⟩, ⟨rP HO_376000.out⟩, ⟨rP HO_376001.out⟩, ⟨kP BK340⟩, ⟨kP BK347⟩, ⟨kP BK375⟩, ⟨bB⟩⟩
                   case round =>
                    clear H'
                    try clear p2
                    try clear c3
                    try clear p3
                    try clear q3
                    try clear hx3
                    try clear c4
                    try clear c5
                    try clear c6
                    try clear c7
                    try clear c32
                    try clear c35
                    try clear p37
                    try clear q37
                    try clear hx37
                    try clear c39
                    try clear c39b0
                    try clear c39b1
                    try clear c39b2
                    try clear c40
                    try clear c40b0
                    try clear c40b1
                    try clear c40b2
                    try clear c49
                    try clear c56
                    try clear c58
                    try clear c63
                    try clear c64
                    try clear c68
                    try clear c69
                    try clear c71
                    try clear c71b0
                    try clear c71b1
                    try clear c71b2
                    try clear c72
                    try clear c72b0
                    try clear c73
                    try clear c73b0
                    try clear c74
                    try clear c74b0
                    try clear hcz59_0
                    try clear hcz59_1
                    try clear hcz65_0
                    try clear hcz65_1
                    try clear hcz70_0
                    try clear hcz70_1
                    try clear hfz59_0
                    try clear hfz59_1
                    try clear hfz65_0
                    try clear hfz65_1
                    try clear hfz70_0
                    try clear hfz70_1
                    try clear hx376_0
                    try clear hx377_0
                    try clear p2
                    try clear p376
                    try clear p377
                    try clear q376
                    try clear q377
                    obtain ⟨x10_8, x11_8, rfl, rfl, HA, HK8, HO_341000, HO_341001, HO_348000, HO_348001, HO_376000, HO_376001, BK340, BK347, BK375, HB⟩ := hrel
                    cases gk with
                    | zero => exact absurd HA.out (by simp [laws_FnFallen.l2])
                    | succ k8 =>
                     have H := HA.out
                     clear HA
                     simp only [laws_FnFallen.l2] at H
                     by_cases c76 : x11_8 < (t334.length : Int)
                     ·rw [if_pos c76] at H
                      have c76b0 : decide (x11_8 < (t334.length : Int)) = true := decide_eq_true c76
                      clear c76
                      by_cases c77 : x10_8 = true
                      ·subst c77
                       rw [if_pos rfl] at H
                       have H' := Aside0.mk H
                       clear H
                       have hnb78 := NB340_347.out
                       have hnc78 := NB347_340.out
                       have hnb79 := NB340_375.out
                       have hnc79 := NB375_340.out
                       have hcz80_0 := cZ0 BK340
                       have hcz80_1 := cZ1 BK340
                       have hfz80_0 := blk_frozen BK340.out 0
                       have hfz80_1 := blk_frozen BK340.out 1
                       try go_wp2
                       have n0_ := Aside0.mk (Kd.R_drew HO_341000.out)
                       have n1_ := Aside0.mk (Kd.R_drew HO_341001.out)
                       have n2_ := Aside0.mk (Kd.R_drew HO_348000.out)
                       have n3_ := Aside0.mk (Kd.R_drew HO_348001.out)
                       have n4_ := Aside0.mk (Kd.R_drew HO_376000.out)
                       have n5_ := Aside0.mk (Kd.R_drew HO_376001.out)
                       have n6_ := Aside0.mk (blk_drew BK340.out)
                       have n7_ := Aside0.mk (blk_drew BK347.out)
                       have n8_ := Aside0.mk (blk_drew BK375.out)
                       have n9_ := Aside0.mk (below_drew1 HB.out)
                       clear HO_341000
                       clear HO_341001
                       clear HO_348000
                       clear HO_348001
                       clear HO_376000
                       clear HO_376001
                       clear BK340
                       clear BK347
                       clear BK375
                       clear HB
                       have HO_341000 := n0_
                       have HO_341001 := n1_
                       have HO_348000 := n2_
                       have HO_348001 := n3_
                       have HO_376000 := n4_
                       have HO_376001 := n5_
                       have BK340 := n6_
                       have BK347 := n7_
                       have BK375 := n8_
                       have HB := n9_
                       clear n0_ n1_ n2_ n3_ n4_ n5_ n6_ n7_ n8_ n9_
                       refine start_ (n := 26) (S := fun w' => True) (ds := []) #[false, false, false, false, false, false, false, false, false, false, false, false, false, false, false, false, false, false, false, false, false, false, false, false, false, false] (by kernel_rfl) rfl rfl trivial (fun hHeld => ?_); refine with_tabW laws_FnFallen.tab22 laws_FnFallen.bits22 (fun HT_ HW_ => ?_)
                       generalize wr.drew = w81 at HO_341000 HO_341001 HO_348000 HO_348001 HO_376000 HO_376001 BK340 BK347 BK375 HB hHeld ⊢
                       refine pure_ (i := 0) (N := some 90) (v := ?_) (a' := ?_) #[true, false, false, false, false, false, false, false, false, false, false, false, false, false, false, false, false, false, false, false, false, false, false, false, false, false] rfl rfl (any_of HT_.out (by kernel_rfl)) (fun _ _ _ h => h) (Or.inl ⟨by rfl, ?_⟩) ?_ ?_
                       rotate_left
                       ·intro w'
                        go_simp
                        with_reducible rfl
                       rotate_left
                       ·simp only [Act.put, List.setIfInBounds_toArray, List.set_cons_zero, List.set_cons_succ, i64_w, i32_w]
                        rfl
                       refine pure_ (i := 1) (N := some 91) (v := ?_) (a' := ?_) #[true, true, false, false, false, false, false, false, false, false, false, false, false, false, false, false, false, false, false, false, false, false, false, false, false, false] rfl rfl (any_of HT_.out (by kernel_rfl)) (fun _ _ _ h => h) (Or.inl ⟨by rfl, ?_⟩) ?_ ?_
                       rotate_left
                       ·intro w'
                        go_simp
                        with_reducible rfl
                       rotate_left
                       ·simp only [Act.put, List.setIfInBounds_toArray, List.set_cons_zero, List.set_cons_succ, i64_w, i32_w]
                        rfl
                       refine pure_ (i := 2) (N := some 92) (v := undef) (a' := ?_) #[true, true, true, false, false, false, false, false, false, false, false, false, false, false, false, false, false, false, false, false, false, false, false, false, false, false] rfl rfl (any_of HT_.out (by kernel_rfl)) (fun _ _ _ h => h) (Or.inr ⟨by rfl, rfl⟩) ?_ ?_
                       rotate_left
                       ·simp only [Act.put, List.setIfInBounds_toArray, List.set_cons_zero, List.set_cons_succ, i64_w, i32_w]
                        rfl
                       refine pure_ (i := 3) (N := some 93) (v := undef) (a' := ?_) #[true, true, true, true, false, false, false, false, false, false, false, false, false, false, false, false, false, false, false, false, false, false, false, false, false, false] rfl rfl (any_of HT_.out (by kernel_rfl)) (fun _ _ _ h => h) (Or.inr ⟨by rfl, rfl⟩) ?_ ?_
                       rotate_left
                       ·simp only [Act.put, List.setIfInBounds_toArray, List.set_cons_zero, List.set_cons_succ, i64_w, i32_w]
                        rfl
                       refine pure_ (i := 4) (N := some 94) (v := undef) (a' := ?_) #[true, true, true, true, true, false, false, false, false, false, false, false, false, false, false, false, false, false, false, false, false, false, false, false, false, false] rfl rfl (any_of HT_.out (by kernel_rfl)) (fun _ _ _ h => h) (Or.inr ⟨by rfl, rfl⟩) ?_ ?_
                       rotate_left
                       ·simp only [Act.put, List.setIfInBounds_toArray, List.set_cons_zero, List.set_cons_succ, i64_w, i32_w]
                        rfl
                       refine pure_ (i := 5) (N := some 95) (v := undef) (a' := ?_) #[true, true, true, true, true, true, false, false, false, false, false, false, false, false, false, false, false, false, false, false, false, false, false, false, false, false] rfl rfl (any_of HT_.out (by kernel_rfl)) (fun _ _ _ h => h) (Or.inr ⟨by rfl, rfl⟩) ?_ ?_
                       rotate_left
                       ·simp only [Act.put, List.setIfInBounds_toArray, List.set_cons_zero, List.set_cons_succ, i64_w, i32_w]
                        rfl
                       refine pure_ (i := 6) (N := some 96) (v := undef) (a' := ?_) #[true, true, true, true, true, true, true, false, false, false, false, false, false, false, false, false, false, false, false, false, false, false, false, false, false, false] rfl rfl (any_of HT_.out (by kernel_rfl)) (fun _ _ _ h => h) (Or.inr ⟨by rfl, rfl⟩) ?_ ?_
                       rotate_left
                       ·simp only [Act.put, List.setIfInBounds_toArray, List.set_cons_zero, List.set_cons_succ, i64_w, i32_w]
                        rfl
                       refine pure_ (i := 7) (N := some 97) (v := undef) (a' := ?_) #[true, true, true, true, true, true, true, true, false, false, false, false, false, false, false, false, false, false, false, false, false, false, false, false, false, false] rfl rfl (any_of HT_.out (by kernel_rfl)) (fun _ _ _ h => h) (Or.inr ⟨by rfl, rfl⟩) ?_ ?_
                       rotate_left
                       ·simp only [Act.put, List.setIfInBounds_toArray, List.set_cons_zero, List.set_cons_succ, i64_w, i32_w]
                        rfl
                       refine pure_ (i := 8) (N := some 98) (v := undef) (a' := ?_) #[true, true, true, true, true, true, true, true, true, false, false, false, false, false, false, false, false, false, false, false, false, false, false, false, false, false] rfl rfl (any_of HT_.out (by kernel_rfl)) (fun _ _ _ h => h) (Or.inr ⟨by rfl, rfl⟩) ?_ ?_
                       rotate_left
                       ·simp only [Act.put, List.setIfInBounds_toArray, List.set_cons_zero, List.set_cons_succ, i64_w, i32_w]
                        rfl
                       refine pure_ (i := 9) (N := some 99) (v := undef) (a' := ?_) #[true, true, true, true, true, true, true, true, true, true, false, false, false, false, false, false, false, false, false, false, false, false, false, false, false, false] rfl rfl (any_of HT_.out (by kernel_rfl)) (fun _ _ _ h => h) (Or.inr ⟨by rfl, rfl⟩) ?_ ?_
                       rotate_left
                       ·simp only [Act.put, List.setIfInBounds_toArray, List.set_cons_zero, List.set_cons_succ, i64_w, i32_w]
                        rfl
                       refine pure_ (i := 10) (N := some 100) (v := undef) (a' := ?_) #[true, true, true, true, true, true, true, true, true, true, true, false, false, false, false, false, false, false, false, false, false, false, false, false, false, false] rfl rfl (any_of HT_.out (by kernel_rfl)) (fun _ _ _ h => h) (Or.inr ⟨by rfl, rfl⟩) ?_ ?_
                       rotate_left
                       ·simp only [Act.put, List.setIfInBounds_toArray, List.set_cons_zero, List.set_cons_succ, i64_w, i32_w]
                        rfl
                       refine pure_ (i := 11) (N := some 101) (v := undef) (a' := ?_) #[true, true, true, true, true, true, true, true, true, true, true, true, false, false, false, false, false, false, false, false, false, false, false, false, false, false] rfl rfl (any_of HT_.out (by kernel_rfl)) (fun _ _ _ h => h) (Or.inr ⟨by rfl, rfl⟩) ?_ ?_
                       rotate_left
                       ·simp only [Act.put, List.setIfInBounds_toArray, List.set_cons_zero, List.set_cons_succ, i64_w, i32_w]
                        rfl
                       refine pure_ (i := 12) (N := some 102) (v := undef) (a' := ?_) #[true, true, true, true, true, true, true, true, true, true, true, true, true, false, false, false, false, false, false, false, false, false, false, false, false, false] rfl rfl (any_of HT_.out (by kernel_rfl)) (fun _ _ _ h => h) (Or.inr ⟨by rfl, rfl⟩) ?_ ?_
                       rotate_left
                       ·simp only [Act.put, List.setIfInBounds_toArray, List.set_cons_zero, List.set_cons_succ, i64_w, i32_w]
                        rfl
                       refine pure_ (i := 13) (N := some 103) (v := undef) (a' := ?_) #[true, true, true, true, true, true, true, true, true, true, true, true, true, true, false, false, false, false, false, false, false, false, false, false, false, false] rfl rfl (any_of HT_.out (by kernel_rfl)) (fun _ _ _ h => h) (Or.inr ⟨by rfl, rfl⟩) ?_ ?_
                       rotate_left
                       ·simp only [Act.put, List.setIfInBounds_toArray, List.set_cons_zero, List.set_cons_succ, i64_w, i32_w]
                        rfl
                       refine pure_ (i := 14) (N := some 104) (v := undef) (a' := ?_) #[true, true, true, true, true, true, true, true, true, true, true, true, true, true, true, false, false, false, false, false, false, false, false, false, false, false] rfl rfl (any_of HT_.out (by kernel_rfl)) (fun _ _ _ h => h) (Or.inr ⟨by rfl, rfl⟩) ?_ ?_
                       rotate_left
                       ·simp only [Act.put, List.setIfInBounds_toArray, List.set_cons_zero, List.set_cons_succ, i64_w, i32_w]
                        rfl
                       refine pure_ (i := 15) (N := some 105) (v := undef) (a' := ?_) #[true, true, true, true, true, true, true, true, true, true, true, true, true, true, true, true, false, false, false, false, false, false, false, false, false, false] rfl rfl (any_of HT_.out (by kernel_rfl)) (fun _ _ _ h => h) (Or.inr ⟨by rfl, rfl⟩) ?_ ?_
                       rotate_left
                       ·simp only [Act.put, List.setIfInBounds_toArray, List.set_cons_zero, List.set_cons_succ, i64_w, i32_w]
                        rfl
                       refine pure_ (i := 16) (N := some 106) (v := undef) (a' := ?_) #[true, true, true, true, true, true, true, true, true, true, true, true, true, true, true, true, true, false, false, false, false, false, false, false, false, false] rfl rfl (any_of HT_.out (by kernel_rfl)) (fun _ _ _ h => h) (Or.inr ⟨by rfl, rfl⟩) ?_ ?_
                       rotate_left
                       ·simp only [Act.put, List.setIfInBounds_toArray, List.set_cons_zero, List.set_cons_succ, i64_w, i32_w]
                        rfl
                       refine pure_ (i := 17) (N := some 107) (v := undef) (a' := ?_) #[true, true, true, true, true, true, true, true, true, true, true, true, true, true, true, true, true, true, false, false, false, false, false, false, false, false] rfl rfl (any_of HT_.out (by kernel_rfl)) (fun _ _ _ h => h) (Or.inr ⟨by rfl, rfl⟩) ?_ ?_
                       rotate_left
                       ·simp only [Act.put, List.setIfInBounds_toArray, List.set_cons_zero, List.set_cons_succ, i64_w, i32_w]
                        rfl
                       refine pure_ (i := 18) (N := some 108) (v := undef) (a' := ?_) #[true, true, true, true, true, true, true, true, true, true, true, true, true, true, true, true, true, true, true, false, false, false, false, false, false, false] rfl rfl (any_of HT_.out (by kernel_rfl)) (fun _ _ _ h => h) (Or.inr ⟨by rfl, rfl⟩) ?_ ?_
                       rotate_left
                       ·simp only [Act.put, List.setIfInBounds_toArray, List.set_cons_zero, List.set_cons_succ, i64_w, i32_w]
                        rfl
                       refine pure_ (i := 19) (N := some 109) (v := undef) (a' := ?_) #[true, true, true, true, true, true, true, true, true, true, true, true, true, true, true, true, true, true, true, true, false, false, false, false, false, false] rfl rfl (any_of HT_.out (by kernel_rfl)) (fun _ _ _ h => h) (Or.inr ⟨by rfl, rfl⟩) ?_ ?_
                       rotate_left
                       ·simp only [Act.put, List.setIfInBounds_toArray, List.set_cons_zero, List.set_cons_succ, i64_w, i32_w]
                        rfl
                       refine pure_ (i := 20) (N := some 110) (v := undef) (a' := ?_) #[true, true, true, true, true, true, true, true, true, true, true, true, true, true, true, true, true, true, true, true, true, false, false, false, false, false] rfl rfl (any_of HT_.out (by kernel_rfl)) (fun _ _ _ h => h) (Or.inr ⟨by rfl, rfl⟩) ?_ ?_
                       rotate_left
                       ·simp only [Act.put, List.setIfInBounds_toArray, List.set_cons_zero, List.set_cons_succ, i64_w, i32_w]
                        rfl
                       refine pure_ (i := 21) (N := some 111) (v := undef) (a' := ?_) #[true, true, true, true, true, true, true, true, true, true, true, true, true, true, true, true, true, true, true, true, true, true, false, false, false, false] rfl rfl (any_of HT_.out (by kernel_rfl)) (fun _ _ _ h => h) (Or.inr ⟨by rfl, rfl⟩) ?_ ?_
                       rotate_left
                       ·simp only [Act.put, List.setIfInBounds_toArray, List.set_cons_zero, List.set_cons_succ, i64_w, i32_w]
                        rfl
                       refine pure_ (i := 22) (N := some 112) (v := undef) (a' := ?_) #[true, true, true, true, true, true, true, true, true, true, true, true, true, true, true, true, true, true, true, true, true, true, true, false, false, false] rfl rfl (any_of HT_.out (by kernel_rfl)) (fun _ _ _ h => h) (Or.inr ⟨by rfl, rfl⟩) ?_ ?_
                       rotate_left
                       ·simp only [Act.put, List.setIfInBounds_toArray, List.set_cons_zero, List.set_cons_succ, i64_w, i32_w]
                        rfl
                       refine pure_ (i := 23) (N := some 113) (v := undef) (a' := ?_) #[true, true, true, true, true, true, true, true, true, true, true, true, true, true, true, true, true, true, true, true, true, true, true, true, false, false] rfl rfl (any_of HT_.out (by kernel_rfl)) (fun _ _ _ h => h) (Or.inr ⟨by rfl, rfl⟩) ?_ ?_
                       rotate_left
                       ·simp only [Act.put, List.setIfInBounds_toArray, List.set_cons_zero, List.set_cons_succ, i64_w, i32_w]
                        rfl
                       refine pure_ (i := 24) (N := some 114) (v := ?_) (a' := ?_) #[true, true, true, true, true, true, true, true, true, true, true, true, true, true, true, true, true, true, true, true, true, true, true, true, true, false] rfl rfl (any_of HT_.out (by kernel_rfl)) (fun _ _ _ h => h) (Or.inl ⟨by rfl, ?_⟩) ?_ ?_
                       rotate_left
                       ·intro w'
                        go_simp
                        with_reducible rfl
                       rotate_left
                       ·simp only [Act.put, List.setIfInBounds_toArray, List.set_cons_zero, List.set_cons_succ, i64_w, i32_w]
                        rfl
                       refine pure_ (i := 25) (N := some 10) (v := ?_) (a' := ?_) #[true, true, true, true, true, true, true, true, true, true, true, true, true, true, true, true, true, true, true, true, true, true, true, true, true, true] rfl rfl (any_of HT_.out (by kernel_rfl)) (fun _ _ _ h => h) (Or.inl ⟨by rfl, ?_⟩) ?_ ?_
                       rotate_left
                       ·intro w'
                        go_simp
                        with_reducible rfl
                       rotate_left
                       ·simp only [Act.put, List.setIfInBounds_toArray, List.set_cons_zero, List.set_cons_succ, i64_w, i32_w]
                        rfl
                       refine done_ (done_of HT_.out (by kernel_rfl)) ?_
                       try go_wp2
                       go_roundg k8
                       case measure => have := HJ2.out; have := HJ7.out; have := HK3.out; have := HJ35.out; have := HJ54.out; have := HK6.out; have := HJ66.out; have := HK8.out; omega
                       case rel => exact ⟨(true), (wrap64 (x11_8 + 1)), (by first | rfl | (simp; done) | (simp [*]; done) | (simp; exact (by intro l_; cases l_ <;> rfl : ∀ l_ : List UInt8, l_.isEmpty = !(l_ != [])) _)), (by first | rfl | (simp; done) | (simp [*]; done) | (simp; exact (by intro l_; cases l_ <;> rfl : ∀ l_ : List UInt8, l_.isEmpty = !(l_ != [])) _)), H', ⟨by have := HJ2.out; have := HJ7.out; have := HK3.out; have := HJ35.out; have := HJ54.out; have := HK6.out; have := HJ66.out; have := HK8.out; omega⟩, ⟨rP HO_341000.out⟩, ⟨rP HO_341001.out⟩, ⟨rP HO_348000.out⟩, ⟨rP HO_348001.out⟩, ⟨rP HO_376000.out⟩, ⟨rP HO_376001.out⟩, ⟨kP BK340⟩, ⟨kP BK347⟩, ⟨kP BK375⟩, ⟨bB⟩⟩
                      ·replace c77 := Bool.eq_false_iff.mpr c77
                       subst c77
                       rw [if_neg (show ¬ (false = true) by decide)] at H
                       by_cases c82 : 0 ≤ x11_8
                       ·rw [if_pos c82] at H
                        have c82b0 : decide (0 ≤ x11_8) = true := decide_eq_true c82
                        clear c82
                        by_cases c83 : ((rd_T65 t334 x11_8).f0) = x9_6
                        ·rw [if_pos c83] at H
                         have c83b0 : (((rd_T65 t334 x11_8).f0) == x9_6) = true := beq_iff_eq.mpr c83
                         have c83b1 : (((rd_T65 t334 x11_8).f0) != x9_6) = false := bne_eq_false_iff_eq.mpr c83
                         clear c83
                         by_cases c84 : 0 ≤ x9_6
                         ·rw [if_pos c84] at H
                          have c84b0 : decide (0 ≤ x9_6) = true := decide_eq_true c84
                          clear c84
                          by_cases c85 : x9_6 < (t341.length : Int)
                          ·rw [if_pos c85] at H
                           have c85b0 : decide (x9_6 < (t341.length : Int)) = true := decide_eq_true c85
                           clear c85
                           have H' := Aside0.mk H
                           clear H
                           have hnb86 := NB340_347.out
                           have hnc86 := NB347_340.out
                           have hnb87 := NB340_375.out
                           have hnc87 := NB375_340.out
                           have hcz88_0 := cZ0 BK340
                           have hcz88_1 := cZ1 BK340
                           have hfz88_0 := blk_frozen BK340.out 0
                           have hfz88_1 := blk_frozen BK340.out 1
                           try go_wp2
                           have n0_ := Aside0.mk (Kd.R_drew HO_341000.out)
                           have n1_ := Aside0.mk (Kd.R_drew HO_341001.out)
                           have n2_ := Aside0.mk (Kd.R_drew HO_348000.out)
                           have n3_ := Aside0.mk (Kd.R_drew HO_348001.out)
                           have n4_ := Aside0.mk (Kd.R_drew HO_376000.out)
                           have n5_ := Aside0.mk (Kd.R_drew HO_376001.out)
                           have n6_ := Aside0.mk (blk_drew BK340.out)
                           have n7_ := Aside0.mk (blk_drew BK347.out)
                           have n8_ := Aside0.mk (blk_drew BK375.out)
                           have n9_ := Aside0.mk (below_drew1 HB.out)
                           clear HO_341000
                           clear HO_341001
                           clear HO_348000
                           clear HO_348001
                           clear HO_376000
                           clear HO_376001
                           clear BK340
                           clear BK347
                           clear BK375
                           clear HB
                           have HO_341000 := n0_
                           have HO_341001 := n1_
                           have HO_348000 := n2_
                           have HO_348001 := n3_
                           have HO_376000 := n4_
                           have HO_376001 := n5_
                           have BK340 := n6_
                           have BK347 := n7_
                           have BK375 := n8_
                           have HB := n9_
                           clear n0_ n1_ n2_ n3_ n4_ n5_ n6_ n7_ n8_ n9_
                           have p378 : 0 ≤ (x11_8 : Int) := dT
                           have q378 : x11_8 < (t334.length : Int) := dT
                           obtain ⟨ad378, e378, hx378_0, hx378_1⟩ := at_T65 (Kd.R_reads' HO_341001.out).2.2 x11_8 p378 q378
                           cases e378
                           replace p378 := eq_true p378
                           replace q378 := eq_true q378
                           have p379 : 0 ≤ (x11_8 : Int) := dT
                           have q379 : x11_8 < (t334.length : Int) := dT
                           obtain ⟨ad379, e379, hx379_0, hx379_1⟩ := at_T65 (Kd.R_reads' HO_341001.out).2.2 x11_8 p379 q379
                           obtain rfl : ad378 = ad379 := (by injection e379)
                           replace p379 := eq_true p379
                           replace q379 := eq_true q379
                           have p380 : 0 ≤ (x9_6 : Int) := dT
                           have q380 : x9_6 < (t341.length : Int) := dT
                           obtain ⟨ad380, e380, hx380_0⟩ := Kd.at_string (Kd.R_reads' HO_348000.out).2.2 x9_6 p380 q380
                           obtain rfl : ad376 = ad380 := (by injection e380)
                           replace p380 := eq_true p380
                           replace q380 := eq_true q380
                           refine start_ (n := 26) (S := fun w' => w'.cell? ⟨gb340, 0, none⟩ = some (.slice (some ad377) t331.length co11) ∧ w'.cell? ⟨gb340, 1, none⟩ = some (.slice (some ad378) t334.length co13) ∧ w'.cell? ⟨gb347, 0, none⟩ = some (.slice (some ad376) t341.length co17) ∧ w'.cell? ⟨gb347, 1, none⟩ = some (.slice Ao20 t344.length co20) ∧ w'.cell? (ad378.add ((x11_8).toNat * 2)) = some (.int .i64 ((rd_T65 t334 x11_8).f0)) ∧ w'.cell? ⟨(ad378.add ((x11_8).toNat * 2)).block, (ad378.add ((x11_8).toNat * 2)).off + 1, none⟩ = some (.string ((rd_T65 t334 x11_8).f1)) ∧ w'.cell? (ad378.add ((x11_8).toNat * 2)) = some (.int .i64 ((rd_T65 t334 x11_8).f0)) ∧ w'.cell? ⟨(ad378.add ((x11_8).toNat * 2)).block, (ad378.add ((x11_8).toNat * 2)).off + 1, none⟩ = some (.string ((rd_T65 t334 x11_8).f1)) ∧ w'.cell? (ad376.add (x9_6).toNat) = some (.string (rdOf ByteArray.empty t341 x9_6))) (ds := []) #[false, false, false, false, false, false, false, false, false, false, false, false, false, false, false, false, false, false, false, false, false, false, false, false, false, false] (by kernel_rfl) rfl rfl ⟨(blk_cell BK340.out 0).trans rfl, (blk_cell BK340.out 1).trans rfl, (blk_cell BK347.out 0).trans rfl, (blk_cell BK347.out 1).trans rfl, hx378_0, hx378_1, hx379_0, hx379_1, hx380_0⟩ (fun hHeld => ?_); refine with_tabW laws_FnFallen.tab22 laws_FnFallen.bits22 (fun HT_ HW_ => ?_)
                           generalize wr.drew = w89 at HO_341000 HO_341001 HO_348000 HO_348001 HO_376000 HO_376001 BK340 BK347 BK375 HB hx378_0 hx378_1 hx379_0 hx379_1 hx380_0 hHeld ⊢
                           refine pure_ (i := 0) (N := some 90) (v := ?_) (a' := ?_) #[true, false, false, false, false, false, false, false, false, false, false, false, false, false, false, false, false, false, false, false, false, false, false, false, false, false] rfl rfl (any_of HT_.out (by kernel_rfl)) (fun _ _ _ h => h) (Or.inl ⟨by rfl, ?_⟩) ?_ ?_
                           rotate_left
                           ·intro w'
                            go_simp
                            with_reducible rfl
                           rotate_left
                           ·simp only [Act.put, List.setIfInBounds_toArray, List.set_cons_zero, List.set_cons_succ, i64_w, i32_w]
                            rfl
                           refine pure_ (i := 1) (N := some 91) (v := ?_) (a' := ?_) #[true, true, false, false, false, false, false, false, false, false, false, false, false, false, false, false, false, false, false, false, false, false, false, false, false, false] rfl rfl (any_of HT_.out (by kernel_rfl)) (fun _ _ _ h => h) (Or.inl ⟨by rfl, ?_⟩) ?_ ?_
                           rotate_left
                           ·intro w'
                            go_simp
                            with_reducible rfl
                           rotate_left
                           ·simp only [Act.put, List.setIfInBounds_toArray, List.set_cons_zero, List.set_cons_succ, i64_w, i32_w]
                            rfl
                           refine pure_ (i := 2) (N := some 92) (v := ?_) (a' := ?_) #[true, true, true, false, false, false, false, false, false, false, false, false, false, false, false, false, false, false, false, false, false, false, false, false, false, false] rfl rfl (any_of HT_.out (by kernel_rfl)) (fun _ _ _ h => h) (Or.inl ⟨by rfl, ?_⟩) ?_ ?_
                           rotate_left
                           ·intro w'
                            go_simp
                            with_reducible rfl
                           rotate_left
                           ·simp only [Act.put, List.setIfInBounds_toArray, List.set_cons_zero, List.set_cons_succ, i64_w, i32_w]
                            rfl
                           refine pure_ (i := 4) (N := some 94) (v := ?_) (a' := ?_) #[true, true, true, false, true, false, false, false, false, false, false, false, false, false, false, false, false, false, false, false, false, false, false, false, false, false] rfl rfl (any_of HT_.out (by kernel_rfl)) (fun _ _ _ h => h) (Or.inl ⟨by rfl, ?_⟩) ?_ ?_
                           rotate_left
                           ·intro w'
                            go_simp
                            with_reducible rfl
                           rotate_left
                           ·simp only [Act.put, List.setIfInBounds_toArray, List.set_cons_zero, List.set_cons_succ, i64_w, i32_w]
                            rfl
                           refine pure_ (i := 8) (N := some 98) (v := ?_) (a' := ?_) #[true, true, true, false, true, false, false, false, true, false, false, false, false, false, false, false, false, false, false, false, false, false, false, false, false, false] rfl rfl (any_of HT_.out (by kernel_rfl)) (fun _ _ _ h => h) (Or.inl ⟨by rfl, ?_⟩) ?_ ?_
                           rotate_left
                           ·intro w'
                            go_simp
                            with_reducible rfl
                           rotate_left
                           ·simp only [Act.put, List.setIfInBounds_toArray, List.set_cons_zero, List.set_cons_succ, i64_w, i32_w]
                            rfl
                           refine take_ (i := 3) (N := some 93) (v := ?_) (a' := ?_) #[true, true, true, true, true, false, false, false, true, false, false, false, false, false, false, false, false, false, false, false, false, false, false, false, false, false] rfl rfl (take_ofW HT_.out HW_.out (by kernel_rfl)) (fun _ _ _ h => h) (Or.inl ⟨by rfl, ?_⟩) hHeld ?_ ?_
                           rotate_left
                           ·rintro w' ⟨s0, s1, s2, s3, s4, s5, s6, s7, s8⟩
                            go_simp
                            with_reducible rfl
                           rotate_left
                           ·simp only [Act.put, List.setIfInBounds_toArray, List.set_cons_zero, List.set_cons_succ, i64_w, i32_w]
                            rfl
                           refine pure_ (i := 5) (N := some 95) (v := ?_) (a' := ?_) #[true, true, true, true, true, true, false, false, true, false, false, false, false, false, false, false, false, false, false, false, false, false, false, false, false, false] rfl rfl (any_of HT_.out (by kernel_rfl)) (fun _ _ _ h => h) (Or.inl ⟨by rfl, ?_⟩) ?_ ?_
                           rotate_left
                           ·intro w'
                            go_simp
                            with_reducible rfl
                           rotate_left
                           ·simp only [Act.put, List.setIfInBounds_toArray, List.set_cons_zero, List.set_cons_succ, i64_w, i32_w]
                            rfl
                           refine pure_ (i := 6) (N := some 96) (v := ?_) (a' := ?_) #[true, true, true, true, true, true, true, false, true, false, false, false, false, false, false, false, false, false, false, false, false, false, false, false, false, false] rfl rfl (any_of HT_.out (by kernel_rfl)) (fun _ _ _ h => h) (Or.inl ⟨by rfl, ?_⟩) ?_ ?_
                           rotate_left
                           ·intro w'
                            go_simp
                            with_reducible rfl
                           rotate_left
                           ·simp only [Act.put, List.setIfInBounds_toArray, List.set_cons_zero, List.set_cons_succ, i64_w, i32_w]
                            rfl
                           refine take_ (i := 7) (N := some 97) (v := ?_) (a' := ?_) #[true, true, true, true, true, true, true, true, true, false, false, false, false, false, false, false, false, false, false, false, false, false, false, false, false, false] rfl rfl (take_ofW HT_.out HW_.out (by kernel_rfl)) (fun _ _ _ h => h) (Or.inl ⟨by rfl, ?_⟩) hHeld ?_ ?_
                           rotate_left
                           ·rintro w' ⟨s0, s1, s2, s3, s4, s5, s6, s7, s8⟩
                            go_simp
                            with_reducible rfl
                           rotate_left
                           ·simp only [Act.put, List.setIfInBounds_toArray, List.set_cons_zero, List.set_cons_succ, i64_w, i32_w]
                            rfl
                           refine pure_ (i := 9) (N := some 99) (v := ?_) (a' := ?_) #[true, true, true, true, true, true, true, true, true, true, false, false, false, false, false, false, false, false, false, false, false, false, false, false, false, false] rfl rfl (any_of HT_.out (by kernel_rfl)) (fun _ _ _ h => h) (Or.inl ⟨by rfl, ?_⟩) ?_ ?_
                           rotate_left
                           ·intro w'
                            go_simp
                            with_reducible rfl
                           rotate_left
                           ·simp only [Act.put, List.setIfInBounds_toArray, List.set_cons_zero, List.set_cons_succ, i64_w, i32_w]
                            rfl
                           refine pure_ (i := 10) (N := some 100) (v := ?_) (a' := ?_) #[true, true, true, true, true, true, true, true, true, true, true, false, false, false, false, false, false, false, false, false, false, false, false, false, false, false] rfl rfl (any_of HT_.out (by kernel_rfl)) (fun _ _ _ h => h) (Or.inl ⟨by rfl, ?_⟩) ?_ ?_
                           rotate_left
                           ·intro w'
                            go_simp
                            with_reducible rfl
                           rotate_left
                           ·simp only [Act.put, List.setIfInBounds_toArray, List.set_cons_zero, List.set_cons_succ, i64_w, i32_w]
                            rfl
                           refine pure_ (i := 11) (N := some 101) (v := ?_) (a' := ?_) #[true, true, true, true, true, true, true, true, true, true, true, true, false, false, false, false, false, false, false, false, false, false, false, false, false, false] rfl rfl (any_of HT_.out (by kernel_rfl)) (fun _ _ _ h => h) (Or.inl ⟨by rfl, ?_⟩) ?_ ?_
                           rotate_left
                           ·intro w'
                            go_simp
                            with_reducible rfl
                           rotate_left
                           ·simp only [Act.put, List.setIfInBounds_toArray, List.set_cons_zero, List.set_cons_succ, i64_w, i32_w]
                            rfl
                           refine pure_ (i := 13) (N := some 103) (v := ?_) (a' := ?_) #[true, true, true, true, true, true, true, true, true, true, true, true, false, true, false, false, false, false, false, false, false, false, false, false, false, false] rfl rfl (any_of HT_.out (by kernel_rfl)) (fun _ _ _ h => h) (Or.inl ⟨by rfl, ?_⟩) ?_ ?_
                           rotate_left
                           ·intro w'
                            go_simp
                            with_reducible rfl
                           rotate_left
                           ·simp only [Act.put, List.setIfInBounds_toArray, List.set_cons_zero, List.set_cons_succ, i64_w, i32_w]
                            rfl
                           refine pure_ (i := 17) (N := some 107) (v := ?_) (a' := ?_) #[true, true, true, true, true, true, true, true, true, true, true, true, false, true, false, false, false, true, false, false, false, false, false, false, false, false] rfl rfl (any_of HT_.out (by kernel_rfl)) (fun _ _ _ h => h) (Or.inl ⟨by rfl, ?_⟩) ?_ ?_
                           rotate_left
                           ·intro w'
                            go_simp
                            with_reducible rfl
                           rotate_left
                           ·simp only [Act.put, List.setIfInBounds_toArray, List.set_cons_zero, List.set_cons_succ, i64_w, i32_w]
                            rfl
                           refine pure_ (i := 19) (N := some 109) (v := ?_) (a' := ?_) #[true, true, true, true, true, true, true, true, true, true, true, true, false, true, false, false, false, true, false, true, false, false, false, false, false, false] rfl rfl (any_of HT_.out (by kernel_rfl)) (fun _ _ _ h => h) (Or.inl ⟨by rfl, ?_⟩) ?_ ?_
                           rotate_left
                           ·intro w'
                            go_simp
                            with_reducible rfl
                           rotate_left
                           ·simp only [Act.put, List.setIfInBounds_toArray, List.set_cons_zero, List.set_cons_succ, i64_w, i32_w]
                            rfl
                           refine take_ (i := 12) (N := some 102) (v := ?_) (a' := ?_) #[true, true, true, true, true, true, true, true, true, true, true, true, true, true, false, false, false, true, false, true, false, false, false, false, false, false] rfl rfl (take_ofW HT_.out HW_.out (by kernel_rfl)) (fun _ _ _ h => h) (Or.inl ⟨by rfl, ?_⟩) hHeld ?_ ?_
                           rotate_left
                           ·rintro w' ⟨s0, s1, s2, s3, s4, s5, s6, s7, s8⟩
                            go_simp
                            with_reducible rfl
                           rotate_left
                           ·simp only [Act.put, List.setIfInBounds_toArray, List.set_cons_zero, List.set_cons_succ, i64_w, i32_w]
                            rfl
                           refine pure_ (i := 14) (N := some 104) (v := ?_) (a' := ?_) #[true, true, true, true, true, true, true, true, true, true, true, true, true, true, true, false, false, true, false, true, false, false, false, false, false, false] rfl rfl (any_of HT_.out (by kernel_rfl)) (fun _ _ _ h => h) (Or.inl ⟨by rfl, ?_⟩) ?_ ?_
                           rotate_left
                           ·intro w'
                            go_simp
                            with_reducible rfl
                           rotate_left
                           ·simp only [Act.put, List.setIfInBounds_toArray, List.set_cons_zero, List.set_cons_succ, i64_w, i32_w]
                            rfl
                           refine pure_ (i := 15) (N := some 105) (v := ?_) (a' := ?_) #[true, true, true, true, true, true, true, true, true, true, true, true, true, true, true, true, false, true, false, true, false, false, false, false, false, false] rfl rfl (any_of HT_.out (by kernel_rfl)) (fun _ _ _ h => h) (Or.inl ⟨by rfl, ?_⟩) ?_ ?_
                           rotate_left
                           ·intro w'
                            go_simp
                            with_reducible rfl
                           rotate_left
                           ·simp only [Act.put, List.setIfInBounds_toArray, List.set_cons_zero, List.set_cons_succ, i64_w, i32_w]
                            rfl
                           refine take_ (i := 16) (N := some 106) (v := ?_) (a' := ?_) #[true, true, true, true, true, true, true, true, true, true, true, true, true, true, true, true, true, true, false, true, false, false, false, false, false, false] rfl rfl (take_ofW HT_.out HW_.out (by kernel_rfl)) (fun _ _ _ h => h) (Or.inl ⟨by rfl, ?_⟩) hHeld ?_ ?_
                           rotate_left
                           ·rintro w' ⟨s0, s1, s2, s3, s4, s5, s6, s7, s8⟩
                            go_simp
                            with_reducible rfl
                           rotate_left
                           ·simp only [Act.put, List.setIfInBounds_toArray, List.set_cons_zero, List.set_cons_succ, i64_w, i32_w]
                            rfl
                           refine take_ (i := 18) (N := some 108) (v := ?_) (a' := ?_) #[true, true, true, true, true, true, true, true, true, true, true, true, true, true, true, true, true, true, true, true, false, false, false, false, false, false] rfl rfl (take_ofW HT_.out HW_.out (by kernel_rfl)) (fun _ _ _ h => h) (Or.inl ⟨by rfl, ?_⟩) hHeld ?_ ?_
                           rotate_left
                           ·rintro w' ⟨s0, s1, s2, s3, s4, s5, s6, s7, s8⟩
                            go_simp
                            with_reducible rfl
                           rotate_left
                           ·simp only [Act.put, List.setIfInBounds_toArray, List.set_cons_zero, List.set_cons_succ, i64_w, i32_w]
                            rfl
                           refine pure_ (i := 20) (N := some 110) (v := ?_) (a' := ?_) #[true, true, true, true, true, true, true, true, true, true, true, true, true, true, true, true, true, true, true, true, true, false, false, false, false, false] rfl rfl (any_of HT_.out (by kernel_rfl)) (fun _ _ _ h => h) (Or.inl ⟨by rfl, ?_⟩) ?_ ?_
                           rotate_left
                           ·intro w'
                            go_simp
                            with_reducible rfl
                           rotate_left
                           ·simp only [Act.put, List.setIfInBounds_toArray, List.set_cons_zero, List.set_cons_succ, i64_w, i32_w]
                            rfl
                           refine take_ (i := 21) (N := some 111) (v := ?_) (a' := ?_) #[true, true, true, true, true, true, true, true, true, true, true, true, true, true, true, true, true, true, true, true, true, true, false, false, false, false] rfl rfl (take_ofW HT_.out HW_.out (by kernel_rfl)) (fun _ _ _ h => h) (Or.inl ⟨by rfl, ?_⟩) hHeld ?_ ?_
                           rotate_left
                           ·rintro w' ⟨s0, s1, s2, s3, s4, s5, s6, s7, s8⟩
                            go_simp
                            with_reducible rfl
                           rotate_left
                           ·simp only [Act.put, List.setIfInBounds_toArray, List.set_cons_zero, List.set_cons_succ, i64_w, i32_w]
                            rfl
                           refine pure_ (i := 22) (N := some 112) (v := ?_) (a' := ?_) #[true, true, true, true, true, true, true, true, true, true, true, true, true, true, true, true, true, true, true, true, true, true, true, false, false, false] rfl rfl (any_of HT_.out (by kernel_rfl)) (fun _ _ _ h => h) (Or.inl ⟨by rfl, ?_⟩) ?_ ?_
                           rotate_left
                           ·intro w'
                            go_simp
                            with_reducible rfl
                           rotate_left
                           ·simp only [Act.put, List.setIfInBounds_toArray, List.set_cons_zero, List.set_cons_succ, i64_w, i32_w]
                            rfl
                           refine pure_ (i := 23) (N := some 113) (v := ?_) (a' := ?_) #[true, true, true, true, true, true, true, true, true, true, true, true, true, true, true, true, true, true, true, true, true, true, true, true, false, false] rfl rfl (any_of HT_.out (by kernel_rfl)) (fun _ _ _ h => h) (Or.inl ⟨by rfl, ?_⟩) ?_ ?_
                           rotate_left
                           ·intro w'
                            go_simp
                            with_reducible rfl
                           rotate_left
                           ·simp only [Act.put, List.setIfInBounds_toArray, List.set_cons_zero, List.set_cons_succ, i64_w, i32_w]
                            rfl
                           refine pure_ (i := 24) (N := some 114) (v := ?_) (a' := ?_) #[true, true, true, true, true, true, true, true, true, true, true, true, true, true, true, true, true, true, true, true, true, true, true, true, true, false] rfl rfl (any_of HT_.out (by kernel_rfl)) (fun _ _ _ h => h) (Or.inl ⟨by rfl, ?_⟩) ?_ ?_
                           rotate_left
                           ·intro w'
                            go_simp
                            with_reducible rfl
                           rotate_left
                           ·simp only [Act.put, List.setIfInBounds_toArray, List.set_cons_zero, List.set_cons_succ, i64_w, i32_w]
                            rfl
                           refine pure_ (i := 25) (N := some 10) (v := ?_) (a' := ?_) #[true, true, true, true, true, true, true, true, true, true, true, true, true, true, true, true, true, true, true, true, true, true, true, true, true, true] rfl rfl (any_of HT_.out (by kernel_rfl)) (fun _ _ _ h => h) (Or.inl ⟨by rfl, ?_⟩) ?_ ?_
                           rotate_left
                           ·intro w'
                            go_simp
                            with_reducible rfl
                           rotate_left
                           ·simp only [Act.put, List.setIfInBounds_toArray, List.set_cons_zero, List.set_cons_succ, i64_w, i32_w]
                            rfl
                           refine done_ (done_of HT_.out (by kernel_rfl)) ?_
                           try go_wp2
                           go_roundg k8
                           case measure => have := HJ2.out; have := HJ7.out; have := HK3.out; have := HJ35.out; have := HJ54.out; have := HK6.out; have := HJ66.out; have := HK8.out; omega
                           case rel => exact ⟨((((rd_T65 t334 x11_8).f1).toList == (rdOf ByteArray.empty t341 x9_6).toList)), (wrap64 (x11_8 + 1)), (by first | rfl | (simp; done) | (simp [*]; done) | (simp; exact (by intro l_; cases l_ <;> rfl : ∀ l_ : List UInt8, l_.isEmpty = !(l_ != [])) _)), (by first | rfl | (simp; done) | (simp [*]; done) | (simp; exact (by intro l_; cases l_ <;> rfl : ∀ l_ : List UInt8, l_.isEmpty = !(l_ != [])) _)), H', ⟨by have := HJ2.out; have := HJ7.out; have := HK3.out; have := HJ35.out; have := HJ54.out; have := HK6.out; have := HJ66.out; have := HK8.out; omega⟩, ⟨rP HO_341000.out⟩, ⟨rP HO_341001.out⟩, ⟨rP HO_348000.out⟩, ⟨rP HO_348001.out⟩, ⟨rP HO_376000.out⟩, ⟨rP HO_376001.out⟩, ⟨kP BK340⟩, ⟨kP BK347⟩, ⟨kP BK375⟩, ⟨bB⟩⟩
                          ·rw [if_neg c85] at H
                           exact absurd H (by simp)
                         ·rw [if_neg c84] at H
                          exact absurd H (by simp)
                        ·rw [if_neg c83] at H
                         have c83b0 : (((rd_T65 t334 x11_8).f0) == x9_6) = false := beq_eq_false_iff_ne.mpr c83
                         have c83b1 : (((rd_T65 t334 x11_8).f0) != x9_6) = true := bne_iff_ne.mpr c83
                         have H' := Aside0.mk H
                         clear H
                         have hnb90 := NB340_347.out
                         have hnc90 := NB347_340.out
                         have hnb91 := NB340_375.out
                         have hnc91 := NB375_340.out
                         have hcz92_0 := cZ0 BK340
                         have hcz92_1 := cZ1 BK340
                         have hfz92_0 := blk_frozen BK340.out 0
                         have hfz92_1 := blk_frozen BK340.out 1
                         try go_wp2
                         have n0_ := Aside0.mk (Kd.R_drew HO_341000.out)
                         have n1_ := Aside0.mk (Kd.R_drew HO_341001.out)
                         have n2_ := Aside0.mk (Kd.R_drew HO_348000.out)
                         have n3_ := Aside0.mk (Kd.R_drew HO_348001.out)
                         have n4_ := Aside0.mk (Kd.R_drew HO_376000.out)
                         have n5_ := Aside0.mk (Kd.R_drew HO_376001.out)
                         have n6_ := Aside0.mk (blk_drew BK340.out)
                         have n7_ := Aside0.mk (blk_drew BK347.out)
                         have n8_ := Aside0.mk (blk_drew BK375.out)
                         have n9_ := Aside0.mk (below_drew1 HB.out)
                         clear HO_341000
                         clear HO_341001
                         clear HO_348000
                         clear HO_348001
                         clear HO_376000
                         clear HO_376001
                         clear BK340
                         clear BK347
                         clear BK375
                         clear HB
                         have HO_341000 := n0_
                         have HO_341001 := n1_
                         have HO_348000 := n2_
                         have HO_348001 := n3_
                         have HO_376000 := n4_
                         have HO_376001 := n5_
                         have BK340 := n6_
                         have BK347 := n7_
                         have BK375 := n8_
                         have HB := n9_
                         clear n0_ n1_ n2_ n3_ n4_ n5_ n6_ n7_ n8_ n9_
                         have p378 : 0 ≤ (x11_8 : Int) := dT
                         have q378 : x11_8 < (t334.length : Int) := dT
                         obtain ⟨ad378, e378, hx378_0, hx378_1⟩ := at_T65 (Kd.R_reads' HO_341001.out).2.2 x11_8 p378 q378
                         cases e378
                         replace p378 := eq_true p378
                         replace q378 := eq_true q378
                         refine start_ (n := 26) (S := fun w' => w'.cell? ⟨gb340, 0, none⟩ = some (.slice (some ad377) t331.length co11) ∧ w'.cell? ⟨gb340, 1, none⟩ = some (.slice (some ad378) t334.length co13) ∧ w'.cell? (ad378.add ((x11_8).toNat * 2)) = some (.int .i64 ((rd_T65 t334 x11_8).f0)) ∧ w'.cell? ⟨(ad378.add ((x11_8).toNat * 2)).block, (ad378.add ((x11_8).toNat * 2)).off + 1, none⟩ = some (.string ((rd_T65 t334 x11_8).f1))) (ds := []) #[false, false, false, false, false, false, false, false, false, false, false, false, false, false, false, false, false, false, false, false, false, false, false, false, false, false] (by kernel_rfl) rfl rfl ⟨(blk_cell BK340.out 0).trans rfl, (blk_cell BK340.out 1).trans rfl, hx378_0, hx378_1⟩ (fun hHeld => ?_); refine with_tabW laws_FnFallen.tab22 laws_FnFallen.bits22 (fun HT_ HW_ => ?_)
                         generalize wr.drew = w93 at HO_341000 HO_341001 HO_348000 HO_348001 HO_376000 HO_376001 BK340 BK347 BK375 HB hx378_0 hx378_1 hHeld ⊢
                         refine pure_ (i := 0) (N := some 90) (v := ?_) (a' := ?_) #[true, false, false, false, false, false, false, false, false, false, false, false, false, false, false, false, false, false, false, false, false, false, false, false, false, false] rfl rfl (any_of HT_.out (by kernel_rfl)) (fun _ _ _ h => h) (Or.inl ⟨by rfl, ?_⟩) ?_ ?_
                         rotate_left
                         ·intro w'
                          go_simp
                          with_reducible rfl
                         rotate_left
                         ·simp only [Act.put, List.setIfInBounds_toArray, List.set_cons_zero, List.set_cons_succ, i64_w, i32_w]
                          rfl
                         refine pure_ (i := 1) (N := some 91) (v := ?_) (a' := ?_) #[true, true, false, false, false, false, false, false, false, false, false, false, false, false, false, false, false, false, false, false, false, false, false, false, false, false] rfl rfl (any_of HT_.out (by kernel_rfl)) (fun _ _ _ h => h) (Or.inl ⟨by rfl, ?_⟩) ?_ ?_
                         rotate_left
                         ·intro w'
                          go_simp
                          with_reducible rfl
                         rotate_left
                         ·simp only [Act.put, List.setIfInBounds_toArray, List.set_cons_zero, List.set_cons_succ, i64_w, i32_w]
                          rfl
                         refine pure_ (i := 2) (N := some 92) (v := ?_) (a' := ?_) #[true, true, true, false, false, false, false, false, false, false, false, false, false, false, false, false, false, false, false, false, false, false, false, false, false, false] rfl rfl (any_of HT_.out (by kernel_rfl)) (fun _ _ _ h => h) (Or.inl ⟨by rfl, ?_⟩) ?_ ?_
                         rotate_left
                         ·intro w'
                          go_simp
                          with_reducible rfl
                         rotate_left
                         ·simp only [Act.put, List.setIfInBounds_toArray, List.set_cons_zero, List.set_cons_succ, i64_w, i32_w]
                          rfl
                         refine pure_ (i := 4) (N := some 94) (v := ?_) (a' := ?_) #[true, true, true, false, true, false, false, false, false, false, false, false, false, false, false, false, false, false, false, false, false, false, false, false, false, false] rfl rfl (any_of HT_.out (by kernel_rfl)) (fun _ _ _ h => h) (Or.inl ⟨by rfl, ?_⟩) ?_ ?_
                         rotate_left
                         ·intro w'
                          go_simp
                          with_reducible rfl
                         rotate_left
                         ·simp only [Act.put, List.setIfInBounds_toArray, List.set_cons_zero, List.set_cons_succ, i64_w, i32_w]
                          rfl
                         refine pure_ (i := 8) (N := some 98) (v := ?_) (a' := ?_) #[true, true, true, false, true, false, false, false, true, false, false, false, false, false, false, false, false, false, false, false, false, false, false, false, false, false] rfl rfl (any_of HT_.out (by kernel_rfl)) (fun _ _ _ h => h) (Or.inl ⟨by rfl, ?_⟩) ?_ ?_
                         rotate_left
                         ·intro w'
                          go_simp
                          with_reducible rfl
                         rotate_left
                         ·simp only [Act.put, List.setIfInBounds_toArray, List.set_cons_zero, List.set_cons_succ, i64_w, i32_w]
                          rfl
                         refine take_ (i := 3) (N := some 93) (v := ?_) (a' := ?_) #[true, true, true, true, true, false, false, false, true, false, false, false, false, false, false, false, false, false, false, false, false, false, false, false, false, false] rfl rfl (take_ofW HT_.out HW_.out (by kernel_rfl)) (fun _ _ _ h => h) (Or.inl ⟨by rfl, ?_⟩) hHeld ?_ ?_
                         rotate_left
                         ·rintro w' ⟨s0, s1, s2, s3⟩
                          go_simp
                          with_reducible rfl
                         rotate_left
                         ·simp only [Act.put, List.setIfInBounds_toArray, List.set_cons_zero, List.set_cons_succ, i64_w, i32_w]
                          rfl
                         refine pure_ (i := 5) (N := some 95) (v := ?_) (a' := ?_) #[true, true, true, true, true, true, false, false, true, false, false, false, false, false, false, false, false, false, false, false, false, false, false, false, false, false] rfl rfl (any_of HT_.out (by kernel_rfl)) (fun _ _ _ h => h) (Or.inl ⟨by rfl, ?_⟩) ?_ ?_
                         rotate_left
                         ·intro w'
                          go_simp
                          with_reducible rfl
                         rotate_left
                         ·simp only [Act.put, List.setIfInBounds_toArray, List.set_cons_zero, List.set_cons_succ, i64_w, i32_w]
                          rfl
                         refine pure_ (i := 6) (N := some 96) (v := ?_) (a' := ?_) #[true, true, true, true, true, true, true, false, true, false, false, false, false, false, false, false, false, false, false, false, false, false, false, false, false, false] rfl rfl (any_of HT_.out (by kernel_rfl)) (fun _ _ _ h => h) (Or.inl ⟨by rfl, ?_⟩) ?_ ?_
                         rotate_left
                         ·intro w'
                          go_simp
                          with_reducible rfl
                         rotate_left
                         ·simp only [Act.put, List.setIfInBounds_toArray, List.set_cons_zero, List.set_cons_succ, i64_w, i32_w]
                          rfl
                         refine take_ (i := 7) (N := some 97) (v := ?_) (a' := ?_) #[true, true, true, true, true, true, true, true, true, false, false, false, false, false, false, false, false, false, false, false, false, false, false, false, false, false] rfl rfl (take_ofW HT_.out HW_.out (by kernel_rfl)) (fun _ _ _ h => h) (Or.inl ⟨by rfl, ?_⟩) hHeld ?_ ?_
                         rotate_left
                         ·rintro w' ⟨s0, s1, s2, s3⟩
                          go_simp
                          with_reducible rfl
                         rotate_left
                         ·simp only [Act.put, List.setIfInBounds_toArray, List.set_cons_zero, List.set_cons_succ, i64_w, i32_w]
                          rfl
                         refine pure_ (i := 9) (N := some 99) (v := ?_) (a' := ?_) #[true, true, true, true, true, true, true, true, true, true, false, false, false, false, false, false, false, false, false, false, false, false, false, false, false, false] rfl rfl (any_of HT_.out (by kernel_rfl)) (fun _ _ _ h => h) (Or.inl ⟨by rfl, ?_⟩) ?_ ?_
                         rotate_left
                         ·intro w'
                          go_simp
                          with_reducible rfl
                         rotate_left
                         ·simp only [Act.put, List.setIfInBounds_toArray, List.set_cons_zero, List.set_cons_succ, i64_w, i32_w]
                          rfl
                         refine pure_ (i := 10) (N := some 100) (v := ?_) (a' := ?_) #[true, true, true, true, true, true, true, true, true, true, true, false, false, false, false, false, false, false, false, false, false, false, false, false, false, false] rfl rfl (any_of HT_.out (by kernel_rfl)) (fun _ _ _ h => h) (Or.inl ⟨by rfl, ?_⟩) ?_ ?_
                         rotate_left
                         ·intro w'
                          go_simp
                          with_reducible rfl
                         rotate_left
                         ·simp only [Act.put, List.setIfInBounds_toArray, List.set_cons_zero, List.set_cons_succ, i64_w, i32_w]
                          rfl
                         refine pure_ (i := 11) (N := some 101) (v := undef) (a' := ?_) #[true, true, true, true, true, true, true, true, true, true, true, true, false, false, false, false, false, false, false, false, false, false, false, false, false, false] rfl rfl (any_of HT_.out (by kernel_rfl)) (fun _ _ _ h => h) (Or.inr ⟨by rfl, rfl⟩) ?_ ?_
                         rotate_left
                         ·simp only [Act.put, List.setIfInBounds_toArray, List.set_cons_zero, List.set_cons_succ, i64_w, i32_w]
                          rfl
                         refine pure_ (i := 12) (N := some 102) (v := undef) (a' := ?_) #[true, true, true, true, true, true, true, true, true, true, true, true, true, false, false, false, false, false, false, false, false, false, false, false, false, false] rfl rfl (any_of HT_.out (by kernel_rfl)) (fun _ _ _ h => h) (Or.inr ⟨by rfl, rfl⟩) ?_ ?_
                         rotate_left
                         ·simp only [Act.put, List.setIfInBounds_toArray, List.set_cons_zero, List.set_cons_succ, i64_w, i32_w]
                          rfl
                         refine pure_ (i := 13) (N := some 103) (v := undef) (a' := ?_) #[true, true, true, true, true, true, true, true, true, true, true, true, true, true, false, false, false, false, false, false, false, false, false, false, false, false] rfl rfl (any_of HT_.out (by kernel_rfl)) (fun _ _ _ h => h) (Or.inr ⟨by rfl, rfl⟩) ?_ ?_
                         rotate_left
                         ·simp only [Act.put, List.setIfInBounds_toArray, List.set_cons_zero, List.set_cons_succ, i64_w, i32_w]
                          rfl
                         refine pure_ (i := 14) (N := some 104) (v := undef) (a' := ?_) #[true, true, true, true, true, true, true, true, true, true, true, true, true, true, true, false, false, false, false, false, false, false, false, false, false, false] rfl rfl (any_of HT_.out (by kernel_rfl)) (fun _ _ _ h => h) (Or.inr ⟨by rfl, rfl⟩) ?_ ?_
                         rotate_left
                         ·simp only [Act.put, List.setIfInBounds_toArray, List.set_cons_zero, List.set_cons_succ, i64_w, i32_w]
                          rfl
                         refine pure_ (i := 15) (N := some 105) (v := undef) (a' := ?_) #[true, true, true, true, true, true, true, true, true, true, true, true, true, true, true, true, false, false, false, false, false, false, false, false, false, false] rfl rfl (any_of HT_.out (by kernel_rfl)) (fun _ _ _ h => h) (Or.inr ⟨by rfl, rfl⟩) ?_ ?_
                         rotate_left
                         ·simp only [Act.put, List.setIfInBounds_toArray, List.set_cons_zero, List.set_cons_succ, i64_w, i32_w]
                          rfl
                         refine pure_ (i := 16) (N := some 106) (v := undef) (a' := ?_) #[true, true, true, true, true, true, true, true, true, true, true, true, true, true, true, true, true, false, false, false, false, false, false, false, false, false] rfl rfl (any_of HT_.out (by kernel_rfl)) (fun _ _ _ h => h) (Or.inr ⟨by rfl, rfl⟩) ?_ ?_
                         rotate_left
                         ·simp only [Act.put, List.setIfInBounds_toArray, List.set_cons_zero, List.set_cons_succ, i64_w, i32_w]
                          rfl
                         refine pure_ (i := 17) (N := some 107) (v := undef) (a' := ?_) #[true, true, true, true, true, true, true, true, true, true, true, true, true, true, true, true, true, true, false, false, false, false, false, false, false, false] rfl rfl (any_of HT_.out (by kernel_rfl)) (fun _ _ _ h => h) (Or.inr ⟨by rfl, rfl⟩) ?_ ?_
                         rotate_left
                         ·simp only [Act.put, List.setIfInBounds_toArray, List.set_cons_zero, List.set_cons_succ, i64_w, i32_w]
                          rfl
                         refine pure_ (i := 18) (N := some 108) (v := undef) (a' := ?_) #[true, true, true, true, true, true, true, true, true, true, true, true, true, true, true, true, true, true, true, false, false, false, false, false, false, false] rfl rfl (any_of HT_.out (by kernel_rfl)) (fun _ _ _ h => h) (Or.inr ⟨by rfl, rfl⟩) ?_ ?_
                         rotate_left
                         ·simp only [Act.put, List.setIfInBounds_toArray, List.set_cons_zero, List.set_cons_succ, i64_w, i32_w]
                          rfl
                         refine pure_ (i := 19) (N := some 109) (v := undef) (a' := ?_) #[true, true, true, true, true, true, true, true, true, true, true, true, true, true, true, true, true, true, true, true, false, false, false, false, false, false] rfl rfl (any_of HT_.out (by kernel_rfl)) (fun _ _ _ h => h) (Or.inr ⟨by rfl, rfl⟩) ?_ ?_
                         rotate_left
                         ·simp only [Act.put, List.setIfInBounds_toArray, List.set_cons_zero, List.set_cons_succ, i64_w, i32_w]
                          rfl
                         refine pure_ (i := 20) (N := some 110) (v := undef) (a' := ?_) #[true, true, true, true, true, true, true, true, true, true, true, true, true, true, true, true, true, true, true, true, true, false, false, false, false, false] rfl rfl (any_of HT_.out (by kernel_rfl)) (fun _ _ _ h => h) (Or.inr ⟨by rfl, rfl⟩) ?_ ?_
                         rotate_left
                         ·simp only [Act.put, List.setIfInBounds_toArray, List.set_cons_zero, List.set_cons_succ, i64_w, i32_w]
                          rfl
                         refine pure_ (i := 21) (N := some 111) (v := undef) (a' := ?_) #[true, true, true, true, true, true, true, true, true, true, true, true, true, true, true, true, true, true, true, true, true, true, false, false, false, false] rfl rfl (any_of HT_.out (by kernel_rfl)) (fun _ _ _ h => h) (Or.inr ⟨by rfl, rfl⟩) ?_ ?_
                         rotate_left
                         ·simp only [Act.put, List.setIfInBounds_toArray, List.set_cons_zero, List.set_cons_succ, i64_w, i32_w]
                          rfl
                         refine pure_ (i := 22) (N := some 112) (v := undef) (a' := ?_) #[true, true, true, true, true, true, true, true, true, true, true, true, true, true, true, true, true, true, true, true, true, true, true, false, false, false] rfl rfl (any_of HT_.out (by kernel_rfl)) (fun _ _ _ h => h) (Or.inr ⟨by rfl, rfl⟩) ?_ ?_
                         rotate_left
                         ·simp only [Act.put, List.setIfInBounds_toArray, List.set_cons_zero, List.set_cons_succ, i64_w, i32_w]
                          rfl
                         refine pure_ (i := 23) (N := some 113) (v := ?_) (a' := ?_) #[true, true, true, true, true, true, true, true, true, true, true, true, true, true, true, true, true, true, true, true, true, true, true, true, false, false] rfl rfl (any_of HT_.out (by kernel_rfl)) (fun _ _ _ h => h) (Or.inl ⟨by rfl, ?_⟩) ?_ ?_
                         rotate_left
                         ·intro w'
                          go_simp
                          with_reducible rfl
                         rotate_left
                         ·simp only [Act.put, List.setIfInBounds_toArray, List.set_cons_zero, List.set_cons_succ, i64_w, i32_w]
                          rfl
                         refine pure_ (i := 24) (N := some 114) (v := ?_) (a' := ?_) #[true, true, true, true, true, true, true, true, true, true, true, true, true, true, true, true, true, true, true, true, true, true, true, true, true, false] rfl rfl (any_of HT_.out (by kernel_rfl)) (fun _ _ _ h => h) (Or.inl ⟨by rfl, ?_⟩) ?_ ?_
                         rotate_left
                         ·intro w'
                          go_simp
                          with_reducible rfl
                         rotate_left
                         ·simp only [Act.put, List.setIfInBounds_toArray, List.set_cons_zero, List.set_cons_succ, i64_w, i32_w]
                          rfl
                         refine pure_ (i := 25) (N := some 10) (v := ?_) (a' := ?_) #[true, true, true, true, true, true, true, true, true, true, true, true, true, true, true, true, true, true, true, true, true, true, true, true, true, true] rfl rfl (any_of HT_.out (by kernel_rfl)) (fun _ _ _ h => h) (Or.inl ⟨by rfl, ?_⟩) ?_ ?_
                         rotate_left
                         ·intro w'
                          go_simp
                          with_reducible rfl
                         rotate_left
                         ·simp only [Act.put, List.setIfInBounds_toArray, List.set_cons_zero, List.set_cons_succ, i64_w, i32_w]
                          rfl
                         refine done_ (done_of HT_.out (by kernel_rfl)) ?_
                         try go_wp2
                         go_roundg k8
                         case measure => have := HJ2.out; have := HJ7.out; have := HK3.out; have := HJ35.out; have := HJ54.out; have := HK6.out; have := HJ66.out; have := HK8.out; omega
                         case rel => exact ⟨(false), (wrap64 (x11_8 + 1)), (by first | rfl | (simp; done) | (simp [*]; done) | (simp; exact (by intro l_; cases l_ <;> rfl : ∀ l_ : List UInt8, l_.isEmpty = !(l_ != [])) _)), (by first | rfl | (simp; done) | (simp [*]; done) | (simp; exact (by intro l_; cases l_ <;> rfl : ∀ l_ : List UInt8, l_.isEmpty = !(l_ != [])) _)), H', ⟨by have := HJ2.out; have := HJ7.out; have := HK3.out; have := HJ35.out; have := HJ54.out; have := HK6.out; have := HJ66.out; have := HK8.out; omega⟩, ⟨rP HO_341000.out⟩, ⟨rP HO_341001.out⟩, ⟨rP HO_348000.out⟩, ⟨rP HO_348001.out⟩, ⟨rP HO_376000.out⟩, ⟨rP HO_376001.out⟩, ⟨kP BK340⟩, ⟨kP BK347⟩, ⟨kP BK375⟩, ⟨bB⟩⟩
                       ·rw [if_neg c82] at H
                        exact absurd H (by simp)
                     ·rw [if_neg c76] at H
                      have c76b0 : decide (x11_8 < (t334.length : Int)) = false := decide_eq_false c76
                      clear c76
                      replace H := Option.bind_eq_some_iff.mp H
                      obtain ⟨⟨t381, t382⟩, A940, H⟩ := H
                      try dsimp only at H
                      have A94 := Aside0.mk A940
                      clear A940
                      by_cases c95 : x10_8 = true
                      ·subst c95
                       rw [if_pos rfl] at H
                       by_cases c96 : t382 = true
                       ·subst c96
                        rw [if_pos rfl] at H
                        by_cases c97 : 0 ≤ x9_6
                        ·rw [if_pos c97] at H
                         have c97b0 : decide (0 ≤ x9_6) = true := decide_eq_true c97
                         clear c97
                         by_cases c98 : x9_6 < (t331.length : Int)
                         ·rw [if_pos c98] at H
                          have c98b0 : decide (x9_6 < (t331.length : Int)) = true := decide_eq_true c98
                          clear c98
                          by_cases c99 : t381.toList = (rdOf ByteArray.empty t331 x9_6).toList
                          ·rw [if_pos c99] at H
                           have c99b0 : (t381.toList == (rdOf ByteArray.empty t331 x9_6).toList) = true := beq_iff_eq.mpr c99
                           have c99b1 : (t381.toList != (rdOf ByteArray.empty t331 x9_6).toList) = false := bne_eq_false_iff_eq.mpr c99
                           clear c99
                           have H' := Aside0.mk H
                           clear H
                           have hnb100 := NB340_347.out
                           have hnc100 := NB347_340.out
                           have hnb101 := NB340_375.out
                           have hnc101 := NB375_340.out
                           have hcz102_0 := cZ0 BK340
                           have hcz102_1 := cZ1 BK340
                           have hfz102_0 := blk_frozen BK340.out 0
                           have hfz102_1 := blk_frozen BK340.out 1
                           have hnb103 := NB375_347.out
                           have hnc103 := NB347_375.out
                           have hcz104_0 := cZ0 BK375
                           have hcz104_1 := cZ1 BK375
                           have hfz104_0 := blk_frozen BK375.out 0
                           have hfz104_1 := blk_frozen BK375.out 1
                           go_wp2_with (first | ((with_reducible refine gate_callee (f := 21) rfl ?_); refine gL (some 118) Try.func21 #[.agg #[.slice Ao62 t369.length co62, .slice Ao66 t372.length co66], .int .i64 x9_6] ?_; (with_reducible refine (impl_SectorRead.calls k8 _ _ t369 _ _ t372 x9_6 t381 true _ ?side1 ?side2 ?side3 ?side4 A94.out).mono ?_); (case side1 => exact cR HO_376000); (case side2 => exact (Kd.R_reads' HO_376000.out).2.1); (case side3 => exact cR HO_376001); (case side4 => exact (Kd.R_reads' HO_376001.out).2.1); rintro e w105 ⟨rfl, hb⟩; refine ⟨_, rfl, ?_⟩; have n_ := And.intro (rB HO_341000 hb) (And.intro (rB HO_341001 hb) (And.intro (rB HO_348000 hb) (And.intro (rB HO_348001 hb) (And.intro (rB HO_376000 hb) (And.intro (rB HO_376001 hb) (And.intro (kB BK340 hb) (And.intro (kB BK347 hb) (And.intro (kB BK375 hb) (sB HB hb))))))))); clear HO_341000 HO_341001 HO_348000 HO_348001 HO_376000 HO_376001 BK340 BK347 BK375 HB; obtain ⟨HO_341000, HO_341001, HO_348000, HO_348001, HO_376000, HO_376001, BK340, BK347, BK375, HB⟩ := n_; (try clear hb); have hcz106_0 := cZ0 BK340; have hcz106_1 := cZ1 BK340; have hfz106_0 := blk_frozen BK340.out 0; have hfz106_1 := blk_frozen BK340.out 1; have p383 : 0 ≤ (x9_6 : Int) := dT; have q383 : x9_6 < (t331.length : Int) := dT; obtain ⟨ad383, e383, hx383_0⟩ := Kd.at_string (Kd.R_reads' HO_341000.out).2.2 x9_6 p383 q383; obtain rfl : ad377 = ad383 := (by injection e383); replace p383 := eq_true p383; replace q383 := eq_true q383))
                           go_roundg k8
                           case measure => have := HJ2.out; have := HJ7.out; have := HK3.out; have := HJ35.out; have := HJ54.out; have := HK6.out; have := HJ66.out; have := HK8.out; omega
                           case rel => exact ⟨(wrap64 (x9_6 + 1)), (by first | rfl | (simp; done) | (simp [*]; done) | (simp; exact (by intro l_; cases l_ <;> rfl : ∀ l_ : List UInt8, l_.isEmpty = !(l_ != [])) _)), H', ⟨by have := HJ2.out; have := HJ7.out; have := HK3.out; have := HJ35.out; have := HJ54.out; have := HK6.out; have := HJ66.out; have := HK8.out; omega⟩, ⟨rP HO_341000.out⟩, ⟨rP HO_341001.out⟩, ⟨rP HO_348000.out⟩, ⟨rP HO_348001.out⟩, ⟨rP HO_376000.out⟩, ⟨rP HO_376001.out⟩, ⟨kP BK340⟩, ⟨kP BK347⟩, ⟨kP BK375⟩, ⟨bB⟩⟩
                          ·rw [if_neg c99] at H
                           have c99b0 : (t381.toList == (rdOf ByteArray.empty t331 x9_6).toList) = false := beq_eq_false_iff_ne.mpr c99
                           have c99b1 : (t381.toList != (rdOf ByteArray.empty t331 x9_6).toList) = true := bne_iff_ne.mpr c99
                           obtain rfl := Option.some.inj H
                           have hnb107 := NB340_347.out
                           have hnc107 := NB347_340.out
                           have hnb108 := NB340_375.out
                           have hnc108 := NB375_340.out
                           have hcz109_0 := cZ0 BK340
                           have hcz109_1 := cZ1 BK340
                           have hfz109_0 := blk_frozen BK340.out 0
                           have hfz109_1 := blk_frozen BK340.out 1
                           have hnb110 := NB375_347.out
                           have hnc110 := NB347_375.out
                           have hcz111_0 := cZ0 BK375
                           have hcz111_1 := cZ1 BK375
                           have hfz111_0 := blk_frozen BK375.out 0
                           have hfz111_1 := blk_frozen BK375.out 1
                           go_wp2_with (first | ((with_reducible refine gate_callee (f := 21) rfl ?_); refine gL (some 118) Try.func21 #[.agg #[.slice Ao62 t369.length co62, .slice Ao66 t372.length co66], .int .i64 x9_6] ?_; (with_reducible refine (impl_SectorRead.calls k8 _ _ t369 _ _ t372 x9_6 t381 true _ ?side1 ?side2 ?side3 ?side4 A94.out).mono ?_); (case side1 => exact cR HO_376000); (case side2 => exact (Kd.R_reads' HO_376000.out).2.1); (case side3 => exact cR HO_376001); (case side4 => exact (Kd.R_reads' HO_376001.out).2.1); rintro e w112 ⟨rfl, hb⟩; refine ⟨_, rfl, ?_⟩; have n_ := And.intro (rB HO_341000 hb) (And.intro (rB HO_341001 hb) (And.intro (rB HO_348000 hb) (And.intro (rB HO_348001 hb) (And.intro (rB HO_376000 hb) (And.intro (rB HO_376001 hb) (And.intro (kB BK340 hb) (And.intro (kB BK347 hb) (And.intro (kB BK375 hb) (sB HB hb))))))))); clear HO_341000 HO_341001 HO_348000 HO_348001 HO_376000 HO_376001 BK340 BK347 BK375 HB; obtain ⟨HO_341000, HO_341001, HO_348000, HO_348001, HO_376000, HO_376001, BK340, BK347, BK375, HB⟩ := n_; (try clear hb); have hcz113_0 := cZ0 BK340; have hcz113_1 := cZ1 BK340; have hfz113_0 := blk_frozen BK340.out 0; have hfz113_1 := blk_frozen BK340.out 1; have p383 : 0 ≤ (x9_6 : Int) := dT; have q383 : x9_6 < (t331.length : Int) := dT; obtain ⟨ad383, e383, hx383_0⟩ := Kd.at_string (Kd.R_reads' HO_341000.out).2.2 x9_6 p383 q383; obtain rfl : ad377 = ad383 := (by injection e383); replace p383 := eq_true p383; replace q383 := eq_true q383))
                           go_ret
                           exact ⟨eW, bB⟩
                         ·rw [if_neg c98] at H
                          exact absurd H (by simp)
                        ·rw [if_neg c97] at H
                         exact absurd H (by simp)
                       ·replace c96 := Bool.eq_false_iff.mpr c96
                        subst c96
                        rw [if_neg (show ¬ (false = true) by decide)] at H
                        obtain rfl := Option.some.inj H
                        have hnb114 := NB340_347.out
                        have hnc114 := NB347_340.out
                        have hnb115 := NB340_375.out
                        have hnc115 := NB375_340.out
                        have hcz116_0 := cZ0 BK340
                        have hcz116_1 := cZ1 BK340
                        have hfz116_0 := blk_frozen BK340.out 0
                        have hfz116_1 := blk_frozen BK340.out 1
                        have hnb117 := NB375_347.out
                        have hnc117 := NB347_375.out
                        have hcz118_0 := cZ0 BK375
                        have hcz118_1 := cZ1 BK375
                        have hfz118_0 := blk_frozen BK375.out 0
                        have hfz118_1 := blk_frozen BK375.out 1
                        go_wp2_with (first | ((with_reducible refine gate_callee (f := 21) rfl ?_); refine gL (some 118) Try.func21 #[.agg #[.slice Ao62 t369.length co62, .slice Ao66 t372.length co66], .int .i64 x9_6] ?_; (with_reducible refine (impl_SectorRead.calls k8 _ _ t369 _ _ t372 x9_6 t381 false _ ?side1 ?side2 ?side3 ?side4 A94.out).mono ?_); (case side1 => exact cR HO_376000); (case side2 => exact (Kd.R_reads' HO_376000.out).2.1); (case side3 => exact cR HO_376001); (case side4 => exact (Kd.R_reads' HO_376001.out).2.1); rintro e w119 ⟨rfl, hb⟩; refine ⟨_, rfl, ?_⟩; have n_ := And.intro (rB HO_341000 hb) (And.intro (rB HO_341001 hb) (And.intro (rB HO_348000 hb) (And.intro (rB HO_348001 hb) (And.intro (rB HO_376000 hb) (And.intro (rB HO_376001 hb) (And.intro (kB BK340 hb) (And.intro (kB BK347 hb) (And.intro (kB BK375 hb) (sB HB hb))))))))); clear HO_341000 HO_341001 HO_348000 HO_348001 HO_376000 HO_376001 BK340 BK347 BK375 HB; obtain ⟨HO_341000, HO_341001, HO_348000, HO_348001, HO_376000, HO_376001, BK340, BK347, BK375, HB⟩ := n_; (try clear hb)))
                        go_ret
                        exact ⟨eW, bB⟩
                      ·replace c95 := Bool.eq_false_iff.mpr c95
                       subst c95
                       rw [if_neg (show ¬ (false = true) by decide)] at H
                       obtain rfl := Option.some.inj H
                       have hnb120 := NB340_347.out
                       have hnc120 := NB347_340.out
                       have hnb121 := NB340_375.out
                       have hnc121 := NB375_340.out
                       have hcz122_0 := cZ0 BK340
                       have hcz122_1 := cZ1 BK340
                       have hfz122_0 := blk_frozen BK340.out 0
                       have hfz122_1 := blk_frozen BK340.out 1
                       have hnb123 := NB375_347.out
                       have hnc123 := NB347_375.out
                       have hcz124_0 := cZ0 BK375
                       have hcz124_1 := cZ1 BK375
                       have hfz124_0 := blk_frozen BK375.out 0
                       have hfz124_1 := blk_frozen BK375.out 1
                       go_wp2_with (first | ((with_reducible refine gate_callee (f := 21) rfl ?_); refine gL (some 118) Try.func21 #[.agg #[.slice Ao62 t369.length co62, .slice Ao66 t372.length co66], .int .i64 x9_6] ?_; (with_reducible refine (impl_SectorRead.calls k8 _ _ t369 _ _ t372 x9_6 t381 t382 _ ?side1 ?side2 ?side3 ?side4 A94.out).mono ?_); (case side1 => exact cR HO_376000); (case side2 => exact (Kd.R_reads' HO_376000.out).2.1); (case side3 => exact cR HO_376001); (case side4 => exact (Kd.R_reads' HO_376001.out).2.1); rintro e w125 ⟨rfl, hb⟩; refine ⟨_, rfl, ?_⟩; have n_ := And.intro (rB HO_341000 hb) (And.intro (rB HO_341001 hb) (And.intro (rB HO_348000 hb) (And.intro (rB HO_348001 hb) (And.intro (rB HO_376000 hb) (And.intro (rB HO_376001 hb) (And.intro (kB BK340 hb) (And.intro (kB BK347 hb) (And.intro (kB BK375 hb) (sB HB hb))))))))); clear HO_341000 HO_341001 HO_348000 HO_348001 HO_376000 HO_376001 BK340 BK347 BK375 HB; obtain ⟨HO_341000, HO_341001, HO_348000, HO_348001, HO_376000, HO_376001, BK340, BK347, BK375, HB⟩ := n_; (try clear hb)))
                       go_ret
                       exact ⟨eW, bB⟩
                  ·rw [if_neg c74] at H
                   exact absurd H (by simp)
                 ·rw [if_neg c73] at H
                  exact absurd H (by simp)
                ·rw [if_neg c72] at H
                 exact absurd H (by simp)

/-- THE ONE PURE STATEMENT of laws_FnFallen: yours. -/
def laws_FnFallen.Pure : Prop := ∀ (l0 : List Int), l0.length ≤ maxLen → l0.length * 1 ≤ 140737488351232 → (∀ x ∈ l0, (Lit.int .u8 x).wf = true) → ∃ k, laws_FnFallen.f k l0 = some true
theorem laws_FnFallen.walk (P : laws_FnFallen.Pure) (a0 : Option Addr) (len0 cap0 : Nat) (z0 : List Int) (w : World) (w0 : (a0 = none ∧ len0 = 0 ∧ cap0 = 0 ∧ z0 = []) ∨ ∃ x, a0 = some x ∧ len0 ≤ cap0 ∧ cap0 ≤ maxLen ∧ z0.length = cap0 ∧ (∀ i, i < z0.length → w.cell? (x.add i) = some (.int .u8 (z0.getD i 0))) ∧ ∀ n ∈ z0, (Lit.int .u8 n).wf = true) (y0 : len0 * 1 ≤ 140737488351232) :
  Calls Try.prog 11 #[.slice a0 len0 cap0] w fun e w' => e = .returned (.bool true) ∧ Below w.heap.size w w' := by
 obtain ⟨l0, rfl, hr0, hm0, hw0, hc0⟩ := ReadsInt.ofRowC w0
 obtain ⟨k, h⟩ := P l0 hm0 y0 hw0
 refine (laws_FnFallen.calls k _ _ l0 true w (Kd.C_of_reads (d := (0 : Int)) (h1 := fun _ => rfl) hr0) hc0 h).mono ?_
 rintro e w' ⟨rfl, hd⟩
 exact ⟨rfl, hd⟩

end Go.Proofs.Ytgmpdkefegofhaa.PFnFallen
