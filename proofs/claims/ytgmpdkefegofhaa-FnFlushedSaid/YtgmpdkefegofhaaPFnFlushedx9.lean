-- Written by xprint.py, a program of this session over the kit's print. Not trusted: Lean checks it.
import Derived.Test.YtgmpdkefegofhaaPFnFlushedx0
import Derived.Test.YtgmpdkefegofhaaPFnFlushedx2
import Derived.Test.YtgmpdkefegofhaaPFnFlushedx3
import Derived.Test.YtgmpdkefegofhaaPFnFlushedx4
import Derived.Test.YtgmpdkefegofhaaPFnFlushedx7
import Derived.Test.YtgmpdkefegofhaaPFnFlushedx8
namespace Go.Proofs.Ytgmpdkefegofhaa.PFnFlushed
open Go.RowKit Go.Proofs.YtgmpdkefegofhaaW.PrintWords Go.Proofs.YtgmpdkefegofhaaW.PrintLast Go.Proofs.YtgmpdkefegofhaaW.PrintMore
attribute [local go_sem] max2_int min2_int max_two min_two max_three min_three max_four min_four   -- for this text's walks alone
set_option linter.unusedVariables false
set_option linter.unusedSimpArgs false

/-! ### laws_FnFlushed: function 12 -/
mutual
def laws_FnFlushed.j0 : Nat → List Int → Option (Bool)
 | 0, _ => none
 | k + 1, x0 => (spec_DrawSectorWrite.f k x0).bind fun bt420 => ((spec_DrawFall.f k x0).bind fun bt429 => ((impl_SectorWrite.f bt420.1 bt420.2.1 bt420.2.2.1 bt420.2.2.2).bind fun bt439 => ((spec_SectorWrite.f k bt420.1 bt420.2.1 bt420.2.2.1 bt420.2.2.2).bind fun bt447 => (if (bt439.2.2 != bt447.2.2) = true then (some false) else (laws_FnFlushed.j1 k bt420.2.2.1 bt420.2.2.2 bt429.2.2 bt439.2.2 bt420.1 bt420.2.1 bt439.1 bt439.2.1)))))
def laws_FnFlushed.j1 : Nat → Int → ByteArray → List Bool → Bool → List ByteArray → List (S65) → List ByteArray → List (S65) → Option (Bool)
 | 0, _, _, _, _, _, _, _, _ => none
 | k + 1, x4, x5, x7, x9, x429000, x429001, x447000, x447001 => if x9 = true then (laws_FnFlushed.j2 k x4 x5 x7 x447000 x447001) else ((spec_DiskSame.f k x447000 x447001 x429000 x429001).bind fun t455 => (some t455))
def laws_FnFlushed.j2 : Nat → Int → ByteArray → List Bool → List ByteArray → List (S65) → Option (Bool)
 | 0, _, _, _, _, _ => none
 | k + 1, x4, x5, x7, x447000, x447001 => (impl_SectorRead.f k x447000 x447001 x4).bind fun bt456 => ((impl_Flush.f k x447000 x447001).bind fun bt458 => ((impl_SectorRead.f k bt458.1 bt458.2 x4).bind fun bt465 => (if bt456.2 = true then (if bt465.2 = true then (if bt456.1.toList = x5.toList then (if bt465.1.toList = x5.toList then ((impl_Fall.f k bt458.1 bt458.2 x7).bind fun bt467 => ((impl_DiskSame.f k bt467.1 bt467.2 bt458.1 bt458.2).bind fun t473 => (if t473 = true then (if (bt458.2.length : Int) = 0 then ((impl_Flush.f k bt458.1 bt458.2).bind fun bt474 => ((impl_DiskSame.f k bt474.1 bt474.2 bt458.1 bt458.2).bind fun t480 => (some t480))) else (some false)) else (some false)))) else (some false)) else (some false)) else (some false)) else (some false))))
end
def laws_FnFlushed.f (k : Nat) (l0 : List Int) : Option (Bool) := (laws_big.f l0).bind fun t419 => (if t419 = true then (some true) else (laws_FnFlushed.j0 k l0))
theorem laws_FnFlushed.mono_l : ∀ k, (∀ y0, LeO (laws_FnFlushed.j0 k y0) (laws_FnFlushed.j0 (k + 1) y0)) ∧ (∀ y0 y1 y2 y3 y4 y5 y6 y7, LeO (laws_FnFlushed.j1 k y0 y1 y2 y3 y4 y5 y6 y7) (laws_FnFlushed.j1 (k + 1) y0 y1 y2 y3 y4 y5 y6 y7)) ∧ (∀ y0 y1 y2 y3 y4, LeO (laws_FnFlushed.j2 k y0 y1 y2 y3 y4) (laws_FnFlushed.j2 (k + 1) y0 y1 y2 y3 y4))
 | 0 => ⟨fun _ r h => by simp [laws_FnFlushed.j0] at h, fun _ _ _ _ _ _ _ _ r h => by simp [laws_FnFlushed.j1] at h, fun _ _ _ _ _ r h => by simp [laws_FnFlushed.j2] at h⟩
 | k + 1 => by
  obtain ⟨ih0, ih1, ih2⟩ := laws_FnFlushed.mono_l k
  refine ⟨?_, ?_, ?_⟩
  ·intro y0
   unfold laws_FnFlushed.j0
   have m0_ := @impl_DiskSame.mono
   have m1_ := @impl_Fall.mono
   have m2_ := @impl_Flush.mono
   have m3_ := @impl_SectorRead.mono
   have m4_ := @spec_DiskSame.mono
   have m5_ := @spec_DrawFall.mono
   have m6_ := @spec_DrawSectorWrite.mono
   have m7_ := @spec_SectorWrite.mono
   exact mM
  ·intro y0 y1 y2 y3 y4 y5 y6 y7
   unfold laws_FnFlushed.j1
   have m0_ := @impl_DiskSame.mono
   have m1_ := @impl_Fall.mono
   have m2_ := @impl_Flush.mono
   have m3_ := @impl_SectorRead.mono
   have m4_ := @spec_DiskSame.mono
   have m5_ := @spec_DrawFall.mono
   have m6_ := @spec_DrawSectorWrite.mono
   have m7_ := @spec_SectorWrite.mono
   exact mM
  ·intro y0 y1 y2 y3 y4
   unfold laws_FnFlushed.j2
   have m0_ := @impl_DiskSame.mono
   have m1_ := @impl_Fall.mono
   have m2_ := @impl_Flush.mono
   have m3_ := @impl_SectorRead.mono
   have m4_ := @spec_DiskSame.mono
   have m5_ := @spec_DrawFall.mono
   have m6_ := @spec_DrawSectorWrite.mono
   have m7_ := @spec_SectorWrite.mono
   exact mM
theorem laws_FnFlushed.mono : ∀ a0 k, LeO (laws_FnFlushed.f k a0) (laws_FnFlushed.f (k + 1) a0) := by
 intro a0 k
 obtain ⟨ih0, ih1, ih2⟩ := laws_FnFlushed.mono_l k
 unfold laws_FnFlushed.f
 have m0_ := @impl_DiskSame.mono
 have m1_ := @impl_Fall.mono
 have m2_ := @impl_Flush.mono
 have m3_ := @impl_SectorRead.mono
 have m4_ := @spec_DiskSame.mono
 have m5_ := @spec_DrawFall.mono
 have m6_ := @spec_DrawSectorWrite.mono
 have m7_ := @spec_SectorWrite.mono
 exact mM
def laws_FnFlushed.T14 : Bool × List (List Nat × List Nat) := (true, [([], []), ([0], [0]), ([1], [1]), ([1, 2], [1, 2]), ([3, 1], [3]), ([4], [4]), ([4], [4]), ([5, 6, 4], [4, 5, 6]), ([4, 7], [4, 7]), ([8, 4], [8]), ([9], [9]), ([9], [9]), ([10, 11, 9], [9, 10, 11]), ([9, 12], [9, 12]), ([13, 9], [13]), ([14], [14]), ([14], [14]), ([15, 16, 14, 14], [14, 15, 16]), ([14], [14]), ([17, 18, 17, 14], [14, 17, 18]), ([14, 19], [14, 19]), ([20, 19], [20]), ([21], [21]), ([22, 21], [21, 22]), ([23, 21], [21, 23]), ([24, 21], [21, 24]), ([21, 25], [21, 25]), ([26, 21], [26]), ([27], [27]), ([28, 27, 27], [27, 28]), ([27], [27]), ([29, 30, 29, 27], [27, 29, 30]), ([27, 31], [27, 31]), ([32, 31, 0, 1, 2, 3, 4, 5, 6, 7, 8, 9, 10, 11, 12, 13, 14, 15, 16, 17, 18, 19, 20, 21, 22, 23, 24, 25, 26, 27, 28, 29, 30, 31, 32], [32])])
def laws_FnFlushed.B14 : List Nat := [0, 1, 3, 7, 15, 31, 31, 127, 255, 511, 1023, 1023, 4095, 8191, 16383, 32767, 32767, 131071, 32767, 524287, 1048575, 2097151, 4194303, 8388607, 16777215, 33554431, 67108863, 134217727, 268435455, 536870911, 268435455, 2147483647, 4294967295, 8589934591]
theorem laws_FnFlushed.tab14 : rtab .any (opsOf Try.f12 14) = laws_FnFlushed.T14 := by kernel_rfl
theorem laws_FnFlushed.bits14 : waitsOk laws_FnFlushed.T14.2 laws_FnFlushed.B14 = true := by kernel_rfl
set_option maxHeartbeats 8000000 in
set_option maxRecDepth 100000 in
theorem laws_FnFlushed.calls (k : Nat) (A0 : Option Addr) (c0 : Nat) (l0 : List Int) (r : Bool) (w : World) (hr0 : Kd.C (Kd.int .u8) w A0 l0.length l0) (hc0 : l0.length ≤ c0) (h : laws_FnFlushed.f k l0 = some r) :
  Calls Try.prog 12 #[.slice A0 l0.length c0] w fun e w' => e = .returned (.bool r) ∧ Below w.heap.size w w' := by
 have hu30 := Try.underlying30
 have HR0 := aM hr0
 have HC0 := aM hc0
 clear hr0 hc0
 have HB := aM (Below.refl w.heap.size w)
 unfold laws_FnFlushed.f at h
 have H := h
 clear h
 replace H := Option.bind_eq_some_iff.mp H
 obtain ⟨t419, A20, H⟩ := H
 try dsimp only at H
 have A2 := aM A20
 clear A20
 have HC3 := aM H
 clear H
 go_enter Try.func12, Try.ntmps12
 go_upto_if 18 with (first | ((with_reducible refine gate_callee (f := 46) rfl ?_); refine gL (some 18) Try.func46 #[.slice A0 l0.length c0] ?_; (with_reducible refine (laws_big.calls _ _ l0 t419 _ ?side1 ?side2 A2.out).mono ?_); (case side1 => repeat (first | exact HR0.out | (with_reducible refine Kd.C_alloc ?_ _) | (with_reducible refine Kd.C_drewN ?_ _) | (with_reducible refine Kd.C_drew ?_))); (case side2 => exact HC0.out); rintro e w' ⟨rfl, ⟨nd, rfl⟩⟩; refine ⟨_, rfl, ?_⟩))
 (try simp only [Act.put, List.setIfInBounds_toArray, List.set_cons_zero, List.set_cons_succ])
 go_cut [] (fun wc => ∃ (kq : Nat), Aside0 (laws_FnFlushed.j0 kq l0 = some r) ∧ Aside0 (kq ≤ k) ∧ Aside0 (Below w.heap.size w wc))
 case first =>
  have H := HC3.out
  clear HC3
  by_cases c4 : t419 = true
  ·subst c4
   rw [if_pos rfl] at H
   obtain rfl := Option.some.inj H
   go_wp2
   go_ret
   exact ⟨eW, bB⟩
  replace c4 := Bool.eq_false_iff.mpr c4
  subst c4
  rw [if_neg (show ¬ (false = true) by decide)] at H
  have H' := aM H
  clear H
  go_wp2
  go_meet
  case rel => exact ⟨_, H', ⟨by first | omega | exact Nat.le_refl _⟩, ⟨bB⟩⟩
 case rest =>
  clear HC3
  try clear c1
  try clear p2
  try clear c4
  obtain ⟨kq, HA, HJ2, HB⟩ := hcut
  cases kq with
  | zero => exact absurd HA.out (by simp [laws_FnFlushed.j0])
  | succ kj2 =>
   have H := HA.out
   clear HA
   simp only [laws_FnFlushed.j0] at H
   replace H := Option.bind_eq_some_iff.mp H
   obtain ⟨⟨t420, t423, t426, t427⟩, A50, H⟩ := H
   try dsimp only at H
   have A5 := aM A50
   clear A50
   replace H := Option.bind_eq_some_iff.mp H
   obtain ⟨⟨t429, t432, t435⟩, A60, H⟩ := H
   try dsimp only at H
   have A6 := aM A60
   clear A60
   replace H := Option.bind_eq_some_iff.mp H
   obtain ⟨⟨t439, t442, t445⟩, A70, H⟩ := H
   try dsimp only at H
   have A7 := aM A70
   clear A70
   replace H := Option.bind_eq_some_iff.mp H
   obtain ⟨⟨t447, t450, t453⟩, A80, H⟩ := H
   try dsimp only at H
   have A8 := aM A80
   clear A80
   have HC9 := aM H
   clear H
   go_upto_if 46 with (first | ((with_reducible refine gate_callee (f := 50) rfl ?_); refine gL (some 21) Try.func50 #[.slice A0 l0.length c0] ?_; (with_reducible refine (spec_DrawSectorWrite.calls kj2 _ _ l0 t420 t423 t426 t427 _ ?side1 ?side2 A5.out).mono ?_); (case side1 => exact cS HR0 HB); (case side2 => exact HC0.out); rintro e w10 ⟨v421, v424, rfl, ho0, ho1, hb⟩; refine ⟨_, rfl, ?_⟩; have n_ := aI (lR HB ho0) (aI (lR HB ho1) (sB HB hb)); clear HB; obtain ⟨HO422, HO425, HB⟩ := n_; (try clear hb ho0 ho1)) | ((with_reducible refine gate_dst (N := 3) rfl ?_); (try (refine gate_guard (by rfl) ?_; dsimp only)); refine box_event ?hg (N := 3) ?hd (cs := #[.slice none 0 0, .slice none 0 0]) (t := 30) ?hr ?_; (case hd => rfl); (case hg => rfl); (case hr => first | (go_simp; done) | (go_simp; rfl)); intro gb428 hg w11 hbox hb; have n_ := aI (rB HO422 hb) (aI (rB HO425 hb) (aI (sB HB hb) (aI (aM hbox) (aI (gE HB hg) (gE HB hg))))); clear HO422 HO425 HB; obtain ⟨HO422, HO425, HB, BK428, GW428, GE428⟩ := n_; (try clear hb hbox hg); obtain ⟨Ao12, co12, eo12⟩ := Kd.R_slice HO422.out; subst eo12; have hcz13_0 := cZ0 BK428; have hcz13_1 := cZ1 BK428; have hfz13_0 := blk_frozen BK428.out 0; have hfz13_1 := blk_frozen BK428.out 1; obtain ⟨Ao14, co14, eo14⟩ := Kd.R_slice HO425.out; subst eo14) | ((with_reducible refine gate_callee (f := 47) rfl ?_); refine gL (some 27) Try.func47 #[.slice A0 l0.length c0] ?_; (with_reducible refine (spec_DrawFall.calls kj2 _ _ l0 t429 t432 t435 _ ?side1 ?side2 A6.out).mono ?_); (case side1 => exact cS HR0 HB); (case side2 => exact HC0.out); rintro e w15 ⟨v430, v433, v436, rfl, ho0, ho1, ho2, hb⟩; refine ⟨_, rfl, ?_⟩; have n_ := aI (aM (Kd.R_elder' (rP (Kd.R_mono (Kd.R_far (p := ⟨gb428, 1, none⟩) (Kd.R_far (p := ⟨gb428, 0, none⟩) (Kd.R_types HO422.out BK428.out (by decide)) (fun _ hk => hk.2) (.slice Ao12 t420.length co12)) (fun _ hk => hk.2) (.slice Ao14 t423.length co14)) (fun _ h_ => h_.1))) (Kd.R_base ho0) hb)) (aI (aM (Kd.R_elder' (rP (Kd.R_mono (Kd.R_far (p := ⟨gb428, 1, none⟩) (Kd.R_far (p := ⟨gb428, 0, none⟩) (Kd.R_types HO425.out BK428.out (by decide)) (fun _ hk => hk.2) (.slice Ao12 t420.length co12)) (fun _ hk => hk.2) (.slice Ao14 t423.length co14)) (fun _ h_ => h_.1))) (Kd.R_base ho1) hb)) (aI (aM (Kd.R_lower (Kd.R_new' ho0 (Kd.R_lt (rP (Kd.R_mono (Kd.R_far (p := ⟨gb428, 1, none⟩) (Kd.R_far (p := ⟨gb428, 0, none⟩) (Kd.R_types HO422.out BK428.out (by decide)) (fun _ hk => hk.2) (.slice Ao12 t420.length co12)) (fun _ hk => hk.2) (.slice Ao14 t423.length co14)) (fun _ h_ => h_.1))))) (zB HB))) (aI (aM (Kd.R_lower (Kd.R_new' ho1 (Kd.R_lt (rP (Kd.R_mono (Kd.R_far (p := ⟨gb428, 1, none⟩) (Kd.R_far (p := ⟨gb428, 0, none⟩) (Kd.R_types HO425.out BK428.out (by decide)) (fun _ hk => hk.2) (.slice Ao12 t420.length co12)) (fun _ hk => hk.2) (.slice Ao14 t423.length co14)) (fun _ h_ => h_.1))))) (zB HB))) (aI (lR HB ho2) (aI (aM (blk_below (g := gb428) (o := .cells #[.slice Ao12 t420.length co12, .slice Ao14 t423.length co14] 30 (0, 0)) (by (with_reducible repeat (first | refine blk_drewN ?_ _ | refine blk_drew ?_ | refine blk_alloc ?_ _)); refine blk_put (cs := #[.slice Ao12 t420.length co12, .slice none 0 0]) ?_ 1 _ rfl; (with_reducible repeat (first | refine blk_drewN ?_ _ | refine blk_drew ?_ | refine blk_alloc ?_ _)); refine blk_put (cs := #[.slice none 0 0, .slice none 0 0]) ?_ 0 _ rfl; (with_reducible repeat (first | refine blk_drewN ?_ _ | refine blk_drew ?_ | refine blk_alloc ?_ _)); exact BK428.out) hb)) (sB HB hb)))))); clear HO422 HO425 BK428 HB; obtain ⟨HO422, HO425, HO431, HO434, HO437, BK428, HB⟩ := n_; (try clear hb ho0 ho1 ho2)) | ((with_reducible refine gate_dst (N := 6) rfl ?_); (try (refine gate_guard (by rfl) ?_; dsimp only)); refine box_event ?hg (N := 6) ?hd (cs := #[.slice none 0 0, .slice none 0 0]) (t := 30) ?hr ?_; (case hd => rfl); (case hg => rfl); (case hr => first | (go_simp; done) | (go_simp; rfl)); intro gb438 hg w16 hbox hb; have n_ := aI (rB HO422 hb) (aI (rB HO425 hb) (aI (rB HO431 hb) (aI (rB HO434 hb) (aI (rB HO437 hb) (aI (kB BK428 hb) (aI (sB HB hb) (aI (aM hbox) (aI (gE HB hg) (aI (gE HB hg) (aI (nL BK428 hg) (nG BK428 hg))))))))))); clear HO422 HO425 HO431 HO434 HO437 BK428 HB; obtain ⟨HO422, HO425, HO431, HO434, HO437, BK428, HB, BK438, GW438, GE438, NB428_438, NB438_428⟩ := n_; (try clear hb hbox hg); obtain ⟨Ao17, co17, eo17⟩ := Kd.R_slice HO431.out; subst eo17; have hnb18 := NB438_428.out; have hnc18 := NB428_438.out; have hcz19_0 := cZ0 BK438; have hcz19_1 := cZ1 BK438; have hfz19_0 := blk_frozen BK438.out 0; have hfz19_1 := blk_frozen BK438.out 1; obtain ⟨Ao20, co20, eo20⟩ := Kd.R_slice HO434.out; subst eo20; have hcz21_0 := cZ0 BK428; have hcz21_1 := cZ1 BK428; have hfz21_0 := blk_frozen BK428.out 0; have hfz21_1 := blk_frozen BK428.out 1) | ((with_reducible refine gate_callee (f := 29) rfl ?_); refine gL (some 34) Try.func29 #[.agg #[.slice Ao12 t420.length co12, .slice Ao14 t423.length co14], .int .i64 t426, .string t427] ?_; (with_reducible refine (impl_SectorWrite.calls _ _ t420 _ _ t423 t426 t427 t439 t442 t445 _ ?side1 ?side2 ?side3 ?side4 A7.out).mono ?_); (case side1 => refine (Kd.R_reads' (e := 9) (base := w.heap.size) (ok := fun k_ => (True ∧ some k_ ≠ (.slice Ao17 t429.length co17 : Value).ownBlock)) (n := t420.length) (c := co12) ?_).2.2; exact (rP (Kd.R_mono (Kd.R_far (p := ⟨gb438, 1, none⟩) (Kd.R_far (p := ⟨gb438, 0, none⟩) (Kd.R_types HO422.out BK438.out (by decide)) (fun _ hk => hk.2) (.slice Ao17 t429.length co17)) (fun _ hk => hk.2) (.slice Ao20 t432.length co20)) (fun _ h_ => h_.1)))); (case side2 => exact (Kd.R_reads' HO422.out).2.1); (case side3 => refine (Kd.R_reads' (e := 65) (base := w.heap.size) (ok := fun k_ => (True ∧ some k_ ≠ (.slice Ao20 t432.length co20 : Value).ownBlock)) (n := t423.length) (c := co14) ?_).2.2; exact (rP (Kd.R_mono (Kd.R_far (p := ⟨gb438, 1, none⟩) (Kd.R_far (p := ⟨gb438, 0, none⟩) (Kd.R_types HO425.out BK438.out (by decide)) (fun _ hk => hk.2) (.slice Ao17 t429.length co17)) (fun _ hk => hk.2) (.slice Ao20 t432.length co20)) (fun _ h_ => h_.1)))); (case side4 => exact (Kd.R_reads' HO425.out).2.1); rintro e w22 ⟨v440, v443, rfl, ho0, ho1, hb⟩; refine ⟨_, rfl, ?_⟩; have n_ := aI (aM (Kd.R_elder' (rP (Kd.R_mono (Kd.R_far (p := ⟨gb438, 1, none⟩) (Kd.R_far (p := ⟨gb438, 0, none⟩) (Kd.R_types HO422.out BK438.out (by decide)) (fun _ hk => hk.2) (.slice Ao17 t429.length co17)) (fun _ hk => hk.2) (.slice Ao20 t432.length co20)) (fun _ h_ => h_.1))) (Kd.R_base ho0) hb)) (aI (aM (Kd.R_elder' (rP (Kd.R_mono (Kd.R_far (p := ⟨gb438, 1, none⟩) (Kd.R_far (p := ⟨gb438, 0, none⟩) (Kd.R_types HO425.out BK438.out (by decide)) (fun _ hk => hk.2) (.slice Ao17 t429.length co17)) (fun _ hk => hk.2) (.slice Ao20 t432.length co20)) (fun _ h_ => h_.1))) (Kd.R_base ho1) hb)) (aI (aM (Kd.R_elder' (rP (Kd.R_mono (Kd.R_far (p := ⟨gb438, 1, none⟩) (Kd.R_far (p := ⟨gb438, 0, none⟩) (Kd.R_types HO431.out BK438.out (by decide)) (fun _ hk => hk.2) (.slice Ao17 t429.length co17)) (fun _ hk => hk.2) (.slice Ao20 t432.length co20)) (fun _ h_ => h_.1))) (Kd.R_base ho0) hb)) (aI (aM (Kd.R_elder' (rP (Kd.R_mono (Kd.R_far (p := ⟨gb438, 1, none⟩) (Kd.R_far (p := ⟨gb438, 0, none⟩) (Kd.R_types HO434.out BK438.out (by decide)) (fun _ hk => hk.2) (.slice Ao17 t429.length co17)) (fun _ hk => hk.2) (.slice Ao20 t432.length co20)) (fun _ h_ => h_.1))) (Kd.R_base ho1) hb)) (aI (aM (Kd.R_below (rP (Kd.R_mono (Kd.R_far (p := ⟨gb438, 1, none⟩) (Kd.R_far (p := ⟨gb438, 0, none⟩) (Kd.R_types HO437.out BK438.out (by decide)) (fun _ hk => hk.2) (.slice Ao17 t429.length co17)) (fun _ hk => hk.2) (.slice Ao20 t432.length co20)) (fun _ h_ => h_.1))) hb)) (aI (aM (Kd.R_lower (Kd.R_new' (Kd.R_new' ho0 (Kd.R_lt (rP (Kd.R_mono (Kd.R_far (p := ⟨gb438, 1, none⟩) (Kd.R_far (p := ⟨gb438, 0, none⟩) (Kd.R_types HO422.out BK438.out (by decide)) (fun _ hk => hk.2) (.slice Ao17 t429.length co17)) (fun _ hk => hk.2) (.slice Ao20 t432.length co20)) (fun _ h_ => h_.1))))) (Kd.R_lt (rP (Kd.R_mono (Kd.R_far (p := ⟨gb438, 1, none⟩) (Kd.R_far (p := ⟨gb438, 0, none⟩) (Kd.R_types HO431.out BK438.out (by decide)) (fun _ hk => hk.2) (.slice Ao17 t429.length co17)) (fun _ hk => hk.2) (.slice Ao20 t432.length co20)) (fun _ h_ => h_.1))))) (zB HB))) (aI (aM (Kd.R_lower (Kd.R_new' (Kd.R_new' ho1 (Kd.R_lt (rP (Kd.R_mono (Kd.R_far (p := ⟨gb438, 1, none⟩) (Kd.R_far (p := ⟨gb438, 0, none⟩) (Kd.R_types HO425.out BK438.out (by decide)) (fun _ hk => hk.2) (.slice Ao17 t429.length co17)) (fun _ hk => hk.2) (.slice Ao20 t432.length co20)) (fun _ h_ => h_.1))))) (Kd.R_lt (rP (Kd.R_mono (Kd.R_far (p := ⟨gb438, 1, none⟩) (Kd.R_far (p := ⟨gb438, 0, none⟩) (Kd.R_types HO434.out BK438.out (by decide)) (fun _ hk => hk.2) (.slice Ao17 t429.length co17)) (fun _ hk => hk.2) (.slice Ao20 t432.length co20)) (fun _ h_ => h_.1))))) (zB HB))) (aI (kB BK428 hb) (aI (aM (blk_below (g := gb438) (o := .cells #[.slice Ao17 t429.length co17, .slice Ao20 t432.length co20] 30 (0, 0)) (by (with_reducible repeat (first | refine blk_drewN ?_ _ | refine blk_drew ?_ | refine blk_alloc ?_ _)); refine blk_put (cs := #[.slice Ao17 t429.length co17, .slice none 0 0]) ?_ 1 _ rfl; (with_reducible repeat (first | refine blk_drewN ?_ _ | refine blk_drew ?_ | refine blk_alloc ?_ _)); refine blk_put (cs := #[.slice none 0 0, .slice none 0 0]) ?_ 0 _ rfl; (with_reducible repeat (first | refine blk_drewN ?_ _ | refine blk_drew ?_ | refine blk_alloc ?_ _)); exact BK438.out) hb)) (sB HB hb))))))))); clear HO422 HO425 HO431 HO434 HO437 BK428 BK438 HB; obtain ⟨HO422, HO425, HO431, HO434, HO437, HO441, HO444, BK428, BK438, HB⟩ := n_; (try clear hb ho0 ho1)) | ((with_reducible refine gate_dst (N := 8) rfl ?_); (try (refine gate_guard (by rfl) ?_; dsimp only)); refine box_event ?hg (N := 8) ?hd (cs := #[.slice none 0 0, .slice none 0 0]) (t := 30) ?hr ?_; (case hd => rfl); (case hg => rfl); (case hr => first | (go_simp; done) | (go_simp; rfl)); intro gb446 hg w23 hbox hb; have n_ := aI (rB HO422 hb) (aI (rB HO425 hb) (aI (rB HO431 hb) (aI (rB HO434 hb) (aI (rB HO437 hb) (aI (rB HO441 hb) (aI (rB HO444 hb) (aI (kB BK428 hb) (aI (kB BK438 hb) (aI (sB HB hb) (aI (aM hbox) (aI (gE HB hg) (aI (gE HB hg) (aI (nL BK428 hg) (aI (nG BK428 hg) (aI (nL BK438 hg) (nG BK438 hg)))))))))))))))); clear HO422 HO425 HO431 HO434 HO437 HO441 HO444 BK428 BK438 HB; obtain ⟨HO422, HO425, HO431, HO434, HO437, HO441, HO444, BK428, BK438, HB, BK446, GW446, GE446, NB428_446, NB446_428, NB438_446, NB446_438⟩ := n_; (try clear hb hbox hg); obtain ⟨Ao24, co24, eo24⟩ := Kd.R_slice HO441.out; subst eo24; have hnb25 := NB446_428.out; have hnc25 := NB428_446.out; have hnb26 := NB446_438.out; have hnc26 := NB438_446.out; have hcz27_0 := cZ0 BK446; have hcz27_1 := cZ1 BK446; have hfz27_0 := blk_frozen BK446.out 0; have hfz27_1 := blk_frozen BK446.out 1; obtain ⟨Ao28, co28, eo28⟩ := Kd.R_slice HO444.out; subst eo28; have hcz29_0 := cZ0 BK428; have hcz29_1 := cZ1 BK428; have hfz29_0 := blk_frozen BK428.out 0; have hfz29_1 := blk_frozen BK428.out 1) | ((with_reducible refine gate_callee (f := 28) rfl ?_); refine gL (some 41) Try.func28 #[.agg #[.slice Ao12 t420.length co12, .slice Ao14 t423.length co14], .int .i64 t426, .string t427] ?_; (with_reducible refine (spec_SectorWrite.calls kj2 _ _ t420 _ _ t423 t426 t427 t447 t450 t453 _ ?side1 ?side2 ?side3 ?side4 A8.out).mono ?_); (case side1 => refine (Kd.R_reads' (e := 9) (base := w.heap.size) (ok := fun k_ => ((True ∧ some k_ ≠ (.slice Ao17 t429.length co17 : Value).ownBlock) ∧ some k_ ≠ (.slice Ao24 t439.length co24 : Value).ownBlock)) (n := t420.length) (c := co12) ?_).2.2; exact (rP (Kd.R_mono (Kd.R_far (p := ⟨gb446, 1, none⟩) (Kd.R_far (p := ⟨gb446, 0, none⟩) (Kd.R_types HO422.out BK446.out (by decide)) (fun _ hk => hk.2) (.slice Ao24 t439.length co24)) (fun _ hk => hk.2) (.slice Ao28 t442.length co28)) (fun _ h_ => h_.1)))); (case side2 => exact (Kd.R_reads' HO422.out).2.1); (case side3 => refine (Kd.R_reads' (e := 65) (base := w.heap.size) (ok := fun k_ => ((True ∧ some k_ ≠ (.slice Ao20 t432.length co20 : Value).ownBlock) ∧ some k_ ≠ (.slice Ao28 t442.length co28 : Value).ownBlock)) (n := t423.length) (c := co14) ?_).2.2; exact (rP (Kd.R_mono (Kd.R_far (p := ⟨gb446, 1, none⟩) (Kd.R_far (p := ⟨gb446, 0, none⟩) (Kd.R_types HO425.out BK446.out (by decide)) (fun _ hk => hk.2) (.slice Ao24 t439.length co24)) (fun _ hk => hk.2) (.slice Ao28 t442.length co28)) (fun _ h_ => h_.1)))); (case side4 => exact (Kd.R_reads' HO425.out).2.1); rintro e w30 ⟨v448, v451, rfl, ho0, ho1, hb⟩; refine ⟨_, rfl, ?_⟩; have n_ := aI (aM (Kd.R_elder' (rP (Kd.R_mono (Kd.R_far (p := ⟨gb446, 1, none⟩) (Kd.R_far (p := ⟨gb446, 0, none⟩) (Kd.R_types HO422.out BK446.out (by decide)) (fun _ hk => hk.2) (.slice Ao24 t439.length co24)) (fun _ hk => hk.2) (.slice Ao28 t442.length co28)) (fun _ h_ => h_.1))) (Kd.R_base ho0) hb)) (aI (aM (Kd.R_elder' (rP (Kd.R_mono (Kd.R_far (p := ⟨gb446, 1, none⟩) (Kd.R_far (p := ⟨gb446, 0, none⟩) (Kd.R_types HO425.out BK446.out (by decide)) (fun _ hk => hk.2) (.slice Ao24 t439.length co24)) (fun _ hk => hk.2) (.slice Ao28 t442.length co28)) (fun _ h_ => h_.1))) (Kd.R_base ho1) hb)) (aI (aM (Kd.R_elder' (rP (Kd.R_mono (Kd.R_far (p := ⟨gb446, 1, none⟩) (Kd.R_far (p := ⟨gb446, 0, none⟩) (Kd.R_types HO431.out BK446.out (by decide)) (fun _ hk => hk.2) (.slice Ao24 t439.length co24)) (fun _ hk => hk.2) (.slice Ao28 t442.length co28)) (fun _ h_ => h_.1))) (Kd.R_base ho0) hb)) (aI (aM (Kd.R_elder' (rP (Kd.R_mono (Kd.R_far (p := ⟨gb446, 1, none⟩) (Kd.R_far (p := ⟨gb446, 0, none⟩) (Kd.R_types HO434.out BK446.out (by decide)) (fun _ hk => hk.2) (.slice Ao24 t439.length co24)) (fun _ hk => hk.2) (.slice Ao28 t442.length co28)) (fun _ h_ => h_.1))) (Kd.R_base ho1) hb)) (aI (aM (Kd.R_below (rP (Kd.R_mono (Kd.R_far (p := ⟨gb446, 1, none⟩) (Kd.R_far (p := ⟨gb446, 0, none⟩) (Kd.R_types HO437.out BK446.out (by decide)) (fun _ hk => hk.2) (.slice Ao24 t439.length co24)) (fun _ hk => hk.2) (.slice Ao28 t442.length co28)) (fun _ h_ => h_.1))) hb)) (aI (aM (Kd.R_elder' (rP (Kd.R_mono (Kd.R_far (p := ⟨gb446, 1, none⟩) (Kd.R_far (p := ⟨gb446, 0, none⟩) (Kd.R_types HO441.out BK446.out (by decide)) (fun _ hk => hk.2) (.slice Ao24 t439.length co24)) (fun _ hk => hk.2) (.slice Ao28 t442.length co28)) (fun _ h_ => h_.1))) (Kd.R_base ho0) hb)) (aI (aM (Kd.R_elder' (rP (Kd.R_mono (Kd.R_far (p := ⟨gb446, 1, none⟩) (Kd.R_far (p := ⟨gb446, 0, none⟩) (Kd.R_types HO444.out BK446.out (by decide)) (fun _ hk => hk.2) (.slice Ao24 t439.length co24)) (fun _ hk => hk.2) (.slice Ao28 t442.length co28)) (fun _ h_ => h_.1))) (Kd.R_base ho1) hb)) (aI (aM (Kd.R_lower (Kd.R_new' (Kd.R_new' (Kd.R_new' ho0 (Kd.R_lt (rP (Kd.R_mono (Kd.R_far (p := ⟨gb446, 1, none⟩) (Kd.R_far (p := ⟨gb446, 0, none⟩) (Kd.R_types HO422.out BK446.out (by decide)) (fun _ hk => hk.2) (.slice Ao24 t439.length co24)) (fun _ hk => hk.2) (.slice Ao28 t442.length co28)) (fun _ h_ => h_.1))))) (Kd.R_lt (rP (Kd.R_mono (Kd.R_far (p := ⟨gb446, 1, none⟩) (Kd.R_far (p := ⟨gb446, 0, none⟩) (Kd.R_types HO431.out BK446.out (by decide)) (fun _ hk => hk.2) (.slice Ao24 t439.length co24)) (fun _ hk => hk.2) (.slice Ao28 t442.length co28)) (fun _ h_ => h_.1))))) (Kd.R_lt (rP (Kd.R_mono (Kd.R_far (p := ⟨gb446, 1, none⟩) (Kd.R_far (p := ⟨gb446, 0, none⟩) (Kd.R_types HO441.out BK446.out (by decide)) (fun _ hk => hk.2) (.slice Ao24 t439.length co24)) (fun _ hk => hk.2) (.slice Ao28 t442.length co28)) (fun _ h_ => h_.1))))) (zB HB))) (aI (aM (Kd.R_lower (Kd.R_new' (Kd.R_new' (Kd.R_new' ho1 (Kd.R_lt (rP (Kd.R_mono (Kd.R_far (p := ⟨gb446, 1, none⟩) (Kd.R_far (p := ⟨gb446, 0, none⟩) (Kd.R_types HO425.out BK446.out (by decide)) (fun _ hk => hk.2) (.slice Ao24 t439.length co24)) (fun _ hk => hk.2) (.slice Ao28 t442.length co28)) (fun _ h_ => h_.1))))) (Kd.R_lt (rP (Kd.R_mono (Kd.R_far (p := ⟨gb446, 1, none⟩) (Kd.R_far (p := ⟨gb446, 0, none⟩) (Kd.R_types HO434.out BK446.out (by decide)) (fun _ hk => hk.2) (.slice Ao24 t439.length co24)) (fun _ hk => hk.2) (.slice Ao28 t442.length co28)) (fun _ h_ => h_.1))))) (Kd.R_lt (rP (Kd.R_mono (Kd.R_far (p := ⟨gb446, 1, none⟩) (Kd.R_far (p := ⟨gb446, 0, none⟩) (Kd.R_types HO444.out BK446.out (by decide)) (fun _ hk => hk.2) (.slice Ao24 t439.length co24)) (fun _ hk => hk.2) (.slice Ao28 t442.length co28)) (fun _ h_ => h_.1))))) (zB HB))) (aI (kB BK428 hb) (aI (kB BK438 hb) (aI (aM (blk_below (g := gb446) (o := .cells #[.slice Ao24 t439.length co24, .slice Ao28 t442.length co28] 30 (0, 0)) (by (with_reducible repeat (first | refine blk_drewN ?_ _ | refine blk_drew ?_ | refine blk_alloc ?_ _)); refine blk_put (cs := #[.slice Ao24 t439.length co24, .slice none 0 0]) ?_ 1 _ rfl; (with_reducible repeat (first | refine blk_drewN ?_ _ | refine blk_drew ?_ | refine blk_alloc ?_ _)); refine blk_put (cs := #[.slice none 0 0, .slice none 0 0]) ?_ 0 _ rfl; (with_reducible repeat (first | refine blk_drewN ?_ _ | refine blk_drew ?_ | refine blk_alloc ?_ _)); exact BK446.out) hb)) (sB HB hb)))))))))))); clear HO422 HO425 HO431 HO434 HO437 HO441 HO444 BK428 BK438 BK446 HB; obtain ⟨HO422, HO425, HO431, HO434, HO437, HO441, HO444, HO449, HO452, BK428, BK438, BK446, HB⟩ := n_; (try clear hb ho0 ho1)) | ((with_reducible refine gate_dst (N := 10) rfl ?_); (try (refine gate_guard (by rfl) ?_; dsimp only)); refine box_event ?hg (N := 10) ?hd (cs := #[.slice none 0 0, .slice none 0 0]) (t := 30) ?hr ?_; (case hd => rfl); (case hg => rfl); (case hr => first | (go_simp; done) | (go_simp; rfl)); intro gb454 hg w31 hbox hb; have n_ := aI (rB HO422 hb) (aI (rB HO425 hb) (aI (rB HO431 hb) (aI (rB HO434 hb) (aI (rB HO437 hb) (aI (rB HO441 hb) (aI (rB HO444 hb) (aI (rB HO449 hb) (aI (rB HO452 hb) (aI (kB BK428 hb) (aI (kB BK438 hb) (aI (kB BK446 hb) (aI (sB HB hb) (aI (aM hbox) (aI (gE HB hg) (aI (gE HB hg) (aI (nL BK428 hg) (aI (nG BK428 hg) (aI (nL BK438 hg) (aI (nG BK438 hg) (aI (nL BK446 hg) (nG BK446 hg))))))))))))))))))))); clear HO422 HO425 HO431 HO434 HO437 HO441 HO444 HO449 HO452 BK428 BK438 BK446 HB; obtain ⟨HO422, HO425, HO431, HO434, HO437, HO441, HO444, HO449, HO452, BK428, BK438, BK446, HB, BK454, GW454, GE454, NB428_454, NB454_428, NB438_454, NB454_438, NB446_454, NB454_446⟩ := n_; (try clear hb hbox hg); obtain ⟨Ao32, co32, eo32⟩ := Kd.R_slice HO449.out; subst eo32; have hnb33 := NB454_428.out; have hnc33 := NB428_454.out; have hnb34 := NB454_438.out; have hnc34 := NB438_454.out; have hnb35 := NB454_446.out; have hnc35 := NB446_454.out; have hcz36_0 := cZ0 BK454; have hcz36_1 := cZ1 BK454; have hfz36_0 := blk_frozen BK454.out 0; have hfz36_1 := blk_frozen BK454.out 1; obtain ⟨Ao37, co37, eo37⟩ := Kd.R_slice HO452.out; subst eo37))
   (try simp only [Act.put, List.setIfInBounds_toArray, List.set_cons_zero, List.set_cons_succ])
   go_cut [] (fun wc => ∃ (kq : Nat), Aside0 (laws_FnFlushed.j1 kq t426 t427 t435 t445 t420 t423 t439 t442 = some r) ∧ Aside0 (kq ≤ kj2) ∧ Aside0 (Kd.R Kd.bool 4 wc w.heap.size (fun _ => True) v436 t435) ∧ Aside0 (Kd.R Kd.string 9 wc w.heap.size (fun k_ => some k_ ≠ ((.slice Ao17 t429.length co17) : Value).ownBlock ∧ some k_ ≠ ((.slice Ao24 t439.length co24) : Value).ownBlock ∧ some k_ ≠ ((.slice Ao32 t447.length co32) : Value).ownBlock) (.slice Ao12 t420.length co12) t420) ∧ Aside0 (Kd.R k65 65 wc w.heap.size (fun k_ => some k_ ≠ ((.slice Ao20 t432.length co20) : Value).ownBlock ∧ some k_ ≠ ((.slice Ao28 t442.length co28) : Value).ownBlock ∧ some k_ ≠ ((.slice Ao37 t450.length co37) : Value).ownBlock) (.slice Ao14 t423.length co14) t423) ∧ Aside0 (Kd.R Kd.string 9 wc w.heap.size (fun k_ => some k_ ≠ ((.slice Ao12 t420.length co12) : Value).ownBlock ∧ some k_ ≠ ((.slice Ao24 t439.length co24) : Value).ownBlock ∧ some k_ ≠ ((.slice Ao32 t447.length co32) : Value).ownBlock) (.slice Ao17 t429.length co17) t429) ∧ Aside0 (Kd.R k65 65 wc w.heap.size (fun k_ => some k_ ≠ ((.slice Ao14 t423.length co14) : Value).ownBlock ∧ some k_ ≠ ((.slice Ao28 t442.length co28) : Value).ownBlock ∧ some k_ ≠ ((.slice Ao37 t450.length co37) : Value).ownBlock) (.slice Ao20 t432.length co20) t432) ∧ Aside0 (Kd.R Kd.string 9 wc w.heap.size (fun k_ => some k_ ≠ ((.slice Ao12 t420.length co12) : Value).ownBlock ∧ some k_ ≠ ((.slice Ao17 t429.length co17) : Value).ownBlock ∧ some k_ ≠ ((.slice Ao32 t447.length co32) : Value).ownBlock) (.slice Ao24 t439.length co24) t439) ∧ Aside0 (Kd.R k65 65 wc w.heap.size (fun k_ => some k_ ≠ ((.slice Ao14 t423.length co14) : Value).ownBlock ∧ some k_ ≠ ((.slice Ao20 t432.length co20) : Value).ownBlock ∧ some k_ ≠ ((.slice Ao37 t450.length co37) : Value).ownBlock) (.slice Ao28 t442.length co28) t442) ∧ Aside0 (Kd.R Kd.string 9 wc w.heap.size (fun k_ => some k_ ≠ ((.slice Ao12 t420.length co12) : Value).ownBlock ∧ some k_ ≠ ((.slice Ao17 t429.length co17) : Value).ownBlock ∧ some k_ ≠ ((.slice Ao24 t439.length co24) : Value).ownBlock) (.slice Ao32 t447.length co32) t447) ∧ Aside0 (Kd.R k65 65 wc w.heap.size (fun k_ => some k_ ≠ ((.slice Ao14 t423.length co14) : Value).ownBlock ∧ some k_ ≠ ((.slice Ao20 t432.length co20) : Value).ownBlock ∧ some k_ ≠ ((.slice Ao28 t442.length co28) : Value).ownBlock) (.slice Ao37 t450.length co37) t450) ∧ Aside0 (wc.heap[gb428]? = some (.cells #[(.slice Ao12 t420.length co12), (.slice Ao14 t423.length co14)] 30 (0, 0))) ∧ Aside0 (wc.heap[gb438]? = some (.cells #[(.slice Ao17 t429.length co17), (.slice Ao20 t432.length co20)] 30 (0, 0))) ∧ Aside0 (wc.heap[gb446]? = some (.cells #[(.slice Ao24 t439.length co24), (.slice Ao28 t442.length co28)] 30 (0, 0))) ∧ Aside0 (wc.heap[gb454]? = some (.cells #[(.slice Ao32 t447.length co32), (.slice Ao37 t450.length co37)] 30 (0, 0))) ∧ Aside0 (Below w.heap.size w wc))
   case first =>
    have H := HC9.out
    clear HC9
    by_cases c38 : (t445 != t453) = true
    ·rw [if_pos c38] at H
     have c38b0 : (t445 != t453) = true := c38
     (try (have c38b1 : decide (t445 = t453) = false := by simpa using c38))
     (try (have c38b2 : (t445 == t453) = false := by simpa using c38))
     (try (have c38b3 : ¬ (t445 = t453) := by simpa using c38))
     clear c38
     (first | rw [c38b0] | (simp only [i64_w, i32_w]; rw [c38b0]) | rw [c38b1] | rw [c38b2] | skip)
     obtain rfl := Option.some.inj H
     go_wp2
     go_ret
     exact ⟨eW, bB⟩
    ·rw [if_neg c38] at H
     have c38b0 : (t445 != t453) = false := by simpa using c38
     (try (have c38b1 : decide (t445 = t453) = true := by simpa using c38))
     (try (have c38b2 : (t445 == t453) = true := by simpa using c38))
     clear c38
     (first | rw [c38b0] | (simp only [i64_w, i32_w]; rw [c38b0]) | rw [c38b1] | rw [c38b2] | skip)
     have H' := aM H
     clear H
     go_wp2
     go_meet
     case rel => exact ⟨_, H', ⟨by have := HJ2.out; first | omega | exact Nat.le_refl _⟩, ⟨rP (Kd.R_mono (Kd.R_far (p := ⟨gb454, 1, none⟩) (Kd.R_far (p := ⟨gb454, 0, none⟩) (Kd.R_types HO437.out BK454.out (by decide)) (fun _ hk => hk.2) (.slice Ao32 t447.length co32)) (fun _ hk => hk.2) (.slice Ao37 t450.length co37)) (fun _ hk => trivial))⟩, ⟨rP (Kd.R_mono (Kd.R_far (p := ⟨gb454, 1, none⟩) (Kd.R_far (p := ⟨gb454, 0, none⟩) (Kd.R_types HO422.out BK454.out (by decide)) (fun _ hk => hk.2) (.slice Ao32 t447.length co32)) (fun _ hk => hk.2) (.slice Ao37 t450.length co37)) (fun _ hk => ⟨hk.1.1.1.2, ⟨hk.1.1.2, hk.1.2⟩⟩))⟩, ⟨rP (Kd.R_mono (Kd.R_far (p := ⟨gb454, 1, none⟩) (Kd.R_far (p := ⟨gb454, 0, none⟩) (Kd.R_types HO425.out BK454.out (by decide)) (fun _ hk => hk.2) (.slice Ao32 t447.length co32)) (fun _ hk => hk.2) (.slice Ao37 t450.length co37)) (fun _ hk => ⟨hk.1.1.1.2, ⟨hk.1.1.2, hk.1.2⟩⟩))⟩, ⟨rP (Kd.R_mono (Kd.R_far (p := ⟨gb454, 1, none⟩) (Kd.R_far (p := ⟨gb454, 0, none⟩) (Kd.R_types HO431.out BK454.out (by decide)) (fun _ hk => hk.2) (.slice Ao32 t447.length co32)) (fun _ hk => hk.2) (.slice Ao37 t450.length co37)) (fun _ hk => ⟨hk.1.1.1.2, ⟨hk.1.1.2, hk.1.2⟩⟩))⟩, ⟨rP (Kd.R_mono (Kd.R_far (p := ⟨gb454, 1, none⟩) (Kd.R_far (p := ⟨gb454, 0, none⟩) (Kd.R_types HO434.out BK454.out (by decide)) (fun _ hk => hk.2) (.slice Ao32 t447.length co32)) (fun _ hk => hk.2) (.slice Ao37 t450.length co37)) (fun _ hk => ⟨hk.1.1.1.2, ⟨hk.1.1.2, hk.1.2⟩⟩))⟩, ⟨rP (Kd.R_mono (Kd.R_far (p := ⟨gb454, 1, none⟩) (Kd.R_far (p := ⟨gb454, 0, none⟩) (Kd.R_types HO441.out BK454.out (by decide)) (fun _ hk => hk.2) (.slice Ao32 t447.length co32)) (fun _ hk => hk.2) (.slice Ao37 t450.length co37)) (fun _ hk => ⟨hk.1.1.1.2, ⟨hk.1.1.2, hk.1.2⟩⟩))⟩, ⟨rP (Kd.R_mono (Kd.R_far (p := ⟨gb454, 1, none⟩) (Kd.R_far (p := ⟨gb454, 0, none⟩) (Kd.R_types HO444.out BK454.out (by decide)) (fun _ hk => hk.2) (.slice Ao32 t447.length co32)) (fun _ hk => hk.2) (.slice Ao37 t450.length co37)) (fun _ hk => ⟨hk.1.1.1.2, ⟨hk.1.1.2, hk.1.2⟩⟩))⟩, ⟨rP (Kd.R_mono (Kd.R_far (p := ⟨gb454, 1, none⟩) (Kd.R_far (p := ⟨gb454, 0, none⟩) (Kd.R_types HO449.out BK454.out (by decide)) (fun _ hk => hk.2) (.slice Ao32 t447.length co32)) (fun _ hk => hk.2) (.slice Ao37 t450.length co37)) (fun _ hk => ⟨hk.1.1.1.2, ⟨hk.1.1.2, hk.1.2⟩⟩))⟩, ⟨rP (Kd.R_mono (Kd.R_far (p := ⟨gb454, 1, none⟩) (Kd.R_far (p := ⟨gb454, 0, none⟩) (Kd.R_types HO452.out BK454.out (by decide)) (fun _ hk => hk.2) (.slice Ao32 t447.length co32)) (fun _ hk => hk.2) (.slice Ao37 t450.length co37)) (fun _ hk => ⟨hk.1.1.1.2, ⟨hk.1.1.2, hk.1.2⟩⟩))⟩, ⟨kP BK428⟩, ⟨kP BK438⟩, ⟨kP BK446⟩, ⟨by (with_reducible repeat (first | refine blk_drewN ?_ _ | refine blk_drew ?_ | refine blk_alloc ?_ _)); refine blk_put (cs := #[.slice Ao32 t447.length co32, .slice none 0 0]) ?_ 1 _ rfl; (with_reducible repeat (first | refine blk_drewN ?_ _ | refine blk_drew ?_ | refine blk_alloc ?_ _)); refine blk_put (cs := #[.slice none 0 0, .slice none 0 0]) ?_ 0 _ rfl; (with_reducible repeat (first | refine blk_drewN ?_ _ | refine blk_drew ?_ | refine blk_alloc ?_ _)); exact BK454.out⟩, ⟨bB⟩⟩
   case rest =>
    clear HC9
    try clear c1
    try clear c2
    try clear p2
    try clear c3
    try clear c4
    try clear c5
    try clear c12
    try clear c18
    try clear c25
    try clear c26
    try clear c28
    try clear c29
    try clear c33
    try clear c34
    try clear c35
    try clear c38
    try clear c38b0
    try clear c38b1
    try clear c38b2
    try clear hcz13_0
    try clear hcz13_1
    try clear hcz19_0
    try clear hcz19_1
    try clear hcz21_0
    try clear hcz21_1
    try clear hcz27_0
    try clear hcz27_1
    try clear hcz29_0
    try clear hcz29_1
    try clear hcz36_0
    try clear hcz36_1
    try clear hfz13_0
    try clear hfz13_1
    try clear hfz19_0
    try clear hfz19_1
    try clear hfz21_0
    try clear hfz21_1
    try clear hfz27_0
    try clear hfz27_1
    try clear hfz29_0
    try clear hfz29_1
    try clear hfz36_0
    try clear hfz36_1
    try clear p2
    obtain ⟨kq, HA, HJ8, HO_7, HO_429000, HO_429001, HO_439000, HO_439001, HO_447000, HO_447001, HO_455000, HO_455001, BK428, BK438, BK446, BK454, HB⟩ := hcut
    cases kq with
    | zero => exact absurd HA.out (by simp [laws_FnFlushed.j1])
    | succ kj8 =>
     have H := HA.out
     clear HA
     simp only [laws_FnFlushed.j1] at H
     have HC39 := aM H
     clear H
     go_upto_if 48 with (fail)
     go_cut [] (fun wc => ∃ (kq : Nat), Aside0 (laws_FnFlushed.j2 kq t426 t427 t435 t439 t442 = some r) ∧ Aside0 (kq ≤ kj8) ∧ Aside0 (Kd.R Kd.bool 4 wc w.heap.size (fun _ => True) v436 t435) ∧ Aside0 (Kd.R Kd.string 9 wc w.heap.size (fun k_ => some k_ ≠ ((.slice Ao17 t429.length co17) : Value).ownBlock ∧ some k_ ≠ ((.slice Ao24 t439.length co24) : Value).ownBlock ∧ some k_ ≠ ((.slice Ao32 t447.length co32) : Value).ownBlock) (.slice Ao12 t420.length co12) t420) ∧ Aside0 (Kd.R k65 65 wc w.heap.size (fun k_ => some k_ ≠ ((.slice Ao20 t432.length co20) : Value).ownBlock ∧ some k_ ≠ ((.slice Ao28 t442.length co28) : Value).ownBlock ∧ some k_ ≠ ((.slice Ao37 t450.length co37) : Value).ownBlock) (.slice Ao14 t423.length co14) t423) ∧ Aside0 (Kd.R Kd.string 9 wc w.heap.size (fun k_ => some k_ ≠ ((.slice Ao12 t420.length co12) : Value).ownBlock ∧ some k_ ≠ ((.slice Ao24 t439.length co24) : Value).ownBlock ∧ some k_ ≠ ((.slice Ao32 t447.length co32) : Value).ownBlock) (.slice Ao17 t429.length co17) t429) ∧ Aside0 (Kd.R k65 65 wc w.heap.size (fun k_ => some k_ ≠ ((.slice Ao14 t423.length co14) : Value).ownBlock ∧ some k_ ≠ ((.slice Ao28 t442.length co28) : Value).ownBlock ∧ some k_ ≠ ((.slice Ao37 t450.length co37) : Value).ownBlock) (.slice Ao20 t432.length co20) t432) ∧ Aside0 (Kd.R Kd.string 9 wc w.heap.size (fun k_ => some k_ ≠ ((.slice Ao12 t420.length co12) : Value).ownBlock ∧ some k_ ≠ ((.slice Ao17 t429.length co17) : Value).ownBlock ∧ some k_ ≠ ((.slice Ao32 t447.length co32) : Value).ownBlock) (.slice Ao24 t439.length co24) t439) ∧ Aside0 (Kd.R k65 65 wc w.heap.size (fun k_ => some k_ ≠ ((.slice Ao14 t423.length co14) : Value).ownBlock ∧ some k_ ≠ ((.slice Ao20 t432.length co20) : Value).ownBlock ∧ some k_ ≠ ((.slice Ao37 t450.length co37) : Value).ownBlock) (.slice Ao28 t442.length co28) t442) ∧ Aside0 (Kd.R Kd.string 9 wc w.heap.size (fun k_ => some k_ ≠ ((.slice Ao12 t420.length co12) : Value).ownBlock ∧ some k_ ≠ ((.slice Ao17 t429.length co17) : Value).ownBlock ∧ some k_ ≠ ((.slice Ao24 t439.length co24) : Value).ownBlock) (.slice Ao32 t447.length co32) t447) ∧ Aside0 (Kd.R k65 65 wc w.heap.size (fun k_ => some k_ ≠ ((.slice Ao14 t423.length co14) : Value).ownBlock ∧ some k_ ≠ ((.slice Ao20 t432.length co20) : Value).ownBlock ∧ some k_ ≠ ((.slice Ao28 t442.length co28) : Value).ownBlock) (.slice Ao37 t450.length co37) t450) ∧ Aside0 (wc.heap[gb428]? = some (.cells #[(.slice Ao12 t420.length co12), (.slice Ao14 t423.length co14)] 30 (0, 0))) ∧ Aside0 (wc.heap[gb438]? = some (.cells #[(.slice Ao17 t429.length co17), (.slice Ao20 t432.length co20)] 30 (0, 0))) ∧ Aside0 (wc.heap[gb446]? = some (.cells #[(.slice Ao24 t439.length co24), (.slice Ao28 t442.length co28)] 30 (0, 0))) ∧ Aside0 (wc.heap[gb454]? = some (.cells #[(.slice Ao32 t447.length co32), (.slice Ao37 t450.length co37)] 30 (0, 0))) ∧ Aside0 (Below w.heap.size w wc))
     case first =>
      have H := HC39.out
      clear HC39
      by_cases c40 : t445 = true
      ·subst c40
       rw [if_pos rfl] at H
       have H' := aM H
       clear H
       go_wp2
       go_meet
       case rel => exact ⟨_, H', ⟨by have := HJ2.out; have := HJ8.out; first | omega | exact Nat.le_refl _⟩, ⟨rP HO_7.out⟩, ⟨rP HO_429000.out⟩, ⟨rP HO_429001.out⟩, ⟨rP HO_439000.out⟩, ⟨rP HO_439001.out⟩, ⟨rP HO_447000.out⟩, ⟨rP HO_447001.out⟩, ⟨rP HO_455000.out⟩, ⟨rP HO_455001.out⟩, ⟨kP BK428⟩, ⟨kP BK438⟩, ⟨kP BK446⟩, ⟨kP BK454⟩, ⟨bB⟩⟩
      ·replace c40 := Bool.eq_false_iff.mpr c40
       subst c40
       rw [if_neg (show ¬ (false = true) by decide)] at H
       replace H := Option.bind_eq_some_iff.mp H
       obtain ⟨t455, A410, H⟩ := H
       try dsimp only at H
       have A41 := aM A410
       clear A410
       obtain rfl := Option.some.inj H
       have hnb42 := NB446_428.out
       have hnc42 := NB428_446.out
       have hnb43 := NB446_438.out
       have hnc43 := NB438_446.out
       have hnb44 := NB446_454.out
       have hnc44 := NB454_446.out
       have hcz45_0 := cZ0 BK446
       have hcz45_1 := cZ1 BK446
       have hfz45_0 := blk_frozen BK446.out 0
       have hfz45_1 := blk_frozen BK446.out 1
       have hnb46 := NB428_438.out
       have hnc46 := NB438_428.out
       have hnb47 := NB428_454.out
       have hnc47 := NB454_428.out
       have hcz48_0 := cZ0 BK428
       have hcz48_1 := cZ1 BK428
       have hfz48_0 := blk_frozen BK428.out 0
       have hfz48_1 := blk_frozen BK428.out 1
       go_wp2_with (first | ((with_reducible refine gate_callee (f := 48) rfl ?_); refine gL (some 51) Try.func48 #[.agg #[.slice Ao24 t439.length co24, .slice Ao28 t442.length co28], .agg #[.slice Ao12 t420.length co12, .slice Ao14 t423.length co14]] ?_; (with_reducible refine (spec_DiskSame.calls kj8 _ _ t439 _ _ t442 _ _ t420 _ _ t423 t455 _ ?side1 ?side2 ?side3 ?side4 ?side5 ?side6 ?side7 ?side8 A41.out).mono ?_); (case side1 => exact cR HO_447000); (case side2 => exact (Kd.R_reads' HO_447000.out).2.1); (case side3 => exact cR HO_447001); (case side4 => exact (Kd.R_reads' HO_447001.out).2.1); (case side5 => exact cR HO_429000); (case side6 => exact (Kd.R_reads' HO_429000.out).2.1); (case side7 => exact cR HO_429001); (case side8 => exact (Kd.R_reads' HO_429001.out).2.1); rintro e w49 ⟨rfl, hb⟩; refine ⟨_, rfl, ?_⟩; have n_ := aI (rB HO_7 hb) (aI (rB HO_429000 hb) (aI (rB HO_429001 hb) (aI (rB HO_439000 hb) (aI (rB HO_439001 hb) (aI (rB HO_447000 hb) (aI (rB HO_447001 hb) (aI (rB HO_455000 hb) (aI (rB HO_455001 hb) (aI (kB BK428 hb) (aI (kB BK438 hb) (aI (kB BK446 hb) (aI (kB BK454 hb) (sB HB hb))))))))))))); clear HO_7 HO_429000 HO_429001 HO_439000 HO_439001 HO_447000 HO_447001 HO_455000 HO_455001 BK428 BK438 BK446 BK454 HB; obtain ⟨HO_7, HO_429000, HO_429001, HO_439000, HO_439001, HO_447000, HO_447001, HO_455000, HO_455001, BK428, BK438, BK446, BK454, HB⟩ := n_; (try clear hb)))
       go_ret
       exact ⟨eW, bB⟩
     case rest =>
      clear HC39
      try clear c1
      try clear c2
      try clear p2
      try clear c3
      try clear c4
      try clear c5
      try clear c12
      try clear c18
      try clear c25
      try clear c26
      try clear c28
      try clear c29
      try clear c33
      try clear c34
      try clear c35
      try clear c38
      try clear c38b0
      try clear c38b1
      try clear c38b2
      try clear c40
      try clear c42
      try clear c43
      try clear c44
      try clear c46
      try clear c47
      try clear c48
      try clear hcz13_0
      try clear hcz13_1
      try clear hcz19_0
      try clear hcz19_1
      try clear hcz21_0
      try clear hcz21_1
      try clear hcz27_0
      try clear hcz27_1
      try clear hcz29_0
      try clear hcz29_1
      try clear hcz36_0
      try clear hcz36_1
      try clear hcz45_0
      try clear hcz45_1
      try clear hcz48_0
      try clear hcz48_1
      try clear hfz13_0
      try clear hfz13_1
      try clear hfz19_0
      try clear hfz19_1
      try clear hfz21_0
      try clear hfz21_1
      try clear hfz27_0
      try clear hfz27_1
      try clear hfz29_0
      try clear hfz29_1
      try clear hfz36_0
      try clear hfz36_1
      try clear hfz45_0
      try clear hfz45_1
      try clear hfz48_0
      try clear hfz48_1
      try clear p2
      obtain ⟨kq, HA, HJ38, HO_7, HO_429000, HO_429001, HO_439000, HO_439001, HO_447000, HO_447001, HO_455000, HO_455001, BK428, BK438, BK446, BK454, HB⟩ := hcut
      cases kq with
      | zero => exact absurd HA.out (by simp [laws_FnFlushed.j2])
      | succ kj38 =>
       have H := HA.out
       clear HA
       simp only [laws_FnFlushed.j2] at H
       replace H := Option.bind_eq_some_iff.mp H
       obtain ⟨⟨t456, t457⟩, A500, H⟩ := H
       try dsimp only at H
       have A50 := aM A500
       clear A500
       replace H := Option.bind_eq_some_iff.mp H
       obtain ⟨⟨t458, t461⟩, A510, H⟩ := H
       try dsimp only at H
       have A51 := aM A510
       clear A510
       replace H := Option.bind_eq_some_iff.mp H
       obtain ⟨⟨t465, t466⟩, A520, H⟩ := H
       try dsimp only at H
       have A52 := aM A520
       clear A520
       by_cases c53 : t457 = true
       ·subst c53
        rw [if_pos rfl] at H
        by_cases c54 : t466 = true
        ·subst c54
         rw [if_pos rfl] at H
         by_cases c55 : t456.toList = t427.toList
         ·rw [if_pos c55] at H
          have c55b0 : (t456.toList == t427.toList) = true := beq_iff_eq.mpr c55
          have c55b1 : (t456.toList != t427.toList) = false := bne_eq_false_iff_eq.mpr c55
          clear c55
          by_cases c56 : t465.toList = t427.toList
          ·rw [if_pos c56] at H
           have c56b0 : (t465.toList == t427.toList) = true := beq_iff_eq.mpr c56
           have c56b1 : (t465.toList != t427.toList) = false := bne_eq_false_iff_eq.mpr c56
           clear c56
           replace H := Option.bind_eq_some_iff.mp H
           obtain ⟨⟨t467, t470⟩, A570, H⟩ := H
           try dsimp only at H
           have A57 := aM A570
           clear A570
           replace H := Option.bind_eq_some_iff.mp H
           obtain ⟨t473, A580, H⟩ := H
           try dsimp only at H
           have A58 := aM A580
           clear A580
           by_cases c59 : t473 = true
           ·subst c59
            rw [if_pos rfl] at H
            by_cases c60 : (t461.length : Int) = 0
            ·rw [if_pos c60] at H
             have c60b0 : ((t461.length : Int) == 0) = true := beq_iff_eq.mpr c60
             have c60b1 : ((t461.length : Int) != 0) = false := bne_eq_false_iff_eq.mpr c60
             clear c60
             replace H := Option.bind_eq_some_iff.mp H
             obtain ⟨⟨t474, t477⟩, A610, H⟩ := H
             try dsimp only at H
             have A61 := aM A610
             clear A610
             replace H := Option.bind_eq_some_iff.mp H
             obtain ⟨t480, A620, H⟩ := H
             try dsimp only at H
             have A62 := aM A620
             clear A620
             obtain rfl := Option.some.inj H
             have hnb63 := NB446_428.out
             have hnc63 := NB428_446.out
             have hnb64 := NB446_438.out
             have hnc64 := NB438_446.out
             have hnb65 := NB446_454.out
             have hnc65 := NB454_446.out
             have hcz66_0 := cZ0 BK446
             have hcz66_1 := cZ1 BK446
             have hfz66_0 := blk_frozen BK446.out 0
             have hfz66_1 := blk_frozen BK446.out 1
             try go_wp2_with (first | ((with_reducible refine gate_callee (f := 21) rfl ?_); refine gL (some 55) Try.func21 #[.agg #[.slice Ao24 t439.length co24, .slice Ao28 t442.length co28], .int .i64 t426] ?_; (with_reducible refine (impl_SectorRead.calls kj38 _ _ t439 _ _ t442 t426 t456 true _ ?side1 ?side2 ?side3 ?side4 A50.out).mono ?_); (case side1 => exact cR HO_447000); (case side2 => exact (Kd.R_reads' HO_447000.out).2.1); (case side3 => exact cR HO_447001); (case side4 => exact (Kd.R_reads' HO_447001.out).2.1); rintro e w67 ⟨rfl, hb⟩; refine ⟨_, rfl, ?_⟩; have n_ := aI (rB HO_7 hb) (aI (rB HO_429000 hb) (aI (rB HO_429001 hb) (aI (rB HO_439000 hb) (aI (rB HO_439001 hb) (aI (rB HO_447000 hb) (aI (rB HO_447001 hb) (aI (rB HO_455000 hb) (aI (rB HO_455001 hb) (aI (kB BK428 hb) (aI (kB BK438 hb) (aI (kB BK446 hb) (aI (kB BK454 hb) (sB HB hb))))))))))))); clear HO_7 HO_429000 HO_429001 HO_439000 HO_439001 HO_447000 HO_447001 HO_455000 HO_455001 BK428 BK438 BK446 BK454 HB; obtain ⟨HO_7, HO_429000, HO_429001, HO_439000, HO_439001, HO_447000, HO_447001, HO_455000, HO_455001, BK428, BK438, BK446, BK454, HB⟩ := n_; (try clear hb); have hcz68_0 := cZ0 BK446; have hcz68_1 := cZ1 BK446; have hfz68_0 := blk_frozen BK446.out 0; have hfz68_1 := blk_frozen BK446.out 1) | ((with_reducible refine gate_callee (f := 32) rfl ?_); refine gL (some 59) Try.func32 #[.agg #[.slice Ao24 t439.length co24, .slice Ao28 t442.length co28]] ?_; (with_reducible refine (impl_Flush.calls kj38 _ _ t439 _ _ t442 t458 t461 _ ?side1 ?side2 ?side3 ?side4 A51.out).mono ?_); (case side1 => exact cR HO_447000); (case side2 => exact (Kd.R_reads' HO_447000.out).2.1); (case side3 => exact cR HO_447001); (case side4 => exact (Kd.R_reads' HO_447001.out).2.1); rintro e w69 ⟨v459, v462, rfl, ho0, ho1, hb⟩; refine ⟨_, rfl, ?_⟩; have n_ := aI (rB HO_7 hb) (aI (eR HO_429000 ho0 hb) (aI (eR HO_429001 ho1 hb) (aI (eR HO_439000 ho0 hb) (aI (eR HO_439001 ho1 hb) (aI (eR HO_447000 ho0 hb) (aI (eR HO_447001 ho1 hb) (aI (eR HO_455000 ho0 hb) (aI (eR HO_455001 ho1 hb) (aI (aM (Kd.R_lower (Kd.R_new' (Kd.R_new' (Kd.R_new' (Kd.R_new' ho0 (rL HO_429000)) (rL HO_439000)) (rL HO_447000)) (rL HO_455000)) (zB HB))) (aI (aM (Kd.R_lower (Kd.R_new' (Kd.R_new' (Kd.R_new' (Kd.R_new' ho1 (rL HO_429001)) (rL HO_439001)) (rL HO_447001)) (rL HO_455001)) (zB HB))) (aI (kB BK428 hb) (aI (kB BK438 hb) (aI (kB BK446 hb) (aI (kB BK454 hb) (sB HB hb))))))))))))))); clear HO_7 HO_429000 HO_429001 HO_439000 HO_439001 HO_447000 HO_447001 HO_455000 HO_455001 BK428 BK438 BK446 BK454 HB; obtain ⟨HO_7, HO_429000, HO_429001, HO_439000, HO_439001, HO_447000, HO_447001, HO_455000, HO_455001, HO460, HO463, BK428, BK438, BK446, BK454, HB⟩ := n_; (try clear hb ho0 ho1)) | ((with_reducible refine gate_dst (N := 14) rfl ?_); (try (refine gate_guard (by rfl) ?_; dsimp only)); refine box_event ?hg (N := 14) ?hd (cs := #[.slice none 0 0, .slice none 0 0]) (t := 30) ?hr ?_; (case hd => rfl); (case hg => rfl); (case hr => first | (go_simp; done) | (go_simp; rfl)); intro gb464 hg w70 hbox hb; have n_ := aI (rB HO_7 hb) (aI (rB HO_429000 hb) (aI (rB HO_429001 hb) (aI (rB HO_439000 hb) (aI (rB HO_439001 hb) (aI (rB HO_447000 hb) (aI (rB HO_447001 hb) (aI (rB HO_455000 hb) (aI (rB HO_455001 hb) (aI (rB HO460 hb) (aI (rB HO463 hb) (aI (kB BK428 hb) (aI (kB BK438 hb) (aI (kB BK446 hb) (aI (kB BK454 hb) (aI (sB HB hb) (aI (aM hbox) (aI (gE HB hg) (aI (gE HB hg) (aI (nL BK428 hg) (aI (nG BK428 hg) (aI (nL BK438 hg) (aI (nG BK438 hg) (aI (nL BK446 hg) (aI (nG BK446 hg) (aI (nL BK454 hg) (nG BK454 hg)))))))))))))))))))))))))); clear HO_7 HO_429000 HO_429001 HO_439000 HO_439001 HO_447000 HO_447001 HO_455000 HO_455001 HO460 HO463 BK428 BK438 BK446 BK454 HB; obtain ⟨HO_7, HO_429000, HO_429001, HO_439000, HO_439001, HO_447000, HO_447001, HO_455000, HO_455001, HO460, HO463, BK428, BK438, BK446, BK454, HB, BK464, GW464, GE464, NB428_464, NB464_428, NB438_464, NB464_438, NB446_464, NB464_446, NB454_464, NB464_454⟩ := n_; (try clear hb hbox hg); obtain ⟨Ao71, co71, eo71⟩ := Kd.R_slice HO460.out; subst eo71; have hnb72 := NB464_428.out; have hnc72 := NB428_464.out; have hnb73 := NB464_438.out; have hnc73 := NB438_464.out; have hnb74 := NB464_446.out; have hnc74 := NB446_464.out; have hnb75 := NB464_454.out; have hnc75 := NB454_464.out; have hcz76_0 := cZ0 BK464; have hcz76_1 := cZ1 BK464; have hfz76_0 := blk_frozen BK464.out 0; have hfz76_1 := blk_frozen BK464.out 1; obtain ⟨Ao77, co77, eo77⟩ := Kd.R_slice HO463.out; subst eo77) | ((with_reducible refine gate_callee (f := 21) rfl ?_); refine gL (some 63) Try.func21 #[.agg #[.slice Ao71 t458.length co71, .slice Ao77 t461.length co77], .int .i64 t426] ?_; (with_reducible refine (impl_SectorRead.calls kj38 _ _ t458 _ _ t461 t426 t465 true _ ?side1 ?side2 ?side3 ?side4 A52.out).mono ?_); (case side1 => refine (Kd.R_reads' (e := 9) (base := w.heap.size) (ok := fun k_ => ((((True ∧ some k_ ≠ (.slice Ao12 t420.length co12 : Value).ownBlock) ∧ some k_ ≠ (.slice Ao17 t429.length co17 : Value).ownBlock) ∧ some k_ ≠ (.slice Ao24 t439.length co24 : Value).ownBlock) ∧ some k_ ≠ (.slice Ao32 t447.length co32 : Value).ownBlock)) (n := t458.length) (c := co71) ?_).2.2; exact (rP (Kd.R_mono (Kd.R_far (p := ⟨gb464, 1, none⟩) (Kd.R_far (p := ⟨gb464, 0, none⟩) (Kd.R_types HO460.out BK464.out (by decide)) (fun _ hk => hk.2) (.slice Ao71 t458.length co71)) (fun _ hk => hk.2) (.slice Ao77 t461.length co77)) (fun _ h_ => h_.1)))); (case side2 => exact (Kd.R_reads' HO460.out).2.1); (case side3 => refine (Kd.R_reads' (e := 65) (base := w.heap.size) (ok := fun k_ => ((((True ∧ some k_ ≠ (.slice Ao14 t423.length co14 : Value).ownBlock) ∧ some k_ ≠ (.slice Ao20 t432.length co20 : Value).ownBlock) ∧ some k_ ≠ (.slice Ao28 t442.length co28 : Value).ownBlock) ∧ some k_ ≠ (.slice Ao37 t450.length co37 : Value).ownBlock)) (n := t461.length) (c := co77) ?_).2.2; exact (rP (Kd.R_mono (Kd.R_far (p := ⟨gb464, 1, none⟩) (Kd.R_far (p := ⟨gb464, 0, none⟩) (Kd.R_types HO463.out BK464.out (by decide)) (fun _ hk => hk.2) (.slice Ao71 t458.length co71)) (fun _ hk => hk.2) (.slice Ao77 t461.length co77)) (fun _ h_ => h_.1)))); (case side4 => exact (Kd.R_reads' HO463.out).2.1); rintro e w78 ⟨rfl, hb⟩; refine ⟨_, rfl, ?_⟩; have n_ := aI (aM (Kd.R_below (rP (Kd.R_mono (Kd.R_far (p := ⟨gb464, 1, none⟩) (Kd.R_far (p := ⟨gb464, 0, none⟩) (Kd.R_types HO_7.out BK464.out (by decide)) (fun _ hk => hk.2) (.slice Ao71 t458.length co71)) (fun _ hk => hk.2) (.slice Ao77 t461.length co77)) (fun _ h_ => h_.1))) hb)) (aI (aM (Kd.R_below (rP (Kd.R_mono (Kd.R_far (p := ⟨gb464, 1, none⟩) (Kd.R_far (p := ⟨gb464, 0, none⟩) (Kd.R_types HO_429000.out BK464.out (by decide)) (fun _ hk => hk.2) (.slice Ao71 t458.length co71)) (fun _ hk => hk.2) (.slice Ao77 t461.length co77)) (fun _ h_ => h_.1))) hb)) (aI (aM (Kd.R_below (rP (Kd.R_mono (Kd.R_far (p := ⟨gb464, 1, none⟩) (Kd.R_far (p := ⟨gb464, 0, none⟩) (Kd.R_types HO_429001.out BK464.out (by decide)) (fun _ hk => hk.2) (.slice Ao71 t458.length co71)) (fun _ hk => hk.2) (.slice Ao77 t461.length co77)) (fun _ h_ => h_.1))) hb)) (aI (aM (Kd.R_below (rP (Kd.R_mono (Kd.R_far (p := ⟨gb464, 1, none⟩) (Kd.R_far (p := ⟨gb464, 0, none⟩) (Kd.R_types HO_439000.out BK464.out (by decide)) (fun _ hk => hk.2) (.slice Ao71 t458.length co71)) (fun _ hk => hk.2) (.slice Ao77 t461.length co77)) (fun _ h_ => h_.1))) hb)) (aI (aM (Kd.R_below (rP (Kd.R_mono (Kd.R_far (p := ⟨gb464, 1, none⟩) (Kd.R_far (p := ⟨gb464, 0, none⟩) (Kd.R_types HO_439001.out BK464.out (by decide)) (fun _ hk => hk.2) (.slice Ao71 t458.length co71)) (fun _ hk => hk.2) (.slice Ao77 t461.length co77)) (fun _ h_ => h_.1))) hb)) (aI (aM (Kd.R_below (rP (Kd.R_mono (Kd.R_far (p := ⟨gb464, 1, none⟩) (Kd.R_far (p := ⟨gb464, 0, none⟩) (Kd.R_types HO_447000.out BK464.out (by decide)) (fun _ hk => hk.2) (.slice Ao71 t458.length co71)) (fun _ hk => hk.2) (.slice Ao77 t461.length co77)) (fun _ h_ => h_.1))) hb)) (aI (aM (Kd.R_below (rP (Kd.R_mono (Kd.R_far (p := ⟨gb464, 1, none⟩) (Kd.R_far (p := ⟨gb464, 0, none⟩) (Kd.R_types HO_447001.out BK464.out (by decide)) (fun _ hk => hk.2) (.slice Ao71 t458.length co71)) (fun _ hk => hk.2) (.slice Ao77 t461.length co77)) (fun _ h_ => h_.1))) hb)) (aI (aM (Kd.R_below (rP (Kd.R_mono (Kd.R_far (p := ⟨gb464, 1, none⟩) (Kd.R_far (p := ⟨gb464, 0, none⟩) (Kd.R_types HO_455000.out BK464.out (by decide)) (fun _ hk => hk.2) (.slice Ao71 t458.length co71)) (fun _ hk => hk.2) (.slice Ao77 t461.length co77)) (fun _ h_ => h_.1))) hb)) (aI (aM (Kd.R_below (rP (Kd.R_mono (Kd.R_far (p := ⟨gb464, 1, none⟩) (Kd.R_far (p := ⟨gb464, 0, none⟩) (Kd.R_types HO_455001.out BK464.out (by decide)) (fun _ hk => hk.2) (.slice Ao71 t458.length co71)) (fun _ hk => hk.2) (.slice Ao77 t461.length co77)) (fun _ h_ => h_.1))) hb)) (aI (aM (Kd.R_below (rP (Kd.R_mono (Kd.R_far (p := ⟨gb464, 1, none⟩) (Kd.R_far (p := ⟨gb464, 0, none⟩) (Kd.R_types HO460.out BK464.out (by decide)) (fun _ hk => hk.2) (.slice Ao71 t458.length co71)) (fun _ hk => hk.2) (.slice Ao77 t461.length co77)) (fun _ h_ => h_.1))) hb)) (aI (aM (Kd.R_below (rP (Kd.R_mono (Kd.R_far (p := ⟨gb464, 1, none⟩) (Kd.R_far (p := ⟨gb464, 0, none⟩) (Kd.R_types HO463.out BK464.out (by decide)) (fun _ hk => hk.2) (.slice Ao71 t458.length co71)) (fun _ hk => hk.2) (.slice Ao77 t461.length co77)) (fun _ h_ => h_.1))) hb)) (aI (kB BK428 hb) (aI (kB BK438 hb) (aI (kB BK446 hb) (aI (kB BK454 hb) (aI (aM (blk_below (g := gb464) (o := .cells #[.slice Ao71 t458.length co71, .slice Ao77 t461.length co77] 30 (0, 0)) (by (with_reducible repeat (first | refine blk_drewN ?_ _ | refine blk_drew ?_ | refine blk_alloc ?_ _)); refine blk_put (cs := #[.slice Ao71 t458.length co71, .slice none 0 0]) ?_ 1 _ rfl; (with_reducible repeat (first | refine blk_drewN ?_ _ | refine blk_drew ?_ | refine blk_alloc ?_ _)); refine blk_put (cs := #[.slice none 0 0, .slice none 0 0]) ?_ 0 _ rfl; (with_reducible repeat (first | refine blk_drewN ?_ _ | refine blk_drew ?_ | refine blk_alloc ?_ _)); exact BK464.out) hb)) (sB HB hb)))))))))))))))); clear HO_7 HO_429000 HO_429001 HO_439000 HO_439001 HO_447000 HO_447001 HO_455000 HO_455001 HO460 HO463 BK428 BK438 BK446 BK454 BK464 HB; obtain ⟨HO_7, HO_429000, HO_429001, HO_439000, HO_439001, HO_447000, HO_447001, HO_455000, HO_455001, HO460, HO463, BK428, BK438, BK446, BK454, BK464, HB⟩ := n_; (try clear hb)))
             have n0_ := aM (Kd.R_drew HO_7.out)
             have n1_ := aM (Kd.R_drew HO_429000.out)
             have n2_ := aM (Kd.R_drew HO_429001.out)
             have n3_ := aM (Kd.R_drew HO_439000.out)
             have n4_ := aM (Kd.R_drew HO_439001.out)
             have n5_ := aM (Kd.R_drew HO_447000.out)
             have n6_ := aM (Kd.R_drew HO_447001.out)
             have n7_ := aM (Kd.R_drew HO_455000.out)
             have n8_ := aM (Kd.R_drew HO_455001.out)
             have n9_ := aM (Kd.R_drew HO460.out)
             have n10_ := aM (Kd.R_drew HO463.out)
             have n11_ := aM (blk_drew BK428.out)
             have n12_ := aM (blk_drew BK438.out)
             have n13_ := aM (blk_drew BK446.out)
             have n14_ := aM (blk_drew BK454.out)
             have n15_ := aM (blk_drew BK464.out)
             have n16_ := aM (below_drew1 HB.out)
             clear HO_7
             clear HO_429000
             clear HO_429001
             clear HO_439000
             clear HO_439001
             clear HO_447000
             clear HO_447001
             clear HO_455000
             clear HO_455001
             clear HO460
             clear HO463
             clear BK428
             clear BK438
             clear BK446
             clear BK454
             clear BK464
             clear HB
             have HO_7 := n0_
             have HO_429000 := n1_
             have HO_429001 := n2_
             have HO_439000 := n3_
             have HO_439001 := n4_
             have HO_447000 := n5_
             have HO_447001 := n6_
             have HO_455000 := n7_
             have HO_455001 := n8_
             have HO460 := n9_
             have HO463 := n10_
             have BK428 := n11_
             have BK438 := n12_
             have BK446 := n13_
             have BK454 := n14_
             have BK464 := n15_
             have HB := n16_
             clear n0_ n1_ n2_ n3_ n4_ n5_ n6_ n7_ n8_ n9_ n10_ n11_ n12_ n13_ n14_ n15_ n16_
             obtain ⟨Ao80, co80, eo80⟩ := Kd.R_slice HO_7.out
             (first | subst eo80 | (injection eo80 with f1_ f2_ f3_; have f4_ := f1_.symm; have f5_ := f3_.symm; clear f1_ f2_ f3_; subst f4_; subst f5_))
             refine start_ (n := 34) (S := fun w' => w'.cell? ⟨gb464, 0, none⟩ = some (.slice Ao71 t458.length co71) ∧ w'.cell? ⟨gb464, 1, none⟩ = some (.slice Ao77 t461.length co77)) (ds := []) #[tF, tF, tF, tF, tF, tF, tF, tF, tF, tF, tF, tF, tF, tF, tF, tF, tF, tF, tF, tF, tF, tF, tF, tF, tF, tF, tF, tF, tF, tF, tF, tF, tF, tF] (by kernel_rfl) rfl rfl ⟨(blk_cell BK464.out 0).trans rfl, (blk_cell BK464.out 1).trans rfl⟩ (fun hHeld => ?_); refine with_tabW laws_FnFlushed.tab14 laws_FnFlushed.bits14 (fun HT_ HW_ => ?_)
             generalize w78.drew = w79 at HO_7 HO_429000 HO_429001 HO_439000 HO_439001 HO_447000 HO_447001 HO_455000 HO_455001 HO460 HO463 BK428 BK438 BK446 BK454 BK464 HB hHeld ⊢
             refine pY 0 66 #[tT, tF, tF, tF, tF, tF, tF, tF, tF, tF, tF, tF, tF, tF, tF, tF, tF, tF, tF, tF, tF, tF, tF, tF, tF, tF, tF, tF, tF, tF, tF, tF, tF, tF] ?_
             refine pY 1 67 #[tT, tT, tF, tF, tF, tF, tF, tF, tF, tF, tF, tF, tF, tF, tF, tF, tF, tF, tF, tF, tF, tF, tF, tF, tF, tF, tF, tF, tF, tF, tF, tF, tF, tF] ?_
             refine pY 2 68 #[tT, tT, tT, tF, tF, tF, tF, tF, tF, tF, tF, tF, tF, tF, tF, tF, tF, tF, tF, tF, tF, tF, tF, tF, tF, tF, tF, tF, tF, tF, tF, tF, tF, tF] ?_
             refine pY 3 69 #[tT, tT, tT, tT, tF, tF, tF, tF, tF, tF, tF, tF, tF, tF, tF, tF, tF, tF, tF, tF, tF, tF, tF, tF, tF, tF, tF, tF, tF, tF, tF, tF, tF, tF] ?_
             refine pY 4 70 #[tT, tT, tT, tT, tT, tF, tF, tF, tF, tF, tF, tF, tF, tF, tF, tF, tF, tF, tF, tF, tF, tF, tF, tF, tF, tF, tF, tF, tF, tF, tF, tF, tF, tF] ?_
             refine pY 5 71 #[tT, tT, tT, tT, tT, tT, tF, tF, tF, tF, tF, tF, tF, tF, tF, tF, tF, tF, tF, tF, tF, tF, tF, tF, tF, tF, tF, tF, tF, tF, tF, tF, tF, tF] ?_
             refine pY 6 72 #[tT, tT, tT, tT, tT, tT, tT, tF, tF, tF, tF, tF, tF, tF, tF, tF, tF, tF, tF, tF, tF, tF, tF, tF, tF, tF, tF, tF, tF, tF, tF, tF, tF, tF] ?_
             refine pY 7 73 #[tT, tT, tT, tT, tT, tT, tT, tT, tF, tF, tF, tF, tF, tF, tF, tF, tF, tF, tF, tF, tF, tF, tF, tF, tF, tF, tF, tF, tF, tF, tF, tF, tF, tF] ?_
             refine pY 8 74 #[tT, tT, tT, tT, tT, tT, tT, tT, tT, tF, tF, tF, tF, tF, tF, tF, tF, tF, tF, tF, tF, tF, tF, tF, tF, tF, tF, tF, tF, tF, tF, tF, tF, tF] ?_
             refine pY 9 75 #[tT, tT, tT, tT, tT, tT, tT, tT, tT, tT, tF, tF, tF, tF, tF, tF, tF, tF, tF, tF, tF, tF, tF, tF, tF, tF, tF, tF, tF, tF, tF, tF, tF, tF] ?_
             refine pY 10 76 #[tT, tT, tT, tT, tT, tT, tT, tT, tT, tT, tT, tF, tF, tF, tF, tF, tF, tF, tF, tF, tF, tF, tF, tF, tF, tF, tF, tF, tF, tF, tF, tF, tF, tF] ?_
             refine pY 11 77 #[tT, tT, tT, tT, tT, tT, tT, tT, tT, tT, tT, tT, tF, tF, tF, tF, tF, tF, tF, tF, tF, tF, tF, tF, tF, tF, tF, tF, tF, tF, tF, tF, tF, tF] ?_
             refine pY 12 78 #[tT, tT, tT, tT, tT, tT, tT, tT, tT, tT, tT, tT, tT, tF, tF, tF, tF, tF, tF, tF, tF, tF, tF, tF, tF, tF, tF, tF, tF, tF, tF, tF, tF, tF] ?_
             refine pY 13 79 #[tT, tT, tT, tT, tT, tT, tT, tT, tT, tT, tT, tT, tT, tT, tF, tF, tF, tF, tF, tF, tF, tF, tF, tF, tF, tF, tF, tF, tF, tF, tF, tF, tF, tF] ?_
             refine pY 14 80 #[tT, tT, tT, tT, tT, tT, tT, tT, tT, tT, tT, tT, tT, tT, tT, tF, tF, tF, tF, tF, tF, tF, tF, tF, tF, tF, tF, tF, tF, tF, tF, tF, tF, tF] ?_
             refine pY 16 82 #[tT, tT, tT, tT, tT, tT, tT, tT, tT, tT, tT, tT, tT, tT, tT, tF, tT, tF, tF, tF, tF, tF, tF, tF, tF, tF, tF, tF, tF, tF, tF, tF, tF, tF] ?_
             refine take_ (i := 15) (N := some 81) (v := ?_) (a' := ?_) #[tT, tT, tT, tT, tT, tT, tT, tT, tT, tT, tT, tT, tT, tT, tT, tT, tT, tF, tF, tF, tF, tF, tF, tF, tF, tF, tF, tF, tF, tF, tF, tF, tF, tF] rfl rfl (take_ofW HT_.out HW_.out (by kernel_rfl)) (fun _ _ _ h => h) (Or.inl ⟨by rfl, ?_⟩) hHeld ?_ ?_
             rotate_left
             ·rintro w' ⟨s0, s1⟩
              go_simp
              with_reducible rfl
             rotate_left
             ·simp only [Act.put, List.setIfInBounds_toArray, List.set_cons_zero, List.set_cons_succ, i64_w, i32_w]
              rfl
             refine take_ (i := 18) (N := some 84) (v := ?_) (a' := ?_) #[tT, tT, tT, tT, tT, tT, tT, tT, tT, tT, tT, tT, tT, tT, tT, tT, tT, tF, tT, tF, tF, tF, tF, tF, tF, tF, tF, tF, tF, tF, tF, tF, tF, tF] rfl rfl (take_ofW HT_.out HW_.out (by kernel_rfl)) (fun _ _ _ h => h) (Or.inl ⟨by rfl, ?_⟩) hHeld ?_ ?_
             rotate_left
             ·rintro w' ⟨s0, s1⟩
              go_simp
              with_reducible rfl
             rotate_left
             ·simp only [Act.put, List.setIfInBounds_toArray, List.set_cons_zero, List.set_cons_succ, i64_w, i32_w]
              rfl
             refine one_ (i := 17) (N := some 83) #[tT, tT, tT, tT, tT, tT, tT, tT, tT, tT, tT, tT, tT, tT, tT, tT, tT, tT, tT, tF, tF, tF, tF, tF, tF, tF, tF, tF, tF, tF, tF, tF, tF, tF] rfl rfl (one_of HT_.out (by kernel_rfl)) (by decide) (fun K hK => ?_)
             refine goes_ Try.func35 (by kernel_rfl) rfl #[.agg #[.slice Ao71 t458.length co71, .slice Ao77 t461.length co77], .slice Ao80 t435.length co80] (by rfl) rfl rfl (by (try simp only [List.map_toArray, List.map_cons, List.map_nil]); first | done | rfl | (simp only [List.length_drop, List.length_take]; rfl)) ?_
             with_reducible refine (impl_Fall.calls kj38 _ _ t458 _ _ t461 _ _ t435 t467 t470 _ ?side1 ?side2 ?side3 ?side4 ?side5 ?side6 A57.out).mono ?_
             (case side1 => exact cR HO460)
             (case side2 => exact (Kd.R_reads' HO460.out).2.1)
             (case side3 => exact cR HO463)
             (case side4 => exact (Kd.R_reads' HO463.out).2.1)
             (case side5 => exact cR HO_7)
             (case side6 => exact (Kd.R_reads' HO_7.out).2.1)
             rintro e w81 ⟨v468, v471, rfl, ho0, ho1, hb⟩
             refine ⟨_, rfl, ?_⟩
             have n0_ := rB HO_7 hb
             have n1_ := eR HO_429000 ho0 hb
             have n2_ := eR HO_429001 ho1 hb
             have n3_ := eR HO_439000 ho0 hb
             have n4_ := eR HO_439001 ho1 hb
             have n5_ := eR HO_447000 ho0 hb
             have n6_ := eR HO_447001 ho1 hb
             have n7_ := eR HO_455000 ho0 hb
             have n8_ := eR HO_455001 ho1 hb
             have n9_ := eR HO460 ho0 hb
             have n10_ := eR HO463 ho1 hb
             have n11_ := aM (Kd.R_lower (Kd.R_new' (Kd.R_new' (Kd.R_new' (Kd.R_new' (Kd.R_new' ho0 (rL HO_429000)) (rL HO_439000)) (rL HO_447000)) (rL HO_455000)) (rL HO460)) (zB HB))
             have n12_ := aM (Kd.R_lower (Kd.R_new' (Kd.R_new' (Kd.R_new' (Kd.R_new' (Kd.R_new' ho1 (rL HO_429001)) (rL HO_439001)) (rL HO_447001)) (rL HO_455001)) (rL HO463)) (zB HB))
             have n13_ := kB BK428 hb
             have n14_ := kB BK438 hb
             have n15_ := kB BK446 hb
             have n16_ := kB BK454 hb
             have n17_ := kB BK464 hb
             have n18_ := sB HB hb
             clear HO_7
             clear HO_429000
             clear HO_429001
             clear HO_439000
             clear HO_439001
             clear HO_447000
             clear HO_447001
             clear HO_455000
             clear HO_455001
             clear HO460
             clear HO463
             clear BK428
             clear BK438
             clear BK446
             clear BK454
             clear BK464
             clear HB
             have HO_7 := n0_
             have HO_429000 := n1_
             have HO_429001 := n2_
             have HO_439000 := n3_
             have HO_439001 := n4_
             have HO_447000 := n5_
             have HO_447001 := n6_
             have HO_455000 := n7_
             have HO_455001 := n8_
             have HO460 := n9_
             have HO463 := n10_
             have HO469 := n11_
             have HO472 := n12_
             have BK428 := n13_
             have BK438 := n14_
             have BK446 := n15_
             have BK454 := n16_
             have BK464 := n17_
             have HB := n18_
             clear n0_ n1_ n2_ n3_ n4_ n5_ n6_ n7_ n8_ n9_ n10_ n11_ n12_ n13_ n14_ n15_ n16_ n17_ n18_
             (try clear hb)
             (try clear hb2)
             (try clear hk)
             (try clear hi)
             (try clear ho0)
             (try clear ho1)
             obtain ⟨Ao82, co82, eo82⟩ := Kd.R_slice HO469.out
             (first | subst eo82 | (injection eo82 with f1_ f2_ f3_; have f4_ := f1_.symm; have f5_ := f3_.symm; clear f1_ f2_ f3_; subst f4_; subst f5_))
             obtain ⟨Ao83, co83, eo83⟩ := Kd.R_slice HO472.out
             (first | subst eo83 | (injection eo83 with f1_ f2_ f3_; have f4_ := f1_.symm; have f5_ := f3_.symm; clear f1_ f2_ f3_; subst f4_; subst f5_))
             refine hK.out _ _ ⟨(blk_cell BK464.out 0).trans rfl, (blk_cell BK464.out 1).trans rfl⟩ (fun hHeld => ?_)
             clear hK K
             refine norm_ (a' := ?_) ?_ ?_
             rotate_left
             ·show Act.put _ (some 83) _ = _
              simp only [Act.put, List.setIfInBounds_toArray, List.set_cons_zero, List.set_cons_succ, i64_w, i32_w]
              rfl
             refine one_ (i := 19) (N := some 85) #[tT, tT, tT, tT, tT, tT, tT, tT, tT, tT, tT, tT, tT, tT, tT, tT, tT, tT, tT, tT, tF, tF, tF, tF, tF, tF, tF, tF, tF, tF, tF, tF, tF, tF] rfl rfl (one_of HT_.out (by kernel_rfl)) (by decide) (fun K hK => ?_)
             refine goes_ Try.func49 (by kernel_rfl) rfl #[.agg #[.slice Ao82 t467.length co82, .slice Ao83 t470.length co83], .agg #[.slice Ao71 t458.length co71, .slice Ao77 t461.length co77]] (by rfl) rfl rfl (by (try simp only [List.map_toArray, List.map_cons, List.map_nil]); first | done | rfl | (simp only [List.length_drop, List.length_take]; rfl)) ?_
             with_reducible refine (impl_DiskSame.calls kj38 _ _ t467 _ _ t470 _ _ t458 _ _ t461 true _ ?side1 ?side2 ?side3 ?side4 ?side5 ?side6 ?side7 ?side8 A58.out).mono ?_
             (case side1 => exact cR HO469)
             (case side2 => exact (Kd.R_reads' HO469.out).2.1)
             (case side3 => exact cR HO472)
             (case side4 => exact (Kd.R_reads' HO472.out).2.1)
             (case side5 => exact cR HO460)
             (case side6 => exact (Kd.R_reads' HO460.out).2.1)
             (case side7 => exact cR HO463)
             (case side8 => exact (Kd.R_reads' HO463.out).2.1)
             rintro e w84 ⟨rfl, hb⟩
             refine ⟨_, rfl, ?_⟩
             have n0_ := rB HO_7 hb
             have n1_ := rB HO_429000 hb
             have n2_ := rB HO_429001 hb
             have n3_ := rB HO_439000 hb
             have n4_ := rB HO_439001 hb
             have n5_ := rB HO_447000 hb
             have n6_ := rB HO_447001 hb
             have n7_ := rB HO_455000 hb
             have n8_ := rB HO_455001 hb
             have n9_ := rB HO460 hb
             have n10_ := rB HO463 hb
             have n11_ := rB HO469 hb
             have n12_ := rB HO472 hb
             have n13_ := kB BK428 hb
             have n14_ := kB BK438 hb
             have n15_ := kB BK446 hb
             have n16_ := kB BK454 hb
             have n17_ := kB BK464 hb
             have n18_ := sB HB hb
             clear HO_7
             clear HO_429000
             clear HO_429001
             clear HO_439000
             clear HO_439001
             clear HO_447000
             clear HO_447001
             clear HO_455000
             clear HO_455001
             clear HO460
             clear HO463
             clear HO469
             clear HO472
             clear BK428
             clear BK438
             clear BK446
             clear BK454
             clear BK464
             clear HB
             have HO_7 := n0_
             have HO_429000 := n1_
             have HO_429001 := n2_
             have HO_439000 := n3_
             have HO_439001 := n4_
             have HO_447000 := n5_
             have HO_447001 := n6_
             have HO_455000 := n7_
             have HO_455001 := n8_
             have HO460 := n9_
             have HO463 := n10_
             have HO469 := n11_
             have HO472 := n12_
             have BK428 := n13_
             have BK438 := n14_
             have BK446 := n15_
             have BK454 := n16_
             have BK464 := n17_
             have HB := n18_
             clear n0_ n1_ n2_ n3_ n4_ n5_ n6_ n7_ n8_ n9_ n10_ n11_ n12_ n13_ n14_ n15_ n16_ n17_ n18_
             (try clear hb)
             (try clear hb2)
             (try clear hk)
             (try clear hi)
             refine hK.out _ _ ⟨(blk_cell BK464.out 0).trans rfl, (blk_cell BK464.out 1).trans rfl⟩ (fun hHeld => ?_)
             clear hK K
             refine norm_ (a' := ?_) ?_ ?_
             rotate_left
             ·show Act.put _ (some 85) _ = _
              simp only [Act.put, List.setIfInBounds_toArray, List.set_cons_zero, List.set_cons_succ, i64_w, i32_w]
              rfl
             refine pY 20 86 #[tT, tT, tT, tT, tT, tT, tT, tT, tT, tT, tT, tT, tT, tT, tT, tT, tT, tT, tT, tT, tT, tF, tF, tF, tF, tF, tF, tF, tF, tF, tF, tF, tF, tF] ?_
             refine pY 21 87 #[tT, tT, tT, tT, tT, tT, tT, tT, tT, tT, tT, tT, tT, tT, tT, tT, tT, tT, tT, tT, tT, tT, tF, tF, tF, tF, tF, tF, tF, tF, tF, tF, tF, tF] ?_
             refine pY 22 88 #[tT, tT, tT, tT, tT, tT, tT, tT, tT, tT, tT, tT, tT, tT, tT, tT, tT, tT, tT, tT, tT, tT, tT, tF, tF, tF, tF, tF, tF, tF, tF, tF, tF, tF] ?_
             refine take_ (i := 23) (N := some 89) (v := ?_) (a' := ?_) #[tT, tT, tT, tT, tT, tT, tT, tT, tT, tT, tT, tT, tT, tT, tT, tT, tT, tT, tT, tT, tT, tT, tT, tT, tF, tF, tF, tF, tF, tF, tF, tF, tF, tF] rfl rfl (take_ofW HT_.out HW_.out (by kernel_rfl)) (fun _ _ _ h => h) (Or.inl ⟨by rfl, ?_⟩) hHeld ?_ ?_
             rotate_left
             ·rintro w' ⟨s0, s1⟩
              go_simp
              with_reducible rfl
             rotate_left
             ·simp only [Act.put, List.setIfInBounds_toArray, List.set_cons_zero, List.set_cons_succ, i64_w, i32_w]
              rfl
             refine pY 24 90 #[tT, tT, tT, tT, tT, tT, tT, tT, tT, tT, tT, tT, tT, tT, tT, tT, tT, tT, tT, tT, tT, tT, tT, tT, tT, tF, tF, tF, tF, tF, tF, tF, tF, tF] ?_
             refine pY 25 91 #[tT, tT, tT, tT, tT, tT, tT, tT, tT, tT, tT, tT, tT, tT, tT, tT, tT, tT, tT, tT, tT, tT, tT, tT, tT, tT, tF, tF, tF, tF, tF, tF, tF, tF] ?_
             refine pY 26 92 #[tT, tT, tT, tT, tT, tT, tT, tT, tT, tT, tT, tT, tT, tT, tT, tT, tT, tT, tT, tT, tT, tT, tT, tT, tT, tT, tT, tF, tF, tF, tF, tF, tF, tF] ?_
             refine pY 27 93 #[tT, tT, tT, tT, tT, tT, tT, tT, tT, tT, tT, tT, tT, tT, tT, tT, tT, tT, tT, tT, tT, tT, tT, tT, tT, tT, tT, tT, tF, tF, tF, tF, tF, tF] ?_
             refine take_ (i := 28) (N := some 94) (v := ?_) (a' := ?_) #[tT, tT, tT, tT, tT, tT, tT, tT, tT, tT, tT, tT, tT, tT, tT, tT, tT, tT, tT, tT, tT, tT, tT, tT, tT, tT, tT, tT, tT, tF, tF, tF, tF, tF] rfl rfl (take_ofW HT_.out HW_.out (by kernel_rfl)) (fun _ _ _ h => h) (Or.inl ⟨by rfl, ?_⟩) hHeld ?_ ?_
             rotate_left
             ·rintro w' ⟨s0, s1⟩
              go_simp
              with_reducible rfl
             rotate_left
             ·simp only [Act.put, List.setIfInBounds_toArray, List.set_cons_zero, List.set_cons_succ, i64_w, i32_w]
              rfl
             refine take_ (i := 30) (N := some 96) (v := ?_) (a' := ?_) #[tT, tT, tT, tT, tT, tT, tT, tT, tT, tT, tT, tT, tT, tT, tT, tT, tT, tT, tT, tT, tT, tT, tT, tT, tT, tT, tT, tT, tT, tF, tT, tF, tF, tF] rfl rfl (take_ofW HT_.out HW_.out (by kernel_rfl)) (fun _ _ _ h => h) (Or.inl ⟨by rfl, ?_⟩) hHeld ?_ ?_
             rotate_left
             ·rintro w' ⟨s0, s1⟩
              go_simp
              with_reducible rfl
             rotate_left
             ·simp only [Act.put, List.setIfInBounds_toArray, List.set_cons_zero, List.set_cons_succ, i64_w, i32_w]
              rfl
             refine one_ (i := 29) (N := some 95) #[tT, tT, tT, tT, tT, tT, tT, tT, tT, tT, tT, tT, tT, tT, tT, tT, tT, tT, tT, tT, tT, tT, tT, tT, tT, tT, tT, tT, tT, tT, tT, tF, tF, tF] rfl rfl (one_of HT_.out (by kernel_rfl)) (by decide) (fun K hK => ?_)
             refine goes_ Try.func32 (by kernel_rfl) rfl #[.agg #[.slice Ao71 t458.length co71, .slice Ao77 t461.length co77]] (by rfl) rfl rfl (by (try simp only [List.map_toArray, List.map_cons, List.map_nil]); first | done | rfl | (simp only [List.length_drop, List.length_take]; rfl)) ?_
             with_reducible refine (impl_Flush.calls kj38 _ _ t458 _ _ t461 t474 t477 _ ?side1 ?side2 ?side3 ?side4 A61.out).mono ?_
             (case side1 => exact cR HO460)
             (case side2 => exact (Kd.R_reads' HO460.out).2.1)
             (case side3 => exact cR HO463)
             (case side4 => exact (Kd.R_reads' HO463.out).2.1)
             rintro e w85 ⟨v475, v478, rfl, ho0, ho1, hb⟩
             refine ⟨_, rfl, ?_⟩
             have n0_ := rB HO_7 hb
             have n1_ := eR HO_429000 ho0 hb
             have n2_ := eR HO_429001 ho1 hb
             have n3_ := eR HO_439000 ho0 hb
             have n4_ := eR HO_439001 ho1 hb
             have n5_ := eR HO_447000 ho0 hb
             have n6_ := eR HO_447001 ho1 hb
             have n7_ := eR HO_455000 ho0 hb
             have n8_ := eR HO_455001 ho1 hb
             have n9_ := eR HO460 ho0 hb
             have n10_ := eR HO463 ho1 hb
             have n11_ := eR HO469 ho0 hb
             have n12_ := eR HO472 ho1 hb
             have n13_ := aM (Kd.R_lower (Kd.R_new' (Kd.R_new' (Kd.R_new' (Kd.R_new' (Kd.R_new' (Kd.R_new' ho0 (rL HO_429000)) (rL HO_439000)) (rL HO_447000)) (rL HO_455000)) (rL HO460)) (rL HO469)) (zB HB))
             have n14_ := aM (Kd.R_lower (Kd.R_new' (Kd.R_new' (Kd.R_new' (Kd.R_new' (Kd.R_new' (Kd.R_new' ho1 (rL HO_429001)) (rL HO_439001)) (rL HO_447001)) (rL HO_455001)) (rL HO463)) (rL HO472)) (zB HB))
             have n15_ := kB BK428 hb
             have n16_ := kB BK438 hb
             have n17_ := kB BK446 hb
             have n18_ := kB BK454 hb
             have n19_ := kB BK464 hb
             have n20_ := sB HB hb
             clear HO_7
             clear HO_429000
             clear HO_429001
             clear HO_439000
             clear HO_439001
             clear HO_447000
             clear HO_447001
             clear HO_455000
             clear HO_455001
             clear HO460
             clear HO463
             clear HO469
             clear HO472
             clear BK428
             clear BK438
             clear BK446
             clear BK454
             clear BK464
             clear HB
             have HO_7 := n0_
             have HO_429000 := n1_
             have HO_429001 := n2_
             have HO_439000 := n3_
             have HO_439001 := n4_
             have HO_447000 := n5_
             have HO_447001 := n6_
             have HO_455000 := n7_
             have HO_455001 := n8_
             have HO460 := n9_
             have HO463 := n10_
             have HO469 := n11_
             have HO472 := n12_
             have HO476 := n13_
             have HO479 := n14_
             have BK428 := n15_
             have BK438 := n16_
             have BK446 := n17_
             have BK454 := n18_
             have BK464 := n19_
             have HB := n20_
             clear n0_ n1_ n2_ n3_ n4_ n5_ n6_ n7_ n8_ n9_ n10_ n11_ n12_ n13_ n14_ n15_ n16_ n17_ n18_ n19_ n20_
             (try clear hb)
             (try clear hb2)
             (try clear hk)
             (try clear hi)
             (try clear ho0)
             (try clear ho1)
             obtain ⟨Ao86, co86, eo86⟩ := Kd.R_slice HO476.out
             (first | subst eo86 | (injection eo86 with f1_ f2_ f3_; have f4_ := f1_.symm; have f5_ := f3_.symm; clear f1_ f2_ f3_; subst f4_; subst f5_))
             obtain ⟨Ao87, co87, eo87⟩ := Kd.R_slice HO479.out
             (first | subst eo87 | (injection eo87 with f1_ f2_ f3_; have f4_ := f1_.symm; have f5_ := f3_.symm; clear f1_ f2_ f3_; subst f4_; subst f5_))
             refine hK.out _ _ ⟨(blk_cell BK464.out 0).trans rfl, (blk_cell BK464.out 1).trans rfl⟩ (fun hHeld => ?_)
             clear hK K
             refine norm_ (a' := ?_) ?_ ?_
             rotate_left
             ·show Act.put _ (some 95) _ = _
              simp only [Act.put, List.setIfInBounds_toArray, List.set_cons_zero, List.set_cons_succ, i64_w, i32_w]
              rfl
             refine one_ (i := 31) (N := some 97) #[tT, tT, tT, tT, tT, tT, tT, tT, tT, tT, tT, tT, tT, tT, tT, tT, tT, tT, tT, tT, tT, tT, tT, tT, tT, tT, tT, tT, tT, tT, tT, tT, tF, tF] rfl rfl (one_of HT_.out (by kernel_rfl)) (by decide) (fun K hK => ?_)
             refine goes_ Try.func49 (by kernel_rfl) rfl #[.agg #[.slice Ao86 t474.length co86, .slice Ao87 t477.length co87], .agg #[.slice Ao71 t458.length co71, .slice Ao77 t461.length co77]] (by rfl) rfl rfl (by (try simp only [List.map_toArray, List.map_cons, List.map_nil]); first | done | rfl | (simp only [List.length_drop, List.length_take]; rfl)) ?_
             with_reducible refine (impl_DiskSame.calls kj38 _ _ t474 _ _ t477 _ _ t458 _ _ t461 t480 _ ?side1 ?side2 ?side3 ?side4 ?side5 ?side6 ?side7 ?side8 A62.out).mono ?_
             (case side1 => exact cR HO476)
             (case side2 => exact (Kd.R_reads' HO476.out).2.1)
             (case side3 => exact cR HO479)
             (case side4 => exact (Kd.R_reads' HO479.out).2.1)
             (case side5 => exact cR HO460)
             (case side6 => exact (Kd.R_reads' HO460.out).2.1)
             (case side7 => exact cR HO463)
             (case side8 => exact (Kd.R_reads' HO463.out).2.1)
             rintro e w88 ⟨rfl, hb⟩
             refine ⟨_, rfl, ?_⟩
             have n0_ := rB HO_7 hb
             have n1_ := rB HO_429000 hb
             have n2_ := rB HO_429001 hb
             have n3_ := rB HO_439000 hb
             have n4_ := rB HO_439001 hb
             have n5_ := rB HO_447000 hb
             have n6_ := rB HO_447001 hb
             have n7_ := rB HO_455000 hb
             have n8_ := rB HO_455001 hb
             have n9_ := rB HO460 hb
             have n10_ := rB HO463 hb
             have n11_ := rB HO469 hb
             have n12_ := rB HO472 hb
             have n13_ := rB HO476 hb
             have n14_ := rB HO479 hb
             have n15_ := kB BK428 hb
             have n16_ := kB BK438 hb
             have n17_ := kB BK446 hb
             have n18_ := kB BK454 hb
             have n19_ := kB BK464 hb
             have n20_ := sB HB hb
             clear HO_7
             clear HO_429000
             clear HO_429001
             clear HO_439000
             clear HO_439001
             clear HO_447000
             clear HO_447001
             clear HO_455000
             clear HO_455001
             clear HO460
             clear HO463
             clear HO469
             clear HO472
             clear HO476
             clear HO479
             clear BK428
             clear BK438
             clear BK446
             clear BK454
             clear BK464
             clear HB
             have HO_7 := n0_
             have HO_429000 := n1_
             have HO_429001 := n2_
             have HO_439000 := n3_
             have HO_439001 := n4_
             have HO_447000 := n5_
             have HO_447001 := n6_
             have HO_455000 := n7_
             have HO_455001 := n8_
             have HO460 := n9_
             have HO463 := n10_
             have HO469 := n11_
             have HO472 := n12_
             have HO476 := n13_
             have HO479 := n14_
             have BK428 := n15_
             have BK438 := n16_
             have BK446 := n17_
             have BK454 := n18_
             have BK464 := n19_
             have HB := n20_
             clear n0_ n1_ n2_ n3_ n4_ n5_ n6_ n7_ n8_ n9_ n10_ n11_ n12_ n13_ n14_ n15_ n16_ n17_ n18_ n19_ n20_
             (try clear hb)
             (try clear hb2)
             (try clear hk)
             (try clear hi)
             refine hK.out _ _ ⟨(blk_cell BK464.out 0).trans rfl, (blk_cell BK464.out 1).trans rfl⟩ (fun hHeld => ?_)
             clear hK K
             refine norm_ (a' := ?_) ?_ ?_
             rotate_left
             ·show Act.put _ (some 97) _ = _
              simp only [Act.put, List.setIfInBounds_toArray, List.set_cons_zero, List.set_cons_succ, i64_w, i32_w]
              rfl
             refine pY 32 98 #[tT, tT, tT, tT, tT, tT, tT, tT, tT, tT, tT, tT, tT, tT, tT, tT, tT, tT, tT, tT, tT, tT, tT, tT, tT, tT, tT, tT, tT, tT, tT, tT, tT, tF] ?_
             refine pY 33 2 #[tT, tT, tT, tT, tT, tT, tT, tT, tT, tT, tT, tT, tT, tT, tT, tT, tT, tT, tT, tT, tT, tT, tT, tT, tT, tT, tT, tT, tT, tT, tT, tT, tT, tT] ?_
             refine done_ (done_of HT_.out (by kernel_rfl)) ?_
             try go_wp2
             go_ret
             exact ⟨eW, bB⟩
            ·rw [if_neg c60] at H
             have c60b0 : ((t461.length : Int) == 0) = false := beq_eq_false_iff_ne.mpr c60
             have c60b1 : ((t461.length : Int) != 0) = true := bne_iff_ne.mpr c60
             have c60b2 : ¬ (t461 = []) := fun h_ => c60 (by rw [h_]; rfl)
             obtain rfl := Option.some.inj H
             have hnb89 := NB446_428.out
             have hnc89 := NB428_446.out
             have hnb90 := NB446_438.out
             have hnc90 := NB438_446.out
             have hnb91 := NB446_454.out
             have hnc91 := NB454_446.out
             have hcz92_0 := cZ0 BK446
             have hcz92_1 := cZ1 BK446
             have hfz92_0 := blk_frozen BK446.out 0
             have hfz92_1 := blk_frozen BK446.out 1
             try go_wp2_with (first | ((with_reducible refine gate_callee (f := 21) rfl ?_); refine gL (some 55) Try.func21 #[.agg #[.slice Ao24 t439.length co24, .slice Ao28 t442.length co28], .int .i64 t426] ?_; (with_reducible refine (impl_SectorRead.calls kj38 _ _ t439 _ _ t442 t426 t456 true _ ?side1 ?side2 ?side3 ?side4 A50.out).mono ?_); (case side1 => exact cR HO_447000); (case side2 => exact (Kd.R_reads' HO_447000.out).2.1); (case side3 => exact cR HO_447001); (case side4 => exact (Kd.R_reads' HO_447001.out).2.1); rintro e w93 ⟨rfl, hb⟩; refine ⟨_, rfl, ?_⟩; have n_ := aI (rB HO_7 hb) (aI (rB HO_429000 hb) (aI (rB HO_429001 hb) (aI (rB HO_439000 hb) (aI (rB HO_439001 hb) (aI (rB HO_447000 hb) (aI (rB HO_447001 hb) (aI (rB HO_455000 hb) (aI (rB HO_455001 hb) (aI (kB BK428 hb) (aI (kB BK438 hb) (aI (kB BK446 hb) (aI (kB BK454 hb) (sB HB hb))))))))))))); clear HO_7 HO_429000 HO_429001 HO_439000 HO_439001 HO_447000 HO_447001 HO_455000 HO_455001 BK428 BK438 BK446 BK454 HB; obtain ⟨HO_7, HO_429000, HO_429001, HO_439000, HO_439001, HO_447000, HO_447001, HO_455000, HO_455001, BK428, BK438, BK446, BK454, HB⟩ := n_; (try clear hb); have hcz94_0 := cZ0 BK446; have hcz94_1 := cZ1 BK446; have hfz94_0 := blk_frozen BK446.out 0; have hfz94_1 := blk_frozen BK446.out 1) | ((with_reducible refine gate_callee (f := 32) rfl ?_); refine gL (some 59) Try.func32 #[.agg #[.slice Ao24 t439.length co24, .slice Ao28 t442.length co28]] ?_; (with_reducible refine (impl_Flush.calls kj38 _ _ t439 _ _ t442 t458 t461 _ ?side1 ?side2 ?side3 ?side4 A51.out).mono ?_); (case side1 => exact cR HO_447000); (case side2 => exact (Kd.R_reads' HO_447000.out).2.1); (case side3 => exact cR HO_447001); (case side4 => exact (Kd.R_reads' HO_447001.out).2.1); rintro e w95 ⟨v459, v462, rfl, ho0, ho1, hb⟩; refine ⟨_, rfl, ?_⟩; have n_ := aI (rB HO_7 hb) (aI (eR HO_429000 ho0 hb) (aI (eR HO_429001 ho1 hb) (aI (eR HO_439000 ho0 hb) (aI (eR HO_439001 ho1 hb) (aI (eR HO_447000 ho0 hb) (aI (eR HO_447001 ho1 hb) (aI (eR HO_455000 ho0 hb) (aI (eR HO_455001 ho1 hb) (aI (aM (Kd.R_lower (Kd.R_new' (Kd.R_new' (Kd.R_new' (Kd.R_new' ho0 (rL HO_429000)) (rL HO_439000)) (rL HO_447000)) (rL HO_455000)) (zB HB))) (aI (aM (Kd.R_lower (Kd.R_new' (Kd.R_new' (Kd.R_new' (Kd.R_new' ho1 (rL HO_429001)) (rL HO_439001)) (rL HO_447001)) (rL HO_455001)) (zB HB))) (aI (kB BK428 hb) (aI (kB BK438 hb) (aI (kB BK446 hb) (aI (kB BK454 hb) (sB HB hb))))))))))))))); clear HO_7 HO_429000 HO_429001 HO_439000 HO_439001 HO_447000 HO_447001 HO_455000 HO_455001 BK428 BK438 BK446 BK454 HB; obtain ⟨HO_7, HO_429000, HO_429001, HO_439000, HO_439001, HO_447000, HO_447001, HO_455000, HO_455001, HO460, HO463, BK428, BK438, BK446, BK454, HB⟩ := n_; (try clear hb ho0 ho1)) | ((with_reducible refine gate_dst (N := 14) rfl ?_); (try (refine gate_guard (by rfl) ?_; dsimp only)); refine box_event ?hg (N := 14) ?hd (cs := #[.slice none 0 0, .slice none 0 0]) (t := 30) ?hr ?_; (case hd => rfl); (case hg => rfl); (case hr => first | (go_simp; done) | (go_simp; rfl)); intro gb464 hg w96 hbox hb; have n_ := aI (rB HO_7 hb) (aI (rB HO_429000 hb) (aI (rB HO_429001 hb) (aI (rB HO_439000 hb) (aI (rB HO_439001 hb) (aI (rB HO_447000 hb) (aI (rB HO_447001 hb) (aI (rB HO_455000 hb) (aI (rB HO_455001 hb) (aI (rB HO460 hb) (aI (rB HO463 hb) (aI (kB BK428 hb) (aI (kB BK438 hb) (aI (kB BK446 hb) (aI (kB BK454 hb) (aI (sB HB hb) (aI (aM hbox) (aI (gE HB hg) (aI (gE HB hg) (aI (nL BK428 hg) (aI (nG BK428 hg) (aI (nL BK438 hg) (aI (nG BK438 hg) (aI (nL BK446 hg) (aI (nG BK446 hg) (aI (nL BK454 hg) (nG BK454 hg)))))))))))))))))))))))))); clear HO_7 HO_429000 HO_429001 HO_439000 HO_439001 HO_447000 HO_447001 HO_455000 HO_455001 HO460 HO463 BK428 BK438 BK446 BK454 HB; obtain ⟨HO_7, HO_429000, HO_429001, HO_439000, HO_439001, HO_447000, HO_447001, HO_455000, HO_455001, HO460, HO463, BK428, BK438, BK446, BK454, HB, BK464, GW464, GE464, NB428_464, NB464_428, NB438_464, NB464_438, NB446_464, NB464_446, NB454_464, NB464_454⟩ := n_; (try clear hb hbox hg); obtain ⟨Ao97, co97, eo97⟩ := Kd.R_slice HO460.out; subst eo97; have hnb98 := NB464_428.out; have hnc98 := NB428_464.out; have hnb99 := NB464_438.out; have hnc99 := NB438_464.out; have hnb100 := NB464_446.out; have hnc100 := NB446_464.out; have hnb101 := NB464_454.out; have hnc101 := NB454_464.out; have hcz102_0 := cZ0 BK464; have hcz102_1 := cZ1 BK464; have hfz102_0 := blk_frozen BK464.out 0; have hfz102_1 := blk_frozen BK464.out 1; obtain ⟨Ao103, co103, eo103⟩ := Kd.R_slice HO463.out; subst eo103) | ((with_reducible refine gate_callee (f := 21) rfl ?_); refine gL (some 63) Try.func21 #[.agg #[.slice Ao97 t458.length co97, .slice Ao103 t461.length co103], .int .i64 t426] ?_; (with_reducible refine (impl_SectorRead.calls kj38 _ _ t458 _ _ t461 t426 t465 true _ ?side1 ?side2 ?side3 ?side4 A52.out).mono ?_); (case side1 => refine (Kd.R_reads' (e := 9) (base := w.heap.size) (ok := fun k_ => ((((True ∧ some k_ ≠ (.slice Ao12 t420.length co12 : Value).ownBlock) ∧ some k_ ≠ (.slice Ao17 t429.length co17 : Value).ownBlock) ∧ some k_ ≠ (.slice Ao24 t439.length co24 : Value).ownBlock) ∧ some k_ ≠ (.slice Ao32 t447.length co32 : Value).ownBlock)) (n := t458.length) (c := co97) ?_).2.2; exact (rP (Kd.R_mono (Kd.R_far (p := ⟨gb464, 1, none⟩) (Kd.R_far (p := ⟨gb464, 0, none⟩) (Kd.R_types HO460.out BK464.out (by decide)) (fun _ hk => hk.2) (.slice Ao97 t458.length co97)) (fun _ hk => hk.2) (.slice Ao103 t461.length co103)) (fun _ h_ => h_.1)))); (case side2 => exact (Kd.R_reads' HO460.out).2.1); (case side3 => refine (Kd.R_reads' (e := 65) (base := w.heap.size) (ok := fun k_ => ((((True ∧ some k_ ≠ (.slice Ao14 t423.length co14 : Value).ownBlock) ∧ some k_ ≠ (.slice Ao20 t432.length co20 : Value).ownBlock) ∧ some k_ ≠ (.slice Ao28 t442.length co28 : Value).ownBlock) ∧ some k_ ≠ (.slice Ao37 t450.length co37 : Value).ownBlock)) (n := t461.length) (c := co103) ?_).2.2; exact (rP (Kd.R_mono (Kd.R_far (p := ⟨gb464, 1, none⟩) (Kd.R_far (p := ⟨gb464, 0, none⟩) (Kd.R_types HO463.out BK464.out (by decide)) (fun _ hk => hk.2) (.slice Ao97 t458.length co97)) (fun _ hk => hk.2) (.slice Ao103 t461.length co103)) (fun _ h_ => h_.1)))); (case side4 => exact (Kd.R_reads' HO463.out).2.1); rintro e w104 ⟨rfl, hb⟩; refine ⟨_, rfl, ?_⟩; have n_ := aI (aM (Kd.R_below (rP (Kd.R_mono (Kd.R_far (p := ⟨gb464, 1, none⟩) (Kd.R_far (p := ⟨gb464, 0, none⟩) (Kd.R_types HO_7.out BK464.out (by decide)) (fun _ hk => hk.2) (.slice Ao97 t458.length co97)) (fun _ hk => hk.2) (.slice Ao103 t461.length co103)) (fun _ h_ => h_.1))) hb)) (aI (aM (Kd.R_below (rP (Kd.R_mono (Kd.R_far (p := ⟨gb464, 1, none⟩) (Kd.R_far (p := ⟨gb464, 0, none⟩) (Kd.R_types HO_429000.out BK464.out (by decide)) (fun _ hk => hk.2) (.slice Ao97 t458.length co97)) (fun _ hk => hk.2) (.slice Ao103 t461.length co103)) (fun _ h_ => h_.1))) hb)) (aI (aM (Kd.R_below (rP (Kd.R_mono (Kd.R_far (p := ⟨gb464, 1, none⟩) (Kd.R_far (p := ⟨gb464, 0, none⟩) (Kd.R_types HO_429001.out BK464.out (by decide)) (fun _ hk => hk.2) (.slice Ao97 t458.length co97)) (fun _ hk => hk.2) (.slice Ao103 t461.length co103)) (fun _ h_ => h_.1))) hb)) (aI (aM (Kd.R_below (rP (Kd.R_mono (Kd.R_far (p := ⟨gb464, 1, none⟩) (Kd.R_far (p := ⟨gb464, 0, none⟩) (Kd.R_types HO_439000.out BK464.out (by decide)) (fun _ hk => hk.2) (.slice Ao97 t458.length co97)) (fun _ hk => hk.2) (.slice Ao103 t461.length co103)) (fun _ h_ => h_.1))) hb)) (aI (aM (Kd.R_below (rP (Kd.R_mono (Kd.R_far (p := ⟨gb464, 1, none⟩) (Kd.R_far (p := ⟨gb464, 0, none⟩) (Kd.R_types HO_439001.out BK464.out (by decide)) (fun _ hk => hk.2) (.slice Ao97 t458.length co97)) (fun _ hk => hk.2) (.slice Ao103 t461.length co103)) (fun _ h_ => h_.1))) hb)) (aI (aM (Kd.R_below (rP (Kd.R_mono (Kd.R_far (p := ⟨gb464, 1, none⟩) (Kd.R_far (p := ⟨gb464, 0, none⟩) (Kd.R_types HO_447000.out BK464.out (by decide)) (fun _ hk => hk.2) (.slice Ao97 t458.length co97)) (fun _ hk => hk.2) (.slice Ao103 t461.length co103)) (fun _ h_ => h_.1))) hb)) (aI (aM (Kd.R_below (rP (Kd.R_mono (Kd.R_far (p := ⟨gb464, 1, none⟩) (Kd.R_far (p := ⟨gb464, 0, none⟩) (Kd.R_types HO_447001.out BK464.out (by decide)) (fun _ hk => hk.2) (.slice Ao97 t458.length co97)) (fun _ hk => hk.2) (.slice Ao103 t461.length co103)) (fun _ h_ => h_.1))) hb)) (aI (aM (Kd.R_below (rP (Kd.R_mono (Kd.R_far (p := ⟨gb464, 1, none⟩) (Kd.R_far (p := ⟨gb464, 0, none⟩) (Kd.R_types HO_455000.out BK464.out (by decide)) (fun _ hk => hk.2) (.slice Ao97 t458.length co97)) (fun _ hk => hk.2) (.slice Ao103 t461.length co103)) (fun _ h_ => h_.1))) hb)) (aI (aM (Kd.R_below (rP (Kd.R_mono (Kd.R_far (p := ⟨gb464, 1, none⟩) (Kd.R_far (p := ⟨gb464, 0, none⟩) (Kd.R_types HO_455001.out BK464.out (by decide)) (fun _ hk => hk.2) (.slice Ao97 t458.length co97)) (fun _ hk => hk.2) (.slice Ao103 t461.length co103)) (fun _ h_ => h_.1))) hb)) (aI (aM (Kd.R_below (rP (Kd.R_mono (Kd.R_far (p := ⟨gb464, 1, none⟩) (Kd.R_far (p := ⟨gb464, 0, none⟩) (Kd.R_types HO460.out BK464.out (by decide)) (fun _ hk => hk.2) (.slice Ao97 t458.length co97)) (fun _ hk => hk.2) (.slice Ao103 t461.length co103)) (fun _ h_ => h_.1))) hb)) (aI (aM (Kd.R_below (rP (Kd.R_mono (Kd.R_far (p := ⟨gb464, 1, none⟩) (Kd.R_far (p := ⟨gb464, 0, none⟩) (Kd.R_types HO463.out BK464.out (by decide)) (fun _ hk => hk.2) (.slice Ao97 t458.length co97)) (fun _ hk => hk.2) (.slice Ao103 t461.length co103)) (fun _ h_ => h_.1))) hb)) (aI (kB BK428 hb) (aI (kB BK438 hb) (aI (kB BK446 hb) (aI (kB BK454 hb) (aI (aM (blk_below (g := gb464) (o := .cells #[.slice Ao97 t458.length co97, .slice Ao103 t461.length co103] 30 (0, 0)) (by (with_reducible repeat (first | refine blk_drewN ?_ _ | refine blk_drew ?_ | refine blk_alloc ?_ _)); refine blk_put (cs := #[.slice Ao97 t458.length co97, .slice none 0 0]) ?_ 1 _ rfl; (with_reducible repeat (first | refine blk_drewN ?_ _ | refine blk_drew ?_ | refine blk_alloc ?_ _)); refine blk_put (cs := #[.slice none 0 0, .slice none 0 0]) ?_ 0 _ rfl; (with_reducible repeat (first | refine blk_drewN ?_ _ | refine blk_drew ?_ | refine blk_alloc ?_ _)); exact BK464.out) hb)) (sB HB hb)))))))))))))))); clear HO_7 HO_429000 HO_429001 HO_439000 HO_439001 HO_447000 HO_447001 HO_455000 HO_455001 HO460 HO463 BK428 BK438 BK446 BK454 BK464 HB; obtain ⟨HO_7, HO_429000, HO_429001, HO_439000, HO_439001, HO_447000, HO_447001, HO_455000, HO_455001, HO460, HO463, BK428, BK438, BK446, BK454, BK464, HB⟩ := n_; (try clear hb)))
             have n0_ := aM (Kd.R_drew HO_7.out)
             have n1_ := aM (Kd.R_drew HO_429000.out)
             have n2_ := aM (Kd.R_drew HO_429001.out)
             have n3_ := aM (Kd.R_drew HO_439000.out)
             have n4_ := aM (Kd.R_drew HO_439001.out)
             have n5_ := aM (Kd.R_drew HO_447000.out)
             have n6_ := aM (Kd.R_drew HO_447001.out)
             have n7_ := aM (Kd.R_drew HO_455000.out)
             have n8_ := aM (Kd.R_drew HO_455001.out)
             have n9_ := aM (Kd.R_drew HO460.out)
             have n10_ := aM (Kd.R_drew HO463.out)
             have n11_ := aM (blk_drew BK428.out)
             have n12_ := aM (blk_drew BK438.out)
             have n13_ := aM (blk_drew BK446.out)
             have n14_ := aM (blk_drew BK454.out)
             have n15_ := aM (blk_drew BK464.out)
             have n16_ := aM (below_drew1 HB.out)
             clear HO_7
             clear HO_429000
             clear HO_429001
             clear HO_439000
             clear HO_439001
             clear HO_447000
             clear HO_447001
             clear HO_455000
             clear HO_455001
             clear HO460
             clear HO463
             clear BK428
             clear BK438
             clear BK446
             clear BK454
             clear BK464
             clear HB
             have HO_7 := n0_
             have HO_429000 := n1_
             have HO_429001 := n2_
             have HO_439000 := n3_
             have HO_439001 := n4_
             have HO_447000 := n5_
             have HO_447001 := n6_
             have HO_455000 := n7_
             have HO_455001 := n8_
             have HO460 := n9_
             have HO463 := n10_
             have BK428 := n11_
             have BK438 := n12_
             have BK446 := n13_
             have BK454 := n14_
             have BK464 := n15_
             have HB := n16_
             clear n0_ n1_ n2_ n3_ n4_ n5_ n6_ n7_ n8_ n9_ n10_ n11_ n12_ n13_ n14_ n15_ n16_
             obtain ⟨Ao106, co106, eo106⟩ := Kd.R_slice HO_7.out
             (first | subst eo106 | (injection eo106 with f1_ f2_ f3_; have f4_ := f1_.symm; have f5_ := f3_.symm; clear f1_ f2_ f3_; subst f4_; subst f5_))
             refine start_ (n := 34) (S := fun w' => w'.cell? ⟨gb464, 0, none⟩ = some (.slice Ao97 t458.length co97) ∧ w'.cell? ⟨gb464, 1, none⟩ = some (.slice Ao103 t461.length co103)) (ds := []) #[tF, tF, tF, tF, tF, tF, tF, tF, tF, tF, tF, tF, tF, tF, tF, tF, tF, tF, tF, tF, tF, tF, tF, tF, tF, tF, tF, tF, tF, tF, tF, tF, tF, tF] (by kernel_rfl) rfl rfl ⟨(blk_cell BK464.out 0).trans rfl, (blk_cell BK464.out 1).trans rfl⟩ (fun hHeld => ?_); refine with_tabW laws_FnFlushed.tab14 laws_FnFlushed.bits14 (fun HT_ HW_ => ?_)
             generalize w104.drew = w105 at HO_7 HO_429000 HO_429001 HO_439000 HO_439001 HO_447000 HO_447001 HO_455000 HO_455001 HO460 HO463 BK428 BK438 BK446 BK454 BK464 HB hHeld ⊢
             refine pY 0 66 #[tT, tF, tF, tF, tF, tF, tF, tF, tF, tF, tF, tF, tF, tF, tF, tF, tF, tF, tF, tF, tF, tF, tF, tF, tF, tF, tF, tF, tF, tF, tF, tF, tF, tF] ?_
             refine pY 1 67 #[tT, tT, tF, tF, tF, tF, tF, tF, tF, tF, tF, tF, tF, tF, tF, tF, tF, tF, tF, tF, tF, tF, tF, tF, tF, tF, tF, tF, tF, tF, tF, tF, tF, tF] ?_
             refine pY 2 68 #[tT, tT, tT, tF, tF, tF, tF, tF, tF, tF, tF, tF, tF, tF, tF, tF, tF, tF, tF, tF, tF, tF, tF, tF, tF, tF, tF, tF, tF, tF, tF, tF, tF, tF] ?_
             refine pY 3 69 #[tT, tT, tT, tT, tF, tF, tF, tF, tF, tF, tF, tF, tF, tF, tF, tF, tF, tF, tF, tF, tF, tF, tF, tF, tF, tF, tF, tF, tF, tF, tF, tF, tF, tF] ?_
             refine pY 4 70 #[tT, tT, tT, tT, tT, tF, tF, tF, tF, tF, tF, tF, tF, tF, tF, tF, tF, tF, tF, tF, tF, tF, tF, tF, tF, tF, tF, tF, tF, tF, tF, tF, tF, tF] ?_
             refine pY 5 71 #[tT, tT, tT, tT, tT, tT, tF, tF, tF, tF, tF, tF, tF, tF, tF, tF, tF, tF, tF, tF, tF, tF, tF, tF, tF, tF, tF, tF, tF, tF, tF, tF, tF, tF] ?_
             refine pY 6 72 #[tT, tT, tT, tT, tT, tT, tT, tF, tF, tF, tF, tF, tF, tF, tF, tF, tF, tF, tF, tF, tF, tF, tF, tF, tF, tF, tF, tF, tF, tF, tF, tF, tF, tF] ?_
             refine pY 7 73 #[tT, tT, tT, tT, tT, tT, tT, tT, tF, tF, tF, tF, tF, tF, tF, tF, tF, tF, tF, tF, tF, tF, tF, tF, tF, tF, tF, tF, tF, tF, tF, tF, tF, tF] ?_
             refine pY 8 74 #[tT, tT, tT, tT, tT, tT, tT, tT, tT, tF, tF, tF, tF, tF, tF, tF, tF, tF, tF, tF, tF, tF, tF, tF, tF, tF, tF, tF, tF, tF, tF, tF, tF, tF] ?_
             refine pY 9 75 #[tT, tT, tT, tT, tT, tT, tT, tT, tT, tT, tF, tF, tF, tF, tF, tF, tF, tF, tF, tF, tF, tF, tF, tF, tF, tF, tF, tF, tF, tF, tF, tF, tF, tF] ?_
             refine pY 10 76 #[tT, tT, tT, tT, tT, tT, tT, tT, tT, tT, tT, tF, tF, tF, tF, tF, tF, tF, tF, tF, tF, tF, tF, tF, tF, tF, tF, tF, tF, tF, tF, tF, tF, tF] ?_
             refine pY 11 77 #[tT, tT, tT, tT, tT, tT, tT, tT, tT, tT, tT, tT, tF, tF, tF, tF, tF, tF, tF, tF, tF, tF, tF, tF, tF, tF, tF, tF, tF, tF, tF, tF, tF, tF] ?_
             refine pY 12 78 #[tT, tT, tT, tT, tT, tT, tT, tT, tT, tT, tT, tT, tT, tF, tF, tF, tF, tF, tF, tF, tF, tF, tF, tF, tF, tF, tF, tF, tF, tF, tF, tF, tF, tF] ?_
             refine pY 13 79 #[tT, tT, tT, tT, tT, tT, tT, tT, tT, tT, tT, tT, tT, tT, tF, tF, tF, tF, tF, tF, tF, tF, tF, tF, tF, tF, tF, tF, tF, tF, tF, tF, tF, tF] ?_
             refine pY 14 80 #[tT, tT, tT, tT, tT, tT, tT, tT, tT, tT, tT, tT, tT, tT, tT, tF, tF, tF, tF, tF, tF, tF, tF, tF, tF, tF, tF, tF, tF, tF, tF, tF, tF, tF] ?_
             refine pY 16 82 #[tT, tT, tT, tT, tT, tT, tT, tT, tT, tT, tT, tT, tT, tT, tT, tF, tT, tF, tF, tF, tF, tF, tF, tF, tF, tF, tF, tF, tF, tF, tF, tF, tF, tF] ?_
             refine take_ (i := 15) (N := some 81) (v := ?_) (a' := ?_) #[tT, tT, tT, tT, tT, tT, tT, tT, tT, tT, tT, tT, tT, tT, tT, tT, tT, tF, tF, tF, tF, tF, tF, tF, tF, tF, tF, tF, tF, tF, tF, tF, tF, tF] rfl rfl (take_ofW HT_.out HW_.out (by kernel_rfl)) (fun _ _ _ h => h) (Or.inl ⟨by rfl, ?_⟩) hHeld ?_ ?_
             rotate_left
             ·rintro w' ⟨s0, s1⟩
              go_simp
              with_reducible rfl
             rotate_left
             ·simp only [Act.put, List.setIfInBounds_toArray, List.set_cons_zero, List.set_cons_succ, i64_w, i32_w]
              rfl
             refine take_ (i := 18) (N := some 84) (v := ?_) (a' := ?_) #[tT, tT, tT, tT, tT, tT, tT, tT, tT, tT, tT, tT, tT, tT, tT, tT, tT, tF, tT, tF, tF, tF, tF, tF, tF, tF, tF, tF, tF, tF, tF, tF, tF, tF] rfl rfl (take_ofW HT_.out HW_.out (by kernel_rfl)) (fun _ _ _ h => h) (Or.inl ⟨by rfl, ?_⟩) hHeld ?_ ?_
             rotate_left
             ·rintro w' ⟨s0, s1⟩
              go_simp
              with_reducible rfl
             rotate_left
             ·simp only [Act.put, List.setIfInBounds_toArray, List.set_cons_zero, List.set_cons_succ, i64_w, i32_w]
              rfl
             refine one_ (i := 17) (N := some 83) #[tT, tT, tT, tT, tT, tT, tT, tT, tT, tT, tT, tT, tT, tT, tT, tT, tT, tT, tT, tF, tF, tF, tF, tF, tF, tF, tF, tF, tF, tF, tF, tF, tF, tF] rfl rfl (one_of HT_.out (by kernel_rfl)) (by decide) (fun K hK => ?_)
             refine goes_ Try.func35 (by kernel_rfl) rfl #[.agg #[.slice Ao97 t458.length co97, .slice Ao103 t461.length co103], .slice Ao106 t435.length co106] (by rfl) rfl rfl (by (try simp only [List.map_toArray, List.map_cons, List.map_nil]); first | done | rfl | (simp only [List.length_drop, List.length_take]; rfl)) ?_
             with_reducible refine (impl_Fall.calls kj38 _ _ t458 _ _ t461 _ _ t435 t467 t470 _ ?side1 ?side2 ?side3 ?side4 ?side5 ?side6 A57.out).mono ?_
             (case side1 => exact cR HO460)
             (case side2 => exact (Kd.R_reads' HO460.out).2.1)
             (case side3 => exact cR HO463)
             (case side4 => exact (Kd.R_reads' HO463.out).2.1)
             (case side5 => exact cR HO_7)
             (case side6 => exact (Kd.R_reads' HO_7.out).2.1)
             rintro e w107 ⟨v468, v471, rfl, ho0, ho1, hb⟩
             refine ⟨_, rfl, ?_⟩
             have n0_ := rB HO_7 hb
             have n1_ := eR HO_429000 ho0 hb
             have n2_ := eR HO_429001 ho1 hb
             have n3_ := eR HO_439000 ho0 hb
             have n4_ := eR HO_439001 ho1 hb
             have n5_ := eR HO_447000 ho0 hb
             have n6_ := eR HO_447001 ho1 hb
             have n7_ := eR HO_455000 ho0 hb
             have n8_ := eR HO_455001 ho1 hb
             have n9_ := eR HO460 ho0 hb
             have n10_ := eR HO463 ho1 hb
             have n11_ := aM (Kd.R_lower (Kd.R_new' (Kd.R_new' (Kd.R_new' (Kd.R_new' (Kd.R_new' ho0 (rL HO_429000)) (rL HO_439000)) (rL HO_447000)) (rL HO_455000)) (rL HO460)) (zB HB))
             have n12_ := aM (Kd.R_lower (Kd.R_new' (Kd.R_new' (Kd.R_new' (Kd.R_new' (Kd.R_new' ho1 (rL HO_429001)) (rL HO_439001)) (rL HO_447001)) (rL HO_455001)) (rL HO463)) (zB HB))
             have n13_ := kB BK428 hb
             have n14_ := kB BK438 hb
             have n15_ := kB BK446 hb
             have n16_ := kB BK454 hb
             have n17_ := kB BK464 hb
             have n18_ := sB HB hb
             clear HO_7
             clear HO_429000
             clear HO_429001
             clear HO_439000
             clear HO_439001
             clear HO_447000
             clear HO_447001
             clear HO_455000
             clear HO_455001
             clear HO460
             clear HO463
             clear BK428
             clear BK438
             clear BK446
             clear BK454
             clear BK464
             clear HB
             have HO_7 := n0_
             have HO_429000 := n1_
             have HO_429001 := n2_
             have HO_439000 := n3_
             have HO_439001 := n4_
             have HO_447000 := n5_
             have HO_447001 := n6_
             have HO_455000 := n7_
             have HO_455001 := n8_
             have HO460 := n9_
             have HO463 := n10_
             have HO469 := n11_
             have HO472 := n12_
             have BK428 := n13_
             have BK438 := n14_
             have BK446 := n15_
             have BK454 := n16_
             have BK464 := n17_
             have HB := n18_
             clear n0_ n1_ n2_ n3_ n4_ n5_ n6_ n7_ n8_ n9_ n10_ n11_ n12_ n13_ n14_ n15_ n16_ n17_ n18_
             (try clear hb)
             (try clear hb2)
             (try clear hk)
             (try clear hi)
             (try clear ho0)
             (try clear ho1)
             obtain ⟨Ao108, co108, eo108⟩ := Kd.R_slice HO469.out
             (first | subst eo108 | (injection eo108 with f1_ f2_ f3_; have f4_ := f1_.symm; have f5_ := f3_.symm; clear f1_ f2_ f3_; subst f4_; subst f5_))
             obtain ⟨Ao109, co109, eo109⟩ := Kd.R_slice HO472.out
             (first | subst eo109 | (injection eo109 with f1_ f2_ f3_; have f4_ := f1_.symm; have f5_ := f3_.symm; clear f1_ f2_ f3_; subst f4_; subst f5_))
             refine hK.out _ _ ⟨(blk_cell BK464.out 0).trans rfl, (blk_cell BK464.out 1).trans rfl⟩ (fun hHeld => ?_)
             clear hK K
             refine norm_ (a' := ?_) ?_ ?_
             rotate_left
             ·show Act.put _ (some 83) _ = _
              simp only [Act.put, List.setIfInBounds_toArray, List.set_cons_zero, List.set_cons_succ, i64_w, i32_w]
              rfl
             refine one_ (i := 19) (N := some 85) #[tT, tT, tT, tT, tT, tT, tT, tT, tT, tT, tT, tT, tT, tT, tT, tT, tT, tT, tT, tT, tF, tF, tF, tF, tF, tF, tF, tF, tF, tF, tF, tF, tF, tF] rfl rfl (one_of HT_.out (by kernel_rfl)) (by decide) (fun K hK => ?_)
             refine goes_ Try.func49 (by kernel_rfl) rfl #[.agg #[.slice Ao108 t467.length co108, .slice Ao109 t470.length co109], .agg #[.slice Ao97 t458.length co97, .slice Ao103 t461.length co103]] (by rfl) rfl rfl (by (try simp only [List.map_toArray, List.map_cons, List.map_nil]); first | done | rfl | (simp only [List.length_drop, List.length_take]; rfl)) ?_
             with_reducible refine (impl_DiskSame.calls kj38 _ _ t467 _ _ t470 _ _ t458 _ _ t461 true _ ?side1 ?side2 ?side3 ?side4 ?side5 ?side6 ?side7 ?side8 A58.out).mono ?_
             (case side1 => exact cR HO469)
             (case side2 => exact (Kd.R_reads' HO469.out).2.1)
             (case side3 => exact cR HO472)
             (case side4 => exact (Kd.R_reads' HO472.out).2.1)
             (case side5 => exact cR HO460)
             (case side6 => exact (Kd.R_reads' HO460.out).2.1)
             (case side7 => exact cR HO463)
             (case side8 => exact (Kd.R_reads' HO463.out).2.1)
             rintro e w110 ⟨rfl, hb⟩
             refine ⟨_, rfl, ?_⟩
             have n0_ := rB HO_7 hb
             have n1_ := rB HO_429000 hb
             have n2_ := rB HO_429001 hb
             have n3_ := rB HO_439000 hb
             have n4_ := rB HO_439001 hb
             have n5_ := rB HO_447000 hb
             have n6_ := rB HO_447001 hb
             have n7_ := rB HO_455000 hb
             have n8_ := rB HO_455001 hb
             have n9_ := rB HO460 hb
             have n10_ := rB HO463 hb
             have n11_ := rB HO469 hb
             have n12_ := rB HO472 hb
             have n13_ := kB BK428 hb
             have n14_ := kB BK438 hb
             have n15_ := kB BK446 hb
             have n16_ := kB BK454 hb
             have n17_ := kB BK464 hb
             have n18_ := sB HB hb
             clear HO_7
             clear HO_429000
             clear HO_429001
             clear HO_439000
             clear HO_439001
             clear HO_447000
             clear HO_447001
             clear HO_455000
             clear HO_455001
             clear HO460
             clear HO463
             clear HO469
             clear HO472
             clear BK428
             clear BK438
             clear BK446
             clear BK454
             clear BK464
             clear HB
             have HO_7 := n0_
             have HO_429000 := n1_
             have HO_429001 := n2_
             have HO_439000 := n3_
             have HO_439001 := n4_
             have HO_447000 := n5_
             have HO_447001 := n6_
             have HO_455000 := n7_
             have HO_455001 := n8_
             have HO460 := n9_
             have HO463 := n10_
             have HO469 := n11_
             have HO472 := n12_
             have BK428 := n13_
             have BK438 := n14_
             have BK446 := n15_
             have BK454 := n16_
             have BK464 := n17_
             have HB := n18_
             clear n0_ n1_ n2_ n3_ n4_ n5_ n6_ n7_ n8_ n9_ n10_ n11_ n12_ n13_ n14_ n15_ n16_ n17_ n18_
             (try clear hb)
             (try clear hb2)
             (try clear hk)
             (try clear hi)
             refine hK.out _ _ ⟨(blk_cell BK464.out 0).trans rfl, (blk_cell BK464.out 1).trans rfl⟩ (fun hHeld => ?_)
             clear hK K
             refine norm_ (a' := ?_) ?_ ?_
             rotate_left
             ·show Act.put _ (some 85) _ = _
              simp only [Act.put, List.setIfInBounds_toArray, List.set_cons_zero, List.set_cons_succ, i64_w, i32_w]
              rfl
             refine pY 20 86 #[tT, tT, tT, tT, tT, tT, tT, tT, tT, tT, tT, tT, tT, tT, tT, tT, tT, tT, tT, tT, tT, tF, tF, tF, tF, tF, tF, tF, tF, tF, tF, tF, tF, tF] ?_
             refine pY 21 87 #[tT, tT, tT, tT, tT, tT, tT, tT, tT, tT, tT, tT, tT, tT, tT, tT, tT, tT, tT, tT, tT, tT, tF, tF, tF, tF, tF, tF, tF, tF, tF, tF, tF, tF] ?_
             refine pY 22 88 #[tT, tT, tT, tT, tT, tT, tT, tT, tT, tT, tT, tT, tT, tT, tT, tT, tT, tT, tT, tT, tT, tT, tT, tF, tF, tF, tF, tF, tF, tF, tF, tF, tF, tF] ?_
             refine take_ (i := 23) (N := some 89) (v := ?_) (a' := ?_) #[tT, tT, tT, tT, tT, tT, tT, tT, tT, tT, tT, tT, tT, tT, tT, tT, tT, tT, tT, tT, tT, tT, tT, tT, tF, tF, tF, tF, tF, tF, tF, tF, tF, tF] rfl rfl (take_ofW HT_.out HW_.out (by kernel_rfl)) (fun _ _ _ h => h) (Or.inl ⟨by rfl, ?_⟩) hHeld ?_ ?_
             rotate_left
             ·rintro w' ⟨s0, s1⟩
              go_simp
              with_reducible rfl
             rotate_left
             ·simp only [Act.put, List.setIfInBounds_toArray, List.set_cons_zero, List.set_cons_succ, i64_w, i32_w]
              rfl
             refine pY 24 90 #[tT, tT, tT, tT, tT, tT, tT, tT, tT, tT, tT, tT, tT, tT, tT, tT, tT, tT, tT, tT, tT, tT, tT, tT, tT, tF, tF, tF, tF, tF, tF, tF, tF, tF] ?_
             refine pY 25 91 #[tT, tT, tT, tT, tT, tT, tT, tT, tT, tT, tT, tT, tT, tT, tT, tT, tT, tT, tT, tT, tT, tT, tT, tT, tT, tT, tF, tF, tF, tF, tF, tF, tF, tF] ?_
             refine pY 26 92 #[tT, tT, tT, tT, tT, tT, tT, tT, tT, tT, tT, tT, tT, tT, tT, tT, tT, tT, tT, tT, tT, tT, tT, tT, tT, tT, tT, tF, tF, tF, tF, tF, tF, tF] ?_
             refine pY 27 93 #[tT, tT, tT, tT, tT, tT, tT, tT, tT, tT, tT, tT, tT, tT, tT, tT, tT, tT, tT, tT, tT, tT, tT, tT, tT, tT, tT, tT, tF, tF, tF, tF, tF, tF] ?_
             refine pU 28 94 #[tT, tT, tT, tT, tT, tT, tT, tT, tT, tT, tT, tT, tT, tT, tT, tT, tT, tT, tT, tT, tT, tT, tT, tT, tT, tT, tT, tT, tT, tF, tF, tF, tF, tF] ?_
             refine pU 29 95 #[tT, tT, tT, tT, tT, tT, tT, tT, tT, tT, tT, tT, tT, tT, tT, tT, tT, tT, tT, tT, tT, tT, tT, tT, tT, tT, tT, tT, tT, tT, tF, tF, tF, tF] ?_
             refine pU 30 96 #[tT, tT, tT, tT, tT, tT, tT, tT, tT, tT, tT, tT, tT, tT, tT, tT, tT, tT, tT, tT, tT, tT, tT, tT, tT, tT, tT, tT, tT, tT, tT, tF, tF, tF] ?_
             refine pU 31 97 #[tT, tT, tT, tT, tT, tT, tT, tT, tT, tT, tT, tT, tT, tT, tT, tT, tT, tT, tT, tT, tT, tT, tT, tT, tT, tT, tT, tT, tT, tT, tT, tT, tF, tF] ?_
             refine pY 32 98 #[tT, tT, tT, tT, tT, tT, tT, tT, tT, tT, tT, tT, tT, tT, tT, tT, tT, tT, tT, tT, tT, tT, tT, tT, tT, tT, tT, tT, tT, tT, tT, tT, tT, tF] ?_
             refine pY 33 2 #[tT, tT, tT, tT, tT, tT, tT, tT, tT, tT, tT, tT, tT, tT, tT, tT, tT, tT, tT, tT, tT, tT, tT, tT, tT, tT, tT, tT, tT, tT, tT, tT, tT, tT] ?_
             refine done_ (done_of HT_.out (by kernel_rfl)) ?_
             try go_wp2
             go_ret
             exact ⟨eW, bB⟩
           ·replace c59 := Bool.eq_false_iff.mpr c59
            subst c59
            rw [if_neg (show ¬ (false = true) by decide)] at H
            obtain rfl := Option.some.inj H
            have hnb111 := NB446_428.out
            have hnc111 := NB428_446.out
            have hnb112 := NB446_438.out
            have hnc112 := NB438_446.out
            have hnb113 := NB446_454.out
            have hnc113 := NB454_446.out
            have hcz114_0 := cZ0 BK446
            have hcz114_1 := cZ1 BK446
            have hfz114_0 := blk_frozen BK446.out 0
            have hfz114_1 := blk_frozen BK446.out 1
            try go_wp2_with (first | ((with_reducible refine gate_callee (f := 21) rfl ?_); refine gL (some 55) Try.func21 #[.agg #[.slice Ao24 t439.length co24, .slice Ao28 t442.length co28], .int .i64 t426] ?_; (with_reducible refine (impl_SectorRead.calls kj38 _ _ t439 _ _ t442 t426 t456 true _ ?side1 ?side2 ?side3 ?side4 A50.out).mono ?_); (case side1 => exact cR HO_447000); (case side2 => exact (Kd.R_reads' HO_447000.out).2.1); (case side3 => exact cR HO_447001); (case side4 => exact (Kd.R_reads' HO_447001.out).2.1); rintro e w115 ⟨rfl, hb⟩; refine ⟨_, rfl, ?_⟩; have n_ := aI (rB HO_7 hb) (aI (rB HO_429000 hb) (aI (rB HO_429001 hb) (aI (rB HO_439000 hb) (aI (rB HO_439001 hb) (aI (rB HO_447000 hb) (aI (rB HO_447001 hb) (aI (rB HO_455000 hb) (aI (rB HO_455001 hb) (aI (kB BK428 hb) (aI (kB BK438 hb) (aI (kB BK446 hb) (aI (kB BK454 hb) (sB HB hb))))))))))))); clear HO_7 HO_429000 HO_429001 HO_439000 HO_439001 HO_447000 HO_447001 HO_455000 HO_455001 BK428 BK438 BK446 BK454 HB; obtain ⟨HO_7, HO_429000, HO_429001, HO_439000, HO_439001, HO_447000, HO_447001, HO_455000, HO_455001, BK428, BK438, BK446, BK454, HB⟩ := n_; (try clear hb); have hcz116_0 := cZ0 BK446; have hcz116_1 := cZ1 BK446; have hfz116_0 := blk_frozen BK446.out 0; have hfz116_1 := blk_frozen BK446.out 1) | ((with_reducible refine gate_callee (f := 32) rfl ?_); refine gL (some 59) Try.func32 #[.agg #[.slice Ao24 t439.length co24, .slice Ao28 t442.length co28]] ?_; (with_reducible refine (impl_Flush.calls kj38 _ _ t439 _ _ t442 t458 t461 _ ?side1 ?side2 ?side3 ?side4 A51.out).mono ?_); (case side1 => exact cR HO_447000); (case side2 => exact (Kd.R_reads' HO_447000.out).2.1); (case side3 => exact cR HO_447001); (case side4 => exact (Kd.R_reads' HO_447001.out).2.1); rintro e w117 ⟨v459, v462, rfl, ho0, ho1, hb⟩; refine ⟨_, rfl, ?_⟩; have n_ := aI (rB HO_7 hb) (aI (eR HO_429000 ho0 hb) (aI (eR HO_429001 ho1 hb) (aI (eR HO_439000 ho0 hb) (aI (eR HO_439001 ho1 hb) (aI (eR HO_447000 ho0 hb) (aI (eR HO_447001 ho1 hb) (aI (eR HO_455000 ho0 hb) (aI (eR HO_455001 ho1 hb) (aI (aM (Kd.R_lower (Kd.R_new' (Kd.R_new' (Kd.R_new' (Kd.R_new' ho0 (rL HO_429000)) (rL HO_439000)) (rL HO_447000)) (rL HO_455000)) (zB HB))) (aI (aM (Kd.R_lower (Kd.R_new' (Kd.R_new' (Kd.R_new' (Kd.R_new' ho1 (rL HO_429001)) (rL HO_439001)) (rL HO_447001)) (rL HO_455001)) (zB HB))) (aI (kB BK428 hb) (aI (kB BK438 hb) (aI (kB BK446 hb) (aI (kB BK454 hb) (sB HB hb))))))))))))))); clear HO_7 HO_429000 HO_429001 HO_439000 HO_439001 HO_447000 HO_447001 HO_455000 HO_455001 BK428 BK438 BK446 BK454 HB; obtain ⟨HO_7, HO_429000, HO_429001, HO_439000, HO_439001, HO_447000, HO_447001, HO_455000, HO_455001, HO460, HO463, BK428, BK438, BK446, BK454, HB⟩ := n_; (try clear hb ho0 ho1)) | ((with_reducible refine gate_dst (N := 14) rfl ?_); (try (refine gate_guard (by rfl) ?_; dsimp only)); refine box_event ?hg (N := 14) ?hd (cs := #[.slice none 0 0, .slice none 0 0]) (t := 30) ?hr ?_; (case hd => rfl); (case hg => rfl); (case hr => first | (go_simp; done) | (go_simp; rfl)); intro gb464 hg w118 hbox hb; have n_ := aI (rB HO_7 hb) (aI (rB HO_429000 hb) (aI (rB HO_429001 hb) (aI (rB HO_439000 hb) (aI (rB HO_439001 hb) (aI (rB HO_447000 hb) (aI (rB HO_447001 hb) (aI (rB HO_455000 hb) (aI (rB HO_455001 hb) (aI (rB HO460 hb) (aI (rB HO463 hb) (aI (kB BK428 hb) (aI (kB BK438 hb) (aI (kB BK446 hb) (aI (kB BK454 hb) (aI (sB HB hb) (aI (aM hbox) (aI (gE HB hg) (aI (gE HB hg) (aI (nL BK428 hg) (aI (nG BK428 hg) (aI (nL BK438 hg) (aI (nG BK438 hg) (aI (nL BK446 hg) (aI (nG BK446 hg) (aI (nL BK454 hg) (nG BK454 hg)))))))))))))))))))))))))); clear HO_7 HO_429000 HO_429001 HO_439000 HO_439001 HO_447000 HO_447001 HO_455000 HO_455001 HO460 HO463 BK428 BK438 BK446 BK454 HB; obtain ⟨HO_7, HO_429000, HO_429001, HO_439000, HO_439001, HO_447000, HO_447001, HO_455000, HO_455001, HO460, HO463, BK428, BK438, BK446, BK454, HB, BK464, GW464, GE464, NB428_464, NB464_428, NB438_464, NB464_438, NB446_464, NB464_446, NB454_464, NB464_454⟩ := n_; (try clear hb hbox hg); obtain ⟨Ao119, co119, eo119⟩ := Kd.R_slice HO460.out; subst eo119; have hnb120 := NB464_428.out; have hnc120 := NB428_464.out; have hnb121 := NB464_438.out; have hnc121 := NB438_464.out; have hnb122 := NB464_446.out; have hnc122 := NB446_464.out; have hnb123 := NB464_454.out; have hnc123 := NB454_464.out; have hcz124_0 := cZ0 BK464; have hcz124_1 := cZ1 BK464; have hfz124_0 := blk_frozen BK464.out 0; have hfz124_1 := blk_frozen BK464.out 1; obtain ⟨Ao125, co125, eo125⟩ := Kd.R_slice HO463.out; subst eo125) | ((with_reducible refine gate_callee (f := 21) rfl ?_); refine gL (some 63) Try.func21 #[.agg #[.slice Ao119 t458.length co119, .slice Ao125 t461.length co125], .int .i64 t426] ?_; (with_reducible refine (impl_SectorRead.calls kj38 _ _ t458 _ _ t461 t426 t465 true _ ?side1 ?side2 ?side3 ?side4 A52.out).mono ?_); (case side1 => refine (Kd.R_reads' (e := 9) (base := w.heap.size) (ok := fun k_ => ((((True ∧ some k_ ≠ (.slice Ao12 t420.length co12 : Value).ownBlock) ∧ some k_ ≠ (.slice Ao17 t429.length co17 : Value).ownBlock) ∧ some k_ ≠ (.slice Ao24 t439.length co24 : Value).ownBlock) ∧ some k_ ≠ (.slice Ao32 t447.length co32 : Value).ownBlock)) (n := t458.length) (c := co119) ?_).2.2; exact (rP (Kd.R_mono (Kd.R_far (p := ⟨gb464, 1, none⟩) (Kd.R_far (p := ⟨gb464, 0, none⟩) (Kd.R_types HO460.out BK464.out (by decide)) (fun _ hk => hk.2) (.slice Ao119 t458.length co119)) (fun _ hk => hk.2) (.slice Ao125 t461.length co125)) (fun _ h_ => h_.1)))); (case side2 => exact (Kd.R_reads' HO460.out).2.1); (case side3 => refine (Kd.R_reads' (e := 65) (base := w.heap.size) (ok := fun k_ => ((((True ∧ some k_ ≠ (.slice Ao14 t423.length co14 : Value).ownBlock) ∧ some k_ ≠ (.slice Ao20 t432.length co20 : Value).ownBlock) ∧ some k_ ≠ (.slice Ao28 t442.length co28 : Value).ownBlock) ∧ some k_ ≠ (.slice Ao37 t450.length co37 : Value).ownBlock)) (n := t461.length) (c := co125) ?_).2.2; exact (rP (Kd.R_mono (Kd.R_far (p := ⟨gb464, 1, none⟩) (Kd.R_far (p := ⟨gb464, 0, none⟩) (Kd.R_types HO463.out BK464.out (by decide)) (fun _ hk => hk.2) (.slice Ao119 t458.length co119)) (fun _ hk => hk.2) (.slice Ao125 t461.length co125)) (fun _ h_ => h_.1)))); (case side4 => exact (Kd.R_reads' HO463.out).2.1); rintro e w126 ⟨rfl, hb⟩; refine ⟨_, rfl, ?_⟩; have n_ := aI (aM (Kd.R_below (rP (Kd.R_mono (Kd.R_far (p := ⟨gb464, 1, none⟩) (Kd.R_far (p := ⟨gb464, 0, none⟩) (Kd.R_types HO_7.out BK464.out (by decide)) (fun _ hk => hk.2) (.slice Ao119 t458.length co119)) (fun _ hk => hk.2) (.slice Ao125 t461.length co125)) (fun _ h_ => h_.1))) hb)) (aI (aM (Kd.R_below (rP (Kd.R_mono (Kd.R_far (p := ⟨gb464, 1, none⟩) (Kd.R_far (p := ⟨gb464, 0, none⟩) (Kd.R_types HO_429000.out BK464.out (by decide)) (fun _ hk => hk.2) (.slice Ao119 t458.length co119)) (fun _ hk => hk.2) (.slice Ao125 t461.length co125)) (fun _ h_ => h_.1))) hb)) (aI (aM (Kd.R_below (rP (Kd.R_mono (Kd.R_far (p := ⟨gb464, 1, none⟩) (Kd.R_far (p := ⟨gb464, 0, none⟩) (Kd.R_types HO_429001.out BK464.out (by decide)) (fun _ hk => hk.2) (.slice Ao119 t458.length co119)) (fun _ hk => hk.2) (.slice Ao125 t461.length co125)) (fun _ h_ => h_.1))) hb)) (aI (aM (Kd.R_below (rP (Kd.R_mono (Kd.R_far (p := ⟨gb464, 1, none⟩) (Kd.R_far (p := ⟨gb464, 0, none⟩) (Kd.R_types HO_439000.out BK464.out (by decide)) (fun _ hk => hk.2) (.slice Ao119 t458.length co119)) (fun _ hk => hk.2) (.slice Ao125 t461.length co125)) (fun _ h_ => h_.1))) hb)) (aI (aM (Kd.R_below (rP (Kd.R_mono (Kd.R_far (p := ⟨gb464, 1, none⟩) (Kd.R_far (p := ⟨gb464, 0, none⟩) (Kd.R_types HO_439001.out BK464.out (by decide)) (fun _ hk => hk.2) (.slice Ao119 t458.length co119)) (fun _ hk => hk.2) (.slice Ao125 t461.length co125)) (fun _ h_ => h_.1))) hb)) (aI (aM (Kd.R_below (rP (Kd.R_mono (Kd.R_far (p := ⟨gb464, 1, none⟩) (Kd.R_far (p := ⟨gb464, 0, none⟩) (Kd.R_types HO_447000.out BK464.out (by decide)) (fun _ hk => hk.2) (.slice Ao119 t458.length co119)) (fun _ hk => hk.2) (.slice Ao125 t461.length co125)) (fun _ h_ => h_.1))) hb)) (aI (aM (Kd.R_below (rP (Kd.R_mono (Kd.R_far (p := ⟨gb464, 1, none⟩) (Kd.R_far (p := ⟨gb464, 0, none⟩) (Kd.R_types HO_447001.out BK464.out (by decide)) (fun _ hk => hk.2) (.slice Ao119 t458.length co119)) (fun _ hk => hk.2) (.slice Ao125 t461.length co125)) (fun _ h_ => h_.1))) hb)) (aI (aM (Kd.R_below (rP (Kd.R_mono (Kd.R_far (p := ⟨gb464, 1, none⟩) (Kd.R_far (p := ⟨gb464, 0, none⟩) (Kd.R_types HO_455000.out BK464.out (by decide)) (fun _ hk => hk.2) (.slice Ao119 t458.length co119)) (fun _ hk => hk.2) (.slice Ao125 t461.length co125)) (fun _ h_ => h_.1))) hb)) (aI (aM (Kd.R_below (rP (Kd.R_mono (Kd.R_far (p := ⟨gb464, 1, none⟩) (Kd.R_far (p := ⟨gb464, 0, none⟩) (Kd.R_types HO_455001.out BK464.out (by decide)) (fun _ hk => hk.2) (.slice Ao119 t458.length co119)) (fun _ hk => hk.2) (.slice Ao125 t461.length co125)) (fun _ h_ => h_.1))) hb)) (aI (aM (Kd.R_below (rP (Kd.R_mono (Kd.R_far (p := ⟨gb464, 1, none⟩) (Kd.R_far (p := ⟨gb464, 0, none⟩) (Kd.R_types HO460.out BK464.out (by decide)) (fun _ hk => hk.2) (.slice Ao119 t458.length co119)) (fun _ hk => hk.2) (.slice Ao125 t461.length co125)) (fun _ h_ => h_.1))) hb)) (aI (aM (Kd.R_below (rP (Kd.R_mono (Kd.R_far (p := ⟨gb464, 1, none⟩) (Kd.R_far (p := ⟨gb464, 0, none⟩) (Kd.R_types HO463.out BK464.out (by decide)) (fun _ hk => hk.2) (.slice Ao119 t458.length co119)) (fun _ hk => hk.2) (.slice Ao125 t461.length co125)) (fun _ h_ => h_.1))) hb)) (aI (kB BK428 hb) (aI (kB BK438 hb) (aI (kB BK446 hb) (aI (kB BK454 hb) (aI (aM (blk_below (g := gb464) (o := .cells #[.slice Ao119 t458.length co119, .slice Ao125 t461.length co125] 30 (0, 0)) (by (with_reducible repeat (first | refine blk_drewN ?_ _ | refine blk_drew ?_ | refine blk_alloc ?_ _)); refine blk_put (cs := #[.slice Ao119 t458.length co119, .slice none 0 0]) ?_ 1 _ rfl; (with_reducible repeat (first | refine blk_drewN ?_ _ | refine blk_drew ?_ | refine blk_alloc ?_ _)); refine blk_put (cs := #[.slice none 0 0, .slice none 0 0]) ?_ 0 _ rfl; (with_reducible repeat (first | refine blk_drewN ?_ _ | refine blk_drew ?_ | refine blk_alloc ?_ _)); exact BK464.out) hb)) (sB HB hb)))))))))))))))); clear HO_7 HO_429000 HO_429001 HO_439000 HO_439001 HO_447000 HO_447001 HO_455000 HO_455001 HO460 HO463 BK428 BK438 BK446 BK454 BK464 HB; obtain ⟨HO_7, HO_429000, HO_429001, HO_439000, HO_439001, HO_447000, HO_447001, HO_455000, HO_455001, HO460, HO463, BK428, BK438, BK446, BK454, BK464, HB⟩ := n_; (try clear hb)))
            have n0_ := aM (Kd.R_drew HO_7.out)
            have n1_ := aM (Kd.R_drew HO_429000.out)
            have n2_ := aM (Kd.R_drew HO_429001.out)
            have n3_ := aM (Kd.R_drew HO_439000.out)
            have n4_ := aM (Kd.R_drew HO_439001.out)
            have n5_ := aM (Kd.R_drew HO_447000.out)
            have n6_ := aM (Kd.R_drew HO_447001.out)
            have n7_ := aM (Kd.R_drew HO_455000.out)
            have n8_ := aM (Kd.R_drew HO_455001.out)
            have n9_ := aM (Kd.R_drew HO460.out)
            have n10_ := aM (Kd.R_drew HO463.out)
            have n11_ := aM (blk_drew BK428.out)
            have n12_ := aM (blk_drew BK438.out)
            have n13_ := aM (blk_drew BK446.out)
            have n14_ := aM (blk_drew BK454.out)
            have n15_ := aM (blk_drew BK464.out)
            have n16_ := aM (below_drew1 HB.out)
            clear HO_7
            clear HO_429000
            clear HO_429001
            clear HO_439000
            clear HO_439001
            clear HO_447000
            clear HO_447001
            clear HO_455000
            clear HO_455001
            clear HO460
            clear HO463
            clear BK428
            clear BK438
            clear BK446
            clear BK454
            clear BK464
            clear HB
            have HO_7 := n0_
            have HO_429000 := n1_
            have HO_429001 := n2_
            have HO_439000 := n3_
            have HO_439001 := n4_
            have HO_447000 := n5_
            have HO_447001 := n6_
            have HO_455000 := n7_
            have HO_455001 := n8_
            have HO460 := n9_
            have HO463 := n10_
            have BK428 := n11_
            have BK438 := n12_
            have BK446 := n13_
            have BK454 := n14_
            have BK464 := n15_
            have HB := n16_
            clear n0_ n1_ n2_ n3_ n4_ n5_ n6_ n7_ n8_ n9_ n10_ n11_ n12_ n13_ n14_ n15_ n16_
            obtain ⟨Ao128, co128, eo128⟩ := Kd.R_slice HO_7.out
            (first | subst eo128 | (injection eo128 with f1_ f2_ f3_; have f4_ := f1_.symm; have f5_ := f3_.symm; clear f1_ f2_ f3_; subst f4_; subst f5_))
            refine start_ (n := 34) (S := fun w' => w'.cell? ⟨gb464, 0, none⟩ = some (.slice Ao119 t458.length co119) ∧ w'.cell? ⟨gb464, 1, none⟩ = some (.slice Ao125 t461.length co125)) (ds := []) #[tF, tF, tF, tF, tF, tF, tF, tF, tF, tF, tF, tF, tF, tF, tF, tF, tF, tF, tF, tF, tF, tF, tF, tF, tF, tF, tF, tF, tF, tF, tF, tF, tF, tF] (by kernel_rfl) rfl rfl ⟨(blk_cell BK464.out 0).trans rfl, (blk_cell BK464.out 1).trans rfl⟩ (fun hHeld => ?_); refine with_tabW laws_FnFlushed.tab14 laws_FnFlushed.bits14 (fun HT_ HW_ => ?_)
            generalize w126.drew = w127 at HO_7 HO_429000 HO_429001 HO_439000 HO_439001 HO_447000 HO_447001 HO_455000 HO_455001 HO460 HO463 BK428 BK438 BK446 BK454 BK464 HB hHeld ⊢
            refine pY 0 66 #[tT, tF, tF, tF, tF, tF, tF, tF, tF, tF, tF, tF, tF, tF, tF, tF, tF, tF, tF, tF, tF, tF, tF, tF, tF, tF, tF, tF, tF, tF, tF, tF, tF, tF] ?_
            refine pY 1 67 #[tT, tT, tF, tF, tF, tF, tF, tF, tF, tF, tF, tF, tF, tF, tF, tF, tF, tF, tF, tF, tF, tF, tF, tF, tF, tF, tF, tF, tF, tF, tF, tF, tF, tF] ?_
            refine pY 2 68 #[tT, tT, tT, tF, tF, tF, tF, tF, tF, tF, tF, tF, tF, tF, tF, tF, tF, tF, tF, tF, tF, tF, tF, tF, tF, tF, tF, tF, tF, tF, tF, tF, tF, tF] ?_
            refine pY 3 69 #[tT, tT, tT, tT, tF, tF, tF, tF, tF, tF, tF, tF, tF, tF, tF, tF, tF, tF, tF, tF, tF, tF, tF, tF, tF, tF, tF, tF, tF, tF, tF, tF, tF, tF] ?_
            refine pY 4 70 #[tT, tT, tT, tT, tT, tF, tF, tF, tF, tF, tF, tF, tF, tF, tF, tF, tF, tF, tF, tF, tF, tF, tF, tF, tF, tF, tF, tF, tF, tF, tF, tF, tF, tF] ?_
            refine pY 5 71 #[tT, tT, tT, tT, tT, tT, tF, tF, tF, tF, tF, tF, tF, tF, tF, tF, tF, tF, tF, tF, tF, tF, tF, tF, tF, tF, tF, tF, tF, tF, tF, tF, tF, tF] ?_
            refine pY 6 72 #[tT, tT, tT, tT, tT, tT, tT, tF, tF, tF, tF, tF, tF, tF, tF, tF, tF, tF, tF, tF, tF, tF, tF, tF, tF, tF, tF, tF, tF, tF, tF, tF, tF, tF] ?_
            refine pY 7 73 #[tT, tT, tT, tT, tT, tT, tT, tT, tF, tF, tF, tF, tF, tF, tF, tF, tF, tF, tF, tF, tF, tF, tF, tF, tF, tF, tF, tF, tF, tF, tF, tF, tF, tF] ?_
            refine pY 8 74 #[tT, tT, tT, tT, tT, tT, tT, tT, tT, tF, tF, tF, tF, tF, tF, tF, tF, tF, tF, tF, tF, tF, tF, tF, tF, tF, tF, tF, tF, tF, tF, tF, tF, tF] ?_
            refine pY 9 75 #[tT, tT, tT, tT, tT, tT, tT, tT, tT, tT, tF, tF, tF, tF, tF, tF, tF, tF, tF, tF, tF, tF, tF, tF, tF, tF, tF, tF, tF, tF, tF, tF, tF, tF] ?_
            refine pY 10 76 #[tT, tT, tT, tT, tT, tT, tT, tT, tT, tT, tT, tF, tF, tF, tF, tF, tF, tF, tF, tF, tF, tF, tF, tF, tF, tF, tF, tF, tF, tF, tF, tF, tF, tF] ?_
            refine pY 11 77 #[tT, tT, tT, tT, tT, tT, tT, tT, tT, tT, tT, tT, tF, tF, tF, tF, tF, tF, tF, tF, tF, tF, tF, tF, tF, tF, tF, tF, tF, tF, tF, tF, tF, tF] ?_
            refine pY 12 78 #[tT, tT, tT, tT, tT, tT, tT, tT, tT, tT, tT, tT, tT, tF, tF, tF, tF, tF, tF, tF, tF, tF, tF, tF, tF, tF, tF, tF, tF, tF, tF, tF, tF, tF] ?_
            refine pY 13 79 #[tT, tT, tT, tT, tT, tT, tT, tT, tT, tT, tT, tT, tT, tT, tF, tF, tF, tF, tF, tF, tF, tF, tF, tF, tF, tF, tF, tF, tF, tF, tF, tF, tF, tF] ?_
            refine pY 14 80 #[tT, tT, tT, tT, tT, tT, tT, tT, tT, tT, tT, tT, tT, tT, tT, tF, tF, tF, tF, tF, tF, tF, tF, tF, tF, tF, tF, tF, tF, tF, tF, tF, tF, tF] ?_
            refine pY 16 82 #[tT, tT, tT, tT, tT, tT, tT, tT, tT, tT, tT, tT, tT, tT, tT, tF, tT, tF, tF, tF, tF, tF, tF, tF, tF, tF, tF, tF, tF, tF, tF, tF, tF, tF] ?_
            refine take_ (i := 15) (N := some 81) (v := ?_) (a' := ?_) #[tT, tT, tT, tT, tT, tT, tT, tT, tT, tT, tT, tT, tT, tT, tT, tT, tT, tF, tF, tF, tF, tF, tF, tF, tF, tF, tF, tF, tF, tF, tF, tF, tF, tF] rfl rfl (take_ofW HT_.out HW_.out (by kernel_rfl)) (fun _ _ _ h => h) (Or.inl ⟨by rfl, ?_⟩) hHeld ?_ ?_
            rotate_left
            ·rintro w' ⟨s0, s1⟩
             go_simp
             with_reducible rfl
            rotate_left
            ·simp only [Act.put, List.setIfInBounds_toArray, List.set_cons_zero, List.set_cons_succ, i64_w, i32_w]
             rfl
            refine take_ (i := 18) (N := some 84) (v := ?_) (a' := ?_) #[tT, tT, tT, tT, tT, tT, tT, tT, tT, tT, tT, tT, tT, tT, tT, tT, tT, tF, tT, tF, tF, tF, tF, tF, tF, tF, tF, tF, tF, tF, tF, tF, tF, tF] rfl rfl (take_ofW HT_.out HW_.out (by kernel_rfl)) (fun _ _ _ h => h) (Or.inl ⟨by rfl, ?_⟩) hHeld ?_ ?_
            rotate_left
            ·rintro w' ⟨s0, s1⟩
             go_simp
             with_reducible rfl
            rotate_left
            ·simp only [Act.put, List.setIfInBounds_toArray, List.set_cons_zero, List.set_cons_succ, i64_w, i32_w]
             rfl
            refine one_ (i := 17) (N := some 83) #[tT, tT, tT, tT, tT, tT, tT, tT, tT, tT, tT, tT, tT, tT, tT, tT, tT, tT, tT, tF, tF, tF, tF, tF, tF, tF, tF, tF, tF, tF, tF, tF, tF, tF] rfl rfl (one_of HT_.out (by kernel_rfl)) (by decide) (fun K hK => ?_)
            refine goes_ Try.func35 (by kernel_rfl) rfl #[.agg #[.slice Ao119 t458.length co119, .slice Ao125 t461.length co125], .slice Ao128 t435.length co128] (by rfl) rfl rfl (by (try simp only [List.map_toArray, List.map_cons, List.map_nil]); first | done | rfl | (simp only [List.length_drop, List.length_take]; rfl)) ?_
            with_reducible refine (impl_Fall.calls kj38 _ _ t458 _ _ t461 _ _ t435 t467 t470 _ ?side1 ?side2 ?side3 ?side4 ?side5 ?side6 A57.out).mono ?_
            (case side1 => exact cR HO460)
            (case side2 => exact (Kd.R_reads' HO460.out).2.1)
            (case side3 => exact cR HO463)
            (case side4 => exact (Kd.R_reads' HO463.out).2.1)
            (case side5 => exact cR HO_7)
            (case side6 => exact (Kd.R_reads' HO_7.out).2.1)
            rintro e w129 ⟨v468, v471, rfl, ho0, ho1, hb⟩
            refine ⟨_, rfl, ?_⟩
            have n0_ := rB HO_7 hb
            have n1_ := eR HO_429000 ho0 hb
            have n2_ := eR HO_429001 ho1 hb
            have n3_ := eR HO_439000 ho0 hb
            have n4_ := eR HO_439001 ho1 hb
            have n5_ := eR HO_447000 ho0 hb
            have n6_ := eR HO_447001 ho1 hb
            have n7_ := eR HO_455000 ho0 hb
            have n8_ := eR HO_455001 ho1 hb
            have n9_ := eR HO460 ho0 hb
            have n10_ := eR HO463 ho1 hb
            have n11_ := aM (Kd.R_lower (Kd.R_new' (Kd.R_new' (Kd.R_new' (Kd.R_new' (Kd.R_new' ho0 (rL HO_429000)) (rL HO_439000)) (rL HO_447000)) (rL HO_455000)) (rL HO460)) (zB HB))
            have n12_ := aM (Kd.R_lower (Kd.R_new' (Kd.R_new' (Kd.R_new' (Kd.R_new' (Kd.R_new' ho1 (rL HO_429001)) (rL HO_439001)) (rL HO_447001)) (rL HO_455001)) (rL HO463)) (zB HB))
            have n13_ := kB BK428 hb
            have n14_ := kB BK438 hb
            have n15_ := kB BK446 hb
            have n16_ := kB BK454 hb
            have n17_ := kB BK464 hb
            have n18_ := sB HB hb
            clear HO_7
            clear HO_429000
            clear HO_429001
            clear HO_439000
            clear HO_439001
            clear HO_447000
            clear HO_447001
            clear HO_455000
            clear HO_455001
            clear HO460
            clear HO463
            clear BK428
            clear BK438
            clear BK446
            clear BK454
            clear BK464
            clear HB
            have HO_7 := n0_
            have HO_429000 := n1_
            have HO_429001 := n2_
            have HO_439000 := n3_
            have HO_439001 := n4_
            have HO_447000 := n5_
            have HO_447001 := n6_
            have HO_455000 := n7_
            have HO_455001 := n8_
            have HO460 := n9_
            have HO463 := n10_
            have HO469 := n11_
            have HO472 := n12_
            have BK428 := n13_
            have BK438 := n14_
            have BK446 := n15_
            have BK454 := n16_
            have BK464 := n17_
            have HB := n18_
            clear n0_ n1_ n2_ n3_ n4_ n5_ n6_ n7_ n8_ n9_ n10_ n11_ n12_ n13_ n14_ n15_ n16_ n17_ n18_
            (try clear hb)
            (try clear hb2)
            (try clear hk)
            (try clear hi)
            (try clear ho0)
            (try clear ho1)
            obtain ⟨Ao130, co130, eo130⟩ := Kd.R_slice HO469.out
            (first | subst eo130 | (injection eo130 with f1_ f2_ f3_; have f4_ := f1_.symm; have f5_ := f3_.symm; clear f1_ f2_ f3_; subst f4_; subst f5_))
            obtain ⟨Ao131, co131, eo131⟩ := Kd.R_slice HO472.out
            (first | subst eo131 | (injection eo131 with f1_ f2_ f3_; have f4_ := f1_.symm; have f5_ := f3_.symm; clear f1_ f2_ f3_; subst f4_; subst f5_))
            refine hK.out _ _ ⟨(blk_cell BK464.out 0).trans rfl, (blk_cell BK464.out 1).trans rfl⟩ (fun hHeld => ?_)
            clear hK K
            refine norm_ (a' := ?_) ?_ ?_
            rotate_left
            ·show Act.put _ (some 83) _ = _
             simp only [Act.put, List.setIfInBounds_toArray, List.set_cons_zero, List.set_cons_succ, i64_w, i32_w]
             rfl
            refine one_ (i := 19) (N := some 85) #[tT, tT, tT, tT, tT, tT, tT, tT, tT, tT, tT, tT, tT, tT, tT, tT, tT, tT, tT, tT, tF, tF, tF, tF, tF, tF, tF, tF, tF, tF, tF, tF, tF, tF] rfl rfl (one_of HT_.out (by kernel_rfl)) (by decide) (fun K hK => ?_)
            refine goes_ Try.func49 (by kernel_rfl) rfl #[.agg #[.slice Ao130 t467.length co130, .slice Ao131 t470.length co131], .agg #[.slice Ao119 t458.length co119, .slice Ao125 t461.length co125]] (by rfl) rfl rfl (by (try simp only [List.map_toArray, List.map_cons, List.map_nil]); first | done | rfl | (simp only [List.length_drop, List.length_take]; rfl)) ?_
            with_reducible refine (impl_DiskSame.calls kj38 _ _ t467 _ _ t470 _ _ t458 _ _ t461 false _ ?side1 ?side2 ?side3 ?side4 ?side5 ?side6 ?side7 ?side8 A58.out).mono ?_
            (case side1 => exact cR HO469)
            (case side2 => exact (Kd.R_reads' HO469.out).2.1)
            (case side3 => exact cR HO472)
            (case side4 => exact (Kd.R_reads' HO472.out).2.1)
            (case side5 => exact cR HO460)
            (case side6 => exact (Kd.R_reads' HO460.out).2.1)
            (case side7 => exact cR HO463)
            (case side8 => exact (Kd.R_reads' HO463.out).2.1)
            rintro e w132 ⟨rfl, hb⟩
            refine ⟨_, rfl, ?_⟩
            have n0_ := rB HO_7 hb
            have n1_ := rB HO_429000 hb
            have n2_ := rB HO_429001 hb
            have n3_ := rB HO_439000 hb
            have n4_ := rB HO_439001 hb
            have n5_ := rB HO_447000 hb
            have n6_ := rB HO_447001 hb
            have n7_ := rB HO_455000 hb
            have n8_ := rB HO_455001 hb
            have n9_ := rB HO460 hb
            have n10_ := rB HO463 hb
            have n11_ := rB HO469 hb
            have n12_ := rB HO472 hb
            have n13_ := kB BK428 hb
            have n14_ := kB BK438 hb
            have n15_ := kB BK446 hb
            have n16_ := kB BK454 hb
            have n17_ := kB BK464 hb
            have n18_ := sB HB hb
            clear HO_7
            clear HO_429000
            clear HO_429001
            clear HO_439000
            clear HO_439001
            clear HO_447000
            clear HO_447001
            clear HO_455000
            clear HO_455001
            clear HO460
            clear HO463
            clear HO469
            clear HO472
            clear BK428
            clear BK438
            clear BK446
            clear BK454
            clear BK464
            clear HB
            have HO_7 := n0_
            have HO_429000 := n1_
            have HO_429001 := n2_
            have HO_439000 := n3_
            have HO_439001 := n4_
            have HO_447000 := n5_
            have HO_447001 := n6_
            have HO_455000 := n7_
            have HO_455001 := n8_
            have HO460 := n9_
            have HO463 := n10_
            have HO469 := n11_
            have HO472 := n12_
            have BK428 := n13_
            have BK438 := n14_
            have BK446 := n15_
            have BK454 := n16_
            have BK464 := n17_
            have HB := n18_
            clear n0_ n1_ n2_ n3_ n4_ n5_ n6_ n7_ n8_ n9_ n10_ n11_ n12_ n13_ n14_ n15_ n16_ n17_ n18_
            (try clear hb)
            (try clear hb2)
            (try clear hk)
            (try clear hi)
            refine hK.out _ _ ⟨(blk_cell BK464.out 0).trans rfl, (blk_cell BK464.out 1).trans rfl⟩ (fun hHeld => ?_)
            clear hK K
            refine norm_ (a' := ?_) ?_ ?_
            rotate_left
            ·show Act.put _ (some 85) _ = _
             simp only [Act.put, List.setIfInBounds_toArray, List.set_cons_zero, List.set_cons_succ, i64_w, i32_w]
             rfl
            refine pY 20 86 #[tT, tT, tT, tT, tT, tT, tT, tT, tT, tT, tT, tT, tT, tT, tT, tT, tT, tT, tT, tT, tT, tF, tF, tF, tF, tF, tF, tF, tF, tF, tF, tF, tF, tF] ?_
            refine pY 21 87 #[tT, tT, tT, tT, tT, tT, tT, tT, tT, tT, tT, tT, tT, tT, tT, tT, tT, tT, tT, tT, tT, tT, tF, tF, tF, tF, tF, tF, tF, tF, tF, tF, tF, tF] ?_
            refine pU 22 88 #[tT, tT, tT, tT, tT, tT, tT, tT, tT, tT, tT, tT, tT, tT, tT, tT, tT, tT, tT, tT, tT, tT, tT, tF, tF, tF, tF, tF, tF, tF, tF, tF, tF, tF] ?_
            refine pU 23 89 #[tT, tT, tT, tT, tT, tT, tT, tT, tT, tT, tT, tT, tT, tT, tT, tT, tT, tT, tT, tT, tT, tT, tT, tT, tF, tF, tF, tF, tF, tF, tF, tF, tF, tF] ?_
            refine pU 24 90 #[tT, tT, tT, tT, tT, tT, tT, tT, tT, tT, tT, tT, tT, tT, tT, tT, tT, tT, tT, tT, tT, tT, tT, tT, tT, tF, tF, tF, tF, tF, tF, tF, tF, tF] ?_
            refine pU 25 91 #[tT, tT, tT, tT, tT, tT, tT, tT, tT, tT, tT, tT, tT, tT, tT, tT, tT, tT, tT, tT, tT, tT, tT, tT, tT, tT, tF, tF, tF, tF, tF, tF, tF, tF] ?_
            refine pY 26 92 #[tT, tT, tT, tT, tT, tT, tT, tT, tT, tT, tT, tT, tT, tT, tT, tT, tT, tT, tT, tT, tT, tT, tT, tT, tT, tT, tT, tF, tF, tF, tF, tF, tF, tF] ?_
            refine pY 27 93 #[tT, tT, tT, tT, tT, tT, tT, tT, tT, tT, tT, tT, tT, tT, tT, tT, tT, tT, tT, tT, tT, tT, tT, tT, tT, tT, tT, tT, tF, tF, tF, tF, tF, tF] ?_
            refine pU 28 94 #[tT, tT, tT, tT, tT, tT, tT, tT, tT, tT, tT, tT, tT, tT, tT, tT, tT, tT, tT, tT, tT, tT, tT, tT, tT, tT, tT, tT, tT, tF, tF, tF, tF, tF] ?_
            refine pU 29 95 #[tT, tT, tT, tT, tT, tT, tT, tT, tT, tT, tT, tT, tT, tT, tT, tT, tT, tT, tT, tT, tT, tT, tT, tT, tT, tT, tT, tT, tT, tT, tF, tF, tF, tF] ?_
            refine pU 30 96 #[tT, tT, tT, tT, tT, tT, tT, tT, tT, tT, tT, tT, tT, tT, tT, tT, tT, tT, tT, tT, tT, tT, tT, tT, tT, tT, tT, tT, tT, tT, tT, tF, tF, tF] ?_
            refine pU 31 97 #[tT, tT, tT, tT, tT, tT, tT, tT, tT, tT, tT, tT, tT, tT, tT, tT, tT, tT, tT, tT, tT, tT, tT, tT, tT, tT, tT, tT, tT, tT, tT, tT, tF, tF] ?_
            refine pY 32 98 #[tT, tT, tT, tT, tT, tT, tT, tT, tT, tT, tT, tT, tT, tT, tT, tT, tT, tT, tT, tT, tT, tT, tT, tT, tT, tT, tT, tT, tT, tT, tT, tT, tT, tF] ?_
            refine pY 33 2 #[tT, tT, tT, tT, tT, tT, tT, tT, tT, tT, tT, tT, tT, tT, tT, tT, tT, tT, tT, tT, tT, tT, tT, tT, tT, tT, tT, tT, tT, tT, tT, tT, tT, tT] ?_
            refine done_ (done_of HT_.out (by kernel_rfl)) ?_
            try go_wp2
            go_ret
            exact ⟨eW, bB⟩
          ·rw [if_neg c56] at H
           have c56b0 : (t465.toList == t427.toList) = false := beq_eq_false_iff_ne.mpr c56
           have c56b1 : (t465.toList != t427.toList) = true := bne_iff_ne.mpr c56
           obtain rfl := Option.some.inj H
           have hnb133 := NB446_428.out
           have hnc133 := NB428_446.out
           have hnb134 := NB446_438.out
           have hnc134 := NB438_446.out
           have hnb135 := NB446_454.out
           have hnc135 := NB454_446.out
           have hcz136_0 := cZ0 BK446
           have hcz136_1 := cZ1 BK446
           have hfz136_0 := blk_frozen BK446.out 0
           have hfz136_1 := blk_frozen BK446.out 1
           try go_wp2_with (first | ((with_reducible refine gate_callee (f := 21) rfl ?_); refine gL (some 55) Try.func21 #[.agg #[.slice Ao24 t439.length co24, .slice Ao28 t442.length co28], .int .i64 t426] ?_; (with_reducible refine (impl_SectorRead.calls kj38 _ _ t439 _ _ t442 t426 t456 true _ ?side1 ?side2 ?side3 ?side4 A50.out).mono ?_); (case side1 => exact cR HO_447000); (case side2 => exact (Kd.R_reads' HO_447000.out).2.1); (case side3 => exact cR HO_447001); (case side4 => exact (Kd.R_reads' HO_447001.out).2.1); rintro e w137 ⟨rfl, hb⟩; refine ⟨_, rfl, ?_⟩; have n_ := aI (rB HO_7 hb) (aI (rB HO_429000 hb) (aI (rB HO_429001 hb) (aI (rB HO_439000 hb) (aI (rB HO_439001 hb) (aI (rB HO_447000 hb) (aI (rB HO_447001 hb) (aI (rB HO_455000 hb) (aI (rB HO_455001 hb) (aI (kB BK428 hb) (aI (kB BK438 hb) (aI (kB BK446 hb) (aI (kB BK454 hb) (sB HB hb))))))))))))); clear HO_7 HO_429000 HO_429001 HO_439000 HO_439001 HO_447000 HO_447001 HO_455000 HO_455001 BK428 BK438 BK446 BK454 HB; obtain ⟨HO_7, HO_429000, HO_429001, HO_439000, HO_439001, HO_447000, HO_447001, HO_455000, HO_455001, BK428, BK438, BK446, BK454, HB⟩ := n_; (try clear hb); have hcz138_0 := cZ0 BK446; have hcz138_1 := cZ1 BK446; have hfz138_0 := blk_frozen BK446.out 0; have hfz138_1 := blk_frozen BK446.out 1) | ((with_reducible refine gate_callee (f := 32) rfl ?_); refine gL (some 59) Try.func32 #[.agg #[.slice Ao24 t439.length co24, .slice Ao28 t442.length co28]] ?_; (with_reducible refine (impl_Flush.calls kj38 _ _ t439 _ _ t442 t458 t461 _ ?side1 ?side2 ?side3 ?side4 A51.out).mono ?_); (case side1 => exact cR HO_447000); (case side2 => exact (Kd.R_reads' HO_447000.out).2.1); (case side3 => exact cR HO_447001); (case side4 => exact (Kd.R_reads' HO_447001.out).2.1); rintro e w139 ⟨v459, v462, rfl, ho0, ho1, hb⟩; refine ⟨_, rfl, ?_⟩; have n_ := aI (rB HO_7 hb) (aI (eR HO_429000 ho0 hb) (aI (eR HO_429001 ho1 hb) (aI (eR HO_439000 ho0 hb) (aI (eR HO_439001 ho1 hb) (aI (eR HO_447000 ho0 hb) (aI (eR HO_447001 ho1 hb) (aI (eR HO_455000 ho0 hb) (aI (eR HO_455001 ho1 hb) (aI (aM (Kd.R_lower (Kd.R_new' (Kd.R_new' (Kd.R_new' (Kd.R_new' ho0 (rL HO_429000)) (rL HO_439000)) (rL HO_447000)) (rL HO_455000)) (zB HB))) (aI (aM (Kd.R_lower (Kd.R_new' (Kd.R_new' (Kd.R_new' (Kd.R_new' ho1 (rL HO_429001)) (rL HO_439001)) (rL HO_447001)) (rL HO_455001)) (zB HB))) (aI (kB BK428 hb) (aI (kB BK438 hb) (aI (kB BK446 hb) (aI (kB BK454 hb) (sB HB hb))))))))))))))); clear HO_7 HO_429000 HO_429001 HO_439000 HO_439001 HO_447000 HO_447001 HO_455000 HO_455001 BK428 BK438 BK446 BK454 HB; obtain ⟨HO_7, HO_429000, HO_429001, HO_439000, HO_439001, HO_447000, HO_447001, HO_455000, HO_455001, HO460, HO463, BK428, BK438, BK446, BK454, HB⟩ := n_; (try clear hb ho0 ho1)) | ((with_reducible refine gate_dst (N := 14) rfl ?_); (try (refine gate_guard (by rfl) ?_; dsimp only)); refine box_event ?hg (N := 14) ?hd (cs := #[.slice none 0 0, .slice none 0 0]) (t := 30) ?hr ?_; (case hd => rfl); (case hg => rfl); (case hr => first | (go_simp; done) | (go_simp; rfl)); intro gb464 hg w140 hbox hb; have n_ := aI (rB HO_7 hb) (aI (rB HO_429000 hb) (aI (rB HO_429001 hb) (aI (rB HO_439000 hb) (aI (rB HO_439001 hb) (aI (rB HO_447000 hb) (aI (rB HO_447001 hb) (aI (rB HO_455000 hb) (aI (rB HO_455001 hb) (aI (rB HO460 hb) (aI (rB HO463 hb) (aI (kB BK428 hb) (aI (kB BK438 hb) (aI (kB BK446 hb) (aI (kB BK454 hb) (aI (sB HB hb) (aI (aM hbox) (aI (gE HB hg) (aI (gE HB hg) (aI (nL BK428 hg) (aI (nG BK428 hg) (aI (nL BK438 hg) (aI (nG BK438 hg) (aI (nL BK446 hg) (aI (nG BK446 hg) (aI (nL BK454 hg) (nG BK454 hg)))))))))))))))))))))))))); clear HO_7 HO_429000 HO_429001 HO_439000 HO_439001 HO_447000 HO_447001 HO_455000 HO_455001 HO460 HO463 BK428 BK438 BK446 BK454 HB; obtain ⟨HO_7, HO_429000, HO_429001, HO_439000, HO_439001, HO_447000, HO_447001, HO_455000, HO_455001, HO460, HO463, BK428, BK438, BK446, BK454, HB, BK464, GW464, GE464, NB428_464, NB464_428, NB438_464, NB464_438, NB446_464, NB464_446, NB454_464, NB464_454⟩ := n_; (try clear hb hbox hg); obtain ⟨Ao141, co141, eo141⟩ := Kd.R_slice HO460.out; subst eo141; have hnb142 := NB464_428.out; have hnc142 := NB428_464.out; have hnb143 := NB464_438.out; have hnc143 := NB438_464.out; have hnb144 := NB464_446.out; have hnc144 := NB446_464.out; have hnb145 := NB464_454.out; have hnc145 := NB454_464.out; have hcz146_0 := cZ0 BK464; have hcz146_1 := cZ1 BK464; have hfz146_0 := blk_frozen BK464.out 0; have hfz146_1 := blk_frozen BK464.out 1; obtain ⟨Ao147, co147, eo147⟩ := Kd.R_slice HO463.out; subst eo147) | ((with_reducible refine gate_callee (f := 21) rfl ?_); refine gL (some 63) Try.func21 #[.agg #[.slice Ao141 t458.length co141, .slice Ao147 t461.length co147], .int .i64 t426] ?_; (with_reducible refine (impl_SectorRead.calls kj38 _ _ t458 _ _ t461 t426 t465 true _ ?side1 ?side2 ?side3 ?side4 A52.out).mono ?_); (case side1 => refine (Kd.R_reads' (e := 9) (base := w.heap.size) (ok := fun k_ => ((((True ∧ some k_ ≠ (.slice Ao12 t420.length co12 : Value).ownBlock) ∧ some k_ ≠ (.slice Ao17 t429.length co17 : Value).ownBlock) ∧ some k_ ≠ (.slice Ao24 t439.length co24 : Value).ownBlock) ∧ some k_ ≠ (.slice Ao32 t447.length co32 : Value).ownBlock)) (n := t458.length) (c := co141) ?_).2.2; exact (rP (Kd.R_mono (Kd.R_far (p := ⟨gb464, 1, none⟩) (Kd.R_far (p := ⟨gb464, 0, none⟩) (Kd.R_types HO460.out BK464.out (by decide)) (fun _ hk => hk.2) (.slice Ao141 t458.length co141)) (fun _ hk => hk.2) (.slice Ao147 t461.length co147)) (fun _ h_ => h_.1)))); (case side2 => exact (Kd.R_reads' HO460.out).2.1); (case side3 => refine (Kd.R_reads' (e := 65) (base := w.heap.size) (ok := fun k_ => ((((True ∧ some k_ ≠ (.slice Ao14 t423.length co14 : Value).ownBlock) ∧ some k_ ≠ (.slice Ao20 t432.length co20 : Value).ownBlock) ∧ some k_ ≠ (.slice Ao28 t442.length co28 : Value).ownBlock) ∧ some k_ ≠ (.slice Ao37 t450.length co37 : Value).ownBlock)) (n := t461.length) (c := co147) ?_).2.2; exact (rP (Kd.R_mono (Kd.R_far (p := ⟨gb464, 1, none⟩) (Kd.R_far (p := ⟨gb464, 0, none⟩) (Kd.R_types HO463.out BK464.out (by decide)) (fun _ hk => hk.2) (.slice Ao141 t458.length co141)) (fun _ hk => hk.2) (.slice Ao147 t461.length co147)) (fun _ h_ => h_.1)))); (case side4 => exact (Kd.R_reads' HO463.out).2.1); rintro e w148 ⟨rfl, hb⟩; refine ⟨_, rfl, ?_⟩; have n_ := aI (aM (Kd.R_below (rP (Kd.R_mono (Kd.R_far (p := ⟨gb464, 1, none⟩) (Kd.R_far (p := ⟨gb464, 0, none⟩) (Kd.R_types HO_7.out BK464.out (by decide)) (fun _ hk => hk.2) (.slice Ao141 t458.length co141)) (fun _ hk => hk.2) (.slice Ao147 t461.length co147)) (fun _ h_ => h_.1))) hb)) (aI (aM (Kd.R_below (rP (Kd.R_mono (Kd.R_far (p := ⟨gb464, 1, none⟩) (Kd.R_far (p := ⟨gb464, 0, none⟩) (Kd.R_types HO_429000.out BK464.out (by decide)) (fun _ hk => hk.2) (.slice Ao141 t458.length co141)) (fun _ hk => hk.2) (.slice Ao147 t461.length co147)) (fun _ h_ => h_.1))) hb)) (aI (aM (Kd.R_below (rP (Kd.R_mono (Kd.R_far (p := ⟨gb464, 1, none⟩) (Kd.R_far (p := ⟨gb464, 0, none⟩) (Kd.R_types HO_429001.out BK464.out (by decide)) (fun _ hk => hk.2) (.slice Ao141 t458.length co141)) (fun _ hk => hk.2) (.slice Ao147 t461.length co147)) (fun _ h_ => h_.1))) hb)) (aI (aM (Kd.R_below (rP (Kd.R_mono (Kd.R_far (p := ⟨gb464, 1, none⟩) (Kd.R_far (p := ⟨gb464, 0, none⟩) (Kd.R_types HO_439000.out BK464.out (by decide)) (fun _ hk => hk.2) (.slice Ao141 t458.length co141)) (fun _ hk => hk.2) (.slice Ao147 t461.length co147)) (fun _ h_ => h_.1))) hb)) (aI (aM (Kd.R_below (rP (Kd.R_mono (Kd.R_far (p := ⟨gb464, 1, none⟩) (Kd.R_far (p := ⟨gb464, 0, none⟩) (Kd.R_types HO_439001.out BK464.out (by decide)) (fun _ hk => hk.2) (.slice Ao141 t458.length co141)) (fun _ hk => hk.2) (.slice Ao147 t461.length co147)) (fun _ h_ => h_.1))) hb)) (aI (aM (Kd.R_below (rP (Kd.R_mono (Kd.R_far (p := ⟨gb464, 1, none⟩) (Kd.R_far (p := ⟨gb464, 0, none⟩) (Kd.R_types HO_447000.out BK464.out (by decide)) (fun _ hk => hk.2) (.slice Ao141 t458.length co141)) (fun _ hk => hk.2) (.slice Ao147 t461.length co147)) (fun _ h_ => h_.1))) hb)) (aI (aM (Kd.R_below (rP (Kd.R_mono (Kd.R_far (p := ⟨gb464, 1, none⟩) (Kd.R_far (p := ⟨gb464, 0, none⟩) (Kd.R_types HO_447001.out BK464.out (by decide)) (fun _ hk => hk.2) (.slice Ao141 t458.length co141)) (fun _ hk => hk.2) (.slice Ao147 t461.length co147)) (fun _ h_ => h_.1))) hb)) (aI (aM (Kd.R_below (rP (Kd.R_mono (Kd.R_far (p := ⟨gb464, 1, none⟩) (Kd.R_far (p := ⟨gb464, 0, none⟩) (Kd.R_types HO_455000.out BK464.out (by decide)) (fun _ hk => hk.2) (.slice Ao141 t458.length co141)) (fun _ hk => hk.2) (.slice Ao147 t461.length co147)) (fun _ h_ => h_.1))) hb)) (aI (aM (Kd.R_below (rP (Kd.R_mono (Kd.R_far (p := ⟨gb464, 1, none⟩) (Kd.R_far (p := ⟨gb464, 0, none⟩) (Kd.R_types HO_455001.out BK464.out (by decide)) (fun _ hk => hk.2) (.slice Ao141 t458.length co141)) (fun _ hk => hk.2) (.slice Ao147 t461.length co147)) (fun _ h_ => h_.1))) hb)) (aI (aM (Kd.R_below (rP (Kd.R_mono (Kd.R_far (p := ⟨gb464, 1, none⟩) (Kd.R_far (p := ⟨gb464, 0, none⟩) (Kd.R_types HO460.out BK464.out (by decide)) (fun _ hk => hk.2) (.slice Ao141 t458.length co141)) (fun _ hk => hk.2) (.slice Ao147 t461.length co147)) (fun _ h_ => h_.1))) hb)) (aI (aM (Kd.R_below (rP (Kd.R_mono (Kd.R_far (p := ⟨gb464, 1, none⟩) (Kd.R_far (p := ⟨gb464, 0, none⟩) (Kd.R_types HO463.out BK464.out (by decide)) (fun _ hk => hk.2) (.slice Ao141 t458.length co141)) (fun _ hk => hk.2) (.slice Ao147 t461.length co147)) (fun _ h_ => h_.1))) hb)) (aI (kB BK428 hb) (aI (kB BK438 hb) (aI (kB BK446 hb) (aI (kB BK454 hb) (aI (aM (blk_below (g := gb464) (o := .cells #[.slice Ao141 t458.length co141, .slice Ao147 t461.length co147] 30 (0, 0)) (by (with_reducible repeat (first | refine blk_drewN ?_ _ | refine blk_drew ?_ | refine blk_alloc ?_ _)); refine blk_put (cs := #[.slice Ao141 t458.length co141, .slice none 0 0]) ?_ 1 _ rfl; (with_reducible repeat (first | refine blk_drewN ?_ _ | refine blk_drew ?_ | refine blk_alloc ?_ _)); refine blk_put (cs := #[.slice none 0 0, .slice none 0 0]) ?_ 0 _ rfl; (with_reducible repeat (first | refine blk_drewN ?_ _ | refine blk_drew ?_ | refine blk_alloc ?_ _)); exact BK464.out) hb)) (sB HB hb)))))))))))))))); clear HO_7 HO_429000 HO_429001 HO_439000 HO_439001 HO_447000 HO_447001 HO_455000 HO_455001 HO460 HO463 BK428 BK438 BK446 BK454 BK464 HB; obtain ⟨HO_7, HO_429000, HO_429001, HO_439000, HO_439001, HO_447000, HO_447001, HO_455000, HO_455001, HO460, HO463, BK428, BK438, BK446, BK454, BK464, HB⟩ := n_; (try clear hb)))
           have n0_ := aM (Kd.R_drew HO_7.out)
           have n1_ := aM (Kd.R_drew HO_429000.out)
           have n2_ := aM (Kd.R_drew HO_429001.out)
           have n3_ := aM (Kd.R_drew HO_439000.out)
           have n4_ := aM (Kd.R_drew HO_439001.out)
           have n5_ := aM (Kd.R_drew HO_447000.out)
           have n6_ := aM (Kd.R_drew HO_447001.out)
           have n7_ := aM (Kd.R_drew HO_455000.out)
           have n8_ := aM (Kd.R_drew HO_455001.out)
           have n9_ := aM (Kd.R_drew HO460.out)
           have n10_ := aM (Kd.R_drew HO463.out)
           have n11_ := aM (blk_drew BK428.out)
           have n12_ := aM (blk_drew BK438.out)
           have n13_ := aM (blk_drew BK446.out)
           have n14_ := aM (blk_drew BK454.out)
           have n15_ := aM (blk_drew BK464.out)
           have n16_ := aM (below_drew1 HB.out)
           clear HO_7
           clear HO_429000
           clear HO_429001
           clear HO_439000
           clear HO_439001
           clear HO_447000
           clear HO_447001
           clear HO_455000
           clear HO_455001
           clear HO460
           clear HO463
           clear BK428
           clear BK438
           clear BK446
           clear BK454
           clear BK464
           clear HB
           have HO_7 := n0_
           have HO_429000 := n1_
           have HO_429001 := n2_
           have HO_439000 := n3_
           have HO_439001 := n4_
           have HO_447000 := n5_
           have HO_447001 := n6_
           have HO_455000 := n7_
           have HO_455001 := n8_
           have HO460 := n9_
           have HO463 := n10_
           have BK428 := n11_
           have BK438 := n12_
           have BK446 := n13_
           have BK454 := n14_
           have BK464 := n15_
           have HB := n16_
           clear n0_ n1_ n2_ n3_ n4_ n5_ n6_ n7_ n8_ n9_ n10_ n11_ n12_ n13_ n14_ n15_ n16_
           refine start_ (n := 34) (S := fun w' => True) (ds := []) #[tF, tF, tF, tF, tF, tF, tF, tF, tF, tF, tF, tF, tF, tF, tF, tF, tF, tF, tF, tF, tF, tF, tF, tF, tF, tF, tF, tF, tF, tF, tF, tF, tF, tF] (by kernel_rfl) rfl rfl trivial (fun hHeld => ?_); refine with_tabW laws_FnFlushed.tab14 laws_FnFlushed.bits14 (fun HT_ HW_ => ?_)
           generalize w148.drew = w149 at HO_7 HO_429000 HO_429001 HO_439000 HO_439001 HO_447000 HO_447001 HO_455000 HO_455001 HO460 HO463 BK428 BK438 BK446 BK454 BK464 HB hHeld ⊢
           refine pY 0 66 #[tT, tF, tF, tF, tF, tF, tF, tF, tF, tF, tF, tF, tF, tF, tF, tF, tF, tF, tF, tF, tF, tF, tF, tF, tF, tF, tF, tF, tF, tF, tF, tF, tF, tF] ?_
           refine pY 1 67 #[tT, tT, tF, tF, tF, tF, tF, tF, tF, tF, tF, tF, tF, tF, tF, tF, tF, tF, tF, tF, tF, tF, tF, tF, tF, tF, tF, tF, tF, tF, tF, tF, tF, tF] ?_
           refine pY 2 68 #[tT, tT, tT, tF, tF, tF, tF, tF, tF, tF, tF, tF, tF, tF, tF, tF, tF, tF, tF, tF, tF, tF, tF, tF, tF, tF, tF, tF, tF, tF, tF, tF, tF, tF] ?_
           refine pY 3 69 #[tT, tT, tT, tT, tF, tF, tF, tF, tF, tF, tF, tF, tF, tF, tF, tF, tF, tF, tF, tF, tF, tF, tF, tF, tF, tF, tF, tF, tF, tF, tF, tF, tF, tF] ?_
           refine pY 4 70 #[tT, tT, tT, tT, tT, tF, tF, tF, tF, tF, tF, tF, tF, tF, tF, tF, tF, tF, tF, tF, tF, tF, tF, tF, tF, tF, tF, tF, tF, tF, tF, tF, tF, tF] ?_
           refine pY 5 71 #[tT, tT, tT, tT, tT, tT, tF, tF, tF, tF, tF, tF, tF, tF, tF, tF, tF, tF, tF, tF, tF, tF, tF, tF, tF, tF, tF, tF, tF, tF, tF, tF, tF, tF] ?_
           refine pY 6 72 #[tT, tT, tT, tT, tT, tT, tT, tF, tF, tF, tF, tF, tF, tF, tF, tF, tF, tF, tF, tF, tF, tF, tF, tF, tF, tF, tF, tF, tF, tF, tF, tF, tF, tF] ?_
           refine pY 7 73 #[tT, tT, tT, tT, tT, tT, tT, tT, tF, tF, tF, tF, tF, tF, tF, tF, tF, tF, tF, tF, tF, tF, tF, tF, tF, tF, tF, tF, tF, tF, tF, tF, tF, tF] ?_
           refine pY 8 74 #[tT, tT, tT, tT, tT, tT, tT, tT, tT, tF, tF, tF, tF, tF, tF, tF, tF, tF, tF, tF, tF, tF, tF, tF, tF, tF, tF, tF, tF, tF, tF, tF, tF, tF] ?_
           refine pY 9 75 #[tT, tT, tT, tT, tT, tT, tT, tT, tT, tT, tF, tF, tF, tF, tF, tF, tF, tF, tF, tF, tF, tF, tF, tF, tF, tF, tF, tF, tF, tF, tF, tF, tF, tF] ?_
           refine pY 10 76 #[tT, tT, tT, tT, tT, tT, tT, tT, tT, tT, tT, tF, tF, tF, tF, tF, tF, tF, tF, tF, tF, tF, tF, tF, tF, tF, tF, tF, tF, tF, tF, tF, tF, tF] ?_
           refine pY 11 77 #[tT, tT, tT, tT, tT, tT, tT, tT, tT, tT, tT, tT, tF, tF, tF, tF, tF, tF, tF, tF, tF, tF, tF, tF, tF, tF, tF, tF, tF, tF, tF, tF, tF, tF] ?_
           refine pY 12 78 #[tT, tT, tT, tT, tT, tT, tT, tT, tT, tT, tT, tT, tT, tF, tF, tF, tF, tF, tF, tF, tF, tF, tF, tF, tF, tF, tF, tF, tF, tF, tF, tF, tF, tF] ?_
           refine pY 13 79 #[tT, tT, tT, tT, tT, tT, tT, tT, tT, tT, tT, tT, tT, tT, tF, tF, tF, tF, tF, tF, tF, tF, tF, tF, tF, tF, tF, tF, tF, tF, tF, tF, tF, tF] ?_
           refine pY 14 80 #[tT, tT, tT, tT, tT, tT, tT, tT, tT, tT, tT, tT, tT, tT, tT, tF, tF, tF, tF, tF, tF, tF, tF, tF, tF, tF, tF, tF, tF, tF, tF, tF, tF, tF] ?_
           refine pU 15 81 #[tT, tT, tT, tT, tT, tT, tT, tT, tT, tT, tT, tT, tT, tT, tT, tT, tF, tF, tF, tF, tF, tF, tF, tF, tF, tF, tF, tF, tF, tF, tF, tF, tF, tF] ?_
           refine pU 16 82 #[tT, tT, tT, tT, tT, tT, tT, tT, tT, tT, tT, tT, tT, tT, tT, tT, tT, tF, tF, tF, tF, tF, tF, tF, tF, tF, tF, tF, tF, tF, tF, tF, tF, tF] ?_
           refine pU 17 83 #[tT, tT, tT, tT, tT, tT, tT, tT, tT, tT, tT, tT, tT, tT, tT, tT, tT, tT, tF, tF, tF, tF, tF, tF, tF, tF, tF, tF, tF, tF, tF, tF, tF, tF] ?_
           refine pU 18 84 #[tT, tT, tT, tT, tT, tT, tT, tT, tT, tT, tT, tT, tT, tT, tT, tT, tT, tT, tT, tF, tF, tF, tF, tF, tF, tF, tF, tF, tF, tF, tF, tF, tF, tF] ?_
           refine pU 19 85 #[tT, tT, tT, tT, tT, tT, tT, tT, tT, tT, tT, tT, tT, tT, tT, tT, tT, tT, tT, tT, tF, tF, tF, tF, tF, tF, tF, tF, tF, tF, tF, tF, tF, tF] ?_
           refine pY 20 86 #[tT, tT, tT, tT, tT, tT, tT, tT, tT, tT, tT, tT, tT, tT, tT, tT, tT, tT, tT, tT, tT, tF, tF, tF, tF, tF, tF, tF, tF, tF, tF, tF, tF, tF] ?_
           refine pY 21 87 #[tT, tT, tT, tT, tT, tT, tT, tT, tT, tT, tT, tT, tT, tT, tT, tT, tT, tT, tT, tT, tT, tT, tF, tF, tF, tF, tF, tF, tF, tF, tF, tF, tF, tF] ?_
           refine pU 22 88 #[tT, tT, tT, tT, tT, tT, tT, tT, tT, tT, tT, tT, tT, tT, tT, tT, tT, tT, tT, tT, tT, tT, tT, tF, tF, tF, tF, tF, tF, tF, tF, tF, tF, tF] ?_
           refine pU 23 89 #[tT, tT, tT, tT, tT, tT, tT, tT, tT, tT, tT, tT, tT, tT, tT, tT, tT, tT, tT, tT, tT, tT, tT, tT, tF, tF, tF, tF, tF, tF, tF, tF, tF, tF] ?_
           refine pU 24 90 #[tT, tT, tT, tT, tT, tT, tT, tT, tT, tT, tT, tT, tT, tT, tT, tT, tT, tT, tT, tT, tT, tT, tT, tT, tT, tF, tF, tF, tF, tF, tF, tF, tF, tF] ?_
           refine pU 25 91 #[tT, tT, tT, tT, tT, tT, tT, tT, tT, tT, tT, tT, tT, tT, tT, tT, tT, tT, tT, tT, tT, tT, tT, tT, tT, tT, tF, tF, tF, tF, tF, tF, tF, tF] ?_
           refine pY 26 92 #[tT, tT, tT, tT, tT, tT, tT, tT, tT, tT, tT, tT, tT, tT, tT, tT, tT, tT, tT, tT, tT, tT, tT, tT, tT, tT, tT, tF, tF, tF, tF, tF, tF, tF] ?_
           refine pY 27 93 #[tT, tT, tT, tT, tT, tT, tT, tT, tT, tT, tT, tT, tT, tT, tT, tT, tT, tT, tT, tT, tT, tT, tT, tT, tT, tT, tT, tT, tF, tF, tF, tF, tF, tF] ?_
           refine pU 28 94 #[tT, tT, tT, tT, tT, tT, tT, tT, tT, tT, tT, tT, tT, tT, tT, tT, tT, tT, tT, tT, tT, tT, tT, tT, tT, tT, tT, tT, tT, tF, tF, tF, tF, tF] ?_
           refine pU 29 95 #[tT, tT, tT, tT, tT, tT, tT, tT, tT, tT, tT, tT, tT, tT, tT, tT, tT, tT, tT, tT, tT, tT, tT, tT, tT, tT, tT, tT, tT, tT, tF, tF, tF, tF] ?_
           refine pU 30 96 #[tT, tT, tT, tT, tT, tT, tT, tT, tT, tT, tT, tT, tT, tT, tT, tT, tT, tT, tT, tT, tT, tT, tT, tT, tT, tT, tT, tT, tT, tT, tT, tF, tF, tF] ?_
           refine pU 31 97 #[tT, tT, tT, tT, tT, tT, tT, tT, tT, tT, tT, tT, tT, tT, tT, tT, tT, tT, tT, tT, tT, tT, tT, tT, tT, tT, tT, tT, tT, tT, tT, tT, tF, tF] ?_
           refine pY 32 98 #[tT, tT, tT, tT, tT, tT, tT, tT, tT, tT, tT, tT, tT, tT, tT, tT, tT, tT, tT, tT, tT, tT, tT, tT, tT, tT, tT, tT, tT, tT, tT, tT, tT, tF] ?_
           refine pY 33 2 #[tT, tT, tT, tT, tT, tT, tT, tT, tT, tT, tT, tT, tT, tT, tT, tT, tT, tT, tT, tT, tT, tT, tT, tT, tT, tT, tT, tT, tT, tT, tT, tT, tT, tT] ?_
           refine done_ (done_of HT_.out (by kernel_rfl)) ?_
           try go_wp2
           go_ret
           exact ⟨eW, bB⟩
         ·rw [if_neg c55] at H
          have c55b0 : (t456.toList == t427.toList) = false := beq_eq_false_iff_ne.mpr c55
          have c55b1 : (t456.toList != t427.toList) = true := bne_iff_ne.mpr c55
          obtain rfl := Option.some.inj H
          have hnb150 := NB446_428.out
          have hnc150 := NB428_446.out
          have hnb151 := NB446_438.out
          have hnc151 := NB438_446.out
          have hnb152 := NB446_454.out
          have hnc152 := NB454_446.out
          have hcz153_0 := cZ0 BK446
          have hcz153_1 := cZ1 BK446
          have hfz153_0 := blk_frozen BK446.out 0
          have hfz153_1 := blk_frozen BK446.out 1
          try go_wp2_with (first | ((with_reducible refine gate_callee (f := 21) rfl ?_); refine gL (some 55) Try.func21 #[.agg #[.slice Ao24 t439.length co24, .slice Ao28 t442.length co28], .int .i64 t426] ?_; (with_reducible refine (impl_SectorRead.calls kj38 _ _ t439 _ _ t442 t426 t456 true _ ?side1 ?side2 ?side3 ?side4 A50.out).mono ?_); (case side1 => exact cR HO_447000); (case side2 => exact (Kd.R_reads' HO_447000.out).2.1); (case side3 => exact cR HO_447001); (case side4 => exact (Kd.R_reads' HO_447001.out).2.1); rintro e w154 ⟨rfl, hb⟩; refine ⟨_, rfl, ?_⟩; have n_ := aI (rB HO_7 hb) (aI (rB HO_429000 hb) (aI (rB HO_429001 hb) (aI (rB HO_439000 hb) (aI (rB HO_439001 hb) (aI (rB HO_447000 hb) (aI (rB HO_447001 hb) (aI (rB HO_455000 hb) (aI (rB HO_455001 hb) (aI (kB BK428 hb) (aI (kB BK438 hb) (aI (kB BK446 hb) (aI (kB BK454 hb) (sB HB hb))))))))))))); clear HO_7 HO_429000 HO_429001 HO_439000 HO_439001 HO_447000 HO_447001 HO_455000 HO_455001 BK428 BK438 BK446 BK454 HB; obtain ⟨HO_7, HO_429000, HO_429001, HO_439000, HO_439001, HO_447000, HO_447001, HO_455000, HO_455001, BK428, BK438, BK446, BK454, HB⟩ := n_; (try clear hb); have hcz155_0 := cZ0 BK446; have hcz155_1 := cZ1 BK446; have hfz155_0 := blk_frozen BK446.out 0; have hfz155_1 := blk_frozen BK446.out 1) | ((with_reducible refine gate_callee (f := 32) rfl ?_); refine gL (some 59) Try.func32 #[.agg #[.slice Ao24 t439.length co24, .slice Ao28 t442.length co28]] ?_; (with_reducible refine (impl_Flush.calls kj38 _ _ t439 _ _ t442 t458 t461 _ ?side1 ?side2 ?side3 ?side4 A51.out).mono ?_); (case side1 => exact cR HO_447000); (case side2 => exact (Kd.R_reads' HO_447000.out).2.1); (case side3 => exact cR HO_447001); (case side4 => exact (Kd.R_reads' HO_447001.out).2.1); rintro e w156 ⟨v459, v462, rfl, ho0, ho1, hb⟩; refine ⟨_, rfl, ?_⟩; have n_ := aI (rB HO_7 hb) (aI (eR HO_429000 ho0 hb) (aI (eR HO_429001 ho1 hb) (aI (eR HO_439000 ho0 hb) (aI (eR HO_439001 ho1 hb) (aI (eR HO_447000 ho0 hb) (aI (eR HO_447001 ho1 hb) (aI (eR HO_455000 ho0 hb) (aI (eR HO_455001 ho1 hb) (aI (aM (Kd.R_lower (Kd.R_new' (Kd.R_new' (Kd.R_new' (Kd.R_new' ho0 (rL HO_429000)) (rL HO_439000)) (rL HO_447000)) (rL HO_455000)) (zB HB))) (aI (aM (Kd.R_lower (Kd.R_new' (Kd.R_new' (Kd.R_new' (Kd.R_new' ho1 (rL HO_429001)) (rL HO_439001)) (rL HO_447001)) (rL HO_455001)) (zB HB))) (aI (kB BK428 hb) (aI (kB BK438 hb) (aI (kB BK446 hb) (aI (kB BK454 hb) (sB HB hb))))))))))))))); clear HO_7 HO_429000 HO_429001 HO_439000 HO_439001 HO_447000 HO_447001 HO_455000 HO_455001 BK428 BK438 BK446 BK454 HB; obtain ⟨HO_7, HO_429000, HO_429001, HO_439000, HO_439001, HO_447000, HO_447001, HO_455000, HO_455001, HO460, HO463, BK428, BK438, BK446, BK454, HB⟩ := n_; (try clear hb ho0 ho1)) | ((with_reducible refine gate_dst (N := 14) rfl ?_); (try (refine gate_guard (by rfl) ?_; dsimp only)); refine box_event ?hg (N := 14) ?hd (cs := #[.slice none 0 0, .slice none 0 0]) (t := 30) ?hr ?_; (case hd => rfl); (case hg => rfl); (case hr => first | (go_simp; done) | (go_simp; rfl)); intro gb464 hg w157 hbox hb; have n_ := aI (rB HO_7 hb) (aI (rB HO_429000 hb) (aI (rB HO_429001 hb) (aI (rB HO_439000 hb) (aI (rB HO_439001 hb) (aI (rB HO_447000 hb) (aI (rB HO_447001 hb) (aI (rB HO_455000 hb) (aI (rB HO_455001 hb) (aI (rB HO460 hb) (aI (rB HO463 hb) (aI (kB BK428 hb) (aI (kB BK438 hb) (aI (kB BK446 hb) (aI (kB BK454 hb) (aI (sB HB hb) (aI (aM hbox) (aI (gE HB hg) (aI (gE HB hg) (aI (nL BK428 hg) (aI (nG BK428 hg) (aI (nL BK438 hg) (aI (nG BK438 hg) (aI (nL BK446 hg) (aI (nG BK446 hg) (aI (nL BK454 hg) (nG BK454 hg)))))))))))))))))))))))))); clear HO_7 HO_429000 HO_429001 HO_439000 HO_439001 HO_447000 HO_447001 HO_455000 HO_455001 HO460 HO463 BK428 BK438 BK446 BK454 HB; obtain ⟨HO_7, HO_429000, HO_429001, HO_439000, HO_439001, HO_447000, HO_447001, HO_455000, HO_455001, HO460, HO463, BK428, BK438, BK446, BK454, HB, BK464, GW464, GE464, NB428_464, NB464_428, NB438_464, NB464_438, NB446_464, NB464_446, NB454_464, NB464_454⟩ := n_; (try clear hb hbox hg); obtain ⟨Ao158, co158, eo158⟩ := Kd.R_slice HO460.out; subst eo158; have hnb159 := NB464_428.out; have hnc159 := NB428_464.out; have hnb160 := NB464_438.out; have hnc160 := NB438_464.out; have hnb161 := NB464_446.out; have hnc161 := NB446_464.out; have hnb162 := NB464_454.out; have hnc162 := NB454_464.out; have hcz163_0 := cZ0 BK464; have hcz163_1 := cZ1 BK464; have hfz163_0 := blk_frozen BK464.out 0; have hfz163_1 := blk_frozen BK464.out 1; obtain ⟨Ao164, co164, eo164⟩ := Kd.R_slice HO463.out; subst eo164) | ((with_reducible refine gate_callee (f := 21) rfl ?_); refine gL (some 63) Try.func21 #[.agg #[.slice Ao158 t458.length co158, .slice Ao164 t461.length co164], .int .i64 t426] ?_; (with_reducible refine (impl_SectorRead.calls kj38 _ _ t458 _ _ t461 t426 t465 true _ ?side1 ?side2 ?side3 ?side4 A52.out).mono ?_); (case side1 => refine (Kd.R_reads' (e := 9) (base := w.heap.size) (ok := fun k_ => ((((True ∧ some k_ ≠ (.slice Ao12 t420.length co12 : Value).ownBlock) ∧ some k_ ≠ (.slice Ao17 t429.length co17 : Value).ownBlock) ∧ some k_ ≠ (.slice Ao24 t439.length co24 : Value).ownBlock) ∧ some k_ ≠ (.slice Ao32 t447.length co32 : Value).ownBlock)) (n := t458.length) (c := co158) ?_).2.2; exact (rP (Kd.R_mono (Kd.R_far (p := ⟨gb464, 1, none⟩) (Kd.R_far (p := ⟨gb464, 0, none⟩) (Kd.R_types HO460.out BK464.out (by decide)) (fun _ hk => hk.2) (.slice Ao158 t458.length co158)) (fun _ hk => hk.2) (.slice Ao164 t461.length co164)) (fun _ h_ => h_.1)))); (case side2 => exact (Kd.R_reads' HO460.out).2.1); (case side3 => refine (Kd.R_reads' (e := 65) (base := w.heap.size) (ok := fun k_ => ((((True ∧ some k_ ≠ (.slice Ao14 t423.length co14 : Value).ownBlock) ∧ some k_ ≠ (.slice Ao20 t432.length co20 : Value).ownBlock) ∧ some k_ ≠ (.slice Ao28 t442.length co28 : Value).ownBlock) ∧ some k_ ≠ (.slice Ao37 t450.length co37 : Value).ownBlock)) (n := t461.length) (c := co164) ?_).2.2; exact (rP (Kd.R_mono (Kd.R_far (p := ⟨gb464, 1, none⟩) (Kd.R_far (p := ⟨gb464, 0, none⟩) (Kd.R_types HO463.out BK464.out (by decide)) (fun _ hk => hk.2) (.slice Ao158 t458.length co158)) (fun _ hk => hk.2) (.slice Ao164 t461.length co164)) (fun _ h_ => h_.1)))); (case side4 => exact (Kd.R_reads' HO463.out).2.1); rintro e w165 ⟨rfl, hb⟩; refine ⟨_, rfl, ?_⟩; have n_ := aI (aM (Kd.R_below (rP (Kd.R_mono (Kd.R_far (p := ⟨gb464, 1, none⟩) (Kd.R_far (p := ⟨gb464, 0, none⟩) (Kd.R_types HO_7.out BK464.out (by decide)) (fun _ hk => hk.2) (.slice Ao158 t458.length co158)) (fun _ hk => hk.2) (.slice Ao164 t461.length co164)) (fun _ h_ => h_.1))) hb)) (aI (aM (Kd.R_below (rP (Kd.R_mono (Kd.R_far (p := ⟨gb464, 1, none⟩) (Kd.R_far (p := ⟨gb464, 0, none⟩) (Kd.R_types HO_429000.out BK464.out (by decide)) (fun _ hk => hk.2) (.slice Ao158 t458.length co158)) (fun _ hk => hk.2) (.slice Ao164 t461.length co164)) (fun _ h_ => h_.1))) hb)) (aI (aM (Kd.R_below (rP (Kd.R_mono (Kd.R_far (p := ⟨gb464, 1, none⟩) (Kd.R_far (p := ⟨gb464, 0, none⟩) (Kd.R_types HO_429001.out BK464.out (by decide)) (fun _ hk => hk.2) (.slice Ao158 t458.length co158)) (fun _ hk => hk.2) (.slice Ao164 t461.length co164)) (fun _ h_ => h_.1))) hb)) (aI (aM (Kd.R_below (rP (Kd.R_mono (Kd.R_far (p := ⟨gb464, 1, none⟩) (Kd.R_far (p := ⟨gb464, 0, none⟩) (Kd.R_types HO_439000.out BK464.out (by decide)) (fun _ hk => hk.2) (.slice Ao158 t458.length co158)) (fun _ hk => hk.2) (.slice Ao164 t461.length co164)) (fun _ h_ => h_.1))) hb)) (aI (aM (Kd.R_below (rP (Kd.R_mono (Kd.R_far (p := ⟨gb464, 1, none⟩) (Kd.R_far (p := ⟨gb464, 0, none⟩) (Kd.R_types HO_439001.out BK464.out (by decide)) (fun _ hk => hk.2) (.slice Ao158 t458.length co158)) (fun _ hk => hk.2) (.slice Ao164 t461.length co164)) (fun _ h_ => h_.1))) hb)) (aI (aM (Kd.R_below (rP (Kd.R_mono (Kd.R_far (p := ⟨gb464, 1, none⟩) (Kd.R_far (p := ⟨gb464, 0, none⟩) (Kd.R_types HO_447000.out BK464.out (by decide)) (fun _ hk => hk.2) (.slice Ao158 t458.length co158)) (fun _ hk => hk.2) (.slice Ao164 t461.length co164)) (fun _ h_ => h_.1))) hb)) (aI (aM (Kd.R_below (rP (Kd.R_mono (Kd.R_far (p := ⟨gb464, 1, none⟩) (Kd.R_far (p := ⟨gb464, 0, none⟩) (Kd.R_types HO_447001.out BK464.out (by decide)) (fun _ hk => hk.2) (.slice Ao158 t458.length co158)) (fun _ hk => hk.2) (.slice Ao164 t461.length co164)) (fun _ h_ => h_.1))) hb)) (aI (aM (Kd.R_below (rP (Kd.R_mono (Kd.R_far (p := ⟨gb464, 1, none⟩) (Kd.R_far (p := ⟨gb464, 0, none⟩) (Kd.R_types HO_455000.out BK464.out (by decide)) (fun _ hk => hk.2) (.slice Ao158 t458.length co158)) (fun _ hk => hk.2) (.slice Ao164 t461.length co164)) (fun _ h_ => h_.1))) hb)) (aI (aM (Kd.R_below (rP (Kd.R_mono (Kd.R_far (p := ⟨gb464, 1, none⟩) (Kd.R_far (p := ⟨gb464, 0, none⟩) (Kd.R_types HO_455001.out BK464.out (by decide)) (fun _ hk => hk.2) (.slice Ao158 t458.length co158)) (fun _ hk => hk.2) (.slice Ao164 t461.length co164)) (fun _ h_ => h_.1))) hb)) (aI (aM (Kd.R_below (rP (Kd.R_mono (Kd.R_far (p := ⟨gb464, 1, none⟩) (Kd.R_far (p := ⟨gb464, 0, none⟩) (Kd.R_types HO460.out BK464.out (by decide)) (fun _ hk => hk.2) (.slice Ao158 t458.length co158)) (fun _ hk => hk.2) (.slice Ao164 t461.length co164)) (fun _ h_ => h_.1))) hb)) (aI (aM (Kd.R_below (rP (Kd.R_mono (Kd.R_far (p := ⟨gb464, 1, none⟩) (Kd.R_far (p := ⟨gb464, 0, none⟩) (Kd.R_types HO463.out BK464.out (by decide)) (fun _ hk => hk.2) (.slice Ao158 t458.length co158)) (fun _ hk => hk.2) (.slice Ao164 t461.length co164)) (fun _ h_ => h_.1))) hb)) (aI (kB BK428 hb) (aI (kB BK438 hb) (aI (kB BK446 hb) (aI (kB BK454 hb) (aI (aM (blk_below (g := gb464) (o := .cells #[.slice Ao158 t458.length co158, .slice Ao164 t461.length co164] 30 (0, 0)) (by (with_reducible repeat (first | refine blk_drewN ?_ _ | refine blk_drew ?_ | refine blk_alloc ?_ _)); refine blk_put (cs := #[.slice Ao158 t458.length co158, .slice none 0 0]) ?_ 1 _ rfl; (with_reducible repeat (first | refine blk_drewN ?_ _ | refine blk_drew ?_ | refine blk_alloc ?_ _)); refine blk_put (cs := #[.slice none 0 0, .slice none 0 0]) ?_ 0 _ rfl; (with_reducible repeat (first | refine blk_drewN ?_ _ | refine blk_drew ?_ | refine blk_alloc ?_ _)); exact BK464.out) hb)) (sB HB hb)))))))))))))))); clear HO_7 HO_429000 HO_429001 HO_439000 HO_439001 HO_447000 HO_447001 HO_455000 HO_455001 HO460 HO463 BK428 BK438 BK446 BK454 BK464 HB; obtain ⟨HO_7, HO_429000, HO_429001, HO_439000, HO_439001, HO_447000, HO_447001, HO_455000, HO_455001, HO460, HO463, BK428, BK438, BK446, BK454, BK464, HB⟩ := n_; (try clear hb)))
          have n0_ := aM (Kd.R_drew HO_7.out)
          have n1_ := aM (Kd.R_drew HO_429000.out)
          have n2_ := aM (Kd.R_drew HO_429001.out)
          have n3_ := aM (Kd.R_drew HO_439000.out)
          have n4_ := aM (Kd.R_drew HO_439001.out)
          have n5_ := aM (Kd.R_drew HO_447000.out)
          have n6_ := aM (Kd.R_drew HO_447001.out)
          have n7_ := aM (Kd.R_drew HO_455000.out)
          have n8_ := aM (Kd.R_drew HO_455001.out)
          have n9_ := aM (Kd.R_drew HO460.out)
          have n10_ := aM (Kd.R_drew HO463.out)
          have n11_ := aM (blk_drew BK428.out)
          have n12_ := aM (blk_drew BK438.out)
          have n13_ := aM (blk_drew BK446.out)
          have n14_ := aM (blk_drew BK454.out)
          have n15_ := aM (blk_drew BK464.out)
          have n16_ := aM (below_drew1 HB.out)
          clear HO_7
          clear HO_429000
          clear HO_429001
          clear HO_439000
          clear HO_439001
          clear HO_447000
          clear HO_447001
          clear HO_455000
          clear HO_455001
          clear HO460
          clear HO463
          clear BK428
          clear BK438
          clear BK446
          clear BK454
          clear BK464
          clear HB
          have HO_7 := n0_
          have HO_429000 := n1_
          have HO_429001 := n2_
          have HO_439000 := n3_
          have HO_439001 := n4_
          have HO_447000 := n5_
          have HO_447001 := n6_
          have HO_455000 := n7_
          have HO_455001 := n8_
          have HO460 := n9_
          have HO463 := n10_
          have BK428 := n11_
          have BK438 := n12_
          have BK446 := n13_
          have BK454 := n14_
          have BK464 := n15_
          have HB := n16_
          clear n0_ n1_ n2_ n3_ n4_ n5_ n6_ n7_ n8_ n9_ n10_ n11_ n12_ n13_ n14_ n15_ n16_
          refine start_ (n := 34) (S := fun w' => True) (ds := []) #[tF, tF, tF, tF, tF, tF, tF, tF, tF, tF, tF, tF, tF, tF, tF, tF, tF, tF, tF, tF, tF, tF, tF, tF, tF, tF, tF, tF, tF, tF, tF, tF, tF, tF] (by kernel_rfl) rfl rfl trivial (fun hHeld => ?_); refine with_tabW laws_FnFlushed.tab14 laws_FnFlushed.bits14 (fun HT_ HW_ => ?_)
          generalize w165.drew = w166 at HO_7 HO_429000 HO_429001 HO_439000 HO_439001 HO_447000 HO_447001 HO_455000 HO_455001 HO460 HO463 BK428 BK438 BK446 BK454 BK464 HB hHeld ⊢
          refine pY 0 66 #[tT, tF, tF, tF, tF, tF, tF, tF, tF, tF, tF, tF, tF, tF, tF, tF, tF, tF, tF, tF, tF, tF, tF, tF, tF, tF, tF, tF, tF, tF, tF, tF, tF, tF] ?_
          refine pY 1 67 #[tT, tT, tF, tF, tF, tF, tF, tF, tF, tF, tF, tF, tF, tF, tF, tF, tF, tF, tF, tF, tF, tF, tF, tF, tF, tF, tF, tF, tF, tF, tF, tF, tF, tF] ?_
          refine pY 2 68 #[tT, tT, tT, tF, tF, tF, tF, tF, tF, tF, tF, tF, tF, tF, tF, tF, tF, tF, tF, tF, tF, tF, tF, tF, tF, tF, tF, tF, tF, tF, tF, tF, tF, tF] ?_
          refine pY 3 69 #[tT, tT, tT, tT, tF, tF, tF, tF, tF, tF, tF, tF, tF, tF, tF, tF, tF, tF, tF, tF, tF, tF, tF, tF, tF, tF, tF, tF, tF, tF, tF, tF, tF, tF] ?_
          refine pY 4 70 #[tT, tT, tT, tT, tT, tF, tF, tF, tF, tF, tF, tF, tF, tF, tF, tF, tF, tF, tF, tF, tF, tF, tF, tF, tF, tF, tF, tF, tF, tF, tF, tF, tF, tF] ?_
          refine pY 5 71 #[tT, tT, tT, tT, tT, tT, tF, tF, tF, tF, tF, tF, tF, tF, tF, tF, tF, tF, tF, tF, tF, tF, tF, tF, tF, tF, tF, tF, tF, tF, tF, tF, tF, tF] ?_
          refine pY 6 72 #[tT, tT, tT, tT, tT, tT, tT, tF, tF, tF, tF, tF, tF, tF, tF, tF, tF, tF, tF, tF, tF, tF, tF, tF, tF, tF, tF, tF, tF, tF, tF, tF, tF, tF] ?_
          refine pY 7 73 #[tT, tT, tT, tT, tT, tT, tT, tT, tF, tF, tF, tF, tF, tF, tF, tF, tF, tF, tF, tF, tF, tF, tF, tF, tF, tF, tF, tF, tF, tF, tF, tF, tF, tF] ?_
          refine pY 8 74 #[tT, tT, tT, tT, tT, tT, tT, tT, tT, tF, tF, tF, tF, tF, tF, tF, tF, tF, tF, tF, tF, tF, tF, tF, tF, tF, tF, tF, tF, tF, tF, tF, tF, tF] ?_
          refine pY 9 75 #[tT, tT, tT, tT, tT, tT, tT, tT, tT, tT, tF, tF, tF, tF, tF, tF, tF, tF, tF, tF, tF, tF, tF, tF, tF, tF, tF, tF, tF, tF, tF, tF, tF, tF] ?_
          refine pU 10 76 #[tT, tT, tT, tT, tT, tT, tT, tT, tT, tT, tT, tF, tF, tF, tF, tF, tF, tF, tF, tF, tF, tF, tF, tF, tF, tF, tF, tF, tF, tF, tF, tF, tF, tF] ?_
          refine pU 11 77 #[tT, tT, tT, tT, tT, tT, tT, tT, tT, tT, tT, tT, tF, tF, tF, tF, tF, tF, tF, tF, tF, tF, tF, tF, tF, tF, tF, tF, tF, tF, tF, tF, tF, tF] ?_
          refine pU 12 78 #[tT, tT, tT, tT, tT, tT, tT, tT, tT, tT, tT, tT, tT, tF, tF, tF, tF, tF, tF, tF, tF, tF, tF, tF, tF, tF, tF, tF, tF, tF, tF, tF, tF, tF] ?_
          refine pY 13 79 #[tT, tT, tT, tT, tT, tT, tT, tT, tT, tT, tT, tT, tT, tT, tF, tF, tF, tF, tF, tF, tF, tF, tF, tF, tF, tF, tF, tF, tF, tF, tF, tF, tF, tF] ?_
          refine pY 14 80 #[tT, tT, tT, tT, tT, tT, tT, tT, tT, tT, tT, tT, tT, tT, tT, tF, tF, tF, tF, tF, tF, tF, tF, tF, tF, tF, tF, tF, tF, tF, tF, tF, tF, tF] ?_
          refine pU 15 81 #[tT, tT, tT, tT, tT, tT, tT, tT, tT, tT, tT, tT, tT, tT, tT, tT, tF, tF, tF, tF, tF, tF, tF, tF, tF, tF, tF, tF, tF, tF, tF, tF, tF, tF] ?_
          refine pU 16 82 #[tT, tT, tT, tT, tT, tT, tT, tT, tT, tT, tT, tT, tT, tT, tT, tT, tT, tF, tF, tF, tF, tF, tF, tF, tF, tF, tF, tF, tF, tF, tF, tF, tF, tF] ?_
          refine pU 17 83 #[tT, tT, tT, tT, tT, tT, tT, tT, tT, tT, tT, tT, tT, tT, tT, tT, tT, tT, tF, tF, tF, tF, tF, tF, tF, tF, tF, tF, tF, tF, tF, tF, tF, tF] ?_
          refine pU 18 84 #[tT, tT, tT, tT, tT, tT, tT, tT, tT, tT, tT, tT, tT, tT, tT, tT, tT, tT, tT, tF, tF, tF, tF, tF, tF, tF, tF, tF, tF, tF, tF, tF, tF, tF] ?_
          refine pU 19 85 #[tT, tT, tT, tT, tT, tT, tT, tT, tT, tT, tT, tT, tT, tT, tT, tT, tT, tT, tT, tT, tF, tF, tF, tF, tF, tF, tF, tF, tF, tF, tF, tF, tF, tF] ?_
          refine pY 20 86 #[tT, tT, tT, tT, tT, tT, tT, tT, tT, tT, tT, tT, tT, tT, tT, tT, tT, tT, tT, tT, tT, tF, tF, tF, tF, tF, tF, tF, tF, tF, tF, tF, tF, tF] ?_
          refine pY 21 87 #[tT, tT, tT, tT, tT, tT, tT, tT, tT, tT, tT, tT, tT, tT, tT, tT, tT, tT, tT, tT, tT, tT, tF, tF, tF, tF, tF, tF, tF, tF, tF, tF, tF, tF] ?_
          refine pU 22 88 #[tT, tT, tT, tT, tT, tT, tT, tT, tT, tT, tT, tT, tT, tT, tT, tT, tT, tT, tT, tT, tT, tT, tT, tF, tF, tF, tF, tF, tF, tF, tF, tF, tF, tF] ?_
          refine pU 23 89 #[tT, tT, tT, tT, tT, tT, tT, tT, tT, tT, tT, tT, tT, tT, tT, tT, tT, tT, tT, tT, tT, tT, tT, tT, tF, tF, tF, tF, tF, tF, tF, tF, tF, tF] ?_
          refine pU 24 90 #[tT, tT, tT, tT, tT, tT, tT, tT, tT, tT, tT, tT, tT, tT, tT, tT, tT, tT, tT, tT, tT, tT, tT, tT, tT, tF, tF, tF, tF, tF, tF, tF, tF, tF] ?_
          refine pU 25 91 #[tT, tT, tT, tT, tT, tT, tT, tT, tT, tT, tT, tT, tT, tT, tT, tT, tT, tT, tT, tT, tT, tT, tT, tT, tT, tT, tF, tF, tF, tF, tF, tF, tF, tF] ?_
          refine pY 26 92 #[tT, tT, tT, tT, tT, tT, tT, tT, tT, tT, tT, tT, tT, tT, tT, tT, tT, tT, tT, tT, tT, tT, tT, tT, tT, tT, tT, tF, tF, tF, tF, tF, tF, tF] ?_
          refine pY 27 93 #[tT, tT, tT, tT, tT, tT, tT, tT, tT, tT, tT, tT, tT, tT, tT, tT, tT, tT, tT, tT, tT, tT, tT, tT, tT, tT, tT, tT, tF, tF, tF, tF, tF, tF] ?_
          refine pU 28 94 #[tT, tT, tT, tT, tT, tT, tT, tT, tT, tT, tT, tT, tT, tT, tT, tT, tT, tT, tT, tT, tT, tT, tT, tT, tT, tT, tT, tT, tT, tF, tF, tF, tF, tF] ?_
          refine pU 29 95 #[tT, tT, tT, tT, tT, tT, tT, tT, tT, tT, tT, tT, tT, tT, tT, tT, tT, tT, tT, tT, tT, tT, tT, tT, tT, tT, tT, tT, tT, tT, tF, tF, tF, tF] ?_
          refine pU 30 96 #[tT, tT, tT, tT, tT, tT, tT, tT, tT, tT, tT, tT, tT, tT, tT, tT, tT, tT, tT, tT, tT, tT, tT, tT, tT, tT, tT, tT, tT, tT, tT, tF, tF, tF] ?_
          refine pU 31 97 #[tT, tT, tT, tT, tT, tT, tT, tT, tT, tT, tT, tT, tT, tT, tT, tT, tT, tT, tT, tT, tT, tT, tT, tT, tT, tT, tT, tT, tT, tT, tT, tT, tF, tF] ?_
          refine pY 32 98 #[tT, tT, tT, tT, tT, tT, tT, tT, tT, tT, tT, tT, tT, tT, tT, tT, tT, tT, tT, tT, tT, tT, tT, tT, tT, tT, tT, tT, tT, tT, tT, tT, tT, tF] ?_
          refine pY 33 2 #[tT, tT, tT, tT, tT, tT, tT, tT, tT, tT, tT, tT, tT, tT, tT, tT, tT, tT, tT, tT, tT, tT, tT, tT, tT, tT, tT, tT, tT, tT, tT, tT, tT, tT] ?_
          refine done_ (done_of HT_.out (by kernel_rfl)) ?_
          try go_wp2
          go_ret
          exact ⟨eW, bB⟩
        ·replace c54 := Bool.eq_false_iff.mpr c54
         subst c54
         rw [if_neg (show ¬ (false = true) by decide)] at H
         obtain rfl := Option.some.inj H
         have hnb167 := NB446_428.out
         have hnc167 := NB428_446.out
         have hnb168 := NB446_438.out
         have hnc168 := NB438_446.out
         have hnb169 := NB446_454.out
         have hnc169 := NB454_446.out
         have hcz170_0 := cZ0 BK446
         have hcz170_1 := cZ1 BK446
         have hfz170_0 := blk_frozen BK446.out 0
         have hfz170_1 := blk_frozen BK446.out 1
         try go_wp2_with (first | ((with_reducible refine gate_callee (f := 21) rfl ?_); refine gL (some 55) Try.func21 #[.agg #[.slice Ao24 t439.length co24, .slice Ao28 t442.length co28], .int .i64 t426] ?_; (with_reducible refine (impl_SectorRead.calls kj38 _ _ t439 _ _ t442 t426 t456 true _ ?side1 ?side2 ?side3 ?side4 A50.out).mono ?_); (case side1 => exact cR HO_447000); (case side2 => exact (Kd.R_reads' HO_447000.out).2.1); (case side3 => exact cR HO_447001); (case side4 => exact (Kd.R_reads' HO_447001.out).2.1); rintro e w171 ⟨rfl, hb⟩; refine ⟨_, rfl, ?_⟩; have n_ := aI (rB HO_7 hb) (aI (rB HO_429000 hb) (aI (rB HO_429001 hb) (aI (rB HO_439000 hb) (aI (rB HO_439001 hb) (aI (rB HO_447000 hb) (aI (rB HO_447001 hb) (aI (rB HO_455000 hb) (aI (rB HO_455001 hb) (aI (kB BK428 hb) (aI (kB BK438 hb) (aI (kB BK446 hb) (aI (kB BK454 hb) (sB HB hb))))))))))))); clear HO_7 HO_429000 HO_429001 HO_439000 HO_439001 HO_447000 HO_447001 HO_455000 HO_455001 BK428 BK438 BK446 BK454 HB; obtain ⟨HO_7, HO_429000, HO_429001, HO_439000, HO_439001, HO_447000, HO_447001, HO_455000, HO_455001, BK428, BK438, BK446, BK454, HB⟩ := n_; (try clear hb); have hcz172_0 := cZ0 BK446; have hcz172_1 := cZ1 BK446; have hfz172_0 := blk_frozen BK446.out 0; have hfz172_1 := blk_frozen BK446.out 1) | ((with_reducible refine gate_callee (f := 32) rfl ?_); refine gL (some 59) Try.func32 #[.agg #[.slice Ao24 t439.length co24, .slice Ao28 t442.length co28]] ?_; (with_reducible refine (impl_Flush.calls kj38 _ _ t439 _ _ t442 t458 t461 _ ?side1 ?side2 ?side3 ?side4 A51.out).mono ?_); (case side1 => exact cR HO_447000); (case side2 => exact (Kd.R_reads' HO_447000.out).2.1); (case side3 => exact cR HO_447001); (case side4 => exact (Kd.R_reads' HO_447001.out).2.1); rintro e w173 ⟨v459, v462, rfl, ho0, ho1, hb⟩; refine ⟨_, rfl, ?_⟩; have n_ := aI (rB HO_7 hb) (aI (eR HO_429000 ho0 hb) (aI (eR HO_429001 ho1 hb) (aI (eR HO_439000 ho0 hb) (aI (eR HO_439001 ho1 hb) (aI (eR HO_447000 ho0 hb) (aI (eR HO_447001 ho1 hb) (aI (eR HO_455000 ho0 hb) (aI (eR HO_455001 ho1 hb) (aI (aM (Kd.R_lower (Kd.R_new' (Kd.R_new' (Kd.R_new' (Kd.R_new' ho0 (rL HO_429000)) (rL HO_439000)) (rL HO_447000)) (rL HO_455000)) (zB HB))) (aI (aM (Kd.R_lower (Kd.R_new' (Kd.R_new' (Kd.R_new' (Kd.R_new' ho1 (rL HO_429001)) (rL HO_439001)) (rL HO_447001)) (rL HO_455001)) (zB HB))) (aI (kB BK428 hb) (aI (kB BK438 hb) (aI (kB BK446 hb) (aI (kB BK454 hb) (sB HB hb))))))))))))))); clear HO_7 HO_429000 HO_429001 HO_439000 HO_439001 HO_447000 HO_447001 HO_455000 HO_455001 BK428 BK438 BK446 BK454 HB; obtain ⟨HO_7, HO_429000, HO_429001, HO_439000, HO_439001, HO_447000, HO_447001, HO_455000, HO_455001, HO460, HO463, BK428, BK438, BK446, BK454, HB⟩ := n_; (try clear hb ho0 ho1)) | ((with_reducible refine gate_dst (N := 14) rfl ?_); (try (refine gate_guard (by rfl) ?_; dsimp only)); refine box_event ?hg (N := 14) ?hd (cs := #[.slice none 0 0, .slice none 0 0]) (t := 30) ?hr ?_; (case hd => rfl); (case hg => rfl); (case hr => first | (go_simp; done) | (go_simp; rfl)); intro gb464 hg w174 hbox hb; have n_ := aI (rB HO_7 hb) (aI (rB HO_429000 hb) (aI (rB HO_429001 hb) (aI (rB HO_439000 hb) (aI (rB HO_439001 hb) (aI (rB HO_447000 hb) (aI (rB HO_447001 hb) (aI (rB HO_455000 hb) (aI (rB HO_455001 hb) (aI (rB HO460 hb) (aI (rB HO463 hb) (aI (kB BK428 hb) (aI (kB BK438 hb) (aI (kB BK446 hb) (aI (kB BK454 hb) (aI (sB HB hb) (aI (aM hbox) (aI (gE HB hg) (aI (gE HB hg) (aI (nL BK428 hg) (aI (nG BK428 hg) (aI (nL BK438 hg) (aI (nG BK438 hg) (aI (nL BK446 hg) (aI (nG BK446 hg) (aI (nL BK454 hg) (nG BK454 hg)))))))))))))))))))))))))); clear HO_7 HO_429000 HO_429001 HO_439000 HO_439001 HO_447000 HO_447001 HO_455000 HO_455001 HO460 HO463 BK428 BK438 BK446 BK454 HB; obtain ⟨HO_7, HO_429000, HO_429001, HO_439000, HO_439001, HO_447000, HO_447001, HO_455000, HO_455001, HO460, HO463, BK428, BK438, BK446, BK454, HB, BK464, GW464, GE464, NB428_464, NB464_428, NB438_464, NB464_438, NB446_464, NB464_446, NB454_464, NB464_454⟩ := n_; (try clear hb hbox hg); obtain ⟨Ao175, co175, eo175⟩ := Kd.R_slice HO460.out; subst eo175; have hnb176 := NB464_428.out; have hnc176 := NB428_464.out; have hnb177 := NB464_438.out; have hnc177 := NB438_464.out; have hnb178 := NB464_446.out; have hnc178 := NB446_464.out; have hnb179 := NB464_454.out; have hnc179 := NB454_464.out; have hcz180_0 := cZ0 BK464; have hcz180_1 := cZ1 BK464; have hfz180_0 := blk_frozen BK464.out 0; have hfz180_1 := blk_frozen BK464.out 1; obtain ⟨Ao181, co181, eo181⟩ := Kd.R_slice HO463.out; subst eo181) | ((with_reducible refine gate_callee (f := 21) rfl ?_); refine gL (some 63) Try.func21 #[.agg #[.slice Ao175 t458.length co175, .slice Ao181 t461.length co181], .int .i64 t426] ?_; (with_reducible refine (impl_SectorRead.calls kj38 _ _ t458 _ _ t461 t426 t465 false _ ?side1 ?side2 ?side3 ?side4 A52.out).mono ?_); (case side1 => refine (Kd.R_reads' (e := 9) (base := w.heap.size) (ok := fun k_ => ((((True ∧ some k_ ≠ (.slice Ao12 t420.length co12 : Value).ownBlock) ∧ some k_ ≠ (.slice Ao17 t429.length co17 : Value).ownBlock) ∧ some k_ ≠ (.slice Ao24 t439.length co24 : Value).ownBlock) ∧ some k_ ≠ (.slice Ao32 t447.length co32 : Value).ownBlock)) (n := t458.length) (c := co175) ?_).2.2; exact (rP (Kd.R_mono (Kd.R_far (p := ⟨gb464, 1, none⟩) (Kd.R_far (p := ⟨gb464, 0, none⟩) (Kd.R_types HO460.out BK464.out (by decide)) (fun _ hk => hk.2) (.slice Ao175 t458.length co175)) (fun _ hk => hk.2) (.slice Ao181 t461.length co181)) (fun _ h_ => h_.1)))); (case side2 => exact (Kd.R_reads' HO460.out).2.1); (case side3 => refine (Kd.R_reads' (e := 65) (base := w.heap.size) (ok := fun k_ => ((((True ∧ some k_ ≠ (.slice Ao14 t423.length co14 : Value).ownBlock) ∧ some k_ ≠ (.slice Ao20 t432.length co20 : Value).ownBlock) ∧ some k_ ≠ (.slice Ao28 t442.length co28 : Value).ownBlock) ∧ some k_ ≠ (.slice Ao37 t450.length co37 : Value).ownBlock)) (n := t461.length) (c := co181) ?_).2.2; exact (rP (Kd.R_mono (Kd.R_far (p := ⟨gb464, 1, none⟩) (Kd.R_far (p := ⟨gb464, 0, none⟩) (Kd.R_types HO463.out BK464.out (by decide)) (fun _ hk => hk.2) (.slice Ao175 t458.length co175)) (fun _ hk => hk.2) (.slice Ao181 t461.length co181)) (fun _ h_ => h_.1)))); (case side4 => exact (Kd.R_reads' HO463.out).2.1); rintro e w182 ⟨rfl, hb⟩; refine ⟨_, rfl, ?_⟩; have n_ := aI (aM (Kd.R_below (rP (Kd.R_mono (Kd.R_far (p := ⟨gb464, 1, none⟩) (Kd.R_far (p := ⟨gb464, 0, none⟩) (Kd.R_types HO_7.out BK464.out (by decide)) (fun _ hk => hk.2) (.slice Ao175 t458.length co175)) (fun _ hk => hk.2) (.slice Ao181 t461.length co181)) (fun _ h_ => h_.1))) hb)) (aI (aM (Kd.R_below (rP (Kd.R_mono (Kd.R_far (p := ⟨gb464, 1, none⟩) (Kd.R_far (p := ⟨gb464, 0, none⟩) (Kd.R_types HO_429000.out BK464.out (by decide)) (fun _ hk => hk.2) (.slice Ao175 t458.length co175)) (fun _ hk => hk.2) (.slice Ao181 t461.length co181)) (fun _ h_ => h_.1))) hb)) (aI (aM (Kd.R_below (rP (Kd.R_mono (Kd.R_far (p := ⟨gb464, 1, none⟩) (Kd.R_far (p := ⟨gb464, 0, none⟩) (Kd.R_types HO_429001.out BK464.out (by decide)) (fun _ hk => hk.2) (.slice Ao175 t458.length co175)) (fun _ hk => hk.2) (.slice Ao181 t461.length co181)) (fun _ h_ => h_.1))) hb)) (aI (aM (Kd.R_below (rP (Kd.R_mono (Kd.R_far (p := ⟨gb464, 1, none⟩) (Kd.R_far (p := ⟨gb464, 0, none⟩) (Kd.R_types HO_439000.out BK464.out (by decide)) (fun _ hk => hk.2) (.slice Ao175 t458.length co175)) (fun _ hk => hk.2) (.slice Ao181 t461.length co181)) (fun _ h_ => h_.1))) hb)) (aI (aM (Kd.R_below (rP (Kd.R_mono (Kd.R_far (p := ⟨gb464, 1, none⟩) (Kd.R_far (p := ⟨gb464, 0, none⟩) (Kd.R_types HO_439001.out BK464.out (by decide)) (fun _ hk => hk.2) (.slice Ao175 t458.length co175)) (fun _ hk => hk.2) (.slice Ao181 t461.length co181)) (fun _ h_ => h_.1))) hb)) (aI (aM (Kd.R_below (rP (Kd.R_mono (Kd.R_far (p := ⟨gb464, 1, none⟩) (Kd.R_far (p := ⟨gb464, 0, none⟩) (Kd.R_types HO_447000.out BK464.out (by decide)) (fun _ hk => hk.2) (.slice Ao175 t458.length co175)) (fun _ hk => hk.2) (.slice Ao181 t461.length co181)) (fun _ h_ => h_.1))) hb)) (aI (aM (Kd.R_below (rP (Kd.R_mono (Kd.R_far (p := ⟨gb464, 1, none⟩) (Kd.R_far (p := ⟨gb464, 0, none⟩) (Kd.R_types HO_447001.out BK464.out (by decide)) (fun _ hk => hk.2) (.slice Ao175 t458.length co175)) (fun _ hk => hk.2) (.slice Ao181 t461.length co181)) (fun _ h_ => h_.1))) hb)) (aI (aM (Kd.R_below (rP (Kd.R_mono (Kd.R_far (p := ⟨gb464, 1, none⟩) (Kd.R_far (p := ⟨gb464, 0, none⟩) (Kd.R_types HO_455000.out BK464.out (by decide)) (fun _ hk => hk.2) (.slice Ao175 t458.length co175)) (fun _ hk => hk.2) (.slice Ao181 t461.length co181)) (fun _ h_ => h_.1))) hb)) (aI (aM (Kd.R_below (rP (Kd.R_mono (Kd.R_far (p := ⟨gb464, 1, none⟩) (Kd.R_far (p := ⟨gb464, 0, none⟩) (Kd.R_types HO_455001.out BK464.out (by decide)) (fun _ hk => hk.2) (.slice Ao175 t458.length co175)) (fun _ hk => hk.2) (.slice Ao181 t461.length co181)) (fun _ h_ => h_.1))) hb)) (aI (aM (Kd.R_below (rP (Kd.R_mono (Kd.R_far (p := ⟨gb464, 1, none⟩) (Kd.R_far (p := ⟨gb464, 0, none⟩) (Kd.R_types HO460.out BK464.out (by decide)) (fun _ hk => hk.2) (.slice Ao175 t458.length co175)) (fun _ hk => hk.2) (.slice Ao181 t461.length co181)) (fun _ h_ => h_.1))) hb)) (aI (aM (Kd.R_below (rP (Kd.R_mono (Kd.R_far (p := ⟨gb464, 1, none⟩) (Kd.R_far (p := ⟨gb464, 0, none⟩) (Kd.R_types HO463.out BK464.out (by decide)) (fun _ hk => hk.2) (.slice Ao175 t458.length co175)) (fun _ hk => hk.2) (.slice Ao181 t461.length co181)) (fun _ h_ => h_.1))) hb)) (aI (kB BK428 hb) (aI (kB BK438 hb) (aI (kB BK446 hb) (aI (kB BK454 hb) (aI (aM (blk_below (g := gb464) (o := .cells #[.slice Ao175 t458.length co175, .slice Ao181 t461.length co181] 30 (0, 0)) (by (with_reducible repeat (first | refine blk_drewN ?_ _ | refine blk_drew ?_ | refine blk_alloc ?_ _)); refine blk_put (cs := #[.slice Ao175 t458.length co175, .slice none 0 0]) ?_ 1 _ rfl; (with_reducible repeat (first | refine blk_drewN ?_ _ | refine blk_drew ?_ | refine blk_alloc ?_ _)); refine blk_put (cs := #[.slice none 0 0, .slice none 0 0]) ?_ 0 _ rfl; (with_reducible repeat (first | refine blk_drewN ?_ _ | refine blk_drew ?_ | refine blk_alloc ?_ _)); exact BK464.out) hb)) (sB HB hb)))))))))))))))); clear HO_7 HO_429000 HO_429001 HO_439000 HO_439001 HO_447000 HO_447001 HO_455000 HO_455001 HO460 HO463 BK428 BK438 BK446 BK454 BK464 HB; obtain ⟨HO_7, HO_429000, HO_429001, HO_439000, HO_439001, HO_447000, HO_447001, HO_455000, HO_455001, HO460, HO463, BK428, BK438, BK446, BK454, BK464, HB⟩ := n_; (try clear hb)))
         have n0_ := aM (Kd.R_drew HO_7.out)
         have n1_ := aM (Kd.R_drew HO_429000.out)
         have n2_ := aM (Kd.R_drew HO_429001.out)
         have n3_ := aM (Kd.R_drew HO_439000.out)
         have n4_ := aM (Kd.R_drew HO_439001.out)
         have n5_ := aM (Kd.R_drew HO_447000.out)
         have n6_ := aM (Kd.R_drew HO_447001.out)
         have n7_ := aM (Kd.R_drew HO_455000.out)
         have n8_ := aM (Kd.R_drew HO_455001.out)
         have n9_ := aM (Kd.R_drew HO460.out)
         have n10_ := aM (Kd.R_drew HO463.out)
         have n11_ := aM (blk_drew BK428.out)
         have n12_ := aM (blk_drew BK438.out)
         have n13_ := aM (blk_drew BK446.out)
         have n14_ := aM (blk_drew BK454.out)
         have n15_ := aM (blk_drew BK464.out)
         have n16_ := aM (below_drew1 HB.out)
         clear HO_7
         clear HO_429000
         clear HO_429001
         clear HO_439000
         clear HO_439001
         clear HO_447000
         clear HO_447001
         clear HO_455000
         clear HO_455001
         clear HO460
         clear HO463
         clear BK428
         clear BK438
         clear BK446
         clear BK454
         clear BK464
         clear HB
         have HO_7 := n0_
         have HO_429000 := n1_
         have HO_429001 := n2_
         have HO_439000 := n3_
         have HO_439001 := n4_
         have HO_447000 := n5_
         have HO_447001 := n6_
         have HO_455000 := n7_
         have HO_455001 := n8_
         have HO460 := n9_
         have HO463 := n10_
         have BK428 := n11_
         have BK438 := n12_
         have BK446 := n13_
         have BK454 := n14_
         have BK464 := n15_
         have HB := n16_
         clear n0_ n1_ n2_ n3_ n4_ n5_ n6_ n7_ n8_ n9_ n10_ n11_ n12_ n13_ n14_ n15_ n16_
         refine start_ (n := 34) (S := fun w' => True) (ds := []) #[tF, tF, tF, tF, tF, tF, tF, tF, tF, tF, tF, tF, tF, tF, tF, tF, tF, tF, tF, tF, tF, tF, tF, tF, tF, tF, tF, tF, tF, tF, tF, tF, tF, tF] (by kernel_rfl) rfl rfl trivial (fun hHeld => ?_); refine with_tabW laws_FnFlushed.tab14 laws_FnFlushed.bits14 (fun HT_ HW_ => ?_)
         generalize w182.drew = w183 at HO_7 HO_429000 HO_429001 HO_439000 HO_439001 HO_447000 HO_447001 HO_455000 HO_455001 HO460 HO463 BK428 BK438 BK446 BK454 BK464 HB hHeld ⊢
         refine pY 0 66 #[tT, tF, tF, tF, tF, tF, tF, tF, tF, tF, tF, tF, tF, tF, tF, tF, tF, tF, tF, tF, tF, tF, tF, tF, tF, tF, tF, tF, tF, tF, tF, tF, tF, tF] ?_
         refine pY 1 67 #[tT, tT, tF, tF, tF, tF, tF, tF, tF, tF, tF, tF, tF, tF, tF, tF, tF, tF, tF, tF, tF, tF, tF, tF, tF, tF, tF, tF, tF, tF, tF, tF, tF, tF] ?_
         refine pY 2 68 #[tT, tT, tT, tF, tF, tF, tF, tF, tF, tF, tF, tF, tF, tF, tF, tF, tF, tF, tF, tF, tF, tF, tF, tF, tF, tF, tF, tF, tF, tF, tF, tF, tF, tF] ?_
         refine pY 3 69 #[tT, tT, tT, tT, tF, tF, tF, tF, tF, tF, tF, tF, tF, tF, tF, tF, tF, tF, tF, tF, tF, tF, tF, tF, tF, tF, tF, tF, tF, tF, tF, tF, tF, tF] ?_
         refine pY 4 70 #[tT, tT, tT, tT, tT, tF, tF, tF, tF, tF, tF, tF, tF, tF, tF, tF, tF, tF, tF, tF, tF, tF, tF, tF, tF, tF, tF, tF, tF, tF, tF, tF, tF, tF] ?_
         refine pU 5 71 #[tT, tT, tT, tT, tT, tT, tF, tF, tF, tF, tF, tF, tF, tF, tF, tF, tF, tF, tF, tF, tF, tF, tF, tF, tF, tF, tF, tF, tF, tF, tF, tF, tF, tF] ?_
         refine pU 6 72 #[tT, tT, tT, tT, tT, tT, tT, tF, tF, tF, tF, tF, tF, tF, tF, tF, tF, tF, tF, tF, tF, tF, tF, tF, tF, tF, tF, tF, tF, tF, tF, tF, tF, tF] ?_
         refine pU 7 73 #[tT, tT, tT, tT, tT, tT, tT, tT, tF, tF, tF, tF, tF, tF, tF, tF, tF, tF, tF, tF, tF, tF, tF, tF, tF, tF, tF, tF, tF, tF, tF, tF, tF, tF] ?_
         refine pY 8 74 #[tT, tT, tT, tT, tT, tT, tT, tT, tT, tF, tF, tF, tF, tF, tF, tF, tF, tF, tF, tF, tF, tF, tF, tF, tF, tF, tF, tF, tF, tF, tF, tF, tF, tF] ?_
         refine pY 9 75 #[tT, tT, tT, tT, tT, tT, tT, tT, tT, tT, tF, tF, tF, tF, tF, tF, tF, tF, tF, tF, tF, tF, tF, tF, tF, tF, tF, tF, tF, tF, tF, tF, tF, tF] ?_
         refine pU 10 76 #[tT, tT, tT, tT, tT, tT, tT, tT, tT, tT, tT, tF, tF, tF, tF, tF, tF, tF, tF, tF, tF, tF, tF, tF, tF, tF, tF, tF, tF, tF, tF, tF, tF, tF] ?_
         refine pU 11 77 #[tT, tT, tT, tT, tT, tT, tT, tT, tT, tT, tT, tT, tF, tF, tF, tF, tF, tF, tF, tF, tF, tF, tF, tF, tF, tF, tF, tF, tF, tF, tF, tF, tF, tF] ?_
         refine pU 12 78 #[tT, tT, tT, tT, tT, tT, tT, tT, tT, tT, tT, tT, tT, tF, tF, tF, tF, tF, tF, tF, tF, tF, tF, tF, tF, tF, tF, tF, tF, tF, tF, tF, tF, tF] ?_
         refine pY 13 79 #[tT, tT, tT, tT, tT, tT, tT, tT, tT, tT, tT, tT, tT, tT, tF, tF, tF, tF, tF, tF, tF, tF, tF, tF, tF, tF, tF, tF, tF, tF, tF, tF, tF, tF] ?_
         refine pY 14 80 #[tT, tT, tT, tT, tT, tT, tT, tT, tT, tT, tT, tT, tT, tT, tT, tF, tF, tF, tF, tF, tF, tF, tF, tF, tF, tF, tF, tF, tF, tF, tF, tF, tF, tF] ?_
         refine pU 15 81 #[tT, tT, tT, tT, tT, tT, tT, tT, tT, tT, tT, tT, tT, tT, tT, tT, tF, tF, tF, tF, tF, tF, tF, tF, tF, tF, tF, tF, tF, tF, tF, tF, tF, tF] ?_
         refine pU 16 82 #[tT, tT, tT, tT, tT, tT, tT, tT, tT, tT, tT, tT, tT, tT, tT, tT, tT, tF, tF, tF, tF, tF, tF, tF, tF, tF, tF, tF, tF, tF, tF, tF, tF, tF] ?_
         refine pU 17 83 #[tT, tT, tT, tT, tT, tT, tT, tT, tT, tT, tT, tT, tT, tT, tT, tT, tT, tT, tF, tF, tF, tF, tF, tF, tF, tF, tF, tF, tF, tF, tF, tF, tF, tF] ?_
         refine pU 18 84 #[tT, tT, tT, tT, tT, tT, tT, tT, tT, tT, tT, tT, tT, tT, tT, tT, tT, tT, tT, tF, tF, tF, tF, tF, tF, tF, tF, tF, tF, tF, tF, tF, tF, tF] ?_
         refine pU 19 85 #[tT, tT, tT, tT, tT, tT, tT, tT, tT, tT, tT, tT, tT, tT, tT, tT, tT, tT, tT, tT, tF, tF, tF, tF, tF, tF, tF, tF, tF, tF, tF, tF, tF, tF] ?_
         refine pY 20 86 #[tT, tT, tT, tT, tT, tT, tT, tT, tT, tT, tT, tT, tT, tT, tT, tT, tT, tT, tT, tT, tT, tF, tF, tF, tF, tF, tF, tF, tF, tF, tF, tF, tF, tF] ?_
         refine pY 21 87 #[tT, tT, tT, tT, tT, tT, tT, tT, tT, tT, tT, tT, tT, tT, tT, tT, tT, tT, tT, tT, tT, tT, tF, tF, tF, tF, tF, tF, tF, tF, tF, tF, tF, tF] ?_
         refine pU 22 88 #[tT, tT, tT, tT, tT, tT, tT, tT, tT, tT, tT, tT, tT, tT, tT, tT, tT, tT, tT, tT, tT, tT, tT, tF, tF, tF, tF, tF, tF, tF, tF, tF, tF, tF] ?_
         refine pU 23 89 #[tT, tT, tT, tT, tT, tT, tT, tT, tT, tT, tT, tT, tT, tT, tT, tT, tT, tT, tT, tT, tT, tT, tT, tT, tF, tF, tF, tF, tF, tF, tF, tF, tF, tF] ?_
         refine pU 24 90 #[tT, tT, tT, tT, tT, tT, tT, tT, tT, tT, tT, tT, tT, tT, tT, tT, tT, tT, tT, tT, tT, tT, tT, tT, tT, tF, tF, tF, tF, tF, tF, tF, tF, tF] ?_
         refine pU 25 91 #[tT, tT, tT, tT, tT, tT, tT, tT, tT, tT, tT, tT, tT, tT, tT, tT, tT, tT, tT, tT, tT, tT, tT, tT, tT, tT, tF, tF, tF, tF, tF, tF, tF, tF] ?_
         refine pY 26 92 #[tT, tT, tT, tT, tT, tT, tT, tT, tT, tT, tT, tT, tT, tT, tT, tT, tT, tT, tT, tT, tT, tT, tT, tT, tT, tT, tT, tF, tF, tF, tF, tF, tF, tF] ?_
         refine pY 27 93 #[tT, tT, tT, tT, tT, tT, tT, tT, tT, tT, tT, tT, tT, tT, tT, tT, tT, tT, tT, tT, tT, tT, tT, tT, tT, tT, tT, tT, tF, tF, tF, tF, tF, tF] ?_
         refine pU 28 94 #[tT, tT, tT, tT, tT, tT, tT, tT, tT, tT, tT, tT, tT, tT, tT, tT, tT, tT, tT, tT, tT, tT, tT, tT, tT, tT, tT, tT, tT, tF, tF, tF, tF, tF] ?_
         refine pU 29 95 #[tT, tT, tT, tT, tT, tT, tT, tT, tT, tT, tT, tT, tT, tT, tT, tT, tT, tT, tT, tT, tT, tT, tT, tT, tT, tT, tT, tT, tT, tT, tF, tF, tF, tF] ?_
         refine pU 30 96 #[tT, tT, tT, tT, tT, tT, tT, tT, tT, tT, tT, tT, tT, tT, tT, tT, tT, tT, tT, tT, tT, tT, tT, tT, tT, tT, tT, tT, tT, tT, tT, tF, tF, tF] ?_
         refine pU 31 97 #[tT, tT, tT, tT, tT, tT, tT, tT, tT, tT, tT, tT, tT, tT, tT, tT, tT, tT, tT, tT, tT, tT, tT, tT, tT, tT, tT, tT, tT, tT, tT, tT, tF, tF] ?_
         refine pY 32 98 #[tT, tT, tT, tT, tT, tT, tT, tT, tT, tT, tT, tT, tT, tT, tT, tT, tT, tT, tT, tT, tT, tT, tT, tT, tT, tT, tT, tT, tT, tT, tT, tT, tT, tF] ?_
         refine pY 33 2 #[tT, tT, tT, tT, tT, tT, tT, tT, tT, tT, tT, tT, tT, tT, tT, tT, tT, tT, tT, tT, tT, tT, tT, tT, tT, tT, tT, tT, tT, tT, tT, tT, tT, tT] ?_
         refine done_ (done_of HT_.out (by kernel_rfl)) ?_
         try go_wp2
         go_ret
         exact ⟨eW, bB⟩
       ·replace c53 := Bool.eq_false_iff.mpr c53
        subst c53
        rw [if_neg (show ¬ (false = true) by decide)] at H
        obtain rfl := Option.some.inj H
        have hnb184 := NB446_428.out
        have hnc184 := NB428_446.out
        have hnb185 := NB446_438.out
        have hnc185 := NB438_446.out
        have hnb186 := NB446_454.out
        have hnc186 := NB454_446.out
        have hcz187_0 := cZ0 BK446
        have hcz187_1 := cZ1 BK446
        have hfz187_0 := blk_frozen BK446.out 0
        have hfz187_1 := blk_frozen BK446.out 1
        try go_wp2_with (first | ((with_reducible refine gate_callee (f := 21) rfl ?_); refine gL (some 55) Try.func21 #[.agg #[.slice Ao24 t439.length co24, .slice Ao28 t442.length co28], .int .i64 t426] ?_; (with_reducible refine (impl_SectorRead.calls kj38 _ _ t439 _ _ t442 t426 t456 false _ ?side1 ?side2 ?side3 ?side4 A50.out).mono ?_); (case side1 => exact cR HO_447000); (case side2 => exact (Kd.R_reads' HO_447000.out).2.1); (case side3 => exact cR HO_447001); (case side4 => exact (Kd.R_reads' HO_447001.out).2.1); rintro e w188 ⟨rfl, hb⟩; refine ⟨_, rfl, ?_⟩; have n_ := aI (rB HO_7 hb) (aI (rB HO_429000 hb) (aI (rB HO_429001 hb) (aI (rB HO_439000 hb) (aI (rB HO_439001 hb) (aI (rB HO_447000 hb) (aI (rB HO_447001 hb) (aI (rB HO_455000 hb) (aI (rB HO_455001 hb) (aI (kB BK428 hb) (aI (kB BK438 hb) (aI (kB BK446 hb) (aI (kB BK454 hb) (sB HB hb))))))))))))); clear HO_7 HO_429000 HO_429001 HO_439000 HO_439001 HO_447000 HO_447001 HO_455000 HO_455001 BK428 BK438 BK446 BK454 HB; obtain ⟨HO_7, HO_429000, HO_429001, HO_439000, HO_439001, HO_447000, HO_447001, HO_455000, HO_455001, BK428, BK438, BK446, BK454, HB⟩ := n_; (try clear hb); have hcz189_0 := cZ0 BK446; have hcz189_1 := cZ1 BK446; have hfz189_0 := blk_frozen BK446.out 0; have hfz189_1 := blk_frozen BK446.out 1) | ((with_reducible refine gate_callee (f := 32) rfl ?_); refine gL (some 59) Try.func32 #[.agg #[.slice Ao24 t439.length co24, .slice Ao28 t442.length co28]] ?_; (with_reducible refine (impl_Flush.calls kj38 _ _ t439 _ _ t442 t458 t461 _ ?side1 ?side2 ?side3 ?side4 A51.out).mono ?_); (case side1 => exact cR HO_447000); (case side2 => exact (Kd.R_reads' HO_447000.out).2.1); (case side3 => exact cR HO_447001); (case side4 => exact (Kd.R_reads' HO_447001.out).2.1); rintro e w190 ⟨v459, v462, rfl, ho0, ho1, hb⟩; refine ⟨_, rfl, ?_⟩; have n_ := aI (rB HO_7 hb) (aI (eR HO_429000 ho0 hb) (aI (eR HO_429001 ho1 hb) (aI (eR HO_439000 ho0 hb) (aI (eR HO_439001 ho1 hb) (aI (eR HO_447000 ho0 hb) (aI (eR HO_447001 ho1 hb) (aI (eR HO_455000 ho0 hb) (aI (eR HO_455001 ho1 hb) (aI (aM (Kd.R_lower (Kd.R_new' (Kd.R_new' (Kd.R_new' (Kd.R_new' ho0 (rL HO_429000)) (rL HO_439000)) (rL HO_447000)) (rL HO_455000)) (zB HB))) (aI (aM (Kd.R_lower (Kd.R_new' (Kd.R_new' (Kd.R_new' (Kd.R_new' ho1 (rL HO_429001)) (rL HO_439001)) (rL HO_447001)) (rL HO_455001)) (zB HB))) (aI (kB BK428 hb) (aI (kB BK438 hb) (aI (kB BK446 hb) (aI (kB BK454 hb) (sB HB hb))))))))))))))); clear HO_7 HO_429000 HO_429001 HO_439000 HO_439001 HO_447000 HO_447001 HO_455000 HO_455001 BK428 BK438 BK446 BK454 HB; obtain ⟨HO_7, HO_429000, HO_429001, HO_439000, HO_439001, HO_447000, HO_447001, HO_455000, HO_455001, HO460, HO463, BK428, BK438, BK446, BK454, HB⟩ := n_; (try clear hb ho0 ho1)) | ((with_reducible refine gate_dst (N := 14) rfl ?_); (try (refine gate_guard (by rfl) ?_; dsimp only)); refine box_event ?hg (N := 14) ?hd (cs := #[.slice none 0 0, .slice none 0 0]) (t := 30) ?hr ?_; (case hd => rfl); (case hg => rfl); (case hr => first | (go_simp; done) | (go_simp; rfl)); intro gb464 hg w191 hbox hb; have n_ := aI (rB HO_7 hb) (aI (rB HO_429000 hb) (aI (rB HO_429001 hb) (aI (rB HO_439000 hb) (aI (rB HO_439001 hb) (aI (rB HO_447000 hb) (aI (rB HO_447001 hb) (aI (rB HO_455000 hb) (aI (rB HO_455001 hb) (aI (rB HO460 hb) (aI (rB HO463 hb) (aI (kB BK428 hb) (aI (kB BK438 hb) (aI (kB BK446 hb) (aI (kB BK454 hb) (aI (sB HB hb) (aI (aM hbox) (aI (gE HB hg) (aI (gE HB hg) (aI (nL BK428 hg) (aI (nG BK428 hg) (aI (nL BK438 hg) (aI (nG BK438 hg) (aI (nL BK446 hg) (aI (nG BK446 hg) (aI (nL BK454 hg) (nG BK454 hg)))))))))))))))))))))))))); clear HO_7 HO_429000 HO_429001 HO_439000 HO_439001 HO_447000 HO_447001 HO_455000 HO_455001 HO460 HO463 BK428 BK438 BK446 BK454 HB; obtain ⟨HO_7, HO_429000, HO_429001, HO_439000, HO_439001, HO_447000, HO_447001, HO_455000, HO_455001, HO460, HO463, BK428, BK438, BK446, BK454, HB, BK464, GW464, GE464, NB428_464, NB464_428, NB438_464, NB464_438, NB446_464, NB464_446, NB454_464, NB464_454⟩ := n_; (try clear hb hbox hg); obtain ⟨Ao192, co192, eo192⟩ := Kd.R_slice HO460.out; subst eo192; have hnb193 := NB464_428.out; have hnc193 := NB428_464.out; have hnb194 := NB464_438.out; have hnc194 := NB438_464.out; have hnb195 := NB464_446.out; have hnc195 := NB446_464.out; have hnb196 := NB464_454.out; have hnc196 := NB454_464.out; have hcz197_0 := cZ0 BK464; have hcz197_1 := cZ1 BK464; have hfz197_0 := blk_frozen BK464.out 0; have hfz197_1 := blk_frozen BK464.out 1; obtain ⟨Ao198, co198, eo198⟩ := Kd.R_slice HO463.out; subst eo198) | ((with_reducible refine gate_callee (f := 21) rfl ?_); refine gL (some 63) Try.func21 #[.agg #[.slice Ao192 t458.length co192, .slice Ao198 t461.length co198], .int .i64 t426] ?_; (with_reducible refine (impl_SectorRead.calls kj38 _ _ t458 _ _ t461 t426 t465 t466 _ ?side1 ?side2 ?side3 ?side4 A52.out).mono ?_); (case side1 => refine (Kd.R_reads' (e := 9) (base := w.heap.size) (ok := fun k_ => ((((True ∧ some k_ ≠ (.slice Ao12 t420.length co12 : Value).ownBlock) ∧ some k_ ≠ (.slice Ao17 t429.length co17 : Value).ownBlock) ∧ some k_ ≠ (.slice Ao24 t439.length co24 : Value).ownBlock) ∧ some k_ ≠ (.slice Ao32 t447.length co32 : Value).ownBlock)) (n := t458.length) (c := co192) ?_).2.2; exact (rP (Kd.R_mono (Kd.R_far (p := ⟨gb464, 1, none⟩) (Kd.R_far (p := ⟨gb464, 0, none⟩) (Kd.R_types HO460.out BK464.out (by decide)) (fun _ hk => hk.2) (.slice Ao192 t458.length co192)) (fun _ hk => hk.2) (.slice Ao198 t461.length co198)) (fun _ h_ => h_.1)))); (case side2 => exact (Kd.R_reads' HO460.out).2.1); (case side3 => refine (Kd.R_reads' (e := 65) (base := w.heap.size) (ok := fun k_ => ((((True ∧ some k_ ≠ (.slice Ao14 t423.length co14 : Value).ownBlock) ∧ some k_ ≠ (.slice Ao20 t432.length co20 : Value).ownBlock) ∧ some k_ ≠ (.slice Ao28 t442.length co28 : Value).ownBlock) ∧ some k_ ≠ (.slice Ao37 t450.length co37 : Value).ownBlock)) (n := t461.length) (c := co198) ?_).2.2; exact (rP (Kd.R_mono (Kd.R_far (p := ⟨gb464, 1, none⟩) (Kd.R_far (p := ⟨gb464, 0, none⟩) (Kd.R_types HO463.out BK464.out (by decide)) (fun _ hk => hk.2) (.slice Ao192 t458.length co192)) (fun _ hk => hk.2) (.slice Ao198 t461.length co198)) (fun _ h_ => h_.1)))); (case side4 => exact (Kd.R_reads' HO463.out).2.1); rintro e w199 ⟨rfl, hb⟩; refine ⟨_, rfl, ?_⟩; have n_ := aI (aM (Kd.R_below (rP (Kd.R_mono (Kd.R_far (p := ⟨gb464, 1, none⟩) (Kd.R_far (p := ⟨gb464, 0, none⟩) (Kd.R_types HO_7.out BK464.out (by decide)) (fun _ hk => hk.2) (.slice Ao192 t458.length co192)) (fun _ hk => hk.2) (.slice Ao198 t461.length co198)) (fun _ h_ => h_.1))) hb)) (aI (aM (Kd.R_below (rP (Kd.R_mono (Kd.R_far (p := ⟨gb464, 1, none⟩) (Kd.R_far (p := ⟨gb464, 0, none⟩) (Kd.R_types HO_429000.out BK464.out (by decide)) (fun _ hk => hk.2) (.slice Ao192 t458.length co192)) (fun _ hk => hk.2) (.slice Ao198 t461.length co198)) (fun _ h_ => h_.1))) hb)) (aI (aM (Kd.R_below (rP (Kd.R_mono (Kd.R_far (p := ⟨gb464, 1, none⟩) (Kd.R_far (p := ⟨gb464, 0, none⟩) (Kd.R_types HO_429001.out BK464.out (by decide)) (fun _ hk => hk.2) (.slice Ao192 t458.length co192)) (fun _ hk => hk.2) (.slice Ao198 t461.length co198)) (fun _ h_ => h_.1))) hb)) (aI (aM (Kd.R_below (rP (Kd.R_mono (Kd.R_far (p := ⟨gb464, 1, none⟩) (Kd.R_far (p := ⟨gb464, 0, none⟩) (Kd.R_types HO_439000.out BK464.out (by decide)) (fun _ hk => hk.2) (.slice Ao192 t458.length co192)) (fun _ hk => hk.2) (.slice Ao198 t461.length co198)) (fun _ h_ => h_.1))) hb)) (aI (aM (Kd.R_below (rP (Kd.R_mono (Kd.R_far (p := ⟨gb464, 1, none⟩) (Kd.R_far (p := ⟨gb464, 0, none⟩) (Kd.R_types HO_439001.out BK464.out (by decide)) (fun _ hk => hk.2) (.slice Ao192 t458.length co192)) (fun _ hk => hk.2) (.slice Ao198 t461.length co198)) (fun _ h_ => h_.1))) hb)) (aI (aM (Kd.R_below (rP (Kd.R_mono (Kd.R_far (p := ⟨gb464, 1, none⟩) (Kd.R_far (p := ⟨gb464, 0, none⟩) (Kd.R_types HO_447000.out BK464.out (by decide)) (fun _ hk => hk.2) (.slice Ao192 t458.length co192)) (fun _ hk => hk.2) (.slice Ao198 t461.length co198)) (fun _ h_ => h_.1))) hb)) (aI (aM (Kd.R_below (rP (Kd.R_mono (Kd.R_far (p := ⟨gb464, 1, none⟩) (Kd.R_far (p := ⟨gb464, 0, none⟩) (Kd.R_types HO_447001.out BK464.out (by decide)) (fun _ hk => hk.2) (.slice Ao192 t458.length co192)) (fun _ hk => hk.2) (.slice Ao198 t461.length co198)) (fun _ h_ => h_.1))) hb)) (aI (aM (Kd.R_below (rP (Kd.R_mono (Kd.R_far (p := ⟨gb464, 1, none⟩) (Kd.R_far (p := ⟨gb464, 0, none⟩) (Kd.R_types HO_455000.out BK464.out (by decide)) (fun _ hk => hk.2) (.slice Ao192 t458.length co192)) (fun _ hk => hk.2) (.slice Ao198 t461.length co198)) (fun _ h_ => h_.1))) hb)) (aI (aM (Kd.R_below (rP (Kd.R_mono (Kd.R_far (p := ⟨gb464, 1, none⟩) (Kd.R_far (p := ⟨gb464, 0, none⟩) (Kd.R_types HO_455001.out BK464.out (by decide)) (fun _ hk => hk.2) (.slice Ao192 t458.length co192)) (fun _ hk => hk.2) (.slice Ao198 t461.length co198)) (fun _ h_ => h_.1))) hb)) (aI (aM (Kd.R_below (rP (Kd.R_mono (Kd.R_far (p := ⟨gb464, 1, none⟩) (Kd.R_far (p := ⟨gb464, 0, none⟩) (Kd.R_types HO460.out BK464.out (by decide)) (fun _ hk => hk.2) (.slice Ao192 t458.length co192)) (fun _ hk => hk.2) (.slice Ao198 t461.length co198)) (fun _ h_ => h_.1))) hb)) (aI (aM (Kd.R_below (rP (Kd.R_mono (Kd.R_far (p := ⟨gb464, 1, none⟩) (Kd.R_far (p := ⟨gb464, 0, none⟩) (Kd.R_types HO463.out BK464.out (by decide)) (fun _ hk => hk.2) (.slice Ao192 t458.length co192)) (fun _ hk => hk.2) (.slice Ao198 t461.length co198)) (fun _ h_ => h_.1))) hb)) (aI (kB BK428 hb) (aI (kB BK438 hb) (aI (kB BK446 hb) (aI (kB BK454 hb) (aI (aM (blk_below (g := gb464) (o := .cells #[.slice Ao192 t458.length co192, .slice Ao198 t461.length co198] 30 (0, 0)) (by (with_reducible repeat (first | refine blk_drewN ?_ _ | refine blk_drew ?_ | refine blk_alloc ?_ _)); refine blk_put (cs := #[.slice Ao192 t458.length co192, .slice none 0 0]) ?_ 1 _ rfl; (with_reducible repeat (first | refine blk_drewN ?_ _ | refine blk_drew ?_ | refine blk_alloc ?_ _)); refine blk_put (cs := #[.slice none 0 0, .slice none 0 0]) ?_ 0 _ rfl; (with_reducible repeat (first | refine blk_drewN ?_ _ | refine blk_drew ?_ | refine blk_alloc ?_ _)); exact BK464.out) hb)) (sB HB hb)))))))))))))))); clear HO_7 HO_429000 HO_429001 HO_439000 HO_439001 HO_447000 HO_447001 HO_455000 HO_455001 HO460 HO463 BK428 BK438 BK446 BK454 BK464 HB; obtain ⟨HO_7, HO_429000, HO_429001, HO_439000, HO_439001, HO_447000, HO_447001, HO_455000, HO_455001, HO460, HO463, BK428, BK438, BK446, BK454, BK464, HB⟩ := n_; (try clear hb)))
        have n0_ := aM (Kd.R_drew HO_7.out)
        have n1_ := aM (Kd.R_drew HO_429000.out)
        have n2_ := aM (Kd.R_drew HO_429001.out)
        have n3_ := aM (Kd.R_drew HO_439000.out)
        have n4_ := aM (Kd.R_drew HO_439001.out)
        have n5_ := aM (Kd.R_drew HO_447000.out)
        have n6_ := aM (Kd.R_drew HO_447001.out)
        have n7_ := aM (Kd.R_drew HO_455000.out)
        have n8_ := aM (Kd.R_drew HO_455001.out)
        have n9_ := aM (Kd.R_drew HO460.out)
        have n10_ := aM (Kd.R_drew HO463.out)
        have n11_ := aM (blk_drew BK428.out)
        have n12_ := aM (blk_drew BK438.out)
        have n13_ := aM (blk_drew BK446.out)
        have n14_ := aM (blk_drew BK454.out)
        have n15_ := aM (blk_drew BK464.out)
        have n16_ := aM (below_drew1 HB.out)
        clear HO_7
        clear HO_429000
        clear HO_429001
        clear HO_439000
        clear HO_439001
        clear HO_447000
        clear HO_447001
        clear HO_455000
        clear HO_455001
        clear HO460
        clear HO463
        clear BK428
        clear BK438
        clear BK446
        clear BK454
        clear BK464
        clear HB
        have HO_7 := n0_
        have HO_429000 := n1_
        have HO_429001 := n2_
        have HO_439000 := n3_
        have HO_439001 := n4_
        have HO_447000 := n5_
        have HO_447001 := n6_
        have HO_455000 := n7_
        have HO_455001 := n8_
        have HO460 := n9_
        have HO463 := n10_
        have BK428 := n11_
        have BK438 := n12_
        have BK446 := n13_
        have BK454 := n14_
        have BK464 := n15_
        have HB := n16_
        clear n0_ n1_ n2_ n3_ n4_ n5_ n6_ n7_ n8_ n9_ n10_ n11_ n12_ n13_ n14_ n15_ n16_
        refine start_ (n := 34) (S := fun w' => True) (ds := []) #[tF, tF, tF, tF, tF, tF, tF, tF, tF, tF, tF, tF, tF, tF, tF, tF, tF, tF, tF, tF, tF, tF, tF, tF, tF, tF, tF, tF, tF, tF, tF, tF, tF, tF] (by kernel_rfl) rfl rfl trivial (fun hHeld => ?_); refine with_tabW laws_FnFlushed.tab14 laws_FnFlushed.bits14 (fun HT_ HW_ => ?_)
        generalize w199.drew = w200 at HO_7 HO_429000 HO_429001 HO_439000 HO_439001 HO_447000 HO_447001 HO_455000 HO_455001 HO460 HO463 BK428 BK438 BK446 BK454 BK464 HB hHeld ⊢
        refine pY 0 66 #[tT, tF, tF, tF, tF, tF, tF, tF, tF, tF, tF, tF, tF, tF, tF, tF, tF, tF, tF, tF, tF, tF, tF, tF, tF, tF, tF, tF, tF, tF, tF, tF, tF, tF] ?_
        refine pY 1 67 #[tT, tT, tF, tF, tF, tF, tF, tF, tF, tF, tF, tF, tF, tF, tF, tF, tF, tF, tF, tF, tF, tF, tF, tF, tF, tF, tF, tF, tF, tF, tF, tF, tF, tF] ?_
        refine pU 2 68 #[tT, tT, tT, tF, tF, tF, tF, tF, tF, tF, tF, tF, tF, tF, tF, tF, tF, tF, tF, tF, tF, tF, tF, tF, tF, tF, tF, tF, tF, tF, tF, tF, tF, tF] ?_
        refine pY 3 69 #[tT, tT, tT, tT, tF, tF, tF, tF, tF, tF, tF, tF, tF, tF, tF, tF, tF, tF, tF, tF, tF, tF, tF, tF, tF, tF, tF, tF, tF, tF, tF, tF, tF, tF] ?_
        refine pY 4 70 #[tT, tT, tT, tT, tT, tF, tF, tF, tF, tF, tF, tF, tF, tF, tF, tF, tF, tF, tF, tF, tF, tF, tF, tF, tF, tF, tF, tF, tF, tF, tF, tF, tF, tF] ?_
        refine pU 5 71 #[tT, tT, tT, tT, tT, tT, tF, tF, tF, tF, tF, tF, tF, tF, tF, tF, tF, tF, tF, tF, tF, tF, tF, tF, tF, tF, tF, tF, tF, tF, tF, tF, tF, tF] ?_
        refine pU 6 72 #[tT, tT, tT, tT, tT, tT, tT, tF, tF, tF, tF, tF, tF, tF, tF, tF, tF, tF, tF, tF, tF, tF, tF, tF, tF, tF, tF, tF, tF, tF, tF, tF, tF, tF] ?_
        refine pU 7 73 #[tT, tT, tT, tT, tT, tT, tT, tT, tF, tF, tF, tF, tF, tF, tF, tF, tF, tF, tF, tF, tF, tF, tF, tF, tF, tF, tF, tF, tF, tF, tF, tF, tF, tF] ?_
        refine pY 8 74 #[tT, tT, tT, tT, tT, tT, tT, tT, tT, tF, tF, tF, tF, tF, tF, tF, tF, tF, tF, tF, tF, tF, tF, tF, tF, tF, tF, tF, tF, tF, tF, tF, tF, tF] ?_
        refine pY 9 75 #[tT, tT, tT, tT, tT, tT, tT, tT, tT, tT, tF, tF, tF, tF, tF, tF, tF, tF, tF, tF, tF, tF, tF, tF, tF, tF, tF, tF, tF, tF, tF, tF, tF, tF] ?_
        refine pU 10 76 #[tT, tT, tT, tT, tT, tT, tT, tT, tT, tT, tT, tF, tF, tF, tF, tF, tF, tF, tF, tF, tF, tF, tF, tF, tF, tF, tF, tF, tF, tF, tF, tF, tF, tF] ?_
        refine pU 11 77 #[tT, tT, tT, tT, tT, tT, tT, tT, tT, tT, tT, tT, tF, tF, tF, tF, tF, tF, tF, tF, tF, tF, tF, tF, tF, tF, tF, tF, tF, tF, tF, tF, tF, tF] ?_
        refine pU 12 78 #[tT, tT, tT, tT, tT, tT, tT, tT, tT, tT, tT, tT, tT, tF, tF, tF, tF, tF, tF, tF, tF, tF, tF, tF, tF, tF, tF, tF, tF, tF, tF, tF, tF, tF] ?_
        refine pY 13 79 #[tT, tT, tT, tT, tT, tT, tT, tT, tT, tT, tT, tT, tT, tT, tF, tF, tF, tF, tF, tF, tF, tF, tF, tF, tF, tF, tF, tF, tF, tF, tF, tF, tF, tF] ?_
        refine pY 14 80 #[tT, tT, tT, tT, tT, tT, tT, tT, tT, tT, tT, tT, tT, tT, tT, tF, tF, tF, tF, tF, tF, tF, tF, tF, tF, tF, tF, tF, tF, tF, tF, tF, tF, tF] ?_
        refine pU 15 81 #[tT, tT, tT, tT, tT, tT, tT, tT, tT, tT, tT, tT, tT, tT, tT, tT, tF, tF, tF, tF, tF, tF, tF, tF, tF, tF, tF, tF, tF, tF, tF, tF, tF, tF] ?_
        refine pU 16 82 #[tT, tT, tT, tT, tT, tT, tT, tT, tT, tT, tT, tT, tT, tT, tT, tT, tT, tF, tF, tF, tF, tF, tF, tF, tF, tF, tF, tF, tF, tF, tF, tF, tF, tF] ?_
        refine pU 17 83 #[tT, tT, tT, tT, tT, tT, tT, tT, tT, tT, tT, tT, tT, tT, tT, tT, tT, tT, tF, tF, tF, tF, tF, tF, tF, tF, tF, tF, tF, tF, tF, tF, tF, tF] ?_
        refine pU 18 84 #[tT, tT, tT, tT, tT, tT, tT, tT, tT, tT, tT, tT, tT, tT, tT, tT, tT, tT, tT, tF, tF, tF, tF, tF, tF, tF, tF, tF, tF, tF, tF, tF, tF, tF] ?_
        refine pU 19 85 #[tT, tT, tT, tT, tT, tT, tT, tT, tT, tT, tT, tT, tT, tT, tT, tT, tT, tT, tT, tT, tF, tF, tF, tF, tF, tF, tF, tF, tF, tF, tF, tF, tF, tF] ?_
        refine pY 20 86 #[tT, tT, tT, tT, tT, tT, tT, tT, tT, tT, tT, tT, tT, tT, tT, tT, tT, tT, tT, tT, tT, tF, tF, tF, tF, tF, tF, tF, tF, tF, tF, tF, tF, tF] ?_
        refine pY 21 87 #[tT, tT, tT, tT, tT, tT, tT, tT, tT, tT, tT, tT, tT, tT, tT, tT, tT, tT, tT, tT, tT, tT, tF, tF, tF, tF, tF, tF, tF, tF, tF, tF, tF, tF] ?_
        refine pU 22 88 #[tT, tT, tT, tT, tT, tT, tT, tT, tT, tT, tT, tT, tT, tT, tT, tT, tT, tT, tT, tT, tT, tT, tT, tF, tF, tF, tF, tF, tF, tF, tF, tF, tF, tF] ?_
        refine pU 23 89 #[tT, tT, tT, tT, tT, tT, tT, tT, tT, tT, tT, tT, tT, tT, tT, tT, tT, tT, tT, tT, tT, tT, tT, tT, tF, tF, tF, tF, tF, tF, tF, tF, tF, tF] ?_
        refine pU 24 90 #[tT, tT, tT, tT, tT, tT, tT, tT, tT, tT, tT, tT, tT, tT, tT, tT, tT, tT, tT, tT, tT, tT, tT, tT, tT, tF, tF, tF, tF, tF, tF, tF, tF, tF] ?_
        refine pU 25 91 #[tT, tT, tT, tT, tT, tT, tT, tT, tT, tT, tT, tT, tT, tT, tT, tT, tT, tT, tT, tT, tT, tT, tT, tT, tT, tT, tF, tF, tF, tF, tF, tF, tF, tF] ?_
        refine pY 26 92 #[tT, tT, tT, tT, tT, tT, tT, tT, tT, tT, tT, tT, tT, tT, tT, tT, tT, tT, tT, tT, tT, tT, tT, tT, tT, tT, tT, tF, tF, tF, tF, tF, tF, tF] ?_
        refine pY 27 93 #[tT, tT, tT, tT, tT, tT, tT, tT, tT, tT, tT, tT, tT, tT, tT, tT, tT, tT, tT, tT, tT, tT, tT, tT, tT, tT, tT, tT, tF, tF, tF, tF, tF, tF] ?_
        refine pU 28 94 #[tT, tT, tT, tT, tT, tT, tT, tT, tT, tT, tT, tT, tT, tT, tT, tT, tT, tT, tT, tT, tT, tT, tT, tT, tT, tT, tT, tT, tT, tF, tF, tF, tF, tF] ?_
        refine pU 29 95 #[tT, tT, tT, tT, tT, tT, tT, tT, tT, tT, tT, tT, tT, tT, tT, tT, tT, tT, tT, tT, tT, tT, tT, tT, tT, tT, tT, tT, tT, tT, tF, tF, tF, tF] ?_
        refine pU 30 96 #[tT, tT, tT, tT, tT, tT, tT, tT, tT, tT, tT, tT, tT, tT, tT, tT, tT, tT, tT, tT, tT, tT, tT, tT, tT, tT, tT, tT, tT, tT, tT, tF, tF, tF] ?_
        refine pU 31 97 #[tT, tT, tT, tT, tT, tT, tT, tT, tT, tT, tT, tT, tT, tT, tT, tT, tT, tT, tT, tT, tT, tT, tT, tT, tT, tT, tT, tT, tT, tT, tT, tT, tF, tF] ?_
        refine pY 32 98 #[tT, tT, tT, tT, tT, tT, tT, tT, tT, tT, tT, tT, tT, tT, tT, tT, tT, tT, tT, tT, tT, tT, tT, tT, tT, tT, tT, tT, tT, tT, tT, tT, tT, tF] ?_
        refine pY 33 2 #[tT, tT, tT, tT, tT, tT, tT, tT, tT, tT, tT, tT, tT, tT, tT, tT, tT, tT, tT, tT, tT, tT, tT, tT, tT, tT, tT, tT, tT, tT, tT, tT, tT, tT] ?_
        refine done_ (done_of HT_.out (by kernel_rfl)) ?_
        try go_wp2
        go_ret
        exact ⟨eW, bB⟩

/-- THE ONE PURE STATEMENT of laws_FnFlushed: yours. -/
def laws_FnFlushed.Pure : Prop := ∀ (l0 : List Int), l0.length ≤ maxLen → l0.length * 1 ≤ 140737488351232 → (∀ x ∈ l0, (Lit.int .u8 x).wf = true) → ∃ k, laws_FnFlushed.f k l0 = some true
theorem laws_FnFlushed.walk (P : laws_FnFlushed.Pure) (a0 : Option Addr) (len0 cap0 : Nat) (z0 : List Int) (w : World) (w0 : (a0 = none ∧ len0 = 0 ∧ cap0 = 0 ∧ z0 = []) ∨ ∃ x, a0 = some x ∧ len0 ≤ cap0 ∧ cap0 ≤ maxLen ∧ z0.length = cap0 ∧ (∀ i, i < z0.length → w.cell? (x.add i) = some (.int .u8 (z0.getD i 0))) ∧ ∀ n ∈ z0, (Lit.int .u8 n).wf = true) (y0 : len0 * 1 ≤ 140737488351232) :
  Calls Try.prog 12 #[.slice a0 len0 cap0] w fun e w' => e = .returned (.bool true) ∧ Below w.heap.size w w' := by
 obtain ⟨l0, rfl, hr0, hm0, hw0, hc0⟩ := ReadsInt.ofRowC w0
 obtain ⟨k, h⟩ := P l0 hm0 y0 hw0
 refine (laws_FnFlushed.calls k _ _ l0 true w (Kd.C_of_reads (d := (0 : Int)) (h1 := fun _ => rfl) hr0) hc0 h).mono ?_
 rintro e w' ⟨rfl, hd⟩
 exact ⟨rfl, hd⟩

end Go.Proofs.Ytgmpdkefegofhaa.PFnFlushed
