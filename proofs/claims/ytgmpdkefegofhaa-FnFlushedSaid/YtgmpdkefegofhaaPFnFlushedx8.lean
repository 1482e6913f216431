-- Written by xprint.py, a program of this session over the kit's print. Not trusted: Lean checks it.
import Derived.Test.YtgmpdkefegofhaaPFnFlushedx0
import Derived.Test.YtgmpdkefegofhaaPFnFlushedx4
import Derived.Test.YtgmpdkefegofhaaPFnFlushedx5
import Derived.Test.YtgmpdkefegofhaaPFnFlushedx6
namespace Go.Proofs.Ytgmpdkefegofhaa.PFnFlushed
open Go.RowKit Go.Proofs.YtgmpdkefegofhaaW.PrintWords Go.Proofs.YtgmpdkefegofhaaW.PrintLast Go.Proofs.YtgmpdkefegofhaaW.PrintMore
attribute [local go_sem] max2_int min2_int max_two min_two max_three min_three max_four min_four   -- for this text's walks alone
set_option linter.unusedVariables false
set_option linter.unusedSimpArgs false

/-! ### spec_DrawSectorWrite: function 50 -/
def spec_DrawSectorWrite.f (k : Nat) (l0 : List Int) : Option (List ByteArray × (List (S65)) × Int × ByteArray) := (spec_l1New.f k l0).bind fun bt400 => ((spec_l3Draw.f k bt400.1 bt400.2.1 bt400.2.2).bind fun bt404 => ((spec_l1Below.f bt400.1 bt404.2.2.1 bt404.2.2.2 (wrap64 ((bt404.1.length : Int) + 2))).bind fun bt413 => ((spec_l3Data.f k bt400.1 bt413.2.1 bt413.2.2).bind fun bt416 => (some (bt404.1, bt404.2.1, wrap64 (bt413.1 - 1), bt416.1)))))
theorem spec_DrawSectorWrite.mono : ∀ a0 k, LeO (spec_DrawSectorWrite.f k a0) (spec_DrawSectorWrite.f (k + 1) a0) := by
 intro a0 k
 unfold spec_DrawSectorWrite.f
 have m0_ := @spec_l1New.mono
 have m1_ := @spec_l3Data.mono
 have m2_ := @spec_l3Draw.mono
 exact mM
set_option maxHeartbeats 8000000 in
set_option maxRecDepth 100000 in
theorem spec_DrawSectorWrite.calls (k : Nat) (A0 : Option Addr) (c0 : Nat) (l0 : List Int) (r1 : List ByteArray) (r2 : List (S65)) (r3 : Int) (r4 : ByteArray) (w : World) (hr0 : Kd.C (Kd.int .u8) w A0 l0.length l0) (hc0 : l0.length ≤ c0) (h : spec_DrawSectorWrite.f k l0 = some (r1, r2, r3, r4)) :
  Calls Try.prog 50 #[.slice A0 l0.length c0] w fun e w' => ∃ v0_ v1_ : Value, e = .returned (.tuple #[.agg #[v0_, v1_], .int .i64 r3, .string r4]) ∧ Kd.R Kd.string 9 w' w.heap.size (fun _ => True) v0_ r1 ∧ Kd.R k65 65 w' w.heap.size (fun _ => True) v1_ r2 ∧ Below w.heap.size w w' := by
 have hu30 := Try.underlying30
 have HR0 := aM hr0
 have HC0 := aM hc0
 clear hr0 hc0
 have HB := aM (Below.refl w.heap.size w)
 unfold spec_DrawSectorWrite.f at h
 have H := h
 clear h
 replace H := Option.bind_eq_some_iff.mp H
 obtain ⟨⟨t400, t401, t402⟩, A20, H⟩ := H
 try dsimp only at H
 have A2 := aM A20
 clear A20
 replace H := Option.bind_eq_some_iff.mp H
 obtain ⟨⟨t404, t407, t410, t411⟩, A30, H⟩ := H
 try dsimp only at H
 have A3 := aM A30
 clear A30
 replace H := Option.bind_eq_some_iff.mp H
 obtain ⟨⟨t413, t414, t415⟩, A40, H⟩ := H
 try dsimp only at H
 have A4 := aM A40
 clear A40
 replace H := Option.bind_eq_some_iff.mp H
 obtain ⟨⟨t416, t417, t418⟩, A50, H⟩ := H
 try dsimp only at H
 have A5 := aM A50
 clear A50
 simp only [Option.some.injEq, Prod.mk.injEq] at H
 obtain ⟨rfl, rfl, rfl, rfl⟩ := H
 go_enter Try.func50, Try.ntmps50
 try go_wp2_with (first | ((with_reducible refine gate_dst (N := 2) rfl ?_); refine bE 2 #[.slice none 0 0, .slice none 0 0] 30 ?_; intro gb399 hg w6 hbox hb; have n_ := aI (sB HB hb) (aI (aM hbox) (aI (gE HB hg) (gE HB hg))); clear HB; obtain ⟨HB, BK399, GW399, GE399⟩ := n_; (try clear hb hbox hg)) | ((with_reducible refine gate_callee (f := 88) rfl ?_); refine gL (some 9) Try.func88 #[.slice A0 l0.length c0] ?_; (with_reducible refine (spec_l1New.calls k _ _ l0 t400 t401 t402 w _ ?side1 ?side2 ?side3 A2.out).mono ?_); (case side1 => repeat (first | (with_reducible first | exact HB.out | apply below_alloc | apply pw_below_drewN | apply below_drew1 | refine below_set ?_ GE399.out) | exact HB.out)); (case side2 => exact HR0.out); (case side3 => exact HC0.out); rintro e w7 ⟨g403, rfl, hi, hb, hb2⟩; refine ⟨_, rfl, ?_⟩; have n_ := aI (aM (blk_below (g := gb399) (o := .cells #[.slice none 0 0, .slice none 0 0] 30 (0, 0)) (kP BK399) hb2)) (aI (aM (hb)) (aI (aM (hi)) (aI (aM (IsS123.ne_blk hi (blk_below (g := gb399) (o := .cells #[.slice none 0 0, .slice none 0 0] 30 (0, 0)) (kP BK399) hb2) (by decide))) (aM (Ne.symm (IsS123.ne_blk hi (blk_below (g := gb399) (o := .cells #[.slice none 0 0, .slice none 0 0] 30 (0, 0)) (kP BK399) hb2) (by decide))))))); clear BK399 HB; obtain ⟨BK399, HB, HI403, NB403_399, NB399_403⟩ := n_; (try clear hb hb2 hi)) | ((with_reducible refine gate_callee (f := 89) rfl ?_); refine gL (some 11) Try.func89 #[.pointer (some ⟨g403, 0, none⟩)] ?_; (with_reducible refine (spec_l3Draw.calls k g403 t400 t401 t402 t404 t407 t410 t411 w _ ?side1 ?side2 A3.out).mono ?_); (case side1 => repeat (first | (with_reducible first | exact HI403.out | apply IsS123.alloc | apply IsS123.drewN | apply IsS123.drew | apply IsS123.set_1 | apply IsS123.set_2 | refine IsS123.far ?_ NB403_399.out _) | exact HI403.out)); (case side2 => repeat (first | (with_reducible first | exact HB.out | apply below_alloc | apply pw_below_drewN | apply below_drew1 | refine below_set ?_ (IsS123.ge HI403.out) | refine below_set ?_ GE399.out) | exact HB.out)); rintro e w8 ⟨v405, v408, rfl, ho0, ho1, hi, hb, hk⟩; refine ⟨_, rfl, ?_⟩; have n_ := aI (aM (KeepBut.blk hk (g' := gb399) (o := .cells #[.slice none 0 0, .slice none 0 0] 30 (0, 0)) (kP BK399) NB399_403.out (by simp))) (aI (lR HB ho0) (aI (lR HB ho1) (aI (aM (hb)) (aM (hi))))); clear BK399 HB HI403; obtain ⟨BK399, HO406, HO409, HB, HI403⟩ := n_; (try clear hb hk hi ho0 ho1)) | ((with_reducible refine gate_dst (N := 6) rfl ?_); refine bE 6 #[.slice none 0 0, .slice none 0 0] 30 ?_; intro gb412 hg w9 hbox hb; have n_ := aI (rB HO406 hb) (aI (rB HO409 hb) (aI (kB BK399 hb) (aI (aM (IsS123.below (IsS123.iI HI403) hb)) (aI (sB HB hb) (aI (aM hbox) (aI (gE HB hg) (aI (gE HB hg) (aI (nL BK399 hg) (aI (nG BK399 hg) (aI (aM ((by rw [hg]; exact Nat.ne_of_lt (IsS123.lt (show IsS123 w _ g403 t400 t410 t411 from IsS123.iI HI403)) : g403 ≠ gb412))) (aM ((by rw [hg]; exact Nat.ne_of_gt (IsS123.lt (show IsS123 w _ g403 t400 t410 t411 from IsS123.iI HI403)) : gb412 ≠ g403))))))))))))); clear HO406 HO409 BK399 HI403 HB; obtain ⟨HO406, HO409, BK399, HI403, HB, BK412, GW412, GE412, NB399_412, NB412_399, NB403_412, NB412_403⟩ := n_; (try clear hb hbox hg); obtain ⟨Ao10, co10, eo10⟩ := Kd.R_slice HO406.out; subst eo10; have hnb11 := NB412_399.out; have hnc11 := NB399_412.out; have hnb12 := NB412_403.out; have hnc12 := NB403_412.out; have hcz13_0 := cZ0 BK412; have hcz13_1 := cZ1 BK412; have hfz13_0 := blk_frozen BK412.out 0; have hfz13_1 := blk_frozen BK412.out 1; obtain ⟨Ao14, co14, eo14⟩ := Kd.R_slice HO409.out; subst eo14) | ((with_reducible refine gate_callee (f := 95) rfl ?_); refine gL (some 17) Try.func95 #[.pointer (some ⟨g403, 0, none⟩), .int .i64 (wrap64 ((t404.length : Int) + 2))] ?_; (with_reducible refine (spec_l1Below.calls g403 t400 t410 t411 (wrap64 ((t404.length : Int) + 2)) t413 t414 t415 w _ ?side1 ?side2 A4.out).mono ?_); (case side1 => repeat (first | (with_reducible first | exact HI403.out | apply IsS123.alloc | apply IsS123.drewN | apply IsS123.drew | apply IsS123.set_1 | apply IsS123.set_2 | refine IsS123.far ?_ NB403_399.out _ | refine IsS123.far ?_ NB403_412.out _) | exact HI403.out)); (case side2 => repeat (first | (with_reducible first | exact HB.out | apply below_alloc | apply pw_below_drewN | apply below_drew1 | refine below_set ?_ (IsS123.ge HI403.out) | refine below_set ?_ GE399.out | refine below_set ?_ GE412.out) | exact HB.out)); rintro e w15 ⟨rfl, hi, hb, hk⟩; refine ⟨_, rfl, ?_⟩; have n_ := aI (aM (KeepBut.blk hk (g' := gb399) (o := .cells #[.slice none 0 0, .slice none 0 0] 30 (0, 0)) (kP BK399) NB399_403.out (by simp))) (aI (aM (Kd.R_mono (Kd.R_keep (IsS123.apart (show IsS123 w _ g403 t400 t410 t411 from IsS123.iI HI403) (rP (Kd.R_mono (Kd.R_far (p := ⟨gb412, 1, none⟩) (Kd.R_far (p := ⟨gb412, 0, none⟩) (Kd.R_types HO406.out BK412.out (by decide)) (fun _ hk => hk.2) (.slice Ao10 t404.length co10)) (fun _ hk => hk.2) (.slice Ao14 t407.length co14)) (fun _ h_ => h_.1))) (by decide)) hk (fun _ h => h.2)) (fun _ h => h.1))) (aI (aM (Kd.R_mono (Kd.R_keep (IsS123.apart (show IsS123 w _ g403 t400 t410 t411 from IsS123.iI HI403) (rP (Kd.R_mono (Kd.R_far (p := ⟨gb412, 1, none⟩) (Kd.R_far (p := ⟨gb412, 0, none⟩) (Kd.R_types HO409.out BK412.out (by decide)) (fun _ hk => hk.2) (.slice Ao10 t404.length co10)) (fun _ hk => hk.2) (.slice Ao14 t407.length co14)) (fun _ h_ => h_.1))) (by decide)) hk (fun _ h => h.2)) (fun _ h => h.1))) (aI (aM (KeepBut.blk hk (g' := gb412) (o := .cells #[.slice Ao10 t404.length co10, .slice Ao14 t407.length co14] 30 (0, 0)) (by (with_reducible repeat (first | refine blk_drewN ?_ _ | refine blk_drew ?_ | refine blk_alloc ?_ _)); refine blk_put (cs := #[.slice Ao10 t404.length co10, .slice none 0 0]) ?_ 1 _ rfl; (with_reducible repeat (first | refine blk_drewN ?_ _ | refine blk_drew ?_ | refine blk_alloc ?_ _)); refine blk_put (cs := #[.slice none 0 0, .slice none 0 0]) ?_ 0 _ rfl; (with_reducible repeat (first | refine blk_drewN ?_ _ | refine blk_drew ?_ | refine blk_alloc ?_ _)); exact BK412.out) NB412_403.out (by simp))) (aI (aM (hb)) (aM (hi)))))); clear BK399 HO406 HO409 BK412 HB HI403; obtain ⟨BK399, HO406, HO409, BK412, HB, HI403⟩ := n_; (try clear hb hk hi)))
 have n0_ := aM (Kd.R_drew HO406.out)
 have n1_ := aM (Kd.R_drew HO409.out)
 have n2_ := aM (blk_drew BK399.out)
 have n3_ := aM (blk_drew BK412.out)
 have n4_ := aM (IsS123.drew HI403.out)
 have n5_ := aM (below_drew1 HB.out)
 clear HO406
 clear HO409
 clear BK399
 clear BK412
 clear HI403
 clear HB
 have HO406 := n0_
 have HO409 := n1_
 have BK399 := n2_
 have BK412 := n3_
 have HI403 := n4_
 have HB := n5_
 clear n0_ n1_ n2_ n3_ n4_ n5_
 refine start_ (n := 7) (S := fun w' => w'.cell? ⟨gb412, 0, none⟩ = some (.slice Ao10 t404.length co10) ∧ w'.cell? ⟨gb412, 1, none⟩ = some (.slice Ao14 t407.length co14)) (ds := []) #[tF, tF, tF, tF, tF, tF, tF] (by kernel_rfl) rfl rfl ⟨(blk_cell BK412.out 0).trans rfl, (blk_cell BK412.out 1).trans rfl⟩ (fun hHeld => ?_)
 generalize w15.drew = w16 at HO406 HO409 BK399 BK412 HI403 HB hHeld ⊢
 refine pure_ (i := 1) (N := some 20) (v := ?_) (a' := ?_) #[tF, tT, tF, tF, tF, tF, tF] rfl rfl (by kernel_rfl) (fun _ _ _ h => h) (Or.inl ⟨by rfl, ?_⟩) ?_ ?_
 rotate_left
 ·intro w'
  go_simp
  with_reducible rfl
 rotate_left
 ·simp only [Act.put, List.setIfInBounds_toArray, List.set_cons_zero, List.set_cons_succ, i64_w, i32_w]
  rfl
 refine pure_ (i := 2) (N := some 21) (v := ?_) (a' := ?_) #[tF, tT, tT, tF, tF, tF, tF] rfl rfl (by kernel_rfl) (fun _ _ _ h => h) (Or.inl ⟨by rfl, ?_⟩) ?_ ?_
 rotate_left
 ·intro w'
  go_simp
  with_reducible rfl
 rotate_left
 ·simp only [Act.put, List.setIfInBounds_toArray, List.set_cons_zero, List.set_cons_succ, i64_w, i32_w]
  rfl
 refine take_ (i := 0) (N := some 19) (v := ?_) (a' := ?_) #[tT, tT, tT, tF, tF, tF, tF] rfl rfl (by kernel_rfl) (fun _ _ _ h => h) (Or.inl ⟨by rfl, ?_⟩) hHeld ?_ ?_
 rotate_left
 ·rintro w' ⟨s0, s1⟩
  go_simp
  with_reducible rfl
 rotate_left
 ·simp only [Act.put, List.setIfInBounds_toArray, List.set_cons_zero, List.set_cons_succ, i64_w, i32_w]
  rfl
 refine one_ (i := 3) (N := some 22) #[tT, tT, tT, tT, tF, tF, tF] rfl rfl (by kernel_rfl) (by decide) (fun K hK => ?_)
 refine goes_ Try.func96 (by kernel_rfl) rfl #[.pointer (some ⟨g403, 0, none⟩)] (by rfl) rfl rfl (by (try simp only [List.map_toArray, List.map_cons, List.map_nil]); first | done | rfl | (simp only [List.length_drop, List.length_take]; rfl)) ?_
 with_reducible refine (spec_l3Data.calls k g403 t400 t414 t415 t416 t417 t418 w _ ?side1 ?side2 A5.out).mono ?_
 (case side1 => repeat (first | (with_reducible first | exact HI403.out | apply IsS123.alloc | apply IsS123.drewN | apply IsS123.drew | apply IsS123.set_1 | apply IsS123.set_2 | refine IsS123.far ?_ NB403_399.out _ | refine IsS123.far ?_ NB403_412.out _) | exact HI403.out))
 (case side2 => repeat (first | (with_reducible first | exact HB.out | apply below_alloc | apply pw_below_drewN | apply below_drew1 | refine below_set ?_ (IsS123.ge HI403.out) | refine below_set ?_ GE399.out | refine below_set ?_ GE412.out) | exact HB.out))
 rintro e w17 ⟨rfl, hi, hb, hk⟩
 refine ⟨_, rfl, ?_⟩
 have n0_ := aM (KeepBut.blk hk (g' := gb399) (o := .cells #[.slice none 0 0, .slice none 0 0] 30 (0, 0)) (kP BK399) NB399_403.out (by simp))
 have n1_ := aM (Kd.R_mono (Kd.R_keep (IsS123.apart (show IsS123 w _ g403 t400 t414 t415 from IsS123.iI HI403) (rP HO406.out) (by decide)) hk (fun _ h => h.2)) (fun _ h => h.1))
 have n2_ := aM (Kd.R_mono (Kd.R_keep (IsS123.apart (show IsS123 w _ g403 t400 t414 t415 from IsS123.iI HI403) (rP HO409.out) (by decide)) hk (fun _ h => h.2)) (fun _ h => h.1))
 have n3_ := aM (KeepBut.blk hk (g' := gb412) (o := .cells #[.slice Ao10 t404.length co10, .slice Ao14 t407.length co14] 30 (0, 0)) (kP BK412) NB412_403.out (by simp))
 have n4_ := aM (hb)
 have n5_ := aM (hi)
 clear BK399
 clear HO406
 clear HO409
 clear BK412
 clear HB
 clear HI403
 have BK399 := n0_
 have HO406 := n1_
 have HO409 := n2_
 have BK412 := n3_
 have HB := n4_
 have HI403 := n5_
 clear n0_ n1_ n2_ n3_ n4_ n5_
 (try clear hb)
 (try clear hb2)
 (try clear hk)
 (try clear hi)
 refine hK.out _ _ ⟨(blk_cell BK412.out 0).trans rfl, (blk_cell BK412.out 1).trans rfl⟩ (fun hHeld => ?_)
 clear hK K
 refine norm_ (a' := ?_) ?_ ?_
 rotate_left
 ·show Act.put _ (some 22) _ = _
  simp only [Act.put, List.setIfInBounds_toArray, List.set_cons_zero, List.set_cons_succ, i64_w, i32_w]
  rfl
 refine one_ (i := 4) (N := none) #[tT, tT, tT, tT, tT, tF, tF] rfl rfl (by kernel_rfl) (by decide) (fun K hK => ?_)
 have hs18 : w17.cell? ⟨gb399, 0, none⟩ = some (.slice none 0 0) := (blk_cell BK399.out 0).trans rfl
 have hfs18 := blk_frozen BK399.out 0
 have hns18_1 := NB412_399.out
 have hms18_1 := NB399_412.out
 have hs19 : w17.cell? ⟨gb399, 1, none⟩ = some (.slice none 0 0) := (blk_cell BK399.out 1).trans rfl
 have hfs19 := blk_frozen BK399.out 1
 have hns19_1 := NB412_399.out
 have hms19_1 := NB399_412.out
 refine skip_ (w1 := ?_) (by rfl) rfl ?_ ?_
 rotate_left
 ·go_simp
  rfl
 refine hK.out _ _ ⟨((cell_far (p := ⟨gb399, _, none⟩) NB412_399.out _).trans (((cell_far (p := ⟨gb399, _, none⟩) NB412_399.out _).trans (hHeld.1)))), ((cell_far (p := ⟨gb399, _, none⟩) NB412_399.out _).trans (((cell_far (p := ⟨gb399, _, none⟩) NB412_399.out _).trans (hHeld.2))))⟩ (fun hHeld => ?_)
 clear hK K
 refine pure_ (i := 5) (N := some 3) (v := ?_) (a' := ?_) #[tT, tT, tT, tT, tT, tT, tF] rfl rfl (by kernel_rfl) (fun _ _ _ h => h) (Or.inl ⟨by rfl, ?_⟩) ?_ ?_
 rotate_left
 ·intro w'
  go_simp
  with_reducible rfl
 rotate_left
 ·simp only [Act.put, List.setIfInBounds_toArray, List.set_cons_zero, List.set_cons_succ, i64_w, i32_w]
  rfl
 refine pure_ (i := 6) (N := some 4) (v := ?_) (a' := ?_) #[tT, tT, tT, tT, tT, tT, tT] rfl rfl (by kernel_rfl) (fun _ _ _ h => h) (Or.inl ⟨by rfl, ?_⟩) ?_ ?_
 rotate_left
 ·intro w'
  go_simp
  with_reducible rfl
 rotate_left
 ·simp only [Act.put, List.setIfInBounds_toArray, List.set_cons_zero, List.set_cons_succ, i64_w, i32_w]
  rfl
 refine done_ (by kernel_rfl) ?_
 try go_wp2
 refine bodyPost_ret (results_ctt rfl _ _ gb399 30 #[.slice Ao10 t404.length co10, .slice Ao14 t407.length co14] (0, 0) _ rfl (by (with_reducible repeat (first | refine blk_drewN ?_ _ | refine blk_drew ?_ | refine blk_alloc ?_ _)); refine blk_put (cs := #[.slice Ao10 t404.length co10, .slice none 0 0]) ?_ 1 _ rfl; (with_reducible repeat (first | refine blk_drewN ?_ _ | refine blk_drew ?_ | refine blk_alloc ?_ _)); refine blk_put (cs := #[.slice none 0 0, .slice none 0 0]) ?_ 0 _ rfl; (with_reducible repeat (first | refine blk_drewN ?_ _ | refine blk_drew ?_ | refine blk_alloc ?_ _)); exact BK399.out) Try.underlying30 rfl (by kernel_rfl)) rfl ?_
 exact ⟨_, _, eW, by (with_reducible repeat (first | apply Kd.R_alloc | apply Kd.R_drewN | apply Kd.R_drew)); exact Kd.R_mono (Kd.R_far (p := ⟨gb399, 1, none⟩) (Kd.R_far (p := ⟨gb399, 0, none⟩) (Kd.R_types HO406.out BK399.out (by decide)) (fun _ hk => hk.2) (.slice Ao10 t404.length co10)) (fun _ hk => hk.2) (.slice Ao14 t407.length co14)) (fun _ hk => trivial), by (with_reducible repeat (first | apply Kd.R_alloc | apply Kd.R_drewN | apply Kd.R_drew)); exact Kd.R_mono (Kd.R_far (p := ⟨gb399, 1, none⟩) (Kd.R_far (p := ⟨gb399, 0, none⟩) (Kd.R_types HO409.out BK399.out (by decide)) (fun _ hk => hk.2) (.slice Ao10 t404.length co10)) (fun _ hk => hk.2) (.slice Ao14 t407.length co14)) (fun _ hk => trivial), bB⟩

end Go.Proofs.Ytgmpdkefegofhaa.PFnFlushed
