-- Written by xprint.py, a program of this session over the kit's print. Not trusted: Lean checks it.
import Derived.Test.YtgmpdkefegofhaaPFnFlushedx0
import Derived.Test.YtgmpdkefegofhaaPFnFlushedx1
import Derived.Test.YtgmpdkefegofhaaPFnFlushedx4
import Derived.Test.YtgmpdkefegofhaaPFnFlushedx6
namespace Go.Proofs.Ytgmpdkefegofhaa.PFnFlushed
open Go.RowKit Go.Proofs.YtgmpdkefegofhaaW.PrintWords Go.Proofs.YtgmpdkefegofhaaW.PrintLast Go.Proofs.YtgmpdkefegofhaaW.PrintMore
attribute [local go_sem] max2_int min2_int max_two min_two max_three min_three max_four min_four   -- for this text's walks alone
set_option linter.unusedVariables false
set_option linter.unusedSimpArgs false

attribute [local go_sem high] eqA65
/-! ### spec_DrawFall: function 47 -/
def spec_DrawFall.f (k : Nat) (l0 : List Int) : Option (List ByteArray × (List (S65)) × List Bool) := (spec_l1New.f k l0).bind fun bt365 => ((spec_l3Draw.f k bt365.1 bt365.2.1 bt365.2.2).bind fun bt369 => ((spec_l3Keep.f k bt365.1 bt369.2.2.1 bt369.2.2.2).bind fun bt378 => (some (bt369.1, bt369.2.1, bt378.1))))
theorem spec_DrawFall.mono : ∀ a0 k, LeO (spec_DrawFall.f k a0) (spec_DrawFall.f (k + 1) a0) := by
 intro a0 k
 unfold spec_DrawFall.f
 have m0_ := @spec_l1New.mono
 have m1_ := @spec_l3Draw.mono
 have m2_ := @spec_l3Keep.mono
 exact mM
set_option maxHeartbeats 8000000 in
set_option maxRecDepth 100000 in
theorem spec_DrawFall.calls (k : Nat) (A0 : Option Addr) (c0 : Nat) (l0 : List Int) (r1 : List ByteArray) (r2 : List (S65)) (r3 : List Bool) (w : World) (hr0 : Kd.C (Kd.int .u8) w A0 l0.length l0) (hc0 : l0.length ≤ c0) (h : spec_DrawFall.f k l0 = some (r1, r2, r3)) :
  Calls Try.prog 47 #[.slice A0 l0.length c0] w fun e w' => ∃ v0_ v1_ v2_ : Value, e = .returned (.tuple #[.agg #[v0_, v1_], v2_]) ∧ Kd.R Kd.string 9 w' w.heap.size (fun _ => True) v0_ r1 ∧ Kd.R k65 65 w' w.heap.size (fun _ => True) v1_ r2 ∧ Kd.R Kd.bool 4 w' w.heap.size (fun _ => True) v2_ r3 ∧ Below w.heap.size w w' := by
 have hu30 := Try.underlying30
 have HR0 := aM hr0
 have HC0 := aM hc0
 clear hr0 hc0
 have HB := aM (Below.refl w.heap.size w)
 unfold spec_DrawFall.f at h
 have H := h
 clear h
 replace H := Option.bind_eq_some_iff.mp H
 obtain ⟨⟨t365, t366, t367⟩, A20, H⟩ := H
 try dsimp only at H
 have A2 := aM A20
 clear A20
 replace H := Option.bind_eq_some_iff.mp H
 obtain ⟨⟨t369, t372, t375, t376⟩, A30, H⟩ := H
 try dsimp only at H
 have A3 := aM A30
 clear A30
 replace H := Option.bind_eq_some_iff.mp H
 obtain ⟨⟨t378, t381, t382⟩, A40, H⟩ := H
 try dsimp only at H
 have A4 := aM A40
 clear A40
 simp only [Option.some.injEq, Prod.mk.injEq] at H
 obtain ⟨rfl, rfl, rfl⟩ := H
 go_enter Try.func47, Try.ntmps47
 try go_wp2_with (first | ((with_reducible refine gate_dst (N := 2) rfl ?_); refine bE 2 #[.slice none 0 0, .slice none 0 0] 30 ?_; intro gb364 hg w5 hbox hb; have n_ := aI (sB HB hb) (aI (aM hbox) (aI (gE HB hg) (gE HB hg))); clear HB; obtain ⟨HB, BK364, GW364, GE364⟩ := n_; (try clear hb hbox hg)) | ((with_reducible refine gate_callee (f := 88) rfl ?_); refine gL (some 7) Try.func88 #[.slice A0 l0.length c0] ?_; (with_reducible refine (spec_l1New.calls k _ _ l0 t365 t366 t367 w _ ?side1 ?side2 ?side3 A2.out).mono ?_); (case side1 => repeat (first | (with_reducible first | exact HB.out | apply below_alloc | apply pw_below_drewN | apply below_drew1 | refine below_set ?_ GE364.out) | exact HB.out)); (case side2 => exact HR0.out); (case side3 => exact HC0.out); rintro e w6 ⟨g368, rfl, hi, hb, hb2⟩; refine ⟨_, rfl, ?_⟩; have n_ := aI (aM (blk_below (g := gb364) (o := .cells #[.slice none 0 0, .slice none 0 0] 30 (0, 0)) (kP BK364) hb2)) (aI (aM (hb)) (aI (aM (hi)) (aI (aM (IsS123.ne_blk hi (blk_below (g := gb364) (o := .cells #[.slice none 0 0, .slice none 0 0] 30 (0, 0)) (kP BK364) hb2) (by decide))) (aM (Ne.symm (IsS123.ne_blk hi (blk_below (g := gb364) (o := .cells #[.slice none 0 0, .slice none 0 0] 30 (0, 0)) (kP BK364) hb2) (by decide))))))); clear BK364 HB; obtain ⟨BK364, HB, HI368, NB368_364, NB364_368⟩ := n_; (try clear hb hb2 hi)) | ((with_reducible refine gate_callee (f := 89) rfl ?_); refine gL (some 9) Try.func89 #[.pointer (some ⟨g368, 0, none⟩)] ?_; (with_reducible refine (spec_l3Draw.calls k g368 t365 t366 t367 t369 t372 t375 t376 w _ ?side1 ?side2 A3.out).mono ?_); (case side1 => repeat (first | (with_reducible first | exact HI368.out | apply IsS123.alloc | apply IsS123.drewN | apply IsS123.drew | apply IsS123.set_1 | apply IsS123.set_2 | refine IsS123.far ?_ NB368_364.out _) | exact HI368.out)); (case side2 => repeat (first | (with_reducible first | exact HB.out | apply below_alloc | apply pw_below_drewN | apply below_drew1 | refine below_set ?_ (IsS123.ge HI368.out) | refine below_set ?_ GE364.out) | exact HB.out)); rintro e w7 ⟨v370, v373, rfl, ho0, ho1, hi, hb, hk⟩; refine ⟨_, rfl, ?_⟩; have n_ := aI (aM (KeepBut.blk hk (g' := gb364) (o := .cells #[.slice none 0 0, .slice none 0 0] 30 (0, 0)) (kP BK364) NB364_368.out (by simp))) (aI (lR HB ho0) (aI (lR HB ho1) (aI (aM (hb)) (aM (hi))))); clear BK364 HB HI368; obtain ⟨BK364, HO371, HO374, HB, HI368⟩ := n_; (try clear hb hk hi ho0 ho1)) | ((with_reducible refine gate_dst (N := 5) rfl ?_); refine bE 5 #[.slice none 0 0, .slice none 0 0] 30 ?_; intro gb377 hg w8 hbox hb; have n_ := aI (rB HO371 hb) (aI (rB HO374 hb) (aI (kB BK364 hb) (aI (aM (IsS123.below (IsS123.iI HI368) hb)) (aI (sB HB hb) (aI (aM hbox) (aI (gE HB hg) (aI (gE HB hg) (aI (nL BK364 hg) (aI (nG BK364 hg) (aI (aM ((by rw [hg]; exact Nat.ne_of_lt (IsS123.lt (show IsS123 w _ g368 t365 t375 t376 from IsS123.iI HI368)) : g368 ≠ gb377))) (aM ((by rw [hg]; exact Nat.ne_of_gt (IsS123.lt (show IsS123 w _ g368 t365 t375 t376 from IsS123.iI HI368)) : gb377 ≠ g368))))))))))))); clear HO371 HO374 BK364 HI368 HB; obtain ⟨HO371, HO374, BK364, HI368, HB, BK377, GW377, GE377, NB364_377, NB377_364, NB368_377, NB377_368⟩ := n_; (try clear hb hbox hg); obtain ⟨Ao9, co9, eo9⟩ := Kd.R_slice HO371.out; subst eo9; have hnb10 := NB377_364.out; have hnc10 := NB364_377.out; have hnb11 := NB377_368.out; have hnc11 := NB368_377.out; have hcz12_0 := cZ0 BK377; have hcz12_1 := cZ1 BK377; have hfz12_0 := blk_frozen BK377.out 0; have hfz12_1 := blk_frozen BK377.out 1; obtain ⟨Ao13, co13, eo13⟩ := Kd.R_slice HO374.out; subst eo13))
 have n0_ : Aside0 (Kd.R Kd.string 9 ((w8.setCell ⟨gb377, 0, none⟩ (.slice Ao9 t369.length co9)).setCell ⟨gb377, 1, none⟩ (.slice Ao13 t372.length co13)) w.heap.size (fun _ => True) (.slice Ao9 t369.length co9) t369) := ⟨rP (Kd.R_mono (Kd.R_far (p := ⟨gb377, 1, none⟩) (Kd.R_far (p := ⟨gb377, 0, none⟩) (Kd.R_types HO371.out BK377.out (by decide)) (fun _ hk => hk.2) (.slice Ao9 t369.length co9)) (fun _ hk => hk.2) (.slice Ao13 t372.length co13)) (fun _ hk => trivial))⟩
 have n1_ : Aside0 (Kd.R k65 65 ((w8.setCell ⟨gb377, 0, none⟩ (.slice Ao9 t369.length co9)).setCell ⟨gb377, 1, none⟩ (.slice Ao13 t372.length co13)) w.heap.size (fun _ => True) (.slice Ao13 t372.length co13) t372) := ⟨rP (Kd.R_mono (Kd.R_far (p := ⟨gb377, 1, none⟩) (Kd.R_far (p := ⟨gb377, 0, none⟩) (Kd.R_types HO374.out BK377.out (by decide)) (fun _ hk => hk.2) (.slice Ao9 t369.length co9)) (fun _ hk => hk.2) (.slice Ao13 t372.length co13)) (fun _ hk => trivial))⟩
 have n2_ : Aside0 (((w8.setCell ⟨gb377, 0, none⟩ (.slice Ao9 t369.length co9)).setCell ⟨gb377, 1, none⟩ (.slice Ao13 t372.length co13)).heap[gb364]? = some (.cells #[.slice none 0 0, .slice none 0 0] 30 (0, 0))) := ⟨kP BK364⟩
 have n3_ : Aside0 (((w8.setCell ⟨gb377, 0, none⟩ (.slice Ao9 t369.length co9)).setCell ⟨gb377, 1, none⟩ (.slice Ao13 t372.length co13)).heap[gb377]? = some (.cells #[.slice Ao9 t369.length co9, .slice Ao13 t372.length co13] 30 (0, 0))) := ⟨by (with_reducible repeat (first | refine blk_drewN ?_ _ | refine blk_drew ?_ | refine blk_alloc ?_ _)); refine blk_put (cs := #[.slice Ao9 t369.length co9, .slice none 0 0]) ?_ 1 _ rfl; (with_reducible repeat (first | refine blk_drewN ?_ _ | refine blk_drew ?_ | refine blk_alloc ?_ _)); refine blk_put (cs := #[.slice none 0 0, .slice none 0 0]) ?_ 0 _ rfl; (with_reducible repeat (first | refine blk_drewN ?_ _ | refine blk_drew ?_ | refine blk_alloc ?_ _)); exact BK377.out⟩
 have n4_ : Aside0 (IsS123 w ((w8.setCell ⟨gb377, 0, none⟩ (.slice Ao9 t369.length co9)).setCell ⟨gb377, 1, none⟩ (.slice Ao13 t372.length co13)) g368 t365 t375 t376) := ⟨IsS123.iI HI368⟩
 have n5_ : Aside0 (Below w.heap.size w ((w8.setCell ⟨gb377, 0, none⟩ (.slice Ao9 t369.length co9)).setCell ⟨gb377, 1, none⟩ (.slice Ao13 t372.length co13))) := ⟨bB⟩
 (try clear HO371)
 (try clear HO374)
 (try clear BK364)
 (try clear BK377)
 (try clear HI368)
 (try clear HB)
 generalize ((w8.setCell ⟨gb377, 0, none⟩ (.slice Ao9 t369.length co9)).setCell ⟨gb377, 1, none⟩ (.slice Ao13 t372.length co13)) = w14 at n0_ n1_ n2_ n3_ n4_ n5_ ⊢
 have HO371 := n0_
 have HO374 := n1_
 have BK364 := n2_
 have BK377 := n3_
 have HI368 := n4_
 have HB := n5_
 clear n0_ n1_ n2_ n3_ n4_ n5_
 have n0_ := aM (Kd.R_drew HO371.out)
 have n1_ := aM (Kd.R_drew HO374.out)
 have n2_ := aM (blk_drew BK364.out)
 have n3_ := aM (blk_drew BK377.out)
 have n4_ := aM (IsS123.drew HI368.out)
 have n5_ := aM (below_drew1 HB.out)
 clear HO371
 clear HO374
 clear BK364
 clear BK377
 clear HI368
 clear HB
 have HO371 := n0_
 have HO374 := n1_
 have BK364 := n2_
 have BK377 := n3_
 have HI368 := n4_
 have HB := n5_
 clear n0_ n1_ n2_ n3_ n4_ n5_
 refine start_ (n := 5) (S := fun w' => w'.cell? ⟨gb377, 0, none⟩ = some (.slice Ao9 t369.length co9) ∧ w'.cell? ⟨gb377, 1, none⟩ = some (.slice Ao13 t372.length co13)) (ds := []) #[tF, tF, tF, tF, tF] (by kernel_rfl) rfl rfl ⟨(blk_cell BK377.out 0).trans rfl, (blk_cell BK377.out 1).trans rfl⟩ (fun hHeld => ?_)
 generalize w14.drew = w15 at HO371 HO374 BK364 BK377 HI368 HB hHeld ⊢
 refine pure_ (i := 1) (N := some 11) (v := ?_) (a' := ?_) #[tF, tT, tF, tF, tF] rfl rfl (by kernel_rfl) (fun _ _ _ h => h) (Or.inl ⟨by rfl, ?_⟩) ?_ ?_
 rotate_left
 ·intro w'
  go_simp
  with_reducible rfl
 rotate_left
 ·simp only [Act.put, List.setIfInBounds_toArray, List.set_cons_zero, List.set_cons_succ, i64_w, i32_w]
  rfl
 refine take_ (i := 0) (N := some 10) (v := ?_) (a' := ?_) #[tT, tT, tF, tF, tF] rfl rfl (by kernel_rfl) (fun _ _ _ h => h) (Or.inl ⟨by rfl, ?_⟩) hHeld ?_ ?_
 rotate_left
 ·rintro w' ⟨s0, s1⟩
  go_simp
  with_reducible rfl
 rotate_left
 ·simp only [Act.put, List.setIfInBounds_toArray, List.set_cons_zero, List.set_cons_succ, i64_w, i32_w]
  rfl
 refine one_ (i := 2) (N := some 12) #[tT, tT, tT, tF, tF] rfl rfl (by kernel_rfl) (by decide) (fun K hK => ?_)
 refine goes_ Try.func90 (by kernel_rfl) rfl #[.pointer (some ⟨g368, 0, none⟩)] (by rfl) rfl rfl (by (try simp only [List.map_toArray, List.map_cons, List.map_nil]); first | done | rfl | (simp only [List.length_drop, List.length_take]; rfl)) ?_
 with_reducible refine (spec_l3Keep.calls k g368 t365 t375 t376 t378 t381 t382 w _ ?side1 ?side2 A4.out).mono ?_
 (case side1 => repeat (first | (with_reducible first | exact HI368.out | apply IsS123.alloc | apply IsS123.drewN | apply IsS123.drew | apply IsS123.set_1 | apply IsS123.set_2 | refine IsS123.far ?_ NB368_364.out _ | refine IsS123.far ?_ NB368_377.out _) | exact HI368.out))
 (case side2 => repeat (first | (with_reducible first | exact HB.out | apply below_alloc | apply pw_below_drewN | apply below_drew1 | refine below_set ?_ (IsS123.ge HI368.out) | refine below_set ?_ GE364.out | refine below_set ?_ GE377.out) | exact HB.out))
 rintro e w16 ⟨v379, rfl, ho0, hi, hb, hk⟩
 refine ⟨_, rfl, ?_⟩
 have n0_ := aM (KeepBut.blk hk (g' := gb364) (o := .cells #[.slice none 0 0, .slice none 0 0] 30 (0, 0)) (kP BK364) NB364_368.out (by simp))
 have n1_ := aM (Kd.R_mono (Kd.R_keep (IsS123.apart (show IsS123 w _ g368 t365 t375 t376 from IsS123.iI HI368) (rP HO371.out) (by decide)) hk (fun _ h => h.2)) (fun _ h => h.1))
 have n2_ := aM (Kd.R_mono (Kd.R_keep (IsS123.apart (show IsS123 w _ g368 t365 t375 t376 from IsS123.iI HI368) (rP HO374.out) (by decide)) hk (fun _ h => h.2)) (fun _ h => h.1))
 have n3_ := aM (KeepBut.blk hk (g' := gb377) (o := .cells #[.slice Ao9 t369.length co9, .slice Ao13 t372.length co13] 30 (0, 0)) (kP BK377) NB377_368.out (by simp))
 have n4_ := lR HB ho0
 have n5_ := aM (hb)
 have n6_ := aM (hi)
 clear BK364
 clear HO371
 clear HO374
 clear BK377
 clear HB
 clear HI368
 have BK364 := n0_
 have HO371 := n1_
 have HO374 := n2_
 have BK377 := n3_
 have HO380 := n4_
 have HB := n5_
 have HI368 := n6_
 clear n0_ n1_ n2_ n3_ n4_ n5_ n6_
 (try clear hb)
 (try clear hb2)
 (try clear hk)
 (try clear hi)
 (try clear ho0)
 refine hK.out _ _ ⟨(blk_cell BK377.out 0).trans rfl, (blk_cell BK377.out 1).trans rfl⟩ (fun hHeld => ?_)
 clear hK K
 refine norm_ (a' := ?_) ?_ ?_
 rotate_left
 ·show Act.put _ (some 12) _ = _
  simp only [Act.put, List.setIfInBounds_toArray, List.set_cons_zero, List.set_cons_succ, i64_w, i32_w]
  rfl
 refine one_ (i := 3) (N := none) #[tT, tT, tT, tT, tF] rfl rfl (by kernel_rfl) (by decide) (fun K hK => ?_)
 have hs17 : w16.cell? ⟨gb364, 0, none⟩ = some (.slice none 0 0) := (blk_cell BK364.out 0).trans rfl
 have hfs17 := blk_frozen BK364.out 0
 have hns17_1 := NB377_364.out
 have hms17_1 := NB364_377.out
 have hs18 : w16.cell? ⟨gb364, 1, none⟩ = some (.slice none 0 0) := (blk_cell BK364.out 1).trans rfl
 have hfs18 := blk_frozen BK364.out 1
 have hns18_1 := NB377_364.out
 have hms18_1 := NB364_377.out
 refine skip_ (w1 := ?_) (by rfl) rfl ?_ ?_
 rotate_left
 ·go_simp
  rfl
 refine hK.out _ _ ⟨((cell_far (p := ⟨gb364, _, none⟩) NB377_364.out _).trans (((cell_far (p := ⟨gb364, _, none⟩) NB377_364.out _).trans (hHeld.1)))), ((cell_far (p := ⟨gb364, _, none⟩) NB377_364.out _).trans (((cell_far (p := ⟨gb364, _, none⟩) NB377_364.out _).trans (hHeld.2))))⟩ (fun hHeld => ?_)
 clear hK K
 refine pure_ (i := 4) (N := some 3) (v := ?_) (a' := ?_) #[tT, tT, tT, tT, tT] rfl rfl (by kernel_rfl) (fun _ _ _ h => h) (Or.inl ⟨by rfl, ?_⟩) ?_ ?_
 rotate_left
 ·intro w'
  go_simp
  with_reducible rfl
 rotate_left
 ·simp only [Act.put, List.setIfInBounds_toArray, List.set_cons_zero, List.set_cons_succ, i64_w, i32_w]
  rfl
 refine done_ (by kernel_rfl) ?_
 try go_wp2
 refine bodyPost_ret (results_ct rfl _ _ gb364 30 #[.slice Ao9 t369.length co9, .slice Ao13 t372.length co13] (0, 0) _ rfl (by (with_reducible repeat (first | refine blk_drewN ?_ _ | refine blk_drew ?_ | refine blk_alloc ?_ _)); refine blk_put (cs := #[.slice Ao9 t369.length co9, .slice none 0 0]) ?_ 1 _ rfl; (with_reducible repeat (first | refine blk_drewN ?_ _ | refine blk_drew ?_ | refine blk_alloc ?_ _)); refine blk_put (cs := #[.slice none 0 0, .slice none 0 0]) ?_ 0 _ rfl; (with_reducible repeat (first | refine blk_drewN ?_ _ | refine blk_drew ?_ | refine blk_alloc ?_ _)); exact BK364.out) Try.underlying30 rfl (by kernel_rfl)) rfl ?_
 exact ⟨_, _, _, eW, by (with_reducible repeat (first | apply Kd.R_alloc | apply Kd.R_drewN | apply Kd.R_drew)); exact Kd.R_mono (Kd.R_far (p := ⟨gb364, 1, none⟩) (Kd.R_far (p := ⟨gb364, 0, none⟩) (Kd.R_types HO371.out BK364.out (by decide)) (fun _ hk => hk.2) (.slice Ao9 t369.length co9)) (fun _ hk => hk.2) (.slice Ao13 t372.length co13)) (fun _ hk => trivial), by (with_reducible repeat (first | apply Kd.R_alloc | apply Kd.R_drewN | apply Kd.R_drew)); exact Kd.R_mono (Kd.R_far (p := ⟨gb364, 1, none⟩) (Kd.R_far (p := ⟨gb364, 0, none⟩) (Kd.R_types HO374.out BK364.out (by decide)) (fun _ hk => hk.2) (.slice Ao9 t369.length co9)) (fun _ hk => hk.2) (.slice Ao13 t372.length co13)) (fun _ hk => trivial), by (with_reducible repeat (first | apply Kd.R_alloc | apply Kd.R_drewN | apply Kd.R_drew)); exact Kd.R_mono (Kd.R_far (p := ⟨gb364, 1, none⟩) (Kd.R_far (p := ⟨gb364, 0, none⟩) (Kd.R_types HO380.out BK364.out (by decide)) (fun _ hk => hk.2) (.slice Ao9 t369.length co9)) (fun _ hk => hk.2) (.slice Ao13 t372.length co13)) (fun _ hk => trivial), bB⟩

/-! ### spec_l1Texts: function 91 -/
def spec_l1Texts.l0 : Nat → List ByteArray → List ByteArray → Int → Option (Bool)
 | 0, _, _, _ => none
 | k + 1, x0, x1, x5 => if x5 < (x0.length : Int) then (if 0 ≤ x5 then (if x5 < (x1.length : Int) then (if (rdOf ByteArray.empty x0 x5).toList = (rdOf ByteArray.empty x1 x5).toList then (spec_l1Texts.l0 k x0 x1 (wrap64 (x5 + 1))) else (some false)) else (none)) else (none)) else (some true)
def spec_l1Texts.f (k : Nat) (l0 : List ByteArray) (l1 : List ByteArray) : Option (Bool) := if (l0.length : Int) = (l1.length : Int) then (spec_l1Texts.l0 k l0 l1 0) else (some false)
theorem spec_l1Texts.mono_l : ∀ k, (∀ y0 y1 y2, LeO (spec_l1Texts.l0 k y0 y1 y2) (spec_l1Texts.l0 (k + 1) y0 y1 y2))
 | 0 => fun _ _ _ r h => by simp [spec_l1Texts.l0] at h
 | k + 1 => by
  have ih0 := spec_l1Texts.mono_l k
  ·intro y0 y1 y2
   unfold spec_l1Texts.l0
   exact mM
theorem spec_l1Texts.mono : ∀ a0 a1 k, LeO (spec_l1Texts.f k a0 a1) (spec_l1Texts.f (k + 1) a0 a1) := by
 intro a0 a1 k
 have ih0 := spec_l1Texts.mono_l k
 unfold spec_l1Texts.f
 exact mM
set_option maxHeartbeats 8000000 in
set_option maxRecDepth 100000 in
theorem spec_l1Texts.calls (k : Nat) (A0 : Option Addr) (c0 : Nat) (l0 : List ByteArray) (A1 : Option Addr) (c1 : Nat) (l1 : List ByteArray) (r : Bool) (w : World) (hr0 : Kd.C Kd.string w A0 l0.length l0) (hc0 : l0.length ≤ c0) (hr1 : Kd.C Kd.string w A1 l1.length l1) (hc1 : l1.length ≤ c1) (h : spec_l1Texts.f k l0 l1 = some r) :
  Calls Try.prog 91 #[.slice A0 l0.length c0, .slice A1 l1.length c1] w fun e w' => e = .returned (.bool r) ∧ Drawn0 w w' := by
 have HR0 := aM hr0
 have HC0 := aM hc0
 clear hr0 hc0
 have HR1 := aM hr1
 have HC1 := aM hc1
 clear hr1 hc1
 unfold spec_l1Texts.f at h
 have H := h
 clear h
 by_cases c3 : (l0.length : Int) = (l1.length : Int)
 ·rw [if_pos c3] at H
  have c3b0 : ((l0.length : Int) == (l1.length : Int)) = true := beq_iff_eq.mpr c3
  have c3b1 : ((l0.length : Int) != (l1.length : Int)) = false := bne_eq_false_iff_eq.mpr c3
  have c3b2 : (l0.length == l1.length) = true := by first | simpa using c3 | (simp at c3 ⊢; omega)
  clear c3
  have H' := aM H
  clear H
  go_enter Try.func91, Try.ntmps91
  go_wp2
  repeat (go_quiet (fail); try go_wp2)
  go_loopg [5] k (fun kq v5 w' => ∃ (x5_1 : Int), v5 = .int .i64 x5_1 ∧ Aside0 (spec_l1Texts.l0 kq l0 l1 x5_1 = some r) ∧ Aside0 (kq ≤ k) ∧ Drawn0 w w')
  case atStart => exact ⟨(0), (by first | rfl | (simp; done) | (simp [*]; done) | (simp; exact (by intro l_; cases l_ <;> rfl : ∀ l_ : List UInt8, l_.isEmpty = !(l_ != [])) _)), H', ⟨Nat.le_refl _⟩, by repeat (first | exact Drawn0.refl _ | apply Drawn0.step)⟩
  case round =>
   clear H'
   try clear c1
   try clear p2
   try clear c3
   try clear c3b0
   try clear c3b1
   try clear c3b2
   obtain ⟨x5_1, rfl, HA, HK1, ⟨m1, rfl⟩⟩ := hrel
   cases gk with
   | zero => exact absurd HA.out (by simp [spec_l1Texts.l0])
   | succ k1 =>
    have H := HA.out
    clear HA
    simp only [spec_l1Texts.l0] at H
    by_cases c4 : x5_1 < (l0.length : Int)
    ·rw [if_pos c4] at H
     have c4b0 : decide (x5_1 < (l0.length : Int)) = true := decide_eq_true c4
     clear c4
     by_cases c5 : 0 ≤ x5_1
     ·rw [if_pos c5] at H
      have c5b0 : decide (0 ≤ x5_1) = true := decide_eq_true c5
      clear c5
      by_cases c6 : x5_1 < (l1.length : Int)
      ·rw [if_pos c6] at H
       have c6b0 : decide (x5_1 < (l1.length : Int)) = true := decide_eq_true c6
       clear c6
       by_cases c7 : (rdOf ByteArray.empty l0 x5_1).toList = (rdOf ByteArray.empty l1 x5_1).toList
       ·rw [if_pos c7] at H
        have c7b0 : ((rdOf ByteArray.empty l0 x5_1).toList == (rdOf ByteArray.empty l1 x5_1).toList) = true := beq_iff_eq.mpr c7
        have c7b1 : ((rdOf ByteArray.empty l0 x5_1).toList != (rdOf ByteArray.empty l1 x5_1).toList) = false := bne_eq_false_iff_eq.mpr c7
        clear c7
        have H' := aM H
        clear H
        have p383 : 0 ≤ (x5_1 : Int) := dT
        have q383 : x5_1 < (l0.length : Int) := dT
        obtain ⟨ad383, e383, hx383_0⟩ := Kd.at_string HR0.out x5_1 p383 q383
        cases e383
        replace p383 := eq_true p383
        replace q383 := eq_true q383
        have p384 : 0 ≤ (x5_1 : Int) := dT
        have q384 : x5_1 < (l1.length : Int) := dT
        obtain ⟨ad384, e384, hx384_0⟩ := Kd.at_string HR1.out x5_1 p384 q384
        cases e384
        replace p384 := eq_true p384
        replace q384 := eq_true q384
        go_wp2
        repeat (go_quiet (fail); try go_wp2)
        go_roundg k1
        case measure => have := HK1.out; omega
        case rel => exact ⟨(wrap64 (x5_1 + 1)), (by first | rfl | (simp; done) | (simp [*]; done) | (simp; exact (by intro l_; cases l_ <;> rfl : ∀ l_ : List UInt8, l_.isEmpty = !(l_ != [])) _)), H', ⟨by have := HK1.out; omega⟩, by repeat (first | exact Drawn0.refl _ | apply Drawn0.step)⟩
       ·rw [if_neg c7] at H
        have c7b0 : ((rdOf ByteArray.empty l0 x5_1).toList == (rdOf ByteArray.empty l1 x5_1).toList) = false := beq_eq_false_iff_ne.mpr c7
        have c7b1 : ((rdOf ByteArray.empty l0 x5_1).toList != (rdOf ByteArray.empty l1 x5_1).toList) = true := bne_iff_ne.mpr c7
        obtain rfl := Option.some.inj H
        have p383 : 0 ≤ (x5_1 : Int) := dT
        have q383 : x5_1 < (l0.length : Int) := dT
        obtain ⟨ad383, e383, hx383_0⟩ := Kd.at_string HR0.out x5_1 p383 q383
        cases e383
        replace p383 := eq_true p383
        replace q383 := eq_true q383
        have p384 : 0 ≤ (x5_1 : Int) := dT
        have q384 : x5_1 < (l1.length : Int) := dT
        obtain ⟨ad384, e384, hx384_0⟩ := Kd.at_string HR1.out x5_1 p384 q384
        cases e384
        replace p384 := eq_true p384
        replace q384 := eq_true q384
        go_wp2
        repeat (go_quiet (fail); try go_wp2)
        go_ret
        exact ⟨by first | rfl | (simp; done) | (simp [*]; done), by repeat (first | exact Drawn0.refl _ | apply Drawn0.step)⟩
      ·rw [if_neg c6] at H
       exact absurd H (by simp)
     ·rw [if_neg c5] at H
      exact absurd H (by simp)
    ·rw [if_neg c4] at H
     have c4b0 : decide (x5_1 < (l0.length : Int)) = false := decide_eq_false c4
     clear c4
     obtain rfl := Option.some.inj H
     go_wp2
     repeat (go_quiet (fail); try go_wp2)
     go_ret
     exact ⟨by first | rfl | (simp; done) | (simp [*]; done), by repeat (first | exact Drawn0.refl _ | apply Drawn0.step)⟩
 rw [if_neg c3] at H
 have c3b0 : ((l0.length : Int) == (l1.length : Int)) = false := beq_eq_false_iff_ne.mpr c3
 have c3b1 : ((l0.length : Int) != (l1.length : Int)) = true := bne_iff_ne.mpr c3
 have c3b2 : (l0.length == l1.length) = false := by first | simpa using c3 | (simp at c3 ⊢; omega)
 obtain rfl := Option.some.inj H
 go_enter Try.func91, Try.ntmps91
 go_wp2
 repeat (go_quiet (fail); try go_wp2)
 go_ret
 exact ⟨by first | rfl | (simp; done) | (simp [*]; done), by repeat (first | exact Drawn0.refl _ | apply Drawn0.step)⟩

/-! ### spec_l3Puts: function 92 -/
def spec_l3Puts.l0 : Nat → List (S65) → List (S65) → Int → Option (Bool)
 | 0, _, _, _ => none
 | k + 1, x0, x1, x5 => if x5 < (x0.length : Int) then (if 0 ≤ x5 then (if x5 < (x1.length : Int) then (if (!(((rd_T65 x0 x5).f0) == ((rd_T65 x1 x5).f0)) || (!((((rd_T65 x0 x5).f1).toList) == (((rd_T65 x1 x5).f1).toList)))) = true then (some false) else (spec_l3Puts.l0 k x0 x1 (wrap64 (x5 + 1)))) else (none)) else (none)) else (some true)
def spec_l3Puts.f (k : Nat) (l0 : List (S65)) (l1 : List (S65)) : Option (Bool) := if (l0.length : Int) = (l1.length : Int) then (spec_l3Puts.l0 k l0 l1 0) else (some false)
theorem spec_l3Puts.mono_l : ∀ k, (∀ y0 y1 y2, LeO (spec_l3Puts.l0 k y0 y1 y2) (spec_l3Puts.l0 (k + 1) y0 y1 y2))
 | 0 => fun _ _ _ r h => by simp [spec_l3Puts.l0] at h
 | k + 1 => by
  have ih0 := spec_l3Puts.mono_l k
  ·intro y0 y1 y2
   unfold spec_l3Puts.l0
   exact mM
theorem spec_l3Puts.mono : ∀ a0 a1 k, LeO (spec_l3Puts.f k a0 a1) (spec_l3Puts.f (k + 1) a0 a1) := by
 intro a0 a1 k
 have ih0 := spec_l3Puts.mono_l k
 unfold spec_l3Puts.f
 exact mM
set_option maxHeartbeats 8000000 in
set_option maxRecDepth 100000 in
theorem spec_l3Puts.calls (k : Nat) (A0 : Option Addr) (c0 : Nat) (l0 : List (S65)) (A1 : Option Addr) (c1 : Nat) (l1 : List (S65)) (r : Bool) (w : World) (hr0 : Kd.C k65 w A0 l0.length l0) (hc0 : l0.length ≤ c0) (hr1 : Kd.C k65 w A1 l1.length l1) (hc1 : l1.length ≤ c1) (h : spec_l3Puts.f k l0 l1 = some r) :
  Calls Try.prog 92 #[.slice A0 l0.length c0, .slice A1 l1.length c1] w fun e w' => e = .returned (.bool r) ∧ Drawn0 w w' := by
 have hu65 := Try.underlying65
 have HR0 := aM hr0
 have HC0 := aM hc0
 clear hr0 hc0
 have HR1 := aM hr1
 have HC1 := aM hc1
 clear hr1 hc1
 unfold spec_l3Puts.f at h
 have H := h
 clear h
 by_cases c3 : (l0.length : Int) = (l1.length : Int)
 ·rw [if_pos c3] at H
  have c3b0 : ((l0.length : Int) == (l1.length : Int)) = true := beq_iff_eq.mpr c3
  have c3b1 : ((l0.length : Int) != (l1.length : Int)) = false := bne_eq_false_iff_eq.mpr c3
  have c3b2 : (l0.length == l1.length) = true := by first | simpa using c3 | (simp at c3 ⊢; omega)
  clear c3
  have H' := aM H
  clear H
  go_enter Try.func92, Try.ntmps92
  go_wp2
  repeat (go_quiet (fail); try go_wp2)
  go_loopg [5] k (fun kq v5 w' => ∃ (x5_1 : Int), v5 = .int .i64 x5_1 ∧ Aside0 (spec_l3Puts.l0 kq l0 l1 x5_1 = some r) ∧ Aside0 (kq ≤ k) ∧ Drawn0 w w')
  case atStart => exact ⟨(0), (by first | rfl | (simp; done) | (simp [*]; done) | (simp; exact (by intro l_; cases l_ <;> rfl : ∀ l_ : List UInt8, l_.isEmpty = !(l_ != [])) _)), H', ⟨Nat.le_refl _⟩, by repeat (first | exact Drawn0.refl _ | apply Drawn0.step)⟩
  case round =>
   clear H'
   try clear c1
   try clear p2
   try clear c3
   try clear c3b0
   try clear c3b1
   try clear c3b2
   obtain ⟨x5_1, rfl, HA, HK1, ⟨m1, rfl⟩⟩ := hrel
   cases gk with
   | zero => exact absurd HA.out (by simp [spec_l3Puts.l0])
   | succ k1 =>
    have H := HA.out
    clear HA
    simp only [spec_l3Puts.l0] at H
    by_cases c4 : x5_1 < (l0.length : Int)
    ·rw [if_pos c4] at H
     have c4b0 : decide (x5_1 < (l0.length : Int)) = true := decide_eq_true c4
     clear c4
     by_cases c5 : 0 ≤ x5_1
     ·rw [if_pos c5] at H
      have c5b0 : decide (0 ≤ x5_1) = true := decide_eq_true c5
      clear c5
      by_cases c6 : x5_1 < (l1.length : Int)
      ·rw [if_pos c6] at H
       have c6b0 : decide (x5_1 < (l1.length : Int)) = true := decide_eq_true c6
       clear c6
       by_cases c7 : (!(((rd_T65 l0 x5_1).f0) == ((rd_T65 l1 x5_1).f0)) || (!((((rd_T65 l0 x5_1).f1).toList) == (((rd_T65 l1 x5_1).f1).toList)))) = true
       ·rw [if_pos c7] at H
        have c7b0 : (!(((rd_T65 l0 x5_1).f0) == ((rd_T65 l1 x5_1).f0)) || (!((((rd_T65 l0 x5_1).f1).toList) == (((rd_T65 l1 x5_1).f1).toList)))) = true := c7
        clear c7
        obtain rfl := Option.some.inj H
        have p385 : 0 ≤ (x5_1 : Int) := dT
        have q385 : x5_1 < (l0.length : Int) := dT
        obtain ⟨ad385, e385, hx385_0, hx385_1⟩ := at_T65 HR0.out x5_1 p385 q385
        cases e385
        replace p385 := eq_true p385
        replace q385 := eq_true q385
        have p386 : 0 ≤ (x5_1 : Int) := dT
        have q386 : x5_1 < (l1.length : Int) := dT
        obtain ⟨ad386, e386, hx386_0, hx386_1⟩ := at_T65 HR1.out x5_1 p386 q386
        cases e386
        replace p386 := eq_true p386
        replace q386 := eq_true q386
        go_wp2
        repeat (go_quiet (fail); try go_wp2)
        go_ret
        exact ⟨by first | rfl | (simp; done) | (simp [*]; done), by repeat (first | exact Drawn0.refl _ | apply Drawn0.step)⟩
       ·rw [if_neg c7] at H
        have c7b0 : (!(((rd_T65 l0 x5_1).f0) == ((rd_T65 l1 x5_1).f0)) || (!((((rd_T65 l0 x5_1).f1).toList) == (((rd_T65 l1 x5_1).f1).toList)))) = false := by simpa using c7
        clear c7
        have H' := aM H
        clear H
        have p385 : 0 ≤ (x5_1 : Int) := dT
        have q385 : x5_1 < (l0.length : Int) := dT
        obtain ⟨ad385, e385, hx385_0, hx385_1⟩ := at_T65 HR0.out x5_1 p385 q385
        cases e385
        replace p385 := eq_true p385
        replace q385 := eq_true q385
        have p386 : 0 ≤ (x5_1 : Int) := dT
        have q386 : x5_1 < (l1.length : Int) := dT
        obtain ⟨ad386, e386, hx386_0, hx386_1⟩ := at_T65 HR1.out x5_1 p386 q386
        cases e386
        replace p386 := eq_true p386
        replace q386 := eq_true q386
        go_wp2
        repeat (go_quiet (fail); try go_wp2)
        go_roundg k1
        case measure => have := HK1.out; omega
        case rel => exact ⟨(wrap64 (x5_1 + 1)), (by first | rfl | (simp; done) | (simp [*]; done) | (simp; exact (by intro l_; cases l_ <;> rfl : ∀ l_ : List UInt8, l_.isEmpty = !(l_ != [])) _)), H', ⟨by have := HK1.out; omega⟩, by repeat (first | exact Drawn0.refl _ | apply Drawn0.step)⟩
      ·rw [if_neg c6] at H
       exact absurd H (by simp)
     ·rw [if_neg c5] at H
      exact absurd H (by simp)
    ·rw [if_neg c4] at H
     have c4b0 : decide (x5_1 < (l0.length : Int)) = false := decide_eq_false c4
     clear c4
     obtain rfl := Option.some.inj H
     go_wp2
     repeat (go_quiet (fail); try go_wp2)
     go_ret
     exact ⟨by first | rfl | (simp; done) | (simp [*]; done), by repeat (first | exact Drawn0.refl _ | apply Drawn0.step)⟩
 rw [if_neg c3] at H
 have c3b0 : ((l0.length : Int) == (l1.length : Int)) = false := beq_eq_false_iff_ne.mpr c3
 have c3b1 : ((l0.length : Int) != (l1.length : Int)) = true := bne_iff_ne.mpr c3
 have c3b2 : (l0.length == l1.length) = false := by first | simpa using c3 | (simp at c3 ⊢; omega)
 obtain rfl := Option.some.inj H
 go_enter Try.func92, Try.ntmps92
 go_wp2
 repeat (go_quiet (fail); try go_wp2)
 go_ret
 exact ⟨by first | rfl | (simp; done) | (simp [*]; done), by repeat (first | exact Drawn0.refl _ | apply Drawn0.step)⟩

/-! ### spec_DiskSame: function 48 -/
def spec_DiskSame.f (k : Nat) (l0_0 : List ByteArray) (l0_1 : List (S65)) (l1_0 : List ByteArray) (l1_1 : List (S65)) : Option (Bool) := (spec_l1Texts.f k l0_0 l1_0).bind fun t389 => (if t389 = true then ((spec_l3Puts.f k l0_1 l1_1).bind fun t390 => (some t390)) else (some false))
theorem spec_DiskSame.mono : ∀ a0 a1 a2 a3 k, LeO (spec_DiskSame.f k a0 a1 a2 a3) (spec_DiskSame.f (k + 1) a0 a1 a2 a3) := by
 intro a0 a1 a2 a3 k
 unfold spec_DiskSame.f
 have m0_ := @spec_l1Texts.mono
 have m1_ := @spec_l3Puts.mono
 exact mM
set_option maxHeartbeats 8000000 in
set_option maxRecDepth 100000 in
theorem spec_DiskSame.calls (k : Nat) (A0_0 : Option Addr) (c0_0 : Nat) (l0_0 : List ByteArray) (A0_1 : Option Addr) (c0_1 : Nat) (l0_1 : List (S65)) (A1_0 : Option Addr) (c1_0 : Nat) (l1_0 : List ByteArray) (A1_1 : Option Addr) (c1_1 : Nat) (l1_1 : List (S65)) (r : Bool) (w : World) (hr0_0 : Kd.C Kd.string w A0_0 l0_0.length l0_0) (hc0_0 : l0_0.length ≤ c0_0) (hr0_1 : Kd.C k65 w A0_1 l0_1.length l0_1) (hc0_1 : l0_1.length ≤ c0_1) (hr1_0 : Kd.C Kd.string w A1_0 l1_0.length l1_0) (hc1_0 : l1_0.length ≤ c1_0) (hr1_1 : Kd.C k65 w A1_1 l1_1.length l1_1) (hc1_1 : l1_1.length ≤ c1_1) (h : spec_DiskSame.f k l0_0 l0_1 l1_0 l1_1 = some r) :
  Calls Try.prog 48 #[.agg #[.slice A0_0 l0_0.length c0_0, .slice A0_1 l0_1.length c0_1], .agg #[.slice A1_0 l1_0.length c1_0, .slice A1_1 l1_1.length c1_1]] w fun e w' => e = .returned (.bool r) ∧ Below w.heap.size w w' := by
 have hu30 := Try.underlying30
 have HR0_0 := aM hr0_0
 have HC0_0 := aM hc0_0
 clear hr0_0 hc0_0
 have HR0_1 := aM hr0_1
 have HC0_1 := aM hc0_1
 clear hr0_1 hc0_1
 have HR1_0 := aM hr1_0
 have HC1_0 := aM hc1_0
 clear hr1_0 hc1_0
 have HR1_1 := aM hr1_1
 have HC1_1 := aM hc1_1
 clear hr1_1 hc1_1
 have HB := aM (Below.refl w.heap.size w)
 unfold spec_DiskSame.f at h
 have H := h
 clear h
 replace H := Option.bind_eq_some_iff.mp H
 obtain ⟨t389, A30, H⟩ := H
 try dsimp only at H
 have A3 := aM A30
 clear A30
 by_cases c4 : t389 = true
 ·subst c4
  rw [if_pos rfl] at H
  replace H := Option.bind_eq_some_iff.mp H
  obtain ⟨t390, A50, H⟩ := H
  try dsimp only at H
  have A5 := aM A50
  clear A50
  obtain rfl := Option.some.inj H
  go_enter Try.func48, Try.ntmps48
  go_wp2_with (first | ((with_reducible refine gate_dst (N := 2) rfl ?_); refine bE 2 #[.slice A0_0 l0_0.length c0_0, .slice A0_1 l0_1.length c0_1] 30 ?_; intro gb387 hg w6 hbox hb; have n_ := aI (sB HB hb) (aI (aM hbox) (aI (gE HB hg) (gE HB hg))); clear HB; obtain ⟨HB, BK387, GW387, GE387⟩ := n_; (try clear hb hbox hg)) | ((with_reducible refine gate_dst (N := 3) rfl ?_); refine bE 3 #[.slice A1_0 l1_0.length c1_0, .slice A1_1 l1_1.length c1_1] 30 ?_; intro gb388 hg w7 hbox hb; have n_ := aI (kB BK387 hb) (aI (sB HB hb) (aI (aM hbox) (aI (gE HB hg) (aI (gE HB hg) (aI (nL BK387 hg) (nG BK387 hg)))))); clear BK387 HB; obtain ⟨BK387, HB, BK388, GW388, GE388, NB387_388, NB388_387⟩ := n_; (try clear hb hbox hg); have hnb8 := NB387_388.out; have hnc8 := NB388_387.out; have hcz9_0 := cZ0 BK387; have hcz9_1 := cZ1 BK387; have hfz9_0 := blk_frozen BK387.out 0; have hfz9_1 := blk_frozen BK387.out 1; have hcz10_0 := cZ0 BK388; have hcz10_1 := cZ1 BK388; have hfz10_0 := blk_frozen BK388.out 0; have hfz10_1 := blk_frozen BK388.out 1) | ((with_reducible refine gate_callee (f := 91) rfl ?_); refine gL (some 9) Try.func91 #[.slice A0_0 l0_0.length c0_0, .slice A1_0 l1_0.length c1_0] ?_; (with_reducible refine (spec_l1Texts.calls k _ _ l0_0 _ _ l1_0 true _ ?side1 ?side2 ?side3 ?side4 A3.out).mono ?_); (case side1 => exact cS HR0_0 HB); (case side2 => exact HC0_0.out); (case side3 => exact cS HR1_0 HB); (case side4 => exact HC1_0.out); rintro e w' ⟨rfl, ⟨nd, rfl⟩⟩; refine ⟨_, rfl, ?_⟩) | (go_at_call 92; (with_reducible refine (spec_l3Puts.calls k _ _ l0_1 _ _ l1_1 t390 _ ?side1 ?side2 ?side3 ?side4 A5.out).mono ?_); (case side1 => repeat (first | exact (Kd.C_below HR0_1.out bB) | (with_reducible refine Kd.C_alloc ?_ _) | (with_reducible refine Kd.C_drewN ?_ _) | (with_reducible refine Kd.C_drew ?_))); (case side2 => exact HC0_1.out); (case side3 => repeat (first | exact (Kd.C_below HR1_1.out bB) | (with_reducible refine Kd.C_alloc ?_ _) | (with_reducible refine Kd.C_drewN ?_ _) | (with_reducible refine Kd.C_drew ?_))); (case side4 => exact HC1_1.out); rintro e w' ⟨rfl, ⟨nd, rfl⟩⟩))
  go_ret
  exact ⟨eW, bB⟩
 replace c4 := Bool.eq_false_iff.mpr c4
 subst c4
 rw [if_neg (show ¬ (false = true) by decide)] at H
 obtain rfl := Option.some.inj H
 go_enter Try.func48, Try.ntmps48
 go_wp2_with (first | ((with_reducible refine gate_dst (N := 2) rfl ?_); refine bE 2 #[.slice A0_0 l0_0.length c0_0, .slice A0_1 l0_1.length c0_1] 30 ?_; intro gb387 hg w11 hbox hb; have n_ := aI (sB HB hb) (aI (aM hbox) (aI (gE HB hg) (gE HB hg))); clear HB; obtain ⟨HB, BK387, GW387, GE387⟩ := n_; (try clear hb hbox hg)) | ((with_reducible refine gate_dst (N := 3) rfl ?_); refine bE 3 #[.slice A1_0 l1_0.length c1_0, .slice A1_1 l1_1.length c1_1] 30 ?_; intro gb388 hg w12 hbox hb; have n_ := aI (kB BK387 hb) (aI (sB HB hb) (aI (aM hbox) (aI (gE HB hg) (aI (gE HB hg) (aI (nL BK387 hg) (nG BK387 hg)))))); clear BK387 HB; obtain ⟨BK387, HB, BK388, GW388, GE388, NB387_388, NB388_387⟩ := n_; (try clear hb hbox hg); have hnb13 := NB387_388.out; have hnc13 := NB388_387.out; have hcz14_0 := cZ0 BK387; have hcz14_1 := cZ1 BK387; have hfz14_0 := blk_frozen BK387.out 0; have hfz14_1 := blk_frozen BK387.out 1; have hcz15_0 := cZ0 BK388; have hcz15_1 := cZ1 BK388; have hfz15_0 := blk_frozen BK388.out 0; have hfz15_1 := blk_frozen BK388.out 1) | ((with_reducible refine gate_callee (f := 91) rfl ?_); refine gL (some 9) Try.func91 #[.slice A0_0 l0_0.length c0_0, .slice A1_0 l1_0.length c1_0] ?_; (with_reducible refine (spec_l1Texts.calls k _ _ l0_0 _ _ l1_0 false _ ?side1 ?side2 ?side3 ?side4 A3.out).mono ?_); (case side1 => exact cS HR0_0 HB); (case side2 => exact HC0_0.out); (case side3 => exact cS HR1_0 HB); (case side4 => exact HC1_0.out); rintro e w' ⟨rfl, ⟨nd, rfl⟩⟩; refine ⟨_, rfl, ?_⟩))
 go_ret
 exact ⟨eW, bB⟩

/-! ### slices_Equal_string_string: function 93 -/
def slices_Equal_string_string.l0 : Nat → List ByteArray → List ByteArray → Int → Int → Option (Bool)
 | 0, _, _, _, _ => none
 | k + 1, x0, x1, x12, x13 => if x13 < x12 then (if 0 ≤ x13 then (if x13 < (x0.length : Int) then (if x13 < (x1.length : Int) then (if (rdOf ByteArray.empty x0 x13).toList = (rdOf ByteArray.empty x1 x13).toList then (slices_Equal_string_string.l0 k x0 x1 x12 (wrap64 (x13 + 1))) else (some false)) else (none)) else (none)) else (none)) else (some true)
def slices_Equal_string_string.f (k : Nat) (l0 : List ByteArray) (l1 : List ByteArray) : Option (Bool) := if (l0.length : Int) = (l1.length : Int) then (slices_Equal_string_string.l0 k l0 l1 (l0.length : Int) 0) else (some false)
theorem slices_Equal_string_string.mono_l : ∀ k, (∀ y0 y1 y2 y3, LeO (slices_Equal_string_string.l0 k y0 y1 y2 y3) (slices_Equal_string_string.l0 (k + 1) y0 y1 y2 y3))
 | 0 => fun _ _ _ _ r h => by simp [slices_Equal_string_string.l0] at h
 | k + 1 => by
  have ih0 := slices_Equal_string_string.mono_l k
  ·intro y0 y1 y2 y3
   unfold slices_Equal_string_string.l0
   exact mM
theorem slices_Equal_string_string.mono : ∀ a0 a1 k, LeO (slices_Equal_string_string.f k a0 a1) (slices_Equal_string_string.f (k + 1) a0 a1) := by
 intro a0 a1 k
 have ih0 := slices_Equal_string_string.mono_l k
 unfold slices_Equal_string_string.f
 exact mM
set_option maxHeartbeats 8000000 in
set_option maxRecDepth 100000 in
theorem slices_Equal_string_string.calls (k : Nat) (A0 : Option Addr) (c0 : Nat) (l0 : List ByteArray) (A1 : Option Addr) (c1 : Nat) (l1 : List ByteArray) (r : Bool) (w : World) (hr0 : Kd.C Kd.string w A0 l0.length l0) (hc0 : l0.length ≤ c0) (hr1 : Kd.C Kd.string w A1 l1.length l1) (hc1 : l1.length ≤ c1) (h : slices_Equal_string_string.f k l0 l1 = some r) :
  Calls Try.prog 93 #[.slice A0 l0.length c0, .slice A1 l1.length c1] w fun e w' => e = .returned (.bool r) ∧ Drawn0 w w' := by
 have HR0 := aM hr0
 have HC0 := aM hc0
 clear hr0 hc0
 have HR1 := aM hr1
 have HC1 := aM hc1
 clear hr1 hc1
 unfold slices_Equal_string_string.f at h
 have H := h
 clear h
 by_cases c3 : (l0.length : Int) = (l1.length : Int)
 ·rw [if_pos c3] at H
  have c3b0 : ((l0.length : Int) == (l1.length : Int)) = true := beq_iff_eq.mpr c3
  have c3b1 : ((l0.length : Int) != (l1.length : Int)) = false := bne_eq_false_iff_eq.mpr c3
  have c3b2 : (l0.length == l1.length) = true := by first | simpa using c3 | (simp at c3 ⊢; omega)
  clear c3
  have H' := aM H
  clear H
  go_enter Try.func93, Try.ntmps93
  go_wp2
  repeat (go_quiet (fail); try go_wp2)
  go_loopg [13] k (fun kq v13 w' => ∃ (x13_1 : Int), v13 = .int .i64 x13_1 ∧ Aside0 (slices_Equal_string_string.l0 kq l0 l1 (l0.length : Int) x13_1 = some r) ∧ Aside0 (kq ≤ k) ∧ Drawn0 w w')
  case atStart => exact ⟨(0), (by first | rfl | (simp; done) | (simp [*]; done) | (simp; exact (by intro l_; cases l_ <;> rfl : ∀ l_ : List UInt8, l_.isEmpty = !(l_ != [])) _)), H', ⟨Nat.le_refl _⟩, by repeat (first | exact Drawn0.refl _ | apply Drawn0.step)⟩
  case round =>
   clear H'
   try clear c1
   try clear p2
   try clear c3
   try clear c3b0
   try clear c3b1
   try clear c3b2
   obtain ⟨x13_1, rfl, HA, HK1, ⟨m1, rfl⟩⟩ := hrel
   cases gk with
   | zero => exact absurd HA.out (by simp [slices_Equal_string_string.l0])
   | succ k1 =>
    have H := HA.out
    clear HA
    simp only [slices_Equal_string_string.l0] at H
    by_cases c4 : x13_1 < (l0.length : Int)
    ·rw [if_pos c4] at H
     have c4b0 : decide (x13_1 < (l0.length : Int)) = true := decide_eq_true c4
     clear c4
     by_cases c5 : 0 ≤ x13_1
     ·rw [if_pos c5] at H
      have c5b0 : decide (0 ≤ x13_1) = true := decide_eq_true c5
      clear c5
      by_cases c6 : x13_1 < (l0.length : Int)
      ·rw [if_pos c6] at H
       have c6b0 : decide (x13_1 < (l0.length : Int)) = true := decide_eq_true c6
       clear c6
       by_cases c7 : x13_1 < (l1.length : Int)
       ·rw [if_pos c7] at H
        have c7b0 : decide (x13_1 < (l1.length : Int)) = true := decide_eq_true c7
        clear c7
        by_cases c8 : (rdOf ByteArray.empty l0 x13_1).toList = (rdOf ByteArray.empty l1 x13_1).toList
        ·rw [if_pos c8] at H
         have c8b0 : ((rdOf ByteArray.empty l0 x13_1).toList == (rdOf ByteArray.empty l1 x13_1).toList) = true := beq_iff_eq.mpr c8
         have c8b1 : ((rdOf ByteArray.empty l0 x13_1).toList != (rdOf ByteArray.empty l1 x13_1).toList) = false := bne_eq_false_iff_eq.mpr c8
         clear c8
         have H' := aM H
         clear H
         have p391 : 0 ≤ (x13_1 : Int) := dT
         have q391 : x13_1 < (l0.length : Int) := dT
         obtain ⟨ad391, e391, hx391_0⟩ := Kd.at_string HR0.out x13_1 p391 q391
         cases e391
         replace p391 := eq_true p391
         replace q391 := eq_true q391
         have p392 : 0 ≤ (x13_1 : Int) := dT
         have q392 : x13_1 < (l1.length : Int) := dT
         obtain ⟨ad392, e392, hx392_0⟩ := Kd.at_string HR1.out x13_1 p392 q392
         cases e392
         replace p392 := eq_true p392
         replace q392 := eq_true q392
         go_wp2
         repeat (go_quiet (fail); try go_wp2)
         go_roundg k1
         case measure => have := HK1.out; omega
         case rel => exact ⟨(wrap64 (x13_1 + 1)), (by first | rfl | (simp; done) | (simp [*]; done) | (simp; exact (by intro l_; cases l_ <;> rfl : ∀ l_ : List UInt8, l_.isEmpty = !(l_ != [])) _)), H', ⟨by have := HK1.out; omega⟩, by repeat (first | exact Drawn0.refl _ | apply Drawn0.step)⟩
        ·rw [if_neg c8] at H
         have c8b0 : ((rdOf ByteArray.empty l0 x13_1).toList == (rdOf ByteArray.empty l1 x13_1).toList) = false := beq_eq_false_iff_ne.mpr c8
         have c8b1 : ((rdOf ByteArray.empty l0 x13_1).toList != (rdOf ByteArray.empty l1 x13_1).toList) = true := bne_iff_ne.mpr c8
         obtain rfl := Option.some.inj H
         have p391 : 0 ≤ (x13_1 : Int) := dT
         have q391 : x13_1 < (l0.length : Int) := dT
         obtain ⟨ad391, e391, hx391_0⟩ := Kd.at_string HR0.out x13_1 p391 q391
         cases e391
         replace p391 := eq_true p391
         replace q391 := eq_true q391
         have p392 : 0 ≤ (x13_1 : Int) := dT
         have q392 : x13_1 < (l1.length : Int) := dT
         obtain ⟨ad392, e392, hx392_0⟩ := Kd.at_string HR1.out x13_1 p392 q392
         cases e392
         replace p392 := eq_true p392
         replace q392 := eq_true q392
         go_wp2
         repeat (go_quiet (fail); try go_wp2)
         go_ret
         exact ⟨by first | rfl | (simp; done) | (simp [*]; done), by repeat (first | exact Drawn0.refl _ | apply Drawn0.step)⟩
       ·rw [if_neg c7] at H
        exact absurd H (by simp)
      ·rw [if_neg c6] at H
       exact absurd H (by simp)
     ·rw [if_neg c5] at H
      exact absurd H (by simp)
    ·rw [if_neg c4] at H
     have c4b0 : decide (x13_1 < (l0.length : Int)) = false := decide_eq_false c4
     clear c4
     obtain rfl := Option.some.inj H
     go_wp2
     repeat (go_quiet (fail); try go_wp2)
     go_ret
     exact ⟨by first | rfl | (simp; done) | (simp [*]; done), by repeat (first | exact Drawn0.refl _ | apply Drawn0.step)⟩
 rw [if_neg c3] at H
 have c3b0 : ((l0.length : Int) == (l1.length : Int)) = false := beq_eq_false_iff_ne.mpr c3
 have c3b1 : ((l0.length : Int) != (l1.length : Int)) = true := bne_iff_ne.mpr c3
 have c3b2 : (l0.length == l1.length) = false := by first | simpa using c3 | (simp at c3 ⊢; omega)
 obtain rfl := Option.some.inj H
 go_enter Try.func93, Try.ntmps93
 go_wp2
 repeat (go_quiet (fail); try go_wp2)
 go_ret
 exact ⟨by first | rfl | (simp; done) | (simp [*]; done), by repeat (first | exact Drawn0.refl _ | apply Drawn0.step)⟩

/-! ### slices_Equal_Put: function 94 -/
def slices_Equal_Put.l0 : Nat → List (S65) → List (S65) → Int → Int → Option (Bool)
 | 0, _, _, _, _ => none
 | k + 1, x0, x1, x12, x13 => if x13 < x12 then (if 0 ≤ x13 then (if x13 < (x0.length : Int) then (if x13 < (x1.length : Int) then (if (!(((rd_T65 x0 x13).f0) == ((rd_T65 x1 x13).f0)) || (!((((rd_T65 x0 x13).f1).toList) == (((rd_T65 x1 x13).f1).toList)))) = true then (some false) else (slices_Equal_Put.l0 k x0 x1 x12 (wrap64 (x13 + 1)))) else (none)) else (none)) else (none)) else (some true)
def slices_Equal_Put.f (k : Nat) (l0 : List (S65)) (l1 : List (S65)) : Option (Bool) := if (l0.length : Int) = (l1.length : Int) then (slices_Equal_Put.l0 k l0 l1 (l0.length : Int) 0) else (some false)
theorem slices_Equal_Put.mono_l : ∀ k, (∀ y0 y1 y2 y3, LeO (slices_Equal_Put.l0 k y0 y1 y2 y3) (slices_Equal_Put.l0 (k + 1) y0 y1 y2 y3))
 | 0 => fun _ _ _ _ r h => by simp [slices_Equal_Put.l0] at h
 | k + 1 => by
  have ih0 := slices_Equal_Put.mono_l k
  ·intro y0 y1 y2 y3
   unfold slices_Equal_Put.l0
   exact mM
theorem slices_Equal_Put.mono : ∀ a0 a1 k, LeO (slices_Equal_Put.f k a0 a1) (slices_Equal_Put.f (k + 1) a0 a1) := by
 intro a0 a1 k
 have ih0 := slices_Equal_Put.mono_l k
 unfold slices_Equal_Put.f
 exact mM
set_option maxHeartbeats 8000000 in
set_option maxRecDepth 100000 in
theorem slices_Equal_Put.calls (k : Nat) (A0 : Option Addr) (c0 : Nat) (l0 : List (S65)) (A1 : Option Addr) (c1 : Nat) (l1 : List (S65)) (r : Bool) (w : World) (hr0 : Kd.C k65 w A0 l0.length l0) (hc0 : l0.length ≤ c0) (hr1 : Kd.C k65 w A1 l1.length l1) (hc1 : l1.length ≤ c1) (h : slices_Equal_Put.f k l0 l1 = some r) :
  Calls Try.prog 94 #[.slice A0 l0.length c0, .slice A1 l1.length c1] w fun e w' => e = .returned (.bool r) ∧ Drawn0 w w' := by
 have hu65 := Try.underlying65
 have HR0 := aM hr0
 have HC0 := aM hc0
 clear hr0 hc0
 have HR1 := aM hr1
 have HC1 := aM hc1
 clear hr1 hc1
 unfold slices_Equal_Put.f at h
 have H := h
 clear h
 by_cases c3 : (l0.length : Int) = (l1.length : Int)
 ·rw [if_pos c3] at H
  have c3b0 : ((l0.length : Int) == (l1.length : Int)) = true := beq_iff_eq.mpr c3
  have c3b1 : ((l0.length : Int) != (l1.length : Int)) = false := bne_eq_false_iff_eq.mpr c3
  have c3b2 : (l0.length == l1.length) = true := by first | simpa using c3 | (simp at c3 ⊢; omega)
  clear c3
  have H' := aM H
  clear H
  go_enter Try.func94, Try.ntmps94
  go_wp2
  repeat (go_quiet (fail); try go_wp2)
  go_loopg [13] k (fun kq v13 w' => ∃ (x13_1 : Int), v13 = .int .i64 x13_1 ∧ Aside0 (slices_Equal_Put.l0 kq l0 l1 (l0.length : Int) x13_1 = some r) ∧ Aside0 (kq ≤ k) ∧ Drawn0 w w')
  case atStart => exact ⟨(0), (by first | rfl | (simp; done) | (simp [*]; done) | (simp; exact (by intro l_; cases l_ <;> rfl : ∀ l_ : List UInt8, l_.isEmpty = !(l_ != [])) _)), H', ⟨Nat.le_refl _⟩, by repeat (first | exact Drawn0.refl _ | apply Drawn0.step)⟩
  case round =>
   clear H'
   try clear c1
   try clear p2
   try clear c3
   try clear c3b0
   try clear c3b1
   try clear c3b2
   obtain ⟨x13_1, rfl, HA, HK1, ⟨m1, rfl⟩⟩ := hrel
   cases gk with
   | zero => exact absurd HA.out (by simp [slices_Equal_Put.l0])
   | succ k1 =>
    have H := HA.out
    clear HA
    simp only [slices_Equal_Put.l0] at H
    by_cases c4 : x13_1 < (l0.length : Int)
    ·rw [if_pos c4] at H
     have c4b0 : decide (x13_1 < (l0.length : Int)) = true := decide_eq_true c4
     clear c4
     by_cases c5 : 0 ≤ x13_1
     ·rw [if_pos c5] at H
      have c5b0 : decide (0 ≤ x13_1) = true := decide_eq_true c5
      clear c5
      by_cases c6 : x13_1 < (l0.length : Int)
      ·rw [if_pos c6] at H
       have c6b0 : decide (x13_1 < (l0.length : Int)) = true := decide_eq_true c6
       clear c6
       by_cases c7 : x13_1 < (l1.length : Int)
       ·rw [if_pos c7] at H
        have c7b0 : decide (x13_1 < (l1.length : Int)) = true := decide_eq_true c7
        clear c7
        by_cases c8 : (!(((rd_T65 l0 x13_1).f0) == ((rd_T65 l1 x13_1).f0)) || (!((((rd_T65 l0 x13_1).f1).toList) == (((rd_T65 l1 x13_1).f1).toList)))) = true
        ·rw [if_pos c8] at H
         have c8b0 : (!(((rd_T65 l0 x13_1).f0) == ((rd_T65 l1 x13_1).f0)) || (!((((rd_T65 l0 x13_1).f1).toList) == (((rd_T65 l1 x13_1).f1).toList)))) = true := c8
         clear c8
         obtain rfl := Option.some.inj H
         have p393 : 0 ≤ (x13_1 : Int) := dT
         have q393 : x13_1 < (l0.length : Int) := dT
         obtain ⟨ad393, e393, hx393_0, hx393_1⟩ := at_T65 HR0.out x13_1 p393 q393
         cases e393
         replace p393 := eq_true p393
         replace q393 := eq_true q393
         have p394 : 0 ≤ (x13_1 : Int) := dT
         have q394 : x13_1 < (l1.length : Int) := dT
         obtain ⟨ad394, e394, hx394_0, hx394_1⟩ := at_T65 HR1.out x13_1 p394 q394
         cases e394
         replace p394 := eq_true p394
         replace q394 := eq_true q394
         go_wp2
         repeat (go_quiet (fail); try go_wp2)
         go_ret
         exact ⟨by first | rfl | (simp; done) | (simp [*]; done), by repeat (first | exact Drawn0.refl _ | apply Drawn0.step)⟩
        ·rw [if_neg c8] at H
         have c8b0 : (!(((rd_T65 l0 x13_1).f0) == ((rd_T65 l1 x13_1).f0)) || (!((((rd_T65 l0 x13_1).f1).toList) == (((rd_T65 l1 x13_1).f1).toList)))) = false := by simpa using c8
         clear c8
         have H' := aM H
         clear H
         have p393 : 0 ≤ (x13_1 : Int) := dT
         have q393 : x13_1 < (l0.length : Int) := dT
         obtain ⟨ad393, e393, hx393_0, hx393_1⟩ := at_T65 HR0.out x13_1 p393 q393
         cases e393
         replace p393 := eq_true p393
         replace q393 := eq_true q393
         have p394 : 0 ≤ (x13_1 : Int) := dT
         have q394 : x13_1 < (l1.length : Int) := dT
         obtain ⟨ad394, e394, hx394_0, hx394_1⟩ := at_T65 HR1.out x13_1 p394 q394
         cases e394
         replace p394 := eq_true p394
         replace q394 := eq_true q394
         go_wp2
         repeat (go_quiet (fail); try go_wp2)
         go_roundg k1
         case measure => have := HK1.out; omega
         case rel => exact ⟨(wrap64 (x13_1 + 1)), (by first | rfl | (simp; done) | (simp [*]; done) | (simp; exact (by intro l_; cases l_ <;> rfl : ∀ l_ : List UInt8, l_.isEmpty = !(l_ != [])) _)), H', ⟨by have := HK1.out; omega⟩, by repeat (first | exact Drawn0.refl _ | apply Drawn0.step)⟩
       ·rw [if_neg c7] at H
        exact absurd H (by simp)
      ·rw [if_neg c6] at H
       exact absurd H (by simp)
     ·rw [if_neg c5] at H
      exact absurd H (by simp)
    ·rw [if_neg c4] at H
     have c4b0 : decide (x13_1 < (l0.length : Int)) = false := decide_eq_false c4
     clear c4
     obtain rfl := Option.some.inj H
     go_wp2
     repeat (go_quiet (fail); try go_wp2)
     go_ret
     exact ⟨by first | rfl | (simp; done) | (simp [*]; done), by repeat (first | exact Drawn0.refl _ | apply Drawn0.step)⟩
 rw [if_neg c3] at H
 have c3b0 : ((l0.length : Int) == (l1.length : Int)) = false := beq_eq_false_iff_ne.mpr c3
 have c3b1 : ((l0.length : Int) != (l1.length : Int)) = true := bne_iff_ne.mpr c3
 have c3b2 : (l0.length == l1.length) = false := by first | simpa using c3 | (simp at c3 ⊢; omega)
 obtain rfl := Option.some.inj H
 go_enter Try.func94, Try.ntmps94
 go_wp2
 repeat (go_quiet (fail); try go_wp2)
 go_ret
 exact ⟨by first | rfl | (simp; done) | (simp [*]; done), by repeat (first | exact Drawn0.refl _ | apply Drawn0.step)⟩

/-! ### impl_DiskSame: function 49 -/
def impl_DiskSame.f (k : Nat) (l0_0 : List ByteArray) (l0_1 : List (S65)) (l1_0 : List ByteArray) (l1_1 : List (S65)) : Option (Bool) := (slices_Equal_string_string.f k l0_0 l1_0).bind fun t397 => (if t397 = true then ((slices_Equal_Put.f k l0_1 l1_1).bind fun t398 => (some t398)) else (some false))
theorem impl_DiskSame.mono : ∀ a0 a1 a2 a3 k, LeO (impl_DiskSame.f k a0 a1 a2 a3) (impl_DiskSame.f (k + 1) a0 a1 a2 a3) := by
 intro a0 a1 a2 a3 k
 unfold impl_DiskSame.f
 have m0_ := @slices_Equal_Put.mono
 have m1_ := @slices_Equal_string_string.mono
 exact mM
set_option maxHeartbeats 8000000 in
set_option maxRecDepth 100000 in
theorem impl_DiskSame.calls (k : Nat) (A0_0 : Option Addr) (c0_0 : Nat) (l0_0 : List ByteArray) (A0_1 : Option Addr) (c0_1 : Nat) (l0_1 : List (S65)) (A1_0 : Option Addr) (c1_0 : Nat) (l1_0 : List ByteArray) (A1_1 : Option Addr) (c1_1 : Nat) (l1_1 : List (S65)) (r : Bool) (w : World) (hr0_0 : Kd.C Kd.string w A0_0 l0_0.length l0_0) (hc0_0 : l0_0.length ≤ c0_0) (hr0_1 : Kd.C k65 w A0_1 l0_1.length l0_1) (hc0_1 : l0_1.length ≤ c0_1) (hr1_0 : Kd.C Kd.string w A1_0 l1_0.length l1_0) (hc1_0 : l1_0.length ≤ c1_0) (hr1_1 : Kd.C k65 w A1_1 l1_1.length l1_1) (hc1_1 : l1_1.length ≤ c1_1) (h : impl_DiskSame.f k l0_0 l0_1 l1_0 l1_1 = some r) :
  Calls Try.prog 49 #[.agg #[.slice A0_0 l0_0.length c0_0, .slice A0_1 l0_1.length c0_1], .agg #[.slice A1_0 l1_0.length c1_0, .slice A1_1 l1_1.length c1_1]] w fun e w' => e = .returned (.bool r) ∧ Below w.heap.size w w' := by
 have hu30 := Try.underlying30
 have HR0_0 := aM hr0_0
 have HC0_0 := aM hc0_0
 clear hr0_0 hc0_0
 have HR0_1 := aM hr0_1
 have HC0_1 := aM hc0_1
 clear hr0_1 hc0_1
 have HR1_0 := aM hr1_0
 have HC1_0 := aM hc1_0
 clear hr1_0 hc1_0
 have HR1_1 := aM hr1_1
 have HC1_1 := aM hc1_1
 clear hr1_1 hc1_1
 have HB := aM (Below.refl w.heap.size w)
 unfold impl_DiskSame.f at h
 have H := h
 clear h
 replace H := Option.bind_eq_some_iff.mp H
 obtain ⟨t397, A30, H⟩ := H
 try dsimp only at H
 have A3 := aM A30
 clear A30
 by_cases c4 : t397 = true
 ·subst c4
  rw [if_pos rfl] at H
  replace H := Option.bind_eq_some_iff.mp H
  obtain ⟨t398, A50, H⟩ := H
  try dsimp only at H
  have A5 := aM A50
  clear A50
  obtain rfl := Option.some.inj H
  go_enter Try.func49, Try.ntmps49
  go_wp2_with (first | ((with_reducible refine gate_dst (N := 2) rfl ?_); refine bE 2 #[.slice A0_0 l0_0.length c0_0, .slice A0_1 l0_1.length c0_1] 30 ?_; intro gb395 hg w6 hbox hb; have n_ := aI (sB HB hb) (aI (aM hbox) (aI (gE HB hg) (gE HB hg))); clear HB; obtain ⟨HB, BK395, GW395, GE395⟩ := n_; (try clear hb hbox hg)) | ((with_reducible refine gate_dst (N := 3) rfl ?_); refine bE 3 #[.slice A1_0 l1_0.length c1_0, .slice A1_1 l1_1.length c1_1] 30 ?_; intro gb396 hg w7 hbox hb; have n_ := aI (kB BK395 hb) (aI (sB HB hb) (aI (aM hbox) (aI (gE HB hg) (aI (gE HB hg) (aI (nL BK395 hg) (nG BK395 hg)))))); clear BK395 HB; obtain ⟨BK395, HB, BK396, GW396, GE396, NB395_396, NB396_395⟩ := n_; (try clear hb hbox hg); have hnb8 := NB395_396.out; have hnc8 := NB396_395.out; have hcz9_0 := cZ0 BK395; have hcz9_1 := cZ1 BK395; have hfz9_0 := blk_frozen BK395.out 0; have hfz9_1 := blk_frozen BK395.out 1; have hcz10_0 := cZ0 BK396; have hcz10_1 := cZ1 BK396; have hfz10_0 := blk_frozen BK396.out 0; have hfz10_1 := blk_frozen BK396.out 1) | ((with_reducible refine gate_callee (f := 93) rfl ?_); refine gL (some 9) Try.func93 #[.slice A0_0 l0_0.length c0_0, .slice A1_0 l1_0.length c1_0] ?_; (with_reducible refine (slices_Equal_string_string.calls k _ _ l0_0 _ _ l1_0 true _ ?side1 ?side2 ?side3 ?side4 A3.out).mono ?_); (case side1 => exact cS HR0_0 HB); (case side2 => exact HC0_0.out); (case side3 => exact cS HR1_0 HB); (case side4 => exact HC1_0.out); rintro e w' ⟨rfl, ⟨nd, rfl⟩⟩; refine ⟨_, rfl, ?_⟩) | (go_at_call 94; (with_reducible refine (slices_Equal_Put.calls k _ _ l0_1 _ _ l1_1 t398 _ ?side1 ?side2 ?side3 ?side4 A5.out).mono ?_); (case side1 => repeat (first | exact (Kd.C_below HR0_1.out bB) | (with_reducible refine Kd.C_alloc ?_ _) | (with_reducible refine Kd.C_drewN ?_ _) | (with_reducible refine Kd.C_drew ?_))); (case side2 => exact HC0_1.out); (case side3 => repeat (first | exact (Kd.C_below HR1_1.out bB) | (with_reducible refine Kd.C_alloc ?_ _) | (with_reducible refine Kd.C_drewN ?_ _) | (with_reducible refine Kd.C_drew ?_))); (case side4 => exact HC1_1.out); rintro e w' ⟨rfl, ⟨nd, rfl⟩⟩))
  go_ret
  exact ⟨eW, bB⟩
 replace c4 := Bool.eq_false_iff.mpr c4
 subst c4
 rw [if_neg (show ¬ (false = true) by decide)] at H
 obtain rfl := Option.some.inj H
 go_enter Try.func49, Try.ntmps49
 go_wp2_with (first | ((with_reducible refine gate_dst (N := 2) rfl ?_); refine bE 2 #[.slice A0_0 l0_0.length c0_0, .slice A0_1 l0_1.length c0_1] 30 ?_; intro gb395 hg w11 hbox hb; have n_ := aI (sB HB hb) (aI (aM hbox) (aI (gE HB hg) (gE HB hg))); clear HB; obtain ⟨HB, BK395, GW395, GE395⟩ := n_; (try clear hb hbox hg)) | ((with_reducible refine gate_dst (N := 3) rfl ?_); refine bE 3 #[.slice A1_0 l1_0.length c1_0, .slice A1_1 l1_1.length c1_1] 30 ?_; intro gb396 hg w12 hbox hb; have n_ := aI (kB BK395 hb) (aI (sB HB hb) (aI (aM hbox) (aI (gE HB hg) (aI (gE HB hg) (aI (nL BK395 hg) (nG BK395 hg)))))); clear BK395 HB; obtain ⟨BK395, HB, BK396, GW396, GE396, NB395_396, NB396_395⟩ := n_; (try clear hb hbox hg); have hnb13 := NB395_396.out; have hnc13 := NB396_395.out; have hcz14_0 := cZ0 BK395; have hcz14_1 := cZ1 BK395; have hfz14_0 := blk_frozen BK395.out 0; have hfz14_1 := blk_frozen BK395.out 1; have hcz15_0 := cZ0 BK396; have hcz15_1 := cZ1 BK396; have hfz15_0 := blk_frozen BK396.out 0; have hfz15_1 := blk_frozen BK396.out 1) | ((with_reducible refine gate_callee (f := 93) rfl ?_); refine gL (some 9) Try.func93 #[.slice A0_0 l0_0.length c0_0, .slice A1_0 l1_0.length c1_0] ?_; (with_reducible refine (slices_Equal_string_string.calls k _ _ l0_0 _ _ l1_0 false _ ?side1 ?side2 ?side3 ?side4 A3.out).mono ?_); (case side1 => exact cS HR0_0 HB); (case side2 => exact HC0_0.out); (case side3 => exact cS HR1_0 HB); (case side4 => exact HC1_0.out); rintro e w' ⟨rfl, ⟨nd, rfl⟩⟩; refine ⟨_, rfl, ?_⟩))
 go_ret
 exact ⟨eW, bB⟩

end Go.Proofs.Ytgmpdkefegofhaa.PFnFlushed
