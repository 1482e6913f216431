-- Written by xprint.py, a program of this session over the kit's print. Not trusted: Lean checks it.
import Derived.Test.YtgmpdkefegofhaaPFnRecoveredx0
import Derived.Test.YtgmpdkefegofhaaPFnRecoveredx2
import Derived.Test.YtgmpdkefegofhaaPFnRecoveredx3
import Derived.Test.YtgmpdkefegofhaaPFnRecoveredx6
import Derived.Test.YtgmpdkefegofhaaPFnRecoveredx9
import Derived.Test.YtgmpdkefegofhaaPFnRecoveredx10
import Derived.Test.YtgmpdkefegofhaaPFnRecoveredx15
namespace Go.Proofs.Ytgmpdkefegofhaa.PFnRecovered
open Go.RowKit Go.Proofs.YtgmpdkefegofhaaW.PrintWords Go.Proofs.YtgmpdkefegofhaaW.PrintLast Go.Proofs.YtgmpdkefegofhaaW.PrintMore
attribute [local go_sem] max2_int min2_int max_two min_two max_three min_three max_four min_four   -- for this text's walks alone
set_option linter.unusedVariables false
set_option linter.unusedSimpArgs false

/-! ### laws_FnRecovered: function 13 -/
mutual
def laws_FnRecovered.j0 : Nat → List Int → Option (Bool)
 | 0, _ => none
 | k + 1, x0 => (spec_DrawRecover.f k x0).bind fun bt753 => ((impl_Recover.f k bt753.1 bt753.2.1 bt753.2.2).bind fun bt761 => ((spec_Recover.f k bt753.1 bt753.2.1 bt753.2.2).bind fun bt768 => ((spec_DiskSame.f k bt761.1 bt761.2 bt768.1 bt768.2).bind fun t774 => (if t774 = true then (laws_FnRecovered.j1 k bt753.2.2 bt753.1 bt753.2.1 bt761.1 bt761.2) else (some false)))))
def laws_FnRecovered.j1 : Nat → Int → List ByteArray → List (S65) → List ByteArray → List (S65) → Option (Bool)
 | 0, _, _, _, _, _ => none
 | k + 1, x4, x761000, x761001, x768000, x768001 => (impl_Recover.f k x768000 x768001 x4).bind fun bt775 => ((impl_DiskSame.f k bt775.1 bt775.2 x768000 x768001).bind fun t781 => (if t781 = true then ((impl_Fall.f k x761000 x761001 ([] : List Bool)).bind fun bt782 => ((impl_Recover.f k bt782.1 bt782.2 x4).bind fun bt788 => ((impl_DiskSame.f k bt788.1 bt788.2 x768000 x768001).bind fun t794 => (if t794 = true then (some true) else ((spec_DiskOk.f k x761000 x761001).bind fun t795 => (if t795 = true then (some ((x761000.length : Int) != (wrap64 ((wrap64 (2 * x4)) + 1)))) else (some true))))))) else ((spec_DiskOk.f k x761000 x761001).bind fun t796 => (if t796 = true then (some ((x761000.length : Int) != (wrap64 ((wrap64 (2 * x4)) + 1)))) else (some true)))))
end
def laws_FnRecovered.f (k : Nat) (l0 : List Int) : Option (Bool) := (laws_big.f l0).bind fun t752 => (if t752 = true then (some true) else (laws_FnRecovered.j0 k l0))
theorem laws_FnRecovered.mono_l : ∀ k, (∀ y0, LeO (laws_FnRecovered.j0 k y0) (laws_FnRecovered.j0 (k + 1) y0)) ∧ (∀ y0 y1 y2 y3 y4, LeO (laws_FnRecovered.j1 k y0 y1 y2 y3 y4) (laws_FnRecovered.j1 (k + 1) y0 y1 y2 y3 y4))
 | 0 => ⟨fun _ r h => by simp [laws_FnRecovered.j0] at h, fun _ _ _ _ _ r h => by simp [laws_FnRecovered.j1] at h⟩
 | k + 1 => by
  obtain ⟨ih0, ih1⟩ := laws_FnRecovered.mono_l k
  refine ⟨?_, ?_⟩
  ·intro y0
   unfold laws_FnRecovered.j0
   have m0_ := @impl_DiskSame.mono
   have m1_ := @impl_Fall.mono
   have m2_ := @impl_Recover.mono
   have m3_ := @spec_DiskOk.mono
   have m4_ := @spec_DiskSame.mono
   have m5_ := @spec_DrawRecover.mono
   have m6_ := @spec_Recover.mono
   exact mM
  ·intro y0 y1 y2 y3 y4
   unfold laws_FnRecovered.j1
   have m0_ := @impl_DiskSame.mono
   have m1_ := @impl_Fall.mono
   have m2_ := @impl_Recover.mono
   have m3_ := @spec_DiskOk.mono
   have m4_ := @spec_DiskSame.mono
   have m5_ := @spec_DrawRecover.mono
   have m6_ := @spec_Recover.mono
   exact mM
theorem laws_FnRecovered.mono : ∀ a0 k, LeO (laws_FnRecovered.f k a0) (laws_FnRecovered.f (k + 1) a0) := by
 intro a0 k
 obtain ⟨ih0, ih1⟩ := laws_FnRecovered.mono_l k
 unfold laws_FnRecovered.f
 have m0_ := @impl_DiskSame.mono
 have m1_ := @impl_Fall.mono
 have m2_ := @impl_Recover.mono
 have m3_ := @spec_DiskOk.mono
 have m4_ := @spec_DiskSame.mono
 have m5_ := @spec_DrawRecover.mono
 have m6_ := @spec_Recover.mono
 exact mM
def laws_FnRecovered.T7 : Bool × List (List Nat × List Nat) := (true, [([], []), ([], []), ([0, 1], [0, 1]), ([], []), ([2, 3, 2], [2, 3]), ([4, 4], [4]), ([5], [5]), ([6, 5, 5], [5, 6]), ([5], [5]), ([7, 8, 7, 5], [5, 7, 8]), ([5], [5]), ([9, 10, 9, 5], [5, 9, 10]), ([5, 11], [5, 11]), ([12, 11], [12]), ([13], [13]), ([14, 13, 13], [13, 14]), ([15, 13], [13, 15]), ([13, 16], [13, 16]), ([17, 15], [17]), ([18], [18]), ([19, 18], [18, 19]), ([20, 18], [18, 20]), ([18], [18]), ([22, 18], [18, 22]), ([23, 18], [18, 23]), ([21, 24, 18], [18, 21, 24]), ([18, 25], [18, 25]), ([26, 18, 0, 1, 2, 3, 4, 5, 6, 7, 8, 9, 10, 11, 12, 13, 14, 15, 16, 17, 18, 19, 20, 21, 22, 23, 24, 25, 26], [26])])
def laws_FnRecovered.B7 : List Nat := [0, 0, 3, 0, 15, 31, 63, 127, 63, 511, 63, 2047, 4095, 8191, 16383, 32767, 65535, 131071, 262143, 524287, 1048575, 2097151, 524287, 4718591, 13107199, 33554431, 67108863, 134217727]
theorem laws_FnRecovered.tab7 : rtab .any (opsOf Try.f13 7) = laws_FnRecovered.T7 := by kernel_rfl
theorem laws_FnRecovered.bits7 : waitsOk laws_FnRecovered.T7.2 laws_FnRecovered.B7 = true := by kernel_rfl
set_option maxHeartbeats 8000000 in
set_option maxRecDepth 100000 in
theorem laws_FnRecovered.calls (k : Nat) (A0 : Option Addr) (c0 : Nat) (l0 : List Int) (r : Bool) (w : World) (hr0 : Kd.C (Kd.int .u8) w A0 l0.length l0) (hc0 : l0.length ≤ c0) (h : laws_FnRecovered.f k l0 = some r) :
  Calls Try.prog 13 #[.slice A0 l0.length c0] w fun e w' => e = .returned (.bool r) ∧ Below w.heap.size w w' := by
 have hu30 := Try.underlying30
 have HR0 := aM hr0
 have HC0 := aM hc0
 clear hr0 hc0
 have HB := aM (Below.refl w.heap.size w)
 unfold laws_FnRecovered.f at h
 have H := h
 clear h
 replace H := Option.bind_eq_some_iff.mp H
 obtain ⟨t752, A20, H⟩ := H
 try dsimp only at H
 have A2 := aM A20
 clear A20
 have HC3 := aM H
 clear H
 go_enter Try.func13, Try.ntmps13
 go_upto_if 7 with (first | ((with_reducible refine gate_callee (f := 46) rfl ?_); refine gL (some 7) Try.func46 #[.slice A0 l0.length c0] ?_; (with_reducible refine (laws_big.calls _ _ l0 t752 _ ?side1 ?side2 A2.out).mono ?_); (case side1 => repeat (first | exact HR0.out | (with_reducible refine Kd.C_alloc ?_ _) | (with_reducible refine Kd.C_drewN ?_ _) | (with_reducible refine Kd.C_drew ?_))); (case side2 => exact HC0.out); rintro e w' ⟨rfl, ⟨nd, rfl⟩⟩; refine ⟨_, rfl, ?_⟩))
 (try simp only [Act.put, List.setIfInBounds_toArray, List.set_cons_zero, List.set_cons_succ])
 go_cut [] (fun wc => ∃ (kq : Nat), Aside0 (laws_FnRecovered.j0 kq l0 = some r) ∧ Aside0 (kq ≤ k) ∧ Aside0 (Below w.heap.size w wc))
 case first =>
  have H := HC3.out
  clear HC3
  by_cases c4 : t752 = true
  ·subst c4
   rw [if_pos rfl] at H
   obtain rfl := Option.some.inj H
   go_wp2
   go_ret
   exact ⟨eW, bB⟩
  replace c4 := Bool.eq_false_iff.mpr c4
  subst c4
  rw [if_neg (show ¬ (false = true) by decide)] at H
  have H' := aM H
  clear H
  go_wp2
  go_meet
  case rel => exact ⟨_, H', ⟨by first | omega | exact Nat.le_refl _⟩, ⟨bB⟩⟩
 case rest =>
  clear HC3
  try clear c1
  try clear p2
  try clear c4
  obtain ⟨kq, HA, HJ2, HB⟩ := hcut
  cases kq with
  | zero => exact absurd HA.out (by simp [laws_FnRecovered.j0])
  | succ kj2 =>
   have H := HA.out
   clear HA
   simp only [laws_FnRecovered.j0] at H
   replace H := Option.bind_eq_some_iff.mp H
   obtain ⟨⟨t753, t756, t759⟩, A50, H⟩ := H
   try dsimp only at H
   have A5 := aM A50
   clear A50
   replace H := Option.bind_eq_some_iff.mp H
   obtain ⟨⟨t761, t764⟩, A60, H⟩ := H
   try dsimp only at H
   have A6 := aM A60
   clear A60
   replace H := Option.bind_eq_some_iff.mp H
   obtain ⟨⟨t768, t771⟩, A70, H⟩ := H
   try dsimp only at H
   have A7 := aM A70
   clear A70
   replace H := Option.bind_eq_some_iff.mp H
   obtain ⟨t774, A80, H⟩ := H
   try dsimp only at H
   have A8 := aM A80
   clear A80
   have HC9 := aM H
   clear H
   try go_wp2_with (first | ((with_reducible refine gate_callee (f := 51) rfl ?_); refine gL (some 10) Try.func51 #[.slice A0 l0.length c0] ?_; (with_reducible refine (spec_DrawRecover.calls kj2 _ _ l0 t753 t756 t759 _ ?side1 ?side2 A5.out).mono ?_); (case side1 => exact cS HR0 HB); (case side2 => exact HC0.out); rintro e w10 ⟨v754, v757, rfl, ho0, ho1, hb⟩; refine ⟨_, rfl, ?_⟩; have n_ := aI (lR HB ho0) (aI (lR HB ho1) (sB HB hb)); clear HB; obtain ⟨HO755, HO758, HB⟩ := n_; (try clear hb ho0 ho1)) | ((with_reducible refine gate_dst (N := 3) rfl ?_); (try (refine gate_guard (by rfl) ?_; dsimp only)); refine box_event ?hg (N := 3) ?hd (cs := #[.slice none 0 0, .slice none 0 0]) (t := 30) ?hr ?_; (case hd => rfl); (case hg => rfl); (case hr => first | (go_simp; done) | (go_simp; rfl)); intro gb760 hg w11 hbox hb; have n_ := aI (rB HO755 hb) (aI (rB HO758 hb) (aI (sB HB hb) (aI (aM hbox) (aI (gE HB hg) (gE HB hg))))); clear HO755 HO758 HB; obtain ⟨HO755, HO758, HB, BK760, GW760, GE760⟩ := n_; (try clear hb hbox hg); obtain ⟨Ao12, co12, eo12⟩ := Kd.R_slice HO755.out; subst eo12; have hcz13_0 := cZ0 BK760; have hcz13_1 := cZ1 BK760; have hfz13_0 := fZ BK760 0; have hfz13_1 := fZ BK760 1; obtain ⟨Ao14, co14, eo14⟩ := Kd.R_slice HO758.out; subst eo14) | ((with_reducible refine gate_callee (f := 45) rfl ?_); refine gL (some 15) Try.func45 #[.agg #[.slice Ao12 t753.length co12, .slice Ao14 t756.length co14], .int .i64 t759] ?_; (with_reducible refine (impl_Recover.calls kj2 _ _ t753 _ _ t756 t759 t761 t764 _ ?side1 ?side2 ?side3 ?side4 A6.out).mono ?_); (case side1 => refine (Kd.R_reads' (e := 9) (base := w.heap.size) (ok := fun k_ => True) (n := t753.length) (c := co12) ?_).2.2; exact (rP (Kd.R_mono (Kd.R_far (p := ⟨gb760, 1, none⟩) (Kd.R_far (p := ⟨gb760, 0, none⟩) (Kd.R_types HO755.out BK760.out (by decide)) (fun _ hk => hk.2) (.slice Ao12 t753.length co12)) (fun _ hk => hk.2) (.slice Ao14 t756.length co14)) (fun _ h_ => h_.1)))); (case side2 => exact (Kd.R_reads' HO755.out).2.1); (case side3 => refine (Kd.R_reads' (e := 65) (base := w.heap.size) (ok := fun k_ => True) (n := t756.length) (c := co14) ?_).2.2; exact (rP (Kd.R_mono (Kd.R_far (p := ⟨gb760, 1, none⟩) (Kd.R_far (p := ⟨gb760, 0, none⟩) (Kd.R_types HO758.out BK760.out (by decide)) (fun _ hk => hk.2) (.slice Ao12 t753.length co12)) (fun _ hk => hk.2) (.slice Ao14 t756.length co14)) (fun _ h_ => h_.1)))); (case side4 => exact (Kd.R_reads' HO758.out).2.1); rintro e w15 ⟨v762, v765, rfl, ho0, ho1, hb⟩; refine ⟨_, rfl, ?_⟩; have n_ := aI (aM (Kd.R_elder' (rP (Kd.R_mono (Kd.R_far (p := ⟨gb760, 1, none⟩) (Kd.R_far (p := ⟨gb760, 0, none⟩) (Kd.R_types HO755.out BK760.out (by decide)) (fun _ hk => hk.2) (.slice Ao12 t753.length co12)) (fun _ hk => hk.2) (.slice Ao14 t756.length co14)) (fun _ h_ => h_.1))) (Kd.R_base ho0) hb)) (aI (aM (Kd.R_elder' (rP (Kd.R_mono (Kd.R_far (p := ⟨gb760, 1, none⟩) (Kd.R_far (p := ⟨gb760, 0, none⟩) (Kd.R_types HO758.out BK760.out (by decide)) (fun _ hk => hk.2) (.slice Ao12 t753.length co12)) (fun _ hk => hk.2) (.slice Ao14 t756.length co14)) (fun _ h_ => h_.1))) (Kd.R_base ho1) hb)) (aI (aM (Kd.R_lower (Kd.R_new' ho0 (Kd.R_lt (rP (Kd.R_mono (Kd.R_far (p := ⟨gb760, 1, none⟩) (Kd.R_far (p := ⟨gb760, 0, none⟩) (Kd.R_types HO755.out BK760.out (by decide)) (fun _ hk => hk.2) (.slice Ao12 t753.length co12)) (fun _ hk => hk.2) (.slice Ao14 t756.length co14)) (fun _ h_ => h_.1))))) (zB HB))) (aI (aM (Kd.R_lower (Kd.R_new' ho1 (Kd.R_lt (rP (Kd.R_mono (Kd.R_far (p := ⟨gb760, 1, none⟩) (Kd.R_far (p := ⟨gb760, 0, none⟩) (Kd.R_types HO758.out BK760.out (by decide)) (fun _ hk => hk.2) (.slice Ao12 t753.length co12)) (fun _ hk => hk.2) (.slice Ao14 t756.length co14)) (fun _ h_ => h_.1))))) (zB HB))) (aI (aM (blk_below (g := gb760) (o := .cells #[.slice Ao12 t753.length co12, .slice Ao14 t756.length co14] 30 (0, 0)) (by (with_reducible repeat (first | apply bN | apply bD | apply bA)); refine blk_put (cs := #[.slice Ao12 t753.length co12, .slice none 0 0]) ?_ 1 _ rfl; (with_reducible repeat (first | apply bN | apply bD | apply bA)); refine blk_put (cs := #[.slice none 0 0, .slice none 0 0]) ?_ 0 _ rfl; (with_reducible repeat (first | apply bN | apply bD | apply bA)); exact BK760.out) hb)) (sB HB hb))))); clear HO755 HO758 BK760 HB; obtain ⟨HO755, HO758, HO763, HO766, BK760, HB⟩ := n_; (try clear hb ho0 ho1)) | ((with_reducible refine gate_dst (N := 5) rfl ?_); (try (refine gate_guard (by rfl) ?_; dsimp only)); refine box_event ?hg (N := 5) ?hd (cs := #[.slice none 0 0, .slice none 0 0]) (t := 30) ?hr ?_; (case hd => rfl); (case hg => rfl); (case hr => first | (go_simp; done) | (go_simp; rfl)); intro gb767 hg w16 hbox hb; have n_ := aI (rB HO755 hb) (aI (rB HO758 hb) (aI (rB HO763 hb) (aI (rB HO766 hb) (aI (kB BK760 hb) (aI (sB HB hb) (aI (aM hbox) (aI (gE HB hg) (aI (gE HB hg) (aI (nL BK760 hg) (nG BK760 hg)))))))))); clear HO755 HO758 HO763 HO766 BK760 HB; obtain ⟨HO755, HO758, HO763, HO766, BK760, HB, BK767, GW767, GE767, NB760_767, NB767_760⟩ := n_; (try clear hb hbox hg); obtain ⟨Ao17, co17, eo17⟩ := Kd.R_slice HO763.out; subst eo17; have hnb18 := NB767_760.out; have hnc18 := NB760_767.out; have hcz19_0 := cZ0 BK767; have hcz19_1 := cZ1 BK767; have hfz19_0 := fZ BK767 0; have hfz19_1 := fZ BK767 1; obtain ⟨Ao20, co20, eo20⟩ := Kd.R_slice HO766.out; subst eo20))
   have n0_ : Aside0 (Kd.R Kd.string 9 ((w16.setCell ⟨gb767, 0, none⟩ (.slice Ao17 t761.length co17)).setCell ⟨gb767, 1, none⟩ (.slice Ao20 t764.length co20)) w.heap.size (fun k_ => some k_ ≠ (.slice Ao17 t761.length co17 : Value).ownBlock) (.slice Ao12 t753.length co12) t753) := ⟨rP (Kd.R_mono (Kd.R_far (p := ⟨gb767, 1, none⟩) (Kd.R_far (p := ⟨gb767, 0, none⟩) (Kd.R_types HO755.out BK767.out (by decide)) (fun _ hk => hk.2) (.slice Ao17 t761.length co17)) (fun _ hk => hk.2) (.slice Ao20 t764.length co20)) (fun _ hk => hk.1.2))⟩
   have n1_ : Aside0 (Kd.R k65 65 ((w16.setCell ⟨gb767, 0, none⟩ (.slice Ao17 t761.length co17)).setCell ⟨gb767, 1, none⟩ (.slice Ao20 t764.length co20)) w.heap.size (fun k_ => some k_ ≠ (.slice Ao20 t764.length co20 : Value).ownBlock) (.slice Ao14 t756.length co14) t756) := ⟨rP (Kd.R_mono (Kd.R_far (p := ⟨gb767, 1, none⟩) (Kd.R_far (p := ⟨gb767, 0, none⟩) (Kd.R_types HO758.out BK767.out (by decide)) (fun _ hk => hk.2) (.slice Ao17 t761.length co17)) (fun _ hk => hk.2) (.slice Ao20 t764.length co20)) (fun _ hk => hk.1.2))⟩
   have n2_ : Aside0 (Kd.R Kd.string 9 ((w16.setCell ⟨gb767, 0, none⟩ (.slice Ao17 t761.length co17)).setCell ⟨gb767, 1, none⟩ (.slice Ao20 t764.length co20)) w.heap.size (fun k_ => some k_ ≠ (.slice Ao12 t753.length co12 : Value).ownBlock) (.slice Ao17 t761.length co17) t761) := ⟨rP (Kd.R_mono (Kd.R_far (p := ⟨gb767, 1, none⟩) (Kd.R_far (p := ⟨gb767, 0, none⟩) (Kd.R_types HO763.out BK767.out (by decide)) (fun _ hk => hk.2) (.slice Ao17 t761.length co17)) (fun _ hk => hk.2) (.slice Ao20 t764.length co20)) (fun _ hk => hk.1.2))⟩
   have n3_ : Aside0 (Kd.R k65 65 ((w16.setCell ⟨gb767, 0, none⟩ (.slice Ao17 t761.length co17)).setCell ⟨gb767, 1, none⟩ (.slice Ao20 t764.length co20)) w.heap.size (fun k_ => some k_ ≠ (.slice Ao14 t756.length co14 : Value).ownBlock) (.slice Ao20 t764.length co20) t764) := ⟨rP (Kd.R_mono (Kd.R_far (p := ⟨gb767, 1, none⟩) (Kd.R_far (p := ⟨gb767, 0, none⟩) (Kd.R_types HO766.out BK767.out (by decide)) (fun _ hk => hk.2) (.slice Ao17 t761.length co17)) (fun _ hk => hk.2) (.slice Ao20 t764.length co20)) (fun _ hk => hk.1.2))⟩
   have n4_ : Aside0 (((w16.setCell ⟨gb767, 0, none⟩ (.slice Ao17 t761.length co17)).setCell ⟨gb767, 1, none⟩ (.slice Ao20 t764.length co20)).heap[gb760]? = some (.cells #[.slice Ao12 t753.length co12, .slice Ao14 t756.length co14] 30 (0, 0))) := ⟨kP BK760⟩
   have n5_ : Aside0 (((w16.setCell ⟨gb767, 0, none⟩ (.slice Ao17 t761.length co17)).setCell ⟨gb767, 1, none⟩ (.slice Ao20 t764.length co20)).heap[gb767]? = some (.cells #[.slice Ao17 t761.length co17, .slice Ao20 t764.length co20] 30 (0, 0))) := ⟨by (with_reducible repeat (first | apply bN | apply bD | apply bA)); refine blk_put (cs := #[.slice Ao17 t761.length co17, .slice none 0 0]) ?_ 1 _ rfl; (with_reducible repeat (first | apply bN | apply bD | apply bA)); refine blk_put (cs := #[.slice none 0 0, .slice none 0 0]) ?_ 0 _ rfl; (with_reducible repeat (first | apply bN | apply bD | apply bA)); exact BK767.out⟩
   have n6_ : Aside0 (Below w.heap.size w ((w16.setCell ⟨gb767, 0, none⟩ (.slice Ao17 t761.length co17)).setCell ⟨gb767, 1, none⟩ (.slice Ao20 t764.length co20))) := ⟨bB⟩
   (try clear HO755)
   (try clear HO758)
   (try clear HO763)
   (try clear HO766)
   (try clear BK760)
   (try clear BK767)
   (try clear HB)
   generalize ((w16.setCell ⟨gb767, 0, none⟩ (.slice Ao17 t761.length co17)).setCell ⟨gb767, 1, none⟩ (.slice Ao20 t764.length co20)) = w21 at n0_ n1_ n2_ n3_ n4_ n5_ n6_ ⊢
   have HO755 := n0_
   have HO758 := n1_
   have HO763 := n2_
   have HO766 := n3_
   have BK760 := n4_
   have BK767 := n5_
   have HB := n6_
   clear n0_ n1_ n2_ n3_ n4_ n5_ n6_
   have n_ := aI (aM (Kd.R_drew HO755.out)) (aI (aM (Kd.R_drew HO758.out)) (aI (aM (Kd.R_drew HO763.out)) (aI (aM (Kd.R_drew HO766.out)) (aI (aM (blk_drew BK760.out)) (aI (aM (blk_drew BK767.out)) (aM (below_drew1 HB.out)))))))
   clear HO755 HO758 HO763 HO766 BK760 BK767 HB
   obtain ⟨HO755, HO758, HO763, HO766, BK760, BK767, HB⟩ := n_
   refine start_ (n := 6) (S := fun w' => w'.cell? ⟨gb767, 0, none⟩ = some (.slice Ao17 t761.length co17) ∧ w'.cell? ⟨gb767, 1, none⟩ = some (.slice Ao20 t764.length co20) ∧ w'.cell? ⟨gb760, 0, none⟩ = some (.slice Ao12 t753.length co12) ∧ w'.cell? ⟨gb760, 1, none⟩ = some (.slice Ao14 t756.length co14)) (ds := []) #[tF, tF, tF, tF, tF, tF] (by kernel_rfl) rfl rfl ⟨(blk_cell BK767.out 0).trans rfl, (blk_cell BK767.out 1).trans rfl, (blk_cell BK760.out 0).trans rfl, (blk_cell BK760.out 1).trans rfl⟩ (fun hHeld => ?_)
   generalize w21.drew = w22 at HO755 HO758 HO763 HO766 BK760 BK767 HB hHeld ⊢
   refine pure_ (i := 2) (N := some 18) (v := ?_) (a' := ?_) #[tF, tF, tT, tF, tF, tF] rfl rfl (by kernel_rfl) (fun _ _ _ h => h) (Or.inl ⟨by rfl, ?_⟩) ?_ ?_
   rotate_left
   ·intro w'
    go_simp
    with_reducible rfl
   rotate_left
   ·simp only [Act.put, List.setIfInBounds_toArray, List.set_cons_zero, List.set_cons_succ, i64_w, i32_w]
    rfl
   refine take_ (i := 0) (N := some 16) (v := ?_) (a' := ?_) #[tT, tF, tT, tF, tF, tF] rfl rfl (by kernel_rfl) (fun _ _ _ h => h) (Or.inl ⟨by rfl, ?_⟩) hHeld ?_ ?_
   rotate_left
   ·rintro w' ⟨s0, s1, s2, s3⟩
    go_simp
    with_reducible rfl
   rotate_left
   ·simp only [Act.put, List.setIfInBounds_toArray, List.set_cons_zero, List.set_cons_succ, i64_w, i32_w]
    rfl
   refine take_ (i := 1) (N := some 17) (v := ?_) (a' := ?_) #[tT, tT, tT, tF, tF, tF] rfl rfl (by kernel_rfl) (fun _ _ _ h => h) (Or.inl ⟨by rfl, ?_⟩) hHeld ?_ ?_
   rotate_left
   ·rintro w' ⟨s0, s1, s2, s3⟩
    go_simp
    with_reducible rfl
   rotate_left
   ·simp only [Act.put, List.setIfInBounds_toArray, List.set_cons_zero, List.set_cons_succ, i64_w, i32_w]
    rfl
   refine one_ (i := 3) (N := some 19) #[tT, tT, tT, tT, tF, tF] rfl rfl (by kernel_rfl) (by decide) (fun K hK => ?_)
   refine goes_ Try.func44 (by kernel_rfl) rfl #[.agg #[.slice Ao12 t753.length co12, .slice Ao14 t756.length co14], .int .i64 t759] (by rfl) rfl rfl (by (try simp only [List.map_toArray, List.map_cons, List.map_nil]); first | done | rfl | (simp only [List.length_drop, List.length_take]; rfl)) ?_
   with_reducible refine (spec_Recover.calls kj2 _ _ t753 _ _ t756 t759 t768 t771 _ ?side1 ?side2 ?side3 ?side4 A7.out).mono ?_
   (case side1 => exact cR HO755)
   (case side2 => exact (Kd.R_reads' HO755.out).2.1)
   (case side3 => exact cR HO758)
   (case side4 => exact (Kd.R_reads' HO758.out).2.1)
   rintro e w23 ⟨v769, v772, rfl, ho0, ho1, hb⟩
   refine ⟨_, rfl, ?_⟩
   have n_ := aI (eR HO755 ho0 hb) (aI (eR HO758 ho1 hb) (aI (eR HO763 ho0 hb) (aI (eR HO766 ho1 hb) (aI (aM (Kd.R_lower (Kd.R_new' (Kd.R_new' ho0 (rL HO755)) (rL HO763)) (zB HB))) (aI (aM (Kd.R_lower (Kd.R_new' (Kd.R_new' ho1 (rL HO758)) (rL HO766)) (zB HB))) (aI (kB BK760 hb) (aI (kB BK767 hb) (sB HB hb))))))))
   clear HO755 HO758 HO763 HO766 BK760 BK767 HB
   obtain ⟨HO755, HO758, HO763, HO766, HO770, HO773, BK760, BK767, HB⟩ := n_
   (try clear hb)
   (try clear hb2)
   (try clear hk)
   (try clear hi)
   (try clear ho0)
   (try clear ho1)
   obtain ⟨Ao24, co24, eo24⟩ := Kd.R_slice HO770.out
   (first | subst eo24 | (injection eo24 with f1_ f2_ f3_; have f4_ := f1_.symm; have f5_ := f3_.symm; clear f1_ f2_ f3_; subst f4_; subst f5_))
   obtain ⟨Ao25, co25, eo25⟩ := Kd.R_slice HO773.out
   (first | subst eo25 | (injection eo25 with f1_ f2_ f3_; have f4_ := f1_.symm; have f5_ := f3_.symm; clear f1_ f2_ f3_; subst f4_; subst f5_))
   refine hK.out _ _ ⟨(blk_cell BK767.out 0).trans rfl, (blk_cell BK767.out 1).trans rfl, (blk_cell BK760.out 0).trans rfl, (blk_cell BK760.out 1).trans rfl⟩ (fun hHeld => ?_)
   clear hK K
   refine norm_ (a' := ?_) ?_ ?_
   rotate_left
   ·show Act.put _ (some 19) _ = _
    simp only [Act.put, List.setIfInBounds_toArray, List.set_cons_zero, List.set_cons_succ, i64_w, i32_w]
    rfl
   refine one_ (i := 4) (N := some 20) #[tT, tT, tT, tT, tT, tF] rfl rfl (by kernel_rfl) (by decide) (fun K hK => ?_)
   refine goes_ Try.func48 (by kernel_rfl) rfl #[.agg #[.slice Ao17 t761.length co17, .slice Ao20 t764.length co20], .agg #[.slice Ao24 t768.length co24, .slice Ao25 t771.length co25]] (by rfl) rfl rfl (by (try simp only [List.map_toArray, List.map_cons, List.map_nil]); first | done | rfl | (simp only [List.length_drop, List.length_take]; rfl)) ?_
   with_reducible refine (spec_DiskSame.calls kj2 _ _ t761 _ _ t764 _ _ t768 _ _ t771 t774 _ ?side1 ?side2 ?side3 ?side4 ?side5 ?side6 ?side7 ?side8 A8.out).mono ?_
   (case side1 => exact cR HO763)
   (case side2 => exact (Kd.R_reads' HO763.out).2.1)
   (case side3 => exact cR HO766)
   (case side4 => exact (Kd.R_reads' HO766.out).2.1)
   (case side5 => exact cR HO770)
   (case side6 => exact (Kd.R_reads' HO770.out).2.1)
   (case side7 => exact cR HO773)
   (case side8 => exact (Kd.R_reads' HO773.out).2.1)
   rintro e w26 ⟨rfl, hb⟩
   refine ⟨_, rfl, ?_⟩
   have n_ := aI (rB HO755 hb) (aI (rB HO758 hb) (aI (rB HO763 hb) (aI (rB HO766 hb) (aI (rB HO770 hb) (aI (rB HO773 hb) (aI (kB BK760 hb) (aI (kB BK767 hb) (sB HB hb))))))))
   clear HO755 HO758 HO763 HO766 HO770 HO773 BK760 BK767 HB
   obtain ⟨HO755, HO758, HO763, HO766, HO770, HO773, BK760, BK767, HB⟩ := n_
   (try clear hb)
   (try clear hb2)
   (try clear hk)
   (try clear hi)
   refine hK.out _ _ ⟨(blk_cell BK767.out 0).trans rfl, (blk_cell BK767.out 1).trans rfl, (blk_cell BK760.out 0).trans rfl, (blk_cell BK760.out 1).trans rfl⟩ (fun hHeld => ?_)
   clear hK K
   refine norm_ (a' := ?_) ?_ ?_
   rotate_left
   ·show Act.put _ (some 20) _ = _
    simp only [Act.put, List.setIfInBounds_toArray, List.set_cons_zero, List.set_cons_succ, i64_w, i32_w]
    rfl
   refine pure_ (i := 5) (N := some 21) (v := ?_) (a' := ?_) #[tT, tT, tT, tT, tT, tT] rfl rfl (by kernel_rfl) (fun _ _ _ h => h) (Or.inl ⟨by rfl, ?_⟩) ?_ ?_
   rotate_left
   ·intro w'
    go_simp
    with_reducible rfl
   rotate_left
   ·simp only [Act.put, List.setIfInBounds_toArray, List.set_cons_zero, List.set_cons_succ, i64_w, i32_w]
    rfl
   refine done_ (by kernel_rfl) ?_
   go_upto_if 21 with (fail)
   go_cut [] (fun wc => ∃ (kq : Nat), Aside0 (laws_FnRecovered.j1 kq t759 t753 t756 t761 t764 = some r) ∧ Aside0 (kq ≤ kj2) ∧ Aside0 (Kd.R Kd.string 9 wc w.heap.size (fun k_ => some k_ ≠ ((.slice Ao17 t761.length co17) : Value).ownBlock) (.slice Ao12 t753.length co12) t753) ∧ Aside0 (Kd.R k65 65 wc w.heap.size (fun k_ => some k_ ≠ ((.slice Ao20 t764.length co20) : Value).ownBlock) (.slice Ao14 t756.length co14) t756) ∧ Aside0 (Kd.R Kd.string 9 wc w.heap.size (fun k_ => some k_ ≠ ((.slice Ao12 t753.length co12) : Value).ownBlock) (.slice Ao17 t761.length co17) t761) ∧ Aside0 (Kd.R k65 65 wc w.heap.size (fun k_ => some k_ ≠ ((.slice Ao14 t756.length co14) : Value).ownBlock) (.slice Ao20 t764.length co20) t764) ∧ Aside0 (wc.heap[gb760]? = some (.cells #[(.slice Ao12 t753.length co12), (.slice Ao14 t756.length co14)] 30 (0, 0))) ∧ Aside0 (wc.heap[gb767]? = some (.cells #[(.slice Ao17 t761.length co17), (.slice Ao20 t764.length co20)] 30 (0, 0))) ∧ Aside0 (Below w.heap.size w wc))
   case first =>
    have H := HC9.out
    clear HC9
    by_cases c27 : t774 = true
    ·subst c27
     rw [if_pos rfl] at H
     have H' := aM H
     clear H
     go_wp2
     go_meet
     case rel => exact ⟨_, H', ⟨by have := HJ2.out; first | omega | exact Nat.le_refl _⟩, ⟨rP (Kd.R_mono HO755.out (fun _ hk => hk.1))⟩, ⟨rP (Kd.R_mono HO758.out (fun _ hk => hk.1))⟩, ⟨rP (Kd.R_mono HO763.out (fun _ hk => hk.1))⟩, ⟨rP (Kd.R_mono HO766.out (fun _ hk => hk.1))⟩, ⟨kP BK760⟩, ⟨kP BK767⟩, ⟨bB⟩⟩
    ·replace c27 := Bool.eq_false_iff.mpr c27
     subst c27
     rw [if_neg (show ¬ (false = true) by decide)] at H
     obtain rfl := Option.some.inj H
     go_wp2
     go_ret
     exact ⟨eW, bB⟩
   case rest =>
    clear HC9
    try clear c1
    try clear c2
    try clear p2
    try clear c4
    try clear c5
    try clear c13
    try clear c18
    try clear c27
    try clear hcz13_0
    try clear hcz13_1
    try clear hcz19_0
    try clear hcz19_1
    try clear hfz13_0
    try clear hfz13_1
    try clear hfz19_0
    try clear hfz19_1
    try clear p2
    obtain ⟨kq, HA, HJ8, HO_761000, HO_761001, HO_768000, HO_768001, BK760, BK767, HB⟩ := hcut
    cases kq with
    | zero => exact absurd HA.out (by simp [laws_FnRecovered.j1])
    | succ kj8 =>
     have H := HA.out
     clear HA
     simp only [laws_FnRecovered.j1] at H
     replace H := Option.bind_eq_some_iff.mp H
     obtain ⟨⟨t775, t778⟩, A280, H⟩ := H
     try dsimp only at H
     have A28 := aM A280
     clear A280
     replace H := Option.bind_eq_some_iff.mp H
     obtain ⟨t781, A290, H⟩ := H
     try dsimp only at H
     have A29 := aM A290
     clear A290
     by_cases c30 : t781 = true
     ·subst c30
      rw [if_pos rfl] at H
      replace H := Option.bind_eq_some_iff.mp H
      obtain ⟨⟨t782, t785⟩, A310, H⟩ := H
      try dsimp only at H
      have A31 := aM A310
      clear A310
      replace H := Option.bind_eq_some_iff.mp H
      obtain ⟨⟨t788, t791⟩, A320, H⟩ := H
      try dsimp only at H
      have A32 := aM A320
      clear A320
      replace H := Option.bind_eq_some_iff.mp H
      obtain ⟨t794, A330, H⟩ := H
      try dsimp only at H
      have A33 := aM A330
      clear A330
      by_cases c34 : t794 = true
      ·subst c34
       rw [if_pos rfl] at H
       obtain rfl := Option.some.inj H
       try go_wp2
       have n_ := aI (aM (Kd.R_drew HO_761000.out)) (aI (aM (Kd.R_drew HO_761001.out)) (aI (aM (Kd.R_drew HO_768000.out)) (aI (aM (Kd.R_drew HO_768001.out)) (aI (aM (blk_drew BK760.out)) (aI (aM (blk_drew BK767.out)) (aM (below_drew1 HB.out)))))))
       clear HO_761000 HO_761001 HO_768000 HO_768001 BK760 BK767 HB
       obtain ⟨HO_761000, HO_761001, HO_768000, HO_768001, BK760, BK767, HB⟩ := n_
       refine start_ (n := 28) (S := fun w' => w'.cell? ⟨gb767, 0, none⟩ = some (.slice Ao17 t761.length co17) ∧ w'.cell? ⟨gb767, 1, none⟩ = some (.slice Ao20 t764.length co20) ∧ w'.cell? ⟨gb760, 0, none⟩ = some (.slice Ao12 t753.length co12) ∧ w'.cell? ⟨gb760, 1, none⟩ = some (.slice Ao14 t756.length co14)) (ds := []) #[tF, tF, tF, tF, tF, tF, tF, tF, tF, tF, tF, tF, tF, tF, tF, tF, tF, tF, tF, tF, tF, tF, tF, tF, tF, tF, tF, tF] (by kernel_rfl) rfl rfl ⟨(blk_cell BK767.out 0).trans rfl, (blk_cell BK767.out 1).trans rfl, (blk_cell BK760.out 0).trans rfl, (blk_cell BK760.out 1).trans rfl⟩ (fun hHeld => ?_); refine with_tabW laws_FnRecovered.tab7 laws_FnRecovered.bits7 (fun HT_ HW_ => ?_)
       generalize wc.drew = w35 at HO_761000 HO_761001 HO_768000 HO_768001 BK760 BK767 HB hHeld ⊢
       refine pY 1 23 #[tF, tT, tF, tF, tF, tF, tF, tF, tF, tF, tF, tF, tF, tF, tF, tF, tF, tF, tF, tF, tF, tF, tF, tF, tF, tF, tF, tF] ?_
       refine take_ (i := 0) (N := some 22) (v := ?_) (a' := ?_) #[tT, tT, tF, tF, tF, tF, tF, tF, tF, tF, tF, tF, tF, tF, tF, tF, tF, tF, tF, tF, tF, tF, tF, tF, tF, tF, tF, tF] rfl rfl (take_ofW HT_.out HW_.out (by kernel_rfl)) (fun _ _ _ h => h) (Or.inl ⟨by rfl, ?_⟩) hHeld ?_ ?_
       rotate_left
       ·rintro w' ⟨s0, s1, s2, s3⟩
        go_simp
        with_reducible rfl
       rotate_left
       ·simp only [Act.put, List.setIfInBounds_toArray, List.set_cons_zero, List.set_cons_succ, i64_w, i32_w]
        rfl
       refine take_ (i := 3) (N := some 25) (v := ?_) (a' := ?_) #[tT, tT, tF, tT, tF, tF, tF, tF, tF, tF, tF, tF, tF, tF, tF, tF, tF, tF, tF, tF, tF, tF, tF, tF, tF, tF, tF, tF] rfl rfl (take_ofW HT_.out HW_.out (by kernel_rfl)) (fun _ _ _ h => h) (Or.inl ⟨by rfl, ?_⟩) hHeld ?_ ?_
       rotate_left
       ·rintro w' ⟨s0, s1, s2, s3⟩
        go_simp
        with_reducible rfl
       rotate_left
       ·simp only [Act.put, List.setIfInBounds_toArray, List.set_cons_zero, List.set_cons_succ, i64_w, i32_w]
        rfl
       refine one_ (i := 2) (N := some 24) #[tT, tT, tT, tT, tF, tF, tF, tF, tF, tF, tF, tF, tF, tF, tF, tF, tF, tF, tF, tF, tF, tF, tF, tF, tF, tF, tF, tF] rfl rfl (one_of HT_.out (by kernel_rfl)) (by decide) (fun K hK => ?_)
       refine goes_ Try.func45 (by kernel_rfl) rfl #[.agg #[.slice Ao17 t761.length co17, .slice Ao20 t764.length co20], .int .i64 t759] (by rfl) rfl rfl (by (try simp only [List.map_toArray, List.map_cons, List.map_nil]); first | done | rfl | (simp only [List.length_drop, List.length_take]; rfl)) ?_
       with_reducible refine (impl_Recover.calls kj8 _ _ t761 _ _ t764 t759 t775 t778 _ ?side1 ?side2 ?side3 ?side4 A28.out).mono ?_
       (case side1 => exact cR HO_768000)
       (case side2 => exact (Kd.R_reads' HO_768000.out).2.1)
       (case side3 => exact cR HO_768001)
       (case side4 => exact (Kd.R_reads' HO_768001.out).2.1)
       rintro e w36 ⟨v776, v779, rfl, ho0, ho1, hb⟩
       refine ⟨_, rfl, ?_⟩
       have n_ := aI (eR HO_761000 ho0 hb) (aI (eR HO_761001 ho1 hb) (aI (eR HO_768000 ho0 hb) (aI (eR HO_768001 ho1 hb) (aI (aM (Kd.R_lower (Kd.R_new' (Kd.R_new' ho0 (rL HO_761000)) (rL HO_768000)) (zB HB))) (aI (aM (Kd.R_lower (Kd.R_new' (Kd.R_new' ho1 (rL HO_761001)) (rL HO_768001)) (zB HB))) (aI (kB BK760 hb) (aI (kB BK767 hb) (sB HB hb))))))))
       clear HO_761000 HO_761001 HO_768000 HO_768001 BK760 BK767 HB
       obtain ⟨HO_761000, HO_761001, HO_768000, HO_768001, HO777, HO780, BK760, BK767, HB⟩ := n_
       (try clear hb)
       (try clear hb2)
       (try clear hk)
       (try clear hi)
       (try clear ho0)
       (try clear ho1)
       obtain ⟨Ao37, co37, eo37⟩ := Kd.R_slice HO777.out
       (first | subst eo37 | (injection eo37 with f1_ f2_ f3_; have f4_ := f1_.symm; have f5_ := f3_.symm; clear f1_ f2_ f3_; subst f4_; subst f5_))
       obtain ⟨Ao38, co38, eo38⟩ := Kd.R_slice HO780.out
       (first | subst eo38 | (injection eo38 with f1_ f2_ f3_; have f4_ := f1_.symm; have f5_ := f3_.symm; clear f1_ f2_ f3_; subst f4_; subst f5_))
       refine hK.out _ _ ⟨(blk_cell BK767.out 0).trans rfl, (blk_cell BK767.out 1).trans rfl, (blk_cell BK760.out 0).trans rfl, (blk_cell BK760.out 1).trans rfl⟩ (fun hHeld => ?_)
       clear hK K
       refine norm_ (a' := ?_) ?_ ?_
       rotate_left
       ·show Act.put _ (some 24) _ = _
        simp only [Act.put, List.setIfInBounds_toArray, List.set_cons_zero, List.set_cons_succ, i64_w, i32_w]
        rfl
       refine one_ (i := 4) (N := some 26) #[tT, tT, tT, tT, tT, tF, tF, tF, tF, tF, tF, tF, tF, tF, tF, tF, tF, tF, tF, tF, tF, tF, tF, tF, tF, tF, tF, tF] rfl rfl (one_of HT_.out (by kernel_rfl)) (by decide) (fun K hK => ?_)
       refine goes_ Try.func49 (by kernel_rfl) rfl #[.agg #[.slice Ao37 t775.length co37, .slice Ao38 t778.length co38], .agg #[.slice Ao17 t761.length co17, .slice Ao20 t764.length co20]] (by rfl) rfl rfl (by (try simp only [List.map_toArray, List.map_cons, List.map_nil]); first | done | rfl | (simp only [List.length_drop, List.length_take]; rfl)) ?_
       with_reducible refine (impl_DiskSame.calls kj8 _ _ t775 _ _ t778 _ _ t761 _ _ t764 true _ ?side1 ?side2 ?side3 ?side4 ?side5 ?side6 ?side7 ?side8 A29.out).mono ?_
       (case side1 => exact cR HO777)
       (case side2 => exact (Kd.R_reads' HO777.out).2.1)
       (case side3 => exact cR HO780)
       (case side4 => exact (Kd.R_reads' HO780.out).2.1)
       (case side5 => exact cR HO_768000)
       (case side6 => exact (Kd.R_reads' HO_768000.out).2.1)
       (case side7 => exact cR HO_768001)
       (case side8 => exact (Kd.R_reads' HO_768001.out).2.1)
       rintro e w39 ⟨rfl, hb⟩
       refine ⟨_, rfl, ?_⟩
       have n_ := aI (rB HO_761000 hb) (aI (rB HO_761001 hb) (aI (rB HO_768000 hb) (aI (rB HO_768001 hb) (aI (rB HO777 hb) (aI (rB HO780 hb) (aI (kB BK760 hb) (aI (kB BK767 hb) (sB HB hb))))))))
       clear HO_761000 HO_761001 HO_768000 HO_768001 HO777 HO780 BK760 BK767 HB
       obtain ⟨HO_761000, HO_761001, HO_768000, HO_768001, HO777, HO780, BK760, BK767, HB⟩ := n_
       (try clear hb)
       (try clear hb2)
       (try clear hk)
       (try clear hi)
       refine hK.out _ _ ⟨(blk_cell BK767.out 0).trans rfl, (blk_cell BK767.out 1).trans rfl, (blk_cell BK760.out 0).trans rfl, (blk_cell BK760.out 1).trans rfl⟩ (fun hHeld => ?_)
       clear hK K
       refine norm_ (a' := ?_) ?_ ?_
       rotate_left
       ·show Act.put _ (some 26) _ = _
        simp only [Act.put, List.setIfInBounds_toArray, List.set_cons_zero, List.set_cons_succ, i64_w, i32_w]
        rfl
       refine pY 5 27 #[tT, tT, tT, tT, tT, tT, tF, tF, tF, tF, tF, tF, tF, tF, tF, tF, tF, tF, tF, tF, tF, tF, tF, tF, tF, tF, tF, tF] ?_
       refine pY 8 30 #[tT, tT, tT, tT, tT, tT, tF, tF, tT, tF, tF, tF, tF, tF, tF, tF, tF, tF, tF, tF, tF, tF, tF, tF, tF, tF, tF, tF] ?_
       refine take_ (i := 6) (N := some 28) (v := ?_) (a' := ?_) #[tT, tT, tT, tT, tT, tT, tT, tF, tT, tF, tF, tF, tF, tF, tF, tF, tF, tF, tF, tF, tF, tF, tF, tF, tF, tF, tF, tF] rfl rfl (take_ofW HT_.out HW_.out (by kernel_rfl)) (fun _ _ _ h => h) (Or.inl ⟨by rfl, ?_⟩) hHeld ?_ ?_
       rotate_left
       ·rintro w' ⟨s0, s1, s2, s3⟩
        go_simp
        with_reducible rfl
       rotate_left
       ·simp only [Act.put, List.setIfInBounds_toArray, List.set_cons_zero, List.set_cons_succ, i64_w, i32_w]
        rfl
       refine take_ (i := 10) (N := some 32) (v := ?_) (a' := ?_) #[tT, tT, tT, tT, tT, tT, tT, tF, tT, tF, tT, tF, tF, tF, tF, tF, tF, tF, tF, tF, tF, tF, tF, tF, tF, tF, tF, tF] rfl rfl (take_ofW HT_.out HW_.out (by kernel_rfl)) (fun _ _ _ h => h) (Or.inl ⟨by rfl, ?_⟩) hHeld ?_ ?_
       rotate_left
       ·rintro w' ⟨s0, s1, s2, s3⟩
        go_simp
        with_reducible rfl
       rotate_left
       ·simp only [Act.put, List.setIfInBounds_toArray, List.set_cons_zero, List.set_cons_succ, i64_w, i32_w]
        rfl
       refine one_ (i := 7) (N := some 29) #[tT, tT, tT, tT, tT, tT, tT, tT, tT, tF, tT, tF, tF, tF, tF, tF, tF, tF, tF, tF, tF, tF, tF, tF, tF, tF, tF, tF] rfl rfl (one_of HT_.out (by kernel_rfl)) (by decide) (fun K hK => ?_)
       refine goes_ Try.func35 (by kernel_rfl) rfl #[.agg #[.slice Ao12 t753.length co12, .slice Ao14 t756.length co14], .slice none 0 0] (by rfl) rfl rfl (by (try simp only [List.map_toArray, List.map_cons, List.map_nil]); first | done | rfl | (simp only [List.length_drop, List.length_take]; rfl)) ?_
       refine (impl_Fall.calls kj8 _ _ t753 _ _ t756 _ _ ([] : List Bool) t782 t785 _ ?side1 ?side2 ?side3 ?side4 ?side5 ?side6 A31.out).mono ?_
       (case side1 => exact cR HO_761000)
       (case side2 => exact (Kd.R_reads' HO_761000.out).2.1)
       (case side3 => exact cR HO_761001)
       (case side4 => exact (Kd.R_reads' HO_761001.out).2.1)
       (case side5 => exact Kd.C_nil _ _)
       (case side6 => exact Nat.le_refl _)
       rintro e w40 ⟨v783, v786, rfl, ho0, ho1, hb⟩
       refine ⟨_, rfl, ?_⟩
       have n_ := aI (eR HO_761000 ho0 hb) (aI (eR HO_761001 ho1 hb) (aI (eR HO_768000 ho0 hb) (aI (eR HO_768001 ho1 hb) (aI (eR HO777 ho0 hb) (aI (eR HO780 ho1 hb) (aI (aM (Kd.R_lower (Kd.R_new' (Kd.R_new' (Kd.R_new' ho0 (rL HO_761000)) (rL HO_768000)) (rL HO777)) (zB HB))) (aI (aM (Kd.R_lower (Kd.R_new' (Kd.R_new' (Kd.R_new' ho1 (rL HO_761001)) (rL HO_768001)) (rL HO780)) (zB HB))) (aI (kB BK760 hb) (aI (kB BK767 hb) (sB HB hb))))))))))
       clear HO_761000 HO_761001 HO_768000 HO_768001 HO777 HO780 BK760 BK767 HB
       obtain ⟨HO_761000, HO_761001, HO_768000, HO_768001, HO777, HO780, HO784, HO787, BK760, BK767, HB⟩ := n_
       (try clear hb)
       (try clear hb2)
       (try clear hk)
       (try clear hi)
       (try clear ho0)
       (try clear ho1)
       obtain ⟨Ao41, co41, eo41⟩ := Kd.R_slice HO784.out
       (first | subst eo41 | (injection eo41 with f1_ f2_ f3_; have f4_ := f1_.symm; have f5_ := f3_.symm; clear f1_ f2_ f3_; subst f4_; subst f5_))
       obtain ⟨Ao42, co42, eo42⟩ := Kd.R_slice HO787.out
       (first | subst eo42 | (injection eo42 with f1_ f2_ f3_; have f4_ := f1_.symm; have f5_ := f3_.symm; clear f1_ f2_ f3_; subst f4_; subst f5_))
       refine hK.out _ _ ⟨(blk_cell BK767.out 0).trans rfl, (blk_cell BK767.out 1).trans rfl, (blk_cell BK760.out 0).trans rfl, (blk_cell BK760.out 1).trans rfl⟩ (fun hHeld => ?_)
       clear hK K
       refine norm_ (a' := ?_) ?_ ?_
       rotate_left
       ·show Act.put _ (some 29) _ = _
        simp only [Act.put, List.setIfInBounds_toArray, List.set_cons_zero, List.set_cons_succ, i64_w, i32_w]
        rfl
       refine one_ (i := 9) (N := some 31) #[tT, tT, tT, tT, tT, tT, tT, tT, tT, tT, tT, tF, tF, tF, tF, tF, tF, tF, tF, tF, tF, tF, tF, tF, tF, tF, tF, tF] rfl rfl (one_of HT_.out (by kernel_rfl)) (by decide) (fun K hK => ?_)
       refine goes_ Try.func45 (by kernel_rfl) rfl #[.agg #[.slice Ao41 t782.length co41, .slice Ao42 t785.length co42], .int .i64 t759] (by rfl) rfl rfl (by (try simp only [List.map_toArray, List.map_cons, List.map_nil]); first | done | rfl | (simp only [List.length_drop, List.length_take]; rfl)) ?_
       with_reducible refine (impl_Recover.calls kj8 _ _ t782 _ _ t785 t759 t788 t791 _ ?side1 ?side2 ?side3 ?side4 A32.out).mono ?_
       (case side1 => exact cR HO784)
       (case side2 => exact (Kd.R_reads' HO784.out).2.1)
       (case side3 => exact cR HO787)
       (case side4 => exact (Kd.R_reads' HO787.out).2.1)
       rintro e w43 ⟨v789, v792, rfl, ho0, ho1, hb⟩
       refine ⟨_, rfl, ?_⟩
       have n_ := aI (eR HO_761000 ho0 hb) (aI (eR HO_761001 ho1 hb) (aI (eR HO_768000 ho0 hb) (aI (eR HO_768001 ho1 hb) (aI (eR HO777 ho0 hb) (aI (eR HO780 ho1 hb) (aI (eR HO784 ho0 hb) (aI (eR HO787 ho1 hb) (aI (aM (Kd.R_lower (Kd.R_new' (Kd.R_new' (Kd.R_new' (Kd.R_new' ho0 (rL HO_761000)) (rL HO_768000)) (rL HO777)) (rL HO784)) (zB HB))) (aI (aM (Kd.R_lower (Kd.R_new' (Kd.R_new' (Kd.R_new' (Kd.R_new' ho1 (rL HO_761001)) (rL HO_768001)) (rL HO780)) (rL HO787)) (zB HB))) (aI (kB BK760 hb) (aI (kB BK767 hb) (sB HB hb))))))))))))
       clear HO_761000 HO_761001 HO_768000 HO_768001 HO777 HO780 HO784 HO787 BK760 BK767 HB
       obtain ⟨HO_761000, HO_761001, HO_768000, HO_768001, HO777, HO780, HO784, HO787, HO790, HO793, BK760, BK767, HB⟩ := n_
       (try clear hb)
       (try clear hb2)
       (try clear hk)
       (try clear hi)
       (try clear ho0)
       (try clear ho1)
       obtain ⟨Ao44, co44, eo44⟩ := Kd.R_slice HO790.out
       (first | subst eo44 | (injection eo44 with f1_ f2_ f3_; have f4_ := f1_.symm; have f5_ := f3_.symm; clear f1_ f2_ f3_; subst f4_; subst f5_))
       obtain ⟨Ao45, co45, eo45⟩ := Kd.R_slice HO793.out
       (first | subst eo45 | (injection eo45 with f1_ f2_ f3_; have f4_ := f1_.symm; have f5_ := f3_.symm; clear f1_ f2_ f3_; subst f4_; subst f5_))
       refine hK.out _ _ ⟨(blk_cell BK767.out 0).trans rfl, (blk_cell BK767.out 1).trans rfl, (blk_cell BK760.out 0).trans rfl, (blk_cell BK760.out 1).trans rfl⟩ (fun hHeld => ?_)
       clear hK K
       refine norm_ (a' := ?_) ?_ ?_
       rotate_left
       ·show Act.put _ (some 31) _ = _
        simp only [Act.put, List.setIfInBounds_toArray, List.set_cons_zero, List.set_cons_succ, i64_w, i32_w]
        rfl
       refine one_ (i := 11) (N := some 33) #[tT, tT, tT, tT, tT, tT, tT, tT, tT, tT, tT, tT, tF, tF, tF, tF, tF, tF, tF, tF, tF, tF, tF, tF, tF, tF, tF, tF] rfl rfl (one_of HT_.out (by kernel_rfl)) (by decide) (fun K hK => ?_)
       refine goes_ Try.func49 (by kernel_rfl) rfl #[.agg #[.slice Ao44 t788.length co44, .slice Ao45 t791.length co45], .agg #[.slice Ao17 t761.length co17, .slice Ao20 t764.length co20]] (by rfl) rfl rfl (by (try simp only [List.map_toArray, List.map_cons, List.map_nil]); first | done | rfl | (simp only [List.length_drop, List.length_take]; rfl)) ?_
       with_reducible refine (impl_DiskSame.calls kj8 _ _ t788 _ _ t791 _ _ t761 _ _ t764 true _ ?side1 ?side2 ?side3 ?side4 ?side5 ?side6 ?side7 ?side8 A33.out).mono ?_
       (case side1 => exact cR HO790)
       (case side2 => exact (Kd.R_reads' HO790.out).2.1)
       (case side3 => exact cR HO793)
       (case side4 => exact (Kd.R_reads' HO793.out).2.1)
       (case side5 => exact cR HO_768000)
       (case side6 => exact (Kd.R_reads' HO_768000.out).2.1)
       (case side7 => exact cR HO_768001)
       (case side8 => exact (Kd.R_reads' HO_768001.out).2.1)
       rintro e w46 ⟨rfl, hb⟩
       refine ⟨_, rfl, ?_⟩
       have n_ := aI (rB HO_761000 hb) (aI (rB HO_761001 hb) (aI (rB HO_768000 hb) (aI (rB HO_768001 hb) (aI (rB HO777 hb) (aI (rB HO780 hb) (aI (rB HO784 hb) (aI (rB HO787 hb) (aI (rB HO790 hb) (aI (rB HO793 hb) (aI (kB BK760 hb) (aI (kB BK767 hb) (sB HB hb))))))))))))
       clear HO_761000 HO_761001 HO_768000 HO_768001 HO777 HO780 HO784 HO787 HO790 HO793 BK760 BK767 HB
       obtain ⟨HO_761000, HO_761001, HO_768000, HO_768001, HO777, HO780, HO784, HO787, HO790, HO793, BK760, BK767, HB⟩ := n_
       (try clear hb)
       (try clear hb2)
       (try clear hk)
       (try clear hi)
       refine hK.out _ _ ⟨(blk_cell BK767.out 0).trans rfl, (blk_cell BK767.out 1).trans rfl, (blk_cell BK760.out 0).trans rfl, (blk_cell BK760.out 1).trans rfl⟩ (fun hHeld => ?_)
       clear hK K
       refine norm_ (a' := ?_) ?_ ?_
       rotate_left
       ·show Act.put _ (some 33) _ = _
        simp only [Act.put, List.setIfInBounds_toArray, List.set_cons_zero, List.set_cons_succ, i64_w, i32_w]
        rfl
       refine pY 12 34 #[tT, tT, tT, tT, tT, tT, tT, tT, tT, tT, tT, tT, tT, tF, tF, tF, tF, tF, tF, tF, tF, tF, tF, tF, tF, tF, tF, tF] ?_
       refine pY 13 35 #[tT, tT, tT, tT, tT, tT, tT, tT, tT, tT, tT, tT, tT, tT, tF, tF, tF, tF, tF, tF, tF, tF, tF, tF, tF, tF, tF, tF] ?_
       refine pU 14 36 #[tT, tT, tT, tT, tT, tT, tT, tT, tT, tT, tT, tT, tT, tT, tT, tF, tF, tF, tF, tF, tF, tF, tF, tF, tF, tF, tF, tF] ?_
       refine pU 15 37 #[tT, tT, tT, tT, tT, tT, tT, tT, tT, tT, tT, tT, tT, tT, tT, tT, tF, tF, tF, tF, tF, tF, tF, tF, tF, tF, tF, tF] ?_
       refine pU 16 38 #[tT, tT, tT, tT, tT, tT, tT, tT, tT, tT, tT, tT, tT, tT, tT, tT, tT, tF, tF, tF, tF, tF, tF, tF, tF, tF, tF, tF] ?_
       refine pY 17 39 #[tT, tT, tT, tT, tT, tT, tT, tT, tT, tT, tT, tT, tT, tT, tT, tT, tT, tT, tF, tF, tF, tF, tF, tF, tF, tF, tF, tF] ?_
       refine pY 18 40 #[tT, tT, tT, tT, tT, tT, tT, tT, tT, tT, tT, tT, tT, tT, tT, tT, tT, tT, tT, tF, tF, tF, tF, tF, tF, tF, tF, tF] ?_
       refine pU 19 41 #[tT, tT, tT, tT, tT, tT, tT, tT, tT, tT, tT, tT, tT, tT, tT, tT, tT, tT, tT, tT, tF, tF, tF, tF, tF, tF, tF, tF] ?_
       refine pU 20 42 #[tT, tT, tT, tT, tT, tT, tT, tT, tT, tT, tT, tT, tT, tT, tT, tT, tT, tT, tT, tT, tT, tF, tF, tF, tF, tF, tF, tF] ?_
       refine pU 21 43 #[tT, tT, tT, tT, tT, tT, tT, tT, tT, tT, tT, tT, tT, tT, tT, tT, tT, tT, tT, tT, tT, tT, tF, tF, tF, tF, tF, tF] ?_
       refine pU 22 44 #[tT, tT, tT, tT, tT, tT, tT, tT, tT, tT, tT, tT, tT, tT, tT, tT, tT, tT, tT, tT, tT, tT, tT, tF, tF, tF, tF, tF] ?_
       refine pU 23 45 #[tT, tT, tT, tT, tT, tT, tT, tT, tT, tT, tT, tT, tT, tT, tT, tT, tT, tT, tT, tT, tT, tT, tT, tT, tF, tF, tF, tF] ?_
       refine pU 24 46 #[tT, tT, tT, tT, tT, tT, tT, tT, tT, tT, tT, tT, tT, tT, tT, tT, tT, tT, tT, tT, tT, tT, tT, tT, tT, tF, tF, tF] ?_
       refine pU 25 47 #[tT, tT, tT, tT, tT, tT, tT, tT, tT, tT, tT, tT, tT, tT, tT, tT, tT, tT, tT, tT, tT, tT, tT, tT, tT, tT, tF, tF] ?_
       refine pY 26 48 #[tT, tT, tT, tT, tT, tT, tT, tT, tT, tT, tT, tT, tT, tT, tT, tT, tT, tT, tT, tT, tT, tT, tT, tT, tT, tT, tT, tF] ?_
       refine pY 27 2 #[tT, tT, tT, tT, tT, tT, tT, tT, tT, tT, tT, tT, tT, tT, tT, tT, tT, tT, tT, tT, tT, tT, tT, tT, tT, tT, tT, tT] ?_
       refine done_ (done_of HT_.out (by kernel_rfl)) ?_
       try go_wp2
       go_ret
       exact ⟨eW, bB⟩
      ·replace c34 := Bool.eq_false_iff.mpr c34
       subst c34
       rw [if_neg (show ¬ (false = true) by decide)] at H
       replace H := Option.bind_eq_some_iff.mp H
       obtain ⟨t795, A470, H⟩ := H
       try dsimp only at H
       have A47 := aM A470
       clear A470
       by_cases c48 : t795 = true
       ·subst c48
        rw [if_pos rfl] at H
        obtain rfl := Option.some.inj H
        try go_wp2
        have n_ := aI (aM (Kd.R_drew HO_761000.out)) (aI (aM (Kd.R_drew HO_761001.out)) (aI (aM (Kd.R_drew HO_768000.out)) (aI (aM (Kd.R_drew HO_768001.out)) (aI (aM (blk_drew BK760.out)) (aI (aM (blk_drew BK767.out)) (aM (below_drew1 HB.out)))))))
        clear HO_761000 HO_761001 HO_768000 HO_768001 BK760 BK767 HB
        obtain ⟨HO_761000, HO_761001, HO_768000, HO_768001, BK760, BK767, HB⟩ := n_
        refine start_ (n := 28) (S := fun w' => w'.cell? ⟨gb767, 0, none⟩ = some (.slice Ao17 t761.length co17) ∧ w'.cell? ⟨gb767, 1, none⟩ = some (.slice Ao20 t764.length co20) ∧ w'.cell? ⟨gb760, 0, none⟩ = some (.slice Ao12 t753.length co12) ∧ w'.cell? ⟨gb760, 1, none⟩ = some (.slice Ao14 t756.length co14)) (ds := []) #[tF, tF, tF, tF, tF, tF, tF, tF, tF, tF, tF, tF, tF, tF, tF, tF, tF, tF, tF, tF, tF, tF, tF, tF, tF, tF, tF, tF] (by kernel_rfl) rfl rfl ⟨(blk_cell BK767.out 0).trans rfl, (blk_cell BK767.out 1).trans rfl, (blk_cell BK760.out 0).trans rfl, (blk_cell BK760.out 1).trans rfl⟩ (fun hHeld => ?_); refine with_tabW laws_FnRecovered.tab7 laws_FnRecovered.bits7 (fun HT_ HW_ => ?_)
        generalize wc.drew = w49 at HO_761000 HO_761001 HO_768000 HO_768001 BK760 BK767 HB hHeld ⊢
        refine pY 1 23 #[tF, tT, tF, tF, tF, tF, tF, tF, tF, tF, tF, tF, tF, tF, tF, tF, tF, tF, tF, tF, tF, tF, tF, tF, tF, tF, tF, tF] ?_
        refine take_ (i := 0) (N := some 22) (v := ?_) (a' := ?_) #[tT, tT, tF, tF, tF, tF, tF, tF, tF, tF, tF, tF, tF, tF, tF, tF, tF, tF, tF, tF, tF, tF, tF, tF, tF, tF, tF, tF] rfl rfl (take_ofW HT_.out HW_.out (by kernel_rfl)) (fun _ _ _ h => h) (Or.inl ⟨by rfl, ?_⟩) hHeld ?_ ?_
        rotate_left
        ·rintro w' ⟨s0, s1, s2, s3⟩
         go_simp
         with_reducible rfl
        rotate_left
        ·simp only [Act.put, List.setIfInBounds_toArray, List.set_cons_zero, List.set_cons_succ, i64_w, i32_w]
         rfl
        refine take_ (i := 3) (N := some 25) (v := ?_) (a' := ?_) #[tT, tT, tF, tT, tF, tF, tF, tF, tF, tF, tF, tF, tF, tF, tF, tF, tF, tF, tF, tF, tF, tF, tF, tF, tF, tF, tF, tF] rfl rfl (take_ofW HT_.out HW_.out (by kernel_rfl)) (fun _ _ _ h => h) (Or.inl ⟨by rfl, ?_⟩) hHeld ?_ ?_
        rotate_left
        ·rintro w' ⟨s0, s1, s2, s3⟩
         go_simp
         with_reducible rfl
        rotate_left
        ·simp only [Act.put, List.setIfInBounds_toArray, List.set_cons_zero, List.set_cons_succ, i64_w, i32_w]
         rfl
        refine one_ (i := 2) (N := some 24) #[tT, tT, tT, tT, tF, tF, tF, tF, tF, tF, tF, tF, tF, tF, tF, tF, tF, tF, tF, tF, tF, tF, tF, tF, tF, tF, tF, tF] rfl rfl (one_of HT_.out (by kernel_rfl)) (by decide) (fun K hK => ?_)
        refine goes_ Try.func45 (by kernel_rfl) rfl #[.agg #[.slice Ao17 t761.length co17, .slice Ao20 t764.length co20], .int .i64 t759] (by rfl) rfl rfl (by (try simp only [List.map_toArray, List.map_cons, List.map_nil]); first | done | rfl | (simp only [List.length_drop, List.length_take]; rfl)) ?_
        with_reducible refine (impl_Recover.calls kj8 _ _ t761 _ _ t764 t759 t775 t778 _ ?side1 ?side2 ?side3 ?side4 A28.out).mono ?_
        (case side1 => exact cR HO_768000)
        (case side2 => exact (Kd.R_reads' HO_768000.out).2.1)
        (case side3 => exact cR HO_768001)
        (case side4 => exact (Kd.R_reads' HO_768001.out).2.1)
        rintro e w50 ⟨v776, v779, rfl, ho0, ho1, hb⟩
        refine ⟨_, rfl, ?_⟩
        have n_ := aI (eR HO_761000 ho0 hb) (aI (eR HO_761001 ho1 hb) (aI (eR HO_768000 ho0 hb) (aI (eR HO_768001 ho1 hb) (aI (aM (Kd.R_lower (Kd.R_new' (Kd.R_new' ho0 (rL HO_761000)) (rL HO_768000)) (zB HB))) (aI (aM (Kd.R_lower (Kd.R_new' (Kd.R_new' ho1 (rL HO_761001)) (rL HO_768001)) (zB HB))) (aI (kB BK760 hb) (aI (kB BK767 hb) (sB HB hb))))))))
        clear HO_761000 HO_761001 HO_768000 HO_768001 BK760 BK767 HB
        obtain ⟨HO_761000, HO_761001, HO_768000, HO_768001, HO777, HO780, BK760, BK767, HB⟩ := n_
        (try clear hb)
        (try clear hb2)
        (try clear hk)
        (try clear hi)
        (try clear ho0)
        (try clear ho1)
        obtain ⟨Ao51, co51, eo51⟩ := Kd.R_slice HO777.out
        (first | subst eo51 | (injection eo51 with f1_ f2_ f3_; have f4_ := f1_.symm; have f5_ := f3_.symm; clear f1_ f2_ f3_; subst f4_; subst f5_))
        obtain ⟨Ao52, co52, eo52⟩ := Kd.R_slice HO780.out
        (first | subst eo52 | (injection eo52 with f1_ f2_ f3_; have f4_ := f1_.symm; have f5_ := f3_.symm; clear f1_ f2_ f3_; subst f4_; subst f5_))
        refine hK.out _ _ ⟨(blk_cell BK767.out 0).trans rfl, (blk_cell BK767.out 1).trans rfl, (blk_cell BK760.out 0).trans rfl, (blk_cell BK760.out 1).trans rfl⟩ (fun hHeld => ?_)
        clear hK K
        refine norm_ (a' := ?_) ?_ ?_
        rotate_left
        ·show Act.put _ (some 24) _ = _
         simp only [Act.put, List.setIfInBounds_toArray, List.set_cons_zero, List.set_cons_succ, i64_w, i32_w]
         rfl
        refine one_ (i := 4) (N := some 26) #[tT, tT, tT, tT, tT, tF, tF, tF, tF, tF, tF, tF, tF, tF, tF, tF, tF, tF, tF, tF, tF, tF, tF, tF, tF, tF, tF, tF] rfl rfl (one_of HT_.out (by kernel_rfl)) (by decide) (fun K hK => ?_)
        refine goes_ Try.func49 (by kernel_rfl) rfl #[.agg #[.slice Ao51 t775.length co51, .slice Ao52 t778.length co52], .agg #[.slice Ao17 t761.length co17, .slice Ao20 t764.length co20]] (by rfl) rfl rfl (by (try simp only [List.map_toArray, List.map_cons, List.map_nil]); first | done | rfl | (simp only [List.length_drop, List.length_take]; rfl)) ?_
        with_reducible refine (impl_DiskSame.calls kj8 _ _ t775 _ _ t778 _ _ t761 _ _ t764 true _ ?side1 ?side2 ?side3 ?side4 ?side5 ?side6 ?side7 ?side8 A29.out).mono ?_
        (case side1 => exact cR HO777)
        (case side2 => exact (Kd.R_reads' HO777.out).2.1)
        (case side3 => exact cR HO780)
        (case side4 => exact (Kd.R_reads' HO780.out).2.1)
        (case side5 => exact cR HO_768000)
        (case side6 => exact (Kd.R_reads' HO_768000.out).2.1)
        (case side7 => exact cR HO_768001)
        (case side8 => exact (Kd.R_reads' HO_768001.out).2.1)
        rintro e w53 ⟨rfl, hb⟩
        refine ⟨_, rfl, ?_⟩
        have n_ := aI (rB HO_761000 hb) (aI (rB HO_761001 hb) (aI (rB HO_768000 hb) (aI (rB HO_768001 hb) (aI (rB HO777 hb) (aI (rB HO780 hb) (aI (kB BK760 hb) (aI (kB BK767 hb) (sB HB hb))))))))
        clear HO_761000 HO_761001 HO_768000 HO_768001 HO777 HO780 BK760 BK767 HB
        obtain ⟨HO_761000, HO_761001, HO_768000, HO_768001, HO777, HO780, BK760, BK767, HB⟩ := n_
        (try clear hb)
        (try clear hb2)
        (try clear hk)
        (try clear hi)
        refine hK.out _ _ ⟨(blk_cell BK767.out 0).trans rfl, (blk_cell BK767.out 1).trans rfl, (blk_cell BK760.out 0).trans rfl, (blk_cell BK760.out 1).trans rfl⟩ (fun hHeld => ?_)
        clear hK K
        refine norm_ (a' := ?_) ?_ ?_
        rotate_left
        ·show Act.put _ (some 26) _ = _
         simp only [Act.put, List.setIfInBounds_toArray, List.set_cons_zero, List.set_cons_succ, i64_w, i32_w]
         rfl
        refine pY 5 27 #[tT, tT, tT, tT, tT, tT, tF, tF, tF, tF, tF, tF, tF, tF, tF, tF, tF, tF, tF, tF, tF, tF, tF, tF, tF, tF, tF, tF] ?_
        refine pY 8 30 #[tT, tT, tT, tT, tT, tT, tF, tF, tT, tF, tF, tF, tF, tF, tF, tF, tF, tF, tF, tF, tF, tF, tF, tF, tF, tF, tF, tF] ?_
        refine take_ (i := 6) (N := some 28) (v := ?_) (a' := ?_) #[tT, tT, tT, tT, tT, tT, tT, tF, tT, tF, tF, tF, tF, tF, tF, tF, tF, tF, tF, tF, tF, tF, tF, tF, tF, tF, tF, tF] rfl rfl (take_ofW HT_.out HW_.out (by kernel_rfl)) (fun _ _ _ h => h) (Or.inl ⟨by rfl, ?_⟩) hHeld ?_ ?_
        rotate_left
        ·rintro w' ⟨s0, s1, s2, s3⟩
         go_simp
         with_reducible rfl
        rotate_left
        ·simp only [Act.put, List.setIfInBounds_toArray, List.set_cons_zero, List.set_cons_succ, i64_w, i32_w]
         rfl
        refine take_ (i := 10) (N := some 32) (v := ?_) (a' := ?_) #[tT, tT, tT, tT, tT, tT, tT, tF, tT, tF, tT, tF, tF, tF, tF, tF, tF, tF, tF, tF, tF, tF, tF, tF, tF, tF, tF, tF] rfl rfl (take_ofW HT_.out HW_.out (by kernel_rfl)) (fun _ _ _ h => h) (Or.inl ⟨by rfl, ?_⟩) hHeld ?_ ?_
        rotate_left
        ·rintro w' ⟨s0, s1, s2, s3⟩
         go_simp
         with_reducible rfl
        rotate_left
        ·simp only [Act.put, List.setIfInBounds_toArray, List.set_cons_zero, List.set_cons_succ, i64_w, i32_w]
         rfl
        refine one_ (i := 7) (N := some 29) #[tT, tT, tT, tT, tT, tT, tT, tT, tT, tF, tT, tF, tF, tF, tF, tF, tF, tF, tF, tF, tF, tF, tF, tF, tF, tF, tF, tF] rfl rfl (one_of HT_.out (by kernel_rfl)) (by decide) (fun K hK => ?_)
        refine goes_ Try.func35 (by kernel_rfl) rfl #[.agg #[.slice Ao12 t753.length co12, .slice Ao14 t756.length co14], .slice none 0 0] (by rfl) rfl rfl (by (try simp only [List.map_toArray, List.map_cons, List.map_nil]); first | done | rfl | (simp only [List.length_drop, List.length_take]; rfl)) ?_
        refine (impl_Fall.calls kj8 _ _ t753 _ _ t756 _ _ ([] : List Bool) t782 t785 _ ?side1 ?side2 ?side3 ?side4 ?side5 ?side6 A31.out).mono ?_
        (case side1 => exact cR HO_761000)
        (case side2 => exact (Kd.R_reads' HO_761000.out).2.1)
        (case side3 => exact cR HO_761001)
        (case side4 => exact (Kd.R_reads' HO_761001.out).2.1)
        (case side5 => exact Kd.C_nil _ _)
        (case side6 => exact Nat.le_refl _)
        rintro e w54 ⟨v783, v786, rfl, ho0, ho1, hb⟩
        refine ⟨_, rfl, ?_⟩
        have n_ := aI (eR HO_761000 ho0 hb) (aI (eR HO_761001 ho1 hb) (aI (eR HO_768000 ho0 hb) (aI (eR HO_768001 ho1 hb) (aI (eR HO777 ho0 hb) (aI (eR HO780 ho1 hb) (aI (aM (Kd.R_lower (Kd.R_new' (Kd.R_new' (Kd.R_new' ho0 (rL HO_761000)) (rL HO_768000)) (rL HO777)) (zB HB))) (aI (aM (Kd.R_lower (Kd.R_new' (Kd.R_new' (Kd.R_new' ho1 (rL HO_761001)) (rL HO_768001)) (rL HO780)) (zB HB))) (aI (kB BK760 hb) (aI (kB BK767 hb) (sB HB hb))))))))))
        clear HO_761000 HO_761001 HO_768000 HO_768001 HO777 HO780 BK760 BK767 HB
        obtain ⟨HO_761000, HO_761001, HO_768000, HO_768001, HO777, HO780, HO784, HO787, BK760, BK767, HB⟩ := n_
        (try clear hb)
        (try clear hb2)
        (try clear hk)
        (try clear hi)
        (try clear ho0)
        (try clear ho1)
        obtain ⟨Ao55, co55, eo55⟩ := Kd.R_slice HO784.out
        (first | subst eo55 | (injection eo55 with f1_ f2_ f3_; have f4_ := f1_.symm; have f5_ := f3_.symm; clear f1_ f2_ f3_; subst f4_; subst f5_))
        obtain ⟨Ao56, co56, eo56⟩ := Kd.R_slice HO787.out
        (first | subst eo56 | (injection eo56 with f1_ f2_ f3_; have f4_ := f1_.symm; have f5_ := f3_.symm; clear f1_ f2_ f3_; subst f4_; subst f5_))
        refine hK.out _ _ ⟨(blk_cell BK767.out 0).trans rfl, (blk_cell BK767.out 1).trans rfl, (blk_cell BK760.out 0).trans rfl, (blk_cell BK760.out 1).trans rfl⟩ (fun hHeld => ?_)
        clear hK K
        refine norm_ (a' := ?_) ?_ ?_
        rotate_left
        ·show Act.put _ (some 29) _ = _
         simp only [Act.put, List.setIfInBounds_toArray, List.set_cons_zero, List.set_cons_succ, i64_w, i32_w]
         rfl
        refine one_ (i := 9) (N := some 31) #[tT, tT, tT, tT, tT, tT, tT, tT, tT, tT, tT, tF, tF, tF, tF, tF, tF, tF, tF, tF, tF, tF, tF, tF, tF, tF, tF, tF] rfl rfl (one_of HT_.out (by kernel_rfl)) (by decide) (fun K hK => ?_)
        refine goes_ Try.func45 (by kernel_rfl) rfl #[.agg #[.slice Ao55 t782.length co55, .slice Ao56 t785.length co56], .int .i64 t759] (by rfl) rfl rfl (by (try simp only [List.map_toArray, List.map_cons, List.map_nil]); first | done | rfl | (simp only [List.length_drop, List.length_take]; rfl)) ?_
        with_reducible refine (impl_Recover.calls kj8 _ _ t782 _ _ t785 t759 t788 t791 _ ?side1 ?side2 ?side3 ?side4 A32.out).mono ?_
        (case side1 => exact cR HO784)
        (case side2 => exact (Kd.R_reads' HO784.out).2.1)
        (case side3 => exact cR HO787)
        (case side4 => exact (Kd.R_reads' HO787.out).2.1)
        rintro e w57 ⟨v789, v792, rfl, ho0, ho1, hb⟩
        refine ⟨_, rfl, ?_⟩
        have n_ := aI (eR HO_761000 ho0 hb) (aI (eR HO_761001 ho1 hb) (aI (eR HO_768000 ho0 hb) (aI (eR HO_768001 ho1 hb) (aI (eR HO777 ho0 hb) (aI (eR HO780 ho1 hb) (aI (eR HO784 ho0 hb) (aI (eR HO787 ho1 hb) (aI (aM (Kd.R_lower (Kd.R_new' (Kd.R_new' (Kd.R_new' (Kd.R_new' ho0 (rL HO_761000)) (rL HO_768000)) (rL HO777)) (rL HO784)) (zB HB))) (aI (aM (Kd.R_lower (Kd.R_new' (Kd.R_new' (Kd.R_new' (Kd.R_new' ho1 (rL HO_761001)) (rL HO_768001)) (rL HO780)) (rL HO787)) (zB HB))) (aI (kB BK760 hb) (aI (kB BK767 hb) (sB HB hb))))))))))))
        clear HO_761000 HO_761001 HO_768000 HO_768001 HO777 HO780 HO784 HO787 BK760 BK767 HB
        obtain ⟨HO_761000, HO_761001, HO_768000, HO_768001, HO777, HO780, HO784, HO787, HO790, HO793, BK760, BK767, HB⟩ := n_
        (try clear hb)
        (try clear hb2)
        (try clear hk)
        (try clear hi)
        (try clear ho0)
        (try clear ho1)
        obtain ⟨Ao58, co58, eo58⟩ := Kd.R_slice HO790.out
        (first | subst eo58 | (injection eo58 with f1_ f2_ f3_; have f4_ := f1_.symm; have f5_ := f3_.symm; clear f1_ f2_ f3_; subst f4_; subst f5_))
        obtain ⟨Ao59, co59, eo59⟩ := Kd.R_slice HO793.out
        (first | subst eo59 | (injection eo59 with f1_ f2_ f3_; have f4_ := f1_.symm; have f5_ := f3_.symm; clear f1_ f2_ f3_; subst f4_; subst f5_))
        refine hK.out _ _ ⟨(blk_cell BK767.out 0).trans rfl, (blk_cell BK767.out 1).trans rfl, (blk_cell BK760.out 0).trans rfl, (blk_cell BK760.out 1).trans rfl⟩ (fun hHeld => ?_)
        clear hK K
        refine norm_ (a' := ?_) ?_ ?_
        rotate_left
        ·show Act.put _ (some 31) _ = _
         simp only [Act.put, List.setIfInBounds_toArray, List.set_cons_zero, List.set_cons_succ, i64_w, i32_w]
         rfl
        refine one_ (i := 11) (N := some 33) #[tT, tT, tT, tT, tT, tT, tT, tT, tT, tT, tT, tT, tF, tF, tF, tF, tF, tF, tF, tF, tF, tF, tF, tF, tF, tF, tF, tF] rfl rfl (one_of HT_.out (by kernel_rfl)) (by decide) (fun K hK => ?_)
        refine goes_ Try.func49 (by kernel_rfl) rfl #[.agg #[.slice Ao58 t788.length co58, .slice Ao59 t791.length co59], .agg #[.slice Ao17 t761.length co17, .slice Ao20 t764.length co20]] (by rfl) rfl rfl (by (try simp only [List.map_toArray, List.map_cons, List.map_nil]); first | done | rfl | (simp only [List.length_drop, List.length_take]; rfl)) ?_
        with_reducible refine (impl_DiskSame.calls kj8 _ _ t788 _ _ t791 _ _ t761 _ _ t764 false _ ?side1 ?side2 ?side3 ?side4 ?side5 ?side6 ?side7 ?side8 A33.out).mono ?_
        (case side1 => exact cR HO790)
        (case side2 => exact (Kd.R_reads' HO790.out).2.1)
        (case side3 => exact cR HO793)
        (case side4 => exact (Kd.R_reads' HO793.out).2.1)
        (case side5 => exact cR HO_768000)
        (case side6 => exact (Kd.R_reads' HO_768000.out).2.1)
        (case side7 => exact cR HO_768001)
        (case side8 => exact (Kd.R_reads' HO_768001.out).2.1)
        rintro e w60 ⟨rfl, hb⟩
        refine ⟨_, rfl, ?_⟩
        have n_ := aI (rB HO_761000 hb) (aI (rB HO_761001 hb) (aI (rB HO_768000 hb) (aI (rB HO_768001 hb) (aI (rB HO777 hb) (aI (rB HO780 hb) (aI (rB HO784 hb) (aI (rB HO787 hb) (aI (rB HO790 hb) (aI (rB HO793 hb) (aI (kB BK760 hb) (aI (kB BK767 hb) (sB HB hb))))))))))))
        clear HO_761000 HO_761001 HO_768000 HO_768001 HO777 HO780 HO784 HO787 HO790 HO793 BK760 BK767 HB
        obtain ⟨HO_761000, HO_761001, HO_768000, HO_768001, HO777, HO780, HO784, HO787, HO790, HO793, BK760, BK767, HB⟩ := n_
        (try clear hb)
        (try clear hb2)
        (try clear hk)
        (try clear hi)
        refine hK.out _ _ ⟨(blk_cell BK767.out 0).trans rfl, (blk_cell BK767.out 1).trans rfl, (blk_cell BK760.out 0).trans rfl, (blk_cell BK760.out 1).trans rfl⟩ (fun hHeld => ?_)
        clear hK K
        refine norm_ (a' := ?_) ?_ ?_
        rotate_left
        ·show Act.put _ (some 33) _ = _
         simp only [Act.put, List.setIfInBounds_toArray, List.set_cons_zero, List.set_cons_succ, i64_w, i32_w]
         rfl
        refine pY 12 34 #[tT, tT, tT, tT, tT, tT, tT, tT, tT, tT, tT, tT, tT, tF, tF, tF, tF, tF, tF, tF, tF, tF, tF, tF, tF, tF, tF, tF] ?_
        refine pY 13 35 #[tT, tT, tT, tT, tT, tT, tT, tT, tT, tT, tT, tT, tT, tT, tF, tF, tF, tF, tF, tF, tF, tF, tF, tF, tF, tF, tF, tF] ?_
        refine take_ (i := 14) (N := some 36) (v := ?_) (a' := ?_) #[tT, tT, tT, tT, tT, tT, tT, tT, tT, tT, tT, tT, tT, tT, tT, tF, tF, tF, tF, tF, tF, tF, tF, tF, tF, tF, tF, tF] rfl rfl (take_ofW HT_.out HW_.out (by kernel_rfl)) (fun _ _ _ h => h) (Or.inl ⟨by rfl, ?_⟩) hHeld ?_ ?_
        rotate_left
        ·rintro w' ⟨s0, s1, s2, s3⟩
         go_simp
         with_reducible rfl
        rotate_left
        ·simp only [Act.put, List.setIfInBounds_toArray, List.set_cons_zero, List.set_cons_succ, i64_w, i32_w]
         rfl
        refine one_ (i := 15) (N := some 37) #[tT, tT, tT, tT, tT, tT, tT, tT, tT, tT, tT, tT, tT, tT, tT, tT, tF, tF, tF, tF, tF, tF, tF, tF, tF, tF, tF, tF] rfl rfl (one_of HT_.out (by kernel_rfl)) (by decide) (fun K hK => ?_)
        refine goes_ Try.func16 (by kernel_rfl) rfl #[.agg #[.slice Ao12 t753.length co12, .slice Ao14 t756.length co14]] (by rfl) rfl rfl (by (try simp only [List.map_toArray, List.map_cons, List.map_nil]); first | done | rfl | (simp only [List.length_drop, List.length_take]; rfl)) ?_
        with_reducible refine (spec_DiskOk.calls kj8 _ _ t753 _ _ t756 true _ ?side1 ?side2 ?side3 ?side4 A47.out).mono ?_
        (case side1 => exact cR HO_761000)
        (case side2 => exact (Kd.R_reads' HO_761000.out).2.1)
        (case side3 => exact cR HO_761001)
        (case side4 => exact (Kd.R_reads' HO_761001.out).2.1)
        rintro e w61 ⟨rfl, hb⟩
        refine ⟨_, rfl, ?_⟩
        have n_ := aI (rB HO_761000 hb) (aI (rB HO_761001 hb) (aI (rB HO_768000 hb) (aI (rB HO_768001 hb) (aI (rB HO777 hb) (aI (rB HO780 hb) (aI (rB HO784 hb) (aI (rB HO787 hb) (aI (rB HO790 hb) (aI (rB HO793 hb) (aI (kB BK760 hb) (aI (kB BK767 hb) (sB HB hb))))))))))))
        clear HO_761000 HO_761001 HO_768000 HO_768001 HO777 HO780 HO784 HO787 HO790 HO793 BK760 BK767 HB
        obtain ⟨HO_761000, HO_761001, HO_768000, HO_768001, HO777, HO780, HO784, HO787, HO790, HO793, BK760, BK767, HB⟩ := n_
        (try clear hb)
        (try clear hb2)
        (try clear hk)
        (try clear hi)
        refine hK.out _ _ ⟨(blk_cell BK767.out 0).trans rfl, (blk_cell BK767.out 1).trans rfl, (blk_cell BK760.out 0).trans rfl, (blk_cell BK760.out 1).trans rfl⟩ (fun hHeld => ?_)
        clear hK K
        refine norm_ (a' := ?_) ?_ ?_
        rotate_left
        ·show Act.put _ (some 37) _ = _
         simp only [Act.put, List.setIfInBounds_toArray, List.set_cons_zero, List.set_cons_succ, i64_w, i32_w]
         rfl
        refine pY 16 38 #[tT, tT, tT, tT, tT, tT, tT, tT, tT, tT, tT, tT, tT, tT, tT, tT, tT, tF, tF, tF, tF, tF, tF, tF, tF, tF, tF, tF] ?_
        refine pY 17 39 #[tT, tT, tT, tT, tT, tT, tT, tT, tT, tT, tT, tT, tT, tT, tT, tT, tT, tT, tF, tF, tF, tF, tF, tF, tF, tF, tF, tF] ?_
        refine pY 18 40 #[tT, tT, tT, tT, tT, tT, tT, tT, tT, tT, tT, tT, tT, tT, tT, tT, tT, tT, tT, tF, tF, tF, tF, tF, tF, tF, tF, tF] ?_
        refine pY 19 41 #[tT, tT, tT, tT, tT, tT, tT, tT, tT, tT, tT, tT, tT, tT, tT, tT, tT, tT, tT, tT, tF, tF, tF, tF, tF, tF, tF, tF] ?_
        refine pY 22 44 #[tT, tT, tT, tT, tT, tT, tT, tT, tT, tT, tT, tT, tT, tT, tT, tT, tT, tT, tT, tT, tF, tF, tT, tF, tF, tF, tF, tF] ?_
        refine pY 23 45 #[tT, tT, tT, tT, tT, tT, tT, tT, tT, tT, tT, tT, tT, tT, tT, tT, tT, tT, tT, tT, tF, tF, tT, tT, tF, tF, tF, tF] ?_
        refine pY 24 46 #[tT, tT, tT, tT, tT, tT, tT, tT, tT, tT, tT, tT, tT, tT, tT, tT, tT, tT, tT, tT, tF, tF, tT, tT, tT, tF, tF, tF] ?_
        refine take_ (i := 20) (N := some 42) (v := ?_) (a' := ?_) #[tT, tT, tT, tT, tT, tT, tT, tT, tT, tT, tT, tT, tT, tT, tT, tT, tT, tT, tT, tT, tT, tF, tT, tT, tT, tF, tF, tF] rfl rfl (take_ofW HT_.out HW_.out (by kernel_rfl)) (fun _ _ _ h => h) (Or.inl ⟨by rfl, ?_⟩) hHeld ?_ ?_
        rotate_left
        ·rintro w' ⟨s0, s1, s2, s3⟩
         go_simp
         with_reducible rfl
        rotate_left
        ·simp only [Act.put, List.setIfInBounds_toArray, List.set_cons_zero, List.set_cons_succ, i64_w, i32_w]
         rfl
        refine pY 21 43 #[tT, tT, tT, tT, tT, tT, tT, tT, tT, tT, tT, tT, tT, tT, tT, tT, tT, tT, tT, tT, tT, tT, tT, tT, tT, tF, tF, tF] ?_
        refine pY 25 47 #[tT, tT, tT, tT, tT, tT, tT, tT, tT, tT, tT, tT, tT, tT, tT, tT, tT, tT, tT, tT, tT, tT, tT, tT, tT, tT, tF, tF] ?_
        refine pY 26 48 #[tT, tT, tT, tT, tT, tT, tT, tT, tT, tT, tT, tT, tT, tT, tT, tT, tT, tT, tT, tT, tT, tT, tT, tT, tT, tT, tT, tF] ?_
        refine pY 27 2 #[tT, tT, tT, tT, tT, tT, tT, tT, tT, tT, tT, tT, tT, tT, tT, tT, tT, tT, tT, tT, tT, tT, tT, tT, tT, tT, tT, tT] ?_
        refine done_ (done_of HT_.out (by kernel_rfl)) ?_
        try go_wp2
        go_ret
        exact ⟨eW, bB⟩
       ·replace c48 := Bool.eq_false_iff.mpr c48
        subst c48
        rw [if_neg (show ¬ (false = true) by decide)] at H
        obtain rfl := Option.some.inj H
        try go_wp2
        have n_ := aI (aM (Kd.R_drew HO_761000.out)) (aI (aM (Kd.R_drew HO_761001.out)) (aI (aM (Kd.R_drew HO_768000.out)) (aI (aM (Kd.R_drew HO_768001.out)) (aI (aM (blk_drew BK760.out)) (aI (aM (blk_drew BK767.out)) (aM (below_drew1 HB.out)))))))
        clear HO_761000 HO_761001 HO_768000 HO_768001 BK760 BK767 HB
        obtain ⟨HO_761000, HO_761001, HO_768000, HO_768001, BK760, BK767, HB⟩ := n_
        refine start_ (n := 28) (S := fun w' => w'.cell? ⟨gb767, 0, none⟩ = some (.slice Ao17 t761.length co17) ∧ w'.cell? ⟨gb767, 1, none⟩ = some (.slice Ao20 t764.length co20) ∧ w'.cell? ⟨gb760, 0, none⟩ = some (.slice Ao12 t753.length co12) ∧ w'.cell? ⟨gb760, 1, none⟩ = some (.slice Ao14 t756.length co14)) (ds := []) #[tF, tF, tF, tF, tF, tF, tF, tF, tF, tF, tF, tF, tF, tF, tF, tF, tF, tF, tF, tF, tF, tF, tF, tF, tF, tF, tF, tF] (by kernel_rfl) rfl rfl ⟨(blk_cell BK767.out 0).trans rfl, (blk_cell BK767.out 1).trans rfl, (blk_cell BK760.out 0).trans rfl, (blk_cell BK760.out 1).trans rfl⟩ (fun hHeld => ?_); refine with_tabW laws_FnRecovered.tab7 laws_FnRecovered.bits7 (fun HT_ HW_ => ?_)
        generalize wc.drew = w62 at HO_761000 HO_761001 HO_768000 HO_768001 BK760 BK767 HB hHeld ⊢
        refine pY 1 23 #[tF, tT, tF, tF, tF, tF, tF, tF, tF, tF, tF, tF, tF, tF, tF, tF, tF, tF, tF, tF, tF, tF, tF, tF, tF, tF, tF, tF] ?_
        refine take_ (i := 0) (N := some 22) (v := ?_) (a' := ?_) #[tT, tT, tF, tF, tF, tF, tF, tF, tF, tF, tF, tF, tF, tF, tF, tF, tF, tF, tF, tF, tF, tF, tF, tF, tF, tF, tF, tF] rfl rfl (take_ofW HT_.out HW_.out (by kernel_rfl)) (fun _ _ _ h => h) (Or.inl ⟨by rfl, ?_⟩) hHeld ?_ ?_
        rotate_left
        ·rintro w' ⟨s0, s1, s2, s3⟩
         go_simp
         with_reducible rfl
        rotate_left
        ·simp only [Act.put, List.setIfInBounds_toArray, List.set_cons_zero, List.set_cons_succ, i64_w, i32_w]
         rfl
        refine take_ (i := 3) (N := some 25) (v := ?_) (a' := ?_) #[tT, tT, tF, tT, tF, tF, tF, tF, tF, tF, tF, tF, tF, tF, tF, tF, tF, tF, tF, tF, tF, tF, tF, tF, tF, tF, tF, tF] rfl rfl (take_ofW HT_.out HW_.out (by kernel_rfl)) (fun _ _ _ h => h) (Or.inl ⟨by rfl, ?_⟩) hHeld ?_ ?_
        rotate_left
        ·rintro w' ⟨s0, s1, s2, s3⟩
         go_simp
         with_reducible rfl
        rotate_left
        ·simp only [Act.put, List.setIfInBounds_toArray, List.set_cons_zero, List.set_cons_succ, i64_w, i32_w]
         rfl
        refine one_ (i := 2) (N := some 24) #[tT, tT, tT, tT, tF, tF, tF, tF, tF, tF, tF, tF, tF, tF, tF, tF, tF, tF, tF, tF, tF, tF, tF, tF, tF, tF, tF, tF] rfl rfl (one_of HT_.out (by kernel_rfl)) (by decide) (fun K hK => ?_)
        refine goes_ Try.func45 (by kernel_rfl) rfl #[.agg #[.slice Ao17 t761.length co17, .slice Ao20 t764.length co20], .int .i64 t759] (by rfl) rfl rfl (by (try simp only [List.map_toArray, List.map_cons, List.map_nil]); first | done | rfl | (simp only [List.length_drop, List.length_take]; rfl)) ?_
        with_reducible refine (impl_Recover.calls kj8 _ _ t761 _ _ t764 t759 t775 t778 _ ?side1 ?side2 ?side3 ?side4 A28.out).mono ?_
        (case side1 => exact cR HO_768000)
        (case side2 => exact (Kd.R_reads' HO_768000.out).2.1)
        (case side3 => exact cR HO_768001)
        (case side4 => exact (Kd.R_reads' HO_768001.out).2.1)
        rintro e w63 ⟨v776, v779, rfl, ho0, ho1, hb⟩
        refine ⟨_, rfl, ?_⟩
        have n_ := aI (eR HO_761000 ho0 hb) (aI (eR HO_761001 ho1 hb) (aI (eR HO_768000 ho0 hb) (aI (eR HO_768001 ho1 hb) (aI (aM (Kd.R_lower (Kd.R_new' (Kd.R_new' ho0 (rL HO_761000)) (rL HO_768000)) (zB HB))) (aI (aM (Kd.R_lower (Kd.R_new' (Kd.R_new' ho1 (rL HO_761001)) (rL HO_768001)) (zB HB))) (aI (kB BK760 hb) (aI (kB BK767 hb) (sB HB hb))))))))
        clear HO_761000 HO_761001 HO_768000 HO_768001 BK760 BK767 HB
        obtain ⟨HO_761000, HO_761001, HO_768000, HO_768001, HO777, HO780, BK760, BK767, HB⟩ := n_
        (try clear hb)
        (try clear hb2)
        (try clear hk)
        (try clear hi)
        (try clear ho0)
        (try clear ho1)
        obtain ⟨Ao64, co64, eo64⟩ := Kd.R_slice HO777.out
        (first | subst eo64 | (injection eo64 with f1_ f2_ f3_; have f4_ := f1_.symm; have f5_ := f3_.symm; clear f1_ f2_ f3_; subst f4_; subst f5_))
        obtain ⟨Ao65, co65, eo65⟩ := Kd.R_slice HO780.out
        (first | subst eo65 | (injection eo65 with f1_ f2_ f3_; have f4_ := f1_.symm; have f5_ := f3_.symm; clear f1_ f2_ f3_; subst f4_; subst f5_))
        refine hK.out _ _ ⟨(blk_cell BK767.out 0).trans rfl, (blk_cell BK767.out 1).trans rfl, (blk_cell BK760.out 0).trans rfl, (blk_cell BK760.out 1).trans rfl⟩ (fun hHeld => ?_)
        clear hK K
        refine norm_ (a' := ?_) ?_ ?_
        rotate_left
        ·show Act.put _ (some 24) _ = _
         simp only [Act.put, List.setIfInBounds_toArray, List.set_cons_zero, List.set_cons_succ, i64_w, i32_w]
         rfl
        refine one_ (i := 4) (N := some 26) #[tT, tT, tT, tT, tT, tF, tF, tF, tF, tF, tF, tF, tF, tF, tF, tF, tF, tF, tF, tF, tF, tF, tF, tF, tF, tF, tF, tF] rfl rfl (one_of HT_.out (by kernel_rfl)) (by decide) (fun K hK => ?_)
        refine goes_ Try.func49 (by kernel_rfl) rfl #[.agg #[.slice Ao64 t775.length co64, .slice Ao65 t778.length co65], .agg #[.slice Ao17 t761.length co17, .slice Ao20 t764.length co20]] (by rfl) rfl rfl (by (try simp only [List.map_toArray, List.map_cons, List.map_nil]); first | done | rfl | (simp only [List.length_drop, List.length_take]; rfl)) ?_
        with_reducible refine (impl_DiskSame.calls kj8 _ _ t775 _ _ t778 _ _ t761 _ _ t764 true _ ?side1 ?side2 ?side3 ?side4 ?side5 ?side6 ?side7 ?side8 A29.out).mono ?_
        (case side1 => exact cR HO777)
        (case side2 => exact (Kd.R_reads' HO777.out).2.1)
        (case side3 => exact cR HO780)
        (case side4 => exact (Kd.R_reads' HO780.out).2.1)
        (case side5 => exact cR HO_768000)
        (case side6 => exact (Kd.R_reads' HO_768000.out).2.1)
        (case side7 => exact cR HO_768001)
        (case side8 => exact (Kd.R_reads' HO_768001.out).2.1)
        rintro e w66 ⟨rfl, hb⟩
        refine ⟨_, rfl, ?_⟩
        have n_ := aI (rB HO_761000 hb) (aI (rB HO_761001 hb) (aI (rB HO_768000 hb) (aI (rB HO_768001 hb) (aI (rB HO777 hb) (aI (rB HO780 hb) (aI (kB BK760 hb) (aI (kB BK767 hb) (sB HB hb))))))))
        clear HO_761000 HO_761001 HO_768000 HO_768001 HO777 HO780 BK760 BK767 HB
        obtain ⟨HO_761000, HO_761001, HO_768000, HO_768001, HO777, HO780, BK760, BK767, HB⟩ := n_
        (try clear hb)
        (try clear hb2)
        (try clear hk)
        (try clear hi)
        refine hK.out _ _ ⟨(blk_cell BK767.out 0).trans rfl, (blk_cell BK767.out 1).trans rfl, (blk_cell BK760.out 0).trans rfl, (blk_cell BK760.out 1).trans rfl⟩ (fun hHeld => ?_)
        clear hK K
        refine norm_ (a' := ?_) ?_ ?_
        rotate_left
        ·show Act.put _ (some 26) _ = _
         simp only [Act.put, List.setIfInBounds_toArray, List.set_cons_zero, List.set_cons_succ, i64_w, i32_w]
         rfl
        refine pY 5 27 #[tT, tT, tT, tT, tT, tT, tF, tF, tF, tF, tF, tF, tF, tF, tF, tF, tF, tF, tF, tF, tF, tF, tF, tF, tF, tF, tF, tF] ?_
        refine pY 8 30 #[tT, tT, tT, tT, tT, tT, tF, tF, tT, tF, tF, tF, tF, tF, tF, tF, tF, tF, tF, tF, tF, tF, tF, tF, tF, tF, tF, tF] ?_
        refine take_ (i := 6) (N := some 28) (v := ?_) (a' := ?_) #[tT, tT, tT, tT, tT, tT, tT, tF, tT, tF, tF, tF, tF, tF, tF, tF, tF, tF, tF, tF, tF, tF, tF, tF, tF, tF, tF, tF] rfl rfl (take_ofW HT_.out HW_.out (by kernel_rfl)) (fun _ _ _ h => h) (Or.inl ⟨by rfl, ?_⟩) hHeld ?_ ?_
        rotate_left
        ·rintro w' ⟨s0, s1, s2, s3⟩
         go_simp
         with_reducible rfl
        rotate_left
        ·simp only [Act.put, List.setIfInBounds_toArray, List.set_cons_zero, List.set_cons_succ, i64_w, i32_w]
         rfl
        refine take_ (i := 10) (N := some 32) (v := ?_) (a' := ?_) #[tT, tT, tT, tT, tT, tT, tT, tF, tT, tF, tT, tF, tF, tF, tF, tF, tF, tF, tF, tF, tF, tF, tF, tF, tF, tF, tF, tF] rfl rfl (take_ofW HT_.out HW_.out (by kernel_rfl)) (fun _ _ _ h => h) (Or.inl ⟨by rfl, ?_⟩) hHeld ?_ ?_
        rotate_left
        ·rintro w' ⟨s0, s1, s2, s3⟩
         go_simp
         with_reducible rfl
        rotate_left
        ·simp only [Act.put, List.setIfInBounds_toArray, List.set_cons_zero, List.set_cons_succ, i64_w, i32_w]
         rfl
        refine one_ (i := 7) (N := some 29) #[tT, tT, tT, tT, tT, tT, tT, tT, tT, tF, tT, tF, tF, tF, tF, tF, tF, tF, tF, tF, tF, tF, tF, tF, tF, tF, tF, tF] rfl rfl (one_of HT_.out (by kernel_rfl)) (by decide) (fun K hK => ?_)
        refine goes_ Try.func35 (by kernel_rfl) rfl #[.agg #[.slice Ao12 t753.length co12, .slice Ao14 t756.length co14], .slice none 0 0] (by rfl) rfl rfl (by (try simp only [List.map_toArray, List.map_cons, List.map_nil]); first | done | rfl | (simp only [List.length_drop, List.length_take]; rfl)) ?_
        refine (impl_Fall.calls kj8 _ _ t753 _ _ t756 _ _ ([] : List Bool) t782 t785 _ ?side1 ?side2 ?side3 ?side4 ?side5 ?side6 A31.out).mono ?_
        (case side1 => exact cR HO_761000)
        (case side2 => exact (Kd.R_reads' HO_761000.out).2.1)
        (case side3 => exact cR HO_761001)
        (case side4 => exact (Kd.R_reads' HO_761001.out).2.1)
        (case side5 => exact Kd.C_nil _ _)
        (case side6 => exact Nat.le_refl _)
        rintro e w67 ⟨v783, v786, rfl, ho0, ho1, hb⟩
        refine ⟨_, rfl, ?_⟩
        have n_ := aI (eR HO_761000 ho0 hb) (aI (eR HO_761001 ho1 hb) (aI (eR HO_768000 ho0 hb) (aI (eR HO_768001 ho1 hb) (aI (eR HO777 ho0 hb) (aI (eR HO780 ho1 hb) (aI (aM (Kd.R_lower (Kd.R_new' (Kd.R_new' (Kd.R_new' ho0 (rL HO_761000)) (rL HO_768000)) (rL HO777)) (zB HB))) (aI (aM (Kd.R_lower (Kd.R_new' (Kd.R_new' (Kd.R_new' ho1 (rL HO_761001)) (rL HO_768001)) (rL HO780)) (zB HB))) (aI (kB BK760 hb) (aI (kB BK767 hb) (sB HB hb))))))))))
        clear HO_761000 HO_761001 HO_768000 HO_768001 HO777 HO780 BK760 BK767 HB
        obtain ⟨HO_761000, HO_761001, HO_768000, HO_768001, HO777, HO780, HO784, HO787, BK760, BK767, HB⟩ := n_
        (try clear hb)
        (try clear hb2)
        (try clear hk)
        (try clear hi)
        (try clear ho0)
        (try clear ho1)
        obtain ⟨Ao68, co68, eo68⟩ := Kd.R_slice HO784.out
        (first | subst eo68 | (injection eo68 with f1_ f2_ f3_; have f4_ := f1_.symm; have f5_ := f3_.symm; clear f1_ f2_ f3_; subst f4_; subst f5_))
        obtain ⟨Ao69, co69, eo69⟩ := Kd.R_slice HO787.out
        (first | subst eo69 | (injection eo69 with f1_ f2_ f3_; have f4_ := f1_.symm; have f5_ := f3_.symm; clear f1_ f2_ f3_; subst f4_; subst f5_))
        refine hK.out _ _ ⟨(blk_cell BK767.out 0).trans rfl, (blk_cell BK767.out 1).trans rfl, (blk_cell BK760.out 0).trans rfl, (blk_cell BK760.out 1).trans rfl⟩ (fun hHeld => ?_)
        clear hK K
        refine norm_ (a' := ?_) ?_ ?_
        rotate_left
        ·show Act.put _ (some 29) _ = _
         simp only [Act.put, List.setIfInBounds_toArray, List.set_cons_zero, List.set_cons_succ, i64_w, i32_w]
         rfl
        refine one_ (i := 9) (N := some 31) #[tT, tT, tT, tT, tT, tT, tT, tT, tT, tT, tT, tF, tF, tF, tF, tF, tF, tF, tF, tF, tF, tF, tF, tF, tF, tF, tF, tF] rfl rfl (one_of HT_.out (by kernel_rfl)) (by decide) (fun K hK => ?_)
        refine goes_ Try.func45 (by kernel_rfl) rfl #[.agg #[.slice Ao68 t782.length co68, .slice Ao69 t785.length co69], .int .i64 t759] (by rfl) rfl rfl (by (try simp only [List.map_toArray, List.map_cons, List.map_nil]); first | done | rfl | (simp only [List.length_drop, List.length_take]; rfl)) ?_
        with_reducible refine (impl_Recover.calls kj8 _ _ t782 _ _ t785 t759 t788 t791 _ ?side1 ?side2 ?side3 ?side4 A32.out).mono ?_
        (case side1 => exact cR HO784)
        (case side2 => exact (Kd.R_reads' HO784.out).2.1)
        (case side3 => exact cR HO787)
        (case side4 => exact (Kd.R_reads' HO787.out).2.1)
        rintro e w70 ⟨v789, v792, rfl, ho0, ho1, hb⟩
        refine ⟨_, rfl, ?_⟩
        have n_ := aI (eR HO_761000 ho0 hb) (aI (eR HO_761001 ho1 hb) (aI (eR HO_768000 ho0 hb) (aI (eR HO_768001 ho1 hb) (aI (eR HO777 ho0 hb) (aI (eR HO780 ho1 hb) (aI (eR HO784 ho0 hb) (aI (eR HO787 ho1 hb) (aI (aM (Kd.R_lower (Kd.R_new' (Kd.R_new' (Kd.R_new' (Kd.R_new' ho0 (rL HO_761000)) (rL HO_768000)) (rL HO777)) (rL HO784)) (zB HB))) (aI (aM (Kd.R_lower (Kd.R_new' (Kd.R_new' (Kd.R_new' (Kd.R_new' ho1 (rL HO_761001)) (rL HO_768001)) (rL HO780)) (rL HO787)) (zB HB))) (aI (kB BK760 hb) (aI (kB BK767 hb) (sB HB hb))))))))))))
        clear HO_761000 HO_761001 HO_768000 HO_768001 HO777 HO780 HO784 HO787 BK760 BK767 HB
        obtain ⟨HO_761000, HO_761001, HO_768000, HO_768001, HO777, HO780, HO784, HO787, HO790, HO793, BK760, BK767, HB⟩ := n_
        (try clear hb)
        (try clear hb2)
        (try clear hk)
        (try clear hi)
        (try clear ho0)
        (try clear ho1)
        obtain ⟨Ao71, co71, eo71⟩ := Kd.R_slice HO790.out
        (first | subst eo71 | (injection eo71 with f1_ f2_ f3_; have f4_ := f1_.symm; have f5_ := f3_.symm; clear f1_ f2_ f3_; subst f4_; subst f5_))
        obtain ⟨Ao72, co72, eo72⟩ := Kd.R_slice HO793.out
        (first | subst eo72 | (injection eo72 with f1_ f2_ f3_; have f4_ := f1_.symm; have f5_ := f3_.symm; clear f1_ f2_ f3_; subst f4_; subst f5_))
        refine hK.out _ _ ⟨(blk_cell BK767.out 0).trans rfl, (blk_cell BK767.out 1).trans rfl, (blk_cell BK760.out 0).trans rfl, (blk_cell BK760.out 1).trans rfl⟩ (fun hHeld => ?_)
        clear hK K
        refine norm_ (a' := ?_) ?_ ?_
        rotate_left
        ·show Act.put _ (some 31) _ = _
         simp only [Act.put, List.setIfInBounds_toArray, List.set_cons_zero, List.set_cons_succ, i64_w, i32_w]
         rfl
        refine one_ (i := 11) (N := some 33) #[tT, tT, tT, tT, tT, tT, tT, tT, tT, tT, tT, tT, tF, tF, tF, tF, tF, tF, tF, tF, tF, tF, tF, tF, tF, tF, tF, tF] rfl rfl (one_of HT_.out (by kernel_rfl)) (by decide) (fun K hK => ?_)
        refine goes_ Try.func49 (by kernel_rfl) rfl #[.agg #[.slice Ao71 t788.length co71, .slice Ao72 t791.length co72], .agg #[.slice Ao17 t761.length co17, .slice Ao20 t764.length co20]] (by rfl) rfl rfl (by (try simp only [List.map_toArray, List.map_cons, List.map_nil]); first | done | rfl | (simp only [List.length_drop, List.length_take]; rfl)) ?_
        with_reducible refine (impl_DiskSame.calls kj8 _ _ t788 _ _ t791 _ _ t761 _ _ t764 false _ ?side1 ?side2 ?side3 ?side4 ?side5 ?side6 ?side7 ?side8 A33.out).mono ?_
        (case side1 => exact cR HO790)
        (case side2 => exact (Kd.R_reads' HO790.out).2.1)
        (case side3 => exact cR HO793)
        (case side4 => exact (Kd.R_reads' HO793.out).2.1)
        (case side5 => exact cR HO_768000)
        (case side6 => exact (Kd.R_reads' HO_768000.out).2.1)
        (case side7 => exact cR HO_768001)
        (case side8 => exact (Kd.R_reads' HO_768001.out).2.1)
        rintro e w73 ⟨rfl, hb⟩
        refine ⟨_, rfl, ?_⟩
        have n_ := aI (rB HO_761000 hb) (aI (rB HO_761001 hb) (aI (rB HO_768000 hb) (aI (rB HO_768001 hb) (aI (rB HO777 hb) (aI (rB HO780 hb) (aI (rB HO784 hb) (aI (rB HO787 hb) (aI (rB HO790 hb) (aI (rB HO793 hb) (aI (kB BK760 hb) (aI (kB BK767 hb) (sB HB hb))))))))))))
        clear HO_761000 HO_761001 HO_768000 HO_768001 HO777 HO780 HO784 HO787 HO790 HO793 BK760 BK767 HB
        obtain ⟨HO_761000, HO_761001, HO_768000, HO_768001, HO777, HO780, HO784, HO787, HO790, HO793, BK760, BK767, HB⟩ := n_
        (try clear hb)
        (try clear hb2)
        (try clear hk)
        (try clear hi)
        refine hK.out _ _ ⟨(blk_cell BK767.out 0).trans rfl, (blk_cell BK767.out 1).trans rfl, (blk_cell BK760.out 0).trans rfl, (blk_cell BK760.out 1).trans rfl⟩ (fun hHeld => ?_)
        clear hK K
        refine norm_ (a' := ?_) ?_ ?_
        rotate_left
        ·show Act.put _ (some 33) _ = _
         simp only [Act.put, List.setIfInBounds_toArray, List.set_cons_zero, List.set_cons_succ, i64_w, i32_w]
         rfl
        refine pY 12 34 #[tT, tT, tT, tT, tT, tT, tT, tT, tT, tT, tT, tT, tT, tF, tF, tF, tF, tF, tF, tF, tF, tF, tF, tF, tF, tF, tF, tF] ?_
        refine pY 13 35 #[tT, tT, tT, tT, tT, tT, tT, tT, tT, tT, tT, tT, tT, tT, tF, tF, tF, tF, tF, tF, tF, tF, tF, tF, tF, tF, tF, tF] ?_
        refine take_ (i := 14) (N := some 36) (v := ?_) (a' := ?_) #[tT, tT, tT, tT, tT, tT, tT, tT, tT, tT, tT, tT, tT, tT, tT, tF, tF, tF, tF, tF, tF, tF, tF, tF, tF, tF, tF, tF] rfl rfl (take_ofW HT_.out HW_.out (by kernel_rfl)) (fun _ _ _ h => h) (Or.inl ⟨by rfl, ?_⟩) hHeld ?_ ?_
        rotate_left
        ·rintro w' ⟨s0, s1, s2, s3⟩
         go_simp
         with_reducible rfl
        rotate_left
        ·simp only [Act.put, List.setIfInBounds_toArray, List.set_cons_zero, List.set_cons_succ, i64_w, i32_w]
         rfl
        refine one_ (i := 15) (N := some 37) #[tT, tT, tT, tT, tT, tT, tT, tT, tT, tT, tT, tT, tT, tT, tT, tT, tF, tF, tF, tF, tF, tF, tF, tF, tF, tF, tF, tF] rfl rfl (one_of HT_.out (by kernel_rfl)) (by decide) (fun K hK => ?_)
        refine goes_ Try.func16 (by kernel_rfl) rfl #[.agg #[.slice Ao12 t753.length co12, .slice Ao14 t756.length co14]] (by rfl) rfl rfl (by (try simp only [List.map_toArray, List.map_cons, List.map_nil]); first | done | rfl | (simp only [List.length_drop, List.length_take]; rfl)) ?_
        with_reducible refine (spec_DiskOk.calls kj8 _ _ t753 _ _ t756 false _ ?side1 ?side2 ?side3 ?side4 A47.out).mono ?_
        (case side1 => exact cR HO_761000)
        (case side2 => exact (Kd.R_reads' HO_761000.out).2.1)
        (case side3 => exact cR HO_761001)
        (case side4 => exact (Kd.R_reads' HO_761001.out).2.1)
        rintro e w74 ⟨rfl, hb⟩
        refine ⟨_, rfl, ?_⟩
        have n_ := aI (rB HO_761000 hb) (aI (rB HO_761001 hb) (aI (rB HO_768000 hb) (aI (rB HO_768001 hb) (aI (rB HO777 hb) (aI (rB HO780 hb) (aI (rB HO784 hb) (aI (rB HO787 hb) (aI (rB HO790 hb) (aI (rB HO793 hb) (aI (kB BK760 hb) (aI (kB BK767 hb) (sB HB hb))))))))))))
        clear HO_761000 HO_761001 HO_768000 HO_768001 HO777 HO780 HO784 HO787 HO790 HO793 BK760 BK767 HB
        obtain ⟨HO_761000, HO_761001, HO_768000, HO_768001, HO777, HO780, HO784, HO787, HO790, HO793, BK760, BK767, HB⟩ := n_
        (try clear hb)
        (try clear hb2)
        (try clear hk)
        (try clear hi)
        refine hK.out _ _ ⟨(blk_cell BK767.out 0).trans rfl, (blk_cell BK767.out 1).trans rfl, (blk_cell BK760.out 0).trans rfl, (blk_cell BK760.out 1).trans rfl⟩ (fun hHeld => ?_)
        clear hK K
        refine norm_ (a' := ?_) ?_ ?_
        rotate_left
        ·show Act.put _ (some 37) _ = _
         simp only [Act.put, List.setIfInBounds_toArray, List.set_cons_zero, List.set_cons_succ, i64_w, i32_w]
         rfl
        refine pY 16 38 #[tT, tT, tT, tT, tT, tT, tT, tT, tT, tT, tT, tT, tT, tT, tT, tT, tT, tF, tF, tF, tF, tF, tF, tF, tF, tF, tF, tF] ?_
        refine pY 17 39 #[tT, tT, tT, tT, tT, tT, tT, tT, tT, tT, tT, tT, tT, tT, tT, tT, tT, tT, tF, tF, tF, tF, tF, tF, tF, tF, tF, tF] ?_
        refine pY 18 40 #[tT, tT, tT, tT, tT, tT, tT, tT, tT, tT, tT, tT, tT, tT, tT, tT, tT, tT, tT, tF, tF, tF, tF, tF, tF, tF, tF, tF] ?_
        refine pU 19 41 #[tT, tT, tT, tT, tT, tT, tT, tT, tT, tT, tT, tT, tT, tT, tT, tT, tT, tT, tT, tT, tF, tF, tF, tF, tF, tF, tF, tF] ?_
        refine pU 20 42 #[tT, tT, tT, tT, tT, tT, tT, tT, tT, tT, tT, tT, tT, tT, tT, tT, tT, tT, tT, tT, tT, tF, tF, tF, tF, tF, tF, tF] ?_
        refine pU 21 43 #[tT, tT, tT, tT, tT, tT, tT, tT, tT, tT, tT, tT, tT, tT, tT, tT, tT, tT, tT, tT, tT, tT, tF, tF, tF, tF, tF, tF] ?_
        refine pU 22 44 #[tT, tT, tT, tT, tT, tT, tT, tT, tT, tT, tT, tT, tT, tT, tT, tT, tT, tT, tT, tT, tT, tT, tT, tF, tF, tF, tF, tF] ?_
        refine pU 23 45 #[tT, tT, tT, tT, tT, tT, tT, tT, tT, tT, tT, tT, tT, tT, tT, tT, tT, tT, tT, tT, tT, tT, tT, tT, tF, tF, tF, tF] ?_
        refine pU 24 46 #[tT, tT, tT, tT, tT, tT, tT, tT, tT, tT, tT, tT, tT, tT, tT, tT, tT, tT, tT, tT, tT, tT, tT, tT, tT, tF, tF, tF] ?_
        refine pU 25 47 #[tT, tT, tT, tT, tT, tT, tT, tT, tT, tT, tT, tT, tT, tT, tT, tT, tT, tT, tT, tT, tT, tT, tT, tT, tT, tT, tF, tF] ?_
        refine pY 26 48 #[tT, tT, tT, tT, tT, tT, tT, tT, tT, tT, tT, tT, tT, tT, tT, tT, tT, tT, tT, tT, tT, tT, tT, tT, tT, tT, tT, tF] ?_
        refine pY 27 2 #[tT, tT, tT, tT, tT, tT, tT, tT, tT, tT, tT, tT, tT, tT, tT, tT, tT, tT, tT, tT, tT, tT, tT, tT, tT, tT, tT, tT] ?_
        refine done_ (done_of HT_.out (by kernel_rfl)) ?_
        try go_wp2
        go_ret
        exact ⟨eW, bB⟩
     ·replace c30 := Bool.eq_false_iff.mpr c30
      subst c30
      rw [if_neg (show ¬ (false = true) by decide)] at H
      replace H := Option.bind_eq_some_iff.mp H
      obtain ⟨t796, A750, H⟩ := H
      try dsimp only at H
      have A75 := aM A750
      clear A750
      by_cases c76 : t796 = true
      ·subst c76
       rw [if_pos rfl] at H
       obtain rfl := Option.some.inj H
       try go_wp2
       have n_ := aI (aM (Kd.R_drew HO_761000.out)) (aI (aM (Kd.R_drew HO_761001.out)) (aI (aM (Kd.R_drew HO_768000.out)) (aI (aM (Kd.R_drew HO_768001.out)) (aI (aM (blk_drew BK760.out)) (aI (aM (blk_drew BK767.out)) (aM (below_drew1 HB.out)))))))
       clear HO_761000 HO_761001 HO_768000 HO_768001 BK760 BK767 HB
       obtain ⟨HO_761000, HO_761001, HO_768000, HO_768001, BK760, BK767, HB⟩ := n_
       refine start_ (n := 28) (S := fun w' => w'.cell? ⟨gb767, 0, none⟩ = some (.slice Ao17 t761.length co17) ∧ w'.cell? ⟨gb767, 1, none⟩ = some (.slice Ao20 t764.length co20) ∧ w'.cell? ⟨gb760, 0, none⟩ = some (.slice Ao12 t753.length co12) ∧ w'.cell? ⟨gb760, 1, none⟩ = some (.slice Ao14 t756.length co14)) (ds := []) #[tF, tF, tF, tF, tF, tF, tF, tF, tF, tF, tF, tF, tF, tF, tF, tF, tF, tF, tF, tF, tF, tF, tF, tF, tF, tF, tF, tF] (by kernel_rfl) rfl rfl ⟨(blk_cell BK767.out 0).trans rfl, (blk_cell BK767.out 1).trans rfl, (blk_cell BK760.out 0).trans rfl, (blk_cell BK760.out 1).trans rfl⟩ (fun hHeld => ?_); refine with_tabW laws_FnRecovered.tab7 laws_FnRecovered.bits7 (fun HT_ HW_ => ?_)
       generalize wc.drew = w77 at HO_761000 HO_761001 HO_768000 HO_768001 BK760 BK767 HB hHeld ⊢
       refine pY 1 23 #[tF, tT, tF, tF, tF, tF, tF, tF, tF, tF, tF, tF, tF, tF, tF, tF, tF, tF, tF, tF, tF, tF, tF, tF, tF, tF, tF, tF] ?_
       refine take_ (i := 0) (N := some 22) (v := ?_) (a' := ?_) #[tT, tT, tF, tF, tF, tF, tF, tF, tF, tF, tF, tF, tF, tF, tF, tF, tF, tF, tF, tF, tF, tF, tF, tF, tF, tF, tF, tF] rfl rfl (take_ofW HT_.out HW_.out (by kernel_rfl)) (fun _ _ _ h => h) (Or.inl ⟨by rfl, ?_⟩) hHeld ?_ ?_
       rotate_left
       ·rintro w' ⟨s0, s1, s2, s3⟩
        go_simp
        with_reducible rfl
       rotate_left
       ·simp only [Act.put, List.setIfInBounds_toArray, List.set_cons_zero, List.set_cons_succ, i64_w, i32_w]
        rfl
       refine take_ (i := 3) (N := some 25) (v := ?_) (a' := ?_) #[tT, tT, tF, tT, tF, tF, tF, tF, tF, tF, tF, tF, tF, tF, tF, tF, tF, tF, tF, tF, tF, tF, tF, tF, tF, tF, tF, tF] rfl rfl (take_ofW HT_.out HW_.out (by kernel_rfl)) (fun _ _ _ h => h) (Or.inl ⟨by rfl, ?_⟩) hHeld ?_ ?_
       rotate_left
       ·rintro w' ⟨s0, s1, s2, s3⟩
        go_simp
        with_reducible rfl
       rotate_left
       ·simp only [Act.put, List.setIfInBounds_toArray, List.set_cons_zero, List.set_cons_succ, i64_w, i32_w]
        rfl
       refine one_ (i := 2) (N := some 24) #[tT, tT, tT, tT, tF, tF, tF, tF, tF, tF, tF, tF, tF, tF, tF, tF, tF, tF, tF, tF, tF, tF, tF, tF, tF, tF, tF, tF] rfl rfl (one_of HT_.out (by kernel_rfl)) (by decide) (fun K hK => ?_)
       refine goes_ Try.func45 (by kernel_rfl) rfl #[.agg #[.slice Ao17 t761.length co17, .slice Ao20 t764.length co20], .int .i64 t759] (by rfl) rfl rfl (by (try simp only [List.map_toArray, List.map_cons, List.map_nil]); first | done | rfl | (simp only [List.length_drop, List.length_take]; rfl)) ?_
       with_reducible refine (impl_Recover.calls kj8 _ _ t761 _ _ t764 t759 t775 t778 _ ?side1 ?side2 ?side3 ?side4 A28.out).mono ?_
       (case side1 => exact cR HO_768000)
       (case side2 => exact (Kd.R_reads' HO_768000.out).2.1)
       (case side3 => exact cR HO_768001)
       (case side4 => exact (Kd.R_reads' HO_768001.out).2.1)
       rintro e w78 ⟨v776, v779, rfl, ho0, ho1, hb⟩
       refine ⟨_, rfl, ?_⟩
       have n_ := aI (eR HO_761000 ho0 hb) (aI (eR HO_761001 ho1 hb) (aI (eR HO_768000 ho0 hb) (aI (eR HO_768001 ho1 hb) (aI (aM (Kd.R_lower (Kd.R_new' (Kd.R_new' ho0 (rL HO_761000)) (rL HO_768000)) (zB HB))) (aI (aM (Kd.R_lower (Kd.R_new' (Kd.R_new' ho1 (rL HO_761001)) (rL HO_768001)) (zB HB))) (aI (kB BK760 hb) (aI (kB BK767 hb) (sB HB hb))))))))
       clear HO_761000 HO_761001 HO_768000 HO_768001 BK760 BK767 HB
       obtain ⟨HO_761000, HO_761001, HO_768000, HO_768001, HO777, HO780, BK760, BK767, HB⟩ := n_
       (try clear hb)
       (try clear hb2)
       (try clear hk)
       (try clear hi)
       (try clear ho0)
       (try clear ho1)
       obtain ⟨Ao79, co79, eo79⟩ := Kd.R_slice HO777.out
       (first | subst eo79 | (injection eo79 with f1_ f2_ f3_; have f4_ := f1_.symm; have f5_ := f3_.symm; clear f1_ f2_ f3_; subst f4_; subst f5_))
       obtain ⟨Ao80, co80, eo80⟩ := Kd.R_slice HO780.out
       (first | subst eo80 | (injection eo80 with f1_ f2_ f3_; have f4_ := f1_.symm; have f5_ := f3_.symm; clear f1_ f2_ f3_; subst f4_; subst f5_))
       refine hK.out _ _ ⟨(blk_cell BK767.out 0).trans rfl, (blk_cell BK767.out 1).trans rfl, (blk_cell BK760.out 0).trans rfl, (blk_cell BK760.out 1).trans rfl⟩ (fun hHeld => ?_)
       clear hK K
       refine norm_ (a' := ?_) ?_ ?_
       rotate_left
       ·show Act.put _ (some 24) _ = _
        simp only [Act.put, List.setIfInBounds_toArray, List.set_cons_zero, List.set_cons_succ, i64_w, i32_w]
        rfl
       refine one_ (i := 4) (N := some 26) #[tT, tT, tT, tT, tT, tF, tF, tF, tF, tF, tF, tF, tF, tF, tF, tF, tF, tF, tF, tF, tF, tF, tF, tF, tF, tF, tF, tF] rfl rfl (one_of HT_.out (by kernel_rfl)) (by decide) (fun K hK => ?_)
       refine goes_ Try.func49 (by kernel_rfl) rfl #[.agg #[.slice Ao79 t775.length co79, .slice Ao80 t778.length co80], .agg #[.slice Ao17 t761.length co17, .slice Ao20 t764.length co20]] (by rfl) rfl rfl (by (try simp only [List.map_toArray, List.map_cons, List.map_nil]); first | done | rfl | (simp only [List.length_drop, List.length_take]; rfl)) ?_
       with_reducible refine (impl_DiskSame.calls kj8 _ _ t775 _ _ t778 _ _ t761 _ _ t764 false _ ?side1 ?side2 ?side3 ?side4 ?side5 ?side6 ?side7 ?side8 A29.out).mono ?_
       (case side1 => exact cR HO777)
       (case side2 => exact (Kd.R_reads' HO777.out).2.1)
       (case side3 => exact cR HO780)
       (case side4 => exact (Kd.R_reads' HO780.out).2.1)
       (case side5 => exact cR HO_768000)
       (case side6 => exact (Kd.R_reads' HO_768000.out).2.1)
       (case side7 => exact cR HO_768001)
       (case side8 => exact (Kd.R_reads' HO_768001.out).2.1)
       rintro e w81 ⟨rfl, hb⟩
       refine ⟨_, rfl, ?_⟩
       have n_ := aI (rB HO_761000 hb) (aI (rB HO_761001 hb) (aI (rB HO_768000 hb) (aI (rB HO_768001 hb) (aI (rB HO777 hb) (aI (rB HO780 hb) (aI (kB BK760 hb) (aI (kB BK767 hb) (sB HB hb))))))))
       clear HO_761000 HO_761001 HO_768000 HO_768001 HO777 HO780 BK760 BK767 HB
       obtain ⟨HO_761000, HO_761001, HO_768000, HO_768001, HO777, HO780, BK760, BK767, HB⟩ := n_
       (try clear hb)
       (try clear hb2)
       (try clear hk)
       (try clear hi)
       refine hK.out _ _ ⟨(blk_cell BK767.out 0).trans rfl, (blk_cell BK767.out 1).trans rfl, (blk_cell BK760.out 0).trans rfl, (blk_cell BK760.out 1).trans rfl⟩ (fun hHeld => ?_)
       clear hK K
       refine norm_ (a' := ?_) ?_ ?_
       rotate_left
       ·show Act.put _ (some 26) _ = _
        simp only [Act.put, List.setIfInBounds_toArray, List.set_cons_zero, List.set_cons_succ, i64_w, i32_w]
        rfl
       refine pY 5 27 #[tT, tT, tT, tT, tT, tT, tF, tF, tF, tF, tF, tF, tF, tF, tF, tF, tF, tF, tF, tF, tF, tF, tF, tF, tF, tF, tF, tF] ?_
       refine pU 6 28 #[tT, tT, tT, tT, tT, tT, tT, tF, tF, tF, tF, tF, tF, tF, tF, tF, tF, tF, tF, tF, tF, tF, tF, tF, tF, tF, tF, tF] ?_
       refine pU 7 29 #[tT, tT, tT, tT, tT, tT, tT, tT, tF, tF, tF, tF, tF, tF, tF, tF, tF, tF, tF, tF, tF, tF, tF, tF, tF, tF, tF, tF] ?_
       refine pU 8 30 #[tT, tT, tT, tT, tT, tT, tT, tT, tT, tF, tF, tF, tF, tF, tF, tF, tF, tF, tF, tF, tF, tF, tF, tF, tF, tF, tF, tF] ?_
       refine pU 9 31 #[tT, tT, tT, tT, tT, tT, tT, tT, tT, tT, tF, tF, tF, tF, tF, tF, tF, tF, tF, tF, tF, tF, tF, tF, tF, tF, tF, tF] ?_
       refine pU 10 32 #[tT, tT, tT, tT, tT, tT, tT, tT, tT, tT, tT, tF, tF, tF, tF, tF, tF, tF, tF, tF, tF, tF, tF, tF, tF, tF, tF, tF] ?_
       refine pU 11 33 #[tT, tT, tT, tT, tT, tT, tT, tT, tT, tT, tT, tT, tF, tF, tF, tF, tF, tF, tF, tF, tF, tF, tF, tF, tF, tF, tF, tF] ?_
       refine pY 12 34 #[tT, tT, tT, tT, tT, tT, tT, tT, tT, tT, tT, tT, tT, tF, tF, tF, tF, tF, tF, tF, tF, tF, tF, tF, tF, tF, tF, tF] ?_
       refine pY 13 35 #[tT, tT, tT, tT, tT, tT, tT, tT, tT, tT, tT, tT, tT, tT, tF, tF, tF, tF, tF, tF, tF, tF, tF, tF, tF, tF, tF, tF] ?_
       refine take_ (i := 14) (N := some 36) (v := ?_) (a' := ?_) #[tT, tT, tT, tT, tT, tT, tT, tT, tT, tT, tT, tT, tT, tT, tT, tF, tF, tF, tF, tF, tF, tF, tF, tF, tF, tF, tF, tF] rfl rfl (take_ofW HT_.out HW_.out (by kernel_rfl)) (fun _ _ _ h => h) (Or.inl ⟨by rfl, ?_⟩) hHeld ?_ ?_
       rotate_left
       ·rintro w' ⟨s0, s1, s2, s3⟩
        go_simp
        with_reducible rfl
       rotate_left
       ·simp only [Act.put, List.setIfInBounds_toArray, List.set_cons_zero, List.set_cons_succ, i64_w, i32_w]
        rfl
       refine one_ (i := 15) (N := some 37) #[tT, tT, tT, tT, tT, tT, tT, tT, tT, tT, tT, tT, tT, tT, tT, tT, tF, tF, tF, tF, tF, tF, tF, tF, tF, tF, tF, tF] rfl rfl (one_of HT_.out (by kernel_rfl)) (by decide) (fun K hK => ?_)
       refine goes_ Try.func16 (by kernel_rfl) rfl #[.agg #[.slice Ao12 t753.length co12, .slice Ao14 t756.length co14]] (by rfl) rfl rfl (by (try simp only [List.map_toArray, List.map_cons, List.map_nil]); first | done | rfl | (simp only [List.length_drop, List.length_take]; rfl)) ?_
       with_reducible refine (spec_DiskOk.calls kj8 _ _ t753 _ _ t756 true _ ?side1 ?side2 ?side3 ?side4 A75.out).mono ?_
       (case side1 => exact cR HO_761000)
       (case side2 => exact (Kd.R_reads' HO_761000.out).2.1)
       (case side3 => exact cR HO_761001)
       (case side4 => exact (Kd.R_reads' HO_761001.out).2.1)
       rintro e w82 ⟨rfl, hb⟩
       refine ⟨_, rfl, ?_⟩
       have n_ := aI (rB HO_761000 hb) (aI (rB HO_761001 hb) (aI (rB HO_768000 hb) (aI (rB HO_768001 hb) (aI (rB HO777 hb) (aI (rB HO780 hb) (aI (kB BK760 hb) (aI (kB BK767 hb) (sB HB hb))))))))
       clear HO_761000 HO_761001 HO_768000 HO_768001 HO777 HO780 BK760 BK767 HB
       obtain ⟨HO_761000, HO_761001, HO_768000, HO_768001, HO777, HO780, BK760, BK767, HB⟩ := n_
       (try clear hb)
       (try clear hb2)
       (try clear hk)
       (try clear hi)
       refine hK.out _ _ ⟨(blk_cell BK767.out 0).trans rfl, (blk_cell BK767.out 1).trans rfl, (blk_cell BK760.out 0).trans rfl, (blk_cell BK760.out 1).trans rfl⟩ (fun hHeld => ?_)
       clear hK K
       refine norm_ (a' := ?_) ?_ ?_
       rotate_left
       ·show Act.put _ (some 37) _ = _
        simp only [Act.put, List.setIfInBounds_toArray, List.set_cons_zero, List.set_cons_succ, i64_w, i32_w]
        rfl
       refine pY 16 38 #[tT, tT, tT, tT, tT, tT, tT, tT, tT, tT, tT, tT, tT, tT, tT, tT, tT, tF, tF, tF, tF, tF, tF, tF, tF, tF, tF, tF] ?_
       refine pY 17 39 #[tT, tT, tT, tT, tT, tT, tT, tT, tT, tT, tT, tT, tT, tT, tT, tT, tT, tT, tF, tF, tF, tF, tF, tF, tF, tF, tF, tF] ?_
       refine pY 18 40 #[tT, tT, tT, tT, tT, tT, tT, tT, tT, tT, tT, tT, tT, tT, tT, tT, tT, tT, tT, tF, tF, tF, tF, tF, tF, tF, tF, tF] ?_
       refine pY 19 41 #[tT, tT, tT, tT, tT, tT, tT, tT, tT, tT, tT, tT, tT, tT, tT, tT, tT, tT, tT, tT, tF, tF, tF, tF, tF, tF, tF, tF] ?_
       refine pY 22 44 #[tT, tT, tT, tT, tT, tT, tT, tT, tT, tT, tT, tT, tT, tT, tT, tT, tT, tT, tT, tT, tF, tF, tT, tF, tF, tF, tF, tF] ?_
       refine pY 23 45 #[tT, tT, tT, tT, tT, tT, tT, tT, tT, tT, tT, tT, tT, tT, tT, tT, tT, tT, tT, tT, tF, tF, tT, tT, tF, tF, tF, tF] ?_
       refine pY 24 46 #[tT, tT, tT, tT, tT, tT, tT, tT, tT, tT, tT, tT, tT, tT, tT, tT, tT, tT, tT, tT, tF, tF, tT, tT, tT, tF, tF, tF] ?_
       refine take_ (i := 20) (N := some 42) (v := ?_) (a' := ?_) #[tT, tT, tT, tT, tT, tT, tT, tT, tT, tT, tT, tT, tT, tT, tT, tT, tT, tT, tT, tT, tT, tF, tT, tT, tT, tF, tF, tF] rfl rfl (take_ofW HT_.out HW_.out (by kernel_rfl)) (fun _ _ _ h => h) (Or.inl ⟨by rfl, ?_⟩) hHeld ?_ ?_
       rotate_left
       ·rintro w' ⟨s0, s1, s2, s3⟩
        go_simp
        with_reducible rfl
       rotate_left
       ·simp only [Act.put, List.setIfInBounds_toArray, List.set_cons_zero, List.set_cons_succ, i64_w, i32_w]
        rfl
       refine pY 21 43 #[tT, tT, tT, tT, tT, tT, tT, tT, tT, tT, tT, tT, tT, tT, tT, tT, tT, tT, tT, tT, tT, tT, tT, tT, tT, tF, tF, tF] ?_
       refine pY 25 47 #[tT, tT, tT, tT, tT, tT, tT, tT, tT, tT, tT, tT, tT, tT, tT, tT, tT, tT, tT, tT, tT, tT, tT, tT, tT, tT, tF, tF] ?_
       refine pY 26 48 #[tT, tT, tT, tT, tT, tT, tT, tT, tT, tT, tT, tT, tT, tT, tT, tT, tT, tT, tT, tT, tT, tT, tT, tT, tT, tT, tT, tF] ?_
       refine pY 27 2 #[tT, tT, tT, tT, tT, tT, tT, tT, tT, tT, tT, tT, tT, tT, tT, tT, tT, tT, tT, tT, tT, tT, tT, tT, tT, tT, tT, tT] ?_
       refine done_ (done_of HT_.out (by kernel_rfl)) ?_
       try go_wp2
       go_ret
       exact ⟨eW, bB⟩
      ·replace c76 := Bool.eq_false_iff.mpr c76
       subst c76
       rw [if_neg (show ¬ (false = true) by decide)] at H
       obtain rfl := Option.some.inj H
       try go_wp2
       have n_ := aI (aM (Kd.R_drew HO_761000.out)) (aI (aM (Kd.R_drew HO_761001.out)) (aI (aM (Kd.R_drew HO_768000.out)) (aI (aM (Kd.R_drew HO_768001.out)) (aI (aM (blk_drew BK760.out)) (aI (aM (blk_drew BK767.out)) (aM (below_drew1 HB.out)))))))
       clear HO_761000 HO_761001 HO_768000 HO_768001 BK760 BK767 HB
       obtain ⟨HO_761000, HO_761001, HO_768000, HO_768001, BK760, BK767, HB⟩ := n_
       refine start_ (n := 28) (S := fun w' => w'.cell? ⟨gb767, 0, none⟩ = some (.slice Ao17 t761.length co17) ∧ w'.cell? ⟨gb767, 1, none⟩ = some (.slice Ao20 t764.length co20) ∧ w'.cell? ⟨gb760, 0, none⟩ = some (.slice Ao12 t753.length co12) ∧ w'.cell? ⟨gb760, 1, none⟩ = some (.slice Ao14 t756.length co14)) (ds := []) #[tF, tF, tF, tF, tF, tF, tF, tF, tF, tF, tF, tF, tF, tF, tF, tF, tF, tF, tF, tF, tF, tF, tF, tF, tF, tF, tF, tF] (by kernel_rfl) rfl rfl ⟨(blk_cell BK767.out 0).trans rfl, (blk_cell BK767.out 1).trans rfl, (blk_cell BK760.out 0).trans rfl, (blk_cell BK760.out 1).trans rfl⟩ (fun hHeld => ?_); refine with_tabW laws_FnRecovered.tab7 laws_FnRecovered.bits7 (fun HT_ HW_ => ?_)
       generalize wc.drew = w83 at HO_761000 HO_761001 HO_768000 HO_768001 BK760 BK767 HB hHeld ⊢
       refine pY 1 23 #[tF, tT, tF, tF, tF, tF, tF, tF, tF, tF, tF, tF, tF, tF, tF, tF, tF, tF, tF, tF, tF, tF, tF, tF, tF, tF, tF, tF] ?_
       refine take_ (i := 0) (N := some 22) (v := ?_) (a' := ?_) #[tT, tT, tF, tF, tF, tF, tF, tF, tF, tF, tF, tF, tF, tF, tF, tF, tF, tF, tF, tF, tF, tF, tF, tF, tF, tF, tF, tF] rfl rfl (take_ofW HT_.out HW_.out (by kernel_rfl)) (fun _ _ _ h => h) (Or.inl ⟨by rfl, ?_⟩) hHeld ?_ ?_
       rotate_left
       ·rintro w' ⟨s0, s1, s2, s3⟩
        go_simp
        with_reducible rfl
       rotate_left
       ·simp only [Act.put, List.setIfInBounds_toArray, List.set_cons_zero, List.set_cons_succ, i64_w, i32_w]
        rfl
       refine take_ (i := 3) (N := some 25) (v := ?_) (a' := ?_) #[tT, tT, tF, tT, tF, tF, tF, tF, tF, tF, tF, tF, tF, tF, tF, tF, tF, tF, tF, tF, tF, tF, tF, tF, tF, tF, tF, tF] rfl rfl (take_ofW HT_.out HW_.out (by kernel_rfl)) (fun _ _ _ h => h) (Or.inl ⟨by rfl, ?_⟩) hHeld ?_ ?_
       rotate_left
       ·rintro w' ⟨s0, s1, s2, s3⟩
        go_simp
        with_reducible rfl
       rotate_left
       ·simp only [Act.put, List.setIfInBounds_toArray, List.set_cons_zero, List.set_cons_succ, i64_w, i32_w]
        rfl
       refine one_ (i := 2) (N := some 24) #[tT, tT, tT, tT, tF, tF, tF, tF, tF, tF, tF, tF, tF, tF, tF, tF, tF, tF, tF, tF, tF, tF, tF, tF, tF, tF, tF, tF] rfl rfl (one_of HT_.out (by kernel_rfl)) (by decide) (fun K hK => ?_)
       refine goes_ Try.func45 (by kernel_rfl) rfl #[.agg #[.slice Ao17 t761.length co17, .slice Ao20 t764.length co20], .int .i64 t759] (by rfl) rfl rfl (by (try simp only [List.map_toArray, List.map_cons, List.map_nil]); first | done | rfl | (simp only [List.length_drop, List.length_take]; rfl)) ?_
       with_reducible refine (impl_Recover.calls kj8 _ _ t761 _ _ t764 t759 t775 t778 _ ?side1 ?side2 ?side3 ?side4 A28.out).mono ?_
       (case side1 => exact cR HO_768000)
       (case side2 => exact (Kd.R_reads' HO_768000.out).2.1)
       (case side3 => exact cR HO_768001)
       (case side4 => exact (Kd.R_reads' HO_768001.out).2.1)
       rintro e w84 ⟨v776, v779, rfl, ho0, ho1, hb⟩
       refine ⟨_, rfl, ?_⟩
       have n_ := aI (eR HO_761000 ho0 hb) (aI (eR HO_761001 ho1 hb) (aI (eR HO_768000 ho0 hb) (aI (eR HO_768001 ho1 hb) (aI (aM (Kd.R_lower (Kd.R_new' (Kd.R_new' ho0 (rL HO_761000)) (rL HO_768000)) (zB HB))) (aI (aM (Kd.R_lower (Kd.R_new' (Kd.R_new' ho1 (rL HO_761001)) (rL HO_768001)) (zB HB))) (aI (kB BK760 hb) (aI (kB BK767 hb) (sB HB hb))))))))
       clear HO_761000 HO_761001 HO_768000 HO_768001 BK760 BK767 HB
       obtain ⟨HO_761000, HO_761001, HO_768000, HO_768001, HO777, HO780, BK760, BK767, HB⟩ := n_
       (try clear hb)
       (try clear hb2)
       (try clear hk)
       (try clear hi)
       (try clear ho0)
       (try clear ho1)
       obtain ⟨Ao85, co85, eo85⟩ := Kd.R_slice HO777.out
       (first | subst eo85 | (injection eo85 with f1_ f2_ f3_; have f4_ := f1_.symm; have f5_ := f3_.symm; clear f1_ f2_ f3_; subst f4_; subst f5_))
       obtain ⟨Ao86, co86, eo86⟩ := Kd.R_slice HO780.out
       (first | subst eo86 | (injection eo86 with f1_ f2_ f3_; have f4_ := f1_.symm; have f5_ := f3_.symm; clear f1_ f2_ f3_; subst f4_; subst f5_))
       refine hK.out _ _ ⟨(blk_cell BK767.out 0).trans rfl, (blk_cell BK767.out 1).trans rfl, (blk_cell BK760.out 0).trans rfl, (blk_cell BK760.out 1).trans rfl⟩ (fun hHeld => ?_)
       clear hK K
       refine norm_ (a' := ?_) ?_ ?_
       rotate_left
       ·show Act.put _ (some 24) _ = _
        simp only [Act.put, List.setIfInBounds_toArray, List.set_cons_zero, List.set_cons_succ, i64_w, i32_w]
        rfl
       refine one_ (i := 4) (N := some 26) #[tT, tT, tT, tT, tT, tF, tF, tF, tF, tF, tF, tF, tF, tF, tF, tF, tF, tF, tF, tF, tF, tF, tF, tF, tF, tF, tF, tF] rfl rfl (one_of HT_.out (by kernel_rfl)) (by decide) (fun K hK => ?_)
       refine goes_ Try.func49 (by kernel_rfl) rfl #[.agg #[.slice Ao85 t775.length co85, .slice Ao86 t778.length co86], .agg #[.slice Ao17 t761.length co17, .slice Ao20 t764.length co20]] (by rfl) rfl rfl (by (try simp only [List.map_toArray, List.map_cons, List.map_nil]); first | done | rfl | (simp only [List.length_drop, List.length_take]; rfl)) ?_
       with_reducible refine (impl_DiskSame.calls kj8 _ _ t775 _ _ t778 _ _ t761 _ _ t764 false _ ?side1 ?side2 ?side3 ?side4 ?side5 ?side6 ?side7 ?side8 A29.out).mono ?_
       (case side1 => exact cR HO777)
       (case side2 => exact (Kd.R_reads' HO777.out).2.1)
       (case side3 => exact cR HO780)
       (case side4 => exact (Kd.R_reads' HO780.out).2.1)
       (case side5 => exact cR HO_768000)
       (case side6 => exact (Kd.R_reads' HO_768000.out).2.1)
       (case side7 => exact cR HO_768001)
       (case side8 => exact (Kd.R_reads' HO_768001.out).2.1)
       rintro e w87 ⟨rfl, hb⟩
       refine ⟨_, rfl, ?_⟩
       have n_ := aI (rB HO_761000 hb) (aI (rB HO_761001 hb) (aI (rB HO_768000 hb) (aI (rB HO_768001 hb) (aI (rB HO777 hb) (aI (rB HO780 hb) (aI (kB BK760 hb) (aI (kB BK767 hb) (sB HB hb))))))))
       clear HO_761000 HO_761001 HO_768000 HO_768001 HO777 HO780 BK760 BK767 HB
       obtain ⟨HO_761000, HO_761001, HO_768000, HO_768001, HO777, HO780, BK760, BK767, HB⟩ := n_
       (try clear hb)
       (try clear hb2)
       (try clear hk)
       (try clear hi)
       refine hK.out _ _ ⟨(blk_cell BK767.out 0).trans rfl, (blk_cell BK767.out 1).trans rfl, (blk_cell BK760.out 0).trans rfl, (blk_cell BK760.out 1).trans rfl⟩ (fun hHeld => ?_)
       clear hK K
       refine norm_ (a' := ?_) ?_ ?_
       rotate_left
       ·show Act.put _ (some 26) _ = _
        simp only [Act.put, List.setIfInBounds_toArray, List.set_cons_zero, List.set_cons_succ, i64_w, i32_w]
        rfl
       refine pY 5 27 #[tT, tT, tT, tT, tT, tT, tF, tF, tF, tF, tF, tF, tF, tF, tF, tF, tF, tF, tF, tF, tF, tF, tF, tF, tF, tF, tF, tF] ?_
       refine pU 6 28 #[tT, tT, tT, tT, tT, tT, tT, tF, tF, tF, tF, tF, tF, tF, tF, tF, tF, tF, tF, tF, tF, tF, tF, tF, tF, tF, tF, tF] ?_
       refine pU 7 29 #[tT, tT, tT, tT, tT, tT, tT, tT, tF, tF, tF, tF, tF, tF, tF, tF, tF, tF, tF, tF, tF, tF, tF, tF, tF, tF, tF, tF] ?_
       refine pU 8 30 #[tT, tT, tT, tT, tT, tT, tT, tT, tT, tF, tF, tF, tF, tF, tF, tF, tF, tF, tF, tF, tF, tF, tF, tF, tF, tF, tF, tF] ?_
       refine pU 9 31 #[tT, tT, tT, tT, tT, tT, tT, tT, tT, tT, tF, tF, tF, tF, tF, tF, tF, tF, tF, tF, tF, tF, tF, tF, tF, tF, tF, tF] ?_
       refine pU 10 32 #[tT, tT, tT, tT, tT, tT, tT, tT, tT, tT, tT, tF, tF, tF, tF, tF, tF, tF, tF, tF, tF, tF, tF, tF, tF, tF, tF, tF] ?_
       refine pU 11 33 #[tT, tT, tT, tT, tT, tT, tT, tT, tT, tT, tT, tT, tF, tF, tF, tF, tF, tF, tF, tF, tF, tF, tF, tF, tF, tF, tF, tF] ?_
       refine pY 12 34 #[tT, tT, tT, tT, tT, tT, tT, tT, tT, tT, tT, tT, tT, tF, tF, tF, tF, tF, tF, tF, tF, tF, tF, tF, tF, tF, tF, tF] ?_
       refine pY 13 35 #[tT, tT, tT, tT, tT, tT, tT, tT, tT, tT, tT, tT, tT, tT, tF, tF, tF, tF, tF, tF, tF, tF, tF, tF, tF, tF, tF, tF] ?_
       refine take_ (i := 14) (N := some 36) (v := ?_) (a' := ?_) #[tT, tT, tT, tT, tT, tT, tT, tT, tT, tT, tT, tT, tT, tT, tT, tF, tF, tF, tF, tF, tF, tF, tF, tF, tF, tF, tF, tF] rfl rfl (take_ofW HT_.out HW_.out (by kernel_rfl)) (fun _ _ _ h => h) (Or.inl ⟨by rfl, ?_⟩) hHeld ?_ ?_
       rotate_left
       ·rintro w' ⟨s0, s1, s2, s3⟩
        go_simp
        with_reducible rfl
       rotate_left
       ·simp only [Act.put, List.setIfInBounds_toArray, List.set_cons_zero, List.set_cons_succ, i64_w, i32_w]
        rfl
       refine one_ (i := 15) (N := some 37) #[tT, tT, tT, tT, tT, tT, tT, tT, tT, tT, tT, tT, tT, tT, tT, tT, tF, tF, tF, tF, tF, tF, tF, tF, tF, tF, tF, tF] rfl rfl (one_of HT_.out (by kernel_rfl)) (by decide) (fun K hK => ?_)
       refine goes_ Try.func16 (by kernel_rfl) rfl #[.agg #[.slice Ao12 t753.length co12, .slice Ao14 t756.length co14]] (by rfl) rfl rfl (by (try simp only [List.map_toArray, List.map_cons, List.map_nil]); first | done | rfl | (simp only [List.length_drop, List.length_take]; rfl)) ?_
       with_reducible refine (spec_DiskOk.calls kj8 _ _ t753 _ _ t756 false _ ?side1 ?side2 ?side3 ?side4 A75.out).mono ?_
       (case side1 => exact cR HO_761000)
       (case side2 => exact (Kd.R_reads' HO_761000.out).2.1)
       (case side3 => exact cR HO_761001)
       (case side4 => exact (Kd.R_reads' HO_761001.out).2.1)
       rintro e w88 ⟨rfl, hb⟩
       refine ⟨_, rfl, ?_⟩
       have n_ := aI (rB HO_761000 hb) (aI (rB HO_761001 hb) (aI (rB HO_768000 hb) (aI (rB HO_768001 hb) (aI (rB HO777 hb) (aI (rB HO780 hb) (aI (kB BK760 hb) (aI (kB BK767 hb) (sB HB hb))))))))
       clear HO_761000 HO_761001 HO_768000 HO_768001 HO777 HO780 BK760 BK767 HB
       obtain ⟨HO_761000, HO_761001, HO_768000, HO_768001, HO777, HO780, BK760, BK767, HB⟩ := n_
       (try clear hb)
       (try clear hb2)
       (try clear hk)
       (try clear hi)
       refine hK.out _ _ ⟨(blk_cell BK767.out 0).trans rfl, (blk_cell BK767.out 1).trans rfl, (blk_cell BK760.out 0).trans rfl, (blk_cell BK760.out 1).trans rfl⟩ (fun hHeld => ?_)
       clear hK K
       refine norm_ (a' := ?_) ?_ ?_
       rotate_left
       ·show Act.put _ (some 37) _ = _
        simp only [Act.put, List.setIfInBounds_toArray, List.set_cons_zero, List.set_cons_succ, i64_w, i32_w]
        rfl
       refine pY 16 38 #[tT, tT, tT, tT, tT, tT, tT, tT, tT, tT, tT, tT, tT, tT, tT, tT, tT, tF, tF, tF, tF, tF, tF, tF, tF, tF, tF, tF] ?_
       refine pY 17 39 #[tT, tT, tT, tT, tT, tT, tT, tT, tT, tT, tT, tT, tT, tT, tT, tT, tT, tT, tF, tF, tF, tF, tF, tF, tF, tF, tF, tF] ?_
       refine pY 18 40 #[tT, tT, tT, tT, tT, tT, tT, tT, tT, tT, tT, tT, tT, tT, tT, tT, tT, tT, tT, tF, tF, tF, tF, tF, tF, tF, tF, tF] ?_
       refine pU 19 41 #[tT, tT, tT, tT, tT, tT, tT, tT, tT, tT, tT, tT, tT, tT, tT, tT, tT, tT, tT, tT, tF, tF, tF, tF, tF, tF, tF, tF] ?_
       refine pU 20 42 #[tT, tT, tT, tT, tT, tT, tT, tT, tT, tT, tT, tT, tT, tT, tT, tT, tT, tT, tT, tT, tT, tF, tF, tF, tF, tF, tF, tF] ?_
       refine pU 21 43 #[tT, tT, tT, tT, tT, tT, tT, tT, tT, tT, tT, tT, tT, tT, tT, tT, tT, tT, tT, tT, tT, tT, tF, tF, tF, tF, tF, tF] ?_
       refine pU 22 44 #[tT, tT, tT, tT, tT, tT, tT, tT, tT, tT, tT, tT, tT, tT, tT, tT, tT, tT, tT, tT, tT, tT, tT, tF, tF, tF, tF, tF] ?_
       refine pU 23 45 #[tT, tT, tT, tT, tT, tT, tT, tT, tT, tT, tT, tT, tT, tT, tT, tT, tT, tT, tT, tT, tT, tT, tT, tT, tF, tF, tF, tF] ?_
       refine pU 24 46 #[tT, tT, tT, tT, tT, tT, tT, tT, tT, tT, tT, tT, tT, tT, tT, tT, tT, tT, tT, tT, tT, tT, tT, tT, tT, tF, tF, tF] ?_
       refine pU 25 47 #[tT, tT, tT, tT, tT, tT, tT, tT, tT, tT, tT, tT, tT, tT, tT, tT, tT, tT, tT, tT, tT, tT, tT, tT, tT, tT, tF, tF] ?_
       refine pY 26 48 #[tT, tT, tT, tT, tT, tT, tT, tT, tT, tT, tT, tT, tT, tT, tT, tT, tT, tT, tT, tT, tT, tT, tT, tT, tT, tT, tT, tF] ?_
       refine pY 27 2 #[tT, tT, tT, tT, tT, tT, tT, tT, tT, tT, tT, tT, tT, tT, tT, tT, tT, tT, tT, tT, tT, tT, tT, tT, tT, tT, tT, tT] ?_
       refine done_ (done_of HT_.out (by kernel_rfl)) ?_
       try go_wp2
       go_ret
       exact ⟨eW, bB⟩

/-- THE ONE PURE STATEMENT of laws_FnRecovered: yours. -/
def laws_FnRecovered.Pure : Prop := ∀ (l0 : List Int), l0.length ≤ maxLen → l0.length * 1 ≤ 140737488351232 → (∀ x ∈ l0, (Lit.int .u8 x).wf = true) → ∃ k, laws_FnRecovered.f k l0 = some true
theorem laws_FnRecovered.walk (P : laws_FnRecovered.Pure) (a0 : Option Addr) (len0 cap0 : Nat) (z0 : List Int) (w : World) (w0 : (a0 = none ∧ len0 = 0 ∧ cap0 = 0 ∧ z0 = []) ∨ ∃ x, a0 = some x ∧ len0 ≤ cap0 ∧ cap0 ≤ maxLen ∧ z0.length = cap0 ∧ (∀ i, i < z0.length → w.cell? (x.add i) = some (.int .u8 (z0.getD i 0))) ∧ ∀ n ∈ z0, (Lit.int .u8 n).wf = true) (y0 : len0 * 1 ≤ 140737488351232) :
  Calls Try.prog 13 #[.slice a0 len0 cap0] w fun e w' => e = .returned (.bool true) ∧ Below w.heap.size w w' := by
 obtain ⟨l0, rfl, hr0, hm0, hw0, hc0⟩ := ReadsInt.ofRowC w0
 obtain ⟨k, h⟩ := P l0 hm0 y0 hw0
 refine (laws_FnRecovered.calls k _ _ l0 true w (Kd.C_of_reads (d := (0 : Int)) (h1 := fun _ => rfl) hr0) hc0 h).mono ?_
 rintro e w' ⟨rfl, hd⟩
 exact ⟨rfl, hd⟩

end Go.Proofs.Ytgmpdkefegofhaa.PFnRecovered
