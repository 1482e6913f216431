-- Written by xprint.py, a program of this session over the kit's print. Not trusted: Lean checks it.
import Derived.Test.YtgmpdkefegofhaaPFnFallenx0
import Derived.Test.YtgmpdkefegofhaaPFnFallenx4
namespace Go.Proofs.Ytgmpdkefegofhaa.PFnFallen
open Go.RowKit Go.Proofs.YtgmpdkefegofhaaW.PrintWords Go.Proofs.YtgmpdkefegofhaaW.PrintLast Go.Proofs.YtgmpdkefegofhaaW.PrintMore
attribute [local go_sem] max2_int min2_int max_two min_two max_three min_three max_four min_four   -- for this text's walks alone
set_option linter.unusedVariables false
set_option linter.unusedSimpArgs false

/-! ### spec_l3Right: function 119 -/
mutual
def spec_l3Right.l0 : Nat → Int → List Int → Int → Int → List ByteArray → List (S65) → Option (List ByteArray × (List (S65)) × Int × Int)
 | 0, _, _, _, _, _, _ => none
 | k + 1, x5, x1000, x1001, x1002, x211000, x211001 => if x5 < (x211000.length : Int) then ((spec_l3Data.f k x1000 x1001 x1002).bind fun bt211 => (if 0 ≤ x5 then (spec_l3Right.l0 k (wrap64 (x5 + 1)) x1000 bt211.2.1 bt211.2.2 (x211000.set (x5 : Int).toNat bt211.1) x211001) else (none))) else ((spec_l1Below.f x1000 x1001 x1002 6).bind fun bt215 => (spec_l3Right.l1 k bt215.1 0 x1000 bt215.2.1 bt215.2.2 x211000 x211001))
def spec_l3Right.l1 : Nat → Int → Int → List Int → Int → Int → List ByteArray → List (S65) → Option (List ByteArray × (List (S65)) × Int × Int)
 | 0, _, _, _, _, _, _, _ => none
 | k + 1, x6, x7, x1000, x1001, x1002, x211000, x211001 => if x7 < x6 then ((spec_l1Below.f x1000 x1001 x1002 (x211000.length : Int)).bind fun bt218 => ((spec_l3Data.f k x1000 bt218.2.1 bt218.2.2).bind fun bt221 => (if x211001.length < 5864062014805 then (spec_l3Right.l1 k x6 (wrap64 (x7 + 1)) x1000 bt221.2.1 bt221.2.2 x211000 (x211001 ++ [(⟨bt218.1, bt221.1⟩ : S65)])) else (none)))) else (some (x211000, x211001, x1001, x1002))
end
def spec_l3Right.f (k : Nat) (s0_0 : List Int) (s0_1 : Int) (s0_2 : Int) : Option (List ByteArray × (List (S65)) × Int × Int) := (spec_l1PickInt.f s0_0 s0_1 s0_2 (([1, 2, 5, 9] : List Int))).bind fun bt200 => ((spec_DiskNew.f bt200.1).bind fun bt203 => (spec_l3Right.l0 k 0 s0_0 bt200.2.1 bt200.2.2 bt203.1 bt203.2.1))
theorem spec_l3Right.mono_l : ∀ k, (∀ y0 y1 y2 y3 y4 y5, LeO (spec_l3Right.l0 k y0 y1 y2 y3 y4 y5) (spec_l3Right.l0 (k + 1) y0 y1 y2 y3 y4 y5)) ∧ (∀ y0 y1 y2 y3 y4 y5 y6, LeO (spec_l3Right.l1 k y0 y1 y2 y3 y4 y5 y6) (spec_l3Right.l1 (k + 1) y0 y1 y2 y3 y4 y5 y6))
 | 0 => ⟨fun _ _ _ _ _ _ r h => by simp [spec_l3Right.l0] at h, fun _ _ _ _ _ _ _ r h => by simp [spec_l3Right.l1] at h⟩
 | k + 1 => by
  obtain ⟨ih0, ih1⟩ := spec_l3Right.mono_l k
  refine ⟨?_, ?_⟩
  ·intro y0 y1 y2 y3 y4 y5
   unfold spec_l3Right.l0
   have m0_ := @spec_l3Data.mono
   exact mM
  ·intro y0 y1 y2 y3 y4 y5 y6
   unfold spec_l3Right.l1
   have m0_ := @spec_l3Data.mono
   exact mM
theorem spec_l3Right.mono : ∀ a0 a1 a2 k, LeO (spec_l3Right.f k a0 a1 a2) (spec_l3Right.f (k + 1) a0 a1 a2) := by
 intro a0 a1 a2 k
 obtain ⟨ih0, ih1⟩ := spec_l3Right.mono_l k
 unfold spec_l3Right.f
 have m0_ := @spec_l3Data.mono
 exact mM
def spec_l3Right.T10 : Bool × List (List Nat × List Nat) := (true, [([], []), ([0], [0]), ([], []), ([], []), ([3], [3]), ([4], [4]), ([2, 5], [2, 5]), ([], []), ([7, 6], [7]), ([6, 8], [6, 8]), ([9], [9]), ([1, 10, 8], [1, 10]), ([0, 1, 2, 3, 4, 5, 6, 7, 8, 9, 10, 11], []), ([12, 11, 11, 0, 1, 2, 3, 4, 5, 6, 7, 8, 9, 10, 11], [11, 12])])
def spec_l3Right.B10 : List Nat := [0, 1, 0, 0, 8, 24, 60, 0, 252, 508, 1020, 2047, 4095, 8191]
theorem spec_l3Right.tab10 : rtab .any (opsOf Try.f119 10) = spec_l3Right.T10 := by kernel_rfl
theorem spec_l3Right.bits10 : waitsOk spec_l3Right.T10.2 spec_l3Right.B10 = true := by kernel_rfl
set_option maxHeartbeats 8000000 in
set_option maxRecDepth 100000 in
theorem spec_l3Right.calls (k : Nat) (g : Nat) (s0_0 : List Int) (s0_1 : Int) (s0_2 : Int) (r1 : List ByteArray) (r2 : List (S65)) (r3 : Int) (r4 : Int) (w0 w : World) (hI : IsS123 w0 w g s0_0 s0_1 s0_2) (hB : Below w0.heap.size w0 w) (h : spec_l3Right.f k s0_0 s0_1 s0_2 = some (r1, r2, r3, r4)) :
  Calls Try.prog 119 #[.pointer (some ⟨g, 0, none⟩)] w fun e w' => ∃ v0_ v1_ : Value, e = .returned (.agg #[v0_, v1_]) ∧ Kd.R Kd.string 9 w' w.heap.size (fun _ => True) v0_ r1 ∧ Kd.R k65 65 w' w.heap.size (fun _ => True) v1_ r2 ∧ IsS123 w0 w' g s0_0 r3 r4 ∧ Below w0.heap.size w0 w' ∧ KeepBut w w' g none := by
 have hu30 := Try.underlying30
 have hu65 := Try.underlying65
 have HI0 := Aside0.mk hI
 have HK := Aside0.mk (KeepBut.refl w g none)
 have HL := Aside0.mk hB.size
 clear hI
 have HW0 := Aside0.mk hB.size
 have HB := Aside0.mk hB
 clear hB
 unfold spec_l3Right.f at h
 have H := h
 clear h
 obtain ⟨y197, hy197⟩ : ∃ y_ : List Int, y_ = (([1, 2, 5, 9] : List Int)) := ⟨_, rfl⟩
 replace H : ((spec_l1PickInt.f s0_0 s0_1 s0_2 y197).bind fun bt200 => ((spec_DiskNew.f bt200.1).bind fun bt203 => (spec_l3Right.l0 k 0 s0_0 bt200.2.1 bt200.2.2 bt203.1 bt203.2.1))) = some (r1, r2, r3, r4) := by first | (rw [hy197]; with_reducible exact H) | (have H2_ := (Option.bind_some _ _).symm.trans H; rw [hy197]; with_reducible exact H2_) | (have H2_ := (Option.bind_some _ _).symm.trans H; with_reducible exact H2_) | with_reducible exact H | (rw [hy197]; exact H) | exact H
 have Ny197 := Aside0.mk hy197
 clear hy197
 replace H := Option.bind_eq_some_iff.mp H
 obtain ⟨⟨t200, t201, t202⟩, A20, H⟩ := H
 try dsimp only at H
 have A2 := Aside0.mk A20
 clear A20
 replace H := Option.bind_eq_some_iff.mp H
 obtain ⟨⟨t203, t206, t209⟩, A30, H⟩ := H
 try dsimp only at H
 have A3 := Aside0.mk A30
 clear A30
 have H' := Aside0.mk H
 clear H
 go_enter Try.func119, Try.ntmps119
 go_wp2_with (first | ((with_reducible refine gate_dst (N := 2) rfl ?_); refine bE 2 #[.slice none 0 0, .slice none 0 0] 30 ?_; intro gb196 hg w4 hbox hb; have n_ := And.intro (Aside0.mk (IsS123.below (by repeat (first | (with_reducible first | exact HI0.out | apply IsS123.alloc | apply IsS123.drewN | apply IsS123.drew | apply IsS123.set_1 | apply IsS123.set_2) | exact HI0.out)) hb)) (And.intro (Aside0.mk (KeepBut.trans (by repeat (first | (with_reducible first | exact HK.out | apply KeepBut.set_ | apply keep_drewN | apply keep_drew | apply keep_alloc) | exact HK.out)) (KeepBut.of_below hb g none) (.inl rfl))) (And.intro (Aside0.mk (below_step (by repeat (first | (with_reducible first | exact HB.out | apply below_alloc | apply pw_below_drewN | apply below_drew1 | refine below_set ?_ (IsS123.ge HI0.out)) | exact HB.out)) hb)) (And.intro (Aside0.mk hbox) (And.intro (Aside0.mk ((by rw [hg]; exact (keep_size (w := w) (g := g) (row := none) (by repeat (first | (with_reducible first | exact HK.out | apply KeepBut.set_ | apply keep_drewN | apply keep_drew | apply keep_alloc) | exact HK.out))) : w.heap.size ≤ gb196))) (And.intro (Aside0.mk ((Nat.le_trans HW0.out (by rw [hg]; exact (keep_size (w := w) (g := g) (row := none) (by repeat (first | (with_reducible first | exact HK.out | apply KeepBut.set_ | apply keep_drewN | apply keep_drew | apply keep_alloc) | exact HK.out))) : w.heap.size ≤ gb196) : w0.heap.size ≤ gb196))) (And.intro (Aside0.mk ((by rw [hg]; exact Nat.ne_of_lt (IsS123.lt (show IsS123 w0 _ g s0_0 s0_1 s0_2 from by repeat (first | (with_reducible first | exact HI0.out | apply IsS123.alloc | apply IsS123.drewN | apply IsS123.drew | apply IsS123.set_1 | apply IsS123.set_2) | exact HI0.out))) : g ≠ gb196))) (Aside0.mk ((by rw [hg]; exact Nat.ne_of_gt (IsS123.lt (show IsS123 w0 _ g s0_0 s0_1 s0_2 from by repeat (first | (with_reducible first | exact HI0.out | apply IsS123.alloc | apply IsS123.drewN | apply IsS123.drew | apply IsS123.set_1 | apply IsS123.set_2) | exact HI0.out))) : gb196 ≠ g))))))))); clear HI0 HK HB; obtain ⟨HI0, HK, HB, BK196, GW196, GE196, NB0_196, NB196_0⟩ := n_; (try clear hb hbox hg)) | ((with_reducible refine gate_dst (N := 10) rfl ?_); refine Kd.R_lit (Kd.int .i64) _ 3 ?hg (N := 10) ?hd (xs := ([1, 2, 5, 9] : List Int)) (inner := [.int .i64 1, .int .i64 2, .int .i64 5, .int .i64 9]) (ok := fun _ => True) (okp := fun _ => True) ?hr ?hp (fun _ hk => hk) trivial (Below.refl _ _) (Nat.le_refl _) (by simp) ?_; (case hd => rfl); (case hg => rfl); (case hr => first | (go_simp; done) | (go_simp; rfl)); (case hp => exact (Reps.one (show Kd.M (Kd.int .i64) _ _ _ 1 [.int .i64 1] from rfl) (Reps.one (show Kd.M (Kd.int .i64) _ _ _ 2 [.int .i64 2] from rfl) (Reps.one (show Kd.M (Kd.int .i64) _ _ _ 5 [.int .i64 5] from rfl) (Reps.one (show Kd.M (Kd.int .i64) _ _ _ 9 [.int .i64 9] from rfl) (Reps.none _ _)))))); intro v198 w5 ho6 hb hg_ hnew_; clear hg_ hnew_; (first | rw [← Ny197.out] at ho6 | (simp only [Int.reduceToNat] at ho6; rw [← Ny197.out] at ho6)); have n_ := And.intro (Aside0.mk (Kd.R_lower ho6 (keep_size (w := w) (g := g) (row := none) (by repeat (first | (with_reducible first | exact HK.out | apply KeepBut.set_ | apply keep_drewN | apply keep_drew | apply keep_alloc | refine keep_far ?_ GW196.out _) | exact HK.out))))) (And.intro (Aside0.mk (IsS123.below (by repeat (first | (with_reducible first | exact HI0.out | apply IsS123.alloc | apply IsS123.drewN | apply IsS123.drew | apply IsS123.set_1 | apply IsS123.set_2 | refine IsS123.far ?_ NB0_196.out _) | exact HI0.out)) hb)) (And.intro (kB BK196 hb) (And.intro (Aside0.mk (KeepBut.trans (by repeat (first | (with_reducible first | exact HK.out | apply KeepBut.set_ | apply keep_drewN | apply keep_drew | apply keep_alloc | refine keep_far ?_ GW196.out _) | exact HK.out)) (KeepBut.of_below hb g none) (.inl rfl))) (Aside0.mk (below_step (by repeat (first | (with_reducible first | exact HB.out | apply below_alloc | apply pw_below_drewN | apply below_drew1 | refine below_set ?_ (IsS123.ge HI0.out) | refine below_set ?_ GE196.out) | exact HB.out)) hb))))); clear HI0 BK196 HK HB; obtain ⟨HO199, HI0, BK196, HK, HB⟩ := n_; (try clear hb ho6); obtain ⟨Ao7, co7, eo7⟩ := Kd.R_slice HO199.out; subst eo7) | ((with_reducible refine gate_callee (f := 98) rfl ?_); refine gL (some 11) Try.func98 #[.pointer (some ⟨g, 0, none⟩), .slice Ao7 y197.length co7] ?_; (with_reducible refine (spec_l1PickInt.calls g s0_0 s0_1 s0_2 _ _ y197 t200 t201 t202 w0 _ ?side1 ?side2 ?side3 ?side4 ?side5 A2.out).mono ?_); (case side1 => repeat (first | (with_reducible first | exact HI0.out | apply IsS123.alloc | apply IsS123.drewN | apply IsS123.drew | apply IsS123.set_1 | apply IsS123.set_2 | refine IsS123.far ?_ NB0_196.out _) | exact HI0.out)); (case side2 => repeat (first | (with_reducible first | exact HB.out | apply below_alloc | apply pw_below_drewN | apply below_drew1 | refine below_set ?_ (IsS123.ge HI0.out) | refine below_set ?_ GE196.out) | exact HB.out)); (case side3 => exact cR HO199); (case side4 => exact (Kd.R_reads' HO199.out).2.1); (case side5 => exact far_slice (IsS123.own_ne HI0.out HO199.out (by decide))); rintro e w8 ⟨rfl, hi, hb, hk⟩; refine ⟨_, rfl, ?_⟩; have n_ := And.intro (Aside0.mk (KeepBut.blk hk (g' := gb196) (o := .cells #[.slice none 0 0, .slice none 0 0] 30 (0, 0)) (kP BK196) NB196_0.out (by simp))) (And.intro (Aside0.mk (Kd.R_mono (Kd.R_keep (IsS123.apart (show IsS123 w0 _ g s0_0 s0_1 s0_2 from by repeat (first | (with_reducible first | exact HI0.out | apply IsS123.alloc | apply IsS123.drewN | apply IsS123.drew | apply IsS123.set_1 | apply IsS123.set_2 | refine IsS123.far ?_ NB0_196.out _) | exact HI0.out)) (rP HO199.out) (by decide)) hk (fun _ h => h.2)) (fun _ h => h.1))) (And.intro (Aside0.mk (KeepBut.trans (by repeat (first | (with_reducible first | exact HK.out | apply KeepBut.set_ | apply keep_drewN | apply keep_drew | apply keep_alloc | refine keep_far ?_ GW196.out _) | exact HK.out)) hk (.inl rfl))) (And.intro (Aside0.mk (hb)) (Aside0.mk (hi))))); clear BK196 HO199 HK HB HI0; obtain ⟨BK196, HO199, HK, HB, HI0⟩ := n_; (try clear hb hk hi)) | ((with_reducible refine gate_callee (f := 124) rfl ?_); refine gL (some 12) Try.func124 #[.int .i64 t200] ?_; (with_reducible refine (spec_DiskNew.calls t200 t203 t206 t209 _ A3.out).mono ?_); rintro e w9 ⟨v204, v207, rfl, ho0, ho1, hb⟩; refine ⟨_, rfl, ?_⟩; have n_ := And.intro (rB HO199 hb) (And.intro (Aside0.mk (Kd.R_lower ho0 (keep_size (w := w) (g := g) (row := none) (by repeat (first | (with_reducible first | exact HK.out | apply KeepBut.set_ | apply keep_drewN | apply keep_drew | apply keep_alloc | refine keep_far ?_ GW196.out _) | exact HK.out))))) (And.intro (Aside0.mk (Kd.R_lower ho1 (keep_size (w := w) (g := g) (row := none) (by repeat (first | (with_reducible first | exact HK.out | apply KeepBut.set_ | apply keep_drewN | apply keep_drew | apply keep_alloc | refine keep_far ?_ GW196.out _) | exact HK.out))))) (And.intro (Aside0.mk (IsS123.below (by repeat (first | (with_reducible first | exact HI0.out | apply IsS123.alloc | apply IsS123.drewN | apply IsS123.drew | apply IsS123.set_1 | apply IsS123.set_2 | refine IsS123.far ?_ NB0_196.out _) | exact HI0.out)) hb)) (And.intro (kB BK196 hb) (And.intro (Aside0.mk (KeepBut.trans (by repeat (first | (with_reducible first | exact HK.out | apply KeepBut.set_ | apply keep_drewN | apply keep_drew | apply keep_alloc | refine keep_far ?_ GW196.out _) | exact HK.out)) (KeepBut.of_below hb g none) (.inl rfl))) (Aside0.mk (below_step (by repeat (first | (with_reducible first | exact HB.out | apply below_alloc | apply pw_below_drewN | apply below_drew1 | refine below_set ?_ (IsS123.ge HI0.out) | refine below_set ?_ GE196.out) | exact HB.out)) hb))))))); clear HO199 HI0 BK196 HK HB; obtain ⟨HO199, HO205, HO208, HI0, BK196, HK, HB⟩ := n_; (try clear hb ho0 ho1)) | ((with_reducible refine gate_dst (N := 3) rfl ?_); refine bE 3 #[.slice none 0 0, .slice none 0 0] 30 ?_; intro gb210 hg w10 hbox hb; have n_ := And.intro (rB HO199 hb) (And.intro (rB HO205 hb) (And.intro (rB HO208 hb) (And.intro (Aside0.mk (IsS123.below (by repeat (first | (with_reducible first | exact HI0.out | apply IsS123.alloc | apply IsS123.drewN | apply IsS123.drew | apply IsS123.set_1 | apply IsS123.set_2 | refine IsS123.far ?_ NB0_196.out _) | exact HI0.out)) hb)) (And.intro (kB BK196 hb) (And.intro (Aside0.mk (KeepBut.trans (by repeat (first | (with_reducible first | exact HK.out | apply KeepBut.set_ | apply keep_drewN | apply keep_drew | apply keep_alloc | refine keep_far ?_ GW196.out _) | exact HK.out)) (KeepBut.of_below hb g none) (.inl rfl))) (And.intro (Aside0.mk (below_step (by repeat (first | (with_reducible first | exact HB.out | apply below_alloc | apply pw_below_drewN | apply below_drew1 | refine below_set ?_ (IsS123.ge HI0.out) | refine below_set ?_ GE196.out) | exact HB.out)) hb)) (And.intro (Aside0.mk hbox) (And.intro (Aside0.mk ((by rw [hg]; exact (keep_size (w := w) (g := g) (row := none) (by repeat (first | (with_reducible first | exact HK.out | apply KeepBut.set_ | apply keep_drewN | apply keep_drew | apply keep_alloc | refine keep_far ?_ GW196.out _) | exact HK.out))) : w.heap.size ≤ gb210))) (And.intro (Aside0.mk ((Nat.le_trans HW0.out (by rw [hg]; exact (keep_size (w := w) (g := g) (row := none) (by repeat (first | (with_reducible first | exact HK.out | apply KeepBut.set_ | apply keep_drewN | apply keep_drew | apply keep_alloc | refine keep_far ?_ GW196.out _) | exact HK.out))) : w.heap.size ≤ gb210) : w0.heap.size ≤ gb210))) (And.intro (nL BK196 hg) (And.intro (nG BK196 hg) (And.intro (Aside0.mk ((by rw [hg]; exact Nat.ne_of_lt (IsS123.lt (show IsS123 w0 _ g s0_0 t201 t202 from by repeat (first | (with_reducible first | exact HI0.out | apply IsS123.alloc | apply IsS123.drewN | apply IsS123.drew | apply IsS123.set_1 | apply IsS123.set_2 | refine IsS123.far ?_ NB0_196.out _) | exact HI0.out))) : g ≠ gb210))) (Aside0.mk ((by rw [hg]; exact Nat.ne_of_gt (IsS123.lt (show IsS123 w0 _ g s0_0 t201 t202 from by repeat (first | (with_reducible first | exact HI0.out | apply IsS123.alloc | apply IsS123.drewN | apply IsS123.drew | apply IsS123.set_1 | apply IsS123.set_2 | refine IsS123.far ?_ NB0_196.out _) | exact HI0.out))) : gb210 ≠ g))))))))))))))); clear HO199 HO205 HO208 HI0 BK196 HK HB; obtain ⟨HO199, HO205, HO208, HI0, BK196, HK, HB, BK210, GW210, GE210, NB196_210, NB210_196, NB0_210, NB210_0⟩ := n_; (try clear hb hbox hg); obtain ⟨Ao11, co11, eo11⟩ := Kd.R_slice HO205.out; subst eo11; have hnb12 := NB210_196.out; have hnc12 := NB196_210.out; have hnb13 := NB210_0.out; have hnc13 := NB0_210.out; have hcz14_0 := cZ0 BK210; have hcz14_1 := cZ1 BK210; have hfz14_0 := blk_frozen BK210.out 0; have hfz14_1 := blk_frozen BK210.out 1; obtain ⟨Ao15, co15, eo15⟩ := Kd.R_slice HO208.out; subst eo15))
 go_loopg [5] k (fun kq v5 w' => ∃ (x5_1 : Int) (x1001_1 : Int) (x1002_1 : Int) (x211000_1 : List ByteArray) (u211000 : Value), v5 = .int .i64 x5_1 ∧ Aside0 (spec_l3Right.l0 kq x5_1 s0_0 x1001_1 x1002_1 x211000_1 t206 = some (r1, r2, r3, r4)) ∧ Aside0 (kq ≤ k) ∧ Aside0 (Kd.R Kd.string 9 w' w.heap.size (fun _ => True) u211000 x211000_1) ∧ Aside0 (Kd.R k65 65 w' w.heap.size (fun _ => True) (.slice Ao15 t206.length co15) t206) ∧ Aside0 (w'.heap[gb196]? = some (.cells #[(.slice none 0 0), (.slice none 0 0)] 30 (0, 0))) ∧ Aside0 (w'.heap[gb210]? = some (.cells #[u211000, (.slice Ao15 t206.length co15)] 30 (0, 0))) ∧ Aside0 (IsS123 w0 w' g s0_0 x1001_1 x1002_1) ∧ Aside0 (KeepBut w w' g none) ∧ Aside0 (Below w0.heap.size w0 w'))
 case atStart => exact ⟨(0), (t201), (t202), (t203), (.slice Ao11 t203.length co11), (by first | rfl | (simp; done) | (simp [*]; done) | (simp; exact (by intro l_; cases l_ <;> rfl : ∀ l_ : List UInt8, l_.isEmpty = !(l_ != [])) _)), H', ⟨Nat.le_refl _⟩, ⟨rP (Kd.R_mono (Kd.R_far (p := ⟨gb210, 1, none⟩) (Kd.R_far (p := ⟨gb210, 0, none⟩) (Kd.R_types HO205.out BK210.out (by decide)) (fun _ hk => hk.2) (.slice Ao11 t203.length co11)) (fun _ hk => hk.2) (.slice Ao15 t206.length co15)) (fun _ hk => trivial))⟩, ⟨rP (Kd.R_mono (Kd.R_far (p := ⟨gb210, 1, none⟩) (Kd.R_far (p := ⟨gb210, 0, none⟩) (Kd.R_types HO208.out BK210.out (by decide)) (fun _ hk => hk.2) (.slice Ao11 t203.length co11)) (fun _ hk => hk.2) (.slice Ao15 t206.length co15)) (fun _ hk => trivial))⟩, ⟨kP BK196⟩, ⟨by (with_reducible repeat (first | refine blk_drewN ?_ _ | refine blk_drew ?_ | refine blk_alloc ?_ _)); refine blk_put (cs := #[.slice Ao11 t203.length co11, .slice none 0 0]) ?_ 1 _ rfl; (with_reducible repeat (first | refine blk_drewN ?_ _ | refine blk_drew ?_ | refine blk_alloc ?_ _)); refine blk_put (cs := #[.slice none 0 0, .slice none 0 0]) ?_ 0 _ rfl; (with_reducible repeat (first | refine blk_drewN ?_ _ | refine blk_drew ?_ | refine blk_alloc ?_ _)); exact BK210.out⟩, ⟨by repeat (first | (with_reducible first | exact HI0.out | apply IsS123.alloc | apply IsS123.drewN | apply IsS123.drew | apply IsS123.set_1 | apply IsS123.set_2 | refine IsS123.far ?_ NB0_196.out _ | refine IsS123.far ?_ NB0_210.out _) | exact HI0.out)⟩, ⟨by repeat (first | (with_reducible first | exact HK.out | apply KeepBut.set_ | apply keep_drewN | apply keep_drew | apply keep_alloc | refine keep_far ?_ GW196.out _ | refine keep_far ?_ GW210.out _) | exact HK.out)⟩, ⟨by repeat (first | (with_reducible first | exact HB.out | apply below_alloc | apply pw_below_drewN | apply below_drew1 | refine below_set ?_ (IsS123.ge HI0.out) | refine below_set ?_ GE196.out | refine below_set ?_ GE210.out) | exact HB.out)⟩⟩
 case round =>
  clear H'
  try clear c1
  try clear p2
  try clear c9
  try clear c11
  try clear c12
  try clear c13
  try clear hcz14_0
  try clear hcz14_1
  try clear hfz14_0
  try clear hfz14_1
  obtain ⟨x5_1, x1001_1, x1002_1, x211000_1, u211000, rfl, HA, HK1, HO_211000, HO_211001, BK196, BK210, HI0, HK, HB⟩ := hrel
  cases gk with
  | zero => exact absurd HA.out (by simp [spec_l3Right.l0])
  | succ k1 =>
   have H := HA.out
   clear HA
   simp only [spec_l3Right.l0] at H
   by_cases c16 : x5_1 < (x211000_1.length : Int)
   ·rw [if_pos c16] at H
    have c16b0 : decide (x5_1 < (x211000_1.length : Int)) = true := decide_eq_true c16
    clear c16
    replace H := Option.bind_eq_some_iff.mp H
    obtain ⟨⟨t211, t212, t213⟩, A170, H⟩ := H
    try dsimp only at H
    have A17 := Aside0.mk A170
    clear A170
    by_cases c18 : 0 ≤ x5_1
    ·rw [if_pos c18] at H
     have c18b0 : decide (0 ≤ x5_1) = true := decide_eq_true c18
     clear c18
     obtain ⟨y214, hy214⟩ : ∃ y_ : List ByteArray, y_ = (x211000_1.set (x5_1 : Int).toNat t211) := ⟨_, rfl⟩
     replace H : (spec_l3Right.l0 k1 (wrap64 (x5_1 + 1)) s0_0 t212 t213 y214 t206) = some (r1, r2, r3, r4) := by first | (rw [hy214]; with_reducible exact H) | (have H2_ := (Option.bind_some _ _).symm.trans H; rw [hy214]; with_reducible exact H2_) | (have H2_ := (Option.bind_some _ _).symm.trans H; with_reducible exact H2_) | with_reducible exact H | (rw [hy214]; exact H) | exact H
     have Ny214 := Aside0.mk hy214
     clear hy214
     have H' := Aside0.mk H
     clear H
     have hnb20 := NB210_196.out
     have hnc20 := NB196_210.out
     have hnb21 := NB210_0.out
     have hnc21 := NB0_210.out
     have hcz22_0 := cZ0 BK210
     have hcz22_1 := cZ1 BK210
     have hfz22_0 := blk_frozen BK210.out 0
     have hfz22_1 := blk_frozen BK210.out 1
     obtain ⟨Ao23, co23, eo23⟩ := Kd.R_slice HO_211000.out
     subst eo23
     try go_wp2
     have n0_ := Aside0.mk (Kd.R_drew HO_211000.out)
     have n1_ := Aside0.mk (Kd.R_drew HO_211001.out)
     have n2_ := Aside0.mk (blk_drew BK196.out)
     have n3_ := Aside0.mk (blk_drew BK210.out)
     have n4_ := Aside0.mk (IsS123.drew HI0.out)
     have n5_ := Aside0.mk (keep_drew HK.out)
     have n6_ := Aside0.mk (below_drew1 HB.out)
     clear HO_211000
     clear HO_211001
     clear BK196
     clear BK210
     clear HI0
     clear HK
     clear HB
     have HO_211000 := n0_
     have HO_211001 := n1_
     have BK196 := n2_
     have BK210 := n3_
     have HI0 := n4_
     have HK := n5_
     have HB := n6_
     clear n0_ n1_ n2_ n3_ n4_ n5_ n6_
     refine start_ (n := 7) (S := fun w' => w'.cell? ⟨gb210, 0, none⟩ = some (.slice Ao23 x211000_1.length co23) ∧ w'.cell? ⟨gb210, 1, none⟩ = some (.slice Ao15 t206.length co15)) (ds := [6]) #[false, false, false, false, false, false, false] (by kernel_rfl) rfl rfl ⟨(blk_cell BK210.out 0).trans rfl, (blk_cell BK210.out 1).trans rfl⟩ (fun hHeld => ?_)
     generalize wr.drew = w24 at HO_211000 HO_211001 BK196 BK210 HI0 HK HB hHeld ⊢
     refine pure_ (i := 0) (N := some 22) (v := ?_) (a' := ?_) #[true, false, false, false, false, false, false] rfl rfl (by kernel_rfl) (fun _ _ _ h => h) (Or.inl ⟨by rfl, ?_⟩) ?_ ?_
     rotate_left
     ·intro w'
      go_simp
      with_reducible rfl
     rotate_left
     ·simp only [Act.put, List.setIfInBounds_toArray, List.set_cons_zero, List.set_cons_succ, i64_w, i32_w]
      rfl
     refine pure_ (i := 2) (N := some 24) (v := ?_) (a' := ?_) #[true, false, true, false, false, false, false] rfl rfl (by kernel_rfl) (fun _ _ _ h => h) (Or.inl ⟨by rfl, ?_⟩) ?_ ?_
     rotate_left
     ·intro w'
      go_simp
      with_reducible rfl
     rotate_left
     ·simp only [Act.put, List.setIfInBounds_toArray, List.set_cons_zero, List.set_cons_succ, i64_w, i32_w]
      rfl
     refine pure_ (i := 3) (N := some 25) (v := ?_) (a' := ?_) #[true, false, true, true, false, false, false] rfl rfl (by kernel_rfl) (fun _ _ _ h => h) (Or.inl ⟨by rfl, ?_⟩) ?_ ?_
     rotate_left
     ·intro w'
      go_simp
      with_reducible rfl
     rotate_left
     ·simp only [Act.put, List.setIfInBounds_toArray, List.set_cons_zero, List.set_cons_succ, i64_w, i32_w]
      rfl
     refine take_ (i := 1) (N := some 23) (v := ?_) (a' := ?_) #[true, true, true, true, false, false, false] rfl rfl (by kernel_rfl) (fun _ _ _ h => h) (Or.inl ⟨by rfl, ?_⟩) hHeld ?_ ?_
     rotate_left
     ·rintro w' ⟨s0, s1⟩
      go_simp
      with_reducible rfl
     rotate_left
     ·simp only [Act.put, List.setIfInBounds_toArray, List.set_cons_zero, List.set_cons_succ, i64_w, i32_w]
      rfl
     refine one_ (i := 4) (N := some 26) #[true, true, true, true, true, false, false] rfl rfl (by kernel_rfl) (by decide) (fun K hK => ?_)
     refine goes_ Try.func96 (by kernel_rfl) rfl #[.pointer (some ⟨g, 0, none⟩)] (by rfl) rfl rfl (by (try simp only [List.map_toArray, List.map_cons, List.map_nil]); first | done | rfl | (simp only [List.length_drop, List.length_take]; rfl)) ?_
     with_reducible refine (spec_l3Data.calls k1 g s0_0 x1001_1 x1002_1 t211 t212 t213 w0 _ ?side1 ?side2 A17.out).mono ?_
     (case side1 => repeat (first | (with_reducible first | exact HI0.out | apply IsS123.alloc | apply IsS123.drewN | apply IsS123.drew | apply IsS123.set_1 | apply IsS123.set_2 | refine IsS123.far ?_ NB0_196.out _ | refine IsS123.far ?_ NB0_210.out _) | exact HI0.out))
     (case side2 => repeat (first | (with_reducible first | exact HB.out | apply below_alloc | apply pw_below_drewN | apply below_drew1 | refine below_set ?_ (IsS123.ge HI0.out) | refine below_set ?_ GE196.out | refine below_set ?_ GE210.out) | exact HB.out))
     rintro e w25 ⟨rfl, hi, hb, hk⟩
     refine ⟨_, rfl, ?_⟩
     have n0_ := Aside0.mk (Kd.R_mono (Kd.R_keep (IsS123.apart (show IsS123 w0 _ g s0_0 x1001_1 x1002_1 from by repeat (first | (with_reducible first | exact HI0.out | apply IsS123.alloc | apply IsS123.drewN | apply IsS123.drew | apply IsS123.set_1 | apply IsS123.set_2 | refine IsS123.far ?_ NB0_196.out _ | refine IsS123.far ?_ NB0_210.out _) | exact HI0.out)) (rP HO_211000.out) (by decide)) hk (fun _ h => h.2)) (fun _ h => h.1))
     have n1_ := Aside0.mk (Kd.R_mono (Kd.R_keep (IsS123.apart (show IsS123 w0 _ g s0_0 x1001_1 x1002_1 from by repeat (first | (with_reducible first | exact HI0.out | apply IsS123.alloc | apply IsS123.drewN | apply IsS123.drew | apply IsS123.set_1 | apply IsS123.set_2 | refine IsS123.far ?_ NB0_196.out _ | refine IsS123.far ?_ NB0_210.out _) | exact HI0.out)) (rP HO_211001.out) (by decide)) hk (fun _ h => h.2)) (fun _ h => h.1))
     have n2_ := Aside0.mk (KeepBut.blk hk (g' := gb196) (o := .cells #[.slice none 0 0, .slice none 0 0] 30 (0, 0)) (kP BK196) NB196_0.out (by simp))
     have n3_ := Aside0.mk (KeepBut.blk hk (g' := gb210) (o := .cells #[.slice Ao23 x211000_1.length co23, .slice Ao15 t206.length co15] 30 (0, 0)) (kP BK210) NB210_0.out (by simp))
     have n4_ := Aside0.mk (KeepBut.trans (by repeat (first | (with_reducible first | exact HK.out | apply KeepBut.set_ | apply keep_drewN | apply keep_drew | apply keep_alloc | refine keep_far ?_ GW196.out _ | refine keep_far ?_ GW210.out _) | exact HK.out)) hk (.inl rfl))
     have n5_ := Aside0.mk (hb)
     have n6_ := Aside0.mk (hi)
     clear HO_211000
     clear HO_211001
     clear BK196
     clear BK210
     clear HK
     clear HB
     clear HI0
     have HO_211000 := n0_
     have HO_211001 := n1_
     have BK196 := n2_
     have BK210 := n3_
     have HK := n4_
     have HB := n5_
     have HI0 := n6_
     clear n0_ n1_ n2_ n3_ n4_ n5_ n6_
     (try clear hb)
     (try clear hb2)
     (try clear hk)
     (try clear hi)
     have p19 : 0 ≤ (x5_1 : Int) := dT
     have q19 : (x5_1 : Int) < ((x211000_1.length : Int) : Int) := dT
     obtain ⟨go19, co19, eo19, gb19, gl19, cl19, HG19⟩ := Kd.R_form HO_211000.out (by omega)
     (first | cases eo19 | (injection eo19 with ea_ en_ ec_; (first | subst ea_ | (injection ea_ with ea_; subst ea_)); subst ec_; clear en_))
     have GB19 := Aside0.mk gb19
     have GG19 := Aside0.mk HG19
     clear gb19 gl19 HG19
     obtain ⟨hx19_0, hf19_0⟩ := Kd.R_celln (⟨#[]⟩ : ByteArray) HO_211000.out (x5_1 : Int) p19 q19
     replace p19 := eq_true p19
     replace q19 := eq_true q19
     have HN0_go19 := Aside0.mk (show g ≠ go19 from by have h_ := IsS123.own_ne HI0.out HO_211000.out (by decide); intro e_; exact h_ (by rw [e_]; rfl))
     have HP26 := Kd.R_putn HO_211000.out (x5_1 : Int) t211
     rw [← Ny214.out] at HP26
     have HQ26 := Aside0.mk HP26
     clear HP26
     refine hK.out _ _ ⟨(blk_cell BK210.out 0).trans rfl, (blk_cell BK210.out 1).trans rfl⟩ (fun hHeld => ?_)
     clear hK K
     refine norm_ (a' := ?_) ?_ ?_
     rotate_left
     ·show Act.put _ (some 26) _ = _
      simp only [Act.put, List.setIfInBounds_toArray, List.set_cons_zero, List.set_cons_succ, i64_w, i32_w]
      rfl
     refine pure_ (i := 5) (N := some 27) (v := ?_) (a' := ?_) #[true, true, true, true, true, true, false] rfl rfl (by kernel_rfl) (fun _ _ _ h => h) (Or.inl ⟨by rfl, ?_⟩) ?_ ?_
     rotate_left
     ·intro w'
      go_simp
      with_reducible rfl
     rotate_left
     ·simp only [Act.put, List.setIfInBounds_toArray, List.set_cons_zero, List.set_cons_succ, i64_w, i32_w]
      rfl
     refine last_ (i := 6) (N := none) #[true, true, true, true, true, true, true] rfl rfl (by kernel_rfl) (by decide) (fun K hK => ?_)
     refine skip_ (w1 := ?_) (by rfl) rfl ?_ ?_
     rotate_left
     ·go_simp
      rfl
     refine hK.out _ _ ?_
     clear hK K
     refine done_ (by kernel_rfl) ?_
     try go_wp2
     go_roundg k1
     case measure => have := HK1.out; omega
     case rel => exact ⟨(wrap64 (x5_1 + 1)), (t212), (t213), (y214), (.slice (some ⟨go19, 0, none⟩) x211000_1.length co23), (by first | rfl | (simp; done) | (simp [*]; done) | (simp; exact (by intro l_; cases l_ <;> rfl : ∀ l_ : List UInt8, l_.isEmpty = !(l_ != [])) _)), H', ⟨by have := HK1.out; omega⟩, ⟨rP HQ26.out⟩, ⟨rP (Kd.R_mono (Kd.R_far (p := ⟨go19, (x5_1 : Int).toNat, none⟩) (Kd.R_types HO_211001.out GG19.out (by decide)) (fun _ hk => hk.2) (.string t211)) (fun _ hk => trivial))⟩, ⟨by (with_reducible repeat (first | refine blk_drewN ?_ _ | refine blk_drew ?_ | refine blk_alloc ?_ _)); refine blk_far ?_ (by have h_ := Kd.R_ne HO_211000.out BK196.out (by decide); intro e_; exact h_ (by rw [e_]; rfl)) _; (with_reducible repeat (first | refine blk_drewN ?_ _ | refine blk_drew ?_ | refine blk_alloc ?_ _)); exact BK196.out⟩, ⟨by (with_reducible repeat (first | refine blk_drewN ?_ _ | refine blk_drew ?_ | refine blk_alloc ?_ _)); refine blk_far ?_ (by have h_ := Kd.R_ne HO_211000.out BK210.out (by decide); intro e_; exact h_ (by rw [e_]; rfl)) _; (with_reducible repeat (first | refine blk_drewN ?_ _ | refine blk_drew ?_ | refine blk_alloc ?_ _)); exact BK210.out⟩, ⟨by repeat (first | (with_reducible first | exact HI0.out | apply IsS123.alloc | apply IsS123.drewN | apply IsS123.drew | apply IsS123.set_1 | apply IsS123.set_2 | refine IsS123.far ?_ HN0_go19.out _ | refine IsS123.far ?_ NB0_196.out _ | refine IsS123.far ?_ NB0_210.out _) | exact HI0.out)⟩, ⟨by repeat (first | (with_reducible first | exact HK.out | apply KeepBut.set_ | apply keep_drewN | apply keep_drew | apply keep_alloc | refine keep_far ?_ GB19.out _ | refine keep_far ?_ GW196.out _ | refine keep_far ?_ GW210.out _) | exact HK.out)⟩, ⟨by repeat (first | (with_reducible first | exact HB.out | apply below_alloc | apply pw_below_drewN | apply below_drew1 | refine below_set ?_ (Nat.le_trans HL.out GB19.out) | refine below_set ?_ (IsS123.ge HI0.out) | refine below_set ?_ GE196.out | refine below_set ?_ GE210.out) | exact HB.out)⟩⟩
    ·rw [if_neg c18] at H
     exact absurd H (by simp)
   ·rw [if_neg c16] at H
    have c16b0 : decide (x5_1 < (x211000_1.length : Int)) = false := decide_eq_false c16
    clear c16
    replace H := Option.bind_eq_some_iff.mp H
    obtain ⟨⟨t215, t216, t217⟩, A270, H⟩ := H
    try dsimp only at H
    have A27 := Aside0.mk A270
    clear A270
    have H' := Aside0.mk H
    clear H
    have hnb28 := NB210_196.out
    have hnc28 := NB196_210.out
    have hnb29 := NB210_0.out
    have hnc29 := NB0_210.out
    have hcz30_0 := cZ0 BK210
    have hcz30_1 := cZ1 BK210
    have hfz30_0 := blk_frozen BK210.out 0
    have hfz30_1 := blk_frozen BK210.out 1
    obtain ⟨Ao31, co31, eo31⟩ := Kd.R_slice HO_211000.out
    subst eo31
    go_wp2_with (first | ((with_reducible refine gate_callee (f := 95) rfl ?_); refine gL (some 29) Try.func95 #[.pointer (some ⟨g, 0, none⟩), .int .i64 6] ?_; (with_reducible refine (spec_l1Below.calls g s0_0 x1001_1 x1002_1 6 t215 t216 t217 w0 _ ?side1 ?side2 A27.out).mono ?_); (case side1 => repeat (first | (with_reducible first | exact HI0.out | apply IsS123.alloc | apply IsS123.drewN | apply IsS123.drew | apply IsS123.set_1 | apply IsS123.set_2 | refine IsS123.far ?_ NB0_196.out _ | refine IsS123.far ?_ NB0_210.out _) | exact HI0.out)); (case side2 => repeat (first | (with_reducible first | exact HB.out | apply below_alloc | apply pw_below_drewN | apply below_drew1 | refine below_set ?_ (IsS123.ge HI0.out) | refine below_set ?_ GE196.out | refine below_set ?_ GE210.out) | exact HB.out)); rintro e w32 ⟨rfl, hi, hb, hk⟩; refine ⟨_, rfl, ?_⟩; have n_ := And.intro (Aside0.mk (Kd.R_mono (Kd.R_keep (IsS123.apart (show IsS123 w0 _ g s0_0 x1001_1 x1002_1 from by repeat (first | (with_reducible first | exact HI0.out | apply IsS123.alloc | apply IsS123.drewN | apply IsS123.drew | apply IsS123.set_1 | apply IsS123.set_2 | refine IsS123.far ?_ NB0_196.out _ | refine IsS123.far ?_ NB0_210.out _) | exact HI0.out)) (rP HO_211000.out) (by decide)) hk (fun _ h => h.2)) (fun _ h => h.1))) (And.intro (Aside0.mk (Kd.R_mono (Kd.R_keep (IsS123.apart (show IsS123 w0 _ g s0_0 x1001_1 x1002_1 from by repeat (first | (with_reducible first | exact HI0.out | apply IsS123.alloc | apply IsS123.drewN | apply IsS123.drew | apply IsS123.set_1 | apply IsS123.set_2 | refine IsS123.far ?_ NB0_196.out _ | refine IsS123.far ?_ NB0_210.out _) | exact HI0.out)) (rP HO_211001.out) (by decide)) hk (fun _ h => h.2)) (fun _ h => h.1))) (And.intro (Aside0.mk (KeepBut.blk hk (g' := gb196) (o := .cells #[.slice none 0 0, .slice none 0 0] 30 (0, 0)) (kP BK196) NB196_0.out (by simp))) (And.intro (Aside0.mk (KeepBut.blk hk (g' := gb210) (o := .cells #[.slice Ao31 x211000_1.length co31, .slice Ao15 t206.length co15] 30 (0, 0)) (kP BK210) NB210_0.out (by simp))) (And.intro (Aside0.mk (KeepBut.trans (by repeat (first | (with_reducible first | exact HK.out | apply KeepBut.set_ | apply keep_drewN | apply keep_drew | apply keep_alloc | refine keep_far ?_ GW196.out _ | refine keep_far ?_ GW210.out _) | exact HK.out)) hk (.inl rfl))) (And.intro (Aside0.mk (hb)) (Aside0.mk (hi))))))); clear HO_211000 HO_211001 BK196 BK210 HK HB HI0; obtain ⟨HO_211000, HO_211001, BK196, BK210, HK, HB, HI0⟩ := n_; (try clear hb hk hi)))
    go_loopg [7] k1 (fun kq v7 w' => ∃ (x7_2 : Int) (x1001_2 : Int) (x1002_2 : Int) (x211001_2 : List (S65)) (u211001 : Value), v7 = .int .i64 x7_2 ∧ Aside0 (spec_l3Right.l1 kq t215 x7_2 s0_0 x1001_2 x1002_2 x211000_1 x211001_2 = some (r1, r2, r3, r4)) ∧ Aside0 (kq ≤ k1) ∧ Aside0 (Kd.R Kd.string 9 w' w.heap.size (fun _ => True) (.slice Ao31 x211000_1.length co31) x211000_1) ∧ Aside0 (Kd.R k65 65 w' w.heap.size (fun _ => True) u211001 x211001_2) ∧ Aside0 (w'.heap[gb196]? = some (.cells #[(.slice none 0 0), (.slice none 0 0)] 30 (0, 0))) ∧ Aside0 (w'.heap[gb210]? = some (.cells #[(.slice Ao31 x211000_1.length co31), u211001] 30 (0, 0))) ∧ Aside0 (IsS123 w0 w' g s0_0 x1001_2 x1002_2) ∧ Aside0 (KeepBut w w' g none) ∧ Aside0 (Below w0.heap.size w0 w'))
    case atStart => exact ⟨(0), (t216), (t217), (t206), (.slice Ao15 t206.length co15), (by first | rfl | (simp; done) | (simp [*]; done) | (simp; exact (by intro l_; cases l_ <;> rfl : ∀ l_ : List UInt8, l_.isEmpty = !(l_ != [])) _)), H', ⟨Nat.le_refl _⟩, ⟨rP HO_211000.out⟩, ⟨rP HO_211001.out⟩, ⟨kP BK196⟩, ⟨kP BK210⟩, ⟨by repeat (first | (with_reducible first | exact HI0.out | apply IsS123.alloc | apply IsS123.drewN | apply IsS123.drew | apply IsS123.set_1 | apply IsS123.set_2 | refine IsS123.far ?_ NB0_196.out _ | refine IsS123.far ?_ NB0_210.out _) | exact HI0.out)⟩, ⟨by repeat (first | (with_reducible first | exact HK.out | apply KeepBut.set_ | apply keep_drewN | apply keep_drew | apply keep_alloc | refine keep_far ?_ GW196.out _ | refine keep_far ?_ GW210.out _) | exact HK.out)⟩, ⟨by repeat (first | (with_reducible first | exact HB.out | apply below_alloc | apply pw_below_drewN | apply below_drew1 | refine below_set ?_ (IsS123.ge HI0.out) | refine below_set ?_ GE196.out | refine below_set ?_ GE210.out) | exact HB.out)⟩⟩
    case round =>
     clear H'
     try clear c1
     try clear p1
     try clear q1
     try clear hx1
     try clear hf1
     try clear c2
     try clear p2
     try clear p6
     try clear c9
     try clear c11
     try clear c12
     try clear c13
     try clear c16
     try clear c16b0
     try clear c18
     try clear c18b0
     try clear p19
     try clear q19
     try clear hx19
     try clear hf19
     try clear c20
     try clear c21
     try clear c28
     try clear c29
     try clear hcz14_0
     try clear hcz14_1
     try clear hcz22_0
     try clear hcz22_1
     try clear hcz30_0
     try clear hcz30_1
     try clear hfz14_0
     try clear hfz14_1
     try clear hfz22_0
     try clear hfz22_1
     try clear hfz30_0
     try clear hfz30_1
     try clear hx19_0
     try clear p19
     try clear p2
     try clear q19
     obtain ⟨x7_2, x1001_2, x1002_2, x211001_2, u211001, rfl, HA, HK2, HO_211000, HO_211001, BK196, BK210, HI0, HK, HB⟩ := hrel
     cases gk with
     | zero => exact absurd HA.out (by simp [spec_l3Right.l1])
     | succ k2 =>
      have H := HA.out
      clear HA
      simp only [spec_l3Right.l1] at H
      by_cases c33 : x7_2 < t215
      ·rw [if_pos c33] at H
       have c33b0 : decide (x7_2 < t215) = true := decide_eq_true c33
       clear c33
       replace H := Option.bind_eq_some_iff.mp H
       obtain ⟨⟨t218, t219, t220⟩, A340, H⟩ := H
       try dsimp only at H
       have A34 := Aside0.mk A340
       clear A340
       replace H := Option.bind_eq_some_iff.mp H
       obtain ⟨⟨t221, t222, t223⟩, A350, H⟩ := H
       try dsimp only at H
       have A35 := Aside0.mk A350
       clear A350
       by_cases c36 : x211001_2.length < 5864062014805
       ·rw [if_pos c36] at H
        have LMc36 := Aside0.mk c36
        clear c36
        obtain ⟨y224, hy224⟩ : ∃ y_ : List (S65), y_ = (x211001_2 ++ [(⟨t218, t221⟩ : S65)]) := ⟨_, rfl⟩
        replace H : (spec_l3Right.l1 k2 t215 (wrap64 (x7_2 + 1)) s0_0 t222 t223 x211000_1 y224) = some (r1, r2, r3, r4) := by first | (rw [hy224]; with_reducible exact H) | (have H2_ := (Option.bind_some _ _).symm.trans H; rw [hy224]; with_reducible exact H2_) | (have H2_ := (Option.bind_some _ _).symm.trans H; with_reducible exact H2_) | with_reducible exact H | (rw [hy224]; exact H) | exact H
        have Ny224 := Aside0.mk hy224
        clear hy224
        have H' := Aside0.mk H
        clear H
        try go_wp2
        have n0_ := Aside0.mk (Kd.R_drew HO_211000.out)
        have n1_ := Aside0.mk (Kd.R_drew HO_211001.out)
        have n2_ := Aside0.mk (blk_drew BK196.out)
        have n3_ := Aside0.mk (blk_drew BK210.out)
        have n4_ := Aside0.mk (IsS123.drew HI0.out)
        have n5_ := Aside0.mk (keep_drew HK.out)
        have n6_ := Aside0.mk (below_drew1 HB.out)
        clear HO_211000
        clear HO_211001
        clear BK196
        clear BK210
        clear HI0
        clear HK
        clear HB
        have HO_211000 := n0_
        have HO_211001 := n1_
        have BK196 := n2_
        have BK210 := n3_
        have HI0 := n4_
        have HK := n5_
        have HB := n6_
        clear n0_ n1_ n2_ n3_ n4_ n5_ n6_
        refine start_ (n := 14) (S := fun w' => w'.cell? ⟨gb210, 0, none⟩ = some (.slice Ao31 x211000_1.length co31) ∧ w'.cell? ⟨gb210, 1, none⟩ = some (u211001)) (ds := [13]) #[false, false, false, false, false, false, false, false, false, false, false, false, false, false] (by kernel_rfl) rfl rfl ⟨(blk_cell BK210.out 0).trans rfl, (blk_cell BK210.out 1).trans rfl⟩ (fun hHeld => ?_); refine with_tabW spec_l3Right.tab10 spec_l3Right.bits10 (fun HT_ HW_ => ?_)
        generalize wr.drew = w37 at HO_211000 HO_211001 BK196 BK210 HI0 HK HB hHeld ⊢
        refine pure_ (i := 0) (N := some 35) (v := ?_) (a' := ?_) #[true, false, false, false, false, false, false, false, false, false, false, false, false, false] rfl rfl (any_of HT_.out (by kernel_rfl)) (fun _ _ _ h => h) (Or.inl ⟨by rfl, ?_⟩) ?_ ?_
        rotate_left
        ·intro w'
         go_simp
         with_reducible rfl
        rotate_left
        ·simp only [Act.put, List.setIfInBounds_toArray, List.set_cons_zero, List.set_cons_succ, i64_w, i32_w]
         rfl
        refine pure_ (i := 2) (N := some 37) (v := ?_) (a' := ?_) #[true, false, true, false, false, false, false, false, false, false, false, false, false, false] rfl rfl (any_of HT_.out (by kernel_rfl)) (fun _ _ _ h => h) (Or.inl ⟨by rfl, ?_⟩) ?_ ?_
        rotate_left
        ·intro w'
         go_simp
         with_reducible rfl
        rotate_left
        ·simp only [Act.put, List.setIfInBounds_toArray, List.set_cons_zero, List.set_cons_succ, i64_w, i32_w]
         rfl
        refine pure_ (i := 3) (N := some 38) (v := ?_) (a' := ?_) #[true, false, true, true, false, false, false, false, false, false, false, false, false, false] rfl rfl (any_of HT_.out (by kernel_rfl)) (fun _ _ _ h => h) (Or.inl ⟨by rfl, ?_⟩) ?_ ?_
        rotate_left
        ·intro w'
         go_simp
         with_reducible rfl
        rotate_left
        ·simp only [Act.put, List.setIfInBounds_toArray, List.set_cons_zero, List.set_cons_succ, i64_w, i32_w]
         rfl
        refine pure_ (i := 7) (N := some 42) (v := ?_) (a' := ?_) #[true, false, true, true, false, false, false, true, false, false, false, false, false, false] rfl rfl (any_of HT_.out (by kernel_rfl)) (fun _ _ _ h => h) (Or.inl ⟨by rfl, ?_⟩) ?_ ?_
        rotate_left
        ·intro w'
         go_simp
         with_reducible rfl
        rotate_left
        ·simp only [Act.put, List.setIfInBounds_toArray, List.set_cons_zero, List.set_cons_succ, i64_w, i32_w]
         rfl
        refine take_ (i := 1) (N := some 36) (v := ?_) (a' := ?_) #[true, true, true, true, false, false, false, true, false, false, false, false, false, false] rfl rfl (take_ofW HT_.out HW_.out (by kernel_rfl)) (fun _ _ _ h => h) (Or.inl ⟨by rfl, ?_⟩) hHeld ?_ ?_
        rotate_left
        ·rintro w' ⟨s0, s1⟩
         go_simp
         with_reducible rfl
        rotate_left
        ·simp only [Act.put, List.setIfInBounds_toArray, List.set_cons_zero, List.set_cons_succ, i64_w, i32_w]
         rfl
        refine take_ (i := 4) (N := some 39) (v := ?_) (a' := ?_) #[true, true, true, true, true, false, false, true, false, false, false, false, false, false] rfl rfl (take_ofW HT_.out HW_.out (by kernel_rfl)) (fun _ _ _ h => h) (Or.inl ⟨by rfl, ?_⟩) hHeld ?_ ?_
        rotate_left
        ·rintro w' ⟨s0, s1⟩
         go_simp
         with_reducible rfl
        rotate_left
        ·simp only [Act.put, List.setIfInBounds_toArray, List.set_cons_zero, List.set_cons_succ, i64_w, i32_w]
         rfl
        refine pure_ (i := 5) (N := some 40) (v := ?_) (a' := ?_) #[true, true, true, true, true, true, false, true, false, false, false, false, false, false] rfl rfl (any_of HT_.out (by kernel_rfl)) (fun _ _ _ h => h) (Or.inl ⟨by rfl, ?_⟩) ?_ ?_
        rotate_left
        ·intro w'
         go_simp
         with_reducible rfl
        rotate_left
        ·simp only [Act.put, List.setIfInBounds_toArray, List.set_cons_zero, List.set_cons_succ, i64_w, i32_w]
         rfl
        refine one_ (i := 6) (N := some 41) #[true, true, true, true, true, true, true, true, false, false, false, false, false, false] rfl rfl (one_of HT_.out (by kernel_rfl)) (by decide) (fun K hK => ?_)
        refine goes_ Try.func95 (by kernel_rfl) rfl #[.pointer (some ⟨g, 0, none⟩), .int .i64 (x211000_1.length : Int)] (by rfl) rfl rfl (by (try simp only [List.map_toArray, List.map_cons, List.map_nil]); first | done | rfl | (simp only [List.length_drop, List.length_take]; rfl)) ?_
        with_reducible refine (spec_l1Below.calls g s0_0 x1001_2 x1002_2 (x211000_1.length : Int) t218 t219 t220 w0 _ ?side1 ?side2 A34.out).mono ?_
        (case side1 => repeat (first | (with_reducible first | exact HI0.out | apply IsS123.alloc | apply IsS123.drewN | apply IsS123.drew | apply IsS123.set_1 | apply IsS123.set_2 | refine IsS123.far ?_ NB0_196.out _ | refine IsS123.far ?_ NB0_210.out _) | exact HI0.out))
        (case side2 => repeat (first | (with_reducible first | exact HB.out | apply below_alloc | apply pw_below_drewN | apply below_drew1 | refine below_set ?_ (IsS123.ge HI0.out) | refine below_set ?_ GE196.out | refine below_set ?_ GE210.out) | exact HB.out))
        rintro e w38 ⟨rfl, hi, hb, hk⟩
        refine ⟨_, rfl, ?_⟩
        have n0_ := Aside0.mk (Kd.R_mono (Kd.R_keep (IsS123.apart (show IsS123 w0 _ g s0_0 x1001_2 x1002_2 from by repeat (first | (with_reducible first | exact HI0.out | apply IsS123.alloc | apply IsS123.drewN | apply IsS123.drew | apply IsS123.set_1 | apply IsS123.set_2 | refine IsS123.far ?_ NB0_196.out _ | refine IsS123.far ?_ NB0_210.out _) | exact HI0.out)) (rP HO_211000.out) (by decide)) hk (fun _ h => h.2)) (fun _ h => h.1))
        have n1_ := Aside0.mk (Kd.R_mono (Kd.R_keep (IsS123.apart (show IsS123 w0 _ g s0_0 x1001_2 x1002_2 from by repeat (first | (with_reducible first | exact HI0.out | apply IsS123.alloc | apply IsS123.drewN | apply IsS123.drew | apply IsS123.set_1 | apply IsS123.set_2 | refine IsS123.far ?_ NB0_196.out _ | refine IsS123.far ?_ NB0_210.out _) | exact HI0.out)) (rP HO_211001.out) (by decide)) hk (fun _ h => h.2)) (fun _ h => h.1))
        have n2_ := Aside0.mk (KeepBut.blk hk (g' := gb196) (o := .cells #[.slice none 0 0, .slice none 0 0] 30 (0, 0)) (kP BK196) NB196_0.out (by simp))
        have n3_ := Aside0.mk (KeepBut.blk hk (g' := gb210) (o := .cells #[.slice Ao31 x211000_1.length co31, u211001] 30 (0, 0)) (kP BK210) NB210_0.out (by simp))
        have n4_ := Aside0.mk (KeepBut.trans (by repeat (first | (with_reducible first | exact HK.out | apply KeepBut.set_ | apply keep_drewN | apply keep_drew | apply keep_alloc | refine keep_far ?_ GW196.out _ | refine keep_far ?_ GW210.out _) | exact HK.out)) hk (.inl rfl))
        have n5_ := Aside0.mk (hb)
        have n6_ := Aside0.mk (hi)
        clear HO_211000
        clear HO_211001
        clear BK196
        clear BK210
        clear HK
        clear HB
        clear HI0
        have HO_211000 := n0_
        have HO_211001 := n1_
        have BK196 := n2_
        have BK210 := n3_
        have HK := n4_
        have HB := n5_
        have HI0 := n6_
        clear n0_ n1_ n2_ n3_ n4_ n5_ n6_
        (try clear hb)
        (try clear hb2)
        (try clear hk)
        (try clear hi)
        refine hK.out _ _ ⟨(blk_cell BK210.out 0).trans rfl, (blk_cell BK210.out 1).trans rfl⟩ (fun hHeld => ?_)
        clear hK K
        refine norm_ (a' := ?_) ?_ ?_
        rotate_left
        ·show Act.put _ (some 41) _ = _
         simp only [Act.put, List.setIfInBounds_toArray, List.set_cons_zero, List.set_cons_succ, i64_w, i32_w]
         rfl
        refine one_ (i := 8) (N := some 43) #[true, true, true, true, true, true, true, true, true, false, false, false, false, false] rfl rfl (one_of HT_.out (by kernel_rfl)) (by decide) (fun K hK => ?_)
        refine goes_ Try.func96 (by kernel_rfl) rfl #[.pointer (some ⟨g, 0, none⟩)] (by rfl) rfl rfl (by (try simp only [List.map_toArray, List.map_cons, List.map_nil]); first | done | rfl | (simp only [List.length_drop, List.length_take]; rfl)) ?_
        with_reducible refine (spec_l3Data.calls k2 g s0_0 t219 t220 t221 t222 t223 w0 _ ?side1 ?side2 A35.out).mono ?_
        (case side1 => repeat (first | (with_reducible first | exact HI0.out | apply IsS123.alloc | apply IsS123.drewN | apply IsS123.drew | apply IsS123.set_1 | apply IsS123.set_2 | refine IsS123.far ?_ NB0_196.out _ | refine IsS123.far ?_ NB0_210.out _) | exact HI0.out))
        (case side2 => repeat (first | (with_reducible first | exact HB.out | apply below_alloc | apply pw_below_drewN | apply below_drew1 | refine below_set ?_ (IsS123.ge HI0.out) | refine below_set ?_ GE196.out | refine below_set ?_ GE210.out) | exact HB.out))
        rintro e w39 ⟨rfl, hi, hb, hk⟩
        refine ⟨_, rfl, ?_⟩
        have n0_ := Aside0.mk (Kd.R_mono (Kd.R_keep (IsS123.apart (show IsS123 w0 _ g s0_0 t219 t220 from by repeat (first | (with_reducible first | exact HI0.out | apply IsS123.alloc | apply IsS123.drewN | apply IsS123.drew | apply IsS123.set_1 | apply IsS123.set_2 | refine IsS123.far ?_ NB0_196.out _ | refine IsS123.far ?_ NB0_210.out _) | exact HI0.out)) (rP HO_211000.out) (by decide)) hk (fun _ h => h.2)) (fun _ h => h.1))
        have n1_ := Aside0.mk (Kd.R_mono (Kd.R_keep (IsS123.apart (show IsS123 w0 _ g s0_0 t219 t220 from by repeat (first | (with_reducible first | exact HI0.out | apply IsS123.alloc | apply IsS123.drewN | apply IsS123.drew | apply IsS123.set_1 | apply IsS123.set_2 | refine IsS123.far ?_ NB0_196.out _ | refine IsS123.far ?_ NB0_210.out _) | exact HI0.out)) (rP HO_211001.out) (by decide)) hk (fun _ h => h.2)) (fun _ h => h.1))
        have n2_ := Aside0.mk (KeepBut.blk hk (g' := gb196) (o := .cells #[.slice none 0 0, .slice none 0 0] 30 (0, 0)) (kP BK196) NB196_0.out (by simp))
        have n3_ := Aside0.mk (KeepBut.blk hk (g' := gb210) (o := .cells #[.slice Ao31 x211000_1.length co31, u211001] 30 (0, 0)) (kP BK210) NB210_0.out (by simp))
        have n4_ := Aside0.mk (KeepBut.trans (by repeat (first | (with_reducible first | exact HK.out | apply KeepBut.set_ | apply keep_drewN | apply keep_drew | apply keep_alloc | refine keep_far ?_ GW196.out _ | refine keep_far ?_ GW210.out _) | exact HK.out)) hk (.inl rfl))
        have n5_ := Aside0.mk (hb)
        have n6_ := Aside0.mk (hi)
        clear HO_211000
        clear HO_211001
        clear BK196
        clear BK210
        clear HK
        clear HB
        clear HI0
        have HO_211000 := n0_
        have HO_211001 := n1_
        have BK196 := n2_
        have BK210 := n3_
        have HK := n4_
        have HB := n5_
        have HI0 := n6_
        clear n0_ n1_ n2_ n3_ n4_ n5_ n6_
        (try clear hb)
        (try clear hb2)
        (try clear hk)
        (try clear hi)
        refine hK.out _ _ ⟨(blk_cell BK210.out 0).trans rfl, (blk_cell BK210.out 1).trans rfl⟩ (fun hHeld => ?_)
        clear hK K
        refine norm_ (a' := ?_) ?_ ?_
        rotate_left
        ·show Act.put _ (some 43) _ = _
         simp only [Act.put, List.setIfInBounds_toArray, List.set_cons_zero, List.set_cons_succ, i64_w, i32_w]
         rfl
        refine pure_ (i := 9) (N := some 44) (v := ?_) (a' := ?_) #[true, true, true, true, true, true, true, true, true, true, false, false, false, false] rfl rfl (any_of HT_.out (by kernel_rfl)) (fun _ _ _ h => h) (Or.inl ⟨by rfl, ?_⟩) ?_ ?_
        rotate_left
        ·intro w'
         go_simp
         with_reducible rfl
        rotate_left
        ·simp only [Act.put, List.setIfInBounds_toArray, List.set_cons_zero, List.set_cons_succ, i64_w, i32_w]
         rfl
        refine one_ (i := 10) (N := some 45) #[true, true, true, true, true, true, true, true, true, true, true, false, false, false] rfl rfl (one_of HT_.out (by kernel_rfl)) (by decide) (fun K hK => ?_)
        refine value_ (w1 := ?_) (v := ?_) (by rfl) rfl ?_ ?_
        rotate_left 2
        ·go_simp
         constructor
         ·rfl
         ·rfl
        refine hK.out _ _ ⟨(blk_cell (blk_alloc BK210.out _) 0).trans rfl, (blk_cell (blk_alloc BK210.out _) 1).trans rfl⟩ (fun hHeld => ?_)
        clear hK K
        refine norm_ (a' := ?_) ?_ ?_
        rotate_left
        ·show Act.put _ (some 45) _ = _
         simp only [Act.put, List.setIfInBounds_toArray, List.set_cons_zero, List.set_cons_succ, i64_w, i32_w]
         rfl
        refine one_ (i := 11) (N := some 46) #[true, true, true, true, true, true, true, true, true, true, true, true, false, false] rfl rfl (one_of HT_.out (by kernel_rfl)) (by decide) (fun K hK => ?_)
        refine Kd.R_append_step k65 w.heap.size (by rfl) (.tmp 36) (.tmp 45) 28 65 (.agg #[(.int .i64 0), (.string ⟨#[]⟩)]) 24 rfl Try.underlying28 info65 rfl (by decide) (by omega) u211001 x211001_2 (⟨t218, t221⟩ : S65) [.int .i64 t218, .string t221] (fun _ => True) (fun _ => False) rfl rfl ?aP (fun _ hk => hk.elim) ?aF ?aO (Below.refl _ _) ?aS ?aL ?_
        (case aP => exact k65_mkM _ _ _ (⟨t218, t221⟩ : S65))
        (case aF => exact (fun _ _ => trivial))
        (case aO => exact (rP HO_211001.out))
        (case aS => exact (keep_size (w := w) (g := g) (row := none) (by repeat (first | (with_reducible first | exact HK.out | apply KeepBut.set_ | apply keep_drewN | apply keep_drew | apply keep_alloc | refine keep_far ?_ GW196.out _ | refine keep_far ?_ GW210.out _) | exact HK.out))))
        (case aL => have := LMc36.out; omega)
        intro v225 w40 ho hb hg hat
        rw [← Ny224.out] at ho
        have n0_ := Aside0.mk (Kd.R_over' (rP HO_211000.out) (Kd.R_typed (rP HO_211001.out)) (by decide) hg)
        have n1_ := Aside0.mk (blk_grown (g := gb196) (o := .cells #[.slice none 0 0, .slice none 0 0] 30 (0, 0)) (kP BK196) hg (Kd.R_ne HO_211001.out BK196.out (by decide)))
        have n2_ := Aside0.mk (blk_grown (g := gb210) (o := .cells #[.slice Ao31 x211000_1.length co31, u211001] 30 (0, 0)) (kP BK210) hg (Kd.R_ne HO_211001.out BK210.out (by decide)))
        have n3_ := Aside0.mk (IsS123.grown (by repeat (first | (with_reducible first | exact HI0.out | apply IsS123.alloc | apply IsS123.drewN | apply IsS123.drew | apply IsS123.set_1 | apply IsS123.set_2 | refine IsS123.far ?_ NB0_196.out _ | refine IsS123.far ?_ NB0_210.out _) | exact HI0.out)) hg (IsS123.own_ne HI0.out HO_211001.out (by decide)))
        have n4_ := Aside0.mk (below_weaken (by repeat (first | (with_reducible first | exact HB.out | apply below_alloc | apply pw_below_drewN | apply below_drew1 | refine below_set ?_ (IsS123.ge HI0.out) | refine below_set ?_ GE196.out | refine below_set ?_ GE210.out) | exact HB.out)) HL.out hb)
        have n5_ := Aside0.mk (KeepBut.trans (by repeat (first | (with_reducible first | exact HK.out | apply KeepBut.set_ | apply keep_drewN | apply keep_drew | apply keep_alloc | refine keep_far ?_ GW196.out _ | refine keep_far ?_ GW210.out _) | exact HK.out)) (KeepBut.of_grown hg g) (Kd.R_base2 HO_211001.out))
        have n6_ := Aside0.mk (ho)
        clear HO_211000
        clear BK196
        clear BK210
        clear HI0
        clear HB
        clear HK
        clear HO_211001
        have HO_211000 := n0_
        have BK196 := n1_
        have BK210 := n2_
        have HI0 := n3_
        have HB := n4_
        have HK := n5_
        have HO226 := n6_
        clear n0_ n1_ n2_ n3_ n4_ n5_ n6_
        clear ho hb hg hat
        obtain ⟨Ao41, co41, eo41⟩ := Kd.R_slice HO226.out
        (first | subst eo41 | (injection eo41 with f1_ f2_ f3_; have f4_ := f1_.symm; have f5_ := f3_.symm; clear f1_ f2_ f3_; subst f4_; subst f5_))
        refine hK.out _ _ ⟨(blk_cell BK210.out 0).trans rfl, (blk_cell BK210.out 1).trans rfl⟩ (fun hHeld => ?_)
        clear hK K
        refine norm_ (a' := ?_) ?_ ?_
        rotate_left
        ·show Act.put _ (some 46) _ = _
         simp only [Act.put, List.setIfInBounds_toArray, List.set_cons_zero, List.set_cons_succ, i64_w, i32_w]
         rfl
        refine pure_ (i := 12) (N := some 47) (v := ?_) (a' := ?_) #[true, true, true, true, true, true, true, true, true, true, true, true, true, false] rfl rfl (any_of HT_.out (by kernel_rfl)) (fun _ _ _ h => h) (Or.inl ⟨by rfl, ?_⟩) ?_ ?_
        rotate_left
        ·intro w'
         go_simp
         with_reducible rfl
        rotate_left
        ·simp only [Act.put, List.setIfInBounds_toArray, List.set_cons_zero, List.set_cons_succ, i64_w, i32_w]
         rfl
        refine last_ (i := 13) (N := none) #[true, true, true, true, true, true, true, true, true, true, true, true, true, true] rfl rfl (one_of HT_.out (by kernel_rfl)) (by decide) (fun K hK => ?_)
        have hs42 : w40.cell? ⟨gb210, 1, none⟩ = some (u211001) := (blk_cell BK210.out 1).trans rfl
        have hfs42 := blk_frozen BK210.out 1
        have hns42_0 := NB196_210.out
        have hms42_0 := NB210_196.out
        refine skip_ (w1 := ?_) (by rfl) rfl ?_ ?_
        rotate_left
        ·go_simp
         rfl
        refine hK.out _ _ ?_
        clear hK K
        refine done_ (done_of HT_.out (by kernel_rfl)) ?_
        try go_wp2
        go_roundg k2
        case measure => have := HK1.out; have := HK2.out; omega
        case rel => exact ⟨(wrap64 (x7_2 + 1)), (t222), (t223), (y224), (.slice Ao41 y224.length co41), (by first | rfl | (simp; done) | (simp [*]; done) | (simp; exact (by intro l_; cases l_ <;> rfl : ∀ l_ : List UInt8, l_.isEmpty = !(l_ != [])) _)), H', ⟨by have := HK1.out; have := HK2.out; omega⟩, ⟨rP (Kd.R_mono (Kd.R_far (p := ⟨gb210, 1, none⟩) (Kd.R_types HO_211000.out BK210.out (by decide)) (fun _ hk => hk.2) (.slice Ao41 y224.length co41)) (fun _ hk => trivial))⟩, ⟨rP (Kd.R_mono (Kd.R_far (p := ⟨gb210, 1, none⟩) (Kd.R_types HO226.out BK210.out (by decide)) (fun _ hk => hk.2) (.slice Ao41 y224.length co41)) (fun _ hk => trivial))⟩, ⟨kP BK196⟩, ⟨by (with_reducible repeat (first | refine blk_drewN ?_ _ | refine blk_drew ?_ | refine blk_alloc ?_ _)); refine blk_put (cs := #[.slice Ao31 x211000_1.length co31, u211001]) ?_ 1 _ rfl; (with_reducible repeat (first | refine blk_drewN ?_ _ | refine blk_drew ?_ | refine blk_alloc ?_ _)); exact BK210.out⟩, ⟨by repeat (first | (with_reducible first | exact HI0.out | apply IsS123.alloc | apply IsS123.drewN | apply IsS123.drew | apply IsS123.set_1 | apply IsS123.set_2 | refine IsS123.far ?_ NB0_196.out _ | refine IsS123.far ?_ NB0_210.out _) | exact HI0.out)⟩, ⟨by repeat (first | (with_reducible first | exact HK.out | apply KeepBut.set_ | apply keep_drewN | apply keep_drew | apply keep_alloc | refine keep_far ?_ GW196.out _ | refine keep_far ?_ GW210.out _) | exact HK.out)⟩, ⟨by repeat (first | (with_reducible first | exact HB.out | apply below_alloc | apply pw_below_drewN | apply below_drew1 | refine below_set ?_ (IsS123.ge HI0.out) | refine below_set ?_ GE196.out | refine below_set ?_ GE210.out) | exact HB.out)⟩⟩
       ·rw [if_neg c36] at H
        exact absurd H (by simp)
      ·rw [if_neg c33] at H
       have c33b0 : decide (x7_2 < t215) = false := decide_eq_false c33
       clear c33
       simp only [Option.some.injEq, Prod.mk.injEq] at H
       obtain ⟨rfl, rfl, rfl, rfl⟩ := H
       have hnb43 := NB210_196.out
       have hnc43 := NB196_210.out
       have hnb44 := NB210_0.out
       have hnc44 := NB0_210.out
       have hcz45_0 := cZ0 BK210
       have hcz45_1 := cZ1 BK210
       have hfz45_0 := blk_frozen BK210.out 0
       have hfz45_1 := blk_frozen BK210.out 1
       have hnb46 := NB196_0.out
       have hnc46 := NB0_196.out
       have hcz47_0 := cZ0 BK196
       have hcz47_1 := cZ1 BK196
       have hfz47_0 := blk_frozen BK196.out 0
       have hfz47_1 := blk_frozen BK196.out 1
       obtain ⟨Ao48, co48, eo48⟩ := Kd.R_slice HO_211001.out
       subst eo48
       go_wp2
       refine bodyPost_ret (results_cell_row rfl _ _ gb196 30 #[.slice Ao31 x211000_1.length co31, .slice Ao48 x211001_2.length co48] (0, 0) _ rfl (by (with_reducible repeat (first | refine blk_drewN ?_ _ | refine blk_drew ?_ | refine blk_alloc ?_ _)); refine blk_put (cs := #[.slice Ao31 x211000_1.length co31, .slice none 0 0]) ?_ 1 _ rfl; (with_reducible repeat (first | refine blk_drewN ?_ _ | refine blk_drew ?_ | refine blk_alloc ?_ _)); refine blk_put (cs := #[.slice none 0 0, .slice none 0 0]) ?_ 0 _ rfl; (with_reducible repeat (first | refine blk_drewN ?_ _ | refine blk_drew ?_ | refine blk_alloc ?_ _)); exact BK196.out) Try.underlying30 rfl (by kernel_rfl)) rfl ?_
       exact ⟨_, _, eW, by (with_reducible repeat (first | apply Kd.R_alloc | apply Kd.R_drewN | apply Kd.R_drew)); exact Kd.R_mono (Kd.R_far (p := ⟨gb196, 1, none⟩) (Kd.R_far (p := ⟨gb196, 0, none⟩) (Kd.R_types HO_211000.out BK196.out (by decide)) (fun _ hk => hk.2) (.slice Ao31 x211000_1.length co31)) (fun _ hk => hk.2) (.slice Ao48 x211001_2.length co48)) (fun _ hk => trivial), by (with_reducible repeat (first | apply Kd.R_alloc | apply Kd.R_drewN | apply Kd.R_drew)); exact Kd.R_mono (Kd.R_far (p := ⟨gb196, 1, none⟩) (Kd.R_far (p := ⟨gb196, 0, none⟩) (Kd.R_types HO_211001.out BK196.out (by decide)) (fun _ hk => hk.2) (.slice Ao31 x211000_1.length co31)) (fun _ hk => hk.2) (.slice Ao48 x211001_2.length co48)) (fun _ hk => trivial), by repeat (first | (with_reducible first | exact HI0.out | apply IsS123.alloc | apply IsS123.drewN | apply IsS123.drew | apply IsS123.set_1 | apply IsS123.set_2 | refine IsS123.far ?_ NB0_196.out _ | refine IsS123.far ?_ NB0_210.out _) | exact HI0.out), by repeat (first | (with_reducible first | exact HB.out | apply below_alloc | apply pw_below_drewN | apply below_drew1 | refine below_set ?_ (IsS123.ge HI0.out) | refine below_set ?_ GE196.out | refine below_set ?_ GE210.out) | exact HB.out), by repeat (first | (with_reducible first | exact HK.out | apply KeepBut.set_ | apply keep_drewN | apply keep_drew | apply keep_alloc | refine keep_far ?_ GW196.out _ | refine keep_far ?_ GW210.out _) | exact HK.out)⟩

end Go.Proofs.Ytgmpdkefegofhaa.PFnFallen
