-- Written by xprint.py, a program of this session over the kit's print. Not trusted: Lean checks it.
import Derived.Test.YtgmpdkefegofhaaPFnRecoveredx0
import Derived.Test.YtgmpdkefegofhaaPFnRecoveredx1
import Derived.Test.YtgmpdkefegofhaaPFnRecoveredx2
import Derived.Test.YtgmpdkefegofhaaPFnRecoveredx3
import Derived.Test.YtgmpdkefegofhaaPFnRecoveredx6
import Derived.Test.YtgmpdkefegofhaaPFnRecoveredx7
import Derived.Test.YtgmpdkefegofhaaPFnRecoveredx8
namespace Go.Proofs.Ytgmpdkefegofhaa.PFnRecovered
open Go.RowKit Go.Proofs.YtgmpdkefegofhaaW.PrintWords Go.Proofs.YtgmpdkefegofhaaW.PrintLast Go.Proofs.YtgmpdkefegofhaaW.PrintMore
attribute [local go_sem] max2_int min2_int max_two min_two max_three min_three max_four min_four   -- for this text's walks alone
set_option linter.unusedVariables false
set_option linter.unusedSimpArgs false

attribute [local go_sem high] eqA65
/-! ### impl_Recover: function 45 -/
mutual
def impl_Recover.j0 : Nat → Int → List Int → Bool → List ByteArray → List (S65) → Option (List ByteArray × (List (S65)))
 | 0, _, _, _, _, _ => none
 | k + 1, x1, x6, x40, x341000, x341001 => if x40 = true then (impl_Recover.l0 k x1 x6 (x6.length : Int) 0 x341000 x341001) else (if 0 < (x341000.length : Int) then (some ((x341000.set (0 : Int).toNat (⟨#[]⟩ : ByteArray)), x341001)) else (none))
def impl_Recover.l0 : Nat → Int → List Int → Int → Int → List ByteArray → List (S65) → Option (List ByteArray × (List (S65)))
 | 0, _, _, _, _, _, _ => none
 | k + 1, x1, x41, x42, x43, x341000, x341001 => if x43 < x42 then (if 0 ≤ x43 then (if x43 < (x41.length : Int) then (if 0 ≤ (wrap64 (1 + x43)) then (if (wrap64 (1 + x43)) < (x341000.length : Int) then (if 0 ≤ (wrap64 ((wrap64 (x1 + 1)) + (rd x41 x43))) then (if (wrap64 ((wrap64 (x1 + 1)) + (rd x41 x43))) < (x341000.length : Int) then (impl_Recover.l0 k x1 x41 x42 (wrap64 (x43 + 1)) (x341000.set ((wrap64 ((wrap64 (x1 + 1)) + (rd x41 x43))) : Int).toNat (rdOf ByteArray.empty x341000 (wrap64 (1 + x43)))) x341001) else (none)) else (none)) else (none)) else (none)) else (none)) else (none)) else (if 0 < (x341000.length : Int) then (some ((x341000.set (0 : Int).toNat (⟨#[]⟩ : ByteArray)), x341001)) else (none))
end
def impl_Recover.f (k : Nat) (l0_0 : List ByteArray) (l0_1 : List (S65)) (a1 : Int) : Option (List ByteArray × (List (S65))) := (impl_homed.f l0_0 l0_1 a1).bind fun t327 => (if t327 = true then ((impl_Fall.f k l0_0 l0_1 ([] : List Bool)).bind fun bt334 => (if 0 < (bt334.1.length : Int) then ((impl_HeadOf.f k (rdOf ByteArray.empty bt334.1 0) a1).bind fun bt342 => (if bt342.2.2 = true then (if 1 ≤ (wrap64 (1 + (bt342.1.length : Int))) then (if (wrap64 (1 + (bt342.1.length : Int))) ≤ (bt334.1.length : Int) then ((impl_dataSum.f k ((bt334.1.take ((wrap64 (1 + (bt342.1.length : Int))) : Int).toNat).drop 1)).bind fun t351 => (impl_Recover.j0 k a1 bt342.1 (t351 == bt342.2.1) bt334.1 bt334.2)) else (none)) else (none)) else (impl_Recover.j0 k a1 bt342.1 false bt334.1 bt334.2))) else (none))) else ((impl_cloneDisk.f l0_0 l0_1).bind fun bt328 => (some (bt328.1, bt328.2))))
theorem impl_Recover.mono_l : ∀ k, (∀ y0 y1 y2 y3 y4, LeO (impl_Recover.j0 k y0 y1 y2 y3 y4) (impl_Recover.j0 (k + 1) y0 y1 y2 y3 y4)) ∧ (∀ y0 y1 y2 y3 y4 y5, LeO (impl_Recover.l0 k y0 y1 y2 y3 y4 y5) (impl_Recover.l0 (k + 1) y0 y1 y2 y3 y4 y5))
 | 0 => ⟨fun _ _ _ _ _ r h => by simp [impl_Recover.j0] at h, fun _ _ _ _ _ _ r h => by simp [impl_Recover.l0] at h⟩
 | k + 1 => by
  obtain ⟨ih0, ih1⟩ := impl_Recover.mono_l k
  refine ⟨?_, ?_⟩
  ·intro y0 y1 y2 y3 y4
   unfold impl_Recover.j0
   have m0_ := @impl_Fall.mono
   have m1_ := @impl_HeadOf.mono
   have m2_ := @impl_dataSum.mono
   exact mM
  ·intro y0 y1 y2 y3 y4 y5
   unfold impl_Recover.l0
   have m0_ := @impl_Fall.mono
   have m1_ := @impl_HeadOf.mono
   have m2_ := @impl_dataSum.mono
   exact mM
theorem impl_Recover.mono : ∀ a0 a1 a2 k, LeO (impl_Recover.f k a0 a1 a2) (impl_Recover.f (k + 1) a0 a1 a2) := by
 intro a0 a1 a2 k
 obtain ⟨ih0, ih1⟩ := impl_Recover.mono_l k
 unfold impl_Recover.f
 have m0_ := @impl_Fall.mono
 have m1_ := @impl_HeadOf.mono
 have m2_ := @impl_dataSum.mono
 exact mM
def impl_Recover.T9 : Bool × List (List Nat × List Nat) := (true, [([], []), ([0], [0]), ([], []), ([2], [2]), ([], []), ([3, 4], [3, 4]), ([], []), ([6], [6]), ([], []), ([8], [8]), ([7, 9], [7, 9]), ([10], [10]), ([1, 5, 0, 1, 2, 3, 4, 5, 6, 7, 8, 9, 10, 11], [1, 5]), ([12, 11, 0, 1, 2, 3, 4, 5, 6, 7, 8, 9, 10, 11], [11, 12])])
def impl_Recover.B9 : List Nat := [0, 1, 0, 4, 0, 28, 0, 64, 0, 256, 960, 1984, 4095, 8191]
theorem impl_Recover.tab9 : rtab .any (opsOf Try.f45 9) = impl_Recover.T9 := by kernel_rfl
theorem impl_Recover.bits9 : waitsOk impl_Recover.T9.2 impl_Recover.B9 = true := by kernel_rfl
set_option maxHeartbeats 8000000 in
set_option maxRecDepth 100000 in
theorem impl_Recover.calls (k : Nat) (A0_0 : Option Addr) (c0_0 : Nat) (l0_0 : List ByteArray) (A0_1 : Option Addr) (c0_1 : Nat) (l0_1 : List (S65)) (a1 : Int) (r1 : List ByteArray) (r2 : List (S65)) (w : World) (hr0_0 : Kd.C Kd.string w A0_0 l0_0.length l0_0) (hc0_0 : l0_0.length ≤ c0_0) (hr0_1 : Kd.C k65 w A0_1 l0_1.length l0_1) (hc0_1 : l0_1.length ≤ c0_1) (h : impl_Recover.f k l0_0 l0_1 a1 = some (r1, r2)) :
  Calls Try.prog 45 #[.agg #[.slice A0_0 l0_0.length c0_0, .slice A0_1 l0_1.length c0_1], .int .i64 a1] w fun e w' => ∃ v0_ v1_ : Value, e = .returned (.agg #[v0_, v1_]) ∧ Kd.R Kd.string 9 w' w.heap.size (fun _ => True) v0_ r1 ∧ Kd.R k65 65 w' w.heap.size (fun _ => True) v1_ r2 ∧ Below w.heap.size w w' := by
 have hu30 := Try.underlying30
 have HR0_0 := aM hr0_0
 have HC0_0 := aM hc0_0
 clear hr0_0 hc0_0
 have HR0_1 := aM hr0_1
 have HC0_1 := aM hc0_1
 clear hr0_1 hc0_1
 have HB := aM (Below.refl w.heap.size w)
 unfold impl_Recover.f at h
 have H := h
 clear h
 replace H := Option.bind_eq_some_iff.mp H
 obtain ⟨t327, A30, H⟩ := H
 try dsimp only at H
 have A3 := aM A30
 clear A30
 by_cases c4 : t327 = true
 ·subst c4
  rw [if_pos rfl] at H
  replace H := Option.bind_eq_some_iff.mp H
  obtain ⟨⟨t334, t337⟩, A50, H⟩ := H
  try dsimp only at H
  have A5 := aM A50
  clear A50
  by_cases c6 : 0 < (t334.length : Int)
  ·rw [if_pos c6] at H
   have c6b0 : decide (0 < (t334.length : Int)) = true := decide_eq_true c6
   have c6b1 : decide (0 < t334.length) = true := decide_eq_true (by omega)
   clear c6
   replace H := Option.bind_eq_some_iff.mp H
   obtain ⟨⟨t342, t343, t344⟩, A70, H⟩ := H
   try dsimp only at H
   have A7 := aM A70
   clear A70
   have HC8 := aM H
   clear H
   go_enter Try.func45, Try.ntmps45
   go_upto_region 5 with (first | ((with_reducible refine gate_dst (N := 2) rfl ?_); (try (refine gate_guard (by rfl) ?_; dsimp only)); refine box_event ?hg (N := 2) ?hd (cs := #[.slice A0_0 l0_0.length c0_0, .slice A0_1 l0_1.length c0_1]) (t := 30) ?hr ?_; (case hd => rfl); (case hg => rfl); (case hr => first | (go_simp; done) | (go_simp; rfl)); intro gb325 hg w9 hbox hb; have n_ := aI (sB HB hb) (aI (aM hbox) (aI (gE HB hg) (gE HB hg))); clear HB; obtain ⟨HB, BK325, GW325, GE325⟩ := n_; (try clear hb hbox hg)) | ((with_reducible refine gate_dst (N := 4) rfl ?_); (try (refine gate_guard (by rfl) ?_; dsimp only)); refine box_event ?hg (N := 4) ?hd (cs := #[.slice none 0 0, .slice none 0 0]) (t := 30) ?hr ?_; (case hd => rfl); (case hg => rfl); (case hr => first | (go_simp; done) | (go_simp; rfl)); intro gb326 hg w10 hbox hb; have n_ := aI (kB BK325 hb) (aI (sB HB hb) (aI (aM hbox) (aI (gE HB hg) (aI (gE HB hg) (aI (nL BK325 hg) (nG BK325 hg)))))); clear BK325 HB; obtain ⟨BK325, HB, BK326, GW326, GE326, NB325_326, NB326_325⟩ := n_; (try clear hb hbox hg); have hnb11 := NB325_326.out; have hnc11 := NB326_325.out; have hcz12_0 := cZ0 BK325; have hcz12_1 := cZ1 BK325; have hfz12_0 := fZ BK325 0; have hfz12_1 := fZ BK325 1) | ((with_reducible refine gate_callee (f := 71) rfl ?_); refine gL (some 13) Try.func71 #[.agg #[.slice A0_0 l0_0.length c0_0, .slice A0_1 l0_1.length c0_1], .int .i64 a1] ?_; (with_reducible refine (impl_homed.calls _ _ l0_0 _ _ l0_1 a1 true _ ?side1 ?side2 ?side3 ?side4 A3.out).mono ?_); (case side1 => exact cS HR0_0 HB); (case side2 => exact HC0_0.out); (case side3 => exact cS HR0_1 HB); (case side4 => exact HC0_1.out); rintro e w13 ⟨rfl, hb⟩; refine ⟨_, rfl, ?_⟩; have n_ := aI (kB BK325 hb) (aI (kB BK326 hb) (sB HB hb)); clear BK325 BK326 HB; obtain ⟨BK325, BK326, HB⟩ := n_; (try clear hb); have hcz14_0 := cZ0 BK325; have hcz14_1 := cZ1 BK325; have hfz14_0 := fZ BK325 0; have hfz14_1 := fZ BK325 1) | ((with_reducible refine gate_callee (f := 35) rfl ?_); refine gL (some 18) Try.func35 #[.agg #[.slice A0_0 l0_0.length c0_0, .slice A0_1 l0_1.length c0_1], .slice none 0 0] ?_; (refine (impl_Fall.calls k _ _ l0_0 _ _ l0_1 _ _ ([] : List Bool) t334 t337 _ ?side1 ?side2 ?side3 ?side4 ?side5 ?side6 A5.out).mono ?_); (case side1 => exact cS HR0_0 HB); (case side2 => exact HC0_0.out); (case side3 => exact cS HR0_1 HB); (case side4 => exact HC0_1.out); (case side5 => exact Kd.C_nil _ _); (case side6 => exact Nat.le_refl _); rintro e w15 ⟨v335, v338, rfl, ho0, ho1, hb⟩; refine ⟨_, rfl, ?_⟩; have n_ := aI (lR HB ho0) (aI (lR HB ho1) (aI (kB BK325 hb) (aI (kB BK326 hb) (sB HB hb)))); clear BK325 BK326 HB; obtain ⟨HO336, HO339, BK325, BK326, HB⟩ := n_; (try clear hb ho0 ho1)) | ((with_reducible refine gate_dst (N := 5) rfl ?_); (try (refine gate_guard (by rfl) ?_; dsimp only)); refine box_event ?hg (N := 5) ?hd (cs := #[.slice none 0 0, .slice none 0 0]) (t := 30) ?hr ?_; (case hd => rfl); (case hg => rfl); (case hr => first | (go_simp; done) | (go_simp; rfl)); intro gb340 hg w16 hbox hb; have n_ := aI (rB HO336 hb) (aI (rB HO339 hb) (aI (kB BK325 hb) (aI (kB BK326 hb) (aI (sB HB hb) (aI (aM hbox) (aI (gE HB hg) (aI (gE HB hg) (aI (nL BK325 hg) (aI (nG BK325 hg) (aI (nL BK326 hg) (nG BK326 hg))))))))))); clear HO336 HO339 BK325 BK326 HB; obtain ⟨HO336, HO339, BK325, BK326, HB, BK340, GW340, GE340, NB325_340, NB340_325, NB326_340, NB340_326⟩ := n_; (try clear hb hbox hg); obtain ⟨Ao17, co17, eo17⟩ := Kd.R_slice HO336.out; subst eo17; have hnb18 := NB340_325.out; have hnc18 := NB325_340.out; have hnb19 := NB340_326.out; have hnc19 := NB326_340.out; have hcz20_0 := cZ0 BK340; have hcz20_1 := cZ1 BK340; have hfz20_0 := fZ BK340 0; have hfz20_1 := fZ BK340 1; obtain ⟨Ao21, co21, eo21⟩ := Kd.R_slice HO339.out; subst eo21; have p341 : 0 ≤ (0 : Int) := (by omega); have q341 : 0 < (t334.length : Int) := dT; obtain ⟨ad341, e341, hx341_0⟩ := Kd.at_string (Kd.R_reads' HO336.out).2.2 0 p341 q341; cases e341; have qi341 : (0 < t334.length) = True := eq_true (by omega); (try rw [show ((0 : Int)).toNat = 0 from rfl] at hx341_0); (try rw [Addr.add_zero'] at hx341_0); have hn341_0 : ad341.block ≠ gb340 := Kd.own_blk (Kd.R_ne HO336.out BK340.out (by decide)); have hn341_1 : ad341.block ≠ gb340 := Kd.own_blk (Kd.R_ne HO336.out BK340.out (by decide)); replace hx341_0 := (cell_far (p := ⟨gb340, 0, none⟩) (by first | (rw [add_block]; exact hn341_0) | (show (Addr.add _ _).block ≠ _; rw [add_block]; exact hn341_0) | exact hn341_0) (.slice (some ad341) t334.length co17)).trans hx341_0; replace hx341_0 := (cell_far (p := ⟨gb340, 1, none⟩) (by first | (rw [add_block]; exact hn341_1) | (show (Addr.add _ _).block ≠ _; rw [add_block]; exact hn341_1) | exact hn341_1) (.slice Ao21 t337.length co21)).trans hx341_0; clear hn341_0; clear hn341_1; replace p341 := eq_true p341; replace q341 := eq_true q341) | ((with_reducible refine gate_callee (f := 86) rfl ?_); refine gL (some 25) Try.func86 #[.string (rdOf ByteArray.empty t334 0), .int .i64 a1] ?_; (with_reducible refine (impl_HeadOf.calls k (rdOf ByteArray.empty t334 0) a1 t342 t343 t344 _ A7.out).mono ?_); rintro e w22 ⟨v345, rfl, ho0, hb⟩; refine ⟨_, rfl, ?_⟩; have n_ := aI (aM (Kd.R_below (rP (Kd.R_mono (Kd.R_far (p := ⟨gb340, 1, none⟩) (Kd.R_far (p := ⟨gb340, 0, none⟩) (Kd.R_types HO336.out BK340.out (by decide)) (fun _ hk => hk.2) (.slice (some ad341) t334.length co17)) (fun _ hk => hk.2) (.slice Ao21 t337.length co21)) (fun _ h_ => h_.1))) hb)) (aI (aM (Kd.R_below (rP (Kd.R_mono (Kd.R_far (p := ⟨gb340, 1, none⟩) (Kd.R_far (p := ⟨gb340, 0, none⟩) (Kd.R_types HO339.out BK340.out (by decide)) (fun _ hk => hk.2) (.slice (some ad341) t334.length co17)) (fun _ hk => hk.2) (.slice Ao21 t337.length co21)) (fun _ h_ => h_.1))) hb)) (aI (lR HB ho0) (aI (kB BK325 hb) (aI (kB BK326 hb) (aI (aM (blk_below (g := gb340) (o := .cells #[.slice (some ad341) t334.length co17, .slice Ao21 t337.length co21] 30 (0, 0)) (by (with_reducible repeat (first | apply bN | apply bD | apply bA)); refine blk_put (cs := #[.slice (some ad341) t334.length co17, .slice none 0 0]) ?_ 1 _ rfl; (with_reducible repeat (first | apply bN | apply bD | apply bA)); refine blk_put (cs := #[.slice none 0 0, .slice none 0 0]) ?_ 0 _ rfl; (with_reducible repeat (first | apply bN | apply bD | apply bA)); exact BK340.out) hb)) (sB HB hb)))))); clear HO336 HO339 BK325 BK326 BK340 HB; obtain ⟨HO336, HO339, HO346, BK325, BK326, BK340, HB⟩ := n_; (try clear hb ho0)))
   (try simp only [Act.put, List.setIfInBounds_toArray, List.set_cons_zero, List.set_cons_succ])
   go_cut [40] (fun v40 wc => ∃ (kq : Nat) (x40_7 : Bool), v40 = .bool x40_7 ∧ Aside0 (impl_Recover.j0 kq a1 t342 x40_7 t334 t337 = some (r1, r2)) ∧ Aside0 (kq ≤ k) ∧ Aside0 (Kd.R (Kd.int .i64) 3 wc w.heap.size (fun _ => True) v345 t342) ∧ Aside0 (Kd.R Kd.string 9 wc w.heap.size (fun _ => True) (.slice (some ad341) t334.length co17) t334) ∧ Aside0 (Kd.R k65 65 wc w.heap.size (fun _ => True) (.slice Ao21 t337.length co21) t337) ∧ Aside0 (wc.heap[gb325]? = some (.cells #[(.slice A0_0 l0_0.length c0_0), (.slice A0_1 l0_1.length c0_1)] 30 (0, 0))) ∧ Aside0 (wc.heap[gb326]? = some (.cells #[(.slice none 0 0), (.slice none 0 0)] 30 (0, 0))) ∧ Aside0 (wc.heap[gb340]? = some (.cells #[(.slice (some ad341) t334.length co17), (.slice Ao21 t337.length co21)] 30 (0, 0))) ∧ Aside0 (Below w.heap.size w wc))
   case first =>
    have H := HC8.out
    clear HC8
    by_cases c23 : t344 = true
    ·subst c23
     rw [if_pos rfl] at H
     by_cases c24 : 1 ≤ (wrap64 (1 + (t342.length : Int)))
     ·rw [if_pos c24] at H
      have c24b0 := eq_true c24
      have c24b1 : decide (1 ≤ (wrap64 (1 + (t342.length : Int)))) = true := decide_eq_true c24
      by_cases c25 : (wrap64 (1 + (t342.length : Int))) ≤ (t334.length : Int)
      ·rw [if_pos c25] at H
       have c25b0 := eq_true c25
       have c25b1 : decide ((wrap64 (1 + (t342.length : Int))) ≤ (t334.length : Int)) = true := decide_eq_true c25
       obtain ⟨y347, hy347⟩ : ∃ y_ : List ByteArray, y_ = ((t334.take ((wrap64 (1 + (t342.length : Int))) : Int).toNat).drop 1) := ⟨_, rfl⟩
       replace H : ((impl_dataSum.f k y347).bind fun t351 => (impl_Recover.j0 k a1 t342 (t351 == t343) t334 t337)) = some (r1, r2) := bQ hy347 H
       have Ny347 := aM hy347
       clear hy347
       replace H := Option.bind_eq_some_iff.mp H
       obtain ⟨t351, A260, H⟩ := H
       try dsimp only at H
       have A26 := aM A260
       clear A260
       have H' := aM H
       clear H
       have hnb27 := NB340_325.out
       have hnc27 := NB325_340.out
       have hnb28 := NB340_326.out
       have hnc28 := NB326_340.out
       have hcz29_0 := cZ0 BK340
       have hcz29_1 := cZ1 BK340
       have hfz29_0 := fZ BK340 0
       have hfz29_1 := fZ BK340 1
       obtain ⟨Ao30, co30, eo30⟩ := Kd.R_slice HO346.out
       subst eo30
       have q31 : ((wrap64 (1 + (t342.length : Int))) : Int) ≤ ((t334.length : Int) : Int) := dT
       obtain ⟨i031, hi031, _, hsz31, _⟩ := info_parts info9
       have hroom31 : t334.length ≤ co17 := (Kd.R_reads' HO336.out).2.1
       have hC31 : Kd.C Kd.string _ (some ad341) t334.length t334 := (Kd.R_reads' HO336.out).2.2
       have ql31 : (1 : Int) ≤ ((wrap64 (1 + (t342.length : Int))) : Int) := dT
       have hcut31 := cut_mid (P := Try.prog) 22 9 .i64 .i64 Try.underlying22 hi031 1 hsz31 (some ad341) t334.length co17 1 (wrap64 (1 + (t342.length : Int))) (by omega) ql31 q31 hroom31
       have hr31 := Kd.C_mid (lo := (1 : Int).toNat) (hi := ((wrap64 (1 + (t342.length : Int))) : Int).toNat) (c := co17) hC31 (by omega) (by omega) hroom31
       obtain ⟨A31, hA31⟩ : ∃ A1, A1 = (if co17 = (1 : Int).toNat then (some ad341) else ((some ad341) : Option Addr).map (·.add ((1 : Int).toNat * 1))) := ⟨_, rfl⟩
       obtain ⟨c31, hc31⟩ : ∃ c1, c1 = co17 - (1 : Int).toNat := ⟨_, rfl⟩
       have hy31 : y347.length = ((wrap64 (1 + (t342.length : Int))) : Int).toNat - (1 : Int).toNat := (by rw [Ny347.out, List.length_drop, List.length_take]; exact congrArg (fun z_ => z_ - _) (Nat.min_eq_left (by omega)))
       rw [show ((t334).take ((wrap64 (1 + (t342.length : Int))) : Int).toNat).drop (1 : Int).toNat = y347 from Ny347.out.symm] at hr31
       replace hr31 : Kd.C Kd.string _ A31 y347.length y347 := (by rw [hA31]; exact hr31)
       rw [← hy31, ← hA31, ← hc31] at hcut31
       have HR350 := aM hr31
       have HC350 := aM (show y347.length ≤ c31 from by rw [hy31, hc31]; exact Nat.sub_le_sub_right (Nat.le_trans (by omega) hroom31) _)
       clear hr31 hC31 hroom31 hi031 hsz31 hc31
       have KY31 := aM hy31
       have KA31 := aM hA31
       clear hy31 hA31
       have KL31 := aM (show ((wrap64 (1 + (t342.length : Int))) : Int).toNat ≤ t334.length from by omega)
       have KM31 := aM (show 1 ≤ ((wrap64 (1 + (t342.length : Int))) : Int).toNat from by omega)
       replace q31 := eq_true q31
       go_wp2_with (first | (go_at_call 87; (with_reducible refine (impl_dataSum.calls k _ _ y347 t351 _ ?side1 ?side2 A26.out).mono ?_); (case side1 => repeat (first | exact (by repeat (first | (with_reducible exact HR350.out) | (with_reducible refine Kd.C_alloc ?_ _) | (with_reducible refine Kd.C_drewN ?_ _) | (with_reducible refine Kd.C_drew ?_) | exact HR350.out)) | (with_reducible refine Kd.C_alloc ?_ _) | (with_reducible refine Kd.C_drewN ?_ _) | (with_reducible refine Kd.C_drew ?_))); (case side2 => exact HC350.out); rintro e w32 ⟨rfl, hb⟩; have n_ := aI (rB HO336 hb) (aI (rB HO339 hb) (aI (rB HO346 hb) (aI (kB BK325 hb) (aI (kB BK326 hb) (aI (kB BK340 hb) (aI (aM (Kd.C_below (by repeat (first | (with_reducible exact HR350.out) | (with_reducible refine Kd.C_alloc ?_ _) | (with_reducible refine Kd.C_drewN ?_ _) | (with_reducible refine Kd.C_drew ?_) | exact HR350.out)) hb)) (sB HB hb))))))); clear HO336 HO339 HO346 BK325 BK326 BK340 HR350 HB; obtain ⟨HO336, HO339, HO346, BK325, BK326, BK340, HR350, HB⟩ := n_; (try clear hb)))
       go_meet
       case rel => exact ⟨_, ((t351 == t343)), (by first | rfl | (simp; done) | (simp [*]; done) | (simp; exact (by intro l_; cases l_ <;> rfl : ∀ l_ : List UInt8, l_.isEmpty = !(l_ != [])) _)), H', ⟨by first | omega | exact Nat.le_refl _⟩, ⟨rP HO346.out⟩, ⟨rP HO336.out⟩, ⟨rP HO339.out⟩, ⟨kP BK325⟩, ⟨kP BK326⟩, ⟨kP BK340⟩, ⟨bB⟩⟩
      rw [if_neg c25] at H
      exact absurd H (by simp)
     rw [if_neg c24] at H
     exact absurd H (by simp)
    replace c23 := Bool.eq_false_iff.mpr c23
    subst c23
    rw [if_neg (show ¬ (false = true) by decide)] at H
    have H' := aM H
    clear H
    go_wp2
    go_meet
    case rel => exact ⟨_, (false), (by first | rfl | (simp; done) | (simp [*]; done) | (simp; exact (by intro l_; cases l_ <;> rfl : ∀ l_ : List UInt8, l_.isEmpty = !(l_ != [])) _)), H', ⟨by first | omega | exact Nat.le_refl _⟩, ⟨rP HO346.out⟩, ⟨rP HO336.out⟩, ⟨rP HO339.out⟩, ⟨kP BK325⟩, ⟨kP BK326⟩, ⟨kP BK340⟩, ⟨bB⟩⟩
   case rest =>
    clear HC8
    try clear c1
    try clear c2
    try clear p2
    try clear c3
    try clear p3
    try clear q3
    try clear hx3
    try clear qi3
    try clear c4
    try clear c6
    try clear c6b0
    try clear c6b1
    try clear p6
    try clear c7
    try clear c8
    try clear c11
    try clear c18
    try clear c19
    try clear c23
    try clear c24
    try clear c24b0
    try clear c24b1
    try clear c25
    try clear c25b0
    try clear c25b1
    try clear c27
    try clear c28
    try clear c31
    try clear q31
    try clear hcz12_0
    try clear hcz12_1
    try clear hcz14_0
    try clear hcz14_1
    try clear hcz20_0
    try clear hcz20_1
    try clear hcz29_0
    try clear hcz29_1
    try clear hfz12_0
    try clear hfz12_1
    try clear hfz14_0
    try clear hfz14_1
    try clear hfz20_0
    try clear hfz20_1
    try clear hfz29_0
    try clear hfz29_1
    try clear hx341_0
    try clear p341
    try clear q31
    try clear q341
    obtain ⟨kq, x40_7, rfl, HA, HJ7, HO_6, HO_341000, HO_341001, BK325, BK326, BK340, HB⟩ := hcut
    cases kq with
    | zero => exact absurd HA.out (by simp [impl_Recover.j0])
    | succ kj7 =>
     have H := HA.out
     clear HA
     simp only [impl_Recover.j0] at H
     by_cases c33 : x40_7 = true
     ·subst c33
      rw [if_pos rfl] at H
      have H' := aM H
      clear H
      obtain ⟨Ao34, co34, eo34⟩ := Kd.R_slice HO_6.out
      subst eo34
      go_wp2
      go_loopg [43] kj7 (fun kq v43 w' => ∃ (x43_2 : Int) (x341000_2 : List ByteArray) (u341000 : Value), v43 = .int .i64 x43_2 ∧ Aside0 (impl_Recover.l0 kq a1 t342 (t342.length : Int) x43_2 x341000_2 t337 = some (r1, r2)) ∧ Aside0 (kq ≤ kj7) ∧ Aside0 (Kd.R (Kd.int .i64) 3 w' w.heap.size (fun _ => True) (.slice Ao34 t342.length co34) t342) ∧ Aside0 (Kd.R Kd.string 9 w' w.heap.size (fun _ => True) u341000 x341000_2) ∧ Aside0 (Kd.R k65 65 w' w.heap.size (fun _ => True) (.slice Ao21 t337.length co21) t337) ∧ Aside0 (w'.heap[gb325]? = some (.cells #[(.slice A0_0 l0_0.length c0_0), (.slice A0_1 l0_1.length c0_1)] 30 (0, 0))) ∧ Aside0 (w'.heap[gb326]? = some (.cells #[(.slice none 0 0), (.slice none 0 0)] 30 (0, 0))) ∧ Aside0 (w'.heap[gb340]? = some (.cells #[u341000, (.slice Ao21 t337.length co21)] 30 (0, 0))) ∧ Aside0 (Below w.heap.size w w'))
      case atStart => exact ⟨(0), (t334), (.slice (some ad341) t334.length co17), (by first | rfl | (simp; done) | (simp [*]; done) | (simp; exact (by intro l_; cases l_ <;> rfl : ∀ l_ : List UInt8, l_.isEmpty = !(l_ != [])) _)), H', ⟨Nat.le_refl _⟩, ⟨rP HO_6.out⟩, ⟨rP HO_341000.out⟩, ⟨rP HO_341001.out⟩, ⟨kP BK325⟩, ⟨kP BK326⟩, ⟨kP BK340⟩, ⟨bB⟩⟩
      case round =>
       clear H'
       try clear c1
       try clear c2
       try clear p2
       try clear c3
       try clear p3
       try clear q3
       try clear hx3
       try clear qi3
       try clear c4
       try clear c6
       try clear c6b0
       try clear c6b1
       try clear p6
       try clear c7
       try clear c8
       try clear c11
       try clear c18
       try clear c19
       try clear c23
       try clear c24
       try clear c24b0
       try clear c24b1
       try clear c25
       try clear c25b0
       try clear c25b1
       try clear c27
       try clear c28
       try clear c31
       try clear q31
       try clear c33
       try clear p34
       try clear q34
       try clear hx34
       try clear qi34
       try clear hcz12_0
       try clear hcz12_1
       try clear hcz14_0
       try clear hcz14_1
       try clear hcz20_0
       try clear hcz20_1
       try clear hcz29_0
       try clear hcz29_1
       try clear hfz12_0
       try clear hfz12_1
       try clear hfz14_0
       try clear hfz14_1
       try clear hfz20_0
       try clear hfz20_1
       try clear hfz29_0
       try clear hfz29_1
       try clear hx341_0
       try clear p2
       try clear p3
       try clear p341
       try clear p6
       try clear q3
       try clear q31
       try clear q341
       obtain ⟨x43_2, x341000_2, u341000, rfl, HA, HK2, HO_41, HO_341000, HO_341001, BK325, BK326, BK340, HB⟩ := hrel
       cases gk with
       | zero => exact absurd HA.out (by simp [impl_Recover.l0])
       | succ k2 =>
        have H := HA.out
        clear HA
        simp only [impl_Recover.l0] at H
        by_cases c35 : x43_2 < (t342.length : Int)
        ·rw [if_pos c35] at H
         have c35b0 : decide (x43_2 < (t342.length : Int)) = true := decide_eq_true c35
         clear c35
         by_cases c36 : 0 ≤ x43_2
         ·rw [if_pos c36] at H
          have c36b0 : decide (0 ≤ x43_2) = true := decide_eq_true c36
          clear c36
          by_cases c37 : x43_2 < (t342.length : Int)
          ·rw [if_pos c37] at H
           have c37b0 : decide (x43_2 < (t342.length : Int)) = true := decide_eq_true c37
           clear c37
           obtain ⟨ji38, hji38⟩ : ∃ j_ : Int, (wrap64 (1 + x43_2)) = j_ := ⟨_, rfl⟩
           replace H : (if 0 ≤ (ji38) then (if (ji38) < (x341000_2.length : Int) then (if 0 ≤ (wrap64 ((wrap64 (a1 + 1)) + (rd t342 x43_2))) then (if (wrap64 ((wrap64 (a1 + 1)) + (rd t342 x43_2))) < (x341000_2.length : Int) then (impl_Recover.l0 k2 a1 t342 (t342.length : Int) (wrap64 (x43_2 + 1)) (x341000_2.set ((wrap64 ((wrap64 (a1 + 1)) + (rd t342 x43_2))) : Int).toNat (rdOf ByteArray.empty x341000_2 (ji38))) t337) else (none)) else (none)) else (none)) else (none)) = some (r1, r2) := by first | (rw [hji38] at H; exact H) | (simp only [hji38] at H ⊢; exact H)
           have hji38w : (IntKind.i64.wrap (1 + x43_2)) = ji38 := (i64_w _).trans hji38
           by_cases c39 : 0 ≤ (ji38)
           ·rw [if_pos c39] at H
            have c39b0 : decide (0 ≤ (ji38)) = true := decide_eq_true c39
            clear c39
            by_cases c40 : (ji38) < (x341000_2.length : Int)
            ·rw [if_pos c40] at H
             have c40b0 : decide ((ji38) < (x341000_2.length : Int)) = true := decide_eq_true c40
             clear c40
             obtain ⟨ji41, hji41⟩ : ∃ j_ : Int, (wrap64 ((wrap64 (a1 + 1)) + (rd t342 x43_2))) = j_ := ⟨_, rfl⟩
             replace H : (if 0 ≤ (ji41) then (if (ji41) < (x341000_2.length : Int) then (impl_Recover.l0 k2 a1 t342 (t342.length : Int) (wrap64 (x43_2 + 1)) (x341000_2.set ((ji41) : Int).toNat (rdOf ByteArray.empty x341000_2 (ji38))) t337) else (none)) else (none)) = some (r1, r2) := by first | (rw [hji41] at H; exact H) | (simp only [hji41] at H ⊢; exact H)
             have hji41w : (IntKind.i64.wrap ((wrap64 (a1 + 1)) + (rd t342 x43_2))) = ji41 := (i64_w _).trans hji41
             by_cases c42 : 0 ≤ (ji41)
             ·rw [if_pos c42] at H
              have c42b0 : decide (0 ≤ (ji41)) = true := decide_eq_true c42
              clear c42
              by_cases c43 : (ji41) < (x341000_2.length : Int)
              ·rw [if_pos c43] at H
               have c43b0 : decide ((ji41) < (x341000_2.length : Int)) = true := decide_eq_true c43
               clear c43
               obtain ⟨y354, hy354⟩ : ∃ y_ : List ByteArray, y_ = (x341000_2.set ((ji41) : Int).toNat (rdOf ByteArray.empty x341000_2 (ji38))) := ⟨_, rfl⟩
               replace H : (impl_Recover.l0 k2 a1 t342 (t342.length : Int) (wrap64 (x43_2 + 1)) y354 t337) = some (r1, r2) := bQ hy354 H
               have Ny354 := aM hy354
               clear hy354
               have H' := aM H
               clear H
               have p352 : 0 ≤ (x43_2 : Int) := dT
               have q352 : x43_2 < (t342.length : Int) := dT
               obtain ⟨ad352, e352, hx352_0⟩ := Kd.at_int (Kd.R_reads' HO_41.out).2.2 x43_2 p352 q352
               cases e352
               replace p352 := eq_true p352
               replace q352 := eq_true q352
               try go_wp2
               have n_ := aI (aM (Kd.R_drew HO_41.out)) (aI (aM (Kd.R_drew HO_341000.out)) (aI (aM (Kd.R_drew HO_341001.out)) (aI (aM (blk_drew BK325.out)) (aI (aM (blk_drew BK326.out)) (aI (aM (blk_drew BK340.out)) (aM (below_drew1 HB.out)))))))
               clear HO_41 HO_341000 HO_341001 BK325 BK326 BK340 HB
               obtain ⟨HO_41, HO_341000, HO_341001, BK325, BK326, BK340, HB⟩ := n_
               obtain ⟨Ao46, co46, eo46⟩ := Kd.R_slice HO_341000.out
               (first | subst eo46 | (injection eo46 with f1_ f2_ f3_; have f4_ := f1_.symm; have f5_ := f3_.symm; clear f1_ f2_ f3_; subst f4_; subst f5_))
               have p353 : 0 ≤ ((ji38) : Int) := dT
               have q353 : (ji38) < (x341000_2.length : Int) := dT
               obtain ⟨ad353, e353, hx353_0⟩ := Kd.at_string (Kd.R_reads' HO_341000.out).2.2 (ji38) p353 q353
               cases e353
               replace p353 := eq_true p353
               replace q353 := eq_true q353
               have p44 : 0 ≤ ((ji41) : Int) := dT
               have q44 : ((ji41) : Int) < ((x341000_2.length : Int) : Int) := dT
               obtain ⟨go44, co44, eo44, gb44, gl44, cl44, HG44⟩ := Kd.R_form HO_341000.out (by omega)
               (first | cases eo44 | (injection eo44 with ea_ en_ ec_; (first | subst ea_ | (injection ea_ with ea_; subst ea_)); subst ec_; clear en_))
               have GB44 := aM gb44
               have GG44 := aM HG44
               clear gb44 gl44 HG44
               (first | simp only [add_plain] at hx353_0 | skip)
               obtain ⟨hx44_0, hf44_0⟩ := Kd.R_celln (⟨#[]⟩ : ByteArray) HO_341000.out ((ji41) : Int) p44 q44
               replace p44 := eq_true p44
               replace q44 := eq_true q44
               have HP47 := Kd.R_putn HO_341000.out ((ji41) : Int) (rdOf ByteArray.empty x341000_2 (ji38))
               rw [← Ny354.out] at HP47
               have HQ47 := aM HP47
               clear HP47
               refine start_ (n := 14) (S := fun w' => w'.cell? ⟨gb340, 0, none⟩ = some (.slice (some ⟨go44, 0, none⟩) x341000_2.length co46) ∧ w'.cell? ⟨gb340, 1, none⟩ = some (.slice Ao21 t337.length co21) ∧ w'.cell? ⟨go44, ((ji38)).toNat, none⟩ = some (.string (rdOf ByteArray.empty x341000_2 (ji38)))) (ds := [13]) #[tF, tF, tF, tF, tF, tF, tF, tF, tF, tF, tF, tF, tF, tF] (by kernel_rfl) rfl rfl ⟨(blk_cell BK340.out 0).trans rfl, (blk_cell BK340.out 1).trans rfl, hx353_0⟩ (fun hHeld => ?_); refine with_tabW impl_Recover.tab9 impl_Recover.bits9 (fun HT_ HW_ => ?_)
               generalize wr.drew = w45 at HO_41 HO_341000 HO_341001 BK325 BK326 BK340 HB GG44 HQ47 hf44_0 hx353_0 hx44_0 hHeld ⊢
               refine pY 0 48 #[tT, tF, tF, tF, tF, tF, tF, tF, tF, tF, tF, tF, tF, tF] ?_
               refine pY 2 50 #[tT, tF, tT, tF, tF, tF, tF, tF, tF, tF, tF, tF, tF, tF] ?_
               refine pY 3 51 #[tT, tF, tT, tT, tF, tF, tF, tF, tF, tF, tF, tF, tF, tF] ?_
               refine pY 4 52 #[tT, tF, tT, tT, tT, tF, tF, tF, tF, tF, tF, tF, tF, tF] ?_
               refine pY 5 53 #[tT, tF, tT, tT, tT, tT, tF, tF, tF, tF, tF, tF, tF, tF] ?_
               refine pY 6 54 #[tT, tF, tT, tT, tT, tT, tT, tF, tF, tF, tF, tF, tF, tF] ?_
               refine pY 8 56 #[tT, tF, tT, tT, tT, tT, tT, tF, tT, tF, tF, tF, tF, tF] ?_
               refine pY 9 57 #[tT, tF, tT, tT, tT, tT, tT, tF, tT, tT, tF, tF, tF, tF] ?_
               refine take_ (i := 1) (N := some 49) (v := ?_) (a' := ?_) #[tT, tT, tT, tT, tT, tT, tT, tF, tT, tT, tF, tF, tF, tF] rfl rfl (take_ofW HT_.out HW_.out (by kernel_rfl)) (fun _ _ _ h => h) (Or.inl ⟨by rfl, ?_⟩) hHeld ?_ ?_
               rotate_left
               ·rintro w' ⟨s0, s1, s2⟩
                go_simp
                with_reducible rfl
               rotate_left
               ·simp only [Act.put, List.setIfInBounds_toArray, List.set_cons_zero, List.set_cons_succ, i64_w, i32_w]
                rfl
               refine take_ (i := 7) (N := some 55) (v := ?_) (a' := ?_) #[tT, tT, tT, tT, tT, tT, tT, tT, tT, tT, tF, tF, tF, tF] rfl rfl (take_ofW HT_.out HW_.out (by kernel_rfl)) (fun _ _ _ h => h) (Or.inl ⟨by rfl, ?_⟩) hHeld ?_ ?_
               rotate_left
               ·rintro w' ⟨s0, s1, s2⟩
                go_simp
                with_reducible rfl
               rotate_left
               ·simp only [Act.put, List.setIfInBounds_toArray, List.set_cons_zero, List.set_cons_succ, i64_w, i32_w]
                rfl
               refine pY 10 58 #[tT, tT, tT, tT, tT, tT, tT, tT, tT, tT, tT, tF, tF, tF] ?_
               refine take_ (i := 11) (N := some 59) (v := ?_) (a' := ?_) #[tT, tT, tT, tT, tT, tT, tT, tT, tT, tT, tT, tT, tF, tF] rfl rfl (take_ofW HT_.out HW_.out (by kernel_rfl)) (fun _ _ _ h => h) (Or.inl ⟨by rfl, ?_⟩) hHeld ?_ ?_
               rotate_left
               ·rintro w' ⟨s0, s1, s2⟩
                go_simp
                with_reducible rfl
               rotate_left
               ·simp only [Act.put, List.setIfInBounds_toArray, List.set_cons_zero, List.set_cons_succ, i64_w, i32_w]
                rfl
               refine pY 12 60 #[tT, tT, tT, tT, tT, tT, tT, tT, tT, tT, tT, tT, tT, tF] ?_
               refine last_ (i := 13) (N := none) #[tT, tT, tT, tT, tT, tT, tT, tT, tT, tT, tT, tT, tT, tT] rfl rfl (one_of HT_.out (by kernel_rfl)) (by decide) (fun K hK => ?_)
               refine skip_ (w1 := ?_) (by rfl) rfl ?_ ?_
               rotate_left
               ·go_simp
                rfl
               refine hK.out _ _ ?_
               clear hK K
               refine done_ (done_of HT_.out (by kernel_rfl)) ?_
               try go_wp2
               go_roundg k2
               case measure => have := HJ7.out; have := HK2.out; omega
               case rel => exact ⟨(wrap64 (x43_2 + 1)), (y354), (.slice (some ⟨go44, 0, none⟩) x341000_2.length co46), (by first | rfl | (simp; done) | (simp [*]; done) | (simp; exact (by intro l_; cases l_ <;> rfl : ∀ l_ : List UInt8, l_.isEmpty = !(l_ != [])) _)), H', ⟨by have := HJ7.out; have := HK2.out; omega⟩, ⟨rP (Kd.R_mono (Kd.R_far (p := ⟨go44, ((ji41) : Int).toNat, none⟩) (Kd.R_types HO_41.out GG44.out (by decide)) (fun _ hk => hk.2) (.string (rdOf ByteArray.empty x341000_2 (ji38)))) (fun _ hk => trivial))⟩, ⟨rP HQ47.out⟩, ⟨rP (Kd.R_mono (Kd.R_far (p := ⟨go44, ((ji41) : Int).toNat, none⟩) (Kd.R_types HO_341001.out GG44.out (by decide)) (fun _ hk => hk.2) (.string (rdOf ByteArray.empty x341000_2 (ji38)))) (fun _ hk => trivial))⟩, ⟨by (with_reducible repeat (first | apply bN | apply bD | apply bA)); refine blk_far ?_ (by have h_ := Kd.R_ne HO_341000.out BK325.out (by decide); intro e_; exact h_ (by rw [e_]; rfl)) _; (with_reducible repeat (first | apply bN | apply bD | apply bA)); exact BK325.out⟩, ⟨by (with_reducible repeat (first | apply bN | apply bD | apply bA)); refine blk_far ?_ (by have h_ := Kd.R_ne HO_341000.out BK326.out (by decide); intro e_; exact h_ (by rw [e_]; rfl)) _; (with_reducible repeat (first | apply bN | apply bD | apply bA)); exact BK326.out⟩, ⟨by (with_reducible repeat (first | apply bN | apply bD | apply bA)); refine blk_far ?_ (by have h_ := Kd.R_ne HO_341000.out BK340.out (by decide); intro e_; exact h_ (by rw [e_]; rfl)) _; (with_reducible repeat (first | apply bN | apply bD | apply bA)); exact BK340.out⟩, ⟨bB⟩⟩
              ·rw [if_neg c43] at H
               exact absurd H (by simp)
             ·rw [if_neg c42] at H
              exact absurd H (by simp)
            ·rw [if_neg c40] at H
             exact absurd H (by simp)
           ·rw [if_neg c39] at H
            exact absurd H (by simp)
          ·rw [if_neg c37] at H
           exact absurd H (by simp)
         ·rw [if_neg c36] at H
          exact absurd H (by simp)
        ·rw [if_neg c35] at H
         have c35b0 : decide (x43_2 < (t342.length : Int)) = false := decide_eq_false c35
         clear c35
         by_cases c48 : 0 < (x341000_2.length : Int)
         ·rw [if_pos c48] at H
          have c48b0 : decide (0 < (x341000_2.length : Int)) = true := decide_eq_true c48
          have c48b1 : decide (0 < x341000_2.length) = true := decide_eq_true (by omega)
          clear c48
          obtain ⟨y355, hy355⟩ : ∃ y_ : List ByteArray, y_ = (x341000_2.set (0 : Int).toNat (⟨#[]⟩ : ByteArray)) := ⟨_, rfl⟩
          replace H : (some (y355, t337)) = some (r1, r2) := bQ hy355 H
          have Ny355 := aM hy355
          clear hy355
          simp only [Option.some.injEq, Prod.mk.injEq] at H
          obtain ⟨rfl, rfl⟩ := H
          have hnb50 := NB340_325.out
          have hnc50 := NB325_340.out
          have hnb51 := NB340_326.out
          have hnc51 := NB326_340.out
          have hcz52_0 := cZ0 BK340
          have hcz52_1 := cZ1 BK340
          have hfz52_0 := fZ BK340 0
          have hfz52_1 := fZ BK340 1
          have p49 : 0 ≤ (0 : Int) := (by omega)
          have q49 : (0 : Int) < ((x341000_2.length : Int) : Int) := dT
          have qi49 : (0 < x341000_2.length) = True := eq_true (by omega)
          obtain ⟨go49, co49, eo49, gb49, gl49, cl49, HG49⟩ := Kd.R_form HO_341000.out (by omega)
          (first | cases eo49 | (injection eo49 with ea_ en_ ec_; (first | subst ea_ | (injection ea_ with ea_; subst ea_)); subst ec_; clear en_))
          have GB49 := aM gb49
          have GG49 := aM HG49
          clear gb49 gl49 HG49
          obtain ⟨hx49_0, hf49_0⟩ := Kd.R_celln (⟨#[]⟩ : ByteArray) HO_341000.out (0 : Int) p49 q49
          (try rw [show ((0 : Int)).toNat = 0 from rfl] at hx49_0)
          (try simp only [Nat.reduceMul, Nat.zero_mul, Nat.zero_add, Nat.reduceAdd] at hx49_0)
          (try rw [show ((0 : Int)).toNat = 0 from rfl] at hf49_0)
          (try simp only [Nat.reduceMul, Nat.zero_mul, Nat.zero_add, Nat.reduceAdd] at hf49_0)
          replace p49 := eq_true p49
          replace q49 := eq_true q49
          have HP53 := Kd.R_putg HO_341000.out (0 : Int) (⟨#[]⟩ : ByteArray)
          go_wp2_with (first | ((with_reducible refine gate_store (t := 9) (p := 64) rfl ?_); refine store_event (t := 9) (p := 64) (v := ?vo_w54) (w1 := (wr.setCell ⟨go49, (0 : Int).toNat, none⟩ (.string (⟨#[]⟩ : ByteArray)))) ?hg ?ho ?hn ?hr ?_; (case ho => rfl); (case hg => rfl); (case hn => rfl); (case hr => first | (go_simp; done) | (go_simp; rfl)); intro w54 hw; have hg : wr.grownBy w54 (some go49) := (by rw [hw]; exact HP53.2); have hp_ : Kd.R Kd.string 9 w54 w.heap.size (fun _ => True) (.slice (some ⟨go49, 0, none⟩) x341000_2.length co49) y355 := (by rw [hw, Ny355.out]; exact HP53.1); clear HP53; have n_ := aI (aM (Kd.R_over' (v := (.slice (some ⟨go49, 0, none⟩) x341000_2.length co49)) (rP HO_41.out) (Kd.R_typed HO_341000.out) (by decide) hg)) (aI (aM (hp_)) (aI (aM (Kd.R_over' (v := (.slice (some ⟨go49, 0, none⟩) x341000_2.length co49)) (rP HO_341001.out) (Kd.R_typed HO_341000.out) (by decide) hg)) (aI (aM (blk_grown (g := gb325) (o := .cells #[.slice A0_0 l0_0.length c0_0, .slice A0_1 l0_1.length c0_1] 30 (0, 0)) (kP BK325) hg (Kd.R_ne HO_341000.out BK325.out (by decide)))) (aI (aM (blk_grown (g := gb326) (o := .cells #[.slice none 0 0, .slice none 0 0] 30 (0, 0)) (kP BK326) hg (Kd.R_ne HO_341000.out BK326.out (by decide)))) (aI (aM (blk_grown (g := gb340) (o := .cells #[.slice (some ⟨go49, 0, none⟩) x341000_2.length co49, .slice Ao21 t337.length co21] 30 (0, 0)) (kP BK340) hg (Kd.R_ne HO_341000.out BK340.out (by decide)))) (aM ((by rw [hw]; exact below_set (HB.out) GB49.out : Below w.heap.size w w54)))))))); clear HO_41 HO_341000 HO_341001 BK325 BK326 BK340 HB; obtain ⟨HO_41, HO_341000, HO_341001, BK325, BK326, BK340, HB⟩ := n_; (try clear hw); have hcz55_0 := cZ0 BK340; have hcz55_1 := cZ1 BK340; have hfz55_0 := fZ BK340 0; have hfz55_1 := fZ BK340 1; have hnb56 := NB326_325.out; have hnc56 := NB325_326.out; have hcz57_0 := cZ0 BK326; have hcz57_1 := cZ1 BK326; have hfz57_0 := fZ BK326 0; have hfz57_1 := fZ BK326 1))
          refine bodyPost_ret (results_cell_row rfl _ _ gb326 30 #[.slice (some ⟨go49, 0, none⟩) x341000_2.length co49, .slice Ao21 t337.length co21] (0, 0) _ rfl (by (with_reducible repeat (first | apply bN | apply bD | apply bA)); refine blk_put (cs := #[.slice (some ⟨go49, 0, none⟩) x341000_2.length co49, .slice none 0 0]) ?_ 1 _ rfl; (with_reducible repeat (first | apply bN | apply bD | apply bA)); refine blk_put (cs := #[.slice none 0 0, .slice none 0 0]) ?_ 0 _ rfl; (with_reducible repeat (first | apply bN | apply bD | apply bA)); exact BK326.out) Try.underlying30 rfl (by kernel_rfl)) rfl ?_
          exact ⟨_, _, eW, by (with_reducible repeat (first | apply Kd.R_alloc | apply Kd.R_drewN | apply Kd.R_drew)); exact Kd.R_mono (Kd.R_far (p := ⟨gb326, 1, none⟩) (Kd.R_far (p := ⟨gb326, 0, none⟩) (Kd.R_types HO_341000.out BK326.out (by decide)) (fun _ hk => hk.2) (.slice (some ⟨go49, 0, none⟩) x341000_2.length co49)) (fun _ hk => hk.2) (.slice Ao21 t337.length co21)) (fun _ hk => trivial), by (with_reducible repeat (first | apply Kd.R_alloc | apply Kd.R_drewN | apply Kd.R_drew)); exact Kd.R_mono (Kd.R_far (p := ⟨gb326, 1, none⟩) (Kd.R_far (p := ⟨gb326, 0, none⟩) (Kd.R_types HO_341001.out BK326.out (by decide)) (fun _ hk => hk.2) (.slice (some ⟨go49, 0, none⟩) x341000_2.length co49)) (fun _ hk => hk.2) (.slice Ao21 t337.length co21)) (fun _ hk => trivial), bB⟩
         ·rw [if_neg c48] at H
          exact absurd H (by simp)
     ·replace c33 := Bool.eq_false_iff.mpr c33
      subst c33
      rw [if_neg (show ¬ (false = true) by decide)] at H
      by_cases c58 : 0 < (t334.length : Int)
      ·rw [if_pos c58] at H
       have c58b0 : decide (0 < (t334.length : Int)) = true := decide_eq_true c58
       have c58b1 : decide (0 < t334.length) = true := decide_eq_true (by omega)
       clear c58
       obtain ⟨y356, hy356⟩ : ∃ y_ : List ByteArray, y_ = (t334.set (0 : Int).toNat (⟨#[]⟩ : ByteArray)) := ⟨_, rfl⟩
       replace H : (some (y356, t337)) = some (r1, r2) := bQ hy356 H
       have Ny356 := aM hy356
       clear hy356
       simp only [Option.some.injEq, Prod.mk.injEq] at H
       obtain ⟨rfl, rfl⟩ := H
       have hnb60 := NB340_325.out
       have hnc60 := NB325_340.out
       have hnb61 := NB340_326.out
       have hnc61 := NB326_340.out
       have hcz62_0 := cZ0 BK340
       have hcz62_1 := cZ1 BK340
       have hfz62_0 := fZ BK340 0
       have hfz62_1 := fZ BK340 1
       have p59 : 0 ≤ (0 : Int) := (by omega)
       have q59 : (0 : Int) < ((t334.length : Int) : Int) := dT
       have qi59 : (0 < t334.length) = True := eq_true (by omega)
       obtain ⟨go59, co59, eo59, gb59, gl59, cl59, HG59⟩ := Kd.R_form HO_341000.out (by omega)
       (first | cases eo59 | (injection eo59 with ea_ en_ ec_; (first | subst ea_ | (injection ea_ with ea_; subst ea_)); subst ec_; clear en_))
       have GB59 := aM gb59
       have GG59 := aM HG59
       clear gb59 gl59 HG59
       (first | simp only [add_plain] at hx341_0 | skip)
       obtain ⟨hx59_0, hf59_0⟩ := Kd.R_celln (⟨#[]⟩ : ByteArray) HO_341000.out (0 : Int) p59 q59
       (try rw [show ((0 : Int)).toNat = 0 from rfl] at hx59_0)
       (try simp only [Nat.reduceMul, Nat.zero_mul, Nat.zero_add, Nat.reduceAdd] at hx59_0)
       (try rw [show ((0 : Int)).toNat = 0 from rfl] at hf59_0)
       (try simp only [Nat.reduceMul, Nat.zero_mul, Nat.zero_add, Nat.reduceAdd] at hf59_0)
       replace p59 := eq_true p59
       replace q59 := eq_true q59
       have HP63 := Kd.R_putg HO_341000.out (0 : Int) (⟨#[]⟩ : ByteArray)
       go_wp2_with (first | ((with_reducible refine gate_store (t := 9) (p := 64) rfl ?_); refine store_event (t := 9) (p := 64) (v := ?vo_w64) (w1 := (wc.setCell ⟨go59, (0 : Int).toNat, none⟩ (.string (⟨#[]⟩ : ByteArray)))) ?hg ?ho ?hn ?hr ?_; (case ho => rfl); (case hg => rfl); (case hn => rfl); (case hr => first | (go_simp; done) | (go_simp; rfl)); intro w64 hw; have hg : wc.grownBy w64 (some go59) := (by rw [hw]; exact HP63.2); have hp_ : Kd.R Kd.string 9 w64 w.heap.size (fun _ => True) (.slice (some ⟨go59, 0, none⟩) t334.length co17) y356 := (by rw [hw, Ny356.out]; exact HP63.1); clear HP63; have n_ := aI (aM (Kd.R_over' (v := (.slice (some ⟨go59, 0, none⟩) t334.length co17)) (rP HO_6.out) (Kd.R_typed HO_341000.out) (by decide) hg)) (aI (aM (hp_)) (aI (aM (Kd.R_over' (v := (.slice (some ⟨go59, 0, none⟩) t334.length co17)) (rP HO_341001.out) (Kd.R_typed HO_341000.out) (by decide) hg)) (aI (aM (blk_grown (g := gb325) (o := .cells #[.slice A0_0 l0_0.length c0_0, .slice A0_1 l0_1.length c0_1] 30 (0, 0)) (kP BK325) hg (Kd.R_ne HO_341000.out BK325.out (by decide)))) (aI (aM (blk_grown (g := gb326) (o := .cells #[.slice none 0 0, .slice none 0 0] 30 (0, 0)) (kP BK326) hg (Kd.R_ne HO_341000.out BK326.out (by decide)))) (aI (aM (blk_grown (g := gb340) (o := .cells #[.slice (some ⟨go59, 0, none⟩) t334.length co17, .slice Ao21 t337.length co21] 30 (0, 0)) (kP BK340) hg (Kd.R_ne HO_341000.out BK340.out (by decide)))) (aM ((by rw [hw]; exact below_set (HB.out) GB59.out : Below w.heap.size w w64)))))))); clear HO_6 HO_341000 HO_341001 BK325 BK326 BK340 HB; obtain ⟨HO_6, HO_341000, HO_341001, BK325, BK326, BK340, HB⟩ := n_; (try clear hw); have hcz65_0 := cZ0 BK340; have hcz65_1 := cZ1 BK340; have hfz65_0 := fZ BK340 0; have hfz65_1 := fZ BK340 1; have hnb66 := NB326_325.out; have hnc66 := NB325_326.out; have hcz67_0 := cZ0 BK326; have hcz67_1 := cZ1 BK326; have hfz67_0 := fZ BK326 0; have hfz67_1 := fZ BK326 1))
       refine bodyPost_ret (results_cell_row rfl _ _ gb326 30 #[.slice (some ⟨go59, 0, none⟩) t334.length co17, .slice Ao21 t337.length co21] (0, 0) _ rfl (by (with_reducible repeat (first | apply bN | apply bD | apply bA)); refine blk_put (cs := #[.slice (some ⟨go59, 0, none⟩) t334.length co17, .slice none 0 0]) ?_ 1 _ rfl; (with_reducible repeat (first | apply bN | apply bD | apply bA)); refine blk_put (cs := #[.slice none 0 0, .slice none 0 0]) ?_ 0 _ rfl; (with_reducible repeat (first | apply bN | apply bD | apply bA)); exact BK326.out) Try.underlying30 rfl (by kernel_rfl)) rfl ?_
       exact ⟨_, _, eW, by (with_reducible repeat (first | apply Kd.R_alloc | apply Kd.R_drewN | apply Kd.R_drew)); exact Kd.R_mono (Kd.R_far (p := ⟨gb326, 1, none⟩) (Kd.R_far (p := ⟨gb326, 0, none⟩) (Kd.R_types HO_341000.out BK326.out (by decide)) (fun _ hk => hk.2) (.slice (some ⟨go59, 0, none⟩) t334.length co17)) (fun _ hk => hk.2) (.slice Ao21 t337.length co21)) (fun _ hk => trivial), by (with_reducible repeat (first | apply Kd.R_alloc | apply Kd.R_drewN | apply Kd.R_drew)); exact Kd.R_mono (Kd.R_far (p := ⟨gb326, 1, none⟩) (Kd.R_far (p := ⟨gb326, 0, none⟩) (Kd.R_types HO_341001.out BK326.out (by decide)) (fun _ hk => hk.2) (.slice (some ⟨go59, 0, none⟩) t334.length co17)) (fun _ hk => hk.2) (.slice Ao21 t337.length co21)) (fun _ hk => trivial), bB⟩
      ·rw [if_neg c58] at H
       exact absurd H (by simp)
  rw [if_neg c6] at H
  exact absurd H (by simp)
 replace c4 := Bool.eq_false_iff.mpr c4
 subst c4
 rw [if_neg (show ¬ (false = true) by decide)] at H
 replace H := Option.bind_eq_some_iff.mp H
 obtain ⟨⟨t328, t331⟩, A680, H⟩ := H
 try dsimp only at H
 have A68 := aM A680
 clear A680
 simp only [Option.some.injEq, Prod.mk.injEq] at H
 obtain ⟨rfl, rfl⟩ := H
 go_enter Try.func45, Try.ntmps45
 go_wp2_with (first | ((with_reducible refine gate_dst (N := 2) rfl ?_); (try (refine gate_guard (by rfl) ?_; dsimp only)); refine box_event ?hg (N := 2) ?hd (cs := #[.slice A0_0 l0_0.length c0_0, .slice A0_1 l0_1.length c0_1]) (t := 30) ?hr ?_; (case hd => rfl); (case hg => rfl); (case hr => first | (go_simp; done) | (go_simp; rfl)); intro gb325 hg w69 hbox hb; have n_ := aI (sB HB hb) (aI (aM hbox) (aI (gE HB hg) (gE HB hg))); clear HB; obtain ⟨HB, BK325, GW325, GE325⟩ := n_; (try clear hb hbox hg)) | ((with_reducible refine gate_dst (N := 4) rfl ?_); (try (refine gate_guard (by rfl) ?_; dsimp only)); refine box_event ?hg (N := 4) ?hd (cs := #[.slice none 0 0, .slice none 0 0]) (t := 30) ?hr ?_; (case hd => rfl); (case hg => rfl); (case hr => first | (go_simp; done) | (go_simp; rfl)); intro gb326 hg w70 hbox hb; have n_ := aI (kB BK325 hb) (aI (sB HB hb) (aI (aM hbox) (aI (gE HB hg) (aI (gE HB hg) (aI (nL BK325 hg) (nG BK325 hg)))))); clear BK325 HB; obtain ⟨BK325, HB, BK326, GW326, GE326, NB325_326, NB326_325⟩ := n_; (try clear hb hbox hg); have hnb71 := NB325_326.out; have hnc71 := NB326_325.out; have hcz72_0 := cZ0 BK325; have hcz72_1 := cZ1 BK325; have hfz72_0 := fZ BK325 0; have hfz72_1 := fZ BK325 1) | ((with_reducible refine gate_callee (f := 71) rfl ?_); refine gL (some 13) Try.func71 #[.agg #[.slice A0_0 l0_0.length c0_0, .slice A0_1 l0_1.length c0_1], .int .i64 a1] ?_; (with_reducible refine (impl_homed.calls _ _ l0_0 _ _ l0_1 a1 false _ ?side1 ?side2 ?side3 ?side4 A3.out).mono ?_); (case side1 => exact cS HR0_0 HB); (case side2 => exact HC0_0.out); (case side3 => exact cS HR0_1 HB); (case side4 => exact HC0_1.out); rintro e w73 ⟨rfl, hb⟩; refine ⟨_, rfl, ?_⟩; have n_ := aI (kB BK325 hb) (aI (kB BK326 hb) (sB HB hb)); clear BK325 BK326 HB; obtain ⟨BK325, BK326, HB⟩ := n_; (try clear hb); have hcz74_0 := cZ0 BK325; have hcz74_1 := cZ1 BK325; have hfz74_0 := fZ BK325 0; have hfz74_1 := fZ BK325 1) | ((with_reducible refine gate_callee (f := 76) rfl ?_); refine gL (some 16) Try.func76 #[.agg #[.slice A0_0 l0_0.length c0_0, .slice A0_1 l0_1.length c0_1]] ?_; (with_reducible refine (impl_cloneDisk.calls _ _ l0_0 _ _ l0_1 t328 t331 _ ?side1 ?side2 ?side3 ?side4 A68.out).mono ?_); (case side1 => exact cS HR0_0 HB); (case side2 => exact HC0_0.out); (case side3 => exact cS HR0_1 HB); (case side4 => exact HC0_1.out); rintro e w75 ⟨v329, v332, rfl, ho0, ho1, hb⟩; refine ⟨_, rfl, ?_⟩; have n_ := aI (lR HB ho0) (aI (lR HB ho1) (aI (kB BK325 hb) (aI (kB BK326 hb) (sB HB hb)))); clear BK325 BK326 HB; obtain ⟨HO330, HO333, BK325, BK326, HB⟩ := n_; (try clear hb ho0 ho1); obtain ⟨Ao76, co76, eo76⟩ := Kd.R_slice HO330.out; subst eo76; have hcz77_0 := cZ0 BK326; have hcz77_1 := cZ1 BK326; have hfz77_0 := fZ BK326 0; have hfz77_1 := fZ BK326 1; obtain ⟨Ao78, co78, eo78⟩ := Kd.R_slice HO333.out; subst eo78))
 refine bodyPost_ret (results_cell_row rfl _ _ gb326 30 #[.slice Ao76 t328.length co76, .slice Ao78 t331.length co78] (0, 0) _ rfl (by (with_reducible repeat (first | apply bN | apply bD | apply bA)); refine blk_put (cs := #[.slice Ao76 t328.length co76, .slice none 0 0]) ?_ 1 _ rfl; (with_reducible repeat (first | apply bN | apply bD | apply bA)); refine blk_put (cs := #[.slice none 0 0, .slice none 0 0]) ?_ 0 _ rfl; (with_reducible repeat (first | apply bN | apply bD | apply bA)); exact BK326.out) Try.underlying30 rfl (by kernel_rfl)) rfl ?_
 exact ⟨_, _, eW, by (with_reducible repeat (first | apply Kd.R_alloc | apply Kd.R_drewN | apply Kd.R_drew)); exact Kd.R_mono (Kd.R_far (p := ⟨gb326, 1, none⟩) (Kd.R_far (p := ⟨gb326, 0, none⟩) (Kd.R_types HO330.out BK326.out (by decide)) (fun _ hk => hk.2) (.slice Ao76 t328.length co76)) (fun _ hk => hk.2) (.slice Ao78 t331.length co78)) (fun _ hk => trivial), by (with_reducible repeat (first | apply Kd.R_alloc | apply Kd.R_drewN | apply Kd.R_drew)); exact Kd.R_mono (Kd.R_far (p := ⟨gb326, 1, none⟩) (Kd.R_far (p := ⟨gb326, 0, none⟩) (Kd.R_types HO333.out BK326.out (by decide)) (fun _ hk => hk.2) (.slice Ao76 t328.length co76)) (fun _ hk => hk.2) (.slice Ao78 t331.length co78)) (fun _ hk => trivial), bB⟩

/-! ### laws_big: function 46 -/
def laws_big.f (l0 : List Int) : Option (Bool) := some (decide ((l0.length : Int) > 1048576))
set_option maxHeartbeats 8000000 in
set_option maxRecDepth 100000 in
theorem laws_big.calls (A0 : Option Addr) (c0 : Nat) (l0 : List Int) (r : Bool) (w : World) (hr0 : Kd.C (Kd.int .u8) w A0 l0.length l0) (hc0 : l0.length ≤ c0) (h : laws_big.f l0 = some r) :
  Calls Try.prog 46 #[.slice A0 l0.length c0] w fun e w' => e = .returned (.bool r) ∧ Drawn0 w w' := by
 have HR0 := aM hr0
 have HC0 := aM hc0
 clear hr0 hc0
 unfold laws_big.f at h
 have H := h
 clear h
 obtain rfl := Option.some.inj H
 go_enter Try.func46, Try.ntmps46
 go_wp2
 go_ret
 exact ⟨by first | rfl | (simp; done) | (simp [*]; done), by repeat (first | exact Drawn0.refl _ | apply Drawn0.step)⟩

/-! ### spec_l1Texts: function 91 -/
def spec_l1Texts.l0 : Nat → List ByteArray → List ByteArray → Int → Option (Bool)
 | 0, _, _, _ => none
 | k + 1, x0, x1, x5 => if x5 < (x0.length : Int) then (if 0 ≤ x5 then (if x5 < (x1.length : Int) then (if (rdOf ByteArray.empty x0 x5).toList = (rdOf ByteArray.empty x1 x5).toList then (spec_l1Texts.l0 k x0 x1 (wrap64 (x5 + 1))) else (some false)) else (none)) else (none)) else (some true)
def spec_l1Texts.f (k : Nat) (l0 : List ByteArray) (l1 : List ByteArray) : Option (Bool) := if (l0.length : Int) = (l1.length : Int) then (spec_l1Texts.l0 k l0 l1 0) else (some false)
theorem spec_l1Texts.mono_l : ∀ k, (∀ y0 y1 y2, LeO (spec_l1Texts.l0 k y0 y1 y2) (spec_l1Texts.l0 (k + 1) y0 y1 y2))
 | 0 => fun _ _ _ r h => by simp [spec_l1Texts.l0] at h
 | k + 1 => by
  have ih0 := spec_l1Texts.mono_l k
  ·intro y0 y1 y2
   unfold spec_l1Texts.l0
   exact mM
theorem spec_l1Texts.mono : ∀ a0 a1 k, LeO (spec_l1Texts.f k a0 a1) (spec_l1Texts.f (k + 1) a0 a1) := by
 intro a0 a1 k
 have ih0 := spec_l1Texts.mono_l k
 unfold spec_l1Texts.f
 exact mM
set_option maxHeartbeats 8000000 in
set_option maxRecDepth 100000 in
theorem spec_l1Texts.calls (k : Nat) (A0 : Option Addr) (c0 : Nat) (l0 : List ByteArray) (A1 : Option Addr) (c1 : Nat) (l1 : List ByteArray) (r : Bool) (w : World) (hr0 : Kd.C Kd.string w A0 l0.length l0) (hc0 : l0.length ≤ c0) (hr1 : Kd.C Kd.string w A1 l1.length l1) (hc1 : l1.length ≤ c1) (h : spec_l1Texts.f k l0 l1 = some r) :
  Calls Try.prog 91 #[.slice A0 l0.length c0, .slice A1 l1.length c1] w fun e w' => e = .returned (.bool r) ∧ Drawn0 w w' := by
 have HR0 := aM hr0
 have HC0 := aM hc0
 clear hr0 hc0
 have HR1 := aM hr1
 have HC1 := aM hc1
 clear hr1 hc1
 unfold spec_l1Texts.f at h
 have H := h
 clear h
 by_cases c3 : (l0.length : Int) = (l1.length : Int)
 ·rw [if_pos c3] at H
  have c3b0 : ((l0.length : Int) == (l1.length : Int)) = true := beq_iff_eq.mpr c3
  have c3b1 : ((l0.length : Int) != (l1.length : Int)) = false := bne_eq_false_iff_eq.mpr c3
  have c3b2 : (l0.length == l1.length) = true := by first | simpa using c3 | (simp at c3 ⊢; omega)
  clear c3
  have H' := aM H
  clear H
  go_enter Try.func91, Try.ntmps91
  go_wp2
  repeat (go_quiet (fail); try go_wp2)
  go_loopg [5] k (fun kq v5 w' => ∃ (x5_1 : Int), v5 = .int .i64 x5_1 ∧ Aside0 (spec_l1Texts.l0 kq l0 l1 x5_1 = some r) ∧ Aside0 (kq ≤ k) ∧ Drawn0 w w')
  case atStart => exact ⟨(0), (by first | rfl | (simp; done) | (simp [*]; done) | (simp; exact (by intro l_; cases l_ <;> rfl : ∀ l_ : List UInt8, l_.isEmpty = !(l_ != [])) _)), H', ⟨Nat.le_refl _⟩, by repeat (first | exact Drawn0.refl _ | apply Drawn0.step)⟩
  case round =>
   clear H'
   try clear c1
   try clear p2
   try clear c3
   try clear c3b0
   try clear c3b1
   try clear c3b2
   obtain ⟨x5_1, rfl, HA, HK1, ⟨m1, rfl⟩⟩ := hrel
   cases gk with
   | zero => exact absurd HA.out (by simp [spec_l1Texts.l0])
   | succ k1 =>
    have H := HA.out
    clear HA
    simp only [spec_l1Texts.l0] at H
    by_cases c4 : x5_1 < (l0.length : Int)
    ·rw [if_pos c4] at H
     have c4b0 : decide (x5_1 < (l0.length : Int)) = true := decide_eq_true c4
     clear c4
     by_cases c5 : 0 ≤ x5_1
     ·rw [if_pos c5] at H
      have c5b0 : decide (0 ≤ x5_1) = true := decide_eq_true c5
      clear c5
      by_cases c6 : x5_1 < (l1.length : Int)
      ·rw [if_pos c6] at H
       have c6b0 : decide (x5_1 < (l1.length : Int)) = true := decide_eq_true c6
       clear c6
       by_cases c7 : (rdOf ByteArray.empty l0 x5_1).toList = (rdOf ByteArray.empty l1 x5_1).toList
       ·rw [if_pos c7] at H
        have c7b0 : ((rdOf ByteArray.empty l0 x5_1).toList == (rdOf ByteArray.empty l1 x5_1).toList) = true := beq_iff_eq.mpr c7
        have c7b1 : ((rdOf ByteArray.empty l0 x5_1).toList != (rdOf ByteArray.empty l1 x5_1).toList) = false := bne_eq_false_iff_eq.mpr c7
        clear c7
        have H' := aM H
        clear H
        have p357 : 0 ≤ (x5_1 : Int) := dT
        have q357 : x5_1 < (l0.length : Int) := dT
        obtain ⟨ad357, e357, hx357_0⟩ := Kd.at_string HR0.out x5_1 p357 q357
        cases e357
        replace p357 := eq_true p357
        replace q357 := eq_true q357
        have p358 : 0 ≤ (x5_1 : Int) := dT
        have q358 : x5_1 < (l1.length : Int) := dT
        obtain ⟨ad358, e358, hx358_0⟩ := Kd.at_string HR1.out x5_1 p358 q358
        cases e358
        replace p358 := eq_true p358
        replace q358 := eq_true q358
        go_wp2
        repeat (go_quiet (fail); try go_wp2)
        go_roundg k1
        case measure => have := HK1.out; omega
        case rel => exact ⟨(wrap64 (x5_1 + 1)), (by first | rfl | (simp; done) | (simp [*]; done) | (simp; exact (by intro l_; cases l_ <;> rfl : ∀ l_ : List UInt8, l_.isEmpty = !(l_ != [])) _)), H', ⟨by have := HK1.out; omega⟩, by repeat (first | exact Drawn0.refl _ | apply Drawn0.step)⟩
       ·rw [if_neg c7] at H
        have c7b0 : ((rdOf ByteArray.empty l0 x5_1).toList == (rdOf ByteArray.empty l1 x5_1).toList) = false := beq_eq_false_iff_ne.mpr c7
        have c7b1 : ((rdOf ByteArray.empty l0 x5_1).toList != (rdOf ByteArray.empty l1 x5_1).toList) = true := bne_iff_ne.mpr c7
        obtain rfl := Option.some.inj H
        have p357 : 0 ≤ (x5_1 : Int) := dT
        have q357 : x5_1 < (l0.length : Int) := dT
        obtain ⟨ad357, e357, hx357_0⟩ := Kd.at_string HR0.out x5_1 p357 q357
        cases e357
        replace p357 := eq_true p357
        replace q357 := eq_true q357
        have p358 : 0 ≤ (x5_1 : Int) := dT
        have q358 : x5_1 < (l1.length : Int) := dT
        obtain ⟨ad358, e358, hx358_0⟩ := Kd.at_string HR1.out x5_1 p358 q358
        cases e358
        replace p358 := eq_true p358
        replace q358 := eq_true q358
        go_wp2
        repeat (go_quiet (fail); try go_wp2)
        go_ret
        exact ⟨by first | rfl | (simp; done) | (simp [*]; done), by repeat (first | exact Drawn0.refl _ | apply Drawn0.step)⟩
      ·rw [if_neg c6] at H
       exact absurd H (by simp)
     ·rw [if_neg c5] at H
      exact absurd H (by simp)
    ·rw [if_neg c4] at H
     have c4b0 : decide (x5_1 < (l0.length : Int)) = false := decide_eq_false c4
     clear c4
     obtain rfl := Option.some.inj H
     go_wp2
     repeat (go_quiet (fail); try go_wp2)
     go_ret
     exact ⟨by first | rfl | (simp; done) | (simp [*]; done), by repeat (first | exact Drawn0.refl _ | apply Drawn0.step)⟩
 rw [if_neg c3] at H
 have c3b0 : ((l0.length : Int) == (l1.length : Int)) = false := beq_eq_false_iff_ne.mpr c3
 have c3b1 : ((l0.length : Int) != (l1.length : Int)) = true := bne_iff_ne.mpr c3
 have c3b2 : (l0.length == l1.length) = false := by first | simpa using c3 | (simp at c3 ⊢; omega)
 obtain rfl := Option.some.inj H
 go_enter Try.func91, Try.ntmps91
 go_wp2
 repeat (go_quiet (fail); try go_wp2)
 go_ret
 exact ⟨by first | rfl | (simp; done) | (simp [*]; done), by repeat (first | exact Drawn0.refl _ | apply Drawn0.step)⟩

/-! ### spec_l3Puts: function 92 -/
def spec_l3Puts.l0 : Nat → List (S65) → List (S65) → Int → Option (Bool)
 | 0, _, _, _ => none
 | k + 1, x0, x1, x5 => if x5 < (x0.length : Int) then (if 0 ≤ x5 then (if x5 < (x1.length : Int) then (if (!(((rd_T65 x0 x5).f0) == ((rd_T65 x1 x5).f0)) || (!((((rd_T65 x0 x5).f1).toList) == (((rd_T65 x1 x5).f1).toList)))) = true then (some false) else (spec_l3Puts.l0 k x0 x1 (wrap64 (x5 + 1)))) else (none)) else (none)) else (some true)
def spec_l3Puts.f (k : Nat) (l0 : List (S65)) (l1 : List (S65)) : Option (Bool) := if (l0.length : Int) = (l1.length : Int) then (spec_l3Puts.l0 k l0 l1 0) else (some false)
theorem spec_l3Puts.mono_l : ∀ k, (∀ y0 y1 y2, LeO (spec_l3Puts.l0 k y0 y1 y2) (spec_l3Puts.l0 (k + 1) y0 y1 y2))
 | 0 => fun _ _ _ r h => by simp [spec_l3Puts.l0] at h
 | k + 1 => by
  have ih0 := spec_l3Puts.mono_l k
  ·intro y0 y1 y2
   unfold spec_l3Puts.l0
   exact mM
theorem spec_l3Puts.mono : ∀ a0 a1 k, LeO (spec_l3Puts.f k a0 a1) (spec_l3Puts.f (k + 1) a0 a1) := by
 intro a0 a1 k
 have ih0 := spec_l3Puts.mono_l k
 unfold spec_l3Puts.f
 exact mM
set_option maxHeartbeats 8000000 in
set_option maxRecDepth 100000 in
theorem spec_l3Puts.calls (k : Nat) (A0 : Option Addr) (c0 : Nat) (l0 : List (S65)) (A1 : Option Addr) (c1 : Nat) (l1 : List (S65)) (r : Bool) (w : World) (hr0 : Kd.C k65 w A0 l0.length l0) (hc0 : l0.length ≤ c0) (hr1 : Kd.C k65 w A1 l1.length l1) (hc1 : l1.length ≤ c1) (h : spec_l3Puts.f k l0 l1 = some r) :
  Calls Try.prog 92 #[.slice A0 l0.length c0, .slice A1 l1.length c1] w fun e w' => e = .returned (.bool r) ∧ Drawn0 w w' := by
 have hu65 := Try.underlying65
 have HR0 := aM hr0
 have HC0 := aM hc0
 clear hr0 hc0
 have HR1 := aM hr1
 have HC1 := aM hc1
 clear hr1 hc1
 unfold spec_l3Puts.f at h
 have H := h
 clear h
 by_cases c3 : (l0.length : Int) = (l1.length : Int)
 ·rw [if_pos c3] at H
  have c3b0 : ((l0.length : Int) == (l1.length : Int)) = true := beq_iff_eq.mpr c3
  have c3b1 : ((l0.length : Int) != (l1.length : Int)) = false := bne_eq_false_iff_eq.mpr c3
  have c3b2 : (l0.length == l1.length) = true := by first | simpa using c3 | (simp at c3 ⊢; omega)
  clear c3
  have H' := aM H
  clear H
  go_enter Try.func92, Try.ntmps92
  go_wp2
  repeat (go_quiet (fail); try go_wp2)
  go_loopg [5] k (fun kq v5 w' => ∃ (x5_1 : Int), v5 = .int .i64 x5_1 ∧ Aside0 (spec_l3Puts.l0 kq l0 l1 x5_1 = some r) ∧ Aside0 (kq ≤ k) ∧ Drawn0 w w')
  case atStart => exact ⟨(0), (by first | rfl | (simp; done) | (simp [*]; done) | (simp; exact (by intro l_; cases l_ <;> rfl : ∀ l_ : List UInt8, l_.isEmpty = !(l_ != [])) _)), H', ⟨Nat.le_refl _⟩, by repeat (first | exact Drawn0.refl _ | apply Drawn0.step)⟩
  case round =>
   clear H'
   try clear c1
   try clear p2
   try clear c3
   try clear c3b0
   try clear c3b1
   try clear c3b2
   obtain ⟨x5_1, rfl, HA, HK1, ⟨m1, rfl⟩⟩ := hrel
   cases gk with
   | zero => exact absurd HA.out (by simp [spec_l3Puts.l0])
   | succ k1 =>
    have H := HA.out
    clear HA
    simp only [spec_l3Puts.l0] at H
    by_cases c4 : x5_1 < (l0.length : Int)
    ·rw [if_pos c4] at H
     have c4b0 : decide (x5_1 < (l0.length : Int)) = true := decide_eq_true c4
     clear c4
     by_cases c5 : 0 ≤ x5_1
     ·rw [if_pos c5] at H
      have c5b0 : decide (0 ≤ x5_1) = true := decide_eq_true c5
      clear c5
      by_cases c6 : x5_1 < (l1.length : Int)
      ·rw [if_pos c6] at H
       have c6b0 : decide (x5_1 < (l1.length : Int)) = true := decide_eq_true c6
       clear c6
       by_cases c7 : (!(((rd_T65 l0 x5_1).f0) == ((rd_T65 l1 x5_1).f0)) || (!((((rd_T65 l0 x5_1).f1).toList) == (((rd_T65 l1 x5_1).f1).toList)))) = true
       ·rw [if_pos c7] at H
        have c7b0 : (!(((rd_T65 l0 x5_1).f0) == ((rd_T65 l1 x5_1).f0)) || (!((((rd_T65 l0 x5_1).f1).toList) == (((rd_T65 l1 x5_1).f1).toList)))) = true := c7
        clear c7
        obtain rfl := Option.some.inj H
        have p359 : 0 ≤ (x5_1 : Int) := dT
        have q359 : x5_1 < (l0.length : Int) := dT
        obtain ⟨ad359, e359, hx359_0, hx359_1⟩ := at_T65 HR0.out x5_1 p359 q359
        cases e359
        replace p359 := eq_true p359
        replace q359 := eq_true q359
        have p360 : 0 ≤ (x5_1 : Int) := dT
        have q360 : x5_1 < (l1.length : Int) := dT
        obtain ⟨ad360, e360, hx360_0, hx360_1⟩ := at_T65 HR1.out x5_1 p360 q360
        cases e360
        replace p360 := eq_true p360
        replace q360 := eq_true q360
        go_wp2
        repeat (go_quiet (fail); try go_wp2)
        go_ret
        exact ⟨by first | rfl | (simp; done) | (simp [*]; done), by repeat (first | exact Drawn0.refl _ | apply Drawn0.step)⟩
       ·rw [if_neg c7] at H
        have c7b0 : (!(((rd_T65 l0 x5_1).f0) == ((rd_T65 l1 x5_1).f0)) || (!((((rd_T65 l0 x5_1).f1).toList) == (((rd_T65 l1 x5_1).f1).toList)))) = false := by simpa using c7
        clear c7
        have H' := aM H
        clear H
        have p359 : 0 ≤ (x5_1 : Int) := dT
        have q359 : x5_1 < (l0.length : Int) := dT
        obtain ⟨ad359, e359, hx359_0, hx359_1⟩ := at_T65 HR0.out x5_1 p359 q359
        cases e359
        replace p359 := eq_true p359
        replace q359 := eq_true q359
        have p360 : 0 ≤ (x5_1 : Int) := dT
        have q360 : x5_1 < (l1.length : Int) := dT
        obtain ⟨ad360, e360, hx360_0, hx360_1⟩ := at_T65 HR1.out x5_1 p360 q360
        cases e360
        replace p360 := eq_true p360
        replace q360 := eq_true q360
        go_wp2
        repeat (go_quiet (fail); try go_wp2)
        go_roundg k1
        case measure => have := HK1.out; omega
        case rel => exact ⟨(wrap64 (x5_1 + 1)), (by first | rfl | (simp; done) | (simp [*]; done) | (simp; exact (by intro l_; cases l_ <;> rfl : ∀ l_ : List UInt8, l_.isEmpty = !(l_ != [])) _)), H', ⟨by have := HK1.out; omega⟩, by repeat (first | exact Drawn0.refl _ | apply Drawn0.step)⟩
      ·rw [if_neg c6] at H
       exact absurd H (by simp)
     ·rw [if_neg c5] at H
      exact absurd H (by simp)
    ·rw [if_neg c4] at H
     have c4b0 : decide (x5_1 < (l0.length : Int)) = false := decide_eq_false c4
     clear c4
     obtain rfl := Option.some.inj H
     go_wp2
     repeat (go_quiet (fail); try go_wp2)
     go_ret
     exact ⟨by first | rfl | (simp; done) | (simp [*]; done), by repeat (first | exact Drawn0.refl _ | apply Drawn0.step)⟩
 rw [if_neg c3] at H
 have c3b0 : ((l0.length : Int) == (l1.length : Int)) = false := beq_eq_false_iff_ne.mpr c3
 have c3b1 : ((l0.length : Int) != (l1.length : Int)) = true := bne_iff_ne.mpr c3
 have c3b2 : (l0.length == l1.length) = false := by first | simpa using c3 | (simp at c3 ⊢; omega)
 obtain rfl := Option.some.inj H
 go_enter Try.func92, Try.ntmps92
 go_wp2
 repeat (go_quiet (fail); try go_wp2)
 go_ret
 exact ⟨by first | rfl | (simp; done) | (simp [*]; done), by repeat (first | exact Drawn0.refl _ | apply Drawn0.step)⟩

/-! ### spec_DiskSame: function 48 -/
def spec_DiskSame.f (k : Nat) (l0_0 : List ByteArray) (l0_1 : List (S65)) (l1_0 : List ByteArray) (l1_1 : List (S65)) : Option (Bool) := (spec_l1Texts.f k l0_0 l1_0).bind fun t363 => (if t363 = true then ((spec_l3Puts.f k l0_1 l1_1).bind fun t364 => (some t364)) else (some false))
theorem spec_DiskSame.mono : ∀ a0 a1 a2 a3 k, LeO (spec_DiskSame.f k a0 a1 a2 a3) (spec_DiskSame.f (k + 1) a0 a1 a2 a3) := by
 intro a0 a1 a2 a3 k
 unfold spec_DiskSame.f
 have m0_ := @spec_l1Texts.mono
 have m1_ := @spec_l3Puts.mono
 exact mM
set_option maxHeartbeats 8000000 in
set_option maxRecDepth 100000 in
theorem spec_DiskSame.calls (k : Nat) (A0_0 : Option Addr) (c0_0 : Nat) (l0_0 : List ByteArray) (A0_1 : Option Addr) (c0_1 : Nat) (l0_1 : List (S65)) (A1_0 : Option Addr) (c1_0 : Nat) (l1_0 : List ByteArray) (A1_1 : Option Addr) (c1_1 : Nat) (l1_1 : List (S65)) (r : Bool) (w : World) (hr0_0 : Kd.C Kd.string w A0_0 l0_0.length l0_0) (hc0_0 : l0_0.length ≤ c0_0) (hr0_1 : Kd.C k65 w A0_1 l0_1.length l0_1) (hc0_1 : l0_1.length ≤ c0_1) (hr1_0 : Kd.C Kd.string w A1_0 l1_0.length l1_0) (hc1_0 : l1_0.length ≤ c1_0) (hr1_1 : Kd.C k65 w A1_1 l1_1.length l1_1) (hc1_1 : l1_1.length ≤ c1_1) (h : spec_DiskSame.f k l0_0 l0_1 l1_0 l1_1 = some r) :
  Calls Try.prog 48 #[.agg #[.slice A0_0 l0_0.length c0_0, .slice A0_1 l0_1.length c0_1], .agg #[.slice A1_0 l1_0.length c1_0, .slice A1_1 l1_1.length c1_1]] w fun e w' => e = .returned (.bool r) ∧ Below w.heap.size w w' := by
 have hu30 := Try.underlying30
 have HR0_0 := aM hr0_0
 have HC0_0 := aM hc0_0
 clear hr0_0 hc0_0
 have HR0_1 := aM hr0_1
 have HC0_1 := aM hc0_1
 clear hr0_1 hc0_1
 have HR1_0 := aM hr1_0
 have HC1_0 := aM hc1_0
 clear hr1_0 hc1_0
 have HR1_1 := aM hr1_1
 have HC1_1 := aM hc1_1
 clear hr1_1 hc1_1
 have HB := aM (Below.refl w.heap.size w)
 unfold spec_DiskSame.f at h
 have H := h
 clear h
 replace H := Option.bind_eq_some_iff.mp H
 obtain ⟨t363, A30, H⟩ := H
 try dsimp only at H
 have A3 := aM A30
 clear A30
 by_cases c4 : t363 = true
 ·subst c4
  rw [if_pos rfl] at H
  replace H := Option.bind_eq_some_iff.mp H
  obtain ⟨t364, A50, H⟩ := H
  try dsimp only at H
  have A5 := aM A50
  clear A50
  obtain rfl := Option.some.inj H
  go_enter Try.func48, Try.ntmps48
  go_wp2_with (first | ((with_reducible refine gate_dst (N := 2) rfl ?_); refine bE 2 #[.slice A0_0 l0_0.length c0_0, .slice A0_1 l0_1.length c0_1] 30 ?_; intro gb361 hg w6 hbox hb; have n_ := aI (sB HB hb) (aI (aM hbox) (aI (gE HB hg) (gE HB hg))); clear HB; obtain ⟨HB, BK361, GW361, GE361⟩ := n_; (try clear hb hbox hg)) | ((with_reducible refine gate_dst (N := 3) rfl ?_); refine bE 3 #[.slice A1_0 l1_0.length c1_0, .slice A1_1 l1_1.length c1_1] 30 ?_; intro gb362 hg w7 hbox hb; have n_ := aI (kB BK361 hb) (aI (sB HB hb) (aI (aM hbox) (aI (gE HB hg) (aI (gE HB hg) (aI (nL BK361 hg) (nG BK361 hg)))))); clear BK361 HB; obtain ⟨BK361, HB, BK362, GW362, GE362, NB361_362, NB362_361⟩ := n_; (try clear hb hbox hg); have hnb8 := NB361_362.out; have hnc8 := NB362_361.out; have hcz9_0 := cZ0 BK361; have hcz9_1 := cZ1 BK361; have hfz9_0 := fZ BK361 0; have hfz9_1 := fZ BK361 1; have hcz10_0 := cZ0 BK362; have hcz10_1 := cZ1 BK362; have hfz10_0 := fZ BK362 0; have hfz10_1 := fZ BK362 1) | ((with_reducible refine gate_callee (f := 91) rfl ?_); refine gL (some 9) Try.func91 #[.slice A0_0 l0_0.length c0_0, .slice A1_0 l1_0.length c1_0] ?_; (with_reducible refine (spec_l1Texts.calls k _ _ l0_0 _ _ l1_0 true _ ?side1 ?side2 ?side3 ?side4 A3.out).mono ?_); (case side1 => exact cS HR0_0 HB); (case side2 => exact HC0_0.out); (case side3 => exact cS HR1_0 HB); (case side4 => exact HC1_0.out); rintro e w' ⟨rfl, ⟨nd, rfl⟩⟩; refine ⟨_, rfl, ?_⟩) | (go_at_call 92; (with_reducible refine (spec_l3Puts.calls k _ _ l0_1 _ _ l1_1 t364 _ ?side1 ?side2 ?side3 ?side4 A5.out).mono ?_); (case side1 => repeat (first | exact (Kd.C_below HR0_1.out bB) | (with_reducible refine Kd.C_alloc ?_ _) | (with_reducible refine Kd.C_drewN ?_ _) | (with_reducible refine Kd.C_drew ?_))); (case side2 => exact HC0_1.out); (case side3 => repeat (first | exact (Kd.C_below HR1_1.out bB) | (with_reducible refine Kd.C_alloc ?_ _) | (with_reducible refine Kd.C_drewN ?_ _) | (with_reducible refine Kd.C_drew ?_))); (case side4 => exact HC1_1.out); rintro e w' ⟨rfl, ⟨nd, rfl⟩⟩))
  go_ret
  exact ⟨eW, bB⟩
 replace c4 := Bool.eq_false_iff.mpr c4
 subst c4
 rw [if_neg (show ¬ (false = true) by decide)] at H
 obtain rfl := Option.some.inj H
 go_enter Try.func48, Try.ntmps48
 go_wp2_with (first | ((with_reducible refine gate_dst (N := 2) rfl ?_); refine bE 2 #[.slice A0_0 l0_0.length c0_0, .slice A0_1 l0_1.length c0_1] 30 ?_; intro gb361 hg w11 hbox hb; have n_ := aI (sB HB hb) (aI (aM hbox) (aI (gE HB hg) (gE HB hg))); clear HB; obtain ⟨HB, BK361, GW361, GE361⟩ := n_; (try clear hb hbox hg)) | ((with_reducible refine gate_dst (N := 3) rfl ?_); refine bE 3 #[.slice A1_0 l1_0.length c1_0, .slice A1_1 l1_1.length c1_1] 30 ?_; intro gb362 hg w12 hbox hb; have n_ := aI (kB BK361 hb) (aI (sB HB hb) (aI (aM hbox) (aI (gE HB hg) (aI (gE HB hg) (aI (nL BK361 hg) (nG BK361 hg)))))); clear BK361 HB; obtain ⟨BK361, HB, BK362, GW362, GE362, NB361_362, NB362_361⟩ := n_; (try clear hb hbox hg); have hnb13 := NB361_362.out; have hnc13 := NB362_361.out; have hcz14_0 := cZ0 BK361; have hcz14_1 := cZ1 BK361; have hfz14_0 := fZ BK361 0; have hfz14_1 := fZ BK361 1; have hcz15_0 := cZ0 BK362; have hcz15_1 := cZ1 BK362; have hfz15_0 := fZ BK362 0; have hfz15_1 := fZ BK362 1) | ((with_reducible refine gate_callee (f := 91) rfl ?_); refine gL (some 9) Try.func91 #[.slice A0_0 l0_0.length c0_0, .slice A1_0 l1_0.length c1_0] ?_; (with_reducible refine (spec_l1Texts.calls k _ _ l0_0 _ _ l1_0 false _ ?side1 ?side2 ?side3 ?side4 A3.out).mono ?_); (case side1 => exact cS HR0_0 HB); (case side2 => exact HC0_0.out); (case side3 => exact cS HR1_0 HB); (case side4 => exact HC1_0.out); rintro e w' ⟨rfl, ⟨nd, rfl⟩⟩; refine ⟨_, rfl, ?_⟩))
 go_ret
 exact ⟨eW, bB⟩

end Go.Proofs.Ytgmpdkefegofhaa.PFnRecovered
