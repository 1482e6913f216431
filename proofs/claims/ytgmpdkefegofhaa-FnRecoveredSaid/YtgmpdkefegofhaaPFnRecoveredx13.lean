-- Written by xprint.py, a program of this session over the kit's print. Not trusted: Lean checks it.
import Derived.Test.YtgmpdkefegofhaaPFnRecoveredx0
import Derived.Test.YtgmpdkefegofhaaPFnRecoveredx3
import Derived.Test.YtgmpdkefegofhaaPFnRecoveredx4
import Derived.Test.YtgmpdkefegofhaaPFnRecoveredx5
import Derived.Test.YtgmpdkefegofhaaPFnRecoveredx12
namespace Go.Proofs.Ytgmpdkefegofhaa.PFnRecovered
open Go.RowKit Go.Proofs.YtgmpdkefegofhaaW.PrintWords Go.Proofs.YtgmpdkefegofhaaW.PrintLast Go.Proofs.YtgmpdkefegofhaaW.PrintMore
attribute [local go_sem] max2_int min2_int max_two min_two max_three min_three max_four min_four   -- for this text's walks alone
set_option linter.unusedVariables false
set_option linter.unusedSimpArgs false

/-! ### spec_EventsDo: function 39 -/
def spec_EventsDo.l0 : Nat → List (S92) → Int → List ByteArray → List (S65) → Option (List ByteArray × (List (S65)))
 | 0, _, _, _, _ => none
 | k + 1, x1, x6, x557000, x557001 => if x6 < (x1.length : Int) then (if 0 ≤ x6 then (if ((rd_T92 x1 x6).f0) = 0 then ((spec_SectorWrite.f k x557000 x557001 ((rd_T92 x1 x6).f1) ((rd_T92 x1 x6).f2)).bind fun bt560 => (spec_EventsDo.l0 k x1 (wrap64 (x6 + 1)) bt560.1 bt560.2.1)) else (if ((rd_T92 x1 x6).f0) = 1 then ((spec_Flush.f k x557000 x557001).bind fun bt567 => (spec_EventsDo.l0 k x1 (wrap64 (x6 + 1)) bt567.1 bt567.2)) else (spec_EventsDo.l0 k x1 (wrap64 (x6 + 1)) x557000 x557001))) else (none)) else (some (x557000, x557001))
def spec_EventsDo.f (k : Nat) (l0_0 : List ByteArray) (l0_1 : List (S65)) (l1 : List (S92)) : Option (List ByteArray × (List (S65))) := (spec_l3Copy.f l0_0 l0_1).bind fun bt550 => (spec_EventsDo.l0 k l1 0 bt550.1 bt550.2)
theorem spec_EventsDo.mono_l : ∀ k, (∀ y0 y1 y2 y3, LeO (spec_EventsDo.l0 k y0 y1 y2 y3) (spec_EventsDo.l0 (k + 1) y0 y1 y2 y3))
 | 0 => fun _ _ _ _ r h => by simp [spec_EventsDo.l0] at h
 | k + 1 => by
  have ih0 := spec_EventsDo.mono_l k
  ·intro y0 y1 y2 y3
   unfold spec_EventsDo.l0
   have m0_ := @spec_Flush.mono
   have m1_ := @spec_SectorWrite.mono
   exact mM
theorem spec_EventsDo.mono : ∀ a0 a1 a2 k, LeO (spec_EventsDo.f k a0 a1 a2) (spec_EventsDo.f (k + 1) a0 a1 a2) := by
 intro a0 a1 a2 k
 have ih0 := spec_EventsDo.mono_l k
 unfold spec_EventsDo.f
 have m0_ := @spec_Flush.mono
 have m1_ := @spec_SectorWrite.mono
 exact mM
def spec_EventsDo.T7 : Bool × List (List Nat × List Nat) := (true, [([], []), ([], []), ([], []), ([1, 2], [1, 2]), ([3], [3]), ([4], [4]), ([], []), ([], []), ([6, 7], [6, 7]), ([8], [8]), ([9], [9]), ([0, 5, 10], [0, 5, 10]), ([11], [11]), ([12], [12]), ([12], [12]), ([13, 11, 0, 1, 2, 3, 4, 5, 6, 7, 8, 9, 10, 11, 12, 13], [13])])
def spec_EventsDo.B7 : List Nat := [0, 0, 0, 6, 14, 30, 0, 0, 192, 448, 960, 2047, 4095, 8191, 8191, 16383]
theorem spec_EventsDo.tab7 : rtab .any (opsOf Try.f39 7) = spec_EventsDo.T7 := by kernel_rfl
theorem spec_EventsDo.bits7 : waitsOk spec_EventsDo.T7.2 spec_EventsDo.B7 = true := by kernel_rfl
set_option maxHeartbeats 8000000 in
set_option maxRecDepth 100000 in
theorem spec_EventsDo.calls (k : Nat) (A0_0 : Option Addr) (c0_0 : Nat) (l0_0 : List ByteArray) (A0_1 : Option Addr) (c0_1 : Nat) (l0_1 : List (S65)) (A1 : Option Addr) (c1 : Nat) (l1 : List (S92)) (r1 : List ByteArray) (r2 : List (S65)) (w : World) (hr0_0 : Kd.C Kd.string w A0_0 l0_0.length l0_0) (hc0_0 : l0_0.length ≤ c0_0) (hr0_1 : Kd.C k65 w A0_1 l0_1.length l0_1) (hc0_1 : l0_1.length ≤ c0_1) (hr1 : Kd.C k92 w A1 l1.length l1) (hc1 : l1.length ≤ c1) (h : spec_EventsDo.f k l0_0 l0_1 l1 = some (r1, r2)) :
  Calls Try.prog 39 #[.agg #[.slice A0_0 l0_0.length c0_0, .slice A0_1 l0_1.length c0_1], .slice A1 l1.length c1] w fun e w' => ∃ v0_ v1_ : Value, e = .returned (.agg #[v0_, v1_]) ∧ Kd.R Kd.string 9 w' w.heap.size (fun _ => True) v0_ r1 ∧ Kd.R k65 65 w' w.heap.size (fun _ => True) v1_ r2 ∧ Below w.heap.size w w' := by
 have hu30 := Try.underlying30
 have HR0_0 := aM hr0_0
 have HC0_0 := aM hc0_0
 clear hr0_0 hc0_0
 have HR0_1 := aM hr0_1
 have HC0_1 := aM hc0_1
 clear hr0_1 hc0_1
 have HR1 := aM hr1
 have HC1 := aM hc1
 clear hr1 hc1
 have HB := aM (Below.refl w.heap.size w)
 unfold spec_EventsDo.f at h
 have H := h
 clear h
 replace H := Option.bind_eq_some_iff.mp H
 obtain ⟨⟨t550, t553⟩, A30, H⟩ := H
 try dsimp only at H
 have A3 := aM A30
 clear A30
 have H' := aM H
 clear H
 go_enter Try.func39, Try.ntmps39
 go_wp2_with (first | ((with_reducible refine gate_dst (N := 2) rfl ?_); refine bE 2 #[.slice A0_0 l0_0.length c0_0, .slice A0_1 l0_1.length c0_1] 30 ?_; intro gb548 hg w4 hbox hb; have n_ := aI (sB HB hb) (aI (aM hbox) (aI (gE HB hg) (gE HB hg))); clear HB; obtain ⟨HB, BK548, GW548, GE548⟩ := n_; (try clear hb hbox hg)) | ((with_reducible refine gate_dst (N := 4) rfl ?_); refine bE 4 #[.slice none 0 0, .slice none 0 0] 30 ?_; intro gb549 hg w5 hbox hb; have n_ := aI (kB BK548 hb) (aI (sB HB hb) (aI (aM hbox) (aI (gE HB hg) (aI (gE HB hg) (aI (nL BK548 hg) (nG BK548 hg)))))); clear BK548 HB; obtain ⟨BK548, HB, BK549, GW549, GE549, NB548_549, NB549_548⟩ := n_; (try clear hb hbox hg); have hnb6 := NB548_549.out; have hnc6 := NB549_548.out; have hcz7_0 := cZ0 BK548; have hcz7_1 := cZ1 BK548; have hfz7_0 := fZ BK548 0; have hfz7_1 := fZ BK548 1) | ((with_reducible refine gate_callee (f := 75) rfl ?_); refine gL (some 8) Try.func75 #[.agg #[.slice A0_0 l0_0.length c0_0, .slice A0_1 l0_1.length c0_1]] ?_; (with_reducible refine (spec_l3Copy.calls _ _ l0_0 _ _ l0_1 t550 t553 _ ?side1 ?side2 ?side3 ?side4 A3.out).mono ?_); (case side1 => exact cS HR0_0 HB); (case side2 => exact HC0_0.out); (case side3 => exact cS HR0_1 HB); (case side4 => exact HC0_1.out); rintro e w8 ⟨v551, v554, rfl, ho0, ho1, hb⟩; refine ⟨_, rfl, ?_⟩; have n_ := aI (lR HB ho0) (aI (lR HB ho1) (aI (kB BK548 hb) (aI (kB BK549 hb) (sB HB hb)))); clear BK548 BK549 HB; obtain ⟨HO552, HO555, BK548, BK549, HB⟩ := n_; (try clear hb ho0 ho1)) | ((with_reducible refine gate_dst (N := 5) rfl ?_); refine bE 5 #[.slice none 0 0, .slice none 0 0] 30 ?_; intro gb556 hg w9 hbox hb; have n_ := aI (rB HO552 hb) (aI (rB HO555 hb) (aI (kB BK548 hb) (aI (kB BK549 hb) (aI (sB HB hb) (aI (aM hbox) (aI (gE HB hg) (aI (gE HB hg) (aI (nL BK548 hg) (aI (nG BK548 hg) (aI (nL BK549 hg) (nG BK549 hg))))))))))); clear HO552 HO555 BK548 BK549 HB; obtain ⟨HO552, HO555, BK548, BK549, HB, BK556, GW556, GE556, NB548_556, NB556_548, NB549_556, NB556_549⟩ := n_; (try clear hb hbox hg); obtain ⟨Ao10, co10, eo10⟩ := Kd.R_slice HO552.out; subst eo10; have hnb11 := NB556_548.out; have hnc11 := NB548_556.out; have hnb12 := NB556_549.out; have hnc12 := NB549_556.out; have hcz13_0 := cZ0 BK556; have hcz13_1 := cZ1 BK556; have hfz13_0 := fZ BK556 0; have hfz13_1 := fZ BK556 1; obtain ⟨Ao14, co14, eo14⟩ := Kd.R_slice HO555.out; subst eo14))
 go_loopg [6] k (fun kq v6 w' => ∃ (x6_1 : Int) (x557000_1 : List ByteArray) (x557001_1 : List (S65)) (u557000 : Value) (u557001 : Value), v6 = .int .i64 x6_1 ∧ Aside0 (spec_EventsDo.l0 kq l1 x6_1 x557000_1 x557001_1 = some (r1, r2)) ∧ Aside0 (kq ≤ k) ∧ Aside0 (Kd.R Kd.string 9 w' w.heap.size (fun _ => True) u557000 x557000_1) ∧ Aside0 (Kd.R k65 65 w' w.heap.size (fun _ => True) u557001 x557001_1) ∧ Aside0 (w'.heap[gb548]? = some (.cells #[(.slice A0_0 l0_0.length c0_0), (.slice A0_1 l0_1.length c0_1)] 30 (0, 0))) ∧ Aside0 (w'.heap[gb549]? = some (.cells #[(.slice none 0 0), (.slice none 0 0)] 30 (0, 0))) ∧ Aside0 (w'.heap[gb556]? = some (.cells #[u557000, u557001] 30 (0, 0))) ∧ Aside0 (Below w.heap.size w w'))
 case atStart => exact ⟨(0), (t550), (t553), (.slice Ao10 t550.length co10), (.slice Ao14 t553.length co14), (by first | rfl | (simp; done) | (simp [*]; done) | (simp; exact (by intro l_; cases l_ <;> rfl : ∀ l_ : List UInt8, l_.isEmpty = !(l_ != [])) _)), H', ⟨Nat.le_refl _⟩, ⟨rP (Kd.R_mono (Kd.R_far (p := ⟨gb556, 1, none⟩) (Kd.R_far (p := ⟨gb556, 0, none⟩) (Kd.R_types HO552.out BK556.out (by decide)) (fun _ hk => hk.2) (.slice Ao10 t550.length co10)) (fun _ hk => hk.2) (.slice Ao14 t553.length co14)) (fun _ hk => trivial))⟩, ⟨rP (Kd.R_mono (Kd.R_far (p := ⟨gb556, 1, none⟩) (Kd.R_far (p := ⟨gb556, 0, none⟩) (Kd.R_types HO555.out BK556.out (by decide)) (fun _ hk => hk.2) (.slice Ao10 t550.length co10)) (fun _ hk => hk.2) (.slice Ao14 t553.length co14)) (fun _ hk => trivial))⟩, ⟨kP BK548⟩, ⟨kP BK549⟩, ⟨by (with_reducible repeat (first | apply bN | apply bD | apply bA)); refine blk_put (cs := #[.slice Ao10 t550.length co10, .slice none 0 0]) ?_ 1 _ rfl; (with_reducible repeat (first | apply bN | apply bD | apply bA)); refine blk_put (cs := #[.slice none 0 0, .slice none 0 0]) ?_ 0 _ rfl; (with_reducible repeat (first | apply bN | apply bD | apply bA)); exact BK556.out⟩, ⟨bB⟩⟩
 case round =>
  clear H'
  try clear c1
  try clear p2
  try clear c3
  try clear c6
  try clear c7
  try clear c11
  try clear c12
  try clear hcz13_0
  try clear hcz13_1
  try clear hcz7_0
  try clear hcz7_1
  try clear hfz13_0
  try clear hfz13_1
  try clear hfz7_0
  try clear hfz7_1
  obtain ⟨x6_1, x557000_1, x557001_1, u557000, u557001, rfl, HA, HK1, HO_557000, HO_557001, BK548, BK549, BK556, HB⟩ := hrel
  cases gk with
  | zero => exact absurd HA.out (by simp [spec_EventsDo.l0])
  | succ k1 =>
   have H := HA.out
   clear HA
   simp only [spec_EventsDo.l0] at H
   by_cases c15 : x6_1 < (l1.length : Int)
   ·rw [if_pos c15] at H
    have c15b0 : decide (x6_1 < (l1.length : Int)) = true := decide_eq_true c15
    clear c15
    by_cases c16 : 0 ≤ x6_1
    ·rw [if_pos c16] at H
     have c16b0 : decide (0 ≤ x6_1) = true := decide_eq_true c16
     clear c16
     by_cases c17 : ((rd_T92 l1 x6_1).f0) = 0
     ·rw [if_pos c17] at H
      have c17b0 : (((rd_T92 l1 x6_1).f0) == 0) = true := beq_iff_eq.mpr c17
      have c17b1 : (((rd_T92 l1 x6_1).f0) != 0) = false := bne_eq_false_iff_eq.mpr c17
      clear c17
      replace H := Option.bind_eq_some_iff.mp H
      obtain ⟨⟨t560, t563, t566⟩, A180, H⟩ := H
      try dsimp only at H
      have A18 := aM A180
      clear A180
      have H' := aM H
      clear H
      have p557 : 0 ≤ (x6_1 : Int) := dT
      have q557 : x6_1 < (l1.length : Int) := dT
      obtain ⟨ad557, e557, hx557_0, hx557_1, hx557_2⟩ := at_T92 HR1.out x6_1 p557 q557
      cases e557
      replace hx557_0 := (HB.out.cell (World.block_lt_of_cell? w _ hx557_0)).trans hx557_0
      replace hx557_1 := (HB.out.cell (World.block_lt_of_cell? w _ hx557_1)).trans hx557_1
      replace hx557_2 := (HB.out.cell (World.block_lt_of_cell? w _ hx557_2)).trans hx557_2
      replace p557 := eq_true p557
      replace q557 := eq_true q557
      try go_wp2
      have n_ := aI (aM (Kd.R_drew HO_557000.out)) (aI (aM (Kd.R_drew HO_557001.out)) (aI (aM (blk_drew BK548.out)) (aI (aM (blk_drew BK549.out)) (aI (aM (blk_drew BK556.out)) (aM (below_drew1 HB.out))))))
      clear HO_557000 HO_557001 BK548 BK549 BK556 HB
      obtain ⟨HO_557000, HO_557001, BK548, BK549, BK556, HB⟩ := n_
      have p558 : 0 ≤ (x6_1 : Int) := dT
      have q558 : x6_1 < (l1.length : Int) := dT
      obtain ⟨ad558, e558, hx558_0, hx558_1, hx558_2⟩ := at_T92 HR1.out x6_1 p558 q558
      have hw558_2 := hx558_2
      have hw558_1 := hx558_1
      have hw558_0 := hx558_0
      obtain rfl : ad557 = ad558 := (by injection e558)
      replace hx558_0 := (HB.out.cell (World.block_lt_of_cell? w _ hx558_0)).trans hx558_0
      replace hx558_1 := (HB.out.cell (World.block_lt_of_cell? w _ hx558_1)).trans hx558_1
      replace hx558_2 := (HB.out.cell (World.block_lt_of_cell? w _ hx558_2)).trans hx558_2
      replace p558 := eq_true p558
      replace q558 := eq_true q558
      have p559 : 0 ≤ (x6_1 : Int) := dT
      have q559 : x6_1 < (l1.length : Int) := dT
      obtain ⟨ad559, e559, hx559_0, hx559_1, hx559_2⟩ := at_T92 HR1.out x6_1 p559 q559
      have hw559_2 := hx559_2
      have hw559_1 := hx559_1
      have hw559_0 := hx559_0
      obtain rfl : ad557 = ad559 := (by injection e559)
      replace hx559_0 := (HB.out.cell (World.block_lt_of_cell? w _ hx559_0)).trans hx559_0
      replace hx559_1 := (HB.out.cell (World.block_lt_of_cell? w _ hx559_1)).trans hx559_1
      replace hx559_2 := (HB.out.cell (World.block_lt_of_cell? w _ hx559_2)).trans hx559_2
      replace p559 := eq_true p559
      replace q559 := eq_true q559
      obtain ⟨Ao20, co20, eo20⟩ := Kd.R_slice HO_557000.out
      (first | subst eo20 | (injection eo20 with f1_ f2_ f3_; have f4_ := f1_.symm; have f5_ := f3_.symm; clear f1_ f2_ f3_; subst f4_; subst f5_))
      obtain ⟨Ao21, co21, eo21⟩ := Kd.R_slice HO_557001.out
      (first | subst eo21 | (injection eo21 with f1_ f2_ f3_; have f4_ := f1_.symm; have f5_ := f3_.symm; clear f1_ f2_ f3_; subst f4_; subst f5_))
      refine start_ (n := 16) (S := fun w' => w'.cell? ⟨gb556, 0, none⟩ = some (.slice Ao20 x557000_1.length co20) ∧ w'.cell? ⟨gb556, 1, none⟩ = some (.slice Ao21 x557001_1.length co21) ∧ w'.cell? (ad557.add ((x6_1).toNat * 3)) = some (.int .i64 ((rd_T92 l1 x6_1).f0)) ∧ w'.cell? ⟨(ad557.add ((x6_1).toNat * 3)).block, (ad557.add ((x6_1).toNat * 3)).off + 1, none⟩ = some (.int .i64 ((rd_T92 l1 x6_1).f1)) ∧ w'.cell? ⟨(ad557.add ((x6_1).toNat * 3)).block, (ad557.add ((x6_1).toNat * 3)).off + 2, none⟩ = some (.string ((rd_T92 l1 x6_1).f2)) ∧ w'.cell? (ad557.add ((x6_1).toNat * 3)) = some (.int .i64 ((rd_T92 l1 x6_1).f0)) ∧ w'.cell? ⟨(ad557.add ((x6_1).toNat * 3)).block, (ad557.add ((x6_1).toNat * 3)).off + 1, none⟩ = some (.int .i64 ((rd_T92 l1 x6_1).f1)) ∧ w'.cell? ⟨(ad557.add ((x6_1).toNat * 3)).block, (ad557.add ((x6_1).toNat * 3)).off + 2, none⟩ = some (.string ((rd_T92 l1 x6_1).f2))) (ds := [15]) #[tF, tF, tF, tF, tF, tF, tF, tF, tF, tF, tF, tF, tF, tF, tF, tF] (by kernel_rfl) rfl rfl ⟨(blk_cell BK556.out 0).trans rfl, (blk_cell BK556.out 1).trans rfl, ((HB.out.cell (World.block_lt_of_cell? w _ hw558_0)).trans hw558_0), ((HB.out.cell (World.block_lt_of_cell? w _ hw558_1)).trans hw558_1), ((HB.out.cell (World.block_lt_of_cell? w _ hw558_2)).trans hw558_2), ((HB.out.cell (World.block_lt_of_cell? w _ hw559_0)).trans hw559_0), ((HB.out.cell (World.block_lt_of_cell? w _ hw559_1)).trans hw559_1), ((HB.out.cell (World.block_lt_of_cell? w _ hw559_2)).trans hw559_2)⟩ (fun hHeld => ?_); refine with_tabW spec_EventsDo.tab7 spec_EventsDo.bits7 (fun HT_ HW_ => ?_)
      generalize wr.drew = w19 at HO_557000 HO_557001 BK548 BK549 BK556 HB hx558_0 hx558_1 hx558_2 hx559_0 hx559_1 hx559_2 hHeld ⊢
      refine pY 1 24 #[tF, tT, tF, tF, tF, tF, tF, tF, tF, tF, tF, tF, tF, tF, tF, tF] ?_
      refine pY 2 25 #[tF, tT, tT, tF, tF, tF, tF, tF, tF, tF, tF, tF, tF, tF, tF, tF] ?_
      refine pY 3 26 #[tF, tT, tT, tT, tF, tF, tF, tF, tF, tF, tF, tF, tF, tF, tF, tF] ?_
      refine pY 4 27 #[tF, tT, tT, tT, tT, tF, tF, tF, tF, tF, tF, tF, tF, tF, tF, tF] ?_
      refine pY 6 29 #[tF, tT, tT, tT, tT, tF, tT, tF, tF, tF, tF, tF, tF, tF, tF, tF] ?_
      refine pY 7 30 #[tF, tT, tT, tT, tT, tF, tT, tT, tF, tF, tF, tF, tF, tF, tF, tF] ?_
      refine pY 8 31 #[tF, tT, tT, tT, tT, tF, tT, tT, tT, tF, tF, tF, tF, tF, tF, tF] ?_
      refine pY 9 32 #[tF, tT, tT, tT, tT, tF, tT, tT, tT, tT, tF, tF, tF, tF, tF, tF] ?_
      refine take_ (i := 0) (N := some 23) (v := ?_) (a' := ?_) #[tT, tT, tT, tT, tT, tF, tT, tT, tT, tT, tF, tF, tF, tF, tF, tF] rfl rfl (take_ofW HT_.out HW_.out (by kernel_rfl)) (fun _ _ _ h => h) (Or.inl ⟨by rfl, ?_⟩) hHeld ?_ ?_
      rotate_left
      ·rintro w' ⟨s0, s1, s2, s3, s4, s5, s6, s7⟩
       go_simp
       with_reducible rfl
      rotate_left
      ·simp only [Act.put, List.setIfInBounds_toArray, List.set_cons_zero, List.set_cons_succ, i64_w, i32_w]
       rfl
      refine take_ (i := 5) (N := some 28) (v := ?_) (a' := ?_) #[tT, tT, tT, tT, tT, tT, tT, tT, tT, tT, tF, tF, tF, tF, tF, tF] rfl rfl (take_ofW HT_.out HW_.out (by kernel_rfl)) (fun _ _ _ h => h) (Or.inl ⟨by rfl, ?_⟩) hHeld ?_ ?_
      rotate_left
      ·rintro w' ⟨s0, s1, s2, s3, s4, s5, s6, s7⟩
       go_simp
       with_reducible rfl
      rotate_left
      ·simp only [Act.put, List.setIfInBounds_toArray, List.set_cons_zero, List.set_cons_succ, i64_w, i32_w]
       rfl
      refine take_ (i := 10) (N := some 33) (v := ?_) (a' := ?_) #[tT, tT, tT, tT, tT, tT, tT, tT, tT, tT, tT, tF, tF, tF, tF, tF] rfl rfl (take_ofW HT_.out HW_.out (by kernel_rfl)) (fun _ _ _ h => h) (Or.inl ⟨by rfl, ?_⟩) hHeld ?_ ?_
      rotate_left
      ·rintro w' ⟨s0, s1, s2, s3, s4, s5, s6, s7⟩
       go_simp
       with_reducible rfl
      rotate_left
      ·simp only [Act.put, List.setIfInBounds_toArray, List.set_cons_zero, List.set_cons_succ, i64_w, i32_w]
       rfl
      refine one_ (i := 11) (N := some 34) #[tT, tT, tT, tT, tT, tT, tT, tT, tT, tT, tT, tT, tF, tF, tF, tF] rfl rfl (one_of HT_.out (by kernel_rfl)) (by decide) (fun K hK => ?_)
      refine goes_ Try.func28 (by kernel_rfl) rfl #[.agg #[.slice Ao20 x557000_1.length co20, .slice Ao21 x557001_1.length co21], .int .i64 ((rd_T92 l1 x6_1).f1), .string ((rd_T92 l1 x6_1).f2)] (by rfl) rfl rfl (by (try simp only [List.map_toArray, List.map_cons, List.map_nil]); first | done | rfl | (simp only [List.length_drop, List.length_take]; rfl)) ?_
      with_reducible refine (spec_SectorWrite.calls k1 _ _ x557000_1 _ _ x557001_1 ((rd_T92 l1 x6_1).f1) ((rd_T92 l1 x6_1).f2) t560 t563 t566 _ ?side1 ?side2 ?side3 ?side4 A18.out).mono ?_
      (case side1 => exact cR HO_557000)
      (case side2 => exact (Kd.R_reads' HO_557000.out).2.1)
      (case side3 => exact cR HO_557001)
      (case side4 => exact (Kd.R_reads' HO_557001.out).2.1)
      rintro e w22 ⟨v561, v564, rfl, ho0, ho1, hb⟩
      refine ⟨_, rfl, ?_⟩
      have n_ := aI (eR HO_557000 ho0 hb) (aI (eR HO_557001 ho1 hb) (aI (aM (Kd.R_lower (Kd.R_new' ho0 (rL HO_557000)) (zB HB))) (aI (aM (Kd.R_lower (Kd.R_new' ho1 (rL HO_557001)) (zB HB))) (aI (kB BK548 hb) (aI (kB BK549 hb) (aI (kB BK556 hb) (sB HB hb)))))))
      clear HO_557000 HO_557001 BK548 BK549 BK556 HB
      obtain ⟨HO_557000, HO_557001, HO562, HO565, BK548, BK549, BK556, HB⟩ := n_
      (try clear hb)
      (try clear hb2)
      (try clear hk)
      (try clear hi)
      (try clear ho0)
      (try clear ho1)
      obtain ⟨Ao23, co23, eo23⟩ := Kd.R_slice HO562.out
      (first | subst eo23 | (injection eo23 with f1_ f2_ f3_; have f4_ := f1_.symm; have f5_ := f3_.symm; clear f1_ f2_ f3_; subst f4_; subst f5_))
      obtain ⟨Ao25, co25, eo25⟩ := Kd.R_slice HO565.out
      (first | subst eo25 | (injection eo25 with f1_ f2_ f3_; have f4_ := f1_.symm; have f5_ := f3_.symm; clear f1_ f2_ f3_; subst f4_; subst f5_))
      refine hK.out _ _ ⟨(blk_cell BK556.out 0).trans rfl, (blk_cell BK556.out 1).trans rfl, ((HB.out.cell (World.block_lt_of_cell? w _ hw558_0)).trans hw558_0), ((HB.out.cell (World.block_lt_of_cell? w _ hw558_1)).trans hw558_1), ((HB.out.cell (World.block_lt_of_cell? w _ hw558_2)).trans hw558_2), ((HB.out.cell (World.block_lt_of_cell? w _ hw559_0)).trans hw559_0), ((HB.out.cell (World.block_lt_of_cell? w _ hw559_1)).trans hw559_1), ((HB.out.cell (World.block_lt_of_cell? w _ hw559_2)).trans hw559_2)⟩ (fun hHeld => ?_)
      clear hK K
      refine norm_ (a' := ?_) ?_ ?_
      rotate_left
      ·show Act.put _ (some 34) _ = _
       simp only [Act.put, List.setIfInBounds_toArray, List.set_cons_zero, List.set_cons_succ, i64_w, i32_w]
       rfl
      refine pY 12 22 #[tT, tT, tT, tT, tT, tT, tT, tT, tT, tT, tT, tT, tT, tF, tF, tF] ?_
      refine pY 13 35 #[tT, tT, tT, tT, tT, tT, tT, tT, tT, tT, tT, tT, tT, tT, tF, tF] ?_
      refine pY 14 36 #[tT, tT, tT, tT, tT, tT, tT, tT, tT, tT, tT, tT, tT, tT, tT, tF] ?_
      refine last_ (i := 15) (N := none) #[tT, tT, tT, tT, tT, tT, tT, tT, tT, tT, tT, tT, tT, tT, tT, tT] rfl rfl (one_of HT_.out (by kernel_rfl)) (by decide) (fun K hK => ?_)
      have hs24 : w22.cell? ⟨gb556, 0, none⟩ = some (.slice Ao20 x557000_1.length co20) := (blk_cell BK556.out 0).trans rfl
      have hfs24 := blk_frozen BK556.out 0
      have hns24_0 := NB548_556.out
      have hns24_1 := NB549_556.out
      have hms24_0 := NB556_548.out
      have hms24_1 := NB556_549.out
      have hs26 : w22.cell? ⟨gb556, 1, none⟩ = some (.slice Ao21 x557001_1.length co21) := (blk_cell BK556.out 1).trans rfl
      have hfs26 := blk_frozen BK556.out 1
      have hns26_0 := NB548_556.out
      have hns26_1 := NB549_556.out
      have hms26_0 := NB556_548.out
      have hms26_1 := NB556_549.out
      refine skip_ (w1 := ?_) (by rfl) rfl ?_ ?_
      rotate_left
      ·go_simp
       rfl
      refine hK.out _ _ ?_
      clear hK K
      refine done_ (done_of HT_.out (by kernel_rfl)) ?_
      try go_wp2
      go_roundg k1
      case measure => have := HK1.out; omega
      case rel => exact ⟨(wrap64 (x6_1 + 1)), (t560), (t563), (.slice Ao23 t560.length co23), (.slice Ao25 t563.length co25), (by first | rfl | (simp; done) | (simp [*]; done) | (simp; exact (by intro l_; cases l_ <;> rfl : ∀ l_ : List UInt8, l_.isEmpty = !(l_ != [])) _)), H', ⟨by have := HK1.out; omega⟩, ⟨rP (Kd.R_mono (Kd.R_far (p := ⟨gb556, 1, none⟩) (Kd.R_far (p := ⟨gb556, 0, none⟩) (Kd.R_types HO562.out BK556.out (by decide)) (fun _ hk => hk.2) (.slice Ao23 t560.length co23)) (fun _ hk => hk.2) (.slice Ao25 t563.length co25)) (fun _ hk => trivial))⟩, ⟨rP (Kd.R_mono (Kd.R_far (p := ⟨gb556, 1, none⟩) (Kd.R_far (p := ⟨gb556, 0, none⟩) (Kd.R_types HO565.out BK556.out (by decide)) (fun _ hk => hk.2) (.slice Ao23 t560.length co23)) (fun _ hk => hk.2) (.slice Ao25 t563.length co25)) (fun _ hk => trivial))⟩, ⟨kP BK548⟩, ⟨kP BK549⟩, ⟨by (with_reducible repeat (first | apply bN | apply bD | apply bA)); refine blk_put (cs := #[.slice Ao23 t560.length co23, .slice Ao21 x557001_1.length co21]) ?_ 1 _ rfl; (with_reducible repeat (first | apply bN | apply bD | apply bA)); refine blk_put (cs := #[.slice Ao20 x557000_1.length co20, .slice Ao21 x557001_1.length co21]) ?_ 0 _ rfl; (with_reducible repeat (first | apply bN | apply bD | apply bA)); exact BK556.out⟩, ⟨bB⟩⟩
     ·rw [if_neg c17] at H
      have c17b0 : (((rd_T92 l1 x6_1).f0) == 0) = false := beq_eq_false_iff_ne.mpr c17
      have c17b1 : (((rd_T92 l1 x6_1).f0) != 0) = true := bne_iff_ne.mpr c17
      by_cases c27 : ((rd_T92 l1 x6_1).f0) = 1
      ·rw [if_pos c27] at H
       have c27b0 : (((rd_T92 l1 x6_1).f0) == 1) = true := beq_iff_eq.mpr c27
       have c27b1 : (((rd_T92 l1 x6_1).f0) != 1) = false := bne_eq_false_iff_eq.mpr c27
       clear c27
       replace H := Option.bind_eq_some_iff.mp H
       obtain ⟨⟨t567, t570⟩, A280, H⟩ := H
       try dsimp only at H
       have A28 := aM A280
       clear A280
       have H' := aM H
       clear H
       have p557 : 0 ≤ (x6_1 : Int) := dT
       have q557 : x6_1 < (l1.length : Int) := dT
       obtain ⟨ad557, e557, hx557_0, hx557_1, hx557_2⟩ := at_T92 HR1.out x6_1 p557 q557
       cases e557
       replace hx557_0 := (HB.out.cell (World.block_lt_of_cell? w _ hx557_0)).trans hx557_0
       replace hx557_1 := (HB.out.cell (World.block_lt_of_cell? w _ hx557_1)).trans hx557_1
       replace hx557_2 := (HB.out.cell (World.block_lt_of_cell? w _ hx557_2)).trans hx557_2
       replace p557 := eq_true p557
       replace q557 := eq_true q557
       have hnb29 := NB556_548.out
       have hnc29 := NB548_556.out
       have hnb30 := NB556_549.out
       have hnc30 := NB549_556.out
       have hcz31_0 := cZ0 BK556
       have hcz31_1 := cZ1 BK556
       have hfz31_0 := fZ BK556 0
       have hfz31_1 := fZ BK556 1
       obtain ⟨Ao32, co32, eo32⟩ := Kd.R_slice HO_557000.out
       subst eo32
       obtain ⟨Ao33, co33, eo33⟩ := Kd.R_slice HO_557001.out
       subst eo33
       go_wp2_with (first | ((with_reducible refine gate_callee (f := 31) rfl ?_); refine gL (some 40) Try.func31 #[.agg #[.slice Ao32 x557000_1.length co32, .slice Ao33 x557001_1.length co33]] ?_; (with_reducible refine (spec_Flush.calls k1 _ _ x557000_1 _ _ x557001_1 t567 t570 _ ?side1 ?side2 ?side3 ?side4 A28.out).mono ?_); (case side1 => exact cR HO_557000); (case side2 => exact (Kd.R_reads' HO_557000.out).2.1); (case side3 => exact cR HO_557001); (case side4 => exact (Kd.R_reads' HO_557001.out).2.1); rintro e w34 ⟨v568, v571, rfl, ho0, ho1, hb⟩; refine ⟨_, rfl, ?_⟩; have n_ := aI (eR HO_557000 ho0 hb) (aI (eR HO_557001 ho1 hb) (aI (aM (Kd.R_lower (Kd.R_new' ho0 (rL HO_557000)) (zB HB))) (aI (aM (Kd.R_lower (Kd.R_new' ho1 (rL HO_557001)) (zB HB))) (aI (kB BK548 hb) (aI (kB BK549 hb) (aI (kB BK556 hb) (sB HB hb))))))); clear HO_557000 HO_557001 BK548 BK549 BK556 HB; obtain ⟨HO_557000, HO_557001, HO569, HO572, BK548, BK549, BK556, HB⟩ := n_; (try clear hb ho0 ho1); obtain ⟨Ao35, co35, eo35⟩ := Kd.R_slice HO569.out; subst eo35; have hcz36_0 := cZ0 BK556; have hcz36_1 := cZ1 BK556; have hfz36_0 := fZ BK556 0; have hfz36_1 := fZ BK556 1; obtain ⟨Ao37, co37, eo37⟩ := Kd.R_slice HO572.out; subst eo37))
       go_roundg k1
       case measure => have := HK1.out; omega
       case rel => exact ⟨(wrap64 (x6_1 + 1)), (t567), (t570), (.slice Ao35 t567.length co35), (.slice Ao37 t570.length co37), (by first | rfl | (simp; done) | (simp [*]; done) | (simp; exact (by intro l_; cases l_ <;> rfl : ∀ l_ : List UInt8, l_.isEmpty = !(l_ != [])) _)), H', ⟨by have := HK1.out; omega⟩, ⟨rP (Kd.R_mono (Kd.R_far (p := ⟨gb556, 1, none⟩) (Kd.R_far (p := ⟨gb556, 0, none⟩) (Kd.R_types HO569.out BK556.out (by decide)) (fun _ hk => hk.2) (.slice Ao35 t567.length co35)) (fun _ hk => hk.2) (.slice Ao37 t570.length co37)) (fun _ hk => trivial))⟩, ⟨rP (Kd.R_mono (Kd.R_far (p := ⟨gb556, 1, none⟩) (Kd.R_far (p := ⟨gb556, 0, none⟩) (Kd.R_types HO572.out BK556.out (by decide)) (fun _ hk => hk.2) (.slice Ao35 t567.length co35)) (fun _ hk => hk.2) (.slice Ao37 t570.length co37)) (fun _ hk => trivial))⟩, ⟨kP BK548⟩, ⟨kP BK549⟩, ⟨by (with_reducible repeat (first | apply bN | apply bD | apply bA)); refine blk_put (cs := #[.slice Ao35 t567.length co35, .slice Ao33 x557001_1.length co33]) ?_ 1 _ rfl; (with_reducible repeat (first | apply bN | apply bD | apply bA)); refine blk_put (cs := #[.slice Ao32 x557000_1.length co32, .slice Ao33 x557001_1.length co33]) ?_ 0 _ rfl; (with_reducible repeat (first | apply bN | apply bD | apply bA)); exact BK556.out⟩, ⟨bB⟩⟩
      ·rw [if_neg c27] at H
       have c27b0 : (((rd_T92 l1 x6_1).f0) == 1) = false := beq_eq_false_iff_ne.mpr c27
       have c27b1 : (((rd_T92 l1 x6_1).f0) != 1) = true := bne_iff_ne.mpr c27
       have H' := aM H
       clear H
       have p557 : 0 ≤ (x6_1 : Int) := dT
       have q557 : x6_1 < (l1.length : Int) := dT
       obtain ⟨ad557, e557, hx557_0, hx557_1, hx557_2⟩ := at_T92 HR1.out x6_1 p557 q557
       cases e557
       replace hx557_0 := (HB.out.cell (World.block_lt_of_cell? w _ hx557_0)).trans hx557_0
       replace hx557_1 := (HB.out.cell (World.block_lt_of_cell? w _ hx557_1)).trans hx557_1
       replace hx557_2 := (HB.out.cell (World.block_lt_of_cell? w _ hx557_2)).trans hx557_2
       replace p557 := eq_true p557
       replace q557 := eq_true q557
       go_wp2
       go_roundg k1
       case measure => have := HK1.out; omega
       case rel => exact ⟨(wrap64 (x6_1 + 1)), (x557000_1), (x557001_1), (u557000), (u557001), (by first | rfl | (simp; done) | (simp [*]; done) | (simp; exact (by intro l_; cases l_ <;> rfl : ∀ l_ : List UInt8, l_.isEmpty = !(l_ != [])) _)), H', ⟨by have := HK1.out; omega⟩, ⟨rP HO_557000.out⟩, ⟨rP HO_557001.out⟩, ⟨kP BK548⟩, ⟨kP BK549⟩, ⟨kP BK556⟩, ⟨bB⟩⟩
    ·rw [if_neg c16] at H
     exact absurd H (by simp)
   ·rw [if_neg c15] at H
    have c15b0 : decide (x6_1 < (l1.length : Int)) = false := decide_eq_false c15
    clear c15
    simp only [Option.some.injEq, Prod.mk.injEq] at H
    obtain ⟨rfl, rfl⟩ := H
    have hnb38 := NB556_548.out
    have hnc38 := NB548_556.out
    have hnb39 := NB556_549.out
    have hnc39 := NB549_556.out
    have hcz40_0 := cZ0 BK556
    have hcz40_1 := cZ1 BK556
    have hfz40_0 := fZ BK556 0
    have hfz40_1 := fZ BK556 1
    obtain ⟨Ao41, co41, eo41⟩ := Kd.R_slice HO_557000.out
    subst eo41
    have hnb42 := NB549_548.out
    have hnc42 := NB548_549.out
    have hcz43_0 := cZ0 BK549
    have hcz43_1 := cZ1 BK549
    have hfz43_0 := fZ BK549 0
    have hfz43_1 := fZ BK549 1
    obtain ⟨Ao44, co44, eo44⟩ := Kd.R_slice HO_557001.out
    subst eo44
    go_wp2
    refine bodyPost_ret (results_cell_row rfl _ _ gb549 30 #[.slice Ao41 x557000_1.length co41, .slice Ao44 x557001_1.length co44] (0, 0) _ rfl (by (with_reducible repeat (first | apply bN | apply bD | apply bA)); refine blk_put (cs := #[.slice Ao41 x557000_1.length co41, .slice none 0 0]) ?_ 1 _ rfl; (with_reducible repeat (first | apply bN | apply bD | apply bA)); refine blk_put (cs := #[.slice none 0 0, .slice none 0 0]) ?_ 0 _ rfl; (with_reducible repeat (first | apply bN | apply bD | apply bA)); exact BK549.out) Try.underlying30 rfl (by kernel_rfl)) rfl ?_
    exact ⟨_, _, eW, by (with_reducible repeat (first | apply Kd.R_alloc | apply Kd.R_drewN | apply Kd.R_drew)); exact Kd.R_mono (Kd.R_far (p := ⟨gb549, 1, none⟩) (Kd.R_far (p := ⟨gb549, 0, none⟩) (Kd.R_types HO_557000.out BK549.out (by decide)) (fun _ hk => hk.2) (.slice Ao41 x557000_1.length co41)) (fun _ hk => hk.2) (.slice Ao44 x557001_1.length co44)) (fun _ hk => trivial), by (with_reducible repeat (first | apply Kd.R_alloc | apply Kd.R_drewN | apply Kd.R_drew)); exact Kd.R_mono (Kd.R_far (p := ⟨gb549, 1, none⟩) (Kd.R_far (p := ⟨gb549, 0, none⟩) (Kd.R_types HO_557001.out BK549.out (by decide)) (fun _ hk => hk.2) (.slice Ao41 x557000_1.length co41)) (fun _ hk => hk.2) (.slice Ao44 x557001_1.length co44)) (fun _ hk => trivial), bB⟩

/-! ### spec_l4Event: function 103 -/
def spec_l4Event.f (a0 : Int) (a1 : ByteArray) : Option (Int × Int × ByteArray) := some (0, a0, a1)
set_option maxHeartbeats 8000000 in
set_option maxRecDepth 100000 in
theorem spec_l4Event.calls (a0 : Int) (a1 : ByteArray) (r1 : Int) (r2 : Int) (r3 : ByteArray) (w : World) (h : spec_l4Event.f a0 a1 = some (r1, r2, r3)) :
  Calls Try.prog 103 #[.int .i64 a0, .string a1] w fun e w' => e = .returned (.agg #[.int .i64 r1, .int .i64 r2, .string r3]) ∧ Below w.heap.size w w' := by
 have hu92 := Try.underlying92
 have HB := aM (Below.refl w.heap.size w)
 unfold spec_l4Event.f at h
 have H := h
 clear h
 simp only [Option.some.injEq, Prod.mk.injEq] at H
 obtain ⟨rfl, rfl, rfl⟩ := H
 go_enter Try.func103, Try.ntmps103
 go_wp2_with (first | ((with_reducible refine gate_dst (N := 4) rfl ?_); refine bE 4 #[.int .i64 0, .int .i64 0, .string (⟨#[]⟩ : ByteArray)] 92 ?_; intro gb573 hg w3 hbox hb; have n_ := aI (sB HB hb) (aI (aM hbox) (aI (gE HB hg) (gE HB hg))); clear HB; obtain ⟨HB, BK573, GW573, GE573⟩ := n_; (try clear hb hbox hg); have hcz4_0 := cZ0 BK573; have hcz4_1 := cZ1 BK573; have hcz4_2 : w3.cell? ⟨gb573, 2, none⟩ = some (.string (⟨#[]⟩ : ByteArray)) := (blk_cell BK573.out 2).trans rfl; have hfz4_0 := fZ BK573 0; have hfz4_1 := fZ BK573 1; have hfz4_2 := fZ BK573 2))
 refine bodyPost_ret (results_cell_row rfl _ _ gb573 92 #[.int .i64 0, .int .i64 a0, .string a1] (0, 0) _ rfl (by (with_reducible repeat (first | apply bN | apply bD | apply bA)); refine blk_put (cs := #[.int .i64 0, .int .i64 a0, .string (⟨#[]⟩ : ByteArray)]) ?_ 2 _ rfl; (with_reducible repeat (first | apply bN | apply bD | apply bA)); refine blk_put (cs := #[.int .i64 0, .int .i64 0, .string (⟨#[]⟩ : ByteArray)]) ?_ 1 _ rfl; (with_reducible repeat (first | apply bN | apply bD | apply bA)); refine blk_put (cs := #[.int .i64 0, .int .i64 0, .string (⟨#[]⟩ : ByteArray)]) ?_ 0 _ rfl; (with_reducible repeat (first | apply bN | apply bD | apply bA)); exact BK573.out) Try.underlying92 rfl (by kernel_rfl)) rfl ?_
 exact ⟨eW, bB⟩

/-! ### spec_l4Four: function 131 -/
def spec_l4Four.f (a0 : Int) : Option (ByteArray) := some (strOfNums (([(wrap64 (Int.tdiv a0 16777216)) % 256, (Int.tmod (wrap64 (Int.tdiv a0 65536)) 256) % 256, (Int.tmod (wrap64 (Int.tdiv a0 256)) 256) % 256, (Int.tmod a0 256) % 256] : List Int)))
set_option maxHeartbeats 8000000 in
set_option maxRecDepth 100000 in
theorem spec_l4Four.calls (a0 : Int) (r : ByteArray) (w : World) (h : spec_l4Four.f a0 = some r) :
  Calls Try.prog 131 #[.int .i64 a0] w fun e w' => e = .returned (.string r) ∧ Below w.heap.size w w' := by
 have HB := aM (Below.refl w.heap.size w)
 unfold spec_l4Four.f at h
 have H := h
 clear h
 obtain ⟨y574, hy574⟩ : ∃ y_ : List Int, y_ = (([(wrap64 (Int.tdiv a0 16777216)) % 256, (Int.tmod (wrap64 (Int.tdiv a0 65536)) 256) % 256, (Int.tmod (wrap64 (Int.tdiv a0 256)) 256) % 256, (Int.tmod a0 256) % 256] : List Int)) := ⟨_, rfl⟩
 replace H : (some (strOfNums y574)) = some r := bQ hy574 H
 have Ny574 := aM hy574
 clear hy574
 obtain rfl := Option.some.inj H
 go_enter Try.func131, Try.ntmps131
 go_wp2_with (first | ((with_reducible refine gate_dst (N := 17) rfl ?_); refine Kd.R_lit (Kd.int .u8) _ 5 ?hg (N := 17) ?hd (xs := ([(wrap64 (Int.tdiv a0 16777216)) % 256, (Int.tmod (wrap64 (Int.tdiv a0 65536)) 256) % 256, (Int.tmod (wrap64 (Int.tdiv a0 256)) 256) % 256, (Int.tmod a0 256) % 256] : List Int)) (inner := [.int .u8 ((wrap64 (Int.tdiv a0 16777216)) % 256), .int .u8 ((Int.tmod (wrap64 (Int.tdiv a0 65536)) 256) % 256), .int .u8 ((Int.tmod (wrap64 (Int.tdiv a0 256)) 256) % 256), .int .u8 ((Int.tmod a0 256) % 256)]) (ok := fun _ => True) (okp := fun _ => True) ?hr ?hp (fun _ hk => hk) trivial (Below.refl _ _) (Nat.le_refl _) (by simp) ?_; (case hd => rfl); (case hg => rfl); (case hr => first | (go_simp; done) | (go_simp; rfl)); (case hp => exact (Reps.one (show Kd.M (Kd.int .u8) _ _ _ ((wrap64 (Int.tdiv a0 16777216)) % 256) [.int .u8 ((wrap64 (Int.tdiv a0 16777216)) % 256)] from rfl) (Reps.one (show Kd.M (Kd.int .u8) _ _ _ ((Int.tmod (wrap64 (Int.tdiv a0 65536)) 256) % 256) [.int .u8 ((Int.tmod (wrap64 (Int.tdiv a0 65536)) 256) % 256)] from rfl) (Reps.one (show Kd.M (Kd.int .u8) _ _ _ ((Int.tmod (wrap64 (Int.tdiv a0 256)) 256) % 256) [.int .u8 ((Int.tmod (wrap64 (Int.tdiv a0 256)) 256) % 256)] from rfl) (Reps.one (show Kd.M (Kd.int .u8) _ _ _ ((Int.tmod a0 256) % 256) [.int .u8 ((Int.tmod a0 256) % 256)] from rfl) (Reps.none _ _)))))); intro v575 w2 ho3 hb hg_ hnew_; clear hg_ hnew_; (first | rw [← Ny574.out] at ho3 | (simp only [Int.reduceToNat] at ho3; rw [← Ny574.out] at ho3)); have n_ := aI (lR HB ho3) (sB HB hb); clear HB; obtain ⟨HO576, HB⟩ := n_; (try clear hb ho3); have hcv4 := own_string (P := Try.prog) Try.underlying60 Try.underlying5 Try.underlying9 (Kd.own_of_R HO576.out)))
 go_ret
 exact ⟨eW, bB⟩

/-! ### spec_l4Head: function 128 -/
def spec_l4Head.l0 : Nat → List Int → Int → List Int → Int → Option (ByteArray)
 | 0, _, _, _, _ => none
 | k + 1, x0, x1, x5, x6 => if x6 < (x0.length : Int) then (if 0 ≤ x6 then ((spec_PutNum.f k (rd x0 x6)).bind fun t587 => (if x5.length + t587.length < 140737488355328 then (spec_l4Head.l0 k x0 x1 (x5 ++ t587) (wrap64 (x6 + 1))) else (none))) else (none)) else ((spec_l4Four.f x1).bind fun t593 => (if (strOfNums x5).size + t593.size ≤ 9223372036854775807 then (some ((strOfNums x5) ++ t593)) else (none)))
def spec_l4Head.f (k : Nat) (l0 : List Int) (a1 : Int) : Option (ByteArray) := (some (([74] : List Int) : List Int)).bind fun y577 => ((spec_PutNum.f k (l0.length : Int)).bind fun t580 => (if y577.length + t580.length < 140737488355328 then (spec_l4Head.l0 k l0 a1 (y577 ++ t580) 0) else (none)))
theorem spec_l4Head.mono_l : ∀ k, (∀ y0 y1 y2 y3, LeO (spec_l4Head.l0 k y0 y1 y2 y3) (spec_l4Head.l0 (k + 1) y0 y1 y2 y3))
 | 0 => fun _ _ _ _ r h => by simp [spec_l4Head.l0] at h
 | k + 1 => by
  have ih0 := spec_l4Head.mono_l k
  ·intro y0 y1 y2 y3
   unfold spec_l4Head.l0
   have m0_ := @spec_PutNum.mono
   exact mM
theorem spec_l4Head.mono : ∀ a0 a1 k, LeO (spec_l4Head.f k a0 a1) (spec_l4Head.f (k + 1) a0 a1) := by
 intro a0 a1 k
 have ih0 := spec_l4Head.mono_l k
 unfold spec_l4Head.f
 have m0_ := @spec_PutNum.mono
 exact mM
set_option maxHeartbeats 8000000 in
set_option maxRecDepth 100000 in
theorem spec_l4Head.calls (k : Nat) (A0 : Option Addr) (c0 : Nat) (l0 : List Int) (a1 : Int) (r : ByteArray) (w : World) (hr0 : Kd.C (Kd.int .i64) w A0 l0.length l0) (hc0 : l0.length ≤ c0) (h : spec_l4Head.f k l0 a1 = some r) :
  Calls Try.prog 128 #[.slice A0 l0.length c0, .int .i64 a1] w fun e w' => e = .returned (.string r) ∧ Below w.heap.size w w' := by
 have HR0 := aM hr0
 have HC0 := aM hc0
 clear hr0 hc0
 have HB := aM (Below.refl w.heap.size w)
 unfold spec_l4Head.f at h
 have H := h
 clear h
 obtain ⟨y577, hy577⟩ : ∃ y_ : List Int, y_ = (([74] : List Int)) := ⟨_, rfl⟩
 replace H : ((spec_PutNum.f k (l0.length : Int)).bind fun t580 => (if y577.length + t580.length < 140737488355328 then (spec_l4Head.l0 k l0 a1 (y577 ++ t580) 0) else (none))) = some r := bQ hy577 H
 have Ny577 := aM hy577
 clear hy577
 replace H := Option.bind_eq_some_iff.mp H
 obtain ⟨t580, A30, H⟩ := H
 try dsimp only at H
 have A3 := aM A30
 clear A30
 by_cases c4 : y577.length + t580.length < 140737488355328
 ·rw [if_pos c4] at H
  have LMc4 := aM c4
  clear c4
  obtain ⟨y583, hy583⟩ : ∃ y_ : List Int, y_ = (y577 ++ t580) := ⟨_, rfl⟩
  replace H : (spec_l4Head.l0 k l0 a1 y583 0) = some r := bQ hy583 H
  have Ny583 := aM hy583
  clear hy583
  have H' := aM H
  clear H
  go_enter Try.func128, Try.ntmps128
  go_wp2_with (first | ((with_reducible refine gate_dst (N := 7) rfl ?_); refine Kd.R_lit (Kd.int .u8) _ 5 ?hg (N := 7) ?hd (xs := ([74] : List Int)) (inner := [.int .u8 74]) (ok := fun _ => True) (okp := fun _ => True) ?hr ?hp (fun _ hk => hk) trivial (Below.refl _ _) (Nat.le_refl _) (by simp) ?_; (case hd => rfl); (case hg => rfl); (case hr => first | (go_simp; done) | (go_simp; rfl)); (case hp => exact (Reps.one (show Kd.M (Kd.int .u8) _ _ _ 74 [.int .u8 74] from rfl) (Reps.none _ _))); intro v578 w5 ho6 hb hg_ hnew_; clear hg_ hnew_; (first | rw [← Ny577.out] at ho6 | (simp only [Int.reduceToNat] at ho6; rw [← Ny577.out] at ho6)); have n_ := aI (lR HB ho6) (sB HB hb); clear HB; obtain ⟨HO579, HB⟩ := n_; (try clear hb ho6)) | ((with_reducible refine gate_callee (f := 129) rfl ?_); refine gL (some 10) Try.func129 #[.int .i64 (l0.length : Int)] ?_; (with_reducible refine (spec_PutNum.calls k (l0.length : Int) t580 _ A3.out).mono ?_); rintro e w7 ⟨v581, rfl, ho0, hb⟩; refine ⟨_, rfl, ?_⟩; have n_ := aI (eR HO579 ho0 hb) (aI (aM (Kd.R_lower (Kd.R_new' ho0 (rL HO579)) (zB HB))) (sB HB hb)); clear HO579 HB; obtain ⟨HO579, HO582, HB⟩ := n_; (try clear hb ho0); obtain ⟨Ao9, co9, eo9⟩ := Kd.R_slice HO582.out; subst eo9) | ((with_reducible refine gate_builtin (b := .append) (xs := #[.tmp 7, .tmp 10]) rfl ?_); at_builtin; refine Kd.R_append_rows (Kd.int .u8) (w0 := w) w.heap.size rfl (.tmp 7) (.tmp 10) 60 5 (.int .u8 0) 1 rfl Try.underlying60 info5 rfl (by decide) (by omega) v578 y577 t580 _ _ _ (fun k_ => some k_ ≠ (.slice Ao9 t580.length co9 : Value).ownBlock) (fun _ => False) rfl rfl ?aO ?aR (fun _ _ h => h) (fun _ h => h.elim) ?aF ?aB ?aS ?aL ?_; (case aR => exact cR HO582); (case aB => exact bB); (case aF => exact (fun k_ hk => Kd.fresh' (rL HO582) k_ hk)); (case aO => exact (rP (Kd.R_mono HO579.out (fun _ hk => hk.2)))); (case aS => exact (zB HB)); (case aL => have := LMc4.out; omega); intro v584 w8 ho hb hg hat; rw [← Ny583.out] at ho; have n_ := aI (aM (Kd.R_after (ok := (fun _ => True)) (rP HO582.out) hg hat)) (aI (aM (hb)) (aM (ho))); clear HO582 HB HO579; obtain ⟨HO582, HB, HO585⟩ := n_; (try clear ho hb hg hat)))
  go_loopg [5, 6] k (fun kq v5 v6 w' => ∃ (x5_1 : List Int) (x6_1 : Int), v6 = .int .i64 x6_1 ∧ Aside0 (spec_l4Head.l0 kq l0 a1 x5_1 x6_1 = some r) ∧ Aside0 (kq ≤ k) ∧ Aside0 (Kd.R (Kd.int .u8) 5 w' w.heap.size (fun _ => True) v5 x5_1) ∧ Aside0 (Below w.heap.size w w'))
  case atStart => exact ⟨(y583), (0), (by first | rfl | (simp; done) | (simp [*]; done) | (simp; exact (by intro l_; cases l_ <;> rfl : ∀ l_ : List UInt8, l_.isEmpty = !(l_ != [])) _)), H', ⟨Nat.le_refl _⟩, ⟨rP (Kd.R_mono HO585.out (fun _ hk => trivial))⟩, ⟨bB⟩⟩
  case round =>
   clear H'
   try clear c1
   try clear p2
   try clear c4
   obtain ⟨x5_1, x6_1, rfl, HA, HK1, HO_5, HB⟩ := hrel
   cases gk with
   | zero => exact absurd HA.out (by simp [spec_l4Head.l0])
   | succ k1 =>
    have H := HA.out
    clear HA
    simp only [spec_l4Head.l0] at H
    by_cases c10 : x6_1 < (l0.length : Int)
    ·rw [if_pos c10] at H
     have c10b0 : decide (x6_1 < (l0.length : Int)) = true := decide_eq_true c10
     clear c10
     by_cases c11 : 0 ≤ x6_1
     ·rw [if_pos c11] at H
      have c11b0 : decide (0 ≤ x6_1) = true := decide_eq_true c11
      clear c11
      replace H := Option.bind_eq_some_iff.mp H
      obtain ⟨t587, A120, H⟩ := H
      try dsimp only at H
      have A12 := aM A120
      clear A120
      by_cases c13 : x5_1.length + t587.length < 140737488355328
      ·rw [if_pos c13] at H
       have LMc13 := aM c13
       clear c13
       obtain ⟨y590, hy590⟩ : ∃ y_ : List Int, y_ = (x5_1 ++ t587) := ⟨_, rfl⟩
       replace H : (spec_l4Head.l0 k1 l0 a1 y590 (wrap64 (x6_1 + 1))) = some r := bQ hy590 H
       have Ny590 := aM hy590
       clear hy590
       have H' := aM H
       clear H
       have p586 : 0 ≤ (x6_1 : Int) := dT
       have q586 : x6_1 < (l0.length : Int) := dT
       obtain ⟨ad586, e586, hx586_0⟩ := Kd.at_int HR0.out x6_1 p586 q586
       cases e586
       replace hx586_0 := (HB.out.cell (World.block_lt_of_cell? w _ hx586_0)).trans hx586_0
       replace p586 := eq_true p586
       replace q586 := eq_true q586
       go_wp2_with (first | ((with_reducible refine gate_callee (f := 129) rfl ?_); refine gL (some 23) Try.func129 #[.int .i64 (rd l0 x6_1)] ?_; (with_reducible refine (spec_PutNum.calls k1 (rd l0 x6_1) t587 _ A12.out).mono ?_); rintro e w14 ⟨v588, rfl, ho0, hb⟩; refine ⟨_, rfl, ?_⟩; have n_ := aI (eR HO_5 ho0 hb) (aI (aM (Kd.R_lower (Kd.R_new' ho0 (rL HO_5)) (zB HB))) (sB HB hb)); clear HO_5 HB; obtain ⟨HO_5, HO589, HB⟩ := n_; (try clear hb ho0); obtain ⟨Ao16, co16, eo16⟩ := Kd.R_slice HO589.out; subst eo16) | ((with_reducible refine gate_builtin (b := .append) (xs := #[.tmp 18, .tmp 23]) rfl ?_); at_builtin; refine Kd.R_append_rows (Kd.int .u8) (w0 := w) w.heap.size rfl (.tmp 18) (.tmp 23) 60 5 (.int .u8 0) 1 rfl Try.underlying60 info5 rfl (by decide) (by omega) u5 x5_1 t587 _ _ _ (fun k_ => some k_ ≠ (.slice Ao16 t587.length co16 : Value).ownBlock) (fun _ => False) rfl rfl ?aO ?aR (fun _ _ h => h) (fun _ h => h.elim) ?aF ?aB ?aS ?aL ?_; (case aR => exact cR HO589); (case aB => exact bB); (case aF => exact (fun k_ hk => Kd.fresh' (rL HO589) k_ hk)); (case aO => exact (rP (Kd.R_mono HO_5.out (fun _ hk => hk.2)))); (case aS => exact (zB HB)); (case aL => have := LMc13.out; omega); intro v591 w15 ho hb hg hat; rw [← Ny590.out] at ho; have n_ := aI (aM (Kd.R_after (ok := (fun _ => True)) (rP HO589.out) hg hat)) (aI (aM (hb)) (aM (ho))); clear HO589 HB HO_5; obtain ⟨HO589, HB, HO592⟩ := n_; (try clear ho hb hg hat)))
       go_roundg k1
       case measure => have := HK1.out; omega
       case rel => exact ⟨(y590), (wrap64 (x6_1 + 1)), (by first | rfl | (simp; done) | (simp [*]; done) | (simp; exact (by intro l_; cases l_ <;> rfl : ∀ l_ : List UInt8, l_.isEmpty = !(l_ != [])) _)), H', ⟨by have := HK1.out; omega⟩, ⟨rP (Kd.R_mono HO592.out (fun _ hk => trivial))⟩, ⟨bB⟩⟩
      ·rw [if_neg c13] at H
       exact absurd H (by simp)
     ·rw [if_neg c11] at H
      exact absurd H (by simp)
    ·rw [if_neg c10] at H
     have c10b0 : decide (x6_1 < (l0.length : Int)) = false := decide_eq_false c10
     clear c10
     replace H := Option.bind_eq_some_iff.mp H
     obtain ⟨t593, A170, H⟩ := H
     try dsimp only at H
     have A17 := aM A170
     clear A170
     by_cases c18 : (strOfNums x5_1).size + t593.size ≤ 9223372036854775807
     ·rw [if_pos c18] at H
      have c18b0 := eq_true c18
      have c18b1 : decide ((strOfNums x5_1).size + t593.size ≤ 9223372036854775807) = true := decide_eq_true c18
      try have c18b2 : (9223372036854775807 < (strOfNums x5_1).size + t593.size) = False := eq_false (Nat.not_lt.2 c18)
      obtain rfl := Option.some.inj H
      try go_wp2
      have n_ := aI (aM (Kd.R_drew HO_5.out)) (aM (below_drew1 HB.out))
      clear HO_5 HB
      obtain ⟨HO_5, HB⟩ := n_
      refine start_ (n := 6) (S := fun w' => True) (ds := []) #[tF, tF, tF, tF, tF, tF] (by kernel_rfl) rfl rfl trivial (fun hHeld => ?_)
      generalize wr.drew = w19 at HO_5 HB hHeld ⊢
      refine pure_ (i := 0) (N := some 25) (v := ?_) (a' := ?_) #[tT, tF, tF, tF, tF, tF] rfl rfl (by kernel_rfl) (fun _ _ _ h => h) (Or.inl ⟨by rfl, ?_⟩) ?_ ?_
      rotate_left
      ·intro w'
       go_simp
       with_reducible rfl
      rotate_left
      ·simp only [Act.put, List.setIfInBounds_toArray, List.set_cons_zero, List.set_cons_succ, i64_w, i32_w]
       rfl
      refine pure_ (i := 2) (N := some 27) (v := ?_) (a' := ?_) #[tT, tF, tT, tF, tF, tF] rfl rfl (by kernel_rfl) (fun _ _ _ h => h) (Or.inl ⟨by rfl, ?_⟩) ?_ ?_
      rotate_left
      ·intro w'
       go_simp
       with_reducible rfl
      rotate_left
      ·simp only [Act.put, List.setIfInBounds_toArray, List.set_cons_zero, List.set_cons_succ, i64_w, i32_w]
       rfl
      refine join_ (σ := Unit) 2 #[true, true, true, true, false, false] (fun s_ => [(26, .string (strOfNums x5_1)), (28, .string t593)]) (fun s_ w' => (Kd.R (Kd.int .u8) 5 w' w.heap.size (fun _ => True) u5 x5_1) ∧ (Below w.heap.size w w')) ?_ ?_
      rotate_left
      ·intro hCont
       refine two_ (i := 1) (j := 3) (Ni := some 26) (Nj := some 28) #[true, true, true, false, false, false] #[true, false, true, true, false, false] rfl rfl rfl rfl (by kernel_rfl) (by decide) (by decide) (fun K hK => ?_) (fun K hK => ?_)
       ·skip
        have hcv20 := own_string (P := Try.prog) Try.underlying60 Try.underlying5 Try.underlying9 (Kd.own_of_R HO_5.out)
        refine value_ (w1 := ?_) (v := ?_) (by rfl) rfl ?_ ?_
        rotate_left 2
        ·go_simp
         constructor
         ·rfl
         ·rfl
        clear hcv20
        refine hK.out _ _ trivial (fun hHeld => ?_)
        clear hK K
        refine norm_ (a' := ?_) ?_ ?_
        rotate_left
        ·show Act.put _ (some 26) _ = _
         simp only [Act.put, List.setIfInBounds_toArray, List.set_cons_zero, List.set_cons_succ, i64_w, i32_w]
         rfl
        refine one_ (i := 3) (N := some 28) #[tT, tT, tT, tT, tF, tF] rfl rfl (by kernel_rfl) (by decide) (fun K hK => ?_)
        refine goes_ Try.func131 (by kernel_rfl) rfl #[.int .i64 a1] (by rfl) rfl rfl (by (try simp only [List.map_toArray, List.map_cons, List.map_nil]); first | done | rfl | (simp only [List.length_drop, List.length_take]; rfl)) ?_
        with_reducible refine (spec_l4Four.calls a1 t593 _ A17.out).mono ?_
        rintro e w21 ⟨rfl, hb⟩
        refine ⟨_, rfl, ?_⟩
        have n_ := aI (rB HO_5 hb) (sB HB hb)
        clear HO_5 HB
        obtain ⟨HO_5, HB⟩ := n_
        (try clear hb)
        (try clear hb2)
        (try clear hk)
        (try clear hi)
        refine hK.out _ _ trivial (fun hHeld => ?_)
        clear hK K
        refine norm_ (a' := ?_) ?_ ?_
        rotate_left
        ·show Act.put _ (some 28) _ = _
         simp only [Act.put, List.setIfInBounds_toArray, List.set_cons_zero, List.set_cons_succ, i64_w, i32_w]
         rfl
        exact norm_ (by simp only [putAll, Act.put, List.setIfInBounds_toArray, List.set_cons_zero, List.set_cons_succ]) (hCont () _ ⟨(rP HO_5.out), bB⟩)
       ·skip
        refine goes_ Try.func131 (by kernel_rfl) rfl #[.int .i64 a1] (by rfl) rfl rfl (by (try simp only [List.map_toArray, List.map_cons, List.map_nil]); first | done | rfl | (simp only [List.length_drop, List.length_take]; rfl)) ?_
        with_reducible refine (spec_l4Four.calls a1 t593 _ A17.out).mono ?_
        rintro e w20 ⟨rfl, hb⟩
        refine ⟨_, rfl, ?_⟩
        have n_ := aI (rB HO_5 hb) (sB HB hb)
        clear HO_5 HB
        obtain ⟨HO_5, HB⟩ := n_
        (try clear hb)
        (try clear hb2)
        (try clear hk)
        (try clear hi)
        refine hK.out _ _ trivial (fun hHeld => ?_)
        clear hK K
        refine norm_ (a' := ?_) ?_ ?_
        rotate_left
        ·show Act.put _ (some 28) _ = _
         simp only [Act.put, List.setIfInBounds_toArray, List.set_cons_zero, List.set_cons_succ, i64_w, i32_w]
         rfl
        refine one_ (i := 1) (N := some 26) #[tT, tT, tT, tT, tF, tF] rfl rfl (by kernel_rfl) (by decide) (fun K hK => ?_)
        have hcv21 := own_string (P := Try.prog) Try.underlying60 Try.underlying5 Try.underlying9 (Kd.own_of_R HO_5.out)
        refine value_ (w1 := ?_) (v := ?_) (by rfl) rfl ?_ ?_
        rotate_left 2
        ·go_simp
         constructor
         ·rfl
         ·rfl
        clear hcv21
        refine hK.out _ _ trivial (fun hHeld => ?_)
        clear hK K
        refine norm_ (a' := ?_) ?_ ?_
        rotate_left
        ·show Act.put _ (some 26) _ = _
         simp only [Act.put, List.setIfInBounds_toArray, List.set_cons_zero, List.set_cons_succ, i64_w, i32_w]
         rfl
        exact norm_ (by simp only [putAll, Act.put, List.setIfInBounds_toArray, List.set_cons_zero, List.set_cons_succ]) (hCont () _ ⟨(rP HO_5.out), bB⟩)
      rintro _ w22 ⟨h0_, h1_⟩
      have n0_ : Aside0 (Kd.R (Kd.int .u8) 5 w22 w.heap.size (fun _ => True) u5 x5_1) := ⟨h0_⟩
      have n1_ : Aside0 (Below w.heap.size w w22) := ⟨h1_⟩
      clear HO_5
      clear HB
      clear h0_ h1_
      have HO_5 := n0_
      have HB := n1_
      clear n0_ n1_
      have hHeld := trivial
      refine norm_ (a' := ?_) ?_ ?_
      rotate_left
      ·simp only [putAll, Act.put, List.setIfInBounds_toArray, List.set_cons_zero, List.set_cons_succ]
       rfl
      refine pure_ (i := 4) (N := some 29) (v := ?_) (a' := ?_) #[tT, tT, tT, tT, tT, tF] rfl rfl (by kernel_rfl) (fun _ _ _ h => h) (Or.inl ⟨by rfl, ?_⟩) ?_ ?_
      rotate_left
      ·intro w'
       go_simp
       with_reducible rfl
      rotate_left
      ·simp only [Act.put, List.setIfInBounds_toArray, List.set_cons_zero, List.set_cons_succ, i64_w, i32_w]
       rfl
      refine pure_ (i := 5) (N := some 4) (v := ?_) (a' := ?_) #[tT, tT, tT, tT, tT, tT] rfl rfl (by kernel_rfl) (fun _ _ _ h => h) (Or.inl ⟨by rfl, ?_⟩) ?_ ?_
      rotate_left
      ·intro w'
       go_simp
       with_reducible rfl
      rotate_left
      ·simp only [Act.put, List.setIfInBounds_toArray, List.set_cons_zero, List.set_cons_succ, i64_w, i32_w]
       rfl
      refine done_ (by kernel_rfl) ?_
      try go_wp2
      go_ret
      exact ⟨eW, bB⟩
     ·rw [if_neg c18] at H
      exact absurd H (by simp)
 rw [if_neg c4] at H
 exact absurd H (by simp)

/-! ### spec_HeadText: function 104 -/
def spec_HeadText.l0 : Nat → List (S65) → List Int → List ByteArray → Int → Option (ByteArray)
 | 0, _, _, _, _ => none
 | k + 1, x0, x3, x4, x5 => if x5 < (x0.length : Int) then (if 0 ≤ x5 then (if x3.length < 17592186044416 then (if x4.length < 8796093022208 then (spec_HeadText.l0 k x0 (x3 ++ [(rd_T65 x0 x5).f0]) (x4 ++ [(rd_T65 x0 x5).f1]) (wrap64 (x5 + 1))) else (none)) else (none)) else (none)) else ((spec_l4Sum.f k x4).bind fun t609 => ((spec_l4Head.f k x3 t609).bind fun t610 => (some t610)))
def spec_HeadText.f (k : Nat) (l0 : List (S65)) : Option (ByteArray) := (spec_TxOk.f k 48 l0).bind fun t594 => (if t594 = true then (spec_HeadText.l0 k l0 (([] : List Int)) (([] : List ByteArray)) 0) else (some (⟨#[]⟩ : ByteArray)))
theorem spec_HeadText.mono_l : ∀ k, (∀ y0 y1 y2 y3, LeO (spec_HeadText.l0 k y0 y1 y2 y3) (spec_HeadText.l0 (k + 1) y0 y1 y2 y3))
 | 0 => fun _ _ _ _ r h => by simp [spec_HeadText.l0] at h
 | k + 1 => by
  have ih0 := spec_HeadText.mono_l k
  ·intro y0 y1 y2 y3
   unfold spec_HeadText.l0
   have m0_ := @spec_TxOk.mono
   have m1_ := @spec_l4Head.mono
   have m2_ := @spec_l4Sum.mono
   exact mM
theorem spec_HeadText.mono : ∀ a0 k, LeO (spec_HeadText.f k a0) (spec_HeadText.f (k + 1) a0) := by
 intro a0 k
 have ih0 := spec_HeadText.mono_l k
 unfold spec_HeadText.f
 have m0_ := @spec_TxOk.mono
 have m1_ := @spec_l4Head.mono
 have m2_ := @spec_l4Sum.mono
 exact mM
set_option maxHeartbeats 8000000 in
set_option maxRecDepth 100000 in
theorem spec_HeadText.calls (k : Nat) (A0 : Option Addr) (c0 : Nat) (l0 : List (S65)) (r : ByteArray) (w : World) (hr0 : Kd.C k65 w A0 l0.length l0) (hc0 : l0.length ≤ c0) (h : spec_HeadText.f k l0 = some r) :
  Calls Try.prog 104 #[.slice A0 l0.length c0] w fun e w' => e = .returned (.string r) ∧ Below w.heap.size w w' := by
 have HR0 := aM hr0
 have HC0 := aM hc0
 clear hr0 hc0
 have HB := aM (Below.refl w.heap.size w)
 unfold spec_HeadText.f at h
 have H := h
 clear h
 replace H := Option.bind_eq_some_iff.mp H
 obtain ⟨t594, A20, H⟩ := H
 try dsimp only at H
 have A2 := aM A20
 clear A20
 by_cases c3 : t594 = true
 ·subst c3
  rw [if_pos rfl] at H
  obtain ⟨y595, hy595⟩ : ∃ y_ : List Int, y_ = (([] : List Int)) := ⟨_, rfl⟩
  replace H : (spec_HeadText.l0 k l0 y595 (([] : List ByteArray)) 0) = some r := bQ hy595 H
  have Ny595 := aM hy595
  clear hy595
  obtain ⟨y598, hy598⟩ : ∃ y_ : List ByteArray, y_ = (([] : List ByteArray)) := ⟨_, rfl⟩
  replace H : (spec_HeadText.l0 k l0 y595 y598 0) = some r := bQ hy598 H
  have Ny598 := aM hy598
  clear hy598
  have H' := aM H
  clear H
  go_enter Try.func104, Try.ntmps104
  go_wp2_with (first | ((with_reducible refine gate_callee (f := 102) rfl ?_); refine gL (some 7) Try.func102 #[.int .i64 48, .slice A0 l0.length c0] ?_; (with_reducible refine (spec_TxOk.calls k 48 _ _ l0 true _ ?side1 ?side2 A2.out).mono ?_); (case side1 => repeat (first | exact HR0.out | (with_reducible refine Kd.C_alloc ?_ _) | (with_reducible refine Kd.C_drewN ?_ _) | (with_reducible refine Kd.C_drew ?_))); (case side2 => exact HC0.out); rintro e w' ⟨rfl, ⟨nd, rfl⟩⟩; refine ⟨_, rfl, ?_⟩) | ((with_reducible refine gate_dst (N := 9) rfl ?_); refine Kd.R_lit (Kd.int .i64) _ 3 ?hg (N := 9) ?hd (xs := ([] : List Int)) (inner := []) (ok := fun _ => True) (okp := fun _ => True) ?hr ?hp (fun _ hk => hk) trivial (Below.refl _ _) (Nat.le_refl _) (by simp) ?_; (case hd => rfl); (case hg => rfl); (case hr => first | (go_simp; done) | (go_simp; rfl)); (case hp => exact (Reps.none _ _)); intro v596 w4 ho5 hb hg_ hnew_; clear hg_ hnew_; (first | rw [← Ny595.out] at ho5 | (simp only [Int.reduceToNat] at ho5; rw [← Ny595.out] at ho5)); have n_ := aI (lR HB ho5) (sB HB hb); clear HB; obtain ⟨HO597, HB⟩ := n_; (try clear hb ho5)) | ((with_reducible refine gate_dst (N := 10) rfl ?_); refine Kd.R_lit Kd.string _ 9 ?hg (N := 10) ?hd (xs := ([] : List ByteArray)) (inner := []) (ok := fun _ => True) (okp := fun _ => True) ?hr ?hp (fun _ hk => hk) trivial (Below.refl _ _) (Nat.le_refl _) (by simp) ?_; (case hd => rfl); (case hg => rfl); (case hr => first | (go_simp; done) | (go_simp; rfl)); (case hp => exact (Reps.none _ _)); intro v599 w6 ho7 hb hg_ hnew_; clear hg_ hnew_; (first | rw [← Ny598.out] at ho7 | (simp only [Int.reduceToNat] at ho7; rw [← Ny598.out] at ho7)); have n_ := aI (rB HO597 hb) (aI (lR HB ho7) (sB HB hb)); clear HO597 HB; obtain ⟨HO597, HO600, HB⟩ := n_; (try clear hb ho7)))
  go_loopg [3, 4, 5] k (fun kq v3 v4 v5 w' => ∃ (x3_1 : List Int) (x4_1 : List ByteArray) (x5_1 : Int), v5 = .int .i64 x5_1 ∧ Aside0 (spec_HeadText.l0 kq l0 x3_1 x4_1 x5_1 = some r) ∧ Aside0 (kq ≤ k) ∧ Aside0 (Kd.R (Kd.int .i64) 3 w' w.heap.size (fun _ => True) v3 x3_1) ∧ Aside0 (Kd.R Kd.string 9 w' w.heap.size (fun _ => True) v4 x4_1) ∧ Aside0 (Below w.heap.size w w'))
  case atStart => exact ⟨(y595), (y598), (0), (by first | rfl | (simp; done) | (simp [*]; done) | (simp; exact (by intro l_; cases l_ <;> rfl : ∀ l_ : List UInt8, l_.isEmpty = !(l_ != [])) _)), H', ⟨Nat.le_refl _⟩, ⟨rP HO597.out⟩, ⟨rP HO600.out⟩, ⟨bB⟩⟩
  case round =>
   clear H'
   try clear c1
   try clear p2
   try clear c3
   obtain ⟨x3_1, x4_1, x5_1, rfl, HA, HK1, HO_3, HO_4, HB⟩ := hrel
   cases gk with
   | zero => exact absurd HA.out (by simp [spec_HeadText.l0])
   | succ k1 =>
    have H := HA.out
    clear HA
    simp only [spec_HeadText.l0] at H
    by_cases c8 : x5_1 < (l0.length : Int)
    ·rw [if_pos c8] at H
     have c8b0 : decide (x5_1 < (l0.length : Int)) = true := decide_eq_true c8
     clear c8
     by_cases c9 : 0 ≤ x5_1
     ·rw [if_pos c9] at H
      have c9b0 : decide (0 ≤ x5_1) = true := decide_eq_true c9
      clear c9
      by_cases c10 : x3_1.length < 17592186044416
      ·rw [if_pos c10] at H
       have LMc10 := aM c10
       clear c10
       obtain ⟨y602, hy602⟩ : ∃ y_ : List Int, y_ = (x3_1 ++ [(rd_T65 l0 x5_1).f0]) := ⟨_, rfl⟩
       replace H : (if x4_1.length < 8796093022208 then (spec_HeadText.l0 k1 l0 y602 (x4_1 ++ [(rd_T65 l0 x5_1).f1]) (wrap64 (x5_1 + 1))) else (none)) = some r := bQ hy602 H
       have Ny602 := aM hy602
       clear hy602
       by_cases c11 : x4_1.length < 8796093022208
       ·rw [if_pos c11] at H
        have LMc11 := aM c11
        clear c11
        obtain ⟨y606, hy606⟩ : ∃ y_ : List ByteArray, y_ = (x4_1 ++ [(rd_T65 l0 x5_1).f1]) := ⟨_, rfl⟩
        replace H : (spec_HeadText.l0 k1 l0 y602 y606 (wrap64 (x5_1 + 1))) = some r := bQ hy606 H
        have Ny606 := aM hy606
        clear hy606
        have H' := aM H
        clear H
        have p601 : 0 ≤ (x5_1 : Int) := dT
        have q601 : x5_1 < (l0.length : Int) := dT
        obtain ⟨ad601, e601, hx601_0, hx601_1⟩ := at_T65 HR0.out x5_1 p601 q601
        cases e601
        replace hx601_0 := (HB.out.cell (World.block_lt_of_cell? w _ hx601_0)).trans hx601_0
        replace hx601_1 := (HB.out.cell (World.block_lt_of_cell? w _ hx601_1)).trans hx601_1
        replace p601 := eq_true p601
        replace q601 := eq_true q601
        go_wp2_with (first | ((with_reducible refine gate_builtin (b := .append) (xs := #[.tmp 17, .tmp 23]) rfl ?_); at_builtin; refine Kd.R_append (Kd.int .i64) (w0 := w) w.heap.size rfl (.tmp 17) (.tmp 23) 95 3 (.int .i64 0) 8 rfl Try.underlying95 info3 rfl (by decide) (by omega) u3 x3_1 ((rd_T65 l0 x5_1).f0) [.int .i64 ((rd_T65 l0 x5_1).f0)] (fun _ => True) (fun _ => False) rfl rfl ?aP (fun _ hk => hk.elim) ?aF ?aO ?aB ?aS ?aL ?_; (case aP => exact rfl); (case aB => exact bB); (case aF => exact (fun _ _ => trivial)); (case aO => exact (rP HO_3.out)); (case aS => exact (zB HB)); (case aL => have := LMc10.out; omega); intro v603 w12 ho hb hg hat; rw [← Ny602.out] at ho; have n_ := aI (aM (Kd.R_over' (rP HO_4.out) (Kd.R_typed (rP HO_3.out)) (by decide) hg)) (aI (aM (hb)) (aM (ho))); clear HO_4 HB HO_3; obtain ⟨HO_4, HB, HO604⟩ := n_; (try clear ho hb hg hat); have p605 : 0 ≤ (x5_1 : Int) := dT; have q605 : x5_1 < (l0.length : Int) := dT; obtain ⟨ad605, e605, hx605_0, hx605_1⟩ := at_T65 HR0.out x5_1 p605 q605; obtain rfl : ad601 = ad605 := (by injection e605); replace hx605_0 := (HB.out.cell (World.block_lt_of_cell? w _ hx605_0)).trans hx605_0; replace hx605_1 := (HB.out.cell (World.block_lt_of_cell? w _ hx605_1)).trans hx605_1; replace p605 := eq_true p605; replace q605 := eq_true q605) | ((with_reducible refine gate_builtin (b := .append) (xs := #[.tmp 25, .tmp 31]) rfl ?_); at_builtin; refine Kd.R_append Kd.string (w0 := w) w.heap.size rfl (.tmp 25) (.tmp 31) 22 9 (.string ⟨#[]⟩) 16 rfl Try.underlying22 info9 rfl (by decide) (by omega) u4 x4_1 ((rd_T65 l0 x5_1).f1) [.string ((rd_T65 l0 x5_1).f1)] (fun _ => True) (fun _ => False) rfl rfl ?aP (fun _ hk => hk.elim) ?aF ?aO ?aB ?aS ?aL ?_; (case aP => exact rfl); (case aB => exact bB); (case aF => exact (fun _ _ => trivial)); (case aO => exact (rP HO_4.out)); (case aS => exact (zB HB)); (case aL => have := LMc11.out; omega); intro v607 w13 ho hb hg hat; rw [← Ny606.out] at ho; have n_ := aI (aM (Kd.R_over' (rP HO604.out) (Kd.R_typed (rP HO_4.out)) (by decide) hg)) (aI (aM (hb)) (aM (ho))); clear HO604 HB HO_4; obtain ⟨HO604, HB, HO608⟩ := n_; (try clear ho hb hg hat)))
        go_roundg k1
        case measure => have := HK1.out; omega
        case rel => exact ⟨(y602), (y606), (wrap64 (x5_1 + 1)), (by first | rfl | (simp; done) | (simp [*]; done) | (simp; exact (by intro l_; cases l_ <;> rfl : ∀ l_ : List UInt8, l_.isEmpty = !(l_ != [])) _)), H', ⟨by have := HK1.out; omega⟩, ⟨rP HO604.out⟩, ⟨rP HO608.out⟩, ⟨bB⟩⟩
       ·rw [if_neg c11] at H
        exact absurd H (by simp)
      ·rw [if_neg c10] at H
       exact absurd H (by simp)
     ·rw [if_neg c9] at H
      exact absurd H (by simp)
    ·rw [if_neg c8] at H
     have c8b0 : decide (x5_1 < (l0.length : Int)) = false := decide_eq_false c8
     clear c8
     replace H := Option.bind_eq_some_iff.mp H
     obtain ⟨t609, A140, H⟩ := H
     try dsimp only at H
     have A14 := aM A140
     clear A140
     replace H := Option.bind_eq_some_iff.mp H
     obtain ⟨t610, A150, H⟩ := H
     try dsimp only at H
     have A15 := aM A150
     clear A150
     obtain rfl := Option.some.inj H
     obtain ⟨Ao16, co16, eo16⟩ := Kd.R_slice HO_4.out
     subst eo16
     go_wp2_with (first | ((with_reducible refine gate_callee (f := 85) rfl ?_); refine gL (some 35) Try.func85 #[.slice Ao16 x4_1.length co16] ?_; (with_reducible refine (spec_l4Sum.calls k1 _ _ x4_1 t609 _ ?side1 ?side2 A14.out).mono ?_); (case side1 => exact cR HO_4); (case side2 => exact (Kd.R_reads' HO_4.out).2.1); rintro e w17 ⟨rfl, hb⟩; refine ⟨_, rfl, ?_⟩; have n_ := aI (rB HO_3 hb) (aI (rB HO_4 hb) (sB HB hb)); clear HO_3 HO_4 HB; obtain ⟨HO_3, HO_4, HB⟩ := n_; (try clear hb); obtain ⟨Ao18, co18, eo18⟩ := Kd.R_slice HO_3.out; subst eo18) | ((with_reducible refine gate_callee (f := 128) rfl ?_); refine gL (some 36) Try.func128 #[.slice Ao18 x3_1.length co18, .int .i64 t609] ?_; (with_reducible refine (spec_l4Head.calls k1 _ _ x3_1 t609 t610 _ ?side1 ?side2 A15.out).mono ?_); (case side1 => exact cR HO_3); (case side2 => exact (Kd.R_reads' HO_3.out).2.1); rintro e w19 ⟨rfl, hb⟩; refine ⟨_, rfl, ?_⟩; have n_ := aI (rB HO_3 hb) (aI (rB HO_4 hb) (sB HB hb)); clear HO_3 HO_4 HB; obtain ⟨HO_3, HO_4, HB⟩ := n_; (try clear hb)))
     go_ret
     exact ⟨eW, bB⟩
 replace c3 := Bool.eq_false_iff.mpr c3
 subst c3
 rw [if_neg (show ¬ (false = true) by decide)] at H
 obtain rfl := Option.some.inj H
 go_enter Try.func104, Try.ntmps104
 go_wp2_with (first | ((with_reducible refine gate_callee (f := 102) rfl ?_); refine gL (some 7) Try.func102 #[.int .i64 48, .slice A0 l0.length c0] ?_; (with_reducible refine (spec_TxOk.calls k 48 _ _ l0 false _ ?side1 ?side2 A2.out).mono ?_); (case side1 => repeat (first | exact HR0.out | (with_reducible refine Kd.C_alloc ?_ _) | (with_reducible refine Kd.C_drewN ?_ _) | (with_reducible refine Kd.C_drew ?_))); (case side2 => exact HC0.out); rintro e w' ⟨rfl, ⟨nd, rfl⟩⟩; refine ⟨_, rfl, ?_⟩))
 go_ret
 exact ⟨eW, bB⟩

end Go.Proofs.Ytgmpdkefegofhaa.PFnRecovered
