-- Written by xprint.py, a program of this session over the kit's print. Not trusted: Lean checks it.
import Derived.Test.YtgmpdkefegofhaaPFnRecoveredx0
import Derived.Test.YtgmpdkefegofhaaPFnRecoveredx10
import Derived.Test.YtgmpdkefegofhaaPFnRecoveredx11
import Derived.Test.YtgmpdkefegofhaaPFnRecoveredx12
import Derived.Test.YtgmpdkefegofhaaPFnRecoveredx13
import Derived.Test.YtgmpdkefegofhaaPFnRecoveredx14
namespace Go.Proofs.Ytgmpdkefegofhaa.PFnRecovered
open Go.RowKit Go.Proofs.YtgmpdkefegofhaaW.PrintWords Go.Proofs.YtgmpdkefegofhaaW.PrintLast Go.Proofs.YtgmpdkefegofhaaW.PrintMore
attribute [local go_sem] max2_int min2_int max_two min_two max_three min_three max_four min_four   -- for this text's walks alone
set_option linter.unusedVariables false
set_option linter.unusedSimpArgs false

/-! ### spec_l4Disk: function 97 -/
def spec_l4Disk.l0 : Nat → Int → Int → List Int → Int → Int → List ByteArray → List (S65) → Option (List ByteArray × (List (S65)) × Int × Int × Int)
 | 0, _, _, _, _, _, _, _ => none
 | k + 1, x4, x7, x1000, x1001, x1002, x683000, x683001 => if x7 < x4 then ((spec_l3Data.f k x1000 x1001 x1002).bind fun bt683 => (if 0 ≤ (wrap64 ((wrap64 (x4 + 1)) + x7)) then (if (wrap64 ((wrap64 (x4 + 1)) + x7)) < (x683000.length : Int) then ((some (x683000.set ((wrap64 ((wrap64 (x4 + 1)) + x7)) : Int).toNat bt683.1 : List ByteArray)).bind fun y686 => ((spec_l1Once.f x1000 bt683.2.1 bt683.2.2 3).bind fun bt687 => (if bt687.1 = true then ((spec_l3Data.f k x1000 bt687.2.1 bt687.2.2).bind fun bt690 => (if 0 ≤ (wrap64 (1 + x7)) then (if (wrap64 (1 + x7)) < (x683000.length : Int) then (spec_l4Disk.l0 k x4 (wrap64 (x7 + 1)) x1000 bt690.2.1 bt690.2.2 (y686.set ((wrap64 (1 + x7)) : Int).toNat bt690.1) x683001) else (none)) else (none))) else (spec_l4Disk.l0 k x4 (wrap64 (x7 + 1)) x1000 bt687.2.1 bt687.2.2 y686 x683001)))) else (none)) else (none))) else ((spec_l1Once.f x1000 x1001 x1002 3).bind fun bt694 => (if bt694.1 = true then (some (x683000, x683001, x4, bt694.2.1, bt694.2.2)) else ((spec_l4Tx.f k x1000 bt694.2.1 bt694.2.2 x4).bind fun bt697 => ((spec_Commit.f k x4 bt697.1).bind fun t702 => ((spec_l1Below.f x1000 bt697.2.1 bt697.2.2 (wrap64 ((t702.length : Int) + 1))).bind fun bt705 => (if 0 ≤ bt705.1 then (if bt705.1 ≤ (t702.length : Int) then ((spec_EventsDo.f k x683000 x683001 (t702.take (bt705.1 : Int).toNat)).bind fun bt712 => (some (bt712.1, bt712.2, x4, bt705.2.1, bt705.2.2))) else (none)) else (none)))))))
def spec_l4Disk.f (k : Nat) (s0_0 : List Int) (s0_1 : Int) (s0_2 : Int) : Option (List ByteArray × (List (S65)) × Int × Int × Int) := (spec_l1Below.f s0_0 s0_1 s0_2 6).bind fun bt672 => ((spec_DiskNew.f (wrap64 ((wrap64 (2 * (wrap64 (1 + bt672.1)))) + 1))).bind fun bt675 => (spec_l4Disk.l0 k (wrap64 (1 + bt672.1)) 0 s0_0 bt672.2.1 bt672.2.2 bt675.1 bt675.2.1))
theorem spec_l4Disk.mono_l : ∀ k, (∀ y0 y1 y2 y3 y4 y5 y6, LeO (spec_l4Disk.l0 k y0 y1 y2 y3 y4 y5 y6) (spec_l4Disk.l0 (k + 1) y0 y1 y2 y3 y4 y5 y6))
 | 0 => fun _ _ _ _ _ _ _ r h => by simp [spec_l4Disk.l0] at h
 | k + 1 => by
  have ih0 := spec_l4Disk.mono_l k
  ·intro y0 y1 y2 y3 y4 y5 y6
   unfold spec_l4Disk.l0
   have m0_ := @spec_Commit.mono
   have m1_ := @spec_EventsDo.mono
   have m2_ := @spec_l3Data.mono
   have m3_ := @spec_l4Tx.mono
   exact mM
theorem spec_l4Disk.mono : ∀ a0 a1 a2 k, LeO (spec_l4Disk.f k a0 a1 a2) (spec_l4Disk.f (k + 1) a0 a1 a2) := by
 intro a0 a1 a2 k
 have ih0 := spec_l4Disk.mono_l k
 unfold spec_l4Disk.f
 have m0_ := @spec_Commit.mono
 have m1_ := @spec_EventsDo.mono
 have m2_ := @spec_l3Data.mono
 have m3_ := @spec_l4Tx.mono
 exact mM
def spec_l4Disk.T6 : Bool × List (List Nat × List Nat) := (true, [([], []), ([0], [0]), ([], []), ([2], [2]), ([], []), ([3, 4], [3, 4]), ([], []), ([6], [6]), ([1, 5, 0, 1, 2, 3, 4, 5, 6, 7], [1, 5]), ([8, 7, 7, 0, 1, 2, 3, 4, 5, 6, 7], [7, 8])])
def spec_l4Disk.B6 : List Nat := [0, 1, 0, 4, 0, 28, 0, 64, 255, 511]
theorem spec_l4Disk.tab6 : rtab .any (opsOf Try.f97 6) = spec_l4Disk.T6 := by kernel_rfl
theorem spec_l4Disk.bits6 : waitsOk spec_l4Disk.T6.2 spec_l4Disk.B6 = true := by kernel_rfl
def spec_l4Disk.T8 : Bool × List (List Nat × List Nat) := (true, [([], []), ([0], [0]), ([], []), ([2], [2]), ([], []), ([4], [4]), ([1, 3, 0, 1, 2, 3, 4, 5], [1, 3]), ([6, 5, 5, 0, 1, 2, 3, 4, 5], [5, 6])])
def spec_l4Disk.B8 : List Nat := [0, 1, 0, 4, 0, 16, 63, 127]
theorem spec_l4Disk.tab8 : rtab .any (opsOf Try.f97 8) = spec_l4Disk.T8 := by kernel_rfl
theorem spec_l4Disk.bits8 : waitsOk spec_l4Disk.T8.2 spec_l4Disk.B8 = true := by kernel_rfl
def spec_l4Disk.T11 : Bool × List (List Nat × List Nat) := (true, [([], []), ([], []), ([], []), ([], []), ([3], [3]), ([4], [4]), ([2, 5], [2, 5]), ([1, 6], [1, 6]), ([0, 7, 6], [0, 7]), ([8, 8, 0, 1, 2, 3, 4, 5, 6, 7, 8], [8])])
def spec_l4Disk.B11 : List Nat := [0, 0, 0, 0, 8, 24, 60, 126, 255, 511]
theorem spec_l4Disk.tab11 : rtab .any (opsOf Try.f97 11) = spec_l4Disk.T11 := by kernel_rfl
theorem spec_l4Disk.bits11 : waitsOk spec_l4Disk.T11.2 spec_l4Disk.B11 = true := by kernel_rfl
set_option maxHeartbeats 8000000 in
set_option maxRecDepth 100000 in
theorem spec_l4Disk.calls (k : Nat) (g : Nat) (s0_0 : List Int) (s0_1 : Int) (s0_2 : Int) (r1 : List ByteArray) (r2 : List (S65)) (r3 : Int) (r4 : Int) (r5 : Int) (w0 w : World) (hI : IsS123 w0 w g s0_0 s0_1 s0_2) (hB : Below w0.heap.size w0 w) (h : spec_l4Disk.f k s0_0 s0_1 s0_2 = some (r1, r2, r3, r4, r5)) :
  Calls Try.prog 97 #[.pointer (some ⟨g, 0, none⟩)] w fun e w' => ∃ v0_ v1_ : Value, e = .returned (.tuple #[.agg #[v0_, v1_], .int .i64 r3]) ∧ Kd.R Kd.string 9 w' w.heap.size (fun _ => True) v0_ r1 ∧ Kd.R k65 65 w' w.heap.size (fun _ => True) v1_ r2 ∧ IsS123 w0 w' g s0_0 r4 r5 ∧ Below w0.heap.size w0 w' ∧ KeepBut w w' g none := by
 have hu30 := Try.underlying30
 have HI0 := aM hI
 have GEg_ := aM (IsS123.ge hI)
 have HK := aM (KeepBut.refl w g none)
 have HL := aM hB.size
 clear hI
 have HW0 := aM hB.size
 have HB := aM hB
 clear hB
 unfold spec_l4Disk.f at h
 have H := h
 clear h
 replace H := Option.bind_eq_some_iff.mp H
 obtain ⟨⟨t672, t673, t674⟩, A20, H⟩ := H
 try dsimp only at H
 have A2 := aM A20
 clear A20
 replace H := Option.bind_eq_some_iff.mp H
 obtain ⟨⟨t675, t678, t681⟩, A30, H⟩ := H
 try dsimp only at H
 have A3 := aM A30
 clear A30
 have H' := aM H
 clear H
 go_enter Try.func97, Try.ntmps97
 go_wp2_with (first | ((with_reducible refine gate_dst (N := 2) rfl ?_); refine bE 2 #[.slice none 0 0, .slice none 0 0] 30 ?_; intro gb671 hg w4 hbox hb; have n_ := aI (aM (IsS123.below (IsS123.iI HI0) hb)) (aI (aM (KeepBut.trans (bK HK) (KeepBut.of_below hb g none) (.inl rfl))) (aI (sB HB hb) (aI (aM hbox) (aI (aM ((by rw [hg]; exact (keep_size (w := w) (g := g) (row := none) (bK HK)) : w.heap.size ≤ gb671))) (aI (aM ((Nat.le_trans HW0.out (by rw [hg]; exact (keep_size (w := w) (g := g) (row := none) (bK HK)) : w.heap.size ≤ gb671) : w0.heap.size ≤ gb671))) (aI (aM ((by rw [hg]; exact Nat.ne_of_lt (IsS123.lt (show IsS123 w0 _ g s0_0 s0_1 s0_2 from IsS123.iI HI0)) : g ≠ gb671))) (aM ((by rw [hg]; exact Nat.ne_of_gt (IsS123.lt (show IsS123 w0 _ g s0_0 s0_1 s0_2 from IsS123.iI HI0)) : gb671 ≠ g))))))))); clear HI0 HK HB; obtain ⟨HI0, HK, HB, BK671, GW671, GE671, NB0_671, NB671_0⟩ := n_; (try clear hb hbox hg)) | ((with_reducible refine gate_callee (f := 95) rfl ?_); refine gL (some 10) Try.func95 #[.pointer (some ⟨g, 0, none⟩), .int .i64 6] ?_; (with_reducible refine (spec_l1Below.calls g s0_0 s0_1 s0_2 6 t672 t673 t674 w0 _ ?side1 ?side2 A2.out).mono ?_); (case side1 => exact IsS123.iI HI0); (case side2 => exact bB); rintro e w5 ⟨rfl, hi, hb, hk⟩; refine ⟨_, rfl, ?_⟩; have n_ := aI (aM (KeepBut.blk hk (g' := gb671) (o := .cells #[.slice none 0 0, .slice none 0 0] 30 (0, 0)) (kP BK671) NB671_0.out (by simp))) (aI (aM (KeepBut.trans (bK HK) hk (.inl rfl))) (aI (aM (hb)) (aM (hi)))); clear BK671 HK HB HI0; obtain ⟨BK671, HK, HB, HI0⟩ := n_; (try clear hb hk hi)) | ((with_reducible refine gate_callee (f := 124) rfl ?_); refine gL (some 16) Try.func124 #[.int .i64 (wrap64 ((wrap64 (2 * (wrap64 (1 + t672)))) + 1))] ?_; (with_reducible refine (spec_DiskNew.calls (wrap64 ((wrap64 (2 * (wrap64 (1 + t672)))) + 1)) t675 t678 t681 _ A3.out).mono ?_); rintro e w6 ⟨v676, v679, rfl, ho0, ho1, hb⟩; refine ⟨_, rfl, ?_⟩; have n_ := aI (aM (Kd.R_lower ho0 (keep_size (w := w) (g := g) (row := none) (bK HK)))) (aI (aM (Kd.R_lower ho1 (keep_size (w := w) (g := g) (row := none) (bK HK)))) (aI (aM (IsS123.below (IsS123.iI HI0) hb)) (aI (kB BK671 hb) (aI (aM (KeepBut.trans (bK HK) (KeepBut.of_below hb g none) (.inl rfl))) (sB HB hb))))); clear HI0 BK671 HK HB; obtain ⟨HO677, HO680, HI0, BK671, HK, HB⟩ := n_; (try clear hb ho0 ho1)) | ((with_reducible refine gate_dst (N := 5) rfl ?_); refine bE 5 #[.slice none 0 0, .slice none 0 0] 30 ?_; intro gb682 hg w7 hbox hb; have n_ := aI (rB HO677 hb) (aI (rB HO680 hb) (aI (aM (IsS123.below (IsS123.iI HI0) hb)) (aI (kB BK671 hb) (aI (aM (KeepBut.trans (bK HK) (KeepBut.of_below hb g none) (.inl rfl))) (aI (sB HB hb) (aI (aM hbox) (aI (aM ((by rw [hg]; exact (keep_size (w := w) (g := g) (row := none) (bK HK)) : w.heap.size ≤ gb682))) (aI (aM ((Nat.le_trans HW0.out (by rw [hg]; exact (keep_size (w := w) (g := g) (row := none) (bK HK)) : w.heap.size ≤ gb682) : w0.heap.size ≤ gb682))) (aI (nL BK671 hg) (aI (nG BK671 hg) (aI (aM ((by rw [hg]; exact Nat.ne_of_lt (IsS123.lt (show IsS123 w0 _ g s0_0 t673 t674 from IsS123.iI HI0)) : g ≠ gb682))) (aM ((by rw [hg]; exact Nat.ne_of_gt (IsS123.lt (show IsS123 w0 _ g s0_0 t673 t674 from IsS123.iI HI0)) : gb682 ≠ g)))))))))))))); clear HO677 HO680 HI0 BK671 HK HB; obtain ⟨HO677, HO680, HI0, BK671, HK, HB, BK682, GW682, GE682, NB671_682, NB682_671, NB0_682, NB682_0⟩ := n_; (try clear hb hbox hg); obtain ⟨Ao8, co8, eo8⟩ := Kd.R_slice HO677.out; subst eo8; have hnb9 := NB682_671.out; have hnc9 := NB671_682.out; have hnb10 := NB682_0.out; have hnc10 := NB0_682.out; have hcz11_0 := cZ0 BK682; have hcz11_1 := cZ1 BK682; have hfz11_0 := fZ BK682 0; have hfz11_1 := fZ BK682 1; obtain ⟨Ao12, co12, eo12⟩ := Kd.R_slice HO680.out; subst eo12))
 go_loopg [7] k (fun kq v7 w' => ∃ (x7_1 : Int) (x1001_1 : Int) (x1002_1 : Int) (x683000_1 : List ByteArray) (u683000 : Value), v7 = .int .i64 x7_1 ∧ Aside0 (spec_l4Disk.l0 kq (wrap64 (1 + t672)) x7_1 s0_0 x1001_1 x1002_1 x683000_1 t678 = some (r1, r2, r3, r4, r5)) ∧ Aside0 (kq ≤ k) ∧ Aside0 (Kd.R Kd.string 9 w' w.heap.size (fun _ => True) u683000 x683000_1) ∧ Aside0 (Kd.R k65 65 w' w.heap.size (fun _ => True) (.slice Ao12 t678.length co12) t678) ∧ Aside0 (w'.heap[gb671]? = some (.cells #[(.slice none 0 0), (.slice none 0 0)] 30 (0, 0))) ∧ Aside0 (w'.heap[gb682]? = some (.cells #[u683000, (.slice Ao12 t678.length co12)] 30 (0, 0))) ∧ Aside0 (IsS123 w0 w' g s0_0 x1001_1 x1002_1) ∧ Aside0 (KeepBut w w' g none) ∧ Aside0 (Below w0.heap.size w0 w'))
 case atStart => exact ⟨(0), (t673), (t674), (t675), (.slice Ao8 t675.length co8), (by first | rfl | (simp; done) | (simp [*]; done) | (simp; exact (by intro l_; cases l_ <;> rfl : ∀ l_ : List UInt8, l_.isEmpty = !(l_ != [])) _)), H', ⟨Nat.le_refl _⟩, ⟨rP (Kd.R_mono (Kd.R_far (p := ⟨gb682, 1, none⟩) (Kd.R_far (p := ⟨gb682, 0, none⟩) (Kd.R_types HO677.out BK682.out (by decide)) (fun _ hk => hk.2) (.slice Ao8 t675.length co8)) (fun _ hk => hk.2) (.slice Ao12 t678.length co12)) (fun _ hk => trivial))⟩, ⟨rP (Kd.R_mono (Kd.R_far (p := ⟨gb682, 1, none⟩) (Kd.R_far (p := ⟨gb682, 0, none⟩) (Kd.R_types HO680.out BK682.out (by decide)) (fun _ hk => hk.2) (.slice Ao8 t675.length co8)) (fun _ hk => hk.2) (.slice Ao12 t678.length co12)) (fun _ hk => trivial))⟩, ⟨kP BK671⟩, ⟨by (with_reducible repeat (first | apply bN | apply bD | apply bA)); refine blk_put (cs := #[.slice Ao8 t675.length co8, .slice none 0 0]) ?_ 1 _ rfl; (with_reducible repeat (first | apply bN | apply bD | apply bA)); refine blk_put (cs := #[.slice none 0 0, .slice none 0 0]) ?_ 0 _ rfl; (with_reducible repeat (first | apply bN | apply bD | apply bA)); exact BK682.out⟩, ⟨IsS123.iI HI0⟩, ⟨bK HK⟩, ⟨bB⟩⟩
 case round =>
  clear H'
  try clear c1
  try clear p2
  try clear p6
  try clear c9
  try clear c10
  try clear c12
  try clear hcz11_0
  try clear hcz11_1
  try clear hfz11_0
  try clear hfz11_1
  obtain ⟨x7_1, x1001_1, x1002_1, x683000_1, u683000, rfl, HA, HK1, HO_683000, HO_683001, BK671, BK682, HI0, HK, HB⟩ := hrel
  cases gk with
  | zero => exact absurd HA.out (by simp [spec_l4Disk.l0])
  | succ k1 =>
   have H := HA.out
   clear HA
   simp only [spec_l4Disk.l0] at H
   by_cases c13 : x7_1 < (wrap64 (1 + t672))
   ·rw [if_pos c13] at H
    have c13b0 : decide (x7_1 < (wrap64 (1 + t672))) = true := decide_eq_true c13
    clear c13
    replace H := Option.bind_eq_some_iff.mp H
    obtain ⟨⟨t683, t684, t685⟩, A140, H⟩ := H
    try dsimp only at H
    have A14 := aM A140
    clear A140
    obtain ⟨ji15, hji15⟩ : ∃ j_ : Int, (wrap64 ((wrap64 ((wrap64 (1 + t672)) + 1)) + x7_1)) = j_ := ⟨_, rfl⟩
    replace H : (if 0 ≤ (ji15) then (if (ji15) < (x683000_1.length : Int) then ((some (x683000_1.set ((ji15) : Int).toNat t683 : List ByteArray)).bind fun y686 => ((spec_l1Once.f s0_0 t684 t685 3).bind fun bt687 => (if bt687.1 = true then ((spec_l3Data.f k1 s0_0 bt687.2.1 bt687.2.2).bind fun bt690 => (if 0 ≤ (wrap64 (1 + x7_1)) then (if (wrap64 (1 + x7_1)) < (x683000_1.length : Int) then (spec_l4Disk.l0 k1 (wrap64 (1 + t672)) (wrap64 (x7_1 + 1)) s0_0 bt690.2.1 bt690.2.2 (y686.set ((wrap64 (1 + x7_1)) : Int).toNat bt690.1) t678) else (none)) else (none))) else (spec_l4Disk.l0 k1 (wrap64 (1 + t672)) (wrap64 (x7_1 + 1)) s0_0 bt687.2.1 bt687.2.2 y686 t678)))) else (none)) else (none)) = some (r1, r2, r3, r4, r5) := by first | (rw [hji15] at H; exact H) | (simp only [hji15] at H ⊢; exact H)
    (try rw [hji15] at A14)
    have hji15w : (IntKind.i64.wrap ((wrap64 ((wrap64 (1 + t672)) + 1)) + x7_1)) = ji15 := (i64_w _).trans hji15
    by_cases c16 : 0 ≤ (ji15)
    ·rw [if_pos c16] at H
     have c16b0 : decide (0 ≤ (ji15)) = true := decide_eq_true c16
     clear c16
     by_cases c17 : (ji15) < (x683000_1.length : Int)
     ·rw [if_pos c17] at H
      have c17b0 : decide ((ji15) < (x683000_1.length : Int)) = true := decide_eq_true c17
      clear c17
      obtain ⟨y686, hy686⟩ : ∃ y_ : List ByteArray, y_ = (x683000_1.set ((ji15) : Int).toNat t683) := ⟨_, rfl⟩
      replace H : ((spec_l1Once.f s0_0 t684 t685 3).bind fun bt687 => (if bt687.1 = true then ((spec_l3Data.f k1 s0_0 bt687.2.1 bt687.2.2).bind fun bt690 => (if 0 ≤ (wrap64 (1 + x7_1)) then (if (wrap64 (1 + x7_1)) < (x683000_1.length : Int) then (spec_l4Disk.l0 k1 (wrap64 (1 + t672)) (wrap64 (x7_1 + 1)) s0_0 bt690.2.1 bt690.2.2 (y686.set ((wrap64 (1 + x7_1)) : Int).toNat bt690.1) t678) else (none)) else (none))) else (spec_l4Disk.l0 k1 (wrap64 (1 + t672)) (wrap64 (x7_1 + 1)) s0_0 bt687.2.1 bt687.2.2 y686 t678))) = some (r1, r2, r3, r4, r5) := bQ hy686 H
      have Ny686 := aM hy686
      clear hy686
      replace H := Option.bind_eq_some_iff.mp H
      obtain ⟨⟨t687, t688, t689⟩, A190, H⟩ := H
      try dsimp only at H
      have A19 := aM A190
      clear A190
      by_cases c20 : t687 = true
      ·subst c20
       rw [if_pos rfl] at H
       replace H := Option.bind_eq_some_iff.mp H
       obtain ⟨⟨t690, t691, t692⟩, A210, H⟩ := H
       try dsimp only at H
       have A21 := aM A210
       clear A210
       obtain ⟨ji22, hji22⟩ : ∃ j_ : Int, (wrap64 (1 + x7_1)) = j_ := ⟨_, rfl⟩
       replace H : (if 0 ≤ (ji22) then (if (ji22) < (x683000_1.length : Int) then (spec_l4Disk.l0 k1 (wrap64 (1 + t672)) (wrap64 (x7_1 + 1)) s0_0 t691 t692 (y686.set ((ji22) : Int).toNat t690) t678) else (none)) else (none)) = some (r1, r2, r3, r4, r5) := by first | (rw [hji22] at H; exact H) | (simp only [hji22] at H ⊢; exact H)
       (try rw [hji22] at A14)
       (try rw [hji22] at A19)
       (try rw [hji22] at A21)
       have hji22w : (IntKind.i64.wrap (1 + x7_1)) = ji22 := (i64_w _).trans hji22
       by_cases c23 : 0 ≤ (ji22)
       ·rw [if_pos c23] at H
        have c23b0 : decide (0 ≤ (ji22)) = true := decide_eq_true c23
        clear c23
        by_cases c24 : (ji22) < (x683000_1.length : Int)
        ·rw [if_pos c24] at H
         have c24b0 : decide ((ji22) < (x683000_1.length : Int)) = true := decide_eq_true c24
         clear c24
         obtain ⟨y693, hy693⟩ : ∃ y_ : List ByteArray, y_ = (y686.set ((ji22) : Int).toNat t690) := ⟨_, rfl⟩
         replace H : (spec_l4Disk.l0 k1 (wrap64 (1 + t672)) (wrap64 (x7_1 + 1)) s0_0 t691 t692 y693 t678) = some (r1, r2, r3, r4, r5) := bQ hy693 H
         have Ny693 := aM hy693
         clear hy693
         have H' := aM H
         clear H
         try go_wp2
         have n_ := aI (aM (Kd.R_drew HO_683000.out)) (aI (aM (Kd.R_drew HO_683001.out)) (aI (aM (blk_drew BK671.out)) (aI (aM (blk_drew BK682.out)) (aI (aM (IsS123.drew HI0.out)) (aI (aM (keep_drew HK.out)) (aM (below_drew1 HB.out)))))))
         clear HO_683000 HO_683001 BK671 BK682 HI0 HK HB
         obtain ⟨HO_683000, HO_683001, BK671, BK682, HI0, HK, HB⟩ := n_
         refine start_ (n := 10) (S := fun w' => w'.cell? ⟨gb682, 0, none⟩ = some (u683000) ∧ w'.cell? ⟨gb682, 1, none⟩ = some (.slice Ao12 t678.length co12)) (ds := [9]) #[tF, tF, tF, tF, tF, tF, tF, tF, tF, tF] (by kernel_rfl) rfl rfl ⟨(blk_cell BK682.out 0).trans rfl, (blk_cell BK682.out 1).trans rfl⟩ (fun hHeld => ?_); refine with_tabW spec_l4Disk.tab6 spec_l4Disk.bits6 (fun HT_ HW_ => ?_)
         generalize wr.drew = w26 at HO_683000 HO_683001 BK671 BK682 HI0 HK HB hHeld ⊢
         refine pY 0 24 #[tT, tF, tF, tF, tF, tF, tF, tF, tF, tF] ?_
         refine pY 2 26 #[tT, tF, tT, tF, tF, tF, tF, tF, tF, tF] ?_
         refine pY 3 27 #[tT, tF, tT, tT, tF, tF, tF, tF, tF, tF] ?_
         refine pY 4 28 #[tT, tF, tT, tT, tT, tF, tF, tF, tF, tF] ?_
         refine pY 5 29 #[tT, tF, tT, tT, tT, tT, tF, tF, tF, tF] ?_
         refine pY 6 30 #[tT, tF, tT, tT, tT, tT, tT, tF, tF, tF] ?_
         refine take_ (i := 1) (N := some 25) (v := ?_) (a' := ?_) #[tT, tT, tT, tT, tT, tT, tT, tF, tF, tF] rfl rfl (take_ofW HT_.out HW_.out (by kernel_rfl)) (fun _ _ _ h => h) (Or.inl ⟨by rfl, ?_⟩) hHeld ?_ ?_
         rotate_left
         ·rintro w' ⟨s0, s1⟩
          go_simp
          with_reducible rfl
         rotate_left
         ·simp only [Act.put, List.setIfInBounds_toArray, List.set_cons_zero, List.set_cons_succ, i64_w, i32_w]
          rfl
         refine one_ (i := 7) (N := some 31) #[tT, tT, tT, tT, tT, tT, tT, tT, tF, tF] rfl rfl (one_of HT_.out (by kernel_rfl)) (by decide) (fun K hK => ?_)
         refine goes_ Try.func96 (by kernel_rfl) rfl #[.pointer (some ⟨g, 0, none⟩)] (by rfl) rfl rfl (by (try simp only [List.map_toArray, List.map_cons, List.map_nil]); first | done | rfl | (simp only [List.length_drop, List.length_take]; rfl)) ?_
         with_reducible refine (spec_l3Data.calls k1 g s0_0 x1001_1 x1002_1 t683 t684 t685 w0 _ ?side1 ?side2 A14.out).mono ?_
         (case side1 => exact IsS123.iI HI0)
         (case side2 => exact bB)
         rintro e w27 ⟨rfl, hi, hb, hk⟩
         refine ⟨_, rfl, ?_⟩
         have n_ := aI (aM (Kd.R_mono (Kd.R_keep (IsS123.apart (show IsS123 w0 _ g s0_0 x1001_1 x1002_1 from IsS123.iI HI0) (rP HO_683000.out) (by decide)) hk (fun _ h => h.2)) (fun _ h => h.1))) (aI (aM (Kd.R_mono (Kd.R_keep (IsS123.apart (show IsS123 w0 _ g s0_0 x1001_1 x1002_1 from IsS123.iI HI0) (rP HO_683001.out) (by decide)) hk (fun _ h => h.2)) (fun _ h => h.1))) (aI (aM (KeepBut.blk hk (g' := gb671) (o := .cells #[.slice none 0 0, .slice none 0 0] 30 (0, 0)) (kP BK671) NB671_0.out (by simp))) (aI (aM (KeepBut.blk hk (g' := gb682) (o := .cells #[u683000, .slice Ao12 t678.length co12] 30 (0, 0)) (kP BK682) NB682_0.out (by simp))) (aI (aM (KeepBut.trans (bK HK) hk (.inl rfl))) (aI (aM (hb)) (aM (hi)))))))
         clear HO_683000 HO_683001 BK671 BK682 HK HB HI0
         obtain ⟨HO_683000, HO_683001, BK671, BK682, HK, HB, HI0⟩ := n_
         (try clear hb)
         (try clear hb2)
         (try clear hk)
         (try clear hi)
         have p18 : 0 ≤ ((ji15) : Int) := dT
         have q18 : ((ji15) : Int) < ((x683000_1.length : Int) : Int) := dT
         obtain ⟨go18, co18, eo18, gb18, gl18, cl18, HG18⟩ := Kd.R_form HO_683000.out (by omega)
         (first | cases eo18 | (injection eo18 with ea_ en_ ec_; (first | subst ea_ | (injection ea_ with ea_; subst ea_)); subst ec_; clear en_))
         have GB18 := aM gb18
         have GG18 := aM HG18
         clear gb18 gl18 HG18
         obtain ⟨hx18_0, hf18_0⟩ := Kd.R_celln (⟨#[]⟩ : ByteArray) HO_683000.out ((ji15) : Int) p18 q18
         replace p18 := eq_true p18
         replace q18 := eq_true q18
         have HN0_go18 := aM (show g ≠ go18 from by have h_ := IsS123.own_ne HI0.out HO_683000.out (by decide); intro e_; exact h_ (by rw [e_]; rfl))
         have HP28 := Kd.R_putn HO_683000.out ((ji15) : Int) t683
         rw [← Ny686.out] at HP28
         have HQ28 := aM HP28
         clear HP28
         refine hK.out _ _ ⟨(blk_cell BK682.out 0).trans rfl, (blk_cell BK682.out 1).trans rfl⟩ (fun hHeld => ?_)
         clear hK K
         refine norm_ (a' := ?_) ?_ ?_
         rotate_left
         ·show Act.put _ (some 31) _ = _
          simp only [Act.put, List.setIfInBounds_toArray, List.set_cons_zero, List.set_cons_succ, i64_w, i32_w]
          rfl
         refine pY 8 32 #[tT, tT, tT, tT, tT, tT, tT, tT, tT, tF] ?_
         refine last_ (i := 9) (N := none) #[tT, tT, tT, tT, tT, tT, tT, tT, tT, tT] rfl rfl (one_of HT_.out (by kernel_rfl)) (by decide) (fun K hK => ?_)
         refine skip_ (w1 := ?_) (by rfl) rfl ?_ ?_
         rotate_left
         ·go_simp
          rfl
         refine hK.out _ _ ?_
         clear hK K
         refine done_ (done_of HT_.out (by kernel_rfl)) ?_
         try go_wp2_with (first | ((with_reducible refine gate_callee (f := 120) rfl ?_); refine gL (some 34) Try.func120 #[.pointer (some ⟨g, 0, none⟩), .int .i64 3] ?_; (with_reducible refine (spec_l1Once.calls g s0_0 t684 t685 3 true t688 t689 w0 _ ?side1 ?side2 A19.out).mono ?_); (case side1 => repeat (first | (with_reducible first | exact HI0.out | apply IsS123.alloc | apply IsS123.drewN | apply IsS123.drew | apply IsS123.set_1 | apply IsS123.set_2 | refine IsS123.far ?_ HN0_go18.out _ | refine IsS123.far ?_ NB0_671.out _ | refine IsS123.far ?_ NB0_682.out _) | exact HI0.out)); (case side2 => repeat (first | (with_reducible first | exact HB.out | apply below_alloc | apply pw_below_drewN | apply below_drew1 | refine below_set ?_ (Nat.le_trans HL.out GB18.out) | refine below_set ?_ (IsS123.ge HI0.out) | refine below_set ?_ GE671.out | refine below_set ?_ GE682.out) | exact HB.out)); rintro e w29 ⟨rfl, hi, hb, hk⟩; refine ⟨_, rfl, ?_⟩; have n_ := aI (aM (Kd.R_mono (Kd.R_keep (IsS123.apart (show IsS123 w0 _ g s0_0 t684 t685 from by repeat (first | (with_reducible first | exact HI0.out | apply IsS123.alloc | apply IsS123.drewN | apply IsS123.drew | apply IsS123.set_1 | apply IsS123.set_2 | refine IsS123.far ?_ HN0_go18.out _ | refine IsS123.far ?_ NB0_671.out _ | refine IsS123.far ?_ NB0_682.out _) | exact HI0.out)) (rP HQ28.out) (by decide)) hk (fun _ h => h.2)) (fun _ h => h.1))) (aI (aM (Kd.R_mono (Kd.R_keep (IsS123.apart (show IsS123 w0 _ g s0_0 t684 t685 from by repeat (first | (with_reducible first | exact HI0.out | apply IsS123.alloc | apply IsS123.drewN | apply IsS123.drew | apply IsS123.set_1 | apply IsS123.set_2 | refine IsS123.far ?_ HN0_go18.out _ | refine IsS123.far ?_ NB0_671.out _ | refine IsS123.far ?_ NB0_682.out _) | exact HI0.out)) (rP (Kd.R_mono (Kd.R_far (p := ⟨go18, ((ji15) : Int).toNat, none⟩) (Kd.R_types HO_683001.out GG18.out (by decide)) (fun _ hk => hk.2) (.string t683)) (fun _ h_ => h_.1))) (by decide)) hk (fun _ h => h.2)) (fun _ h => h.1))) (aI (aM (KeepBut.blk hk (g' := gb671) (o := .cells #[.slice none 0 0, .slice none 0 0] 30 (0, 0)) (by (with_reducible repeat (first | apply bN | apply bD | apply bA)); refine blk_far ?_ (by have h_ := Kd.R_ne HO_683000.out BK671.out (by decide); intro e_; exact h_ (by rw [e_]; rfl)) _; (with_reducible repeat (first | apply bN | apply bD | apply bA)); exact BK671.out) NB671_0.out (by simp))) (aI (aM (KeepBut.blk hk (g' := gb682) (o := .cells #[.slice (some ⟨go18, 0, none⟩) x683000_1.length co18, .slice Ao12 t678.length co12] 30 (0, 0)) (by (with_reducible repeat (first | apply bN | apply bD | apply bA)); refine blk_far ?_ (by have h_ := Kd.R_ne HO_683000.out BK682.out (by decide); intro e_; exact h_ (by rw [e_]; rfl)) _; (with_reducible repeat (first | apply bN | apply bD | apply bA)); exact BK682.out) NB682_0.out (by simp))) (aI (aM (KeepBut.trans (bK HK) hk (.inl rfl))) (aI (aM (hb)) (aM (hi))))))); clear HO_683000 HO_683001 BK671 BK682 HK HB HI0; obtain ⟨HO_683000, HO_683001, BK671, BK682, HK, HB, HI0⟩ := n_; (try clear hb hk hi)))
         have n_ := aI (aM (Kd.R_drew HO_683000.out)) (aI (aM (Kd.R_drew HO_683001.out)) (aI (aM (blk_drew BK671.out)) (aI (aM (blk_drew BK682.out)) (aI (aM (IsS123.drew HI0.out)) (aI (aM (keep_drew HK.out)) (aM (below_drew1 HB.out)))))))
         clear HO_683000 HO_683001 BK671 BK682 HI0 HK HB
         obtain ⟨HO_683000, HO_683001, BK671, BK682, HI0, HK, HB⟩ := n_
         refine start_ (n := 8) (S := fun w' => w'.cell? ⟨gb682, 0, none⟩ = some (.slice (some ⟨go18, 0, none⟩) x683000_1.length co18) ∧ w'.cell? ⟨gb682, 1, none⟩ = some (.slice Ao12 t678.length co12)) (ds := [7]) #[tF, tF, tF, tF, tF, tF, tF, tF] (by kernel_rfl) rfl rfl ⟨(blk_cell BK682.out 0).trans rfl, (blk_cell BK682.out 1).trans rfl⟩ (fun hHeld => ?_); refine with_tabW spec_l4Disk.tab8 spec_l4Disk.bits8 (fun HT_ HW_ => ?_)
         generalize w29.drew = w30 at HO_683000 HO_683001 BK671 BK682 HI0 HK HB hHeld ⊢
         refine pY 0 35 #[tT, tF, tF, tF, tF, tF, tF, tF] ?_
         refine pY 2 37 #[tT, tF, tT, tF, tF, tF, tF, tF] ?_
         refine pY 3 38 #[tT, tF, tT, tT, tF, tF, tF, tF] ?_
         refine pY 4 39 #[tT, tF, tT, tT, tT, tF, tF, tF] ?_
         refine take_ (i := 1) (N := some 36) (v := ?_) (a' := ?_) #[tT, tT, tT, tT, tT, tF, tF, tF] rfl rfl (take_ofW HT_.out HW_.out (by kernel_rfl)) (fun _ _ _ h => h) (Or.inl ⟨by rfl, ?_⟩) hHeld ?_ ?_
         rotate_left
         ·rintro w' ⟨s0, s1⟩
          go_simp
          with_reducible rfl
         rotate_left
         ·simp only [Act.put, List.setIfInBounds_toArray, List.set_cons_zero, List.set_cons_succ, i64_w, i32_w]
          rfl
         refine one_ (i := 5) (N := some 40) #[tT, tT, tT, tT, tT, tT, tF, tF] rfl rfl (one_of HT_.out (by kernel_rfl)) (by decide) (fun K hK => ?_)
         refine goes_ Try.func96 (by kernel_rfl) rfl #[.pointer (some ⟨g, 0, none⟩)] (by rfl) rfl rfl (by (try simp only [List.map_toArray, List.map_cons, List.map_nil]); first | done | rfl | (simp only [List.length_drop, List.length_take]; rfl)) ?_
         with_reducible refine (spec_l3Data.calls k1 g s0_0 t688 t689 t690 t691 t692 w0 _ ?side1 ?side2 A21.out).mono ?_
         (case side1 => exact IsS123.iI HI0)
         (case side2 => exact bB)
         rintro e w31 ⟨rfl, hi, hb, hk⟩
         refine ⟨_, rfl, ?_⟩
         have n_ := aI (aM (Kd.R_mono (Kd.R_keep (IsS123.apart (show IsS123 w0 _ g s0_0 t688 t689 from IsS123.iI HI0) (rP HO_683000.out) (by decide)) hk (fun _ h => h.2)) (fun _ h => h.1))) (aI (aM (Kd.R_mono (Kd.R_keep (IsS123.apart (show IsS123 w0 _ g s0_0 t688 t689 from IsS123.iI HI0) (rP HO_683001.out) (by decide)) hk (fun _ h => h.2)) (fun _ h => h.1))) (aI (aM (KeepBut.blk hk (g' := gb671) (o := .cells #[.slice none 0 0, .slice none 0 0] 30 (0, 0)) (kP BK671) NB671_0.out (by simp))) (aI (aM (KeepBut.blk hk (g' := gb682) (o := .cells #[.slice (some ⟨go18, 0, none⟩) x683000_1.length co18, .slice Ao12 t678.length co12] 30 (0, 0)) (kP BK682) NB682_0.out (by simp))) (aI (aM (KeepBut.trans (bK HK) hk (.inl rfl))) (aI (aM (hb)) (aM (hi)))))))
         clear HO_683000 HO_683001 BK671 BK682 HK HB HI0
         obtain ⟨HO_683000, HO_683001, BK671, BK682, HK, HB, HI0⟩ := n_
         (try clear hb)
         (try clear hb2)
         (try clear hk)
         (try clear hi)
         have p25 : 0 ≤ ((ji22) : Int) := dT
         have q25 : ((ji22) : Int) < ((x683000_1.length : Int) : Int) := dT
         obtain ⟨hx25_0, hf25_0⟩ := Kd.R_celln (⟨#[]⟩ : ByteArray) HO_683000.out ((ji22) : Int) p25 q25
         replace p25 := eq_true p25
         replace q25 := eq_true q25
         have HN0_go18 := aM (show g ≠ go18 from by have h_ := IsS123.own_ne HI0.out HO_683000.out (by decide); intro e_; exact h_ (by rw [e_]; rfl))
         have HP32 := Kd.R_putn HO_683000.out ((ji22) : Int) t690
         rw [← Ny693.out] at HP32
         have HQ32 := aM HP32
         clear HP32
         obtain ⟨cl32, hc32_⟩ := Kd.R_typed (HO_683000.out) go18 rfl
         have GG32 := aM hc32_
         clear hc32_
         refine hK.out _ _ ⟨(blk_cell BK682.out 0).trans rfl, (blk_cell BK682.out 1).trans rfl⟩ (fun hHeld => ?_)
         clear hK K
         refine norm_ (a' := ?_) ?_ ?_
         rotate_left
         ·show Act.put _ (some 40) _ = _
          simp only [Act.put, List.setIfInBounds_toArray, List.set_cons_zero, List.set_cons_succ, i64_w, i32_w]
          rfl
         refine pY 6 41 #[tT, tT, tT, tT, tT, tT, tT, tF] ?_
         refine last_ (i := 7) (N := none) #[tT, tT, tT, tT, tT, tT, tT, tT] rfl rfl (one_of HT_.out (by kernel_rfl)) (by decide) (fun K hK => ?_)
         refine skip_ (w1 := ?_) (by rfl) rfl ?_ ?_
         rotate_left
         ·go_simp
          rfl
         refine hK.out _ _ ?_
         clear hK K
         refine done_ (done_of HT_.out (by kernel_rfl)) ?_
         try go_wp2
         go_roundg k1
         case measure => have := HK1.out; omega
         case rel => exact ⟨(wrap64 (x7_1 + 1)), (t691), (t692), (y693), (.slice (some ⟨go18, 0, none⟩) x683000_1.length co18), (by first | rfl | (simp; done) | (simp [*]; done) | (simp; exact (by intro l_; cases l_ <;> rfl : ∀ l_ : List UInt8, l_.isEmpty = !(l_ != [])) _)), H', ⟨by have := HK1.out; omega⟩, ⟨rP HQ32.out⟩, ⟨rP (Kd.R_mono (Kd.R_far (p := ⟨go18, ((ji22) : Int).toNat, none⟩) (Kd.R_types HO_683001.out GG32.out (by decide)) (fun _ hk => hk.2) (.string t690)) (fun _ hk => trivial))⟩, ⟨by (with_reducible repeat (first | apply bN | apply bD | apply bA)); refine blk_far ?_ (by have h_ := Kd.R_ne HO_683000.out BK671.out (by decide); intro e_; exact h_ (by rw [e_]; rfl)) _; (with_reducible repeat (first | apply bN | apply bD | apply bA)); exact BK671.out⟩, ⟨by (with_reducible repeat (first | apply bN | apply bD | apply bA)); refine blk_far ?_ (by have h_ := Kd.R_ne HO_683000.out BK682.out (by decide); intro e_; exact h_ (by rw [e_]; rfl)) _; (with_reducible repeat (first | apply bN | apply bD | apply bA)); exact BK682.out⟩, ⟨by repeat (first | (with_reducible first | exact HI0.out | apply IsS123.alloc | apply IsS123.drewN | apply IsS123.drew | apply IsS123.set_1 | apply IsS123.set_2 | refine IsS123.far ?_ HN0_go18.out _ | refine IsS123.far ?_ NB0_671.out _ | refine IsS123.far ?_ NB0_682.out _) | exact HI0.out)⟩, ⟨bK HK⟩, ⟨by repeat (first | (with_reducible first | exact HB.out | apply below_alloc | apply pw_below_drewN | apply below_drew1 | refine below_set ?_ (Nat.le_trans HL.out GB18.out) | refine below_set ?_ (IsS123.ge HI0.out) | refine below_set ?_ GE671.out | refine below_set ?_ GE682.out) | exact HB.out)⟩⟩
        ·rw [if_neg c24] at H
         exact absurd H (by simp)
       ·rw [if_neg c23] at H
        exact absurd H (by simp)
      ·replace c20 := Bool.eq_false_iff.mpr c20
       subst c20
       rw [if_neg (show ¬ (false = true) by decide)] at H
       have H' := aM H
       clear H
       try go_wp2
       have n_ := aI (aM (Kd.R_drew HO_683000.out)) (aI (aM (Kd.R_drew HO_683001.out)) (aI (aM (blk_drew BK671.out)) (aI (aM (blk_drew BK682.out)) (aI (aM (IsS123.drew HI0.out)) (aI (aM (keep_drew HK.out)) (aM (below_drew1 HB.out)))))))
       clear HO_683000 HO_683001 BK671 BK682 HI0 HK HB
       obtain ⟨HO_683000, HO_683001, BK671, BK682, HI0, HK, HB⟩ := n_
       refine start_ (n := 10) (S := fun w' => w'.cell? ⟨gb682, 0, none⟩ = some (u683000) ∧ w'.cell? ⟨gb682, 1, none⟩ = some (.slice Ao12 t678.length co12)) (ds := [9]) #[tF, tF, tF, tF, tF, tF, tF, tF, tF, tF] (by kernel_rfl) rfl rfl ⟨(blk_cell BK682.out 0).trans rfl, (blk_cell BK682.out 1).trans rfl⟩ (fun hHeld => ?_); refine with_tabW spec_l4Disk.tab6 spec_l4Disk.bits6 (fun HT_ HW_ => ?_)
       generalize wr.drew = w33 at HO_683000 HO_683001 BK671 BK682 HI0 HK HB hHeld ⊢
       refine pY 0 24 #[tT, tF, tF, tF, tF, tF, tF, tF, tF, tF] ?_
       refine pY 2 26 #[tT, tF, tT, tF, tF, tF, tF, tF, tF, tF] ?_
       refine pY 3 27 #[tT, tF, tT, tT, tF, tF, tF, tF, tF, tF] ?_
       refine pY 4 28 #[tT, tF, tT, tT, tT, tF, tF, tF, tF, tF] ?_
       refine pY 5 29 #[tT, tF, tT, tT, tT, tT, tF, tF, tF, tF] ?_
       refine pY 6 30 #[tT, tF, tT, tT, tT, tT, tT, tF, tF, tF] ?_
       refine take_ (i := 1) (N := some 25) (v := ?_) (a' := ?_) #[tT, tT, tT, tT, tT, tT, tT, tF, tF, tF] rfl rfl (take_ofW HT_.out HW_.out (by kernel_rfl)) (fun _ _ _ h => h) (Or.inl ⟨by rfl, ?_⟩) hHeld ?_ ?_
       rotate_left
       ·rintro w' ⟨s0, s1⟩
        go_simp
        with_reducible rfl
       rotate_left
       ·simp only [Act.put, List.setIfInBounds_toArray, List.set_cons_zero, List.set_cons_succ, i64_w, i32_w]
        rfl
       refine one_ (i := 7) (N := some 31) #[tT, tT, tT, tT, tT, tT, tT, tT, tF, tF] rfl rfl (one_of HT_.out (by kernel_rfl)) (by decide) (fun K hK => ?_)
       refine goes_ Try.func96 (by kernel_rfl) rfl #[.pointer (some ⟨g, 0, none⟩)] (by rfl) rfl rfl (by (try simp only [List.map_toArray, List.map_cons, List.map_nil]); first | done | rfl | (simp only [List.length_drop, List.length_take]; rfl)) ?_
       with_reducible refine (spec_l3Data.calls k1 g s0_0 x1001_1 x1002_1 t683 t684 t685 w0 _ ?side1 ?side2 A14.out).mono ?_
       (case side1 => exact IsS123.iI HI0)
       (case side2 => exact bB)
       rintro e w34 ⟨rfl, hi, hb, hk⟩
       refine ⟨_, rfl, ?_⟩
       have n_ := aI (aM (Kd.R_mono (Kd.R_keep (IsS123.apart (show IsS123 w0 _ g s0_0 x1001_1 x1002_1 from IsS123.iI HI0) (rP HO_683000.out) (by decide)) hk (fun _ h => h.2)) (fun _ h => h.1))) (aI (aM (Kd.R_mono (Kd.R_keep (IsS123.apart (show IsS123 w0 _ g s0_0 x1001_1 x1002_1 from IsS123.iI HI0) (rP HO_683001.out) (by decide)) hk (fun _ h => h.2)) (fun _ h => h.1))) (aI (aM (KeepBut.blk hk (g' := gb671) (o := .cells #[.slice none 0 0, .slice none 0 0] 30 (0, 0)) (kP BK671) NB671_0.out (by simp))) (aI (aM (KeepBut.blk hk (g' := gb682) (o := .cells #[u683000, .slice Ao12 t678.length co12] 30 (0, 0)) (kP BK682) NB682_0.out (by simp))) (aI (aM (KeepBut.trans (bK HK) hk (.inl rfl))) (aI (aM (hb)) (aM (hi)))))))
       clear HO_683000 HO_683001 BK671 BK682 HK HB HI0
       obtain ⟨HO_683000, HO_683001, BK671, BK682, HK, HB, HI0⟩ := n_
       (try clear hb)
       (try clear hb2)
       (try clear hk)
       (try clear hi)
       have p18 : 0 ≤ ((ji15) : Int) := dT
       have q18 : ((ji15) : Int) < ((x683000_1.length : Int) : Int) := dT
       obtain ⟨go18, co18, eo18, gb18, gl18, cl18, HG18⟩ := Kd.R_form HO_683000.out (by omega)
       (first | cases eo18 | (injection eo18 with ea_ en_ ec_; (first | subst ea_ | (injection ea_ with ea_; subst ea_)); subst ec_; clear en_))
       have GB18 := aM gb18
       have GG18 := aM HG18
       clear gb18 gl18 HG18
       obtain ⟨hx18_0, hf18_0⟩ := Kd.R_celln (⟨#[]⟩ : ByteArray) HO_683000.out ((ji15) : Int) p18 q18
       replace p18 := eq_true p18
       replace q18 := eq_true q18
       have HN0_go18 := aM (show g ≠ go18 from by have h_ := IsS123.own_ne HI0.out HO_683000.out (by decide); intro e_; exact h_ (by rw [e_]; rfl))
       have HP35 := Kd.R_putn HO_683000.out ((ji15) : Int) t683
       rw [← Ny686.out] at HP35
       have HQ35 := aM HP35
       clear HP35
       refine hK.out _ _ ⟨(blk_cell BK682.out 0).trans rfl, (blk_cell BK682.out 1).trans rfl⟩ (fun hHeld => ?_)
       clear hK K
       refine norm_ (a' := ?_) ?_ ?_
       rotate_left
       ·show Act.put _ (some 31) _ = _
        simp only [Act.put, List.setIfInBounds_toArray, List.set_cons_zero, List.set_cons_succ, i64_w, i32_w]
        rfl
       refine pY 8 32 #[tT, tT, tT, tT, tT, tT, tT, tT, tT, tF] ?_
       refine last_ (i := 9) (N := none) #[tT, tT, tT, tT, tT, tT, tT, tT, tT, tT] rfl rfl (one_of HT_.out (by kernel_rfl)) (by decide) (fun K hK => ?_)
       refine skip_ (w1 := ?_) (by rfl) rfl ?_ ?_
       rotate_left
       ·go_simp
        rfl
       refine hK.out _ _ ?_
       clear hK K
       refine done_ (done_of HT_.out (by kernel_rfl)) ?_
       try go_wp2_with (first | ((with_reducible refine gate_callee (f := 120) rfl ?_); refine gL (some 34) Try.func120 #[.pointer (some ⟨g, 0, none⟩), .int .i64 3] ?_; (with_reducible refine (spec_l1Once.calls g s0_0 t684 t685 3 false t688 t689 w0 _ ?side1 ?side2 A19.out).mono ?_); (case side1 => repeat (first | (with_reducible first | exact HI0.out | apply IsS123.alloc | apply IsS123.drewN | apply IsS123.drew | apply IsS123.set_1 | apply IsS123.set_2 | refine IsS123.far ?_ HN0_go18.out _ | refine IsS123.far ?_ NB0_671.out _ | refine IsS123.far ?_ NB0_682.out _) | exact HI0.out)); (case side2 => repeat (first | (with_reducible first | exact HB.out | apply below_alloc | apply pw_below_drewN | apply below_drew1 | refine below_set ?_ (Nat.le_trans HL.out GB18.out) | refine below_set ?_ (IsS123.ge HI0.out) | refine below_set ?_ GE671.out | refine below_set ?_ GE682.out) | exact HB.out)); rintro e w36 ⟨rfl, hi, hb, hk⟩; refine ⟨_, rfl, ?_⟩; have n_ := aI (aM (Kd.R_mono (Kd.R_keep (IsS123.apart (show IsS123 w0 _ g s0_0 t684 t685 from by repeat (first | (with_reducible first | exact HI0.out | apply IsS123.alloc | apply IsS123.drewN | apply IsS123.drew | apply IsS123.set_1 | apply IsS123.set_2 | refine IsS123.far ?_ HN0_go18.out _ | refine IsS123.far ?_ NB0_671.out _ | refine IsS123.far ?_ NB0_682.out _) | exact HI0.out)) (rP HQ35.out) (by decide)) hk (fun _ h => h.2)) (fun _ h => h.1))) (aI (aM (Kd.R_mono (Kd.R_keep (IsS123.apart (show IsS123 w0 _ g s0_0 t684 t685 from by repeat (first | (with_reducible first | exact HI0.out | apply IsS123.alloc | apply IsS123.drewN | apply IsS123.drew | apply IsS123.set_1 | apply IsS123.set_2 | refine IsS123.far ?_ HN0_go18.out _ | refine IsS123.far ?_ NB0_671.out _ | refine IsS123.far ?_ NB0_682.out _) | exact HI0.out)) (rP (Kd.R_mono (Kd.R_far (p := ⟨go18, ((ji15) : Int).toNat, none⟩) (Kd.R_types HO_683001.out GG18.out (by decide)) (fun _ hk => hk.2) (.string t683)) (fun _ h_ => h_.1))) (by decide)) hk (fun _ h => h.2)) (fun _ h => h.1))) (aI (aM (KeepBut.blk hk (g' := gb671) (o := .cells #[.slice none 0 0, .slice none 0 0] 30 (0, 0)) (by (with_reducible repeat (first | apply bN | apply bD | apply bA)); refine blk_far ?_ (by have h_ := Kd.R_ne HO_683000.out BK671.out (by decide); intro e_; exact h_ (by rw [e_]; rfl)) _; (with_reducible repeat (first | apply bN | apply bD | apply bA)); exact BK671.out) NB671_0.out (by simp))) (aI (aM (KeepBut.blk hk (g' := gb682) (o := .cells #[.slice (some ⟨go18, 0, none⟩) x683000_1.length co18, .slice Ao12 t678.length co12] 30 (0, 0)) (by (with_reducible repeat (first | apply bN | apply bD | apply bA)); refine blk_far ?_ (by have h_ := Kd.R_ne HO_683000.out BK682.out (by decide); intro e_; exact h_ (by rw [e_]; rfl)) _; (with_reducible repeat (first | apply bN | apply bD | apply bA)); exact BK682.out) NB682_0.out (by simp))) (aI (aM (KeepBut.trans (bK HK) hk (.inl rfl))) (aI (aM (hb)) (aM (hi))))))); clear HO_683000 HO_683001 BK671 BK682 HK HB HI0; obtain ⟨HO_683000, HO_683001, BK671, BK682, HK, HB, HI0⟩ := n_; (try clear hb hk hi)))
       go_roundg k1
       case measure => have := HK1.out; omega
       case rel => exact ⟨(wrap64 (x7_1 + 1)), (t688), (t689), (y686), (.slice (some ⟨go18, 0, none⟩) x683000_1.length co18), (by first | rfl | (simp; done) | (simp [*]; done) | (simp; exact (by intro l_; cases l_ <;> rfl : ∀ l_ : List UInt8, l_.isEmpty = !(l_ != [])) _)), H', ⟨by have := HK1.out; omega⟩, ⟨rP HO_683000.out⟩, ⟨rP HO_683001.out⟩, ⟨kP BK671⟩, ⟨kP BK682⟩, ⟨IsS123.iI HI0⟩, ⟨bK HK⟩, ⟨bB⟩⟩
     ·rw [if_neg c17] at H
      exact absurd H (by simp)
    ·rw [if_neg c16] at H
     exact absurd H (by simp)
   ·rw [if_neg c13] at H
    have c13b0 : decide (x7_1 < (wrap64 (1 + t672))) = false := decide_eq_false c13
    clear c13
    replace H := Option.bind_eq_some_iff.mp H
    obtain ⟨⟨t694, t695, t696⟩, A370, H⟩ := H
    try dsimp only at H
    have A37 := aM A370
    clear A370
    by_cases c38 : t694 = true
    ·subst c38
     rw [if_pos rfl] at H
     simp only [Option.some.injEq, Prod.mk.injEq] at H
     obtain ⟨rfl, rfl, rfl, rfl, rfl⟩ := H
     go_wp2_with (first | ((with_reducible refine gate_callee (f := 120) rfl ?_); refine gL (some 43) Try.func120 #[.pointer (some ⟨g, 0, none⟩), .int .i64 3] ?_; (with_reducible refine (spec_l1Once.calls g s0_0 x1001_1 x1002_1 3 true t695 t696 w0 _ ?side1 ?side2 A37.out).mono ?_); (case side1 => exact IsS123.iI HI0); (case side2 => exact bB); rintro e w39 ⟨rfl, hi, hb, hk⟩; refine ⟨_, rfl, ?_⟩; have n_ := aI (aM (Kd.R_mono (Kd.R_keep (IsS123.apart (show IsS123 w0 _ g s0_0 x1001_1 x1002_1 from IsS123.iI HI0) (rP HO_683000.out) (by decide)) hk (fun _ h => h.2)) (fun _ h => h.1))) (aI (aM (Kd.R_mono (Kd.R_keep (IsS123.apart (show IsS123 w0 _ g s0_0 x1001_1 x1002_1 from IsS123.iI HI0) (rP HO_683001.out) (by decide)) hk (fun _ h => h.2)) (fun _ h => h.1))) (aI (aM (KeepBut.blk hk (g' := gb671) (o := .cells #[.slice none 0 0, .slice none 0 0] 30 (0, 0)) (kP BK671) NB671_0.out (by simp))) (aI (aM (KeepBut.blk hk (g' := gb682) (o := .cells #[u683000, .slice Ao12 t678.length co12] 30 (0, 0)) (kP BK682) NB682_0.out (by simp))) (aI (aM (KeepBut.trans (bK HK) hk (.inl rfl))) (aI (aM (hb)) (aM (hi))))))); clear HO_683000 HO_683001 BK671 BK682 HK HB HI0; obtain ⟨HO_683000, HO_683001, BK671, BK682, HK, HB, HI0⟩ := n_; (try clear hb hk hi); have hnb40 := NB682_671.out; have hnc40 := NB671_682.out; have hnb41 := NB682_0.out; have hnc41 := NB0_682.out; have hcz42_0 := cZ0 BK682; have hcz42_1 := cZ1 BK682; have hfz42_0 := fZ BK682 0; have hfz42_1 := fZ BK682 1; obtain ⟨Ao43, co43, eo43⟩ := Kd.R_slice HO_683000.out; subst eo43; have hnb44 := NB671_0.out; have hnc44 := NB0_671.out; have hcz45_0 := cZ0 BK671; have hcz45_1 := cZ1 BK671; have hfz45_0 := fZ BK671 0; have hfz45_1 := fZ BK671 1))
     refine bodyPost_ret (results_ct rfl _ _ gb671 30 #[.slice Ao43 x683000_1.length co43, .slice Ao12 t678.length co12] (0, 0) _ rfl (by (with_reducible repeat (first | apply bN | apply bD | apply bA)); refine blk_put (cs := #[.slice Ao43 x683000_1.length co43, .slice none 0 0]) ?_ 1 _ rfl; (with_reducible repeat (first | apply bN | apply bD | apply bA)); refine blk_put (cs := #[.slice none 0 0, .slice none 0 0]) ?_ 0 _ rfl; (with_reducible repeat (first | apply bN | apply bD | apply bA)); exact BK671.out) Try.underlying30 rfl (by kernel_rfl)) rfl ?_
     exact ⟨_, _, eW, by (with_reducible repeat (first | apply Kd.R_alloc | apply Kd.R_drewN | apply Kd.R_drew)); exact Kd.R_mono (Kd.R_far (p := ⟨gb671, 1, none⟩) (Kd.R_far (p := ⟨gb671, 0, none⟩) (Kd.R_types HO_683000.out BK671.out (by decide)) (fun _ hk => hk.2) (.slice Ao43 x683000_1.length co43)) (fun _ hk => hk.2) (.slice Ao12 t678.length co12)) (fun _ hk => trivial), by (with_reducible repeat (first | apply Kd.R_alloc | apply Kd.R_drewN | apply Kd.R_drew)); exact Kd.R_mono (Kd.R_far (p := ⟨gb671, 1, none⟩) (Kd.R_far (p := ⟨gb671, 0, none⟩) (Kd.R_types HO_683001.out BK671.out (by decide)) (fun _ hk => hk.2) (.slice Ao43 x683000_1.length co43)) (fun _ hk => hk.2) (.slice Ao12 t678.length co12)) (fun _ hk => trivial), IsS123.iI HI0, bB, bK HK⟩
    ·replace c38 := Bool.eq_false_iff.mpr c38
     subst c38
     rw [if_neg (show ¬ (false = true) by decide)] at H
     replace H := Option.bind_eq_some_iff.mp H
     obtain ⟨⟨t697, t700, t701⟩, A460, H⟩ := H
     try dsimp only at H
     have A46 := aM A460
     clear A460
     replace H := Option.bind_eq_some_iff.mp H
     obtain ⟨t702, A470, H⟩ := H
     try dsimp only at H
     have A47 := aM A470
     clear A470
     replace H := Option.bind_eq_some_iff.mp H
     obtain ⟨⟨t705, t706, t707⟩, A480, H⟩ := H
     try dsimp only at H
     have A48 := aM A480
     clear A480
     by_cases c49 : 0 ≤ t705
     ·rw [if_pos c49] at H
      have c49b0 := eq_true c49
      have c49b1 : decide (0 ≤ t705) = true := decide_eq_true c49
      clear c49
      by_cases c50 : t705 ≤ (t702.length : Int)
      ·rw [if_pos c50] at H
       have c50b0 := eq_true c50
       have c50b1 : decide (t705 ≤ (t702.length : Int)) = true := decide_eq_true c50
       clear c50
       obtain ⟨y708, hy708⟩ : ∃ y_ : List (S92), y_ = (t702.take (t705 : Int).toNat) := ⟨_, rfl⟩
       replace H : ((spec_EventsDo.f k1 x683000_1 t678 y708).bind fun bt712 => (some (bt712.1, bt712.2, (wrap64 (1 + t672)), t706, t707))) = some (r1, r2, r3, r4, r5) := bQ hy708 H
       have Ny708 := aM hy708
       clear hy708
       replace H := Option.bind_eq_some_iff.mp H
       obtain ⟨⟨t712, t715⟩, A510, H⟩ := H
       try dsimp only at H
       have A51 := aM A510
       clear A510
       simp only [Option.some.injEq, Prod.mk.injEq] at H
       obtain ⟨rfl, rfl, rfl, rfl, rfl⟩ := H
       try go_wp2_with (first | ((with_reducible refine gate_callee (f := 120) rfl ?_); refine gL (some 43) Try.func120 #[.pointer (some ⟨g, 0, none⟩), .int .i64 3] ?_; (with_reducible refine (spec_l1Once.calls g s0_0 x1001_1 x1002_1 3 false t695 t696 w0 _ ?side1 ?side2 A37.out).mono ?_); (case side1 => exact IsS123.iI HI0); (case side2 => exact bB); rintro e w52 ⟨rfl, hi, hb, hk⟩; refine ⟨_, rfl, ?_⟩; have n_ := aI (aM (Kd.R_mono (Kd.R_keep (IsS123.apart (show IsS123 w0 _ g s0_0 x1001_1 x1002_1 from IsS123.iI HI0) (rP HO_683000.out) (by decide)) hk (fun _ h => h.2)) (fun _ h => h.1))) (aI (aM (Kd.R_mono (Kd.R_keep (IsS123.apart (show IsS123 w0 _ g s0_0 x1001_1 x1002_1 from IsS123.iI HI0) (rP HO_683001.out) (by decide)) hk (fun _ h => h.2)) (fun _ h => h.1))) (aI (aM (KeepBut.blk hk (g' := gb671) (o := .cells #[.slice none 0 0, .slice none 0 0] 30 (0, 0)) (kP BK671) NB671_0.out (by simp))) (aI (aM (KeepBut.blk hk (g' := gb682) (o := .cells #[u683000, .slice Ao12 t678.length co12] 30 (0, 0)) (kP BK682) NB682_0.out (by simp))) (aI (aM (KeepBut.trans (bK HK) hk (.inl rfl))) (aI (aM (hb)) (aM (hi))))))); clear HO_683000 HO_683001 BK671 BK682 HK HB HI0; obtain ⟨HO_683000, HO_683001, BK671, BK682, HK, HB, HI0⟩ := n_; (try clear hb hk hi)) | ((with_reducible refine gate_callee (f := 125) rfl ?_); refine gL (some 48) Try.func125 #[.pointer (some ⟨g, 0, none⟩), .int .i64 (wrap64 (1 + t672))] ?_; (with_reducible refine (spec_l4Tx.calls k1 g s0_0 t695 t696 (wrap64 (1 + t672)) t697 t700 t701 w0 _ ?side1 ?side2 A46.out).mono ?_); (case side1 => exact IsS123.iI HI0); (case side2 => exact bB); rintro e w53 ⟨v698, rfl, ho0, hi, hb, hk⟩; refine ⟨_, rfl, ?_⟩; have n_ := aI (aM (Kd.R_mono (Kd.R_keep (IsS123.apart (show IsS123 w0 _ g s0_0 t695 t696 from IsS123.iI HI0) (rP HO_683000.out) (by decide)) hk (fun _ h => h.2)) (fun _ h => h.1))) (aI (aM (Kd.R_mono (Kd.R_told (Kd.R_oldK (IsS123.apart (show IsS123 w0 _ g s0_0 t695 t696 from IsS123.iI HI0) (rP HO_683001.out) (by decide)) hk) (Kd.R_base ho0)) (fun _ h_ => h_.1))) (aI (aM (KeepBut.blk hk (g' := gb671) (o := .cells #[.slice none 0 0, .slice none 0 0] 30 (0, 0)) (kP BK671) NB671_0.out (by simp))) (aI (aM (KeepBut.blk hk (g' := gb682) (o := .cells #[u683000, .slice Ao12 t678.length co12] 30 (0, 0)) (kP BK682) NB682_0.out (by simp))) (aI (aM (Kd.R_lower (Kd.R_new' ho0 (rL HO_683001)) (keep_size (w := w) (g := g) (row := none) (bK HK)))) (aI (aM (KeepBut.trans (bK HK) hk (.inl rfl))) (aI (aM (hb)) (aM (hi)))))))); clear HO_683000 HO_683001 BK671 BK682 HK HB HI0; obtain ⟨HO_683000, HO_683001, BK671, BK682, HO699, HK, HB, HI0⟩ := n_; (try clear hb hk hi ho0); obtain ⟨Ao54, co54, eo54⟩ := Kd.R_slice HO699.out; subst eo54) | ((with_reducible refine gate_callee (f := 54) rfl ?_); refine gL (some 49) Try.func54 #[.int .i64 (wrap64 (1 + t672)), .slice Ao54 t697.length co54] ?_; (with_reducible refine (spec_Commit.calls k1 (wrap64 (1 + t672)) _ _ t697 t702 _ ?side1 ?side2 A47.out).mono ?_); (case side1 => exact cR HO699); (case side2 => exact (Kd.R_reads' HO699.out).2.1); rintro e w55 ⟨v703, rfl, ho0, hb⟩; refine ⟨_, rfl, ?_⟩; have n_ := aI (rB HO_683000 hb) (aI (rB HO_683001 hb) (aI (rB HO699 hb) (aI (aM (Kd.R_lower ho0 (keep_size (w := w) (g := g) (row := none) (bK HK)))) (aI (kB BK671 hb) (aI (kB BK682 hb) (aI (aM (IsS123.below (IsS123.iI HI0) hb)) (aI (aM (KeepBut.trans (bK HK) (KeepBut.of_below hb g none) (.inl rfl))) (sB HB hb)))))))); clear HO_683000 HO_683001 HO699 BK671 BK682 HI0 HK HB; obtain ⟨HO_683000, HO_683001, HO699, HO704, BK671, BK682, HI0, HK, HB⟩ := n_; (try clear hb ho0)))
       have n_ := aI (aM (Kd.R_drew HO_683000.out)) (aI (aM (Kd.R_drew HO_683001.out)) (aI (aM (Kd.R_drew HO699.out)) (aI (aM (Kd.R_drew HO704.out)) (aI (aM (blk_drew BK671.out)) (aI (aM (blk_drew BK682.out)) (aI (aM (IsS123.drew HI0.out)) (aI (aM (keep_drew HK.out)) (aM (below_drew1 HB.out)))))))))
       clear HO_683000 HO_683001 HO699 HO704 BK671 BK682 HI0 HK HB
       obtain ⟨HO_683000, HO_683001, HO699, HO704, BK671, BK682, HI0, HK, HB⟩ := n_
       obtain ⟨Ao57, co57, eo57⟩ := Kd.R_slice HO704.out
       (first | subst eo57 | (injection eo57 with f1_ f2_ f3_; have f4_ := f1_.symm; have f5_ := f3_.symm; clear f1_ f2_ f3_; subst f4_; subst f5_))
       refine start_ (n := 10) (S := fun w' => w'.cell? ⟨gb682, 0, none⟩ = some (u683000) ∧ w'.cell? ⟨gb682, 1, none⟩ = some (.slice Ao12 t678.length co12)) (ds := [9]) #[tF, tF, tF, tF, tF, tF, tF, tF, tF, tF] (by kernel_rfl) rfl rfl ⟨(blk_cell BK682.out 0).trans rfl, (blk_cell BK682.out 1).trans rfl⟩ (fun hHeld => ?_); refine with_tabW spec_l4Disk.tab11 spec_l4Disk.bits11 (fun HT_ HW_ => ?_)
       generalize w55.drew = w56 at HO_683000 HO_683001 HO699 HO704 BK671 BK682 HI0 HK HB hHeld ⊢
       refine pY 1 51 #[tF, tT, tF, tF, tF, tF, tF, tF, tF, tF] ?_
       refine pY 2 52 #[tF, tT, tT, tF, tF, tF, tF, tF, tF, tF] ?_
       refine pY 3 53 #[tF, tT, tT, tT, tF, tF, tF, tF, tF, tF] ?_
       refine pY 4 54 #[tF, tT, tT, tT, tT, tF, tF, tF, tF, tF] ?_
       refine pY 5 55 #[tF, tT, tT, tT, tT, tT, tF, tF, tF, tF] ?_
       refine take_ (i := 0) (N := some 50) (v := ?_) (a' := ?_) #[tT, tT, tT, tT, tT, tT, tF, tF, tF, tF] rfl rfl (take_ofW HT_.out HW_.out (by kernel_rfl)) (fun _ _ _ h => h) (Or.inl ⟨by rfl, ?_⟩) hHeld ?_ ?_
       rotate_left
       ·rintro w' ⟨s0, s1⟩
        go_simp
        with_reducible rfl
       rotate_left
       ·simp only [Act.put, List.setIfInBounds_toArray, List.set_cons_zero, List.set_cons_succ, i64_w, i32_w]
        rfl
       refine one_ (i := 6) (N := some 56) #[tT, tT, tT, tT, tT, tT, tT, tF, tF, tF] rfl rfl (one_of HT_.out (by kernel_rfl)) (by decide) (fun K hK => ?_)
       refine goes_ Try.func95 (by kernel_rfl) rfl #[.pointer (some ⟨g, 0, none⟩), .int .i64 (wrap64 ((t702.length : Int) + 1))] (by rfl) rfl rfl (by (try simp only [List.map_toArray, List.map_cons, List.map_nil]); first | done | rfl | (simp only [List.length_drop, List.length_take]; rfl)) ?_
       with_reducible refine (spec_l1Below.calls g s0_0 t700 t701 (wrap64 ((t702.length : Int) + 1)) t705 t706 t707 w0 _ ?side1 ?side2 A48.out).mono ?_
       (case side1 => exact IsS123.iI HI0)
       (case side2 => exact bB)
       rintro e w58 ⟨rfl, hi, hb, hk⟩
       refine ⟨_, rfl, ?_⟩
       have n_ := aI (aM (Kd.R_mono (Kd.R_keep (IsS123.apart (show IsS123 w0 _ g s0_0 t700 t701 from IsS123.iI HI0) (rP HO_683000.out) (by decide)) hk (fun _ h => h.2)) (fun _ h => h.1))) (aI (aM (Kd.R_mono (Kd.R_keep (IsS123.apart (show IsS123 w0 _ g s0_0 t700 t701 from IsS123.iI HI0) (rP HO_683001.out) (by decide)) hk (fun _ h => h.2)) (fun _ h => h.1))) (aI (aM (KeepBut.blk hk (g' := gb671) (o := .cells #[.slice none 0 0, .slice none 0 0] 30 (0, 0)) (kP BK671) NB671_0.out (by simp))) (aI (aM (KeepBut.blk hk (g' := gb682) (o := .cells #[u683000, .slice Ao12 t678.length co12] 30 (0, 0)) (kP BK682) NB682_0.out (by simp))) (aI (aM (Kd.R_mono (Kd.R_keep (IsS123.apart (show IsS123 w0 _ g s0_0 t700 t701 from IsS123.iI HI0) (rP HO699.out) (by decide)) hk (fun _ h => h.2)) (fun _ h => h.1))) (aI (aM (Kd.R_mono (Kd.R_keep (IsS123.apart (show IsS123 w0 _ g s0_0 t700 t701 from IsS123.iI HI0) (rP HO704.out) (by decide)) hk (fun _ h => h.2)) (fun _ h => h.1))) (aI (aM (KeepBut.trans (bK HK) hk (.inl rfl))) (aI (aM (hb)) (aM (hi)))))))))
       clear HO_683000 HO_683001 BK671 BK682 HO699 HO704 HK HB HI0
       obtain ⟨HO_683000, HO_683001, BK671, BK682, HO699, HO704, HK, HB, HI0⟩ := n_
       (try clear hb)
       (try clear hb2)
       (try clear hk)
       (try clear hi)
       have q59 : (t705 : Int) ≤ ((t702.length : Int) : Int) := dT
       obtain ⟨i059, hi059, _, hsz59, _⟩ := info_parts info92
       have hroom59 : t702.length ≤ co57 := (Kd.R_reads' HO704.out).2.1
       have hC59 : Kd.C k92 _ Ao57 t702.length t702 := (Kd.R_reads' HO704.out).2.2
       have hcut59 := cut_to (P := Try.prog) 54 92 .i64 Try.underlying54 hi059 Ao57 t702.length co57 t705 (dT) q59 hroom59
       have hr59 := Kd.C_take (m := (t705 : Int).toNat) hC59 (by omega)
       have hy59 : y708.length = (t705 : Int).toNat := (by rw [Ny708.out, List.length_take]; omega)
       rw [← Ny708.out] at hr59
       rw [← hy59] at hcut59
       have HR711 := aM hr59
       have HC711 := aM (show y708.length ≤ co57 from by omega)
       clear hr59 hC59 hroom59 hi059 hsz59
       have KY59 := aM hy59
       clear hy59
       have KL59 := aM (show (t705 : Int).toNat ≤ t702.length from by omega)
       replace q59 := eq_true q59
       obtain ⟨Ao60, co60, eo60⟩ := Kd.R_slice HO_683000.out
       (first | subst eo60 | (injection eo60 with f1_ f2_ f3_; have f4_ := f1_.symm; have f5_ := f3_.symm; clear f1_ f2_ f3_; subst f4_; subst f5_))
       refine hK.out _ _ ⟨(blk_cell BK682.out 0).trans rfl, (blk_cell BK682.out 1).trans rfl⟩ (fun hHeld => ?_)
       clear hK K
       refine norm_ (a' := ?_) ?_ ?_
       rotate_left
       ·show Act.put _ (some 56) _ = _
        simp only [Act.put, List.setIfInBounds_toArray, List.set_cons_zero, List.set_cons_succ, i64_w, i32_w]
        rfl
       refine pY 7 57 #[tT, tT, tT, tT, tT, tT, tT, tT, tF, tF] ?_
       refine one_ (i := 8) (N := some 58) #[tT, tT, tT, tT, tT, tT, tT, tT, tT, tF] rfl rfl (one_of HT_.out (by kernel_rfl)) (by decide) (fun K hK => ?_)
       refine goes_ Try.func39 (by kernel_rfl) rfl #[.agg #[.slice Ao60 x683000_1.length co60, .slice Ao12 t678.length co12], .slice Ao57 y708.length co57] (by rfl) rfl rfl (by (try simp only [List.map_toArray, List.map_cons, List.map_nil]); first | done | rfl | (simp only [List.length_drop, List.length_take]; rfl)) ?_
       with_reducible refine (spec_EventsDo.calls k1 _ _ x683000_1 _ _ t678 _ _ y708 t712 t715 _ ?side1 ?side2 ?side3 ?side4 ?side5 ?side6 A51.out).mono ?_
       (case side1 => exact cR HO_683000)
       (case side2 => exact (Kd.R_reads' HO_683000.out).2.1)
       (case side3 => exact cR HO_683001)
       (case side4 => exact (Kd.R_reads' HO_683001.out).2.1)
       (case side5 => repeat (first | exact (by repeat (first | (with_reducible exact HR711.out) | (with_reducible refine Kd.C_alloc ?_ _) | (with_reducible refine Kd.C_drewN ?_ _) | (with_reducible refine Kd.C_drew ?_) | exact HR711.out)) | (with_reducible refine Kd.C_alloc ?_ _) | (with_reducible refine Kd.C_drewN ?_ _) | (with_reducible refine Kd.C_drew ?_)))
       (case side6 => exact HC711.out)
       rintro e w61 ⟨v713, v716, rfl, ho0, ho1, hb⟩
       refine ⟨_, rfl, ?_⟩
       have n_ := aI (eR HO_683000 ho0 hb) (aI (eR HO_683001 ho1 hb) (aI (eR HO699 ho1 hb) (aI (rB HO704 hb) (aI (aM (Kd.R_lower (Kd.R_new' ho0 (rL HO_683000)) (keep_size (w := w) (g := g) (row := none) (bK HK)))) (aI (aM (Kd.R_lower (Kd.R_new' (Kd.R_new' ho1 (rL HO_683001)) (rL HO699)) (keep_size (w := w) (g := g) (row := none) (bK HK)))) (aI (kB BK671 hb) (aI (kB BK682 hb) (aI (aM (IsS123.below (IsS123.iI HI0) hb)) (aI (aM (Kd.C_below (by repeat (first | (with_reducible exact HR711.out) | (with_reducible refine Kd.C_alloc ?_ _) | (with_reducible refine Kd.C_drewN ?_ _) | (with_reducible refine Kd.C_drew ?_) | exact HR711.out)) hb)) (aI (aM (KeepBut.trans (bK HK) (KeepBut.of_below hb g none) (.inl rfl))) (sB HB hb)))))))))))
       clear HO_683000 HO_683001 HO699 HO704 BK671 BK682 HI0 HR711 HK HB
       obtain ⟨HO_683000, HO_683001, HO699, HO704, HO714, HO717, BK671, BK682, HI0, HR711, HK, HB⟩ := n_
       (try clear hb)
       (try clear hb2)
       (try clear hk)
       (try clear hi)
       (try clear ho0)
       (try clear ho1)
       obtain ⟨Ao62, co62, eo62⟩ := Kd.R_slice HO714.out
       (first | subst eo62 | (injection eo62 with f1_ f2_ f3_; have f4_ := f1_.symm; have f5_ := f3_.symm; clear f1_ f2_ f3_; subst f4_; subst f5_))
       obtain ⟨Ao64, co64, eo64⟩ := Kd.R_slice HO717.out
       (first | subst eo64 | (injection eo64 with f1_ f2_ f3_; have f4_ := f1_.symm; have f5_ := f3_.symm; clear f1_ f2_ f3_; subst f4_; subst f5_))
       refine hK.out _ _ ⟨(blk_cell BK682.out 0).trans rfl, (blk_cell BK682.out 1).trans rfl⟩ (fun hHeld => ?_)
       clear hK K
       refine norm_ (a' := ?_) ?_ ?_
       rotate_left
       ·show Act.put _ (some 58) _ = _
        simp only [Act.put, List.setIfInBounds_toArray, List.set_cons_zero, List.set_cons_succ, i64_w, i32_w]
        rfl
       refine last_ (i := 9) (N := none) #[tT, tT, tT, tT, tT, tT, tT, tT, tT, tT] rfl rfl (one_of HT_.out (by kernel_rfl)) (by decide) (fun K hK => ?_)
       have hs63 : w61.cell? ⟨gb682, 0, none⟩ = some (.slice Ao60 x683000_1.length co60) := (blk_cell BK682.out 0).trans rfl
       have hfs63 := blk_frozen BK682.out 0
       have hns63_0 := NB671_682.out
       have hms63_0 := NB682_671.out
       have hs65 : w61.cell? ⟨gb682, 1, none⟩ = some (.slice Ao12 t678.length co12) := (blk_cell BK682.out 1).trans rfl
       have hfs65 := blk_frozen BK682.out 1
       have hns65_0 := NB671_682.out
       have hms65_0 := NB682_671.out
       refine skip_ (w1 := ?_) (by rfl) rfl ?_ ?_
       rotate_left
       ·go_simp
        rfl
       refine hK.out _ _ ?_
       clear hK K
       refine done_ (done_of HT_.out (by kernel_rfl)) ?_
       have hnb66 := NB682_671.out
       have hnc66 := NB671_682.out
       have hnb67 := NB682_0.out
       have hnc67 := NB0_682.out
       have hcz68_0 := cZ0 BK682
       have hcz68_1 := cZ1 BK682
       have hfz68_0 := fZ BK682 0
       have hfz68_1 := fZ BK682 1
       have hnb69 := NB671_0.out
       have hnc69 := NB0_671.out
       have hcz70_0 := cZ0 BK671
       have hcz70_1 := cZ1 BK671
       have hfz70_0 := fZ BK671 0
       have hfz70_1 := fZ BK671 1
       try go_wp2
       refine bodyPost_ret (results_ct rfl _ _ gb671 30 #[.slice Ao62 t712.length co62, .slice Ao64 t715.length co64] (0, 0) _ rfl (by (with_reducible repeat (first | apply bN | apply bD | apply bA)); refine blk_put (cs := #[.slice Ao62 t712.length co62, .slice none 0 0]) ?_ 1 _ rfl; (with_reducible repeat (first | apply bN | apply bD | apply bA)); refine blk_put (cs := #[.slice none 0 0, .slice none 0 0]) ?_ 0 _ rfl; (with_reducible repeat (first | apply bN | apply bD | apply bA)); refine blk_far ?_ NB671_682.out _; (with_reducible repeat (first | apply bN | apply bD | apply bA)); refine blk_far ?_ NB671_682.out _; (with_reducible repeat (first | apply bN | apply bD | apply bA)); exact BK671.out) Try.underlying30 rfl (by kernel_rfl)) rfl ?_
       exact ⟨_, _, eW, by (with_reducible repeat (first | apply Kd.R_alloc | apply Kd.R_drewN | apply Kd.R_drew)); exact Kd.R_mono (Kd.R_far (p := ⟨gb671, 1, none⟩) (Kd.R_far (p := ⟨gb671, 0, none⟩) (Kd.R_far (p := ⟨gb682, 1, none⟩) (Kd.R_far (p := ⟨gb682, 0, none⟩) (Kd.R_types (Kd.R_types HO714.out BK682.out (by decide)) BK671.out (by decide)) (fun _ hk => hk.1.2) (.slice Ao62 t712.length co62)) (fun _ hk => hk.1.2) (.slice Ao64 t715.length co64)) (fun _ hk => hk.2) (.slice Ao62 t712.length co62)) (fun _ hk => hk.2) (.slice Ao64 t715.length co64)) (fun _ hk => trivial), by (with_reducible repeat (first | apply Kd.R_alloc | apply Kd.R_drewN | apply Kd.R_drew)); exact Kd.R_mono (Kd.R_far (p := ⟨gb671, 1, none⟩) (Kd.R_far (p := ⟨gb671, 0, none⟩) (Kd.R_far (p := ⟨gb682, 1, none⟩) (Kd.R_far (p := ⟨gb682, 0, none⟩) (Kd.R_types (Kd.R_types HO717.out BK682.out (by decide)) BK671.out (by decide)) (fun _ hk => hk.1.2) (.slice Ao62 t712.length co62)) (fun _ hk => hk.1.2) (.slice Ao64 t715.length co64)) (fun _ hk => hk.2) (.slice Ao62 t712.length co62)) (fun _ hk => hk.2) (.slice Ao64 t715.length co64)) (fun _ hk => trivial), IsS123.iI HI0, bB, bK HK⟩
      ·rw [if_neg c50] at H
       exact absurd H (by simp)
     ·rw [if_neg c49] at H
      exact absurd H (by simp)

/-! ### spec_DrawRecover: function 51 -/
def spec_DrawRecover.j0 : Nat → Int → List ByteArray → List (S65) → Option (List ByteArray × (List (S65)) × Int)
 | 0, _, _, _ => none
 | k + 1, x6, x733000, x733001 => some (x733000, x733001, x6)
def spec_DrawRecover.f (k : Nat) (l0 : List Int) : Option (List ByteArray × (List (S65)) × Int) := (spec_l1New.f k l0).bind fun bt719 => ((spec_l4Disk.f k bt719.1 bt719.2.1 bt719.2.2).bind fun bt723 => ((spec_l1Below.f bt719.1 bt723.2.2.2.1 bt723.2.2.2.2 10).bind fun bt733 => (if bt733.1 = 0 then (spec_DrawRecover.j0 k (wrap64 (bt723.2.2.1 + 1)) bt723.1 bt723.2.1) else (if bt733.1 = 1 then ((spec_l3Draw.f k bt719.1 bt733.2.1 bt733.2.2).bind fun bt736 => (spec_DrawRecover.j0 k bt723.2.2.1 bt736.1 bt736.2.1)) else (if bt733.1 = 2 then (if 1 < (bt723.1.length : Int) then (if (rdOf ByteArray.empty bt723.1 1).size + 1 ≤ 9223372036854775807 then (spec_DrawRecover.j0 k bt723.2.2.1 (bt723.1.set (1 : Int).toNat ((rdOf ByteArray.empty bt723.1 1) ++ (⟨#[120]⟩ : ByteArray))) bt723.2.1) else (none)) else (none)) else (if bt733.1 = 3 then ((spec_l1PickInt.f bt719.1 bt733.2.1 bt733.2.2 (([0, (-1), 49, 9223372036854775807] : List Int))).bind fun bt749 => (spec_DrawRecover.j0 k bt749.1 bt723.1 bt723.2.1)) else (spec_DrawRecover.j0 k bt723.2.2.1 bt723.1 bt723.2.1)))))))
theorem spec_DrawRecover.mono_l : ∀ k, (∀ y0 y1 y2, LeO (spec_DrawRecover.j0 k y0 y1 y2) (spec_DrawRecover.j0 (k + 1) y0 y1 y2))
 | 0 => fun _ _ _ r h => by simp [spec_DrawRecover.j0] at h
 | k + 1 => by
  have ih0 := spec_DrawRecover.mono_l k
  ·intro y0 y1 y2
   unfold spec_DrawRecover.j0
   have m0_ := @spec_l1New.mono
   have m1_ := @spec_l3Draw.mono
   have m2_ := @spec_l4Disk.mono
   exact mM
theorem spec_DrawRecover.mono : ∀ a0 k, LeO (spec_DrawRecover.f k a0) (spec_DrawRecover.f (k + 1) a0) := by
 intro a0 k
 have ih0 := spec_DrawRecover.mono_l k
 unfold spec_DrawRecover.f
 have m0_ := @spec_l1New.mono
 have m1_ := @spec_l3Draw.mono
 have m2_ := @spec_l4Disk.mono
 exact mM
def spec_DrawRecover.T9 : Bool × List (List Nat × List Nat) := (true, [([], []), ([0], [0]), ([], []), ([2], [2]), ([3], [3]), ([4], [4]), ([5], [5]), ([1, 0, 1, 2, 3, 4, 5, 6], [1]), ([7, 6, 0, 1, 2, 3, 4, 5, 6], [6, 7])])
def spec_DrawRecover.B9 : List Nat := [0, 1, 0, 4, 12, 28, 60, 127, 255]
theorem spec_DrawRecover.tab9 : rtab .any (opsOf Try.f51 9) = spec_DrawRecover.T9 := by kernel_rfl
theorem spec_DrawRecover.bits9 : waitsOk spec_DrawRecover.T9.2 spec_DrawRecover.B9 = true := by kernel_rfl
set_option maxHeartbeats 8000000 in
set_option maxRecDepth 100000 in
theorem spec_DrawRecover.calls (k : Nat) (A0 : Option Addr) (c0 : Nat) (l0 : List Int) (r1 : List ByteArray) (r2 : List (S65)) (r3 : Int) (w : World) (hr0 : Kd.C (Kd.int .u8) w A0 l0.length l0) (hc0 : l0.length ≤ c0) (h : spec_DrawRecover.f k l0 = some (r1, r2, r3)) :
  Calls Try.prog 51 #[.slice A0 l0.length c0] w fun e w' => ∃ v0_ v1_ : Value, e = .returned (.tuple #[.agg #[v0_, v1_], .int .i64 r3]) ∧ Kd.R Kd.string 9 w' w.heap.size (fun _ => True) v0_ r1 ∧ Kd.R k65 65 w' w.heap.size (fun _ => True) v1_ r2 ∧ Below w.heap.size w w' := by
 have hu30 := Try.underlying30
 have HR0 := aM hr0
 have HC0 := aM hc0
 clear hr0 hc0
 have HB := aM (Below.refl w.heap.size w)
 unfold spec_DrawRecover.f at h
 have H := h
 clear h
 replace H := Option.bind_eq_some_iff.mp H
 obtain ⟨⟨t719, t720, t721⟩, A20, H⟩ := H
 try dsimp only at H
 have A2 := aM A20
 clear A20
 replace H := Option.bind_eq_some_iff.mp H
 obtain ⟨⟨t723, t726, t729, t730, t731⟩, A30, H⟩ := H
 try dsimp only at H
 have A3 := aM A30
 clear A30
 replace H := Option.bind_eq_some_iff.mp H
 obtain ⟨⟨t733, t734, t735⟩, A40, H⟩ := H
 try dsimp only at H
 have A4 := aM A40
 clear A40
 have HC5 := aM H
 clear H
 go_enter Try.func51, Try.ntmps51
 go_upto_block 0 with (first | ((with_reducible refine gate_dst (N := 2) rfl ?_); refine bE 2 #[.slice none 0 0, .slice none 0 0] 30 ?_; intro gb718 hg w6 hbox hb; have n_ := aI (sB HB hb) (aI (aM hbox) (aI (gE HB hg) (gE HB hg))); clear HB; obtain ⟨HB, BK718, GW718, GE718⟩ := n_; (try clear hb hbox hg)) | ((with_reducible refine gate_callee (f := 88) rfl ?_); refine gL (some 8) Try.func88 #[.slice A0 l0.length c0] ?_; (with_reducible refine (spec_l1New.calls k _ _ l0 t719 t720 t721 w _ ?side1 ?side2 ?side3 A2.out).mono ?_); (case side1 => exact bB); (case side2 => exact HR0.out); (case side3 => exact HC0.out); rintro e w7 ⟨g722, rfl, hi, hb, hb2⟩; refine ⟨_, rfl, ?_⟩; have n_ := aI (aM (blk_below (g := gb718) (o := .cells #[.slice none 0 0, .slice none 0 0] 30 (0, 0)) (kP BK718) hb2)) (aI (aM (hb)) (aI (aM (hi)) (aI (aM (IsS123.ne_blk hi (blk_below (g := gb718) (o := .cells #[.slice none 0 0, .slice none 0 0] 30 (0, 0)) (kP BK718) hb2) (by decide))) (aM (Ne.symm (IsS123.ne_blk hi (blk_below (g := gb718) (o := .cells #[.slice none 0 0, .slice none 0 0] 30 (0, 0)) (kP BK718) hb2) (by decide))))))); clear BK718 HB; obtain ⟨BK718, HB, HI722, NB722_718, NB718_722⟩ := n_; (try clear hb hb2 hi)) | ((with_reducible refine gate_callee (f := 97) rfl ?_); refine gL (some 11) Try.func97 #[.pointer (some ⟨g722, 0, none⟩)] ?_; (with_reducible refine (spec_l4Disk.calls k g722 t719 t720 t721 t723 t726 t729 t730 t731 w _ ?side1 ?side2 A3.out).mono ?_); (case side1 => exact IsS123.iI HI722); (case side2 => exact bB); rintro e w8 ⟨v724, v727, rfl, ho0, ho1, hi, hb, hk⟩; refine ⟨_, rfl, ?_⟩; have n_ := aI (aM (KeepBut.blk hk (g' := gb718) (o := .cells #[.slice none 0 0, .slice none 0 0] 30 (0, 0)) (kP BK718) NB718_722.out (by simp))) (aI (lR HB ho0) (aI (lR HB ho1) (aI (aM (hb)) (aM (hi))))); clear BK718 HB HI722; obtain ⟨BK718, HO725, HO728, HB, HI722⟩ := n_; (try clear hb hk hi ho0 ho1)) | ((with_reducible refine gate_dst (N := 5) rfl ?_); refine bE 5 #[.slice none 0 0, .slice none 0 0] 30 ?_; intro gb732 hg w9 hbox hb; have n_ := aI (rB HO725 hb) (aI (rB HO728 hb) (aI (kB BK718 hb) (aI (aM (IsS123.below (IsS123.iI HI722) hb)) (aI (sB HB hb) (aI (aM hbox) (aI (gE HB hg) (aI (gE HB hg) (aI (nL BK718 hg) (aI (nG BK718 hg) (aI (aM ((by rw [hg]; exact Nat.ne_of_lt (IsS123.lt (show IsS123 w _ g722 t719 t730 t731 from IsS123.iI HI722)) : g722 ≠ gb732))) (aM ((by rw [hg]; exact Nat.ne_of_gt (IsS123.lt (show IsS123 w _ g722 t719 t730 t731 from IsS123.iI HI722)) : gb732 ≠ g722))))))))))))); clear HO725 HO728 BK718 HI722 HB; obtain ⟨HO725, HO728, BK718, HI722, HB, BK732, GW732, GE732, NB718_732, NB732_718, NB722_732, NB732_722⟩ := n_; (try clear hb hbox hg); obtain ⟨Ao10, co10, eo10⟩ := Kd.R_slice HO725.out; subst eo10; have hnb11 := NB732_718.out; have hnc11 := NB718_732.out; have hnb12 := NB732_722.out; have hnc12 := NB722_732.out; have hcz13_0 := cZ0 BK732; have hcz13_1 := cZ1 BK732; have hfz13_0 := fZ BK732 0; have hfz13_1 := fZ BK732 1; obtain ⟨Ao14, co14, eo14⟩ := Kd.R_slice HO728.out; subst eo14) | ((with_reducible refine gate_callee (f := 95) rfl ?_); refine gL (some 15) Try.func95 #[.pointer (some ⟨g722, 0, none⟩), .int .i64 10] ?_; (with_reducible refine (spec_l1Below.calls g722 t719 t730 t731 10 t733 t734 t735 w _ ?side1 ?side2 A4.out).mono ?_); (case side1 => exact IsS123.iI HI722); (case side2 => exact bB); rintro e w15 ⟨rfl, hi, hb, hk⟩; refine ⟨_, rfl, ?_⟩; have n_ := aI (aM (KeepBut.blk hk (g' := gb718) (o := .cells #[.slice none 0 0, .slice none 0 0] 30 (0, 0)) (kP BK718) NB718_722.out (by simp))) (aI (aM (Kd.R_mono (Kd.R_keep (IsS123.apart (show IsS123 w _ g722 t719 t730 t731 from IsS123.iI HI722) (rP (Kd.R_mono (Kd.R_far (p := ⟨gb732, 1, none⟩) (Kd.R_far (p := ⟨gb732, 0, none⟩) (Kd.R_types HO725.out BK732.out (by decide)) (fun _ hk => hk.2) (.slice Ao10 t723.length co10)) (fun _ hk => hk.2) (.slice Ao14 t726.length co14)) (fun _ h_ => h_.1))) (by decide)) hk (fun _ h => h.2)) (fun _ h => h.1))) (aI (aM (Kd.R_mono (Kd.R_keep (IsS123.apart (show IsS123 w _ g722 t719 t730 t731 from IsS123.iI HI722) (rP (Kd.R_mono (Kd.R_far (p := ⟨gb732, 1, none⟩) (Kd.R_far (p := ⟨gb732, 0, none⟩) (Kd.R_types HO728.out BK732.out (by decide)) (fun _ hk => hk.2) (.slice Ao10 t723.length co10)) (fun _ hk => hk.2) (.slice Ao14 t726.length co14)) (fun _ h_ => h_.1))) (by decide)) hk (fun _ h => h.2)) (fun _ h => h.1))) (aI (aM (KeepBut.blk hk (g' := gb732) (o := .cells #[.slice Ao10 t723.length co10, .slice Ao14 t726.length co14] 30 (0, 0)) (by (with_reducible repeat (first | apply bN | apply bD | apply bA)); refine blk_put (cs := #[.slice Ao10 t723.length co10, .slice none 0 0]) ?_ 1 _ rfl; (with_reducible repeat (first | apply bN | apply bD | apply bA)); refine blk_put (cs := #[.slice none 0 0, .slice none 0 0]) ?_ 0 _ rfl; (with_reducible repeat (first | apply bN | apply bD | apply bA)); exact BK732.out) NB732_722.out (by simp))) (aI (aM (hb)) (aM (hi)))))); clear BK718 HO725 HO728 BK732 HB HI722; obtain ⟨BK718, HO725, HO728, BK732, HB, HI722⟩ := n_; (try clear hb hk hi)))
 (try simp only [Act.put, List.setIfInBounds_toArray, List.set_cons_zero, List.set_cons_succ])
 go_cut [6] (fun v6 wc => ∃ (kq : Nat) (x6_4 : Int) (x733000_4 : List ByteArray) (x733001_4 : List (S65)) (u733000 : Value) (u733001 : Value), v6 = .int .i64 x6_4 ∧ Aside0 (spec_DrawRecover.j0 kq x6_4 x733000_4 x733001_4 = some (r1, r2, r3)) ∧ Aside0 (kq ≤ k) ∧ Aside0 (Kd.R Kd.string 9 wc w.heap.size (fun _ => True) u733000 x733000_4) ∧ Aside0 (Kd.R k65 65 wc w.heap.size (fun _ => True) u733001 x733001_4) ∧ Aside0 (wc.heap[gb718]? = some (.cells #[(.slice none 0 0), (.slice none 0 0)] 30 (0, 0))) ∧ Aside0 (wc.heap[gb732]? = some (.cells #[u733000, u733001] 30 (0, 0))) ∧ Aside0 (Below w.heap.size w wc))
 case first =>
  have H := HC5.out
  clear HC5
  by_cases c16 : t733 = 0
  ·rw [if_pos c16] at H
   have c16b0 : (t733 == 0) = true := beq_iff_eq.mpr c16
   have c16b1 : (t733 != 0) = false := bne_eq_false_iff_eq.mpr c16
   clear c16
   (first | rw [c16b0] | (simp only [i64_w, i32_w]; rw [c16b0]) | rw [c16b1] | rw [c16b2] | skip)
   have H' := aM H
   clear H
   go_wp2
   go_meet
   case rel => exact ⟨_, (wrap64 (t729 + 1)), (t723), (t726), (.slice Ao10 t723.length co10), (.slice Ao14 t726.length co14), (by first | rfl | (simp; done) | (simp [*]; done) | (simp; exact (by intro l_; cases l_ <;> rfl : ∀ l_ : List UInt8, l_.isEmpty = !(l_ != [])) _)), H', ⟨by first | omega | exact Nat.le_refl _⟩, ⟨rP HO725.out⟩, ⟨rP HO728.out⟩, ⟨kP BK718⟩, ⟨kP BK732⟩, ⟨bB⟩⟩
  rw [if_neg c16] at H
  have c16b0 : (t733 == 0) = false := beq_eq_false_iff_ne.mpr c16
  have c16b1 : (t733 != 0) = true := bne_iff_ne.mpr c16
  (first | rw [c16b0] | (simp only [i64_w, i32_w]; rw [c16b0]) | rw [c16b1] | rw [c16b2] | skip)
  by_cases c17 : t733 = 1
  ·rw [if_pos c17] at H
   have c17b0 : (t733 == 1) = true := beq_iff_eq.mpr c17
   have c17b1 : (t733 != 1) = false := bne_eq_false_iff_eq.mpr c17
   clear c17
   replace H := Option.bind_eq_some_iff.mp H
   obtain ⟨⟨t736, t739, t742, t743⟩, A180, H⟩ := H
   try dsimp only at H
   have A18 := aM A180
   clear A180
   have H' := aM H
   clear H
   go_wp2_with (first | ((with_reducible refine gate_callee (f := 89) rfl ?_); refine gL (some 23) Try.func89 #[.pointer (some ⟨g722, 0, none⟩)] ?_; (with_reducible refine (spec_l3Draw.calls k g722 t719 t734 t735 t736 t739 t742 t743 w _ ?side1 ?side2 A18.out).mono ?_); (case side1 => exact IsS123.iI HI722); (case side2 => exact bB); rintro e w19 ⟨v737, v740, rfl, ho0, ho1, hi, hb, hk⟩; refine ⟨_, rfl, ?_⟩; have n_ := aI (aM (KeepBut.blk hk (g' := gb718) (o := .cells #[.slice none 0 0, .slice none 0 0] 30 (0, 0)) (kP BK718) NB718_722.out (by simp))) (aI (aM (Kd.R_mono (Kd.R_told (Kd.R_oldK (IsS123.apart (show IsS123 w _ g722 t719 t734 t735 from IsS123.iI HI722) (rP HO725.out) (by decide)) hk) (Kd.R_base ho0)) (fun _ h_ => h_.1))) (aI (aM (Kd.R_mono (Kd.R_told (Kd.R_oldK (IsS123.apart (show IsS123 w _ g722 t719 t734 t735 from IsS123.iI HI722) (rP HO728.out) (by decide)) hk) (Kd.R_base ho1)) (fun _ h_ => h_.1))) (aI (aM (KeepBut.blk hk (g' := gb732) (o := .cells #[.slice Ao10 t723.length co10, .slice Ao14 t726.length co14] 30 (0, 0)) (kP BK732) NB732_722.out (by simp))) (aI (aM (Kd.R_lower (Kd.R_new' ho0 (rL HO725)) (zB HB))) (aI (aM (Kd.R_lower (Kd.R_new' ho1 (rL HO728)) (zB HB))) (aI (aM (hb)) (aM (hi)))))))); clear BK718 HO725 HO728 BK732 HB HI722; obtain ⟨BK718, HO725, HO728, BK732, HO738, HO741, HB, HI722⟩ := n_; (try clear hb hk hi ho0 ho1); obtain ⟨Ao20, co20, eo20⟩ := Kd.R_slice HO738.out; subst eo20; have hnb21 := NB732_718.out; have hnc21 := NB718_732.out; have hnb22 := NB732_722.out; have hnc22 := NB722_732.out; have hcz23_0 := cZ0 BK732; have hcz23_1 := cZ1 BK732; have hfz23_0 := fZ BK732 0; have hfz23_1 := fZ BK732 1; obtain ⟨Ao24, co24, eo24⟩ := Kd.R_slice HO741.out; subst eo24))
   go_meet
   case rel => exact ⟨_, (t729), (t736), (t739), (.slice Ao20 t736.length co20), (.slice Ao24 t739.length co24), (by first | rfl | (simp; done) | (simp [*]; done) | (simp; exact (by intro l_; cases l_ <;> rfl : ∀ l_ : List UInt8, l_.isEmpty = !(l_ != [])) _)), H', ⟨by first | omega | exact Nat.le_refl _⟩, ⟨rP (Kd.R_mono (Kd.R_far (p := ⟨gb732, 1, none⟩) (Kd.R_far (p := ⟨gb732, 0, none⟩) (Kd.R_types HO738.out BK732.out (by decide)) (fun _ hk => hk.2) (.slice Ao20 t736.length co20)) (fun _ hk => hk.2) (.slice Ao24 t739.length co24)) (fun _ hk => trivial))⟩, ⟨rP (Kd.R_mono (Kd.R_far (p := ⟨gb732, 1, none⟩) (Kd.R_far (p := ⟨gb732, 0, none⟩) (Kd.R_types HO741.out BK732.out (by decide)) (fun _ hk => hk.2) (.slice Ao20 t736.length co20)) (fun _ hk => hk.2) (.slice Ao24 t739.length co24)) (fun _ hk => trivial))⟩, ⟨kP BK718⟩, ⟨by (with_reducible repeat (first | apply bN | apply bD | apply bA)); refine blk_put (cs := #[.slice Ao20 t736.length co20, .slice Ao14 t726.length co14]) ?_ 1 _ rfl; (with_reducible repeat (first | apply bN | apply bD | apply bA)); refine blk_put (cs := #[.slice Ao10 t723.length co10, .slice Ao14 t726.length co14]) ?_ 0 _ rfl; (with_reducible repeat (first | apply bN | apply bD | apply bA)); exact BK732.out⟩, ⟨bB⟩⟩
  rw [if_neg c17] at H
  have c17b0 : (t733 == 1) = false := beq_eq_false_iff_ne.mpr c17
  have c17b1 : (t733 != 1) = true := bne_iff_ne.mpr c17
  by_cases c25 : t733 = 2
  ·rw [if_pos c25] at H
   have c25b0 : (t733 == 2) = true := beq_iff_eq.mpr c25
   have c25b1 : (t733 != 2) = false := bne_eq_false_iff_eq.mpr c25
   clear c25
   by_cases c26 : 1 < (t723.length : Int)
   ·rw [if_pos c26] at H
    have c26b0 : decide (1 < (t723.length : Int)) = true := decide_eq_true c26
    have c26b1 : decide (1 < t723.length) = true := decide_eq_true (by omega)
    clear c26
    by_cases c27 : (rdOf ByteArray.empty t723 1).size + 1 ≤ 9223372036854775807
    ·rw [if_pos c27] at H
     have c27b0 := eq_true c27
     have c27b1 : decide ((rdOf ByteArray.empty t723 1).size + 1 ≤ 9223372036854775807) = true := decide_eq_true c27
     try have c27b2 : (9223372036854775807 < (rdOf ByteArray.empty t723 1).size + 1) = False := eq_false (Nat.not_lt.2 c27)
     obtain ⟨y745, hy745⟩ : ∃ y_ : List ByteArray, y_ = (t723.set (1 : Int).toNat ((rdOf ByteArray.empty t723 1) ++ (⟨#[120]⟩ : ByteArray))) := ⟨_, rfl⟩
     replace H : (spec_DrawRecover.j0 k t729 y745 t726) = some (r1, r2, r3) := bQ hy745 H
     have Ny745 := aM hy745
     clear hy745
     have H' := aM H
     clear H
     try go_wp2
     have n_ := aI (aM (Kd.R_drew HO725.out)) (aI (aM (Kd.R_drew HO728.out)) (aI (aM (blk_drew BK718.out)) (aI (aM (blk_drew BK732.out)) (aI (aM (IsS123.drew HI722.out)) (aM (below_drew1 HB.out))))))
     clear HO725 HO728 BK718 BK732 HI722 HB
     obtain ⟨HO725, HO728, BK718, BK732, HI722, HB⟩ := n_
     have p744 : 0 ≤ (1 : Int) := (by omega)
     have q744 : 1 < (t723.length : Int) := dT
     obtain ⟨ad744, e744, hx744_0⟩ := Kd.at_string (Kd.R_reads' HO725.out).2.2 1 p744 q744
     cases e744
     (try simp only [show (1 : Int).toNat = 1 from rfl, Nat.reduceMul, Nat.reduceEqDiff, Go.Addr.add, ↓reduceIte] at hx744_0)
     have qi744 : (1 < t723.length) = True := eq_true (by omega)
     (try rw [show ((1 : Int)).toNat = 1 from rfl] at hx744_0)
     replace p744 := eq_true p744
     replace q744 := eq_true q744
     have p28 : 0 ≤ (1 : Int) := (by omega)
     have q28 : (1 : Int) < ((t723.length : Int) : Int) := dT
     have qi28 : (1 < t723.length) = True := eq_true (by omega)
     obtain ⟨go28, co28, eo28, gb28, gl28, cl28, HG28⟩ := Kd.R_form HO725.out (by omega)
     (first | cases eo28 | (injection eo28 with ea_ en_ ec_; (first | subst ea_ | (injection ea_ with ea_; subst ea_)); subst ec_; clear en_))
     have GB28 := aM gb28
     have GG28 := aM HG28
     clear gb28 gl28 HG28
     (first | simp only [add_plain] at hx744_0 | skip)
     obtain ⟨hx28_0, hf28_0⟩ := Kd.R_celln (⟨#[]⟩ : ByteArray) HO725.out (1 : Int) p28 q28
     (try rw [show ((1 : Int)).toNat = 1 from rfl] at hx28_0)
     (try simp only [Nat.reduceMul, Nat.zero_mul, Nat.zero_add, Nat.reduceAdd] at hx28_0)
     (try rw [show ((1 : Int)).toNat = 1 from rfl] at hf28_0)
     (try simp only [Nat.reduceMul, Nat.zero_mul, Nat.zero_add, Nat.reduceAdd] at hf28_0)
     replace p28 := eq_true p28
     replace q28 := eq_true q28
     have HN722_go28 := aM (show g722 ≠ go28 from by have h_ := IsS123.own_ne HI722.out HO725.out (by decide); intro e_; exact h_ (by rw [e_]; rfl))
     have HP30 := Kd.R_putn HO725.out (1 : Int) ((rdOf ByteArray.empty t723 1) ++ (⟨#[120]⟩ : ByteArray))
     rw [← Ny745.out] at HP30
     have HQ30 := aM HP30
     clear HP30
     refine start_ (n := 9) (S := fun w' => w'.cell? ⟨gb732, 0, none⟩ = some (.slice (some ⟨go28, 0, none⟩) t723.length co10) ∧ w'.cell? ⟨gb732, 1, none⟩ = some (.slice Ao14 t726.length co14) ∧ w'.cell? ⟨go28, 1, none⟩ = some (.string (rdOf ByteArray.empty t723 1))) (ds := [8]) #[tF, tF, tF, tF, tF, tF, tF, tF, tF] (by kernel_rfl) rfl rfl ⟨(blk_cell BK732.out 0).trans rfl, (blk_cell BK732.out 1).trans rfl, hx744_0⟩ (fun hHeld => ?_); refine with_tabW spec_DrawRecover.tab9 spec_DrawRecover.bits9 (fun HT_ HW_ => ?_)
     generalize w15.drew = w29 at HO725 HO728 BK718 BK732 HI722 HB GG28 HQ30 hf28_0 hx28_0 hx744_0 hHeld ⊢
     refine pY 0 26 #[tT, tF, tF, tF, tF, tF, tF, tF, tF] ?_
     refine pY 2 28 #[tT, tF, tT, tF, tF, tF, tF, tF, tF] ?_
     refine take_ (i := 1) (N := some 27) (v := ?_) (a' := ?_) #[tT, tT, tT, tF, tF, tF, tF, tF, tF] rfl rfl (take_ofW HT_.out HW_.out (by kernel_rfl)) (fun _ _ _ h => h) (Or.inl ⟨by rfl, ?_⟩) hHeld ?_ ?_
     rotate_left
     ·rintro w' ⟨s0, s1, s2⟩
      go_simp
      with_reducible rfl
     rotate_left
     ·simp only [Act.put, List.setIfInBounds_toArray, List.set_cons_zero, List.set_cons_succ, i64_w, i32_w]
      rfl
     refine take_ (i := 3) (N := some 29) (v := ?_) (a' := ?_) #[tT, tT, tT, tT, tF, tF, tF, tF, tF] rfl rfl (take_ofW HT_.out HW_.out (by kernel_rfl)) (fun _ _ _ h => h) (Or.inl ⟨by rfl, ?_⟩) hHeld ?_ ?_
     rotate_left
     ·rintro w' ⟨s0, s1, s2⟩
      go_simp
      with_reducible rfl
     rotate_left
     ·simp only [Act.put, List.setIfInBounds_toArray, List.set_cons_zero, List.set_cons_succ, i64_w, i32_w]
      rfl
     refine pY 4 30 #[tT, tT, tT, tT, tT, tF, tF, tF, tF] ?_
     refine take_ (i := 5) (N := some 31) (v := ?_) (a' := ?_) #[tT, tT, tT, tT, tT, tT, tF, tF, tF] rfl rfl (take_ofW HT_.out HW_.out (by kernel_rfl)) (fun _ _ _ h => h) (Or.inl ⟨by rfl, ?_⟩) hHeld ?_ ?_
     rotate_left
     ·rintro w' ⟨s0, s1, s2⟩
      go_simp
      with_reducible rfl
     rotate_left
     ·simp only [Act.put, List.setIfInBounds_toArray, List.set_cons_zero, List.set_cons_succ, i64_w, i32_w]
      rfl
     refine pY 6 32 #[tT, tT, tT, tT, tT, tT, tT, tF, tF] ?_
     refine pY 7 33 #[tT, tT, tT, tT, tT, tT, tT, tT, tF] ?_
     refine last_ (i := 8) (N := none) #[tT, tT, tT, tT, tT, tT, tT, tT, tT] rfl rfl (one_of HT_.out (by kernel_rfl)) (by decide) (fun K hK => ?_)
     refine skip_ (w1 := ?_) (by rfl) rfl ?_ ?_
     rotate_left
     ·go_simp
      rfl
     refine hK.out _ _ ?_
     clear hK K
     refine done_ (done_of HT_.out (by kernel_rfl)) ?_
     try go_wp2
     go_meet
     case rel => exact ⟨_, (t729), (y745), (t726), (.slice (some ⟨go28, 0, none⟩) t723.length co10), (.slice Ao14 t726.length co14), (by first | rfl | (simp; done) | (simp [*]; done) | (simp; exact (by intro l_; cases l_ <;> rfl : ∀ l_ : List UInt8, l_.isEmpty = !(l_ != [])) _)), H', ⟨by first | omega | exact Nat.le_refl _⟩, ⟨rP HQ30.out⟩, ⟨rP (Kd.R_mono (Kd.R_far (p := ⟨go28, 1, none⟩) (Kd.R_types HO728.out GG28.out (by decide)) (fun _ hk => hk.2) (.string ((rdOf ByteArray.empty t723 1) ++ (⟨#[120]⟩ : ByteArray)))) (fun _ hk => trivial))⟩, ⟨by (with_reducible repeat (first | apply bN | apply bD | apply bA)); refine blk_far ?_ (by have h_ := Kd.R_ne HO725.out BK718.out (by decide); intro e_; exact h_ (by rw [e_]; rfl)) _; (with_reducible repeat (first | apply bN | apply bD | apply bA)); exact BK718.out⟩, ⟨by (with_reducible repeat (first | apply bN | apply bD | apply bA)); refine blk_far ?_ (by have h_ := Kd.R_ne HO725.out BK732.out (by decide); intro e_; exact h_ (by rw [e_]; rfl)) _; (with_reducible repeat (first | apply bN | apply bD | apply bA)); exact BK732.out⟩, ⟨bB⟩⟩
    rw [if_neg c27] at H
    exact absurd H (by simp)
   rw [if_neg c26] at H
   exact absurd H (by simp)
  rw [if_neg c25] at H
  have c25b0 : (t733 == 2) = false := beq_eq_false_iff_ne.mpr c25
  have c25b1 : (t733 != 2) = true := bne_iff_ne.mpr c25
  by_cases c31 : t733 = 3
  ·rw [if_pos c31] at H
   have c31b0 : (t733 == 3) = true := beq_iff_eq.mpr c31
   have c31b1 : (t733 != 3) = false := bne_eq_false_iff_eq.mpr c31
   clear c31
   obtain ⟨y746, hy746⟩ : ∃ y_ : List Int, y_ = (([0, (-1), 49, 9223372036854775807] : List Int)) := ⟨_, rfl⟩
   replace H : ((spec_l1PickInt.f t719 t734 t735 y746).bind fun bt749 => (spec_DrawRecover.j0 k bt749.1 t723 t726)) = some (r1, r2, r3) := bQ hy746 H
   have Ny746 := aM hy746
   clear hy746
   replace H := Option.bind_eq_some_iff.mp H
   obtain ⟨⟨t749, t750, t751⟩, A320, H⟩ := H
   try dsimp only at H
   have A32 := aM A320
   clear A320
   have H' := aM H
   clear H
   go_wp2_with (first | ((with_reducible refine gate_dst (N := 37) rfl ?_); refine Kd.R_lit (Kd.int .i64) _ 3 ?hg (N := 37) ?hd (xs := ([0, (-1), 49, 9223372036854775807] : List Int)) (inner := [.int .i64 0, .int .i64 (-1), .int .i64 49, .int .i64 9223372036854775807]) (ok := fun _ => True) (okp := fun _ => True) ?hr ?hp (fun _ hk => hk) trivial (Below.refl _ _) (Nat.le_refl _) (by simp) ?_; (case hd => rfl); (case hg => rfl); (case hr => first | (go_simp; done) | (go_simp; rfl)); (case hp => exact (Reps.one (show Kd.M (Kd.int .i64) _ _ _ 0 [.int .i64 0] from rfl) (Reps.one (show Kd.M (Kd.int .i64) _ _ _ (-1) [.int .i64 (-1)] from rfl) (Reps.one (show Kd.M (Kd.int .i64) _ _ _ 49 [.int .i64 49] from rfl) (Reps.one (show Kd.M (Kd.int .i64) _ _ _ 9223372036854775807 [.int .i64 9223372036854775807] from rfl) (Reps.none _ _)))))); intro v747 w33 ho34 hb hg_ hnew_; clear hg_ hnew_; (first | rw [← Ny746.out] at ho34 | (simp only [Int.reduceToNat] at ho34; rw [← Ny746.out] at ho34)); have n_ := aI (rB HO725 hb) (aI (rB HO728 hb) (aI (lR HB ho34) (aI (kB BK718 hb) (aI (aM (IsS123.below (IsS123.iI HI722) hb)) (aI (kB BK732 hb) (sB HB hb)))))); clear HO725 HO728 BK718 HI722 BK732 HB; obtain ⟨HO725, HO728, HO748, BK718, HI722, BK732, HB⟩ := n_; (try clear hb ho34); obtain ⟨Ao35, co35, eo35⟩ := Kd.R_slice HO748.out; subst eo35) | ((with_reducible refine gate_callee (f := 98) rfl ?_); refine gL (some 38) Try.func98 #[.pointer (some ⟨g722, 0, none⟩), .slice Ao35 y746.length co35] ?_; (with_reducible refine (spec_l1PickInt.calls g722 t719 t734 t735 _ _ y746 t749 t750 t751 w _ ?side1 ?side2 ?side3 ?side4 ?side5 A32.out).mono ?_); (case side1 => exact IsS123.iI HI722); (case side2 => exact bB); (case side3 => exact cR HO748); (case side4 => exact (Kd.R_reads' HO748.out).2.1); (case side5 => exact far_slice (IsS123.own_ne HI722.out HO748.out (by decide))); rintro e w36 ⟨rfl, hi, hb, hk⟩; refine ⟨_, rfl, ?_⟩; have n_ := aI (aM (KeepBut.blk hk (g' := gb718) (o := .cells #[.slice none 0 0, .slice none 0 0] 30 (0, 0)) (kP BK718) NB718_722.out (by simp))) (aI (aM (Kd.R_mono (Kd.R_keep (IsS123.apart (show IsS123 w _ g722 t719 t734 t735 from IsS123.iI HI722) (rP HO725.out) (by decide)) hk (fun _ h => h.2)) (fun _ h => h.1))) (aI (aM (Kd.R_mono (Kd.R_keep (IsS123.apart (show IsS123 w _ g722 t719 t734 t735 from IsS123.iI HI722) (rP HO728.out) (by decide)) hk (fun _ h => h.2)) (fun _ h => h.1))) (aI (aM (KeepBut.blk hk (g' := gb732) (o := .cells #[.slice Ao10 t723.length co10, .slice Ao14 t726.length co14] 30 (0, 0)) (kP BK732) NB732_722.out (by simp))) (aI (aM (Kd.R_mono (Kd.R_keep (IsS123.apart (show IsS123 w _ g722 t719 t734 t735 from IsS123.iI HI722) (rP HO748.out) (by decide)) hk (fun _ h => h.2)) (fun _ h => h.1))) (aI (aM (hb)) (aM (hi))))))); clear BK718 HO725 HO728 BK732 HO748 HB HI722; obtain ⟨BK718, HO725, HO728, BK732, HO748, HB, HI722⟩ := n_; (try clear hb hk hi)))
   go_meet
   case rel => exact ⟨_, (t749), (t723), (t726), (.slice Ao10 t723.length co10), (.slice Ao14 t726.length co14), (by first | rfl | (simp; done) | (simp [*]; done) | (simp; exact (by intro l_; cases l_ <;> rfl : ∀ l_ : List UInt8, l_.isEmpty = !(l_ != [])) _)), H', ⟨by first | omega | exact Nat.le_refl _⟩, ⟨rP HO725.out⟩, ⟨rP HO728.out⟩, ⟨kP BK718⟩, ⟨kP BK732⟩, ⟨bB⟩⟩
  rw [if_neg c31] at H
  have c31b0 : (t733 == 3) = false := beq_eq_false_iff_ne.mpr c31
  have c31b1 : (t733 != 3) = true := bne_iff_ne.mpr c31
  have H' := aM H
  clear H
  go_wp2
  go_meet
  case rel => exact ⟨_, (t729), (t723), (t726), (.slice Ao10 t723.length co10), (.slice Ao14 t726.length co14), (by first | rfl | (simp; done) | (simp [*]; done) | (simp; exact (by intro l_; cases l_ <;> rfl : ∀ l_ : List UInt8, l_.isEmpty = !(l_ != [])) _)), H', ⟨by first | omega | exact Nat.le_refl _⟩, ⟨rP HO725.out⟩, ⟨rP HO728.out⟩, ⟨kP BK718⟩, ⟨kP BK732⟩, ⟨bB⟩⟩
 case rest =>
  clear HC5
  try clear c1
  try clear c2
  try clear p2
  try clear q2
  try clear hx2
  try clear qi2
  try clear hf2
  try clear c3
  try clear c5
  try clear p6
  try clear p7
  try clear q7
  try clear hx7
  try clear qi7
  try clear c8
  try clear c9
  try clear c11
  try clear c12
  try clear c16
  try clear c16b0
  try clear c16b1
  try clear c16b2
  try clear c17
  try clear c17b0
  try clear c17b1
  try clear c21
  try clear c22
  try clear c25
  try clear c25b0
  try clear c25b1
  try clear c26
  try clear c26b0
  try clear c26b1
  try clear c27
  try clear c27b0
  try clear c27b1
  try clear c27b2
  try clear p28
  try clear q28
  try clear hx28
  try clear qi28
  try clear hf28
  try clear c31
  try clear c31b0
  try clear c31b1
  try clear hcz13_0
  try clear hcz13_1
  try clear hcz23_0
  try clear hcz23_1
  try clear hfz13_0
  try clear hfz13_1
  try clear hfz23_0
  try clear hfz23_1
  try clear hx28_0
  try clear hx744_0
  try clear p28
  try clear p744
  try clear q28
  try clear q744
  obtain ⟨kq, x6_4, x733000_4, x733001_4, u733000, u733001, rfl, HA, HJ4, HO_733000, HO_733001, BK718, BK732, HB⟩ := hcut
  cases kq with
  | zero => exact absurd HA.out (by simp [spec_DrawRecover.j0])
  | succ kj4 =>
   have H := HA.out
   clear HA
   simp only [spec_DrawRecover.j0] at H
   simp only [Option.some.injEq, Prod.mk.injEq] at H
   obtain ⟨rfl, rfl, rfl⟩ := H
   have hnb37 := NB732_718.out
   have hnc37 := NB718_732.out
   have hcz38_0 := cZ0 BK732
   have hcz38_1 := cZ1 BK732
   have hfz38_0 := fZ BK732 0
   have hfz38_1 := fZ BK732 1
   obtain ⟨Ao39, co39, eo39⟩ := Kd.R_slice HO_733000.out
   subst eo39
   have hcz40_0 := cZ0 BK718
   have hcz40_1 := cZ1 BK718
   have hfz40_0 := fZ BK718 0
   have hfz40_1 := fZ BK718 1
   obtain ⟨Ao41, co41, eo41⟩ := Kd.R_slice HO_733001.out
   subst eo41
   go_wp2
   refine bodyPost_ret (results_ct rfl _ _ gb718 30 #[.slice Ao39 x733000_4.length co39, .slice Ao41 x733001_4.length co41] (0, 0) _ rfl (by (with_reducible repeat (first | apply bN | apply bD | apply bA)); refine blk_put (cs := #[.slice Ao39 x733000_4.length co39, .slice none 0 0]) ?_ 1 _ rfl; (with_reducible repeat (first | apply bN | apply bD | apply bA)); refine blk_put (cs := #[.slice none 0 0, .slice none 0 0]) ?_ 0 _ rfl; (with_reducible repeat (first | apply bN | apply bD | apply bA)); exact BK718.out) Try.underlying30 rfl (by kernel_rfl)) rfl ?_
   exact ⟨_, _, eW, by (with_reducible repeat (first | apply Kd.R_alloc | apply Kd.R_drewN | apply Kd.R_drew)); exact Kd.R_mono (Kd.R_far (p := ⟨gb718, 1, none⟩) (Kd.R_far (p := ⟨gb718, 0, none⟩) (Kd.R_types HO_733000.out BK718.out (by decide)) (fun _ hk => hk.2) (.slice Ao39 x733000_4.length co39)) (fun _ hk => hk.2) (.slice Ao41 x733001_4.length co41)) (fun _ hk => trivial), by (with_reducible repeat (first | apply Kd.R_alloc | apply Kd.R_drewN | apply Kd.R_drew)); exact Kd.R_mono (Kd.R_far (p := ⟨gb718, 1, none⟩) (Kd.R_far (p := ⟨gb718, 0, none⟩) (Kd.R_types HO_733001.out BK718.out (by decide)) (fun _ hk => hk.2) (.slice Ao39 x733000_4.length co39)) (fun _ hk => hk.2) (.slice Ao41 x733001_4.length co41)) (fun _ hk => trivial), bB⟩

end Go.Proofs.Ytgmpdkefegofhaa.PFnRecovered
