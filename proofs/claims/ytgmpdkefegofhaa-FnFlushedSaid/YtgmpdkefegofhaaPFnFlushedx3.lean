-- Written by xprint.py, a program of this session over the kit's print. Not trusted: Lean checks it.
import Derived.Test.YtgmpdkefegofhaaPFnFlushedx0
import Derived.Test.YtgmpdkefegofhaaPFnFlushedx2
namespace Go.Proofs.Ytgmpdkefegofhaa.PFnFlushed
open Go.RowKit Go.Proofs.YtgmpdkefegofhaaW.PrintWords Go.Proofs.YtgmpdkefegofhaaW.PrintLast Go.Proofs.YtgmpdkefegofhaaW.PrintMore
attribute [local go_sem] max2_int min2_int max_two min_two max_three min_three max_four min_four   -- for this text's walks alone
set_option linter.unusedVariables false
set_option linter.unusedSimpArgs false

/-! ### spec_DiskOk: function 16 -/
mutual
def spec_DiskOk.j0 : Nat → Bool → List ByteArray → List (S65) → Option (Bool)
 | 0, _, _, _ => none
 | k + 1, x13, x112000, x112001 => if x13 = true then (some false) else (spec_DiskOk.l0 k 0 x112000 x112001)
def spec_DiskOk.l0 : Nat → Int → List ByteArray → List (S65) → Option (Bool)
 | 0, _, _, _ => none
 | k + 1, x3, x112000, x112001 => if x3 < (x112000.length : Int) then (if 0 ≤ x3 then (if ((rdOf ByteArray.empty x112000 x3).size : Int) > 90 then (some false) else (spec_DiskOk.l0 k (wrap64 (x3 + 1)) x112000 x112001)) else (none)) else ((spec_l3PutsOk.f k x112001 (x112000.length : Int)).bind fun t113 => (some t113))
end
def spec_DiskOk.f (k : Nat) (l0_0 : List ByteArray) (l0_1 : List (S65)) : Option (Bool) := if (l0_0.length : Int) > 120 then (spec_DiskOk.j0 k true l0_0 l0_1) else (spec_DiskOk.j0 k (decide ((l0_1.length : Int) > 400)) l0_0 l0_1)
theorem spec_DiskOk.mono_l : ∀ k, (∀ y0 y1 y2, LeO (spec_DiskOk.j0 k y0 y1 y2) (spec_DiskOk.j0 (k + 1) y0 y1 y2)) ∧ (∀ y0 y1 y2, LeO (spec_DiskOk.l0 k y0 y1 y2) (spec_DiskOk.l0 (k + 1) y0 y1 y2))
 | 0 => ⟨fun _ _ _ r h => by simp [spec_DiskOk.j0] at h, fun _ _ _ r h => by simp [spec_DiskOk.l0] at h⟩
 | k + 1 => by
  obtain ⟨ih0, ih1⟩ := spec_DiskOk.mono_l k
  refine ⟨?_, ?_⟩
  ·intro y0 y1 y2
   unfold spec_DiskOk.j0
   have m0_ := @spec_l3PutsOk.mono
   exact mM
  ·intro y0 y1 y2
   unfold spec_DiskOk.l0
   have m0_ := @spec_l3PutsOk.mono
   exact mM
theorem spec_DiskOk.mono : ∀ a0 a1 k, LeO (spec_DiskOk.f k a0 a1) (spec_DiskOk.f (k + 1) a0 a1) := by
 intro a0 a1 k
 obtain ⟨ih0, ih1⟩ := spec_DiskOk.mono_l k
 unfold spec_DiskOk.f
 have m0_ := @spec_l3PutsOk.mono
 exact mM
set_option maxHeartbeats 8000000 in
set_option maxRecDepth 100000 in
theorem spec_DiskOk.calls (k : Nat) (A0_0 : Option Addr) (c0_0 : Nat) (l0_0 : List ByteArray) (A0_1 : Option Addr) (c0_1 : Nat) (l0_1 : List (S65)) (r : Bool) (w : World) (hr0_0 : Kd.C Kd.string w A0_0 l0_0.length l0_0) (hc0_0 : l0_0.length ≤ c0_0) (hr0_1 : Kd.C k65 w A0_1 l0_1.length l0_1) (hc0_1 : l0_1.length ≤ c0_1) (h : spec_DiskOk.f k l0_0 l0_1 = some r) :
  Calls Try.prog 16 #[.agg #[.slice A0_0 l0_0.length c0_0, .slice A0_1 l0_1.length c0_1]] w fun e w' => e = .returned (.bool r) ∧ Below w.heap.size w w' := by
 have hu30 := Try.underlying30
 have HR0_0 := aM hr0_0
 have HC0_0 := aM hc0_0
 clear hr0_0 hc0_0
 have HR0_1 := aM hr0_1
 have HC0_1 := aM hc0_1
 clear hr0_1 hc0_1
 have HB := aM (Below.refl w.heap.size w)
 unfold spec_DiskOk.f at h
 have H := h
 clear h
 have HC2 := aM H
 clear H
 go_enter Try.func16, Try.ntmps16
 go_upto_region 1 with (first | ((with_reducible refine gate_dst (N := 1) rfl ?_); (try (refine gate_guard (by rfl) ?_; dsimp only)); refine box_event ?hg (N := 1) ?hd (cs := #[.slice A0_0 l0_0.length c0_0, .slice A0_1 l0_1.length c0_1]) (t := 30) ?hr ?_; (case hd => rfl); (case hg => rfl); (case hr => first | (go_simp; done) | (go_simp; rfl)); intro gb111 hg w3 hbox hb; have n_ := aI (sB HB hb) (aI (aM hbox) (aI (gE HB hg) (gE HB hg))); clear HB; obtain ⟨HB, BK111, GW111, GE111⟩ := n_; (try clear hb hbox hg)))
 (try simp only [Act.put, List.setIfInBounds_toArray, List.set_cons_zero, List.set_cons_succ])
 go_cut [13] (fun v13 wc => ∃ (kq : Nat) (x13_1 : Bool), v13 = .bool x13_1 ∧ Aside0 (spec_DiskOk.j0 kq x13_1 l0_0 l0_1 = some r) ∧ Aside0 (kq ≤ k) ∧ Aside0 (wc.heap[gb111]? = some (.cells #[(.slice A0_0 l0_0.length c0_0), (.slice A0_1 l0_1.length c0_1)] 30 (0, 0))) ∧ Aside0 (Below w.heap.size w wc))
 case first =>
  have H := HC2.out
  clear HC2
  by_cases c4 : (l0_0.length : Int) > 120
  ·rw [if_pos c4] at H
   have c4b0 : decide (120 < (l0_0.length : Int)) = true := decide_eq_true c4
   have c4b1 : decide (120 < l0_0.length) = true := decide_eq_true (by omega)
   clear c4
   (first | rw [c4b0] | (simp only [i64_w, i32_w]; rw [c4b0]) | rw [c4b1] | rw [c4b2] | skip)
   have H' := aM H
   clear H
   have hcz5_0 := cZ0 BK111
   have hcz5_1 := cZ1 BK111
   have hfz5_0 := blk_frozen BK111.out 0
   have hfz5_1 := blk_frozen BK111.out 1
   go_wp2
   go_meet
   case rel => exact ⟨_, (true), (by first | rfl | (simp; done) | (simp [*]; done) | (simp; exact (by intro l_; cases l_ <;> rfl : ∀ l_ : List UInt8, l_.isEmpty = !(l_ != [])) _)), H', ⟨by first | omega | exact Nat.le_refl _⟩, ⟨kP BK111⟩, ⟨bB⟩⟩
  rw [if_neg c4] at H
  have c4b0 : decide (120 < (l0_0.length : Int)) = false := decide_eq_false c4
  have c4b1 : decide (120 < l0_0.length) = false := decide_eq_false (by omega)
  clear c4
  (first | rw [c4b0] | (simp only [i64_w, i32_w]; rw [c4b0]) | rw [c4b1] | rw [c4b2] | skip)
  have H' := aM H
  clear H
  have hcz6_0 := cZ0 BK111
  have hcz6_1 := cZ1 BK111
  have hfz6_0 := blk_frozen BK111.out 0
  have hfz6_1 := blk_frozen BK111.out 1
  go_wp2
  go_meet
  case rel => exact ⟨_, (decide ((l0_1.length : Int) > 400)), (by first | rfl | (simp; done) | (simp [*]; done) | (simp; exact (by intro l_; cases l_ <;> rfl : ∀ l_ : List UInt8, l_.isEmpty = !(l_ != [])) _)), H', ⟨by first | omega | exact Nat.le_refl _⟩, ⟨kP BK111⟩, ⟨bB⟩⟩
 case rest =>
  clear HC2
  try clear c1
  try clear p2
  try clear c4
  try clear c4b0
  try clear c4b1
  try clear c4b2
  try clear hcz5_0
  try clear hcz5_1
  try clear hcz6_0
  try clear hcz6_1
  try clear hfz5_0
  try clear hfz5_1
  try clear hfz6_0
  try clear hfz6_1
  obtain ⟨kq, x13_1, rfl, HA, HJ1, BK111, HB⟩ := hcut
  cases kq with
  | zero => exact absurd HA.out (by simp [spec_DiskOk.j0])
  | succ kj1 =>
   have H := HA.out
   clear HA
   simp only [spec_DiskOk.j0] at H
   by_cases c7 : x13_1 = true
   ·subst c7
    rw [if_pos rfl] at H
    obtain rfl := Option.some.inj H
    go_wp2
    go_ret
    exact ⟨eW, bB⟩
   ·replace c7 := Bool.eq_false_iff.mpr c7
    subst c7
    rw [if_neg (show ¬ (false = true) by decide)] at H
    have H' := aM H
    clear H
    go_wp2
    go_loopg [3] kj1 (fun kq v3 w' => ∃ (x3_2 : Int), v3 = .int .i64 x3_2 ∧ Aside0 (spec_DiskOk.l0 kq x3_2 l0_0 l0_1 = some r) ∧ Aside0 (kq ≤ kj1) ∧ Aside0 (w'.heap[gb111]? = some (.cells #[(.slice A0_0 l0_0.length c0_0), (.slice A0_1 l0_1.length c0_1)] 30 (0, 0))) ∧ Aside0 (Below w.heap.size w w'))
    case atStart => exact ⟨(0), (by first | rfl | (simp; done) | (simp [*]; done) | (simp; exact (by intro l_; cases l_ <;> rfl : ∀ l_ : List UInt8, l_.isEmpty = !(l_ != [])) _)), H', ⟨Nat.le_refl _⟩, ⟨kP BK111⟩, ⟨bB⟩⟩
    case round =>
     clear H'
     try clear c1
     try clear p2
     try clear c4
     try clear c4b0
     try clear c4b1
     try clear c4b2
     try clear c7
     try clear hcz5_0
     try clear hcz5_1
     try clear hcz6_0
     try clear hcz6_1
     try clear hfz5_0
     try clear hfz5_1
     try clear hfz6_0
     try clear hfz6_1
     try clear p2
     obtain ⟨x3_2, rfl, HA, HK2, BK111, HB⟩ := hrel
     cases gk with
     | zero => exact absurd HA.out (by simp [spec_DiskOk.l0])
     | succ k2 =>
      have H := HA.out
      clear HA
      simp only [spec_DiskOk.l0] at H
      by_cases c8 : x3_2 < (l0_0.length : Int)
      ·rw [if_pos c8] at H
       have c8b0 : decide (x3_2 < (l0_0.length : Int)) = true := decide_eq_true c8
       clear c8
       by_cases c9 : 0 ≤ x3_2
       ·rw [if_pos c9] at H
        have c9b0 : decide (0 ≤ x3_2) = true := decide_eq_true c9
        clear c9
        by_cases c10 : ((rdOf ByteArray.empty l0_0 x3_2).size : Int) > 90
        ·rw [if_pos c10] at H
         have c10b0 : decide (90 < ((rdOf ByteArray.empty l0_0 x3_2).size : Int)) = true := decide_eq_true c10
         have c10b1 : decide (90 < (rdOf ByteArray.empty l0_0 x3_2).size) = true := decide_eq_true (by omega)
         clear c10
         obtain rfl := Option.some.inj H
         have hcz11_0 := cZ0 BK111
         have hcz11_1 := cZ1 BK111
         have hfz11_0 := blk_frozen BK111.out 0
         have hfz11_1 := blk_frozen BK111.out 1
         have p112 : 0 ≤ (x3_2 : Int) := dT
         have q112 : x3_2 < (l0_0.length : Int) := dT
         obtain ⟨ad112, e112, hx112_0⟩ := Kd.at_string HR0_0.out x3_2 p112 q112
         cases e112
         replace hx112_0 := (HB.out.cell (World.block_lt_of_cell? w _ hx112_0)).trans hx112_0
         replace p112 := eq_true p112
         replace q112 := eq_true q112
         go_wp2
         go_ret
         exact ⟨eW, bB⟩
        ·rw [if_neg c10] at H
         have c10b0 : decide (90 < ((rdOf ByteArray.empty l0_0 x3_2).size : Int)) = false := decide_eq_false c10
         have c10b1 : decide (90 < (rdOf ByteArray.empty l0_0 x3_2).size) = false := decide_eq_false (by omega)
         clear c10
         have H' := aM H
         clear H
         have hcz12_0 := cZ0 BK111
         have hcz12_1 := cZ1 BK111
         have hfz12_0 := blk_frozen BK111.out 0
         have hfz12_1 := blk_frozen BK111.out 1
         have p112 : 0 ≤ (x3_2 : Int) := dT
         have q112 : x3_2 < (l0_0.length : Int) := dT
         obtain ⟨ad112, e112, hx112_0⟩ := Kd.at_string HR0_0.out x3_2 p112 q112
         cases e112
         replace hx112_0 := (HB.out.cell (World.block_lt_of_cell? w _ hx112_0)).trans hx112_0
         replace p112 := eq_true p112
         replace q112 := eq_true q112
         go_wp2
         go_roundg k2
         case measure => have := HJ1.out; have := HK2.out; omega
         case rel => exact ⟨(wrap64 (x3_2 + 1)), (by first | rfl | (simp; done) | (simp [*]; done) | (simp; exact (by intro l_; cases l_ <;> rfl : ∀ l_ : List UInt8, l_.isEmpty = !(l_ != [])) _)), H', ⟨by have := HJ1.out; have := HK2.out; omega⟩, ⟨kP BK111⟩, ⟨bB⟩⟩
       ·rw [if_neg c9] at H
        exact absurd H (by simp)
      ·rw [if_neg c8] at H
       have c8b0 : decide (x3_2 < (l0_0.length : Int)) = false := decide_eq_false c8
       clear c8
       replace H := Option.bind_eq_some_iff.mp H
       obtain ⟨t113, A130, H⟩ := H
       try dsimp only at H
       have A13 := aM A130
       clear A130
       obtain rfl := Option.some.inj H
       have hcz14_0 := cZ0 BK111
       have hcz14_1 := cZ1 BK111
       have hfz14_0 := blk_frozen BK111.out 0
       have hfz14_1 := blk_frozen BK111.out 1
       go_wp2_with (first | ((with_reducible refine gate_callee (f := 59) rfl ?_); refine gL (some 33) Try.func59 #[.slice A0_1 l0_1.length c0_1, .int .i64 (l0_0.length : Int)] ?_; (with_reducible refine (spec_l3PutsOk.calls k2 _ _ l0_1 (l0_0.length : Int) t113 _ ?side1 ?side2 A13.out).mono ?_); (case side1 => exact cS HR0_1 HB); (case side2 => exact HC0_1.out); rintro e w' ⟨rfl, ⟨nd, rfl⟩⟩; refine ⟨_, rfl, ?_⟩))
       go_ret
       exact ⟨eW, bB⟩

/-! ### spec_l1Copy: function 110 -/
def spec_l1Copy.f (l0 : List ByteArray) : Option (List ByteArray) := (some (([] : List ByteArray) : List ByteArray)).bind fun y114 => (if y114.length + l0.length < 8796093022208 then (some (y114 ++ l0)) else (none))
set_option maxHeartbeats 8000000 in
set_option maxRecDepth 100000 in
theorem spec_l1Copy.calls (A0 : Option Addr) (c0 : Nat) (l0 : List ByteArray) (r : List ByteArray) (w : World) (hr0 : Kd.C Kd.string w A0 l0.length l0) (hc0 : l0.length ≤ c0) (h : spec_l1Copy.f l0 = some r) :
  Calls Try.prog 110 #[.slice A0 l0.length c0] w fun e w' => ∃ v0_ : Value, e = .returned (v0_) ∧ Kd.R Kd.string 9 w' w.heap.size (fun _ => True) v0_ r ∧ Below w.heap.size w w' := by
 have HR0 := aM hr0
 have HC0 := aM hc0
 clear hr0 hc0
 have HB := aM (Below.refl w.heap.size w)
 unfold spec_l1Copy.f at h
 have H := h
 clear h
 obtain ⟨y114, hy114⟩ : ∃ y_ : List ByteArray, y_ = (([] : List ByteArray)) := ⟨_, rfl⟩
 replace H : (if y114.length + l0.length < 8796093022208 then (some (y114 ++ l0)) else (none)) = some r := by first | (rw [hy114]; with_reducible exact H) | (have H2_ := (Option.bind_some _ _).symm.trans H; rw [hy114]; with_reducible exact H2_) | (have H2_ := (Option.bind_some _ _).symm.trans H; with_reducible exact H2_) | with_reducible exact H | (rw [hy114]; exact H) | exact H
 have Ny114 := aM hy114
 clear hy114
 by_cases c2 : y114.length + l0.length < 8796093022208
 ·rw [if_pos c2] at H
  have LMc2 := aM c2
  clear c2
  obtain ⟨y117, hy117⟩ : ∃ y_ : List ByteArray, y_ = (y114 ++ l0) := ⟨_, rfl⟩
  replace H : (some y117) = some r := by first | (rw [hy117]; with_reducible exact H) | (have H2_ := (Option.bind_some _ _).symm.trans H; rw [hy117]; with_reducible exact H2_) | (have H2_ := (Option.bind_some _ _).symm.trans H; with_reducible exact H2_) | with_reducible exact H | (rw [hy117]; exact H) | exact H
  have Ny117 := aM hy117
  clear hy117
  obtain rfl := Option.some.inj H
  go_enter Try.func110, Try.ntmps110
  go_wp2_with (first | ((with_reducible refine gate_dst (N := 3) rfl ?_); refine Kd.R_lit Kd.string _ 9 ?hg (N := 3) ?hd (xs := ([] : List ByteArray)) (inner := []) (ok := fun _ => True) (okp := fun _ => True) ?hr ?hp (fun _ hk => hk) trivial (Below.refl _ _) (Nat.le_refl _) (by simp) ?_; (case hd => rfl); (case hg => rfl); (case hr => first | (go_simp; done) | (go_simp; rfl)); (case hp => exact (Reps.none _ _)); intro v115 w3 ho4 hb hg_ hnew_; clear hg_ hnew_; (first | rw [← Ny114.out] at ho4 | (simp only [Int.reduceToNat] at ho4; rw [← Ny114.out] at ho4)); have n_ := aI (lR HB ho4) (sB HB hb); clear HB; obtain ⟨HO116, HB⟩ := n_; (try clear hb ho4)) | ((with_reducible refine gate_builtin (b := .append) (xs := #[.tmp 3, .tmp 4]) rfl ?_); at_builtin; refine Kd.R_append_rows Kd.string (w0 := w) w.heap.size rfl (.tmp 3) (.tmp 4) 22 9 (.string ⟨#[]⟩) 16 rfl Try.underlying22 info9 rfl (by decide) (by omega) v115 y114 l0 _ _ _ (fun _ => True) (fun _ => False) rfl rfl ?aO ?aR (fun _ _ h => h) (fun _ h => h.elim) ?aF ?aB ?aS ?aL ?_; (case aR => exact cS HR0 HB); (case aB => exact bB); (case aF => exact (fun _ _ => trivial)); (case aO => exact (rP HO116.out)); (case aS => exact (zB HB)); (case aL => have := LMc2.out; omega); intro v118 w5 ho hb hg hat; rw [← Ny117.out] at ho; have n_ := aI (aM (hb)) (aM (ho)); clear HB HO116; obtain ⟨HB, HO119⟩ := n_; (try clear ho hb hg hat)))
  go_ret
  exact ⟨_, eW, by (with_reducible repeat (first | apply Kd.R_alloc | apply Kd.R_drewN | apply Kd.R_drew)); exact HO119.out, bB⟩
 rw [if_neg c2] at H
 exact absurd H (by simp)

/-! ### spec_l3Copy: function 75 -/
def spec_l3Copy.f (l0_0 : List ByteArray) (l0_1 : List (S65)) : Option (List ByteArray × (List (S65))) := (spec_l1Copy.f l0_0).bind fun t122 => ((some (([] : List (S65)) : List (S65))).bind fun y125 => (if y125.length + l0_1.length < 5864062014805 then (some (t122, (y125 ++ l0_1))) else (none)))
def spec_l3Copy.T1 : Bool × List (List Nat × List Nat) := (true, [([], []), ([0], [0]), ([1], [1]), ([], []), ([], []), ([4], [4]), ([3, 5, 2], [3, 5]), ([2, 6], [2, 6]), ([7, 6, 0, 1, 2, 3, 4, 5, 6, 7], [7])])
def spec_l3Copy.B1 : List Nat := [0, 1, 3, 0, 0, 16, 63, 127, 255]
theorem spec_l3Copy.tab1 : rtab .any (opsOf Try.f75 1) = spec_l3Copy.T1 := by kernel_rfl
theorem spec_l3Copy.bits1 : waitsOk spec_l3Copy.T1.2 spec_l3Copy.B1 = true := by kernel_rfl
set_option maxHeartbeats 8000000 in
set_option maxRecDepth 100000 in
theorem spec_l3Copy.calls (A0_0 : Option Addr) (c0_0 : Nat) (l0_0 : List ByteArray) (A0_1 : Option Addr) (c0_1 : Nat) (l0_1 : List (S65)) (r1 : List ByteArray) (r2 : List (S65)) (w : World) (hr0_0 : Kd.C Kd.string w A0_0 l0_0.length l0_0) (hc0_0 : l0_0.length ≤ c0_0) (hr0_1 : Kd.C k65 w A0_1 l0_1.length l0_1) (hc0_1 : l0_1.length ≤ c0_1) (h : spec_l3Copy.f l0_0 l0_1 = some (r1, r2)) :
  Calls Try.prog 75 #[.agg #[.slice A0_0 l0_0.length c0_0, .slice A0_1 l0_1.length c0_1]] w fun e w' => ∃ v0_ v1_ : Value, e = .returned (.agg #[v0_, v1_]) ∧ Kd.R Kd.string 9 w' w.heap.size (fun _ => True) v0_ r1 ∧ Kd.R k65 65 w' w.heap.size (fun _ => True) v1_ r2 ∧ Below w.heap.size w w' := by
 have hu30 := Try.underlying30
 have HR0_0 := aM hr0_0
 have HC0_0 := aM hc0_0
 clear hr0_0 hc0_0
 have HR0_1 := aM hr0_1
 have HC0_1 := aM hc0_1
 clear hr0_1 hc0_1
 have HB := aM (Below.refl w.heap.size w)
 unfold spec_l3Copy.f at h
 have H := h
 clear h
 replace H := Option.bind_eq_some_iff.mp H
 obtain ⟨t122, A20, H⟩ := H
 try dsimp only at H
 have A2 := aM A20
 clear A20
 obtain ⟨y125, hy125⟩ : ∃ y_ : List (S65), y_ = (([] : List (S65))) := ⟨_, rfl⟩
 replace H : (if y125.length + l0_1.length < 5864062014805 then (some (t122, (y125 ++ l0_1))) else (none)) = some (r1, r2) := by first | (rw [hy125]; with_reducible exact H) | (have H2_ := (Option.bind_some _ _).symm.trans H; rw [hy125]; with_reducible exact H2_) | (have H2_ := (Option.bind_some _ _).symm.trans H; with_reducible exact H2_) | with_reducible exact H | (rw [hy125]; exact H) | exact H
 have Ny125 := aM hy125
 clear hy125
 by_cases c3 : y125.length + l0_1.length < 5864062014805
 ·rw [if_pos c3] at H
  have LMc3 := aM c3
  clear c3
  obtain ⟨y128, hy128⟩ : ∃ y_ : List (S65), y_ = (y125 ++ l0_1) := ⟨_, rfl⟩
  replace H : (some (t122, y128)) = some (r1, r2) := by first | (rw [hy128]; with_reducible exact H) | (have H2_ := (Option.bind_some _ _).symm.trans H; rw [hy128]; with_reducible exact H2_) | (have H2_ := (Option.bind_some _ _).symm.trans H; with_reducible exact H2_) | with_reducible exact H | (rw [hy128]; exact H) | exact H
  have Ny128 := aM hy128
  clear hy128
  simp only [Option.some.injEq, Prod.mk.injEq] at H
  obtain ⟨rfl, rfl⟩ := H
  go_enter Try.func75, Try.ntmps75
  try go_wp2_with (first | ((with_reducible refine gate_dst (N := 1) rfl ?_); refine bE 1 #[.slice A0_0 l0_0.length c0_0, .slice A0_1 l0_1.length c0_1] 30 ?_; intro gb120 hg w4 hbox hb; have n_ := aI (sB HB hb) (aI (aM hbox) (aI (gE HB hg) (gE HB hg))); clear HB; obtain ⟨HB, BK120, GW120, GE120⟩ := n_; (try clear hb hbox hg)) | ((with_reducible refine gate_dst (N := 2) rfl ?_); refine bE 2 #[.slice none 0 0, .slice none 0 0] 30 ?_; intro gb121 hg w5 hbox hb; have n_ := aI (kB BK120 hb) (aI (sB HB hb) (aI (aM hbox) (aI (gE HB hg) (aI (gE HB hg) (aI (nL BK120 hg) (nG BK120 hg)))))); clear BK120 HB; obtain ⟨BK120, HB, BK121, GW121, GE121, NB120_121, NB121_120⟩ := n_; (try clear hb hbox hg)))
  have n0_ := aM (blk_drew BK120.out)
  have n1_ := aM (blk_drew BK121.out)
  have n2_ := aM (below_drew1 HB.out)
  clear BK120
  clear BK121
  clear HB
  have BK120 := n0_
  have BK121 := n1_
  have HB := n2_
  clear n0_ n1_ n2_
  refine start_ (n := 9) (S := fun w' => w'.cell? ⟨gb120, 0, none⟩ = some (.slice A0_0 l0_0.length c0_0) ∧ w'.cell? ⟨gb120, 1, none⟩ = some (.slice A0_1 l0_1.length c0_1)) (ds := []) #[tF, tF, tF, tF, tF, tF, tF, tF, tF] (by kernel_rfl) rfl rfl ⟨(blk_cell BK120.out 0).trans rfl, (blk_cell BK120.out 1).trans rfl⟩ (fun hHeld => ?_); refine with_tabW spec_l3Copy.tab1 spec_l3Copy.bits1 (fun HT_ HW_ => ?_)
  generalize w5.drew = w6 at BK120 BK121 HB hHeld ⊢
  refine pY 0 3 #[tT, tF, tF, tF, tF, tF, tF, tF, tF] ?_
  refine pY 4 7 #[tT, tF, tF, tF, tT, tF, tF, tF, tF] ?_
  refine take_ (i := 1) (N := some 4) (v := ?_) (a' := ?_) #[tT, tT, tF, tF, tT, tF, tF, tF, tF] rfl rfl (take_ofW HT_.out HW_.out (by kernel_rfl)) (fun _ _ _ h => h) (Or.inl ⟨by rfl, ?_⟩) hHeld ?_ ?_
  rotate_left
  ·rintro w' ⟨s0, s1⟩
   go_simp
   with_reducible rfl
  rotate_left
  ·simp only [Act.put, List.setIfInBounds_toArray, List.set_cons_zero, List.set_cons_succ, i64_w, i32_w]
   rfl
  refine take_ (i := 5) (N := some 8) (v := ?_) (a' := ?_) #[tT, tT, tF, tF, tT, tT, tF, tF, tF] rfl rfl (take_ofW HT_.out HW_.out (by kernel_rfl)) (fun _ _ _ h => h) (Or.inl ⟨by rfl, ?_⟩) hHeld ?_ ?_
  rotate_left
  ·rintro w' ⟨s0, s1⟩
   go_simp
   with_reducible rfl
  rotate_left
  ·simp only [Act.put, List.setIfInBounds_toArray, List.set_cons_zero, List.set_cons_succ, i64_w, i32_w]
   rfl
  refine join_ (σ := Value × Value) 3 #[true, true, true, true, true, true, false, false, false] (fun s_ => [(5, s_.1), (6, s_.2)]) (fun s_ w' => (w'.cell? ⟨gb120, 0, none⟩ = some (.slice A0_0 l0_0.length c0_0) ∧ w'.cell? ⟨gb120, 1, none⟩ = some (.slice A0_1 l0_1.length c0_1)) ∧ (Kd.R Kd.string 9 w' w.heap.size (fun _ => True) s_.1 t122) ∧ (Kd.R k65 65 w' w.heap.size (fun _ => True) s_.2 y125) ∧ (w'.heap[gb120]? = some (.cells #[.slice A0_0 l0_0.length c0_0, .slice A0_1 l0_1.length c0_1] 30 (0, 0))) ∧ (w'.heap[gb121]? = some (.cells #[.slice none 0 0, .slice none 0 0] 30 (0, 0))) ∧ (Below w.heap.size w w')) ?_ ?_
  rotate_left
  ·intro hCont
   refine two_ (i := 2) (j := 3) (Ni := some 5) (Nj := some 6) #[true, true, true, false, true, true, false, false, false] #[true, true, false, true, true, true, false, false, false] rfl rfl rfl rfl (two_of HT_.out (by kernel_rfl)) (by decide) (by decide) (fun K hK => ?_) (fun K hK => ?_)
   ·skip
    refine goes_ Try.func110 (by kernel_rfl) rfl #[.slice A0_0 l0_0.length c0_0] (by rfl) rfl rfl (by (try simp only [List.map_toArray, List.map_cons, List.map_nil]); first | done | rfl | (simp only [List.length_drop, List.length_take]; rfl)) ?_
    with_reducible refine (spec_l1Copy.calls _ _ l0_0 t122 _ ?side1 ?side2 A2.out).mono ?_
    (case side1 => exact cS HR0_0 HB)
    (case side2 => exact HC0_0.out)
    rintro e w7 ⟨v123, rfl, ho0, hb⟩
    refine ⟨_, rfl, ?_⟩
    have n0_ := lR HB ho0
    have n1_ := kB BK120 hb
    have n2_ := kB BK121 hb
    have n3_ := sB HB hb
    clear BK120
    clear BK121
    clear HB
    have HO124 := n0_
    have BK120 := n1_
    have BK121 := n2_
    have HB := n3_
    clear n0_ n1_ n2_ n3_
    (try clear hb)
    (try clear hb2)
    (try clear hk)
    (try clear hi)
    (try clear ho0)
    refine hK.out _ _ ⟨(blk_cell BK120.out 0).trans rfl, (blk_cell BK120.out 1).trans rfl⟩ (fun hHeld => ?_)
    clear hK K
    refine norm_ (a' := ?_) ?_ ?_
    rotate_left
    ·show Act.put _ (some 5) _ = _
     simp only [Act.put, List.setIfInBounds_toArray, List.set_cons_zero, List.set_cons_succ, i64_w, i32_w]
     rfl
    refine one_ (i := 3) (N := some 6) #[tT, tT, tT, tT, tT, tT, tF, tF, tF] rfl rfl (one_of HT_.out (by kernel_rfl)) (by decide) (fun K hK => ?_)
    refine Kd.R_lit_step k65 _ 65 ?hg (N := 6) ?hd (xs := ([] : List (S65))) (inner := []) (ok := fun _ => True) (okp := fun _ => True) ?hr ?hp (fun _ hk => hk) trivial (Below.refl _ _) (Nat.le_refl _) (by simp) ?_; (case hd => rfl); (case hg => rfl); (case hr => first | (go_simp; done) | (go_simp; rfl)); (case hp => exact (Reps.none _ _))
    intro v126 w8 ho9 hb hg_ hnew_
    clear hg_ hnew_
    (first | rw [← Ny125.out] at ho9 | (simp only [Int.reduceToNat] at ho9; rw [← Ny125.out] at ho9))
    have n0_ := rB HO124 hb
    have n1_ := lR HB ho9
    have n2_ := kB BK120 hb
    have n3_ := kB BK121 hb
    have n4_ := sB HB hb
    clear HO124
    clear BK120
    clear BK121
    clear HB
    have HO124 := n0_
    have HO127 := n1_
    have BK120 := n2_
    have BK121 := n3_
    have HB := n4_
    clear n0_ n1_ n2_ n3_ n4_
    clear hb ho9
    refine hK.out _ _ ⟨(blk_cell BK120.out 0).trans rfl, (blk_cell BK120.out 1).trans rfl⟩ (fun hHeld => ?_)
    clear hK K
    refine norm_ (a' := ?_) ?_ ?_
    rotate_left
    ·show Act.put _ (some 6) _ = _
     simp only [Act.put, List.setIfInBounds_toArray, List.set_cons_zero, List.set_cons_succ, i64_w, i32_w]
     rfl
    exact norm_ (by simp only [putAll, Act.put, List.setIfInBounds_toArray, List.set_cons_zero, List.set_cons_succ]) (hCont (v123, v126) _ ⟨hHeld, (rP HO124.out), (rP HO127.out), (kP BK120), (kP BK121), bB⟩)
   skip
   refine Kd.R_lit_step k65 _ 65 ?hg (N := 6) ?hd (xs := ([] : List (S65))) (inner := []) (ok := fun _ => True) (okp := fun _ => True) ?hr ?hp (fun _ hk => hk) trivial (Below.refl _ _) (Nat.le_refl _) (by simp) ?_; (case hd => rfl); (case hg => rfl); (case hr => first | (go_simp; done) | (go_simp; rfl)); (case hp => exact (Reps.none _ _))
   intro v126 w7 ho8 hb hg_ hnew_
   clear hg_ hnew_
   (first | rw [← Ny125.out] at ho8 | (simp only [Int.reduceToNat] at ho8; rw [← Ny125.out] at ho8))
   have n0_ := lR HB ho8
   have n1_ := kB BK120 hb
   have n2_ := kB BK121 hb
   have n3_ := sB HB hb
   clear BK120
   clear BK121
   clear HB
   have HO127 := n0_
   have BK120 := n1_
   have BK121 := n2_
   have HB := n3_
   clear n0_ n1_ n2_ n3_
   clear hb ho8
   refine hK.out _ _ ⟨(blk_cell BK120.out 0).trans rfl, (blk_cell BK120.out 1).trans rfl⟩ (fun hHeld => ?_)
   clear hK K
   refine norm_ (a' := ?_) ?_ ?_
   rotate_left
   ·show Act.put _ (some 6) _ = _
    simp only [Act.put, List.setIfInBounds_toArray, List.set_cons_zero, List.set_cons_succ, i64_w, i32_w]
    rfl
   refine one_ (i := 2) (N := some 5) #[tT, tT, tT, tT, tT, tT, tF, tF, tF] rfl rfl (one_of HT_.out (by kernel_rfl)) (by decide) (fun K hK => ?_)
   refine goes_ Try.func110 (by kernel_rfl) rfl #[.slice A0_0 l0_0.length c0_0] (by rfl) rfl rfl (by (try simp only [List.map_toArray, List.map_cons, List.map_nil]); first | done | rfl | (simp only [List.length_drop, List.length_take]; rfl)) ?_
   with_reducible refine (spec_l1Copy.calls _ _ l0_0 t122 _ ?side1 ?side2 A2.out).mono ?_
   (case side1 => exact cS HR0_0 HB)
   (case side2 => exact HC0_0.out)
   rintro e w9 ⟨v123, rfl, ho0, hb⟩
   refine ⟨_, rfl, ?_⟩
   have n0_ := rB HO127 hb
   have n1_ := lR HB ho0
   have n2_ := kB BK120 hb
   have n3_ := kB BK121 hb
   have n4_ := sB HB hb
   clear HO127
   clear BK120
   clear BK121
   clear HB
   have HO127 := n0_
   have HO124 := n1_
   have BK120 := n2_
   have BK121 := n3_
   have HB := n4_
   clear n0_ n1_ n2_ n3_ n4_
   (try clear hb)
   (try clear hb2)
   (try clear hk)
   (try clear hi)
   (try clear ho0)
   refine hK.out _ _ ⟨(blk_cell BK120.out 0).trans rfl, (blk_cell BK120.out 1).trans rfl⟩ (fun hHeld => ?_)
   clear hK K
   refine norm_ (a' := ?_) ?_ ?_
   rotate_left
   ·show Act.put _ (some 5) _ = _
    simp only [Act.put, List.setIfInBounds_toArray, List.set_cons_zero, List.set_cons_succ, i64_w, i32_w]
    rfl
   exact norm_ (by simp only [putAll, Act.put, List.setIfInBounds_toArray, List.set_cons_zero, List.set_cons_succ]) (hCont (v123, v126) _ ⟨hHeld, (rP HO124.out), (rP HO127.out), (kP BK120), (kP BK121), bB⟩)
  rintro ⟨v123, v126⟩ w10 ⟨hS_, h0_, h1_, h2_, h3_, h4_⟩
  have n0_ : Aside0 (Kd.R Kd.string 9 w10 w.heap.size (fun _ => True) v123 t122) := ⟨h0_⟩
  have n1_ : Aside0 (Kd.R k65 65 w10 w.heap.size (fun _ => True) v126 y125) := ⟨h1_⟩
  have n2_ : Aside0 (w10.heap[gb120]? = some (.cells #[.slice A0_0 l0_0.length c0_0, .slice A0_1 l0_1.length c0_1] 30 (0, 0))) := ⟨h2_⟩
  have n3_ : Aside0 (w10.heap[gb121]? = some (.cells #[.slice none 0 0, .slice none 0 0] 30 (0, 0))) := ⟨h3_⟩
  have n4_ : Aside0 (Below w.heap.size w w10) := ⟨h4_⟩
  clear BK120
  clear BK121
  clear HB
  clear h0_ h1_ h2_ h3_ h4_
  have HO124 := n0_
  have HO127 := n1_
  have BK120 := n2_
  have BK121 := n3_
  have HB := n4_
  clear n0_ n1_ n2_ n3_ n4_
  have hHeld : w10.cell? ⟨gb120, 0, none⟩ = some (.slice A0_0 l0_0.length c0_0) ∧ w10.cell? ⟨gb120, 1, none⟩ = some (.slice A0_1 l0_1.length c0_1) := hS_
  refine norm_ (a' := ?_) ?_ ?_
  rotate_left
  ·simp only [putAll, Act.put, List.setIfInBounds_toArray, List.set_cons_zero, List.set_cons_succ]
   rfl
  refine one_ (i := 6) (N := some 9) #[tT, tT, tT, tT, tT, tT, tT, tF, tF] rfl rfl (one_of HT_.out (by kernel_rfl)) (by decide) (fun K hK => ?_)
  refine Kd.R_append_rows_step k65 (w0 := w) w.heap.size (by rfl) (.tmp 6) (.tmp 8) 28 65 (.agg #[(.int .i64 0), (.string ⟨#[]⟩)]) 24 rfl Try.underlying28 info65 rfl (by decide) (by omega) v126 y125 l0_1 _ _ _ (fun _ => True) (fun _ => False) rfl rfl ?aO ?aR (fun _ _ h => h) (fun _ h => h.elim) ?aF ?aB ?aS ?aL ?_
  (case aR => exact cS HR0_1 HB)
  (case aB => exact bB)
  (case aF => exact (fun _ _ => trivial))
  (case aO => exact (rP HO127.out))
  (case aS => exact (zB HB))
  (case aL => have := LMc3.out; omega)
  intro v129 w11 ho hb hg hat
  rw [← Ny128.out] at ho
  have n0_ := aM (blk_grown (g := gb120) (o := .cells #[.slice A0_0 l0_0.length c0_0, .slice A0_1 l0_1.length c0_1] 30 (0, 0)) (kP BK120) hg (Kd.R_ne HO127.out BK120.out (by decide)))
  have n1_ := aM (blk_grown (g := gb121) (o := .cells #[.slice none 0 0, .slice none 0 0] 30 (0, 0)) (kP BK121) hg (Kd.R_ne HO127.out BK121.out (by decide)))
  have n2_ := aM (Kd.R_over' (rP HO124.out) (Kd.R_typed (rP HO127.out)) (by decide) hg)
  have n3_ := aM (hb)
  have n4_ := aM (ho)
  clear BK120
  clear BK121
  clear HO124
  clear HB
  clear HO127
  have BK120 := n0_
  have BK121 := n1_
  have HO124 := n2_
  have HB := n3_
  have HO130 := n4_
  clear n0_ n1_ n2_ n3_ n4_
  clear ho hb hg hat
  obtain ⟨Ao12, co12, eo12⟩ := Kd.R_slice HO130.out
  (first | subst eo12 | (injection eo12 with f1_ f2_ f3_; have f4_ := f1_.symm; have f5_ := f3_.symm; clear f1_ f2_ f3_; subst f4_; subst f5_))
  obtain ⟨Ao13, co13, eo13⟩ := Kd.R_slice HO124.out
  (first | subst eo13 | (injection eo13 with f1_ f2_ f3_; have f4_ := f1_.symm; have f5_ := f3_.symm; clear f1_ f2_ f3_; subst f4_; subst f5_))
  refine hK.out _ _ ⟨(blk_cell BK120.out 0).trans rfl, (blk_cell BK120.out 1).trans rfl⟩ (fun hHeld => ?_)
  clear hK K
  refine norm_ (a' := ?_) ?_ ?_
  rotate_left
  ·show Act.put _ (some 9) _ = _
   simp only [Act.put, List.setIfInBounds_toArray, List.set_cons_zero, List.set_cons_succ, i64_w, i32_w]
   rfl
  refine pY 7 10 #[tT, tT, tT, tT, tT, tT, tT, tT, tF] ?_
  refine one_ (i := 8) (N := none) #[tT, tT, tT, tT, tT, tT, tT, tT, tT] rfl rfl (one_of HT_.out (by kernel_rfl)) (by decide) (fun K hK => ?_)
  have hs14 : w11.cell? ⟨gb121, 0, none⟩ = some (.slice none 0 0) := (blk_cell BK121.out 0).trans rfl
  have hfs14 := blk_frozen BK121.out 0
  have hns14_0 := NB120_121.out
  have hms14_0 := NB121_120.out
  have hs15 : w11.cell? ⟨gb121, 1, none⟩ = some (.slice none 0 0) := (blk_cell BK121.out 1).trans rfl
  have hfs15 := blk_frozen BK121.out 1
  have hns15_0 := NB120_121.out
  have hms15_0 := NB121_120.out
  refine skip_ (w1 := ?_) (by rfl) rfl ?_ ?_
  rotate_left
  ·go_simp
   rfl
  refine hK.out _ _ ⟨((cell_far (p := ⟨gb121, _, none⟩) NB120_121.out _).trans (((cell_far (p := ⟨gb121, _, none⟩) NB120_121.out _).trans (hHeld.1)))), ((cell_far (p := ⟨gb121, _, none⟩) NB120_121.out _).trans (((cell_far (p := ⟨gb121, _, none⟩) NB120_121.out _).trans (hHeld.2))))⟩ (fun hHeld => ?_)
  clear hK K
  refine done_ (done_of HT_.out (by kernel_rfl)) ?_
  try go_wp2
  refine bodyPost_ret (results_cell_row rfl _ _ gb121 30 #[.slice Ao13 t122.length co13, .slice Ao12 y128.length co12] (0, 0) _ rfl (by (with_reducible repeat (first | refine blk_drewN ?_ _ | refine blk_drew ?_ | refine blk_alloc ?_ _)); refine blk_put (cs := #[.slice Ao13 t122.length co13, .slice none 0 0]) ?_ 1 _ rfl; (with_reducible repeat (first | refine blk_drewN ?_ _ | refine blk_drew ?_ | refine blk_alloc ?_ _)); refine blk_put (cs := #[.slice none 0 0, .slice none 0 0]) ?_ 0 _ rfl; (with_reducible repeat (first | refine blk_drewN ?_ _ | refine blk_drew ?_ | refine blk_alloc ?_ _)); exact BK121.out) Try.underlying30 rfl (by kernel_rfl)) rfl ?_
  exact ⟨_, _, eW, by (with_reducible repeat (first | apply Kd.R_alloc | apply Kd.R_drewN | apply Kd.R_drew)); exact Kd.R_mono (Kd.R_far (p := ⟨gb121, 1, none⟩) (Kd.R_far (p := ⟨gb121, 0, none⟩) (Kd.R_types HO124.out BK121.out (by decide)) (fun _ hk => hk.2) (.slice Ao13 t122.length co13)) (fun _ hk => hk.2) (.slice Ao12 y128.length co12)) (fun _ hk => trivial), by (with_reducible repeat (first | apply Kd.R_alloc | apply Kd.R_drewN | apply Kd.R_drew)); exact Kd.R_mono (Kd.R_far (p := ⟨gb121, 1, none⟩) (Kd.R_far (p := ⟨gb121, 0, none⟩) (Kd.R_types HO130.out BK121.out (by decide)) (fun _ hk => hk.2) (.slice Ao13 t122.length co13)) (fun _ hk => hk.2) (.slice Ao12 y128.length co12)) (fun _ hk => trivial), bB⟩
 rw [if_neg c3] at H
 exact absurd H (by simp)

/-! ### spec_SectorWrite: function 28 -/
def spec_SectorWrite.f (k : Nat) (l0_0 : List ByteArray) (l0_1 : List (S65)) (a1 : Int) (a2 : ByteArray) : Option (List ByteArray × (List (S65)) × Bool) := (spec_l3Copy.f l0_0 l0_1).bind fun bt133 => (if bt133.2.length < 5864062014805 then ((some (bt133.2 ++ [(⟨a1, a2⟩ : S65)] : List (S65))).bind fun y140 => ((spec_DiskOk.f k l0_0 l0_1).bind fun t143 => (if t143 = true then ((spec_DiskOk.f k bt133.1 y140).bind fun t144 => (if t144 = true then (some (bt133.1, y140, true)) else ((spec_l3Copy.f l0_0 l0_1).bind fun bt145 => (some (bt145.1, bt145.2, false))))) else ((spec_l3Copy.f l0_0 l0_1).bind fun bt151 => (some (bt151.1, bt151.2, false)))))) else (none))
theorem spec_SectorWrite.mono : ∀ a0 a1 a2 a3 k, LeO (spec_SectorWrite.f k a0 a1 a2 a3) (spec_SectorWrite.f (k + 1) a0 a1 a2 a3) := by
 intro a0 a1 a2 a3 k
 unfold spec_SectorWrite.f
 have m0_ := @spec_DiskOk.mono
 exact mM
set_option maxHeartbeats 8000000 in
set_option maxRecDepth 100000 in
theorem spec_SectorWrite.calls (k : Nat) (A0_0 : Option Addr) (c0_0 : Nat) (l0_0 : List ByteArray) (A0_1 : Option Addr) (c0_1 : Nat) (l0_1 : List (S65)) (a1 : Int) (a2 : ByteArray) (r1 : List ByteArray) (r2 : List (S65)) (r3 : Bool) (w : World) (hr0_0 : Kd.C Kd.string w A0_0 l0_0.length l0_0) (hc0_0 : l0_0.length ≤ c0_0) (hr0_1 : Kd.C k65 w A0_1 l0_1.length l0_1) (hc0_1 : l0_1.length ≤ c0_1) (h : spec_SectorWrite.f k l0_0 l0_1 a1 a2 = some (r1, r2, r3)) :
  Calls Try.prog 28 #[.agg #[.slice A0_0 l0_0.length c0_0, .slice A0_1 l0_1.length c0_1], .int .i64 a1, .string a2] w fun e w' => ∃ v0_ v1_ : Value, e = .returned (.tuple #[.agg #[v0_, v1_], .bool r3]) ∧ Kd.R Kd.string 9 w' w.heap.size (fun _ => True) v0_ r1 ∧ Kd.R k65 65 w' w.heap.size (fun _ => True) v1_ r2 ∧ Below w.heap.size w w' := by
 have hu30 := Try.underlying30
 have hu65 := Try.underlying65
 have HR0_0 := aM hr0_0
 have HC0_0 := aM hc0_0
 clear hr0_0 hc0_0
 have HR0_1 := aM hr0_1
 have HC0_1 := aM hc0_1
 clear hr0_1 hc0_1
 have HB := aM (Below.refl w.heap.size w)
 unfold spec_SectorWrite.f at h
 have H := h
 clear h
 replace H := Option.bind_eq_some_iff.mp H
 obtain ⟨⟨t133, t136⟩, A40, H⟩ := H
 try dsimp only at H
 have A4 := aM A40
 clear A40
 by_cases c5 : t136.length < 5864062014805
 ·rw [if_pos c5] at H
  have LMc5 := aM c5
  clear c5
  obtain ⟨y140, hy140⟩ : ∃ y_ : List (S65), y_ = (t136 ++ [(⟨a1, a2⟩ : S65)]) := ⟨_, rfl⟩
  replace H : ((spec_DiskOk.f k l0_0 l0_1).bind fun t143 => (if t143 = true then ((spec_DiskOk.f k t133 y140).bind fun t144 => (if t144 = true then (some (t133, y140, true)) else ((spec_l3Copy.f l0_0 l0_1).bind fun bt145 => (some (bt145.1, bt145.2, false))))) else ((spec_l3Copy.f l0_0 l0_1).bind fun bt151 => (some (bt151.1, bt151.2, false))))) = some (r1, r2, r3) := by first | (rw [hy140]; with_reducible exact H) | (have H2_ := (Option.bind_some _ _).symm.trans H; rw [hy140]; with_reducible exact H2_) | (have H2_ := (Option.bind_some _ _).symm.trans H; with_reducible exact H2_) | with_reducible exact H | (rw [hy140]; exact H) | exact H
  have Ny140 := aM hy140
  clear hy140
  replace H := Option.bind_eq_some_iff.mp H
  obtain ⟨t143, A60, H⟩ := H
  try dsimp only at H
  have A6 := aM A60
  clear A60
  by_cases c7 : t143 = true
  ·subst c7
   rw [if_pos rfl] at H
   replace H := Option.bind_eq_some_iff.mp H
   obtain ⟨t144, A80, H⟩ := H
   try dsimp only at H
   have A8 := aM A80
   clear A80
   by_cases c9 : t144 = true
   ·subst c9
    rw [if_pos rfl] at H
    simp only [Option.some.injEq, Prod.mk.injEq] at H
    obtain ⟨rfl, rfl, rfl⟩ := H
    go_enter Try.func28, Try.ntmps28
    go_wp2_with (first | ((with_reducible refine gate_dst (N := 3) rfl ?_); refine bE 3 #[.slice A0_0 l0_0.length c0_0, .slice A0_1 l0_1.length c0_1] 30 ?_; intro gb131 hg w10 hbox hb; have n_ := aI (sB HB hb) (aI (aM hbox) (aI (gE HB hg) (gE HB hg))); clear HB; obtain ⟨HB, BK131, GW131, GE131⟩ := n_; (try clear hb hbox hg)) | ((with_reducible refine gate_dst (N := 6) rfl ?_); refine bE 6 #[.slice none 0 0, .slice none 0 0] 30 ?_; intro gb132 hg w11 hbox hb; have n_ := aI (kB BK131 hb) (aI (sB HB hb) (aI (aM hbox) (aI (gE HB hg) (aI (gE HB hg) (aI (nL BK131 hg) (nG BK131 hg)))))); clear BK131 HB; obtain ⟨BK131, HB, BK132, GW132, GE132, NB131_132, NB132_131⟩ := n_; (try clear hb hbox hg); have hnb12 := NB131_132.out; have hnc12 := NB132_131.out; have hcz13_0 := cZ0 BK131; have hcz13_1 := cZ1 BK131; have hfz13_0 := blk_frozen BK131.out 0; have hfz13_1 := blk_frozen BK131.out 1) | ((with_reducible refine gate_callee (f := 75) rfl ?_); refine gL (some 10) Try.func75 #[.agg #[.slice A0_0 l0_0.length c0_0, .slice A0_1 l0_1.length c0_1]] ?_; (with_reducible refine (spec_l3Copy.calls _ _ l0_0 _ _ l0_1 t133 t136 _ ?side1 ?side2 ?side3 ?side4 A4.out).mono ?_); (case side1 => exact cS HR0_0 HB); (case side2 => exact HC0_0.out); (case side3 => exact cS HR0_1 HB); (case side4 => exact HC0_1.out); rintro e w14 ⟨v134, v137, rfl, ho0, ho1, hb⟩; refine ⟨_, rfl, ?_⟩; have n_ := aI (lR HB ho0) (aI (lR HB ho1) (aI (kB BK131 hb) (aI (kB BK132 hb) (sB HB hb)))); clear BK131 BK132 HB; obtain ⟨HO135, HO138, BK131, BK132, HB⟩ := n_; (try clear hb ho0 ho1)) | ((with_reducible refine gate_dst (N := 8) rfl ?_); refine bE 8 #[.slice none 0 0, .slice none 0 0] 30 ?_; intro gb139 hg w15 hbox hb; have n_ := aI (rB HO135 hb) (aI (rB HO138 hb) (aI (kB BK131 hb) (aI (kB BK132 hb) (aI (sB HB hb) (aI (aM hbox) (aI (gE HB hg) (aI (gE HB hg) (aI (nL BK131 hg) (aI (nG BK131 hg) (aI (nL BK132 hg) (nG BK132 hg))))))))))); clear HO135 HO138 BK131 BK132 HB; obtain ⟨HO135, HO138, BK131, BK132, HB, BK139, GW139, GE139, NB131_139, NB139_131, NB132_139, NB139_132⟩ := n_; (try clear hb hbox hg); obtain ⟨Ao16, co16, eo16⟩ := Kd.R_slice HO135.out; subst eo16; have hnb17 := NB139_131.out; have hnc17 := NB131_139.out; have hnb18 := NB139_132.out; have hnc18 := NB132_139.out; have hcz19_0 := cZ0 BK139; have hcz19_1 := cZ1 BK139; have hfz19_0 := blk_frozen BK139.out 0; have hfz19_1 := blk_frozen BK139.out 1; obtain ⟨Ao20, co20, eo20⟩ := Kd.R_slice HO138.out; subst eo20) | ((with_reducible refine gate_builtin (b := .append) (xs := #[.tmp 12, .tmp 16]) rfl ?_); at_builtin; refine Kd.R_append k65 (w0 := w) w.heap.size rfl (.tmp 12) (.tmp 16) 28 65 (.agg #[(.int .i64 0), (.string ⟨#[]⟩)]) 24 rfl Try.underlying28 info65 rfl (by decide) (by omega) (.slice Ao20 t136.length co20) t136 (⟨a1, a2⟩ : S65) [.int .i64 a1, .string a2] (fun _ => True) (fun _ => False) rfl (by first | (go_simp; done) | (go_simp; rfl)) ?aP (fun _ hk => hk.elim) ?aF ?aO ?aB ?aS ?aL ?_; (case aP => exact k65_mkM _ _ _ (⟨a1, a2⟩ : S65)); (case aB => exact bB); (case aF => exact (fun _ _ => trivial)); (case aO => exact (rP (Kd.R_mono (Kd.R_far (p := ⟨gb139, 1, none⟩) (Kd.R_far (p := ⟨gb139, 0, none⟩) (Kd.R_types HO138.out BK139.out (by decide)) (fun _ hk => hk.2) (.slice Ao16 t133.length co16)) (fun _ hk => hk.2) (.slice Ao20 t136.length co20)) (fun _ hk => trivial)))); (case aS => exact (zB HB)); (case aL => have := LMc5.out; omega); intro v141 w21 ho hb hg hat; rw [← Ny140.out] at ho; have n_ := aI (aM (blk_grown (g := gb131) (o := .cells #[.slice A0_0 l0_0.length c0_0, .slice A0_1 l0_1.length c0_1] 30 (0, 0)) (kP BK131) hg (Kd.R_ne HO138.out BK131.out (by decide)))) (aI (aM (blk_grown (g := gb132) (o := .cells #[.slice none 0 0, .slice none 0 0] 30 (0, 0)) (kP BK132) hg (Kd.R_ne HO138.out BK132.out (by decide)))) (aI (aM (Kd.R_over' (rP (Kd.R_mono (Kd.R_far (p := ⟨gb139, 1, none⟩) (Kd.R_far (p := ⟨gb139, 0, none⟩) (Kd.R_types HO135.out BK139.out (by decide)) (fun _ hk => hk.2) (.slice Ao16 t133.length co16)) (fun _ hk => hk.2) (.slice Ao20 t136.length co20)) (fun _ h_ => h_.1))) (Kd.R_typed (rP (Kd.R_mono (Kd.R_far (p := ⟨gb139, 1, none⟩) (Kd.R_far (p := ⟨gb139, 0, none⟩) (Kd.R_types HO138.out BK139.out (by decide)) (fun _ hk => hk.2) (.slice Ao16 t133.length co16)) (fun _ hk => hk.2) (.slice Ao20 t136.length co20)) (fun _ h_ => h_.1)))) (by decide) hg)) (aI (aM (blk_grown (g := gb139) (o := .cells #[.slice Ao16 t133.length co16, .slice Ao20 t136.length co20] 30 (0, 0)) (by (with_reducible repeat (first | refine blk_drewN ?_ _ | refine blk_drew ?_ | refine blk_alloc ?_ _)); refine blk_put (cs := #[.slice Ao16 t133.length co16, .slice none 0 0]) ?_ 1 _ rfl; (with_reducible repeat (first | refine blk_drewN ?_ _ | refine blk_drew ?_ | refine blk_alloc ?_ _)); refine blk_put (cs := #[.slice none 0 0, .slice none 0 0]) ?_ 0 _ rfl; (with_reducible repeat (first | refine blk_drewN ?_ _ | refine blk_drew ?_ | refine blk_alloc ?_ _)); exact BK139.out) hg (Kd.R_ne HO138.out BK139.out (by decide)))) (aI (aM (hb)) (aM (ho)))))); clear BK131 BK132 HO135 BK139 HB HO138; obtain ⟨BK131, BK132, HO135, BK139, HB, HO142⟩ := n_; (try clear ho hb hg hat); obtain ⟨Ao22, co22, eo22⟩ := Kd.R_slice HO142.out; subst eo22; have hcz23_0 := cZ0 BK139; have hcz23_1 := cZ1 BK139; have hfz23_0 := blk_frozen BK139.out 0; have hfz23_1 := blk_frozen BK139.out 1; have hcz24_0 := cZ0 BK131; have hcz24_1 := cZ1 BK131; have hfz24_0 := blk_frozen BK131.out 0; have hfz24_1 := blk_frozen BK131.out 1) | ((with_reducible refine gate_callee (f := 16) rfl ?_); refine gL (some 20) Try.func16 #[.agg #[.slice A0_0 l0_0.length c0_0, .slice A0_1 l0_1.length c0_1]] ?_; (with_reducible refine (spec_DiskOk.calls k _ _ l0_0 _ _ l0_1 true _ ?side1 ?side2 ?side3 ?side4 A6.out).mono ?_); (case side1 => exact cS HR0_0 HB); (case side2 => exact HC0_0.out); (case side3 => exact cS HR0_1 HB); (case side4 => exact HC0_1.out); rintro e w25 ⟨rfl, hb⟩; refine ⟨_, rfl, ?_⟩; have n_ := aI (aM (Kd.R_below (rP (Kd.R_mono (Kd.R_far (p := ⟨gb139, 1, none⟩) (Kd.R_types HO135.out BK139.out (by decide)) (fun _ hk => hk.2) (.slice Ao22 y140.length co22)) (fun _ h_ => h_.1))) hb)) (aI (aM (Kd.R_below (rP (Kd.R_mono (Kd.R_far (p := ⟨gb139, 1, none⟩) (Kd.R_types HO142.out BK139.out (by decide)) (fun _ hk => hk.2) (.slice Ao22 y140.length co22)) (fun _ h_ => h_.1))) hb)) (aI (kB BK131 hb) (aI (kB BK132 hb) (aI (aM (blk_below (g := gb139) (o := .cells #[.slice Ao16 t133.length co16, .slice Ao22 y140.length co22] 30 (0, 0)) (by (with_reducible repeat (first | refine blk_drewN ?_ _ | refine blk_drew ?_ | refine blk_alloc ?_ _)); refine blk_put (cs := #[.slice Ao16 t133.length co16, .slice Ao20 t136.length co20]) ?_ 1 _ rfl; (with_reducible repeat (first | refine blk_drewN ?_ _ | refine blk_drew ?_ | refine blk_alloc ?_ _)); exact BK139.out) hb)) (sB HB hb))))); clear HO135 HO142 BK131 BK132 BK139 HB; obtain ⟨HO135, HO142, BK131, BK132, BK139, HB⟩ := n_; (try clear hb); have hcz26_0 := cZ0 BK139; have hcz26_1 := cZ1 BK139; have hfz26_0 := blk_frozen BK139.out 0; have hfz26_1 := blk_frozen BK139.out 1) | (go_at_call 16; (with_reducible refine (spec_DiskOk.calls k _ _ t133 _ _ y140 true _ ?side1 ?side2 ?side3 ?side4 A8.out).mono ?_); (case side1 => exact cR HO135); (case side2 => exact (Kd.R_reads' HO135.out).2.1); (case side3 => exact cR HO142); (case side4 => exact (Kd.R_reads' HO142.out).2.1); rintro e w27 ⟨rfl, hb⟩; have n_ := aI (rB HO135 hb) (aI (rB HO142 hb) (aI (kB BK131 hb) (aI (kB BK132 hb) (aI (kB BK139 hb) (sB HB hb))))); clear HO135 HO142 BK131 BK132 BK139 HB; obtain ⟨HO135, HO142, BK131, BK132, BK139, HB⟩ := n_; (try clear hb); have hcz28_0 := cZ0 BK139; have hcz28_1 := cZ1 BK139; have hfz28_0 := blk_frozen BK139.out 0; have hfz28_1 := blk_frozen BK139.out 1; have hcz29_0 := cZ0 BK132; have hcz29_1 := cZ1 BK132; have hfz29_0 := blk_frozen BK132.out 0; have hfz29_1 := blk_frozen BK132.out 1))
    refine bodyPost_ret (results_ct rfl _ _ gb132 30 #[.slice Ao16 t133.length co16, .slice Ao22 y140.length co22] (0, 0) _ rfl (by (with_reducible repeat (first | refine blk_drewN ?_ _ | refine blk_drew ?_ | refine blk_alloc ?_ _)); refine blk_put (cs := #[.slice Ao16 t133.length co16, .slice none 0 0]) ?_ 1 _ rfl; (with_reducible repeat (first | refine blk_drewN ?_ _ | refine blk_drew ?_ | refine blk_alloc ?_ _)); refine blk_put (cs := #[.slice none 0 0, .slice none 0 0]) ?_ 0 _ rfl; (with_reducible repeat (first | refine blk_drewN ?_ _ | refine blk_drew ?_ | refine blk_alloc ?_ _)); exact BK132.out) Try.underlying30 rfl (by kernel_rfl)) rfl ?_
    exact ⟨_, _, eW, by (with_reducible repeat (first | apply Kd.R_alloc | apply Kd.R_drewN | apply Kd.R_drew)); exact Kd.R_mono (Kd.R_far (p := ⟨gb132, 1, none⟩) (Kd.R_far (p := ⟨gb132, 0, none⟩) (Kd.R_types HO135.out BK132.out (by decide)) (fun _ hk => hk.2) (.slice Ao16 t133.length co16)) (fun _ hk => hk.2) (.slice Ao22 y140.length co22)) (fun _ hk => trivial), by (with_reducible repeat (first | apply Kd.R_alloc | apply Kd.R_drewN | apply Kd.R_drew)); exact Kd.R_mono (Kd.R_far (p := ⟨gb132, 1, none⟩) (Kd.R_far (p := ⟨gb132, 0, none⟩) (Kd.R_types HO142.out BK132.out (by decide)) (fun _ hk => hk.2) (.slice Ao16 t133.length co16)) (fun _ hk => hk.2) (.slice Ao22 y140.length co22)) (fun _ hk => trivial), bB⟩
   replace c9 := Bool.eq_false_iff.mpr c9
   subst c9
   rw [if_neg (show ¬ (false = true) by decide)] at H
   replace H := Option.bind_eq_some_iff.mp H
   obtain ⟨⟨t145, t148⟩, A300, H⟩ := H
   try dsimp only at H
   have A30 := aM A300
   clear A300
   simp only [Option.some.injEq, Prod.mk.injEq] at H
   obtain ⟨rfl, rfl, rfl⟩ := H
   go_enter Try.func28, Try.ntmps28
   go_wp2_with (first | ((with_reducible refine gate_dst (N := 3) rfl ?_); refine bE 3 #[.slice A0_0 l0_0.length c0_0, .slice A0_1 l0_1.length c0_1] 30 ?_; intro gb131 hg w31 hbox hb; have n_ := aI (sB HB hb) (aI (aM hbox) (aI (gE HB hg) (gE HB hg))); clear HB; obtain ⟨HB, BK131, GW131, GE131⟩ := n_; (try clear hb hbox hg)) | ((with_reducible refine gate_dst (N := 6) rfl ?_); refine bE 6 #[.slice none 0 0, .slice none 0 0] 30 ?_; intro gb132 hg w32 hbox hb; have n_ := aI (kB BK131 hb) (aI (sB HB hb) (aI (aM hbox) (aI (gE HB hg) (aI (gE HB hg) (aI (nL BK131 hg) (nG BK131 hg)))))); clear BK131 HB; obtain ⟨BK131, HB, BK132, GW132, GE132, NB131_132, NB132_131⟩ := n_; (try clear hb hbox hg); have hnb33 := NB131_132.out; have hnc33 := NB132_131.out; have hcz34_0 := cZ0 BK131; have hcz34_1 := cZ1 BK131; have hfz34_0 := blk_frozen BK131.out 0; have hfz34_1 := blk_frozen BK131.out 1) | ((with_reducible refine gate_callee (f := 75) rfl ?_); refine gL (some 10) Try.func75 #[.agg #[.slice A0_0 l0_0.length c0_0, .slice A0_1 l0_1.length c0_1]] ?_; (with_reducible refine (spec_l3Copy.calls _ _ l0_0 _ _ l0_1 t133 t136 _ ?side1 ?side2 ?side3 ?side4 A4.out).mono ?_); (case side1 => exact cS HR0_0 HB); (case side2 => exact HC0_0.out); (case side3 => exact cS HR0_1 HB); (case side4 => exact HC0_1.out); rintro e w35 ⟨v134, v137, rfl, ho0, ho1, hb⟩; refine ⟨_, rfl, ?_⟩; have n_ := aI (lR HB ho0) (aI (lR HB ho1) (aI (kB BK131 hb) (aI (kB BK132 hb) (sB HB hb)))); clear BK131 BK132 HB; obtain ⟨HO135, HO138, BK131, BK132, HB⟩ := n_; (try clear hb ho0 ho1)) | ((with_reducible refine gate_dst (N := 8) rfl ?_); refine bE 8 #[.slice none 0 0, .slice none 0 0] 30 ?_; intro gb139 hg w36 hbox hb; have n_ := aI (rB HO135 hb) (aI (rB HO138 hb) (aI (kB BK131 hb) (aI (kB BK132 hb) (aI (sB HB hb) (aI (aM hbox) (aI (gE HB hg) (aI (gE HB hg) (aI (nL BK131 hg) (aI (nG BK131 hg) (aI (nL BK132 hg) (nG BK132 hg))))))))))); clear HO135 HO138 BK131 BK132 HB; obtain ⟨HO135, HO138, BK131, BK132, HB, BK139, GW139, GE139, NB131_139, NB139_131, NB132_139, NB139_132⟩ := n_; (try clear hb hbox hg); obtain ⟨Ao37, co37, eo37⟩ := Kd.R_slice HO135.out; subst eo37; have hnb38 := NB139_131.out; have hnc38 := NB131_139.out; have hnb39 := NB139_132.out; have hnc39 := NB132_139.out; have hcz40_0 := cZ0 BK139; have hcz40_1 := cZ1 BK139; have hfz40_0 := blk_frozen BK139.out 0; have hfz40_1 := blk_frozen BK139.out 1; obtain ⟨Ao41, co41, eo41⟩ := Kd.R_slice HO138.out; subst eo41) | ((with_reducible refine gate_builtin (b := .append) (xs := #[.tmp 12, .tmp 16]) rfl ?_); at_builtin; refine Kd.R_append k65 (w0 := w) w.heap.size rfl (.tmp 12) (.tmp 16) 28 65 (.agg #[(.int .i64 0), (.string ⟨#[]⟩)]) 24 rfl Try.underlying28 info65 rfl (by decide) (by omega) (.slice Ao41 t136.length co41) t136 (⟨a1, a2⟩ : S65) [.int .i64 a1, .string a2] (fun _ => True) (fun _ => False) rfl (by first | (go_simp; done) | (go_simp; rfl)) ?aP (fun _ hk => hk.elim) ?aF ?aO ?aB ?aS ?aL ?_; (case aP => exact k65_mkM _ _ _ (⟨a1, a2⟩ : S65)); (case aB => exact bB); (case aF => exact (fun _ _ => trivial)); (case aO => exact (rP (Kd.R_mono (Kd.R_far (p := ⟨gb139, 1, none⟩) (Kd.R_far (p := ⟨gb139, 0, none⟩) (Kd.R_types HO138.out BK139.out (by decide)) (fun _ hk => hk.2) (.slice Ao37 t133.length co37)) (fun _ hk => hk.2) (.slice Ao41 t136.length co41)) (fun _ hk => trivial)))); (case aS => exact (zB HB)); (case aL => have := LMc5.out; omega); intro v141 w42 ho hb hg hat; rw [← Ny140.out] at ho; have n_ := aI (aM (blk_grown (g := gb131) (o := .cells #[.slice A0_0 l0_0.length c0_0, .slice A0_1 l0_1.length c0_1] 30 (0, 0)) (kP BK131) hg (Kd.R_ne HO138.out BK131.out (by decide)))) (aI (aM (blk_grown (g := gb132) (o := .cells #[.slice none 0 0, .slice none 0 0] 30 (0, 0)) (kP BK132) hg (Kd.R_ne HO138.out BK132.out (by decide)))) (aI (aM (Kd.R_over' (rP (Kd.R_mono (Kd.R_far (p := ⟨gb139, 1, none⟩) (Kd.R_far (p := ⟨gb139, 0, none⟩) (Kd.R_types HO135.out BK139.out (by decide)) (fun _ hk => hk.2) (.slice Ao37 t133.length co37)) (fun _ hk => hk.2) (.slice Ao41 t136.length co41)) (fun _ h_ => h_.1))) (Kd.R_typed (rP (Kd.R_mono (Kd.R_far (p := ⟨gb139, 1, none⟩) (Kd.R_far (p := ⟨gb139, 0, none⟩) (Kd.R_types HO138.out BK139.out (by decide)) (fun _ hk => hk.2) (.slice Ao37 t133.length co37)) (fun _ hk => hk.2) (.slice Ao41 t136.length co41)) (fun _ h_ => h_.1)))) (by decide) hg)) (aI (aM (blk_grown (g := gb139) (o := .cells #[.slice Ao37 t133.length co37, .slice Ao41 t136.length co41] 30 (0, 0)) (by (with_reducible repeat (first | refine blk_drewN ?_ _ | refine blk_drew ?_ | refine blk_alloc ?_ _)); refine blk_put (cs := #[.slice Ao37 t133.length co37, .slice none 0 0]) ?_ 1 _ rfl; (with_reducible repeat (first | refine blk_drewN ?_ _ | refine blk_drew ?_ | refine blk_alloc ?_ _)); refine blk_put (cs := #[.slice none 0 0, .slice none 0 0]) ?_ 0 _ rfl; (with_reducible repeat (first | refine blk_drewN ?_ _ | refine blk_drew ?_ | refine blk_alloc ?_ _)); exact BK139.out) hg (Kd.R_ne HO138.out BK139.out (by decide)))) (aI (aM (hb)) (aM (ho)))))); clear BK131 BK132 HO135 BK139 HB HO138; obtain ⟨BK131, BK132, HO135, BK139, HB, HO142⟩ := n_; (try clear ho hb hg hat); obtain ⟨Ao43, co43, eo43⟩ := Kd.R_slice HO142.out; subst eo43; have hcz44_0 := cZ0 BK139; have hcz44_1 := cZ1 BK139; have hfz44_0 := blk_frozen BK139.out 0; have hfz44_1 := blk_frozen BK139.out 1; have hcz45_0 := cZ0 BK131; have hcz45_1 := cZ1 BK131; have hfz45_0 := blk_frozen BK131.out 0; have hfz45_1 := blk_frozen BK131.out 1) | ((with_reducible refine gate_callee (f := 16) rfl ?_); refine gL (some 20) Try.func16 #[.agg #[.slice A0_0 l0_0.length c0_0, .slice A0_1 l0_1.length c0_1]] ?_; (with_reducible refine (spec_DiskOk.calls k _ _ l0_0 _ _ l0_1 true _ ?side1 ?side2 ?side3 ?side4 A6.out).mono ?_); (case side1 => exact cS HR0_0 HB); (case side2 => exact HC0_0.out); (case side3 => exact cS HR0_1 HB); (case side4 => exact HC0_1.out); rintro e w46 ⟨rfl, hb⟩; refine ⟨_, rfl, ?_⟩; have n_ := aI (aM (Kd.R_below (rP (Kd.R_mono (Kd.R_far (p := ⟨gb139, 1, none⟩) (Kd.R_types HO135.out BK139.out (by decide)) (fun _ hk => hk.2) (.slice Ao43 y140.length co43)) (fun _ h_ => h_.1))) hb)) (aI (aM (Kd.R_below (rP (Kd.R_mono (Kd.R_far (p := ⟨gb139, 1, none⟩) (Kd.R_types HO142.out BK139.out (by decide)) (fun _ hk => hk.2) (.slice Ao43 y140.length co43)) (fun _ h_ => h_.1))) hb)) (aI (kB BK131 hb) (aI (kB BK132 hb) (aI (aM (blk_below (g := gb139) (o := .cells #[.slice Ao37 t133.length co37, .slice Ao43 y140.length co43] 30 (0, 0)) (by (with_reducible repeat (first | refine blk_drewN ?_ _ | refine blk_drew ?_ | refine blk_alloc ?_ _)); refine blk_put (cs := #[.slice Ao37 t133.length co37, .slice Ao41 t136.length co41]) ?_ 1 _ rfl; (with_reducible repeat (first | refine blk_drewN ?_ _ | refine blk_drew ?_ | refine blk_alloc ?_ _)); exact BK139.out) hb)) (sB HB hb))))); clear HO135 HO142 BK131 BK132 BK139 HB; obtain ⟨HO135, HO142, BK131, BK132, BK139, HB⟩ := n_; (try clear hb); have hcz47_0 := cZ0 BK139; have hcz47_1 := cZ1 BK139; have hfz47_0 := blk_frozen BK139.out 0; have hfz47_1 := blk_frozen BK139.out 1) | (go_at_call 16; (with_reducible refine (spec_DiskOk.calls k _ _ t133 _ _ y140 false _ ?side1 ?side2 ?side3 ?side4 A8.out).mono ?_); (case side1 => exact cR HO135); (case side2 => exact (Kd.R_reads' HO135.out).2.1); (case side3 => exact cR HO142); (case side4 => exact (Kd.R_reads' HO142.out).2.1); rintro e w48 ⟨rfl, hb⟩; have n_ := aI (rB HO135 hb) (aI (rB HO142 hb) (aI (kB BK131 hb) (aI (kB BK132 hb) (aI (kB BK139 hb) (sB HB hb))))); clear HO135 HO142 BK131 BK132 BK139 HB; obtain ⟨HO135, HO142, BK131, BK132, BK139, HB⟩ := n_; (try clear hb); have hcz49_0 := cZ0 BK131; have hcz49_1 := cZ1 BK131; have hfz49_0 := blk_frozen BK131.out 0; have hfz49_1 := blk_frozen BK131.out 1) | ((with_reducible refine gate_callee (f := 75) rfl ?_); refine gL (some 28) Try.func75 #[.agg #[.slice A0_0 l0_0.length c0_0, .slice A0_1 l0_1.length c0_1]] ?_; (with_reducible refine (spec_l3Copy.calls _ _ l0_0 _ _ l0_1 t145 t148 _ ?side1 ?side2 ?side3 ?side4 A30.out).mono ?_); (case side1 => exact cS HR0_0 HB); (case side2 => exact HC0_0.out); (case side3 => exact cS HR0_1 HB); (case side4 => exact HC0_1.out); rintro e w50 ⟨v146, v149, rfl, ho0, ho1, hb⟩; refine ⟨_, rfl, ?_⟩; have n_ := aI (eR HO135 ho0 hb) (aI (eR HO142 ho1 hb) (aI (aM (Kd.R_lower (Kd.R_new' ho0 (rL HO135)) (zB HB))) (aI (aM (Kd.R_lower (Kd.R_new' ho1 (rL HO142)) (zB HB))) (aI (kB BK131 hb) (aI (kB BK132 hb) (aI (kB BK139 hb) (sB HB hb))))))); clear HO135 HO142 BK131 BK132 BK139 HB; obtain ⟨HO135, HO142, HO147, HO150, BK131, BK132, BK139, HB⟩ := n_; (try clear hb ho0 ho1); obtain ⟨Ao51, co51, eo51⟩ := Kd.R_slice HO147.out; subst eo51; have hcz52_0 := cZ0 BK132; have hcz52_1 := cZ1 BK132; have hfz52_0 := blk_frozen BK132.out 0; have hfz52_1 := blk_frozen BK132.out 1; obtain ⟨Ao53, co53, eo53⟩ := Kd.R_slice HO150.out; subst eo53))
   refine bodyPost_ret (results_ct rfl _ _ gb132 30 #[.slice Ao51 t145.length co51, .slice Ao53 t148.length co53] (0, 0) _ rfl (by (with_reducible repeat (first | refine blk_drewN ?_ _ | refine blk_drew ?_ | refine blk_alloc ?_ _)); refine blk_put (cs := #[.slice Ao51 t145.length co51, .slice none 0 0]) ?_ 1 _ rfl; (with_reducible repeat (first | refine blk_drewN ?_ _ | refine blk_drew ?_ | refine blk_alloc ?_ _)); refine blk_put (cs := #[.slice none 0 0, .slice none 0 0]) ?_ 0 _ rfl; (with_reducible repeat (first | refine blk_drewN ?_ _ | refine blk_drew ?_ | refine blk_alloc ?_ _)); exact BK132.out) Try.underlying30 rfl (by kernel_rfl)) rfl ?_
   exact ⟨_, _, eW, by (with_reducible repeat (first | apply Kd.R_alloc | apply Kd.R_drewN | apply Kd.R_drew)); exact Kd.R_mono (Kd.R_far (p := ⟨gb132, 1, none⟩) (Kd.R_far (p := ⟨gb132, 0, none⟩) (Kd.R_types HO147.out BK132.out (by decide)) (fun _ hk => hk.2) (.slice Ao51 t145.length co51)) (fun _ hk => hk.2) (.slice Ao53 t148.length co53)) (fun _ hk => trivial), by (with_reducible repeat (first | apply Kd.R_alloc | apply Kd.R_drewN | apply Kd.R_drew)); exact Kd.R_mono (Kd.R_far (p := ⟨gb132, 1, none⟩) (Kd.R_far (p := ⟨gb132, 0, none⟩) (Kd.R_types HO150.out BK132.out (by decide)) (fun _ hk => hk.2) (.slice Ao51 t145.length co51)) (fun _ hk => hk.2) (.slice Ao53 t148.length co53)) (fun _ hk => trivial), bB⟩
  replace c7 := Bool.eq_false_iff.mpr c7
  subst c7
  rw [if_neg (show ¬ (false = true) by decide)] at H
  replace H := Option.bind_eq_some_iff.mp H
  obtain ⟨⟨t151, t154⟩, A540, H⟩ := H
  try dsimp only at H
  have A54 := aM A540
  clear A540
  simp only [Option.some.injEq, Prod.mk.injEq] at H
  obtain ⟨rfl, rfl, rfl⟩ := H
  go_enter Try.func28, Try.ntmps28
  go_wp2_with (first | ((with_reducible refine gate_dst (N := 3) rfl ?_); refine bE 3 #[.slice A0_0 l0_0.length c0_0, .slice A0_1 l0_1.length c0_1] 30 ?_; intro gb131 hg w55 hbox hb; have n_ := aI (sB HB hb) (aI (aM hbox) (aI (gE HB hg) (gE HB hg))); clear HB; obtain ⟨HB, BK131, GW131, GE131⟩ := n_; (try clear hb hbox hg)) | ((with_reducible refine gate_dst (N := 6) rfl ?_); refine bE 6 #[.slice none 0 0, .slice none 0 0] 30 ?_; intro gb132 hg w56 hbox hb; have n_ := aI (kB BK131 hb) (aI (sB HB hb) (aI (aM hbox) (aI (gE HB hg) (aI (gE HB hg) (aI (nL BK131 hg) (nG BK131 hg)))))); clear BK131 HB; obtain ⟨BK131, HB, BK132, GW132, GE132, NB131_132, NB132_131⟩ := n_; (try clear hb hbox hg); have hnb57 := NB131_132.out; have hnc57 := NB132_131.out; have hcz58_0 := cZ0 BK131; have hcz58_1 := cZ1 BK131; have hfz58_0 := blk_frozen BK131.out 0; have hfz58_1 := blk_frozen BK131.out 1) | ((with_reducible refine gate_callee (f := 75) rfl ?_); refine gL (some 10) Try.func75 #[.agg #[.slice A0_0 l0_0.length c0_0, .slice A0_1 l0_1.length c0_1]] ?_; (with_reducible refine (spec_l3Copy.calls _ _ l0_0 _ _ l0_1 t133 t136 _ ?side1 ?side2 ?side3 ?side4 A4.out).mono ?_); (case side1 => exact cS HR0_0 HB); (case side2 => exact HC0_0.out); (case side3 => exact cS HR0_1 HB); (case side4 => exact HC0_1.out); rintro e w59 ⟨v134, v137, rfl, ho0, ho1, hb⟩; refine ⟨_, rfl, ?_⟩; have n_ := aI (lR HB ho0) (aI (lR HB ho1) (aI (kB BK131 hb) (aI (kB BK132 hb) (sB HB hb)))); clear BK131 BK132 HB; obtain ⟨HO135, HO138, BK131, BK132, HB⟩ := n_; (try clear hb ho0 ho1)) | ((with_reducible refine gate_dst (N := 8) rfl ?_); refine bE 8 #[.slice none 0 0, .slice none 0 0] 30 ?_; intro gb139 hg w60 hbox hb; have n_ := aI (rB HO135 hb) (aI (rB HO138 hb) (aI (kB BK131 hb) (aI (kB BK132 hb) (aI (sB HB hb) (aI (aM hbox) (aI (gE HB hg) (aI (gE HB hg) (aI (nL BK131 hg) (aI (nG BK131 hg) (aI (nL BK132 hg) (nG BK132 hg))))))))))); clear HO135 HO138 BK131 BK132 HB; obtain ⟨HO135, HO138, BK131, BK132, HB, BK139, GW139, GE139, NB131_139, NB139_131, NB132_139, NB139_132⟩ := n_; (try clear hb hbox hg); obtain ⟨Ao61, co61, eo61⟩ := Kd.R_slice HO135.out; subst eo61; have hnb62 := NB139_131.out; have hnc62 := NB131_139.out; have hnb63 := NB139_132.out; have hnc63 := NB132_139.out; have hcz64_0 := cZ0 BK139; have hcz64_1 := cZ1 BK139; have hfz64_0 := blk_frozen BK139.out 0; have hfz64_1 := blk_frozen BK139.out 1; obtain ⟨Ao65, co65, eo65⟩ := Kd.R_slice HO138.out; subst eo65) | ((with_reducible refine gate_builtin (b := .append) (xs := #[.tmp 12, .tmp 16]) rfl ?_); at_builtin; refine Kd.R_append k65 (w0 := w) w.heap.size rfl (.tmp 12) (.tmp 16) 28 65 (.agg #[(.int .i64 0), (.string ⟨#[]⟩)]) 24 rfl Try.underlying28 info65 rfl (by decide) (by omega) (.slice Ao65 t136.length co65) t136 (⟨a1, a2⟩ : S65) [.int .i64 a1, .string a2] (fun _ => True) (fun _ => False) rfl (by first | (go_simp; done) | (go_simp; rfl)) ?aP (fun _ hk => hk.elim) ?aF ?aO ?aB ?aS ?aL ?_; (case aP => exact k65_mkM _ _ _ (⟨a1, a2⟩ : S65)); (case aB => exact bB); (case aF => exact (fun _ _ => trivial)); (case aO => exact (rP (Kd.R_mono (Kd.R_far (p := ⟨gb139, 1, none⟩) (Kd.R_far (p := ⟨gb139, 0, none⟩) (Kd.R_types HO138.out BK139.out (by decide)) (fun _ hk => hk.2) (.slice Ao61 t133.length co61)) (fun _ hk => hk.2) (.slice Ao65 t136.length co65)) (fun _ hk => trivial)))); (case aS => exact (zB HB)); (case aL => have := LMc5.out; omega); intro v141 w66 ho hb hg hat; rw [← Ny140.out] at ho; have n_ := aI (aM (blk_grown (g := gb131) (o := .cells #[.slice A0_0 l0_0.length c0_0, .slice A0_1 l0_1.length c0_1] 30 (0, 0)) (kP BK131) hg (Kd.R_ne HO138.out BK131.out (by decide)))) (aI (aM (blk_grown (g := gb132) (o := .cells #[.slice none 0 0, .slice none 0 0] 30 (0, 0)) (kP BK132) hg (Kd.R_ne HO138.out BK132.out (by decide)))) (aI (aM (Kd.R_over' (rP (Kd.R_mono (Kd.R_far (p := ⟨gb139, 1, none⟩) (Kd.R_far (p := ⟨gb139, 0, none⟩) (Kd.R_types HO135.out BK139.out (by decide)) (fun _ hk => hk.2) (.slice Ao61 t133.length co61)) (fun _ hk => hk.2) (.slice Ao65 t136.length co65)) (fun _ h_ => h_.1))) (Kd.R_typed (rP (Kd.R_mono (Kd.R_far (p := ⟨gb139, 1, none⟩) (Kd.R_far (p := ⟨gb139, 0, none⟩) (Kd.R_types HO138.out BK139.out (by decide)) (fun _ hk => hk.2) (.slice Ao61 t133.length co61)) (fun _ hk => hk.2) (.slice Ao65 t136.length co65)) (fun _ h_ => h_.1)))) (by decide) hg)) (aI (aM (blk_grown (g := gb139) (o := .cells #[.slice Ao61 t133.length co61, .slice Ao65 t136.length co65] 30 (0, 0)) (by (with_reducible repeat (first | refine blk_drewN ?_ _ | refine blk_drew ?_ | refine blk_alloc ?_ _)); refine blk_put (cs := #[.slice Ao61 t133.length co61, .slice none 0 0]) ?_ 1 _ rfl; (with_reducible repeat (first | refine blk_drewN ?_ _ | refine blk_drew ?_ | refine blk_alloc ?_ _)); refine blk_put (cs := #[.slice none 0 0, .slice none 0 0]) ?_ 0 _ rfl; (with_reducible repeat (first | refine blk_drewN ?_ _ | refine blk_drew ?_ | refine blk_alloc ?_ _)); exact BK139.out) hg (Kd.R_ne HO138.out BK139.out (by decide)))) (aI (aM (hb)) (aM (ho)))))); clear BK131 BK132 HO135 BK139 HB HO138; obtain ⟨BK131, BK132, HO135, BK139, HB, HO142⟩ := n_; (try clear ho hb hg hat); obtain ⟨Ao67, co67, eo67⟩ := Kd.R_slice HO142.out; subst eo67; have hcz68_0 := cZ0 BK139; have hcz68_1 := cZ1 BK139; have hfz68_0 := blk_frozen BK139.out 0; have hfz68_1 := blk_frozen BK139.out 1; have hcz69_0 := cZ0 BK131; have hcz69_1 := cZ1 BK131; have hfz69_0 := blk_frozen BK131.out 0; have hfz69_1 := blk_frozen BK131.out 1) | ((with_reducible refine gate_callee (f := 16) rfl ?_); refine gL (some 20) Try.func16 #[.agg #[.slice A0_0 l0_0.length c0_0, .slice A0_1 l0_1.length c0_1]] ?_; (with_reducible refine (spec_DiskOk.calls k _ _ l0_0 _ _ l0_1 false _ ?side1 ?side2 ?side3 ?side4 A6.out).mono ?_); (case side1 => exact cS HR0_0 HB); (case side2 => exact HC0_0.out); (case side3 => exact cS HR0_1 HB); (case side4 => exact HC0_1.out); rintro e w70 ⟨rfl, hb⟩; refine ⟨_, rfl, ?_⟩; have n_ := aI (aM (Kd.R_below (rP (Kd.R_mono (Kd.R_far (p := ⟨gb139, 1, none⟩) (Kd.R_types HO135.out BK139.out (by decide)) (fun _ hk => hk.2) (.slice Ao67 y140.length co67)) (fun _ h_ => h_.1))) hb)) (aI (aM (Kd.R_below (rP (Kd.R_mono (Kd.R_far (p := ⟨gb139, 1, none⟩) (Kd.R_types HO142.out BK139.out (by decide)) (fun _ hk => hk.2) (.slice Ao67 y140.length co67)) (fun _ h_ => h_.1))) hb)) (aI (kB BK131 hb) (aI (kB BK132 hb) (aI (aM (blk_below (g := gb139) (o := .cells #[.slice Ao61 t133.length co61, .slice Ao67 y140.length co67] 30 (0, 0)) (by (with_reducible repeat (first | refine blk_drewN ?_ _ | refine blk_drew ?_ | refine blk_alloc ?_ _)); refine blk_put (cs := #[.slice Ao61 t133.length co61, .slice Ao65 t136.length co65]) ?_ 1 _ rfl; (with_reducible repeat (first | refine blk_drewN ?_ _ | refine blk_drew ?_ | refine blk_alloc ?_ _)); exact BK139.out) hb)) (sB HB hb))))); clear HO135 HO142 BK131 BK132 BK139 HB; obtain ⟨HO135, HO142, BK131, BK132, BK139, HB⟩ := n_; (try clear hb); have hcz71_0 := cZ0 BK131; have hcz71_1 := cZ1 BK131; have hfz71_0 := blk_frozen BK131.out 0; have hfz71_1 := blk_frozen BK131.out 1) | ((with_reducible refine gate_callee (f := 75) rfl ?_); refine gL (some 28) Try.func75 #[.agg #[.slice A0_0 l0_0.length c0_0, .slice A0_1 l0_1.length c0_1]] ?_; (with_reducible refine (spec_l3Copy.calls _ _ l0_0 _ _ l0_1 t151 t154 _ ?side1 ?side2 ?side3 ?side4 A54.out).mono ?_); (case side1 => exact cS HR0_0 HB); (case side2 => exact HC0_0.out); (case side3 => exact cS HR0_1 HB); (case side4 => exact HC0_1.out); rintro e w72 ⟨v152, v155, rfl, ho0, ho1, hb⟩; refine ⟨_, rfl, ?_⟩; have n_ := aI (eR HO135 ho0 hb) (aI (eR HO142 ho1 hb) (aI (aM (Kd.R_lower (Kd.R_new' ho0 (rL HO135)) (zB HB))) (aI (aM (Kd.R_lower (Kd.R_new' ho1 (rL HO142)) (zB HB))) (aI (kB BK131 hb) (aI (kB BK132 hb) (aI (kB BK139 hb) (sB HB hb))))))); clear HO135 HO142 BK131 BK132 BK139 HB; obtain ⟨HO135, HO142, HO153, HO156, BK131, BK132, BK139, HB⟩ := n_; (try clear hb ho0 ho1); obtain ⟨Ao73, co73, eo73⟩ := Kd.R_slice HO153.out; subst eo73; have hcz74_0 := cZ0 BK132; have hcz74_1 := cZ1 BK132; have hfz74_0 := blk_frozen BK132.out 0; have hfz74_1 := blk_frozen BK132.out 1; obtain ⟨Ao75, co75, eo75⟩ := Kd.R_slice HO156.out; subst eo75))
  refine bodyPost_ret (results_ct rfl _ _ gb132 30 #[.slice Ao73 t151.length co73, .slice Ao75 t154.length co75] (0, 0) _ rfl (by (with_reducible repeat (first | refine blk_drewN ?_ _ | refine blk_drew ?_ | refine blk_alloc ?_ _)); refine blk_put (cs := #[.slice Ao73 t151.length co73, .slice none 0 0]) ?_ 1 _ rfl; (with_reducible repeat (first | refine blk_drewN ?_ _ | refine blk_drew ?_ | refine blk_alloc ?_ _)); refine blk_put (cs := #[.slice none 0 0, .slice none 0 0]) ?_ 0 _ rfl; (with_reducible repeat (first | refine blk_drewN ?_ _ | refine blk_drew ?_ | refine blk_alloc ?_ _)); exact BK132.out) Try.underlying30 rfl (by kernel_rfl)) rfl ?_
  exact ⟨_, _, eW, by (with_reducible repeat (first | apply Kd.R_alloc | apply Kd.R_drewN | apply Kd.R_drew)); exact Kd.R_mono (Kd.R_far (p := ⟨gb132, 1, none⟩) (Kd.R_far (p := ⟨gb132, 0, none⟩) (Kd.R_types HO153.out BK132.out (by decide)) (fun _ hk => hk.2) (.slice Ao73 t151.length co73)) (fun _ hk => hk.2) (.slice Ao75 t154.length co75)) (fun _ hk => trivial), by (with_reducible repeat (first | apply Kd.R_alloc | apply Kd.R_drewN | apply Kd.R_drew)); exact Kd.R_mono (Kd.R_far (p := ⟨gb132, 1, none⟩) (Kd.R_far (p := ⟨gb132, 0, none⟩) (Kd.R_types HO156.out BK132.out (by decide)) (fun _ hk => hk.2) (.slice Ao73 t151.length co73)) (fun _ hk => hk.2) (.slice Ao75 t154.length co75)) (fun _ hk => trivial), bB⟩
 rw [if_neg c5] at H
 exact absurd H (by simp)

/-! ### slices_Clone_string_string: function 111 -/
def slices_Clone_string_string.f (l0 : List ByteArray) : Option (List ByteArray) := if l0.length < 8796093022208 then some l0 else none
set_option maxHeartbeats 8000000 in
set_option maxRecDepth 100000 in
theorem slices_Clone_string_string.calls (A0 : Option Addr) (c0 : Nat) (l0 : List ByteArray) (r : List ByteArray) (w : World) (hr0 : Kd.C Kd.string w A0 l0.length l0) (hc0 : l0.length ≤ c0) (h : slices_Clone_string_string.f l0 = some r) :
  Calls Try.prog 111 #[.slice A0 l0.length c0] w fun e w' => ∃ v0_ : Value, e = .returned (v0_) ∧ Kd.R Kd.string 9 w' w.heap.size (fun _ => True) v0_ r ∧ Below w.heap.size w w' := by
 unfold slices_Clone_string_string.f at h
 split at h
 ·rename_i hlim
  obtain rfl := Option.some.inj h
  clear h
  have HB := aM (Below.refl w.heap.size w)
  have qs : ∀ (w : World) (a : Option Addr) (n c n' c' : Nat), (binOp .eql 22 (.slice a n c) (.slice none n' c')).run Try.prog w = .ok (.bool a.isNone) w := fun w a n c n' c' => Go.Lib.run_eql_slice_nil w _ _ a n c n' c' Try.underlying22
  cases A0 with
  | none =>
   have h0 : l0 = [] := by
    cases l0 with
    | nil => rfl
    | cons x l =>
     obtain ⟨ad, e, _⟩ := hr0.2.2 (by simp)
     cases e
   subst h0
   clear hr0
   go_enter Try.func111, Try.ntmps111
   go_wp2
   go_ret
   exact ⟨_, by first | rfl | (simp; done), Kd.R_nil _ _ _ _ _, bB⟩
  | some ad =>
   have HR0 := aM hr0
   have LM := aM hlim
   clear hr0 hc0 hlim
   go_enter Try.func111, Try.ntmps111
   go_wp2_with (first | ((with_reducible refine gate_dst (N := 5) rfl ?_); refine Kd.R_lit Kd.string _ 9 ?hg (N := 5) ?hd (xs := ([] : List ByteArray)) (inner := []) (ok := fun _ => True) (okp := fun _ => True) ?hr ?hp (fun _ hk => hk) trivial (Below.refl _ _) (Nat.le_refl _) (by simp) ?_; (case hd => rfl); (case hg => rfl); (case hr => first | (go_simp; done) | (go_simp; rfl)); (case hp => exact (Reps.none _ _)); intro v171 w3 ho4 hb hg_ hnew_; clear hg_ hnew_; have n_ := aI (lR HB ho4) (sB HB hb); clear HB; obtain ⟨HO172, HB⟩ := n_; (try clear hb ho4)) | ((with_reducible refine gate_builtin (b := .append) (xs := #[.tmp 5, .tmp 6]) rfl ?_); at_builtin; refine Kd.R_append_rows Kd.string (w0 := w) w.heap.size rfl (.tmp 5) (.tmp 6) 22 9 (.string ⟨#[]⟩) 16 rfl Try.underlying22 info9 rfl (by decide) (by omega) v171 [] l0 _ _ _ (fun _ => True) (fun _ => False) rfl rfl ?aO ?aR (fun _ _ h => h) (fun _ h => h.elim) ?aF ?aB ?aS ?aL ?_; (case aR => exact cS HR0 HB); (case aB => exact bB); (case aF => exact (fun _ _ => trivial)); (case aO => exact (rP HO172.out)); (case aS => exact (zB HB)); (case aL => have := LM.out; simp only [List.length_nil]; omega); intro v174 w5 ho hb hg hat; rw [List.nil_append] at ho; have n_ := aI (aM (hb)) (aM (ho)); clear HB HO172; obtain ⟨HB, HO175⟩ := n_; (try clear ho hb hg hat)))
   go_ret
   exact ⟨_, by first | rfl | (simp; done), by (with_reducible repeat (first | apply Kd.R_alloc | apply Kd.R_drewN | apply Kd.R_drew)); exact HO175.out, bB⟩
 cases h

/-! ### slices_Clone_Put: function 112 -/
def slices_Clone_Put.f (l0 : List S65) : Option (List S65) := if l0.length < 5864062014805 then some l0 else none
set_option maxHeartbeats 8000000 in
set_option maxRecDepth 100000 in
theorem slices_Clone_Put.calls (A0 : Option Addr) (c0 : Nat) (l0 : List S65) (r : List S65) (w : World) (hr0 : Kd.C k65 w A0 l0.length l0) (hc0 : l0.length ≤ c0) (h : slices_Clone_Put.f l0 = some r) :
  Calls Try.prog 112 #[.slice A0 l0.length c0] w fun e w' => ∃ v0_ : Value, e = .returned (v0_) ∧ Kd.R k65 65 w' w.heap.size (fun _ => True) v0_ r ∧ Below w.heap.size w w' := by
 unfold slices_Clone_Put.f at h
 split at h
 ·rename_i hlim
  obtain rfl := Option.some.inj h
  clear h
  have HB := aM (Below.refl w.heap.size w)
  have qs : ∀ (w : World) (a : Option Addr) (n c n' c' : Nat), (binOp .eql 28 (.slice a n c) (.slice none n' c')).run Try.prog w = .ok (.bool a.isNone) w := fun w a n c n' c' => Go.Lib.run_eql_slice_nil w _ _ a n c n' c' Try.underlying28
  cases A0 with
  | none =>
   have h0 : l0 = [] := by
    cases l0 with
    | nil => rfl
    | cons x l =>
     obtain ⟨ad, e, _⟩ := hr0.2.2 (by simp)
     cases e
   subst h0
   clear hr0
   go_enter Try.func112, Try.ntmps112
   go_wp2
   go_ret
   exact ⟨_, by first | rfl | (simp; done), Kd.R_nil _ _ _ _ _, bB⟩
  | some ad =>
   have HR0 := aM hr0
   have LM := aM hlim
   clear hr0 hc0 hlim
   go_enter Try.func112, Try.ntmps112
   go_wp2_with (first | ((with_reducible refine gate_dst (N := 5) rfl ?_); refine Kd.R_lit k65 _ 65 ?hg (N := 5) ?hd (xs := ([] : List S65)) (inner := []) (ok := fun _ => True) (okp := fun _ => True) ?hr ?hp (fun _ hk => hk) trivial (Below.refl _ _) (Nat.le_refl _) (by simp) ?_; (case hd => rfl); (case hg => rfl); (case hr => first | (go_simp; done) | (go_simp; rfl)); (case hp => exact (Reps.none _ _)); intro v171 w3 ho4 hb hg_ hnew_; clear hg_ hnew_; have n_ := aI (lR HB ho4) (sB HB hb); clear HB; obtain ⟨HO172, HB⟩ := n_; (try clear hb ho4)) | ((with_reducible refine gate_builtin (b := .append) (xs := #[.tmp 5, .tmp 6]) rfl ?_); at_builtin; refine Kd.R_append_rows k65 (w0 := w) w.heap.size rfl (.tmp 5) (.tmp 6) 28 65 (.agg #[(.int .i64 0), (.string ⟨#[]⟩)]) 24 rfl Try.underlying28 info65 rfl (by decide) (by omega) v171 [] l0 _ _ _ (fun _ => True) (fun _ => False) rfl rfl ?aO ?aR (fun _ _ h => h) (fun _ h => h.elim) ?aF ?aB ?aS ?aL ?_; (case aR => exact cS HR0 HB); (case aB => exact bB); (case aF => exact (fun _ _ => trivial)); (case aO => exact (rP HO172.out)); (case aS => exact (zB HB)); (case aL => have := LM.out; simp only [List.length_nil]; omega); intro v174 w5 ho hb hg hat; rw [List.nil_append] at ho; have n_ := aI (aM (hb)) (aM (ho)); clear HB HO172; obtain ⟨HB, HO175⟩ := n_; (try clear ho hb hg hat)))
   go_ret
   exact ⟨_, by first | rfl | (simp; done), by (with_reducible repeat (first | apply Kd.R_alloc | apply Kd.R_drewN | apply Kd.R_drew)); exact HO175.out, bB⟩
 cases h

/-! ### impl_cloneDisk: function 76 -/
def impl_cloneDisk.f (l0_0 : List ByteArray) (l0_1 : List (S65)) : Option (List ByteArray × (List (S65))) := (slices_Clone_string_string.f l0_0).bind fun t159 => ((slices_Clone_Put.f l0_1).bind fun t162 => (some (t159, t162)))
def impl_cloneDisk.T1 : Bool × List (List Nat × List Nat) := (true, [([], []), ([0], [0]), ([1], [1]), ([], []), ([3], [3]), ([4, 2], [4]), ([2, 5], [2, 5]), ([6, 5, 0, 1, 2, 3, 4, 5, 6], [6])])
def impl_cloneDisk.B1 : List Nat := [0, 1, 3, 0, 8, 31, 63, 127]
theorem impl_cloneDisk.tab1 : rtab .any (opsOf Try.f76 1) = impl_cloneDisk.T1 := by kernel_rfl
theorem impl_cloneDisk.bits1 : waitsOk impl_cloneDisk.T1.2 impl_cloneDisk.B1 = true := by kernel_rfl
set_option maxHeartbeats 8000000 in
set_option maxRecDepth 100000 in
theorem impl_cloneDisk.calls (A0_0 : Option Addr) (c0_0 : Nat) (l0_0 : List ByteArray) (A0_1 : Option Addr) (c0_1 : Nat) (l0_1 : List (S65)) (r1 : List ByteArray) (r2 : List (S65)) (w : World) (hr0_0 : Kd.C Kd.string w A0_0 l0_0.length l0_0) (hc0_0 : l0_0.length ≤ c0_0) (hr0_1 : Kd.C k65 w A0_1 l0_1.length l0_1) (hc0_1 : l0_1.length ≤ c0_1) (h : impl_cloneDisk.f l0_0 l0_1 = some (r1, r2)) :
  Calls Try.prog 76 #[.agg #[.slice A0_0 l0_0.length c0_0, .slice A0_1 l0_1.length c0_1]] w fun e w' => ∃ v0_ v1_ : Value, e = .returned (.agg #[v0_, v1_]) ∧ Kd.R Kd.string 9 w' w.heap.size (fun _ => True) v0_ r1 ∧ Kd.R k65 65 w' w.heap.size (fun _ => True) v1_ r2 ∧ Below w.heap.size w w' := by
 have hu30 := Try.underlying30
 have HR0_0 := aM hr0_0
 have HC0_0 := aM hc0_0
 clear hr0_0 hc0_0
 have HR0_1 := aM hr0_1
 have HC0_1 := aM hc0_1
 clear hr0_1 hc0_1
 have HB := aM (Below.refl w.heap.size w)
 unfold impl_cloneDisk.f at h
 have H := h
 clear h
 replace H := Option.bind_eq_some_iff.mp H
 obtain ⟨t159, A20, H⟩ := H
 try dsimp only at H
 have A2 := aM A20
 clear A20
 replace H := Option.bind_eq_some_iff.mp H
 obtain ⟨t162, A30, H⟩ := H
 try dsimp only at H
 have A3 := aM A30
 clear A30
 simp only [Option.some.injEq, Prod.mk.injEq] at H
 obtain ⟨rfl, rfl⟩ := H
 go_enter Try.func76, Try.ntmps76
 try go_wp2_with (first | ((with_reducible refine gate_dst (N := 1) rfl ?_); refine bE 1 #[.slice A0_0 l0_0.length c0_0, .slice A0_1 l0_1.length c0_1] 30 ?_; intro gb157 hg w4 hbox hb; have n_ := aI (sB HB hb) (aI (aM hbox) (aI (gE HB hg) (gE HB hg))); clear HB; obtain ⟨HB, BK157, GW157, GE157⟩ := n_; (try clear hb hbox hg)) | ((with_reducible refine gate_dst (N := 2) rfl ?_); refine bE 2 #[.slice none 0 0, .slice none 0 0] 30 ?_; intro gb158 hg w5 hbox hb; have n_ := aI (kB BK157 hb) (aI (sB HB hb) (aI (aM hbox) (aI (gE HB hg) (aI (gE HB hg) (aI (nL BK157 hg) (nG BK157 hg)))))); clear BK157 HB; obtain ⟨BK157, HB, BK158, GW158, GE158, NB157_158, NB158_157⟩ := n_; (try clear hb hbox hg)))
 have n0_ := aM (blk_drew BK157.out)
 have n1_ := aM (blk_drew BK158.out)
 have n2_ := aM (below_drew1 HB.out)
 clear BK157
 clear BK158
 clear HB
 have BK157 := n0_
 have BK158 := n1_
 have HB := n2_
 clear n0_ n1_ n2_
 refine start_ (n := 8) (S := fun w' => w'.cell? ⟨gb157, 0, none⟩ = some (.slice A0_0 l0_0.length c0_0) ∧ w'.cell? ⟨gb157, 1, none⟩ = some (.slice A0_1 l0_1.length c0_1)) (ds := []) #[tF, tF, tF, tF, tF, tF, tF, tF] (by kernel_rfl) rfl rfl ⟨(blk_cell BK157.out 0).trans rfl, (blk_cell BK157.out 1).trans rfl⟩ (fun hHeld => ?_); refine with_tabW impl_cloneDisk.tab1 impl_cloneDisk.bits1 (fun HT_ HW_ => ?_)
 generalize w5.drew = w6 at BK157 BK158 HB hHeld ⊢
 refine pY 0 3 #[tT, tF, tF, tF, tF, tF, tF, tF] ?_
 refine pY 3 6 #[tT, tF, tF, tT, tF, tF, tF, tF] ?_
 refine take_ (i := 1) (N := some 4) (v := ?_) (a' := ?_) #[tT, tT, tF, tT, tF, tF, tF, tF] rfl rfl (take_ofW HT_.out HW_.out (by kernel_rfl)) (fun _ _ _ h => h) (Or.inl ⟨by rfl, ?_⟩) hHeld ?_ ?_
 rotate_left
 ·rintro w' ⟨s0, s1⟩
  go_simp
  with_reducible rfl
 rotate_left
 ·simp only [Act.put, List.setIfInBounds_toArray, List.set_cons_zero, List.set_cons_succ, i64_w, i32_w]
  rfl
 refine take_ (i := 4) (N := some 7) (v := ?_) (a' := ?_) #[tT, tT, tF, tT, tT, tF, tF, tF] rfl rfl (take_ofW HT_.out HW_.out (by kernel_rfl)) (fun _ _ _ h => h) (Or.inl ⟨by rfl, ?_⟩) hHeld ?_ ?_
 rotate_left
 ·rintro w' ⟨s0, s1⟩
  go_simp
  with_reducible rfl
 rotate_left
 ·simp only [Act.put, List.setIfInBounds_toArray, List.set_cons_zero, List.set_cons_succ, i64_w, i32_w]
  rfl
 refine one_ (i := 2) (N := some 5) #[tT, tT, tT, tT, tT, tF, tF, tF] rfl rfl (one_of HT_.out (by kernel_rfl)) (by decide) (fun K hK => ?_)
 refine goes_ Try.func111 (by kernel_rfl) rfl #[.slice A0_0 l0_0.length c0_0] (by rfl) rfl rfl (by (try simp only [List.map_toArray, List.map_cons, List.map_nil]); first | done | rfl | (simp only [List.length_drop, List.length_take]; rfl)) ?_
 with_reducible refine (slices_Clone_string_string.calls _ _ l0_0 t159 _ ?side1 ?side2 A2.out).mono ?_
 (case side1 => exact cS HR0_0 HB)
 (case side2 => exact HC0_0.out)
 rintro e w7 ⟨v160, rfl, ho0, hb⟩
 refine ⟨_, rfl, ?_⟩
 have n0_ := lR HB ho0
 have n1_ := kB BK157 hb
 have n2_ := kB BK158 hb
 have n3_ := sB HB hb
 clear BK157
 clear BK158
 clear HB
 have HO161 := n0_
 have BK157 := n1_
 have BK158 := n2_
 have HB := n3_
 clear n0_ n1_ n2_ n3_
 (try clear hb)
 (try clear hb2)
 (try clear hk)
 (try clear hi)
 (try clear ho0)
 refine hK.out _ _ ⟨(blk_cell BK157.out 0).trans rfl, (blk_cell BK157.out 1).trans rfl⟩ (fun hHeld => ?_)
 clear hK K
 refine norm_ (a' := ?_) ?_ ?_
 rotate_left
 ·show Act.put _ (some 5) _ = _
  simp only [Act.put, List.setIfInBounds_toArray, List.set_cons_zero, List.set_cons_succ, i64_w, i32_w]
  rfl
 refine one_ (i := 5) (N := some 8) #[tT, tT, tT, tT, tT, tT, tF, tF] rfl rfl (one_of HT_.out (by kernel_rfl)) (by decide) (fun K hK => ?_)
 refine goes_ Try.func112 (by kernel_rfl) rfl #[.slice A0_1 l0_1.length c0_1] (by rfl) rfl rfl (by (try simp only [List.map_toArray, List.map_cons, List.map_nil]); first | done | rfl | (simp only [List.length_drop, List.length_take]; rfl)) ?_
 with_reducible refine (slices_Clone_Put.calls _ _ l0_1 t162 _ ?side1 ?side2 A3.out).mono ?_
 (case side1 => exact cS HR0_1 HB)
 (case side2 => exact HC0_1.out)
 rintro e w8 ⟨v163, rfl, ho0, hb⟩
 refine ⟨_, rfl, ?_⟩
 have n0_ := rB HO161 hb
 have n1_ := lR HB ho0
 have n2_ := kB BK157 hb
 have n3_ := kB BK158 hb
 have n4_ := sB HB hb
 clear HO161
 clear BK157
 clear BK158
 clear HB
 have HO161 := n0_
 have HO164 := n1_
 have BK157 := n2_
 have BK158 := n3_
 have HB := n4_
 clear n0_ n1_ n2_ n3_ n4_
 (try clear hb)
 (try clear hb2)
 (try clear hk)
 (try clear hi)
 (try clear ho0)
 obtain ⟨Ao9, co9, eo9⟩ := Kd.R_slice HO164.out
 (first | subst eo9 | (injection eo9 with f1_ f2_ f3_; have f4_ := f1_.symm; have f5_ := f3_.symm; clear f1_ f2_ f3_; subst f4_; subst f5_))
 obtain ⟨Ao10, co10, eo10⟩ := Kd.R_slice HO161.out
 (first | subst eo10 | (injection eo10 with f1_ f2_ f3_; have f4_ := f1_.symm; have f5_ := f3_.symm; clear f1_ f2_ f3_; subst f4_; subst f5_))
 refine hK.out _ _ ⟨(blk_cell BK157.out 0).trans rfl, (blk_cell BK157.out 1).trans rfl⟩ (fun hHeld => ?_)
 clear hK K
 refine norm_ (a' := ?_) ?_ ?_
 rotate_left
 ·show Act.put _ (some 8) _ = _
  simp only [Act.put, List.setIfInBounds_toArray, List.set_cons_zero, List.set_cons_succ, i64_w, i32_w]
  rfl
 refine pY 6 9 #[tT, tT, tT, tT, tT, tT, tT, tF] ?_
 refine one_ (i := 7) (N := none) #[tT, tT, tT, tT, tT, tT, tT, tT] rfl rfl (one_of HT_.out (by kernel_rfl)) (by decide) (fun K hK => ?_)
 have hs11 : w8.cell? ⟨gb158, 0, none⟩ = some (.slice none 0 0) := (blk_cell BK158.out 0).trans rfl
 have hfs11 := blk_frozen BK158.out 0
 have hns11_0 := NB157_158.out
 have hms11_0 := NB158_157.out
 have hs12 : w8.cell? ⟨gb158, 1, none⟩ = some (.slice none 0 0) := (blk_cell BK158.out 1).trans rfl
 have hfs12 := blk_frozen BK158.out 1
 have hns12_0 := NB157_158.out
 have hms12_0 := NB158_157.out
 refine skip_ (w1 := ?_) (by rfl) rfl ?_ ?_
 rotate_left
 ·go_simp
  rfl
 refine hK.out _ _ ⟨((cell_far (p := ⟨gb158, _, none⟩) NB157_158.out _).trans (((cell_far (p := ⟨gb158, _, none⟩) NB157_158.out _).trans (hHeld.1)))), ((cell_far (p := ⟨gb158, _, none⟩) NB157_158.out _).trans (((cell_far (p := ⟨gb158, _, none⟩) NB157_158.out _).trans (hHeld.2))))⟩ (fun hHeld => ?_)
 clear hK K
 refine done_ (done_of HT_.out (by kernel_rfl)) ?_
 try go_wp2
 refine bodyPost_ret (results_cell_row rfl _ _ gb158 30 #[.slice Ao10 t159.length co10, .slice Ao9 t162.length co9] (0, 0) _ rfl (by (with_reducible repeat (first | refine blk_drewN ?_ _ | refine blk_drew ?_ | refine blk_alloc ?_ _)); refine blk_put (cs := #[.slice Ao10 t159.length co10, .slice none 0 0]) ?_ 1 _ rfl; (with_reducible repeat (first | refine blk_drewN ?_ _ | refine blk_drew ?_ | refine blk_alloc ?_ _)); refine blk_put (cs := #[.slice none 0 0, .slice none 0 0]) ?_ 0 _ rfl; (with_reducible repeat (first | refine blk_drewN ?_ _ | refine blk_drew ?_ | refine blk_alloc ?_ _)); exact BK158.out) Try.underlying30 rfl (by kernel_rfl)) rfl ?_
 exact ⟨_, _, eW, by (with_reducible repeat (first | apply Kd.R_alloc | apply Kd.R_drewN | apply Kd.R_drew)); exact Kd.R_mono (Kd.R_far (p := ⟨gb158, 1, none⟩) (Kd.R_far (p := ⟨gb158, 0, none⟩) (Kd.R_types HO161.out BK158.out (by decide)) (fun _ hk => hk.2) (.slice Ao10 t159.length co10)) (fun _ hk => hk.2) (.slice Ao9 t162.length co9)) (fun _ hk => trivial), by (with_reducible repeat (first | apply Kd.R_alloc | apply Kd.R_drewN | apply Kd.R_drew)); exact Kd.R_mono (Kd.R_far (p := ⟨gb158, 1, none⟩) (Kd.R_far (p := ⟨gb158, 0, none⟩) (Kd.R_types HO164.out BK158.out (by decide)) (fun _ hk => hk.2) (.slice Ao10 t159.length co10)) (fun _ hk => hk.2) (.slice Ao9 t162.length co9)) (fun _ hk => trivial), bB⟩

end Go.Proofs.Ytgmpdkefegofhaa.PFnFlushed
