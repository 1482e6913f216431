-- Written by xprint.py, a program of this session over the kit's print. Not trusted: Lean checks it.
import Derived.Test.YtgmpdkefegofhaaPFnExactRecoverx0
import Derived.Test.YtgmpdkefegofhaaPFnExactRecoverx3
namespace Go.Proofs.Ytgmpdkefegofhaa.PFnExactRecover
open Go.RowKit Go.Proofs.YtgmpdkefegofhaaW.PrintWords Go.Proofs.YtgmpdkefegofhaaW.PrintLast Go.Proofs.YtgmpdkefegofhaaW.PrintMore
attribute [local go_sem] max2_int min2_int max_two min_two max_three min_three max_four min_four   -- for this text's walks alone
set_option linter.unusedVariables false
set_option linter.unusedSimpArgs false

/-! ### spec_DiskOk: function 16 -/
mutual
def spec_DiskOk.j0 : Nat → Bool → List ByteArray → List (S65) → Option (Bool)
 | 0, _, _, _ => none
 | k + 1, x13, x168000, x168001 => if x13 = true then (some false) else (spec_DiskOk.l0 k 0 x168000 x168001)
def spec_DiskOk.l0 : Nat → Int → List ByteArray → List (S65) → Option (Bool)
 | 0, _, _, _ => none
 | k + 1, x3, x168000, x168001 => if x3 < (x168000.length : Int) then (if 0 ≤ x3 then (if ((rdOf ByteArray.empty x168000 x3).size : Int) > 90 then (some false) else (spec_DiskOk.l0 k (wrap64 (x3 + 1)) x168000 x168001)) else (none)) else ((spec_l3PutsOk.f k x168001 (x168000.length : Int)).bind fun t169 => (some t169))
end
def spec_DiskOk.f (k : Nat) (l0_0 : List ByteArray) (l0_1 : List (S65)) : Option (Bool) := if (l0_0.length : Int) > 120 then (spec_DiskOk.j0 k true l0_0 l0_1) else (spec_DiskOk.j0 k (decide ((l0_1.length : Int) > 400)) l0_0 l0_1)
theorem spec_DiskOk.mono_l : ∀ k, (∀ y0 y1 y2, LeO (spec_DiskOk.j0 k y0 y1 y2) (spec_DiskOk.j0 (k + 1) y0 y1 y2)) ∧ (∀ y0 y1 y2, LeO (spec_DiskOk.l0 k y0 y1 y2) (spec_DiskOk.l0 (k + 1) y0 y1 y2))
 | 0 => ⟨fun _ _ _ r h => by simp [spec_DiskOk.j0] at h, fun _ _ _ r h => by simp [spec_DiskOk.l0] at h⟩
 | k + 1 => by
  obtain ⟨ih0, ih1⟩ := spec_DiskOk.mono_l k
  refine ⟨?_, ?_⟩
  ·intro y0 y1 y2
   unfold spec_DiskOk.j0
   have m0_ := @spec_l3PutsOk.mono
   exact mM
  ·intro y0 y1 y2
   unfold spec_DiskOk.l0
   have m0_ := @spec_l3PutsOk.mono
   exact mM
theorem spec_DiskOk.mono : ∀ a0 a1 k, LeO (spec_DiskOk.f k a0 a1) (spec_DiskOk.f (k + 1) a0 a1) := by
 intro a0 a1 k
 obtain ⟨ih0, ih1⟩ := spec_DiskOk.mono_l k
 unfold spec_DiskOk.f
 have m0_ := @spec_l3PutsOk.mono
 exact mM
set_option maxHeartbeats 8000000 in
set_option maxRecDepth 100000 in
theorem spec_DiskOk.calls (k : Nat) (A0_0 : Option Addr) (c0_0 : Nat) (l0_0 : List ByteArray) (A0_1 : Option Addr) (c0_1 : Nat) (l0_1 : List (S65)) (r : Bool) (w : World) (hr0_0 : Kd.C Kd.string w A0_0 l0_0.length l0_0) (hc0_0 : l0_0.length ≤ c0_0) (hr0_1 : Kd.C k65 w A0_1 l0_1.length l0_1) (hc0_1 : l0_1.length ≤ c0_1) (h : spec_DiskOk.f k l0_0 l0_1 = some r) :
  Calls Try.prog 16 #[.agg #[.slice A0_0 l0_0.length c0_0, .slice A0_1 l0_1.length c0_1]] w fun e w' => e = .returned (.bool r) ∧ Below w.heap.size w w' := by
 have hu30 := Try.underlying30
 have HR0_0 := Aside0.mk hr0_0
 have HC0_0 := Aside0.mk hc0_0
 clear hr0_0 hc0_0
 have HR0_1 := Aside0.mk hr0_1
 have HC0_1 := Aside0.mk hc0_1
 clear hr0_1 hc0_1
 have HB := Aside0.mk (Below.refl w.heap.size w)
 unfold spec_DiskOk.f at h
 have H := h
 clear h
 have HC2 := Aside0.mk H
 clear H
 go_enter Try.func16, Try.ntmps16
 go_upto_region 1 with (first | ((with_reducible refine gate_dst (N := 1) rfl ?_); (try (refine gate_guard (by rfl) ?_; dsimp only)); refine box_event ?hg (N := 1) ?hd (cs := #[.slice A0_0 l0_0.length c0_0, .slice A0_1 l0_1.length c0_1]) (t := 30) ?hr ?_; (case hd => rfl); (case hg => rfl); (case hr => first | (go_simp; done) | (go_simp; rfl)); intro gb167 hg w3 hbox hb; have n_ := And.intro (sB HB hb) (And.intro (Aside0.mk hbox) (And.intro (gE HB hg) (gE HB hg))); clear HB; obtain ⟨HB, BK167, GW167, GE167⟩ := n_; (try clear hb hbox hg)))
 (try simp only [Act.put, List.setIfInBounds_toArray, List.set_cons_zero, List.set_cons_succ])
 go_cut [13] (fun v13 wc => ∃ (kq : Nat) (x13_1 : Bool), v13 = .bool x13_1 ∧ Aside0 (spec_DiskOk.j0 kq x13_1 l0_0 l0_1 = some r) ∧ Aside0 (kq ≤ k) ∧ Aside0 (wc.heap[gb167]? = some (.cells #[(.slice A0_0 l0_0.length c0_0), (.slice A0_1 l0_1.length c0_1)] 30 (0, 0))) ∧ Aside0 (Below w.heap.size w wc))
 case first =>
  have H := HC2.out
  clear HC2
  by_cases c4 : (l0_0.length : Int) > 120
  ·rw [if_pos c4] at H
   have c4b0 : decide (120 < (l0_0.length : Int)) = true := decide_eq_true c4
   have c4b1 : decide (120 < l0_0.length) = true := decide_eq_true (by omega)
   clear c4
   (first | rw [c4b0] | (simp only [i64_w, i32_w]; rw [c4b0]) | rw [c4b1] | rw [c4b2] | skip)
   have H' := Aside0.mk H
   clear H
   have hcz5_0 := cZ0 BK167
   have hcz5_1 := cZ1 BK167
   have hfz5_0 := blk_frozen BK167.out 0
   have hfz5_1 := blk_frozen BK167.out 1
   go_wp2
   go_meet
   case rel => exact ⟨_, (true), (by first | rfl | (simp; done) | (simp [*]; done) | (simp; exact (by intro l_; cases l_ <;> rfl : ∀ l_ : List UInt8, l_.isEmpty = !(l_ != [])) _)), H', ⟨by first | omega | exact Nat.le_refl _⟩, ⟨kP BK167⟩, ⟨bB⟩⟩
  rw [if_neg c4] at H
  have c4b0 : decide (120 < (l0_0.length : Int)) = false := decide_eq_false c4
  have c4b1 : decide (120 < l0_0.length) = false := decide_eq_false (by omega)
  clear c4
  (first | rw [c4b0] | (simp only [i64_w, i32_w]; rw [c4b0]) | rw [c4b1] | rw [c4b2] | skip)
  have H' := Aside0.mk H
  clear H
  have hcz6_0 := cZ0 BK167
  have hcz6_1 := cZ1 BK167
  have hfz6_0 := blk_frozen BK167.out 0
  have hfz6_1 := blk_frozen BK167.out 1
  go_wp2
  go_meet
  case rel => exact ⟨_, (decide ((l0_1.length : Int) > 400)), (by first | rfl | (simp; done) | (simp [*]; done) | (simp; exact (by intro l_; cases l_ <;> rfl : ∀ l_ : List UInt8, l_.isEmpty = !(l_ != [])) _)), H', ⟨by first | omega | exact Nat.le_refl _⟩, ⟨kP BK167⟩, ⟨bB⟩⟩
 case rest =>
  clear HC2
  try clear c1
  try clear p2
  try clear c4
  try clear c4b0
  try clear c4b1
  try clear c4b2
  try clear hcz5_0
  try clear hcz5_1
  try clear hcz6_0
  try clear hcz6_1
  try clear hfz5_0
  try clear hfz5_1
  try clear hfz6_0
  try clear hfz6_1
  obtain ⟨kq, x13_1, rfl, HA, HJ1, BK167, HB⟩ := hcut
  cases kq with
  | zero => exact absurd HA.out (by simp [spec_DiskOk.j0])
  | succ kj1 =>
   have H := HA.out
   clear HA
   simp only [spec_DiskOk.j0] at H
   by_cases c7 : x13_1 = true
   ·subst c7
    rw [if_pos rfl] at H
    obtain rfl := Option.some.inj H
    go_wp2
    go_ret
    exact ⟨eW, bB⟩
   ·replace c7 := Bool.eq_false_iff.mpr c7
    subst c7
    rw [if_neg (show ¬ (false = true) by decide)] at H
    have H' := Aside0.mk H
    clear H
    go_wp2
    go_loopg [3] kj1 (fun kq v3 w' => ∃ (x3_2 : Int), v3 = .int .i64 x3_2 ∧ Aside0 (spec_DiskOk.l0 kq x3_2 l0_0 l0_1 = some r) ∧ Aside0 (kq ≤ kj1) ∧ Aside0 (w'.heap[gb167]? = some (.cells #[(.slice A0_0 l0_0.length c0_0), (.slice A0_1 l0_1.length c0_1)] 30 (0, 0))) ∧ Aside0 (Below w.heap.size w w'))
    case atStart => exact ⟨(0), (by first | rfl | (simp; done) | (simp [*]; done) | (simp; exact (by intro l_; cases l_ <;> rfl : ∀ l_ : List UInt8, l_.isEmpty = !(l_ != [])) _)), H', ⟨Nat.le_refl _⟩, ⟨kP BK167⟩, ⟨bB⟩⟩
    case round =>
     clear H'
     try clear c1
     try clear p2
     try clear c4
     try clear c4b0
     try clear c4b1
     try clear c4b2
     try clear c7
     try clear hcz5_0
     try clear hcz5_1
     try clear hcz6_0
     try clear hcz6_1
     try clear hfz5_0
     try clear hfz5_1
     try clear hfz6_0
     try clear hfz6_1
     try clear p2
     obtain ⟨x3_2, rfl, HA, HK2, BK167, HB⟩ := hrel
     cases gk with
     | zero => exact absurd HA.out (by simp [spec_DiskOk.l0])
     | succ k2 =>
      have H := HA.out
      clear HA
      simp only [spec_DiskOk.l0] at H
      by_cases c8 : x3_2 < (l0_0.length : Int)
      ·rw [if_pos c8] at H
       have c8b0 : decide (x3_2 < (l0_0.length : Int)) = true := decide_eq_true c8
       clear c8
       by_cases c9 : 0 ≤ x3_2
       ·rw [if_pos c9] at H
        have c9b0 : decide (0 ≤ x3_2) = true := decide_eq_true c9
        clear c9
        by_cases c10 : ((rdOf ByteArray.empty l0_0 x3_2).size : Int) > 90
        ·rw [if_pos c10] at H
         have c10b0 : decide (90 < ((rdOf ByteArray.empty l0_0 x3_2).size : Int)) = true := decide_eq_true c10
         have c10b1 : decide (90 < (rdOf ByteArray.empty l0_0 x3_2).size) = true := decide_eq_true (by omega)
         clear c10
         obtain rfl := Option.some.inj H
         have hcz11_0 := cZ0 BK167
         have hcz11_1 := cZ1 BK167
         have hfz11_0 := blk_frozen BK167.out 0
         have hfz11_1 := blk_frozen BK167.out 1
         have p168 : 0 ≤ (x3_2 : Int) := dT
         have q168 : x3_2 < (l0_0.length : Int) := dT
         obtain ⟨ad168, e168, hx168_0⟩ := Kd.at_string HR0_0.out x3_2 p168 q168
         cases e168
         replace hx168_0 := (HB.out.cell (World.block_lt_of_cell? w _ hx168_0)).trans hx168_0
         replace p168 := eq_true p168
         replace q168 := eq_true q168
         go_wp2
         go_ret
         exact ⟨eW, bB⟩
        ·rw [if_neg c10] at H
         have c10b0 : decide (90 < ((rdOf ByteArray.empty l0_0 x3_2).size : Int)) = false := decide_eq_false c10
         have c10b1 : decide (90 < (rdOf ByteArray.empty l0_0 x3_2).size) = false := decide_eq_false (by omega)
         clear c10
         have H' := Aside0.mk H
         clear H
         have hcz12_0 := cZ0 BK167
         have hcz12_1 := cZ1 BK167
         have hfz12_0 := blk_frozen BK167.out 0
         have hfz12_1 := blk_frozen BK167.out 1
         have p168 : 0 ≤ (x3_2 : Int) := dT
         have q168 : x3_2 < (l0_0.length : Int) := dT
         obtain ⟨ad168, e168, hx168_0⟩ := Kd.at_string HR0_0.out x3_2 p168 q168
         cases e168
         replace hx168_0 := (HB.out.cell (World.block_lt_of_cell? w _ hx168_0)).trans hx168_0
         replace p168 := eq_true p168
         replace q168 := eq_true q168
         go_wp2
         go_roundg k2
         case measure => have := HJ1.out; have := HK2.out; omega
         case rel => exact ⟨(wrap64 (x3_2 + 1)), (by first | rfl | (simp; done) | (simp [*]; done) | (simp; exact (by intro l_; cases l_ <;> rfl : ∀ l_ : List UInt8, l_.isEmpty = !(l_ != [])) _)), H', ⟨by have := HJ1.out; have := HK2.out; omega⟩, ⟨kP BK167⟩, ⟨bB⟩⟩
       ·rw [if_neg c9] at H
        exact absurd H (by simp)
      ·rw [if_neg c8] at H
       have c8b0 : decide (x3_2 < (l0_0.length : Int)) = false := decide_eq_false c8
       clear c8
       replace H := Option.bind_eq_some_iff.mp H
       obtain ⟨t169, A130, H⟩ := H
       try dsimp only at H
       have A13 := Aside0.mk A130
       clear A130
       obtain rfl := Option.some.inj H
       have hcz14_0 := cZ0 BK167
       have hcz14_1 := cZ1 BK167
       have hfz14_0 := blk_frozen BK167.out 0
       have hfz14_1 := blk_frozen BK167.out 1
       go_wp2_with (first | ((with_reducible refine gate_callee (f := 59) rfl ?_); refine gL (some 33) Try.func59 #[.slice A0_1 l0_1.length c0_1, .int .i64 (l0_0.length : Int)] ?_; (with_reducible refine (spec_l3PutsOk.calls k2 _ _ l0_1 (l0_0.length : Int) t169 _ ?side1 ?side2 A13.out).mono ?_); (case side1 => exact cS HR0_1 HB); (case side2 => exact HC0_1.out); rintro e w' ⟨rfl, ⟨nd, rfl⟩⟩; refine ⟨_, rfl, ?_⟩))
       go_ret
       exact ⟨eW, bB⟩

/-! ### spec_l1Copy: function 110 -/
def spec_l1Copy.f (l0 : List ByteArray) : Option (List ByteArray) := (some (([] : List ByteArray) : List ByteArray)).bind fun y170 => (if y170.length + l0.length < 8796093022208 then (some (y170 ++ l0)) else (none))
set_option maxHeartbeats 8000000 in
set_option maxRecDepth 100000 in
theorem spec_l1Copy.calls (A0 : Option Addr) (c0 : Nat) (l0 : List ByteArray) (r : List ByteArray) (w : World) (hr0 : Kd.C Kd.string w A0 l0.length l0) (hc0 : l0.length ≤ c0) (h : spec_l1Copy.f l0 = some r) :
  Calls Try.prog 110 #[.slice A0 l0.length c0] w fun e w' => ∃ v0_ : Value, e = .returned (v0_) ∧ Kd.R Kd.string 9 w' w.heap.size (fun _ => True) v0_ r ∧ Below w.heap.size w w' := by
 have HR0 := Aside0.mk hr0
 have HC0 := Aside0.mk hc0
 clear hr0 hc0
 have HB := Aside0.mk (Below.refl w.heap.size w)
 unfold spec_l1Copy.f at h
 have H := h
 clear h
 obtain ⟨y170, hy170⟩ : ∃ y_ : List ByteArray, y_ = (([] : List ByteArray)) := ⟨_, rfl⟩
 replace H : (if y170.length + l0.length < 8796093022208 then (some (y170 ++ l0)) else (none)) = some r := by first | (rw [hy170]; with_reducible exact H) | (have H2_ := (Option.bind_some _ _).symm.trans H; rw [hy170]; with_reducible exact H2_) | (have H2_ := (Option.bind_some _ _).symm.trans H; with_reducible exact H2_) | with_reducible exact H | (rw [hy170]; exact H) | exact H
 have Ny170 := Aside0.mk hy170
 clear hy170
 by_cases c2 : y170.length + l0.length < 8796093022208
 ·rw [if_pos c2] at H
  have LMc2 := Aside0.mk c2
  clear c2
  obtain ⟨y173, hy173⟩ : ∃ y_ : List ByteArray, y_ = (y170 ++ l0) := ⟨_, rfl⟩
  replace H : (some y173) = some r := by first | (rw [hy173]; with_reducible exact H) | (have H2_ := (Option.bind_some _ _).symm.trans H; rw [hy173]; with_reducible exact H2_) | (have H2_ := (Option.bind_some _ _).symm.trans H; with_reducible exact H2_) | with_reducible exact H | (rw [hy173]; exact H) | exact H
  have Ny173 := Aside0.mk hy173
  clear hy173
  obtain rfl := Option.some.inj H
  go_enter Try.func110, Try.ntmps110
  go_wp2_with (first | ((with_reducible refine gate_dst (N := 3) rfl ?_); refine Kd.R_lit Kd.string _ 9 ?hg (N := 3) ?hd (xs := ([] : List ByteArray)) (inner := []) (ok := fun _ => True) (okp := fun _ => True) ?hr ?hp (fun _ hk => hk) trivial (Below.refl _ _) (Nat.le_refl _) (by simp) ?_; (case hd => rfl); (case hg => rfl); (case hr => first | (go_simp; done) | (go_simp; rfl)); (case hp => exact (Reps.none _ _)); intro v171 w3 ho4 hb hg_ hnew_; clear hg_ hnew_; (first | rw [← Ny170.out] at ho4 | (simp only [Int.reduceToNat] at ho4; rw [← Ny170.out] at ho4)); have n_ := And.intro (lR HB ho4) (sB HB hb); clear HB; obtain ⟨HO172, HB⟩ := n_; (try clear hb ho4)) | ((with_reducible refine gate_builtin (b := .append) (xs := #[.tmp 3, .tmp 4]) rfl ?_); at_builtin; refine Kd.R_append_rows Kd.string (w0 := w) w.heap.size rfl (.tmp 3) (.tmp 4) 22 9 (.string ⟨#[]⟩) 16 rfl Try.underlying22 info9 rfl (by decide) (by omega) v171 y170 l0 _ _ _ (fun _ => True) (fun _ => False) rfl rfl ?aO ?aR (fun _ _ h => h) (fun _ h => h.elim) ?aF ?aB ?aS ?aL ?_; (case aR => exact cS HR0 HB); (case aB => exact bB); (case aF => exact (fun _ _ => trivial)); (case aO => exact (rP HO172.out)); (case aS => exact (zB HB)); (case aL => have := LMc2.out; omega); intro v174 w5 ho hb hg hat; rw [← Ny173.out] at ho; have n_ := And.intro (Aside0.mk (hb)) (Aside0.mk (ho)); clear HB HO172; obtain ⟨HB, HO175⟩ := n_; (try clear ho hb hg hat)))
  go_ret
  exact ⟨_, eW, by (with_reducible repeat (first | apply Kd.R_alloc | apply Kd.R_drewN | apply Kd.R_drew)); exact HO175.out, bB⟩
 rw [if_neg c2] at H
 exact absurd H (by simp)

/-! ### spec_l3Copy: function 75 -/
def spec_l3Copy.f (l0_0 : List ByteArray) (l0_1 : List (S65)) : Option (List ByteArray × (List (S65))) := (spec_l1Copy.f l0_0).bind fun t178 => ((some (([] : List (S65)) : List (S65))).bind fun y181 => (if y181.length + l0_1.length < 5864062014805 then (some (t178, (y181 ++ l0_1))) else (none)))
def spec_l3Copy.T1 : Bool × List (List Nat × List Nat) := (true, [([], []), ([0], [0]), ([1], [1]), ([], []), ([], []), ([4], [4]), ([3, 5, 2], [3, 5]), ([2, 6], [2, 6]), ([7, 6, 0, 1, 2, 3, 4, 5, 6, 7], [7])])
def spec_l3Copy.B1 : List Nat := [0, 1, 3, 0, 0, 16, 63, 127, 255]
theorem spec_l3Copy.tab1 : rtab .any (opsOf Try.f75 1) = spec_l3Copy.T1 := by kernel_rfl
theorem spec_l3Copy.bits1 : waitsOk spec_l3Copy.T1.2 spec_l3Copy.B1 = true := by kernel_rfl
set_option maxHeartbeats 8000000 in
set_option maxRecDepth 100000 in
theorem spec_l3Copy.calls (A0_0 : Option Addr) (c0_0 : Nat) (l0_0 : List ByteArray) (A0_1 : Option Addr) (c0_1 : Nat) (l0_1 : List (S65)) (r1 : List ByteArray) (r2 : List (S65)) (w : World) (hr0_0 : Kd.C Kd.string w A0_0 l0_0.length l0_0) (hc0_0 : l0_0.length ≤ c0_0) (hr0_1 : Kd.C k65 w A0_1 l0_1.length l0_1) (hc0_1 : l0_1.length ≤ c0_1) (h : spec_l3Copy.f l0_0 l0_1 = some (r1, r2)) :
  Calls Try.prog 75 #[.agg #[.slice A0_0 l0_0.length c0_0, .slice A0_1 l0_1.length c0_1]] w fun e w' => ∃ v0_ v1_ : Value, e = .returned (.agg #[v0_, v1_]) ∧ Kd.R Kd.string 9 w' w.heap.size (fun _ => True) v0_ r1 ∧ Kd.R k65 65 w' w.heap.size (fun _ => True) v1_ r2 ∧ Below w.heap.size w w' := by
 have hu30 := Try.underlying30
 have HR0_0 := Aside0.mk hr0_0
 have HC0_0 := Aside0.mk hc0_0
 clear hr0_0 hc0_0
 have HR0_1 := Aside0.mk hr0_1
 have HC0_1 := Aside0.mk hc0_1
 clear hr0_1 hc0_1
 have HB := Aside0.mk (Below.refl w.heap.size w)
 unfold spec_l3Copy.f at h
 have H := h
 clear h
 replace H := Option.bind_eq_some_iff.mp H
 obtain ⟨t178, A20, H⟩ := H
 try dsimp only at H
 have A2 := Aside0.mk A20
 clear A20
 obtain ⟨y181, hy181⟩ : ∃ y_ : List (S65), y_ = (([] : List (S65))) := ⟨_, rfl⟩
 replace H : (if y181.length + l0_1.length < 5864062014805 then (some (t178, (y181 ++ l0_1))) else (none)) = some (r1, r2) := by first | (rw [hy181]; with_reducible exact H) | (have H2_ := (Option.bind_some _ _).symm.trans H; rw [hy181]; with_reducible exact H2_) | (have H2_ := (Option.bind_some _ _).symm.trans H; with_reducible exact H2_) | with_reducible exact H | (rw [hy181]; exact H) | exact H
 have Ny181 := Aside0.mk hy181
 clear hy181
 by_cases c3 : y181.length + l0_1.length < 5864062014805
 ·rw [if_pos c3] at H
  have LMc3 := Aside0.mk c3
  clear c3
  obtain ⟨y184, hy184⟩ : ∃ y_ : List (S65), y_ = (y181 ++ l0_1) := ⟨_, rfl⟩
  replace H : (some (t178, y184)) = some (r1, r2) := by first | (rw [hy184]; with_reducible exact H) | (have H2_ := (Option.bind_some _ _).symm.trans H; rw [hy184]; with_reducible exact H2_) | (have H2_ := (Option.bind_some _ _).symm.trans H; with_reducible exact H2_) | with_reducible exact H | (rw [hy184]; exact H) | exact H
  have Ny184 := Aside0.mk hy184
  clear hy184
  simp only [Option.some.injEq, Prod.mk.injEq] at H
  obtain ⟨rfl, rfl⟩ := H
  go_enter Try.func75, Try.ntmps75
  try go_wp2_with (first | ((with_reducible refine gate_dst (N := 1) rfl ?_); refine bE 1 #[.slice A0_0 l0_0.length c0_0, .slice A0_1 l0_1.length c0_1] 30 ?_; intro gb176 hg w4 hbox hb; have n_ := And.intro (sB HB hb) (And.intro (Aside0.mk hbox) (And.intro (gE HB hg) (gE HB hg))); clear HB; obtain ⟨HB, BK176, GW176, GE176⟩ := n_; (try clear hb hbox hg)) | ((with_reducible refine gate_dst (N := 2) rfl ?_); refine bE 2 #[.slice none 0 0, .slice none 0 0] 30 ?_; intro gb177 hg w5 hbox hb; have n_ := And.intro (kB BK176 hb) (And.intro (sB HB hb) (And.intro (Aside0.mk hbox) (And.intro (gE HB hg) (And.intro (gE HB hg) (And.intro (nL BK176 hg) (nG BK176 hg)))))); clear BK176 HB; obtain ⟨BK176, HB, BK177, GW177, GE177, NB176_177, NB177_176⟩ := n_; (try clear hb hbox hg)))
  have n0_ := Aside0.mk (blk_drew BK176.out)
  have n1_ := Aside0.mk (blk_drew BK177.out)
  have n2_ := Aside0.mk (below_drew1 HB.out)
  clear BK176
  clear BK177
  clear HB
  have BK176 := n0_
  have BK177 := n1_
  have HB := n2_
  clear n0_ n1_ n2_
  refine start_ (n := 9) (S := fun w' => w'.cell? ⟨gb176, 0, none⟩ = some (.slice A0_0 l0_0.length c0_0) ∧ w'.cell? ⟨gb176, 1, none⟩ = some (.slice A0_1 l0_1.length c0_1)) (ds := []) #[false, false, false, false, false, false, false, false, false] (by kernel_rfl) rfl rfl ⟨(blk_cell BK176.out 0).trans rfl, (blk_cell BK176.out 1).trans rfl⟩ (fun hHeld => ?_); refine with_tabW spec_l3Copy.tab1 spec_l3Copy.bits1 (fun HT_ HW_ => ?_)
  generalize w5.drew = w6 at BK176 BK177 HB hHeld ⊢
  refine pure_ (i := 0) (N := some 3) (v := ?_) (a' := ?_) #[true, false, false, false, false, false, false, false, false] rfl rfl (any_of HT_.out (by kernel_rfl)) (fun _ _ _ h => h) (Or.inl ⟨by rfl, ?_⟩) ?_ ?_
  rotate_left
  ·intro w'
   go_simp
   with_reducible rfl
  rotate_left
  ·simp only [Act.put, List.setIfInBounds_toArray, List.set_cons_zero, List.set_cons_succ, i64_w, i32_w]
   rfl
  refine pure_ (i := 4) (N := some 7) (v := ?_) (a' := ?_) #[true, false, false, false, true, false, false, false, false] rfl rfl (any_of HT_.out (by kernel_rfl)) (fun _ _ _ h => h) (Or.inl ⟨by rfl, ?_⟩) ?_ ?_
  rotate_left
  ·intro w'
   go_simp
   with_reducible rfl
  rotate_left
  ·simp only [Act.put, List.setIfInBounds_toArray, List.set_cons_zero, List.set_cons_succ, i64_w, i32_w]
   rfl
  refine take_ (i := 1) (N := some 4) (v := ?_) (a' := ?_) #[true, true, false, false, true, false, false, false, false] rfl rfl (take_ofW HT_.out HW_.out (by kernel_rfl)) (fun _ _ _ h => h) (Or.inl ⟨by rfl, ?_⟩) hHeld ?_ ?_
  rotate_left
  ·rintro w' ⟨s0, s1⟩
   go_simp
   with_reducible rfl
  rotate_left
  ·simp only [Act.put, List.setIfInBounds_toArray, List.set_cons_zero, List.set_cons_succ, i64_w, i32_w]
   rfl
  refine take_ (i := 5) (N := some 8) (v := ?_) (a' := ?_) #[true, true, false, false, true, true, false, false, false] rfl rfl (take_ofW HT_.out HW_.out (by kernel_rfl)) (fun _ _ _ h => h) (Or.inl ⟨by rfl, ?_⟩) hHeld ?_ ?_
  rotate_left
  ·rintro w' ⟨s0, s1⟩
   go_simp
   with_reducible rfl
  rotate_left
  ·simp only [Act.put, List.setIfInBounds_toArray, List.set_cons_zero, List.set_cons_succ, i64_w, i32_w]
   rfl
  refine join_ (σ := Value × Value) 3 #[true, true, true, true, true, true, false, false, false] (fun s_ => [(5, s_.1), (6, s_.2)]) (fun s_ w' => (w'.cell? ⟨gb176, 0, none⟩ = some (.slice A0_0 l0_0.length c0_0) ∧ w'.cell? ⟨gb176, 1, none⟩ = some (.slice A0_1 l0_1.length c0_1)) ∧ (Kd.R Kd.string 9 w' w.heap.size (fun _ => True) s_.1 t178) ∧ (Kd.R k65 65 w' w.heap.size (fun _ => True) s_.2 y181) ∧ (w'.heap[gb176]? = some (.cells #[.slice A0_0 l0_0.length c0_0, .slice A0_1 l0_1.length c0_1] 30 (0, 0))) ∧ (w'.heap[gb177]? = some (.cells #[.slice none 0 0, .slice none 0 0] 30 (0, 0))) ∧ (Below w.heap.size w w')) ?_ ?_
  rotate_left
  ·intro hCont
   refine two_ (i := 2) (j := 3) (Ni := some 5) (Nj := some 6) #[true, true, true, false, true, true, false, false, false] #[true, true, false, true, true, true, false, false, false] rfl rfl rfl rfl (two_of HT_.out (by kernel_rfl)) (by decide) (by decide) (fun K hK => ?_) (fun K hK => ?_)
   ·skip
    refine goes_ Try.func110 (by kernel_rfl) rfl #[.slice A0_0 l0_0.length c0_0] (by rfl) rfl rfl (by (try simp only [List.map_toArray, List.map_cons, List.map_nil]); first | done | rfl | (simp only [List.length_drop, List.length_take]; rfl)) ?_
    with_reducible refine (spec_l1Copy.calls _ _ l0_0 t178 _ ?side1 ?side2 A2.out).mono ?_
    (case side1 => exact cS HR0_0 HB)
    (case side2 => exact HC0_0.out)
    rintro e w7 ⟨v179, rfl, ho0, hb⟩
    refine ⟨_, rfl, ?_⟩
    have n0_ := lR HB ho0
    have n1_ := kB BK176 hb
    have n2_ := kB BK177 hb
    have n3_ := sB HB hb
    clear BK176
    clear BK177
    clear HB
    have HO180 := n0_
    have BK176 := n1_
    have BK177 := n2_
    have HB := n3_
    clear n0_ n1_ n2_ n3_
    (try clear hb)
    (try clear hb2)
    (try clear hk)
    (try clear hi)
    (try clear ho0)
    refine hK.out _ _ ⟨(blk_cell BK176.out 0).trans rfl, (blk_cell BK176.out 1).trans rfl⟩ (fun hHeld => ?_)
    clear hK K
    refine norm_ (a' := ?_) ?_ ?_
    rotate_left
    ·show Act.put _ (some 5) _ = _
     simp only [Act.put, List.setIfInBounds_toArray, List.set_cons_zero, List.set_cons_succ, i64_w, i32_w]
     rfl
    refine one_ (i := 3) (N := some 6) #[true, true, true, true, true, true, false, false, false] rfl rfl (one_of HT_.out (by kernel_rfl)) (by decide) (fun K hK => ?_)
    refine Kd.R_lit_step k65 _ 65 ?hg (N := 6) ?hd (xs := ([] : List (S65))) (inner := []) (ok := fun _ => True) (okp := fun _ => True) ?hr ?hp (fun _ hk => hk) trivial (Below.refl _ _) (Nat.le_refl _) (by simp) ?_; (case hd => rfl); (case hg => rfl); (case hr => first | (go_simp; done) | (go_simp; rfl)); (case hp => exact (Reps.none _ _))
    intro v182 w8 ho9 hb hg_ hnew_
    clear hg_ hnew_
    (first | rw [← Ny181.out] at ho9 | (simp only [Int.reduceToNat] at ho9; rw [← Ny181.out] at ho9))
    have n0_ := rB HO180 hb
    have n1_ := lR HB ho9
    have n2_ := kB BK176 hb
    have n3_ := kB BK177 hb
    have n4_ := sB HB hb
    clear HO180
    clear BK176
    clear BK177
    clear HB
    have HO180 := n0_
    have HO183 := n1_
    have BK176 := n2_
    have BK177 := n3_
    have HB := n4_
    clear n0_ n1_ n2_ n3_ n4_
    clear hb ho9
    refine hK.out _ _ ⟨(blk_cell BK176.out 0).trans rfl, (blk_cell BK176.out 1).trans rfl⟩ (fun hHeld => ?_)
    clear hK K
    refine norm_ (a' := ?_) ?_ ?_
    rotate_left
    ·show Act.put _ (some 6) _ = _
     simp only [Act.put, List.setIfInBounds_toArray, List.set_cons_zero, List.set_cons_succ, i64_w, i32_w]
     rfl
    exact norm_ (by simp only [putAll, Act.put, List.setIfInBounds_toArray, List.set_cons_zero, List.set_cons_succ]) (hCont (v179, v182) _ ⟨hHeld, (rP HO180.out), (rP HO183.out), (kP BK176), (kP BK177), bB⟩)
   skip
   refine Kd.R_lit_step k65 _ 65 ?hg (N := 6) ?hd (xs := ([] : List (S65))) (inner := []) (ok := fun _ => True) (okp := fun _ => True) ?hr ?hp (fun _ hk => hk) trivial (Below.refl _ _) (Nat.le_refl _) (by simp) ?_; (case hd => rfl); (case hg => rfl); (case hr => first | (go_simp; done) | (go_simp; rfl)); (case hp => exact (Reps.none _ _))
   intro v182 w7 ho8 hb hg_ hnew_
   clear hg_ hnew_
   (first | rw [← Ny181.out] at ho8 | (simp only [Int.reduceToNat] at ho8; rw [← Ny181.out] at ho8))
   have n0_ := lR HB ho8
   have n1_ := kB BK176 hb
   have n2_ := kB BK177 hb
   have n3_ := sB HB hb
   clear BK176
   clear BK177
   clear HB
   have HO183 := n0_
   have BK176 := n1_
   have BK177 := n2_
   have HB := n3_
   clear n0_ n1_ n2_ n3_
   clear hb ho8
   refine hK.out _ _ ⟨(blk_cell BK176.out 0).trans rfl, (blk_cell BK176.out 1).trans rfl⟩ (fun hHeld => ?_)
   clear hK K
   refine norm_ (a' := ?_) ?_ ?_
   rotate_left
   ·show Act.put _ (some 6) _ = _
    simp only [Act.put, List.setIfInBounds_toArray, List.set_cons_zero, List.set_cons_succ, i64_w, i32_w]
    rfl
   refine one_ (i := 2) (N := some 5) #[true, true, true, true, true, true, false, false, false] rfl rfl (one_of HT_.out (by kernel_rfl)) (by decide) (fun K hK => ?_)
   refine goes_ Try.func110 (by kernel_rfl) rfl #[.slice A0_0 l0_0.length c0_0] (by rfl) rfl rfl (by (try simp only [List.map_toArray, List.map_cons, List.map_nil]); first | done | rfl | (simp only [List.length_drop, List.length_take]; rfl)) ?_
   with_reducible refine (spec_l1Copy.calls _ _ l0_0 t178 _ ?side1 ?side2 A2.out).mono ?_
   (case side1 => exact cS HR0_0 HB)
   (case side2 => exact HC0_0.out)
   rintro e w9 ⟨v179, rfl, ho0, hb⟩
   refine ⟨_, rfl, ?_⟩
   have n0_ := rB HO183 hb
   have n1_ := lR HB ho0
   have n2_ := kB BK176 hb
   have n3_ := kB BK177 hb
   have n4_ := sB HB hb
   clear HO183
   clear BK176
   clear BK177
   clear HB
   have HO183 := n0_
   have HO180 := n1_
   have BK176 := n2_
   have BK177 := n3_
   have HB := n4_
   clear n0_ n1_ n2_ n3_ n4_
   (try clear hb)
   (try clear hb2)
   (try clear hk)
   (try clear hi)
   (try clear ho0)
   refine hK.out _ _ ⟨(blk_cell BK176.out 0).trans rfl, (blk_cell BK176.out 1).trans rfl⟩ (fun hHeld => ?_)
   clear hK K
   refine norm_ (a' := ?_) ?_ ?_
   rotate_left
   ·show Act.put _ (some 5) _ = _
    simp only [Act.put, List.setIfInBounds_toArray, List.set_cons_zero, List.set_cons_succ, i64_w, i32_w]
    rfl
   exact norm_ (by simp only [putAll, Act.put, List.setIfInBounds_toArray, List.set_cons_zero, List.set_cons_succ]) (hCont (v179, v182) _ ⟨hHeld, (rP HO180.out), (rP HO183.out), (kP BK176), (kP BK177), bB⟩)
  rintro ⟨v179, v182⟩ w10 ⟨hS_, h0_, h1_, h2_, h3_, h4_⟩
  have n0_ : Aside0 (Kd.R Kd.string 9 w10 w.heap.size (fun _ => True) v179 t178) := ⟨h0_⟩
  have n1_ : Aside0 (Kd.R k65 65 w10 w.heap.size (fun _ => True) v182 y181) := ⟨h1_⟩
  have n2_ : Aside0 (w10.heap[gb176]? = some (.cells #[.slice A0_0 l0_0.length c0_0, .slice A0_1 l0_1.length c0_1] 30 (0, 0))) := ⟨h2_⟩
  have n3_ : Aside0 (w10.heap[gb177]? = some (.cells #[.slice none 0 0, .slice none 0 0] 30 (0, 0))) := ⟨h3_⟩
  have n4_ : Aside0 (Below w.heap.size w w10) := ⟨h4_⟩
  clear BK176
  clear BK177
  clear HB
  clear h0_ h1_ h2_ h3_ h4_
  have HO180 := n0_
  have HO183 := n1_
  have BK176 := n2_
  have BK177 := n3_
  have HB := n4_
  clear n0_ n1_ n2_ n3_ n4_
  have hHeld : w10.cell? ⟨gb176, 0, none⟩ = some (.slice A0_0 l0_0.length c0_0) ∧ w10.cell? ⟨gb176, 1, none⟩ = some (.slice A0_1 l0_1.length c0_1) := hS_
  refine norm_ (a' := ?_) ?_ ?_
  rotate_left
  ·simp only [putAll, Act.put, List.setIfInBounds_toArray, List.set_cons_zero, List.set_cons_succ]
   rfl
  refine one_ (i := 6) (N := some 9) #[true, true, true, true, true, true, true, false, false] rfl rfl (one_of HT_.out (by kernel_rfl)) (by decide) (fun K hK => ?_)
  refine Kd.R_append_rows_step k65 (w0 := w) w.heap.size (by rfl) (.tmp 6) (.tmp 8) 28 65 (.agg #[(.int .i64 0), (.string ⟨#[]⟩)]) 24 rfl Try.underlying28 info65 rfl (by decide) (by omega) v182 y181 l0_1 _ _ _ (fun _ => True) (fun _ => False) rfl rfl ?aO ?aR (fun _ _ h => h) (fun _ h => h.elim) ?aF ?aB ?aS ?aL ?_
  (case aR => exact cS HR0_1 HB)
  (case aB => exact bB)
  (case aF => exact (fun _ _ => trivial))
  (case aO => exact (rP HO183.out))
  (case aS => exact (zB HB))
  (case aL => have := LMc3.out; omega)
  intro v185 w11 ho hb hg hat
  rw [← Ny184.out] at ho
  have n0_ := Aside0.mk (blk_grown (g := gb176) (o := .cells #[.slice A0_0 l0_0.length c0_0, .slice A0_1 l0_1.length c0_1] 30 (0, 0)) (kP BK176) hg (Kd.R_ne HO183.out BK176.out (by decide)))
  have n1_ := Aside0.mk (blk_grown (g := gb177) (o := .cells #[.slice none 0 0, .slice none 0 0] 30 (0, 0)) (kP BK177) hg (Kd.R_ne HO183.out BK177.out (by decide)))
  have n2_ := Aside0.mk (Kd.R_over' (rP HO180.out) (Kd.R_typed (rP HO183.out)) (by decide) hg)
  have n3_ := Aside0.mk (hb)
  have n4_ := Aside0.mk (ho)
  clear BK176
  clear BK177
  clear HO180
  clear HB
  clear HO183
  have BK176 := n0_
  have BK177 := n1_
  have HO180 := n2_
  have HB := n3_
  have HO186 := n4_
  clear n0_ n1_ n2_ n3_ n4_
  clear ho hb hg hat
  obtain ⟨Ao12, co12, eo12⟩ := Kd.R_slice HO186.out
  (first | subst eo12 | (injection eo12 with f1_ f2_ f3_; have f4_ := f1_.symm; have f5_ := f3_.symm; clear f1_ f2_ f3_; subst f4_; subst f5_))
  obtain ⟨Ao13, co13, eo13⟩ := Kd.R_slice HO180.out
  (first | subst eo13 | (injection eo13 with f1_ f2_ f3_; have f4_ := f1_.symm; have f5_ := f3_.symm; clear f1_ f2_ f3_; subst f4_; subst f5_))
  refine hK.out _ _ ⟨(blk_cell BK176.out 0).trans rfl, (blk_cell BK176.out 1).trans rfl⟩ (fun hHeld => ?_)
  clear hK K
  refine norm_ (a' := ?_) ?_ ?_
  rotate_left
  ·show Act.put _ (some 9) _ = _
   simp only [Act.put, List.setIfInBounds_toArray, List.set_cons_zero, List.set_cons_succ, i64_w, i32_w]
   rfl
  refine pure_ (i := 7) (N := some 10) (v := ?_) (a' := ?_) #[true, true, true, true, true, true, true, true, false] rfl rfl (any_of HT_.out (by kernel_rfl)) (fun _ _ _ h => h) (Or.inl ⟨by rfl, ?_⟩) ?_ ?_
  rotate_left
  ·intro w'
   go_simp
   with_reducible rfl
  rotate_left
  ·simp only [Act.put, List.setIfInBounds_toArray, List.set_cons_zero, List.set_cons_succ, i64_w, i32_w]
   rfl
  refine one_ (i := 8) (N := none) #[true, true, true, true, true, true, true, true, true] rfl rfl (one_of HT_.out (by kernel_rfl)) (by decide) (fun K hK => ?_)
  have hs14 : w11.cell? ⟨gb177, 0, none⟩ = some (.slice none 0 0) := (blk_cell BK177.out 0).trans rfl
  have hfs14 := blk_frozen BK177.out 0
  have hns14_0 := NB176_177.out
  have hms14_0 := NB177_176.out
  have hs15 : w11.cell? ⟨gb177, 1, none⟩ = some (.slice none 0 0) := (blk_cell BK177.out 1).trans rfl
  have hfs15 := blk_frozen BK177.out 1
  have hns15_0 := NB176_177.out
  have hms15_0 := NB177_176.out
  refine skip_ (w1 := ?_) (by rfl) rfl ?_ ?_
  rotate_left
  ·go_simp
   rfl
  refine hK.out _ _ ⟨((cell_far (p := ⟨gb177, _, none⟩) NB176_177.out _).trans (((cell_far (p := ⟨gb177, _, none⟩) NB176_177.out _).trans (hHeld.1)))), ((cell_far (p := ⟨gb177, _, none⟩) NB176_177.out _).trans (((cell_far (p := ⟨gb177, _, none⟩) NB176_177.out _).trans (hHeld.2))))⟩ (fun hHeld => ?_)
  clear hK K
  refine done_ (done_of HT_.out (by kernel_rfl)) ?_
  try go_wp2
  refine bodyPost_ret (results_cell_row rfl _ _ gb177 30 #[.slice Ao13 t178.length co13, .slice Ao12 y184.length co12] (0, 0) _ rfl (by (with_reducible repeat (first | refine blk_drewN ?_ _ | refine blk_drew ?_ | refine blk_alloc ?_ _)); refine blk_put (cs := #[.slice Ao13 t178.length co13, .slice none 0 0]) ?_ 1 _ rfl; (with_reducible repeat (first | refine blk_drewN ?_ _ | refine blk_drew ?_ | refine blk_alloc ?_ _)); refine blk_put (cs := #[.slice none 0 0, .slice none 0 0]) ?_ 0 _ rfl; (with_reducible repeat (first | refine blk_drewN ?_ _ | refine blk_drew ?_ | refine blk_alloc ?_ _)); exact BK177.out) Try.underlying30 rfl (by kernel_rfl)) rfl ?_
  exact ⟨_, _, eW, by (with_reducible repeat (first | apply Kd.R_alloc | apply Kd.R_drewN | apply Kd.R_drew)); exact Kd.R_mono (Kd.R_far (p := ⟨gb177, 1, none⟩) (Kd.R_far (p := ⟨gb177, 0, none⟩) (Kd.R_types HO180.out BK177.out (by decide)) (fun _ hk => hk.2) (.slice Ao13 t178.length co13)) (fun _ hk => hk.2) (.slice Ao12 y184.length co12)) (fun _ hk => trivial), by (with_reducible repeat (first | apply Kd.R_alloc | apply Kd.R_drewN | apply Kd.R_drew)); exact Kd.R_mono (Kd.R_far (p := ⟨gb177, 1, none⟩) (Kd.R_far (p := ⟨gb177, 0, none⟩) (Kd.R_types HO186.out BK177.out (by decide)) (fun _ hk => hk.2) (.slice Ao13 t178.length co13)) (fun _ hk => hk.2) (.slice Ao12 y184.length co12)) (fun _ hk => trivial), bB⟩
 rw [if_neg c3] at H
 exact absurd H (by simp)

end Go.Proofs.Ytgmpdkefegofhaa.PFnExactRecover
