-- Written by xprint.py, a program of this session over the kit's print. Not trusted: Lean checks it.
import Derived.Test.YtgmpdkefegofhaaPFnExactHomeOfx0
import Derived.Test.YtgmpdkefegofhaaPFnExactHomeOfx2
namespace Go.Proofs.Ytgmpdkefegofhaa.PFnExactHomeOf
open Go.RowKit Go.Proofs.YtgmpdkefegofhaaW.PrintWords Go.Proofs.YtgmpdkefegofhaaW.PrintLast Go.Proofs.YtgmpdkefegofhaaW.PrintMore
attribute [local go_sem] max2_int min2_int max_two min_two max_three min_three max_four min_four   -- for this text's walks alone
set_option linter.unusedVariables false
set_option linter.unusedSimpArgs false

/-! ### spec_SectorRead: function 20 -/
mutual
def spec_SectorRead.j0 : Nat → Int → Bool → List ByteArray → List (S65) → Option (ByteArray × Bool)
 | 0, _, _, _, _ => none
 | k + 1, x1, x18, x150000, x150001 => if x18 = true then (some ((⟨#[]⟩ : ByteArray), false)) else (spec_SectorRead.l0 k x1 (wrap64 ((x150001.length : Int) - 1)) x150000 x150001)
def spec_SectorRead.l0 : Nat → Int → Int → List ByteArray → List (S65) → Option (ByteArray × Bool)
 | 0, _, _, _, _ => none
 | k + 1, x1, x6, x150000, x150001 => if x6 ≥ 0 then (if 0 ≤ x6 then (if x6 < (x150001.length : Int) then (if ((rd_T65 x150001 x6).f0) = x1 then (some ((rd_T65 x150001 x6).f1, true)) else (spec_SectorRead.l0 k x1 (wrap64 (x6 - 1)) x150000 x150001)) else (none)) else (none)) else (if 0 ≤ x1 then (if x1 < (x150000.length : Int) then (some (rdOf ByteArray.empty x150000 x1, true)) else (none)) else (none))
end
def spec_SectorRead.f (k : Nat) (l0_0 : List ByteArray) (l0_1 : List (S65)) (a1 : Int) : Option (ByteArray × Bool) := (spec_DiskOk.f k l0_0 l0_1).bind fun t150 => (if t150 = true then ((spec_l1In.f a1 0 (wrap64 ((l0_0.length : Int) - 1))).bind fun t151 => (spec_SectorRead.j0 k a1 (!t151) l0_0 l0_1)) else (spec_SectorRead.j0 k a1 true l0_0 l0_1))
theorem spec_SectorRead.mono_l : ∀ k, (∀ y0 y1 y2 y3, LeO (spec_SectorRead.j0 k y0 y1 y2 y3) (spec_SectorRead.j0 (k + 1) y0 y1 y2 y3)) ∧ (∀ y0 y1 y2 y3, LeO (spec_SectorRead.l0 k y0 y1 y2 y3) (spec_SectorRead.l0 (k + 1) y0 y1 y2 y3))
 | 0 => ⟨fun _ _ _ _ r h => by simp [spec_SectorRead.j0] at h, fun _ _ _ _ r h => by simp [spec_SectorRead.l0] at h⟩
 | k + 1 => by
  obtain ⟨ih0, ih1⟩ := spec_SectorRead.mono_l k
  refine ⟨?_, ?_⟩
  ·intro y0 y1 y2 y3
   unfold spec_SectorRead.j0
   have m0_ := @spec_DiskOk.mono
   exact mM
  ·intro y0 y1 y2 y3
   unfold spec_SectorRead.l0
   have m0_ := @spec_DiskOk.mono
   exact mM
theorem spec_SectorRead.mono : ∀ a0 a1 a2 k, LeO (spec_SectorRead.f k a0 a1 a2) (spec_SectorRead.f (k + 1) a0 a1 a2) := by
 intro a0 a1 a2 k
 obtain ⟨ih0, ih1⟩ := spec_SectorRead.mono_l k
 unfold spec_SectorRead.f
 have m0_ := @spec_DiskOk.mono
 exact mM
set_option maxHeartbeats 8000000 in
set_option maxRecDepth 100000 in
theorem spec_SectorRead.calls (k : Nat) (A0_0 : Option Addr) (c0_0 : Nat) (l0_0 : List ByteArray) (A0_1 : Option Addr) (c0_1 : Nat) (l0_1 : List (S65)) (a1 : Int) (r1 : ByteArray) (r2 : Bool) (w : World) (hr0_0 : Kd.C Kd.string w A0_0 l0_0.length l0_0) (hc0_0 : l0_0.length ≤ c0_0) (hr0_1 : Kd.C k65 w A0_1 l0_1.length l0_1) (hc0_1 : l0_1.length ≤ c0_1) (h : spec_SectorRead.f k l0_0 l0_1 a1 = some (r1, r2)) :
  Calls Try.prog 20 #[.agg #[.slice A0_0 l0_0.length c0_0, .slice A0_1 l0_1.length c0_1], .int .i64 a1] w fun e w' => e = .returned (.tuple #[.string r1, .bool r2]) ∧ Below w.heap.size w w' := by
 have hu30 := Try.underlying30
 have HR0_0 := aM hr0_0
 have HC0_0 := aM hc0_0
 clear hr0_0 hc0_0
 have HR0_1 := aM hr0_1
 have HC0_1 := aM hc0_1
 clear hr0_1 hc0_1
 have HB := aM (Below.refl w.heap.size w)
 unfold spec_SectorRead.f at h
 have H := h
 clear h
 have HC3 := aM H
 clear H
 go_enter Try.func20, Try.ntmps20
 go_upto_region 1 with (first | ((with_reducible refine gate_dst (N := 2) rfl ?_); (try (refine gate_guard (by rfl) ?_; dsimp only)); refine box_event ?hg (N := 2) ?hd (cs := #[.slice A0_0 l0_0.length c0_0, .slice A0_1 l0_1.length c0_1]) (t := 30) ?hr ?_; (case hd => rfl); (case hg => rfl); (case hr => first | (go_simp; done) | (go_simp; rfl)); intro gb149 hg w4 hbox hb; have n_ := aI (sB HB hb) (aI (aM hbox) (aI (gE HB hg) (gE HB hg))); clear HB; obtain ⟨HB, BK149, GW149, GE149⟩ := n_; (try clear hb hbox hg)))
 (try simp only [Act.put, List.setIfInBounds_toArray, List.set_cons_zero, List.set_cons_succ])
 go_cut [18] (fun v18 wc => ∃ (kq : Nat) (x18_2 : Bool), v18 = .bool x18_2 ∧ Aside0 (spec_SectorRead.j0 kq a1 x18_2 l0_0 l0_1 = some (r1, r2)) ∧ Aside0 (kq ≤ k) ∧ Aside0 (wc.heap[gb149]? = some (.cells #[(.slice A0_0 l0_0.length c0_0), (.slice A0_1 l0_1.length c0_1)] 30 (0, 0))) ∧ Aside0 (Below w.heap.size w wc))
 case first =>
  have H := HC3.out
  clear HC3
  replace H := Option.bind_eq_some_iff.mp H
  obtain ⟨t150, A50, H⟩ := H
  try dsimp only at H
  have A5 := aM A50
  clear A50
  by_cases c6 : t150 = true
  ·subst c6
   rw [if_pos rfl] at H
   replace H := Option.bind_eq_some_iff.mp H
   obtain ⟨t151, A70, H⟩ := H
   try dsimp only at H
   have A7 := aM A70
   clear A70
   have H' := aM H
   clear H
   have hcz8_0 := cZ0 BK149
   have hcz8_1 := cZ1 BK149
   have hfz8_0 := fZ BK149 0
   have hfz8_1 := fZ BK149 1
   go_wp2_with (first | ((with_reducible refine gate_callee (f := 16) rfl ?_); refine gL (some 8) Try.func16 #[.agg #[.slice A0_0 l0_0.length c0_0, .slice A0_1 l0_1.length c0_1]] ?_; (with_reducible refine (spec_DiskOk.calls k _ _ l0_0 _ _ l0_1 true _ ?side1 ?side2 ?side3 ?side4 A5.out).mono ?_); (case side1 => exact cS HR0_0 HB); (case side2 => exact HC0_0.out); (case side3 => exact cS HR0_1 HB); (case side4 => exact HC0_1.out); rintro e w9 ⟨rfl, hb⟩; refine ⟨_, rfl, ?_⟩; have n_ := aI (kB BK149 hb) (sB HB hb); clear BK149 HB; obtain ⟨BK149, HB⟩ := n_; (try clear hb); have hcz10_0 := cZ0 BK149; have hcz10_1 := cZ1 BK149; have hfz10_0 := fZ BK149 0; have hfz10_1 := fZ BK149 1) | (go_at_call 69; (with_reducible refine (spec_l1In.calls a1 0 (wrap64 ((l0_0.length : Int) - 1)) t151 _ A7.out).mono ?_); rintro e w' ⟨rfl, ⟨nd, rfl⟩⟩))
   go_meet
   case rel => exact ⟨_, (!t151), (by first | rfl | (simp; done) | (simp [*]; done) | (simp; exact (by intro l_; cases l_ <;> rfl : ∀ l_ : List UInt8, l_.isEmpty = !(l_ != [])) _)), H', ⟨by first | omega | exact Nat.le_refl _⟩, ⟨kP BK149⟩, ⟨bB⟩⟩
  replace c6 := Bool.eq_false_iff.mpr c6
  subst c6
  rw [if_neg (show ¬ (false = true) by decide)] at H
  have H' := aM H
  clear H
  have hcz11_0 := cZ0 BK149
  have hcz11_1 := cZ1 BK149
  have hfz11_0 := fZ BK149 0
  have hfz11_1 := fZ BK149 1
  go_wp2_with (first | ((with_reducible refine gate_callee (f := 16) rfl ?_); refine gL (some 8) Try.func16 #[.agg #[.slice A0_0 l0_0.length c0_0, .slice A0_1 l0_1.length c0_1]] ?_; (with_reducible refine (spec_DiskOk.calls k _ _ l0_0 _ _ l0_1 false _ ?side1 ?side2 ?side3 ?side4 A5.out).mono ?_); (case side1 => exact cS HR0_0 HB); (case side2 => exact HC0_0.out); (case side3 => exact cS HR0_1 HB); (case side4 => exact HC0_1.out); rintro e w12 ⟨rfl, hb⟩; refine ⟨_, rfl, ?_⟩; have n_ := aI (kB BK149 hb) (sB HB hb); clear BK149 HB; obtain ⟨BK149, HB⟩ := n_; (try clear hb)))
  go_meet
  case rel => exact ⟨_, (true), (by first | rfl | (simp; done) | (simp [*]; done) | (simp; exact (by intro l_; cases l_ <;> rfl : ∀ l_ : List UInt8, l_.isEmpty = !(l_ != [])) _)), H', ⟨by first | omega | exact Nat.le_refl _⟩, ⟨kP BK149⟩, ⟨bB⟩⟩
 case rest =>
  clear HC3
  try clear c1
  try clear c2
  try clear p2
  try clear c6
  try clear p6
  try clear hcz10_0
  try clear hcz10_1
  try clear hcz11_0
  try clear hcz11_1
  try clear hcz8_0
  try clear hcz8_1
  try clear hfz10_0
  try clear hfz10_1
  try clear hfz11_0
  try clear hfz11_1
  try clear hfz8_0
  try clear hfz8_1
  obtain ⟨kq, x18_2, rfl, HA, HJ2, BK149, HB⟩ := hcut
  cases kq with
  | zero => exact absurd HA.out (by simp [spec_SectorRead.j0])
  | succ kj2 =>
   have H := HA.out
   clear HA
   simp only [spec_SectorRead.j0] at H
   by_cases c13 : x18_2 = true
   ·subst c13
    rw [if_pos rfl] at H
    simp only [Option.some.injEq, Prod.mk.injEq] at H
    obtain ⟨rfl, rfl⟩ := H
    go_wp2
    go_ret2
    exact ⟨eW, bB⟩
   ·replace c13 := Bool.eq_false_iff.mpr c13
    subst c13
    rw [if_neg (show ¬ (false = true) by decide)] at H
    have H' := aM H
    clear H
    have hcz14_0 := cZ0 BK149
    have hcz14_1 := cZ1 BK149
    have hfz14_0 := fZ BK149 0
    have hfz14_1 := fZ BK149 1
    go_wp2
    go_loopg [6] kj2 (fun kq v6 w' => ∃ (x6_2 : Int), v6 = .int .i64 x6_2 ∧ Aside0 (spec_SectorRead.l0 kq a1 x6_2 l0_0 l0_1 = some (r1, r2)) ∧ Aside0 (kq ≤ kj2) ∧ Aside0 (w'.heap[gb149]? = some (.cells #[(.slice A0_0 l0_0.length c0_0), (.slice A0_1 l0_1.length c0_1)] 30 (0, 0))) ∧ Aside0 (Below w.heap.size w w'))
    case atStart => exact ⟨(wrap64 ((l0_1.length : Int) - 1)), (by first | rfl | (simp; done) | (simp [*]; done) | (simp; exact (by intro l_; cases l_ <;> rfl : ∀ l_ : List UInt8, l_.isEmpty = !(l_ != [])) _)), H', ⟨Nat.le_refl _⟩, ⟨kP BK149⟩, ⟨bB⟩⟩
    case round =>
     clear H'
     try clear c1
     try clear c2
     try clear p2
     try clear c6
     try clear p6
     try clear c13
     try clear hcz10_0
     try clear hcz10_1
     try clear hcz11_0
     try clear hcz11_1
     try clear hcz14_0
     try clear hcz14_1
     try clear hcz8_0
     try clear hcz8_1
     try clear hfz10_0
     try clear hfz10_1
     try clear hfz11_0
     try clear hfz11_1
     try clear hfz14_0
     try clear hfz14_1
     try clear hfz8_0
     try clear hfz8_1
     try clear p2
     try clear p6
     obtain ⟨x6_2, rfl, HA, HK2, BK149, HB⟩ := hrel
     cases gk with
     | zero => exact absurd HA.out (by simp [spec_SectorRead.l0])
     | succ k2 =>
      have H := HA.out
      clear HA
      simp only [spec_SectorRead.l0] at H
      by_cases c15 : x6_2 ≥ 0
      ·rw [if_pos c15] at H
       have c15b0 : decide (0 ≤ x6_2) = true := decide_eq_true c15
       clear c15
       by_cases c16 : 0 ≤ x6_2
       ·rw [if_pos c16] at H
        have c16b0 : decide (0 ≤ x6_2) = true := decide_eq_true c16
        clear c16
        by_cases c17 : x6_2 < (l0_1.length : Int)
        ·rw [if_pos c17] at H
         have c17b0 : decide (x6_2 < (l0_1.length : Int)) = true := decide_eq_true c17
         clear c17
         by_cases c18 : ((rd_T65 l0_1 x6_2).f0) = a1
         ·rw [if_pos c18] at H
          have c18b0 : (((rd_T65 l0_1 x6_2).f0) == a1) = true := beq_iff_eq.mpr c18
          have c18b1 : (((rd_T65 l0_1 x6_2).f0) != a1) = false := bne_eq_false_iff_eq.mpr c18
          clear c18
          simp only [Option.some.injEq, Prod.mk.injEq] at H
          obtain ⟨rfl, rfl⟩ := H
          have hcz19_0 := cZ0 BK149
          have hcz19_1 := cZ1 BK149
          have hfz19_0 := fZ BK149 0
          have hfz19_1 := fZ BK149 1
          have p152 : 0 ≤ (x6_2 : Int) := dT
          have q152 : x6_2 < (l0_1.length : Int) := dT
          obtain ⟨ad152, e152, hx152_0, hx152_1⟩ := at_T65 HR0_1.out x6_2 p152 q152
          cases e152
          replace hx152_0 := (HB.out.cell (World.block_lt_of_cell? w _ hx152_0)).trans hx152_0
          replace hx152_1 := (HB.out.cell (World.block_lt_of_cell? w _ hx152_1)).trans hx152_1
          replace p152 := eq_true p152
          replace q152 := eq_true q152
          have p153 : 0 ≤ (x6_2 : Int) := dT
          have q153 : x6_2 < (l0_1.length : Int) := dT
          obtain ⟨ad153, e153, hx153_0, hx153_1⟩ := at_T65 HR0_1.out x6_2 p153 q153
          obtain rfl : ad152 = ad153 := (by injection e153)
          replace hx153_0 := (HB.out.cell (World.block_lt_of_cell? w _ hx153_0)).trans hx153_0
          replace hx153_1 := (HB.out.cell (World.block_lt_of_cell? w _ hx153_1)).trans hx153_1
          replace p153 := eq_true p153
          replace q153 := eq_true q153
          go_wp2
          go_ret2
          exact ⟨eW, bB⟩
         ·rw [if_neg c18] at H
          have c18b0 : (((rd_T65 l0_1 x6_2).f0) == a1) = false := beq_eq_false_iff_ne.mpr c18
          have c18b1 : (((rd_T65 l0_1 x6_2).f0) != a1) = true := bne_iff_ne.mpr c18
          have H' := aM H
          clear H
          have hcz20_0 := cZ0 BK149
          have hcz20_1 := cZ1 BK149
          have hfz20_0 := fZ BK149 0
          have hfz20_1 := fZ BK149 1
          have p152 : 0 ≤ (x6_2 : Int) := dT
          have q152 : x6_2 < (l0_1.length : Int) := dT
          obtain ⟨ad152, e152, hx152_0, hx152_1⟩ := at_T65 HR0_1.out x6_2 p152 q152
          cases e152
          replace hx152_0 := (HB.out.cell (World.block_lt_of_cell? w _ hx152_0)).trans hx152_0
          replace hx152_1 := (HB.out.cell (World.block_lt_of_cell? w _ hx152_1)).trans hx152_1
          replace p152 := eq_true p152
          replace q152 := eq_true q152
          go_wp2
          go_roundg k2
          case measure => have := HJ2.out; have := HK2.out; omega
          case rel => exact ⟨(wrap64 (x6_2 - 1)), (by first | rfl | (simp; done) | (simp [*]; done) | (simp; exact (by intro l_; cases l_ <;> rfl : ∀ l_ : List UInt8, l_.isEmpty = !(l_ != [])) _)), H', ⟨by have := HJ2.out; have := HK2.out; omega⟩, ⟨kP BK149⟩, ⟨bB⟩⟩
        ·rw [if_neg c17] at H
         exact absurd H (by simp)
       ·rw [if_neg c16] at H
        exact absurd H (by simp)
      ·rw [if_neg c15] at H
       have c15b0 : decide (0 ≤ x6_2) = false := decide_eq_false c15
       clear c15
       by_cases c21 : 0 ≤ a1
       ·rw [if_pos c21] at H
        have c21b0 : decide (0 ≤ a1) = true := decide_eq_true c21
        clear c21
        by_cases c22 : a1 < (l0_0.length : Int)
        ·rw [if_pos c22] at H
         have c22b0 : decide (a1 < (l0_0.length : Int)) = true := decide_eq_true c22
         clear c22
         simp only [Option.some.injEq, Prod.mk.injEq] at H
         obtain ⟨rfl, rfl⟩ := H
         have hcz23_0 := cZ0 BK149
         have hcz23_1 := cZ1 BK149
         have hfz23_0 := fZ BK149 0
         have hfz23_1 := fZ BK149 1
         have p154 : 0 ≤ (a1 : Int) := dT
         have q154 : a1 < (l0_0.length : Int) := dT
         obtain ⟨ad154, e154, hx154_0⟩ := Kd.at_string HR0_0.out a1 p154 q154
         cases e154
         replace hx154_0 := (HB.out.cell (World.block_lt_of_cell? w _ hx154_0)).trans hx154_0
         replace p154 := eq_true p154
         replace q154 := eq_true q154
         go_wp2
         go_ret2
         exact ⟨eW, bB⟩
        ·rw [if_neg c22] at H
         exact absurd H (by simp)
       ·rw [if_neg c21] at H
        exact absurd H (by simp)

/-! ### spec_l4Ok: function 70 -/
def spec_l4Ok.f (k : Nat) (l0_0 : List ByteArray) (l0_1 : List (S65)) (a1 : Int) : Option (Bool) := (spec_DiskOk.f k l0_0 l0_1).bind fun t156 => (if t156 = true then ((spec_l1In.f a1 1 48).bind fun t157 => (if t157 = true then (some ((l0_0.length : Int) == (wrap64 ((wrap64 (2 * a1)) + 1)))) else (some false))) else (some false))
theorem spec_l4Ok.mono : ∀ a0 a1 a2 k, LeO (spec_l4Ok.f k a0 a1 a2) (spec_l4Ok.f (k + 1) a0 a1 a2) := by
 intro a0 a1 a2 k
 unfold spec_l4Ok.f
 have m0_ := @spec_DiskOk.mono
 exact mM
set_option maxHeartbeats 8000000 in
set_option maxRecDepth 100000 in
theorem spec_l4Ok.calls (k : Nat) (A0_0 : Option Addr) (c0_0 : Nat) (l0_0 : List ByteArray) (A0_1 : Option Addr) (c0_1 : Nat) (l0_1 : List (S65)) (a1 : Int) (r : Bool) (w : World) (hr0_0 : Kd.C Kd.string w A0_0 l0_0.length l0_0) (hc0_0 : l0_0.length ≤ c0_0) (hr0_1 : Kd.C k65 w A0_1 l0_1.length l0_1) (hc0_1 : l0_1.length ≤ c0_1) (h : spec_l4Ok.f k l0_0 l0_1 a1 = some r) :
  Calls Try.prog 70 #[.agg #[.slice A0_0 l0_0.length c0_0, .slice A0_1 l0_1.length c0_1], .int .i64 a1] w fun e w' => e = .returned (.bool r) ∧ Below w.heap.size w w' := by
 have hu30 := Try.underlying30
 have HR0_0 := aM hr0_0
 have HC0_0 := aM hc0_0
 clear hr0_0 hc0_0
 have HR0_1 := aM hr0_1
 have HC0_1 := aM hc0_1
 clear hr0_1 hc0_1
 have HB := aM (Below.refl w.heap.size w)
 unfold spec_l4Ok.f at h
 have H := h
 clear h
 replace H := Option.bind_eq_some_iff.mp H
 obtain ⟨t156, A30, H⟩ := H
 try dsimp only at H
 have A3 := aM A30
 clear A30
 by_cases c4 : t156 = true
 ·subst c4
  rw [if_pos rfl] at H
  replace H := Option.bind_eq_some_iff.mp H
  obtain ⟨t157, A50, H⟩ := H
  try dsimp only at H
  have A5 := aM A50
  clear A50
  by_cases c6 : t157 = true
  ·subst c6
   rw [if_pos rfl] at H
   obtain rfl := Option.some.inj H
   go_enter Try.func70, Try.ntmps70
   go_wp2_with (first | ((with_reducible refine gate_dst (N := 2) rfl ?_); (try (refine gate_guard (by rfl) ?_; dsimp only)); refine box_event ?hg (N := 2) ?hd (cs := #[.slice A0_0 l0_0.length c0_0, .slice A0_1 l0_1.length c0_1]) (t := 30) ?hr ?_; (case hd => rfl); (case hg => rfl); (case hr => first | (go_simp; done) | (go_simp; rfl)); intro gb155 hg w7 hbox hb; have n_ := aI (sB HB hb) (aI (aM hbox) (aI (gE HB hg) (gE HB hg))); clear HB; obtain ⟨HB, BK155, GW155, GE155⟩ := n_; (try clear hb hbox hg); have hcz8_0 := cZ0 BK155; have hcz8_1 := cZ1 BK155; have hfz8_0 := fZ BK155 0; have hfz8_1 := fZ BK155 1) | ((with_reducible refine gate_callee (f := 16) rfl ?_); refine gL (some 6) Try.func16 #[.agg #[.slice A0_0 l0_0.length c0_0, .slice A0_1 l0_1.length c0_1]] ?_; (with_reducible refine (spec_DiskOk.calls k _ _ l0_0 _ _ l0_1 true _ ?side1 ?side2 ?side3 ?side4 A3.out).mono ?_); (case side1 => exact cS HR0_0 HB); (case side2 => exact HC0_0.out); (case side3 => exact cS HR0_1 HB); (case side4 => exact HC0_1.out); rintro e w9 ⟨rfl, hb⟩; refine ⟨_, rfl, ?_⟩; have n_ := aI (kB BK155 hb) (sB HB hb); clear BK155 HB; obtain ⟨BK155, HB⟩ := n_; (try clear hb)) | (go_at_call 69; (with_reducible refine (spec_l1In.calls a1 1 48 true _ A5.out).mono ?_); rintro e w' ⟨rfl, ⟨nd, rfl⟩⟩; have hcz10_0 := cZ0 BK155; have hcz10_1 := cZ1 BK155; have hfz10_0 := fZ BK155 0; have hfz10_1 := fZ BK155 1))
   go_ret
   exact ⟨eW, bB⟩
  replace c6 := Bool.eq_false_iff.mpr c6
  subst c6
  rw [if_neg (show ¬ (false = true) by decide)] at H
  obtain rfl := Option.some.inj H
  go_enter Try.func70, Try.ntmps70
  go_wp2_with (first | ((with_reducible refine gate_dst (N := 2) rfl ?_); (try (refine gate_guard (by rfl) ?_; dsimp only)); refine box_event ?hg (N := 2) ?hd (cs := #[.slice A0_0 l0_0.length c0_0, .slice A0_1 l0_1.length c0_1]) (t := 30) ?hr ?_; (case hd => rfl); (case hg => rfl); (case hr => first | (go_simp; done) | (go_simp; rfl)); intro gb155 hg w11 hbox hb; have n_ := aI (sB HB hb) (aI (aM hbox) (aI (gE HB hg) (gE HB hg))); clear HB; obtain ⟨HB, BK155, GW155, GE155⟩ := n_; (try clear hb hbox hg); have hcz12_0 := cZ0 BK155; have hcz12_1 := cZ1 BK155; have hfz12_0 := fZ BK155 0; have hfz12_1 := fZ BK155 1) | ((with_reducible refine gate_callee (f := 16) rfl ?_); refine gL (some 6) Try.func16 #[.agg #[.slice A0_0 l0_0.length c0_0, .slice A0_1 l0_1.length c0_1]] ?_; (with_reducible refine (spec_DiskOk.calls k _ _ l0_0 _ _ l0_1 true _ ?side1 ?side2 ?side3 ?side4 A3.out).mono ?_); (case side1 => exact cS HR0_0 HB); (case side2 => exact HC0_0.out); (case side3 => exact cS HR0_1 HB); (case side4 => exact HC0_1.out); rintro e w13 ⟨rfl, hb⟩; refine ⟨_, rfl, ?_⟩; have n_ := aI (kB BK155 hb) (sB HB hb); clear BK155 HB; obtain ⟨BK155, HB⟩ := n_; (try clear hb)) | (go_at_call 69; (with_reducible refine (spec_l1In.calls a1 1 48 false _ A5.out).mono ?_); rintro e w' ⟨rfl, ⟨nd, rfl⟩⟩))
  go_ret
  exact ⟨eW, bB⟩
 replace c4 := Bool.eq_false_iff.mpr c4
 subst c4
 rw [if_neg (show ¬ (false = true) by decide)] at H
 obtain rfl := Option.some.inj H
 go_enter Try.func70, Try.ntmps70
 go_wp2_with (first | ((with_reducible refine gate_dst (N := 2) rfl ?_); (try (refine gate_guard (by rfl) ?_; dsimp only)); refine box_event ?hg (N := 2) ?hd (cs := #[.slice A0_0 l0_0.length c0_0, .slice A0_1 l0_1.length c0_1]) (t := 30) ?hr ?_; (case hd => rfl); (case hg => rfl); (case hr => first | (go_simp; done) | (go_simp; rfl)); intro gb155 hg w14 hbox hb; have n_ := aI (sB HB hb) (aI (aM hbox) (aI (gE HB hg) (gE HB hg))); clear HB; obtain ⟨HB, BK155, GW155, GE155⟩ := n_; (try clear hb hbox hg); have hcz15_0 := cZ0 BK155; have hcz15_1 := cZ1 BK155; have hfz15_0 := fZ BK155 0; have hfz15_1 := fZ BK155 1) | ((with_reducible refine gate_callee (f := 16) rfl ?_); refine gL (some 6) Try.func16 #[.agg #[.slice A0_0 l0_0.length c0_0, .slice A0_1 l0_1.length c0_1]] ?_; (with_reducible refine (spec_DiskOk.calls k _ _ l0_0 _ _ l0_1 false _ ?side1 ?side2 ?side3 ?side4 A3.out).mono ?_); (case side1 => exact cS HR0_0 HB); (case side2 => exact HC0_0.out); (case side3 => exact cS HR0_1 HB); (case side4 => exact HC0_1.out); rintro e w16 ⟨rfl, hb⟩; refine ⟨_, rfl, ?_⟩; have n_ := aI (kB BK155 hb) (sB HB hb); clear BK155 HB; obtain ⟨BK155, HB⟩ := n_; (try clear hb)))
 go_ret
 exact ⟨eW, bB⟩

/-! ### spec_HomeOf: function 22 -/
def spec_HomeOf.l0 : Nat → Int → List ByteArray → Int → List ByteArray → List (S65) → Option (List ByteArray)
 | 0, _, _, _, _, _ => none
 | k + 1, x1, x5, x6, x159000, x159001 => if x6 < x1 then ((spec_SectorRead.f k x159000 x159001 (wrap64 ((wrap64 (x1 + 1)) + x6))).bind fun bt163 => (if x5.length < 8796093022208 then (spec_HomeOf.l0 k x1 (x5 ++ [bt163.1]) (wrap64 (x6 + 1)) x159000 x159001) else (none))) else (some x5)
def spec_HomeOf.f (k : Nat) (l0_0 : List ByteArray) (l0_1 : List (S65)) (a1 : Int) : Option (List ByteArray) := (some (([] : List ByteArray) : List ByteArray)).bind fun y159 => ((spec_l4Ok.f k l0_0 l0_1 a1).bind fun t162 => (if t162 = true then (spec_HomeOf.l0 k a1 y159 0 l0_0 l0_1) else (some y159)))
theorem spec_HomeOf.mono_l : ∀ k, (∀ y0 y1 y2 y3 y4, LeO (spec_HomeOf.l0 k y0 y1 y2 y3 y4) (spec_HomeOf.l0 (k + 1) y0 y1 y2 y3 y4))
 | 0 => fun _ _ _ _ _ r h => by simp [spec_HomeOf.l0] at h
 | k + 1 => by
  have ih0 := spec_HomeOf.mono_l k
  ·intro y0 y1 y2 y3 y4
   unfold spec_HomeOf.l0
   have m0_ := @spec_SectorRead.mono
   have m1_ := @spec_l4Ok.mono
   exact mM
theorem spec_HomeOf.mono : ∀ a0 a1 a2 k, LeO (spec_HomeOf.f k a0 a1 a2) (spec_HomeOf.f (k + 1) a0 a1 a2) := by
 intro a0 a1 a2 k
 have ih0 := spec_HomeOf.mono_l k
 unfold spec_HomeOf.f
 have m0_ := @spec_SectorRead.mono
 have m1_ := @spec_l4Ok.mono
 exact mM
set_option maxHeartbeats 8000000 in
set_option maxRecDepth 100000 in
theorem spec_HomeOf.calls (k : Nat) (A0_0 : Option Addr) (c0_0 : Nat) (l0_0 : List ByteArray) (A0_1 : Option Addr) (c0_1 : Nat) (l0_1 : List (S65)) (a1 : Int) (r : List ByteArray) (w : World) (hr0_0 : Kd.C Kd.string w A0_0 l0_0.length l0_0) (hc0_0 : l0_0.length ≤ c0_0) (hr0_1 : Kd.C k65 w A0_1 l0_1.length l0_1) (hc0_1 : l0_1.length ≤ c0_1) (h : spec_HomeOf.f k l0_0 l0_1 a1 = some r) :
  Calls Try.prog 22 #[.agg #[.slice A0_0 l0_0.length c0_0, .slice A0_1 l0_1.length c0_1], .int .i64 a1] w fun e w' => ∃ v0_ : Value, e = .returned (v0_) ∧ Kd.R Kd.string 9 w' w.heap.size (fun _ => True) v0_ r ∧ Below w.heap.size w w' := by
 have hu30 := Try.underlying30
 have HR0_0 := aM hr0_0
 have HC0_0 := aM hc0_0
 clear hr0_0 hc0_0
 have HR0_1 := aM hr0_1
 have HC0_1 := aM hc0_1
 clear hr0_1 hc0_1
 have HB := aM (Below.refl w.heap.size w)
 unfold spec_HomeOf.f at h
 have H := h
 clear h
 obtain ⟨y159, hy159⟩ : ∃ y_ : List ByteArray, y_ = (([] : List ByteArray)) := ⟨_, rfl⟩
 replace H : ((spec_l4Ok.f k l0_0 l0_1 a1).bind fun t162 => (if t162 = true then (spec_HomeOf.l0 k a1 y159 0 l0_0 l0_1) else (some y159))) = some r := bQ hy159 H
 have Ny159 := aM hy159
 clear hy159
 replace H := Option.bind_eq_some_iff.mp H
 obtain ⟨t162, A30, H⟩ := H
 try dsimp only at H
 have A3 := aM A30
 clear A30
 by_cases c4 : t162 = true
 ·subst c4
  rw [if_pos rfl] at H
  have H' := aM H
  clear H
  go_enter Try.func22, Try.ntmps22
  go_wp2_with (first | ((with_reducible refine gate_dst (N := 2) rfl ?_); refine bE 2 #[.slice A0_0 l0_0.length c0_0, .slice A0_1 l0_1.length c0_1] 30 ?_; intro gb158 hg w5 hbox hb; have n_ := aI (sB HB hb) (aI (aM hbox) (aI (gE HB hg) (gE HB hg))); clear HB; obtain ⟨HB, BK158, GW158, GE158⟩ := n_; (try clear hb hbox hg)) | ((with_reducible refine gate_dst (N := 9) rfl ?_); refine Kd.R_lit Kd.string _ 9 ?hg (N := 9) ?hd (xs := ([] : List ByteArray)) (inner := []) (ok := fun _ => True) (okp := fun _ => True) ?hr ?hp (fun _ hk => hk) trivial (Below.refl _ _) (Nat.le_refl _) (by simp) ?_; (case hd => rfl); (case hg => rfl); (case hr => first | (go_simp; done) | (go_simp; rfl)); (case hp => exact (Reps.none _ _)); intro v160 w6 ho7 hb hg_ hnew_; clear hg_ hnew_; (first | rw [← Ny159.out] at ho7 | (simp only [Int.reduceToNat] at ho7; rw [← Ny159.out] at ho7)); have n_ := aI (lR HB ho7) (aI (kB BK158 hb) (sB HB hb)); clear BK158 HB; obtain ⟨HO161, BK158, HB⟩ := n_; (try clear hb ho7); have hcz8_0 := cZ0 BK158; have hcz8_1 := cZ1 BK158; have hfz8_0 := fZ BK158 0; have hfz8_1 := fZ BK158 1) | ((with_reducible refine gate_callee (f := 70) rfl ?_); refine gL (some 12) Try.func70 #[.agg #[.slice A0_0 l0_0.length c0_0, .slice A0_1 l0_1.length c0_1], .int .i64 a1] ?_; (with_reducible refine (spec_l4Ok.calls k _ _ l0_0 _ _ l0_1 a1 true _ ?side1 ?side2 ?side3 ?side4 A3.out).mono ?_); (case side1 => exact cS HR0_0 HB); (case side2 => exact HC0_0.out); (case side3 => exact cS HR0_1 HB); (case side4 => exact HC0_1.out); rintro e w9 ⟨rfl, hb⟩; refine ⟨_, rfl, ?_⟩; have n_ := aI (rB HO161 hb) (aI (kB BK158 hb) (sB HB hb)); clear HO161 BK158 HB; obtain ⟨HO161, BK158, HB⟩ := n_; (try clear hb)))
  go_loopg [5, 6] k (fun kq v5 v6 w' => ∃ (x5_1 : List ByteArray) (x6_1 : Int), v6 = .int .i64 x6_1 ∧ Aside0 (spec_HomeOf.l0 kq a1 x5_1 x6_1 l0_0 l0_1 = some r) ∧ Aside0 (kq ≤ k) ∧ Aside0 (Kd.R Kd.string 9 w' w.heap.size (fun _ => True) v5 x5_1) ∧ Aside0 (w'.heap[gb158]? = some (.cells #[(.slice A0_0 l0_0.length c0_0), (.slice A0_1 l0_1.length c0_1)] 30 (0, 0))) ∧ Aside0 (Below w.heap.size w w'))
  case atStart => exact ⟨(y159), (0), (by first | rfl | (simp; done) | (simp [*]; done) | (simp; exact (by intro l_; cases l_ <;> rfl : ∀ l_ : List UInt8, l_.isEmpty = !(l_ != [])) _)), H', ⟨Nat.le_refl _⟩, ⟨rP HO161.out⟩, ⟨kP BK158⟩, ⟨bB⟩⟩
  case round =>
   clear H'
   try clear c2
   try clear p2
   try clear c4
   try clear c7
   try clear hcz8_0
   try clear hcz8_1
   try clear hfz8_0
   try clear hfz8_1
   obtain ⟨x5_1, x6_1, rfl, HA, HK1, HO_5, BK158, HB⟩ := hrel
   cases gk with
   | zero => exact absurd HA.out (by simp [spec_HomeOf.l0])
   | succ k1 =>
    have H := HA.out
    clear HA
    simp only [spec_HomeOf.l0] at H
    by_cases c10 : x6_1 < a1
    ·rw [if_pos c10] at H
     have c10b0 : decide (x6_1 < a1) = true := decide_eq_true c10
     clear c10
     replace H := Option.bind_eq_some_iff.mp H
     obtain ⟨⟨t163, t164⟩, A110, H⟩ := H
     try dsimp only at H
     have A11 := aM A110
     clear A110
     by_cases c12 : x5_1.length < 8796093022208
     ·rw [if_pos c12] at H
      have LMc12 := aM c12
      clear c12
      obtain ⟨y165, hy165⟩ : ∃ y_ : List ByteArray, y_ = (x5_1 ++ [t163]) := ⟨_, rfl⟩
      replace H : (spec_HomeOf.l0 k1 a1 y165 (wrap64 (x6_1 + 1)) l0_0 l0_1) = some r := bQ hy165 H
      have Ny165 := aM hy165
      clear hy165
      have H' := aM H
      clear H
      have hcz13_0 := cZ0 BK158
      have hcz13_1 := cZ1 BK158
      have hfz13_0 := fZ BK158 0
      have hfz13_1 := fZ BK158 1
      go_wp2_with (first | ((with_reducible refine gate_callee (f := 20) rfl ?_); refine gL (some 26) Try.func20 #[.agg #[.slice A0_0 l0_0.length c0_0, .slice A0_1 l0_1.length c0_1], .int .i64 (wrap64 ((wrap64 (a1 + 1)) + x6_1))] ?_; (with_reducible refine (spec_SectorRead.calls k1 _ _ l0_0 _ _ l0_1 (wrap64 ((wrap64 (a1 + 1)) + x6_1)) t163 t164 _ ?side1 ?side2 ?side3 ?side4 A11.out).mono ?_); (case side1 => exact cS HR0_0 HB); (case side2 => exact HC0_0.out); (case side3 => exact cS HR0_1 HB); (case side4 => exact HC0_1.out); rintro e w14 ⟨rfl, hb⟩; refine ⟨_, rfl, ?_⟩; have n_ := aI (rB HO_5 hb) (aI (kB BK158 hb) (sB HB hb)); clear HO_5 BK158 HB; obtain ⟨HO_5, BK158, HB⟩ := n_; (try clear hb)) | ((with_reducible refine gate_builtin (b := .append) (xs := #[.tmp 29, .tmp 31]) rfl ?_); at_builtin; refine Kd.R_append Kd.string (w0 := w) w.heap.size rfl (.tmp 29) (.tmp 31) 22 9 (.string ⟨#[]⟩) 16 rfl Try.underlying22 info9 rfl (by decide) (by omega) u5 x5_1 t163 [.string t163] (fun _ => True) (fun _ => False) rfl rfl ?aP (fun _ hk => hk.elim) ?aF ?aO ?aB ?aS ?aL ?_; (case aP => exact rfl); (case aB => exact bB); (case aF => exact (fun _ _ => trivial)); (case aO => exact (rP HO_5.out)); (case aS => exact (zB HB)); (case aL => have := LMc12.out; omega); intro v166 w15 ho hb hg hat; rw [← Ny165.out] at ho; have n_ := aI (aM (blk_grown (g := gb158) (o := .cells #[.slice A0_0 l0_0.length c0_0, .slice A0_1 l0_1.length c0_1] 30 (0, 0)) (kP BK158) hg (Kd.R_ne HO_5.out BK158.out (by decide)))) (aI (aM (hb)) (aM (ho))); clear BK158 HB HO_5; obtain ⟨BK158, HB, HO167⟩ := n_; (try clear ho hb hg hat)))
      go_roundg k1
      case measure => have := HK1.out; omega
      case rel => exact ⟨(y165), (wrap64 (x6_1 + 1)), (by first | rfl | (simp; done) | (simp [*]; done) | (simp; exact (by intro l_; cases l_ <;> rfl : ∀ l_ : List UInt8, l_.isEmpty = !(l_ != [])) _)), H', ⟨by have := HK1.out; omega⟩, ⟨rP HO167.out⟩, ⟨kP BK158⟩, ⟨bB⟩⟩
     ·rw [if_neg c12] at H
      exact absurd H (by simp)
    ·rw [if_neg c10] at H
     have c10b0 : decide (x6_1 < a1) = false := decide_eq_false c10
     clear c10
     obtain rfl := Option.some.inj H
     go_wp2
     go_ret
     exact ⟨_, eW, by (with_reducible repeat (first | apply Kd.R_alloc | apply Kd.R_drewN | apply Kd.R_drew)); exact HO_5.out, bB⟩
 replace c4 := Bool.eq_false_iff.mpr c4
 subst c4
 rw [if_neg (show ¬ (false = true) by decide)] at H
 obtain rfl := Option.some.inj H
 go_enter Try.func22, Try.ntmps22
 go_wp2_with (first | ((with_reducible refine gate_dst (N := 2) rfl ?_); refine bE 2 #[.slice A0_0 l0_0.length c0_0, .slice A0_1 l0_1.length c0_1] 30 ?_; intro gb158 hg w16 hbox hb; have n_ := aI (sB HB hb) (aI (aM hbox) (aI (gE HB hg) (gE HB hg))); clear HB; obtain ⟨HB, BK158, GW158, GE158⟩ := n_; (try clear hb hbox hg)) | ((with_reducible refine gate_dst (N := 9) rfl ?_); refine Kd.R_lit Kd.string _ 9 ?hg (N := 9) ?hd (xs := ([] : List ByteArray)) (inner := []) (ok := fun _ => True) (okp := fun _ => True) ?hr ?hp (fun _ hk => hk) trivial (Below.refl _ _) (Nat.le_refl _) (by simp) ?_; (case hd => rfl); (case hg => rfl); (case hr => first | (go_simp; done) | (go_simp; rfl)); (case hp => exact (Reps.none _ _)); intro v160 w17 ho18 hb hg_ hnew_; clear hg_ hnew_; (first | rw [← Ny159.out] at ho18 | (simp only [Int.reduceToNat] at ho18; rw [← Ny159.out] at ho18)); have n_ := aI (lR HB ho18) (aI (kB BK158 hb) (sB HB hb)); clear BK158 HB; obtain ⟨HO161, BK158, HB⟩ := n_; (try clear hb ho18); have hcz19_0 := cZ0 BK158; have hcz19_1 := cZ1 BK158; have hfz19_0 := fZ BK158 0; have hfz19_1 := fZ BK158 1) | ((with_reducible refine gate_callee (f := 70) rfl ?_); refine gL (some 12) Try.func70 #[.agg #[.slice A0_0 l0_0.length c0_0, .slice A0_1 l0_1.length c0_1], .int .i64 a1] ?_; (with_reducible refine (spec_l4Ok.calls k _ _ l0_0 _ _ l0_1 a1 false _ ?side1 ?side2 ?side3 ?side4 A3.out).mono ?_); (case side1 => exact cS HR0_0 HB); (case side2 => exact HC0_0.out); (case side3 => exact cS HR0_1 HB); (case side4 => exact HC0_1.out); rintro e w20 ⟨rfl, hb⟩; refine ⟨_, rfl, ?_⟩; have n_ := aI (rB HO161 hb) (aI (kB BK158 hb) (sB HB hb)); clear HO161 BK158 HB; obtain ⟨HO161, BK158, HB⟩ := n_; (try clear hb)))
 go_ret
 exact ⟨_, eW, by (with_reducible repeat (first | apply Kd.R_alloc | apply Kd.R_drewN | apply Kd.R_drew)); exact HO161.out, bB⟩

-- NOT PRINTED: function 107 (slices_IndexFunc_string_string)

-- NOT PRINTED: function 62 (slices_ContainsFunc_string_string)

/-! ### impl_short: function 64 -/
def impl_short.f (a0 : ByteArray) : Option (Bool) := some (decide ((a0.size : Int) ≤ 90))
set_option maxHeartbeats 8000000 in
set_option maxRecDepth 100000 in
theorem impl_short.calls (a0 : ByteArray) (r : Bool) (w : World) (h : impl_short.f a0 = some r) :
  Calls Try.prog 64 #[.string a0] w fun e w' => e = .returned (.bool r) ∧ Drawn0 w w' := by
 unfold impl_short.f at h
 have H := h
 clear h
 obtain rfl := Option.some.inj H
 go_enter Try.func64, Try.ntmps64
 go_wp2
 go_ret
 exact ⟨by first | rfl | (simp; done) | (simp [*]; done), by repeat (first | exact Drawn0.refl _ | apply Drawn0.step)⟩

/-! ### impl_DiskOk_1: function 63 -/
def impl_DiskOk_1.f (a0 : ByteArray) : Option (Bool) := (impl_short.f a0).bind fun t168 => (some (!t168))
set_option maxHeartbeats 8000000 in
set_option maxRecDepth 100000 in
theorem impl_DiskOk_1.calls (a0 : ByteArray) (r : Bool) (w : World) (h : impl_DiskOk_1.f a0 = some r) :
  Calls Try.prog 63 #[.string a0] w fun e w' => e = .returned (.bool r) ∧ Drawn0 w w' := by
 unfold impl_DiskOk_1.f at h
 have H := h
 clear h
 replace H := Option.bind_eq_some_iff.mp H
 obtain ⟨t168, A20, H⟩ := H
 try dsimp only at H
 have A2 := aM A20
 clear A20
 obtain rfl := Option.some.inj H
 go_enter Try.func63, Try.ntmps63
 go_wp2_with (first | ((with_reducible refine gate_callee (f := 64) rfl ?_); refine gL (some 4) Try.func64 #[.string a0] ?_; (with_reducible refine (impl_short.calls a0 t168 _ A2.out).mono ?_); rintro e w' ⟨rfl, ⟨nd, rfl⟩⟩; refine ⟨_, rfl, ?_⟩))
 go_ret
 exact ⟨by first | rfl | (simp; done) | (simp [*]; done), by repeat (first | exact Drawn0.refl _ | apply Drawn0.step)⟩

-- NOT PRINTED: function 108 (slices_IndexFunc_Put)

-- NOT PRINTED: function 65 (slices_ContainsFunc_Put)

/-! ### impl_within: function 67 -/
def impl_within.f (a0 : Int) (a1 : Int) (a2 : Int) : Option (Bool) := if a0 ≥ a1 then (some (decide (a0 ≤ a2))) else (some false)
set_option maxHeartbeats 8000000 in
set_option maxRecDepth 100000 in
theorem impl_within.calls (a0 : Int) (a1 : Int) (a2 : Int) (r : Bool) (w : World) (h : impl_within.f a0 a1 a2 = some r) :
  Calls Try.prog 67 #[.int .i64 a0, .int .i64 a1, .int .i64 a2] w fun e w' => e = .returned (.bool r) ∧ Drawn0 w w' := by
 unfold impl_within.f at h
 have H := h
 clear h
 by_cases c4 : a0 ≥ a1
 ·rw [if_pos c4] at H
  have c4b0 : decide (a1 ≤ a0) = true := decide_eq_true c4
  clear c4
  obtain rfl := Option.some.inj H
  go_enter Try.func67, Try.ntmps67
  go_wp2
  go_ret
  exact ⟨by first | rfl | (simp; done) | (simp [*]; done), by repeat (first | exact Drawn0.refl _ | apply Drawn0.step)⟩
 rw [if_neg c4] at H
 have c4b0 : decide (a1 ≤ a0) = false := decide_eq_false c4
 clear c4
 obtain rfl := Option.some.inj H
 go_enter Try.func67, Try.ntmps67
 go_wp2
 go_ret
 exact ⟨by first | rfl | (simp; done) | (simp [*]; done), by repeat (first | exact Drawn0.refl _ | apply Drawn0.step)⟩

/-! ### impl_DiskOk_2: function 66 -/
def impl_DiskOk_2.f (n : Nat) (p : S65) : Bool := !(decide (0 ≤ p.f0 ∧ p.f0 ≤ wrap64 ((n : Int) - 1)) && decide ((p.f1.size : Int) ≤ 90))
theorem impl_DiskOk_2.within (a b c : Int) : impl_within.f a b c = some (decide (b ≤ a ∧ a ≤ c)) := by
 unfold impl_within.f
 by_cases h : a ≥ b
 ·rw [if_pos h]
  congr 1
  rw [decide_eq_decide]
  omega
 rw [if_neg h]
 congr 1
 symm
 rw [decide_eq_false_iff_not]
 omega
set_option maxHeartbeats 8000000 in
set_option maxRecDepth 100000 in
theorem impl_DiskOk_2.calls (p : S65) (g : Nat) (A : Option Addr) (n c : Nat) (v1 : Value) (w : World) (hg0 : w.heap[g]? = some (.cells #[.slice A n c, v1] 30 (0, 0))) :
  Calls Try.prog 66 #[.agg #[.int .i64 p.f0, .string p.f1], .pointer (some ⟨g, 0, none⟩)] w fun e w' => e = .returned (.bool (impl_DiskOk_2.f n p)) ∧ Below w.heap.size w w' := by
 have hu65 := Try.underlying65
 have hu30 := Try.underlying30
 have HB := aM (Below.refl w.heap.size w)
 have hw := impl_DiskOk_2.within p.f0 0 (wrap64 ((n : Int) - 1))
 unfold impl_DiskOk_2.f
 cases hd : decide (0 ≤ p.f0 ∧ p.f0 ≤ wrap64 ((n : Int) - 1)) with
 | true =>
  rw [hd] at hw
  go_enter Try.func66, Try.ntmps66
  go_wp2_with (first
   | ((with_reducible refine gate_dst (N := 2) rfl ?_); refine bE 2 #[.int .i64 p.f0, .string p.f1] 65 ?_; intro gb hg w4 hbox hb; have hc0 : w4.cell? ⟨gb, 0, none⟩ = some (.int .i64 p.f0) := (blk_cell hbox 0).trans rfl; have hc1 : w4.cell? ⟨gb, 1, none⟩ = some (.string p.f1) := (blk_cell hbox 1).trans rfl; have hc2 : w4.cell? ⟨g, 0, none⟩ = some (.slice A n c) := (blk_cell (blk_below hg0 hb) 0).trans rfl; have HB2 := aM (below_step HB.out hb); clear HB; have HB := HB2; clear HB2; clear hbox hb hg)
   | (go_at_call 67; (with_reducible refine (impl_within.calls p.f0 0 (wrap64 ((n : Int) - 1)) true _ hw).mono ?_); rintro e w' ⟨rfl, ⟨nd, rfl⟩⟩)
   | (go_at_call 64; (with_reducible refine (impl_short.calls p.f1 (decide ((p.f1.size : Int) ≤ 90)) _ rfl).mono ?_); rintro e w' ⟨rfl, ⟨nd, rfl⟩⟩))
  go_ret
  exact ⟨by first | rfl | (simp; done), bB⟩
 | false =>
  rw [hd] at hw
  go_enter Try.func66, Try.ntmps66
  go_wp2_with (first
   | ((with_reducible refine gate_dst (N := 2) rfl ?_); refine bE 2 #[.int .i64 p.f0, .string p.f1] 65 ?_; intro gb hg w4 hbox hb; have hc0 : w4.cell? ⟨gb, 0, none⟩ = some (.int .i64 p.f0) := (blk_cell hbox 0).trans rfl; have hc1 : w4.cell? ⟨gb, 1, none⟩ = some (.string p.f1) := (blk_cell hbox 1).trans rfl; have hc2 : w4.cell? ⟨g, 0, none⟩ = some (.slice A n c) := (blk_cell (blk_below hg0 hb) 0).trans rfl; have HB2 := aM (below_step HB.out hb); clear HB; have HB := HB2; clear HB2; clear hbox hb hg)
   | (go_at_call 67; (with_reducible refine (impl_within.calls p.f0 0 (wrap64 ((n : Int) - 1)) false _ hw).mono ?_); rintro e w' ⟨rfl, ⟨nd, rfl⟩⟩))
  go_ret
  exact ⟨by first | rfl | (simp; done), bB⟩


/-! ### impl_DiskOk: function 18 -/
set_option maxHeartbeats 8000000 in
set_option maxRecDepth 100000 in
theorem slices_IndexFunc_Put_DiskOk_2.calls (g : Nat) (A : Option Addr) (n c : Nat) (v1 : Value) (A0 : Option Addr) (c0 : Nat) (l0 : List S65) (w : World) (hg0 : w.heap[g]? = some (.cells #[.slice A n c, v1] 30 (0, 0))) (hr0 : Kd.C k65 w A0 l0.length l0) :
  Calls Try.prog 108 #[.slice A0 l0.length c0, .func (.func 66) #[] #[.pointer (some ⟨g, 0, none⟩)]] w fun e w' => ∃ r : Int, e = .returned (.int .i64 r) ∧ decide (r ≥ 0) = l0.any (impl_DiskOk_2.f n) ∧ Below w.heap.size w w' := by
 have hu65 := Try.underlying65
 have HR0 := aM hr0
 have HG := aM hg0
 have HL := aM hr0.2.1
 clear hr0 hg0
 go_enter Try.func108, Try.ntmps108
 go_wp2
 go_loopg [8] l0.length (fun gg v8 w' => ∃ kk : Nat, v8 = .int .i64 (kk : Int) ∧ Aside0 (kk ≤ l0.length) ∧ Aside0 (l0.length - kk ≤ gg) ∧ Aside0 (∀ j, j < kk → impl_DiskOk_2.f n (l0.getD j z65) = false) ∧ Aside0 (Below w.heap.size w w'))
 case atStart => exact ⟨0, rfl, ⟨Nat.zero_le _⟩, ⟨by omega⟩, ⟨fun j hj => absurd hj (Nat.not_lt_zero _)⟩, ⟨Below.refl _ _⟩⟩
 case round =>
  obtain ⟨kk, rfl, H1, H2, H3, HB⟩ := hrel
  by_cases hlt : (kk : Int) < (l0.length : Int)
  ·have hb0 : decide ((kk : Int) < (l0.length : Int)) = true := decide_eq_true hlt
   have hk0 : 0 ≤ (kk : Int) := Int.natCast_nonneg _
   obtain ⟨ad, e, hx0, hx1⟩ := at_T65 HR0.out (kk : Int) hk0 hlt
   cases e
   replace hx0 := (HB.out.cell (World.block_lt_of_cell? w _ hx0)).trans hx0
   replace hx1 := (HB.out.cell (World.block_lt_of_cell? w _ hx1)).trans hx1
   have hcal := impl_DiskOk_2.calls (rd_T65 l0 (kk : Int)) g A n c v1 wr (blk_below HG.out HB.out)
   simp only [Int.toNat_natCast] at hx0 hx1
   have hE : rd_T65 l0 (kk : Int) = l0.getD kk z65 := by simp [rd_T65]
   generalize rd_T65 l0 (kk : Int) = x at hx0 hx1 hcal hE
   have HE := aM hE
   clear hE
   have p207 := eq_true hk0
   have q207 := eq_true hlt
   clear hk0
   cases hq : impl_DiskOk_2.f n x with
   | true =>
    rw [hq] at hcal
    go_wp2_with (first | (go_at_call 66; (with_reducible refine hcal.mono ?_); rintro e w' ⟨rfl, hb⟩))
    go_ret
    refine ⟨(kk : Int), by first | rfl | (simp; done), ?_, below_step HB.out hb⟩
    rw [decide_eq_true (by omega)]
    symm
    rw [List.any_eq_true]
    refine ⟨x, ?_, hq⟩
    rw [HE.out, List.getD_eq_getElem?_getD, List.getElem?_eq_getElem (by omega)]
    exact List.getElem_mem _
   | false =>
    rw [hq] at hcal
    go_wp2_with (first | (go_at_call 66; (with_reducible refine hcal.mono ?_); rintro e w' ⟨rfl, hb⟩))
    go_roundg (l0.length - (kk + 1))
    case measure => have := H2.out; omega
    case rel =>
     refine ⟨kk + 1, ?_, ⟨by omega⟩, ⟨Nat.le_refl _⟩, ⟨fun j hj => ?_⟩, ⟨below_step HB.out hb⟩⟩
     ·have := HL.out
      rw [show wrap64 ((kk : Int) + 1) = ((kk + 1 : Nat) : Int) by unfold wrap64; omega]
     ·by_cases e : j = kk
      ·rw [e, ← HE.out]; exact hq
      ·exact H3.out j (by omega)
  have hb0 : decide ((kk : Int) < (l0.length : Int)) = false := decide_eq_false hlt
  go_wp2
  go_ret
  refine ⟨-1, by first | rfl | (simp; done), ?_, HB.out⟩
  rw [decide_eq_false (by omega)]
  symm
  rw [List.any_eq_false]
  intro x hx
  obtain ⟨j, hj, rfl⟩ := List.mem_iff_getElem.1 hx
  have h1 := H1.out
  have := H3.out j (by omega)
  rw [List.getD_eq_getElem?_getD, List.getElem?_eq_getElem hj] at this
  simpa using this
def longText (s : ByteArray) : Bool := !(decide ((s.size : Int) ≤ 90))
set_option maxHeartbeats 8000000 in
set_option maxRecDepth 100000 in
theorem slices_IndexFunc_string_DiskOk_1.calls (A0 : Option Addr) (c0 : Nat) (l0 : List ByteArray) (w : World) (hr0 : Kd.C Kd.string w A0 l0.length l0) :
  Calls Try.prog 107 #[.slice A0 l0.length c0, .func (.func 63) #[] #[]] w fun e w' => ∃ r : Int, e = .returned (.int .i64 r) ∧ decide (r ≥ 0) = l0.any (longText) ∧ Below w.heap.size w w' := by
 have HR0 := aM hr0
 have HL := aM hr0.2.1
 clear hr0
 go_enter Try.func107, Try.ntmps107
 go_wp2
 go_loopg [8] l0.length (fun gg v8 w' => ∃ kk : Nat, v8 = .int .i64 (kk : Int) ∧ Aside0 (kk ≤ l0.length) ∧ Aside0 (l0.length - kk ≤ gg) ∧ Aside0 (∀ j, j < kk → longText (l0.getD j ByteArray.empty) = false) ∧ Aside0 (Below w.heap.size w w'))
 case atStart => exact ⟨0, rfl, ⟨Nat.zero_le _⟩, ⟨by omega⟩, ⟨fun j hj => absurd hj (Nat.not_lt_zero _)⟩, ⟨Below.refl _ _⟩⟩
 case round =>
  obtain ⟨kk, rfl, H1, H2, H3, HB⟩ := hrel
  by_cases hlt : (kk : Int) < (l0.length : Int)
  ·have hb0 : decide ((kk : Int) < (l0.length : Int)) = true := decide_eq_true hlt
   have hk0 : 0 ≤ (kk : Int) := Int.natCast_nonneg _
   obtain ⟨ad, e, hx0⟩ := Kd.at_string HR0.out (kk : Int) hk0 hlt
   cases e
   replace hx0 := (HB.out.cell (World.block_lt_of_cell? w _ hx0)).trans hx0
   have hcal := impl_DiskOk_1.calls (rdOf ByteArray.empty l0 (kk : Int)) (longText (rdOf ByteArray.empty l0 (kk : Int))) wr rfl
   simp only [Int.toNat_natCast] at hx0
   have hE : rdOf ByteArray.empty l0 (kk : Int) = l0.getD kk ByteArray.empty := by simp [rdOf]
   generalize rdOf ByteArray.empty l0 (kk : Int) = x at hx0 hcal hE
   have HE := aM hE
   clear hE
   have p207 := eq_true hk0
   have q207 := eq_true hlt
   clear hk0
   cases hq : longText x with
   | true =>
    rw [hq] at hcal
    go_wp2_with (first | (go_at_call 63; (with_reducible refine hcal.mono ?_); rintro e w' ⟨rfl, hd⟩; have hb := hd.below; clear hd))
    go_ret
    refine ⟨(kk : Int), by first | rfl | (simp; done), ?_, below_step HB.out hb⟩
    rw [decide_eq_true (by omega)]
    symm
    rw [List.any_eq_true]
    refine ⟨x, ?_, hq⟩
    rw [HE.out, List.getD_eq_getElem?_getD, List.getElem?_eq_getElem (by omega)]
    exact List.getElem_mem _
   | false =>
    rw [hq] at hcal
    go_wp2_with (first | (go_at_call 63; (with_reducible refine hcal.mono ?_); rintro e w' ⟨rfl, hd⟩; have hb := hd.below; clear hd))
    go_roundg (l0.length - (kk + 1))
    case measure => have := H2.out; omega
    case rel =>
     refine ⟨kk + 1, ?_, ⟨by omega⟩, ⟨Nat.le_refl _⟩, ⟨fun j hj => ?_⟩, ⟨below_step HB.out hb⟩⟩
     ·have := HL.out
      rw [show wrap64 ((kk : Int) + 1) = ((kk + 1 : Nat) : Int) by unfold wrap64; omega]
     ·by_cases e : j = kk
      ·rw [e, ← HE.out]; exact hq
      ·exact H3.out j (by omega)
  have hb0 : decide ((kk : Int) < (l0.length : Int)) = false := decide_eq_false hlt
  go_wp2
  go_ret
  refine ⟨-1, by first | rfl | (simp; done), ?_, HB.out⟩
  rw [decide_eq_false (by omega)]
  symm
  rw [List.any_eq_false]
  intro x hx
  obtain ⟨j, hj, rfl⟩ := List.mem_iff_getElem.1 hx
  have h1 := H1.out
  have := H3.out j (by omega)
  rw [List.getD_eq_getElem?_getD, List.getElem?_eq_getElem hj] at this
  simpa using this

set_option maxHeartbeats 8000000 in
set_option maxRecDepth 100000 in
theorem slices_ContainsFunc_Put_DiskOk_2.calls (g : Nat) (A : Option Addr) (n c : Nat) (v1 : Value) (A0 : Option Addr) (c0 : Nat) (l0 : List S65) (w : World) (hg0 : w.heap[g]? = some (.cells #[.slice A n c, v1] 30 (0, 0))) (hr0 : Kd.C k65 w A0 l0.length l0) :
  Calls Try.prog 65 #[.slice A0 l0.length c0, .func (.func 66) #[] #[.pointer (some ⟨g, 0, none⟩)]] w fun e w' => e = .returned (.bool (l0.any (impl_DiskOk_2.f n))) ∧ Below w.heap.size w w' := by
 have hcal := slices_IndexFunc_Put_DiskOk_2.calls g A n c v1 A0 c0 l0 w hg0 hr0
 clear hg0 hr0
 go_enter Try.func65, Try.ntmps65
 go_wp2_with (first | (go_at_call 108; (with_reducible refine hcal.mono ?_); rintro e w' ⟨r, rfl, hr, hb⟩))
 go_ret
 exact ⟨by rw [← hr]; rfl, hb⟩
set_option maxHeartbeats 8000000 in
set_option maxRecDepth 100000 in
theorem slices_ContainsFunc_string_DiskOk_1.calls (A0 : Option Addr) (c0 : Nat) (l0 : List ByteArray) (w : World) (hr0 : Kd.C Kd.string w A0 l0.length l0) :
  Calls Try.prog 62 #[.slice A0 l0.length c0, .func (.func 63) #[] #[]] w fun e w' => e = .returned (.bool (l0.any longText)) ∧ Below w.heap.size w w' := by
 have hcal := slices_IndexFunc_string_DiskOk_1.calls A0 c0 l0 w hr0
 clear hr0
 go_enter Try.func62, Try.ntmps62
 go_wp2_with (first | (go_at_call 107; (with_reducible refine hcal.mono ?_); rintro e w' ⟨r, rfl, hr, hb⟩))
 go_ret
 exact ⟨by rw [← hr]; rfl, hb⟩
def diskOk (l0 : List ByteArray) (l1 : List S65) : Bool := decide (l0.length ≤ 120) && (decide (l1.length ≤ 400) && (!(l0.any longText) && !(l1.any (impl_DiskOk_2.f l0.length))))
def impl_DiskOk.f (l0_0 : List ByteArray) (l0_1 : List S65) : Option Bool := some (diskOk l0_0 l0_1)
set_option maxHeartbeats 8000000 in
set_option maxRecDepth 100000 in
theorem impl_DiskOk.calls (A0_0 : Option Addr) (c0_0 : Nat) (l0_0 : List ByteArray) (A0_1 : Option Addr) (c0_1 : Nat) (l0_1 : List S65) (r : Bool) (w : World) (hr0_0 : Kd.C Kd.string w A0_0 l0_0.length l0_0) (hc0_0 : l0_0.length ≤ c0_0) (hr0_1 : Kd.C k65 w A0_1 l0_1.length l0_1) (hc0_1 : l0_1.length ≤ c0_1) (h : impl_DiskOk.f l0_0 l0_1 = some r) :
  Calls Try.prog 18 #[.agg #[.slice A0_0 l0_0.length c0_0, .slice A0_1 l0_1.length c0_1]] w fun e w' => e = .returned (.bool r) ∧ Below w.heap.size w w' := by
 have hu30 := Try.underlying30
 have HR0_0 := aM hr0_0
 have HR0_1 := aM hr0_1
 clear hr0_0 hc0_0 hr0_1 hc0_1
 obtain rfl := Option.some.inj h
 clear h
 unfold diskOk
 by_cases c1 : l0_0.length ≤ 120
 ·rw [decide_eq_true c1]
  have f1a : decide (120 < (l0_0.length : Int)) = false := decide_eq_false (by omega)
  have f1b : decide (120 < l0_0.length) = false := decide_eq_false (by omega)
  have f1c : decide ((l0_0.length : Int) > 120) = false := decide_eq_false (by omega)
  clear c1
  by_cases c2 : l0_1.length ≤ 400
  ·rw [decide_eq_true c2]
   have f2a : decide (400 < (l0_1.length : Int)) = false := decide_eq_false (by omega)
   have f2b : decide (400 < l0_1.length) = false := decide_eq_false (by omega)
   have f2c : decide ((l0_1.length : Int) > 400) = false := decide_eq_false (by omega)
   clear c2
   cases c3 : l0_0.any longText with
   | true =>
    go_enter Try.func18, Try.ntmps18
    go_wp2_with (first | ((with_reducible refine gate_dst (N := 1) rfl ?_); refine bE 1 #[.slice A0_0 l0_0.length c0_0, .slice A0_1 l0_1.length c0_1] 30 ?_; intro gb hg w4 hbox hb; have hc0 : w4.cell? ⟨gb, 0, none⟩ = some (.slice A0_0 l0_0.length c0_0) := (blk_cell hbox 0).trans rfl; have hc1 : w4.cell? ⟨gb, 1, none⟩ = some (.slice A0_1 l0_1.length c0_1) := (blk_cell hbox 1).trans rfl; have HG := aM hbox; have HB := aM hb; clear hbox hb hg) | (go_at_call 62; (with_reducible refine (slices_ContainsFunc_string_DiskOk_1.calls A0_0 c0_0 l0_0 _ (Kd.C_below HR0_0.out HB.out)).mono ?_); rintro e w' ⟨rfl, hb⟩; rw [c3]; replace hc0 := (hb.cell (World.block_lt_of_cell? _ _ hc0)).trans hc0; replace hc1 := (hb.cell (World.block_lt_of_cell? _ _ hc1)).trans hc1; have n1 := aM (blk_below HG.out hb); have n2 := aM (below_step HB.out hb); clear HG HB; have HG := n1; have HB := n2; clear n1 n2 hb))
    go_ret
    exact ⟨by first | rfl | (simp; done), bB⟩

   | false =>
    go_enter Try.func18, Try.ntmps18
    go_wp2_with (first | ((with_reducible refine gate_dst (N := 1) rfl ?_); refine bE 1 #[.slice A0_0 l0_0.length c0_0, .slice A0_1 l0_1.length c0_1] 30 ?_; intro gb hg w4 hbox hb; have hc0 : w4.cell? ⟨gb, 0, none⟩ = some (.slice A0_0 l0_0.length c0_0) := (blk_cell hbox 0).trans rfl; have hc1 : w4.cell? ⟨gb, 1, none⟩ = some (.slice A0_1 l0_1.length c0_1) := (blk_cell hbox 1).trans rfl; have HG := aM hbox; have HB := aM hb; clear hbox hb hg) | (go_at_call 62; (with_reducible refine (slices_ContainsFunc_string_DiskOk_1.calls A0_0 c0_0 l0_0 _ (Kd.C_below HR0_0.out HB.out)).mono ?_); rintro e w' ⟨rfl, hb⟩; rw [c3]; replace hc0 := (hb.cell (World.block_lt_of_cell? _ _ hc0)).trans hc0; replace hc1 := (hb.cell (World.block_lt_of_cell? _ _ hc1)).trans hc1; have n1 := aM (blk_below HG.out hb); have n2 := aM (below_step HB.out hb); clear HG HB; have HG := n1; have HB := n2; clear n1 n2 hb) | (go_at_call 65; (with_reducible refine (slices_ContainsFunc_Put_DiskOk_2.calls _ A0_0 l0_0.length c0_0 _ A0_1 c0_1 l0_1 _ HG.out (Kd.C_below HR0_1.out HB.out)).mono ?_); rintro e w' ⟨rfl, hb⟩; have n2 := aM (below_step HB.out hb); clear HB; have HB := n2; clear n2 hb))
    go_ret
    exact ⟨by first | rfl | (simp; done), bB⟩

  rw [decide_eq_false c2]
  have f2a : decide (400 < (l0_1.length : Int)) = true := decide_eq_true (by omega)
  have f2b : decide (400 < l0_1.length) = true := decide_eq_true (by omega)
  have f2c : decide ((l0_1.length : Int) > 400) = true := decide_eq_true (by omega)
  clear c2
  go_enter Try.func18, Try.ntmps18
  go_wp2_with (first | ((with_reducible refine gate_dst (N := 1) rfl ?_); refine bE 1 #[.slice A0_0 l0_0.length c0_0, .slice A0_1 l0_1.length c0_1] 30 ?_; intro gb hg w4 hbox hb; have hc0 : w4.cell? ⟨gb, 0, none⟩ = some (.slice A0_0 l0_0.length c0_0) := (blk_cell hbox 0).trans rfl; have hc1 : w4.cell? ⟨gb, 1, none⟩ = some (.slice A0_1 l0_1.length c0_1) := (blk_cell hbox 1).trans rfl; have HG := aM hbox; have HB := aM hb; clear hbox hb hg))
  go_ret
  exact ⟨by first | rfl | (simp; done), bB⟩

 rw [decide_eq_false c1]
 have f1a : decide (120 < (l0_0.length : Int)) = true := decide_eq_true (by omega)
 have f1b : decide (120 < l0_0.length) = true := decide_eq_true (by omega)
 have f1c : decide ((l0_0.length : Int) > 120) = true := decide_eq_true (by omega)
 clear c1
 go_enter Try.func18, Try.ntmps18
 go_wp2_with (first | ((with_reducible refine gate_dst (N := 1) rfl ?_); refine bE 1 #[.slice A0_0 l0_0.length c0_0, .slice A0_1 l0_1.length c0_1] 30 ?_; intro gb hg w4 hbox hb; have hc0 : w4.cell? ⟨gb, 0, none⟩ = some (.slice A0_0 l0_0.length c0_0) := (blk_cell hbox 0).trans rfl; have hc1 : w4.cell? ⟨gb, 1, none⟩ = some (.slice A0_1 l0_1.length c0_1) := (blk_cell hbox 1).trans rfl; have HG := aM hbox; have HB := aM hb; clear hbox hb hg))
 go_ret
 exact ⟨by first | rfl | (simp; done), bB⟩


end Go.Proofs.Ytgmpdkefegofhaa.PFnExactHomeOf
