-- Written by xprint.py, a program of this session over the kit's print. Not trusted: Lean checks it.
import Derived.Test.YtgmpdkefegofhaaPFnRecoveredx0
namespace Go.Proofs.Ytgmpdkefegofhaa.PFnRecovered
open Go.RowKit Go.Proofs.YtgmpdkefegofhaaW.PrintWords Go.Proofs.YtgmpdkefegofhaaW.PrintLast Go.Proofs.YtgmpdkefegofhaaW.PrintMore
attribute [local go_sem] max2_int min2_int max_two min_two max_three min_three max_four min_four   -- for this text's walks alone
set_option linter.unusedVariables false
set_option linter.unusedSimpArgs false

/-! ### spec_l1In: function 69 -/
def spec_l1In.f (a0 : Int) (a1 : Int) (a2 : Int) : Option (Bool) := if a0 ≥ a1 then (some (decide (a0 ≤ a2))) else (some false)
set_option maxHeartbeats 8000000 in
set_option maxRecDepth 100000 in
theorem spec_l1In.calls (a0 : Int) (a1 : Int) (a2 : Int) (r : Bool) (w : World) (h : spec_l1In.f a0 a1 a2 = some r) :
  Calls Try.prog 69 #[.int .i64 a0, .int .i64 a1, .int .i64 a2] w fun e w' => e = .returned (.bool r) ∧ Drawn0 w w' := by
 unfold spec_l1In.f at h
 have H := h
 clear h
 by_cases c4 : a0 ≥ a1
 ·rw [if_pos c4] at H
  have c4b0 : decide (a1 ≤ a0) = true := decide_eq_true c4
  clear c4
  obtain rfl := Option.some.inj H
  go_enter Try.func69, Try.ntmps69
  go_wp2
  go_ret
  exact ⟨by first | rfl | (simp; done) | (simp [*]; done), by repeat (first | exact Drawn0.refl _ | apply Drawn0.step)⟩
 rw [if_neg c4] at H
 have c4b0 : decide (a1 ≤ a0) = false := decide_eq_false c4
 clear c4
 obtain rfl := Option.some.inj H
 go_enter Try.func69, Try.ntmps69
 go_wp2
 go_ret
 exact ⟨by first | rfl | (simp; done) | (simp [*]; done), by repeat (first | exact Drawn0.refl _ | apply Drawn0.step)⟩

/-! ### spec_l3PutsOk: function 59 -/
def spec_l3PutsOk.l0 : Nat → List (S65) → Int → Int → Option (Bool)
 | 0, _, _, _ => none
 | k + 1, x0, x1, x5 => if x5 < (x0.length : Int) then (if 0 ≤ x5 then ((spec_l1In.f ((rd_T65 x0 x5).f0) 0 (wrap64 (x1 - 1))).bind fun t102 => (if t102 = true then (if (((rd_T65 x0 x5).f1).size : Int) > 90 then (some false) else (spec_l3PutsOk.l0 k x0 x1 (wrap64 (x5 + 1)))) else (some false))) else (none)) else (some true)
def spec_l3PutsOk.f (k : Nat) (l0 : List (S65)) (a1 : Int) : Option (Bool) := spec_l3PutsOk.l0 k l0 a1 0
theorem spec_l3PutsOk.mono_l : ∀ k, (∀ y0 y1 y2, LeO (spec_l3PutsOk.l0 k y0 y1 y2) (spec_l3PutsOk.l0 (k + 1) y0 y1 y2))
 | 0 => fun _ _ _ r h => by simp [spec_l3PutsOk.l0] at h
 | k + 1 => by
  have ih0 := spec_l3PutsOk.mono_l k
  ·intro y0 y1 y2
   unfold spec_l3PutsOk.l0
   exact mM
theorem spec_l3PutsOk.mono : ∀ a0 a1 k, LeO (spec_l3PutsOk.f k a0 a1) (spec_l3PutsOk.f (k + 1) a0 a1) := by
 intro a0 a1 k
 have ih0 := spec_l3PutsOk.mono_l k
 unfold spec_l3PutsOk.f
 exact mM
set_option maxHeartbeats 8000000 in
set_option maxRecDepth 100000 in
theorem spec_l3PutsOk.calls (k : Nat) (A0 : Option Addr) (c0 : Nat) (l0 : List (S65)) (a1 : Int) (r : Bool) (w : World) (hr0 : Kd.C k65 w A0 l0.length l0) (hc0 : l0.length ≤ c0) (h : spec_l3PutsOk.f k l0 a1 = some r) :
  Calls Try.prog 59 #[.slice A0 l0.length c0, .int .i64 a1] w fun e w' => e = .returned (.bool r) ∧ Drawn0 w w' := by
 have HR0 := aM hr0
 have HC0 := aM hc0
 clear hr0 hc0
 unfold spec_l3PutsOk.f at h
 have H := h
 clear h
 have H' := aM H
 clear H
 go_enter Try.func59, Try.ntmps59
 go_wp2
 go_loopg [5] k (fun kq v5 w' => ∃ (x5_1 : Int), v5 = .int .i64 x5_1 ∧ Aside0 (spec_l3PutsOk.l0 kq l0 a1 x5_1 = some r) ∧ Aside0 (kq ≤ k) ∧ Drawn0 w w')
 case atStart => exact ⟨(0), (by first | rfl | (simp; done) | (simp [*]; done) | (simp; exact (by intro l_; cases l_ <;> rfl : ∀ l_ : List UInt8, l_.isEmpty = !(l_ != [])) _)), H', ⟨Nat.le_refl _⟩, by repeat (first | exact Drawn0.refl _ | apply Drawn0.step)⟩
 case round =>
  clear H'
  try clear p2
  obtain ⟨x5_1, rfl, HA, HK1, ⟨m1, rfl⟩⟩ := hrel
  cases gk with
  | zero => exact absurd HA.out (by simp [spec_l3PutsOk.l0])
  | succ k1 =>
   have H := HA.out
   clear HA
   simp only [spec_l3PutsOk.l0] at H
   by_cases c3 : x5_1 < (l0.length : Int)
   ·rw [if_pos c3] at H
    have c3b0 : decide (x5_1 < (l0.length : Int)) = true := decide_eq_true c3
    clear c3
    by_cases c4 : 0 ≤ x5_1
    ·rw [if_pos c4] at H
     have c4b0 : decide (0 ≤ x5_1) = true := decide_eq_true c4
     clear c4
     replace H := Option.bind_eq_some_iff.mp H
     obtain ⟨t102, A50, H⟩ := H
     try dsimp only at H
     have A5 := aM A50
     clear A50
     by_cases c6 : t102 = true
     ·subst c6
      rw [if_pos rfl] at H
      by_cases c7 : (((rd_T65 l0 x5_1).f1).size : Int) > 90
      ·rw [if_pos c7] at H
       have c7b0 : decide (90 < (((rd_T65 l0 x5_1).f1).size : Int)) = true := decide_eq_true c7
       have c7b1 : decide (90 < ((rd_T65 l0 x5_1).f1).size) = true := decide_eq_true (by omega)
       clear c7
       obtain rfl := Option.some.inj H
       have p101 : 0 ≤ (x5_1 : Int) := dT
       have q101 : x5_1 < (l0.length : Int) := dT
       obtain ⟨ad101, e101, hx101_0, hx101_1⟩ := at_T65 HR0.out x5_1 p101 q101
       cases e101
       replace p101 := eq_true p101
       replace q101 := eq_true q101
       go_wp2_with (first | ((with_reducible refine gate_callee (f := 69) rfl ?_); refine gL (some 19) Try.func69 #[.int .i64 ((rd_T65 l0 x5_1).f0), .int .i64 0, .int .i64 (wrap64 (a1 - 1))] ?_; (with_reducible refine (spec_l1In.calls ((rd_T65 l0 x5_1).f0) 0 (wrap64 (a1 - 1)) true _ A5.out).mono ?_); rintro e w' ⟨rfl, ⟨nd, rfl⟩⟩; refine ⟨_, rfl, ?_⟩; have p103 : 0 ≤ (x5_1 : Int) := dT; have q103 : x5_1 < (l0.length : Int) := dT; obtain ⟨ad103, e103, hx103_0, hx103_1⟩ := at_T65 HR0.out x5_1 p103 q103; obtain rfl : ad101 = ad103 := (by injection e103); replace p103 := eq_true p103; replace q103 := eq_true q103))
       go_ret
       exact ⟨by first | rfl | (simp; done) | (simp [*]; done), by repeat (first | exact Drawn0.refl _ | apply Drawn0.step)⟩
      ·rw [if_neg c7] at H
       have c7b0 : decide (90 < (((rd_T65 l0 x5_1).f1).size : Int)) = false := decide_eq_false c7
       have c7b1 : decide (90 < ((rd_T65 l0 x5_1).f1).size) = false := decide_eq_false (by omega)
       clear c7
       have H' := aM H
       clear H
       have p101 : 0 ≤ (x5_1 : Int) := dT
       have q101 : x5_1 < (l0.length : Int) := dT
       obtain ⟨ad101, e101, hx101_0, hx101_1⟩ := at_T65 HR0.out x5_1 p101 q101
       cases e101
       replace p101 := eq_true p101
       replace q101 := eq_true q101
       go_wp2_with (first | ((with_reducible refine gate_callee (f := 69) rfl ?_); refine gL (some 19) Try.func69 #[.int .i64 ((rd_T65 l0 x5_1).f0), .int .i64 0, .int .i64 (wrap64 (a1 - 1))] ?_; (with_reducible refine (spec_l1In.calls ((rd_T65 l0 x5_1).f0) 0 (wrap64 (a1 - 1)) true _ A5.out).mono ?_); rintro e w' ⟨rfl, ⟨nd, rfl⟩⟩; refine ⟨_, rfl, ?_⟩; have p103 : 0 ≤ (x5_1 : Int) := dT; have q103 : x5_1 < (l0.length : Int) := dT; obtain ⟨ad103, e103, hx103_0, hx103_1⟩ := at_T65 HR0.out x5_1 p103 q103; obtain rfl : ad101 = ad103 := (by injection e103); replace p103 := eq_true p103; replace q103 := eq_true q103))
       go_roundg k1
       case measure => have := HK1.out; omega
       case rel => exact ⟨(wrap64 (x5_1 + 1)), (by first | rfl | (simp; done) | (simp [*]; done) | (simp; exact (by intro l_; cases l_ <;> rfl : ∀ l_ : List UInt8, l_.isEmpty = !(l_ != [])) _)), H', ⟨by have := HK1.out; omega⟩, by repeat (first | exact Drawn0.refl _ | apply Drawn0.step)⟩
     ·replace c6 := Bool.eq_false_iff.mpr c6
      subst c6
      rw [if_neg (show ¬ (false = true) by decide)] at H
      obtain rfl := Option.some.inj H
      have p101 : 0 ≤ (x5_1 : Int) := dT
      have q101 : x5_1 < (l0.length : Int) := dT
      obtain ⟨ad101, e101, hx101_0, hx101_1⟩ := at_T65 HR0.out x5_1 p101 q101
      cases e101
      replace p101 := eq_true p101
      replace q101 := eq_true q101
      go_wp2_with (first | ((with_reducible refine gate_callee (f := 69) rfl ?_); refine gL (some 19) Try.func69 #[.int .i64 ((rd_T65 l0 x5_1).f0), .int .i64 0, .int .i64 (wrap64 (a1 - 1))] ?_; (with_reducible refine (spec_l1In.calls ((rd_T65 l0 x5_1).f0) 0 (wrap64 (a1 - 1)) false _ A5.out).mono ?_); rintro e w' ⟨rfl, ⟨nd, rfl⟩⟩; refine ⟨_, rfl, ?_⟩))
      go_ret
      exact ⟨by first | rfl | (simp; done) | (simp [*]; done), by repeat (first | exact Drawn0.refl _ | apply Drawn0.step)⟩
    ·rw [if_neg c4] at H
     exact absurd H (by simp)
   ·rw [if_neg c3] at H
    have c3b0 : decide (x5_1 < (l0.length : Int)) = false := decide_eq_false c3
    clear c3
    obtain rfl := Option.some.inj H
    go_wp2
    go_ret
    exact ⟨by first | rfl | (simp; done) | (simp [*]; done), by repeat (first | exact Drawn0.refl _ | apply Drawn0.step)⟩

/-! ### spec_DiskOk: function 16 -/
mutual
def spec_DiskOk.j0 : Nat → Bool → List ByteArray → List (S65) → Option (Bool)
 | 0, _, _, _ => none
 | k + 1, x13, x105000, x105001 => if x13 = true then (some false) else (spec_DiskOk.l0 k 0 x105000 x105001)
def spec_DiskOk.l0 : Nat → Int → List ByteArray → List (S65) → Option (Bool)
 | 0, _, _, _ => none
 | k + 1, x3, x105000, x105001 => if x3 < (x105000.length : Int) then (if 0 ≤ x3 then (if ((rdOf ByteArray.empty x105000 x3).size : Int) > 90 then (some false) else (spec_DiskOk.l0 k (wrap64 (x3 + 1)) x105000 x105001)) else (none)) else ((spec_l3PutsOk.f k x105001 (x105000.length : Int)).bind fun t106 => (some t106))
end
def spec_DiskOk.f (k : Nat) (l0_0 : List ByteArray) (l0_1 : List (S65)) : Option (Bool) := if (l0_0.length : Int) > 120 then (spec_DiskOk.j0 k true l0_0 l0_1) else (spec_DiskOk.j0 k (decide ((l0_1.length : Int) > 400)) l0_0 l0_1)
theorem spec_DiskOk.mono_l : ∀ k, (∀ y0 y1 y2, LeO (spec_DiskOk.j0 k y0 y1 y2) (spec_DiskOk.j0 (k + 1) y0 y1 y2)) ∧ (∀ y0 y1 y2, LeO (spec_DiskOk.l0 k y0 y1 y2) (spec_DiskOk.l0 (k + 1) y0 y1 y2))
 | 0 => ⟨fun _ _ _ r h => by simp [spec_DiskOk.j0] at h, fun _ _ _ r h => by simp [spec_DiskOk.l0] at h⟩
 | k + 1 => by
  obtain ⟨ih0, ih1⟩ := spec_DiskOk.mono_l k
  refine ⟨?_, ?_⟩
  ·intro y0 y1 y2
   unfold spec_DiskOk.j0
   have m0_ := @spec_l3PutsOk.mono
   exact mM
  ·intro y0 y1 y2
   unfold spec_DiskOk.l0
   have m0_ := @spec_l3PutsOk.mono
   exact mM
theorem spec_DiskOk.mono : ∀ a0 a1 k, LeO (spec_DiskOk.f k a0 a1) (spec_DiskOk.f (k + 1) a0 a1) := by
 intro a0 a1 k
 obtain ⟨ih0, ih1⟩ := spec_DiskOk.mono_l k
 unfold spec_DiskOk.f
 have m0_ := @spec_l3PutsOk.mono
 exact mM
set_option maxHeartbeats 8000000 in
set_option maxRecDepth 100000 in
theorem spec_DiskOk.calls (k : Nat) (A0_0 : Option Addr) (c0_0 : Nat) (l0_0 : List ByteArray) (A0_1 : Option Addr) (c0_1 : Nat) (l0_1 : List (S65)) (r : Bool) (w : World) (hr0_0 : Kd.C Kd.string w A0_0 l0_0.length l0_0) (hc0_0 : l0_0.length ≤ c0_0) (hr0_1 : Kd.C k65 w A0_1 l0_1.length l0_1) (hc0_1 : l0_1.length ≤ c0_1) (h : spec_DiskOk.f k l0_0 l0_1 = some r) :
  Calls Try.prog 16 #[.agg #[.slice A0_0 l0_0.length c0_0, .slice A0_1 l0_1.length c0_1]] w fun e w' => e = .returned (.bool r) ∧ Below w.heap.size w w' := by
 have hu30 := Try.underlying30
 have HR0_0 := aM hr0_0
 have HC0_0 := aM hc0_0
 clear hr0_0 hc0_0
 have HR0_1 := aM hr0_1
 have HC0_1 := aM hc0_1
 clear hr0_1 hc0_1
 have HB := aM (Below.refl w.heap.size w)
 unfold spec_DiskOk.f at h
 have H := h
 clear h
 have HC2 := aM H
 clear H
 go_enter Try.func16, Try.ntmps16
 go_upto_region 1 with (first | ((with_reducible refine gate_dst (N := 1) rfl ?_); (try (refine gate_guard (by rfl) ?_; dsimp only)); refine box_event ?hg (N := 1) ?hd (cs := #[.slice A0_0 l0_0.length c0_0, .slice A0_1 l0_1.length c0_1]) (t := 30) ?hr ?_; (case hd => rfl); (case hg => rfl); (case hr => first | (go_simp; done) | (go_simp; rfl)); intro gb104 hg w3 hbox hb; have n_ := aI (sB HB hb) (aI (aM hbox) (aI (gE HB hg) (gE HB hg))); clear HB; obtain ⟨HB, BK104, GW104, GE104⟩ := n_; (try clear hb hbox hg)))
 (try simp only [Act.put, List.setIfInBounds_toArray, List.set_cons_zero, List.set_cons_succ])
 go_cut [13] (fun v13 wc => ∃ (kq : Nat) (x13_1 : Bool), v13 = .bool x13_1 ∧ Aside0 (spec_DiskOk.j0 kq x13_1 l0_0 l0_1 = some r) ∧ Aside0 (kq ≤ k) ∧ Aside0 (wc.heap[gb104]? = some (.cells #[(.slice A0_0 l0_0.length c0_0), (.slice A0_1 l0_1.length c0_1)] 30 (0, 0))) ∧ Aside0 (Below w.heap.size w wc))
 case first =>
  have H := HC2.out
  clear HC2
  by_cases c4 : (l0_0.length : Int) > 120
  ·rw [if_pos c4] at H
   have c4b0 : decide (120 < (l0_0.length : Int)) = true := decide_eq_true c4
   have c4b1 : decide (120 < l0_0.length) = true := decide_eq_true (by omega)
   clear c4
   (first | rw [c4b0] | (simp only [i64_w, i32_w]; rw [c4b0]) | rw [c4b1] | rw [c4b2] | skip)
   have H' := aM H
   clear H
   have hcz5_0 := cZ0 BK104
   have hcz5_1 := cZ1 BK104
   have hfz5_0 := fZ BK104 0
   have hfz5_1 := fZ BK104 1
   go_wp2
   go_meet
   case rel => exact ⟨_, (true), (by first | rfl | (simp; done) | (simp [*]; done) | (simp; exact (by intro l_; cases l_ <;> rfl : ∀ l_ : List UInt8, l_.isEmpty = !(l_ != [])) _)), H', ⟨by first | omega | exact Nat.le_refl _⟩, ⟨kP BK104⟩, ⟨bB⟩⟩
  rw [if_neg c4] at H
  have c4b0 : decide (120 < (l0_0.length : Int)) = false := decide_eq_false c4
  have c4b1 : decide (120 < l0_0.length) = false := decide_eq_false (by omega)
  clear c4
  (first | rw [c4b0] | (simp only [i64_w, i32_w]; rw [c4b0]) | rw [c4b1] | rw [c4b2] | skip)
  have H' := aM H
  clear H
  have hcz6_0 := cZ0 BK104
  have hcz6_1 := cZ1 BK104
  have hfz6_0 := fZ BK104 0
  have hfz6_1 := fZ BK104 1
  go_wp2
  go_meet
  case rel => exact ⟨_, (decide ((l0_1.length : Int) > 400)), (by first | rfl | (simp; done) | (simp [*]; done) | (simp; exact (by intro l_; cases l_ <;> rfl : ∀ l_ : List UInt8, l_.isEmpty = !(l_ != [])) _)), H', ⟨by first | omega | exact Nat.le_refl _⟩, ⟨kP BK104⟩, ⟨bB⟩⟩
 case rest =>
  clear HC2
  try clear c1
  try clear p2
  try clear c4
  try clear c4b0
  try clear c4b1
  try clear c4b2
  try clear hcz5_0
  try clear hcz5_1
  try clear hcz6_0
  try clear hcz6_1
  try clear hfz5_0
  try clear hfz5_1
  try clear hfz6_0
  try clear hfz6_1
  obtain ⟨kq, x13_1, rfl, HA, HJ1, BK104, HB⟩ := hcut
  cases kq with
  | zero => exact absurd HA.out (by simp [spec_DiskOk.j0])
  | succ kj1 =>
   have H := HA.out
   clear HA
   simp only [spec_DiskOk.j0] at H
   by_cases c7 : x13_1 = true
   ·subst c7
    rw [if_pos rfl] at H
    obtain rfl := Option.some.inj H
    go_wp2
    go_ret
    exact ⟨eW, bB⟩
   ·replace c7 := Bool.eq_false_iff.mpr c7
    subst c7
    rw [if_neg (show ¬ (false = true) by decide)] at H
    have H' := aM H
    clear H
    go_wp2
    go_loopg [3] kj1 (fun kq v3 w' => ∃ (x3_2 : Int), v3 = .int .i64 x3_2 ∧ Aside0 (spec_DiskOk.l0 kq x3_2 l0_0 l0_1 = some r) ∧ Aside0 (kq ≤ kj1) ∧ Aside0 (w'.heap[gb104]? = some (.cells #[(.slice A0_0 l0_0.length c0_0), (.slice A0_1 l0_1.length c0_1)] 30 (0, 0))) ∧ Aside0 (Below w.heap.size w w'))
    case atStart => exact ⟨(0), (by first | rfl | (simp; done) | (simp [*]; done) | (simp; exact (by intro l_; cases l_ <;> rfl : ∀ l_ : List UInt8, l_.isEmpty = !(l_ != [])) _)), H', ⟨Nat.le_refl _⟩, ⟨kP BK104⟩, ⟨bB⟩⟩
    case round =>
     clear H'
     try clear c1
     try clear p2
     try clear c4
     try clear c4b0
     try clear c4b1
     try clear c4b2
     try clear c7
     try clear hcz5_0
     try clear hcz5_1
     try clear hcz6_0
     try clear hcz6_1
     try clear hfz5_0
     try clear hfz5_1
     try clear hfz6_0
     try clear hfz6_1
     try clear p2
     obtain ⟨x3_2, rfl, HA, HK2, BK104, HB⟩ := hrel
     cases gk with
     | zero => exact absurd HA.out (by simp [spec_DiskOk.l0])
     | succ k2 =>
      have H := HA.out
      clear HA
      simp only [spec_DiskOk.l0] at H
      by_cases c8 : x3_2 < (l0_0.length : Int)
      ·rw [if_pos c8] at H
       have c8b0 : decide (x3_2 < (l0_0.length : Int)) = true := decide_eq_true c8
       clear c8
       by_cases c9 : 0 ≤ x3_2
       ·rw [if_pos c9] at H
        have c9b0 : decide (0 ≤ x3_2) = true := decide_eq_true c9
        clear c9
        by_cases c10 : ((rdOf ByteArray.empty l0_0 x3_2).size : Int) > 90
        ·rw [if_pos c10] at H
         have c10b0 : decide (90 < ((rdOf ByteArray.empty l0_0 x3_2).size : Int)) = true := decide_eq_true c10
         have c10b1 : decide (90 < (rdOf ByteArray.empty l0_0 x3_2).size) = true := decide_eq_true (by omega)
         clear c10
         obtain rfl := Option.some.inj H
         have hcz11_0 := cZ0 BK104
         have hcz11_1 := cZ1 BK104
         have hfz11_0 := fZ BK104 0
         have hfz11_1 := fZ BK104 1
         have p105 : 0 ≤ (x3_2 : Int) := dT
         have q105 : x3_2 < (l0_0.length : Int) := dT
         obtain ⟨ad105, e105, hx105_0⟩ := Kd.at_string HR0_0.out x3_2 p105 q105
         cases e105
         replace hx105_0 := (HB.out.cell (World.block_lt_of_cell? w _ hx105_0)).trans hx105_0
         replace p105 := eq_true p105
         replace q105 := eq_true q105
         go_wp2
         go_ret
         exact ⟨eW, bB⟩
        ·rw [if_neg c10] at H
         have c10b0 : decide (90 < ((rdOf ByteArray.empty l0_0 x3_2).size : Int)) = false := decide_eq_false c10
         have c10b1 : decide (90 < (rdOf ByteArray.empty l0_0 x3_2).size) = false := decide_eq_false (by omega)
         clear c10
         have H' := aM H
         clear H
         have hcz12_0 := cZ0 BK104
         have hcz12_1 := cZ1 BK104
         have hfz12_0 := fZ BK104 0
         have hfz12_1 := fZ BK104 1
         have p105 : 0 ≤ (x3_2 : Int) := dT
         have q105 : x3_2 < (l0_0.length : Int) := dT
         obtain ⟨ad105, e105, hx105_0⟩ := Kd.at_string HR0_0.out x3_2 p105 q105
         cases e105
         replace hx105_0 := (HB.out.cell (World.block_lt_of_cell? w _ hx105_0)).trans hx105_0
         replace p105 := eq_true p105
         replace q105 := eq_true q105
         go_wp2
         go_roundg k2
         case measure => have := HJ1.out; have := HK2.out; omega
         case rel => exact ⟨(wrap64 (x3_2 + 1)), (by first | rfl | (simp; done) | (simp [*]; done) | (simp; exact (by intro l_; cases l_ <;> rfl : ∀ l_ : List UInt8, l_.isEmpty = !(l_ != [])) _)), H', ⟨by have := HJ1.out; have := HK2.out; omega⟩, ⟨kP BK104⟩, ⟨bB⟩⟩
       ·rw [if_neg c9] at H
        exact absurd H (by simp)
      ·rw [if_neg c8] at H
       have c8b0 : decide (x3_2 < (l0_0.length : Int)) = false := decide_eq_false c8
       clear c8
       replace H := Option.bind_eq_some_iff.mp H
       obtain ⟨t106, A130, H⟩ := H
       try dsimp only at H
       have A13 := aM A130
       clear A130
       obtain rfl := Option.some.inj H
       have hcz14_0 := cZ0 BK104
       have hcz14_1 := cZ1 BK104
       have hfz14_0 := fZ BK104 0
       have hfz14_1 := fZ BK104 1
       go_wp2_with (first | ((with_reducible refine gate_callee (f := 59) rfl ?_); refine gL (some 33) Try.func59 #[.slice A0_1 l0_1.length c0_1, .int .i64 (l0_0.length : Int)] ?_; (with_reducible refine (spec_l3PutsOk.calls k2 _ _ l0_1 (l0_0.length : Int) t106 _ ?side1 ?side2 A13.out).mono ?_); (case side1 => exact cS HR0_1 HB); (case side2 => exact HC0_1.out); rintro e w' ⟨rfl, ⟨nd, rfl⟩⟩; refine ⟨_, rfl, ?_⟩))
       go_ret
       exact ⟨eW, bB⟩

-- NOT PRINTED: function 107 (slices_IndexFunc_string_string)

-- NOT PRINTED: function 62 (slices_ContainsFunc_string_string)

/-! ### impl_short: function 64 -/
def impl_short.f (a0 : ByteArray) : Option (Bool) := some (decide ((a0.size : Int) ≤ 90))
set_option maxHeartbeats 8000000 in
set_option maxRecDepth 100000 in
theorem impl_short.calls (a0 : ByteArray) (r : Bool) (w : World) (h : impl_short.f a0 = some r) :
  Calls Try.prog 64 #[.string a0] w fun e w' => e = .returned (.bool r) ∧ Drawn0 w w' := by
 unfold impl_short.f at h
 have H := h
 clear h
 obtain rfl := Option.some.inj H
 go_enter Try.func64, Try.ntmps64
 go_wp2
 go_ret
 exact ⟨by first | rfl | (simp; done) | (simp [*]; done), by repeat (first | exact Drawn0.refl _ | apply Drawn0.step)⟩

/-! ### impl_DiskOk_1: function 63 -/
def impl_DiskOk_1.f (a0 : ByteArray) : Option (Bool) := (impl_short.f a0).bind fun t107 => (some (!t107))
set_option maxHeartbeats 8000000 in
set_option maxRecDepth 100000 in
theorem impl_DiskOk_1.calls (a0 : ByteArray) (r : Bool) (w : World) (h : impl_DiskOk_1.f a0 = some r) :
  Calls Try.prog 63 #[.string a0] w fun e w' => e = .returned (.bool r) ∧ Drawn0 w w' := by
 unfold impl_DiskOk_1.f at h
 have H := h
 clear h
 replace H := Option.bind_eq_some_iff.mp H
 obtain ⟨t107, A20, H⟩ := H
 try dsimp only at H
 have A2 := aM A20
 clear A20
 obtain rfl := Option.some.inj H
 go_enter Try.func63, Try.ntmps63
 go_wp2_with (first | ((with_reducible refine gate_callee (f := 64) rfl ?_); refine gL (some 4) Try.func64 #[.string a0] ?_; (with_reducible refine (impl_short.calls a0 t107 _ A2.out).mono ?_); rintro e w' ⟨rfl, ⟨nd, rfl⟩⟩; refine ⟨_, rfl, ?_⟩))
 go_ret
 exact ⟨by first | rfl | (simp; done) | (simp [*]; done), by repeat (first | exact Drawn0.refl _ | apply Drawn0.step)⟩

-- NOT PRINTED: function 108 (slices_IndexFunc_Put)

-- NOT PRINTED: function 65 (slices_ContainsFunc_Put)

/-! ### impl_within: function 67 -/
def impl_within.f (a0 : Int) (a1 : Int) (a2 : Int) : Option (Bool) := if a0 ≥ a1 then (some (decide (a0 ≤ a2))) else (some false)
set_option maxHeartbeats 8000000 in
set_option maxRecDepth 100000 in
theorem impl_within.calls (a0 : Int) (a1 : Int) (a2 : Int) (r : Bool) (w : World) (h : impl_within.f a0 a1 a2 = some r) :
  Calls Try.prog 67 #[.int .i64 a0, .int .i64 a1, .int .i64 a2] w fun e w' => e = .returned (.bool r) ∧ Drawn0 w w' := by
 unfold impl_within.f at h
 have H := h
 clear h
 by_cases c4 : a0 ≥ a1
 ·rw [if_pos c4] at H
  have c4b0 : decide (a1 ≤ a0) = true := decide_eq_true c4
  clear c4
  obtain rfl := Option.some.inj H
  go_enter Try.func67, Try.ntmps67
  go_wp2
  go_ret
  exact ⟨by first | rfl | (simp; done) | (simp [*]; done), by repeat (first | exact Drawn0.refl _ | apply Drawn0.step)⟩
 rw [if_neg c4] at H
 have c4b0 : decide (a1 ≤ a0) = false := decide_eq_false c4
 clear c4
 obtain rfl := Option.some.inj H
 go_enter Try.func67, Try.ntmps67
 go_wp2
 go_ret
 exact ⟨by first | rfl | (simp; done) | (simp [*]; done), by repeat (first | exact Drawn0.refl _ | apply Drawn0.step)⟩

/-! ### impl_DiskOk_2: function 66 -/
def impl_DiskOk_2.f (n : Nat) (p : S65) : Bool := !(decide (0 ≤ p.f0 ∧ p.f0 ≤ wrap64 ((n : Int) - 1)) && decide ((p.f1.size : Int) ≤ 90))
theorem impl_DiskOk_2.within (a b c : Int) : impl_within.f a b c = some (decide (b ≤ a ∧ a ≤ c)) := by
 unfold impl_within.f
 by_cases h : a ≥ b
 ·rw [if_pos h]
  congr 1
  rw [decide_eq_decide]
  omega
 rw [if_neg h]
 congr 1
 symm
 rw [decide_eq_false_iff_not]
 omega
set_option maxHeartbeats 8000000 in
set_option maxRecDepth 100000 in
theorem impl_DiskOk_2.calls (p : S65) (g : Nat) (A : Option Addr) (n c : Nat) (v1 : Value) (w : World) (hg0 : w.heap[g]? = some (.cells #[.slice A n c, v1] 30 (0, 0))) :
  Calls Try.prog 66 #[.agg #[.int .i64 p.f0, .string p.f1], .pointer (some ⟨g, 0, none⟩)] w fun e w' => e = .returned (.bool (impl_DiskOk_2.f n p)) ∧ Below w.heap.size w w' := by
 have hu65 := Try.underlying65
 have hu30 := Try.underlying30
 have HB := aM (Below.refl w.heap.size w)
 have hw := impl_DiskOk_2.within p.f0 0 (wrap64 ((n : Int) - 1))
 unfold impl_DiskOk_2.f
 cases hd : decide (0 ≤ p.f0 ∧ p.f0 ≤ wrap64 ((n : Int) - 1)) with
 | true =>
  rw [hd] at hw
  go_enter Try.func66, Try.ntmps66
  go_wp2_with (first
   | ((with_reducible refine gate_dst (N := 2) rfl ?_); refine bE 2 #[.int .i64 p.f0, .string p.f1] 65 ?_; intro gb hg w4 hbox hb; have hc0 : w4.cell? ⟨gb, 0, none⟩ = some (.int .i64 p.f0) := (blk_cell hbox 0).trans rfl; have hc1 : w4.cell? ⟨gb, 1, none⟩ = some (.string p.f1) := (blk_cell hbox 1).trans rfl; have hc2 : w4.cell? ⟨g, 0, none⟩ = some (.slice A n c) := (blk_cell (blk_below hg0 hb) 0).trans rfl; have HB2 := aM (below_step HB.out hb); clear HB; have HB := HB2; clear HB2; clear hbox hb hg)
   | (go_at_call 67; (with_reducible refine (impl_within.calls p.f0 0 (wrap64 ((n : Int) - 1)) true _ hw).mono ?_); rintro e w' ⟨rfl, ⟨nd, rfl⟩⟩)
   | (go_at_call 64; (with_reducible refine (impl_short.calls p.f1 (decide ((p.f1.size : Int) ≤ 90)) _ rfl).mono ?_); rintro e w' ⟨rfl, ⟨nd, rfl⟩⟩))
  go_ret
  exact ⟨by first | rfl | (simp; done), bB⟩
 | false =>
  rw [hd] at hw
  go_enter Try.func66, Try.ntmps66
  go_wp2_with (first
   | ((with_reducible refine gate_dst (N := 2) rfl ?_); refine bE 2 #[.int .i64 p.f0, .string p.f1] 65 ?_; intro gb hg w4 hbox hb; have hc0 : w4.cell? ⟨gb, 0, none⟩ = some (.int .i64 p.f0) := (blk_cell hbox 0).trans rfl; have hc1 : w4.cell? ⟨gb, 1, none⟩ = some (.string p.f1) := (blk_cell hbox 1).trans rfl; have hc2 : w4.cell? ⟨g, 0, none⟩ = some (.slice A n c) := (blk_cell (blk_below hg0 hb) 0).trans rfl; have HB2 := aM (below_step HB.out hb); clear HB; have HB := HB2; clear HB2; clear hbox hb hg)
   | (go_at_call 67; (with_reducible refine (impl_within.calls p.f0 0 (wrap64 ((n : Int) - 1)) false _ hw).mono ?_); rintro e w' ⟨rfl, ⟨nd, rfl⟩⟩))
  go_ret
  exact ⟨by first | rfl | (simp; done), bB⟩


/-! ### impl_DiskOk: function 18 -/
set_option maxHeartbeats 8000000 in
set_option maxRecDepth 100000 in
theorem slices_IndexFunc_Put_DiskOk_2.calls (g : Nat) (A : Option Addr) (n c : Nat) (v1 : Value) (A0 : Option Addr) (c0 : Nat) (l0 : List S65) (w : World) (hg0 : w.heap[g]? = some (.cells #[.slice A n c, v1] 30 (0, 0))) (hr0 : Kd.C k65 w A0 l0.length l0) :
  Calls Try.prog 108 #[.slice A0 l0.length c0, .func (.func 66) #[] #[.pointer (some ⟨g, 0, none⟩)]] w fun e w' => ∃ r : Int, e = .returned (.int .i64 r) ∧ decide (r ≥ 0) = l0.any (impl_DiskOk_2.f n) ∧ Below w.heap.size w w' := by
 have hu65 := Try.underlying65
 have HR0 := aM hr0
 have HG := aM hg0
 have HL := aM hr0.2.1
 clear hr0 hg0
 go_enter Try.func108, Try.ntmps108
 go_wp2
 go_loopg [8] l0.length (fun gg v8 w' => ∃ kk : Nat, v8 = .int .i64 (kk : Int) ∧ Aside0 (kk ≤ l0.length) ∧ Aside0 (l0.length - kk ≤ gg) ∧ Aside0 (∀ j, j < kk → impl_DiskOk_2.f n (l0.getD j z65) = false) ∧ Aside0 (Below w.heap.size w w'))
 case atStart => exact ⟨0, rfl, ⟨Nat.zero_le _⟩, ⟨by omega⟩, ⟨fun j hj => absurd hj (Nat.not_lt_zero _)⟩, ⟨Below.refl _ _⟩⟩
 case round =>
  obtain ⟨kk, rfl, H1, H2, H3, HB⟩ := hrel
  by_cases hlt : (kk : Int) < (l0.length : Int)
  ·have hb0 : decide ((kk : Int) < (l0.length : Int)) = true := decide_eq_true hlt
   have hk0 : 0 ≤ (kk : Int) := Int.natCast_nonneg _
   obtain ⟨ad, e, hx0, hx1⟩ := at_T65 HR0.out (kk : Int) hk0 hlt
   cases e
   replace hx0 := (HB.out.cell (World.block_lt_of_cell? w _ hx0)).trans hx0
   replace hx1 := (HB.out.cell (World.block_lt_of_cell? w _ hx1)).trans hx1
   have hcal := impl_DiskOk_2.calls (rd_T65 l0 (kk : Int)) g A n c v1 wr (blk_below HG.out HB.out)
   simp only [Int.toNat_natCast] at hx0 hx1
   have hE : rd_T65 l0 (kk : Int) = l0.getD kk z65 := by simp [rd_T65]
   generalize rd_T65 l0 (kk : Int) = x at hx0 hx1 hcal hE
   have HE := aM hE
   clear hE
   have p207 := eq_true hk0
   have q207 := eq_true hlt
   clear hk0
   cases hq : impl_DiskOk_2.f n x with
   | true =>
    rw [hq] at hcal
    go_wp2_with (first | (go_at_call 66; (with_reducible refine hcal.mono ?_); rintro e w' ⟨rfl, hb⟩))
    go_ret
    refine ⟨(kk : Int), by first | rfl | (simp; done), ?_, below_step HB.out hb⟩
    rw [decide_eq_true (by omega)]
    symm
    rw [List.any_eq_true]
    refine ⟨x, ?_, hq⟩
    rw [HE.out, List.getD_eq_getElem?_getD, List.getElem?_eq_getElem (by omega)]
    exact List.getElem_mem _
   | false =>
    rw [hq] at hcal
    go_wp2_with (first | (go_at_call 66; (with_reducible refine hcal.mono ?_); rintro e w' ⟨rfl, hb⟩))
    go_roundg (l0.length - (kk + 1))
    case measure => have := H2.out; omega
    case rel =>
     refine ⟨kk + 1, ?_, ⟨by omega⟩, ⟨Nat.le_refl _⟩, ⟨fun j hj => ?_⟩, ⟨below_step HB.out hb⟩⟩
     ·have := HL.out
      rw [show wrap64 ((kk : Int) + 1) = ((kk + 1 : Nat) : Int) by unfold wrap64; omega]
     ·by_cases e : j = kk
      ·rw [e, ← HE.out]; exact hq
      ·exact H3.out j (by omega)
  have hb0 : decide ((kk : Int) < (l0.length : Int)) = false := decide_eq_false hlt
  go_wp2
  go_ret
  refine ⟨-1, by first | rfl | (simp; done), ?_, HB.out⟩
  rw [decide_eq_false (by omega)]
  symm
  rw [List.any_eq_false]
  intro x hx
  obtain ⟨j, hj, rfl⟩ := List.mem_iff_getElem.1 hx
  have h1 := H1.out
  have := H3.out j (by omega)
  rw [List.getD_eq_getElem?_getD, List.getElem?_eq_getElem hj] at this
  simpa using this
def longText (s : ByteArray) : Bool := !(decide ((s.size : Int) ≤ 90))
set_option maxHeartbeats 8000000 in
set_option maxRecDepth 100000 in
theorem slices_IndexFunc_string_DiskOk_1.calls (A0 : Option Addr) (c0 : Nat) (l0 : List ByteArray) (w : World) (hr0 : Kd.C Kd.string w A0 l0.length l0) :
  Calls Try.prog 107 #[.slice A0 l0.length c0, .func (.func 63) #[] #[]] w fun e w' => ∃ r : Int, e = .returned (.int .i64 r) ∧ decide (r ≥ 0) = l0.any (longText) ∧ Below w.heap.size w w' := by
 have HR0 := aM hr0
 have HL := aM hr0.2.1
 clear hr0
 go_enter Try.func107, Try.ntmps107
 go_wp2
 go_loopg [8] l0.length (fun gg v8 w' => ∃ kk : Nat, v8 = .int .i64 (kk : Int) ∧ Aside0 (kk ≤ l0.length) ∧ Aside0 (l0.length - kk ≤ gg) ∧ Aside0 (∀ j, j < kk → longText (l0.getD j ByteArray.empty) = false) ∧ Aside0 (Below w.heap.size w w'))
 case atStart => exact ⟨0, rfl, ⟨Nat.zero_le _⟩, ⟨by omega⟩, ⟨fun j hj => absurd hj (Nat.not_lt_zero _)⟩, ⟨Below.refl _ _⟩⟩
 case round =>
  obtain ⟨kk, rfl, H1, H2, H3, HB⟩ := hrel
  by_cases hlt : (kk : Int) < (l0.length : Int)
  ·have hb0 : decide ((kk : Int) < (l0.length : Int)) = true := decide_eq_true hlt
   have hk0 : 0 ≤ (kk : Int) := Int.natCast_nonneg _
   obtain ⟨ad, e, hx0⟩ := Kd.at_string HR0.out (kk : Int) hk0 hlt
   cases e
   replace hx0 := (HB.out.cell (World.block_lt_of_cell? w _ hx0)).trans hx0
   have hcal := impl_DiskOk_1.calls (rdOf ByteArray.empty l0 (kk : Int)) (longText (rdOf ByteArray.empty l0 (kk : Int))) wr rfl
   simp only [Int.toNat_natCast] at hx0
   have hE : rdOf ByteArray.empty l0 (kk : Int) = l0.getD kk ByteArray.empty := by simp [rdOf]
   generalize rdOf ByteArray.empty l0 (kk : Int) = x at hx0 hcal hE
   have HE := aM hE
   clear hE
   have p207 := eq_true hk0
   have q207 := eq_true hlt
   clear hk0
   cases hq : longText x with
   | true =>
    rw [hq] at hcal
    go_wp2_with (first | (go_at_call 63; (with_reducible refine hcal.mono ?_); rintro e w' ⟨rfl, hd⟩; have hb := hd.below; clear hd))
    go_ret
    refine ⟨(kk : Int), by first | rfl | (simp; done), ?_, below_step HB.out hb⟩
    rw [decide_eq_true (by omega)]
    symm
    rw [List.any_eq_true]
    refine ⟨x, ?_, hq⟩
    rw [HE.out, List.getD_eq_getElem?_getD, List.getElem?_eq_getElem (by omega)]
    exact List.getElem_mem _
   | false =>
    rw [hq] at hcal
    go_wp2_with (first | (go_at_call 63; (with_reducible refine hcal.mono ?_); rintro e w' ⟨rfl, hd⟩; have hb := hd.below; clear hd))
    go_roundg (l0.length - (kk + 1))
    case measure => have := H2.out; omega
    case rel =>
     refine ⟨kk + 1, ?_, ⟨by omega⟩, ⟨Nat.le_refl _⟩, ⟨fun j hj => ?_⟩, ⟨below_step HB.out hb⟩⟩
     ·have := HL.out
      rw [show wrap64 ((kk : Int) + 1) = ((kk + 1 : Nat) : Int) by unfold wrap64; omega]
     ·by_cases e : j = kk
      ·rw [e, ← HE.out]; exact hq
      ·exact H3.out j (by omega)
  have hb0 : decide ((kk : Int) < (l0.length : Int)) = false := decide_eq_false hlt
  go_wp2
  go_ret
  refine ⟨-1, by first | rfl | (simp; done), ?_, HB.out⟩
  rw [decide_eq_false (by omega)]
  symm
  rw [List.any_eq_false]
  intro x hx
  obtain ⟨j, hj, rfl⟩ := List.mem_iff_getElem.1 hx
  have h1 := H1.out
  have := H3.out j (by omega)
  rw [List.getD_eq_getElem?_getD, List.getElem?_eq_getElem hj] at this
  simpa using this

set_option maxHeartbeats 8000000 in
set_option maxRecDepth 100000 in
theorem slices_ContainsFunc_Put_DiskOk_2.calls (g : Nat) (A : Option Addr) (n c : Nat) (v1 : Value) (A0 : Option Addr) (c0 : Nat) (l0 : List S65) (w : World) (hg0 : w.heap[g]? = some (.cells #[.slice A n c, v1] 30 (0, 0))) (hr0 : Kd.C k65 w A0 l0.length l0) :
  Calls Try.prog 65 #[.slice A0 l0.length c0, .func (.func 66) #[] #[.pointer (some ⟨g, 0, none⟩)]] w fun e w' => e = .returned (.bool (l0.any (impl_DiskOk_2.f n))) ∧ Below w.heap.size w w' := by
 have hcal := slices_IndexFunc_Put_DiskOk_2.calls g A n c v1 A0 c0 l0 w hg0 hr0
 clear hg0 hr0
 go_enter Try.func65, Try.ntmps65
 go_wp2_with (first | (go_at_call 108; (with_reducible refine hcal.mono ?_); rintro e w' ⟨r, rfl, hr, hb⟩))
 go_ret
 exact ⟨by rw [← hr]; rfl, hb⟩
set_option maxHeartbeats 8000000 in
set_option maxRecDepth 100000 in
theorem slices_ContainsFunc_string_DiskOk_1.calls (A0 : Option Addr) (c0 : Nat) (l0 : List ByteArray) (w : World) (hr0 : Kd.C Kd.string w A0 l0.length l0) :
  Calls Try.prog 62 #[.slice A0 l0.length c0, .func (.func 63) #[] #[]] w fun e w' => e = .returned (.bool (l0.any longText)) ∧ Below w.heap.size w w' := by
 have hcal := slices_IndexFunc_string_DiskOk_1.calls A0 c0 l0 w hr0
 clear hr0
 go_enter Try.func62, Try.ntmps62
 go_wp2_with (first | (go_at_call 107; (with_reducible refine hcal.mono ?_); rintro e w' ⟨r, rfl, hr, hb⟩))
 go_ret
 exact ⟨by rw [← hr]; rfl, hb⟩
def diskOk (l0 : List ByteArray) (l1 : List S65) : Bool := decide (l0.length ≤ 120) && (decide (l1.length ≤ 400) && (!(l0.any longText) && !(l1.any (impl_DiskOk_2.f l0.length))))
def impl_DiskOk.f (l0_0 : List ByteArray) (l0_1 : List S65) : Option Bool := some (diskOk l0_0 l0_1)
set_option maxHeartbeats 8000000 in
set_option maxRecDepth 100000 in
theorem impl_DiskOk.calls (A0_0 : Option Addr) (c0_0 : Nat) (l0_0 : List ByteArray) (A0_1 : Option Addr) (c0_1 : Nat) (l0_1 : List S65) (r : Bool) (w : World) (hr0_0 : Kd.C Kd.string w A0_0 l0_0.length l0_0) (hc0_0 : l0_0.length ≤ c0_0) (hr0_1 : Kd.C k65 w A0_1 l0_1.length l0_1) (hc0_1 : l0_1.length ≤ c0_1) (h : impl_DiskOk.f l0_0 l0_1 = some r) :
  Calls Try.prog 18 #[.agg #[.slice A0_0 l0_0.length c0_0, .slice A0_1 l0_1.length c0_1]] w fun e w' => e = .returned (.bool r) ∧ Below w.heap.size w w' := by
 have hu30 := Try.underlying30
 have HR0_0 := aM hr0_0
 have HR0_1 := aM hr0_1
 clear hr0_0 hc0_0 hr0_1 hc0_1
 obtain rfl := Option.some.inj h
 clear h
 unfold diskOk
 by_cases c1 : l0_0.length ≤ 120
 ·rw [decide_eq_true c1]
  have f1a : decide (120 < (l0_0.length : Int)) = false := decide_eq_false (by omega)
  have f1b : decide (120 < l0_0.length) = false := decide_eq_false (by omega)
  have f1c : decide ((l0_0.length : Int) > 120) = false := decide_eq_false (by omega)
  clear c1
  by_cases c2 : l0_1.length ≤ 400
  ·rw [decide_eq_true c2]
   have f2a : decide (400 < (l0_1.length : Int)) = false := decide_eq_false (by omega)
   have f2b : decide (400 < l0_1.length) = false := decide_eq_false (by omega)
   have f2c : decide ((l0_1.length : Int) > 400) = false := decide_eq_false (by omega)
   clear c2
   cases c3 : l0_0.any longText with
   | true =>
    go_enter Try.func18, Try.ntmps18
    go_wp2_with (first | ((with_reducible refine gate_dst (N := 1) rfl ?_); refine bE 1 #[.slice A0_0 l0_0.length c0_0, .slice A0_1 l0_1.length c0_1] 30 ?_; intro gb hg w4 hbox hb; have hc0 : w4.cell? ⟨gb, 0, none⟩ = some (.slice A0_0 l0_0.length c0_0) := (blk_cell hbox 0).trans rfl; have hc1 : w4.cell? ⟨gb, 1, none⟩ = some (.slice A0_1 l0_1.length c0_1) := (blk_cell hbox 1).trans rfl; have HG := aM hbox; have HB := aM hb; clear hbox hb hg) | (go_at_call 62; (with_reducible refine (slices_ContainsFunc_string_DiskOk_1.calls A0_0 c0_0 l0_0 _ (Kd.C_below HR0_0.out HB.out)).mono ?_); rintro e w' ⟨rfl, hb⟩; rw [c3]; replace hc0 := (hb.cell (World.block_lt_of_cell? _ _ hc0)).trans hc0; replace hc1 := (hb.cell (World.block_lt_of_cell? _ _ hc1)).trans hc1; have n1 := aM (blk_below HG.out hb); have n2 := aM (below_step HB.out hb); clear HG HB; have HG := n1; have HB := n2; clear n1 n2 hb))
    go_ret
    exact ⟨by first | rfl | (simp; done), bB⟩

   | false =>
    go_enter Try.func18, Try.ntmps18
    go_wp2_with (first | ((with_reducible refine gate_dst (N := 1) rfl ?_); refine bE 1 #[.slice A0_0 l0_0.length c0_0, .slice A0_1 l0_1.length c0_1] 30 ?_; intro gb hg w4 hbox hb; have hc0 : w4.cell? ⟨gb, 0, none⟩ = some (.slice A0_0 l0_0.length c0_0) := (blk_cell hbox 0).trans rfl; have hc1 : w4.cell? ⟨gb, 1, none⟩ = some (.slice A0_1 l0_1.length c0_1) := (blk_cell hbox 1).trans rfl; have HG := aM hbox; have HB := aM hb; clear hbox hb hg) | (go_at_call 62; (with_reducible refine (slices_ContainsFunc_string_DiskOk_1.calls A0_0 c0_0 l0_0 _ (Kd.C_below HR0_0.out HB.out)).mono ?_); rintro e w' ⟨rfl, hb⟩; rw [c3]; replace hc0 := (hb.cell (World.block_lt_of_cell? _ _ hc0)).trans hc0; replace hc1 := (hb.cell (World.block_lt_of_cell? _ _ hc1)).trans hc1; have n1 := aM (blk_below HG.out hb); have n2 := aM (below_step HB.out hb); clear HG HB; have HG := n1; have HB := n2; clear n1 n2 hb) | (go_at_call 65; (with_reducible refine (slices_ContainsFunc_Put_DiskOk_2.calls _ A0_0 l0_0.length c0_0 _ A0_1 c0_1 l0_1 _ HG.out (Kd.C_below HR0_1.out HB.out)).mono ?_); rintro e w' ⟨rfl, hb⟩; have n2 := aM (below_step HB.out hb); clear HB; have HB := n2; clear n2 hb))
    go_ret
    exact ⟨by first | rfl | (simp; done), bB⟩

  rw [decide_eq_false c2]
  have f2a : decide (400 < (l0_1.length : Int)) = true := decide_eq_true (by omega)
  have f2b : decide (400 < l0_1.length) = true := decide_eq_true (by omega)
  have f2c : decide ((l0_1.length : Int) > 400) = true := decide_eq_true (by omega)
  clear c2
  go_enter Try.func18, Try.ntmps18
  go_wp2_with (first | ((with_reducible refine gate_dst (N := 1) rfl ?_); refine bE 1 #[.slice A0_0 l0_0.length c0_0, .slice A0_1 l0_1.length c0_1] 30 ?_; intro gb hg w4 hbox hb; have hc0 : w4.cell? ⟨gb, 0, none⟩ = some (.slice A0_0 l0_0.length c0_0) := (blk_cell hbox 0).trans rfl; have hc1 : w4.cell? ⟨gb, 1, none⟩ = some (.slice A0_1 l0_1.length c0_1) := (blk_cell hbox 1).trans rfl; have HG := aM hbox; have HB := aM hb; clear hbox hb hg))
  go_ret
  exact ⟨by first | rfl | (simp; done), bB⟩

 rw [decide_eq_false c1]
 have f1a : decide (120 < (l0_0.length : Int)) = true := decide_eq_true (by omega)
 have f1b : decide (120 < l0_0.length) = true := decide_eq_true (by omega)
 have f1c : decide ((l0_0.length : Int) > 120) = true := decide_eq_true (by omega)
 clear c1
 go_enter Try.func18, Try.ntmps18
 go_wp2_with (first | ((with_reducible refine gate_dst (N := 1) rfl ?_); refine bE 1 #[.slice A0_0 l0_0.length c0_0, .slice A0_1 l0_1.length c0_1] 30 ?_; intro gb hg w4 hbox hb; have hc0 : w4.cell? ⟨gb, 0, none⟩ = some (.slice A0_0 l0_0.length c0_0) := (blk_cell hbox 0).trans rfl; have hc1 : w4.cell? ⟨gb, 1, none⟩ = some (.slice A0_1 l0_1.length c0_1) := (blk_cell hbox 1).trans rfl; have HG := aM hbox; have HB := aM hb; clear hbox hb hg))
 go_ret
 exact ⟨by first | rfl | (simp; done), bB⟩


/-! ### slices_Clone_string_string: function 111 -/
def slices_Clone_string_string.f (l0 : List ByteArray) : Option (List ByteArray) := if l0.length < 8796093022208 then some l0 else none
set_option maxHeartbeats 8000000 in
set_option maxRecDepth 100000 in
theorem slices_Clone_string_string.calls (A0 : Option Addr) (c0 : Nat) (l0 : List ByteArray) (r : List ByteArray) (w : World) (hr0 : Kd.C Kd.string w A0 l0.length l0) (hc0 : l0.length ≤ c0) (h : slices_Clone_string_string.f l0 = some r) :
  Calls Try.prog 111 #[.slice A0 l0.length c0] w fun e w' => ∃ v0_ : Value, e = .returned (v0_) ∧ Kd.R Kd.string 9 w' w.heap.size (fun _ => True) v0_ r ∧ Below w.heap.size w w' := by
 unfold slices_Clone_string_string.f at h
 split at h
 ·rename_i hlim
  obtain rfl := Option.some.inj h
  clear h
  have HB := aM (Below.refl w.heap.size w)
  have qs : ∀ (w : World) (a : Option Addr) (n c n' c' : Nat), (binOp .eql 22 (.slice a n c) (.slice none n' c')).run Try.prog w = .ok (.bool a.isNone) w := fun w a n c n' c' => Go.Lib.run_eql_slice_nil w _ _ a n c n' c' Try.underlying22
  cases A0 with
  | none =>
   have h0 : l0 = [] := by
    cases l0 with
    | nil => rfl
    | cons x l =>
     obtain ⟨ad, e, _⟩ := hr0.2.2 (by simp)
     cases e
   subst h0
   clear hr0
   go_enter Try.func111, Try.ntmps111
   go_wp2
   go_ret
   exact ⟨_, by first | rfl | (simp; done), Kd.R_nil _ _ _ _ _, bB⟩
  | some ad =>
   have HR0 := aM hr0
   have LM := aM hlim
   clear hr0 hc0 hlim
   go_enter Try.func111, Try.ntmps111
   go_wp2_with (first | ((with_reducible refine gate_dst (N := 5) rfl ?_); refine Kd.R_lit Kd.string _ 9 ?hg (N := 5) ?hd (xs := ([] : List ByteArray)) (inner := []) (ok := fun _ => True) (okp := fun _ => True) ?hr ?hp (fun _ hk => hk) trivial (Below.refl _ _) (Nat.le_refl _) (by simp) ?_; (case hd => rfl); (case hg => rfl); (case hr => first | (go_simp; done) | (go_simp; rfl)); (case hp => exact (Reps.none _ _)); intro v171 w3 ho4 hb hg_ hnew_; clear hg_ hnew_; have n_ := aI (lR HB ho4) (sB HB hb); clear HB; obtain ⟨HO172, HB⟩ := n_; (try clear hb ho4)) | ((with_reducible refine gate_builtin (b := .append) (xs := #[.tmp 5, .tmp 6]) rfl ?_); at_builtin; refine Kd.R_append_rows Kd.string (w0 := w) w.heap.size rfl (.tmp 5) (.tmp 6) 22 9 (.string ⟨#[]⟩) 16 rfl Try.underlying22 info9 rfl (by decide) (by omega) v171 [] l0 _ _ _ (fun _ => True) (fun _ => False) rfl rfl ?aO ?aR (fun _ _ h => h) (fun _ h => h.elim) ?aF ?aB ?aS ?aL ?_; (case aR => exact cS HR0 HB); (case aB => exact bB); (case aF => exact (fun _ _ => trivial)); (case aO => exact (rP HO172.out)); (case aS => exact (zB HB)); (case aL => have := LM.out; simp only [List.length_nil]; omega); intro v174 w5 ho hb hg hat; rw [List.nil_append] at ho; have n_ := aI (aM (hb)) (aM (ho)); clear HB HO172; obtain ⟨HB, HO175⟩ := n_; (try clear ho hb hg hat)))
   go_ret
   exact ⟨_, by first | rfl | (simp; done), by (with_reducible repeat (first | apply Kd.R_alloc | apply Kd.R_drewN | apply Kd.R_drew)); exact HO175.out, bB⟩
 cases h

/-! ### slices_Clone_Put: function 112 -/
def slices_Clone_Put.f (l0 : List S65) : Option (List S65) := if l0.length < 5864062014805 then some l0 else none
set_option maxHeartbeats 8000000 in
set_option maxRecDepth 100000 in
theorem slices_Clone_Put.calls (A0 : Option Addr) (c0 : Nat) (l0 : List S65) (r : List S65) (w : World) (hr0 : Kd.C k65 w A0 l0.length l0) (hc0 : l0.length ≤ c0) (h : slices_Clone_Put.f l0 = some r) :
  Calls Try.prog 112 #[.slice A0 l0.length c0] w fun e w' => ∃ v0_ : Value, e = .returned (v0_) ∧ Kd.R k65 65 w' w.heap.size (fun _ => True) v0_ r ∧ Below w.heap.size w w' := by
 unfold slices_Clone_Put.f at h
 split at h
 ·rename_i hlim
  obtain rfl := Option.some.inj h
  clear h
  have HB := aM (Below.refl w.heap.size w)
  have qs : ∀ (w : World) (a : Option Addr) (n c n' c' : Nat), (binOp .eql 28 (.slice a n c) (.slice none n' c')).run Try.prog w = .ok (.bool a.isNone) w := fun w a n c n' c' => Go.Lib.run_eql_slice_nil w _ _ a n c n' c' Try.underlying28
  cases A0 with
  | none =>
   have h0 : l0 = [] := by
    cases l0 with
    | nil => rfl
    | cons x l =>
     obtain ⟨ad, e, _⟩ := hr0.2.2 (by simp)
     cases e
   subst h0
   clear hr0
   go_enter Try.func112, Try.ntmps112
   go_wp2
   go_ret
   exact ⟨_, by first | rfl | (simp; done), Kd.R_nil _ _ _ _ _, bB⟩
  | some ad =>
   have HR0 := aM hr0
   have LM := aM hlim
   clear hr0 hc0 hlim
   go_enter Try.func112, Try.ntmps112
   go_wp2_with (first | ((with_reducible refine gate_dst (N := 5) rfl ?_); refine Kd.R_lit k65 _ 65 ?hg (N := 5) ?hd (xs := ([] : List S65)) (inner := []) (ok := fun _ => True) (okp := fun _ => True) ?hr ?hp (fun _ hk => hk) trivial (Below.refl _ _) (Nat.le_refl _) (by simp) ?_; (case hd => rfl); (case hg => rfl); (case hr => first | (go_simp; done) | (go_simp; rfl)); (case hp => exact (Reps.none _ _)); intro v171 w3 ho4 hb hg_ hnew_; clear hg_ hnew_; have n_ := aI (lR HB ho4) (sB HB hb); clear HB; obtain ⟨HO172, HB⟩ := n_; (try clear hb ho4)) | ((with_reducible refine gate_builtin (b := .append) (xs := #[.tmp 5, .tmp 6]) rfl ?_); at_builtin; refine Kd.R_append_rows k65 (w0 := w) w.heap.size rfl (.tmp 5) (.tmp 6) 28 65 (.agg #[(.int .i64 0), (.string ⟨#[]⟩)]) 24 rfl Try.underlying28 info65 rfl (by decide) (by omega) v171 [] l0 _ _ _ (fun _ => True) (fun _ => False) rfl rfl ?aO ?aR (fun _ _ h => h) (fun _ h => h.elim) ?aF ?aB ?aS ?aL ?_; (case aR => exact cS HR0 HB); (case aB => exact bB); (case aF => exact (fun _ _ => trivial)); (case aO => exact (rP HO172.out)); (case aS => exact (zB HB)); (case aL => have := LM.out; simp only [List.length_nil]; omega); intro v174 w5 ho hb hg hat; rw [List.nil_append] at ho; have n_ := aI (aM (hb)) (aM (ho)); clear HB HO172; obtain ⟨HB, HO175⟩ := n_; (try clear ho hb hg hat)))
   go_ret
   exact ⟨_, by first | rfl | (simp; done), by (with_reducible repeat (first | apply Kd.R_alloc | apply Kd.R_drewN | apply Kd.R_drew)); exact HO175.out, bB⟩
 cases h

/-! ### impl_cloneDisk: function 76 -/
def impl_cloneDisk.f (l0_0 : List ByteArray) (l0_1 : List (S65)) : Option (List ByteArray × (List (S65))) := (slices_Clone_string_string.f l0_0).bind fun t110 => ((slices_Clone_Put.f l0_1).bind fun t113 => (some (t110, t113)))
def impl_cloneDisk.T1 : Bool × List (List Nat × List Nat) := (true, [([], []), ([0], [0]), ([1], [1]), ([], []), ([3], [3]), ([4, 2], [4]), ([2, 5], [2, 5]), ([6, 5, 0, 1, 2, 3, 4, 5, 6], [6])])
def impl_cloneDisk.B1 : List Nat := [0, 1, 3, 0, 8, 31, 63, 127]
theorem impl_cloneDisk.tab1 : rtab .any (opsOf Try.f76 1) = impl_cloneDisk.T1 := by kernel_rfl
theorem impl_cloneDisk.bits1 : waitsOk impl_cloneDisk.T1.2 impl_cloneDisk.B1 = true := by kernel_rfl
set_option maxHeartbeats 8000000 in
set_option maxRecDepth 100000 in
theorem impl_cloneDisk.calls (A0_0 : Option Addr) (c0_0 : Nat) (l0_0 : List ByteArray) (A0_1 : Option Addr) (c0_1 : Nat) (l0_1 : List (S65)) (r1 : List ByteArray) (r2 : List (S65)) (w : World) (hr0_0 : Kd.C Kd.string w A0_0 l0_0.length l0_0) (hc0_0 : l0_0.length ≤ c0_0) (hr0_1 : Kd.C k65 w A0_1 l0_1.length l0_1) (hc0_1 : l0_1.length ≤ c0_1) (h : impl_cloneDisk.f l0_0 l0_1 = some (r1, r2)) :
  Calls Try.prog 76 #[.agg #[.slice A0_0 l0_0.length c0_0, .slice A0_1 l0_1.length c0_1]] w fun e w' => ∃ v0_ v1_ : Value, e = .returned (.agg #[v0_, v1_]) ∧ Kd.R Kd.string 9 w' w.heap.size (fun _ => True) v0_ r1 ∧ Kd.R k65 65 w' w.heap.size (fun _ => True) v1_ r2 ∧ Below w.heap.size w w' := by
 have hu30 := Try.underlying30
 have HR0_0 := aM hr0_0
 have HC0_0 := aM hc0_0
 clear hr0_0 hc0_0
 have HR0_1 := aM hr0_1
 have HC0_1 := aM hc0_1
 clear hr0_1 hc0_1
 have HB := aM (Below.refl w.heap.size w)
 unfold impl_cloneDisk.f at h
 have H := h
 clear h
 replace H := Option.bind_eq_some_iff.mp H
 obtain ⟨t110, A20, H⟩ := H
 try dsimp only at H
 have A2 := aM A20
 clear A20
 replace H := Option.bind_eq_some_iff.mp H
 obtain ⟨t113, A30, H⟩ := H
 try dsimp only at H
 have A3 := aM A30
 clear A30
 simp only [Option.some.injEq, Prod.mk.injEq] at H
 obtain ⟨rfl, rfl⟩ := H
 go_enter Try.func76, Try.ntmps76
 try go_wp2_with (first | ((with_reducible refine gate_dst (N := 1) rfl ?_); refine bE 1 #[.slice A0_0 l0_0.length c0_0, .slice A0_1 l0_1.length c0_1] 30 ?_; intro gb108 hg w4 hbox hb; have n_ := aI (sB HB hb) (aI (aM hbox) (aI (gE HB hg) (gE HB hg))); clear HB; obtain ⟨HB, BK108, GW108, GE108⟩ := n_; (try clear hb hbox hg)) | ((with_reducible refine gate_dst (N := 2) rfl ?_); refine bE 2 #[.slice none 0 0, .slice none 0 0] 30 ?_; intro gb109 hg w5 hbox hb; have n_ := aI (kB BK108 hb) (aI (sB HB hb) (aI (aM hbox) (aI (gE HB hg) (aI (gE HB hg) (aI (nL BK108 hg) (nG BK108 hg)))))); clear BK108 HB; obtain ⟨BK108, HB, BK109, GW109, GE109, NB108_109, NB109_108⟩ := n_; (try clear hb hbox hg)))
 have n_ := aI (aM (blk_drew BK108.out)) (aI (aM (blk_drew BK109.out)) (aM (below_drew1 HB.out)))
 clear BK108 BK109 HB
 obtain ⟨BK108, BK109, HB⟩ := n_
 refine start_ (n := 8) (S := fun w' => w'.cell? ⟨gb108, 0, none⟩ = some (.slice A0_0 l0_0.length c0_0) ∧ w'.cell? ⟨gb108, 1, none⟩ = some (.slice A0_1 l0_1.length c0_1)) (ds := []) #[tF, tF, tF, tF, tF, tF, tF, tF] (by kernel_rfl) rfl rfl ⟨(blk_cell BK108.out 0).trans rfl, (blk_cell BK108.out 1).trans rfl⟩ (fun hHeld => ?_); refine with_tabW impl_cloneDisk.tab1 impl_cloneDisk.bits1 (fun HT_ HW_ => ?_)
 generalize w5.drew = w6 at BK108 BK109 HB hHeld ⊢
 refine pY 0 3 #[tT, tF, tF, tF, tF, tF, tF, tF] ?_
 refine pY 3 6 #[tT, tF, tF, tT, tF, tF, tF, tF] ?_
 refine take_ (i := 1) (N := some 4) (v := ?_) (a' := ?_) #[tT, tT, tF, tT, tF, tF, tF, tF] rfl rfl (take_ofW HT_.out HW_.out (by kernel_rfl)) (fun _ _ _ h => h) (Or.inl ⟨by rfl, ?_⟩) hHeld ?_ ?_
 rotate_left
 ·rintro w' ⟨s0, s1⟩
  go_simp
  with_reducible rfl
 rotate_left
 ·simp only [Act.put, List.setIfInBounds_toArray, List.set_cons_zero, List.set_cons_succ, i64_w, i32_w]
  rfl
 refine take_ (i := 4) (N := some 7) (v := ?_) (a' := ?_) #[tT, tT, tF, tT, tT, tF, tF, tF] rfl rfl (take_ofW HT_.out HW_.out (by kernel_rfl)) (fun _ _ _ h => h) (Or.inl ⟨by rfl, ?_⟩) hHeld ?_ ?_
 rotate_left
 ·rintro w' ⟨s0, s1⟩
  go_simp
  with_reducible rfl
 rotate_left
 ·simp only [Act.put, List.setIfInBounds_toArray, List.set_cons_zero, List.set_cons_succ, i64_w, i32_w]
  rfl
 refine one_ (i := 2) (N := some 5) #[tT, tT, tT, tT, tT, tF, tF, tF] rfl rfl (one_of HT_.out (by kernel_rfl)) (by decide) (fun K hK => ?_)
 refine goes_ Try.func111 (by kernel_rfl) rfl #[.slice A0_0 l0_0.length c0_0] (by rfl) rfl rfl (by (try simp only [List.map_toArray, List.map_cons, List.map_nil]); first | done | rfl | (simp only [List.length_drop, List.length_take]; rfl)) ?_
 with_reducible refine (slices_Clone_string_string.calls _ _ l0_0 t110 _ ?side1 ?side2 A2.out).mono ?_
 (case side1 => exact cS HR0_0 HB)
 (case side2 => exact HC0_0.out)
 rintro e w7 ⟨v111, rfl, ho0, hb⟩
 refine ⟨_, rfl, ?_⟩
 have n_ := aI (lR HB ho0) (aI (kB BK108 hb) (aI (kB BK109 hb) (sB HB hb)))
 clear BK108 BK109 HB
 obtain ⟨HO112, BK108, BK109, HB⟩ := n_
 (try clear hb)
 (try clear hb2)
 (try clear hk)
 (try clear hi)
 (try clear ho0)
 refine hK.out _ _ ⟨(blk_cell BK108.out 0).trans rfl, (blk_cell BK108.out 1).trans rfl⟩ (fun hHeld => ?_)
 clear hK K
 refine norm_ (a' := ?_) ?_ ?_
 rotate_left
 ·show Act.put _ (some 5) _ = _
  simp only [Act.put, List.setIfInBounds_toArray, List.set_cons_zero, List.set_cons_succ, i64_w, i32_w]
  rfl
 refine one_ (i := 5) (N := some 8) #[tT, tT, tT, tT, tT, tT, tF, tF] rfl rfl (one_of HT_.out (by kernel_rfl)) (by decide) (fun K hK => ?_)
 refine goes_ Try.func112 (by kernel_rfl) rfl #[.slice A0_1 l0_1.length c0_1] (by rfl) rfl rfl (by (try simp only [List.map_toArray, List.map_cons, List.map_nil]); first | done | rfl | (simp only [List.length_drop, List.length_take]; rfl)) ?_
 with_reducible refine (slices_Clone_Put.calls _ _ l0_1 t113 _ ?side1 ?side2 A3.out).mono ?_
 (case side1 => exact cS HR0_1 HB)
 (case side2 => exact HC0_1.out)
 rintro e w8 ⟨v114, rfl, ho0, hb⟩
 refine ⟨_, rfl, ?_⟩
 have n_ := aI (rB HO112 hb) (aI (lR HB ho0) (aI (kB BK108 hb) (aI (kB BK109 hb) (sB HB hb))))
 clear HO112 BK108 BK109 HB
 obtain ⟨HO112, HO115, BK108, BK109, HB⟩ := n_
 (try clear hb)
 (try clear hb2)
 (try clear hk)
 (try clear hi)
 (try clear ho0)
 obtain ⟨Ao9, co9, eo9⟩ := Kd.R_slice HO115.out
 (first | subst eo9 | (injection eo9 with f1_ f2_ f3_; have f4_ := f1_.symm; have f5_ := f3_.symm; clear f1_ f2_ f3_; subst f4_; subst f5_))
 obtain ⟨Ao10, co10, eo10⟩ := Kd.R_slice HO112.out
 (first | subst eo10 | (injection eo10 with f1_ f2_ f3_; have f4_ := f1_.symm; have f5_ := f3_.symm; clear f1_ f2_ f3_; subst f4_; subst f5_))
 refine hK.out _ _ ⟨(blk_cell BK108.out 0).trans rfl, (blk_cell BK108.out 1).trans rfl⟩ (fun hHeld => ?_)
 clear hK K
 refine norm_ (a' := ?_) ?_ ?_
 rotate_left
 ·show Act.put _ (some 8) _ = _
  simp only [Act.put, List.setIfInBounds_toArray, List.set_cons_zero, List.set_cons_succ, i64_w, i32_w]
  rfl
 refine pY 6 9 #[tT, tT, tT, tT, tT, tT, tT, tF] ?_
 refine one_ (i := 7) (N := none) #[tT, tT, tT, tT, tT, tT, tT, tT] rfl rfl (one_of HT_.out (by kernel_rfl)) (by decide) (fun K hK => ?_)
 have hs11 : w8.cell? ⟨gb109, 0, none⟩ = some (.slice none 0 0) := (blk_cell BK109.out 0).trans rfl
 have hfs11 := blk_frozen BK109.out 0
 have hns11_0 := NB108_109.out
 have hms11_0 := NB109_108.out
 have hs12 : w8.cell? ⟨gb109, 1, none⟩ = some (.slice none 0 0) := (blk_cell BK109.out 1).trans rfl
 have hfs12 := blk_frozen BK109.out 1
 have hns12_0 := NB108_109.out
 have hms12_0 := NB109_108.out
 refine skip_ (w1 := ?_) (by rfl) rfl ?_ ?_
 rotate_left
 ·go_simp
  rfl
 refine hK.out _ _ ⟨((cell_far (p := ⟨gb109, _, none⟩) NB108_109.out _).trans (((cell_far (p := ⟨gb109, _, none⟩) NB108_109.out _).trans (hHeld.1)))), ((cell_far (p := ⟨gb109, _, none⟩) NB108_109.out _).trans (((cell_far (p := ⟨gb109, _, none⟩) NB108_109.out _).trans (hHeld.2))))⟩ (fun hHeld => ?_)
 clear hK K
 refine done_ (done_of HT_.out (by kernel_rfl)) ?_
 try go_wp2
 refine bodyPost_ret (results_cell_row rfl _ _ gb109 30 #[.slice Ao10 t110.length co10, .slice Ao9 t113.length co9] (0, 0) _ rfl (by (with_reducible repeat (first | apply bN | apply bD | apply bA)); refine blk_put (cs := #[.slice Ao10 t110.length co10, .slice none 0 0]) ?_ 1 _ rfl; (with_reducible repeat (first | apply bN | apply bD | apply bA)); refine blk_put (cs := #[.slice none 0 0, .slice none 0 0]) ?_ 0 _ rfl; (with_reducible repeat (first | apply bN | apply bD | apply bA)); exact BK109.out) Try.underlying30 rfl (by kernel_rfl)) rfl ?_
 exact ⟨_, _, eW, by (with_reducible repeat (first | apply Kd.R_alloc | apply Kd.R_drewN | apply Kd.R_drew)); exact Kd.R_mono (Kd.R_far (p := ⟨gb109, 1, none⟩) (Kd.R_far (p := ⟨gb109, 0, none⟩) (Kd.R_types HO112.out BK109.out (by decide)) (fun _ hk => hk.2) (.slice Ao10 t110.length co10)) (fun _ hk => hk.2) (.slice Ao9 t113.length co9)) (fun _ hk => trivial), by (with_reducible repeat (first | apply Kd.R_alloc | apply Kd.R_drewN | apply Kd.R_drew)); exact Kd.R_mono (Kd.R_far (p := ⟨gb109, 1, none⟩) (Kd.R_far (p := ⟨gb109, 0, none⟩) (Kd.R_types HO115.out BK109.out (by decide)) (fun _ hk => hk.2) (.slice Ao10 t110.length co10)) (fun _ hk => hk.2) (.slice Ao9 t113.length co9)) (fun _ hk => trivial), bB⟩

-- NOT PRINTED: function 78 (impl_settle)

-- NOT PRINTED: function 80 (impl_Fall_1)

end Go.Proofs.Ytgmpdkefegofhaa.PFnRecovered
