-- Written by xprint.py, a program of this session over the kit's print. Not trusted: Lean checks it.
import Derived.Test.YtgmpdkefegofhaaPFnExactEventsDox0
import Derived.Test.YtgmpdkefegofhaaPFnExactEventsDox3
namespace Go.Proofs.Ytgmpdkefegofhaa.PFnExactEventsDo
open Go.RowKit Go.Proofs.YtgmpdkefegofhaaW.PrintWords Go.Proofs.YtgmpdkefegofhaaW.PrintLast Go.Proofs.YtgmpdkefegofhaaW.PrintMore
attribute [local go_sem] max2_int min2_int max_two min_two max_three min_three max_four min_four   -- for this text's walks alone
set_option linter.unusedVariables false
set_option linter.unusedSimpArgs false

/-! ### spec_l3PutsOk: function 59 -/
def spec_l3PutsOk.l0 : Nat → List (S65) → Int → Int → Option (Bool)
 | 0, _, _, _ => none
 | k + 1, x0, x1, x5 => if x5 < (x0.length : Int) then (if 0 ≤ x5 then ((spec_l1In.f ((rd_T65 x0 x5).f0) 0 (wrap64 (x1 - 1))).bind fun t168 => (if t168 = true then (if (((rd_T65 x0 x5).f1).size : Int) > 90 then (some false) else (spec_l3PutsOk.l0 k x0 x1 (wrap64 (x5 + 1)))) else (some false))) else (none)) else (some true)
def spec_l3PutsOk.f (k : Nat) (l0 : List (S65)) (a1 : Int) : Option (Bool) := spec_l3PutsOk.l0 k l0 a1 0
theorem spec_l3PutsOk.mono_l : ∀ k, (∀ y0 y1 y2, LeO (spec_l3PutsOk.l0 k y0 y1 y2) (spec_l3PutsOk.l0 (k + 1) y0 y1 y2))
 | 0 => fun _ _ _ r h => by simp [spec_l3PutsOk.l0] at h
 | k + 1 => by
  have ih0 := spec_l3PutsOk.mono_l k
  ·intro y0 y1 y2
   unfold spec_l3PutsOk.l0
   exact mM
theorem spec_l3PutsOk.mono : ∀ a0 a1 k, LeO (spec_l3PutsOk.f k a0 a1) (spec_l3PutsOk.f (k + 1) a0 a1) := by
 intro a0 a1 k
 have ih0 := spec_l3PutsOk.mono_l k
 unfold spec_l3PutsOk.f
 exact mM
set_option maxHeartbeats 8000000 in
set_option maxRecDepth 100000 in
theorem spec_l3PutsOk.calls (k : Nat) (A0 : Option Addr) (c0 : Nat) (l0 : List (S65)) (a1 : Int) (r : Bool) (w : World) (hr0 : Kd.C k65 w A0 l0.length l0) (hc0 : l0.length ≤ c0) (h : spec_l3PutsOk.f k l0 a1 = some r) :
  Calls Try.prog 59 #[.slice A0 l0.length c0, .int .i64 a1] w fun e w' => e = .returned (.bool r) ∧ Drawn0 w w' := by
 have HR0 := Aside0.mk hr0
 have HC0 := Aside0.mk hc0
 clear hr0 hc0
 unfold spec_l3PutsOk.f at h
 have H := h
 clear h
 have H' := Aside0.mk H
 clear H
 go_enter Try.func59, Try.ntmps59
 go_wp2
 go_loopg [5] k (fun kq v5 w' => ∃ (x5_1 : Int), v5 = .int .i64 x5_1 ∧ Aside0 (spec_l3PutsOk.l0 kq l0 a1 x5_1 = some r) ∧ Aside0 (kq ≤ k) ∧ Drawn0 w w')
 case atStart => exact ⟨(0), (by first | rfl | (simp; done) | (simp [*]; done) | (simp; exact (by intro l_; cases l_ <;> rfl : ∀ l_ : List UInt8, l_.isEmpty = !(l_ != [])) _)), H', ⟨Nat.le_refl _⟩, by repeat (first | exact Drawn0.refl _ | apply Drawn0.step)⟩
 case round =>
  clear H'
  try clear p2
  obtain ⟨x5_1, rfl, HA, HK1, ⟨m1, rfl⟩⟩ := hrel
  cases gk with
  | zero => exact absurd HA.out (by simp [spec_l3PutsOk.l0])
  | succ k1 =>
   have H := HA.out
   clear HA
   simp only [spec_l3PutsOk.l0] at H
   by_cases c3 : x5_1 < (l0.length : Int)
   ·rw [if_pos c3] at H
    have c3b0 : decide (x5_1 < (l0.length : Int)) = true := decide_eq_true c3
    clear c3
    by_cases c4 : 0 ≤ x5_1
    ·rw [if_pos c4] at H
     have c4b0 : decide (0 ≤ x5_1) = true := decide_eq_true c4
     clear c4
     replace H := Option.bind_eq_some_iff.mp H
     obtain ⟨t168, A50, H⟩ := H
     try dsimp only at H
     have A5 := Aside0.mk A50
     clear A50
     by_cases c6 : t168 = true
     ·subst c6
      rw [if_pos rfl] at H
      by_cases c7 : (((rd_T65 l0 x5_1).f1).size : Int) > 90
      ·rw [if_pos c7] at H
       have c7b0 : decide (90 < (((rd_T65 l0 x5_1).f1).size : Int)) = true := decide_eq_true c7
       have c7b1 : decide (90 < ((rd_T65 l0 x5_1).f1).size) = true := decide_eq_true (by omega)
       clear c7
       obtain rfl := Option.some.inj H
       have p167 : 0 ≤ (x5_1 : Int) := dT
       have q167 : x5_1 < (l0.length : Int) := dT
       obtain ⟨ad167, e167, hx167_0, hx167_1⟩ := at_T65 HR0.out x5_1 p167 q167
       cases e167
       replace p167 := eq_true p167
       replace q167 := eq_true q167
       go_wp2_with (first | ((with_reducible refine gate_callee (f := 69) rfl ?_); refine gL (some 19) Try.func69 #[.int .i64 ((rd_T65 l0 x5_1).f0), .int .i64 0, .int .i64 (wrap64 (a1 - 1))] ?_; (with_reducible refine (spec_l1In.calls ((rd_T65 l0 x5_1).f0) 0 (wrap64 (a1 - 1)) true _ A5.out).mono ?_); rintro e w' ⟨rfl, ⟨nd, rfl⟩⟩; refine ⟨_, rfl, ?_⟩; have p169 : 0 ≤ (x5_1 : Int) := dT; have q169 : x5_1 < (l0.length : Int) := dT; obtain ⟨ad169, e169, hx169_0, hx169_1⟩ := at_T65 HR0.out x5_1 p169 q169; obtain rfl : ad167 = ad169 := (by injection e169); replace p169 := eq_true p169; replace q169 := eq_true q169))
       go_ret
       exact ⟨by first | rfl | (simp; done) | (simp [*]; done), by repeat (first | exact Drawn0.refl _ | apply Drawn0.step)⟩
      ·rw [if_neg c7] at H
       have c7b0 : decide (90 < (((rd_T65 l0 x5_1).f1).size : Int)) = false := decide_eq_false c7
       have c7b1 : decide (90 < ((rd_T65 l0 x5_1).f1).size) = false := decide_eq_false (by omega)
       clear c7
       have H' := Aside0.mk H
       clear H
       have p167 : 0 ≤ (x5_1 : Int) := dT
       have q167 : x5_1 < (l0.length : Int) := dT
       obtain ⟨ad167, e167, hx167_0, hx167_1⟩ := at_T65 HR0.out x5_1 p167 q167
       cases e167
       replace p167 := eq_true p167
       replace q167 := eq_true q167
       go_wp2_with (first | ((with_reducible refine gate_callee (f := 69) rfl ?_); refine gL (some 19) Try.func69 #[.int .i64 ((rd_T65 l0 x5_1).f0), .int .i64 0, .int .i64 (wrap64 (a1 - 1))] ?_; (with_reducible refine (spec_l1In.calls ((rd_T65 l0 x5_1).f0) 0 (wrap64 (a1 - 1)) true _ A5.out).mono ?_); rintro e w' ⟨rfl, ⟨nd, rfl⟩⟩; refine ⟨_, rfl, ?_⟩; have p169 : 0 ≤ (x5_1 : Int) := dT; have q169 : x5_1 < (l0.length : Int) := dT; obtain ⟨ad169, e169, hx169_0, hx169_1⟩ := at_T65 HR0.out x5_1 p169 q169; obtain rfl : ad167 = ad169 := (by injection e169); replace p169 := eq_true p169; replace q169 := eq_true q169))
       go_roundg k1
       case measure => have := HK1.out; omega
       case rel => exact ⟨(wrap64 (x5_1 + 1)), (by first | rfl | (simp; done) | (simp [*]; done) | (simp; exact (by intro l_; cases l_ <;> rfl : ∀ l_ : List UInt8, l_.isEmpty = !(l_ != [])) _)), H', ⟨by have := HK1.out; omega⟩, by repeat (first | exact Drawn0.refl _ | apply Drawn0.step)⟩
     ·replace c6 := Bool.eq_false_iff.mpr c6
      subst c6
      rw [if_neg (show ¬ (false = true) by decide)] at H
      obtain rfl := Option.some.inj H
      have p167 : 0 ≤ (x5_1 : Int) := dT
      have q167 : x5_1 < (l0.length : Int) := dT
      obtain ⟨ad167, e167, hx167_0, hx167_1⟩ := at_T65 HR0.out x5_1 p167 q167
      cases e167
      replace p167 := eq_true p167
      replace q167 := eq_true q167
      go_wp2_with (first | ((with_reducible refine gate_callee (f := 69) rfl ?_); refine gL (some 19) Try.func69 #[.int .i64 ((rd_T65 l0 x5_1).f0), .int .i64 0, .int .i64 (wrap64 (a1 - 1))] ?_; (with_reducible refine (spec_l1In.calls ((rd_T65 l0 x5_1).f0) 0 (wrap64 (a1 - 1)) false _ A5.out).mono ?_); rintro e w' ⟨rfl, ⟨nd, rfl⟩⟩; refine ⟨_, rfl, ?_⟩))
      go_ret
      exact ⟨by first | rfl | (simp; done) | (simp [*]; done), by repeat (first | exact Drawn0.refl _ | apply Drawn0.step)⟩
    ·rw [if_neg c4] at H
     exact absurd H (by simp)
   ·rw [if_neg c3] at H
    have c3b0 : decide (x5_1 < (l0.length : Int)) = false := decide_eq_false c3
    clear c3
    obtain rfl := Option.some.inj H
    go_wp2
    go_ret
    exact ⟨by first | rfl | (simp; done) | (simp [*]; done), by repeat (first | exact Drawn0.refl _ | apply Drawn0.step)⟩

/-! ### spec_DiskOk: function 16 -/
mutual
def spec_DiskOk.j0 : Nat → Bool → List ByteArray → List (S65) → Option (Bool)
 | 0, _, _, _ => none
 | k + 1, x13, x171000, x171001 => if x13 = true then (some false) else (spec_DiskOk.l0 k 0 x171000 x171001)
def spec_DiskOk.l0 : Nat → Int → List ByteArray → List (S65) → Option (Bool)
 | 0, _, _, _ => none
 | k + 1, x3, x171000, x171001 => if x3 < (x171000.length : Int) then (if 0 ≤ x3 then (if ((rdOf ByteArray.empty x171000 x3).size : Int) > 90 then (some false) else (spec_DiskOk.l0 k (wrap64 (x3 + 1)) x171000 x171001)) else (none)) else ((spec_l3PutsOk.f k x171001 (x171000.length : Int)).bind fun t172 => (some t172))
end
def spec_DiskOk.f (k : Nat) (l0_0 : List ByteArray) (l0_1 : List (S65)) : Option (Bool) := if (l0_0.length : Int) > 120 then (spec_DiskOk.j0 k true l0_0 l0_1) else (spec_DiskOk.j0 k (decide ((l0_1.length : Int) > 400)) l0_0 l0_1)
theorem spec_DiskOk.mono_l : ∀ k, (∀ y0 y1 y2, LeO (spec_DiskOk.j0 k y0 y1 y2) (spec_DiskOk.j0 (k + 1) y0 y1 y2)) ∧ (∀ y0 y1 y2, LeO (spec_DiskOk.l0 k y0 y1 y2) (spec_DiskOk.l0 (k + 1) y0 y1 y2))
 | 0 => ⟨fun _ _ _ r h => by simp [spec_DiskOk.j0] at h, fun _ _ _ r h => by simp [spec_DiskOk.l0] at h⟩
 | k + 1 => by
  obtain ⟨ih0, ih1⟩ := spec_DiskOk.mono_l k
  refine ⟨?_, ?_⟩
  ·intro y0 y1 y2
   unfold spec_DiskOk.j0
   have m0_ := @spec_l3PutsOk.mono
   exact mM
  ·intro y0 y1 y2
   unfold spec_DiskOk.l0
   have m0_ := @spec_l3PutsOk.mono
   exact mM
theorem spec_DiskOk.mono : ∀ a0 a1 k, LeO (spec_DiskOk.f k a0 a1) (spec_DiskOk.f (k + 1) a0 a1) := by
 intro a0 a1 k
 obtain ⟨ih0, ih1⟩ := spec_DiskOk.mono_l k
 unfold spec_DiskOk.f
 have m0_ := @spec_l3PutsOk.mono
 exact mM
set_option maxHeartbeats 8000000 in
set_option maxRecDepth 100000 in
theorem spec_DiskOk.calls (k : Nat) (A0_0 : Option Addr) (c0_0 : Nat) (l0_0 : List ByteArray) (A0_1 : Option Addr) (c0_1 : Nat) (l0_1 : List (S65)) (r : Bool) (w : World) (hr0_0 : Kd.C Kd.string w A0_0 l0_0.length l0_0) (hc0_0 : l0_0.length ≤ c0_0) (hr0_1 : Kd.C k65 w A0_1 l0_1.length l0_1) (hc0_1 : l0_1.length ≤ c0_1) (h : spec_DiskOk.f k l0_0 l0_1 = some r) :
  Calls Try.prog 16 #[.agg #[.slice A0_0 l0_0.length c0_0, .slice A0_1 l0_1.length c0_1]] w fun e w' => e = .returned (.bool r) ∧ Below w.heap.size w w' := by
 have hu30 := Try.underlying30
 have HR0_0 := Aside0.mk hr0_0
 have HC0_0 := Aside0.mk hc0_0
 clear hr0_0 hc0_0
 have HR0_1 := Aside0.mk hr0_1
 have HC0_1 := Aside0.mk hc0_1
 clear hr0_1 hc0_1
 have HB := Aside0.mk (Below.refl w.heap.size w)
 unfold spec_DiskOk.f at h
 have H := h
 clear h
 have HC2 := Aside0.mk H
 clear H
 go_enter Try.func16, Try.ntmps16
 go_upto_region 1 with (first | ((with_reducible refine gate_dst (N := 1) rfl ?_); (try (refine gate_guard (by rfl) ?_; dsimp only)); refine box_event ?hg (N := 1) ?hd (cs := #[.slice A0_0 l0_0.length c0_0, .slice A0_1 l0_1.length c0_1]) (t := 30) ?hr ?_; (case hd => rfl); (case hg => rfl); (case hr => first | (go_simp; done) | (go_simp; rfl)); intro gb170 hg w3 hbox hb; have n_ := And.intro (sB HB hb) (And.intro (Aside0.mk hbox) (And.intro (gE HB hg) (gE HB hg))); clear HB; obtain ⟨HB, BK170, GW170, GE170⟩ := n_; (try clear hb hbox hg)))
 (try simp only [Act.put, List.setIfInBounds_toArray, List.set_cons_zero, List.set_cons_succ])
 go_cut [13] (fun v13 wc => ∃ (kq : Nat) (x13_1 : Bool), v13 = .bool x13_1 ∧ Aside0 (spec_DiskOk.j0 kq x13_1 l0_0 l0_1 = some r) ∧ Aside0 (kq ≤ k) ∧ Aside0 (wc.heap[gb170]? = some (.cells #[(.slice A0_0 l0_0.length c0_0), (.slice A0_1 l0_1.length c0_1)] 30 (0, 0))) ∧ Aside0 (Below w.heap.size w wc))
 case first =>
  have H := HC2.out
  clear HC2
  by_cases c4 : (l0_0.length : Int) > 120
  ·rw [if_pos c4] at H
   have c4b0 : decide (120 < (l0_0.length : Int)) = true := decide_eq_true c4
   have c4b1 : decide (120 < l0_0.length) = true := decide_eq_true (by omega)
   clear c4
   (first | rw [c4b0] | (simp only [i64_w, i32_w]; rw [c4b0]) | rw [c4b1] | rw [c4b2] | skip)
   have H' := Aside0.mk H
   clear H
   have hcz5_0 := cZ0 BK170
   have hcz5_1 := cZ1 BK170
   have hfz5_0 := blk_frozen BK170.out 0
   have hfz5_1 := blk_frozen BK170.out 1
   go_wp2
   go_meet
   case rel => exact ⟨_, (true), (by first | rfl | (simp; done) | (simp [*]; done) | (simp; exact (by intro l_; cases l_ <;> rfl : ∀ l_ : List UInt8, l_.isEmpty = !(l_ != [])) _)), H', ⟨by first | omega | exact Nat.le_refl _⟩, ⟨kP BK170⟩, ⟨bB⟩⟩
  rw [if_neg c4] at H
  have c4b0 : decide (120 < (l0_0.length : Int)) = false := decide_eq_false c4
  have c4b1 : decide (120 < l0_0.length) = false := decide_eq_false (by omega)
  clear c4
  (first | rw [c4b0] | (simp only [i64_w, i32_w]; rw [c4b0]) | rw [c4b1] | rw [c4b2] | skip)
  have H' := Aside0.mk H
  clear H
  have hcz6_0 := cZ0 BK170
  have hcz6_1 := cZ1 BK170
  have hfz6_0 := blk_frozen BK170.out 0
  have hfz6_1 := blk_frozen BK170.out 1
  go_wp2
  go_meet
  case rel => exact ⟨_, (decide ((l0_1.length : Int) > 400)), (by first | rfl | (simp; done) | (simp [*]; done) | (simp; exact (by intro l_; cases l_ <;> rfl : ∀ l_ : List UInt8, l_.isEmpty = !(l_ != [])) _)), H', ⟨by first | omega | exact Nat.le_refl _⟩, ⟨kP BK170⟩, ⟨bB⟩⟩
 case rest =>
  clear HC2
  try clear c1
  try clear p2
  try clear c4
  try clear c4b0
  try clear c4b1
  try clear c4b2
  try clear hcz5_0
  try clear hcz5_1
  try clear hcz6_0
  try clear hcz6_1
  try clear hfz5_0
  try clear hfz5_1
  try clear hfz6_0
  try clear hfz6_1
  obtain ⟨kq, x13_1, rfl, HA, HJ1, BK170, HB⟩ := hcut
  cases kq with
  | zero => exact absurd HA.out (by simp [spec_DiskOk.j0])
  | succ kj1 =>
   have H := HA.out
   clear HA
   simp only [spec_DiskOk.j0] at H
   by_cases c7 : x13_1 = true
   ·subst c7
    rw [if_pos rfl] at H
    obtain rfl := Option.some.inj H
    go_wp2
    go_ret
    exact ⟨eW, bB⟩
   ·replace c7 := Bool.eq_false_iff.mpr c7
    subst c7
    rw [if_neg (show ¬ (false = true) by decide)] at H
    have H' := Aside0.mk H
    clear H
    go_wp2
    go_loopg [3] kj1 (fun kq v3 w' => ∃ (x3_2 : Int), v3 = .int .i64 x3_2 ∧ Aside0 (spec_DiskOk.l0 kq x3_2 l0_0 l0_1 = some r) ∧ Aside0 (kq ≤ kj1) ∧ Aside0 (w'.heap[gb170]? = some (.cells #[(.slice A0_0 l0_0.length c0_0), (.slice A0_1 l0_1.length c0_1)] 30 (0, 0))) ∧ Aside0 (Below w.heap.size w w'))
    case atStart => exact ⟨(0), (by first | rfl | (simp; done) | (simp [*]; done) | (simp; exact (by intro l_; cases l_ <;> rfl : ∀ l_ : List UInt8, l_.isEmpty = !(l_ != [])) _)), H', ⟨Nat.le_refl _⟩, ⟨kP BK170⟩, ⟨bB⟩⟩
    case round =>
     clear H'
     try clear c1
     try clear p2
     try clear c4
     try clear c4b0
     try clear c4b1
     try clear c4b2
     try clear c7
     try clear hcz5_0
     try clear hcz5_1
     try clear hcz6_0
     try clear hcz6_1
     try clear hfz5_0
     try clear hfz5_1
     try clear hfz6_0
     try clear hfz6_1
     try clear p2
     obtain ⟨x3_2, rfl, HA, HK2, BK170, HB⟩ := hrel
     cases gk with
     | zero => exact absurd HA.out (by simp [spec_DiskOk.l0])
     | succ k2 =>
      have H := HA.out
      clear HA
      simp only [spec_DiskOk.l0] at H
      by_cases c8 : x3_2 < (l0_0.length : Int)
      ·rw [if_pos c8] at H
       have c8b0 : decide (x3_2 < (l0_0.length : Int)) = true := decide_eq_true c8
       clear c8
       by_cases c9 : 0 ≤ x3_2
       ·rw [if_pos c9] at H
        have c9b0 : decide (0 ≤ x3_2) = true := decide_eq_true c9
        clear c9
        by_cases c10 : ((rdOf ByteArray.empty l0_0 x3_2).size : Int) > 90
        ·rw [if_pos c10] at H
         have c10b0 : decide (90 < ((rdOf ByteArray.empty l0_0 x3_2).size : Int)) = true := decide_eq_true c10
         have c10b1 : decide (90 < (rdOf ByteArray.empty l0_0 x3_2).size) = true := decide_eq_true (by omega)
         clear c10
         obtain rfl := Option.some.inj H
         have hcz11_0 := cZ0 BK170
         have hcz11_1 := cZ1 BK170
         have hfz11_0 := blk_frozen BK170.out 0
         have hfz11_1 := blk_frozen BK170.out 1
         have p171 : 0 ≤ (x3_2 : Int) := dT
         have q171 : x3_2 < (l0_0.length : Int) := dT
         obtain ⟨ad171, e171, hx171_0⟩ := Kd.at_string HR0_0.out x3_2 p171 q171
         cases e171
         replace hx171_0 := (HB.out.cell (World.block_lt_of_cell? w _ hx171_0)).trans hx171_0
         replace p171 := eq_true p171
         replace q171 := eq_true q171
         go_wp2
         go_ret
         exact ⟨eW, bB⟩
        ·rw [if_neg c10] at H
         have c10b0 : decide (90 < ((rdOf ByteArray.empty l0_0 x3_2).size : Int)) = false := decide_eq_false c10
         have c10b1 : decide (90 < (rdOf ByteArray.empty l0_0 x3_2).size) = false := decide_eq_false (by omega)
         clear c10
         have H' := Aside0.mk H
         clear H
         have hcz12_0 := cZ0 BK170
         have hcz12_1 := cZ1 BK170
         have hfz12_0 := blk_frozen BK170.out 0
         have hfz12_1 := blk_frozen BK170.out 1
         have p171 : 0 ≤ (x3_2 : Int) := dT
         have q171 : x3_2 < (l0_0.length : Int) := dT
         obtain ⟨ad171, e171, hx171_0⟩ := Kd.at_string HR0_0.out x3_2 p171 q171
         cases e171
         replace hx171_0 := (HB.out.cell (World.block_lt_of_cell? w _ hx171_0)).trans hx171_0
         replace p171 := eq_true p171
         replace q171 := eq_true q171
         go_wp2
         go_roundg k2
         case measure => have := HJ1.out; have := HK2.out; omega
         case rel => exact ⟨(wrap64 (x3_2 + 1)), (by first | rfl | (simp; done) | (simp [*]; done) | (simp; exact (by intro l_; cases l_ <;> rfl : ∀ l_ : List UInt8, l_.isEmpty = !(l_ != [])) _)), H', ⟨by have := HJ1.out; have := HK2.out; omega⟩, ⟨kP BK170⟩, ⟨bB⟩⟩
       ·rw [if_neg c9] at H
        exact absurd H (by simp)
      ·rw [if_neg c8] at H
       have c8b0 : decide (x3_2 < (l0_0.length : Int)) = false := decide_eq_false c8
       clear c8
       replace H := Option.bind_eq_some_iff.mp H
       obtain ⟨t172, A130, H⟩ := H
       try dsimp only at H
       have A13 := Aside0.mk A130
       clear A130
       obtain rfl := Option.some.inj H
       have hcz14_0 := cZ0 BK170
       have hcz14_1 := cZ1 BK170
       have hfz14_0 := blk_frozen BK170.out 0
       have hfz14_1 := blk_frozen BK170.out 1
       go_wp2_with (first | ((with_reducible refine gate_callee (f := 59) rfl ?_); refine gL (some 33) Try.func59 #[.slice A0_1 l0_1.length c0_1, .int .i64 (l0_0.length : Int)] ?_; (with_reducible refine (spec_l3PutsOk.calls k2 _ _ l0_1 (l0_0.length : Int) t172 _ ?side1 ?side2 A13.out).mono ?_); (case side1 => exact cS HR0_1 HB); (case side2 => exact HC0_1.out); rintro e w' ⟨rfl, ⟨nd, rfl⟩⟩; refine ⟨_, rfl, ?_⟩))
       go_ret
       exact ⟨eW, bB⟩

/-! ### spec_l1Copy: function 110 -/
def spec_l1Copy.f (l0 : List ByteArray) : Option (List ByteArray) := (some (([] : List ByteArray) : List ByteArray)).bind fun y173 => (if y173.length + l0.length < 8796093022208 then (some (y173 ++ l0)) else (none))
set_option maxHeartbeats 8000000 in
set_option maxRecDepth 100000 in
theorem spec_l1Copy.calls (A0 : Option Addr) (c0 : Nat) (l0 : List ByteArray) (r : List ByteArray) (w : World) (hr0 : Kd.C Kd.string w A0 l0.length l0) (hc0 : l0.length ≤ c0) (h : spec_l1Copy.f l0 = some r) :
  Calls Try.prog 110 #[.slice A0 l0.length c0] w fun e w' => ∃ v0_ : Value, e = .returned (v0_) ∧ Kd.R Kd.string 9 w' w.heap.size (fun _ => True) v0_ r ∧ Below w.heap.size w w' := by
 have HR0 := Aside0.mk hr0
 have HC0 := Aside0.mk hc0
 clear hr0 hc0
 have HB := Aside0.mk (Below.refl w.heap.size w)
 unfold spec_l1Copy.f at h
 have H := h
 clear h
 obtain ⟨y173, hy173⟩ : ∃ y_ : List ByteArray, y_ = (([] : List ByteArray)) := ⟨_, rfl⟩
 replace H : (if y173.length + l0.length < 8796093022208 then (some (y173 ++ l0)) else (none)) = some r := by first | (rw [hy173]; with_reducible exact H) | (have H2_ := (Option.bind_some _ _).symm.trans H; rw [hy173]; with_reducible exact H2_) | (have H2_ := (Option.bind_some _ _).symm.trans H; with_reducible exact H2_) | with_reducible exact H | (rw [hy173]; exact H) | exact H
 have Ny173 := Aside0.mk hy173
 clear hy173
 by_cases c2 : y173.length + l0.length < 8796093022208
 ·rw [if_pos c2] at H
  have LMc2 := Aside0.mk c2
  clear c2
  obtain ⟨y176, hy176⟩ : ∃ y_ : List ByteArray, y_ = (y173 ++ l0) := ⟨_, rfl⟩
  replace H : (some y176) = some r := by first | (rw [hy176]; with_reducible exact H) | (have H2_ := (Option.bind_some _ _).symm.trans H; rw [hy176]; with_reducible exact H2_) | (have H2_ := (Option.bind_some _ _).symm.trans H; with_reducible exact H2_) | with_reducible exact H | (rw [hy176]; exact H) | exact H
  have Ny176 := Aside0.mk hy176
  clear hy176
  obtain rfl := Option.some.inj H
  go_enter Try.func110, Try.ntmps110
  go_wp2_with (first | ((with_reducible refine gate_dst (N := 3) rfl ?_); refine Kd.R_lit Kd.string _ 9 ?hg (N := 3) ?hd (xs := ([] : List ByteArray)) (inner := []) (ok := fun _ => True) (okp := fun _ => True) ?hr ?hp (fun _ hk => hk) trivial (Below.refl _ _) (Nat.le_refl _) (by simp) ?_; (case hd => rfl); (case hg => rfl); (case hr => first | (go_simp; done) | (go_simp; rfl)); (case hp => exact (Reps.none _ _)); intro v174 w3 ho4 hb hg_ hnew_; clear hg_ hnew_; (first | rw [← Ny173.out] at ho4 | (simp only [Int.reduceToNat] at ho4; rw [← Ny173.out] at ho4)); have n_ := And.intro (lR HB ho4) (sB HB hb); clear HB; obtain ⟨HO175, HB⟩ := n_; (try clear hb ho4)) | ((with_reducible refine gate_builtin (b := .append) (xs := #[.tmp 3, .tmp 4]) rfl ?_); at_builtin; refine Kd.R_append_rows Kd.string (w0 := w) w.heap.size rfl (.tmp 3) (.tmp 4) 22 9 (.string ⟨#[]⟩) 16 rfl Try.underlying22 info9 rfl (by decide) (by omega) v174 y173 l0 _ _ _ (fun _ => True) (fun _ => False) rfl rfl ?aO ?aR (fun _ _ h => h) (fun _ h => h.elim) ?aF ?aB ?aS ?aL ?_; (case aR => exact cS HR0 HB); (case aB => exact bB); (case aF => exact (fun _ _ => trivial)); (case aO => exact (rP HO175.out)); (case aS => exact (zB HB)); (case aL => have := LMc2.out; omega); intro v177 w5 ho hb hg hat; rw [← Ny176.out] at ho; have n_ := And.intro (Aside0.mk (hb)) (Aside0.mk (ho)); clear HB HO175; obtain ⟨HB, HO178⟩ := n_; (try clear ho hb hg hat)))
  go_ret
  exact ⟨_, eW, by (with_reducible repeat (first | apply Kd.R_alloc | apply Kd.R_drewN | apply Kd.R_drew)); exact HO178.out, bB⟩
 rw [if_neg c2] at H
 exact absurd H (by simp)

/-! ### spec_l3Copy: function 75 -/
def spec_l3Copy.f (l0_0 : List ByteArray) (l0_1 : List (S65)) : Option (List ByteArray × (List (S65))) := (spec_l1Copy.f l0_0).bind fun t181 => ((some (([] : List (S65)) : List (S65))).bind fun y184 => (if y184.length + l0_1.length < 5864062014805 then (some (t181, (y184 ++ l0_1))) else (none)))
def spec_l3Copy.T1 : Bool × List (List Nat × List Nat) := (true, [([], []), ([0], [0]), ([1], [1]), ([], []), ([], []), ([4], [4]), ([3, 5, 2], [3, 5]), ([2, 6], [2, 6]), ([7, 6, 0, 1, 2, 3, 4, 5, 6, 7], [7])])
def spec_l3Copy.B1 : List Nat := [0, 1, 3, 0, 0, 16, 63, 127, 255]
theorem spec_l3Copy.tab1 : rtab .any (opsOf Try.f75 1) = spec_l3Copy.T1 := by kernel_rfl
theorem spec_l3Copy.bits1 : waitsOk spec_l3Copy.T1.2 spec_l3Copy.B1 = true := by kernel_rfl
set_option maxHeartbeats 8000000 in
set_option maxRecDepth 100000 in
theorem spec_l3Copy.calls (A0_0 : Option Addr) (c0_0 : Nat) (l0_0 : List ByteArray) (A0_1 : Option Addr) (c0_1 : Nat) (l0_1 : List (S65)) (r1 : List ByteArray) (r2 : List (S65)) (w : World) (hr0_0 : Kd.C Kd.string w A0_0 l0_0.length l0_0) (hc0_0 : l0_0.length ≤ c0_0) (hr0_1 : Kd.C k65 w A0_1 l0_1.length l0_1) (hc0_1 : l0_1.length ≤ c0_1) (h : spec_l3Copy.f l0_0 l0_1 = some (r1, r2)) :
  Calls Try.prog 75 #[.agg #[.slice A0_0 l0_0.length c0_0, .slice A0_1 l0_1.length c0_1]] w fun e w' => ∃ v0_ v1_ : Value, e = .returned (.agg #[v0_, v1_]) ∧ Kd.R Kd.string 9 w' w.heap.size (fun _ => True) v0_ r1 ∧ Kd.R k65 65 w' w.heap.size (fun _ => True) v1_ r2 ∧ Below w.heap.size w w' := by
 have hu30 := Try.underlying30
 have HR0_0 := Aside0.mk hr0_0
 have HC0_0 := Aside0.mk hc0_0
 clear hr0_0 hc0_0
 have HR0_1 := Aside0.mk hr0_1
 have HC0_1 := Aside0.mk hc0_1
 clear hr0_1 hc0_1
 have HB := Aside0.mk (Below.refl w.heap.size w)
 unfold spec_l3Copy.f at h
 have H := h
 clear h
 replace H := Option.bind_eq_some_iff.mp H
 obtain ⟨t181, A20, H⟩ := H
 try dsimp only at H
 have A2 := Aside0.mk A20
 clear A20
 obtain ⟨y184, hy184⟩ : ∃ y_ : List (S65), y_ = (([] : List (S65))) := ⟨_, rfl⟩
 replace H : (if y184.length + l0_1.length < 5864062014805 then (some (t181, (y184 ++ l0_1))) else (none)) = some (r1, r2) := by first | (rw [hy184]; with_reducible exact H) | (have H2_ := (Option.bind_some _ _).symm.trans H; rw [hy184]; with_reducible exact H2_) | (have H2_ := (Option.bind_some _ _).symm.trans H; with_reducible exact H2_) | with_reducible exact H | (rw [hy184]; exact H) | exact H
 have Ny184 := Aside0.mk hy184
 clear hy184
 by_cases c3 : y184.length + l0_1.length < 5864062014805
 ·rw [if_pos c3] at H
  have LMc3 := Aside0.mk c3
  clear c3
  obtain ⟨y187, hy187⟩ : ∃ y_ : List (S65), y_ = (y184 ++ l0_1) := ⟨_, rfl⟩
  replace H : (some (t181, y187)) = some (r1, r2) := by first | (rw [hy187]; with_reducible exact H) | (have H2_ := (Option.bind_some _ _).symm.trans H; rw [hy187]; with_reducible exact H2_) | (have H2_ := (Option.bind_some _ _).symm.trans H; with_reducible exact H2_) | with_reducible exact H | (rw [hy187]; exact H) | exact H
  have Ny187 := Aside0.mk hy187
  clear hy187
  simp only [Option.some.injEq, Prod.mk.injEq] at H
  obtain ⟨rfl, rfl⟩ := H
  go_enter Try.func75, Try.ntmps75
  try go_wp2_with (first | ((with_reducible refine gate_dst (N := 1) rfl ?_); refine bE 1 #[.slice A0_0 l0_0.length c0_0, .slice A0_1 l0_1.length c0_1] 30 ?_; intro gb179 hg w4 hbox hb; have n_ := And.intro (sB HB hb) (And.intro (Aside0.mk hbox) (And.intro (gE HB hg) (gE HB hg))); clear HB; obtain ⟨HB, BK179, GW179, GE179⟩ := n_; (try clear hb hbox hg)) | ((with_reducible refine gate_dst (N := 2) rfl ?_); refine bE 2 #[.slice none 0 0, .slice none 0 0] 30 ?_; intro gb180 hg w5 hbox hb; have n_ := And.intro (kB BK179 hb) (And.intro (sB HB hb) (And.intro (Aside0.mk hbox) (And.intro (gE HB hg) (And.intro (gE HB hg) (And.intro (nL BK179 hg) (nG BK179 hg)))))); clear BK179 HB; obtain ⟨BK179, HB, BK180, GW180, GE180, NB179_180, NB180_179⟩ := n_; (try clear hb hbox hg)))
  have n0_ := Aside0.mk (blk_drew BK179.out)
  have n1_ := Aside0.mk (blk_drew BK180.out)
  have n2_ := Aside0.mk (below_drew1 HB.out)
  clear BK179
  clear BK180
  clear HB
  have BK179 := n0_
  have BK180 := n1_
  have HB := n2_
  clear n0_ n1_ n2_
  refine start_ (n := 9) (S := fun w' => w'.cell? ⟨gb179, 0, none⟩ = some (.slice A0_0 l0_0.length c0_0) ∧ w'.cell? ⟨gb179, 1, none⟩ = some (.slice A0_1 l0_1.length c0_1)) (ds := []) #[false, false, false, false, false, false, false, false, false] (by kernel_rfl) rfl rfl ⟨(blk_cell BK179.out 0).trans rfl, (blk_cell BK179.out 1).trans rfl⟩ (fun hHeld => ?_); refine with_tabW spec_l3Copy.tab1 spec_l3Copy.bits1 (fun HT_ HW_ => ?_)
  generalize w5.drew = w6 at BK179 BK180 HB hHeld ⊢
  refine pure_ (i := 0) (N := some 3) (v := ?_) (a' := ?_) #[true, false, false, false, false, false, false, false, false] rfl rfl (any_of HT_.out (by kernel_rfl)) (fun _ _ _ h => h) (Or.inl ⟨by rfl, ?_⟩) ?_ ?_
  rotate_left
  ·intro w'
   go_simp
   with_reducible rfl
  rotate_left
  ·simp only [Act.put, List.setIfInBounds_toArray, List.set_cons_zero, List.set_cons_succ, i64_w, i32_w]
   rfl
  refine pure_ (i := 4) (N := some 7) (v := ?_) (a' := ?_) #[true, false, false, false, true, false, false, false, false] rfl rfl (any_of HT_.out (by kernel_rfl)) (fun _ _ _ h => h) (Or.inl ⟨by rfl, ?_⟩) ?_ ?_
  rotate_left
  ·intro w'
   go_simp
   with_reducible rfl
  rotate_left
  ·simp only [Act.put, List.setIfInBounds_toArray, List.set_cons_zero, List.set_cons_succ, i64_w, i32_w]
   rfl
  refine take_ (i := 1) (N := some 4) (v := ?_) (a' := ?_) #[true, true, false, false, true, false, false, false, false] rfl rfl (take_ofW HT_.out HW_.out (by kernel_rfl)) (fun _ _ _ h => h) (Or.inl ⟨by rfl, ?_⟩) hHeld ?_ ?_
  rotate_left
  ·rintro w' ⟨s0, s1⟩
   go_simp
   with_reducible rfl
  rotate_left
  ·simp only [Act.put, List.setIfInBounds_toArray, List.set_cons_zero, List.set_cons_succ, i64_w, i32_w]
   rfl
  refine take_ (i := 5) (N := some 8) (v := ?_) (a' := ?_) #[true, true, false, false, true, true, false, false, false] rfl rfl (take_ofW HT_.out HW_.out (by kernel_rfl)) (fun _ _ _ h => h) (Or.inl ⟨by rfl, ?_⟩) hHeld ?_ ?_
  rotate_left
  ·rintro w' ⟨s0, s1⟩
   go_simp
   with_reducible rfl
  rotate_left
  ·simp only [Act.put, List.setIfInBounds_toArray, List.set_cons_zero, List.set_cons_succ, i64_w, i32_w]
   rfl
  refine join_ (σ := Value × Value) 3 #[true, true, true, true, true, true, false, false, false] (fun s_ => [(5, s_.1), (6, s_.2)]) (fun s_ w' => (w'.cell? ⟨gb179, 0, none⟩ = some (.slice A0_0 l0_0.length c0_0) ∧ w'.cell? ⟨gb179, 1, none⟩ = some (.slice A0_1 l0_1.length c0_1)) ∧ (Kd.R Kd.string 9 w' w.heap.size (fun _ => True) s_.1 t181) ∧ (Kd.R k65 65 w' w.heap.size (fun _ => True) s_.2 y184) ∧ (w'.heap[gb179]? = some (.cells #[.slice A0_0 l0_0.length c0_0, .slice A0_1 l0_1.length c0_1] 30 (0, 0))) ∧ (w'.heap[gb180]? = some (.cells #[.slice none 0 0, .slice none 0 0] 30 (0, 0))) ∧ (Below w.heap.size w w')) ?_ ?_
  rotate_left
  ·intro hCont
   refine two_ (i := 2) (j := 3) (Ni := some 5) (Nj := some 6) #[true, true, true, false, true, true, false, false, false] #[true, true, false, true, true, true, false, false, false] rfl rfl rfl rfl (two_of HT_.out (by kernel_rfl)) (by decide) (by decide) (fun K hK => ?_) (fun K hK => ?_)
   ·skip
    refine goes_ Try.func110 (by kernel_rfl) rfl #[.slice A0_0 l0_0.length c0_0] (by rfl) rfl rfl (by (try simp only [List.map_toArray, List.map_cons, List.map_nil]); first | done | rfl | (simp only [List.length_drop, List.length_take]; rfl)) ?_
    with_reducible refine (spec_l1Copy.calls _ _ l0_0 t181 _ ?side1 ?side2 A2.out).mono ?_
    (case side1 => exact cS HR0_0 HB)
    (case side2 => exact HC0_0.out)
    rintro e w7 ⟨v182, rfl, ho0, hb⟩
    refine ⟨_, rfl, ?_⟩
    have n0_ := lR HB ho0
    have n1_ := kB BK179 hb
    have n2_ := kB BK180 hb
    have n3_ := sB HB hb
    clear BK179
    clear BK180
    clear HB
    have HO183 := n0_
    have BK179 := n1_
    have BK180 := n2_
    have HB := n3_
    clear n0_ n1_ n2_ n3_
    (try clear hb)
    (try clear hb2)
    (try clear hk)
    (try clear hi)
    (try clear ho0)
    refine hK.out _ _ ⟨(blk_cell BK179.out 0).trans rfl, (blk_cell BK179.out 1).trans rfl⟩ (fun hHeld => ?_)
    clear hK K
    refine norm_ (a' := ?_) ?_ ?_
    rotate_left
    ·show Act.put _ (some 5) _ = _
     simp only [Act.put, List.setIfInBounds_toArray, List.set_cons_zero, List.set_cons_succ, i64_w, i32_w]
     rfl
    refine one_ (i := 3) (N := some 6) #[true, true, true, true, true, true, false, false, false] rfl rfl (one_of HT_.out (by kernel_rfl)) (by decide) (fun K hK => ?_)
    refine Kd.R_lit_step k65 _ 65 ?hg (N := 6) ?hd (xs := ([] : List (S65))) (inner := []) (ok := fun _ => True) (okp := fun _ => True) ?hr ?hp (fun _ hk => hk) trivial (Below.refl _ _) (Nat.le_refl _) (by simp) ?_; (case hd => rfl); (case hg => rfl); (case hr => first | (go_simp; done) | (go_simp; rfl)); (case hp => exact (Reps.none _ _))
    intro v185 w8 ho9 hb hg_ hnew_
    clear hg_ hnew_
    (first | rw [← Ny184.out] at ho9 | (simp only [Int.reduceToNat] at ho9; rw [← Ny184.out] at ho9))
    have n0_ := rB HO183 hb
    have n1_ := lR HB ho9
    have n2_ := kB BK179 hb
    have n3_ := kB BK180 hb
    have n4_ := sB HB hb
    clear HO183
    clear BK179
    clear BK180
    clear HB
    have HO183 := n0_
    have HO186 := n1_
    have BK179 := n2_
    have BK180 := n3_
    have HB := n4_
    clear n0_ n1_ n2_ n3_ n4_
    clear hb ho9
    refine hK.out _ _ ⟨(blk_cell BK179.out 0).trans rfl, (blk_cell BK179.out 1).trans rfl⟩ (fun hHeld => ?_)
    clear hK K
    refine norm_ (a' := ?_) ?_ ?_
    rotate_left
    ·show Act.put _ (some 6) _ = _
     simp only [Act.put, List.setIfInBounds_toArray, List.set_cons_zero, List.set_cons_succ, i64_w, i32_w]
     rfl
    exact norm_ (by simp only [putAll, Act.put, List.setIfInBounds_toArray, List.set_cons_zero, List.set_cons_succ]) (hCont (v182, v185) _ ⟨hHeld, (rP HO183.out), (rP HO186.out), (kP BK179), (kP BK180), bB⟩)
   skip
   refine Kd.R_lit_step k65 _ 65 ?hg (N := 6) ?hd (xs := ([] : List (S65))) (inner := []) (ok := fun _ => True) (okp := fun _ => True) ?hr ?hp (fun _ hk => hk) trivial (Below.refl _ _) (Nat.le_refl _) (by simp) ?_; (case hd => rfl); (case hg => rfl); (case hr => first | (go_simp; done) | (go_simp; rfl)); (case hp => exact (Reps.none _ _))
   intro v185 w7 ho8 hb hg_ hnew_
   clear hg_ hnew_
   (first | rw [← Ny184.out] at ho8 | (simp only [Int.reduceToNat] at ho8; rw [← Ny184.out] at ho8))
   have n0_ := lR HB ho8
   have n1_ := kB BK179 hb
   have n2_ := kB BK180 hb
   have n3_ := sB HB hb
   clear BK179
   clear BK180
   clear HB
   have HO186 := n0_
   have BK179 := n1_
   have BK180 := n2_
   have HB := n3_
   clear n0_ n1_ n2_ n3_
   clear hb ho8
   refine hK.out _ _ ⟨(blk_cell BK179.out 0).trans rfl, (blk_cell BK179.out 1).trans rfl⟩ (fun hHeld => ?_)
   clear hK K
   refine norm_ (a' := ?_) ?_ ?_
   rotate_left
   ·show Act.put _ (some 6) _ = _
    simp only [Act.put, List.setIfInBounds_toArray, List.set_cons_zero, List.set_cons_succ, i64_w, i32_w]
    rfl
   refine one_ (i := 2) (N := some 5) #[true, true, true, true, true, true, false, false, false] rfl rfl (one_of HT_.out (by kernel_rfl)) (by decide) (fun K hK => ?_)
   refine goes_ Try.func110 (by kernel_rfl) rfl #[.slice A0_0 l0_0.length c0_0] (by rfl) rfl rfl (by (try simp only [List.map_toArray, List.map_cons, List.map_nil]); first | done | rfl | (simp only [List.length_drop, List.length_take]; rfl)) ?_
   with_reducible refine (spec_l1Copy.calls _ _ l0_0 t181 _ ?side1 ?side2 A2.out).mono ?_
   (case side1 => exact cS HR0_0 HB)
   (case side2 => exact HC0_0.out)
   rintro e w9 ⟨v182, rfl, ho0, hb⟩
   refine ⟨_, rfl, ?_⟩
   have n0_ := rB HO186 hb
   have n1_ := lR HB ho0
   have n2_ := kB BK179 hb
   have n3_ := kB BK180 hb
   have n4_ := sB HB hb
   clear HO186
   clear BK179
   clear BK180
   clear HB
   have HO186 := n0_
   have HO183 := n1_
   have BK179 := n2_
   have BK180 := n3_
   have HB := n4_
   clear n0_ n1_ n2_ n3_ n4_
   (try clear hb)
   (try clear hb2)
   (try clear hk)
   (try clear hi)
   (try clear ho0)
   refine hK.out _ _ ⟨(blk_cell BK179.out 0).trans rfl, (blk_cell BK179.out 1).trans rfl⟩ (fun hHeld => ?_)
   clear hK K
   refine norm_ (a' := ?_) ?_ ?_
   rotate_left
   ·show Act.put _ (some 5) _ = _
    simp only [Act.put, List.setIfInBounds_toArray, List.set_cons_zero, List.set_cons_succ, i64_w, i32_w]
    rfl
   exact norm_ (by simp only [putAll, Act.put, List.setIfInBounds_toArray, List.set_cons_zero, List.set_cons_succ]) (hCont (v182, v185) _ ⟨hHeld, (rP HO183.out), (rP HO186.out), (kP BK179), (kP BK180), bB⟩)
  rintro ⟨v182, v185⟩ w10 ⟨hS_, h0_, h1_, h2_, h3_, h4_⟩
  have n0_ : Aside0 (Kd.R Kd.string 9 w10 w.heap.size (fun _ => True) v182 t181) := ⟨h0_⟩
  have n1_ : Aside0 (Kd.R k65 65 w10 w.heap.size (fun _ => True) v185 y184) := ⟨h1_⟩
  have n2_ : Aside0 (w10.heap[gb179]? = some (.cells #[.slice A0_0 l0_0.length c0_0, .slice A0_1 l0_1.length c0_1] 30 (0, 0))) := ⟨h2_⟩
  have n3_ : Aside0 (w10.heap[gb180]? = some (.cells #[.slice none 0 0, .slice none 0 0] 30 (0, 0))) := ⟨h3_⟩
  have n4_ : Aside0 (Below w.heap.size w w10) := ⟨h4_⟩
  clear BK179
  clear BK180
  clear HB
  clear h0_ h1_ h2_ h3_ h4_
  have HO183 := n0_
  have HO186 := n1_
  have BK179 := n2_
  have BK180 := n3_
  have HB := n4_
  clear n0_ n1_ n2_ n3_ n4_
  have hHeld : w10.cell? ⟨gb179, 0, none⟩ = some (.slice A0_0 l0_0.length c0_0) ∧ w10.cell? ⟨gb179, 1, none⟩ = some (.slice A0_1 l0_1.length c0_1) := hS_
  refine norm_ (a' := ?_) ?_ ?_
  rotate_left
  ·simp only [putAll, Act.put, List.setIfInBounds_toArray, List.set_cons_zero, List.set_cons_succ]
   rfl
  refine one_ (i := 6) (N := some 9) #[true, true, true, true, true, true, true, false, false] rfl rfl (one_of HT_.out (by kernel_rfl)) (by decide) (fun K hK => ?_)
  refine Kd.R_append_rows_step k65 (w0 := w) w.heap.size (by rfl) (.tmp 6) (.tmp 8) 28 65 (.agg #[(.int .i64 0), (.string ⟨#[]⟩)]) 24 rfl Try.underlying28 info65 rfl (by decide) (by omega) v185 y184 l0_1 _ _ _ (fun _ => True) (fun _ => False) rfl rfl ?aO ?aR (fun _ _ h => h) (fun _ h => h.elim) ?aF ?aB ?aS ?aL ?_
  (case aR => exact cS HR0_1 HB)
  (case aB => exact bB)
  (case aF => exact (fun _ _ => trivial))
  (case aO => exact (rP HO186.out))
  (case aS => exact (zB HB))
  (case aL => have := LMc3.out; omega)
  intro v188 w11 ho hb hg hat
  rw [← Ny187.out] at ho
  have n0_ := Aside0.mk (blk_grown (g := gb179) (o := .cells #[.slice A0_0 l0_0.length c0_0, .slice A0_1 l0_1.length c0_1] 30 (0, 0)) (kP BK179) hg (Kd.R_ne HO186.out BK179.out (by decide)))
  have n1_ := Aside0.mk (blk_grown (g := gb180) (o := .cells #[.slice none 0 0, .slice none 0 0] 30 (0, 0)) (kP BK180) hg (Kd.R_ne HO186.out BK180.out (by decide)))
  have n2_ := Aside0.mk (Kd.R_over' (rP HO183.out) (Kd.R_typed (rP HO186.out)) (by decide) hg)
  have n3_ := Aside0.mk (hb)
  have n4_ := Aside0.mk (ho)
  clear BK179
  clear BK180
  clear HO183
  clear HB
  clear HO186
  have BK179 := n0_
  have BK180 := n1_
  have HO183 := n2_
  have HB := n3_
  have HO189 := n4_
  clear n0_ n1_ n2_ n3_ n4_
  clear ho hb hg hat
  obtain ⟨Ao12, co12, eo12⟩ := Kd.R_slice HO189.out
  (first | subst eo12 | (injection eo12 with f1_ f2_ f3_; have f4_ := f1_.symm; have f5_ := f3_.symm; clear f1_ f2_ f3_; subst f4_; subst f5_))
  obtain ⟨Ao13, co13, eo13⟩ := Kd.R_slice HO183.out
  (first | subst eo13 | (injection eo13 with f1_ f2_ f3_; have f4_ := f1_.symm; have f5_ := f3_.symm; clear f1_ f2_ f3_; subst f4_; subst f5_))
  refine hK.out _ _ ⟨(blk_cell BK179.out 0).trans rfl, (blk_cell BK179.out 1).trans rfl⟩ (fun hHeld => ?_)
  clear hK K
  refine norm_ (a' := ?_) ?_ ?_
  rotate_left
  ·show Act.put _ (some 9) _ = _
   simp only [Act.put, List.setIfInBounds_toArray, List.set_cons_zero, List.set_cons_succ, i64_w, i32_w]
   rfl
  refine pure_ (i := 7) (N := some 10) (v := ?_) (a' := ?_) #[true, true, true, true, true, true, true, true, false] rfl rfl (any_of HT_.out (by kernel_rfl)) (fun _ _ _ h => h) (Or.inl ⟨by rfl, ?_⟩) ?_ ?_
  rotate_left
  ·intro w'
   go_simp
   with_reducible rfl
  rotate_left
  ·simp only [Act.put, List.setIfInBounds_toArray, List.set_cons_zero, List.set_cons_succ, i64_w, i32_w]
   rfl
  refine one_ (i := 8) (N := none) #[true, true, true, true, true, true, true, true, true] rfl rfl (one_of HT_.out (by kernel_rfl)) (by decide) (fun K hK => ?_)
  have hs14 : w11.cell? ⟨gb180, 0, none⟩ = some (.slice none 0 0) := (blk_cell BK180.out 0).trans rfl
  have hfs14 := blk_frozen BK180.out 0
  have hns14_0 := NB179_180.out
  have hms14_0 := NB180_179.out
  have hs15 : w11.cell? ⟨gb180, 1, none⟩ = some (.slice none 0 0) := (blk_cell BK180.out 1).trans rfl
  have hfs15 := blk_frozen BK180.out 1
  have hns15_0 := NB179_180.out
  have hms15_0 := NB180_179.out
  refine skip_ (w1 := ?_) (by rfl) rfl ?_ ?_
  rotate_left
  ·go_simp
   rfl
  refine hK.out _ _ ⟨((cell_far (p := ⟨gb180, _, none⟩) NB179_180.out _).trans (((cell_far (p := ⟨gb180, _, none⟩) NB179_180.out _).trans (hHeld.1)))), ((cell_far (p := ⟨gb180, _, none⟩) NB179_180.out _).trans (((cell_far (p := ⟨gb180, _, none⟩) NB179_180.out _).trans (hHeld.2))))⟩ (fun hHeld => ?_)
  clear hK K
  refine done_ (done_of HT_.out (by kernel_rfl)) ?_
  try go_wp2
  refine bodyPost_ret (results_cell_row rfl _ _ gb180 30 #[.slice Ao13 t181.length co13, .slice Ao12 y187.length co12] (0, 0) _ rfl (by (with_reducible repeat (first | refine blk_drewN ?_ _ | refine blk_drew ?_ | refine blk_alloc ?_ _)); refine blk_put (cs := #[.slice Ao13 t181.length co13, .slice none 0 0]) ?_ 1 _ rfl; (with_reducible repeat (first | refine blk_drewN ?_ _ | refine blk_drew ?_ | refine blk_alloc ?_ _)); refine blk_put (cs := #[.slice none 0 0, .slice none 0 0]) ?_ 0 _ rfl; (with_reducible repeat (first | refine blk_drewN ?_ _ | refine blk_drew ?_ | refine blk_alloc ?_ _)); exact BK180.out) Try.underlying30 rfl (by kernel_rfl)) rfl ?_
  exact ⟨_, _, eW, by (with_reducible repeat (first | apply Kd.R_alloc | apply Kd.R_drewN | apply Kd.R_drew)); exact Kd.R_mono (Kd.R_far (p := ⟨gb180, 1, none⟩) (Kd.R_far (p := ⟨gb180, 0, none⟩) (Kd.R_types HO183.out BK180.out (by decide)) (fun _ hk => hk.2) (.slice Ao13 t181.length co13)) (fun _ hk => hk.2) (.slice Ao12 y187.length co12)) (fun _ hk => trivial), by (with_reducible repeat (first | apply Kd.R_alloc | apply Kd.R_drewN | apply Kd.R_drew)); exact Kd.R_mono (Kd.R_far (p := ⟨gb180, 1, none⟩) (Kd.R_far (p := ⟨gb180, 0, none⟩) (Kd.R_types HO189.out BK180.out (by decide)) (fun _ hk => hk.2) (.slice Ao13 t181.length co13)) (fun _ hk => hk.2) (.slice Ao12 y187.length co12)) (fun _ hk => trivial), bB⟩
 rw [if_neg c3] at H
 exact absurd H (by simp)

/-! ### spec_SectorWrite: function 28 -/
def spec_SectorWrite.f (k : Nat) (l0_0 : List ByteArray) (l0_1 : List (S65)) (a1 : Int) (a2 : ByteArray) : Option (List ByteArray × (List (S65)) × Bool) := (spec_l3Copy.f l0_0 l0_1).bind fun bt192 => (if bt192.2.length < 5864062014805 then ((some (bt192.2 ++ [(⟨a1, a2⟩ : S65)] : List (S65))).bind fun y199 => ((spec_DiskOk.f k l0_0 l0_1).bind fun t202 => (if t202 = true then ((spec_DiskOk.f k bt192.1 y199).bind fun t203 => (if t203 = true then (some (bt192.1, y199, true)) else ((spec_l3Copy.f l0_0 l0_1).bind fun bt204 => (some (bt204.1, bt204.2, false))))) else ((spec_l3Copy.f l0_0 l0_1).bind fun bt210 => (some (bt210.1, bt210.2, false)))))) else (none))
theorem spec_SectorWrite.mono : ∀ a0 a1 a2 a3 k, LeO (spec_SectorWrite.f k a0 a1 a2 a3) (spec_SectorWrite.f (k + 1) a0 a1 a2 a3) := by
 intro a0 a1 a2 a3 k
 unfold spec_SectorWrite.f
 have m0_ := @spec_DiskOk.mono
 exact mM
set_option maxHeartbeats 8000000 in
set_option maxRecDepth 100000 in
theorem spec_SectorWrite.calls (k : Nat) (A0_0 : Option Addr) (c0_0 : Nat) (l0_0 : List ByteArray) (A0_1 : Option Addr) (c0_1 : Nat) (l0_1 : List (S65)) (a1 : Int) (a2 : ByteArray) (r1 : List ByteArray) (r2 : List (S65)) (r3 : Bool) (w : World) (hr0_0 : Kd.C Kd.string w A0_0 l0_0.length l0_0) (hc0_0 : l0_0.length ≤ c0_0) (hr0_1 : Kd.C k65 w A0_1 l0_1.length l0_1) (hc0_1 : l0_1.length ≤ c0_1) (h : spec_SectorWrite.f k l0_0 l0_1 a1 a2 = some (r1, r2, r3)) :
  Calls Try.prog 28 #[.agg #[.slice A0_0 l0_0.length c0_0, .slice A0_1 l0_1.length c0_1], .int .i64 a1, .string a2] w fun e w' => ∃ v0_ v1_ : Value, e = .returned (.tuple #[.agg #[v0_, v1_], .bool r3]) ∧ Kd.R Kd.string 9 w' w.heap.size (fun _ => True) v0_ r1 ∧ Kd.R k65 65 w' w.heap.size (fun _ => True) v1_ r2 ∧ Below w.heap.size w w' := by
 have hu30 := Try.underlying30
 have hu65 := Try.underlying65
 have HR0_0 := Aside0.mk hr0_0
 have HC0_0 := Aside0.mk hc0_0
 clear hr0_0 hc0_0
 have HR0_1 := Aside0.mk hr0_1
 have HC0_1 := Aside0.mk hc0_1
 clear hr0_1 hc0_1
 have HB := Aside0.mk (Below.refl w.heap.size w)
 unfold spec_SectorWrite.f at h
 have H := h
 clear h
 replace H := Option.bind_eq_some_iff.mp H
 obtain ⟨⟨t192, t195⟩, A40, H⟩ := H
 try dsimp only at H
 have A4 := Aside0.mk A40
 clear A40
 by_cases c5 : t195.length < 5864062014805
 ·rw [if_pos c5] at H
  have LMc5 := Aside0.mk c5
  clear c5
  obtain ⟨y199, hy199⟩ : ∃ y_ : List (S65), y_ = (t195 ++ [(⟨a1, a2⟩ : S65)]) := ⟨_, rfl⟩
  replace H : ((spec_DiskOk.f k l0_0 l0_1).bind fun t202 => (if t202 = true then ((spec_DiskOk.f k t192 y199).bind fun t203 => (if t203 = true then (some (t192, y199, true)) else ((spec_l3Copy.f l0_0 l0_1).bind fun bt204 => (some (bt204.1, bt204.2, false))))) else ((spec_l3Copy.f l0_0 l0_1).bind fun bt210 => (some (bt210.1, bt210.2, false))))) = some (r1, r2, r3) := by first | (rw [hy199]; with_reducible exact H) | (have H2_ := (Option.bind_some _ _).symm.trans H; rw [hy199]; with_reducible exact H2_) | (have H2_ := (Option.bind_some _ _).symm.trans H; with_reducible exact H2_) | with_reducible exact H | (rw [hy199]; exact H) | exact H
  have Ny199 := Aside0.mk hy199
  clear hy199
  replace H := Option.bind_eq_some_iff.mp H
  obtain ⟨t202, A60, H⟩ := H
  try dsimp only at H
  have A6 := Aside0.mk A60
  clear A60
  by_cases c7 : t202 = true
  ·subst c7
   rw [if_pos rfl] at H
   replace H := Option.bind_eq_some_iff.mp H
   obtain ⟨t203, A80, H⟩ := H
   try dsimp only at H
   have A8 := Aside0.mk A80
   clear A80
   by_cases c9 : t203 = true
   ·subst c9
    rw [if_pos rfl] at H
    simp only [Option.some.injEq, Prod.mk.injEq] at H
    obtain ⟨rfl, rfl, rfl⟩ := H
    go_enter Try.func28, Try.ntmps28
    go_wp2_with (first | ((with_reducible refine gate_dst (N := 3) rfl ?_); refine bE 3 #[.slice A0_0 l0_0.length c0_0, .slice A0_1 l0_1.length c0_1] 30 ?_; intro gb190 hg w10 hbox hb; have n_ := And.intro (sB HB hb) (And.intro (Aside0.mk hbox) (And.intro (gE HB hg) (gE HB hg))); clear HB; obtain ⟨HB, BK190, GW190, GE190⟩ := n_; (try clear hb hbox hg)) | ((with_reducible refine gate_dst (N := 6) rfl ?_); refine bE 6 #[.slice none 0 0, .slice none 0 0] 30 ?_; intro gb191 hg w11 hbox hb; have n_ := And.intro (kB BK190 hb) (And.intro (sB HB hb) (And.intro (Aside0.mk hbox) (And.intro (gE HB hg) (And.intro (gE HB hg) (And.intro (nL BK190 hg) (nG BK190 hg)))))); clear BK190 HB; obtain ⟨BK190, HB, BK191, GW191, GE191, NB190_191, NB191_190⟩ := n_; (try clear hb hbox hg); have hnb12 := NB190_191.out; have hnc12 := NB191_190.out; have hcz13_0 := cZ0 BK190; have hcz13_1 := cZ1 BK190; have hfz13_0 := blk_frozen BK190.out 0; have hfz13_1 := blk_frozen BK190.out 1) | ((with_reducible refine gate_callee (f := 75) rfl ?_); refine gL (some 10) Try.func75 #[.agg #[.slice A0_0 l0_0.length c0_0, .slice A0_1 l0_1.length c0_1]] ?_; (with_reducible refine (spec_l3Copy.calls _ _ l0_0 _ _ l0_1 t192 t195 _ ?side1 ?side2 ?side3 ?side4 A4.out).mono ?_); (case side1 => exact cS HR0_0 HB); (case side2 => exact HC0_0.out); (case side3 => exact cS HR0_1 HB); (case side4 => exact HC0_1.out); rintro e w14 ⟨v193, v196, rfl, ho0, ho1, hb⟩; refine ⟨_, rfl, ?_⟩; have n_ := And.intro (lR HB ho0) (And.intro (lR HB ho1) (And.intro (kB BK190 hb) (And.intro (kB BK191 hb) (sB HB hb)))); clear BK190 BK191 HB; obtain ⟨HO194, HO197, BK190, BK191, HB⟩ := n_; (try clear hb ho0 ho1)) | ((with_reducible refine gate_dst (N := 8) rfl ?_); refine bE 8 #[.slice none 0 0, .slice none 0 0] 30 ?_; intro gb198 hg w15 hbox hb; have n_ := And.intro (rB HO194 hb) (And.intro (rB HO197 hb) (And.intro (kB BK190 hb) (And.intro (kB BK191 hb) (And.intro (sB HB hb) (And.intro (Aside0.mk hbox) (And.intro (gE HB hg) (And.intro (gE HB hg) (And.intro (nL BK190 hg) (And.intro (nG BK190 hg) (And.intro (nL BK191 hg) (nG BK191 hg))))))))))); clear HO194 HO197 BK190 BK191 HB; obtain ⟨HO194, HO197, BK190, BK191, HB, BK198, GW198, GE198, NB190_198, NB198_190, NB191_198, NB198_191⟩ := n_; (try clear hb hbox hg); obtain ⟨Ao16, co16, eo16⟩ := Kd.R_slice HO194.out; subst eo16; have hnb17 := NB198_190.out; have hnc17 := NB190_198.out; have hnb18 := NB198_191.out; have hnc18 := NB191_198.out; have hcz19_0 := cZ0 BK198; have hcz19_1 := cZ1 BK198; have hfz19_0 := blk_frozen BK198.out 0; have hfz19_1 := blk_frozen BK198.out 1; obtain ⟨Ao20, co20, eo20⟩ := Kd.R_slice HO197.out; subst eo20) | ((with_reducible refine gate_builtin (b := .append) (xs := #[.tmp 12, .tmp 16]) rfl ?_); at_builtin; refine Kd.R_append k65 (w0 := w) w.heap.size rfl (.tmp 12) (.tmp 16) 28 65 (.agg #[(.int .i64 0), (.string ⟨#[]⟩)]) 24 rfl Try.underlying28 info65 rfl (by decide) (by omega) (.slice Ao20 t195.length co20) t195 (⟨a1, a2⟩ : S65) [.int .i64 a1, .string a2] (fun _ => True) (fun _ => False) rfl (by first | (go_simp; done) | (go_simp; rfl)) ?aP (fun _ hk => hk.elim) ?aF ?aO ?aB ?aS ?aL ?_; (case aP => exact k65_mkM _ _ _ (⟨a1, a2⟩ : S65)); (case aB => exact bB); (case aF => exact (fun _ _ => trivial)); (case aO => exact (rP (Kd.R_mono (Kd.R_far (p := ⟨gb198, 1, none⟩) (Kd.R_far (p := ⟨gb198, 0, none⟩) (Kd.R_types HO197.out BK198.out (by decide)) (fun _ hk => hk.2) (.slice Ao16 t192.length co16)) (fun _ hk => hk.2) (.slice Ao20 t195.length co20)) (fun _ hk => trivial)))); (case aS => exact (zB HB)); (case aL => have := LMc5.out; omega); intro v200 w21 ho hb hg hat; rw [← Ny199.out] at ho; have n_ := And.intro (Aside0.mk (blk_grown (g := gb190) (o := .cells #[.slice A0_0 l0_0.length c0_0, .slice A0_1 l0_1.length c0_1] 30 (0, 0)) (kP BK190) hg (Kd.R_ne HO197.out BK190.out (by decide)))) (And.intro (Aside0.mk (blk_grown (g := gb191) (o := .cells #[.slice none 0 0, .slice none 0 0] 30 (0, 0)) (kP BK191) hg (Kd.R_ne HO197.out BK191.out (by decide)))) (And.intro (Aside0.mk (Kd.R_over' (rP (Kd.R_mono (Kd.R_far (p := ⟨gb198, 1, none⟩) (Kd.R_far (p := ⟨gb198, 0, none⟩) (Kd.R_types HO194.out BK198.out (by decide)) (fun _ hk => hk.2) (.slice Ao16 t192.length co16)) (fun _ hk => hk.2) (.slice Ao20 t195.length co20)) (fun _ h_ => h_.1))) (Kd.R_typed (rP (Kd.R_mono (Kd.R_far (p := ⟨gb198, 1, none⟩) (Kd.R_far (p := ⟨gb198, 0, none⟩) (Kd.R_types HO197.out BK198.out (by decide)) (fun _ hk => hk.2) (.slice Ao16 t192.length co16)) (fun _ hk => hk.2) (.slice Ao20 t195.length co20)) (fun _ h_ => h_.1)))) (by decide) hg)) (And.intro (Aside0.mk (blk_grown (g := gb198) (o := .cells #[.slice Ao16 t192.length co16, .slice Ao20 t195.length co20] 30 (0, 0)) (by (with_reducible repeat (first | refine blk_drewN ?_ _ | refine blk_drew ?_ | refine blk_alloc ?_ _)); refine blk_put (cs := #[.slice Ao16 t192.length co16, .slice none 0 0]) ?_ 1 _ rfl; (with_reducible repeat (first | refine blk_drewN ?_ _ | refine blk_drew ?_ | refine blk_alloc ?_ _)); refine blk_put (cs := #[.slice none 0 0, .slice none 0 0]) ?_ 0 _ rfl; (with_reducible repeat (first | refine blk_drewN ?_ _ | refine blk_drew ?_ | refine blk_alloc ?_ _)); exact BK198.out) hg (Kd.R_ne HO197.out BK198.out (by decide)))) (And.intro (Aside0.mk (hb)) (Aside0.mk (ho)))))); clear BK190 BK191 HO194 BK198 HB HO197; obtain ⟨BK190, BK191, HO194, BK198, HB, HO201⟩ := n_; (try clear ho hb hg hat); obtain ⟨Ao22, co22, eo22⟩ := Kd.R_slice HO201.out; subst eo22; have hcz23_0 := cZ0 BK198; have hcz23_1 := cZ1 BK198; have hfz23_0 := blk_frozen BK198.out 0; have hfz23_1 := blk_frozen BK198.out 1; have hcz24_0 := cZ0 BK190; have hcz24_1 := cZ1 BK190; have hfz24_0 := blk_frozen BK190.out 0; have hfz24_1 := blk_frozen BK190.out 1) | ((with_reducible refine gate_callee (f := 16) rfl ?_); refine gL (some 20) Try.func16 #[.agg #[.slice A0_0 l0_0.length c0_0, .slice A0_1 l0_1.length c0_1]] ?_; (with_reducible refine (spec_DiskOk.calls k _ _ l0_0 _ _ l0_1 true _ ?side1 ?side2 ?side3 ?side4 A6.out).mono ?_); (case side1 => exact cS HR0_0 HB); (case side2 => exact HC0_0.out); (case side3 => exact cS HR0_1 HB); (case side4 => exact HC0_1.out); rintro e w25 ⟨rfl, hb⟩; refine ⟨_, rfl, ?_⟩; have n_ := And.intro (Aside0.mk (Kd.R_below (rP (Kd.R_mono (Kd.R_far (p := ⟨gb198, 1, none⟩) (Kd.R_types HO194.out BK198.out (by decide)) (fun _ hk => hk.2) (.slice Ao22 y199.length co22)) (fun _ h_ => h_.1))) hb)) (And.intro (Aside0.mk (Kd.R_below (rP (Kd.R_mono (Kd.R_far (p := ⟨gb198, 1, none⟩) (Kd.R_types HO201.out BK198.out (by decide)) (fun _ hk => hk.2) (.slice Ao22 y199.length co22)) (fun _ h_ => h_.1))) hb)) (And.intro (kB BK190 hb) (And.intro (kB BK191 hb) (And.intro (Aside0.mk (blk_below (g := gb198) (o := .cells #[.slice Ao16 t192.length co16, .slice Ao22 y199.length co22] 30 (0, 0)) (by (with_reducible repeat (first | refine blk_drewN ?_ _ | refine blk_drew ?_ | refine blk_alloc ?_ _)); refine blk_put (cs := #[.slice Ao16 t192.length co16, .slice Ao20 t195.length co20]) ?_ 1 _ rfl; (with_reducible repeat (first | refine blk_drewN ?_ _ | refine blk_drew ?_ | refine blk_alloc ?_ _)); exact BK198.out) hb)) (sB HB hb))))); clear HO194 HO201 BK190 BK191 BK198 HB; obtain ⟨HO194, HO201, BK190, BK191, BK198, HB⟩ := n_; (try clear hb); have hcz26_0 := cZ0 BK198; have hcz26_1 := cZ1 BK198; have hfz26_0 := blk_frozen BK198.out 0; have hfz26_1 := blk_frozen BK198.out 1) | (go_at_call 16; (with_reducible refine (spec_DiskOk.calls k _ _ t192 _ _ y199 true _ ?side1 ?side2 ?side3 ?side4 A8.out).mono ?_); (case side1 => exact cR HO194); (case side2 => exact (Kd.R_reads' HO194.out).2.1); (case side3 => exact cR HO201); (case side4 => exact (Kd.R_reads' HO201.out).2.1); rintro e w27 ⟨rfl, hb⟩; have n_ := And.intro (rB HO194 hb) (And.intro (rB HO201 hb) (And.intro (kB BK190 hb) (And.intro (kB BK191 hb) (And.intro (kB BK198 hb) (sB HB hb))))); clear HO194 HO201 BK190 BK191 BK198 HB; obtain ⟨HO194, HO201, BK190, BK191, BK198, HB⟩ := n_; (try clear hb); have hcz28_0 := cZ0 BK198; have hcz28_1 := cZ1 BK198; have hfz28_0 := blk_frozen BK198.out 0; have hfz28_1 := blk_frozen BK198.out 1; have hcz29_0 := cZ0 BK191; have hcz29_1 := cZ1 BK191; have hfz29_0 := blk_frozen BK191.out 0; have hfz29_1 := blk_frozen BK191.out 1))
    refine bodyPost_ret (results_ct rfl _ _ gb191 30 #[.slice Ao16 t192.length co16, .slice Ao22 y199.length co22] (0, 0) _ rfl (by (with_reducible repeat (first | refine blk_drewN ?_ _ | refine blk_drew ?_ | refine blk_alloc ?_ _)); refine blk_put (cs := #[.slice Ao16 t192.length co16, .slice none 0 0]) ?_ 1 _ rfl; (with_reducible repeat (first | refine blk_drewN ?_ _ | refine blk_drew ?_ | refine blk_alloc ?_ _)); refine blk_put (cs := #[.slice none 0 0, .slice none 0 0]) ?_ 0 _ rfl; (with_reducible repeat (first | refine blk_drewN ?_ _ | refine blk_drew ?_ | refine blk_alloc ?_ _)); exact BK191.out) Try.underlying30 rfl (by kernel_rfl)) rfl ?_
    exact ⟨_, _, eW, by (with_reducible repeat (first | apply Kd.R_alloc | apply Kd.R_drewN | apply Kd.R_drew)); exact Kd.R_mono (Kd.R_far (p := ⟨gb191, 1, none⟩) (Kd.R_far (p := ⟨gb191, 0, none⟩) (Kd.R_types HO194.out BK191.out (by decide)) (fun _ hk => hk.2) (.slice Ao16 t192.length co16)) (fun _ hk => hk.2) (.slice Ao22 y199.length co22)) (fun _ hk => trivial), by (with_reducible repeat (first | apply Kd.R_alloc | apply Kd.R_drewN | apply Kd.R_drew)); exact Kd.R_mono (Kd.R_far (p := ⟨gb191, 1, none⟩) (Kd.R_far (p := ⟨gb191, 0, none⟩) (Kd.R_types HO201.out BK191.out (by decide)) (fun _ hk => hk.2) (.slice Ao16 t192.length co16)) (fun _ hk => hk.2) (.slice Ao22 y199.length co22)) (fun _ hk => trivial), bB⟩
   replace c9 := Bool.eq_false_iff.mpr c9
   subst c9
   rw [if_neg (show ¬ (false = true) by decide)] at H
   replace H := Option.bind_eq_some_iff.mp H
   obtain ⟨⟨t204, t207⟩, A300, H⟩ := H
   try dsimp only at H
   have A30 := Aside0.mk A300
   clear A300
   simp only [Option.some.injEq, Prod.mk.injEq] at H
   obtain ⟨rfl, rfl, rfl⟩ := H
   go_enter Try.func28, Try.ntmps28
   go_wp2_with (first | ((with_reducible refine gate_dst (N := 3) rfl ?_); refine bE 3 #[.slice A0_0 l0_0.length c0_0, .slice A0_1 l0_1.length c0_1] 30 ?_; intro gb190 hg w31 hbox hb; have n_ := And.intro (sB HB hb) (And.intro (Aside0.mk hbox) (And.intro (gE HB hg) (gE HB hg))); clear HB; obtain ⟨HB, BK190, GW190, GE190⟩ := n_; (try clear hb hbox hg)) | ((with_reducible refine gate_dst (N := 6) rfl ?_); refine bE 6 #[.slice none 0 0, .slice none 0 0] 30 ?_; intro gb191 hg w32 hbox hb; have n_ := And.intro (kB BK190 hb) (And.intro (sB HB hb) (And.intro (Aside0.mk hbox) (And.intro (gE HB hg) (And.intro (gE HB hg) (And.intro (nL BK190 hg) (nG BK190 hg)))))); clear BK190 HB; obtain ⟨BK190, HB, BK191, GW191, GE191, NB190_191, NB191_190⟩ := n_; (try clear hb hbox hg); have hnb33 := NB190_191.out; have hnc33 := NB191_190.out; have hcz34_0 := cZ0 BK190; have hcz34_1 := cZ1 BK190; have hfz34_0 := blk_frozen BK190.out 0; have hfz34_1 := blk_frozen BK190.out 1) | ((with_reducible refine gate_callee (f := 75) rfl ?_); refine gL (some 10) Try.func75 #[.agg #[.slice A0_0 l0_0.length c0_0, .slice A0_1 l0_1.length c0_1]] ?_; (with_reducible refine (spec_l3Copy.calls _ _ l0_0 _ _ l0_1 t192 t195 _ ?side1 ?side2 ?side3 ?side4 A4.out).mono ?_); (case side1 => exact cS HR0_0 HB); (case side2 => exact HC0_0.out); (case side3 => exact cS HR0_1 HB); (case side4 => exact HC0_1.out); rintro e w35 ⟨v193, v196, rfl, ho0, ho1, hb⟩; refine ⟨_, rfl, ?_⟩; have n_ := And.intro (lR HB ho0) (And.intro (lR HB ho1) (And.intro (kB BK190 hb) (And.intro (kB BK191 hb) (sB HB hb)))); clear BK190 BK191 HB; obtain ⟨HO194, HO197, BK190, BK191, HB⟩ := n_; (try clear hb ho0 ho1)) | ((with_reducible refine gate_dst (N := 8) rfl ?_); refine bE 8 #[.slice none 0 0, .slice none 0 0] 30 ?_; intro gb198 hg w36 hbox hb; have n_ := And.intro (rB HO194 hb) (And.intro (rB HO197 hb) (And.intro (kB BK190 hb) (And.intro (kB BK191 hb) (And.intro (sB HB hb) (And.intro (Aside0.mk hbox) (And.intro (gE HB hg) (And.intro (gE HB hg) (And.intro (nL BK190 hg) (And.intro (nG BK190 hg) (And.intro (nL BK191 hg) (nG BK191 hg))))))))))); clear HO194 HO197 BK190 BK191 HB; obtain ⟨HO194, HO197, BK190, BK191, HB, BK198, GW198, GE198, NB190_198, NB198_190, NB191_198, NB198_191⟩ := n_; (try clear hb hbox hg); obtain ⟨Ao37, co37, eo37⟩ := Kd.R_slice HO194.out; subst eo37; have hnb38 := NB198_190.out; have hnc38 := NB190_198.out; have hnb39 := NB198_191.out; have hnc39 := NB191_198.out; have hcz40_0 := cZ0 BK198; have hcz40_1 := cZ1 BK198; have hfz40_0 := blk_frozen BK198.out 0; have hfz40_1 := blk_frozen BK198.out 1; obtain ⟨Ao41, co41, eo41⟩ := Kd.R_slice HO197.out; subst eo41) | ((with_reducible refine gate_builtin (b := .append) (xs := #[.tmp 12, .tmp 16]) rfl ?_); at_builtin; refine Kd.R_append k65 (w0 := w) w.heap.size rfl (.tmp 12) (.tmp 16) 28 65 (.agg #[(.int .i64 0), (.string ⟨#[]⟩)]) 24 rfl Try.underlying28 info65 rfl (by decide) (by omega) (.slice Ao41 t195.length co41) t195 (⟨a1, a2⟩ : S65) [.int .i64 a1, .string a2] (fun _ => True) (fun _ => False) rfl (by first | (go_simp; done) | (go_simp; rfl)) ?aP (fun _ hk => hk.elim) ?aF ?aO ?aB ?aS ?aL ?_; (case aP => exact k65_mkM _ _ _ (⟨a1, a2⟩ : S65)); (case aB => exact bB); (case aF => exact (fun _ _ => trivial)); (case aO => exact (rP (Kd.R_mono (Kd.R_far (p := ⟨gb198, 1, none⟩) (Kd.R_far (p := ⟨gb198, 0, none⟩) (Kd.R_types HO197.out BK198.out (by decide)) (fun _ hk => hk.2) (.slice Ao37 t192.length co37)) (fun _ hk => hk.2) (.slice Ao41 t195.length co41)) (fun _ hk => trivial)))); (case aS => exact (zB HB)); (case aL => have := LMc5.out; omega); intro v200 w42 ho hb hg hat; rw [← Ny199.out] at ho; have n_ := And.intro (Aside0.mk (blk_grown (g := gb190) (o := .cells #[.slice A0_0 l0_0.length c0_0, .slice A0_1 l0_1.length c0_1] 30 (0, 0)) (kP BK190) hg (Kd.R_ne HO197.out BK190.out (by decide)))) (And.intro (Aside0.mk (blk_grown (g := gb191) (o := .cells #[.slice none 0 0, .slice none 0 0] 30 (0, 0)) (kP BK191) hg (Kd.R_ne HO197.out BK191.out (by decide)))) (And.intro (Aside0.mk (Kd.R_over' (rP (Kd.R_mono (Kd.R_far (p := ⟨gb198, 1, none⟩) (Kd.R_far (p := ⟨gb198, 0, none⟩) (Kd.R_types HO194.out BK198.out (by decide)) (fun _ hk => hk.2) (.slice Ao37 t192.length co37)) (fun _ hk => hk.2) (.slice Ao41 t195.length co41)) (fun _ h_ => h_.1))) (Kd.R_typed (rP (Kd.R_mono (Kd.R_far (p := ⟨gb198, 1, none⟩) (Kd.R_far (p := ⟨gb198, 0, none⟩) (Kd.R_types HO197.out BK198.out (by decide)) (fun _ hk => hk.2) (.slice Ao37 t192.length co37)) (fun _ hk => hk.2) (.slice Ao41 t195.length co41)) (fun _ h_ => h_.1)))) (by decide) hg)) (And.intro (Aside0.mk (blk_grown (g := gb198) (o := .cells #[.slice Ao37 t192.length co37, .slice Ao41 t195.length co41] 30 (0, 0)) (by (with_reducible repeat (first | refine blk_drewN ?_ _ | refine blk_drew ?_ | refine blk_alloc ?_ _)); refine blk_put (cs := #[.slice Ao37 t192.length co37, .slice none 0 0]) ?_ 1 _ rfl; (with_reducible repeat (first | refine blk_drewN ?_ _ | refine blk_drew ?_ | refine blk_alloc ?_ _)); refine blk_put (cs := #[.slice none 0 0, .slice none 0 0]) ?_ 0 _ rfl; (with_reducible repeat (first | refine blk_drewN ?_ _ | refine blk_drew ?_ | refine blk_alloc ?_ _)); exact BK198.out) hg (Kd.R_ne HO197.out BK198.out (by decide)))) (And.intro (Aside0.mk (hb)) (Aside0.mk (ho)))))); clear BK190 BK191 HO194 BK198 HB HO197; obtain ⟨BK190, BK191, HO194, BK198, HB, HO201⟩ := n_; (try clear ho hb hg hat); obtain ⟨Ao43, co43, eo43⟩ := Kd.R_slice HO201.out; subst eo43; have hcz44_0 := cZ0 BK198; have hcz44_1 := cZ1 BK198; have hfz44_0 := blk_frozen BK198.out 0; have hfz44_1 := blk_frozen BK198.out 1; have hcz45_0 := cZ0 BK190; have hcz45_1 := cZ1 BK190; have hfz45_0 := blk_frozen BK190.out 0; have hfz45_1 := blk_frozen BK190.out 1) | ((with_reducible refine gate_callee (f := 16) rfl ?_); refine gL (some 20) Try.func16 #[.agg #[.slice A0_0 l0_0.length c0_0, .slice A0_1 l0_1.length c0_1]] ?_; (with_reducible refine (spec_DiskOk.calls k _ _ l0_0 _ _ l0_1 true _ ?side1 ?side2 ?side3 ?side4 A6.out).mono ?_); (case side1 => exact cS HR0_0 HB); (case side2 => exact HC0_0.out); (case side3 => exact cS HR0_1 HB); (case side4 => exact HC0_1.out); rintro e w46 ⟨rfl, hb⟩; refine ⟨_, rfl, ?_⟩; have n_ := And.intro (Aside0.mk (Kd.R_below (rP (Kd.R_mono (Kd.R_far (p := ⟨gb198, 1, none⟩) (Kd.R_types HO194.out BK198.out (by decide)) (fun _ hk => hk.2) (.slice Ao43 y199.length co43)) (fun _ h_ => h_.1))) hb)) (And.intro (Aside0.mk (Kd.R_below (rP (Kd.R_mono (Kd.R_far (p := ⟨gb198, 1, none⟩) (Kd.R_types HO201.out BK198.out (by decide)) (fun _ hk => hk.2) (.slice Ao43 y199.length co43)) (fun _ h_ => h_.1))) hb)) (And.intro (kB BK190 hb) (And.intro (kB BK191 hb) (And.intro (Aside0.mk (blk_below (g := gb198) (o := .cells #[.slice Ao37 t192.length co37, .slice Ao43 y199.length co43] 30 (0, 0)) (by (with_reducible repeat (first | refine blk_drewN ?_ _ | refine blk_drew ?_ | refine blk_alloc ?_ _)); refine blk_put (cs := #[.slice Ao37 t192.length co37, .slice Ao41 t195.length co41]) ?_ 1 _ rfl; (with_reducible repeat (first | refine blk_drewN ?_ _ | refine blk_drew ?_ | refine blk_alloc ?_ _)); exact BK198.out) hb)) (sB HB hb))))); clear HO194 HO201 BK190 BK191 BK198 HB; obtain ⟨HO194, HO201, BK190, BK191, BK198, HB⟩ := n_; (try clear hb); have hcz47_0 := cZ0 BK198; have hcz47_1 := cZ1 BK198; have hfz47_0 := blk_frozen BK198.out 0; have hfz47_1 := blk_frozen BK198.out 1) | (go_at_call 16; (with_reducible refine (spec_DiskOk.calls k _ _ t192 _ _ y199 false _ ?side1 ?side2 ?side3 ?side4 A8.out).mono ?_); (case side1 => exact cR HO194); (case side2 => exact (Kd.R_reads' HO194.out).2.1); (case side3 => exact cR HO201); (case side4 => exact (Kd.R_reads' HO201.out).2.1); rintro e w48 ⟨rfl, hb⟩; have n_ := And.intro (rB HO194 hb) (And.intro (rB HO201 hb) (And.intro (kB BK190 hb) (And.intro (kB BK191 hb) (And.intro (kB BK198 hb) (sB HB hb))))); clear HO194 HO201 BK190 BK191 BK198 HB; obtain ⟨HO194, HO201, BK190, BK191, BK198, HB⟩ := n_; (try clear hb); have hcz49_0 := cZ0 BK190; have hcz49_1 := cZ1 BK190; have hfz49_0 := blk_frozen BK190.out 0; have hfz49_1 := blk_frozen BK190.out 1) | ((with_reducible refine gate_callee (f := 75) rfl ?_); refine gL (some 28) Try.func75 #[.agg #[.slice A0_0 l0_0.length c0_0, .slice A0_1 l0_1.length c0_1]] ?_; (with_reducible refine (spec_l3Copy.calls _ _ l0_0 _ _ l0_1 t204 t207 _ ?side1 ?side2 ?side3 ?side4 A30.out).mono ?_); (case side1 => exact cS HR0_0 HB); (case side2 => exact HC0_0.out); (case side3 => exact cS HR0_1 HB); (case side4 => exact HC0_1.out); rintro e w50 ⟨v205, v208, rfl, ho0, ho1, hb⟩; refine ⟨_, rfl, ?_⟩; have n_ := And.intro (eR HO194 ho0 hb) (And.intro (eR HO201 ho1 hb) (And.intro (Aside0.mk (Kd.R_lower (Kd.R_new' ho0 (rL HO194)) (zB HB))) (And.intro (Aside0.mk (Kd.R_lower (Kd.R_new' ho1 (rL HO201)) (zB HB))) (And.intro (kB BK190 hb) (And.intro (kB BK191 hb) (And.intro (kB BK198 hb) (sB HB hb))))))); clear HO194 HO201 BK190 BK191 BK198 HB; obtain ⟨HO194, HO201, HO206, HO209, BK190, BK191, BK198, HB⟩ := n_; (try clear hb ho0 ho1); obtain ⟨Ao51, co51, eo51⟩ := Kd.R_slice HO206.out; subst eo51; have hcz52_0 := cZ0 BK191; have hcz52_1 := cZ1 BK191; have hfz52_0 := blk_frozen BK191.out 0; have hfz52_1 := blk_frozen BK191.out 1; obtain ⟨Ao53, co53, eo53⟩ := Kd.R_slice HO209.out; subst eo53))
   refine bodyPost_ret (results_ct rfl _ _ gb191 30 #[.slice Ao51 t204.length co51, .slice Ao53 t207.length co53] (0, 0) _ rfl (by (with_reducible repeat (first | refine blk_drewN ?_ _ | refine blk_drew ?_ | refine blk_alloc ?_ _)); refine blk_put (cs := #[.slice Ao51 t204.length co51, .slice none 0 0]) ?_ 1 _ rfl; (with_reducible repeat (first | refine blk_drewN ?_ _ | refine blk_drew ?_ | refine blk_alloc ?_ _)); refine blk_put (cs := #[.slice none 0 0, .slice none 0 0]) ?_ 0 _ rfl; (with_reducible repeat (first | refine blk_drewN ?_ _ | refine blk_drew ?_ | refine blk_alloc ?_ _)); exact BK191.out) Try.underlying30 rfl (by kernel_rfl)) rfl ?_
   exact ⟨_, _, eW, by (with_reducible repeat (first | apply Kd.R_alloc | apply Kd.R_drewN | apply Kd.R_drew)); exact Kd.R_mono (Kd.R_far (p := ⟨gb191, 1, none⟩) (Kd.R_far (p := ⟨gb191, 0, none⟩) (Kd.R_types HO206.out BK191.out (by decide)) (fun _ hk => hk.2) (.slice Ao51 t204.length co51)) (fun _ hk => hk.2) (.slice Ao53 t207.length co53)) (fun _ hk => trivial), by (with_reducible repeat (first | apply Kd.R_alloc | apply Kd.R_drewN | apply Kd.R_drew)); exact Kd.R_mono (Kd.R_far (p := ⟨gb191, 1, none⟩) (Kd.R_far (p := ⟨gb191, 0, none⟩) (Kd.R_types HO209.out BK191.out (by decide)) (fun _ hk => hk.2) (.slice Ao51 t204.length co51)) (fun _ hk => hk.2) (.slice Ao53 t207.length co53)) (fun _ hk => trivial), bB⟩
  replace c7 := Bool.eq_false_iff.mpr c7
  subst c7
  rw [if_neg (show ¬ (false = true) by decide)] at H
  replace H := Option.bind_eq_some_iff.mp H
  obtain ⟨⟨t210, t213⟩, A540, H⟩ := H
  try dsimp only at H
  have A54 := Aside0.mk A540
  clear A540
  simp only [Option.some.injEq, Prod.mk.injEq] at H
  obtain ⟨rfl, rfl, rfl⟩ := H
  go_enter Try.func28, Try.ntmps28
  go_wp2_with (first | ((with_reducible refine gate_dst (N := 3) rfl ?_); refine bE 3 #[.slice A0_0 l0_0.length c0_0, .slice A0_1 l0_1.length c0_1] 30 ?_; intro gb190 hg w55 hbox hb; have n_ := And.intro (sB HB hb) (And.intro (Aside0.mk hbox) (And.intro (gE HB hg) (gE HB hg))); clear HB; obtain ⟨HB, BK190, GW190, GE190⟩ := n_; (try clear hb hbox hg)) | ((with_reducible refine gate_dst (N := 6) rfl ?_); refine bE 6 #[.slice none 0 0, .slice none 0 0] 30 ?_; intro gb191 hg w56 hbox hb; have n_ := And.intro (kB BK190 hb) (And.intro (sB HB hb) (And.intro (Aside0.mk hbox) (And.intro (gE HB hg) (And.intro (gE HB hg) (And.intro (nL BK190 hg) (nG BK190 hg)))))); clear BK190 HB; obtain ⟨BK190, HB, BK191, GW191, GE191, NB190_191, NB191_190⟩ := n_; (try clear hb hbox hg); have hnb57 := NB190_191.out; have hnc57 := NB191_190.out; have hcz58_0 := cZ0 BK190; have hcz58_1 := cZ1 BK190; have hfz58_0 := blk_frozen BK190.out 0; have hfz58_1 := blk_frozen BK190.out 1) | ((with_reducible refine gate_callee (f := 75) rfl ?_); refine gL (some 10) Try.func75 #[.agg #[.slice A0_0 l0_0.length c0_0, .slice A0_1 l0_1.length c0_1]] ?_; (with_reducible refine (spec_l3Copy.calls _ _ l0_0 _ _ l0_1 t192 t195 _ ?side1 ?side2 ?side3 ?side4 A4.out).mono ?_); (case side1 => exact cS HR0_0 HB); (case side2 => exact HC0_0.out); (case side3 => exact cS HR0_1 HB); (case side4 => exact HC0_1.out); rintro e w59 ⟨v193, v196, rfl, ho0, ho1, hb⟩; refine ⟨_, rfl, ?_⟩; have n_ := And.intro (lR HB ho0) (And.intro (lR HB ho1) (And.intro (kB BK190 hb) (And.intro (kB BK191 hb) (sB HB hb)))); clear BK190 BK191 HB; obtain ⟨HO194, HO197, BK190, BK191, HB⟩ := n_; (try clear hb ho0 ho1)) | ((with_reducible refine gate_dst (N := 8) rfl ?_); refine bE 8 #[.slice none 0 0, .slice none 0 0] 30 ?_; intro gb198 hg w60 hbox hb; have n_ := And.intro (rB HO194 hb) (And.intro (rB HO197 hb) (And.intro (kB BK190 hb) (And.intro (kB BK191 hb) (And.intro (sB HB hb) (And.intro (Aside0.mk hbox) (And.intro (gE HB hg) (And.intro (gE HB hg) (And.intro (nL BK190 hg) (And.intro (nG BK190 hg) (And.intro (nL BK191 hg) (nG BK191 hg))))))))))); clear HO194 HO197 BK190 BK191 HB; obtain ⟨HO194, HO197, BK190, BK191, HB, BK198, GW198, GE198, NB190_198, NB198_190, NB191_198, NB198_191⟩ := n_; (try clear hb hbox hg); obtain ⟨Ao61, co61, eo61⟩ := Kd.R_slice HO194.out; subst eo61; have hnb62 := NB198_190.out; have hnc62 := NB190_198.out; have hnb63 := NB198_191.out; have hnc63 := NB191_198.out; have hcz64_0 := cZ0 BK198; have hcz64_1 := cZ1 BK198; have hfz64_0 := blk_frozen BK198.out 0; have hfz64_1 := blk_frozen BK198.out 1; obtain ⟨Ao65, co65, eo65⟩ := Kd.R_slice HO197.out; subst eo65) | ((with_reducible refine gate_builtin (b := .append) (xs := #[.tmp 12, .tmp 16]) rfl ?_); at_builtin; refine Kd.R_append k65 (w0 := w) w.heap.size rfl (.tmp 12) (.tmp 16) 28 65 (.agg #[(.int .i64 0), (.string ⟨#[]⟩)]) 24 rfl Try.underlying28 info65 rfl (by decide) (by omega) (.slice Ao65 t195.length co65) t195 (⟨a1, a2⟩ : S65) [.int .i64 a1, .string a2] (fun _ => True) (fun _ => False) rfl (by first | (go_simp; done) | (go_simp; rfl)) ?aP (fun _ hk => hk.elim) ?aF ?aO ?aB ?aS ?aL ?_; (case aP => exact k65_mkM _ _ _ (⟨a1, a2⟩ : S65)); (case aB => exact bB); (case aF => exact (fun _ _ => trivial)); (case aO => exact (rP (Kd.R_mono (Kd.R_far (p := ⟨gb198, 1, none⟩) (Kd.R_far (p := ⟨gb198, 0, none⟩) (Kd.R_types HO197.out BK198.out (by decide)) (fun _ hk => hk.2) (.slice Ao61 t192.length co61)) (fun _ hk => hk.2) (.slice Ao65 t195.length co65)) (fun _ hk => trivial)))); (case aS => exact (zB HB)); (case aL => have := LMc5.out; omega); intro v200 w66 ho hb hg hat; rw [← Ny199.out] at ho; have n_ := And.intro (Aside0.mk (blk_grown (g := gb190) (o := .cells #[.slice A0_0 l0_0.length c0_0, .slice A0_1 l0_1.length c0_1] 30 (0, 0)) (kP BK190) hg (Kd.R_ne HO197.out BK190.out (by decide)))) (And.intro (Aside0.mk (blk_grown (g := gb191) (o := .cells #[.slice none 0 0, .slice none 0 0] 30 (0, 0)) (kP BK191) hg (Kd.R_ne HO197.out BK191.out (by decide)))) (And.intro (Aside0.mk (Kd.R_over' (rP (Kd.R_mono (Kd.R_far (p := ⟨gb198, 1, none⟩) (Kd.R_far (p := ⟨gb198, 0, none⟩) (Kd.R_types HO194.out BK198.out (by decide)) (fun _ hk => hk.2) (.slice Ao61 t192.length co61)) (fun _ hk => hk.2) (.slice Ao65 t195.length co65)) (fun _ h_ => h_.1))) (Kd.R_typed (rP (Kd.R_mono (Kd.R_far (p := ⟨gb198, 1, none⟩) (Kd.R_far (p := ⟨gb198, 0, none⟩) (Kd.R_types HO197.out BK198.out (by decide)) (fun _ hk => hk.2) (.slice Ao61 t192.length co61)) (fun _ hk => hk.2) (.slice Ao65 t195.length co65)) (fun _ h_ => h_.1)))) (by decide) hg)) (And.intro (Aside0.mk (blk_grown (g := gb198) (o := .cells #[.slice Ao61 t192.length co61, .slice Ao65 t195.length co65] 30 (0, 0)) (by (with_reducible repeat (first | refine blk_drewN ?_ _ | refine blk_drew ?_ | refine blk_alloc ?_ _)); refine blk_put (cs := #[.slice Ao61 t192.length co61, .slice none 0 0]) ?_ 1 _ rfl; (with_reducible repeat (first | refine blk_drewN ?_ _ | refine blk_drew ?_ | refine blk_alloc ?_ _)); refine blk_put (cs := #[.slice none 0 0, .slice none 0 0]) ?_ 0 _ rfl; (with_reducible repeat (first | refine blk_drewN ?_ _ | refine blk_drew ?_ | refine blk_alloc ?_ _)); exact BK198.out) hg (Kd.R_ne HO197.out BK198.out (by decide)))) (And.intro (Aside0.mk (hb)) (Aside0.mk (ho)))))); clear BK190 BK191 HO194 BK198 HB HO197; obtain ⟨BK190, BK191, HO194, BK198, HB, HO201⟩ := n_; (try clear ho hb hg hat); obtain ⟨Ao67, co67, eo67⟩ := Kd.R_slice HO201.out; subst eo67; have hcz68_0 := cZ0 BK198; have hcz68_1 := cZ1 BK198; have hfz68_0 := blk_frozen BK198.out 0; have hfz68_1 := blk_frozen BK198.out 1; have hcz69_0 := cZ0 BK190; have hcz69_1 := cZ1 BK190; have hfz69_0 := blk_frozen BK190.out 0; have hfz69_1 := blk_frozen BK190.out 1) | ((with_reducible refine gate_callee (f := 16) rfl ?_); refine gL (some 20) Try.func16 #[.agg #[.slice A0_0 l0_0.length c0_0, .slice A0_1 l0_1.length c0_1]] ?_; (with_reducible refine (spec_DiskOk.calls k _ _ l0_0 _ _ l0_1 false _ ?side1 ?side2 ?side3 ?side4 A6.out).mono ?_); (case side1 => exact cS HR0_0 HB); (case side2 => exact HC0_0.out); (case side3 => exact cS HR0_1 HB); (case side4 => exact HC0_1.out); rintro e w70 ⟨rfl, hb⟩; refine ⟨_, rfl, ?_⟩; have n_ := And.intro (Aside0.mk (Kd.R_below (rP (Kd.R_mono (Kd.R_far (p := ⟨gb198, 1, none⟩) (Kd.R_types HO194.out BK198.out (by decide)) (fun _ hk => hk.2) (.slice Ao67 y199.length co67)) (fun _ h_ => h_.1))) hb)) (And.intro (Aside0.mk (Kd.R_below (rP (Kd.R_mono (Kd.R_far (p := ⟨gb198, 1, none⟩) (Kd.R_types HO201.out BK198.out (by decide)) (fun _ hk => hk.2) (.slice Ao67 y199.length co67)) (fun _ h_ => h_.1))) hb)) (And.intro (kB BK190 hb) (And.intro (kB BK191 hb) (And.intro (Aside0.mk (blk_below (g := gb198) (o := .cells #[.slice Ao61 t192.length co61, .slice Ao67 y199.length co67] 30 (0, 0)) (by (with_reducible repeat (first | refine blk_drewN ?_ _ | refine blk_drew ?_ | refine blk_alloc ?_ _)); refine blk_put (cs := #[.slice Ao61 t192.length co61, .slice Ao65 t195.length co65]) ?_ 1 _ rfl; (with_reducible repeat (first | refine blk_drewN ?_ _ | refine blk_drew ?_ | refine blk_alloc ?_ _)); exact BK198.out) hb)) (sB HB hb))))); clear HO194 HO201 BK190 BK191 BK198 HB; obtain ⟨HO194, HO201, BK190, BK191, BK198, HB⟩ := n_; (try clear hb); have hcz71_0 := cZ0 BK190; have hcz71_1 := cZ1 BK190; have hfz71_0 := blk_frozen BK190.out 0; have hfz71_1 := blk_frozen BK190.out 1) | ((with_reducible refine gate_callee (f := 75) rfl ?_); refine gL (some 28) Try.func75 #[.agg #[.slice A0_0 l0_0.length c0_0, .slice A0_1 l0_1.length c0_1]] ?_; (with_reducible refine (spec_l3Copy.calls _ _ l0_0 _ _ l0_1 t210 t213 _ ?side1 ?side2 ?side3 ?side4 A54.out).mono ?_); (case side1 => exact cS HR0_0 HB); (case side2 => exact HC0_0.out); (case side3 => exact cS HR0_1 HB); (case side4 => exact HC0_1.out); rintro e w72 ⟨v211, v214, rfl, ho0, ho1, hb⟩; refine ⟨_, rfl, ?_⟩; have n_ := And.intro (eR HO194 ho0 hb) (And.intro (eR HO201 ho1 hb) (And.intro (Aside0.mk (Kd.R_lower (Kd.R_new' ho0 (rL HO194)) (zB HB))) (And.intro (Aside0.mk (Kd.R_lower (Kd.R_new' ho1 (rL HO201)) (zB HB))) (And.intro (kB BK190 hb) (And.intro (kB BK191 hb) (And.intro (kB BK198 hb) (sB HB hb))))))); clear HO194 HO201 BK190 BK191 BK198 HB; obtain ⟨HO194, HO201, HO212, HO215, BK190, BK191, BK198, HB⟩ := n_; (try clear hb ho0 ho1); obtain ⟨Ao73, co73, eo73⟩ := Kd.R_slice HO212.out; subst eo73; have hcz74_0 := cZ0 BK191; have hcz74_1 := cZ1 BK191; have hfz74_0 := blk_frozen BK191.out 0; have hfz74_1 := blk_frozen BK191.out 1; obtain ⟨Ao75, co75, eo75⟩ := Kd.R_slice HO215.out; subst eo75))
  refine bodyPost_ret (results_ct rfl _ _ gb191 30 #[.slice Ao73 t210.length co73, .slice Ao75 t213.length co75] (0, 0) _ rfl (by (with_reducible repeat (first | refine blk_drewN ?_ _ | refine blk_drew ?_ | refine blk_alloc ?_ _)); refine blk_put (cs := #[.slice Ao73 t210.length co73, .slice none 0 0]) ?_ 1 _ rfl; (with_reducible repeat (first | refine blk_drewN ?_ _ | refine blk_drew ?_ | refine blk_alloc ?_ _)); refine blk_put (cs := #[.slice none 0 0, .slice none 0 0]) ?_ 0 _ rfl; (with_reducible repeat (first | refine blk_drewN ?_ _ | refine blk_drew ?_ | refine blk_alloc ?_ _)); exact BK191.out) Try.underlying30 rfl (by kernel_rfl)) rfl ?_
  exact ⟨_, _, eW, by (with_reducible repeat (first | apply Kd.R_alloc | apply Kd.R_drewN | apply Kd.R_drew)); exact Kd.R_mono (Kd.R_far (p := ⟨gb191, 1, none⟩) (Kd.R_far (p := ⟨gb191, 0, none⟩) (Kd.R_types HO212.out BK191.out (by decide)) (fun _ hk => hk.2) (.slice Ao73 t210.length co73)) (fun _ hk => hk.2) (.slice Ao75 t213.length co75)) (fun _ hk => trivial), by (with_reducible repeat (first | apply Kd.R_alloc | apply Kd.R_drewN | apply Kd.R_drew)); exact Kd.R_mono (Kd.R_far (p := ⟨gb191, 1, none⟩) (Kd.R_far (p := ⟨gb191, 0, none⟩) (Kd.R_types HO215.out BK191.out (by decide)) (fun _ hk => hk.2) (.slice Ao73 t210.length co73)) (fun _ hk => hk.2) (.slice Ao75 t213.length co75)) (fun _ hk => trivial), bB⟩
 rw [if_neg c5] at H
 exact absurd H (by simp)

end Go.Proofs.Ytgmpdkefegofhaa.PFnExactEventsDo
