-- Written by xprint.py, a program of this session over the kit's print. Not trusted: Lean checks it.
import Derived.Test.YtgmpdkefegofhaaPFnExactRecoverx0
import Derived.Test.YtgmpdkefegofhaaPFnExactRecoverx4
import Derived.Test.YtgmpdkefegofhaaPFnExactRecoverx5
import Derived.Test.YtgmpdkefegofhaaPFnExactRecoverx6
namespace Go.Proofs.Ytgmpdkefegofhaa.PFnExactRecover
open Go.RowKit Go.Proofs.YtgmpdkefegofhaaW.PrintWords Go.Proofs.YtgmpdkefegofhaaW.PrintLast Go.Proofs.YtgmpdkefegofhaaW.PrintMore
attribute [local go_sem] max2_int min2_int max_two min_two max_three min_three max_four min_four   -- for this text's walks alone
set_option linter.unusedVariables false
set_option linter.unusedSimpArgs false

/-! ### spec_Crc: function 115 -/
mutual
def spec_Crc.l0 : Nat → List Int → Int → Int → Option (Int)
 | 0, _, _, _ => none
 | k + 1, x0, x3, x4 => if x4 < (x0.length : Int) then (if 0 ≤ x4 then (spec_Crc.l1 k x0 (Go.bits .xor .i64 x3 (wrap64 (rd x0 x4))) x4 0) else (none)) else (some (Go.bits .xor .i64 x3 4294967295))
def spec_Crc.l1 : Nat → List Int → Int → Int → Int → Option (Int)
 | 0, _, _, _, _ => none
 | k + 1, x0, x3, x4, x5 => if x5 < 8 then (if (Int.tmod x3 2) = 1 then (spec_Crc.l1 k x0 (Go.bits .xor .i64 (wrap64 (Int.tdiv x3 2)) 3988292384) x4 (wrap64 (x5 + 1))) else (spec_Crc.l1 k x0 (wrap64 (Int.tdiv x3 2)) x4 (wrap64 (x5 + 1)))) else (spec_Crc.l0 k x0 x3 (wrap64 (x4 + 1)))
end
def spec_Crc.f (k : Nat) (l0 : List Int) : Option (Int) := spec_Crc.l0 k l0 4294967295 0
theorem spec_Crc.mono_l : ∀ k, (∀ y0 y1 y2, LeO (spec_Crc.l0 k y0 y1 y2) (spec_Crc.l0 (k + 1) y0 y1 y2)) ∧ (∀ y0 y1 y2 y3, LeO (spec_Crc.l1 k y0 y1 y2 y3) (spec_Crc.l1 (k + 1) y0 y1 y2 y3))
 | 0 => ⟨fun _ _ _ r h => by simp [spec_Crc.l0] at h, fun _ _ _ _ r h => by simp [spec_Crc.l1] at h⟩
 | k + 1 => by
  obtain ⟨ih0, ih1⟩ := spec_Crc.mono_l k
  refine ⟨?_, ?_⟩
  ·intro y0 y1 y2
   unfold spec_Crc.l0
   exact mM
  ·intro y0 y1 y2 y3
   unfold spec_Crc.l1
   exact mM
theorem spec_Crc.mono : ∀ a0 k, LeO (spec_Crc.f k a0) (spec_Crc.f (k + 1) a0) := by
 intro a0 k
 obtain ⟨ih0, ih1⟩ := spec_Crc.mono_l k
 unfold spec_Crc.f
 exact mM
set_option maxHeartbeats 8000000 in
set_option maxRecDepth 100000 in
theorem spec_Crc.calls (k : Nat) (A0 : Option Addr) (c0 : Nat) (l0 : List Int) (r : Int) (w : World) (hr0 : Kd.C (Kd.int .u8) w A0 l0.length l0) (hc0 : l0.length ≤ c0) (h : spec_Crc.f k l0 = some r) :
  Calls Try.prog 115 #[.slice A0 l0.length c0] w fun e w' => e = .returned (.int .i64 r) ∧ Drawn0 w w' := by
 have HR0 := Aside0.mk hr0
 have HC0 := Aside0.mk hc0
 clear hr0 hc0
 unfold spec_Crc.f at h
 have H := h
 clear h
 have H' := Aside0.mk H
 clear H
 go_enter Try.func115, Try.ntmps115
 go_wp2
 go_loopg [3, 4] k (fun kq v3 v4 w' => ∃ (x3_1 : Int) (x4_1 : Int), v3 = .int .i64 x3_1 ∧ v4 = .int .i64 x4_1 ∧ Aside0 (spec_Crc.l0 kq l0 x3_1 x4_1 = some r) ∧ Aside0 (kq ≤ k) ∧ Drawn0 w w')
 case atStart => exact ⟨(4294967295), (0), (by first | rfl | (simp; done) | (simp [*]; done) | (simp; exact (by intro l_; cases l_ <;> rfl : ∀ l_ : List UInt8, l_.isEmpty = !(l_ != [])) _)), (by first | rfl | (simp; done) | (simp [*]; done) | (simp; exact (by intro l_; cases l_ <;> rfl : ∀ l_ : List UInt8, l_.isEmpty = !(l_ != [])) _)), H', ⟨Nat.le_refl _⟩, by repeat (first | exact Drawn0.refl _ | apply Drawn0.step)⟩
 case round =>
  clear H'
  try clear c1
  obtain ⟨x3_1, x4_1, rfl, rfl, HA, HK1, ⟨m1, rfl⟩⟩ := hrel
  cases gk with
  | zero => exact absurd HA.out (by simp [spec_Crc.l0])
  | succ k1 =>
   have H := HA.out
   clear HA
   simp only [spec_Crc.l0] at H
   by_cases c2 : x4_1 < (l0.length : Int)
   ·rw [if_pos c2] at H
    have c2b0 : decide (x4_1 < (l0.length : Int)) = true := decide_eq_true c2
    clear c2
    by_cases c3 : 0 ≤ x4_1
    ·rw [if_pos c3] at H
     have c3b0 : decide (0 ≤ x4_1) = true := decide_eq_true c3
     clear c3
     have H' := Aside0.mk H
     clear H
     have p268 : 0 ≤ (x4_1 : Int) := dT
     have q268 : x4_1 < (l0.length : Int) := dT
     obtain ⟨ad268, e268, hx268_0⟩ := Kd.at_int HR0.out x4_1 p268 q268
     cases e268
     replace p268 := eq_true p268
     replace q268 := eq_true q268
     go_wp2
     go_loopg [3, 5] k1 (fun kq v3 v5 w' => ∃ (x3_2 : Int) (x5_2 : Int), v3 = .int .i64 x3_2 ∧ v5 = .int .i64 x5_2 ∧ Aside0 (spec_Crc.l1 kq l0 x3_2 x4_1 x5_2 = some r) ∧ Aside0 (kq ≤ k1) ∧ Drawn0 w w')
     case atStart => exact ⟨(Go.bits .xor .i64 x3_1 (wrap64 (rd l0 x4_1))), (0), (by first | rfl | (simp; done) | (simp [*]; done) | (simp; exact (by intro l_; cases l_ <;> rfl : ∀ l_ : List UInt8, l_.isEmpty = !(l_ != [])) _)), (by first | rfl | (simp; done) | (simp [*]; done) | (simp; exact (by intro l_; cases l_ <;> rfl : ∀ l_ : List UInt8, l_.isEmpty = !(l_ != [])) _)), H', ⟨Nat.le_refl _⟩, by repeat (first | exact Drawn0.refl _ | apply Drawn0.step)⟩
     case round =>
      clear H'
      try clear c1
      try clear c2
      try clear c2b0
      try clear p2
      try clear q2
      try clear hx2
      try clear c3
      try clear c3b0
      try clear hx268_0
      try clear p268
      try clear q268
      obtain ⟨x3_2, x5_2, rfl, rfl, HA, HK2, ⟨m2, rfl⟩⟩ := hrel
      cases gk with
      | zero => exact absurd HA.out (by simp [spec_Crc.l1])
      | succ k2 =>
       have H := HA.out
       clear HA
       simp only [spec_Crc.l1] at H
       by_cases c4 : x5_2 < 8
       ·rw [if_pos c4] at H
        have c4b0 : decide (x5_2 < 8) = true := decide_eq_true c4
        clear c4
        by_cases c5 : (Int.tmod x3_2 2) = 1
        ·rw [if_pos c5] at H
         have c5b0 : ((Int.tmod x3_2 2) == 1) = true := beq_iff_eq.mpr c5
         have c5b1 : ((Int.tmod x3_2 2) != 1) = false := bne_eq_false_iff_eq.mpr c5
         clear c5
         have H' := Aside0.mk H
         clear H
         go_wp2
         go_roundg k2
         case measure => have := HK1.out; have := HK2.out; omega
         case rel => exact ⟨(Go.bits .xor .i64 (wrap64 (Int.tdiv x3_2 2)) 3988292384), (wrap64 (x5_2 + 1)), (by first | rfl | (simp; done) | (simp [*]; done) | (simp; exact (by intro l_; cases l_ <;> rfl : ∀ l_ : List UInt8, l_.isEmpty = !(l_ != [])) _)), (by first | rfl | (simp; done) | (simp [*]; done) | (simp; exact (by intro l_; cases l_ <;> rfl : ∀ l_ : List UInt8, l_.isEmpty = !(l_ != [])) _)), H', ⟨by have := HK1.out; have := HK2.out; omega⟩, by repeat (first | exact Drawn0.refl _ | apply Drawn0.step)⟩
        ·rw [if_neg c5] at H
         have c5b0 : ((Int.tmod x3_2 2) == 1) = false := beq_eq_false_iff_ne.mpr c5
         have c5b1 : ((Int.tmod x3_2 2) != 1) = true := bne_iff_ne.mpr c5
         have H' := Aside0.mk H
         clear H
         go_wp2
         go_roundg k2
         case measure => have := HK1.out; have := HK2.out; omega
         case rel => exact ⟨(wrap64 (Int.tdiv x3_2 2)), (wrap64 (x5_2 + 1)), (by first | rfl | (simp; done) | (simp [*]; done) | (simp; exact (by intro l_; cases l_ <;> rfl : ∀ l_ : List UInt8, l_.isEmpty = !(l_ != [])) _)), (by first | rfl | (simp; done) | (simp [*]; done) | (simp; exact (by intro l_; cases l_ <;> rfl : ∀ l_ : List UInt8, l_.isEmpty = !(l_ != [])) _)), H', ⟨by have := HK1.out; have := HK2.out; omega⟩, by repeat (first | exact Drawn0.refl _ | apply Drawn0.step)⟩
       ·rw [if_neg c4] at H
        have c4b0 : decide (x5_2 < 8) = false := decide_eq_false c4
        clear c4
        have H' := Aside0.mk H
        clear H
        go_wp2
        go_roundg k2
        case measure => have := HK1.out; have := HK2.out; omega
        case rel => exact ⟨(x3_2), (wrap64 (x4_1 + 1)), (by first | rfl | (simp; done) | (simp [*]; done) | (simp; exact (by intro l_; cases l_ <;> rfl : ∀ l_ : List UInt8, l_.isEmpty = !(l_ != [])) _)), (by first | rfl | (simp; done) | (simp [*]; done) | (simp; exact (by intro l_; cases l_ <;> rfl : ∀ l_ : List UInt8, l_.isEmpty = !(l_ != [])) _)), H', ⟨by have := HK1.out; have := HK2.out; omega⟩, by repeat (first | exact Drawn0.refl _ | apply Drawn0.step)⟩
    ·rw [if_neg c3] at H
     exact absurd H (by simp)
   ·rw [if_neg c2] at H
    have c2b0 : decide (x4_1 < (l0.length : Int)) = false := decide_eq_false c2
    clear c2
    obtain rfl := Option.some.inj H
    go_wp2
    go_ret
    exact ⟨by first | rfl | (simp; done) | (simp [*]; done), by repeat (first | exact Drawn0.refl _ | apply Drawn0.step)⟩

/-! ### spec_l4Sum: function 85 -/
def spec_l4Sum.l0 : Nat → List ByteArray → List Int → Int → Option (Int)
 | 0, _, _, _ => none
 | k + 1, x0, x3, x4 => if x4 < (x0.length : Int) then (if 0 ≤ x4 then ((spec_PutText.f k (rdOf ByteArray.empty x0 x4)).bind fun t273 => (if x3.length + t273.length < 140737488355328 then (spec_l4Sum.l0 k x0 (x3 ++ t273) (wrap64 (x4 + 1))) else (none))) else (none)) else ((spec_Crc.f k x3).bind fun t279 => (some t279))
def spec_l4Sum.f (k : Nat) (l0 : List ByteArray) : Option (Int) := spec_l4Sum.l0 k l0 (([] : List Int)) 0
theorem spec_l4Sum.mono_l : ∀ k, (∀ y0 y1 y2, LeO (spec_l4Sum.l0 k y0 y1 y2) (spec_l4Sum.l0 (k + 1) y0 y1 y2))
 | 0 => fun _ _ _ r h => by simp [spec_l4Sum.l0] at h
 | k + 1 => by
  have ih0 := spec_l4Sum.mono_l k
  ·intro y0 y1 y2
   unfold spec_l4Sum.l0
   have m0_ := @spec_Crc.mono
   have m1_ := @spec_PutText.mono
   exact mM
theorem spec_l4Sum.mono : ∀ a0 k, LeO (spec_l4Sum.f k a0) (spec_l4Sum.f (k + 1) a0) := by
 intro a0 k
 have ih0 := spec_l4Sum.mono_l k
 unfold spec_l4Sum.f
 have m0_ := @spec_Crc.mono
 have m1_ := @spec_PutText.mono
 exact mM
set_option maxHeartbeats 8000000 in
set_option maxRecDepth 100000 in
theorem spec_l4Sum.calls (k : Nat) (A0 : Option Addr) (c0 : Nat) (l0 : List ByteArray) (r : Int) (w : World) (hr0 : Kd.C Kd.string w A0 l0.length l0) (hc0 : l0.length ≤ c0) (h : spec_l4Sum.f k l0 = some r) :
  Calls Try.prog 85 #[.slice A0 l0.length c0] w fun e w' => e = .returned (.int .i64 r) ∧ Below w.heap.size w w' := by
 have HR0 := Aside0.mk hr0
 have HC0 := Aside0.mk hc0
 clear hr0 hc0
 have HB := Aside0.mk (Below.refl w.heap.size w)
 unfold spec_l4Sum.f at h
 have H := h
 clear h
 obtain ⟨y269, hy269⟩ : ∃ y_ : List Int, y_ = (([] : List Int)) := ⟨_, rfl⟩
 replace H : (spec_l4Sum.l0 k l0 y269 0) = some r := by first | (rw [hy269]; with_reducible exact H) | (have H2_ := (Option.bind_some _ _).symm.trans H; rw [hy269]; with_reducible exact H2_) | (have H2_ := (Option.bind_some _ _).symm.trans H; with_reducible exact H2_) | with_reducible exact H | (rw [hy269]; exact H) | exact H
 have Ny269 := Aside0.mk hy269
 clear hy269
 have H' := Aside0.mk H
 clear H
 go_enter Try.func85, Try.ntmps85
 go_wp2_with (first | ((with_reducible refine gate_dst (N := 5) rfl ?_); refine Kd.R_lit (Kd.int .u8) _ 5 ?hg (N := 5) ?hd (xs := ([] : List Int)) (inner := []) (ok := fun _ => True) (okp := fun _ => True) ?hr ?hp (fun _ hk => hk) trivial (Below.refl _ _) (Nat.le_refl _) (by simp) ?_; (case hd => rfl); (case hg => rfl); (case hr => first | (go_simp; done) | (go_simp; rfl)); (case hp => exact (Reps.none _ _)); intro v270 w2 ho3 hb hg_ hnew_; clear hg_ hnew_; (first | rw [← Ny269.out] at ho3 | (simp only [Int.reduceToNat] at ho3; rw [← Ny269.out] at ho3)); have n_ := And.intro (lR HB ho3) (sB HB hb); clear HB; obtain ⟨HO271, HB⟩ := n_; (try clear hb ho3)))
 go_loopg [3, 4] k (fun kq v3 v4 w' => ∃ (x3_1 : List Int) (x4_1 : Int), v4 = .int .i64 x4_1 ∧ Aside0 (spec_l4Sum.l0 kq l0 x3_1 x4_1 = some r) ∧ Aside0 (kq ≤ k) ∧ Aside0 (Kd.R (Kd.int .u8) 5 w' w.heap.size (fun _ => True) v3 x3_1) ∧ Aside0 (Below w.heap.size w w'))
 case atStart => exact ⟨(y269), (0), (by first | rfl | (simp; done) | (simp [*]; done) | (simp; exact (by intro l_; cases l_ <;> rfl : ∀ l_ : List UInt8, l_.isEmpty = !(l_ != [])) _)), H', ⟨Nat.le_refl _⟩, ⟨rP HO271.out⟩, ⟨bB⟩⟩
 case round =>
  clear H'
  try clear p2
  obtain ⟨x3_1, x4_1, rfl, HA, HK1, HO_3, HB⟩ := hrel
  cases gk with
  | zero => exact absurd HA.out (by simp [spec_l4Sum.l0])
  | succ k1 =>
   have H := HA.out
   clear HA
   simp only [spec_l4Sum.l0] at H
   by_cases c4 : x4_1 < (l0.length : Int)
   ·rw [if_pos c4] at H
    have c4b0 : decide (x4_1 < (l0.length : Int)) = true := decide_eq_true c4
    clear c4
    by_cases c5 : 0 ≤ x4_1
    ·rw [if_pos c5] at H
     have c5b0 : decide (0 ≤ x4_1) = true := decide_eq_true c5
     clear c5
     replace H := Option.bind_eq_some_iff.mp H
     obtain ⟨t273, A60, H⟩ := H
     try dsimp only at H
     have A6 := Aside0.mk A60
     clear A60
     by_cases c7 : x3_1.length + t273.length < 140737488355328
     ·rw [if_pos c7] at H
      have LMc7 := Aside0.mk c7
      clear c7
      obtain ⟨y276, hy276⟩ : ∃ y_ : List Int, y_ = (x3_1 ++ t273) := ⟨_, rfl⟩
      replace H : (spec_l4Sum.l0 k1 l0 y276 (wrap64 (x4_1 + 1))) = some r := by first | (rw [hy276]; with_reducible exact H) | (have H2_ := (Option.bind_some _ _).symm.trans H; rw [hy276]; with_reducible exact H2_) | (have H2_ := (Option.bind_some _ _).symm.trans H; with_reducible exact H2_) | with_reducible exact H | (rw [hy276]; exact H) | exact H
      have Ny276 := Aside0.mk hy276
      clear hy276
      have H' := Aside0.mk H
      clear H
      have p272 : 0 ≤ (x4_1 : Int) := dT
      have q272 : x4_1 < (l0.length : Int) := dT
      obtain ⟨ad272, e272, hx272_0⟩ := Kd.at_string HR0.out x4_1 p272 q272
      cases e272
      replace hx272_0 := (HB.out.cell (World.block_lt_of_cell? w _ hx272_0)).trans hx272_0
      replace p272 := eq_true p272
      replace q272 := eq_true q272
      go_wp2_with (first | ((with_reducible refine gate_callee (f := 114) rfl ?_); refine gL (some 17) Try.func114 #[.string (rdOf ByteArray.empty l0 x4_1)] ?_; (with_reducible refine (spec_PutText.calls k1 (rdOf ByteArray.empty l0 x4_1) t273 _ A6.out).mono ?_); rintro e w8 ⟨v274, rfl, ho0, hb⟩; refine ⟨_, rfl, ?_⟩; have n_ := And.intro (eR HO_3 ho0 hb) (And.intro (Aside0.mk (Kd.R_lower (Kd.R_new' ho0 (rL HO_3)) (zB HB))) (sB HB hb)); clear HO_3 HB; obtain ⟨HO_3, HO275, HB⟩ := n_; (try clear hb ho0); obtain ⟨Ao10, co10, eo10⟩ := Kd.R_slice HO275.out; subst eo10) | ((with_reducible refine gate_builtin (b := .append) (xs := #[.tmp 12, .tmp 17]) rfl ?_); at_builtin; refine Kd.R_append_rows (Kd.int .u8) (w0 := w) w.heap.size rfl (.tmp 12) (.tmp 17) 60 5 (.int .u8 0) 1 rfl Try.underlying60 info5 rfl (by decide) (by omega) u3 x3_1 t273 _ _ _ (fun k_ => some k_ ≠ (.slice Ao10 t273.length co10 : Value).ownBlock) (fun _ => False) rfl rfl ?aO ?aR (fun _ _ h => h) (fun _ h => h.elim) ?aF ?aB ?aS ?aL ?_; (case aR => exact cR HO275); (case aB => exact bB); (case aF => exact (fun k_ hk => Kd.fresh' (rL HO275) k_ hk)); (case aO => exact (rP (Kd.R_mono HO_3.out (fun _ hk => hk.2)))); (case aS => exact (zB HB)); (case aL => have := LMc7.out; omega); intro v277 w9 ho hb hg hat; rw [← Ny276.out] at ho; have n_ := And.intro (Aside0.mk (Kd.R_after (ok := (fun _ => True)) (rP HO275.out) hg hat)) (And.intro (Aside0.mk (hb)) (Aside0.mk (ho))); clear HO275 HB HO_3; obtain ⟨HO275, HB, HO278⟩ := n_; (try clear ho hb hg hat)))
      go_roundg k1
      case measure => have := HK1.out; omega
      case rel => exact ⟨(y276), (wrap64 (x4_1 + 1)), (by first | rfl | (simp; done) | (simp [*]; done) | (simp; exact (by intro l_; cases l_ <;> rfl : ∀ l_ : List UInt8, l_.isEmpty = !(l_ != [])) _)), H', ⟨by have := HK1.out; omega⟩, ⟨rP (Kd.R_mono HO278.out (fun _ hk => trivial))⟩, ⟨bB⟩⟩
     ·rw [if_neg c7] at H
      exact absurd H (by simp)
    ·rw [if_neg c5] at H
     exact absurd H (by simp)
   ·rw [if_neg c4] at H
    have c4b0 : decide (x4_1 < (l0.length : Int)) = false := decide_eq_false c4
    clear c4
    replace H := Option.bind_eq_some_iff.mp H
    obtain ⟨t279, A110, H⟩ := H
    try dsimp only at H
    have A11 := Aside0.mk A110
    clear A110
    obtain rfl := Option.some.inj H
    obtain ⟨Ao12, co12, eo12⟩ := Kd.R_slice HO_3.out
    subst eo12
    go_wp2_with (first | ((with_reducible refine gate_callee (f := 115) rfl ?_); refine gL (some 20) Try.func115 #[.slice Ao12 x3_1.length co12] ?_; (with_reducible refine (spec_Crc.calls k1 _ _ x3_1 t279 _ ?side1 ?side2 A11.out).mono ?_); (case side1 => exact cR HO_3); (case side2 => exact (Kd.R_reads' HO_3.out).2.1); rintro e w' ⟨rfl, ⟨nd, rfl⟩⟩; refine ⟨_, rfl, ?_⟩))
    go_ret
    exact ⟨eW, bB⟩

/-! ### spec_Recover: function 44 -/
mutual
def spec_Recover.j0 : Nat → Int → List Int → Bool → List ByteArray → List (S65) → Option (List ByteArray × (List (S65)))
 | 0, _, _, _, _, _ => none
 | k + 1, x1, x6, x39, x296000, x296001 => if x39 = true then (spec_Recover.l0 k x1 x6 0 x296000 x296001) else (if 0 < (x296000.length : Int) then (some ((x296000.set (0 : Int).toNat (⟨#[]⟩ : ByteArray)), x296001)) else (none))
def spec_Recover.l0 : Nat → Int → List Int → Int → List ByteArray → List (S65) → Option (List ByteArray × (List (S65)))
 | 0, _, _, _, _, _ => none
 | k + 1, x1, x6, x9, x296000, x296001 => if x9 < (x6.length : Int) then (if 0 ≤ x9 then (if 0 ≤ (wrap64 (1 + x9)) then (if (wrap64 (1 + x9)) < (x296000.length : Int) then (if 0 ≤ (wrap64 ((wrap64 (x1 + 1)) + (rd x6 x9))) then (if (wrap64 ((wrap64 (x1 + 1)) + (rd x6 x9))) < (x296000.length : Int) then (spec_Recover.l0 k x1 x6 (wrap64 (x9 + 1)) (x296000.set ((wrap64 ((wrap64 (x1 + 1)) + (rd x6 x9))) : Int).toNat (rdOf ByteArray.empty x296000 (wrap64 (1 + x9)))) x296001) else (none)) else (none)) else (none)) else (none)) else (none)) else (if 0 < (x296000.length : Int) then (some ((x296000.set (0 : Int).toNat (⟨#[]⟩ : ByteArray)), x296001)) else (none))
end
def spec_Recover.f (k : Nat) (l0_0 : List ByteArray) (l0_1 : List (S65)) (a1 : Int) : Option (List ByteArray × (List (S65))) := (spec_l4Ok.f k l0_0 l0_1 a1).bind fun t282 => (if t282 = true then ((spec_Fall.f k l0_0 l0_1 ([] : List Bool)).bind fun bt289 => (if 0 < (bt289.1.length : Int) then ((spec_HeadOf.f k (rdOf ByteArray.empty bt289.1 0) a1).bind fun bt297 => (if bt297.2.2 = true then (if 1 ≤ (wrap64 (1 + (bt297.1.length : Int))) then (if (wrap64 (1 + (bt297.1.length : Int))) ≤ (bt289.1.length : Int) then ((spec_l4Sum.f k ((bt289.1.take ((wrap64 (1 + (bt297.1.length : Int))) : Int).toNat).drop 1)).bind fun t306 => (spec_Recover.j0 k a1 bt297.1 (t306 == bt297.2.1) bt289.1 bt289.2)) else (none)) else (none)) else (spec_Recover.j0 k a1 bt297.1 false bt289.1 bt289.2))) else (none))) else ((spec_l3Copy.f l0_0 l0_1).bind fun bt283 => (some (bt283.1, bt283.2))))
theorem spec_Recover.mono_l : ∀ k, (∀ y0 y1 y2 y3 y4, LeO (spec_Recover.j0 k y0 y1 y2 y3 y4) (spec_Recover.j0 (k + 1) y0 y1 y2 y3 y4)) ∧ (∀ y0 y1 y2 y3 y4, LeO (spec_Recover.l0 k y0 y1 y2 y3 y4) (spec_Recover.l0 (k + 1) y0 y1 y2 y3 y4))
 | 0 => ⟨fun _ _ _ _ _ r h => by simp [spec_Recover.j0] at h, fun _ _ _ _ _ r h => by simp [spec_Recover.l0] at h⟩
 | k + 1 => by
  obtain ⟨ih0, ih1⟩ := spec_Recover.mono_l k
  refine ⟨?_, ?_⟩
  ·intro y0 y1 y2 y3 y4
   unfold spec_Recover.j0
   have m0_ := @spec_Fall.mono
   have m1_ := @spec_HeadOf.mono
   have m2_ := @spec_l4Ok.mono
   have m3_ := @spec_l4Sum.mono
   exact mM
  ·intro y0 y1 y2 y3 y4
   unfold spec_Recover.l0
   have m0_ := @spec_Fall.mono
   have m1_ := @spec_HeadOf.mono
   have m2_ := @spec_l4Ok.mono
   have m3_ := @spec_l4Sum.mono
   exact mM
theorem spec_Recover.mono : ∀ a0 a1 a2 k, LeO (spec_Recover.f k a0 a1 a2) (spec_Recover.f (k + 1) a0 a1 a2) := by
 intro a0 a1 a2 k
 obtain ⟨ih0, ih1⟩ := spec_Recover.mono_l k
 unfold spec_Recover.f
 have m0_ := @spec_Fall.mono
 have m1_ := @spec_HeadOf.mono
 have m2_ := @spec_l4Ok.mono
 have m3_ := @spec_l4Sum.mono
 exact mM
def spec_Recover.T9 : Bool × List (List Nat × List Nat) := (true, [([], []), ([0], [0]), ([], []), ([2], [2]), ([], []), ([], []), ([4, 5], [4, 5]), ([6], [6]), ([3, 7], [3, 7]), ([], []), ([9], [9]), ([], []), ([11], [11]), ([10, 12], [10, 12]), ([13], [13]), ([1, 8, 0, 1, 2, 3, 4, 5, 6, 7, 8, 9, 10, 11, 12, 13, 14], [1, 8]), ([15, 14, 0, 1, 2, 3, 4, 5, 6, 7, 8, 9, 10, 11, 12, 13, 14], [14, 15])])
def spec_Recover.B9 : List Nat := [0, 1, 0, 4, 0, 0, 48, 112, 252, 0, 512, 0, 2048, 7680, 15872, 32767, 65535]
theorem spec_Recover.tab9 : rtab .any (opsOf Try.f44 9) = spec_Recover.T9 := by kernel_rfl
theorem spec_Recover.bits9 : waitsOk spec_Recover.T9.2 spec_Recover.B9 = true := by kernel_rfl
set_option maxHeartbeats 8000000 in
set_option maxRecDepth 100000 in
theorem spec_Recover.calls (k : Nat) (A0_0 : Option Addr) (c0_0 : Nat) (l0_0 : List ByteArray) (A0_1 : Option Addr) (c0_1 : Nat) (l0_1 : List (S65)) (a1 : Int) (r1 : List ByteArray) (r2 : List (S65)) (w : World) (hr0_0 : Kd.C Kd.string w A0_0 l0_0.length l0_0) (hc0_0 : l0_0.length ≤ c0_0) (hr0_1 : Kd.C k65 w A0_1 l0_1.length l0_1) (hc0_1 : l0_1.length ≤ c0_1) (h : spec_Recover.f k l0_0 l0_1 a1 = some (r1, r2)) :
  Calls Try.prog 44 #[.agg #[.slice A0_0 l0_0.length c0_0, .slice A0_1 l0_1.length c0_1], .int .i64 a1] w fun e w' => ∃ v0_ v1_ : Value, e = .returned (.agg #[v0_, v1_]) ∧ Kd.R Kd.string 9 w' w.heap.size (fun _ => True) v0_ r1 ∧ Kd.R k65 65 w' w.heap.size (fun _ => True) v1_ r2 ∧ Below w.heap.size w w' := by
 have hu30 := Try.underlying30
 have HR0_0 := Aside0.mk hr0_0
 have HC0_0 := Aside0.mk hc0_0
 clear hr0_0 hc0_0
 have HR0_1 := Aside0.mk hr0_1
 have HC0_1 := Aside0.mk hc0_1
 clear hr0_1 hc0_1
 have HB := Aside0.mk (Below.refl w.heap.size w)
 unfold spec_Recover.f at h
 have H := h
 clear h
 replace H := Option.bind_eq_some_iff.mp H
 obtain ⟨t282, A30, H⟩ := H
 try dsimp only at H
 have A3 := Aside0.mk A30
 clear A30
 by_cases c4 : t282 = true
 ·subst c4
  rw [if_pos rfl] at H
  replace H := Option.bind_eq_some_iff.mp H
  obtain ⟨⟨t289, t292⟩, A50, H⟩ := H
  try dsimp only at H
  have A5 := Aside0.mk A50
  clear A50
  by_cases c6 : 0 < (t289.length : Int)
  ·rw [if_pos c6] at H
   have c6b0 : decide (0 < (t289.length : Int)) = true := decide_eq_true c6
   have c6b1 : decide (0 < t289.length) = true := decide_eq_true (by omega)
   clear c6
   replace H := Option.bind_eq_some_iff.mp H
   obtain ⟨⟨t297, t298, t299⟩, A70, H⟩ := H
   try dsimp only at H
   have A7 := Aside0.mk A70
   clear A70
   have HC8 := Aside0.mk H
   clear H
   go_enter Try.func44, Try.ntmps44
   go_upto_region 5 with (first | ((with_reducible refine gate_dst (N := 2) rfl ?_); (try (refine gate_guard (by rfl) ?_; dsimp only)); refine box_event ?hg (N := 2) ?hd (cs := #[.slice A0_0 l0_0.length c0_0, .slice A0_1 l0_1.length c0_1]) (t := 30) ?hr ?_; (case hd => rfl); (case hg => rfl); (case hr => first | (go_simp; done) | (go_simp; rfl)); intro gb280 hg w9 hbox hb; have n_ := And.intro (sB HB hb) (And.intro (Aside0.mk hbox) (And.intro (gE HB hg) (gE HB hg))); clear HB; obtain ⟨HB, BK280, GW280, GE280⟩ := n_; (try clear hb hbox hg)) | ((with_reducible refine gate_dst (N := 4) rfl ?_); (try (refine gate_guard (by rfl) ?_; dsimp only)); refine box_event ?hg (N := 4) ?hd (cs := #[.slice none 0 0, .slice none 0 0]) (t := 30) ?hr ?_; (case hd => rfl); (case hg => rfl); (case hr => first | (go_simp; done) | (go_simp; rfl)); intro gb281 hg w10 hbox hb; have n_ := And.intro (kB BK280 hb) (And.intro (sB HB hb) (And.intro (Aside0.mk hbox) (And.intro (gE HB hg) (And.intro (gE HB hg) (And.intro (nL BK280 hg) (nG BK280 hg)))))); clear BK280 HB; obtain ⟨BK280, HB, BK281, GW281, GE281, NB280_281, NB281_280⟩ := n_; (try clear hb hbox hg); have hnb11 := NB280_281.out; have hnc11 := NB281_280.out; have hcz12_0 := cZ0 BK280; have hcz12_1 := cZ1 BK280; have hfz12_0 := blk_frozen BK280.out 0; have hfz12_1 := blk_frozen BK280.out 1) | ((with_reducible refine gate_callee (f := 70) rfl ?_); refine gL (some 12) Try.func70 #[.agg #[.slice A0_0 l0_0.length c0_0, .slice A0_1 l0_1.length c0_1], .int .i64 a1] ?_; (with_reducible refine (spec_l4Ok.calls k _ _ l0_0 _ _ l0_1 a1 true _ ?side1 ?side2 ?side3 ?side4 A3.out).mono ?_); (case side1 => exact cS HR0_0 HB); (case side2 => exact HC0_0.out); (case side3 => exact cS HR0_1 HB); (case side4 => exact HC0_1.out); rintro e w13 ⟨rfl, hb⟩; refine ⟨_, rfl, ?_⟩; have n_ := And.intro (kB BK280 hb) (And.intro (kB BK281 hb) (sB HB hb)); clear BK280 BK281 HB; obtain ⟨BK280, BK281, HB⟩ := n_; (try clear hb); have hcz14_0 := cZ0 BK280; have hcz14_1 := cZ1 BK280; have hfz14_0 := blk_frozen BK280.out 0; have hfz14_1 := blk_frozen BK280.out 1) | ((with_reducible refine gate_callee (f := 33) rfl ?_); refine gL (some 17) Try.func33 #[.agg #[.slice A0_0 l0_0.length c0_0, .slice A0_1 l0_1.length c0_1], .slice none 0 0] ?_; (refine (spec_Fall.calls k _ _ l0_0 _ _ l0_1 _ _ ([] : List Bool) t289 t292 _ ?side1 ?side2 ?side3 ?side4 ?side5 ?side6 A5.out).mono ?_); (case side1 => exact cS HR0_0 HB); (case side2 => exact HC0_0.out); (case side3 => exact cS HR0_1 HB); (case side4 => exact HC0_1.out); (case side5 => exact Kd.C_nil _ _); (case side6 => exact Nat.le_refl _); rintro e w15 ⟨v290, v293, rfl, ho0, ho1, hb⟩; refine ⟨_, rfl, ?_⟩; have n_ := And.intro (lR HB ho0) (And.intro (lR HB ho1) (And.intro (kB BK280 hb) (And.intro (kB BK281 hb) (sB HB hb)))); clear BK280 BK281 HB; obtain ⟨HO291, HO294, BK280, BK281, HB⟩ := n_; (try clear hb ho0 ho1)) | ((with_reducible refine gate_dst (N := 5) rfl ?_); (try (refine gate_guard (by rfl) ?_; dsimp only)); refine box_event ?hg (N := 5) ?hd (cs := #[.slice none 0 0, .slice none 0 0]) (t := 30) ?hr ?_; (case hd => rfl); (case hg => rfl); (case hr => first | (go_simp; done) | (go_simp; rfl)); intro gb295 hg w16 hbox hb; have n_ := And.intro (rB HO291 hb) (And.intro (rB HO294 hb) (And.intro (kB BK280 hb) (And.intro (kB BK281 hb) (And.intro (sB HB hb) (And.intro (Aside0.mk hbox) (And.intro (gE HB hg) (And.intro (gE HB hg) (And.intro (nL BK280 hg) (And.intro (nG BK280 hg) (And.intro (nL BK281 hg) (nG BK281 hg))))))))))); clear HO291 HO294 BK280 BK281 HB; obtain ⟨HO291, HO294, BK280, BK281, HB, BK295, GW295, GE295, NB280_295, NB295_280, NB281_295, NB295_281⟩ := n_; (try clear hb hbox hg); obtain ⟨Ao17, co17, eo17⟩ := Kd.R_slice HO291.out; subst eo17; have hnb18 := NB295_280.out; have hnc18 := NB280_295.out; have hnb19 := NB295_281.out; have hnc19 := NB281_295.out; have hcz20_0 := cZ0 BK295; have hcz20_1 := cZ1 BK295; have hfz20_0 := blk_frozen BK295.out 0; have hfz20_1 := blk_frozen BK295.out 1; obtain ⟨Ao21, co21, eo21⟩ := Kd.R_slice HO294.out; subst eo21; have p296 : 0 ≤ (0 : Int) := (by omega); have q296 : 0 < (t289.length : Int) := dT; obtain ⟨ad296, e296, hx296_0⟩ := Kd.at_string (Kd.R_reads' HO291.out).2.2 0 p296 q296; cases e296; have qi296 : (0 < t289.length) = True := eq_true (by omega); (try rw [show ((0 : Int)).toNat = 0 from rfl] at hx296_0); (try rw [Addr.add_zero'] at hx296_0); have hn296_0 : ad296.block ≠ gb295 := Kd.own_blk (Kd.R_ne HO291.out BK295.out (by decide)); have hn296_1 : ad296.block ≠ gb295 := Kd.own_blk (Kd.R_ne HO291.out BK295.out (by decide)); replace hx296_0 := (cell_far (p := ⟨gb295, 0, none⟩) (by first | (rw [add_block]; exact hn296_0) | (show (Addr.add _ _).block ≠ _; rw [add_block]; exact hn296_0) | exact hn296_0) (.slice (some ad296) t289.length co17)).trans hx296_0; replace hx296_0 := (cell_far (p := ⟨gb295, 1, none⟩) (by first | (rw [add_block]; exact hn296_1) | (show (Addr.add _ _).block ≠ _; rw [add_block]; exact hn296_1) | exact hn296_1) (.slice Ao21 t292.length co21)).trans hx296_0; clear hn296_0; clear hn296_1; replace p296 := eq_true p296; replace q296 := eq_true q296) | ((with_reducible refine gate_callee (f := 84) rfl ?_); refine gL (some 24) Try.func84 #[.string (rdOf ByteArray.empty t289 0), .int .i64 a1] ?_; (with_reducible refine (spec_HeadOf.calls k (rdOf ByteArray.empty t289 0) a1 t297 t298 t299 _ A7.out).mono ?_); rintro e w22 ⟨v300, rfl, ho0, hb⟩; refine ⟨_, rfl, ?_⟩; have n_ := And.intro (Aside0.mk (Kd.R_below (rP (Kd.R_mono (Kd.R_far (p := ⟨gb295, 1, none⟩) (Kd.R_far (p := ⟨gb295, 0, none⟩) (Kd.R_types HO291.out BK295.out (by decide)) (fun _ hk => hk.2) (.slice (some ad296) t289.length co17)) (fun _ hk => hk.2) (.slice Ao21 t292.length co21)) (fun _ h_ => h_.1))) hb)) (And.intro (Aside0.mk (Kd.R_below (rP (Kd.R_mono (Kd.R_far (p := ⟨gb295, 1, none⟩) (Kd.R_far (p := ⟨gb295, 0, none⟩) (Kd.R_types HO294.out BK295.out (by decide)) (fun _ hk => hk.2) (.slice (some ad296) t289.length co17)) (fun _ hk => hk.2) (.slice Ao21 t292.length co21)) (fun _ h_ => h_.1))) hb)) (And.intro (lR HB ho0) (And.intro (kB BK280 hb) (And.intro (kB BK281 hb) (And.intro (Aside0.mk (blk_below (g := gb295) (o := .cells #[.slice (some ad296) t289.length co17, .slice Ao21 t292.length co21] 30 (0, 0)) (by (with_reducible repeat (first | refine blk_drewN ?_ _ | refine blk_drew ?_ | refine blk_alloc ?_ _)); refine blk_put (cs := #[.slice (some ad296) t289.length co17, .slice none 0 0]) ?_ 1 _ rfl; (with_reducible repeat (first | refine blk_drewN ?_ _ | refine blk_drew ?_ | refine blk_alloc ?_ _)); refine blk_put (cs := #[.slice none 0 0, .slice none 0 0]) ?_ 0 _ rfl; (with_reducible repeat (first | refine blk_drewN ?_ _ | refine blk_drew ?_ | refine blk_alloc ?_ _)); exact BK295.out) hb)) (sB HB hb)))))); clear HO291 HO294 BK280 BK281 BK295 HB; obtain ⟨HO291, HO294, HO301, BK280, BK281, BK295, HB⟩ := n_; (try clear hb ho0)))
   (try simp only [Act.put, List.setIfInBounds_toArray, List.set_cons_zero, List.set_cons_succ])
   go_cut [39] (fun v39 wc => ∃ (kq : Nat) (x39_7 : Bool), v39 = .bool x39_7 ∧ Aside0 (spec_Recover.j0 kq a1 t297 x39_7 t289 t292 = some (r1, r2)) ∧ Aside0 (kq ≤ k) ∧ Aside0 (Kd.R (Kd.int .i64) 3 wc w.heap.size (fun _ => True) v300 t297) ∧ Aside0 (Kd.R Kd.string 9 wc w.heap.size (fun _ => True) (.slice (some ad296) t289.length co17) t289) ∧ Aside0 (Kd.R k65 65 wc w.heap.size (fun _ => True) (.slice Ao21 t292.length co21) t292) ∧ Aside0 (wc.heap[gb280]? = some (.cells #[(.slice A0_0 l0_0.length c0_0), (.slice A0_1 l0_1.length c0_1)] 30 (0, 0))) ∧ Aside0 (wc.heap[gb281]? = some (.cells #[(.slice none 0 0), (.slice none 0 0)] 30 (0, 0))) ∧ Aside0 (wc.heap[gb295]? = some (.cells #[(.slice (some ad296) t289.length co17), (.slice Ao21 t292.length co21)] 30 (0, 0))) ∧ Aside0 (Below w.heap.size w wc))
   case first =>
    have H := HC8.out
    clear HC8
    by_cases c23 : t299 = true
    ·subst c23
     rw [if_pos rfl] at H
     by_cases c24 : 1 ≤ (wrap64 (1 + (t297.length : Int)))
     ·rw [if_pos c24] at H
      have c24b0 := eq_true c24
      have c24b1 : decide (1 ≤ (wrap64 (1 + (t297.length : Int)))) = true := decide_eq_true c24
      by_cases c25 : (wrap64 (1 + (t297.length : Int))) ≤ (t289.length : Int)
      ·rw [if_pos c25] at H
       have c25b0 := eq_true c25
       have c25b1 : decide ((wrap64 (1 + (t297.length : Int))) ≤ (t289.length : Int)) = true := decide_eq_true c25
       obtain ⟨y302, hy302⟩ : ∃ y_ : List ByteArray, y_ = ((t289.take ((wrap64 (1 + (t297.length : Int))) : Int).toNat).drop 1) := ⟨_, rfl⟩
       replace H : ((spec_l4Sum.f k y302).bind fun t306 => (spec_Recover.j0 k a1 t297 (t306 == t298) t289 t292)) = some (r1, r2) := by first | (rw [hy302]; with_reducible exact H) | (have H2_ := (Option.bind_some _ _).symm.trans H; rw [hy302]; with_reducible exact H2_) | (have H2_ := (Option.bind_some _ _).symm.trans H; with_reducible exact H2_) | with_reducible exact H | (rw [hy302]; exact H) | exact H
       have Ny302 := Aside0.mk hy302
       clear hy302
       replace H := Option.bind_eq_some_iff.mp H
       obtain ⟨t306, A260, H⟩ := H
       try dsimp only at H
       have A26 := Aside0.mk A260
       clear A260
       have H' := Aside0.mk H
       clear H
       have hnb27 := NB295_280.out
       have hnc27 := NB280_295.out
       have hnb28 := NB295_281.out
       have hnc28 := NB281_295.out
       have hcz29_0 := cZ0 BK295
       have hcz29_1 := cZ1 BK295
       have hfz29_0 := blk_frozen BK295.out 0
       have hfz29_1 := blk_frozen BK295.out 1
       obtain ⟨Ao30, co30, eo30⟩ := Kd.R_slice HO301.out
       subst eo30
       have q31 : ((wrap64 (1 + (t297.length : Int))) : Int) ≤ ((t289.length : Int) : Int) := dT
       obtain ⟨i031, hi031, _, hsz31, _⟩ := info_parts info9
       have hroom31 : t289.length ≤ co17 := (Kd.R_reads' HO291.out).2.1
       have hC31 : Kd.C Kd.string _ (some ad296) t289.length t289 := (Kd.R_reads' HO291.out).2.2
       have ql31 : (1 : Int) ≤ ((wrap64 (1 + (t297.length : Int))) : Int) := dT
       have hcut31 := cut_mid (P := Try.prog) 22 9 .i64 .i64 Try.underlying22 hi031 1 hsz31 (some ad296) t289.length co17 1 (wrap64 (1 + (t297.length : Int))) (by omega) ql31 q31 hroom31
       have hr31 := Kd.C_mid (lo := (1 : Int).toNat) (hi := ((wrap64 (1 + (t297.length : Int))) : Int).toNat) (c := co17) hC31 (by omega) (by omega) hroom31
       obtain ⟨A31, hA31⟩ : ∃ A1, A1 = (if co17 = (1 : Int).toNat then (some ad296) else ((some ad296) : Option Addr).map (·.add ((1 : Int).toNat * 1))) := ⟨_, rfl⟩
       obtain ⟨c31, hc31⟩ : ∃ c1, c1 = co17 - (1 : Int).toNat := ⟨_, rfl⟩
       have hy31 : y302.length = ((wrap64 (1 + (t297.length : Int))) : Int).toNat - (1 : Int).toNat := (by rw [Ny302.out, List.length_drop, List.length_take]; exact congrArg (fun z_ => z_ - _) (Nat.min_eq_left (by omega)))
       rw [show ((t289).take ((wrap64 (1 + (t297.length : Int))) : Int).toNat).drop (1 : Int).toNat = y302 from Ny302.out.symm] at hr31
       replace hr31 : Kd.C Kd.string _ A31 y302.length y302 := (by rw [hA31]; exact hr31)
       rw [← hy31, ← hA31, ← hc31] at hcut31
       have HR305 := Aside0.mk hr31
       have HC305 := Aside0.mk (show y302.length ≤ c31 from by rw [hy31, hc31]; exact Nat.sub_le_sub_right (Nat.le_trans (by omega) hroom31) _)
       clear hr31 hC31 hroom31 hi031 hsz31 hc31
       have KY31 := Aside0.mk hy31
       have KA31 := Aside0.mk hA31
       clear hy31 hA31
       have KL31 := Aside0.mk (show ((wrap64 (1 + (t297.length : Int))) : Int).toNat ≤ t289.length from by omega)
       have KM31 := Aside0.mk (show 1 ≤ ((wrap64 (1 + (t297.length : Int))) : Int).toNat from by omega)
       replace q31 := eq_true q31
       go_wp2_with (first | (go_at_call 85; (with_reducible refine (spec_l4Sum.calls k _ _ y302 t306 _ ?side1 ?side2 A26.out).mono ?_); (case side1 => repeat (first | exact (by repeat (first | (with_reducible exact HR305.out) | (with_reducible refine Kd.C_alloc ?_ _) | (with_reducible refine Kd.C_drewN ?_ _) | (with_reducible refine Kd.C_drew ?_) | exact HR305.out)) | (with_reducible refine Kd.C_alloc ?_ _) | (with_reducible refine Kd.C_drewN ?_ _) | (with_reducible refine Kd.C_drew ?_))); (case side2 => exact HC305.out); rintro e w32 ⟨rfl, hb⟩; have n_ := And.intro (rB HO291 hb) (And.intro (rB HO294 hb) (And.intro (rB HO301 hb) (And.intro (kB BK280 hb) (And.intro (kB BK281 hb) (And.intro (kB BK295 hb) (And.intro (Aside0.mk (Kd.C_below (by repeat (first | (with_reducible exact HR305.out) | (with_reducible refine Kd.C_alloc ?_ _) | (with_reducible refine Kd.C_drewN ?_ _) | (with_reducible refine Kd.C_drew ?_) | exact HR305.out)) hb)) (sB HB hb))))))); clear HO291 HO294 HO301 BK280 BK281 BK295 HR305 HB; obtain ⟨HO291, HO294, HO301, BK280, BK281, BK295, HR305, HB⟩ := n_; (try clear hb)))
       go_meet
       case rel => exact ⟨_, ((t306 == t298)), (by first | rfl | (simp; done) | (simp [*]; done) | (simp; exact (by intro l_; cases l_ <;> rfl : ∀ l_ : List UInt8, l_.isEmpty = !(l_ != [])) _)), H', ⟨by first | omega | exact Nat.le_refl _⟩, ⟨rP HO301.out⟩, ⟨rP HO291.out⟩, ⟨rP HO294.out⟩, ⟨kP BK280⟩, ⟨kP BK281⟩, ⟨kP BK295⟩, ⟨bB⟩⟩
      rw [if_neg c25] at H
      exact absurd H (by simp)
     rw [if_neg c24] at H
     exact absurd H (by simp)
    replace c23 := Bool.eq_false_iff.mpr c23
    subst c23
    rw [if_neg (show ¬ (false = true) by decide)] at H
    have H' := Aside0.mk H
    clear H
    go_wp2
    go_meet
    case rel => exact ⟨_, (false), (by first | rfl | (simp; done) | (simp [*]; done) | (simp; exact (by intro l_; cases l_ <;> rfl : ∀ l_ : List UInt8, l_.isEmpty = !(l_ != [])) _)), H', ⟨by first | omega | exact Nat.le_refl _⟩, ⟨rP HO301.out⟩, ⟨rP HO291.out⟩, ⟨rP HO294.out⟩, ⟨kP BK280⟩, ⟨kP BK281⟩, ⟨kP BK295⟩, ⟨bB⟩⟩
   case rest =>
    clear HC8
    try clear c1
    try clear c2
    try clear p2
    try clear q2
    try clear hx2
    try clear qi2
    try clear c3
    try clear q3
    try clear c4
    try clear c6
    try clear c6b0
    try clear c6b1
    try clear p6
    try clear c7
    try clear c8
    try clear c11
    try clear c18
    try clear c19
    try clear c23
    try clear c24
    try clear c24b0
    try clear c24b1
    try clear c25
    try clear c25b0
    try clear c25b1
    try clear c27
    try clear c28
    try clear p29
    try clear q29
    try clear hx29
    try clear qi29
    try clear c31
    try clear q31
    try clear hcz12_0
    try clear hcz12_1
    try clear hcz14_0
    try clear hcz14_1
    try clear hcz20_0
    try clear hcz20_1
    try clear hcz29_0
    try clear hcz29_1
    try clear hfz12_0
    try clear hfz12_1
    try clear hfz14_0
    try clear hfz14_1
    try clear hfz20_0
    try clear hfz20_1
    try clear hfz29_0
    try clear hfz29_1
    try clear hx296_0
    try clear p296
    try clear q296
    try clear q31
    obtain ⟨kq, x39_7, rfl, HA, HJ7, HO_6, HO_296000, HO_296001, BK280, BK281, BK295, HB⟩ := hcut
    cases kq with
    | zero => exact absurd HA.out (by simp [spec_Recover.j0])
    | succ kj7 =>
     have H := HA.out
     clear HA
     simp only [spec_Recover.j0] at H
     by_cases c33 : x39_7 = true
     ·subst c33
      rw [if_pos rfl] at H
      have H' := Aside0.mk H
      clear H
      go_wp2
      go_loopg [9] kj7 (fun kq v9 w' => ∃ (x9_2 : Int) (x296000_2 : List ByteArray) (u296000 : Value), v9 = .int .i64 x9_2 ∧ Aside0 (spec_Recover.l0 kq a1 t297 x9_2 x296000_2 t292 = some (r1, r2)) ∧ Aside0 (kq ≤ kj7) ∧ Aside0 (Kd.R (Kd.int .i64) 3 w' w.heap.size (fun _ => True) v300 t297) ∧ Aside0 (Kd.R Kd.string 9 w' w.heap.size (fun _ => True) u296000 x296000_2) ∧ Aside0 (Kd.R k65 65 w' w.heap.size (fun _ => True) (.slice Ao21 t292.length co21) t292) ∧ Aside0 (w'.heap[gb280]? = some (.cells #[(.slice A0_0 l0_0.length c0_0), (.slice A0_1 l0_1.length c0_1)] 30 (0, 0))) ∧ Aside0 (w'.heap[gb281]? = some (.cells #[(.slice none 0 0), (.slice none 0 0)] 30 (0, 0))) ∧ Aside0 (w'.heap[gb295]? = some (.cells #[u296000, (.slice Ao21 t292.length co21)] 30 (0, 0))) ∧ Aside0 (Below w.heap.size w w'))
      case atStart => exact ⟨(0), (t289), (.slice (some ad296) t289.length co17), (by first | rfl | (simp; done) | (simp [*]; done) | (simp; exact (by intro l_; cases l_ <;> rfl : ∀ l_ : List UInt8, l_.isEmpty = !(l_ != [])) _)), H', ⟨Nat.le_refl _⟩, ⟨rP HO_6.out⟩, ⟨rP HO_296000.out⟩, ⟨rP HO_296001.out⟩, ⟨kP BK280⟩, ⟨kP BK281⟩, ⟨kP BK295⟩, ⟨bB⟩⟩
      case round =>
       clear H'
       try clear c1
       try clear c2
       try clear p2
       try clear q2
       try clear hx2
       try clear qi2
       try clear c3
       try clear q3
       try clear c4
       try clear c6
       try clear c6b0
       try clear c6b1
       try clear p6
       try clear c7
       try clear c8
       try clear c11
       try clear c18
       try clear c19
       try clear c23
       try clear c24
       try clear c24b0
       try clear c24b1
       try clear c25
       try clear c25b0
       try clear c25b1
       try clear c27
       try clear c28
       try clear p29
       try clear q29
       try clear hx29
       try clear qi29
       try clear c31
       try clear q31
       try clear c33
       try clear hcz12_0
       try clear hcz12_1
       try clear hcz14_0
       try clear hcz14_1
       try clear hcz20_0
       try clear hcz20_1
       try clear hcz29_0
       try clear hcz29_1
       try clear hfz12_0
       try clear hfz12_1
       try clear hfz14_0
       try clear hfz14_1
       try clear hfz20_0
       try clear hfz20_1
       try clear hfz29_0
       try clear hfz29_1
       try clear hx296_0
       try clear p2
       try clear p29
       try clear p296
       try clear p6
       try clear q2
       try clear q29
       try clear q296
       try clear q3
       try clear q31
       obtain ⟨x9_2, x296000_2, u296000, rfl, HA, HK2, HO_6, HO_296000, HO_296001, BK280, BK281, BK295, HB⟩ := hrel
       cases gk with
       | zero => exact absurd HA.out (by simp [spec_Recover.l0])
       | succ k2 =>
        have H := HA.out
        clear HA
        simp only [spec_Recover.l0] at H
        by_cases c34 : x9_2 < (t297.length : Int)
        ·rw [if_pos c34] at H
         have c34b0 : decide (x9_2 < (t297.length : Int)) = true := decide_eq_true c34
         clear c34
         by_cases c35 : 0 ≤ x9_2
         ·rw [if_pos c35] at H
          have c35b0 : decide (0 ≤ x9_2) = true := decide_eq_true c35
          clear c35
          obtain ⟨ji36, hji36⟩ : ∃ j_ : Int, (wrap64 (1 + x9_2)) = j_ := ⟨_, rfl⟩
          replace H : (if 0 ≤ (ji36) then (if (ji36) < (x296000_2.length : Int) then (if 0 ≤ (wrap64 ((wrap64 (a1 + 1)) + (rd t297 x9_2))) then (if (wrap64 ((wrap64 (a1 + 1)) + (rd t297 x9_2))) < (x296000_2.length : Int) then (spec_Recover.l0 k2 a1 t297 (wrap64 (x9_2 + 1)) (x296000_2.set ((wrap64 ((wrap64 (a1 + 1)) + (rd t297 x9_2))) : Int).toNat (rdOf ByteArray.empty x296000_2 (ji36))) t292) else (none)) else (none)) else (none)) else (none)) = some (r1, r2) := by first | (rw [hji36] at H; exact H) | (simp only [hji36] at H ⊢; exact H)
          have hji36w : (IntKind.i64.wrap (1 + x9_2)) = ji36 := (i64_w _).trans hji36
          by_cases c37 : 0 ≤ (ji36)
          ·rw [if_pos c37] at H
           have c37b0 : decide (0 ≤ (ji36)) = true := decide_eq_true c37
           clear c37
           by_cases c38 : (ji36) < (x296000_2.length : Int)
           ·rw [if_pos c38] at H
            have c38b0 : decide ((ji36) < (x296000_2.length : Int)) = true := decide_eq_true c38
            clear c38
            obtain ⟨ji39, hji39⟩ : ∃ j_ : Int, (wrap64 ((wrap64 (a1 + 1)) + (rd t297 x9_2))) = j_ := ⟨_, rfl⟩
            replace H : (if 0 ≤ (ji39) then (if (ji39) < (x296000_2.length : Int) then (spec_Recover.l0 k2 a1 t297 (wrap64 (x9_2 + 1)) (x296000_2.set ((ji39) : Int).toNat (rdOf ByteArray.empty x296000_2 (ji36))) t292) else (none)) else (none)) = some (r1, r2) := by first | (rw [hji39] at H; exact H) | (simp only [hji39] at H ⊢; exact H)
            have hji39w : (IntKind.i64.wrap ((wrap64 (a1 + 1)) + (rd t297 x9_2))) = ji39 := (i64_w _).trans hji39
            by_cases c40 : 0 ≤ (ji39)
            ·rw [if_pos c40] at H
             have c40b0 : decide (0 ≤ (ji39)) = true := decide_eq_true c40
             clear c40
             by_cases c41 : (ji39) < (x296000_2.length : Int)
             ·rw [if_pos c41] at H
              have c41b0 : decide ((ji39) < (x296000_2.length : Int)) = true := decide_eq_true c41
              clear c41
              obtain ⟨y309, hy309⟩ : ∃ y_ : List ByteArray, y_ = (x296000_2.set ((ji39) : Int).toNat (rdOf ByteArray.empty x296000_2 (ji36))) := ⟨_, rfl⟩
              replace H : (spec_Recover.l0 k2 a1 t297 (wrap64 (x9_2 + 1)) y309 t292) = some (r1, r2) := by first | (rw [hy309]; with_reducible exact H) | (have H2_ := (Option.bind_some _ _).symm.trans H; rw [hy309]; with_reducible exact H2_) | (have H2_ := (Option.bind_some _ _).symm.trans H; with_reducible exact H2_) | with_reducible exact H | (rw [hy309]; exact H) | exact H
              have Ny309 := Aside0.mk hy309
              clear hy309
              have H' := Aside0.mk H
              clear H
              obtain ⟨Ao43, co43, eo43⟩ := Kd.R_slice HO_6.out
              subst eo43
              try go_wp2
              have n0_ := Aside0.mk (Kd.R_drew HO_6.out)
              have n1_ := Aside0.mk (Kd.R_drew HO_296000.out)
              have n2_ := Aside0.mk (Kd.R_drew HO_296001.out)
              have n3_ := Aside0.mk (blk_drew BK280.out)
              have n4_ := Aside0.mk (blk_drew BK281.out)
              have n5_ := Aside0.mk (blk_drew BK295.out)
              have n6_ := Aside0.mk (below_drew1 HB.out)
              clear HO_6
              clear HO_296000
              clear HO_296001
              clear BK280
              clear BK281
              clear BK295
              clear HB
              have HO_6 := n0_
              have HO_296000 := n1_
              have HO_296001 := n2_
              have BK280 := n3_
              have BK281 := n4_
              have BK295 := n5_
              have HB := n6_
              clear n0_ n1_ n2_ n3_ n4_ n5_ n6_
              have p307 : 0 ≤ (x9_2 : Int) := dT
              have q307 : x9_2 < (t297.length : Int) := dT
              obtain ⟨ad307, e307, hx307_0⟩ := Kd.at_int (Kd.R_reads' HO_6.out).2.2 x9_2 p307 q307
              cases e307
              replace p307 := eq_true p307
              replace q307 := eq_true q307
              obtain ⟨Ao45, co45, eo45⟩ := Kd.R_slice HO_296000.out
              (first | subst eo45 | (injection eo45 with f1_ f2_ f3_; have f4_ := f1_.symm; have f5_ := f3_.symm; clear f1_ f2_ f3_; subst f4_; subst f5_))
              have p308 : 0 ≤ ((ji36) : Int) := dT
              have q308 : (ji36) < (x296000_2.length : Int) := dT
              obtain ⟨ad308, e308, hx308_0⟩ := Kd.at_string (Kd.R_reads' HO_296000.out).2.2 (ji36) p308 q308
              cases e308
              replace p308 := eq_true p308
              replace q308 := eq_true q308
              have p42 : 0 ≤ ((ji39) : Int) := dT
              have q42 : ((ji39) : Int) < ((x296000_2.length : Int) : Int) := dT
              obtain ⟨go42, co42, eo42, gb42, gl42, cl42, HG42⟩ := Kd.R_form HO_296000.out (by omega)
              (first | cases eo42 | (injection eo42 with ea_ en_ ec_; (first | subst ea_ | (injection ea_ with ea_; subst ea_)); subst ec_; clear en_))
              have GB42 := Aside0.mk gb42
              have GG42 := Aside0.mk HG42
              clear gb42 gl42 HG42
              (first | simp only [add_plain] at hx308_0 | skip)
              obtain ⟨hx42_0, hf42_0⟩ := Kd.R_celln (⟨#[]⟩ : ByteArray) HO_296000.out ((ji39) : Int) p42 q42
              replace p42 := eq_true p42
              replace q42 := eq_true q42
              have HP46 := Kd.R_putn HO_296000.out ((ji39) : Int) (rdOf ByteArray.empty x296000_2 (ji36))
              rw [← Ny309.out] at HP46
              have HQ46 := Aside0.mk HP46
              clear HP46
              refine start_ (n := 17) (S := fun w' => w'.cell? ⟨gb295, 0, none⟩ = some (.slice (some ⟨go42, 0, none⟩) x296000_2.length co45) ∧ w'.cell? ⟨gb295, 1, none⟩ = some (.slice Ao21 t292.length co21) ∧ w'.cell? (ad307.add (x9_2).toNat) = some (.int .i64 (rd t297 x9_2)) ∧ w'.cell? ⟨go42, ((ji36)).toNat, none⟩ = some (.string (rdOf ByteArray.empty x296000_2 (ji36)))) (ds := [16]) #[false, false, false, false, false, false, false, false, false, false, false, false, false, false, false, false, false] (by kernel_rfl) rfl rfl ⟨(blk_cell BK295.out 0).trans rfl, (blk_cell BK295.out 1).trans rfl, hx307_0, hx308_0⟩ (fun hHeld => ?_); refine with_tabW spec_Recover.tab9 spec_Recover.bits9 (fun HT_ HW_ => ?_)
              generalize wr.drew = w44 at HO_6 HO_296000 HO_296001 BK280 BK281 BK295 HB GG42 HQ46 hf42_0 hx307_0 hx308_0 hx42_0 hHeld ⊢
              refine pure_ (i := 0) (N := some 46) (v := ?_) (a' := ?_) #[true, false, false, false, false, false, false, false, false, false, false, false, false, false, false, false, false] rfl rfl (any_of HT_.out (by kernel_rfl)) (fun _ _ _ h => h) (Or.inl ⟨by rfl, ?_⟩) ?_ ?_
              rotate_left
              ·intro w'
               go_simp
               with_reducible rfl
              rotate_left
              ·simp only [Act.put, List.setIfInBounds_toArray, List.set_cons_zero, List.set_cons_succ, i64_w, i32_w]
               rfl
              refine pure_ (i := 2) (N := some 48) (v := ?_) (a' := ?_) #[true, false, true, false, false, false, false, false, false, false, false, false, false, false, false, false, false] rfl rfl (any_of HT_.out (by kernel_rfl)) (fun _ _ _ h => h) (Or.inl ⟨by rfl, ?_⟩) ?_ ?_
              rotate_left
              ·intro w'
               go_simp
               with_reducible rfl
              rotate_left
              ·simp only [Act.put, List.setIfInBounds_toArray, List.set_cons_zero, List.set_cons_succ, i64_w, i32_w]
               rfl
              refine pure_ (i := 3) (N := some 49) (v := ?_) (a' := ?_) #[true, false, true, true, false, false, false, false, false, false, false, false, false, false, false, false, false] rfl rfl (any_of HT_.out (by kernel_rfl)) (fun _ _ _ h => h) (Or.inl ⟨by rfl, ?_⟩) ?_ ?_
              rotate_left
              ·intro w'
               go_simp
               with_reducible rfl
              rotate_left
              ·simp only [Act.put, List.setIfInBounds_toArray, List.set_cons_zero, List.set_cons_succ, i64_w, i32_w]
               rfl
              refine pure_ (i := 4) (N := some 50) (v := ?_) (a' := ?_) #[true, false, true, true, true, false, false, false, false, false, false, false, false, false, false, false, false] rfl rfl (any_of HT_.out (by kernel_rfl)) (fun _ _ _ h => h) (Or.inl ⟨by rfl, ?_⟩) ?_ ?_
              rotate_left
              ·intro w'
               go_simp
               with_reducible rfl
              rotate_left
              ·simp only [Act.put, List.setIfInBounds_toArray, List.set_cons_zero, List.set_cons_succ, i64_w, i32_w]
               rfl
              refine pure_ (i := 5) (N := some 51) (v := ?_) (a' := ?_) #[true, false, true, true, true, true, false, false, false, false, false, false, false, false, false, false, false] rfl rfl (any_of HT_.out (by kernel_rfl)) (fun _ _ _ h => h) (Or.inl ⟨by rfl, ?_⟩) ?_ ?_
              rotate_left
              ·intro w'
               go_simp
               with_reducible rfl
              rotate_left
              ·simp only [Act.put, List.setIfInBounds_toArray, List.set_cons_zero, List.set_cons_succ, i64_w, i32_w]
               rfl
              refine pure_ (i := 6) (N := some 52) (v := ?_) (a' := ?_) #[true, false, true, true, true, true, true, false, false, false, false, false, false, false, false, false, false] rfl rfl (any_of HT_.out (by kernel_rfl)) (fun _ _ _ h => h) (Or.inl ⟨by rfl, ?_⟩) ?_ ?_
              rotate_left
              ·intro w'
               go_simp
               with_reducible rfl
              rotate_left
              ·simp only [Act.put, List.setIfInBounds_toArray, List.set_cons_zero, List.set_cons_succ, i64_w, i32_w]
               rfl
              refine pure_ (i := 9) (N := some 55) (v := ?_) (a' := ?_) #[true, false, true, true, true, true, true, false, false, true, false, false, false, false, false, false, false] rfl rfl (any_of HT_.out (by kernel_rfl)) (fun _ _ _ h => h) (Or.inl ⟨by rfl, ?_⟩) ?_ ?_
              rotate_left
              ·intro w'
               go_simp
               with_reducible rfl
              rotate_left
              ·simp only [Act.put, List.setIfInBounds_toArray, List.set_cons_zero, List.set_cons_succ, i64_w, i32_w]
               rfl
              refine pure_ (i := 11) (N := some 57) (v := ?_) (a' := ?_) #[true, false, true, true, true, true, true, false, false, true, false, true, false, false, false, false, false] rfl rfl (any_of HT_.out (by kernel_rfl)) (fun _ _ _ h => h) (Or.inl ⟨by rfl, ?_⟩) ?_ ?_
              rotate_left
              ·intro w'
               go_simp
               with_reducible rfl
              rotate_left
              ·simp only [Act.put, List.setIfInBounds_toArray, List.set_cons_zero, List.set_cons_succ, i64_w, i32_w]
               rfl
              refine pure_ (i := 12) (N := some 58) (v := ?_) (a' := ?_) #[true, false, true, true, true, true, true, false, false, true, false, true, true, false, false, false, false] rfl rfl (any_of HT_.out (by kernel_rfl)) (fun _ _ _ h => h) (Or.inl ⟨by rfl, ?_⟩) ?_ ?_
              rotate_left
              ·intro w'
               go_simp
               with_reducible rfl
              rotate_left
              ·simp only [Act.put, List.setIfInBounds_toArray, List.set_cons_zero, List.set_cons_succ, i64_w, i32_w]
               rfl
              refine take_ (i := 1) (N := some 47) (v := ?_) (a' := ?_) #[true, true, true, true, true, true, true, false, false, true, false, true, true, false, false, false, false] rfl rfl (take_ofW HT_.out HW_.out (by kernel_rfl)) (fun _ _ _ h => h) (Or.inl ⟨by rfl, ?_⟩) hHeld ?_ ?_
              rotate_left
              ·rintro w' ⟨s0, s1, s2, s3⟩
               go_simp
               with_reducible rfl
              rotate_left
              ·simp only [Act.put, List.setIfInBounds_toArray, List.set_cons_zero, List.set_cons_succ, i64_w, i32_w]
               rfl
              refine take_ (i := 7) (N := some 53) (v := ?_) (a' := ?_) #[true, true, true, true, true, true, true, true, false, true, false, true, true, false, false, false, false] rfl rfl (take_ofW HT_.out HW_.out (by kernel_rfl)) (fun _ _ _ h => h) (Or.inl ⟨by rfl, ?_⟩) hHeld ?_ ?_
              rotate_left
              ·rintro w' ⟨s0, s1, s2, s3⟩
               go_simp
               with_reducible rfl
              rotate_left
              ·simp only [Act.put, List.setIfInBounds_toArray, List.set_cons_zero, List.set_cons_succ, i64_w, i32_w]
               rfl
              refine pure_ (i := 8) (N := some 54) (v := ?_) (a' := ?_) #[true, true, true, true, true, true, true, true, true, true, false, true, true, false, false, false, false] rfl rfl (any_of HT_.out (by kernel_rfl)) (fun _ _ _ h => h) (Or.inl ⟨by rfl, ?_⟩) ?_ ?_
              rotate_left
              ·intro w'
               go_simp
               with_reducible rfl
              rotate_left
              ·simp only [Act.put, List.setIfInBounds_toArray, List.set_cons_zero, List.set_cons_succ, i64_w, i32_w]
               rfl
              refine take_ (i := 10) (N := some 56) (v := ?_) (a' := ?_) #[true, true, true, true, true, true, true, true, true, true, true, true, true, false, false, false, false] rfl rfl (take_ofW HT_.out HW_.out (by kernel_rfl)) (fun _ _ _ h => h) (Or.inl ⟨by rfl, ?_⟩) hHeld ?_ ?_
              rotate_left
              ·rintro w' ⟨s0, s1, s2, s3⟩
               go_simp
               with_reducible rfl
              rotate_left
              ·simp only [Act.put, List.setIfInBounds_toArray, List.set_cons_zero, List.set_cons_succ, i64_w, i32_w]
               rfl
              refine pure_ (i := 13) (N := some 59) (v := ?_) (a' := ?_) #[true, true, true, true, true, true, true, true, true, true, true, true, true, true, false, false, false] rfl rfl (any_of HT_.out (by kernel_rfl)) (fun _ _ _ h => h) (Or.inl ⟨by rfl, ?_⟩) ?_ ?_
              rotate_left
              ·intro w'
               go_simp
               with_reducible rfl
              rotate_left
              ·simp only [Act.put, List.setIfInBounds_toArray, List.set_cons_zero, List.set_cons_succ, i64_w, i32_w]
               rfl
              refine take_ (i := 14) (N := some 60) (v := ?_) (a' := ?_) #[true, true, true, true, true, true, true, true, true, true, true, true, true, true, true, false, false] rfl rfl (take_ofW HT_.out HW_.out (by kernel_rfl)) (fun _ _ _ h => h) (Or.inl ⟨by rfl, ?_⟩) hHeld ?_ ?_
              rotate_left
              ·rintro w' ⟨s0, s1, s2, s3⟩
               go_simp
               with_reducible rfl
              rotate_left
              ·simp only [Act.put, List.setIfInBounds_toArray, List.set_cons_zero, List.set_cons_succ, i64_w, i32_w]
               rfl
              refine pure_ (i := 15) (N := some 61) (v := ?_) (a' := ?_) #[true, true, true, true, true, true, true, true, true, true, true, true, true, true, true, true, false] rfl rfl (any_of HT_.out (by kernel_rfl)) (fun _ _ _ h => h) (Or.inl ⟨by rfl, ?_⟩) ?_ ?_
              rotate_left
              ·intro w'
               go_simp
               with_reducible rfl
              rotate_left
              ·simp only [Act.put, List.setIfInBounds_toArray, List.set_cons_zero, List.set_cons_succ, i64_w, i32_w]
               rfl
              refine last_ (i := 16) (N := none) #[true, true, true, true, true, true, true, true, true, true, true, true, true, true, true, true, true] rfl rfl (one_of HT_.out (by kernel_rfl)) (by decide) (fun K hK => ?_)
              refine skip_ (w1 := ?_) (by rfl) rfl ?_ ?_
              rotate_left
              ·go_simp
               rfl
              refine hK.out _ _ ?_
              clear hK K
              refine done_ (done_of HT_.out (by kernel_rfl)) ?_
              try go_wp2
              go_roundg k2
              case measure => have := HJ7.out; have := HK2.out; omega
              case rel => exact ⟨(wrap64 (x9_2 + 1)), (y309), (.slice (some ⟨go42, 0, none⟩) x296000_2.length co45), (by first | rfl | (simp; done) | (simp [*]; done) | (simp; exact (by intro l_; cases l_ <;> rfl : ∀ l_ : List UInt8, l_.isEmpty = !(l_ != [])) _)), H', ⟨by have := HJ7.out; have := HK2.out; omega⟩, ⟨rP (Kd.R_mono (Kd.R_far (p := ⟨go42, ((ji39) : Int).toNat, none⟩) (Kd.R_types HO_6.out GG42.out (by decide)) (fun _ hk => hk.2) (.string (rdOf ByteArray.empty x296000_2 (ji36)))) (fun _ hk => trivial))⟩, ⟨rP HQ46.out⟩, ⟨rP (Kd.R_mono (Kd.R_far (p := ⟨go42, ((ji39) : Int).toNat, none⟩) (Kd.R_types HO_296001.out GG42.out (by decide)) (fun _ hk => hk.2) (.string (rdOf ByteArray.empty x296000_2 (ji36)))) (fun _ hk => trivial))⟩, ⟨by (with_reducible repeat (first | refine blk_drewN ?_ _ | refine blk_drew ?_ | refine blk_alloc ?_ _)); refine blk_far ?_ (by have h_ := Kd.R_ne HO_296000.out BK280.out (by decide); intro e_; exact h_ (by rw [e_]; rfl)) _; (with_reducible repeat (first | refine blk_drewN ?_ _ | refine blk_drew ?_ | refine blk_alloc ?_ _)); exact BK280.out⟩, ⟨by (with_reducible repeat (first | refine blk_drewN ?_ _ | refine blk_drew ?_ | refine blk_alloc ?_ _)); refine blk_far ?_ (by have h_ := Kd.R_ne HO_296000.out BK281.out (by decide); intro e_; exact h_ (by rw [e_]; rfl)) _; (with_reducible repeat (first | refine blk_drewN ?_ _ | refine blk_drew ?_ | refine blk_alloc ?_ _)); exact BK281.out⟩, ⟨by (with_reducible repeat (first | refine blk_drewN ?_ _ | refine blk_drew ?_ | refine blk_alloc ?_ _)); refine blk_far ?_ (by have h_ := Kd.R_ne HO_296000.out BK295.out (by decide); intro e_; exact h_ (by rw [e_]; rfl)) _; (with_reducible repeat (first | refine blk_drewN ?_ _ | refine blk_drew ?_ | refine blk_alloc ?_ _)); exact BK295.out⟩, ⟨by repeat (first | (with_reducible first | exact HB.out | apply below_alloc | apply pw_below_drewN | apply below_drew1 | refine below_set ?_ GB42.out | refine below_set ?_ GE280.out | refine below_set ?_ GE281.out | refine below_set ?_ GE295.out) | exact HB.out)⟩⟩
             ·rw [if_neg c41] at H
              exact absurd H (by simp)
            ·rw [if_neg c40] at H
             exact absurd H (by simp)
           ·rw [if_neg c38] at H
            exact absurd H (by simp)
          ·rw [if_neg c37] at H
           exact absurd H (by simp)
         ·rw [if_neg c35] at H
          exact absurd H (by simp)
        ·rw [if_neg c34] at H
         have c34b0 : decide (x9_2 < (t297.length : Int)) = false := decide_eq_false c34
         clear c34
         by_cases c47 : 0 < (x296000_2.length : Int)
         ·rw [if_pos c47] at H
          have c47b0 : decide (0 < (x296000_2.length : Int)) = true := decide_eq_true c47
          have c47b1 : decide (0 < x296000_2.length) = true := decide_eq_true (by omega)
          clear c47
          obtain ⟨y310, hy310⟩ : ∃ y_ : List ByteArray, y_ = (x296000_2.set (0 : Int).toNat (⟨#[]⟩ : ByteArray)) := ⟨_, rfl⟩
          replace H : (some (y310, t292)) = some (r1, r2) := by first | (rw [hy310]; with_reducible exact H) | (have H2_ := (Option.bind_some _ _).symm.trans H; rw [hy310]; with_reducible exact H2_) | (have H2_ := (Option.bind_some _ _).symm.trans H; with_reducible exact H2_) | with_reducible exact H | (rw [hy310]; exact H) | exact H
          have Ny310 := Aside0.mk hy310
          clear hy310
          simp only [Option.some.injEq, Prod.mk.injEq] at H
          obtain ⟨rfl, rfl⟩ := H
          obtain ⟨Ao49, co49, eo49⟩ := Kd.R_slice HO_6.out
          subst eo49
          have hnb50 := NB295_280.out
          have hnc50 := NB280_295.out
          have hnb51 := NB295_281.out
          have hnc51 := NB281_295.out
          have hcz52_0 := cZ0 BK295
          have hcz52_1 := cZ1 BK295
          have hfz52_0 := blk_frozen BK295.out 0
          have hfz52_1 := blk_frozen BK295.out 1
          have p48 : 0 ≤ (0 : Int) := (by omega)
          have q48 : (0 : Int) < ((x296000_2.length : Int) : Int) := dT
          have qi48 : (0 < x296000_2.length) = True := eq_true (by omega)
          obtain ⟨go48, co48, eo48, gb48, gl48, cl48, HG48⟩ := Kd.R_form HO_296000.out (by omega)
          (first | cases eo48 | (injection eo48 with ea_ en_ ec_; (first | subst ea_ | (injection ea_ with ea_; subst ea_)); subst ec_; clear en_))
          have GB48 := Aside0.mk gb48
          have GG48 := Aside0.mk HG48
          clear gb48 gl48 HG48
          obtain ⟨hx48_0, hf48_0⟩ := Kd.R_celln (⟨#[]⟩ : ByteArray) HO_296000.out (0 : Int) p48 q48
          (try rw [show ((0 : Int)).toNat = 0 from rfl] at hx48_0)
          (try simp only [Nat.reduceMul, Nat.zero_mul, Nat.zero_add, Nat.reduceAdd] at hx48_0)
          (try rw [show ((0 : Int)).toNat = 0 from rfl] at hf48_0)
          (try simp only [Nat.reduceMul, Nat.zero_mul, Nat.zero_add, Nat.reduceAdd] at hf48_0)
          replace p48 := eq_true p48
          replace q48 := eq_true q48
          have HP53 := Kd.R_putg HO_296000.out (0 : Int) (⟨#[]⟩ : ByteArray)
          go_wp2_with (first | ((with_reducible refine gate_store (t := 9) (p := 64) rfl ?_); refine store_event (t := 9) (p := 64) (v := ?vo_w54) (w1 := (wr.setCell ⟨go48, (0 : Int).toNat, none⟩ (.string (⟨#[]⟩ : ByteArray)))) ?hg ?ho ?hn ?hr ?_; (case ho => rfl); (case hg => rfl); (case hn => rfl); (case hr => first | (go_simp; done) | (go_simp; rfl)); intro w54 hw; have hg : wr.grownBy w54 (some go48) := (by rw [hw]; exact HP53.2); have hp_ : Kd.R Kd.string 9 w54 w.heap.size (fun _ => True) (.slice (some ⟨go48, 0, none⟩) x296000_2.length co48) y310 := (by rw [hw, Ny310.out]; exact HP53.1); clear HP53; have n_ := And.intro (Aside0.mk (Kd.R_over' (v := (.slice (some ⟨go48, 0, none⟩) x296000_2.length co48)) (rP HO_6.out) (Kd.R_typed HO_296000.out) (by decide) hg)) (And.intro (Aside0.mk (hp_)) (And.intro (Aside0.mk (Kd.R_over' (v := (.slice (some ⟨go48, 0, none⟩) x296000_2.length co48)) (rP HO_296001.out) (Kd.R_typed HO_296000.out) (by decide) hg)) (And.intro (Aside0.mk (blk_grown (g := gb280) (o := .cells #[.slice A0_0 l0_0.length c0_0, .slice A0_1 l0_1.length c0_1] 30 (0, 0)) (kP BK280) hg (Kd.R_ne HO_296000.out BK280.out (by decide)))) (And.intro (Aside0.mk (blk_grown (g := gb281) (o := .cells #[.slice none 0 0, .slice none 0 0] 30 (0, 0)) (kP BK281) hg (Kd.R_ne HO_296000.out BK281.out (by decide)))) (And.intro (Aside0.mk (blk_grown (g := gb295) (o := .cells #[.slice (some ⟨go48, 0, none⟩) x296000_2.length co48, .slice Ao21 t292.length co21] 30 (0, 0)) (kP BK295) hg (Kd.R_ne HO_296000.out BK295.out (by decide)))) (Aside0.mk ((by rw [hw]; exact below_set (HB.out) GB48.out : Below w.heap.size w w54)))))))); clear HO_6 HO_296000 HO_296001 BK280 BK281 BK295 HB; obtain ⟨HO_6, HO_296000, HO_296001, BK280, BK281, BK295, HB⟩ := n_; (try clear hw); have hcz55_0 := cZ0 BK295; have hcz55_1 := cZ1 BK295; have hfz55_0 := blk_frozen BK295.out 0; have hfz55_1 := blk_frozen BK295.out 1; have hnb56 := NB281_280.out; have hnc56 := NB280_281.out; have hcz57_0 := cZ0 BK281; have hcz57_1 := cZ1 BK281; have hfz57_0 := blk_frozen BK281.out 0; have hfz57_1 := blk_frozen BK281.out 1))
          refine bodyPost_ret (results_cell_row rfl _ _ gb281 30 #[.slice (some ⟨go48, 0, none⟩) x296000_2.length co48, .slice Ao21 t292.length co21] (0, 0) _ rfl (by (with_reducible repeat (first | refine blk_drewN ?_ _ | refine blk_drew ?_ | refine blk_alloc ?_ _)); refine blk_put (cs := #[.slice (some ⟨go48, 0, none⟩) x296000_2.length co48, .slice none 0 0]) ?_ 1 _ rfl; (with_reducible repeat (first | refine blk_drewN ?_ _ | refine blk_drew ?_ | refine blk_alloc ?_ _)); refine blk_put (cs := #[.slice none 0 0, .slice none 0 0]) ?_ 0 _ rfl; (with_reducible repeat (first | refine blk_drewN ?_ _ | refine blk_drew ?_ | refine blk_alloc ?_ _)); exact BK281.out) Try.underlying30 rfl (by kernel_rfl)) rfl ?_
          exact ⟨_, _, eW, by (with_reducible repeat (first | apply Kd.R_alloc | apply Kd.R_drewN | apply Kd.R_drew)); exact Kd.R_mono (Kd.R_far (p := ⟨gb281, 1, none⟩) (Kd.R_far (p := ⟨gb281, 0, none⟩) (Kd.R_types HO_296000.out BK281.out (by decide)) (fun _ hk => hk.2) (.slice (some ⟨go48, 0, none⟩) x296000_2.length co48)) (fun _ hk => hk.2) (.slice Ao21 t292.length co21)) (fun _ hk => trivial), by (with_reducible repeat (first | apply Kd.R_alloc | apply Kd.R_drewN | apply Kd.R_drew)); exact Kd.R_mono (Kd.R_far (p := ⟨gb281, 1, none⟩) (Kd.R_far (p := ⟨gb281, 0, none⟩) (Kd.R_types HO_296001.out BK281.out (by decide)) (fun _ hk => hk.2) (.slice (some ⟨go48, 0, none⟩) x296000_2.length co48)) (fun _ hk => hk.2) (.slice Ao21 t292.length co21)) (fun _ hk => trivial), bB⟩
         ·rw [if_neg c47] at H
          exact absurd H (by simp)
     ·replace c33 := Bool.eq_false_iff.mpr c33
      subst c33
      rw [if_neg (show ¬ (false = true) by decide)] at H
      by_cases c58 : 0 < (t289.length : Int)
      ·rw [if_pos c58] at H
       have c58b0 : decide (0 < (t289.length : Int)) = true := decide_eq_true c58
       have c58b1 : decide (0 < t289.length) = true := decide_eq_true (by omega)
       clear c58
       obtain ⟨y311, hy311⟩ : ∃ y_ : List ByteArray, y_ = (t289.set (0 : Int).toNat (⟨#[]⟩ : ByteArray)) := ⟨_, rfl⟩
       replace H : (some (y311, t292)) = some (r1, r2) := by first | (rw [hy311]; with_reducible exact H) | (have H2_ := (Option.bind_some _ _).symm.trans H; rw [hy311]; with_reducible exact H2_) | (have H2_ := (Option.bind_some _ _).symm.trans H; with_reducible exact H2_) | with_reducible exact H | (rw [hy311]; exact H) | exact H
       have Ny311 := Aside0.mk hy311
       clear hy311
       simp only [Option.some.injEq, Prod.mk.injEq] at H
       obtain ⟨rfl, rfl⟩ := H
       have hnb60 := NB295_280.out
       have hnc60 := NB280_295.out
       have hnb61 := NB295_281.out
       have hnc61 := NB281_295.out
       have hcz62_0 := cZ0 BK295
       have hcz62_1 := cZ1 BK295
       have hfz62_0 := blk_frozen BK295.out 0
       have hfz62_1 := blk_frozen BK295.out 1
       have p59 : 0 ≤ (0 : Int) := (by omega)
       have q59 : (0 : Int) < ((t289.length : Int) : Int) := dT
       have qi59 : (0 < t289.length) = True := eq_true (by omega)
       obtain ⟨go59, co59, eo59, gb59, gl59, cl59, HG59⟩ := Kd.R_form HO_296000.out (by omega)
       (first | cases eo59 | (injection eo59 with ea_ en_ ec_; (first | subst ea_ | (injection ea_ with ea_; subst ea_)); subst ec_; clear en_))
       have GB59 := Aside0.mk gb59
       have GG59 := Aside0.mk HG59
       clear gb59 gl59 HG59
       (first | simp only [add_plain] at hx296_0 | skip)
       obtain ⟨hx59_0, hf59_0⟩ := Kd.R_celln (⟨#[]⟩ : ByteArray) HO_296000.out (0 : Int) p59 q59
       (try rw [show ((0 : Int)).toNat = 0 from rfl] at hx59_0)
       (try simp only [Nat.reduceMul, Nat.zero_mul, Nat.zero_add, Nat.reduceAdd] at hx59_0)
       (try rw [show ((0 : Int)).toNat = 0 from rfl] at hf59_0)
       (try simp only [Nat.reduceMul, Nat.zero_mul, Nat.zero_add, Nat.reduceAdd] at hf59_0)
       replace p59 := eq_true p59
       replace q59 := eq_true q59
       have HP63 := Kd.R_putg HO_296000.out (0 : Int) (⟨#[]⟩ : ByteArray)
       go_wp2_with (first | ((with_reducible refine gate_store (t := 9) (p := 64) rfl ?_); refine store_event (t := 9) (p := 64) (v := ?vo_w64) (w1 := (wc.setCell ⟨go59, (0 : Int).toNat, none⟩ (.string (⟨#[]⟩ : ByteArray)))) ?hg ?ho ?hn ?hr ?_; (case ho => rfl); (case hg => rfl); (case hn => rfl); (case hr => first | (go_simp; done) | (go_simp; rfl)); intro w64 hw; have hg : wc.grownBy w64 (some go59) := (by rw [hw]; exact HP63.2); have hp_ : Kd.R Kd.string 9 w64 w.heap.size (fun _ => True) (.slice (some ⟨go59, 0, none⟩) t289.length co17) y311 := (by rw [hw, Ny311.out]; exact HP63.1); clear HP63; have n_ := And.intro (Aside0.mk (Kd.R_over' (v := (.slice (some ⟨go59, 0, none⟩) t289.length co17)) (rP HO_6.out) (Kd.R_typed HO_296000.out) (by decide) hg)) (And.intro (Aside0.mk (hp_)) (And.intro (Aside0.mk (Kd.R_over' (v := (.slice (some ⟨go59, 0, none⟩) t289.length co17)) (rP HO_296001.out) (Kd.R_typed HO_296000.out) (by decide) hg)) (And.intro (Aside0.mk (blk_grown (g := gb280) (o := .cells #[.slice A0_0 l0_0.length c0_0, .slice A0_1 l0_1.length c0_1] 30 (0, 0)) (kP BK280) hg (Kd.R_ne HO_296000.out BK280.out (by decide)))) (And.intro (Aside0.mk (blk_grown (g := gb281) (o := .cells #[.slice none 0 0, .slice none 0 0] 30 (0, 0)) (kP BK281) hg (Kd.R_ne HO_296000.out BK281.out (by decide)))) (And.intro (Aside0.mk (blk_grown (g := gb295) (o := .cells #[.slice (some ⟨go59, 0, none⟩) t289.length co17, .slice Ao21 t292.length co21] 30 (0, 0)) (kP BK295) hg (Kd.R_ne HO_296000.out BK295.out (by decide)))) (Aside0.mk ((by rw [hw]; exact below_set (HB.out) GB59.out : Below w.heap.size w w64)))))))); clear HO_6 HO_296000 HO_296001 BK280 BK281 BK295 HB; obtain ⟨HO_6, HO_296000, HO_296001, BK280, BK281, BK295, HB⟩ := n_; (try clear hw); have hcz65_0 := cZ0 BK295; have hcz65_1 := cZ1 BK295; have hfz65_0 := blk_frozen BK295.out 0; have hfz65_1 := blk_frozen BK295.out 1; have hnb66 := NB281_280.out; have hnc66 := NB280_281.out; have hcz67_0 := cZ0 BK281; have hcz67_1 := cZ1 BK281; have hfz67_0 := blk_frozen BK281.out 0; have hfz67_1 := blk_frozen BK281.out 1))
       refine bodyPost_ret (results_cell_row rfl _ _ gb281 30 #[.slice (some ⟨go59, 0, none⟩) t289.length co17, .slice Ao21 t292.length co21] (0, 0) _ rfl (by (with_reducible repeat (first | refine blk_drewN ?_ _ | refine blk_drew ?_ | refine blk_alloc ?_ _)); refine blk_put (cs := #[.slice (some ⟨go59, 0, none⟩) t289.length co17, .slice none 0 0]) ?_ 1 _ rfl; (with_reducible repeat (first | refine blk_drewN ?_ _ | refine blk_drew ?_ | refine blk_alloc ?_ _)); refine blk_put (cs := #[.slice none 0 0, .slice none 0 0]) ?_ 0 _ rfl; (with_reducible repeat (first | refine blk_drewN ?_ _ | refine blk_drew ?_ | refine blk_alloc ?_ _)); exact BK281.out) Try.underlying30 rfl (by kernel_rfl)) rfl ?_
       exact ⟨_, _, eW, by (with_reducible repeat (first | apply Kd.R_alloc | apply Kd.R_drewN | apply Kd.R_drew)); exact Kd.R_mono (Kd.R_far (p := ⟨gb281, 1, none⟩) (Kd.R_far (p := ⟨gb281, 0, none⟩) (Kd.R_types HO_296000.out BK281.out (by decide)) (fun _ hk => hk.2) (.slice (some ⟨go59, 0, none⟩) t289.length co17)) (fun _ hk => hk.2) (.slice Ao21 t292.length co21)) (fun _ hk => trivial), by (with_reducible repeat (first | apply Kd.R_alloc | apply Kd.R_drewN | apply Kd.R_drew)); exact Kd.R_mono (Kd.R_far (p := ⟨gb281, 1, none⟩) (Kd.R_far (p := ⟨gb281, 0, none⟩) (Kd.R_types HO_296001.out BK281.out (by decide)) (fun _ hk => hk.2) (.slice (some ⟨go59, 0, none⟩) t289.length co17)) (fun _ hk => hk.2) (.slice Ao21 t292.length co21)) (fun _ hk => trivial), bB⟩
      ·rw [if_neg c58] at H
       exact absurd H (by simp)
  rw [if_neg c6] at H
  exact absurd H (by simp)
 replace c4 := Bool.eq_false_iff.mpr c4
 subst c4
 rw [if_neg (show ¬ (false = true) by decide)] at H
 replace H := Option.bind_eq_some_iff.mp H
 obtain ⟨⟨t283, t286⟩, A680, H⟩ := H
 try dsimp only at H
 have A68 := Aside0.mk A680
 clear A680
 simp only [Option.some.injEq, Prod.mk.injEq] at H
 obtain ⟨rfl, rfl⟩ := H
 go_enter Try.func44, Try.ntmps44
 go_wp2_with (first | ((with_reducible refine gate_dst (N := 2) rfl ?_); (try (refine gate_guard (by rfl) ?_; dsimp only)); refine box_event ?hg (N := 2) ?hd (cs := #[.slice A0_0 l0_0.length c0_0, .slice A0_1 l0_1.length c0_1]) (t := 30) ?hr ?_; (case hd => rfl); (case hg => rfl); (case hr => first | (go_simp; done) | (go_simp; rfl)); intro gb280 hg w69 hbox hb; have n_ := And.intro (sB HB hb) (And.intro (Aside0.mk hbox) (And.intro (gE HB hg) (gE HB hg))); clear HB; obtain ⟨HB, BK280, GW280, GE280⟩ := n_; (try clear hb hbox hg)) | ((with_reducible refine gate_dst (N := 4) rfl ?_); (try (refine gate_guard (by rfl) ?_; dsimp only)); refine box_event ?hg (N := 4) ?hd (cs := #[.slice none 0 0, .slice none 0 0]) (t := 30) ?hr ?_; (case hd => rfl); (case hg => rfl); (case hr => first | (go_simp; done) | (go_simp; rfl)); intro gb281 hg w70 hbox hb; have n_ := And.intro (kB BK280 hb) (And.intro (sB HB hb) (And.intro (Aside0.mk hbox) (And.intro (gE HB hg) (And.intro (gE HB hg) (And.intro (nL BK280 hg) (nG BK280 hg)))))); clear BK280 HB; obtain ⟨BK280, HB, BK281, GW281, GE281, NB280_281, NB281_280⟩ := n_; (try clear hb hbox hg); have hnb71 := NB280_281.out; have hnc71 := NB281_280.out; have hcz72_0 := cZ0 BK280; have hcz72_1 := cZ1 BK280; have hfz72_0 := blk_frozen BK280.out 0; have hfz72_1 := blk_frozen BK280.out 1) | ((with_reducible refine gate_callee (f := 70) rfl ?_); refine gL (some 12) Try.func70 #[.agg #[.slice A0_0 l0_0.length c0_0, .slice A0_1 l0_1.length c0_1], .int .i64 a1] ?_; (with_reducible refine (spec_l4Ok.calls k _ _ l0_0 _ _ l0_1 a1 false _ ?side1 ?side2 ?side3 ?side4 A3.out).mono ?_); (case side1 => exact cS HR0_0 HB); (case side2 => exact HC0_0.out); (case side3 => exact cS HR0_1 HB); (case side4 => exact HC0_1.out); rintro e w73 ⟨rfl, hb⟩; refine ⟨_, rfl, ?_⟩; have n_ := And.intro (kB BK280 hb) (And.intro (kB BK281 hb) (sB HB hb)); clear BK280 BK281 HB; obtain ⟨BK280, BK281, HB⟩ := n_; (try clear hb); have hcz74_0 := cZ0 BK280; have hcz74_1 := cZ1 BK280; have hfz74_0 := blk_frozen BK280.out 0; have hfz74_1 := blk_frozen BK280.out 1) | ((with_reducible refine gate_callee (f := 75) rfl ?_); refine gL (some 15) Try.func75 #[.agg #[.slice A0_0 l0_0.length c0_0, .slice A0_1 l0_1.length c0_1]] ?_; (with_reducible refine (spec_l3Copy.calls _ _ l0_0 _ _ l0_1 t283 t286 _ ?side1 ?side2 ?side3 ?side4 A68.out).mono ?_); (case side1 => exact cS HR0_0 HB); (case side2 => exact HC0_0.out); (case side3 => exact cS HR0_1 HB); (case side4 => exact HC0_1.out); rintro e w75 ⟨v284, v287, rfl, ho0, ho1, hb⟩; refine ⟨_, rfl, ?_⟩; have n_ := And.intro (lR HB ho0) (And.intro (lR HB ho1) (And.intro (kB BK280 hb) (And.intro (kB BK281 hb) (sB HB hb)))); clear BK280 BK281 HB; obtain ⟨HO285, HO288, BK280, BK281, HB⟩ := n_; (try clear hb ho0 ho1); obtain ⟨Ao76, co76, eo76⟩ := Kd.R_slice HO285.out; subst eo76; have hcz77_0 := cZ0 BK281; have hcz77_1 := cZ1 BK281; have hfz77_0 := blk_frozen BK281.out 0; have hfz77_1 := blk_frozen BK281.out 1; obtain ⟨Ao78, co78, eo78⟩ := Kd.R_slice HO288.out; subst eo78))
 refine bodyPost_ret (results_cell_row rfl _ _ gb281 30 #[.slice Ao76 t283.length co76, .slice Ao78 t286.length co78] (0, 0) _ rfl (by (with_reducible repeat (first | refine blk_drewN ?_ _ | refine blk_drew ?_ | refine blk_alloc ?_ _)); refine blk_put (cs := #[.slice Ao76 t283.length co76, .slice none 0 0]) ?_ 1 _ rfl; (with_reducible repeat (first | refine blk_drewN ?_ _ | refine blk_drew ?_ | refine blk_alloc ?_ _)); refine blk_put (cs := #[.slice none 0 0, .slice none 0 0]) ?_ 0 _ rfl; (with_reducible repeat (first | refine blk_drewN ?_ _ | refine blk_drew ?_ | refine blk_alloc ?_ _)); exact BK281.out) Try.underlying30 rfl (by kernel_rfl)) rfl ?_
 exact ⟨_, _, eW, by (with_reducible repeat (first | apply Kd.R_alloc | apply Kd.R_drewN | apply Kd.R_drew)); exact Kd.R_mono (Kd.R_far (p := ⟨gb281, 1, none⟩) (Kd.R_far (p := ⟨gb281, 0, none⟩) (Kd.R_types HO285.out BK281.out (by decide)) (fun _ hk => hk.2) (.slice Ao76 t283.length co76)) (fun _ hk => hk.2) (.slice Ao78 t286.length co78)) (fun _ hk => trivial), by (with_reducible repeat (first | apply Kd.R_alloc | apply Kd.R_drewN | apply Kd.R_drew)); exact Kd.R_mono (Kd.R_far (p := ⟨gb281, 1, none⟩) (Kd.R_far (p := ⟨gb281, 0, none⟩) (Kd.R_types HO288.out BK281.out (by decide)) (fun _ hk => hk.2) (.slice Ao76 t283.length co76)) (fun _ hk => hk.2) (.slice Ao78 t286.length co78)) (fun _ hk => trivial), bB⟩

-- NOT PRINTED: function 107 (slices_IndexFunc_string_string)

-- NOT PRINTED: function 62 (slices_ContainsFunc_string_string)

/-! ### impl_short: function 64 -/
def impl_short.f (a0 : ByteArray) : Option (Bool) := some (decide ((a0.size : Int) ≤ 90))
set_option maxHeartbeats 8000000 in
set_option maxRecDepth 100000 in
theorem impl_short.calls (a0 : ByteArray) (r : Bool) (w : World) (h : impl_short.f a0 = some r) :
  Calls Try.prog 64 #[.string a0] w fun e w' => e = .returned (.bool r) ∧ Drawn0 w w' := by
 unfold impl_short.f at h
 have H := h
 clear h
 obtain rfl := Option.some.inj H
 go_enter Try.func64, Try.ntmps64
 go_wp2
 go_ret
 exact ⟨by first | rfl | (simp; done) | (simp [*]; done), by repeat (first | exact Drawn0.refl _ | apply Drawn0.step)⟩

end Go.Proofs.Ytgmpdkefegofhaa.PFnExactRecover
