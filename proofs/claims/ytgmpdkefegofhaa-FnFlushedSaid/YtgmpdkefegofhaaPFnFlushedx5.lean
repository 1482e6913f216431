-- Written by xprint.py, a program of this session over the kit's print. Not trusted: Lean checks it.
import Derived.Test.YtgmpdkefegofhaaPFnFlushedx0
import Derived.Test.YtgmpdkefegofhaaPFnFlushedx2
import Derived.Test.YtgmpdkefegofhaaPFnFlushedx4
namespace Go.Proofs.Ytgmpdkefegofhaa.PFnFlushed
open Go.RowKit Go.Proofs.YtgmpdkefegofhaaW.PrintWords Go.Proofs.YtgmpdkefegofhaaW.PrintLast Go.Proofs.YtgmpdkefegofhaaW.PrintMore
attribute [local go_sem] max2_int min2_int max_two min_two max_three min_three max_four min_four   -- for this text's walks alone
set_option linter.unusedVariables false
set_option linter.unusedSimpArgs false

/-! ### spec_l1PickInt: function 98 -/
def spec_l1PickInt.f (s0_0 : List Int) (s0_1 : Int) (s0_2 : Int) (l1 : List Int) : Option (Int × Int × Int) := (spec_l1Below.f s0_0 s0_1 s0_2 (l1.length : Int)).bind fun bt232 => (if 0 ≤ bt232.1 then (if bt232.1 < (l1.length : Int) then (some (rd l1 bt232.1, bt232.2.1, bt232.2.2)) else (none)) else (none))
set_option maxHeartbeats 8000000 in
set_option maxRecDepth 100000 in
theorem spec_l1PickInt.calls (g : Nat) (s0_0 : List Int) (s0_1 : Int) (s0_2 : Int) (A1 : Option Addr) (c1 : Nat) (l1 : List Int) (r1 : Int) (r2 : Int) (r3 : Int) (w0 w : World) (hI : IsS123 w0 w g s0_0 s0_1 s0_2) (hB : Below w0.heap.size w0 w) (hr1 : Kd.C (Kd.int .i64) w A1 l1.length l1) (hc1 : l1.length ≤ c1) (hf1 : ∀ ad, A1 = some ad → 0 < l1.length → ad.block ≠ g) (h : spec_l1PickInt.f s0_0 s0_1 s0_2 l1 = some (r1, r2, r3)) :
  Calls Try.prog 98 #[.pointer (some ⟨g, 0, none⟩), .slice A1 l1.length c1] w fun e w' => e = .returned (.int .i64 r1) ∧ IsS123 w0 w' g s0_0 r2 r3 ∧ Below w0.heap.size w0 w' ∧ KeepBut w w' g none := by
 have HR1 := aM hr1
 have HC1 := aM hc1
 clear hr1 hc1
 have HI0 := aM hI
 have GEg_ := aM (IsS123.ge hI)
 have HK := aM (KeepBut.refl w g none)
 have HL := aM hB.size
 clear hI
 have HW0 := aM hB.size
 have HB := aM hB
 clear hB
 unfold spec_l1PickInt.f at h
 have H := h
 clear h
 replace H := Option.bind_eq_some_iff.mp H
 obtain ⟨⟨t232, t233, t234⟩, A30, H⟩ := H
 try dsimp only at H
 have A3 := aM A30
 clear A30
 by_cases c4 : 0 ≤ t232
 ·rw [if_pos c4] at H
  have c4b0 : decide (0 ≤ t232) = true := decide_eq_true c4
  clear c4
  by_cases c5 : t232 < (l1.length : Int)
  ·rw [if_pos c5] at H
   have c5b0 : decide (t232 < (l1.length : Int)) = true := decide_eq_true c5
   clear c5
   simp only [Option.some.injEq, Prod.mk.injEq] at H
   obtain ⟨rfl, rfl, rfl⟩ := H
   go_enter Try.func98, Try.ntmps98
   go_wp2_with (first | ((with_reducible refine gate_callee (f := 95) rfl ?_); refine gL (some 9) Try.func95 #[.pointer (some ⟨g, 0, none⟩), .int .i64 (l1.length : Int)] ?_; (with_reducible refine (spec_l1Below.calls g s0_0 s0_1 s0_2 (l1.length : Int) t232 t233 t234 w0 _ ?side1 ?side2 A3.out).mono ?_); (case side1 => repeat (first | (with_reducible first | exact HI0.out | apply IsS123.alloc | apply IsS123.drewN | apply IsS123.drew | apply IsS123.set_1 | apply IsS123.set_2) | exact HI0.out)); (case side2 => repeat (first | (with_reducible first | exact HB.out | apply below_alloc | apply pw_below_drewN | apply below_drew1 | refine below_set ?_ (IsS123.ge HI0.out)) | exact HB.out)); rintro e w6 ⟨rfl, hi, hb, hk⟩; refine ⟨_, rfl, ?_⟩; have n_ := aI (aM (KeepBut.trans (bK HK) hk (.inl rfl))) (aI (aM (hb)) (aM (hi))); clear HK HB HI0; obtain ⟨HK, HB, HI0⟩ := n_; (try clear hb hk hi); have p235 : 0 ≤ (t232 : Int) := dT; have q235 : t232 < (l1.length : Int) := dT; obtain ⟨ad235, e235, hx235_0⟩ := Kd.at_int HR1.out t232 p235 q235; cases e235; replace hx235_0 := keep_cell HK.out hx235_0 (by first | (rw [add_block]; exact hf1 _ rfl (by omega)) | exact hf1 _ rfl (by omega) | exact hf1 ad235 rfl (by omega)); replace p235 := eq_true p235; replace q235 := eq_true q235))
   go_ret
   exact ⟨eW, IsS123.iI HI0, bB, bK HK⟩
  rw [if_neg c5] at H
  exact absurd H (by simp)
 rw [if_neg c4] at H
 exact absurd H (by simp)

/-! ### spec_l1Pick: function 122 -/
def spec_l1Pick.f (s0_0 : List Int) (s0_1 : Int) (s0_2 : Int) (l1 : List ByteArray) : Option (ByteArray × Int × Int) := (spec_l1Below.f s0_0 s0_1 s0_2 (l1.length : Int)).bind fun bt236 => (if 0 ≤ bt236.1 then (if bt236.1 < (l1.length : Int) then (some (rdOf ByteArray.empty l1 bt236.1, bt236.2.1, bt236.2.2)) else (none)) else (none))
set_option maxHeartbeats 8000000 in
set_option maxRecDepth 100000 in
theorem spec_l1Pick.calls (g : Nat) (s0_0 : List Int) (s0_1 : Int) (s0_2 : Int) (A1 : Option Addr) (c1 : Nat) (l1 : List ByteArray) (r1 : ByteArray) (r2 : Int) (r3 : Int) (w0 w : World) (hI : IsS123 w0 w g s0_0 s0_1 s0_2) (hB : Below w0.heap.size w0 w) (hr1 : Kd.C Kd.string w A1 l1.length l1) (hc1 : l1.length ≤ c1) (hf1 : ∀ ad, A1 = some ad → 0 < l1.length → ad.block ≠ g) (h : spec_l1Pick.f s0_0 s0_1 s0_2 l1 = some (r1, r2, r3)) :
  Calls Try.prog 122 #[.pointer (some ⟨g, 0, none⟩), .slice A1 l1.length c1] w fun e w' => e = .returned (.string r1) ∧ IsS123 w0 w' g s0_0 r2 r3 ∧ Below w0.heap.size w0 w' ∧ KeepBut w w' g none := by
 have HR1 := aM hr1
 have HC1 := aM hc1
 clear hr1 hc1
 have HI0 := aM hI
 have GEg_ := aM (IsS123.ge hI)
 have HK := aM (KeepBut.refl w g none)
 have HL := aM hB.size
 clear hI
 have HW0 := aM hB.size
 have HB := aM hB
 clear hB
 unfold spec_l1Pick.f at h
 have H := h
 clear h
 replace H := Option.bind_eq_some_iff.mp H
 obtain ⟨⟨t236, t237, t238⟩, A30, H⟩ := H
 try dsimp only at H
 have A3 := aM A30
 clear A30
 by_cases c4 : 0 ≤ t236
 ·rw [if_pos c4] at H
  have c4b0 : decide (0 ≤ t236) = true := decide_eq_true c4
  clear c4
  by_cases c5 : t236 < (l1.length : Int)
  ·rw [if_pos c5] at H
   have c5b0 : decide (t236 < (l1.length : Int)) = true := decide_eq_true c5
   clear c5
   simp only [Option.some.injEq, Prod.mk.injEq] at H
   obtain ⟨rfl, rfl, rfl⟩ := H
   go_enter Try.func122, Try.ntmps122
   go_wp2_with (first | ((with_reducible refine gate_callee (f := 95) rfl ?_); refine gL (some 9) Try.func95 #[.pointer (some ⟨g, 0, none⟩), .int .i64 (l1.length : Int)] ?_; (with_reducible refine (spec_l1Below.calls g s0_0 s0_1 s0_2 (l1.length : Int) t236 t237 t238 w0 _ ?side1 ?side2 A3.out).mono ?_); (case side1 => repeat (first | (with_reducible first | exact HI0.out | apply IsS123.alloc | apply IsS123.drewN | apply IsS123.drew | apply IsS123.set_1 | apply IsS123.set_2) | exact HI0.out)); (case side2 => repeat (first | (with_reducible first | exact HB.out | apply below_alloc | apply pw_below_drewN | apply below_drew1 | refine below_set ?_ (IsS123.ge HI0.out)) | exact HB.out)); rintro e w6 ⟨rfl, hi, hb, hk⟩; refine ⟨_, rfl, ?_⟩; have n_ := aI (aM (KeepBut.trans (bK HK) hk (.inl rfl))) (aI (aM (hb)) (aM (hi))); clear HK HB HI0; obtain ⟨HK, HB, HI0⟩ := n_; (try clear hb hk hi); have p239 : 0 ≤ (t236 : Int) := dT; have q239 : t236 < (l1.length : Int) := dT; obtain ⟨ad239, e239, hx239_0⟩ := Kd.at_string HR1.out t236 p239 q239; cases e239; replace hx239_0 := keep_cell HK.out hx239_0 (by first | (rw [add_block]; exact hf1 _ rfl (by omega)) | exact hf1 _ rfl (by omega) | exact hf1 ad239 rfl (by omega)); replace p239 := eq_true p239; replace q239 := eq_true q239))
   go_ret
   exact ⟨eW, IsS123.iI HI0, bB, bK HK⟩
  rw [if_neg c5] at H
  exact absurd H (by simp)
 rw [if_neg c4] at H
 exact absurd H (by simp)

/-! ### spec_l1Bytes: function 123 -/
def spec_l1Bytes.l0 : Nat → Int → List Int → Int → List Int → Int → Int → Option (List Int × Int × Int)
 | 0, _, _, _, _, _, _ => none
 | k + 1, x1, x5, x6, x1000, x1001, x1002 => if x6 < x1 then ((spec_l1Byte.f x1000 x1001 x1002).bind fun bt243 => (if x5.length < 140737488355328 then (spec_l1Bytes.l0 k x1 (x5 ++ [(bt243.1) % 256]) (wrap64 (x6 + 1)) x1000 bt243.2.1 bt243.2.2) else (none))) else (some (x5, x1001, x1002))
def spec_l1Bytes.f (k : Nat) (s0_0 : List Int) (s0_1 : Int) (s0_2 : Int) (a1 : Int) : Option (List Int × Int × Int) := spec_l1Bytes.l0 k a1 (([] : List Int)) 0 s0_0 s0_1 s0_2
theorem spec_l1Bytes.mono_l : ∀ k, (∀ y0 y1 y2 y3 y4 y5, LeO (spec_l1Bytes.l0 k y0 y1 y2 y3 y4 y5) (spec_l1Bytes.l0 (k + 1) y0 y1 y2 y3 y4 y5))
 | 0 => fun _ _ _ _ _ _ r h => by simp [spec_l1Bytes.l0] at h
 | k + 1 => by
  have ih0 := spec_l1Bytes.mono_l k
  ·intro y0 y1 y2 y3 y4 y5
   unfold spec_l1Bytes.l0
   exact mM
theorem spec_l1Bytes.mono : ∀ a0 a1 a2 a3 k, LeO (spec_l1Bytes.f k a0 a1 a2 a3) (spec_l1Bytes.f (k + 1) a0 a1 a2 a3) := by
 intro a0 a1 a2 a3 k
 have ih0 := spec_l1Bytes.mono_l k
 unfold spec_l1Bytes.f
 exact mM
set_option maxHeartbeats 8000000 in
set_option maxRecDepth 100000 in
theorem spec_l1Bytes.calls (k : Nat) (g : Nat) (s0_0 : List Int) (s0_1 : Int) (s0_2 : Int) (a1 : Int) (r1 : List Int) (r2 : Int) (r3 : Int) (w0 w : World) (hI : IsS123 w0 w g s0_0 s0_1 s0_2) (hB : Below w0.heap.size w0 w) (h : spec_l1Bytes.f k s0_0 s0_1 s0_2 a1 = some (r1, r2, r3)) :
  Calls Try.prog 123 #[.pointer (some ⟨g, 0, none⟩), .int .i64 a1] w fun e w' => ∃ v0_ : Value, e = .returned (v0_) ∧ Kd.R (Kd.int .u8) 5 w' w.heap.size (fun _ => True) v0_ r1 ∧ IsS123 w0 w' g s0_0 r2 r3 ∧ Below w0.heap.size w0 w' ∧ KeepBut w w' g none := by
 have HI0 := aM hI
 have GEg_ := aM (IsS123.ge hI)
 have HK := aM (KeepBut.refl w g none)
 have HL := aM hB.size
 clear hI
 have HW0 := aM hB.size
 have HB := aM hB
 clear hB
 unfold spec_l1Bytes.f at h
 have H := h
 clear h
 obtain ⟨y240, hy240⟩ : ∃ y_ : List Int, y_ = (([] : List Int)) := ⟨_, rfl⟩
 replace H : (spec_l1Bytes.l0 k a1 y240 0 s0_0 s0_1 s0_2) = some (r1, r2, r3) := by first | (rw [hy240]; with_reducible exact H) | (have H2_ := (Option.bind_some _ _).symm.trans H; rw [hy240]; with_reducible exact H2_) | (have H2_ := (Option.bind_some _ _).symm.trans H; with_reducible exact H2_) | with_reducible exact H | (rw [hy240]; exact H) | exact H
 have Ny240 := aM hy240
 clear hy240
 have H' := aM H
 clear H
 go_enter Try.func123, Try.ntmps123
 go_wp2_with (first | ((with_reducible refine gate_dst (N := 7) rfl ?_); refine Kd.R_lit (Kd.int .u8) _ 5 ?hg (N := 7) ?hd (xs := ([] : List Int)) (inner := []) (ok := fun _ => True) (okp := fun _ => True) ?hr ?hp (fun _ hk => hk) trivial (Below.refl _ _) (Nat.le_refl _) (by simp) ?_; (case hd => rfl); (case hg => rfl); (case hr => first | (go_simp; done) | (go_simp; rfl)); (case hp => exact (Reps.none _ _)); intro v241 w3 ho4 hb hg_ hnew_; clear hg_ hnew_; (first | rw [← Ny240.out] at ho4 | (simp only [Int.reduceToNat] at ho4; rw [← Ny240.out] at ho4)); have n_ := aI (aM (Kd.R_lower ho4 (keep_size (w := w) (g := g) (row := none) (bK HK)))) (aI (aM (IsS123.below (IsS123.iI HI0) hb)) (aI (aM (KeepBut.trans (bK HK) (KeepBut.of_below hb g none) (.inl rfl))) (sB HB hb))); clear HI0 HK HB; obtain ⟨HO242, HI0, HK, HB⟩ := n_; (try clear hb ho4)))
 go_loopg [5, 6] k (fun kq v5 v6 w' => ∃ (x5_1 : List Int) (x6_1 : Int) (x1001_1 : Int) (x1002_1 : Int), v6 = .int .i64 x6_1 ∧ Aside0 (spec_l1Bytes.l0 kq a1 x5_1 x6_1 s0_0 x1001_1 x1002_1 = some (r1, r2, r3)) ∧ Aside0 (kq ≤ k) ∧ Aside0 (Kd.R (Kd.int .u8) 5 w' w.heap.size (fun _ => True) v5 x5_1) ∧ Aside0 (IsS123 w0 w' g s0_0 x1001_1 x1002_1) ∧ Aside0 (KeepBut w w' g none) ∧ Aside0 (Below w0.heap.size w0 w'))
 case atStart => exact ⟨(y240), (0), (s0_1), (s0_2), (by first | rfl | (simp; done) | (simp [*]; done) | (simp; exact (by intro l_; cases l_ <;> rfl : ∀ l_ : List UInt8, l_.isEmpty = !(l_ != [])) _)), H', ⟨Nat.le_refl _⟩, ⟨rP HO242.out⟩, ⟨IsS123.iI HI0⟩, ⟨bK HK⟩, ⟨bB⟩⟩
 case round =>
  clear H'
  try clear c1
  try clear p2
  obtain ⟨x5_1, x6_1, x1001_1, x1002_1, rfl, HA, HK1, HO_5, HI0, HK, HB⟩ := hrel
  cases gk with
  | zero => exact absurd HA.out (by simp [spec_l1Bytes.l0])
  | succ k1 =>
   have H := HA.out
   clear HA
   simp only [spec_l1Bytes.l0] at H
   by_cases c5 : x6_1 < a1
   ·rw [if_pos c5] at H
    have c5b0 : decide (x6_1 < a1) = true := decide_eq_true c5
    clear c5
    replace H := Option.bind_eq_some_iff.mp H
    obtain ⟨⟨t243, t244, t245⟩, A60, H⟩ := H
    try dsimp only at H
    have A6 := aM A60
    clear A60
    by_cases c7 : x5_1.length < 140737488355328
    ·rw [if_pos c7] at H
     have LMc7 := aM c7
     clear c7
     obtain ⟨y246, hy246⟩ : ∃ y_ : List Int, y_ = (x5_1 ++ [(t243) % 256]) := ⟨_, rfl⟩
     replace H : (spec_l1Bytes.l0 k1 a1 y246 (wrap64 (x6_1 + 1)) s0_0 t244 t245) = some (r1, r2, r3) := by first | (rw [hy246]; with_reducible exact H) | (have H2_ := (Option.bind_some _ _).symm.trans H; rw [hy246]; with_reducible exact H2_) | (have H2_ := (Option.bind_some _ _).symm.trans H; with_reducible exact H2_) | with_reducible exact H | (rw [hy246]; exact H) | exact H
     have Ny246 := aM hy246
     clear hy246
     have H' := aM H
     clear H
     go_wp2_with (first | ((with_reducible refine gate_callee (f := 121) rfl ?_); refine gL (some 15) Try.func121 #[.pointer (some ⟨g, 0, none⟩)] ?_; (with_reducible refine (spec_l1Byte.calls g s0_0 x1001_1 x1002_1 t243 t244 t245 w0 _ ?side1 ?side2 A6.out).mono ?_); (case side1 => repeat (first | (with_reducible first | exact HI0.out | apply IsS123.alloc | apply IsS123.drewN | apply IsS123.drew | apply IsS123.set_1 | apply IsS123.set_2) | exact HI0.out)); (case side2 => repeat (first | (with_reducible first | exact HB.out | apply below_alloc | apply pw_below_drewN | apply below_drew1 | refine below_set ?_ (IsS123.ge HI0.out)) | exact HB.out)); rintro e w8 ⟨rfl, hi, hb, hk⟩; refine ⟨_, rfl, ?_⟩; have n_ := aI (aM (Kd.R_mono (Kd.R_keep (IsS123.apart (show IsS123 w0 _ g s0_0 x1001_1 x1002_1 from IsS123.iI HI0) (rP HO_5.out) (by decide)) hk (fun _ h => h.2)) (fun _ h => h.1))) (aI (aM (KeepBut.trans (bK HK) hk (.inl rfl))) (aI (aM (hb)) (aM (hi)))); clear HO_5 HK HB HI0; obtain ⟨HO_5, HK, HB, HI0⟩ := n_; (try clear hb hk hi)) | ((with_reducible refine gate_builtin (b := .append) (xs := #[.tmp 13, .tmp 17]) rfl ?_); at_builtin; refine Kd.R_append (Kd.int .u8) w.heap.size rfl (.tmp 13) (.tmp 17) 60 5 (.int .u8 0) 1 rfl Try.underlying60 info5 rfl (by decide) (by omega) u5 x5_1 ((t243) % 256) [.int .u8 ((t243) % 256)] (fun _ => True) (fun _ => False) rfl rfl ?aP (fun _ hk => hk.elim) ?aF ?aO (Below.refl _ _) ?aS ?aL ?_; (case aP => exact rfl); (case aF => exact (fun _ _ => trivial)); (case aO => exact (rP HO_5.out)); (case aS => exact (keep_size (w := w) (g := g) (row := none) (bK HK))); (case aL => have := LMc7.out; omega); intro v247 w9 ho hb hg hat; rw [← Ny246.out] at ho; have n_ := aI (aM (IsS123.grown (IsS123.iI HI0) hg (IsS123.own_ne HI0.out HO_5.out (by decide)))) (aI (aM (below_weaken bB HL.out hb)) (aI (aM (KeepBut.trans (bK HK) (KeepBut.of_grown hg g) (Kd.R_base2 HO_5.out))) (aM (ho)))); clear HI0 HB HK HO_5; obtain ⟨HI0, HB, HK, HO248⟩ := n_; (try clear ho hb hg hat)))
     go_roundg k1
     case measure => have := HK1.out; omega
     case rel => exact ⟨(y246), (wrap64 (x6_1 + 1)), (t244), (t245), (by first | rfl | (simp; done) | (simp [*]; done) | (simp; exact (by intro l_; cases l_ <;> rfl : ∀ l_ : List UInt8, l_.isEmpty = !(l_ != [])) _)), H', ⟨by have := HK1.out; omega⟩, ⟨rP HO248.out⟩, ⟨IsS123.iI HI0⟩, ⟨bK HK⟩, ⟨bB⟩⟩
    ·rw [if_neg c7] at H
     exact absurd H (by simp)
   ·rw [if_neg c5] at H
    have c5b0 : decide (x6_1 < a1) = false := decide_eq_false c5
    clear c5
    simp only [Option.some.injEq, Prod.mk.injEq] at H
    obtain ⟨rfl, rfl, rfl⟩ := H
    go_wp2
    go_ret
    exact ⟨_, eW, by (with_reducible repeat (first | apply Kd.R_alloc | apply Kd.R_drewN | apply Kd.R_drew)); exact HO_5.out, IsS123.iI HI0, bB, bK HK⟩

/-! ### spec_l3Data: function 96 -/
def spec_l3Data.f (k : Nat) (s0_0 : List Int) (s0_1 : Int) (s0_2 : Int) : Option (ByteArray × Int × Int) := (spec_l1Bytes.f k s0_0 s0_1 s0_2 5).bind fun bt249 => ((spec_l1Pick.f s0_0 bt249.2.1 bt249.2.2 (([(⟨#[]⟩ : ByteArray), (⟨#[97]⟩ : ByteArray), (⟨#[98, 99]⟩ : ByteArray), (⟨#[100, 101, 102]⟩ : ByteArray), strOfNums bt249.1] : List ByteArray))).bind fun bt257 => (some (bt257.1, bt257.2.1, bt257.2.2)))
theorem spec_l3Data.mono : ∀ a0 a1 a2 k, LeO (spec_l3Data.f k a0 a1 a2) (spec_l3Data.f (k + 1) a0 a1 a2) := by
 intro a0 a1 a2 k
 unfold spec_l3Data.f
 have m0_ := @spec_l1Bytes.mono
 exact mM
set_option maxHeartbeats 8000000 in
set_option maxRecDepth 100000 in
theorem spec_l3Data.calls (k : Nat) (g : Nat) (s0_0 : List Int) (s0_1 : Int) (s0_2 : Int) (r1 : ByteArray) (r2 : Int) (r3 : Int) (w0 w : World) (hI : IsS123 w0 w g s0_0 s0_1 s0_2) (hB : Below w0.heap.size w0 w) (h : spec_l3Data.f k s0_0 s0_1 s0_2 = some (r1, r2, r3)) :
  Calls Try.prog 96 #[.pointer (some ⟨g, 0, none⟩)] w fun e w' => e = .returned (.string r1) ∧ IsS123 w0 w' g s0_0 r2 r3 ∧ Below w0.heap.size w0 w' ∧ KeepBut w w' g none := by
 have HI0 := aM hI
 have GEg_ := aM (IsS123.ge hI)
 have HK := aM (KeepBut.refl w g none)
 have HL := aM hB.size
 clear hI
 have HW0 := aM hB.size
 have HB := aM hB
 clear hB
 unfold spec_l3Data.f at h
 have H := h
 clear h
 replace H := Option.bind_eq_some_iff.mp H
 obtain ⟨⟨t249, t252, t253⟩, A20, H⟩ := H
 try dsimp only at H
 have A2 := aM A20
 clear A20
 obtain ⟨y254, hy254⟩ : ∃ y_ : List ByteArray, y_ = (([(⟨#[]⟩ : ByteArray), (⟨#[97]⟩ : ByteArray), (⟨#[98, 99]⟩ : ByteArray), (⟨#[100, 101, 102]⟩ : ByteArray), strOfNums t249] : List ByteArray)) := ⟨_, rfl⟩
 replace H : ((spec_l1Pick.f s0_0 t252 t253 y254).bind fun bt257 => (some (bt257.1, bt257.2.1, bt257.2.2))) = some (r1, r2, r3) := by first | (rw [hy254]; with_reducible exact H) | (have H2_ := (Option.bind_some _ _).symm.trans H; rw [hy254]; with_reducible exact H2_) | (have H2_ := (Option.bind_some _ _).symm.trans H; with_reducible exact H2_) | with_reducible exact H | (rw [hy254]; exact H) | exact H
 have Ny254 := aM hy254
 clear hy254
 replace H := Option.bind_eq_some_iff.mp H
 obtain ⟨⟨t257, t258, t259⟩, A30, H⟩ := H
 try dsimp only at H
 have A3 := aM A30
 clear A30
 simp only [Option.some.injEq, Prod.mk.injEq] at H
 obtain ⟨rfl, rfl, rfl⟩ := H
 go_enter Try.func96, Try.ntmps96
 go_wp2_with (first | ((with_reducible refine gate_callee (f := 123) rfl ?_); refine gL (some 5) Try.func123 #[.pointer (some ⟨g, 0, none⟩), .int .i64 5] ?_; (with_reducible refine (spec_l1Bytes.calls k g s0_0 s0_1 s0_2 5 t249 t252 t253 w0 _ ?side1 ?side2 A2.out).mono ?_); (case side1 => repeat (first | (with_reducible first | exact HI0.out | apply IsS123.alloc | apply IsS123.drewN | apply IsS123.drew | apply IsS123.set_1 | apply IsS123.set_2) | exact HI0.out)); (case side2 => repeat (first | (with_reducible first | exact HB.out | apply below_alloc | apply pw_below_drewN | apply below_drew1 | refine below_set ?_ (IsS123.ge HI0.out)) | exact HB.out)); rintro e w4 ⟨v250, rfl, ho0, hi, hb, hk⟩; refine ⟨_, rfl, ?_⟩; have n_ := aI (aM (Kd.R_lower ho0 (keep_size (w := w) (g := g) (row := none) (bK HK)))) (aI (aM (KeepBut.trans (bK HK) hk (.inl rfl))) (aI (aM (hb)) (aM (hi)))); clear HK HB HI0; obtain ⟨HO251, HK, HB, HI0⟩ := n_; (try clear hb hk hi ho0); have hcv5 := own_string (P := Try.prog) Try.underlying60 Try.underlying5 Try.underlying9 (Kd.own_of_R HO251.out)) | ((with_reducible refine gate_dst (N := 7) rfl ?_); refine Kd.R_lit Kd.string _ 9 ?hg (N := 7) ?hd (xs := ([(⟨#[]⟩ : ByteArray), (⟨#[97]⟩ : ByteArray), (⟨#[98, 99]⟩ : ByteArray), (⟨#[100, 101, 102]⟩ : ByteArray), strOfNums t249] : List ByteArray)) (inner := [.string (⟨#[]⟩ : ByteArray), .string (⟨#[97]⟩ : ByteArray), .string (⟨#[98, 99]⟩ : ByteArray), .string (⟨#[100, 101, 102]⟩ : ByteArray), .string (strOfNums t249)]) (ok := fun _ => True) (okp := fun _ => True) ?hr ?hp (fun _ hk => hk) trivial (Below.refl _ _) (Nat.le_refl _) (by simp) ?_; (case hd => rfl); (case hg => rfl); (case hr => first | (go_simp; done) | (go_simp; rfl)); (case hp => exact (Reps.one (show Kd.M Kd.string _ _ _ (⟨#[]⟩ : ByteArray) [.string (⟨#[]⟩ : ByteArray)] from rfl) (Reps.one (show Kd.M Kd.string _ _ _ (⟨#[97]⟩ : ByteArray) [.string (⟨#[97]⟩ : ByteArray)] from rfl) (Reps.one (show Kd.M Kd.string _ _ _ (⟨#[98, 99]⟩ : ByteArray) [.string (⟨#[98, 99]⟩ : ByteArray)] from rfl) (Reps.one (show Kd.M Kd.string _ _ _ (⟨#[100, 101, 102]⟩ : ByteArray) [.string (⟨#[100, 101, 102]⟩ : ByteArray)] from rfl) (Reps.one (show Kd.M Kd.string _ _ _ (strOfNums t249) [.string (strOfNums t249)] from rfl) (Reps.none _ _))))))); intro v255 w6 ho7 hb hg_ hnew_; clear hg_ hnew_; (first | rw [← Ny254.out] at ho7 | (simp only [Int.reduceToNat] at ho7; rw [← Ny254.out] at ho7)); have n_ := aI (rB HO251 hb) (aI (aM (Kd.R_lower ho7 (keep_size (w := w) (g := g) (row := none) (bK HK)))) (aI (aM (IsS123.below (IsS123.iI HI0) hb)) (aI (aM (KeepBut.trans (bK HK) (KeepBut.of_below hb g none) (.inl rfl))) (sB HB hb)))); clear HO251 HI0 HK HB; obtain ⟨HO251, HO256, HI0, HK, HB⟩ := n_; (try clear hb ho7); obtain ⟨Ao8, co8, eo8⟩ := Kd.R_slice HO256.out; subst eo8) | ((with_reducible refine gate_callee (f := 122) rfl ?_); refine gL (some 8) Try.func122 #[.pointer (some ⟨g, 0, none⟩), .slice Ao8 y254.length co8] ?_; (with_reducible refine (spec_l1Pick.calls g s0_0 t252 t253 _ _ y254 t257 t258 t259 w0 _ ?side1 ?side2 ?side3 ?side4 ?side5 A3.out).mono ?_); (case side1 => repeat (first | (with_reducible first | exact HI0.out | apply IsS123.alloc | apply IsS123.drewN | apply IsS123.drew | apply IsS123.set_1 | apply IsS123.set_2) | exact HI0.out)); (case side2 => repeat (first | (with_reducible first | exact HB.out | apply below_alloc | apply pw_below_drewN | apply below_drew1 | refine below_set ?_ (IsS123.ge HI0.out)) | exact HB.out)); (case side3 => exact cR HO256); (case side4 => exact (Kd.R_reads' HO256.out).2.1); (case side5 => exact far_slice (IsS123.own_ne HI0.out HO256.out (by decide))); rintro e w9 ⟨rfl, hi, hb, hk⟩; refine ⟨_, rfl, ?_⟩; have n_ := aI (aM (Kd.R_mono (Kd.R_keep (IsS123.apart (show IsS123 w0 _ g s0_0 t252 t253 from IsS123.iI HI0) (rP HO251.out) (by decide)) hk (fun _ h => h.2)) (fun _ h => h.1))) (aI (aM (Kd.R_mono (Kd.R_keep (IsS123.apart (show IsS123 w0 _ g s0_0 t252 t253 from IsS123.iI HI0) (rP HO256.out) (by decide)) hk (fun _ h => h.2)) (fun _ h => h.1))) (aI (aM (KeepBut.trans (bK HK) hk (.inl rfl))) (aI (aM (hb)) (aM (hi))))); clear HO251 HO256 HK HB HI0; obtain ⟨HO251, HO256, HK, HB, HI0⟩ := n_; (try clear hb hk hi)))
 go_ret
 exact ⟨eW, IsS123.iI HI0, bB, bK HK⟩

/-! ### spec_DiskNew: function 124 -/
def spec_DiskNew.f (a0 : Int) : Option (List ByteArray × (List (S65)) × Bool) := (spec_l1In.f a0 1 120).bind fun t261 => (if t261 = true then (if 0 ≤ a0 then (if (a0 : Int).toNat ≤ 17592186044416 then (some ((List.replicate (a0 : Int).toNat (⟨#[]⟩ : ByteArray)), ([] : List (S65)), true)) else (none)) else (none)) else (some (([] : List ByteArray), ([] : List (S65)), false)))
set_option maxHeartbeats 8000000 in
set_option maxRecDepth 100000 in
theorem spec_DiskNew.calls (a0 : Int) (r1 : List ByteArray) (r2 : List (S65)) (r3 : Bool) (w : World) (h : spec_DiskNew.f a0 = some (r1, r2, r3)) :
  Calls Try.prog 124 #[.int .i64 a0] w fun e w' => ∃ v0_ v1_ : Value, e = .returned (.tuple #[.agg #[v0_, v1_], .bool r3]) ∧ Kd.R Kd.string 9 w' w.heap.size (fun _ => True) v0_ r1 ∧ Kd.R k65 65 w' w.heap.size (fun _ => True) v1_ r2 ∧ Below w.heap.size w w' := by
 have hu30 := Try.underlying30
 have HB := aM (Below.refl w.heap.size w)
 unfold spec_DiskNew.f at h
 have H := h
 clear h
 replace H := Option.bind_eq_some_iff.mp H
 obtain ⟨t261, A20, H⟩ := H
 try dsimp only at H
 have A2 := aM A20
 clear A20
 by_cases c3 : t261 = true
 ·subst c3
  rw [if_pos rfl] at H
  by_cases c4 : 0 ≤ a0
  ·rw [if_pos c4] at H
   have c4b0 := eq_true c4
   have c4b1 : decide (0 ≤ a0) = true := decide_eq_true c4
   clear c4
   by_cases c5 : (a0 : Int).toNat ≤ 17592186044416
   ·rw [if_pos c5] at H
    have c5b0 := eq_true c5
    have c5b1 : decide ((a0 : Int).toNat ≤ 17592186044416) = true := decide_eq_true c5
    clear c5
    obtain ⟨y262, hy262⟩ : ∃ y_ : List ByteArray, y_ = (List.replicate (a0 : Int).toNat (⟨#[]⟩ : ByteArray)) := ⟨_, rfl⟩
    replace H : (some (y262, ([] : List (S65)), true)) = some (r1, r2, r3) := by first | (rw [hy262]; with_reducible exact H) | (have H2_ := (Option.bind_some _ _).symm.trans H; rw [hy262]; with_reducible exact H2_) | (have H2_ := (Option.bind_some _ _).symm.trans H; with_reducible exact H2_) | with_reducible exact H | (rw [hy262]; exact H) | exact H
    have Ny262 := aM hy262
    clear hy262
    simp only [Option.some.injEq, Prod.mk.injEq] at H
    obtain ⟨rfl, rfl, rfl⟩ := H
    go_enter Try.func124, Try.ntmps124
    go_wp2_with (first | ((with_reducible refine gate_dst (N := 2) rfl ?_); refine bE 2 #[.slice none 0 0, .slice none 0 0] 30 ?_; intro gb260 hg w6 hbox hb; have n_ := aI (sB HB hb) (aI (aM hbox) (aI (gE HB hg) (gE HB hg))); clear HB; obtain ⟨HB, BK260, GW260, GE260⟩ := n_; (try clear hb hbox hg)) | ((with_reducible refine gate_callee (f := 69) rfl ?_); refine gL (some 5) Try.func69 #[.int .i64 a0, .int .i64 1, .int .i64 120] ?_; (with_reducible refine (spec_l1In.calls a0 1 120 true _ A2.out).mono ?_); rintro e w' ⟨rfl, ⟨nd, rfl⟩⟩; refine ⟨_, rfl, ?_⟩; (try (rw [drewN_self w6]; generalize hq_ : World.drewN w6 _ = w6; have n0_ : Aside0 (w6.heap[gb260]? = some (.cells #[.slice none 0 0, .slice none 0 0] 30 (0, 0))) := ⟨by rw [← hq_]; exact (kP BK260)⟩; have n1_ : Aside0 (Below w.heap.size w w6) := ⟨by rw [← hq_]; exact bB⟩; clear BK260 HB hq_; have BK260 := n0_; have HB := n1_; clear n0_ n1_))) | ((with_reducible refine gate_dst (N := 9) rfl ?_); refine Kd.R_make Kd.string _ 9 rfl (N := 9) rfl 22 _ _ rfl a0 rfl rfl Try.underlying22 (.string ⟨#[]⟩) 16 info9 rfl (by decide) (by omega) (⟨#[]⟩ : ByteArray) (ok := fun _ => True) (okp := fun _ => True) rfl (fun _ hk => hk) trivial (dT) (Nat.le_trans (Nat.mul_le_mul_right _ (dT : a0.toNat ≤ 17592186044416)) (by omega)) (Below.refl _ _) (Nat.le_refl _) ?_; intro v263 w7 ho8 hb hg_ hnew_; clear hg_ hnew_; (first | rw [← Ny262.out] at ho8 | (simp only [Int.reduceToNat] at ho8; rw [← Ny262.out] at ho8)); have n_ := aI (lR HB ho8) (aI (kB BK260 hb) (sB HB hb)); clear BK260 HB; obtain ⟨HO264, BK260, HB⟩ := n_; (try clear hb ho8); obtain ⟨Ao9, co9, eo9⟩ := Kd.R_slice HO264.out; subst eo9; have hcz10_0 := cZ0 BK260; have hcz10_1 := cZ1 BK260; have hfz10_0 := blk_frozen BK260.out 0; have hfz10_1 := blk_frozen BK260.out 1))
    refine bodyPost_ret (results_ct rfl _ _ gb260 30 #[.slice Ao9 y262.length co9, .slice none 0 0] (0, 0) _ rfl (by (with_reducible repeat (first | refine blk_drewN ?_ _ | refine blk_drew ?_ | refine blk_alloc ?_ _)); refine blk_put (cs := #[.slice Ao9 y262.length co9, .slice none 0 0]) ?_ 1 _ rfl; (with_reducible repeat (first | refine blk_drewN ?_ _ | refine blk_drew ?_ | refine blk_alloc ?_ _)); refine blk_put (cs := #[.slice none 0 0, .slice none 0 0]) ?_ 0 _ rfl; (with_reducible repeat (first | refine blk_drewN ?_ _ | refine blk_drew ?_ | refine blk_alloc ?_ _)); exact BK260.out) Try.underlying30 rfl (by kernel_rfl)) rfl ?_
    exact ⟨_, _, eW, by (with_reducible repeat (first | apply Kd.R_alloc | apply Kd.R_drewN | apply Kd.R_drew)); exact Kd.R_mono (Kd.R_far (p := ⟨gb260, 1, none⟩) (Kd.R_far (p := ⟨gb260, 0, none⟩) (Kd.R_types HO264.out BK260.out (by decide)) (fun _ hk => hk.2) (.slice Ao9 y262.length co9)) (fun _ hk => hk.2) (.slice none 0 0)) (fun _ hk => trivial), by first | exact Kd.R_nil _ _ _ _ _ | exact Kd.N_nil _ _ _ _ _ | exact Kd.V_nil _ _ _ _ _ | exact Kd.Q_nil _ _ _ _ _ | exact Kd.S_nil _ _ _ _ _, bB⟩
   rw [if_neg c5] at H
   exact absurd H (by simp)
  rw [if_neg c4] at H
  exact absurd H (by simp)
 replace c3 := Bool.eq_false_iff.mpr c3
 subst c3
 rw [if_neg (show ¬ (false = true) by decide)] at H
 simp only [Option.some.injEq, Prod.mk.injEq] at H
 obtain ⟨rfl, rfl, rfl⟩ := H
 go_enter Try.func124, Try.ntmps124
 go_wp2_with (first | ((with_reducible refine gate_dst (N := 2) rfl ?_); refine bE 2 #[.slice none 0 0, .slice none 0 0] 30 ?_; intro gb260 hg w11 hbox hb; have n_ := aI (sB HB hb) (aI (aM hbox) (aI (gE HB hg) (gE HB hg))); clear HB; obtain ⟨HB, BK260, GW260, GE260⟩ := n_; (try clear hb hbox hg)) | ((with_reducible refine gate_callee (f := 69) rfl ?_); refine gL (some 5) Try.func69 #[.int .i64 a0, .int .i64 1, .int .i64 120] ?_; (with_reducible refine (spec_l1In.calls a0 1 120 false _ A2.out).mono ?_); rintro e w' ⟨rfl, ⟨nd, rfl⟩⟩; refine ⟨_, rfl, ?_⟩; (try (rw [drewN_self w11]; generalize hq_ : World.drewN w11 _ = w11; have n0_ : Aside0 (w11.heap[gb260]? = some (.cells #[.slice none 0 0, .slice none 0 0] 30 (0, 0))) := ⟨by rw [← hq_]; exact (kP BK260)⟩; have n1_ : Aside0 (Below w.heap.size w w11) := ⟨by rw [← hq_]; exact bB⟩; clear BK260 HB hq_; have BK260 := n0_; have HB := n1_; clear n0_ n1_)); have hcz12_0 := cZ0 BK260; have hcz12_1 := cZ1 BK260; have hfz12_0 := blk_frozen BK260.out 0; have hfz12_1 := blk_frozen BK260.out 1))
 refine bodyPost_ret (results_ct rfl _ _ gb260 30 #[.slice none 0 0, .slice none 0 0] (0, 0) _ rfl (by (with_reducible repeat (first | refine blk_drewN ?_ _ | refine blk_drew ?_ | refine blk_alloc ?_ _)); refine blk_put (cs := #[.slice none 0 0, .slice none 0 0]) ?_ 1 _ rfl; (with_reducible repeat (first | refine blk_drewN ?_ _ | refine blk_drew ?_ | refine blk_alloc ?_ _)); refine blk_put (cs := #[.slice none 0 0, .slice none 0 0]) ?_ 0 _ rfl; (with_reducible repeat (first | refine blk_drewN ?_ _ | refine blk_drew ?_ | refine blk_alloc ?_ _)); exact BK260.out) Try.underlying30 rfl (by kernel_rfl)) rfl ?_
 exact ⟨_, _, eW, by first | exact Kd.R_nil _ _ _ _ _ | exact Kd.N_nil _ _ _ _ _ | exact Kd.V_nil _ _ _ _ _ | exact Kd.Q_nil _ _ _ _ _ | exact Kd.S_nil _ _ _ _ _, by first | exact Kd.R_nil _ _ _ _ _ | exact Kd.N_nil _ _ _ _ _ | exact Kd.V_nil _ _ _ _ _ | exact Kd.Q_nil _ _ _ _ _ | exact Kd.S_nil _ _ _ _ _, bB⟩

/-! ### spec_l3Right: function 119 -/
mutual
def spec_l3Right.l0 : Nat → Int → List Int → Int → Int → List ByteArray → List (S65) → Option (List ByteArray × (List (S65)) × Int × Int)
 | 0, _, _, _, _, _, _ => none
 | k + 1, x5, x1000, x1001, x1002, x280000, x280001 => if x5 < (x280000.length : Int) then ((spec_l3Data.f k x1000 x1001 x1002).bind fun bt280 => (if 0 ≤ x5 then (spec_l3Right.l0 k (wrap64 (x5 + 1)) x1000 bt280.2.1 bt280.2.2 (x280000.set (x5 : Int).toNat bt280.1) x280001) else (none))) else ((spec_l1Below.f x1000 x1001 x1002 6).bind fun bt284 => (spec_l3Right.l1 k bt284.1 0 x1000 bt284.2.1 bt284.2.2 x280000 x280001))
def spec_l3Right.l1 : Nat → Int → Int → List Int → Int → Int → List ByteArray → List (S65) → Option (List ByteArray × (List (S65)) × Int × Int)
 | 0, _, _, _, _, _, _, _ => none
 | k + 1, x6, x7, x1000, x1001, x1002, x280000, x280001 => if x7 < x6 then ((spec_l1Below.f x1000 x1001 x1002 (x280000.length : Int)).bind fun bt287 => ((spec_l3Data.f k x1000 bt287.2.1 bt287.2.2).bind fun bt290 => (if x280001.length < 5864062014805 then (spec_l3Right.l1 k x6 (wrap64 (x7 + 1)) x1000 bt290.2.1 bt290.2.2 x280000 (x280001 ++ [(⟨bt287.1, bt290.1⟩ : S65)])) else (none)))) else (some (x280000, x280001, x1001, x1002))
end
def spec_l3Right.f (k : Nat) (s0_0 : List Int) (s0_1 : Int) (s0_2 : Int) : Option (List ByteArray × (List (S65)) × Int × Int) := (spec_l1PickInt.f s0_0 s0_1 s0_2 (([1, 2, 5, 9] : List Int))).bind fun bt269 => ((spec_DiskNew.f bt269.1).bind fun bt272 => (spec_l3Right.l0 k 0 s0_0 bt269.2.1 bt269.2.2 bt272.1 bt272.2.1))
theorem spec_l3Right.mono_l : ∀ k, (∀ y0 y1 y2 y3 y4 y5, LeO (spec_l3Right.l0 k y0 y1 y2 y3 y4 y5) (spec_l3Right.l0 (k + 1) y0 y1 y2 y3 y4 y5)) ∧ (∀ y0 y1 y2 y3 y4 y5 y6, LeO (spec_l3Right.l1 k y0 y1 y2 y3 y4 y5 y6) (spec_l3Right.l1 (k + 1) y0 y1 y2 y3 y4 y5 y6))
 | 0 => ⟨fun _ _ _ _ _ _ r h => by simp [spec_l3Right.l0] at h, fun _ _ _ _ _ _ _ r h => by simp [spec_l3Right.l1] at h⟩
 | k + 1 => by
  obtain ⟨ih0, ih1⟩ := spec_l3Right.mono_l k
  refine ⟨?_, ?_⟩
  ·intro y0 y1 y2 y3 y4 y5
   unfold spec_l3Right.l0
   have m0_ := @spec_l3Data.mono
   exact mM
  ·intro y0 y1 y2 y3 y4 y5 y6
   unfold spec_l3Right.l1
   have m0_ := @spec_l3Data.mono
   exact mM
theorem spec_l3Right.mono : ∀ a0 a1 a2 k, LeO (spec_l3Right.f k a0 a1 a2) (spec_l3Right.f (k + 1) a0 a1 a2) := by
 intro a0 a1 a2 k
 obtain ⟨ih0, ih1⟩ := spec_l3Right.mono_l k
 unfold spec_l3Right.f
 have m0_ := @spec_l3Data.mono
 exact mM
def spec_l3Right.T10 : Bool × List (List Nat × List Nat) := (true, [([], []), ([0], [0]), ([], []), ([], []), ([3], [3]), ([4], [4]), ([2, 5], [2, 5]), ([], []), ([7, 6], [7]), ([6, 8], [6, 8]), ([9], [9]), ([1, 10, 8], [1, 10]), ([0, 1, 2, 3, 4, 5, 6, 7, 8, 9, 10, 11], []), ([12, 11, 11, 0, 1, 2, 3, 4, 5, 6, 7, 8, 9, 10, 11], [11, 12])])
def spec_l3Right.B10 : List Nat := [0, 1, 0, 0, 8, 24, 60, 0, 252, 508, 1020, 2047, 4095, 8191]
theorem spec_l3Right.tab10 : rtab .any (opsOf Try.f119 10) = spec_l3Right.T10 := by kernel_rfl
theorem spec_l3Right.bits10 : waitsOk spec_l3Right.T10.2 spec_l3Right.B10 = true := by kernel_rfl
set_option maxHeartbeats 8000000 in
set_option maxRecDepth 100000 in
theorem spec_l3Right.calls (k : Nat) (g : Nat) (s0_0 : List Int) (s0_1 : Int) (s0_2 : Int) (r1 : List ByteArray) (r2 : List (S65)) (r3 : Int) (r4 : Int) (w0 w : World) (hI : IsS123 w0 w g s0_0 s0_1 s0_2) (hB : Below w0.heap.size w0 w) (h : spec_l3Right.f k s0_0 s0_1 s0_2 = some (r1, r2, r3, r4)) :
  Calls Try.prog 119 #[.pointer (some ⟨g, 0, none⟩)] w fun e w' => ∃ v0_ v1_ : Value, e = .returned (.agg #[v0_, v1_]) ∧ Kd.R Kd.string 9 w' w.heap.size (fun _ => True) v0_ r1 ∧ Kd.R k65 65 w' w.heap.size (fun _ => True) v1_ r2 ∧ IsS123 w0 w' g s0_0 r3 r4 ∧ Below w0.heap.size w0 w' ∧ KeepBut w w' g none := by
 have hu30 := Try.underlying30
 have hu65 := Try.underlying65
 have HI0 := aM hI
 have GEg_ := aM (IsS123.ge hI)
 have HK := aM (KeepBut.refl w g none)
 have HL := aM hB.size
 clear hI
 have HW0 := aM hB.size
 have HB := aM hB
 clear hB
 unfold spec_l3Right.f at h
 have H := h
 clear h
 obtain ⟨y266, hy266⟩ : ∃ y_ : List Int, y_ = (([1, 2, 5, 9] : List Int)) := ⟨_, rfl⟩
 replace H : ((spec_l1PickInt.f s0_0 s0_1 s0_2 y266).bind fun bt269 => ((spec_DiskNew.f bt269.1).bind fun bt272 => (spec_l3Right.l0 k 0 s0_0 bt269.2.1 bt269.2.2 bt272.1 bt272.2.1))) = some (r1, r2, r3, r4) := by first | (rw [hy266]; with_reducible exact H) | (have H2_ := (Option.bind_some _ _).symm.trans H; rw [hy266]; with_reducible exact H2_) | (have H2_ := (Option.bind_some _ _).symm.trans H; with_reducible exact H2_) | with_reducible exact H | (rw [hy266]; exact H) | exact H
 have Ny266 := aM hy266
 clear hy266
 replace H := Option.bind_eq_some_iff.mp H
 obtain ⟨⟨t269, t270, t271⟩, A20, H⟩ := H
 try dsimp only at H
 have A2 := aM A20
 clear A20
 replace H := Option.bind_eq_some_iff.mp H
 obtain ⟨⟨t272, t275, t278⟩, A30, H⟩ := H
 try dsimp only at H
 have A3 := aM A30
 clear A30
 have H' := aM H
 clear H
 go_enter Try.func119, Try.ntmps119
 go_wp2_with (first | ((with_reducible refine gate_dst (N := 2) rfl ?_); refine bE 2 #[.slice none 0 0, .slice none 0 0] 30 ?_; intro gb265 hg w4 hbox hb; have n_ := aI (aM (IsS123.below (IsS123.iI HI0) hb)) (aI (aM (KeepBut.trans (bK HK) (KeepBut.of_below hb g none) (.inl rfl))) (aI (sB HB hb) (aI (aM hbox) (aI (aM ((by rw [hg]; exact (keep_size (w := w) (g := g) (row := none) (bK HK)) : w.heap.size ≤ gb265))) (aI (aM ((Nat.le_trans HW0.out (by rw [hg]; exact (keep_size (w := w) (g := g) (row := none) (bK HK)) : w.heap.size ≤ gb265) : w0.heap.size ≤ gb265))) (aI (aM ((by rw [hg]; exact Nat.ne_of_lt (IsS123.lt (show IsS123 w0 _ g s0_0 s0_1 s0_2 from IsS123.iI HI0)) : g ≠ gb265))) (aM ((by rw [hg]; exact Nat.ne_of_gt (IsS123.lt (show IsS123 w0 _ g s0_0 s0_1 s0_2 from IsS123.iI HI0)) : gb265 ≠ g))))))))); clear HI0 HK HB; obtain ⟨HI0, HK, HB, BK265, GW265, GE265, NB0_265, NB265_0⟩ := n_; (try clear hb hbox hg)) | ((with_reducible refine gate_dst (N := 10) rfl ?_); refine Kd.R_lit (Kd.int .i64) _ 3 ?hg (N := 10) ?hd (xs := ([1, 2, 5, 9] : List Int)) (inner := [.int .i64 1, .int .i64 2, .int .i64 5, .int .i64 9]) (ok := fun _ => True) (okp := fun _ => True) ?hr ?hp (fun _ hk => hk) trivial (Below.refl _ _) (Nat.le_refl _) (by simp) ?_; (case hd => rfl); (case hg => rfl); (case hr => first | (go_simp; done) | (go_simp; rfl)); (case hp => exact (Reps.one (show Kd.M (Kd.int .i64) _ _ _ 1 [.int .i64 1] from rfl) (Reps.one (show Kd.M (Kd.int .i64) _ _ _ 2 [.int .i64 2] from rfl) (Reps.one (show Kd.M (Kd.int .i64) _ _ _ 5 [.int .i64 5] from rfl) (Reps.one (show Kd.M (Kd.int .i64) _ _ _ 9 [.int .i64 9] from rfl) (Reps.none _ _)))))); intro v267 w5 ho6 hb hg_ hnew_; clear hg_ hnew_; (first | rw [← Ny266.out] at ho6 | (simp only [Int.reduceToNat] at ho6; rw [← Ny266.out] at ho6)); have n_ := aI (aM (Kd.R_lower ho6 (keep_size (w := w) (g := g) (row := none) (bK HK)))) (aI (aM (IsS123.below (IsS123.iI HI0) hb)) (aI (kB BK265 hb) (aI (aM (KeepBut.trans (bK HK) (KeepBut.of_below hb g none) (.inl rfl))) (sB HB hb)))); clear HI0 BK265 HK HB; obtain ⟨HO268, HI0, BK265, HK, HB⟩ := n_; (try clear hb ho6); obtain ⟨Ao7, co7, eo7⟩ := Kd.R_slice HO268.out; subst eo7) | ((with_reducible refine gate_callee (f := 98) rfl ?_); refine gL (some 11) Try.func98 #[.pointer (some ⟨g, 0, none⟩), .slice Ao7 y266.length co7] ?_; (with_reducible refine (spec_l1PickInt.calls g s0_0 s0_1 s0_2 _ _ y266 t269 t270 t271 w0 _ ?side1 ?side2 ?side3 ?side4 ?side5 A2.out).mono ?_); (case side1 => repeat (first | (with_reducible first | exact HI0.out | apply IsS123.alloc | apply IsS123.drewN | apply IsS123.drew | apply IsS123.set_1 | apply IsS123.set_2 | refine IsS123.far ?_ NB0_265.out _) | exact HI0.out)); (case side2 => repeat (first | (with_reducible first | exact HB.out | apply below_alloc | apply pw_below_drewN | apply below_drew1 | refine below_set ?_ (IsS123.ge HI0.out) | refine below_set ?_ GE265.out) | exact HB.out)); (case side3 => exact cR HO268); (case side4 => exact (Kd.R_reads' HO268.out).2.1); (case side5 => exact far_slice (IsS123.own_ne HI0.out HO268.out (by decide))); rintro e w8 ⟨rfl, hi, hb, hk⟩; refine ⟨_, rfl, ?_⟩; have n_ := aI (aM (KeepBut.blk hk (g' := gb265) (o := .cells #[.slice none 0 0, .slice none 0 0] 30 (0, 0)) (kP BK265) NB265_0.out (by simp))) (aI (aM (Kd.R_mono (Kd.R_keep (IsS123.apart (show IsS123 w0 _ g s0_0 s0_1 s0_2 from IsS123.iI HI0) (rP HO268.out) (by decide)) hk (fun _ h => h.2)) (fun _ h => h.1))) (aI (aM (KeepBut.trans (bK HK) hk (.inl rfl))) (aI (aM (hb)) (aM (hi))))); clear BK265 HO268 HK HB HI0; obtain ⟨BK265, HO268, HK, HB, HI0⟩ := n_; (try clear hb hk hi)) | ((with_reducible refine gate_callee (f := 124) rfl ?_); refine gL (some 12) Try.func124 #[.int .i64 t269] ?_; (with_reducible refine (spec_DiskNew.calls t269 t272 t275 t278 _ A3.out).mono ?_); rintro e w9 ⟨v273, v276, rfl, ho0, ho1, hb⟩; refine ⟨_, rfl, ?_⟩; have n_ := aI (rB HO268 hb) (aI (aM (Kd.R_lower ho0 (keep_size (w := w) (g := g) (row := none) (bK HK)))) (aI (aM (Kd.R_lower ho1 (keep_size (w := w) (g := g) (row := none) (bK HK)))) (aI (aM (IsS123.below (IsS123.iI HI0) hb)) (aI (kB BK265 hb) (aI (aM (KeepBut.trans (bK HK) (KeepBut.of_below hb g none) (.inl rfl))) (sB HB hb)))))); clear HO268 HI0 BK265 HK HB; obtain ⟨HO268, HO274, HO277, HI0, BK265, HK, HB⟩ := n_; (try clear hb ho0 ho1)) | ((with_reducible refine gate_dst (N := 3) rfl ?_); refine bE 3 #[.slice none 0 0, .slice none 0 0] 30 ?_; intro gb279 hg w10 hbox hb; have n_ := aI (rB HO268 hb) (aI (rB HO274 hb) (aI (rB HO277 hb) (aI (aM (IsS123.below (IsS123.iI HI0) hb)) (aI (kB BK265 hb) (aI (aM (KeepBut.trans (bK HK) (KeepBut.of_below hb g none) (.inl rfl))) (aI (sB HB hb) (aI (aM hbox) (aI (aM ((by rw [hg]; exact (keep_size (w := w) (g := g) (row := none) (bK HK)) : w.heap.size ≤ gb279))) (aI (aM ((Nat.le_trans HW0.out (by rw [hg]; exact (keep_size (w := w) (g := g) (row := none) (bK HK)) : w.heap.size ≤ gb279) : w0.heap.size ≤ gb279))) (aI (nL BK265 hg) (aI (nG BK265 hg) (aI (aM ((by rw [hg]; exact Nat.ne_of_lt (IsS123.lt (show IsS123 w0 _ g s0_0 t270 t271 from IsS123.iI HI0)) : g ≠ gb279))) (aM ((by rw [hg]; exact Nat.ne_of_gt (IsS123.lt (show IsS123 w0 _ g s0_0 t270 t271 from IsS123.iI HI0)) : gb279 ≠ g))))))))))))))); clear HO268 HO274 HO277 HI0 BK265 HK HB; obtain ⟨HO268, HO274, HO277, HI0, BK265, HK, HB, BK279, GW279, GE279, NB265_279, NB279_265, NB0_279, NB279_0⟩ := n_; (try clear hb hbox hg); obtain ⟨Ao11, co11, eo11⟩ := Kd.R_slice HO274.out; subst eo11; have hnb12 := NB279_265.out; have hnc12 := NB265_279.out; have hnb13 := NB279_0.out; have hnc13 := NB0_279.out; have hcz14_0 := cZ0 BK279; have hcz14_1 := cZ1 BK279; have hfz14_0 := blk_frozen BK279.out 0; have hfz14_1 := blk_frozen BK279.out 1; obtain ⟨Ao15, co15, eo15⟩ := Kd.R_slice HO277.out; subst eo15))
 go_loopg [5] k (fun kq v5 w' => ∃ (x5_1 : Int) (x1001_1 : Int) (x1002_1 : Int) (x280000_1 : List ByteArray) (u280000 : Value), v5 = .int .i64 x5_1 ∧ Aside0 (spec_l3Right.l0 kq x5_1 s0_0 x1001_1 x1002_1 x280000_1 t275 = some (r1, r2, r3, r4)) ∧ Aside0 (kq ≤ k) ∧ Aside0 (Kd.R Kd.string 9 w' w.heap.size (fun _ => True) u280000 x280000_1) ∧ Aside0 (Kd.R k65 65 w' w.heap.size (fun _ => True) (.slice Ao15 t275.length co15) t275) ∧ Aside0 (w'.heap[gb265]? = some (.cells #[(.slice none 0 0), (.slice none 0 0)] 30 (0, 0))) ∧ Aside0 (w'.heap[gb279]? = some (.cells #[u280000, (.slice Ao15 t275.length co15)] 30 (0, 0))) ∧ Aside0 (IsS123 w0 w' g s0_0 x1001_1 x1002_1) ∧ Aside0 (KeepBut w w' g none) ∧ Aside0 (Below w0.heap.size w0 w'))
 case atStart => exact ⟨(0), (t270), (t271), (t272), (.slice Ao11 t272.length co11), (by first | rfl | (simp; done) | (simp [*]; done) | (simp; exact (by intro l_; cases l_ <;> rfl : ∀ l_ : List UInt8, l_.isEmpty = !(l_ != [])) _)), H', ⟨Nat.le_refl _⟩, ⟨rP (Kd.R_mono (Kd.R_far (p := ⟨gb279, 1, none⟩) (Kd.R_far (p := ⟨gb279, 0, none⟩) (Kd.R_types HO274.out BK279.out (by decide)) (fun _ hk => hk.2) (.slice Ao11 t272.length co11)) (fun _ hk => hk.2) (.slice Ao15 t275.length co15)) (fun _ hk => trivial))⟩, ⟨rP (Kd.R_mono (Kd.R_far (p := ⟨gb279, 1, none⟩) (Kd.R_far (p := ⟨gb279, 0, none⟩) (Kd.R_types HO277.out BK279.out (by decide)) (fun _ hk => hk.2) (.slice Ao11 t272.length co11)) (fun _ hk => hk.2) (.slice Ao15 t275.length co15)) (fun _ hk => trivial))⟩, ⟨kP BK265⟩, ⟨by (with_reducible repeat (first | refine blk_drewN ?_ _ | refine blk_drew ?_ | refine blk_alloc ?_ _)); refine blk_put (cs := #[.slice Ao11 t272.length co11, .slice none 0 0]) ?_ 1 _ rfl; (with_reducible repeat (first | refine blk_drewN ?_ _ | refine blk_drew ?_ | refine blk_alloc ?_ _)); refine blk_put (cs := #[.slice none 0 0, .slice none 0 0]) ?_ 0 _ rfl; (with_reducible repeat (first | refine blk_drewN ?_ _ | refine blk_drew ?_ | refine blk_alloc ?_ _)); exact BK279.out⟩, ⟨IsS123.iI HI0⟩, ⟨bK HK⟩, ⟨bB⟩⟩
 case round =>
  clear H'
  try clear c1
  try clear p2
  try clear c9
  try clear c11
  try clear c12
  try clear c13
  try clear hcz14_0
  try clear hcz14_1
  try clear hfz14_0
  try clear hfz14_1
  obtain ⟨x5_1, x1001_1, x1002_1, x280000_1, u280000, rfl, HA, HK1, HO_280000, HO_280001, BK265, BK279, HI0, HK, HB⟩ := hrel
  cases gk with
  | zero => exact absurd HA.out (by simp [spec_l3Right.l0])
  | succ k1 =>
   have H := HA.out
   clear HA
   simp only [spec_l3Right.l0] at H
   by_cases c16 : x5_1 < (x280000_1.length : Int)
   ·rw [if_pos c16] at H
    have c16b0 : decide (x5_1 < (x280000_1.length : Int)) = true := decide_eq_true c16
    clear c16
    replace H := Option.bind_eq_some_iff.mp H
    obtain ⟨⟨t280, t281, t282⟩, A170, H⟩ := H
    try dsimp only at H
    have A17 := aM A170
    clear A170
    by_cases c18 : 0 ≤ x5_1
    ·rw [if_pos c18] at H
     have c18b0 : decide (0 ≤ x5_1) = true := decide_eq_true c18
     clear c18
     obtain ⟨y283, hy283⟩ : ∃ y_ : List ByteArray, y_ = (x280000_1.set (x5_1 : Int).toNat t280) := ⟨_, rfl⟩
     replace H : (spec_l3Right.l0 k1 (wrap64 (x5_1 + 1)) s0_0 t281 t282 y283 t275) = some (r1, r2, r3, r4) := by first | (rw [hy283]; with_reducible exact H) | (have H2_ := (Option.bind_some _ _).symm.trans H; rw [hy283]; with_reducible exact H2_) | (have H2_ := (Option.bind_some _ _).symm.trans H; with_reducible exact H2_) | with_reducible exact H | (rw [hy283]; exact H) | exact H
     have Ny283 := aM hy283
     clear hy283
     have H' := aM H
     clear H
     have hnb20 := NB279_265.out
     have hnc20 := NB265_279.out
     have hnb21 := NB279_0.out
     have hnc21 := NB0_279.out
     have hcz22_0 := cZ0 BK279
     have hcz22_1 := cZ1 BK279
     have hfz22_0 := blk_frozen BK279.out 0
     have hfz22_1 := blk_frozen BK279.out 1
     obtain ⟨Ao23, co23, eo23⟩ := Kd.R_slice HO_280000.out
     subst eo23
     try go_wp2
     have n0_ := aM (Kd.R_drew HO_280000.out)
     have n1_ := aM (Kd.R_drew HO_280001.out)
     have n2_ := aM (blk_drew BK265.out)
     have n3_ := aM (blk_drew BK279.out)
     have n4_ := aM (IsS123.drew HI0.out)
     have n5_ := aM (keep_drew HK.out)
     have n6_ := aM (below_drew1 HB.out)
     clear HO_280000
     clear HO_280001
     clear BK265
     clear BK279
     clear HI0
     clear HK
     clear HB
     have HO_280000 := n0_
     have HO_280001 := n1_
     have BK265 := n2_
     have BK279 := n3_
     have HI0 := n4_
     have HK := n5_
     have HB := n6_
     clear n0_ n1_ n2_ n3_ n4_ n5_ n6_
     refine start_ (n := 7) (S := fun w' => w'.cell? ⟨gb279, 0, none⟩ = some (.slice Ao23 x280000_1.length co23) ∧ w'.cell? ⟨gb279, 1, none⟩ = some (.slice Ao15 t275.length co15)) (ds := [6]) #[tF, tF, tF, tF, tF, tF, tF] (by kernel_rfl) rfl rfl ⟨(blk_cell BK279.out 0).trans rfl, (blk_cell BK279.out 1).trans rfl⟩ (fun hHeld => ?_)
     generalize wr.drew = w24 at HO_280000 HO_280001 BK265 BK279 HI0 HK HB hHeld ⊢
     refine pure_ (i := 0) (N := some 22) (v := ?_) (a' := ?_) #[tT, tF, tF, tF, tF, tF, tF] rfl rfl (by kernel_rfl) (fun _ _ _ h => h) (Or.inl ⟨by rfl, ?_⟩) ?_ ?_
     rotate_left
     ·intro w'
      go_simp
      with_reducible rfl
     rotate_left
     ·simp only [Act.put, List.setIfInBounds_toArray, List.set_cons_zero, List.set_cons_succ, i64_w, i32_w]
      rfl
     refine pure_ (i := 2) (N := some 24) (v := ?_) (a' := ?_) #[tT, tF, tT, tF, tF, tF, tF] rfl rfl (by kernel_rfl) (fun _ _ _ h => h) (Or.inl ⟨by rfl, ?_⟩) ?_ ?_
     rotate_left
     ·intro w'
      go_simp
      with_reducible rfl
     rotate_left
     ·simp only [Act.put, List.setIfInBounds_toArray, List.set_cons_zero, List.set_cons_succ, i64_w, i32_w]
      rfl
     refine pure_ (i := 3) (N := some 25) (v := ?_) (a' := ?_) #[tT, tF, tT, tT, tF, tF, tF] rfl rfl (by kernel_rfl) (fun _ _ _ h => h) (Or.inl ⟨by rfl, ?_⟩) ?_ ?_
     rotate_left
     ·intro w'
      go_simp
      with_reducible rfl
     rotate_left
     ·simp only [Act.put, List.setIfInBounds_toArray, List.set_cons_zero, List.set_cons_succ, i64_w, i32_w]
      rfl
     refine take_ (i := 1) (N := some 23) (v := ?_) (a' := ?_) #[tT, tT, tT, tT, tF, tF, tF] rfl rfl (by kernel_rfl) (fun _ _ _ h => h) (Or.inl ⟨by rfl, ?_⟩) hHeld ?_ ?_
     rotate_left
     ·rintro w' ⟨s0, s1⟩
      go_simp
      with_reducible rfl
     rotate_left
     ·simp only [Act.put, List.setIfInBounds_toArray, List.set_cons_zero, List.set_cons_succ, i64_w, i32_w]
      rfl
     refine one_ (i := 4) (N := some 26) #[tT, tT, tT, tT, tT, tF, tF] rfl rfl (by kernel_rfl) (by decide) (fun K hK => ?_)
     refine goes_ Try.func96 (by kernel_rfl) rfl #[.pointer (some ⟨g, 0, none⟩)] (by rfl) rfl rfl (by (try simp only [List.map_toArray, List.map_cons, List.map_nil]); first | done | rfl | (simp only [List.length_drop, List.length_take]; rfl)) ?_
     with_reducible refine (spec_l3Data.calls k1 g s0_0 x1001_1 x1002_1 t280 t281 t282 w0 _ ?side1 ?side2 A17.out).mono ?_
     (case side1 => repeat (first | (with_reducible first | exact HI0.out | apply IsS123.alloc | apply IsS123.drewN | apply IsS123.drew | apply IsS123.set_1 | apply IsS123.set_2 | refine IsS123.far ?_ NB0_265.out _ | refine IsS123.far ?_ NB0_279.out _) | exact HI0.out))
     (case side2 => repeat (first | (with_reducible first | exact HB.out | apply below_alloc | apply pw_below_drewN | apply below_drew1 | refine below_set ?_ (IsS123.ge HI0.out) | refine below_set ?_ GE265.out | refine below_set ?_ GE279.out) | exact HB.out))
     rintro e w25 ⟨rfl, hi, hb, hk⟩
     refine ⟨_, rfl, ?_⟩
     have n0_ := aM (Kd.R_mono (Kd.R_keep (IsS123.apart (show IsS123 w0 _ g s0_0 x1001_1 x1002_1 from IsS123.iI HI0) (rP HO_280000.out) (by decide)) hk (fun _ h => h.2)) (fun _ h => h.1))
     have n1_ := aM (Kd.R_mono (Kd.R_keep (IsS123.apart (show IsS123 w0 _ g s0_0 x1001_1 x1002_1 from IsS123.iI HI0) (rP HO_280001.out) (by decide)) hk (fun _ h => h.2)) (fun _ h => h.1))
     have n2_ := aM (KeepBut.blk hk (g' := gb265) (o := .cells #[.slice none 0 0, .slice none 0 0] 30 (0, 0)) (kP BK265) NB265_0.out (by simp))
     have n3_ := aM (KeepBut.blk hk (g' := gb279) (o := .cells #[.slice Ao23 x280000_1.length co23, .slice Ao15 t275.length co15] 30 (0, 0)) (kP BK279) NB279_0.out (by simp))
     have n4_ := aM (KeepBut.trans (bK HK) hk (.inl rfl))
     have n5_ := aM (hb)
     have n6_ := aM (hi)
     clear HO_280000
     clear HO_280001
     clear BK265
     clear BK279
     clear HK
     clear HB
     clear HI0
     have HO_280000 := n0_
     have HO_280001 := n1_
     have BK265 := n2_
     have BK279 := n3_
     have HK := n4_
     have HB := n5_
     have HI0 := n6_
     clear n0_ n1_ n2_ n3_ n4_ n5_ n6_
     (try clear hb)
     (try clear hb2)
     (try clear hk)
     (try clear hi)
     have p19 : 0 ≤ (x5_1 : Int) := dT
     have q19 : (x5_1 : Int) < ((x280000_1.length : Int) : Int) := dT
     obtain ⟨go19, co19, eo19, gb19, gl19, cl19, HG19⟩ := Kd.R_form HO_280000.out (by omega)
     (first | cases eo19 | (injection eo19 with ea_ en_ ec_; (first | subst ea_ | (injection ea_ with ea_; subst ea_)); subst ec_; clear en_))
     have GB19 := aM gb19
     have GG19 := aM HG19
     clear gb19 gl19 HG19
     obtain ⟨hx19_0, hf19_0⟩ := Kd.R_celln (⟨#[]⟩ : ByteArray) HO_280000.out (x5_1 : Int) p19 q19
     replace p19 := eq_true p19
     replace q19 := eq_true q19
     have HN0_go19 := aM (show g ≠ go19 from by have h_ := IsS123.own_ne HI0.out HO_280000.out (by decide); intro e_; exact h_ (by rw [e_]; rfl))
     have HP26 := Kd.R_putn HO_280000.out (x5_1 : Int) t280
     rw [← Ny283.out] at HP26
     have HQ26 := aM HP26
     clear HP26
     refine hK.out _ _ ⟨(blk_cell BK279.out 0).trans rfl, (blk_cell BK279.out 1).trans rfl⟩ (fun hHeld => ?_)
     clear hK K
     refine norm_ (a' := ?_) ?_ ?_
     rotate_left
     ·show Act.put _ (some 26) _ = _
      simp only [Act.put, List.setIfInBounds_toArray, List.set_cons_zero, List.set_cons_succ, i64_w, i32_w]
      rfl
     refine pure_ (i := 5) (N := some 27) (v := ?_) (a' := ?_) #[tT, tT, tT, tT, tT, tT, tF] rfl rfl (by kernel_rfl) (fun _ _ _ h => h) (Or.inl ⟨by rfl, ?_⟩) ?_ ?_
     rotate_left
     ·intro w'
      go_simp
      with_reducible rfl
     rotate_left
     ·simp only [Act.put, List.setIfInBounds_toArray, List.set_cons_zero, List.set_cons_succ, i64_w, i32_w]
      rfl
     refine last_ (i := 6) (N := none) #[tT, tT, tT, tT, tT, tT, tT] rfl rfl (by kernel_rfl) (by decide) (fun K hK => ?_)
     refine skip_ (w1 := ?_) (by rfl) rfl ?_ ?_
     rotate_left
     ·go_simp
      rfl
     refine hK.out _ _ ?_
     clear hK K
     refine done_ (by kernel_rfl) ?_
     try go_wp2
     go_roundg k1
     case measure => have := HK1.out; omega
     case rel => exact ⟨(wrap64 (x5_1 + 1)), (t281), (t282), (y283), (.slice (some ⟨go19, 0, none⟩) x280000_1.length co23), (by first | rfl | (simp; done) | (simp [*]; done) | (simp; exact (by intro l_; cases l_ <;> rfl : ∀ l_ : List UInt8, l_.isEmpty = !(l_ != [])) _)), H', ⟨by have := HK1.out; omega⟩, ⟨rP HQ26.out⟩, ⟨rP (Kd.R_mono (Kd.R_far (p := ⟨go19, (x5_1 : Int).toNat, none⟩) (Kd.R_types HO_280001.out GG19.out (by decide)) (fun _ hk => hk.2) (.string t280)) (fun _ hk => trivial))⟩, ⟨by (with_reducible repeat (first | refine blk_drewN ?_ _ | refine blk_drew ?_ | refine blk_alloc ?_ _)); refine blk_far ?_ (by have h_ := Kd.R_ne HO_280000.out BK265.out (by decide); intro e_; exact h_ (by rw [e_]; rfl)) _; (with_reducible repeat (first | refine blk_drewN ?_ _ | refine blk_drew ?_ | refine blk_alloc ?_ _)); exact BK265.out⟩, ⟨by (with_reducible repeat (first | refine blk_drewN ?_ _ | refine blk_drew ?_ | refine blk_alloc ?_ _)); refine blk_far ?_ (by have h_ := Kd.R_ne HO_280000.out BK279.out (by decide); intro e_; exact h_ (by rw [e_]; rfl)) _; (with_reducible repeat (first | refine blk_drewN ?_ _ | refine blk_drew ?_ | refine blk_alloc ?_ _)); exact BK279.out⟩, ⟨by repeat (first | (with_reducible first | exact HI0.out | apply IsS123.alloc | apply IsS123.drewN | apply IsS123.drew | apply IsS123.set_1 | apply IsS123.set_2 | refine IsS123.far ?_ HN0_go19.out _ | refine IsS123.far ?_ NB0_265.out _ | refine IsS123.far ?_ NB0_279.out _) | exact HI0.out)⟩, ⟨bK HK⟩, ⟨by repeat (first | (with_reducible first | exact HB.out | apply below_alloc | apply pw_below_drewN | apply below_drew1 | refine below_set ?_ (Nat.le_trans HL.out GB19.out) | refine below_set ?_ (IsS123.ge HI0.out) | refine below_set ?_ GE265.out | refine below_set ?_ GE279.out) | exact HB.out)⟩⟩
    ·rw [if_neg c18] at H
     exact absurd H (by simp)
   ·rw [if_neg c16] at H
    have c16b0 : decide (x5_1 < (x280000_1.length : Int)) = false := decide_eq_false c16
    clear c16
    replace H := Option.bind_eq_some_iff.mp H
    obtain ⟨⟨t284, t285, t286⟩, A270, H⟩ := H
    try dsimp only at H
    have A27 := aM A270
    clear A270
    have H' := aM H
    clear H
    have hnb28 := NB279_265.out
    have hnc28 := NB265_279.out
    have hnb29 := NB279_0.out
    have hnc29 := NB0_279.out
    have hcz30_0 := cZ0 BK279
    have hcz30_1 := cZ1 BK279
    have hfz30_0 := blk_frozen BK279.out 0
    have hfz30_1 := blk_frozen BK279.out 1
    obtain ⟨Ao31, co31, eo31⟩ := Kd.R_slice HO_280000.out
    subst eo31
    go_wp2_with (first | ((with_reducible refine gate_callee (f := 95) rfl ?_); refine gL (some 29) Try.func95 #[.pointer (some ⟨g, 0, none⟩), .int .i64 6] ?_; (with_reducible refine (spec_l1Below.calls g s0_0 x1001_1 x1002_1 6 t284 t285 t286 w0 _ ?side1 ?side2 A27.out).mono ?_); (case side1 => repeat (first | (with_reducible first | exact HI0.out | apply IsS123.alloc | apply IsS123.drewN | apply IsS123.drew | apply IsS123.set_1 | apply IsS123.set_2 | refine IsS123.far ?_ NB0_265.out _ | refine IsS123.far ?_ NB0_279.out _) | exact HI0.out)); (case side2 => repeat (first | (with_reducible first | exact HB.out | apply below_alloc | apply pw_below_drewN | apply below_drew1 | refine below_set ?_ (IsS123.ge HI0.out) | refine below_set ?_ GE265.out | refine below_set ?_ GE279.out) | exact HB.out)); rintro e w32 ⟨rfl, hi, hb, hk⟩; refine ⟨_, rfl, ?_⟩; have n_ := aI (aM (Kd.R_mono (Kd.R_keep (IsS123.apart (show IsS123 w0 _ g s0_0 x1001_1 x1002_1 from IsS123.iI HI0) (rP HO_280000.out) (by decide)) hk (fun _ h => h.2)) (fun _ h => h.1))) (aI (aM (Kd.R_mono (Kd.R_keep (IsS123.apart (show IsS123 w0 _ g s0_0 x1001_1 x1002_1 from IsS123.iI HI0) (rP HO_280001.out) (by decide)) hk (fun _ h => h.2)) (fun _ h => h.1))) (aI (aM (KeepBut.blk hk (g' := gb265) (o := .cells #[.slice none 0 0, .slice none 0 0] 30 (0, 0)) (kP BK265) NB265_0.out (by simp))) (aI (aM (KeepBut.blk hk (g' := gb279) (o := .cells #[.slice Ao31 x280000_1.length co31, .slice Ao15 t275.length co15] 30 (0, 0)) (kP BK279) NB279_0.out (by simp))) (aI (aM (KeepBut.trans (bK HK) hk (.inl rfl))) (aI (aM (hb)) (aM (hi))))))); clear HO_280000 HO_280001 BK265 BK279 HK HB HI0; obtain ⟨HO_280000, HO_280001, BK265, BK279, HK, HB, HI0⟩ := n_; (try clear hb hk hi)))
    go_loopg [7] k1 (fun kq v7 w' => ∃ (x7_2 : Int) (x1001_2 : Int) (x1002_2 : Int) (x280001_2 : List (S65)) (u280001 : Value), v7 = .int .i64 x7_2 ∧ Aside0 (spec_l3Right.l1 kq t284 x7_2 s0_0 x1001_2 x1002_2 x280000_1 x280001_2 = some (r1, r2, r3, r4)) ∧ Aside0 (kq ≤ k1) ∧ Aside0 (Kd.R Kd.string 9 w' w.heap.size (fun _ => True) (.slice Ao31 x280000_1.length co31) x280000_1) ∧ Aside0 (Kd.R k65 65 w' w.heap.size (fun _ => True) u280001 x280001_2) ∧ Aside0 (w'.heap[gb265]? = some (.cells #[(.slice none 0 0), (.slice none 0 0)] 30 (0, 0))) ∧ Aside0 (w'.heap[gb279]? = some (.cells #[(.slice Ao31 x280000_1.length co31), u280001] 30 (0, 0))) ∧ Aside0 (IsS123 w0 w' g s0_0 x1001_2 x1002_2) ∧ Aside0 (KeepBut w w' g none) ∧ Aside0 (Below w0.heap.size w0 w'))
    case atStart => exact ⟨(0), (t285), (t286), (t275), (.slice Ao15 t275.length co15), (by first | rfl | (simp; done) | (simp [*]; done) | (simp; exact (by intro l_; cases l_ <;> rfl : ∀ l_ : List UInt8, l_.isEmpty = !(l_ != [])) _)), H', ⟨Nat.le_refl _⟩, ⟨rP HO_280000.out⟩, ⟨rP HO_280001.out⟩, ⟨kP BK265⟩, ⟨kP BK279⟩, ⟨IsS123.iI HI0⟩, ⟨bK HK⟩, ⟨bB⟩⟩
    case round =>
     clear H'
     try clear c1
     try clear p1
     try clear q1
     try clear hx1
     try clear hf1
     try clear c2
     try clear p2
     try clear p6
     try clear c9
     try clear c11
     try clear c12
     try clear c13
     try clear c16
     try clear c16b0
     try clear c18
     try clear c18b0
     try clear p19
     try clear q19
     try clear hx19
     try clear hf19
     try clear c20
     try clear c21
     try clear c28
     try clear c29
     try clear hcz14_0
     try clear hcz14_1
     try clear hcz22_0
     try clear hcz22_1
     try clear hcz30_0
     try clear hcz30_1
     try clear hfz14_0
     try clear hfz14_1
     try clear hfz22_0
     try clear hfz22_1
     try clear hfz30_0
     try clear hfz30_1
     try clear hx19_0
     try clear p19
     try clear p2
     try clear q19
     obtain ⟨x7_2, x1001_2, x1002_2, x280001_2, u280001, rfl, HA, HK2, HO_280000, HO_280001, BK265, BK279, HI0, HK, HB⟩ := hrel
     cases gk with
     | zero => exact absurd HA.out (by simp [spec_l3Right.l1])
     | succ k2 =>
      have H := HA.out
      clear HA
      simp only [spec_l3Right.l1] at H
      by_cases c33 : x7_2 < t284
      ·rw [if_pos c33] at H
       have c33b0 : decide (x7_2 < t284) = true := decide_eq_true c33
       clear c33
       replace H := Option.bind_eq_some_iff.mp H
       obtain ⟨⟨t287, t288, t289⟩, A340, H⟩ := H
       try dsimp only at H
       have A34 := aM A340
       clear A340
       replace H := Option.bind_eq_some_iff.mp H
       obtain ⟨⟨t290, t291, t292⟩, A350, H⟩ := H
       try dsimp only at H
       have A35 := aM A350
       clear A350
       by_cases c36 : x280001_2.length < 5864062014805
       ·rw [if_pos c36] at H
        have LMc36 := aM c36
        clear c36
        obtain ⟨y293, hy293⟩ : ∃ y_ : List (S65), y_ = (x280001_2 ++ [(⟨t287, t290⟩ : S65)]) := ⟨_, rfl⟩
        replace H : (spec_l3Right.l1 k2 t284 (wrap64 (x7_2 + 1)) s0_0 t291 t292 x280000_1 y293) = some (r1, r2, r3, r4) := by first | (rw [hy293]; with_reducible exact H) | (have H2_ := (Option.bind_some _ _).symm.trans H; rw [hy293]; with_reducible exact H2_) | (have H2_ := (Option.bind_some _ _).symm.trans H; with_reducible exact H2_) | with_reducible exact H | (rw [hy293]; exact H) | exact H
        have Ny293 := aM hy293
        clear hy293
        have H' := aM H
        clear H
        try go_wp2
        have n0_ := aM (Kd.R_drew HO_280000.out)
        have n1_ := aM (Kd.R_drew HO_280001.out)
        have n2_ := aM (blk_drew BK265.out)
        have n3_ := aM (blk_drew BK279.out)
        have n4_ := aM (IsS123.drew HI0.out)
        have n5_ := aM (keep_drew HK.out)
        have n6_ := aM (below_drew1 HB.out)
        clear HO_280000
        clear HO_280001
        clear BK265
        clear BK279
        clear HI0
        clear HK
        clear HB
        have HO_280000 := n0_
        have HO_280001 := n1_
        have BK265 := n2_
        have BK279 := n3_
        have HI0 := n4_
        have HK := n5_
        have HB := n6_
        clear n0_ n1_ n2_ n3_ n4_ n5_ n6_
        refine start_ (n := 14) (S := fun w' => w'.cell? ⟨gb279, 0, none⟩ = some (.slice Ao31 x280000_1.length co31) ∧ w'.cell? ⟨gb279, 1, none⟩ = some (u280001)) (ds := [13]) #[tF, tF, tF, tF, tF, tF, tF, tF, tF, tF, tF, tF, tF, tF] (by kernel_rfl) rfl rfl ⟨(blk_cell BK279.out 0).trans rfl, (blk_cell BK279.out 1).trans rfl⟩ (fun hHeld => ?_); refine with_tabW spec_l3Right.tab10 spec_l3Right.bits10 (fun HT_ HW_ => ?_)
        generalize wr.drew = w37 at HO_280000 HO_280001 BK265 BK279 HI0 HK HB hHeld ⊢
        refine pY 0 35 #[tT, tF, tF, tF, tF, tF, tF, tF, tF, tF, tF, tF, tF, tF] ?_
        refine pY 2 37 #[tT, tF, tT, tF, tF, tF, tF, tF, tF, tF, tF, tF, tF, tF] ?_
        refine pY 3 38 #[tT, tF, tT, tT, tF, tF, tF, tF, tF, tF, tF, tF, tF, tF] ?_
        refine pY 7 42 #[tT, tF, tT, tT, tF, tF, tF, tT, tF, tF, tF, tF, tF, tF] ?_
        refine take_ (i := 1) (N := some 36) (v := ?_) (a' := ?_) #[tT, tT, tT, tT, tF, tF, tF, tT, tF, tF, tF, tF, tF, tF] rfl rfl (take_ofW HT_.out HW_.out (by kernel_rfl)) (fun _ _ _ h => h) (Or.inl ⟨by rfl, ?_⟩) hHeld ?_ ?_
        rotate_left
        ·rintro w' ⟨s0, s1⟩
         go_simp
         with_reducible rfl
        rotate_left
        ·simp only [Act.put, List.setIfInBounds_toArray, List.set_cons_zero, List.set_cons_succ, i64_w, i32_w]
         rfl
        refine take_ (i := 4) (N := some 39) (v := ?_) (a' := ?_) #[tT, tT, tT, tT, tT, tF, tF, tT, tF, tF, tF, tF, tF, tF] rfl rfl (take_ofW HT_.out HW_.out (by kernel_rfl)) (fun _ _ _ h => h) (Or.inl ⟨by rfl, ?_⟩) hHeld ?_ ?_
        rotate_left
        ·rintro w' ⟨s0, s1⟩
         go_simp
         with_reducible rfl
        rotate_left
        ·simp only [Act.put, List.setIfInBounds_toArray, List.set_cons_zero, List.set_cons_succ, i64_w, i32_w]
         rfl
        refine pY 5 40 #[tT, tT, tT, tT, tT, tT, tF, tT, tF, tF, tF, tF, tF, tF] ?_
        refine one_ (i := 6) (N := some 41) #[tT, tT, tT, tT, tT, tT, tT, tT, tF, tF, tF, tF, tF, tF] rfl rfl (one_of HT_.out (by kernel_rfl)) (by decide) (fun K hK => ?_)
        refine goes_ Try.func95 (by kernel_rfl) rfl #[.pointer (some ⟨g, 0, none⟩), .int .i64 (x280000_1.length : Int)] (by rfl) rfl rfl (by (try simp only [List.map_toArray, List.map_cons, List.map_nil]); first | done | rfl | (simp only [List.length_drop, List.length_take]; rfl)) ?_
        with_reducible refine (spec_l1Below.calls g s0_0 x1001_2 x1002_2 (x280000_1.length : Int) t287 t288 t289 w0 _ ?side1 ?side2 A34.out).mono ?_
        (case side1 => repeat (first | (with_reducible first | exact HI0.out | apply IsS123.alloc | apply IsS123.drewN | apply IsS123.drew | apply IsS123.set_1 | apply IsS123.set_2 | refine IsS123.far ?_ NB0_265.out _ | refine IsS123.far ?_ NB0_279.out _) | exact HI0.out))
        (case side2 => repeat (first | (with_reducible first | exact HB.out | apply below_alloc | apply pw_below_drewN | apply below_drew1 | refine below_set ?_ (IsS123.ge HI0.out) | refine below_set ?_ GE265.out | refine below_set ?_ GE279.out) | exact HB.out))
        rintro e w38 ⟨rfl, hi, hb, hk⟩
        refine ⟨_, rfl, ?_⟩
        have n0_ := aM (Kd.R_mono (Kd.R_keep (IsS123.apart (show IsS123 w0 _ g s0_0 x1001_2 x1002_2 from IsS123.iI HI0) (rP HO_280000.out) (by decide)) hk (fun _ h => h.2)) (fun _ h => h.1))
        have n1_ := aM (Kd.R_mono (Kd.R_keep (IsS123.apart (show IsS123 w0 _ g s0_0 x1001_2 x1002_2 from IsS123.iI HI0) (rP HO_280001.out) (by decide)) hk (fun _ h => h.2)) (fun _ h => h.1))
        have n2_ := aM (KeepBut.blk hk (g' := gb265) (o := .cells #[.slice none 0 0, .slice none 0 0] 30 (0, 0)) (kP BK265) NB265_0.out (by simp))
        have n3_ := aM (KeepBut.blk hk (g' := gb279) (o := .cells #[.slice Ao31 x280000_1.length co31, u280001] 30 (0, 0)) (kP BK279) NB279_0.out (by simp))
        have n4_ := aM (KeepBut.trans (bK HK) hk (.inl rfl))
        have n5_ := aM (hb)
        have n6_ := aM (hi)
        clear HO_280000
        clear HO_280001
        clear BK265
        clear BK279
        clear HK
        clear HB
        clear HI0
        have HO_280000 := n0_
        have HO_280001 := n1_
        have BK265 := n2_
        have BK279 := n3_
        have HK := n4_
        have HB := n5_
        have HI0 := n6_
        clear n0_ n1_ n2_ n3_ n4_ n5_ n6_
        (try clear hb)
        (try clear hb2)
        (try clear hk)
        (try clear hi)
        refine hK.out _ _ ⟨(blk_cell BK279.out 0).trans rfl, (blk_cell BK279.out 1).trans rfl⟩ (fun hHeld => ?_)
        clear hK K
        refine norm_ (a' := ?_) ?_ ?_
        rotate_left
        ·show Act.put _ (some 41) _ = _
         simp only [Act.put, List.setIfInBounds_toArray, List.set_cons_zero, List.set_cons_succ, i64_w, i32_w]
         rfl
        refine one_ (i := 8) (N := some 43) #[tT, tT, tT, tT, tT, tT, tT, tT, tT, tF, tF, tF, tF, tF] rfl rfl (one_of HT_.out (by kernel_rfl)) (by decide) (fun K hK => ?_)
        refine goes_ Try.func96 (by kernel_rfl) rfl #[.pointer (some ⟨g, 0, none⟩)] (by rfl) rfl rfl (by (try simp only [List.map_toArray, List.map_cons, List.map_nil]); first | done | rfl | (simp only [List.length_drop, List.length_take]; rfl)) ?_
        with_reducible refine (spec_l3Data.calls k2 g s0_0 t288 t289 t290 t291 t292 w0 _ ?side1 ?side2 A35.out).mono ?_
        (case side1 => repeat (first | (with_reducible first | exact HI0.out | apply IsS123.alloc | apply IsS123.drewN | apply IsS123.drew | apply IsS123.set_1 | apply IsS123.set_2 | refine IsS123.far ?_ NB0_265.out _ | refine IsS123.far ?_ NB0_279.out _) | exact HI0.out))
        (case side2 => repeat (first | (with_reducible first | exact HB.out | apply below_alloc | apply pw_below_drewN | apply below_drew1 | refine below_set ?_ (IsS123.ge HI0.out) | refine below_set ?_ GE265.out | refine below_set ?_ GE279.out) | exact HB.out))
        rintro e w39 ⟨rfl, hi, hb, hk⟩
        refine ⟨_, rfl, ?_⟩
        have n0_ := aM (Kd.R_mono (Kd.R_keep (IsS123.apart (show IsS123 w0 _ g s0_0 t288 t289 from IsS123.iI HI0) (rP HO_280000.out) (by decide)) hk (fun _ h => h.2)) (fun _ h => h.1))
        have n1_ := aM (Kd.R_mono (Kd.R_keep (IsS123.apart (show IsS123 w0 _ g s0_0 t288 t289 from IsS123.iI HI0) (rP HO_280001.out) (by decide)) hk (fun _ h => h.2)) (fun _ h => h.1))
        have n2_ := aM (KeepBut.blk hk (g' := gb265) (o := .cells #[.slice none 0 0, .slice none 0 0] 30 (0, 0)) (kP BK265) NB265_0.out (by simp))
        have n3_ := aM (KeepBut.blk hk (g' := gb279) (o := .cells #[.slice Ao31 x280000_1.length co31, u280001] 30 (0, 0)) (kP BK279) NB279_0.out (by simp))
        have n4_ := aM (KeepBut.trans (bK HK) hk (.inl rfl))
        have n5_ := aM (hb)
        have n6_ := aM (hi)
        clear HO_280000
        clear HO_280001
        clear BK265
        clear BK279
        clear HK
        clear HB
        clear HI0
        have HO_280000 := n0_
        have HO_280001 := n1_
        have BK265 := n2_
        have BK279 := n3_
        have HK := n4_
        have HB := n5_
        have HI0 := n6_
        clear n0_ n1_ n2_ n3_ n4_ n5_ n6_
        (try clear hb)
        (try clear hb2)
        (try clear hk)
        (try clear hi)
        refine hK.out _ _ ⟨(blk_cell BK279.out 0).trans rfl, (blk_cell BK279.out 1).trans rfl⟩ (fun hHeld => ?_)
        clear hK K
        refine norm_ (a' := ?_) ?_ ?_
        rotate_left
        ·show Act.put _ (some 43) _ = _
         simp only [Act.put, List.setIfInBounds_toArray, List.set_cons_zero, List.set_cons_succ, i64_w, i32_w]
         rfl
        refine pY 9 44 #[tT, tT, tT, tT, tT, tT, tT, tT, tT, tT, tF, tF, tF, tF] ?_
        refine one_ (i := 10) (N := some 45) #[tT, tT, tT, tT, tT, tT, tT, tT, tT, tT, tT, tF, tF, tF] rfl rfl (one_of HT_.out (by kernel_rfl)) (by decide) (fun K hK => ?_)
        refine value_ (w1 := ?_) (v := ?_) (by rfl) rfl ?_ ?_
        rotate_left 2
        ·go_simp
         constructor
         ·rfl
         ·rfl
        refine hK.out _ _ ⟨(blk_cell (blk_alloc BK279.out _) 0).trans rfl, (blk_cell (blk_alloc BK279.out _) 1).trans rfl⟩ (fun hHeld => ?_)
        clear hK K
        refine norm_ (a' := ?_) ?_ ?_
        rotate_left
        ·show Act.put _ (some 45) _ = _
         simp only [Act.put, List.setIfInBounds_toArray, List.set_cons_zero, List.set_cons_succ, i64_w, i32_w]
         rfl
        refine one_ (i := 11) (N := some 46) #[tT, tT, tT, tT, tT, tT, tT, tT, tT, tT, tT, tT, tF, tF] rfl rfl (one_of HT_.out (by kernel_rfl)) (by decide) (fun K hK => ?_)
        refine Kd.R_append_step k65 w.heap.size (by rfl) (.tmp 36) (.tmp 45) 28 65 (.agg #[(.int .i64 0), (.string ⟨#[]⟩)]) 24 rfl Try.underlying28 info65 rfl (by decide) (by omega) u280001 x280001_2 (⟨t287, t290⟩ : S65) [.int .i64 t287, .string t290] (fun _ => True) (fun _ => False) rfl rfl ?aP (fun _ hk => hk.elim) ?aF ?aO (Below.refl _ _) ?aS ?aL ?_
        (case aP => exact k65_mkM _ _ _ (⟨t287, t290⟩ : S65))
        (case aF => exact (fun _ _ => trivial))
        (case aO => exact (rP HO_280001.out))
        (case aS => exact (keep_size (w := w) (g := g) (row := none) (bK HK)))
        (case aL => have := LMc36.out; omega)
        intro v294 w40 ho hb hg hat
        rw [← Ny293.out] at ho
        have n0_ := aM (Kd.R_over' (rP HO_280000.out) (Kd.R_typed (rP HO_280001.out)) (by decide) hg)
        have n1_ := aM (blk_grown (g := gb265) (o := .cells #[.slice none 0 0, .slice none 0 0] 30 (0, 0)) (kP BK265) hg (Kd.R_ne HO_280001.out BK265.out (by decide)))
        have n2_ := aM (blk_grown (g := gb279) (o := .cells #[.slice Ao31 x280000_1.length co31, u280001] 30 (0, 0)) (kP BK279) hg (Kd.R_ne HO_280001.out BK279.out (by decide)))
        have n3_ := aM (IsS123.grown (IsS123.iI HI0) hg (IsS123.own_ne HI0.out HO_280001.out (by decide)))
        have n4_ := aM (below_weaken bB HL.out hb)
        have n5_ := aM (KeepBut.trans (bK HK) (KeepBut.of_grown hg g) (Kd.R_base2 HO_280001.out))
        have n6_ := aM (ho)
        clear HO_280000
        clear BK265
        clear BK279
        clear HI0
        clear HB
        clear HK
        clear HO_280001
        have HO_280000 := n0_
        have BK265 := n1_
        have BK279 := n2_
        have HI0 := n3_
        have HB := n4_
        have HK := n5_
        have HO295 := n6_
        clear n0_ n1_ n2_ n3_ n4_ n5_ n6_
        clear ho hb hg hat
        obtain ⟨Ao41, co41, eo41⟩ := Kd.R_slice HO295.out
        (first | subst eo41 | (injection eo41 with f1_ f2_ f3_; have f4_ := f1_.symm; have f5_ := f3_.symm; clear f1_ f2_ f3_; subst f4_; subst f5_))
        refine hK.out _ _ ⟨(blk_cell BK279.out 0).trans rfl, (blk_cell BK279.out 1).trans rfl⟩ (fun hHeld => ?_)
        clear hK K
        refine norm_ (a' := ?_) ?_ ?_
        rotate_left
        ·show Act.put _ (some 46) _ = _
         simp only [Act.put, List.setIfInBounds_toArray, List.set_cons_zero, List.set_cons_succ, i64_w, i32_w]
         rfl
        refine pY 12 47 #[tT, tT, tT, tT, tT, tT, tT, tT, tT, tT, tT, tT, tT, tF] ?_
        refine last_ (i := 13) (N := none) #[tT, tT, tT, tT, tT, tT, tT, tT, tT, tT, tT, tT, tT, tT] rfl rfl (one_of HT_.out (by kernel_rfl)) (by decide) (fun K hK => ?_)
        have hs42 : w40.cell? ⟨gb279, 1, none⟩ = some (u280001) := (blk_cell BK279.out 1).trans rfl
        have hfs42 := blk_frozen BK279.out 1
        have hns42_0 := NB265_279.out
        have hms42_0 := NB279_265.out
        refine skip_ (w1 := ?_) (by rfl) rfl ?_ ?_
        rotate_left
        ·go_simp
         rfl
        refine hK.out _ _ ?_
        clear hK K
        refine done_ (done_of HT_.out (by kernel_rfl)) ?_
        try go_wp2
        go_roundg k2
        case measure => have := HK1.out; have := HK2.out; omega
        case rel => exact ⟨(wrap64 (x7_2 + 1)), (t291), (t292), (y293), (.slice Ao41 y293.length co41), (by first | rfl | (simp; done) | (simp [*]; done) | (simp; exact (by intro l_; cases l_ <;> rfl : ∀ l_ : List UInt8, l_.isEmpty = !(l_ != [])) _)), H', ⟨by have := HK1.out; have := HK2.out; omega⟩, ⟨rP (Kd.R_mono (Kd.R_far (p := ⟨gb279, 1, none⟩) (Kd.R_types HO_280000.out BK279.out (by decide)) (fun _ hk => hk.2) (.slice Ao41 y293.length co41)) (fun _ hk => trivial))⟩, ⟨rP (Kd.R_mono (Kd.R_far (p := ⟨gb279, 1, none⟩) (Kd.R_types HO295.out BK279.out (by decide)) (fun _ hk => hk.2) (.slice Ao41 y293.length co41)) (fun _ hk => trivial))⟩, ⟨kP BK265⟩, ⟨by (with_reducible repeat (first | refine blk_drewN ?_ _ | refine blk_drew ?_ | refine blk_alloc ?_ _)); refine blk_put (cs := #[.slice Ao31 x280000_1.length co31, u280001]) ?_ 1 _ rfl; (with_reducible repeat (first | refine blk_drewN ?_ _ | refine blk_drew ?_ | refine blk_alloc ?_ _)); exact BK279.out⟩, ⟨IsS123.iI HI0⟩, ⟨bK HK⟩, ⟨bB⟩⟩
       ·rw [if_neg c36] at H
        exact absurd H (by simp)
      ·rw [if_neg c33] at H
       have c33b0 : decide (x7_2 < t284) = false := decide_eq_false c33
       clear c33
       simp only [Option.some.injEq, Prod.mk.injEq] at H
       obtain ⟨rfl, rfl, rfl, rfl⟩ := H
       have hnb43 := NB279_265.out
       have hnc43 := NB265_279.out
       have hnb44 := NB279_0.out
       have hnc44 := NB0_279.out
       have hcz45_0 := cZ0 BK279
       have hcz45_1 := cZ1 BK279
       have hfz45_0 := blk_frozen BK279.out 0
       have hfz45_1 := blk_frozen BK279.out 1
       have hnb46 := NB265_0.out
       have hnc46 := NB0_265.out
       have hcz47_0 := cZ0 BK265
       have hcz47_1 := cZ1 BK265
       have hfz47_0 := blk_frozen BK265.out 0
       have hfz47_1 := blk_frozen BK265.out 1
       obtain ⟨Ao48, co48, eo48⟩ := Kd.R_slice HO_280001.out
       subst eo48
       go_wp2
       refine bodyPost_ret (results_cell_row rfl _ _ gb265 30 #[.slice Ao31 x280000_1.length co31, .slice Ao48 x280001_2.length co48] (0, 0) _ rfl (by (with_reducible repeat (first | refine blk_drewN ?_ _ | refine blk_drew ?_ | refine blk_alloc ?_ _)); refine blk_put (cs := #[.slice Ao31 x280000_1.length co31, .slice none 0 0]) ?_ 1 _ rfl; (with_reducible repeat (first | refine blk_drewN ?_ _ | refine blk_drew ?_ | refine blk_alloc ?_ _)); refine blk_put (cs := #[.slice none 0 0, .slice none 0 0]) ?_ 0 _ rfl; (with_reducible repeat (first | refine blk_drewN ?_ _ | refine blk_drew ?_ | refine blk_alloc ?_ _)); exact BK265.out) Try.underlying30 rfl (by kernel_rfl)) rfl ?_
       exact ⟨_, _, eW, by (with_reducible repeat (first | apply Kd.R_alloc | apply Kd.R_drewN | apply Kd.R_drew)); exact Kd.R_mono (Kd.R_far (p := ⟨gb265, 1, none⟩) (Kd.R_far (p := ⟨gb265, 0, none⟩) (Kd.R_types HO_280000.out BK265.out (by decide)) (fun _ hk => hk.2) (.slice Ao31 x280000_1.length co31)) (fun _ hk => hk.2) (.slice Ao48 x280001_2.length co48)) (fun _ hk => trivial), by (with_reducible repeat (first | apply Kd.R_alloc | apply Kd.R_drewN | apply Kd.R_drew)); exact Kd.R_mono (Kd.R_far (p := ⟨gb265, 1, none⟩) (Kd.R_far (p := ⟨gb265, 0, none⟩) (Kd.R_types HO_280001.out BK265.out (by decide)) (fun _ hk => hk.2) (.slice Ao31 x280000_1.length co31)) (fun _ hk => hk.2) (.slice Ao48 x280001_2.length co48)) (fun _ hk => trivial), IsS123.iI HI0, bB, bK HK⟩

end Go.Proofs.Ytgmpdkefegofhaa.PFnFlushed
