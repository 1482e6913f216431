-- Written by xprint.py, a program of this session over the kit's print. Not trusted: Lean checks it.
import Derived.Test.YtgmpdkefegofhaaPFnFlushedx0
namespace Go.Proofs.Ytgmpdkefegofhaa.PFnFlushed
open Go.RowKit Go.Proofs.YtgmpdkefegofhaaW.PrintWords Go.Proofs.YtgmpdkefegofhaaW.PrintLast Go.Proofs.YtgmpdkefegofhaaW.PrintMore
attribute [local go_sem] max2_int min2_int max_two min_two max_three min_three max_four min_four   -- for this text's walks alone
set_option linter.unusedVariables false
set_option linter.unusedSimpArgs false

-- NOT PRINTED: function 107 (slices_IndexFunc_string_string)

-- NOT PRINTED: function 62 (slices_ContainsFunc_string_string)

/-! ### impl_short: function 64 -/
def impl_short.f (a0 : ByteArray) : Option (Bool) := some (decide ((a0.size : Int) ≤ 90))
set_option maxHeartbeats 8000000 in
set_option maxRecDepth 100000 in
theorem impl_short.calls (a0 : ByteArray) (r : Bool) (w : World) (h : impl_short.f a0 = some r) :
  Calls Try.prog 64 #[.string a0] w fun e w' => e = .returned (.bool r) ∧ Drawn0 w w' := by
 unfold impl_short.f at h
 have H := h
 clear h
 obtain rfl := Option.some.inj H
 go_enter Try.func64, Try.ntmps64
 go_wp2
 go_ret
 exact ⟨by first | rfl | (simp; done) | (simp [*]; done), by repeat (first | exact Drawn0.refl _ | apply Drawn0.step)⟩

/-! ### impl_DiskOk_1: function 63 -/
def impl_DiskOk_1.f (a0 : ByteArray) : Option (Bool) := (impl_short.f a0).bind fun t101 => (some (!t101))
set_option maxHeartbeats 8000000 in
set_option maxRecDepth 100000 in
theorem impl_DiskOk_1.calls (a0 : ByteArray) (r : Bool) (w : World) (h : impl_DiskOk_1.f a0 = some r) :
  Calls Try.prog 63 #[.string a0] w fun e w' => e = .returned (.bool r) ∧ Drawn0 w w' := by
 unfold impl_DiskOk_1.f at h
 have H := h
 clear h
 replace H := Option.bind_eq_some_iff.mp H
 obtain ⟨t101, A20, H⟩ := H
 try dsimp only at H
 have A2 := aM A20
 clear A20
 obtain rfl := Option.some.inj H
 go_enter Try.func63, Try.ntmps63
 go_wp2_with (first | ((with_reducible refine gate_callee (f := 64) rfl ?_); refine gL (some 4) Try.func64 #[.string a0] ?_; (with_reducible refine (impl_short.calls a0 t101 _ A2.out).mono ?_); rintro e w' ⟨rfl, ⟨nd, rfl⟩⟩; refine ⟨_, rfl, ?_⟩))
 go_ret
 exact ⟨by first | rfl | (simp; done) | (simp [*]; done), by repeat (first | exact Drawn0.refl _ | apply Drawn0.step)⟩

-- NOT PRINTED: function 108 (slices_IndexFunc_Put)

-- NOT PRINTED: function 65 (slices_ContainsFunc_Put)

/-! ### impl_within: function 67 -/
def impl_within.f (a0 : Int) (a1 : Int) (a2 : Int) : Option (Bool) := if a0 ≥ a1 then (some (decide (a0 ≤ a2))) else (some false)
set_option maxHeartbeats 8000000 in
set_option maxRecDepth 100000 in
theorem impl_within.calls (a0 : Int) (a1 : Int) (a2 : Int) (r : Bool) (w : World) (h : impl_within.f a0 a1 a2 = some r) :
  Calls Try.prog 67 #[.int .i64 a0, .int .i64 a1, .int .i64 a2] w fun e w' => e = .returned (.bool r) ∧ Drawn0 w w' := by
 unfold impl_within.f at h
 have H := h
 clear h
 by_cases c4 : a0 ≥ a1
 ·rw [if_pos c4] at H
  have c4b0 : decide (a1 ≤ a0) = true := decide_eq_true c4
  clear c4
  obtain rfl := Option.some.inj H
  go_enter Try.func67, Try.ntmps67
  go_wp2
  go_ret
  exact ⟨by first | rfl | (simp; done) | (simp [*]; done), by repeat (first | exact Drawn0.refl _ | apply Drawn0.step)⟩
 rw [if_neg c4] at H
 have c4b0 : decide (a1 ≤ a0) = false := decide_eq_false c4
 clear c4
 obtain rfl := Option.some.inj H
 go_enter Try.func67, Try.ntmps67
 go_wp2
 go_ret
 exact ⟨by first | rfl | (simp; done) | (simp [*]; done), by repeat (first | exact Drawn0.refl _ | apply Drawn0.step)⟩

/-! ### impl_DiskOk_2: function 66 -/
def impl_DiskOk_2.f (n : Nat) (p : S65) : Bool := !(decide (0 ≤ p.f0 ∧ p.f0 ≤ wrap64 ((n : Int) - 1)) && decide ((p.f1.size : Int) ≤ 90))
theorem impl_DiskOk_2.within (a b c : Int) : impl_within.f a b c = some (decide (b ≤ a ∧ a ≤ c)) := by
 unfold impl_within.f
 by_cases h : a ≥ b
 ·rw [if_pos h]
  congr 1
  rw [decide_eq_decide]
  omega
 rw [if_neg h]
 congr 1
 symm
 rw [decide_eq_false_iff_not]
 omega
set_option maxHeartbeats 8000000 in
set_option maxRecDepth 100000 in
theorem impl_DiskOk_2.calls (p : S65) (g : Nat) (A : Option Addr) (n c : Nat) (v1 : Value) (w : World) (hg0 : w.heap[g]? = some (.cells #[.slice A n c, v1] 30 (0, 0))) :
  Calls Try.prog 66 #[.agg #[.int .i64 p.f0, .string p.f1], .pointer (some ⟨g, 0, none⟩)] w fun e w' => e = .returned (.bool (impl_DiskOk_2.f n p)) ∧ Below w.heap.size w w' := by
 have hu65 := Try.underlying65
 have hu30 := Try.underlying30
 have HB := aM (Below.refl w.heap.size w)
 have hw := impl_DiskOk_2.within p.f0 0 (wrap64 ((n : Int) - 1))
 unfold impl_DiskOk_2.f
 cases hd : decide (0 ≤ p.f0 ∧ p.f0 ≤ wrap64 ((n : Int) - 1)) with
 | true =>
  rw [hd] at hw
  go_enter Try.func66, Try.ntmps66
  go_wp2_with (first
   | ((with_reducible refine gate_dst (N := 2) rfl ?_); refine bE 2 #[.int .i64 p.f0, .string p.f1] 65 ?_; intro gb hg w4 hbox hb; have hc0 : w4.cell? ⟨gb, 0, none⟩ = some (.int .i64 p.f0) := (blk_cell hbox 0).trans rfl; have hc1 : w4.cell? ⟨gb, 1, none⟩ = some (.string p.f1) := (blk_cell hbox 1).trans rfl; have hc2 : w4.cell? ⟨g, 0, none⟩ = some (.slice A n c) := (blk_cell (blk_below hg0 hb) 0).trans rfl; have HB2 := aM (below_step HB.out hb); clear HB; have HB := HB2; clear HB2; clear hbox hb hg)
   | (go_at_call 67; (with_reducible refine (impl_within.calls p.f0 0 (wrap64 ((n : Int) - 1)) true _ hw).mono ?_); rintro e w' ⟨rfl, ⟨nd, rfl⟩⟩)
   | (go_at_call 64; (with_reducible refine (impl_short.calls p.f1 (decide ((p.f1.size : Int) ≤ 90)) _ rfl).mono ?_); rintro e w' ⟨rfl, ⟨nd, rfl⟩⟩))
  go_ret
  exact ⟨by first | rfl | (simp; done), bB⟩
 | false =>
  rw [hd] at hw
  go_enter Try.func66, Try.ntmps66
  go_wp2_with (first
   | ((with_reducible refine gate_dst (N := 2) rfl ?_); refine bE 2 #[.int .i64 p.f0, .string p.f1] 65 ?_; intro gb hg w4 hbox hb; have hc0 : w4.cell? ⟨gb, 0, none⟩ = some (.int .i64 p.f0) := (blk_cell hbox 0).trans rfl; have hc1 : w4.cell? ⟨gb, 1, none⟩ = some (.string p.f1) := (blk_cell hbox 1).trans rfl; have hc2 : w4.cell? ⟨g, 0, none⟩ = some (.slice A n c) := (blk_cell (blk_below hg0 hb) 0).trans rfl; have HB2 := aM (below_step HB.out hb); clear HB; have HB := HB2; clear HB2; clear hbox hb hg)
   | (go_at_call 67; (with_reducible refine (impl_within.calls p.f0 0 (wrap64 ((n : Int) - 1)) false _ hw).mono ?_); rintro e w' ⟨rfl, ⟨nd, rfl⟩⟩))
  go_ret
  exact ⟨by first | rfl | (simp; done), bB⟩


/-! ### impl_DiskOk: function 18 -/
set_option maxHeartbeats 8000000 in
set_option maxRecDepth 100000 in
theorem slices_IndexFunc_Put_DiskOk_2.calls (g : Nat) (A : Option Addr) (n c : Nat) (v1 : Value) (A0 : Option Addr) (c0 : Nat) (l0 : List S65) (w : World) (hg0 : w.heap[g]? = some (.cells #[.slice A n c, v1] 30 (0, 0))) (hr0 : Kd.C k65 w A0 l0.length l0) :
  Calls Try.prog 108 #[.slice A0 l0.length c0, .func (.func 66) #[] #[.pointer (some ⟨g, 0, none⟩)]] w fun e w' => ∃ r : Int, e = .returned (.int .i64 r) ∧ decide (r ≥ 0) = l0.any (impl_DiskOk_2.f n) ∧ Below w.heap.size w w' := by
 have hu65 := Try.underlying65
 have HR0 := aM hr0
 have HG := aM hg0
 have HL := aM hr0.2.1
 clear hr0 hg0
 go_enter Try.func108, Try.ntmps108
 go_wp2
 go_loopg [8] l0.length (fun gg v8 w' => ∃ kk : Nat, v8 = .int .i64 (kk : Int) ∧ Aside0 (kk ≤ l0.length) ∧ Aside0 (l0.length - kk ≤ gg) ∧ Aside0 (∀ j, j < kk → impl_DiskOk_2.f n (l0.getD j z65) = false) ∧ Aside0 (Below w.heap.size w w'))
 case atStart => exact ⟨0, rfl, ⟨Nat.zero_le _⟩, ⟨by omega⟩, ⟨fun j hj => absurd hj (Nat.not_lt_zero _)⟩, ⟨Below.refl _ _⟩⟩
 case round =>
  obtain ⟨kk, rfl, H1, H2, H3, HB⟩ := hrel
  by_cases hlt : (kk : Int) < (l0.length : Int)
  ·have hb0 : decide ((kk : Int) < (l0.length : Int)) = true := decide_eq_true hlt
   have hk0 : 0 ≤ (kk : Int) := Int.natCast_nonneg _
   obtain ⟨ad, e, hx0, hx1⟩ := at_T65 HR0.out (kk : Int) hk0 hlt
   cases e
   replace hx0 := (HB.out.cell (World.block_lt_of_cell? w _ hx0)).trans hx0
   replace hx1 := (HB.out.cell (World.block_lt_of_cell? w _ hx1)).trans hx1
   have hcal := impl_DiskOk_2.calls (rd_T65 l0 (kk : Int)) g A n c v1 wr (blk_below HG.out HB.out)
   simp only [Int.toNat_natCast] at hx0 hx1
   have hE : rd_T65 l0 (kk : Int) = l0.getD kk z65 := by simp [rd_T65]
   generalize rd_T65 l0 (kk : Int) = x at hx0 hx1 hcal hE
   have HE := aM hE
   clear hE
   have p207 := eq_true hk0
   have q207 := eq_true hlt
   clear hk0
   cases hq : impl_DiskOk_2.f n x with
   | true =>
    rw [hq] at hcal
    go_wp2_with (first | (go_at_call 66; (with_reducible refine hcal.mono ?_); rintro e w' ⟨rfl, hb⟩))
    go_ret
    refine ⟨(kk : Int), by first | rfl | (simp; done), ?_, below_step HB.out hb⟩
    rw [decide_eq_true (by omega)]
    symm
    rw [List.any_eq_true]
    refine ⟨x, ?_, hq⟩
    rw [HE.out, List.getD_eq_getElem?_getD, List.getElem?_eq_getElem (by omega)]
    exact List.getElem_mem _
   | false =>
    rw [hq] at hcal
    go_wp2_with (first | (go_at_call 66; (with_reducible refine hcal.mono ?_); rintro e w' ⟨rfl, hb⟩))
    go_roundg (l0.length - (kk + 1))
    case measure => have := H2.out; omega
    case rel =>
     refine ⟨kk + 1, ?_, ⟨by omega⟩, ⟨Nat.le_refl _⟩, ⟨fun j hj => ?_⟩, ⟨below_step HB.out hb⟩⟩
     ·have := HL.out
      rw [show wrap64 ((kk : Int) + 1) = ((kk + 1 : Nat) : Int) by unfold wrap64; omega]
     ·by_cases e : j = kk
      ·rw [e, ← HE.out]; exact hq
      ·exact H3.out j (by omega)
  have hb0 : decide ((kk : Int) < (l0.length : Int)) = false := decide_eq_false hlt
  go_wp2
  go_ret
  refine ⟨-1, by first | rfl | (simp; done), ?_, HB.out⟩
  rw [decide_eq_false (by omega)]
  symm
  rw [List.any_eq_false]
  intro x hx
  obtain ⟨j, hj, rfl⟩ := List.mem_iff_getElem.1 hx
  have h1 := H1.out
  have := H3.out j (by omega)
  rw [List.getD_eq_getElem?_getD, List.getElem?_eq_getElem hj] at this
  simpa using this
def longText (s : ByteArray) : Bool := !(decide ((s.size : Int) ≤ 90))
set_option maxHeartbeats 8000000 in
set_option maxRecDepth 100000 in
theorem slices_IndexFunc_string_DiskOk_1.calls (A0 : Option Addr) (c0 : Nat) (l0 : List ByteArray) (w : World) (hr0 : Kd.C Kd.string w A0 l0.length l0) :
  Calls Try.prog 107 #[.slice A0 l0.length c0, .func (.func 63) #[] #[]] w fun e w' => ∃ r : Int, e = .returned (.int .i64 r) ∧ decide (r ≥ 0) = l0.any (longText) ∧ Below w.heap.size w w' := by
 have HR0 := aM hr0
 have HL := aM hr0.2.1
 clear hr0
 go_enter Try.func107, Try.ntmps107
 go_wp2
 go_loopg [8] l0.length (fun gg v8 w' => ∃ kk : Nat, v8 = .int .i64 (kk : Int) ∧ Aside0 (kk ≤ l0.length) ∧ Aside0 (l0.length - kk ≤ gg) ∧ Aside0 (∀ j, j < kk → longText (l0.getD j ByteArray.empty) = false) ∧ Aside0 (Below w.heap.size w w'))
 case atStart => exact ⟨0, rfl, ⟨Nat.zero_le _⟩, ⟨by omega⟩, ⟨fun j hj => absurd hj (Nat.not_lt_zero _)⟩, ⟨Below.refl _ _⟩⟩
 case round =>
  obtain ⟨kk, rfl, H1, H2, H3, HB⟩ := hrel
  by_cases hlt : (kk : Int) < (l0.length : Int)
  ·have hb0 : decide ((kk : Int) < (l0.length : Int)) = true := decide_eq_true hlt
   have hk0 : 0 ≤ (kk : Int) := Int.natCast_nonneg _
   obtain ⟨ad, e, hx0⟩ := Kd.at_string HR0.out (kk : Int) hk0 hlt
   cases e
   replace hx0 := (HB.out.cell (World.block_lt_of_cell? w _ hx0)).trans hx0
   have hcal := impl_DiskOk_1.calls (rdOf ByteArray.empty l0 (kk : Int)) (longText (rdOf ByteArray.empty l0 (kk : Int))) wr rfl
   simp only [Int.toNat_natCast] at hx0
   have hE : rdOf ByteArray.empty l0 (kk : Int) = l0.getD kk ByteArray.empty := by simp [rdOf]
   generalize rdOf ByteArray.empty l0 (kk : Int) = x at hx0 hcal hE
   have HE := aM hE
   clear hE
   have p207 := eq_true hk0
   have q207 := eq_true hlt
   clear hk0
   cases hq : longText x with
   | true =>
    rw [hq] at hcal
    go_wp2_with (first | (go_at_call 63; (with_reducible refine hcal.mono ?_); rintro e w' ⟨rfl, hd⟩; have hb := hd.below; clear hd))
    go_ret
    refine ⟨(kk : Int), by first | rfl | (simp; done), ?_, below_step HB.out hb⟩
    rw [decide_eq_true (by omega)]
    symm
    rw [List.any_eq_true]
    refine ⟨x, ?_, hq⟩
    rw [HE.out, List.getD_eq_getElem?_getD, List.getElem?_eq_getElem (by omega)]
    exact List.getElem_mem _
   | false =>
    rw [hq] at hcal
    go_wp2_with (first | (go_at_call 63; (with_reducible refine hcal.mono ?_); rintro e w' ⟨rfl, hd⟩; have hb := hd.below; clear hd))
    go_roundg (l0.length - (kk + 1))
    case measure => have := H2.out; omega
    case rel =>
     refine ⟨kk + 1, ?_, ⟨by omega⟩, ⟨Nat.le_refl _⟩, ⟨fun j hj => ?_⟩, ⟨below_step HB.out hb⟩⟩
     ·have := HL.out
      rw [show wrap64 ((kk : Int) + 1) = ((kk + 1 : Nat) : Int) by unfold wrap64; omega]
     ·by_cases e : j = kk
      ·rw [e, ← HE.out]; exact hq
      ·exact H3.out j (by omega)
  have hb0 : decide ((kk : Int) < (l0.length : Int)) = false := decide_eq_false hlt
  go_wp2
  go_ret
  refine ⟨-1, by first | rfl | (simp; done), ?_, HB.out⟩
  rw [decide_eq_false (by omega)]
  symm
  rw [List.any_eq_false]
  intro x hx
  obtain ⟨j, hj, rfl⟩ := List.mem_iff_getElem.1 hx
  have h1 := H1.out
  have := H3.out j (by omega)
  rw [List.getD_eq_getElem?_getD, List.getElem?_eq_getElem hj] at this
  simpa using this

set_option maxHeartbeats 8000000 in
set_option maxRecDepth 100000 in
theorem slices_ContainsFunc_Put_DiskOk_2.calls (g : Nat) (A : Option Addr) (n c : Nat) (v1 : Value) (A0 : Option Addr) (c0 : Nat) (l0 : List S65) (w : World) (hg0 : w.heap[g]? = some (.cells #[.slice A n c, v1] 30 (0, 0))) (hr0 : Kd.C k65 w A0 l0.length l0) :
  Calls Try.prog 65 #[.slice A0 l0.length c0, .func (.func 66) #[] #[.pointer (some ⟨g, 0, none⟩)]] w fun e w' => e = .returned (.bool (l0.any (impl_DiskOk_2.f n))) ∧ Below w.heap.size w w' := by
 have hcal := slices_IndexFunc_Put_DiskOk_2.calls g A n c v1 A0 c0 l0 w hg0 hr0
 clear hg0 hr0
 go_enter Try.func65, Try.ntmps65
 go_wp2_with (first | (go_at_call 108; (with_reducible refine hcal.mono ?_); rintro e w' ⟨r, rfl, hr, hb⟩))
 go_ret
 exact ⟨by rw [← hr]; rfl, hb⟩
set_option maxHeartbeats 8000000 in
set_option maxRecDepth 100000 in
theorem slices_ContainsFunc_string_DiskOk_1.calls (A0 : Option Addr) (c0 : Nat) (l0 : List ByteArray) (w : World) (hr0 : Kd.C Kd.string w A0 l0.length l0) :
  Calls Try.prog 62 #[.slice A0 l0.length c0, .func (.func 63) #[] #[]] w fun e w' => e = .returned (.bool (l0.any longText)) ∧ Below w.heap.size w w' := by
 have hcal := slices_IndexFunc_string_DiskOk_1.calls A0 c0 l0 w hr0
 clear hr0
 go_enter Try.func62, Try.ntmps62
 go_wp2_with (first | (go_at_call 107; (with_reducible refine hcal.mono ?_); rintro e w' ⟨r, rfl, hr, hb⟩))
 go_ret
 exact ⟨by rw [← hr]; rfl, hb⟩
def diskOk (l0 : List ByteArray) (l1 : List S65) : Bool := decide (l0.length ≤ 120) && (decide (l1.length ≤ 400) && (!(l0.any longText) && !(l1.any (impl_DiskOk_2.f l0.length))))
def impl_DiskOk.f (l0_0 : List ByteArray) (l0_1 : List S65) : Option Bool := some (diskOk l0_0 l0_1)
set_option maxHeartbeats 8000000 in
set_option maxRecDepth 100000 in
theorem impl_DiskOk.calls (A0_0 : Option Addr) (c0_0 : Nat) (l0_0 : List ByteArray) (A0_1 : Option Addr) (c0_1 : Nat) (l0_1 : List S65) (r : Bool) (w : World) (hr0_0 : Kd.C Kd.string w A0_0 l0_0.length l0_0) (hc0_0 : l0_0.length ≤ c0_0) (hr0_1 : Kd.C k65 w A0_1 l0_1.length l0_1) (hc0_1 : l0_1.length ≤ c0_1) (h : impl_DiskOk.f l0_0 l0_1 = some r) :
  Calls Try.prog 18 #[.agg #[.slice A0_0 l0_0.length c0_0, .slice A0_1 l0_1.length c0_1]] w fun e w' => e = .returned (.bool r) ∧ Below w.heap.size w w' := by
 have hu30 := Try.underlying30
 have HR0_0 := aM hr0_0
 have HR0_1 := aM hr0_1
 clear hr0_0 hc0_0 hr0_1 hc0_1
 obtain rfl := Option.some.inj h
 clear h
 unfold diskOk
 by_cases c1 : l0_0.length ≤ 120
 ·rw [decide_eq_true c1]
  have f1a : decide (120 < (l0_0.length : Int)) = false := decide_eq_false (by omega)
  have f1b : decide (120 < l0_0.length) = false := decide_eq_false (by omega)
  have f1c : decide ((l0_0.length : Int) > 120) = false := decide_eq_false (by omega)
  clear c1
  by_cases c2 : l0_1.length ≤ 400
  ·rw [decide_eq_true c2]
   have f2a : decide (400 < (l0_1.length : Int)) = false := decide_eq_false (by omega)
   have f2b : decide (400 < l0_1.length) = false := decide_eq_false (by omega)
   have f2c : decide ((l0_1.length : Int) > 400) = false := decide_eq_false (by omega)
   clear c2
   cases c3 : l0_0.any longText with
   | true =>
    go_enter Try.func18, Try.ntmps18
    go_wp2_with (first | ((with_reducible refine gate_dst (N := 1) rfl ?_); refine bE 1 #[.slice A0_0 l0_0.length c0_0, .slice A0_1 l0_1.length c0_1] 30 ?_; intro gb hg w4 hbox hb; have hc0 : w4.cell? ⟨gb, 0, none⟩ = some (.slice A0_0 l0_0.length c0_0) := (blk_cell hbox 0).trans rfl; have hc1 : w4.cell? ⟨gb, 1, none⟩ = some (.slice A0_1 l0_1.length c0_1) := (blk_cell hbox 1).trans rfl; have HG := aM hbox; have HB := aM hb; clear hbox hb hg) | (go_at_call 62; (with_reducible refine (slices_ContainsFunc_string_DiskOk_1.calls A0_0 c0_0 l0_0 _ (Kd.C_below HR0_0.out HB.out)).mono ?_); rintro e w' ⟨rfl, hb⟩; rw [c3]; replace hc0 := (hb.cell (World.block_lt_of_cell? _ _ hc0)).trans hc0; replace hc1 := (hb.cell (World.block_lt_of_cell? _ _ hc1)).trans hc1; have n1 := aM (blk_below HG.out hb); have n2 := aM (below_step HB.out hb); clear HG HB; have HG := n1; have HB := n2; clear n1 n2 hb))
    go_ret
    exact ⟨by first | rfl | (simp; done), bB⟩

   | false =>
    go_enter Try.func18, Try.ntmps18
    go_wp2_with (first | ((with_reducible refine gate_dst (N := 1) rfl ?_); refine bE 1 #[.slice A0_0 l0_0.length c0_0, .slice A0_1 l0_1.length c0_1] 30 ?_; intro gb hg w4 hbox hb; have hc0 : w4.cell? ⟨gb, 0, none⟩ = some (.slice A0_0 l0_0.length c0_0) := (blk_cell hbox 0).trans rfl; have hc1 : w4.cell? ⟨gb, 1, none⟩ = some (.slice A0_1 l0_1.length c0_1) := (blk_cell hbox 1).trans rfl; have HG := aM hbox; have HB := aM hb; clear hbox hb hg) | (go_at_call 62; (with_reducible refine (slices_ContainsFunc_string_DiskOk_1.calls A0_0 c0_0 l0_0 _ (Kd.C_below HR0_0.out HB.out)).mono ?_); rintro e w' ⟨rfl, hb⟩; rw [c3]; replace hc0 := (hb.cell (World.block_lt_of_cell? _ _ hc0)).trans hc0; replace hc1 := (hb.cell (World.block_lt_of_cell? _ _ hc1)).trans hc1; have n1 := aM (blk_below HG.out hb); have n2 := aM (below_step HB.out hb); clear HG HB; have HG := n1; have HB := n2; clear n1 n2 hb) | (go_at_call 65; (with_reducible refine (slices_ContainsFunc_Put_DiskOk_2.calls _ A0_0 l0_0.length c0_0 _ A0_1 c0_1 l0_1 _ HG.out (Kd.C_below HR0_1.out HB.out)).mono ?_); rintro e w' ⟨rfl, hb⟩; have n2 := aM (below_step HB.out hb); clear HB; have HB := n2; clear n2 hb))
    go_ret
    exact ⟨by first | rfl | (simp; done), bB⟩

  rw [decide_eq_false c2]
  have f2a : decide (400 < (l0_1.length : Int)) = true := decide_eq_true (by omega)
  have f2b : decide (400 < l0_1.length) = true := decide_eq_true (by omega)
  have f2c : decide ((l0_1.length : Int) > 400) = true := decide_eq_true (by omega)
  clear c2
  go_enter Try.func18, Try.ntmps18
  go_wp2_with (first | ((with_reducible refine gate_dst (N := 1) rfl ?_); refine bE 1 #[.slice A0_0 l0_0.length c0_0, .slice A0_1 l0_1.length c0_1] 30 ?_; intro gb hg w4 hbox hb; have hc0 : w4.cell? ⟨gb, 0, none⟩ = some (.slice A0_0 l0_0.length c0_0) := (blk_cell hbox 0).trans rfl; have hc1 : w4.cell? ⟨gb, 1, none⟩ = some (.slice A0_1 l0_1.length c0_1) := (blk_cell hbox 1).trans rfl; have HG := aM hbox; have HB := aM hb; clear hbox hb hg))
  go_ret
  exact ⟨by first | rfl | (simp; done), bB⟩

 rw [decide_eq_false c1]
 have f1a : decide (120 < (l0_0.length : Int)) = true := decide_eq_true (by omega)
 have f1b : decide (120 < l0_0.length) = true := decide_eq_true (by omega)
 have f1c : decide ((l0_0.length : Int) > 120) = true := decide_eq_true (by omega)
 clear c1
 go_enter Try.func18, Try.ntmps18
 go_wp2_with (first | ((with_reducible refine gate_dst (N := 1) rfl ?_); refine bE 1 #[.slice A0_0 l0_0.length c0_0, .slice A0_1 l0_1.length c0_1] 30 ?_; intro gb hg w4 hbox hb; have hc0 : w4.cell? ⟨gb, 0, none⟩ = some (.slice A0_0 l0_0.length c0_0) := (blk_cell hbox 0).trans rfl; have hc1 : w4.cell? ⟨gb, 1, none⟩ = some (.slice A0_1 l0_1.length c0_1) := (blk_cell hbox 1).trans rfl; have HG := aM hbox; have HB := aM hb; clear hbox hb hg))
 go_ret
 exact ⟨by first | rfl | (simp; done), bB⟩


/-! ### impl_SectorRead: function 21 -/
mutual
def impl_SectorRead.j0 : Nat → Int → Bool → List ByteArray → List (S65) → Option (ByteArray × Bool)
 | 0, _, _, _, _ => none
 | k + 1, x1, x20, x103000, x103001 => if x20 = true then (some ((⟨#[]⟩ : ByteArray), false)) else (if 0 ≤ x1 then (if x1 < (x103000.length : Int) then (impl_SectorRead.l0 k x1 (rdOf ByteArray.empty x103000 x1) x103001 (x103001.length : Int) 0) else (none)) else (none))
def impl_SectorRead.l0 : Nat → Int → ByteArray → List (S65) → Int → Int → Option (ByteArray × Bool)
 | 0, _, _, _, _, _ => none
 | k + 1, x1, x6, x27, x28, x29 => if x29 < x28 then (if 0 ≤ x29 then (if x29 < (x27.length : Int) then (if ((rd_T65 x27 x29).f0) = x1 then (impl_SectorRead.l0 k x1 ((rd_T65 x27 x29).f1) x27 x28 (wrap64 (x29 + 1))) else (impl_SectorRead.l0 k x1 x6 x27 x28 (wrap64 (x29 + 1)))) else (none)) else (none)) else (some (x6, true))
end
def impl_SectorRead.f (k : Nat) (l0_0 : List ByteArray) (l0_1 : List (S65)) (a1 : Int) : Option (ByteArray × Bool) := (impl_DiskOk.f l0_0 l0_1).bind fun t103 => (if t103 = true then ((impl_within.f a1 0 (wrap64 ((l0_0.length : Int) - 1))).bind fun t104 => (impl_SectorRead.j0 k a1 (!t104) l0_0 l0_1)) else (impl_SectorRead.j0 k a1 true l0_0 l0_1))
theorem impl_SectorRead.mono_l : ∀ k, (∀ y0 y1 y2 y3, LeO (impl_SectorRead.j0 k y0 y1 y2 y3) (impl_SectorRead.j0 (k + 1) y0 y1 y2 y3)) ∧ (∀ y0 y1 y2 y3 y4, LeO (impl_SectorRead.l0 k y0 y1 y2 y3 y4) (impl_SectorRead.l0 (k + 1) y0 y1 y2 y3 y4))
 | 0 => ⟨fun _ _ _ _ r h => by simp [impl_SectorRead.j0] at h, fun _ _ _ _ _ r h => by simp [impl_SectorRead.l0] at h⟩
 | k + 1 => by
  obtain ⟨ih0, ih1⟩ := impl_SectorRead.mono_l k
  refine ⟨?_, ?_⟩
  ·intro y0 y1 y2 y3
   unfold impl_SectorRead.j0
   exact mM
  ·intro y0 y1 y2 y3 y4
   unfold impl_SectorRead.l0
   exact mM
theorem impl_SectorRead.mono : ∀ a0 a1 a2 k, LeO (impl_SectorRead.f k a0 a1 a2) (impl_SectorRead.f (k + 1) a0 a1 a2) := by
 intro a0 a1 a2 k
 obtain ⟨ih0, ih1⟩ := impl_SectorRead.mono_l k
 unfold impl_SectorRead.f
 exact mM
set_option maxHeartbeats 8000000 in
set_option maxRecDepth 100000 in
theorem impl_SectorRead.calls (k : Nat) (A0_0 : Option Addr) (c0_0 : Nat) (l0_0 : List ByteArray) (A0_1 : Option Addr) (c0_1 : Nat) (l0_1 : List (S65)) (a1 : Int) (r1 : ByteArray) (r2 : Bool) (w : World) (hr0_0 : Kd.C Kd.string w A0_0 l0_0.length l0_0) (hc0_0 : l0_0.length ≤ c0_0) (hr0_1 : Kd.C k65 w A0_1 l0_1.length l0_1) (hc0_1 : l0_1.length ≤ c0_1) (h : impl_SectorRead.f k l0_0 l0_1 a1 = some (r1, r2)) :
  Calls Try.prog 21 #[.agg #[.slice A0_0 l0_0.length c0_0, .slice A0_1 l0_1.length c0_1], .int .i64 a1] w fun e w' => e = .returned (.tuple #[.string r1, .bool r2]) ∧ Below w.heap.size w w' := by
 have hu30 := Try.underlying30
 have hu65 := Try.underlying65
 have HR0_0 := aM hr0_0
 have HC0_0 := aM hc0_0
 clear hr0_0 hc0_0
 have HR0_1 := aM hr0_1
 have HC0_1 := aM hc0_1
 clear hr0_1 hc0_1
 have HB := aM (Below.refl w.heap.size w)
 unfold impl_SectorRead.f at h
 have H := h
 clear h
 have HC3 := aM H
 clear H
 go_enter Try.func21, Try.ntmps21
 go_upto_region 1 with (first | ((with_reducible refine gate_dst (N := 2) rfl ?_); (try (refine gate_guard (by rfl) ?_; dsimp only)); refine box_event ?hg (N := 2) ?hd (cs := #[.slice A0_0 l0_0.length c0_0, .slice A0_1 l0_1.length c0_1]) (t := 30) ?hr ?_; (case hd => rfl); (case hg => rfl); (case hr => first | (go_simp; done) | (go_simp; rfl)); intro gb102 hg w4 hbox hb; have n_ := aI (sB HB hb) (aI (aM hbox) (aI (gE HB hg) (gE HB hg))); clear HB; obtain ⟨HB, BK102, GW102, GE102⟩ := n_; (try clear hb hbox hg)))
 (try simp only [Act.put, List.setIfInBounds_toArray, List.set_cons_zero, List.set_cons_succ])
 go_cut [20] (fun v20 wc => ∃ (kq : Nat) (x20_2 : Bool), v20 = .bool x20_2 ∧ Aside0 (impl_SectorRead.j0 kq a1 x20_2 l0_0 l0_1 = some (r1, r2)) ∧ Aside0 (kq ≤ k) ∧ Aside0 (wc.heap[gb102]? = some (.cells #[(.slice A0_0 l0_0.length c0_0), (.slice A0_1 l0_1.length c0_1)] 30 (0, 0))) ∧ Aside0 (Below w.heap.size w wc))
 case first =>
  have H := HC3.out
  clear HC3
  replace H := Option.bind_eq_some_iff.mp H
  obtain ⟨t103, A50, H⟩ := H
  try dsimp only at H
  have A5 := aM A50
  clear A50
  by_cases c6 : t103 = true
  ·subst c6
   rw [if_pos rfl] at H
   replace H := Option.bind_eq_some_iff.mp H
   obtain ⟨t104, A70, H⟩ := H
   try dsimp only at H
   have A7 := aM A70
   clear A70
   have H' := aM H
   clear H
   have hcz8_0 := cZ0 BK102
   have hcz8_1 := cZ1 BK102
   have hfz8_0 := blk_frozen BK102.out 0
   have hfz8_1 := blk_frozen BK102.out 1
   go_wp2_with (first | ((with_reducible refine gate_callee (f := 18) rfl ?_); refine gL (some 10) Try.func18 #[.agg #[.slice A0_0 l0_0.length c0_0, .slice A0_1 l0_1.length c0_1]] ?_; (with_reducible refine (impl_DiskOk.calls _ _ l0_0 _ _ l0_1 true _ ?side1 ?side2 ?side3 ?side4 A5.out).mono ?_); (case side1 => exact cS HR0_0 HB); (case side2 => exact HC0_0.out); (case side3 => exact cS HR0_1 HB); (case side4 => exact HC0_1.out); rintro e w9 ⟨rfl, hb⟩; refine ⟨_, rfl, ?_⟩; have n_ := aI (kB BK102 hb) (sB HB hb); clear BK102 HB; obtain ⟨BK102, HB⟩ := n_; (try clear hb); have hcz10_0 := cZ0 BK102; have hcz10_1 := cZ1 BK102; have hfz10_0 := blk_frozen BK102.out 0; have hfz10_1 := blk_frozen BK102.out 1) | (go_at_call 67; (with_reducible refine (impl_within.calls a1 0 (wrap64 ((l0_0.length : Int) - 1)) t104 _ A7.out).mono ?_); rintro e w' ⟨rfl, ⟨nd, rfl⟩⟩))
   go_meet
   case rel => exact ⟨_, (!t104), (by first | rfl | (simp; done) | (simp [*]; done) | (simp; exact (by intro l_; cases l_ <;> rfl : ∀ l_ : List UInt8, l_.isEmpty = !(l_ != [])) _)), H', ⟨by first | omega | exact Nat.le_refl _⟩, ⟨kP BK102⟩, ⟨bB⟩⟩
  replace c6 := Bool.eq_false_iff.mpr c6
  subst c6
  rw [if_neg (show ¬ (false = true) by decide)] at H
  have H' := aM H
  clear H
  have hcz11_0 := cZ0 BK102
  have hcz11_1 := cZ1 BK102
  have hfz11_0 := blk_frozen BK102.out 0
  have hfz11_1 := blk_frozen BK102.out 1
  go_wp2_with (first | ((with_reducible refine gate_callee (f := 18) rfl ?_); refine gL (some 10) Try.func18 #[.agg #[.slice A0_0 l0_0.length c0_0, .slice A0_1 l0_1.length c0_1]] ?_; (with_reducible refine (impl_DiskOk.calls _ _ l0_0 _ _ l0_1 false _ ?side1 ?side2 ?side3 ?side4 A5.out).mono ?_); (case side1 => exact cS HR0_0 HB); (case side2 => exact HC0_0.out); (case side3 => exact cS HR0_1 HB); (case side4 => exact HC0_1.out); rintro e w12 ⟨rfl, hb⟩; refine ⟨_, rfl, ?_⟩; have n_ := aI (kB BK102 hb) (sB HB hb); clear BK102 HB; obtain ⟨BK102, HB⟩ := n_; (try clear hb)))
  go_meet
  case rel => exact ⟨_, (true), (by first | rfl | (simp; done) | (simp [*]; done) | (simp; exact (by intro l_; cases l_ <;> rfl : ∀ l_ : List UInt8, l_.isEmpty = !(l_ != [])) _)), H', ⟨by first | omega | exact Nat.le_refl _⟩, ⟨kP BK102⟩, ⟨bB⟩⟩
 case rest =>
  clear HC3
  try clear c1
  try clear c2
  try clear p2
  try clear c6
  try clear p6
  try clear hcz10_0
  try clear hcz10_1
  try clear hcz11_0
  try clear hcz11_1
  try clear hcz8_0
  try clear hcz8_1
  try clear hfz10_0
  try clear hfz10_1
  try clear hfz11_0
  try clear hfz11_1
  try clear hfz8_0
  try clear hfz8_1
  obtain ⟨kq, x20_2, rfl, HA, HJ2, BK102, HB⟩ := hcut
  cases kq with
  | zero => exact absurd HA.out (by simp [impl_SectorRead.j0])
  | succ kj2 =>
   have H := HA.out
   clear HA
   simp only [impl_SectorRead.j0] at H
   by_cases c13 : x20_2 = true
   ·subst c13
    rw [if_pos rfl] at H
    simp only [Option.some.injEq, Prod.mk.injEq] at H
    obtain ⟨rfl, rfl⟩ := H
    go_wp2
    go_ret2
    exact ⟨eW, bB⟩
   ·replace c13 := Bool.eq_false_iff.mpr c13
    subst c13
    rw [if_neg (show ¬ (false = true) by decide)] at H
    by_cases c14 : 0 ≤ a1
    ·rw [if_pos c14] at H
     have c14b0 : decide (0 ≤ a1) = true := decide_eq_true c14
     clear c14
     by_cases c15 : a1 < (l0_0.length : Int)
     ·rw [if_pos c15] at H
      have c15b0 : decide (a1 < (l0_0.length : Int)) = true := decide_eq_true c15
      clear c15
      have H' := aM H
      clear H
      have hcz16_0 := cZ0 BK102
      have hcz16_1 := cZ1 BK102
      have hfz16_0 := blk_frozen BK102.out 0
      have hfz16_1 := blk_frozen BK102.out 1
      have p105 : 0 ≤ (a1 : Int) := dT
      have q105 : a1 < (l0_0.length : Int) := dT
      obtain ⟨ad105, e105, hx105_0⟩ := Kd.at_string HR0_0.out a1 p105 q105
      cases e105
      replace hx105_0 := (HB.out.cell (World.block_lt_of_cell? w _ hx105_0)).trans hx105_0
      replace p105 := eq_true p105
      replace q105 := eq_true q105
      go_wp2
      go_loopg [6, 29] kj2 (fun kq v6 v29 w' => ∃ (x6_2 : ByteArray) (x29_2 : Int), v6 = .string x6_2 ∧ v29 = .int .i64 x29_2 ∧ Aside0 (impl_SectorRead.l0 kq a1 x6_2 l0_1 (l0_1.length : Int) x29_2 = some (r1, r2)) ∧ Aside0 (kq ≤ kj2) ∧ Aside0 (w'.heap[gb102]? = some (.cells #[(.slice (some ad105) l0_0.length c0_0), (.slice A0_1 l0_1.length c0_1)] 30 (0, 0))) ∧ Aside0 (Below w.heap.size w w'))
      case atStart => exact ⟨(rdOf ByteArray.empty l0_0 a1), (0), (by first | rfl | (simp; done) | (simp [*]; done) | (simp; exact (by intro l_; cases l_ <;> rfl : ∀ l_ : List UInt8, l_.isEmpty = !(l_ != [])) _)), (by first | rfl | (simp; done) | (simp [*]; done) | (simp; exact (by intro l_; cases l_ <;> rfl : ∀ l_ : List UInt8, l_.isEmpty = !(l_ != [])) _)), H', ⟨Nat.le_refl _⟩, ⟨kP BK102⟩, ⟨bB⟩⟩
      case round =>
       clear H'
       try clear c1
       try clear p1
       try clear q1
       try clear hx1
       try clear c2
       try clear p2
       try clear c6
       try clear p6
       try clear p10
       try clear q10
       try clear hx10
       try clear c13
       try clear c14
       try clear c14b0
       try clear c15
       try clear c15b0
       try clear hcz10_0
       try clear hcz10_1
       try clear hcz11_0
       try clear hcz11_1
       try clear hcz16_0
       try clear hcz16_1
       try clear hcz8_0
       try clear hcz8_1
       try clear hfz10_0
       try clear hfz10_1
       try clear hfz11_0
       try clear hfz11_1
       try clear hfz16_0
       try clear hfz16_1
       try clear hfz8_0
       try clear hfz8_1
       try clear hx105_0
       try clear p105
       try clear p2
       try clear p6
       try clear q105
       obtain ⟨x6_2, x29_2, rfl, rfl, HA, HK2, BK102, HB⟩ := hrel
       cases gk with
       | zero => exact absurd HA.out (by simp [impl_SectorRead.l0])
       | succ k2 =>
        have H := HA.out
        clear HA
        simp only [impl_SectorRead.l0] at H
        by_cases c17 : x29_2 < (l0_1.length : Int)
        ·rw [if_pos c17] at H
         have c17b0 : decide (x29_2 < (l0_1.length : Int)) = true := decide_eq_true c17
         clear c17
         by_cases c18 : 0 ≤ x29_2
         ·rw [if_pos c18] at H
          have c18b0 : decide (0 ≤ x29_2) = true := decide_eq_true c18
          clear c18
          by_cases c19 : x29_2 < (l0_1.length : Int)
          ·rw [if_pos c19] at H
           have c19b0 : decide (x29_2 < (l0_1.length : Int)) = true := decide_eq_true c19
           clear c19
           by_cases c20 : ((rd_T65 l0_1 x29_2).f0) = a1
           ·rw [if_pos c20] at H
            have c20b0 : (((rd_T65 l0_1 x29_2).f0) == a1) = true := beq_iff_eq.mpr c20
            have c20b1 : (((rd_T65 l0_1 x29_2).f0) != a1) = false := bne_eq_false_iff_eq.mpr c20
            clear c20
            have H' := aM H
            clear H
            have p106 : 0 ≤ (x29_2 : Int) := dT
            have q106 : x29_2 < (l0_1.length : Int) := dT
            obtain ⟨ad106, e106, hx106_0, hx106_1⟩ := at_T65 HR0_1.out x29_2 p106 q106
            cases e106
            replace hx106_0 := (HB.out.cell (World.block_lt_of_cell? w _ hx106_0)).trans hx106_0
            replace hx106_1 := (HB.out.cell (World.block_lt_of_cell? w _ hx106_1)).trans hx106_1
            replace p106 := eq_true p106
            replace q106 := eq_true q106
            go_wp2_with (first | ((with_reducible refine gate_dst (N := 8) rfl ?_); (try (refine gate_guard (by rfl) ?_; dsimp only)); refine box_event ?hg (N := 8) ?hd (cs := #[.int .i64 0, .string (⟨#[]⟩ : ByteArray)]) (t := 65) ?hr ?_; (case hd => rfl); (case hg => rfl); (case hr => first | (go_simp; done) | (go_simp; rfl)); intro gb107 hg w21 hbox hb; have n_ := aI (kB BK102 hb) (aI (sB HB hb) (aI (aM hbox) (aI (gE HB hg) (aI (gE HB hg) (aI (nL BK102 hg) (nG BK102 hg)))))); clear BK102 HB; obtain ⟨BK102, HB, BK107, GW107, GE107, NB102_107, NB107_102⟩ := n_; (try clear hb hbox hg); have hnb22 := NB107_102.out; have hnc22 := NB102_107.out; have hcz23_0 := cZ0 BK107; have hcz23_1 := cZ1 BK107; have hfz23_0 := blk_frozen BK107.out 0; have hfz23_1 := blk_frozen BK107.out 1))
            go_roundg k2
            case measure => have := HJ2.out; have := HK2.out; omega
            case rel => exact ⟨((rd_T65 l0_1 x29_2).f1), (wrap64 (x29_2 + 1)), (by first | rfl | (simp; done) | (simp [*]; done) | (simp; exact (by intro l_; cases l_ <;> rfl : ∀ l_ : List UInt8, l_.isEmpty = !(l_ != [])) _)), (by first | rfl | (simp; done) | (simp [*]; done) | (simp; exact (by intro l_; cases l_ <;> rfl : ∀ l_ : List UInt8, l_.isEmpty = !(l_ != [])) _)), H', ⟨by have := HJ2.out; have := HK2.out; omega⟩, ⟨kP BK102⟩, ⟨bB⟩⟩
           ·rw [if_neg c20] at H
            have c20b0 : (((rd_T65 l0_1 x29_2).f0) == a1) = false := beq_eq_false_iff_ne.mpr c20
            have c20b1 : (((rd_T65 l0_1 x29_2).f0) != a1) = true := bne_iff_ne.mpr c20
            have H' := aM H
            clear H
            have p106 : 0 ≤ (x29_2 : Int) := dT
            have q106 : x29_2 < (l0_1.length : Int) := dT
            obtain ⟨ad106, e106, hx106_0, hx106_1⟩ := at_T65 HR0_1.out x29_2 p106 q106
            cases e106
            replace hx106_0 := (HB.out.cell (World.block_lt_of_cell? w _ hx106_0)).trans hx106_0
            replace hx106_1 := (HB.out.cell (World.block_lt_of_cell? w _ hx106_1)).trans hx106_1
            replace p106 := eq_true p106
            replace q106 := eq_true q106
            go_wp2_with (first | ((with_reducible refine gate_dst (N := 8) rfl ?_); (try (refine gate_guard (by rfl) ?_; dsimp only)); refine box_event ?hg (N := 8) ?hd (cs := #[.int .i64 0, .string (⟨#[]⟩ : ByteArray)]) (t := 65) ?hr ?_; (case hd => rfl); (case hg => rfl); (case hr => first | (go_simp; done) | (go_simp; rfl)); intro gb107 hg w24 hbox hb; have n_ := aI (kB BK102 hb) (aI (sB HB hb) (aI (aM hbox) (aI (gE HB hg) (aI (gE HB hg) (aI (nL BK102 hg) (nG BK102 hg)))))); clear BK102 HB; obtain ⟨BK102, HB, BK107, GW107, GE107, NB102_107, NB107_102⟩ := n_; (try clear hb hbox hg); have hnb25 := NB107_102.out; have hnc25 := NB102_107.out; have hcz26_0 := cZ0 BK107; have hcz26_1 := cZ1 BK107; have hfz26_0 := blk_frozen BK107.out 0; have hfz26_1 := blk_frozen BK107.out 1))
            go_roundg k2
            case measure => have := HJ2.out; have := HK2.out; omega
            case rel => exact ⟨(x6_2), (wrap64 (x29_2 + 1)), (by first | rfl | (simp; done) | (simp [*]; done) | (simp; exact (by intro l_; cases l_ <;> rfl : ∀ l_ : List UInt8, l_.isEmpty = !(l_ != [])) _)), (by first | rfl | (simp; done) | (simp [*]; done) | (simp; exact (by intro l_; cases l_ <;> rfl : ∀ l_ : List UInt8, l_.isEmpty = !(l_ != [])) _)), H', ⟨by have := HJ2.out; have := HK2.out; omega⟩, ⟨kP BK102⟩, ⟨bB⟩⟩
          ·rw [if_neg c19] at H
           exact absurd H (by simp)
         ·rw [if_neg c18] at H
          exact absurd H (by simp)
        ·rw [if_neg c17] at H
         have c17b0 : decide (x29_2 < (l0_1.length : Int)) = false := decide_eq_false c17
         clear c17
         simp only [Option.some.injEq, Prod.mk.injEq] at H
         obtain ⟨rfl, rfl⟩ := H
         go_wp2
         go_ret2
         exact ⟨eW, bB⟩
     ·rw [if_neg c15] at H
      exact absurd H (by simp)
    ·rw [if_neg c14] at H
     exact absurd H (by simp)

/-! ### spec_l1In: function 69 -/
def spec_l1In.f (a0 : Int) (a1 : Int) (a2 : Int) : Option (Bool) := if a0 ≥ a1 then (some (decide (a0 ≤ a2))) else (some false)
set_option maxHeartbeats 8000000 in
set_option maxRecDepth 100000 in
theorem spec_l1In.calls (a0 : Int) (a1 : Int) (a2 : Int) (r : Bool) (w : World) (h : spec_l1In.f a0 a1 a2 = some r) :
  Calls Try.prog 69 #[.int .i64 a0, .int .i64 a1, .int .i64 a2] w fun e w' => e = .returned (.bool r) ∧ Drawn0 w w' := by
 unfold spec_l1In.f at h
 have H := h
 clear h
 by_cases c4 : a0 ≥ a1
 ·rw [if_pos c4] at H
  have c4b0 : decide (a1 ≤ a0) = true := decide_eq_true c4
  clear c4
  obtain rfl := Option.some.inj H
  go_enter Try.func69, Try.ntmps69
  go_wp2
  go_ret
  exact ⟨by first | rfl | (simp; done) | (simp [*]; done), by repeat (first | exact Drawn0.refl _ | apply Drawn0.step)⟩
 rw [if_neg c4] at H
 have c4b0 : decide (a1 ≤ a0) = false := decide_eq_false c4
 clear c4
 obtain rfl := Option.some.inj H
 go_enter Try.func69, Try.ntmps69
 go_wp2
 go_ret
 exact ⟨by first | rfl | (simp; done) | (simp [*]; done), by repeat (first | exact Drawn0.refl _ | apply Drawn0.step)⟩

/-! ### spec_l3PutsOk: function 59 -/
def spec_l3PutsOk.l0 : Nat → List (S65) → Int → Int → Option (Bool)
 | 0, _, _, _ => none
 | k + 1, x0, x1, x5 => if x5 < (x0.length : Int) then (if 0 ≤ x5 then ((spec_l1In.f ((rd_T65 x0 x5).f0) 0 (wrap64 (x1 - 1))).bind fun t109 => (if t109 = true then (if (((rd_T65 x0 x5).f1).size : Int) > 90 then (some false) else (spec_l3PutsOk.l0 k x0 x1 (wrap64 (x5 + 1)))) else (some false))) else (none)) else (some true)
def spec_l3PutsOk.f (k : Nat) (l0 : List (S65)) (a1 : Int) : Option (Bool) := spec_l3PutsOk.l0 k l0 a1 0
theorem spec_l3PutsOk.mono_l : ∀ k, (∀ y0 y1 y2, LeO (spec_l3PutsOk.l0 k y0 y1 y2) (spec_l3PutsOk.l0 (k + 1) y0 y1 y2))
 | 0 => fun _ _ _ r h => by simp [spec_l3PutsOk.l0] at h
 | k + 1 => by
  have ih0 := spec_l3PutsOk.mono_l k
  ·intro y0 y1 y2
   unfold spec_l3PutsOk.l0
   exact mM
theorem spec_l3PutsOk.mono : ∀ a0 a1 k, LeO (spec_l3PutsOk.f k a0 a1) (spec_l3PutsOk.f (k + 1) a0 a1) := by
 intro a0 a1 k
 have ih0 := spec_l3PutsOk.mono_l k
 unfold spec_l3PutsOk.f
 exact mM
set_option maxHeartbeats 8000000 in
set_option maxRecDepth 100000 in
theorem spec_l3PutsOk.calls (k : Nat) (A0 : Option Addr) (c0 : Nat) (l0 : List (S65)) (a1 : Int) (r : Bool) (w : World) (hr0 : Kd.C k65 w A0 l0.length l0) (hc0 : l0.length ≤ c0) (h : spec_l3PutsOk.f k l0 a1 = some r) :
  Calls Try.prog 59 #[.slice A0 l0.length c0, .int .i64 a1] w fun e w' => e = .returned (.bool r) ∧ Drawn0 w w' := by
 have HR0 := aM hr0
 have HC0 := aM hc0
 clear hr0 hc0
 unfold spec_l3PutsOk.f at h
 have H := h
 clear h
 have H' := aM H
 clear H
 go_enter Try.func59, Try.ntmps59
 go_wp2
 go_loopg [5] k (fun kq v5 w' => ∃ (x5_1 : Int), v5 = .int .i64 x5_1 ∧ Aside0 (spec_l3PutsOk.l0 kq l0 a1 x5_1 = some r) ∧ Aside0 (kq ≤ k) ∧ Drawn0 w w')
 case atStart => exact ⟨(0), (by first | rfl | (simp; done) | (simp [*]; done) | (simp; exact (by intro l_; cases l_ <;> rfl : ∀ l_ : List UInt8, l_.isEmpty = !(l_ != [])) _)), H', ⟨Nat.le_refl _⟩, by repeat (first | exact Drawn0.refl _ | apply Drawn0.step)⟩
 case round =>
  clear H'
  try clear p2
  obtain ⟨x5_1, rfl, HA, HK1, ⟨m1, rfl⟩⟩ := hrel
  cases gk with
  | zero => exact absurd HA.out (by simp [spec_l3PutsOk.l0])
  | succ k1 =>
   have H := HA.out
   clear HA
   simp only [spec_l3PutsOk.l0] at H
   by_cases c3 : x5_1 < (l0.length : Int)
   ·rw [if_pos c3] at H
    have c3b0 : decide (x5_1 < (l0.length : Int)) = true := decide_eq_true c3
    clear c3
    by_cases c4 : 0 ≤ x5_1
    ·rw [if_pos c4] at H
     have c4b0 : decide (0 ≤ x5_1) = true := decide_eq_true c4
     clear c4
     replace H := Option.bind_eq_some_iff.mp H
     obtain ⟨t109, A50, H⟩ := H
     try dsimp only at H
     have A5 := aM A50
     clear A50
     by_cases c6 : t109 = true
     ·subst c6
      rw [if_pos rfl] at H
      by_cases c7 : (((rd_T65 l0 x5_1).f1).size : Int) > 90
      ·rw [if_pos c7] at H
       have c7b0 : decide (90 < (((rd_T65 l0 x5_1).f1).size : Int)) = true := decide_eq_true c7
       have c7b1 : decide (90 < ((rd_T65 l0 x5_1).f1).size) = true := decide_eq_true (by omega)
       clear c7
       obtain rfl := Option.some.inj H
       have p108 : 0 ≤ (x5_1 : Int) := dT
       have q108 : x5_1 < (l0.length : Int) := dT
       obtain ⟨ad108, e108, hx108_0, hx108_1⟩ := at_T65 HR0.out x5_1 p108 q108
       cases e108
       replace p108 := eq_true p108
       replace q108 := eq_true q108
       go_wp2_with (first | ((with_reducible refine gate_callee (f := 69) rfl ?_); refine gL (some 19) Try.func69 #[.int .i64 ((rd_T65 l0 x5_1).f0), .int .i64 0, .int .i64 (wrap64 (a1 - 1))] ?_; (with_reducible refine (spec_l1In.calls ((rd_T65 l0 x5_1).f0) 0 (wrap64 (a1 - 1)) true _ A5.out).mono ?_); rintro e w' ⟨rfl, ⟨nd, rfl⟩⟩; refine ⟨_, rfl, ?_⟩; have p110 : 0 ≤ (x5_1 : Int) := dT; have q110 : x5_1 < (l0.length : Int) := dT; obtain ⟨ad110, e110, hx110_0, hx110_1⟩ := at_T65 HR0.out x5_1 p110 q110; obtain rfl : ad108 = ad110 := (by injection e110); replace p110 := eq_true p110; replace q110 := eq_true q110))
       go_ret
       exact ⟨by first | rfl | (simp; done) | (simp [*]; done), by repeat (first | exact Drawn0.refl _ | apply Drawn0.step)⟩
      ·rw [if_neg c7] at H
       have c7b0 : decide (90 < (((rd_T65 l0 x5_1).f1).size : Int)) = false := decide_eq_false c7
       have c7b1 : decide (90 < ((rd_T65 l0 x5_1).f1).size) = false := decide_eq_false (by omega)
       clear c7
       have H' := aM H
       clear H
       have p108 : 0 ≤ (x5_1 : Int) := dT
       have q108 : x5_1 < (l0.length : Int) := dT
       obtain ⟨ad108, e108, hx108_0, hx108_1⟩ := at_T65 HR0.out x5_1 p108 q108
       cases e108
       replace p108 := eq_true p108
       replace q108 := eq_true q108
       go_wp2_with (first | ((with_reducible refine gate_callee (f := 69) rfl ?_); refine gL (some 19) Try.func69 #[.int .i64 ((rd_T65 l0 x5_1).f0), .int .i64 0, .int .i64 (wrap64 (a1 - 1))] ?_; (with_reducible refine (spec_l1In.calls ((rd_T65 l0 x5_1).f0) 0 (wrap64 (a1 - 1)) true _ A5.out).mono ?_); rintro e w' ⟨rfl, ⟨nd, rfl⟩⟩; refine ⟨_, rfl, ?_⟩; have p110 : 0 ≤ (x5_1 : Int) := dT; have q110 : x5_1 < (l0.length : Int) := dT; obtain ⟨ad110, e110, hx110_0, hx110_1⟩ := at_T65 HR0.out x5_1 p110 q110; obtain rfl : ad108 = ad110 := (by injection e110); replace p110 := eq_true p110; replace q110 := eq_true q110))
       go_roundg k1
       case measure => have := HK1.out; omega
       case rel => exact ⟨(wrap64 (x5_1 + 1)), (by first | rfl | (simp; done) | (simp [*]; done) | (simp; exact (by intro l_; cases l_ <;> rfl : ∀ l_ : List UInt8, l_.isEmpty = !(l_ != [])) _)), H', ⟨by have := HK1.out; omega⟩, by repeat (first | exact Drawn0.refl _ | apply Drawn0.step)⟩
     ·replace c6 := Bool.eq_false_iff.mpr c6
      subst c6
      rw [if_neg (show ¬ (false = true) by decide)] at H
      obtain rfl := Option.some.inj H
      have p108 : 0 ≤ (x5_1 : Int) := dT
      have q108 : x5_1 < (l0.length : Int) := dT
      obtain ⟨ad108, e108, hx108_0, hx108_1⟩ := at_T65 HR0.out x5_1 p108 q108
      cases e108
      replace p108 := eq_true p108
      replace q108 := eq_true q108
      go_wp2_with (first | ((with_reducible refine gate_callee (f := 69) rfl ?_); refine gL (some 19) Try.func69 #[.int .i64 ((rd_T65 l0 x5_1).f0), .int .i64 0, .int .i64 (wrap64 (a1 - 1))] ?_; (with_reducible refine (spec_l1In.calls ((rd_T65 l0 x5_1).f0) 0 (wrap64 (a1 - 1)) false _ A5.out).mono ?_); rintro e w' ⟨rfl, ⟨nd, rfl⟩⟩; refine ⟨_, rfl, ?_⟩))
      go_ret
      exact ⟨by first | rfl | (simp; done) | (simp [*]; done), by repeat (first | exact Drawn0.refl _ | apply Drawn0.step)⟩
    ·rw [if_neg c4] at H
     exact absurd H (by simp)
   ·rw [if_neg c3] at H
    have c3b0 : decide (x5_1 < (l0.length : Int)) = false := decide_eq_false c3
    clear c3
    obtain rfl := Option.some.inj H
    go_wp2
    go_ret
    exact ⟨by first | rfl | (simp; done) | (simp [*]; done), by repeat (first | exact Drawn0.refl _ | apply Drawn0.step)⟩

end Go.Proofs.Ytgmpdkefegofhaa.PFnFlushed
