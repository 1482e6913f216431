-- Written by xprint.py, a program of this session over the kit's print. Not trusted: Lean checks it.
import Derived.Test.YtgmpdkefegofhaaPFnExactRecoverx0
import Derived.Test.YtgmpdkefegofhaaPFnExactRecoverx8
import Derived.Test.YtgmpdkefegofhaaPFnExactRecoverx10
namespace Go.Proofs.Ytgmpdkefegofhaa.PFnExactRecover
open Go.RowKit Go.Proofs.YtgmpdkefegofhaaW.PrintWords Go.Proofs.YtgmpdkefegofhaaW.PrintLast Go.Proofs.YtgmpdkefegofhaaW.PrintMore
attribute [local go_sem] max2_int min2_int max_two min_two max_three min_three max_four min_four   -- for this text's walks alone
set_option linter.unusedVariables false
set_option linter.unusedSimpArgs false

/-! ### impl_dataSum: function 87 -/
def impl_dataSum.l0 : Nat → List Int → List ByteArray → Int → Int → Option (Int)
 | 0, _, _, _, _ => none
 | k + 1, x3, x7, x8, x9 => if x9 < x8 then (if 0 ≤ x9 then (if x9 < (x7.length : Int) then ((impl_PutText.f k (rdOf ByteArray.empty x7 x9)).bind fun t381 => (if x3.length + t381.length < 140737488355328 then (impl_dataSum.l0 k (x3 ++ t381) x7 x8 (wrap64 (x9 + 1))) else (none))) else (none)) else (none)) else ((impl_Crc.f k x3).bind fun t387 => (some t387))
def impl_dataSum.f (k : Nat) (l0 : List ByteArray) : Option (Int) := impl_dataSum.l0 k (([] : List Int)) l0 (l0.length : Int) 0
theorem impl_dataSum.mono_l : ∀ k, (∀ y0 y1 y2 y3, LeO (impl_dataSum.l0 k y0 y1 y2 y3) (impl_dataSum.l0 (k + 1) y0 y1 y2 y3))
 | 0 => fun _ _ _ _ r h => by simp [impl_dataSum.l0] at h
 | k + 1 => by
  have ih0 := impl_dataSum.mono_l k
  ·intro y0 y1 y2 y3
   unfold impl_dataSum.l0
   have m0_ := @impl_Crc.mono
   have m1_ := @impl_PutText.mono
   exact mM
theorem impl_dataSum.mono : ∀ a0 k, LeO (impl_dataSum.f k a0) (impl_dataSum.f (k + 1) a0) := by
 intro a0 k
 have ih0 := impl_dataSum.mono_l k
 unfold impl_dataSum.f
 have m0_ := @impl_Crc.mono
 have m1_ := @impl_PutText.mono
 exact mM
set_option maxHeartbeats 8000000 in
set_option maxRecDepth 100000 in
theorem impl_dataSum.calls (k : Nat) (A0 : Option Addr) (c0 : Nat) (l0 : List ByteArray) (r : Int) (w : World) (hr0 : Kd.C Kd.string w A0 l0.length l0) (hc0 : l0.length ≤ c0) (h : impl_dataSum.f k l0 = some r) :
  Calls Try.prog 87 #[.slice A0 l0.length c0] w fun e w' => e = .returned (.int .i64 r) ∧ Below w.heap.size w w' := by
 have HR0 := Aside0.mk hr0
 have HC0 := Aside0.mk hc0
 clear hr0 hc0
 have HB := Aside0.mk (Below.refl w.heap.size w)
 unfold impl_dataSum.f at h
 have H := h
 clear h
 obtain ⟨y377, hy377⟩ : ∃ y_ : List Int, y_ = (([] : List Int)) := ⟨_, rfl⟩
 replace H : (impl_dataSum.l0 k y377 l0 (l0.length : Int) 0) = some r := by first | (rw [hy377]; with_reducible exact H) | (have H2_ := (Option.bind_some _ _).symm.trans H; rw [hy377]; with_reducible exact H2_) | (have H2_ := (Option.bind_some _ _).symm.trans H; with_reducible exact H2_) | with_reducible exact H | (rw [hy377]; exact H) | exact H
 have Ny377 := Aside0.mk hy377
 clear hy377
 have H' := Aside0.mk H
 clear H
 go_enter Try.func87, Try.ntmps87
 go_wp2_with (first | ((with_reducible refine gate_dst (N := 6) rfl ?_); refine Kd.R_lit (Kd.int .u8) _ 5 ?hg (N := 6) ?hd (xs := ([] : List Int)) (inner := []) (ok := fun _ => True) (okp := fun _ => True) ?hr ?hp (fun _ hk => hk) trivial (Below.refl _ _) (Nat.le_refl _) (by simp) ?_; (case hd => rfl); (case hg => rfl); (case hr => first | (go_simp; done) | (go_simp; rfl)); (case hp => exact (Reps.none _ _)); intro v378 w2 ho3 hb hg_ hnew_; clear hg_ hnew_; (first | rw [← Ny377.out] at ho3 | (simp only [Int.reduceToNat] at ho3; rw [← Ny377.out] at ho3)); have n_ := And.intro (lR HB ho3) (sB HB hb); clear HB; obtain ⟨HO379, HB⟩ := n_; (try clear hb ho3)))
 go_loopg [3, 9] k (fun kq v3 v9 w' => ∃ (x3_1 : List Int) (x9_1 : Int), v9 = .int .i64 x9_1 ∧ Aside0 (impl_dataSum.l0 kq x3_1 l0 (l0.length : Int) x9_1 = some r) ∧ Aside0 (kq ≤ k) ∧ Aside0 (Kd.R (Kd.int .u8) 5 w' w.heap.size (fun _ => True) v3 x3_1) ∧ Aside0 (Below w.heap.size w w'))
 case atStart => exact ⟨(y377), (0), (by first | rfl | (simp; done) | (simp [*]; done) | (simp; exact (by intro l_; cases l_ <;> rfl : ∀ l_ : List UInt8, l_.isEmpty = !(l_ != [])) _)), H', ⟨Nat.le_refl _⟩, ⟨rP HO379.out⟩, ⟨bB⟩⟩
 case round =>
  clear H'
  try clear p2
  obtain ⟨x3_1, x9_1, rfl, HA, HK1, HO_3, HB⟩ := hrel
  cases gk with
  | zero => exact absurd HA.out (by simp [impl_dataSum.l0])
  | succ k1 =>
   have H := HA.out
   clear HA
   simp only [impl_dataSum.l0] at H
   by_cases c4 : x9_1 < (l0.length : Int)
   ·rw [if_pos c4] at H
    have c4b0 : decide (x9_1 < (l0.length : Int)) = true := decide_eq_true c4
    clear c4
    by_cases c5 : 0 ≤ x9_1
    ·rw [if_pos c5] at H
     have c5b0 : decide (0 ≤ x9_1) = true := decide_eq_true c5
     clear c5
     by_cases c6 : x9_1 < (l0.length : Int)
     ·rw [if_pos c6] at H
      have c6b0 : decide (x9_1 < (l0.length : Int)) = true := decide_eq_true c6
      clear c6
      replace H := Option.bind_eq_some_iff.mp H
      obtain ⟨t381, A70, H⟩ := H
      try dsimp only at H
      have A7 := Aside0.mk A70
      clear A70
      by_cases c8 : x3_1.length + t381.length < 140737488355328
      ·rw [if_pos c8] at H
       have LMc8 := Aside0.mk c8
       clear c8
       obtain ⟨y384, hy384⟩ : ∃ y_ : List Int, y_ = (x3_1 ++ t381) := ⟨_, rfl⟩
       replace H : (impl_dataSum.l0 k1 y384 l0 (l0.length : Int) (wrap64 (x9_1 + 1))) = some r := by first | (rw [hy384]; with_reducible exact H) | (have H2_ := (Option.bind_some _ _).symm.trans H; rw [hy384]; with_reducible exact H2_) | (have H2_ := (Option.bind_some _ _).symm.trans H; with_reducible exact H2_) | with_reducible exact H | (rw [hy384]; exact H) | exact H
       have Ny384 := Aside0.mk hy384
       clear hy384
       have H' := Aside0.mk H
       clear H
       have p380 : 0 ≤ (x9_1 : Int) := dT
       have q380 : x9_1 < (l0.length : Int) := dT
       obtain ⟨ad380, e380, hx380_0⟩ := Kd.at_string HR0.out x9_1 p380 q380
       cases e380
       replace hx380_0 := (HB.out.cell (World.block_lt_of_cell? w _ hx380_0)).trans hx380_0
       replace p380 := eq_true p380
       replace q380 := eq_true q380
       go_wp2_with (first | ((with_reducible refine gate_callee (f := 117) rfl ?_); refine gL (some 15) Try.func117 #[.string (rdOf ByteArray.empty l0 x9_1)] ?_; (with_reducible refine (impl_PutText.calls k1 (rdOf ByteArray.empty l0 x9_1) t381 _ A7.out).mono ?_); rintro e w9 ⟨v382, rfl, ho0, hb⟩; refine ⟨_, rfl, ?_⟩; have n_ := And.intro (eR HO_3 ho0 hb) (And.intro (Aside0.mk (Kd.R_lower (Kd.R_new' ho0 (rL HO_3)) (zB HB))) (sB HB hb)); clear HO_3 HB; obtain ⟨HO_3, HO383, HB⟩ := n_; (try clear hb ho0); obtain ⟨Ao11, co11, eo11⟩ := Kd.R_slice HO383.out; subst eo11) | ((with_reducible refine gate_builtin (b := .append) (xs := #[.tmp 13, .tmp 15]) rfl ?_); at_builtin; refine Kd.R_append_rows (Kd.int .u8) (w0 := w) w.heap.size rfl (.tmp 13) (.tmp 15) 60 5 (.int .u8 0) 1 rfl Try.underlying60 info5 rfl (by decide) (by omega) u3 x3_1 t381 _ _ _ (fun k_ => some k_ ≠ (.slice Ao11 t381.length co11 : Value).ownBlock) (fun _ => False) rfl rfl ?aO ?aR (fun _ _ h => h) (fun _ h => h.elim) ?aF ?aB ?aS ?aL ?_; (case aR => exact cR HO383); (case aB => exact bB); (case aF => exact (fun k_ hk => Kd.fresh' (rL HO383) k_ hk)); (case aO => exact (rP (Kd.R_mono HO_3.out (fun _ hk => hk.2)))); (case aS => exact (zB HB)); (case aL => have := LMc8.out; omega); intro v385 w10 ho hb hg hat; rw [← Ny384.out] at ho; have n_ := And.intro (Aside0.mk (Kd.R_after (ok := (fun _ => True)) (rP HO383.out) hg hat)) (And.intro (Aside0.mk (hb)) (Aside0.mk (ho))); clear HO383 HB HO_3; obtain ⟨HO383, HB, HO386⟩ := n_; (try clear ho hb hg hat)))
       go_roundg k1
       case measure => have := HK1.out; omega
       case rel => exact ⟨(y384), (wrap64 (x9_1 + 1)), (by first | rfl | (simp; done) | (simp [*]; done) | (simp; exact (by intro l_; cases l_ <;> rfl : ∀ l_ : List UInt8, l_.isEmpty = !(l_ != [])) _)), H', ⟨by have := HK1.out; omega⟩, ⟨rP (Kd.R_mono HO386.out (fun _ hk => trivial))⟩, ⟨bB⟩⟩
      ·rw [if_neg c8] at H
       exact absurd H (by simp)
     ·rw [if_neg c6] at H
      exact absurd H (by simp)
    ·rw [if_neg c5] at H
     exact absurd H (by simp)
   ·rw [if_neg c4] at H
    have c4b0 : decide (x9_1 < (l0.length : Int)) = false := decide_eq_false c4
    clear c4
    replace H := Option.bind_eq_some_iff.mp H
    obtain ⟨t387, A120, H⟩ := H
    try dsimp only at H
    have A12 := Aside0.mk A120
    clear A120
    obtain rfl := Option.some.inj H
    obtain ⟨Ao13, co13, eo13⟩ := Kd.R_slice HO_3.out
    subst eo13
    go_wp2_with (first | ((with_reducible refine gate_callee (f := 118) rfl ?_); refine gL (some 19) Try.func118 #[.slice Ao13 x3_1.length co13] ?_; (with_reducible refine (impl_Crc.calls k1 _ _ x3_1 t387 _ ?side1 ?side2 A12.out).mono ?_); (case side1 => exact cR HO_3); (case side2 => exact (Kd.R_reads' HO_3.out).2.1); rintro e w' ⟨rfl, ⟨nd, rfl⟩⟩; refine ⟨_, rfl, ?_⟩))
    go_ret
    exact ⟨eW, bB⟩

/-! ### impl_Recover: function 45 -/
mutual
def impl_Recover.j0 : Nat → Int → List Int → Bool → List ByteArray → List (S65) → Option (List ByteArray × (List (S65)))
 | 0, _, _, _, _, _ => none
 | k + 1, x1, x6, x40, x404000, x404001 => if x40 = true then (impl_Recover.l0 k x1 x6 (x6.length : Int) 0 x404000 x404001) else (if 0 < (x404000.length : Int) then (some ((x404000.set (0 : Int).toNat (⟨#[]⟩ : ByteArray)), x404001)) else (none))
def impl_Recover.l0 : Nat → Int → List Int → Int → Int → List ByteArray → List (S65) → Option (List ByteArray × (List (S65)))
 | 0, _, _, _, _, _, _ => none
 | k + 1, x1, x41, x42, x43, x404000, x404001 => if x43 < x42 then (if 0 ≤ x43 then (if x43 < (x41.length : Int) then (if 0 ≤ (wrap64 (1 + x43)) then (if (wrap64 (1 + x43)) < (x404000.length : Int) then (if 0 ≤ (wrap64 ((wrap64 (x1 + 1)) + (rd x41 x43))) then (if (wrap64 ((wrap64 (x1 + 1)) + (rd x41 x43))) < (x404000.length : Int) then (impl_Recover.l0 k x1 x41 x42 (wrap64 (x43 + 1)) (x404000.set ((wrap64 ((wrap64 (x1 + 1)) + (rd x41 x43))) : Int).toNat (rdOf ByteArray.empty x404000 (wrap64 (1 + x43)))) x404001) else (none)) else (none)) else (none)) else (none)) else (none)) else (none)) else (if 0 < (x404000.length : Int) then (some ((x404000.set (0 : Int).toNat (⟨#[]⟩ : ByteArray)), x404001)) else (none))
end
def impl_Recover.f (k : Nat) (l0_0 : List ByteArray) (l0_1 : List (S65)) (a1 : Int) : Option (List ByteArray × (List (S65))) := (impl_homed.f l0_0 l0_1 a1).bind fun t390 => (if t390 = true then ((impl_Fall.f k l0_0 l0_1 ([] : List Bool)).bind fun bt397 => (if 0 < (bt397.1.length : Int) then ((impl_HeadOf.f k (rdOf ByteArray.empty bt397.1 0) a1).bind fun bt405 => (if bt405.2.2 = true then (if 1 ≤ (wrap64 (1 + (bt405.1.length : Int))) then (if (wrap64 (1 + (bt405.1.length : Int))) ≤ (bt397.1.length : Int) then ((impl_dataSum.f k ((bt397.1.take ((wrap64 (1 + (bt405.1.length : Int))) : Int).toNat).drop 1)).bind fun t414 => (impl_Recover.j0 k a1 bt405.1 (t414 == bt405.2.1) bt397.1 bt397.2)) else (none)) else (none)) else (impl_Recover.j0 k a1 bt405.1 false bt397.1 bt397.2))) else (none))) else ((impl_cloneDisk.f l0_0 l0_1).bind fun bt391 => (some (bt391.1, bt391.2))))
theorem impl_Recover.mono_l : ∀ k, (∀ y0 y1 y2 y3 y4, LeO (impl_Recover.j0 k y0 y1 y2 y3 y4) (impl_Recover.j0 (k + 1) y0 y1 y2 y3 y4)) ∧ (∀ y0 y1 y2 y3 y4 y5, LeO (impl_Recover.l0 k y0 y1 y2 y3 y4 y5) (impl_Recover.l0 (k + 1) y0 y1 y2 y3 y4 y5))
 | 0 => ⟨fun _ _ _ _ _ r h => by simp [impl_Recover.j0] at h, fun _ _ _ _ _ _ r h => by simp [impl_Recover.l0] at h⟩
 | k + 1 => by
  obtain ⟨ih0, ih1⟩ := impl_Recover.mono_l k
  refine ⟨?_, ?_⟩
  ·intro y0 y1 y2 y3 y4
   unfold impl_Recover.j0
   have m0_ := @impl_Fall.mono
   have m1_ := @impl_HeadOf.mono
   have m2_ := @impl_dataSum.mono
   exact mM
  ·intro y0 y1 y2 y3 y4 y5
   unfold impl_Recover.l0
   have m0_ := @impl_Fall.mono
   have m1_ := @impl_HeadOf.mono
   have m2_ := @impl_dataSum.mono
   exact mM
theorem impl_Recover.mono : ∀ a0 a1 a2 k, LeO (impl_Recover.f k a0 a1 a2) (impl_Recover.f (k + 1) a0 a1 a2) := by
 intro a0 a1 a2 k
 obtain ⟨ih0, ih1⟩ := impl_Recover.mono_l k
 unfold impl_Recover.f
 have m0_ := @impl_Fall.mono
 have m1_ := @impl_HeadOf.mono
 have m2_ := @impl_dataSum.mono
 exact mM
def impl_Recover.T9 : Bool × List (List Nat × List Nat) := (true, [([], []), ([0], [0]), ([], []), ([2], [2]), ([], []), ([3, 4], [3, 4]), ([], []), ([6], [6]), ([], []), ([8], [8]), ([7, 9], [7, 9]), ([10], [10]), ([1, 5, 0, 1, 2, 3, 4, 5, 6, 7, 8, 9, 10, 11], [1, 5]), ([12, 11, 0, 1, 2, 3, 4, 5, 6, 7, 8, 9, 10, 11], [11, 12])])
def impl_Recover.B9 : List Nat := [0, 1, 0, 4, 0, 28, 0, 64, 0, 256, 960, 1984, 4095, 8191]
theorem impl_Recover.tab9 : rtab .any (opsOf Try.f45 9) = impl_Recover.T9 := by kernel_rfl
theorem impl_Recover.bits9 : waitsOk impl_Recover.T9.2 impl_Recover.B9 = true := by kernel_rfl
set_option maxHeartbeats 8000000 in
set_option maxRecDepth 100000 in
theorem impl_Recover.calls (k : Nat) (A0_0 : Option Addr) (c0_0 : Nat) (l0_0 : List ByteArray) (A0_1 : Option Addr) (c0_1 : Nat) (l0_1 : List (S65)) (a1 : Int) (r1 : List ByteArray) (r2 : List (S65)) (w : World) (hr0_0 : Kd.C Kd.string w A0_0 l0_0.length l0_0) (hc0_0 : l0_0.length ≤ c0_0) (hr0_1 : Kd.C k65 w A0_1 l0_1.length l0_1) (hc0_1 : l0_1.length ≤ c0_1) (h : impl_Recover.f k l0_0 l0_1 a1 = some (r1, r2)) :
  Calls Try.prog 45 #[.agg #[.slice A0_0 l0_0.length c0_0, .slice A0_1 l0_1.length c0_1], .int .i64 a1] w fun e w' => ∃ v0_ v1_ : Value, e = .returned (.agg #[v0_, v1_]) ∧ Kd.R Kd.string 9 w' w.heap.size (fun _ => True) v0_ r1 ∧ Kd.R k65 65 w' w.heap.size (fun _ => True) v1_ r2 ∧ Below w.heap.size w w' := by
 have hu30 := Try.underlying30
 have HR0_0 := Aside0.mk hr0_0
 have HC0_0 := Aside0.mk hc0_0
 clear hr0_0 hc0_0
 have HR0_1 := Aside0.mk hr0_1
 have HC0_1 := Aside0.mk hc0_1
 clear hr0_1 hc0_1
 have HB := Aside0.mk (Below.refl w.heap.size w)
 unfold impl_Recover.f at h
 have H := h
 clear h
 replace H := Option.bind_eq_some_iff.mp H
 obtain ⟨t390, A30, H⟩ := H
 try dsimp only at H
 have A3 := Aside0.mk A30
 clear A30
 by_cases c4 : t390 = true
 ·subst c4
  rw [if_pos rfl] at H
  replace H := Option.bind_eq_some_iff.mp H
  obtain ⟨⟨t397, t400⟩, A50, H⟩ := H
  try dsimp only at H
  have A5 := Aside0.mk A50
  clear A50
  by_cases c6 : 0 < (t397.length : Int)
  ·rw [if_pos c6] at H
   have c6b0 : decide (0 < (t397.length : Int)) = true := decide_eq_true c6
   have c6b1 : decide (0 < t397.length) = true := decide_eq_true (by omega)
   clear c6
   replace H := Option.bind_eq_some_iff.mp H
   obtain ⟨⟨t405, t406, t407⟩, A70, H⟩ := H
   try dsimp only at H
   have A7 := Aside0.mk A70
   clear A70
   have HC8 := Aside0.mk H
   clear H
   go_enter Try.func45, Try.ntmps45
   go_upto_region 5 with (first | ((with_reducible refine gate_dst (N := 2) rfl ?_); (try (refine gate_guard (by rfl) ?_; dsimp only)); refine box_event ?hg (N := 2) ?hd (cs := #[.slice A0_0 l0_0.length c0_0, .slice A0_1 l0_1.length c0_1]) (t := 30) ?hr ?_; (case hd => rfl); (case hg => rfl); (case hr => first | (go_simp; done) | (go_simp; rfl)); intro gb388 hg w9 hbox hb; have n_ := And.intro (sB HB hb) (And.intro (Aside0.mk hbox) (And.intro (gE HB hg) (gE HB hg))); clear HB; obtain ⟨HB, BK388, GW388, GE388⟩ := n_; (try clear hb hbox hg)) | ((with_reducible refine gate_dst (N := 4) rfl ?_); (try (refine gate_guard (by rfl) ?_; dsimp only)); refine box_event ?hg (N := 4) ?hd (cs := #[.slice none 0 0, .slice none 0 0]) (t := 30) ?hr ?_; (case hd => rfl); (case hg => rfl); (case hr => first | (go_simp; done) | (go_simp; rfl)); intro gb389 hg w10 hbox hb; have n_ := And.intro (kB BK388 hb) (And.intro (sB HB hb) (And.intro (Aside0.mk hbox) (And.intro (gE HB hg) (And.intro (gE HB hg) (And.intro (nL BK388 hg) (nG BK388 hg)))))); clear BK388 HB; obtain ⟨BK388, HB, BK389, GW389, GE389, NB388_389, NB389_388⟩ := n_; (try clear hb hbox hg); have hnb11 := NB388_389.out; have hnc11 := NB389_388.out; have hcz12_0 := cZ0 BK388; have hcz12_1 := cZ1 BK388; have hfz12_0 := blk_frozen BK388.out 0; have hfz12_1 := blk_frozen BK388.out 1) | ((with_reducible refine gate_callee (f := 71) rfl ?_); refine gL (some 13) Try.func71 #[.agg #[.slice A0_0 l0_0.length c0_0, .slice A0_1 l0_1.length c0_1], .int .i64 a1] ?_; (with_reducible refine (impl_homed.calls _ _ l0_0 _ _ l0_1 a1 true _ ?side1 ?side2 ?side3 ?side4 A3.out).mono ?_); (case side1 => exact cS HR0_0 HB); (case side2 => exact HC0_0.out); (case side3 => exact cS HR0_1 HB); (case side4 => exact HC0_1.out); rintro e w13 ⟨rfl, hb⟩; refine ⟨_, rfl, ?_⟩; have n_ := And.intro (kB BK388 hb) (And.intro (kB BK389 hb) (sB HB hb)); clear BK388 BK389 HB; obtain ⟨BK388, BK389, HB⟩ := n_; (try clear hb); have hcz14_0 := cZ0 BK388; have hcz14_1 := cZ1 BK388; have hfz14_0 := blk_frozen BK388.out 0; have hfz14_1 := blk_frozen BK388.out 1) | ((with_reducible refine gate_callee (f := 35) rfl ?_); refine gL (some 18) Try.func35 #[.agg #[.slice A0_0 l0_0.length c0_0, .slice A0_1 l0_1.length c0_1], .slice none 0 0] ?_; (refine (impl_Fall.calls k _ _ l0_0 _ _ l0_1 _ _ ([] : List Bool) t397 t400 _ ?side1 ?side2 ?side3 ?side4 ?side5 ?side6 A5.out).mono ?_); (case side1 => exact cS HR0_0 HB); (case side2 => exact HC0_0.out); (case side3 => exact cS HR0_1 HB); (case side4 => exact HC0_1.out); (case side5 => exact Kd.C_nil _ _); (case side6 => exact Nat.le_refl _); rintro e w15 ⟨v398, v401, rfl, ho0, ho1, hb⟩; refine ⟨_, rfl, ?_⟩; have n_ := And.intro (lR HB ho0) (And.intro (lR HB ho1) (And.intro (kB BK388 hb) (And.intro (kB BK389 hb) (sB HB hb)))); clear BK388 BK389 HB; obtain ⟨HO399, HO402, BK388, BK389, HB⟩ := n_; (try clear hb ho0 ho1)) | ((with_reducible refine gate_dst (N := 5) rfl ?_); (try (refine gate_guard (by rfl) ?_; dsimp only)); refine box_event ?hg (N := 5) ?hd (cs := #[.slice none 0 0, .slice none 0 0]) (t := 30) ?hr ?_; (case hd => rfl); (case hg => rfl); (case hr => first | (go_simp; done) | (go_simp; rfl)); intro gb403 hg w16 hbox hb; have n_ := And.intro (rB HO399 hb) (And.intro (rB HO402 hb) (And.intro (kB BK388 hb) (And.intro (kB BK389 hb) (And.intro (sB HB hb) (And.intro (Aside0.mk hbox) (And.intro (gE HB hg) (And.intro (gE HB hg) (And.intro (nL BK388 hg) (And.intro (nG BK388 hg) (And.intro (nL BK389 hg) (nG BK389 hg))))))))))); clear HO399 HO402 BK388 BK389 HB; obtain ⟨HO399, HO402, BK388, BK389, HB, BK403, GW403, GE403, NB388_403, NB403_388, NB389_403, NB403_389⟩ := n_; (try clear hb hbox hg); obtain ⟨Ao17, co17, eo17⟩ := Kd.R_slice HO399.out; subst eo17; have hnb18 := NB403_388.out; have hnc18 := NB388_403.out; have hnb19 := NB403_389.out; have hnc19 := NB389_403.out; have hcz20_0 := cZ0 BK403; have hcz20_1 := cZ1 BK403; have hfz20_0 := blk_frozen BK403.out 0; have hfz20_1 := blk_frozen BK403.out 1; obtain ⟨Ao21, co21, eo21⟩ := Kd.R_slice HO402.out; subst eo21; have p404 : 0 ≤ (0 : Int) := (by omega); have q404 : 0 < (t397.length : Int) := dT; obtain ⟨ad404, e404, hx404_0⟩ := Kd.at_string (Kd.R_reads' HO399.out).2.2 0 p404 q404; cases e404; have qi404 : (0 < t397.length) = True := eq_true (by omega); (try rw [show ((0 : Int)).toNat = 0 from rfl] at hx404_0); (try rw [Addr.add_zero'] at hx404_0); have hn404_0 : ad404.block ≠ gb403 := Kd.own_blk (Kd.R_ne HO399.out BK403.out (by decide)); have hn404_1 : ad404.block ≠ gb403 := Kd.own_blk (Kd.R_ne HO399.out BK403.out (by decide)); replace hx404_0 := (cell_far (p := ⟨gb403, 0, none⟩) (by first | (rw [add_block]; exact hn404_0) | (show (Addr.add _ _).block ≠ _; rw [add_block]; exact hn404_0) | exact hn404_0) (.slice (some ad404) t397.length co17)).trans hx404_0; replace hx404_0 := (cell_far (p := ⟨gb403, 1, none⟩) (by first | (rw [add_block]; exact hn404_1) | (show (Addr.add _ _).block ≠ _; rw [add_block]; exact hn404_1) | exact hn404_1) (.slice Ao21 t400.length co21)).trans hx404_0; clear hn404_0; clear hn404_1; replace p404 := eq_true p404; replace q404 := eq_true q404) | ((with_reducible refine gate_callee (f := 86) rfl ?_); refine gL (some 25) Try.func86 #[.string (rdOf ByteArray.empty t397 0), .int .i64 a1] ?_; (with_reducible refine (impl_HeadOf.calls k (rdOf ByteArray.empty t397 0) a1 t405 t406 t407 _ A7.out).mono ?_); rintro e w22 ⟨v408, rfl, ho0, hb⟩; refine ⟨_, rfl, ?_⟩; have n_ := And.intro (Aside0.mk (Kd.R_below (rP (Kd.R_mono (Kd.R_far (p := ⟨gb403, 1, none⟩) (Kd.R_far (p := ⟨gb403, 0, none⟩) (Kd.R_types HO399.out BK403.out (by decide)) (fun _ hk => hk.2) (.slice (some ad404) t397.length co17)) (fun _ hk => hk.2) (.slice Ao21 t400.length co21)) (fun _ h_ => h_.1))) hb)) (And.intro (Aside0.mk (Kd.R_below (rP (Kd.R_mono (Kd.R_far (p := ⟨gb403, 1, none⟩) (Kd.R_far (p := ⟨gb403, 0, none⟩) (Kd.R_types HO402.out BK403.out (by decide)) (fun _ hk => hk.2) (.slice (some ad404) t397.length co17)) (fun _ hk => hk.2) (.slice Ao21 t400.length co21)) (fun _ h_ => h_.1))) hb)) (And.intro (lR HB ho0) (And.intro (kB BK388 hb) (And.intro (kB BK389 hb) (And.intro (Aside0.mk (blk_below (g := gb403) (o := .cells #[.slice (some ad404) t397.length co17, .slice Ao21 t400.length co21] 30 (0, 0)) (by (with_reducible repeat (first | refine blk_drewN ?_ _ | refine blk_drew ?_ | refine blk_alloc ?_ _)); refine blk_put (cs := #[.slice (some ad404) t397.length co17, .slice none 0 0]) ?_ 1 _ rfl; (with_reducible repeat (first | refine blk_drewN ?_ _ | refine blk_drew ?_ | refine blk_alloc ?_ _)); refine blk_put (cs := #[.slice none 0 0, .slice none 0 0]) ?_ 0 _ rfl; (with_reducible repeat (first | refine blk_drewN ?_ _ | refine blk_drew ?_ | refine blk_alloc ?_ _)); exact BK403.out) hb)) (sB HB hb)))))); clear HO399 HO402 BK388 BK389 BK403 HB; obtain ⟨HO399, HO402, HO409, BK388, BK389, BK403, HB⟩ := n_; (try clear hb ho0)))
   (try simp only [Act.put, List.setIfInBounds_toArray, List.set_cons_zero, List.set_cons_succ])
   go_cut [40] (fun v40 wc => ∃ (kq : Nat) (x40_7 : Bool), v40 = .bool x40_7 ∧ Aside0 (impl_Recover.j0 kq a1 t405 x40_7 t397 t400 = some (r1, r2)) ∧ Aside0 (kq ≤ k) ∧ Aside0 (Kd.R (Kd.int .i64) 3 wc w.heap.size (fun _ => True) v408 t405) ∧ Aside0 (Kd.R Kd.string 9 wc w.heap.size (fun _ => True) (.slice (some ad404) t397.length co17) t397) ∧ Aside0 (Kd.R k65 65 wc w.heap.size (fun _ => True) (.slice Ao21 t400.length co21) t400) ∧ Aside0 (wc.heap[gb388]? = some (.cells #[(.slice A0_0 l0_0.length c0_0), (.slice A0_1 l0_1.length c0_1)] 30 (0, 0))) ∧ Aside0 (wc.heap[gb389]? = some (.cells #[(.slice none 0 0), (.slice none 0 0)] 30 (0, 0))) ∧ Aside0 (wc.heap[gb403]? = some (.cells #[(.slice (some ad404) t397.length co17), (.slice Ao21 t400.length co21)] 30 (0, 0))) ∧ Aside0 (Below w.heap.size w wc))
   case first =>
    have H := HC8.out
    clear HC8
    by_cases c23 : t407 = true
    ·subst c23
     rw [if_pos rfl] at H
     by_cases c24 : 1 ≤ (wrap64 (1 + (t405.length : Int)))
     ·rw [if_pos c24] at H
      have c24b0 := eq_true c24
      have c24b1 : decide (1 ≤ (wrap64 (1 + (t405.length : Int)))) = true := decide_eq_true c24
      by_cases c25 : (wrap64 (1 + (t405.length : Int))) ≤ (t397.length : Int)
      ·rw [if_pos c25] at H
       have c25b0 := eq_true c25
       have c25b1 : decide ((wrap64 (1 + (t405.length : Int))) ≤ (t397.length : Int)) = true := decide_eq_true c25
       obtain ⟨y410, hy410⟩ : ∃ y_ : List ByteArray, y_ = ((t397.take ((wrap64 (1 + (t405.length : Int))) : Int).toNat).drop 1) := ⟨_, rfl⟩
       replace H : ((impl_dataSum.f k y410).bind fun t414 => (impl_Recover.j0 k a1 t405 (t414 == t406) t397 t400)) = some (r1, r2) := by first | (rw [hy410]; with_reducible exact H) | (have H2_ := (Option.bind_some _ _).symm.trans H; rw [hy410]; with_reducible exact H2_) | (have H2_ := (Option.bind_some _ _).symm.trans H; with_reducible exact H2_) | with_reducible exact H | (rw [hy410]; exact H) | exact H
       have Ny410 := Aside0.mk hy410
       clear hy410
       replace H := Option.bind_eq_some_iff.mp H
       obtain ⟨t414, A260, H⟩ := H
       try dsimp only at H
       have A26 := Aside0.mk A260
       clear A260
       have H' := Aside0.mk H
       clear H
       have hnb27 := NB403_388.out
       have hnc27 := NB388_403.out
       have hnb28 := NB403_389.out
       have hnc28 := NB389_403.out
       have hcz29_0 := cZ0 BK403
       have hcz29_1 := cZ1 BK403
       have hfz29_0 := blk_frozen BK403.out 0
       have hfz29_1 := blk_frozen BK403.out 1
       obtain ⟨Ao30, co30, eo30⟩ := Kd.R_slice HO409.out
       subst eo30
       have q31 : ((wrap64 (1 + (t405.length : Int))) : Int) ≤ ((t397.length : Int) : Int) := dT
       obtain ⟨i031, hi031, _, hsz31, _⟩ := info_parts info9
       have hroom31 : t397.length ≤ co17 := (Kd.R_reads' HO399.out).2.1
       have hC31 : Kd.C Kd.string _ (some ad404) t397.length t397 := (Kd.R_reads' HO399.out).2.2
       have ql31 : (1 : Int) ≤ ((wrap64 (1 + (t405.length : Int))) : Int) := dT
       have hcut31 := cut_mid (P := Try.prog) 22 9 .i64 .i64 Try.underlying22 hi031 1 hsz31 (some ad404) t397.length co17 1 (wrap64 (1 + (t405.length : Int))) (by omega) ql31 q31 hroom31
       have hr31 := Kd.C_mid (lo := (1 : Int).toNat) (hi := ((wrap64 (1 + (t405.length : Int))) : Int).toNat) (c := co17) hC31 (by omega) (by omega) hroom31
       obtain ⟨A31, hA31⟩ : ∃ A1, A1 = (if co17 = (1 : Int).toNat then (some ad404) else ((some ad404) : Option Addr).map (·.add ((1 : Int).toNat * 1))) := ⟨_, rfl⟩
       obtain ⟨c31, hc31⟩ : ∃ c1, c1 = co17 - (1 : Int).toNat := ⟨_, rfl⟩
       have hy31 : y410.length = ((wrap64 (1 + (t405.length : Int))) : Int).toNat - (1 : Int).toNat := (by rw [Ny410.out, List.length_drop, List.length_take]; exact congrArg (fun z_ => z_ - _) (Nat.min_eq_left (by omega)))
       rw [show ((t397).take ((wrap64 (1 + (t405.length : Int))) : Int).toNat).drop (1 : Int).toNat = y410 from Ny410.out.symm] at hr31
       replace hr31 : Kd.C Kd.string _ A31 y410.length y410 := (by rw [hA31]; exact hr31)
       rw [← hy31, ← hA31, ← hc31] at hcut31
       have HR413 := Aside0.mk hr31
       have HC413 := Aside0.mk (show y410.length ≤ c31 from by rw [hy31, hc31]; exact Nat.sub_le_sub_right (Nat.le_trans (by omega) hroom31) _)
       clear hr31 hC31 hroom31 hi031 hsz31 hc31
       have KY31 := Aside0.mk hy31
       have KA31 := Aside0.mk hA31
       clear hy31 hA31
       have KL31 := Aside0.mk (show ((wrap64 (1 + (t405.length : Int))) : Int).toNat ≤ t397.length from by omega)
       have KM31 := Aside0.mk (show 1 ≤ ((wrap64 (1 + (t405.length : Int))) : Int).toNat from by omega)
       replace q31 := eq_true q31
       go_wp2_with (first | (go_at_call 87; (with_reducible refine (impl_dataSum.calls k _ _ y410 t414 _ ?side1 ?side2 A26.out).mono ?_); (case side1 => repeat (first | exact (by repeat (first | (with_reducible exact HR413.out) | (with_reducible refine Kd.C_alloc ?_ _) | (with_reducible refine Kd.C_drewN ?_ _) | (with_reducible refine Kd.C_drew ?_) | exact HR413.out)) | (with_reducible refine Kd.C_alloc ?_ _) | (with_reducible refine Kd.C_drewN ?_ _) | (with_reducible refine Kd.C_drew ?_))); (case side2 => exact HC413.out); rintro e w32 ⟨rfl, hb⟩; have n_ := And.intro (rB HO399 hb) (And.intro (rB HO402 hb) (And.intro (rB HO409 hb) (And.intro (kB BK388 hb) (And.intro (kB BK389 hb) (And.intro (kB BK403 hb) (And.intro (Aside0.mk (Kd.C_below (by repeat (first | (with_reducible exact HR413.out) | (with_reducible refine Kd.C_alloc ?_ _) | (with_reducible refine Kd.C_drewN ?_ _) | (with_reducible refine Kd.C_drew ?_) | exact HR413.out)) hb)) (sB HB hb))))))); clear HO399 HO402 HO409 BK388 BK389 BK403 HR413 HB; obtain ⟨HO399, HO402, HO409, BK388, BK389, BK403, HR413, HB⟩ := n_; (try clear hb)))
       go_meet
       case rel => exact ⟨_, ((t414 == t406)), (by first | rfl | (simp; done) | (simp [*]; done) | (simp; exact (by intro l_; cases l_ <;> rfl : ∀ l_ : List UInt8, l_.isEmpty = !(l_ != [])) _)), H', ⟨by first | omega | exact Nat.le_refl _⟩, ⟨rP HO409.out⟩, ⟨rP HO399.out⟩, ⟨rP HO402.out⟩, ⟨kP BK388⟩, ⟨kP BK389⟩, ⟨kP BK403⟩, ⟨bB⟩⟩
      rw [if_neg c25] at H
      exact absurd H (by simp)
     rw [if_neg c24] at H
     exact absurd H (by simp)
    replace c23 := Bool.eq_false_iff.mpr c23
    subst c23
    rw [if_neg (show ¬ (false = true) by decide)] at H
    have H' := Aside0.mk H
    clear H
    go_wp2
    go_meet
    case rel => exact ⟨_, (false), (by first | rfl | (simp; done) | (simp [*]; done) | (simp; exact (by intro l_; cases l_ <;> rfl : ∀ l_ : List UInt8, l_.isEmpty = !(l_ != [])) _)), H', ⟨by first | omega | exact Nat.le_refl _⟩, ⟨rP HO409.out⟩, ⟨rP HO399.out⟩, ⟨rP HO402.out⟩, ⟨kP BK388⟩, ⟨kP BK389⟩, ⟨kP BK403⟩, ⟨bB⟩⟩
   case rest =>
    clear HC8
    try clear c1
    try clear c2
    try clear p2
    try clear c3
    try clear q3
    try clear c4
    try clear p4
    try clear q4
    try clear hx4
    try clear qi4
    try clear c6
    try clear c6b0
    try clear c6b1
    try clear p6
    try clear c7
    try clear c8
    try clear c11
    try clear c18
    try clear c19
    try clear c23
    try clear c24
    try clear c24b0
    try clear c24b1
    try clear c25
    try clear c25b0
    try clear c25b1
    try clear c27
    try clear c28
    try clear c31
    try clear q31
    try clear hcz12_0
    try clear hcz12_1
    try clear hcz14_0
    try clear hcz14_1
    try clear hcz20_0
    try clear hcz20_1
    try clear hcz29_0
    try clear hcz29_1
    try clear hfz12_0
    try clear hfz12_1
    try clear hfz14_0
    try clear hfz14_1
    try clear hfz20_0
    try clear hfz20_1
    try clear hfz29_0
    try clear hfz29_1
    try clear hx404_0
    try clear p404
    try clear q31
    try clear q404
    obtain ⟨kq, x40_7, rfl, HA, HJ7, HO_6, HO_404000, HO_404001, BK388, BK389, BK403, HB⟩ := hcut
    cases kq with
    | zero => exact absurd HA.out (by simp [impl_Recover.j0])
    | succ kj7 =>
     have H := HA.out
     clear HA
     simp only [impl_Recover.j0] at H
     by_cases c33 : x40_7 = true
     ·subst c33
      rw [if_pos rfl] at H
      have H' := Aside0.mk H
      clear H
      obtain ⟨Ao34, co34, eo34⟩ := Kd.R_slice HO_6.out
      subst eo34
      go_wp2
      go_loopg [43] kj7 (fun kq v43 w' => ∃ (x43_2 : Int) (x404000_2 : List ByteArray) (u404000 : Value), v43 = .int .i64 x43_2 ∧ Aside0 (impl_Recover.l0 kq a1 t405 (t405.length : Int) x43_2 x404000_2 t400 = some (r1, r2)) ∧ Aside0 (kq ≤ kj7) ∧ Aside0 (Kd.R (Kd.int .i64) 3 w' w.heap.size (fun _ => True) (.slice Ao34 t405.length co34) t405) ∧ Aside0 (Kd.R Kd.string 9 w' w.heap.size (fun _ => True) u404000 x404000_2) ∧ Aside0 (Kd.R k65 65 w' w.heap.size (fun _ => True) (.slice Ao21 t400.length co21) t400) ∧ Aside0 (w'.heap[gb388]? = some (.cells #[(.slice A0_0 l0_0.length c0_0), (.slice A0_1 l0_1.length c0_1)] 30 (0, 0))) ∧ Aside0 (w'.heap[gb389]? = some (.cells #[(.slice none 0 0), (.slice none 0 0)] 30 (0, 0))) ∧ Aside0 (w'.heap[gb403]? = some (.cells #[u404000, (.slice Ao21 t400.length co21)] 30 (0, 0))) ∧ Aside0 (Below w.heap.size w w'))
      case atStart => exact ⟨(0), (t397), (.slice (some ad404) t397.length co17), (by first | rfl | (simp; done) | (simp [*]; done) | (simp; exact (by intro l_; cases l_ <;> rfl : ∀ l_ : List UInt8, l_.isEmpty = !(l_ != [])) _)), H', ⟨Nat.le_refl _⟩, ⟨rP HO_6.out⟩, ⟨rP HO_404000.out⟩, ⟨rP HO_404001.out⟩, ⟨kP BK388⟩, ⟨kP BK389⟩, ⟨kP BK403⟩, ⟨bB⟩⟩
      case round =>
       clear H'
       try clear c1
       try clear c2
       try clear p2
       try clear c3
       try clear q3
       try clear c4
       try clear p4
       try clear q4
       try clear hx4
       try clear qi4
       try clear c6
       try clear c6b0
       try clear c6b1
       try clear p6
       try clear c7
       try clear c8
       try clear c11
       try clear c18
       try clear c19
       try clear c23
       try clear c24
       try clear c24b0
       try clear c24b1
       try clear c25
       try clear c25b0
       try clear c25b1
       try clear c27
       try clear c28
       try clear c31
       try clear q31
       try clear c33
       try clear hcz12_0
       try clear hcz12_1
       try clear hcz14_0
       try clear hcz14_1
       try clear hcz20_0
       try clear hcz20_1
       try clear hcz29_0
       try clear hcz29_1
       try clear hfz12_0
       try clear hfz12_1
       try clear hfz14_0
       try clear hfz14_1
       try clear hfz20_0
       try clear hfz20_1
       try clear hfz29_0
       try clear hfz29_1
       try clear hx404_0
       try clear p2
       try clear p4
       try clear p404
       try clear p6
       try clear q3
       try clear q31
       try clear q4
       try clear q404
       obtain ⟨x43_2, x404000_2, u404000, rfl, HA, HK2, HO_41, HO_404000, HO_404001, BK388, BK389, BK403, HB⟩ := hrel
       cases gk with
       | zero => exact absurd HA.out (by simp [impl_Recover.l0])
       | succ k2 =>
        have H := HA.out
        clear HA
        simp only [impl_Recover.l0] at H
        by_cases c35 : x43_2 < (t405.length : Int)
        ·rw [if_pos c35] at H
         have c35b0 : decide (x43_2 < (t405.length : Int)) = true := decide_eq_true c35
         clear c35
         by_cases c36 : 0 ≤ x43_2
         ·rw [if_pos c36] at H
          have c36b0 : decide (0 ≤ x43_2) = true := decide_eq_true c36
          clear c36
          by_cases c37 : x43_2 < (t405.length : Int)
          ·rw [if_pos c37] at H
           have c37b0 : decide (x43_2 < (t405.length : Int)) = true := decide_eq_true c37
           clear c37
           obtain ⟨ji38, hji38⟩ : ∃ j_ : Int, (wrap64 (1 + x43_2)) = j_ := ⟨_, rfl⟩
           replace H : (if 0 ≤ (ji38) then (if (ji38) < (x404000_2.length : Int) then (if 0 ≤ (wrap64 ((wrap64 (a1 + 1)) + (rd t405 x43_2))) then (if (wrap64 ((wrap64 (a1 + 1)) + (rd t405 x43_2))) < (x404000_2.length : Int) then (impl_Recover.l0 k2 a1 t405 (t405.length : Int) (wrap64 (x43_2 + 1)) (x404000_2.set ((wrap64 ((wrap64 (a1 + 1)) + (rd t405 x43_2))) : Int).toNat (rdOf ByteArray.empty x404000_2 (ji38))) t400) else (none)) else (none)) else (none)) else (none)) = some (r1, r2) := by first | (rw [hji38] at H; exact H) | (simp only [hji38] at H ⊢; exact H)
           have hji38w : (IntKind.i64.wrap (1 + x43_2)) = ji38 := (i64_w _).trans hji38
           by_cases c39 : 0 ≤ (ji38)
           ·rw [if_pos c39] at H
            have c39b0 : decide (0 ≤ (ji38)) = true := decide_eq_true c39
            clear c39
            by_cases c40 : (ji38) < (x404000_2.length : Int)
            ·rw [if_pos c40] at H
             have c40b0 : decide ((ji38) < (x404000_2.length : Int)) = true := decide_eq_true c40
             clear c40
             obtain ⟨ji41, hji41⟩ : ∃ j_ : Int, (wrap64 ((wrap64 (a1 + 1)) + (rd t405 x43_2))) = j_ := ⟨_, rfl⟩
             replace H : (if 0 ≤ (ji41) then (if (ji41) < (x404000_2.length : Int) then (impl_Recover.l0 k2 a1 t405 (t405.length : Int) (wrap64 (x43_2 + 1)) (x404000_2.set ((ji41) : Int).toNat (rdOf ByteArray.empty x404000_2 (ji38))) t400) else (none)) else (none)) = some (r1, r2) := by first | (rw [hji41] at H; exact H) | (simp only [hji41] at H ⊢; exact H)
             have hji41w : (IntKind.i64.wrap ((wrap64 (a1 + 1)) + (rd t405 x43_2))) = ji41 := (i64_w _).trans hji41
             by_cases c42 : 0 ≤ (ji41)
             ·rw [if_pos c42] at H
              have c42b0 : decide (0 ≤ (ji41)) = true := decide_eq_true c42
              clear c42
              by_cases c43 : (ji41) < (x404000_2.length : Int)
              ·rw [if_pos c43] at H
               have c43b0 : decide ((ji41) < (x404000_2.length : Int)) = true := decide_eq_true c43
               clear c43
               obtain ⟨y417, hy417⟩ : ∃ y_ : List ByteArray, y_ = (x404000_2.set ((ji41) : Int).toNat (rdOf ByteArray.empty x404000_2 (ji38))) := ⟨_, rfl⟩
               replace H : (impl_Recover.l0 k2 a1 t405 (t405.length : Int) (wrap64 (x43_2 + 1)) y417 t400) = some (r1, r2) := by first | (rw [hy417]; with_reducible exact H) | (have H2_ := (Option.bind_some _ _).symm.trans H; rw [hy417]; with_reducible exact H2_) | (have H2_ := (Option.bind_some _ _).symm.trans H; with_reducible exact H2_) | with_reducible exact H | (rw [hy417]; exact H) | exact H
               have Ny417 := Aside0.mk hy417
               clear hy417
               have H' := Aside0.mk H
               clear H
               have p415 : 0 ≤ (x43_2 : Int) := dT
               have q415 : x43_2 < (t405.length : Int) := dT
               obtain ⟨ad415, e415, hx415_0⟩ := Kd.at_int (Kd.R_reads' HO_41.out).2.2 x43_2 p415 q415
               cases e415
               replace p415 := eq_true p415
               replace q415 := eq_true q415
               try go_wp2
               have n0_ := Aside0.mk (Kd.R_drew HO_41.out)
               have n1_ := Aside0.mk (Kd.R_drew HO_404000.out)
               have n2_ := Aside0.mk (Kd.R_drew HO_404001.out)
               have n3_ := Aside0.mk (blk_drew BK388.out)
               have n4_ := Aside0.mk (blk_drew BK389.out)
               have n5_ := Aside0.mk (blk_drew BK403.out)
               have n6_ := Aside0.mk (below_drew1 HB.out)
               clear HO_41
               clear HO_404000
               clear HO_404001
               clear BK388
               clear BK389
               clear BK403
               clear HB
               have HO_41 := n0_
               have HO_404000 := n1_
               have HO_404001 := n2_
               have BK388 := n3_
               have BK389 := n4_
               have BK403 := n5_
               have HB := n6_
               clear n0_ n1_ n2_ n3_ n4_ n5_ n6_
               obtain ⟨Ao46, co46, eo46⟩ := Kd.R_slice HO_404000.out
               (first | subst eo46 | (injection eo46 with f1_ f2_ f3_; have f4_ := f1_.symm; have f5_ := f3_.symm; clear f1_ f2_ f3_; subst f4_; subst f5_))
               have p416 : 0 ≤ ((ji38) : Int) := dT
               have q416 : (ji38) < (x404000_2.length : Int) := dT
               obtain ⟨ad416, e416, hx416_0⟩ := Kd.at_string (Kd.R_reads' HO_404000.out).2.2 (ji38) p416 q416
               cases e416
               replace p416 := eq_true p416
               replace q416 := eq_true q416
               have p44 : 0 ≤ ((ji41) : Int) := dT
               have q44 : ((ji41) : Int) < ((x404000_2.length : Int) : Int) := dT
               obtain ⟨go44, co44, eo44, gb44, gl44, cl44, HG44⟩ := Kd.R_form HO_404000.out (by omega)
               (first | cases eo44 | (injection eo44 with ea_ en_ ec_; (first | subst ea_ | (injection ea_ with ea_; subst ea_)); subst ec_; clear en_))
               have GB44 := Aside0.mk gb44
               have GG44 := Aside0.mk HG44
               clear gb44 gl44 HG44
               (first | simp only [add_plain] at hx416_0 | skip)
               obtain ⟨hx44_0, hf44_0⟩ := Kd.R_celln (⟨#[]⟩ : ByteArray) HO_404000.out ((ji41) : Int) p44 q44
               replace p44 := eq_true p44
               replace q44 := eq_true q44
               have HP47 := Kd.R_putn HO_404000.out ((ji41) : Int) (rdOf ByteArray.empty x404000_2 (ji38))
               rw [← Ny417.out] at HP47
               have HQ47 := Aside0.mk HP47
               clear HP47
               refine start_ (n := 14) (S := fun w' => w'.cell? ⟨gb403, 0, none⟩ = some (.slice (some ⟨go44, 0, none⟩) x404000_2.length co46) ∧ w'.cell? ⟨gb403, 1, none⟩ = some (.slice Ao21 t400.length co21) ∧ w'.cell? ⟨go44, ((ji38)).toNat, none⟩ = some (.string (rdOf ByteArray.empty x404000_2 (ji38)))) (ds := [13]) #[false, false, false, false, false, false, false, false, false, false, false, false, false, false] (by kernel_rfl) rfl rfl ⟨(blk_cell BK403.out 0).trans rfl, (blk_cell BK403.out 1).trans rfl, hx416_0⟩ (fun hHeld => ?_); refine with_tabW impl_Recover.tab9 impl_Recover.bits9 (fun HT_ HW_ => ?_)
               generalize wr.drew = w45 at HO_41 HO_404000 HO_404001 BK388 BK389 BK403 HB GG44 HQ47 hf44_0 hx416_0 hx44_0 hHeld ⊢
               refine pure_ (i := 0) (N := some 48) (v := ?_) (a' := ?_) #[true, false, false, false, false, false, false, false, false, false, false, false, false, false] rfl rfl (any_of HT_.out (by kernel_rfl)) (fun _ _ _ h => h) (Or.inl ⟨by rfl, ?_⟩) ?_ ?_
               rotate_left
               ·intro w'
                go_simp
                with_reducible rfl
               rotate_left
               ·simp only [Act.put, List.setIfInBounds_toArray, List.set_cons_zero, List.set_cons_succ, i64_w, i32_w]
                rfl
               refine pure_ (i := 2) (N := some 50) (v := ?_) (a' := ?_) #[true, false, true, false, false, false, false, false, false, false, false, false, false, false] rfl rfl (any_of HT_.out (by kernel_rfl)) (fun _ _ _ h => h) (Or.inl ⟨by rfl, ?_⟩) ?_ ?_
               rotate_left
               ·intro w'
                go_simp
                with_reducible rfl
               rotate_left
               ·simp only [Act.put, List.setIfInBounds_toArray, List.set_cons_zero, List.set_cons_succ, i64_w, i32_w]
                rfl
               refine pure_ (i := 3) (N := some 51) (v := ?_) (a' := ?_) #[true, false, true, true, false, false, false, false, false, false, false, false, false, false] rfl rfl (any_of HT_.out (by kernel_rfl)) (fun _ _ _ h => h) (Or.inl ⟨by rfl, ?_⟩) ?_ ?_
               rotate_left
               ·intro w'
                go_simp
                with_reducible rfl
               rotate_left
               ·simp only [Act.put, List.setIfInBounds_toArray, List.set_cons_zero, List.set_cons_succ, i64_w, i32_w]
                rfl
               refine pure_ (i := 4) (N := some 52) (v := ?_) (a' := ?_) #[true, false, true, true, true, false, false, false, false, false, false, false, false, false] rfl rfl (any_of HT_.out (by kernel_rfl)) (fun _ _ _ h => h) (Or.inl ⟨by rfl, ?_⟩) ?_ ?_
               rotate_left
               ·intro w'
                go_simp
                with_reducible rfl
               rotate_left
               ·simp only [Act.put, List.setIfInBounds_toArray, List.set_cons_zero, List.set_cons_succ, i64_w, i32_w]
                rfl
               refine pure_ (i := 5) (N := some 53) (v := ?_) (a' := ?_) #[true, false, true, true, true, true, false, false, false, false, false, false, false, false] rfl rfl (any_of HT_.out (by kernel_rfl)) (fun _ _ _ h => h) (Or.inl ⟨by rfl, ?_⟩) ?_ ?_
               rotate_left
               ·intro w'
                go_simp
                with_reducible rfl
               rotate_left
               ·simp only [Act.put, List.setIfInBounds_toArray, List.set_cons_zero, List.set_cons_succ, i64_w, i32_w]
                rfl
               refine pure_ (i := 6) (N := some 54) (v := ?_) (a' := ?_) #[true, false, true, true, true, true, true, false, false, false, false, false, false, false] rfl rfl (any_of HT_.out (by kernel_rfl)) (fun _ _ _ h => h) (Or.inl ⟨by rfl, ?_⟩) ?_ ?_
               rotate_left
               ·intro w'
                go_simp
                with_reducible rfl
               rotate_left
               ·simp only [Act.put, List.setIfInBounds_toArray, List.set_cons_zero, List.set_cons_succ, i64_w, i32_w]
                rfl
               refine pure_ (i := 8) (N := some 56) (v := ?_) (a' := ?_) #[true, false, true, true, true, true, true, false, true, false, false, false, false, false] rfl rfl (any_of HT_.out (by kernel_rfl)) (fun _ _ _ h => h) (Or.inl ⟨by rfl, ?_⟩) ?_ ?_
               rotate_left
               ·intro w'
                go_simp
                with_reducible rfl
               rotate_left
               ·simp only [Act.put, List.setIfInBounds_toArray, List.set_cons_zero, List.set_cons_succ, i64_w, i32_w]
                rfl
               refine pure_ (i := 9) (N := some 57) (v := ?_) (a' := ?_) #[true, false, true, true, true, true, true, false, true, true, false, false, false, false] rfl rfl (any_of HT_.out (by kernel_rfl)) (fun _ _ _ h => h) (Or.inl ⟨by rfl, ?_⟩) ?_ ?_
               rotate_left
               ·intro w'
                go_simp
                with_reducible rfl
               rotate_left
               ·simp only [Act.put, List.setIfInBounds_toArray, List.set_cons_zero, List.set_cons_succ, i64_w, i32_w]
                rfl
               refine take_ (i := 1) (N := some 49) (v := ?_) (a' := ?_) #[true, true, true, true, true, true, true, false, true, true, false, false, false, false] rfl rfl (take_ofW HT_.out HW_.out (by kernel_rfl)) (fun _ _ _ h => h) (Or.inl ⟨by rfl, ?_⟩) hHeld ?_ ?_
               rotate_left
               ·rintro w' ⟨s0, s1, s2⟩
                go_simp
                with_reducible rfl
               rotate_left
               ·simp only [Act.put, List.setIfInBounds_toArray, List.set_cons_zero, List.set_cons_succ, i64_w, i32_w]
                rfl
               refine take_ (i := 7) (N := some 55) (v := ?_) (a' := ?_) #[true, true, true, true, true, true, true, true, true, true, false, false, false, false] rfl rfl (take_ofW HT_.out HW_.out (by kernel_rfl)) (fun _ _ _ h => h) (Or.inl ⟨by rfl, ?_⟩) hHeld ?_ ?_
               rotate_left
               ·rintro w' ⟨s0, s1, s2⟩
                go_simp
                with_reducible rfl
               rotate_left
               ·simp only [Act.put, List.setIfInBounds_toArray, List.set_cons_zero, List.set_cons_succ, i64_w, i32_w]
                rfl
               refine pure_ (i := 10) (N := some 58) (v := ?_) (a' := ?_) #[true, true, true, true, true, true, true, true, true, true, true, false, false, false] rfl rfl (any_of HT_.out (by kernel_rfl)) (fun _ _ _ h => h) (Or.inl ⟨by rfl, ?_⟩) ?_ ?_
               rotate_left
               ·intro w'
                go_simp
                with_reducible rfl
               rotate_left
               ·simp only [Act.put, List.setIfInBounds_toArray, List.set_cons_zero, List.set_cons_succ, i64_w, i32_w]
                rfl
               refine take_ (i := 11) (N := some 59) (v := ?_) (a' := ?_) #[true, true, true, true, true, true, true, true, true, true, true, true, false, false] rfl rfl (take_ofW HT_.out HW_.out (by kernel_rfl)) (fun _ _ _ h => h) (Or.inl ⟨by rfl, ?_⟩) hHeld ?_ ?_
               rotate_left
               ·rintro w' ⟨s0, s1, s2⟩
                go_simp
                with_reducible rfl
               rotate_left
               ·simp only [Act.put, List.setIfInBounds_toArray, List.set_cons_zero, List.set_cons_succ, i64_w, i32_w]
                rfl
               refine pure_ (i := 12) (N := some 60) (v := ?_) (a' := ?_) #[true, true, true, true, true, true, true, true, true, true, true, true, true, false] rfl rfl (any_of HT_.out (by kernel_rfl)) (fun _ _ _ h => h) (Or.inl ⟨by rfl, ?_⟩) ?_ ?_
               rotate_left
               ·intro w'
                go_simp
                with_reducible rfl
               rotate_left
               ·simp only [Act.put, List.setIfInBounds_toArray, List.set_cons_zero, List.set_cons_succ, i64_w, i32_w]
                rfl
               refine last_ (i := 13) (N := none) #[true, true, true, true, true, true, true, true, true, true, true, true, true, true] rfl rfl (one_of HT_.out (by kernel_rfl)) (by decide) (fun K hK => ?_)
               refine skip_ (w1 := ?_) (by rfl) rfl ?_ ?_
               rotate_left
               ·go_simp
                rfl
               refine hK.out _ _ ?_
               clear hK K
               refine done_ (done_of HT_.out (by kernel_rfl)) ?_
               try go_wp2
               go_roundg k2
               case measure => have := HJ7.out; have := HK2.out; omega
               case rel => exact ⟨(wrap64 (x43_2 + 1)), (y417), (.slice (some ⟨go44, 0, none⟩) x404000_2.length co46), (by first | rfl | (simp; done) | (simp [*]; done) | (simp; exact (by intro l_; cases l_ <;> rfl : ∀ l_ : List UInt8, l_.isEmpty = !(l_ != [])) _)), H', ⟨by have := HJ7.out; have := HK2.out; omega⟩, ⟨rP (Kd.R_mono (Kd.R_far (p := ⟨go44, ((ji41) : Int).toNat, none⟩) (Kd.R_types HO_41.out GG44.out (by decide)) (fun _ hk => hk.2) (.string (rdOf ByteArray.empty x404000_2 (ji38)))) (fun _ hk => trivial))⟩, ⟨rP HQ47.out⟩, ⟨rP (Kd.R_mono (Kd.R_far (p := ⟨go44, ((ji41) : Int).toNat, none⟩) (Kd.R_types HO_404001.out GG44.out (by decide)) (fun _ hk => hk.2) (.string (rdOf ByteArray.empty x404000_2 (ji38)))) (fun _ hk => trivial))⟩, ⟨by (with_reducible repeat (first | refine blk_drewN ?_ _ | refine blk_drew ?_ | refine blk_alloc ?_ _)); refine blk_far ?_ (by have h_ := Kd.R_ne HO_404000.out BK388.out (by decide); intro e_; exact h_ (by rw [e_]; rfl)) _; (with_reducible repeat (first | refine blk_drewN ?_ _ | refine blk_drew ?_ | refine blk_alloc ?_ _)); exact BK388.out⟩, ⟨by (with_reducible repeat (first | refine blk_drewN ?_ _ | refine blk_drew ?_ | refine blk_alloc ?_ _)); refine blk_far ?_ (by have h_ := Kd.R_ne HO_404000.out BK389.out (by decide); intro e_; exact h_ (by rw [e_]; rfl)) _; (with_reducible repeat (first | refine blk_drewN ?_ _ | refine blk_drew ?_ | refine blk_alloc ?_ _)); exact BK389.out⟩, ⟨by (with_reducible repeat (first | refine blk_drewN ?_ _ | refine blk_drew ?_ | refine blk_alloc ?_ _)); refine blk_far ?_ (by have h_ := Kd.R_ne HO_404000.out BK403.out (by decide); intro e_; exact h_ (by rw [e_]; rfl)) _; (with_reducible repeat (first | refine blk_drewN ?_ _ | refine blk_drew ?_ | refine blk_alloc ?_ _)); exact BK403.out⟩, ⟨by repeat (first | (with_reducible first | exact HB.out | apply below_alloc | apply pw_below_drewN | apply below_drew1 | refine below_set ?_ GB44.out | refine below_set ?_ GE388.out | refine below_set ?_ GE389.out | refine below_set ?_ GE403.out) | exact HB.out)⟩⟩
              ·rw [if_neg c43] at H
               exact absurd H (by simp)
             ·rw [if_neg c42] at H
              exact absurd H (by simp)
            ·rw [if_neg c40] at H
             exact absurd H (by simp)
           ·rw [if_neg c39] at H
            exact absurd H (by simp)
          ·rw [if_neg c37] at H
           exact absurd H (by simp)
         ·rw [if_neg c36] at H
          exact absurd H (by simp)
        ·rw [if_neg c35] at H
         have c35b0 : decide (x43_2 < (t405.length : Int)) = false := decide_eq_false c35
         clear c35
         by_cases c48 : 0 < (x404000_2.length : Int)
         ·rw [if_pos c48] at H
          have c48b0 : decide (0 < (x404000_2.length : Int)) = true := decide_eq_true c48
          have c48b1 : decide (0 < x404000_2.length) = true := decide_eq_true (by omega)
          clear c48
          obtain ⟨y418, hy418⟩ : ∃ y_ : List ByteArray, y_ = (x404000_2.set (0 : Int).toNat (⟨#[]⟩ : ByteArray)) := ⟨_, rfl⟩
          replace H : (some (y418, t400)) = some (r1, r2) := by first | (rw [hy418]; with_reducible exact H) | (have H2_ := (Option.bind_some _ _).symm.trans H; rw [hy418]; with_reducible exact H2_) | (have H2_ := (Option.bind_some _ _).symm.trans H; with_reducible exact H2_) | with_reducible exact H | (rw [hy418]; exact H) | exact H
          have Ny418 := Aside0.mk hy418
          clear hy418
          simp only [Option.some.injEq, Prod.mk.injEq] at H
          obtain ⟨rfl, rfl⟩ := H
          have hnb50 := NB403_388.out
          have hnc50 := NB388_403.out
          have hnb51 := NB403_389.out
          have hnc51 := NB389_403.out
          have hcz52_0 := cZ0 BK403
          have hcz52_1 := cZ1 BK403
          have hfz52_0 := blk_frozen BK403.out 0
          have hfz52_1 := blk_frozen BK403.out 1
          have p49 : 0 ≤ (0 : Int) := (by omega)
          have q49 : (0 : Int) < ((x404000_2.length : Int) : Int) := dT
          have qi49 : (0 < x404000_2.length) = True := eq_true (by omega)
          obtain ⟨go49, co49, eo49, gb49, gl49, cl49, HG49⟩ := Kd.R_form HO_404000.out (by omega)
          (first | cases eo49 | (injection eo49 with ea_ en_ ec_; (first | subst ea_ | (injection ea_ with ea_; subst ea_)); subst ec_; clear en_))
          have GB49 := Aside0.mk gb49
          have GG49 := Aside0.mk HG49
          clear gb49 gl49 HG49
          obtain ⟨hx49_0, hf49_0⟩ := Kd.R_celln (⟨#[]⟩ : ByteArray) HO_404000.out (0 : Int) p49 q49
          (try rw [show ((0 : Int)).toNat = 0 from rfl] at hx49_0)
          (try simp only [Nat.reduceMul, Nat.zero_mul, Nat.zero_add, Nat.reduceAdd] at hx49_0)
          (try rw [show ((0 : Int)).toNat = 0 from rfl] at hf49_0)
          (try simp only [Nat.reduceMul, Nat.zero_mul, Nat.zero_add, Nat.reduceAdd] at hf49_0)
          replace p49 := eq_true p49
          replace q49 := eq_true q49
          have HP53 := Kd.R_putg HO_404000.out (0 : Int) (⟨#[]⟩ : ByteArray)
          go_wp2_with (first | ((with_reducible refine gate_store (t := 9) (p := 64) rfl ?_); refine store_event (t := 9) (p := 64) (v := ?vo_w54) (w1 := (wr.setCell ⟨go49, (0 : Int).toNat, none⟩ (.string (⟨#[]⟩ : ByteArray)))) ?hg ?ho ?hn ?hr ?_; (case ho => rfl); (case hg => rfl); (case hn => rfl); (case hr => first | (go_simp; done) | (go_simp; rfl)); intro w54 hw; have hg : wr.grownBy w54 (some go49) := (by rw [hw]; exact HP53.2); have hp_ : Kd.R Kd.string 9 w54 w.heap.size (fun _ => True) (.slice (some ⟨go49, 0, none⟩) x404000_2.length co49) y418 := (by rw [hw, Ny418.out]; exact HP53.1); clear HP53; have n_ := And.intro (Aside0.mk (Kd.R_over' (v := (.slice (some ⟨go49, 0, none⟩) x404000_2.length co49)) (rP HO_41.out) (Kd.R_typed HO_404000.out) (by decide) hg)) (And.intro (Aside0.mk (hp_)) (And.intro (Aside0.mk (Kd.R_over' (v := (.slice (some ⟨go49, 0, none⟩) x404000_2.length co49)) (rP HO_404001.out) (Kd.R_typed HO_404000.out) (by decide) hg)) (And.intro (Aside0.mk (blk_grown (g := gb388) (o := .cells #[.slice A0_0 l0_0.length c0_0, .slice A0_1 l0_1.length c0_1] 30 (0, 0)) (kP BK388) hg (Kd.R_ne HO_404000.out BK388.out (by decide)))) (And.intro (Aside0.mk (blk_grown (g := gb389) (o := .cells #[.slice none 0 0, .slice none 0 0] 30 (0, 0)) (kP BK389) hg (Kd.R_ne HO_404000.out BK389.out (by decide)))) (And.intro (Aside0.mk (blk_grown (g := gb403) (o := .cells #[.slice (some ⟨go49, 0, none⟩) x404000_2.length co49, .slice Ao21 t400.length co21] 30 (0, 0)) (kP BK403) hg (Kd.R_ne HO_404000.out BK403.out (by decide)))) (Aside0.mk ((by rw [hw]; exact below_set (HB.out) GB49.out : Below w.heap.size w w54)))))))); clear HO_41 HO_404000 HO_404001 BK388 BK389 BK403 HB; obtain ⟨HO_41, HO_404000, HO_404001, BK388, BK389, BK403, HB⟩ := n_; (try clear hw); have hcz55_0 := cZ0 BK403; have hcz55_1 := cZ1 BK403; have hfz55_0 := blk_frozen BK403.out 0; have hfz55_1 := blk_frozen BK403.out 1; have hnb56 := NB389_388.out; have hnc56 := NB388_389.out; have hcz57_0 := cZ0 BK389; have hcz57_1 := cZ1 BK389; have hfz57_0 := blk_frozen BK389.out 0; have hfz57_1 := blk_frozen BK389.out 1))
          refine bodyPost_ret (results_cell_row rfl _ _ gb389 30 #[.slice (some ⟨go49, 0, none⟩) x404000_2.length co49, .slice Ao21 t400.length co21] (0, 0) _ rfl (by (with_reducible repeat (first | refine blk_drewN ?_ _ | refine blk_drew ?_ | refine blk_alloc ?_ _)); refine blk_put (cs := #[.slice (some ⟨go49, 0, none⟩) x404000_2.length co49, .slice none 0 0]) ?_ 1 _ rfl; (with_reducible repeat (first | refine blk_drewN ?_ _ | refine blk_drew ?_ | refine blk_alloc ?_ _)); refine blk_put (cs := #[.slice none 0 0, .slice none 0 0]) ?_ 0 _ rfl; (with_reducible repeat (first | refine blk_drewN ?_ _ | refine blk_drew ?_ | refine blk_alloc ?_ _)); exact BK389.out) Try.underlying30 rfl (by kernel_rfl)) rfl ?_
          exact ⟨_, _, eW, by (with_reducible repeat (first | apply Kd.R_alloc | apply Kd.R_drewN | apply Kd.R_drew)); exact Kd.R_mono (Kd.R_far (p := ⟨gb389, 1, none⟩) (Kd.R_far (p := ⟨gb389, 0, none⟩) (Kd.R_types HO_404000.out BK389.out (by decide)) (fun _ hk => hk.2) (.slice (some ⟨go49, 0, none⟩) x404000_2.length co49)) (fun _ hk => hk.2) (.slice Ao21 t400.length co21)) (fun _ hk => trivial), by (with_reducible repeat (first | apply Kd.R_alloc | apply Kd.R_drewN | apply Kd.R_drew)); exact Kd.R_mono (Kd.R_far (p := ⟨gb389, 1, none⟩) (Kd.R_far (p := ⟨gb389, 0, none⟩) (Kd.R_types HO_404001.out BK389.out (by decide)) (fun _ hk => hk.2) (.slice (some ⟨go49, 0, none⟩) x404000_2.length co49)) (fun _ hk => hk.2) (.slice Ao21 t400.length co21)) (fun _ hk => trivial), bB⟩
         ·rw [if_neg c48] at H
          exact absurd H (by simp)
     ·replace c33 := Bool.eq_false_iff.mpr c33
      subst c33
      rw [if_neg (show ¬ (false = true) by decide)] at H
      by_cases c58 : 0 < (t397.length : Int)
      ·rw [if_pos c58] at H
       have c58b0 : decide (0 < (t397.length : Int)) = true := decide_eq_true c58
       have c58b1 : decide (0 < t397.length) = true := decide_eq_true (by omega)
       clear c58
       obtain ⟨y419, hy419⟩ : ∃ y_ : List ByteArray, y_ = (t397.set (0 : Int).toNat (⟨#[]⟩ : ByteArray)) := ⟨_, rfl⟩
       replace H : (some (y419, t400)) = some (r1, r2) := by first | (rw [hy419]; with_reducible exact H) | (have H2_ := (Option.bind_some _ _).symm.trans H; rw [hy419]; with_reducible exact H2_) | (have H2_ := (Option.bind_some _ _).symm.trans H; with_reducible exact H2_) | with_reducible exact H | (rw [hy419]; exact H) | exact H
       have Ny419 := Aside0.mk hy419
       clear hy419
       simp only [Option.some.injEq, Prod.mk.injEq] at H
       obtain ⟨rfl, rfl⟩ := H
       have hnb60 := NB403_388.out
       have hnc60 := NB388_403.out
       have hnb61 := NB403_389.out
       have hnc61 := NB389_403.out
       have hcz62_0 := cZ0 BK403
       have hcz62_1 := cZ1 BK403
       have hfz62_0 := blk_frozen BK403.out 0
       have hfz62_1 := blk_frozen BK403.out 1
       have p59 : 0 ≤ (0 : Int) := (by omega)
       have q59 : (0 : Int) < ((t397.length : Int) : Int) := dT
       have qi59 : (0 < t397.length) = True := eq_true (by omega)
       obtain ⟨go59, co59, eo59, gb59, gl59, cl59, HG59⟩ := Kd.R_form HO_404000.out (by omega)
       (first | cases eo59 | (injection eo59 with ea_ en_ ec_; (first | subst ea_ | (injection ea_ with ea_; subst ea_)); subst ec_; clear en_))
       have GB59 := Aside0.mk gb59
       have GG59 := Aside0.mk HG59
       clear gb59 gl59 HG59
       (first | simp only [add_plain] at hx404_0 | skip)
       obtain ⟨hx59_0, hf59_0⟩ := Kd.R_celln (⟨#[]⟩ : ByteArray) HO_404000.out (0 : Int) p59 q59
       (try rw [show ((0 : Int)).toNat = 0 from rfl] at hx59_0)
       (try simp only [Nat.reduceMul, Nat.zero_mul, Nat.zero_add, Nat.reduceAdd] at hx59_0)
       (try rw [show ((0 : Int)).toNat = 0 from rfl] at hf59_0)
       (try simp only [Nat.reduceMul, Nat.zero_mul, Nat.zero_add, Nat.reduceAdd] at hf59_0)
       replace p59 := eq_true p59
       replace q59 := eq_true q59
       have HP63 := Kd.R_putg HO_404000.out (0 : Int) (⟨#[]⟩ : ByteArray)
       go_wp2_with (first | ((with_reducible refine gate_store (t := 9) (p := 64) rfl ?_); refine store_event (t := 9) (p := 64) (v := ?vo_w64) (w1 := (wc.setCell ⟨go59, (0 : Int).toNat, none⟩ (.string (⟨#[]⟩ : ByteArray)))) ?hg ?ho ?hn ?hr ?_; (case ho => rfl); (case hg => rfl); (case hn => rfl); (case hr => first | (go_simp; done) | (go_simp; rfl)); intro w64 hw; have hg : wc.grownBy w64 (some go59) := (by rw [hw]; exact HP63.2); have hp_ : Kd.R Kd.string 9 w64 w.heap.size (fun _ => True) (.slice (some ⟨go59, 0, none⟩) t397.length co17) y419 := (by rw [hw, Ny419.out]; exact HP63.1); clear HP63; have n_ := And.intro (Aside0.mk (Kd.R_over' (v := (.slice (some ⟨go59, 0, none⟩) t397.length co17)) (rP HO_6.out) (Kd.R_typed HO_404000.out) (by decide) hg)) (And.intro (Aside0.mk (hp_)) (And.intro (Aside0.mk (Kd.R_over' (v := (.slice (some ⟨go59, 0, none⟩) t397.length co17)) (rP HO_404001.out) (Kd.R_typed HO_404000.out) (by decide) hg)) (And.intro (Aside0.mk (blk_grown (g := gb388) (o := .cells #[.slice A0_0 l0_0.length c0_0, .slice A0_1 l0_1.length c0_1] 30 (0, 0)) (kP BK388) hg (Kd.R_ne HO_404000.out BK388.out (by decide)))) (And.intro (Aside0.mk (blk_grown (g := gb389) (o := .cells #[.slice none 0 0, .slice none 0 0] 30 (0, 0)) (kP BK389) hg (Kd.R_ne HO_404000.out BK389.out (by decide)))) (And.intro (Aside0.mk (blk_grown (g := gb403) (o := .cells #[.slice (some ⟨go59, 0, none⟩) t397.length co17, .slice Ao21 t400.length co21] 30 (0, 0)) (kP BK403) hg (Kd.R_ne HO_404000.out BK403.out (by decide)))) (Aside0.mk ((by rw [hw]; exact below_set (HB.out) GB59.out : Below w.heap.size w w64)))))))); clear HO_6 HO_404000 HO_404001 BK388 BK389 BK403 HB; obtain ⟨HO_6, HO_404000, HO_404001, BK388, BK389, BK403, HB⟩ := n_; (try clear hw); have hcz65_0 := cZ0 BK403; have hcz65_1 := cZ1 BK403; have hfz65_0 := blk_frozen BK403.out 0; have hfz65_1 := blk_frozen BK403.out 1; have hnb66 := NB389_388.out; have hnc66 := NB388_389.out; have hcz67_0 := cZ0 BK389; have hcz67_1 := cZ1 BK389; have hfz67_0 := blk_frozen BK389.out 0; have hfz67_1 := blk_frozen BK389.out 1))
       refine bodyPost_ret (results_cell_row rfl _ _ gb389 30 #[.slice (some ⟨go59, 0, none⟩) t397.length co17, .slice Ao21 t400.length co21] (0, 0) _ rfl (by (with_reducible repeat (first | refine blk_drewN ?_ _ | refine blk_drew ?_ | refine blk_alloc ?_ _)); refine blk_put (cs := #[.slice (some ⟨go59, 0, none⟩) t397.length co17, .slice none 0 0]) ?_ 1 _ rfl; (with_reducible repeat (first | refine blk_drewN ?_ _ | refine blk_drew ?_ | refine blk_alloc ?_ _)); refine blk_put (cs := #[.slice none 0 0, .slice none 0 0]) ?_ 0 _ rfl; (with_reducible repeat (first | refine blk_drewN ?_ _ | refine blk_drew ?_ | refine blk_alloc ?_ _)); exact BK389.out) Try.underlying30 rfl (by kernel_rfl)) rfl ?_
       exact ⟨_, _, eW, by (with_reducible repeat (first | apply Kd.R_alloc | apply Kd.R_drewN | apply Kd.R_drew)); exact Kd.R_mono (Kd.R_far (p := ⟨gb389, 1, none⟩) (Kd.R_far (p := ⟨gb389, 0, none⟩) (Kd.R_types HO_404000.out BK389.out (by decide)) (fun _ hk => hk.2) (.slice (some ⟨go59, 0, none⟩) t397.length co17)) (fun _ hk => hk.2) (.slice Ao21 t400.length co21)) (fun _ hk => trivial), by (with_reducible repeat (first | apply Kd.R_alloc | apply Kd.R_drewN | apply Kd.R_drew)); exact Kd.R_mono (Kd.R_far (p := ⟨gb389, 1, none⟩) (Kd.R_far (p := ⟨gb389, 0, none⟩) (Kd.R_types HO_404001.out BK389.out (by decide)) (fun _ hk => hk.2) (.slice (some ⟨go59, 0, none⟩) t397.length co17)) (fun _ hk => hk.2) (.slice Ao21 t400.length co21)) (fun _ hk => trivial), bB⟩
      ·rw [if_neg c58] at H
       exact absurd H (by simp)
  rw [if_neg c6] at H
  exact absurd H (by simp)
 replace c4 := Bool.eq_false_iff.mpr c4
 subst c4
 rw [if_neg (show ¬ (false = true) by decide)] at H
 replace H := Option.bind_eq_some_iff.mp H
 obtain ⟨⟨t391, t394⟩, A680, H⟩ := H
 try dsimp only at H
 have A68 := Aside0.mk A680
 clear A680
 simp only [Option.some.injEq, Prod.mk.injEq] at H
 obtain ⟨rfl, rfl⟩ := H
 go_enter Try.func45, Try.ntmps45
 go_wp2_with (first | ((with_reducible refine gate_dst (N := 2) rfl ?_); (try (refine gate_guard (by rfl) ?_; dsimp only)); refine box_event ?hg (N := 2) ?hd (cs := #[.slice A0_0 l0_0.length c0_0, .slice A0_1 l0_1.length c0_1]) (t := 30) ?hr ?_; (case hd => rfl); (case hg => rfl); (case hr => first | (go_simp; done) | (go_simp; rfl)); intro gb388 hg w69 hbox hb; have n_ := And.intro (sB HB hb) (And.intro (Aside0.mk hbox) (And.intro (gE HB hg) (gE HB hg))); clear HB; obtain ⟨HB, BK388, GW388, GE388⟩ := n_; (try clear hb hbox hg)) | ((with_reducible refine gate_dst (N := 4) rfl ?_); (try (refine gate_guard (by rfl) ?_; dsimp only)); refine box_event ?hg (N := 4) ?hd (cs := #[.slice none 0 0, .slice none 0 0]) (t := 30) ?hr ?_; (case hd => rfl); (case hg => rfl); (case hr => first | (go_simp; done) | (go_simp; rfl)); intro gb389 hg w70 hbox hb; have n_ := And.intro (kB BK388 hb) (And.intro (sB HB hb) (And.intro (Aside0.mk hbox) (And.intro (gE HB hg) (And.intro (gE HB hg) (And.intro (nL BK388 hg) (nG BK388 hg)))))); clear BK388 HB; obtain ⟨BK388, HB, BK389, GW389, GE389, NB388_389, NB389_388⟩ := n_; (try clear hb hbox hg); have hnb71 := NB388_389.out; have hnc71 := NB389_388.out; have hcz72_0 := cZ0 BK388; have hcz72_1 := cZ1 BK388; have hfz72_0 := blk_frozen BK388.out 0; have hfz72_1 := blk_frozen BK388.out 1) | ((with_reducible refine gate_callee (f := 71) rfl ?_); refine gL (some 13) Try.func71 #[.agg #[.slice A0_0 l0_0.length c0_0, .slice A0_1 l0_1.length c0_1], .int .i64 a1] ?_; (with_reducible refine (impl_homed.calls _ _ l0_0 _ _ l0_1 a1 false _ ?side1 ?side2 ?side3 ?side4 A3.out).mono ?_); (case side1 => exact cS HR0_0 HB); (case side2 => exact HC0_0.out); (case side3 => exact cS HR0_1 HB); (case side4 => exact HC0_1.out); rintro e w73 ⟨rfl, hb⟩; refine ⟨_, rfl, ?_⟩; have n_ := And.intro (kB BK388 hb) (And.intro (kB BK389 hb) (sB HB hb)); clear BK388 BK389 HB; obtain ⟨BK388, BK389, HB⟩ := n_; (try clear hb); have hcz74_0 := cZ0 BK388; have hcz74_1 := cZ1 BK388; have hfz74_0 := blk_frozen BK388.out 0; have hfz74_1 := blk_frozen BK388.out 1) | ((with_reducible refine gate_callee (f := 76) rfl ?_); refine gL (some 16) Try.func76 #[.agg #[.slice A0_0 l0_0.length c0_0, .slice A0_1 l0_1.length c0_1]] ?_; (with_reducible refine (impl_cloneDisk.calls _ _ l0_0 _ _ l0_1 t391 t394 _ ?side1 ?side2 ?side3 ?side4 A68.out).mono ?_); (case side1 => exact cS HR0_0 HB); (case side2 => exact HC0_0.out); (case side3 => exact cS HR0_1 HB); (case side4 => exact HC0_1.out); rintro e w75 ⟨v392, v395, rfl, ho0, ho1, hb⟩; refine ⟨_, rfl, ?_⟩; have n_ := And.intro (lR HB ho0) (And.intro (lR HB ho1) (And.intro (kB BK388 hb) (And.intro (kB BK389 hb) (sB HB hb)))); clear BK388 BK389 HB; obtain ⟨HO393, HO396, BK388, BK389, HB⟩ := n_; (try clear hb ho0 ho1); obtain ⟨Ao76, co76, eo76⟩ := Kd.R_slice HO393.out; subst eo76; have hcz77_0 := cZ0 BK389; have hcz77_1 := cZ1 BK389; have hfz77_0 := blk_frozen BK389.out 0; have hfz77_1 := blk_frozen BK389.out 1; obtain ⟨Ao78, co78, eo78⟩ := Kd.R_slice HO396.out; subst eo78))
 refine bodyPost_ret (results_cell_row rfl _ _ gb389 30 #[.slice Ao76 t391.length co76, .slice Ao78 t394.length co78] (0, 0) _ rfl (by (with_reducible repeat (first | refine blk_drewN ?_ _ | refine blk_drew ?_ | refine blk_alloc ?_ _)); refine blk_put (cs := #[.slice Ao76 t391.length co76, .slice none 0 0]) ?_ 1 _ rfl; (with_reducible repeat (first | refine blk_drewN ?_ _ | refine blk_drew ?_ | refine blk_alloc ?_ _)); refine blk_put (cs := #[.slice none 0 0, .slice none 0 0]) ?_ 0 _ rfl; (with_reducible repeat (first | refine blk_drewN ?_ _ | refine blk_drew ?_ | refine blk_alloc ?_ _)); exact BK389.out) Try.underlying30 rfl (by kernel_rfl)) rfl ?_
 exact ⟨_, _, eW, by (with_reducible repeat (first | apply Kd.R_alloc | apply Kd.R_drewN | apply Kd.R_drew)); exact Kd.R_mono (Kd.R_far (p := ⟨gb389, 1, none⟩) (Kd.R_far (p := ⟨gb389, 0, none⟩) (Kd.R_types HO393.out BK389.out (by decide)) (fun _ hk => hk.2) (.slice Ao76 t391.length co76)) (fun _ hk => hk.2) (.slice Ao78 t394.length co78)) (fun _ hk => trivial), by (with_reducible repeat (first | apply Kd.R_alloc | apply Kd.R_drewN | apply Kd.R_drew)); exact Kd.R_mono (Kd.R_far (p := ⟨gb389, 1, none⟩) (Kd.R_far (p := ⟨gb389, 0, none⟩) (Kd.R_types HO396.out BK389.out (by decide)) (fun _ hk => hk.2) (.slice Ao76 t391.length co76)) (fun _ hk => hk.2) (.slice Ao78 t394.length co78)) (fun _ hk => trivial), bB⟩

end Go.Proofs.Ytgmpdkefegofhaa.PFnExactRecover
