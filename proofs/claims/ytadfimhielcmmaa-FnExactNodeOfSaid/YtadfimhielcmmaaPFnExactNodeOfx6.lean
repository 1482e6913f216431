-- Written by xprint.py, a program of this session over the kit's print. Not trusted: Lean checks it.
import Derived.Test.YtadfimhielcmmaaPFnExactNodeOfx0
import Derived.Test.YtadfimhielcmmaaPFnExactNodeOfx5
namespace Go.Proofs.Ytadfimhielcmmaa.PFnExactNodeOf
open Go.RowKit Go.Proofs.YtadfimhielcmmaaW.PrintWords Go.Proofs.YtadfimhielcmmaaW.PrintLast Go.Proofs.YtadfimhielcmmaaW.PrintMore
attribute [local go_sem] max2_int min2_int max_two min_two max_three min_three max_four min_four   -- for this text's walks alone
set_option linter.unusedVariables false
set_option linter.unusedSimpArgs false

/-! ### impl_NodeOf: function 12 -/
def impl_NodeOf.l0 : Nat → ByteArray → List Int → List Int → Int → Option (Int × Int × Int × Int × List Int × Bool)
 | 0, _, _, _, _ => none
 | k + 1, x0, x4, x5, x6 => if x6 < (x5.length : Int) then ((impl_GetNum.f k x5 x6).bind fun bt193 => (if bt193.2.2 = true then (if x4.length < 17592186044416 then (impl_NodeOf.l0 k x0 (x4 ++ [bt193.1]) x5 bt193.2.1) else (none)) else (some (0, 0, 0, 0, ([] : List Int), false)))) else (if 0 < (x5.length : Int) then (if (x4.length : Int) ≥ 3 then (if 0 < (x4.length : Int) then (if 1 < (x4.length : Int) then (if 2 < (x4.length : Int) then (if 3 ≤ (x4.length : Int) then ((some (x4.drop (3 : Int).toNat : List Int)).bind fun y204 => ((impl_NodeText.f k (wrap64 (rd x5 0)) (rd x4 0) (rd x4 1) (rd x4 2) y204).bind fun t207 => (if t207.toList = x0.toList then (some (wrap64 (rd x5 0), rd x4 0, rd x4 1, rd x4 2, y204, true)) else (some (0, 0, 0, 0, ([] : List Int), false))))) else (none)) else (none)) else (none)) else (none)) else ((impl_NodeText.f k (wrap64 (rd x5 0)) 0 0 0 ([] : List Int)).bind fun t208 => (if t208.toList = x0.toList then (some (wrap64 (rd x5 0), 0, 0, 0, ([] : List Int), true)) else (some (0, 0, 0, 0, ([] : List Int), false))))) else (none))
def impl_NodeOf.f (k : Nat) (a0 : ByteArray) : Option (Int × Int × Int × Int × List Int × Bool) := if a0.toList = ([] : List UInt8) then (some (0, 0, 0, 0, ([] : List Int), false)) else (if a0.size ≤ 9223372036854775807 then (impl_NodeOf.l0 k a0 (([] : List Int)) (bytesOf a0) 1) else (none))
theorem impl_NodeOf.mono_l : ∀ k, (∀ y0 y1 y2 y3, LeO (impl_NodeOf.l0 k y0 y1 y2 y3) (impl_NodeOf.l0 (k + 1) y0 y1 y2 y3))
 | 0 => fun _ _ _ _ r h => by simp [impl_NodeOf.l0] at h
 | k + 1 => by
  have ih0 := impl_NodeOf.mono_l k
  ·intro y0 y1 y2 y3
   unfold impl_NodeOf.l0
   have m0_ := @impl_GetNum.mono
   have m1_ := @impl_NodeText.mono
   exact mM
theorem impl_NodeOf.mono : ∀ a0 k, LeO (impl_NodeOf.f k a0) (impl_NodeOf.f (k + 1) a0) := by
 intro a0 k
 have ih0 := impl_NodeOf.mono_l k
 unfold impl_NodeOf.f
 have m0_ := @impl_GetNum.mono
 have m1_ := @impl_NodeText.mono
 exact mM
def impl_NodeOf.T14 : Bool × List (List Nat × List Nat) := (true, [([], []), ([0], [0]), ([1], [1]), ([], []), ([3], [3]), ([4], [4]), ([], []), ([6], [6]), ([7], [7]), ([0, 1, 2], []), ([9, 2, 0, 1, 2], [2, 9]), ([0, 1, 2, 3, 4, 5, 9, 10], []), ([11, 5, 10, 0, 1, 2, 3, 4, 5, 9, 10], [5, 11]), ([0, 1, 2, 3, 4, 5, 6, 7, 8, 9, 10, 11, 12], []), ([13, 8, 12, 0, 1, 2, 3, 4, 5, 6, 7, 8, 9, 10, 11, 12], [8, 13])])
def impl_NodeOf.B14 : List Nat := [0, 1, 3, 0, 8, 24, 0, 64, 192, 7, 519, 1599, 3647, 8191, 16383]
theorem impl_NodeOf.tab14 : rtab .any (opsOf Try.f12 14) = impl_NodeOf.T14 := by kernel_rfl
theorem impl_NodeOf.bits14 : waitsOk impl_NodeOf.T14.2 impl_NodeOf.B14 = true := by kernel_rfl
set_option maxHeartbeats 8000000 in
set_option maxRecDepth 100000 in
theorem impl_NodeOf.calls (k : Nat) (a0 : ByteArray) (r1 : Int) (r2 : Int) (r3 : Int) (r4 : Int) (r5 : List Int) (r6 : Bool) (w : World) (h : impl_NodeOf.f k a0 = some (r1, r2, r3, r4, r5, r6)) :
  Calls Try.prog 12 #[.string a0] w fun e w' => ∃ v4_ : Value, e = .returned (.tuple #[.agg #[.int .i64 r1, .int .i64 r2, .int .i64 r3, .int .i64 r4, v4_], .bool r6]) ∧ Kd.Q (Kd.int .i64) 3 w' w.heap.size (fun _ => True) v4_ r5 ∧ Below w.heap.size w w' := by
 have hu33 := Try.underlying33
 have HB := aM (Below.refl w.heap.size w)
 unfold impl_NodeOf.f at h
 have H := h
 clear h
 by_cases c2 : a0.toList = ([] : List UInt8)
 ·rw [if_pos c2] at H
  have c2b0 : (a0.toList == ([] : List UInt8)) = true := beq_iff_eq.mpr c2
  have c2b1 : (a0.toList != ([] : List UInt8)) = false := bne_eq_false_iff_eq.mpr c2
  clear c2
  simp only [Option.some.injEq, Prod.mk.injEq] at H
  obtain ⟨rfl, rfl, rfl, rfl, rfl, rfl⟩ := H
  go_enter Try.func12, Try.ntmps12
  go_wp2_with (first | ((with_reducible refine gate_dst (N := 2) rfl ?_); refine bE 2 #[.int .i64 0, .int .i64 0, .int .i64 0, .int .i64 0, .slice none 0 0] 33 ?_; intro gb186 hg w3 hbox hb; have n_ := aI (sB HB hb) (aI (aM hbox) (aI (gE HB hg) (gE HB hg))); clear HB; obtain ⟨HB, BK186, GW186, GE186⟩ := n_; (try clear hb hbox hg); have hcz4_0 := cZ0 BK186; have hcz4_1 := cZ1 BK186; have hcz4_2 : w3.cell? ⟨gb186, 2, none⟩ = some (.int .i64 0) := (blk_cell BK186.out 2).trans rfl; have hcz4_3 : w3.cell? ⟨gb186, 3, none⟩ = some (.int .i64 0) := (blk_cell BK186.out 3).trans rfl; have hcz4_4 : w3.cell? ⟨gb186, 4, none⟩ = some (.slice none 0 0) := (blk_cell BK186.out 4).trans rfl; have hfz4_0 := fZ BK186 0; have hfz4_1 := fZ BK186 1; have hfz4_2 := fZ BK186 2; have hfz4_3 := fZ BK186 3; have hfz4_4 := fZ BK186 4))
  refine bodyPost_ret (results_ct rfl _ _ gb186 33 #[.int .i64 0, .int .i64 0, .int .i64 0, .int .i64 0, .slice none 0 0] (0, 0) _ rfl (by (with_reducible repeat (first | apply bN | apply bD | apply bA)); refine blk_put (cs := #[.int .i64 0, .int .i64 0, .int .i64 0, .int .i64 0, .slice none 0 0]) ?_ 4 _ rfl; (with_reducible repeat (first | apply bN | apply bD | apply bA)); refine blk_put (cs := #[.int .i64 0, .int .i64 0, .int .i64 0, .int .i64 0, .slice none 0 0]) ?_ 3 _ rfl; (with_reducible repeat (first | apply bN | apply bD | apply bA)); refine blk_put (cs := #[.int .i64 0, .int .i64 0, .int .i64 0, .int .i64 0, .slice none 0 0]) ?_ 2 _ rfl; (with_reducible repeat (first | apply bN | apply bD | apply bA)); refine blk_put (cs := #[.int .i64 0, .int .i64 0, .int .i64 0, .int .i64 0, .slice none 0 0]) ?_ 1 _ rfl; (with_reducible repeat (first | apply bN | apply bD | apply bA)); refine blk_put (cs := #[.int .i64 0, .int .i64 0, .int .i64 0, .int .i64 0, .slice none 0 0]) ?_ 0 _ rfl; (with_reducible repeat (first | apply bN | apply bD | apply bA)); exact BK186.out) Try.underlying33 rfl (by kernel_rfl)) rfl ?_
  exact ⟨_, eW, Kd.Q_of_R (by first | exact Kd.R_nil _ _ _ _ _ | exact Kd.N_nil _ _ _ _ _ | exact Kd.V_nil _ _ _ _ _ | exact Kd.Q_nil _ _ _ _ _ | exact Kd.S_nil _ _ _ _ _), bB⟩
 rw [if_neg c2] at H
 have c2b0 : (a0.toList == ([] : List UInt8)) = false := beq_eq_false_iff_ne.mpr c2
 have c2b1 : (a0.toList != ([] : List UInt8)) = true := bne_iff_ne.mpr c2
 obtain ⟨y187, hy187⟩ : ∃ y_ : List Int, y_ = (([] : List Int)) := ⟨_, rfl⟩
 replace H : (if a0.size ≤ 9223372036854775807 then (impl_NodeOf.l0 k a0 y187 (bytesOf a0) 1) else (none)) = some (r1, r2, r3, r4, r5, r6) := bQ hy187 H
 have Ny187 := aM hy187
 clear hy187
 by_cases c5 : a0.size ≤ 9223372036854775807
 ·rw [if_pos c5] at H
  have c5b0 := eq_true c5
  have c5b1 : decide (a0.size ≤ 9223372036854775807) = true := decide_eq_true c5
  try have c5b2 : (9223372036854775807 < a0.size) = False := eq_false (Nat.not_lt.2 c5)
  clear c5
  obtain ⟨y190, hy190⟩ : ∃ y_ : List Int, y_ = (bytesOf a0) := ⟨_, rfl⟩
  replace H : (impl_NodeOf.l0 k a0 y187 y190 1) = some (r1, r2, r3, r4, r5, r6) := bQ hy190 H
  have Ny190 := aM hy190
  clear hy190
  have H' := aM H
  clear H
  go_enter Try.func12, Try.ntmps12
  go_wp2_with (first | ((with_reducible refine gate_dst (N := 2) rfl ?_); refine bE 2 #[.int .i64 0, .int .i64 0, .int .i64 0, .int .i64 0, .slice none 0 0] 33 ?_; intro gb186 hg w6 hbox hb; have n_ := aI (sB HB hb) (aI (aM hbox) (aI (gE HB hg) (gE HB hg))); clear HB; obtain ⟨HB, BK186, GW186, GE186⟩ := n_; (try clear hb hbox hg)) | ((with_reducible refine gate_dst (N := 14) rfl ?_); refine Kd.R_lit (Kd.int .i64) _ 3 ?hg (N := 14) ?hd (xs := ([] : List Int)) (inner := []) (ok := fun _ => True) (okp := fun _ => True) ?hr ?hp (fun _ hk => hk) trivial (Below.refl _ _) (Nat.le_refl _) (by simp) ?_; (case hd => rfl); (case hg => rfl); (case hr => first | (go_simp; done) | (go_simp; rfl)); (case hp => exact (Reps.none _ _)); intro v188 w7 ho8 hb hg_ hnew_; clear hg_ hnew_; (first | rw [← Ny187.out] at ho8 | (simp only [Int.reduceToNat] at ho8; rw [← Ny187.out] at ho8)); have n_ := aI (lR HB ho8) (aI (kB BK186 hb) (sB HB hb)); clear BK186 HB; obtain ⟨HO189, BK186, HB⟩ := n_; (try clear hb ho8)) | ((with_reducible refine gate_dst (N := 16) rfl ?_); refine V_bytes 5 rfl (N' := 16) rfl 9 39 _ rfl a0 rfl Try.underlying9 Try.underlying39 Try.underlying5 (by first | (with_reducible assumption) | assumption | exact dT) ?_; intro v191 w9 ho10 hb hg_ hnew_; clear hg_ hnew_; (first | rw [← Ny190.out] at ho10 | (simp only [Int.reduceToNat] at ho10; rw [← Ny190.out] at ho10)); have n_ := aI (rB HO189 hb) (aI (aM (Kd.V_lower (Kd.V_mono (ok' := fun k_ => some k_ ≠ (v188 : Value).ownBlock ∧ k_ ≠ gb186) ho10 (fun k_ hk_ => ⟨(Kd.fresh' (rL HO189) k_ hk_), (Kd.freshB (g := gb186) (o := .cells #[.int .i64 0, .int .i64 0, .int .i64 0, .int .i64 0, .slice none 0 0] 33 (0, 0)) (kP BK186) k_ hk_)⟩)) (zB HB))) (aI (kB BK186 hb) (sB HB hb))); clear HO189 BK186 HB; obtain ⟨HO189, HO192, BK186, HB⟩ := n_; (try clear hb ho10)))
  go_loopg [4, 6] k (fun kq v4 v6 w' => ∃ (x4_1 : List Int) (x6_1 : Int) (x187000_1 : Int) (x187001_1 : Int) (x187002_1 : Int) (x187003_1 : Int), v6 = .int .i64 x6_1 ∧ Aside0 (impl_NodeOf.l0 kq a0 x4_1 y190 x6_1 = some (r1, r2, r3, r4, r5, r6)) ∧ Aside0 (kq ≤ k) ∧ Aside0 (Kd.R (Kd.int .i64) 3 w' w.heap.size (fun _ => True) v4 x4_1) ∧ Aside0 (Kd.V (Kd.int .u8) 5 w' w.heap.size (fun k_ => some k_ ≠ (v4 : Value).ownBlock ∧ k_ ≠ gb186) v191 y190) ∧ Aside0 (w'.heap[gb186]? = some (.cells #[.int .i64 x187000_1, .int .i64 x187001_1, .int .i64 x187002_1, .int .i64 x187003_1, (.slice none 0 0)] 33 (0, 0))) ∧ Aside0 (Below w.heap.size w w'))
  case atStart => exact ⟨(y187), (1), (0), (0), (0), (0), (by first | rfl | (simp; done) | (simp [*]; done) | (simp; exact (by intro l_; cases l_ <;> rfl : ∀ l_ : List UInt8, l_.isEmpty = !(l_ != [])) _)), H', ⟨Nat.le_refl _⟩, ⟨rP HO189.out⟩, ⟨by (with_reducible repeat (first | apply Kd.V_alloc | apply Kd.V_drewN | apply Kd.V_drew)); exact HO192.out⟩, ⟨kP BK186⟩, ⟨bB⟩⟩
  case round =>
   clear H'
   try clear c1
   try clear c2
   try clear c2b0
   try clear c2b1
   try clear p2
   try clear c5
   try clear c5b0
   try clear c5b1
   try clear c5b2
   try clear hcz4_0
   try clear hcz4_1
   try clear hcz4_2
   try clear hcz4_3
   try clear hcz4_4
   try clear hfz4_0
   try clear hfz4_1
   try clear hfz4_2
   try clear hfz4_3
   try clear hfz4_4
   obtain ⟨x4_1, x6_1, x187000_1, x187001_1, x187002_1, x187003_1, rfl, HA, HK1, HO_4, HO_5, BK186, HB⟩ := hrel
   cases gk with
   | zero => exact absurd HA.out (by simp [impl_NodeOf.l0])
   | succ k1 =>
    have H := HA.out
    clear HA
    simp only [impl_NodeOf.l0] at H
    by_cases c11 : x6_1 < (y190.length : Int)
    ·rw [if_pos c11] at H
     have c11b0 : decide (x6_1 < (y190.length : Int)) = true := decide_eq_true c11
     clear c11
     replace H := Option.bind_eq_some_iff.mp H
     obtain ⟨⟨t193, t194, t195⟩, A120, H⟩ := H
     try dsimp only at H
     have A12 := aM A120
     clear A120
     by_cases c13 : t195 = true
     ·subst c13
      rw [if_pos rfl] at H
      by_cases c14 : x4_1.length < 17592186044416
      ·rw [if_pos c14] at H
       have LMc14 := aM c14
       clear c14
       obtain ⟨y196, hy196⟩ : ∃ y_ : List Int, y_ = (x4_1 ++ [t193]) := ⟨_, rfl⟩
       replace H : (impl_NodeOf.l0 k1 a0 y196 y190 t194) = some (r1, r2, r3, r4, r5, r6) := bQ hy196 H
       have Ny196 := aM hy196
       clear hy196
       have H' := aM H
       clear H
       obtain ⟨Ao15, co15, eo15⟩ := Kd.V_slice HO_5.out
       subst eo15
       go_wp2_with (first | ((with_reducible refine gate_callee (f := 32) rfl ?_); refine gL (some 24) Try.func32 #[.slice Ao15 y190.length co15, .int .i64 x6_1] ?_; (with_reducible refine (impl_GetNum.calls k1 _ _ y190 x6_1 t193 t194 true _ ?side1 ?side2 A12.out).mono ?_); (case side1 => repeat (first | exact (Kd.V_reads' HO_5.out).2.2 | (with_reducible refine Kd.C_alloc ?_ _) | (with_reducible refine Kd.C_drewN ?_ _) | (with_reducible refine Kd.C_drew ?_))); (case side2 => exact (Kd.V_reads' HO_5.out).2.1); rintro e w' ⟨rfl, ⟨nd, rfl⟩⟩; refine ⟨_, rfl, ?_⟩) | ((with_reducible refine gate_builtin (b := .append) (xs := #[.tmp 31, .tmp 33]) rfl ?_); at_builtin; refine Kd.R_append (Kd.int .i64) (w0 := w) w.heap.size rfl (.tmp 31) (.tmp 33) 31 3 (.int .i64 0) 8 rfl Try.underlying31 info3 rfl (by decide) (by omega) u4 x4_1 t193 [.int .i64 t193] (fun _ => True) (fun _ => False) rfl rfl ?aP (fun _ hk => hk.elim) ?aF ?aO ?aB ?aS ?aL ?_; (case aP => exact rfl); (case aB => exact bB); (case aF => exact (fun _ _ => trivial)); (case aO => exact (rP HO_4.out)); (case aS => exact (zB HB)); (case aL => have := LMc14.out; omega); intro v197 w16 ho hb hg hat; rw [← Ny196.out] at ho; have n_ := aI (aM (Kd.V_afterv (ok := (fun k_ => k_ ≠ gb186)) (by (with_reducible repeat (first | apply Kd.V_alloc | apply Kd.V_drewN | apply Kd.V_drew)); exact Kd.V_mono HO_5.out (fun _ hk => ⟨hk.2, hk.1⟩)) hg hat)) (aI (aM (blk_grown (g := gb186) (o := .cells #[.int .i64 x187000_1, .int .i64 x187001_1, .int .i64 x187002_1, .int .i64 x187003_1, .slice none 0 0] 33 (0, 0)) (kP BK186) hg (Kd.R_ne HO_4.out BK186.out (by decide)))) (aI (aM (hb)) (aM (ho)))); clear HO_5 BK186 HB HO_4; obtain ⟨HO_5, BK186, HB, HO198⟩ := n_; (try clear ho hb hg hat)))
       go_roundg k1
       case measure => have := HK1.out; omega
       case rel => exact ⟨(y196), (t194), (x187000_1), (x187001_1), (x187002_1), (x187003_1), (by first | rfl | (simp; done) | (simp [*]; done) | (simp; exact (by intro l_; cases l_ <;> rfl : ∀ l_ : List UInt8, l_.isEmpty = !(l_ != [])) _)), H', ⟨by have := HK1.out; omega⟩, ⟨rP HO198.out⟩, ⟨by (with_reducible repeat (first | apply Kd.V_alloc | apply Kd.V_drewN | apply Kd.V_drew)); exact Kd.V_mono HO_5.out (fun _ hk => ⟨hk.2, hk.1⟩)⟩, ⟨kP BK186⟩, ⟨bB⟩⟩
      ·rw [if_neg c14] at H
       exact absurd H (by simp)
     ·replace c13 := Bool.eq_false_iff.mpr c13
      subst c13
      rw [if_neg (show ¬ (false = true) by decide)] at H
      simp only [Option.some.injEq, Prod.mk.injEq] at H
      obtain ⟨rfl, rfl, rfl, rfl, rfl, rfl⟩ := H
      obtain ⟨Ao17, co17, eo17⟩ := Kd.V_slice HO_5.out
      subst eo17
      go_wp2_with (first | ((with_reducible refine gate_callee (f := 32) rfl ?_); refine gL (some 24) Try.func32 #[.slice Ao17 y190.length co17, .int .i64 x6_1] ?_; (with_reducible refine (impl_GetNum.calls k1 _ _ y190 x6_1 t193 t194 false _ ?side1 ?side2 A12.out).mono ?_); (case side1 => repeat (first | exact (Kd.V_reads' HO_5.out).2.2 | (with_reducible refine Kd.C_alloc ?_ _) | (with_reducible refine Kd.C_drewN ?_ _) | (with_reducible refine Kd.C_drew ?_))); (case side2 => exact (Kd.V_reads' HO_5.out).2.1); rintro e w' ⟨rfl, ⟨nd, rfl⟩⟩; refine ⟨_, rfl, ?_⟩; (try (rw [drewN_self wr]; generalize hq_ : World.drewN wr _ = wr; have n0_ : Aside0 (Kd.R (Kd.int .i64) 3 wr w.heap.size (fun _ => True) u4 x4_1) := ⟨by rw [← hq_]; exact (rP HO_4.out)⟩; have n1_ : Aside0 (Kd.V (Kd.int .u8) 5 wr w.heap.size (fun k_ => some k_ ≠ (u4 : Value).ownBlock ∧ k_ ≠ gb186) (.slice Ao17 y190.length co17) y190) := ⟨by rw [← hq_]; exact (by (with_reducible repeat (first | apply Kd.V_alloc | apply Kd.V_drewN | apply Kd.V_drew)); exact HO_5.out)⟩; have n2_ : Aside0 (wr.heap[gb186]? = some (.cells #[.int .i64 x187000_1, .int .i64 x187001_1, .int .i64 x187002_1, .int .i64 x187003_1, .slice none 0 0] 33 (0, 0))) := ⟨by rw [← hq_]; exact (kP BK186)⟩; have n3_ : Aside0 (Below w.heap.size w wr) := ⟨by rw [← hq_]; exact bB⟩; clear HO_4 HO_5 BK186 HB hq_; have HO_4 := n0_; have HO_5 := n1_; have BK186 := n2_; have HB := n3_; clear n0_ n1_ n2_ n3_)); have hcz18_0 := cZ0 BK186; have hcz18_1 := cZ1 BK186; have hcz18_2 : wr.cell? ⟨gb186, 2, none⟩ = some (.int .i64 x187002_1) := (blk_cell BK186.out 2).trans rfl; have hcz18_3 : wr.cell? ⟨gb186, 3, none⟩ = some (.int .i64 x187003_1) := (blk_cell BK186.out 3).trans rfl; have hcz18_4 : wr.cell? ⟨gb186, 4, none⟩ = some (.slice none 0 0) := (blk_cell BK186.out 4).trans rfl; have hfz18_0 := fZ BK186 0; have hfz18_1 := fZ BK186 1; have hfz18_2 := fZ BK186 2; have hfz18_3 := fZ BK186 3; have hfz18_4 := fZ BK186 4))
      refine bodyPost_ret (results_ct rfl _ _ gb186 33 #[.int .i64 0, .int .i64 0, .int .i64 0, .int .i64 0, .slice none 0 0] (0, 0) _ rfl (by (with_reducible repeat (first | apply bN | apply bD | apply bA)); refine blk_put (cs := #[.int .i64 0, .int .i64 0, .int .i64 0, .int .i64 0, .slice none 0 0]) ?_ 4 _ rfl; (with_reducible repeat (first | apply bN | apply bD | apply bA)); refine blk_put (cs := #[.int .i64 0, .int .i64 0, .int .i64 0, .int .i64 x187003_1, .slice none 0 0]) ?_ 3 _ rfl; (with_reducible repeat (first | apply bN | apply bD | apply bA)); refine blk_put (cs := #[.int .i64 0, .int .i64 0, .int .i64 x187002_1, .int .i64 x187003_1, .slice none 0 0]) ?_ 2 _ rfl; (with_reducible repeat (first | apply bN | apply bD | apply bA)); refine blk_put (cs := #[.int .i64 0, .int .i64 x187001_1, .int .i64 x187002_1, .int .i64 x187003_1, .slice none 0 0]) ?_ 1 _ rfl; (with_reducible repeat (first | apply bN | apply bD | apply bA)); refine blk_put (cs := #[.int .i64 x187000_1, .int .i64 x187001_1, .int .i64 x187002_1, .int .i64 x187003_1, .slice none 0 0]) ?_ 0 _ rfl; (with_reducible repeat (first | apply bN | apply bD | apply bA)); exact BK186.out) Try.underlying33 rfl (by kernel_rfl)) rfl ?_
      exact ⟨_, eW, Kd.Q_of_R (by first | exact Kd.R_nil _ _ _ _ _ | exact Kd.N_nil _ _ _ _ _ | exact Kd.V_nil _ _ _ _ _ | exact Kd.Q_nil _ _ _ _ _ | exact Kd.S_nil _ _ _ _ _), bB⟩
    ·rw [if_neg c11] at H
     have c11b0 : decide (x6_1 < (y190.length : Int)) = false := decide_eq_false c11
     clear c11
     by_cases c19 : 0 < (y190.length : Int)
     ·rw [if_pos c19] at H
      have c19b0 : decide (0 < (y190.length : Int)) = true := decide_eq_true c19
      have c19b1 : decide (0 < y190.length) = true := decide_eq_true (by omega)
      clear c19
      by_cases c20 : (x4_1.length : Int) ≥ 3
      ·rw [if_pos c20] at H
       have c20b0 : decide (3 ≤ (x4_1.length : Int)) = true := decide_eq_true c20
       have c20b1 : decide (3 ≤ x4_1.length) = true := decide_eq_true (by omega)
       clear c20
       by_cases c21 : 0 < (x4_1.length : Int)
       ·rw [if_pos c21] at H
        have c21b0 : decide (0 < (x4_1.length : Int)) = true := decide_eq_true c21
        have c21b1 : decide (0 < x4_1.length) = true := decide_eq_true (by omega)
        clear c21
        by_cases c22 : 1 < (x4_1.length : Int)
        ·rw [if_pos c22] at H
         have c22b0 : decide (1 < (x4_1.length : Int)) = true := decide_eq_true c22
         have c22b1 : decide (1 < x4_1.length) = true := decide_eq_true (by omega)
         clear c22
         by_cases c23 : 2 < (x4_1.length : Int)
         ·rw [if_pos c23] at H
          have c23b0 : decide (2 < (x4_1.length : Int)) = true := decide_eq_true c23
          have c23b1 : decide (2 < x4_1.length) = true := decide_eq_true (by omega)
          clear c23
          by_cases c24 : 3 ≤ (x4_1.length : Int)
          ·rw [if_pos c24] at H
           have c24b0 := eq_true c24
           have c24b1 : decide (3 ≤ (x4_1.length : Int)) = true := decide_eq_true c24
           clear c24
           obtain ⟨y204, hy204⟩ : ∃ y_ : List Int, y_ = (x4_1.drop (3 : Int).toNat) := ⟨_, rfl⟩
           replace H : ((impl_NodeText.f k1 (wrap64 (rd y190 0)) (rd x4_1 0) (rd x4_1 1) (rd x4_1 2) y204).bind fun t207 => (if t207.toList = a0.toList then (some (wrap64 (rd y190 0), rd x4_1 0, rd x4_1 1, rd x4_1 2, y204, true)) else (some (0, 0, 0, 0, ([] : List Int), false)))) = some (r1, r2, r3, r4, r5, r6) := bQ hy204 H
           have Ny204 := aM hy204
           clear hy204
           replace H := Option.bind_eq_some_iff.mp H
           obtain ⟨t207, A250, H⟩ := H
           try dsimp only at H
           have A25 := aM A250
           clear A250
           by_cases c26 : t207.toList = a0.toList
           ·rw [if_pos c26] at H
            have c26b0 : (t207.toList == a0.toList) = true := beq_iff_eq.mpr c26
            have c26b1 : (t207.toList != a0.toList) = false := bne_eq_false_iff_eq.mpr c26
            clear c26
            simp only [Option.some.injEq, Prod.mk.injEq] at H
            obtain ⟨rfl, rfl, rfl, rfl, rfl, rfl⟩ := H
            obtain ⟨Ao27, co27, eo27⟩ := Kd.V_slice HO_5.out
            subst eo27
            have p199 : 0 ≤ (0 : Int) := (by omega)
            have q199 : 0 < (y190.length : Int) := dT
            obtain ⟨ad199, e199, hx199_0⟩ := Kd.at_int (Kd.V_reads' HO_5.out).2.2 0 p199 q199
            cases e199
            have qi199 : (0 < y190.length) = True := eq_true (by omega)
            (try rw [show ((0 : Int)).toNat = 0 from rfl] at hx199_0)
            (try rw [Addr.add_zero'] at hx199_0)
            replace p199 := eq_true p199
            replace q199 := eq_true q199
            try go_wp2_with (first | ((with_reducible refine gate_dst (N := 10) rfl ?_); refine bE 10 #[.int .i64 0, .int .i64 0, .int .i64 0, .int .i64 0, .slice none 0 0] 33 ?_; intro gb200 hg w28 hbox hb; have n_ := aI (rB HO_4 hb) (aI (aM (Kd.V_below (Kd.V_elderB (by (with_reducible repeat (first | apply Kd.V_alloc | apply Kd.V_drewN | apply Kd.V_drew)); exact HO_5.out) gb200 (Nat.le_of_eq hg.symm)) hb)) (aI (kB BK186 hb) (aI (sB HB hb) (aI (aM hbox) (aI (gE HB hg) (aI (gE HB hg) (aI (nL BK186 hg) (nG BK186 hg)))))))); clear HO_4 HO_5 BK186 HB; obtain ⟨HO_4, HO_5, BK186, HB, BK200, GW200, GE200, NB186_200, NB200_186⟩ := n_; (try clear hb hbox hg); have hnb29 := NB200_186.out; have hnc29 := NB186_200.out; have hcz30_0 := cZ0 BK200; have hcz30_1 := cZ1 BK200; have hcz30_2 : w28.cell? ⟨gb200, 2, none⟩ = some (.int .i64 0) := (blk_cell BK200.out 2).trans rfl; have hcz30_3 : w28.cell? ⟨gb200, 3, none⟩ = some (.int .i64 0) := (blk_cell BK200.out 3).trans rfl; have hcz30_4 : w28.cell? ⟨gb200, 4, none⟩ = some (.slice none 0 0) := (blk_cell BK200.out 4).trans rfl; have hfz30_0 := fZ BK200 0; have hfz30_1 := fZ BK200 1; have hfz30_2 := fZ BK200 2; have hfz30_3 := fZ BK200 3; have hfz30_4 := fZ BK200 4; obtain ⟨Ao31, co31, eo31⟩ := Kd.R_slice HO_4.out; subst eo31))
            have n0_ : Aside0 (Kd.R (Kd.int .i64) 3 (((((w28.setCell ⟨gb200, 0, none⟩ (.int .i64 (wrap64 (rd y190 0)))).setCell ⟨gb200, 1, none⟩ (.int .i64 0)).setCell ⟨gb200, 2, none⟩ (.int .i64 0)).setCell ⟨gb200, 3, none⟩ (.int .i64 0)).setCell ⟨gb200, 4, none⟩ (.slice none 0 0)) w.heap.size (fun _ => True) (.slice Ao31 x4_1.length co31) x4_1) := ⟨rP (Kd.R_mono (Kd.R_far (p := ⟨gb200, 4, none⟩) (Kd.R_far (p := ⟨gb200, 3, none⟩) (Kd.R_far (p := ⟨gb200, 2, none⟩) (Kd.R_far (p := ⟨gb200, 1, none⟩) (Kd.R_far (p := ⟨gb200, 0, none⟩) (Kd.R_types HO_4.out BK200.out (by decide)) (fun _ hk => hk.2) (.int .i64 (wrap64 (rd y190 0)))) (fun _ hk => hk.2) (.int .i64 0)) (fun _ hk => hk.2) (.int .i64 0)) (fun _ hk => hk.2) (.int .i64 0)) (fun _ hk => hk.2) (.slice none 0 0)) (fun _ hk => trivial))⟩
            have n1_ : Aside0 (Kd.V (Kd.int .u8) 5 (((((w28.setCell ⟨gb200, 0, none⟩ (.int .i64 (wrap64 (rd y190 0)))).setCell ⟨gb200, 1, none⟩ (.int .i64 0)).setCell ⟨gb200, 2, none⟩ (.int .i64 0)).setCell ⟨gb200, 3, none⟩ (.int .i64 0)).setCell ⟨gb200, 4, none⟩ (.slice none 0 0)) w.heap.size (fun k_ => some k_ ≠ (.slice Ao31 x4_1.length co31 : Value).ownBlock ∧ k_ ≠ gb186 ∧ k_ ≠ gb200) (.slice (some ad199) y190.length co27) y190) := ⟨by (with_reducible repeat (first | apply Kd.V_alloc | apply Kd.V_drewN | apply Kd.V_drew)); exact Kd.V_mono (Kd.V_far (p := ⟨gb200, 4, none⟩) (Kd.V_far (p := ⟨gb200, 3, none⟩) (Kd.V_far (p := ⟨gb200, 2, none⟩) (Kd.V_far (p := ⟨gb200, 1, none⟩) (Kd.V_far (p := ⟨gb200, 0, none⟩) (Kd.V_mono HO_5.out (fun k_ hk => (⟨hk, hk.2⟩ : _ ∧ k_ ≠ gb200))) (fun _ hk => hk.2) (.int .i64 (wrap64 (rd y190 0)))) (fun _ hk => hk.2) (.int .i64 0)) (fun _ hk => hk.2) (.int .i64 0)) (fun _ hk => hk.2) (.int .i64 0)) (fun _ hk => hk.2) (.slice none 0 0)) (fun _ hk => ⟨hk.1.1.1, ⟨hk.1.1.2, hk.1.2⟩⟩)⟩
            have n2_ : Aside0 ((((((w28.setCell ⟨gb200, 0, none⟩ (.int .i64 (wrap64 (rd y190 0)))).setCell ⟨gb200, 1, none⟩ (.int .i64 0)).setCell ⟨gb200, 2, none⟩ (.int .i64 0)).setCell ⟨gb200, 3, none⟩ (.int .i64 0)).setCell ⟨gb200, 4, none⟩ (.slice none 0 0)).heap[gb186]? = some (.cells #[.int .i64 x187000_1, .int .i64 x187001_1, .int .i64 x187002_1, .int .i64 x187003_1, .slice none 0 0] 33 (0, 0))) := ⟨kP BK186⟩
            have n3_ : Aside0 ((((((w28.setCell ⟨gb200, 0, none⟩ (.int .i64 (wrap64 (rd y190 0)))).setCell ⟨gb200, 1, none⟩ (.int .i64 0)).setCell ⟨gb200, 2, none⟩ (.int .i64 0)).setCell ⟨gb200, 3, none⟩ (.int .i64 0)).setCell ⟨gb200, 4, none⟩ (.slice none 0 0)).heap[gb200]? = some (.cells #[.int .i64 (wrap64 (rd y190 0)), .int .i64 0, .int .i64 0, .int .i64 0, .slice none 0 0] 33 (0, 0))) := ⟨by (with_reducible repeat (first | apply bN | apply bD | apply bA)); refine blk_put (cs := #[.int .i64 (wrap64 (rd y190 0)), .int .i64 0, .int .i64 0, .int .i64 0, .slice none 0 0]) ?_ 4 _ rfl; (with_reducible repeat (first | apply bN | apply bD | apply bA)); refine blk_put (cs := #[.int .i64 (wrap64 (rd y190 0)), .int .i64 0, .int .i64 0, .int .i64 0, .slice none 0 0]) ?_ 3 _ rfl; (with_reducible repeat (first | apply bN | apply bD | apply bA)); refine blk_put (cs := #[.int .i64 (wrap64 (rd y190 0)), .int .i64 0, .int .i64 0, .int .i64 0, .slice none 0 0]) ?_ 2 _ rfl; (with_reducible repeat (first | apply bN | apply bD | apply bA)); refine blk_put (cs := #[.int .i64 (wrap64 (rd y190 0)), .int .i64 0, .int .i64 0, .int .i64 0, .slice none 0 0]) ?_ 1 _ rfl; (with_reducible repeat (first | apply bN | apply bD | apply bA)); refine blk_put (cs := #[.int .i64 0, .int .i64 0, .int .i64 0, .int .i64 0, .slice none 0 0]) ?_ 0 _ rfl; (with_reducible repeat (first | apply bN | apply bD | apply bA)); exact BK200.out⟩
            have n4_ : Aside0 (Below w.heap.size w (((((w28.setCell ⟨gb200, 0, none⟩ (.int .i64 (wrap64 (rd y190 0)))).setCell ⟨gb200, 1, none⟩ (.int .i64 0)).setCell ⟨gb200, 2, none⟩ (.int .i64 0)).setCell ⟨gb200, 3, none⟩ (.int .i64 0)).setCell ⟨gb200, 4, none⟩ (.slice none 0 0))) := ⟨bB⟩
            (try clear HO_4)
            (try clear HO_5)
            (try clear BK186)
            (try clear BK200)
            (try clear HB)
            generalize (((((w28.setCell ⟨gb200, 0, none⟩ (.int .i64 (wrap64 (rd y190 0)))).setCell ⟨gb200, 1, none⟩ (.int .i64 0)).setCell ⟨gb200, 2, none⟩ (.int .i64 0)).setCell ⟨gb200, 3, none⟩ (.int .i64 0)).setCell ⟨gb200, 4, none⟩ (.slice none 0 0)) = w32 at n0_ n1_ n2_ n3_ n4_ ⊢
            have HO_4 := n0_
            have HO_5 := n1_
            have BK186 := n2_
            have BK200 := n3_
            have HB := n4_
            clear n0_ n1_ n2_ n3_ n4_
            have n_ := aI (aM (Kd.R_drew HO_4.out)) (aI (aM (Kd.V_drew HO_5.out)) (aI (aM (blk_drew BK186.out)) (aI (aM (blk_drew BK200.out)) (aM (below_drew1 HB.out)))))
            clear HO_4 HO_5 BK186 BK200 HB
            obtain ⟨HO_4, HO_5, BK186, BK200, HB⟩ := n_
            have p201 : 0 ≤ (0 : Int) := (by omega)
            have q201 : 0 < (x4_1.length : Int) := dT
            obtain ⟨ad201, e201, hx201_0⟩ := Kd.at_int (Kd.R_reads' HO_4.out).2.2 0 p201 q201
            cases e201
            have qi201 : (0 < x4_1.length) = True := eq_true (by omega)
            (try rw [show ((0 : Int)).toNat = 0 from rfl] at hx201_0)
            (try rw [Addr.add_zero'] at hx201_0)
            replace p201 := eq_true p201
            replace q201 := eq_true q201
            have p202 : 0 ≤ (1 : Int) := (by omega)
            have q202 : 1 < (x4_1.length : Int) := dT
            obtain ⟨ad202, e202, hx202_0⟩ := Kd.at_int (Kd.R_reads' HO_4.out).2.2 1 p202 q202
            obtain rfl : ad201 = ad202 := (by injection e202)
            (try simp only [show (1 : Int).toNat = 1 from rfl, Nat.reduceMul, Nat.reduceEqDiff, Go.Addr.add, ↓reduceIte] at hx202_0)
            have qi202 : (1 < x4_1.length) = True := eq_true (by omega)
            (try rw [show ((1 : Int)).toNat = 1 from rfl] at hx202_0)
            replace p202 := eq_true p202
            replace q202 := eq_true q202
            have p203 : 0 ≤ (2 : Int) := (by omega)
            have q203 : 2 < (x4_1.length : Int) := dT
            obtain ⟨ad203, e203, hx203_0⟩ := Kd.at_int (Kd.R_reads' HO_4.out).2.2 2 p203 q203
            obtain rfl : ad201 = ad203 := (by injection e203)
            (try simp only [show (2 : Int).toNat = 2 from rfl, Nat.reduceMul, Nat.reduceEqDiff, Go.Addr.add, ↓reduceIte] at hx203_0)
            have qi203 : (2 < x4_1.length) = True := eq_true (by omega)
            (try rw [show ((2 : Int)).toNat = 2 from rfl] at hx203_0)
            replace p203 := eq_true p203
            replace q203 := eq_true q203
            refine start_ (n := 15) (S := fun w' => w'.cell? ad201 = some (.int .i64 (rd x4_1 0)) ∧ w'.cell? ⟨ad201.block, ad201.off + 1, none⟩ = some (.int .i64 (rd x4_1 1)) ∧ w'.cell? ⟨ad201.block, ad201.off + 2, none⟩ = some (.int .i64 (rd x4_1 2))) (ds := []) #[tF, tF, tF, tF, tF, tF, tF, tF, tF, tF, tF, tF, tF, tF, tF] (by kernel_rfl) rfl rfl ⟨hx201_0, hx202_0, hx203_0⟩ (fun hHeld => ?_); refine with_tabW impl_NodeOf.tab14 impl_NodeOf.bits14 (fun HT_ HW_ => ?_)
            generalize w32.drew = w33 at HO_4 HO_5 BK186 BK200 HB hx201_0 hx202_0 hx203_0 hHeld ⊢
            refine pY 0 44 #[tT, tF, tF, tF, tF, tF, tF, tF, tF, tF, tF, tF, tF, tF, tF] ?_
            refine pY 1 45 #[tT, tT, tF, tF, tF, tF, tF, tF, tF, tF, tF, tF, tF, tF, tF] ?_
            refine pY 3 47 #[tT, tT, tF, tT, tF, tF, tF, tF, tF, tF, tF, tF, tF, tF, tF] ?_
            refine pY 4 48 #[tT, tT, tF, tT, tT, tF, tF, tF, tF, tF, tF, tF, tF, tF, tF] ?_
            refine pY 6 50 #[tT, tT, tF, tT, tT, tF, tT, tF, tF, tF, tF, tF, tF, tF, tF] ?_
            refine pY 7 51 #[tT, tT, tF, tT, tT, tF, tT, tT, tF, tF, tF, tF, tF, tF, tF] ?_
            refine take_ (i := 2) (N := some 46) (v := ?_) (a' := ?_) #[tT, tT, tT, tT, tT, tF, tT, tT, tF, tF, tF, tF, tF, tF, tF] rfl rfl (take_ofW HT_.out HW_.out (by kernel_rfl)) (fun _ _ _ h => h) (Or.inl ⟨by rfl, ?_⟩) hHeld ?_ ?_
            rotate_left
            ·rintro w' ⟨s0, s1, s2⟩
             go_simp
             with_reducible rfl
            rotate_left
            ·simp only [Act.put, List.setIfInBounds_toArray, List.set_cons_zero, List.set_cons_succ, i64_w, i32_w]
             rfl
            refine pY 9 53 #[tT, tT, tT, tT, tT, tF, tT, tT, tF, tT, tF, tF, tF, tF, tF] ?_
            refine take_ (i := 5) (N := some 49) (v := ?_) (a' := ?_) #[tT, tT, tT, tT, tT, tT, tT, tT, tF, tT, tF, tF, tF, tF, tF] rfl rfl (take_ofW HT_.out HW_.out (by kernel_rfl)) (fun _ _ _ h => h) (Or.inl ⟨by rfl, ?_⟩) hHeld ?_ ?_
            rotate_left
            ·rintro w' ⟨s0, s1, s2⟩
             go_simp
             with_reducible rfl
            rotate_left
            ·simp only [Act.put, List.setIfInBounds_toArray, List.set_cons_zero, List.set_cons_succ, i64_w, i32_w]
             rfl
            refine take_ (i := 8) (N := some 52) (v := ?_) (a' := ?_) #[tT, tT, tT, tT, tT, tT, tT, tT, tT, tT, tF, tF, tF, tF, tF] rfl rfl (take_ofW HT_.out HW_.out (by kernel_rfl)) (fun _ _ _ h => h) (Or.inl ⟨by rfl, ?_⟩) hHeld ?_ ?_
            rotate_left
            ·rintro w' ⟨s0, s1, s2⟩
             go_simp
             with_reducible rfl
            rotate_left
            ·simp only [Act.put, List.setIfInBounds_toArray, List.set_cons_zero, List.set_cons_succ, i64_w, i32_w]
             rfl
            refine one_ (i := 10) (N := none) #[tT, tT, tT, tT, tT, tT, tT, tT, tT, tT, tT, tF, tF, tF, tF] rfl rfl (one_of HT_.out (by kernel_rfl)) (by decide) (fun K hK => ?_)
            have hs34 : w33.cell? ⟨gb200, 1, none⟩ = some (.int .i64 0) := (blk_cell BK200.out 1).trans rfl
            have hfs34 := blk_frozen BK200.out 1
            have hns34_0 := NB186_200.out
            have hms34_0 := NB200_186.out
            refine skip_ (w1 := ?_) (by rfl) rfl ?_ ?_
            rotate_left
            ·go_simp
             rfl
            refine hK.out _ _ ⟨((cell_far (p := ⟨gb200, _, none⟩) (by first | exact Kd.own_blk (Kd.R_ne HO_4.out BK200.out (by decide)) | (rw [add_block]; exact Kd.own_blk (Kd.R_ne HO_4.out BK200.out (by decide))) | (show (Addr.add _ _).block ≠ _; rw [add_block]; exact Kd.own_blk (Kd.R_ne HO_4.out BK200.out (by decide))) | (dsimp only; exact Kd.own_blk (Kd.R_ne HO_4.out BK200.out (by decide)))) _).trans (hHeld.1)), ((cell_far (p := ⟨gb200, _, none⟩) (by first | exact Kd.own_blk (Kd.R_ne HO_4.out BK200.out (by decide)) | (rw [add_block]; exact Kd.own_blk (Kd.R_ne HO_4.out BK200.out (by decide))) | (show (Addr.add _ _).block ≠ _; rw [add_block]; exact Kd.own_blk (Kd.R_ne HO_4.out BK200.out (by decide))) | (dsimp only; exact Kd.own_blk (Kd.R_ne HO_4.out BK200.out (by decide)))) _).trans (hHeld.2.1)), ((cell_far (p := ⟨gb200, _, none⟩) (by first | exact Kd.own_blk (Kd.R_ne HO_4.out BK200.out (by decide)) | (rw [add_block]; exact Kd.own_blk (Kd.R_ne HO_4.out BK200.out (by decide))) | (show (Addr.add _ _).block ≠ _; rw [add_block]; exact Kd.own_blk (Kd.R_ne HO_4.out BK200.out (by decide))) | (dsimp only; exact Kd.own_blk (Kd.R_ne HO_4.out BK200.out (by decide)))) _).trans (hHeld.2.2))⟩ (fun hHeld => ?_)
            clear hK K
            refine pY 11 54 #[tT, tT, tT, tT, tT, tT, tT, tT, tT, tT, tT, tT, tF, tF, tF] ?_
            refine one_ (i := 12) (N := none) #[tT, tT, tT, tT, tT, tT, tT, tT, tT, tT, tT, tT, tT, tF, tF] rfl rfl (one_of HT_.out (by kernel_rfl)) (by decide) (fun K hK => ?_)
            have hs35 : w33.cell? ⟨gb200, 2, none⟩ = some (.int .i64 0) := (blk_cell BK200.out 2).trans rfl
            have hfs35 := blk_frozen BK200.out 2
            have hns35_0 := NB186_200.out
            have hms35_0 := NB200_186.out
            refine skip_ (w1 := ?_) (by rfl) rfl ?_ ?_
            rotate_left
            ·go_simp
             rfl
            refine hK.out _ _ ⟨((cell_far (p := ⟨gb200, _, none⟩) (by first | exact Kd.own_blk (Kd.R_ne HO_4.out BK200.out (by decide)) | (rw [add_block]; exact Kd.own_blk (Kd.R_ne HO_4.out BK200.out (by decide))) | (show (Addr.add _ _).block ≠ _; rw [add_block]; exact Kd.own_blk (Kd.R_ne HO_4.out BK200.out (by decide))) | (dsimp only; exact Kd.own_blk (Kd.R_ne HO_4.out BK200.out (by decide)))) _).trans (hHeld.1)), ((cell_far (p := ⟨gb200, _, none⟩) (by first | exact Kd.own_blk (Kd.R_ne HO_4.out BK200.out (by decide)) | (rw [add_block]; exact Kd.own_blk (Kd.R_ne HO_4.out BK200.out (by decide))) | (show (Addr.add _ _).block ≠ _; rw [add_block]; exact Kd.own_blk (Kd.R_ne HO_4.out BK200.out (by decide))) | (dsimp only; exact Kd.own_blk (Kd.R_ne HO_4.out BK200.out (by decide)))) _).trans (hHeld.2.1)), ((cell_far (p := ⟨gb200, _, none⟩) (by first | exact Kd.own_blk (Kd.R_ne HO_4.out BK200.out (by decide)) | (rw [add_block]; exact Kd.own_blk (Kd.R_ne HO_4.out BK200.out (by decide))) | (show (Addr.add _ _).block ≠ _; rw [add_block]; exact Kd.own_blk (Kd.R_ne HO_4.out BK200.out (by decide))) | (dsimp only; exact Kd.own_blk (Kd.R_ne HO_4.out BK200.out (by decide)))) _).trans (hHeld.2.2))⟩ (fun hHeld => ?_)
            clear hK K
            refine pY 13 55 #[tT, tT, tT, tT, tT, tT, tT, tT, tT, tT, tT, tT, tT, tT, tF] ?_
            refine one_ (i := 14) (N := none) #[tT, tT, tT, tT, tT, tT, tT, tT, tT, tT, tT, tT, tT, tT, tT] rfl rfl (one_of HT_.out (by kernel_rfl)) (by decide) (fun K hK => ?_)
            have hs36 : w33.cell? ⟨gb200, 3, none⟩ = some (.int .i64 0) := (blk_cell BK200.out 3).trans rfl
            have hfs36 := blk_frozen BK200.out 3
            have hns36_0 := NB186_200.out
            have hms36_0 := NB200_186.out
            refine skip_ (w1 := ?_) (by rfl) rfl ?_ ?_
            rotate_left
            ·go_simp
             rfl
            refine hK.out _ _ ⟨((cell_far (p := ⟨gb200, _, none⟩) (by first | exact Kd.own_blk (Kd.R_ne HO_4.out BK200.out (by decide)) | (rw [add_block]; exact Kd.own_blk (Kd.R_ne HO_4.out BK200.out (by decide))) | (show (Addr.add _ _).block ≠ _; rw [add_block]; exact Kd.own_blk (Kd.R_ne HO_4.out BK200.out (by decide))) | (dsimp only; exact Kd.own_blk (Kd.R_ne HO_4.out BK200.out (by decide)))) _).trans (hHeld.1)), ((cell_far (p := ⟨gb200, _, none⟩) (by first | exact Kd.own_blk (Kd.R_ne HO_4.out BK200.out (by decide)) | (rw [add_block]; exact Kd.own_blk (Kd.R_ne HO_4.out BK200.out (by decide))) | (show (Addr.add _ _).block ≠ _; rw [add_block]; exact Kd.own_blk (Kd.R_ne HO_4.out BK200.out (by decide))) | (dsimp only; exact Kd.own_blk (Kd.R_ne HO_4.out BK200.out (by decide)))) _).trans (hHeld.2.1)), ((cell_far (p := ⟨gb200, _, none⟩) (by first | exact Kd.own_blk (Kd.R_ne HO_4.out BK200.out (by decide)) | (rw [add_block]; exact Kd.own_blk (Kd.R_ne HO_4.out BK200.out (by decide))) | (show (Addr.add _ _).block ≠ _; rw [add_block]; exact Kd.own_blk (Kd.R_ne HO_4.out BK200.out (by decide))) | (dsimp only; exact Kd.own_blk (Kd.R_ne HO_4.out BK200.out (by decide)))) _).trans (hHeld.2.2))⟩ (fun hHeld => ?_)
            clear hK K
            refine done_ (done_of HT_.out (by kernel_rfl)) ?_
            have n0_ : Aside0 (Kd.R (Kd.int .i64) 3 (((w33.setCell ⟨gb200, 1, none⟩ (.int .i64 (rd x4_1 0))).setCell ⟨gb200, 2, none⟩ (.int .i64 (rd x4_1 1))).setCell ⟨gb200, 3, none⟩ (.int .i64 (rd x4_1 2))) w.heap.size (fun _ => True) (.slice (some ad201) x4_1.length co31) x4_1) := ⟨rP (Kd.R_mono (Kd.R_far (p := ⟨gb200, 3, none⟩) (Kd.R_far (p := ⟨gb200, 2, none⟩) (Kd.R_far (p := ⟨gb200, 1, none⟩) (Kd.R_types HO_4.out BK200.out (by decide)) (fun _ hk => hk.2) (.int .i64 (rd x4_1 0))) (fun _ hk => hk.2) (.int .i64 (rd x4_1 1))) (fun _ hk => hk.2) (.int .i64 (rd x4_1 2))) (fun _ hk => trivial))⟩
            have n1_ : Aside0 (Kd.V (Kd.int .u8) 5 (((w33.setCell ⟨gb200, 1, none⟩ (.int .i64 (rd x4_1 0))).setCell ⟨gb200, 2, none⟩ (.int .i64 (rd x4_1 1))).setCell ⟨gb200, 3, none⟩ (.int .i64 (rd x4_1 2))) w.heap.size (fun k_ => some k_ ≠ (.slice (some ad201) x4_1.length co31 : Value).ownBlock ∧ k_ ≠ gb186 ∧ k_ ≠ gb200) (.slice (some ad199) y190.length co27) y190) := ⟨by (with_reducible repeat (first | apply Kd.V_alloc | apply Kd.V_drewN | apply Kd.V_drew)); exact Kd.V_mono (Kd.V_far (p := ⟨gb200, 3, none⟩) (Kd.V_far (p := ⟨gb200, 2, none⟩) (Kd.V_far (p := ⟨gb200, 1, none⟩) (Kd.V_mono HO_5.out (fun k_ hk => (⟨hk, hk.2.2⟩ : _ ∧ k_ ≠ gb200))) (fun _ hk => hk.2) (.int .i64 (rd x4_1 0))) (fun _ hk => hk.2) (.int .i64 (rd x4_1 1))) (fun _ hk => hk.2) (.int .i64 (rd x4_1 2))) (fun _ hk => ⟨hk.1.1, ⟨hk.1.2.1, hk.1.2.2⟩⟩)⟩
            have n2_ : Aside0 ((((w33.setCell ⟨gb200, 1, none⟩ (.int .i64 (rd x4_1 0))).setCell ⟨gb200, 2, none⟩ (.int .i64 (rd x4_1 1))).setCell ⟨gb200, 3, none⟩ (.int .i64 (rd x4_1 2))).heap[gb186]? = some (.cells #[.int .i64 x187000_1, .int .i64 x187001_1, .int .i64 x187002_1, .int .i64 x187003_1, .slice none 0 0] 33 (0, 0))) := ⟨kP BK186⟩
            have n3_ : Aside0 ((((w33.setCell ⟨gb200, 1, none⟩ (.int .i64 (rd x4_1 0))).setCell ⟨gb200, 2, none⟩ (.int .i64 (rd x4_1 1))).setCell ⟨gb200, 3, none⟩ (.int .i64 (rd x4_1 2))).heap[gb200]? = some (.cells #[.int .i64 (wrap64 (rd y190 0)), .int .i64 (rd x4_1 0), .int .i64 (rd x4_1 1), .int .i64 (rd x4_1 2), .slice none 0 0] 33 (0, 0))) := ⟨by (with_reducible repeat (first | apply bN | apply bD | apply bA)); refine blk_put (cs := #[.int .i64 (wrap64 (rd y190 0)), .int .i64 (rd x4_1 0), .int .i64 (rd x4_1 1), .int .i64 0, .slice none 0 0]) ?_ 3 _ rfl; (with_reducible repeat (first | apply bN | apply bD | apply bA)); refine blk_put (cs := #[.int .i64 (wrap64 (rd y190 0)), .int .i64 (rd x4_1 0), .int .i64 0, .int .i64 0, .slice none 0 0]) ?_ 2 _ rfl; (with_reducible repeat (first | apply bN | apply bD | apply bA)); refine blk_put (cs := #[.int .i64 (wrap64 (rd y190 0)), .int .i64 0, .int .i64 0, .int .i64 0, .slice none 0 0]) ?_ 1 _ rfl; (with_reducible repeat (first | apply bN | apply bD | apply bA)); exact BK200.out⟩
            have n4_ : Aside0 (Below w.heap.size w (((w33.setCell ⟨gb200, 1, none⟩ (.int .i64 (rd x4_1 0))).setCell ⟨gb200, 2, none⟩ (.int .i64 (rd x4_1 1))).setCell ⟨gb200, 3, none⟩ (.int .i64 (rd x4_1 2)))) := ⟨bB⟩
            (try clear HO_4)
            (try clear HO_5)
            (try clear BK186)
            (try clear BK200)
            (try clear HB)
            generalize (((w33.setCell ⟨gb200, 1, none⟩ (.int .i64 (rd x4_1 0))).setCell ⟨gb200, 2, none⟩ (.int .i64 (rd x4_1 1))).setCell ⟨gb200, 3, none⟩ (.int .i64 (rd x4_1 2))) = w37 at n0_ n1_ n2_ n3_ n4_ ⊢
            have HO_4 := n0_
            have HO_5 := n1_
            have BK186 := n2_
            have BK200 := n3_
            have HB := n4_
            clear n0_ n1_ n2_ n3_ n4_
            have q38 : (3 : Int) ≤ ((x4_1.length : Int) : Int) := dT
            obtain ⟨i038, hi038, _, hsz38, _⟩ := info_parts info3
            have hcut38 := cut_from (P := Try.prog) 31 3 .i64 Try.underlying31 hi038 1 hsz38 (some ad201) x4_1.length co31 3 (by omega) q38
            have hr38 := Kd.Q_drop (k := (3 : Int).toNat) (Kd.Q_of_R HO_4.out) (by omega)
            obtain ⟨A38, hA38⟩ : ∃ A1, A1 = (if co31 = (3 : Int).toNat then (some ad201) else ((some ad201) : Option Addr).map (·.add ((3 : Int).toNat * 1))) := ⟨_, rfl⟩
            obtain ⟨c38, hc38⟩ : ∃ c1, c1 = co31 - (3 : Int).toNat := ⟨_, rfl⟩
            have hy38 : y204.length = x4_1.length - (3 : Int).toNat := (by rw [Ny204.out, List.length_drop])
            rw [← Ny204.out] at hr38
            rw [← hy38, ← hA38, ← hc38] at hcut38
            replace hr38 : Kd.Q (Kd.int .i64) 3 w37 w.heap.size (fun _ => True) (.slice A38 y204.length c38) y204 := (by rw [hA38, hc38, hy38]; exact hr38)
            have HE38 : Aside0 ((Value.slice A38 y204.length c38).ownBlock = (.slice (some ad201) x4_1.length co31 : Value).ownBlock) := ⟨by rw [hA38]; split <;> (cases ((some ad201) : Option Addr) <;> rfl)⟩
            clear hy38 hi038 hsz38 HO_4 hA38 hc38
            have HO206 := aM hr38
            clear hr38
            replace q38 := eq_true q38
            have n_ := aM (Kd.V_mono (ok' := fun k_ => (some k_ ≠ (.slice A38 y204.length c38 : Value).ownBlock ∧ (k_ ≠ gb186 ∧ k_ ≠ gb200))) HO_5.out (fun k_ hk => ⟨(by rw [HE38.out]; exact hk.1), ⟨hk.2.1, hk.2.2⟩⟩))
            clear HO_5
            have HO_5 := n_
            clear n_
            have hcz39_0 : w37.cell? ⟨gb200, 0, none⟩ = some (.int .i64 (wrap64 (rd y190 0))) := (blk_cell BK200.out 0).trans rfl
            have hcz39_1 := cZ1 BK200
            have hcz39_2 : w37.cell? ⟨gb200, 2, none⟩ = some (.int .i64 (rd x4_1 1)) := (blk_cell BK200.out 2).trans rfl
            have hcz39_3 : w37.cell? ⟨gb200, 3, none⟩ = some (.int .i64 (rd x4_1 2)) := (blk_cell BK200.out 3).trans rfl
            have hcz39_4 : w37.cell? ⟨gb200, 4, none⟩ = some (.slice none 0 0) := (blk_cell BK200.out 4).trans rfl
            have hfz39_0 := fZ BK200 0
            have hfz39_1 := fZ BK200 1
            have hfz39_2 := fZ BK200 2
            have hfz39_3 := fZ BK200 3
            have hfz39_4 := fZ BK200 4
            try go_wp2_with (first | ((with_reducible refine gate_callee (f := 18) rfl ?_); refine gL (some 60) Try.func18 #[.agg #[.int .i64 (wrap64 (rd y190 0)), .int .i64 (rd x4_1 0), .int .i64 (rd x4_1 1), .int .i64 (rd x4_1 2), .slice A38 y204.length c38]] ?_; (with_reducible refine (impl_NodeText.calls k1 (wrap64 (rd y190 0)) (rd x4_1 0) (rd x4_1 1) (rd x4_1 2) _ _ y204 t207 _ ?side1 ?side2 A25.out).mono ?_); (case side1 => refine (Kd.Q_reads' (e := 3) (base := w.heap.size) (ok := fun k_ => True) (n := y204.length) (c := c38) ?_).2.2; exact (by (with_reducible repeat (first | apply Kd.Q_alloc | apply Kd.Q_drewN | apply Kd.Q_drew)); exact (Kd.Q_mono (Kd.Q_far (p := ⟨gb200, 4, none⟩) (Kd.Q_types HO206.out BK200.out (by decide)) (fun _ hk => hk.2) (.slice A38 y204.length c38)) (fun _ h_ => h_.1)))); (case side2 => exact (Kd.Q_reads' HO206.out).2.1); rintro e w40 ⟨rfl, hb⟩; refine ⟨_, rfl, ?_⟩; have n_ := aI (aM (Kd.Q_below (by (with_reducible repeat (first | apply Kd.Q_alloc | apply Kd.Q_drewN | apply Kd.Q_drew)); exact (Kd.Q_mono (Kd.Q_far (p := ⟨gb200, 4, none⟩) (Kd.Q_types HO206.out BK200.out (by decide)) (fun _ hk => hk.2) (.slice A38 y204.length c38)) (fun _ h_ => h_.1))) hb)) (aI (aM (Kd.V_below (by (with_reducible repeat (first | apply Kd.V_alloc | apply Kd.V_drewN | apply Kd.V_drew)); exact (Kd.V_mono (Kd.V_far (p := ⟨gb200, 4, none⟩) (Kd.V_mono HO_5.out (fun k_ hk => (⟨hk, hk.2.2⟩ : _ ∧ k_ ≠ gb200))) (fun _ hk => hk.2) (.slice A38 y204.length c38)) (fun _ h_ => h_.1))) hb)) (aI (kB BK186 hb) (aI (aM (blk_below (g := gb200) (o := .cells #[.int .i64 (wrap64 (rd y190 0)), .int .i64 (rd x4_1 0), .int .i64 (rd x4_1 1), .int .i64 (rd x4_1 2), .slice A38 y204.length c38] 33 (0, 0)) (by (with_reducible repeat (first | apply bN | apply bD | apply bA)); refine blk_put (cs := #[.int .i64 (wrap64 (rd y190 0)), .int .i64 (rd x4_1 0), .int .i64 (rd x4_1 1), .int .i64 (rd x4_1 2), .slice none 0 0]) ?_ 4 _ rfl; (with_reducible repeat (first | apply bN | apply bD | apply bA)); exact BK200.out) hb)) (sB HB hb)))); clear HO206 HO_5 BK186 BK200 HB; obtain ⟨HO206, HO_5, BK186, BK200, HB⟩ := n_; (try clear hb); have hcz41_0 : w40.cell? ⟨gb200, 0, none⟩ = some (.int .i64 (wrap64 (rd y190 0))) := (blk_cell BK200.out 0).trans rfl; have hcz41_1 := cZ1 BK200; have hcz41_2 : w40.cell? ⟨gb200, 2, none⟩ = some (.int .i64 (rd x4_1 1)) := (blk_cell BK200.out 2).trans rfl; have hcz41_3 : w40.cell? ⟨gb200, 3, none⟩ = some (.int .i64 (rd x4_1 2)) := (blk_cell BK200.out 3).trans rfl; have hcz41_4 : w40.cell? ⟨gb200, 4, none⟩ = some (.slice A38 y204.length c38) := (blk_cell BK200.out 4).trans rfl; have hfz41_0 := fZ BK200 0; have hfz41_1 := fZ BK200 1; have hfz41_2 := fZ BK200 2; have hfz41_3 := fZ BK200 3; have hfz41_4 := fZ BK200 4; have hcz42_0 := cZ0 BK186; have hcz42_1 := cZ1 BK186; have hcz42_2 : w40.cell? ⟨gb186, 2, none⟩ = some (.int .i64 x187002_1) := (blk_cell BK186.out 2).trans rfl; have hcz42_3 : w40.cell? ⟨gb186, 3, none⟩ = some (.int .i64 x187003_1) := (blk_cell BK186.out 3).trans rfl; have hcz42_4 : w40.cell? ⟨gb186, 4, none⟩ = some (.slice none 0 0) := (blk_cell BK186.out 4).trans rfl; have hfz42_0 := fZ BK186 0; have hfz42_1 := fZ BK186 1; have hfz42_2 := fZ BK186 2; have hfz42_3 := fZ BK186 3; have hfz42_4 := fZ BK186 4))
            refine bodyPost_ret (results_ct rfl _ _ gb186 33 #[.int .i64 (wrap64 (rd y190 0)), .int .i64 (rd x4_1 0), .int .i64 (rd x4_1 1), .int .i64 (rd x4_1 2), .slice A38 y204.length c38] (0, 0) _ rfl (by (with_reducible repeat (first | apply bN | apply bD | apply bA)); refine blk_put (cs := #[.int .i64 (wrap64 (rd y190 0)), .int .i64 (rd x4_1 0), .int .i64 (rd x4_1 1), .int .i64 (rd x4_1 2), .slice none 0 0]) ?_ 4 _ rfl; (with_reducible repeat (first | apply bN | apply bD | apply bA)); refine blk_put (cs := #[.int .i64 (wrap64 (rd y190 0)), .int .i64 (rd x4_1 0), .int .i64 (rd x4_1 1), .int .i64 x187003_1, .slice none 0 0]) ?_ 3 _ rfl; (with_reducible repeat (first | apply bN | apply bD | apply bA)); refine blk_put (cs := #[.int .i64 (wrap64 (rd y190 0)), .int .i64 (rd x4_1 0), .int .i64 x187002_1, .int .i64 x187003_1, .slice none 0 0]) ?_ 2 _ rfl; (with_reducible repeat (first | apply bN | apply bD | apply bA)); refine blk_put (cs := #[.int .i64 (wrap64 (rd y190 0)), .int .i64 x187001_1, .int .i64 x187002_1, .int .i64 x187003_1, .slice none 0 0]) ?_ 1 _ rfl; (with_reducible repeat (first | apply bN | apply bD | apply bA)); refine blk_put (cs := #[.int .i64 x187000_1, .int .i64 x187001_1, .int .i64 x187002_1, .int .i64 x187003_1, .slice none 0 0]) ?_ 0 _ rfl; (with_reducible repeat (first | apply bN | apply bD | apply bA)); exact BK186.out) Try.underlying33 rfl (by kernel_rfl)) rfl ?_
            exact ⟨_, eW, by (with_reducible repeat (first | apply Kd.Q_alloc | apply Kd.Q_drewN | apply Kd.Q_drew)); exact Kd.Q_mono (Kd.Q_far (p := ⟨gb186, 4, none⟩) (Kd.Q_far (p := ⟨gb186, 3, none⟩) (Kd.Q_far (p := ⟨gb186, 2, none⟩) (Kd.Q_far (p := ⟨gb186, 1, none⟩) (Kd.Q_far (p := ⟨gb186, 0, none⟩) (Kd.Q_types HO206.out BK186.out (by decide)) (fun _ hk => hk.2) (.int .i64 (wrap64 (rd y190 0)))) (fun _ hk => hk.2) (.int .i64 (rd x4_1 0))) (fun _ hk => hk.2) (.int .i64 (rd x4_1 1))) (fun _ hk => hk.2) (.int .i64 (rd x4_1 2))) (fun _ hk => hk.2) (.slice A38 y204.length c38)) (fun _ hk => trivial), bB⟩
           ·rw [if_neg c26] at H
            have c26b0 : (t207.toList == a0.toList) = false := beq_eq_false_iff_ne.mpr c26
            have c26b1 : (t207.toList != a0.toList) = true := bne_iff_ne.mpr c26
            simp only [Option.some.injEq, Prod.mk.injEq] at H
            obtain ⟨rfl, rfl, rfl, rfl, rfl, rfl⟩ := H
            obtain ⟨Ao43, co43, eo43⟩ := Kd.V_slice HO_5.out
            subst eo43
            have p199 : 0 ≤ (0 : Int) := (by omega)
            have q199 : 0 < (y190.length : Int) := dT
            obtain ⟨ad199, e199, hx199_0⟩ := Kd.at_int (Kd.V_reads' HO_5.out).2.2 0 p199 q199
            cases e199
            have qi199 : (0 < y190.length) = True := eq_true (by omega)
            (try rw [show ((0 : Int)).toNat = 0 from rfl] at hx199_0)
            (try rw [Addr.add_zero'] at hx199_0)
            replace p199 := eq_true p199
            replace q199 := eq_true q199
            try go_wp2_with (first | ((with_reducible refine gate_dst (N := 10) rfl ?_); refine bE 10 #[.int .i64 0, .int .i64 0, .int .i64 0, .int .i64 0, .slice none 0 0] 33 ?_; intro gb200 hg w44 hbox hb; have n_ := aI (rB HO_4 hb) (aI (aM (Kd.V_below (Kd.V_elderB (by (with_reducible repeat (first | apply Kd.V_alloc | apply Kd.V_drewN | apply Kd.V_drew)); exact HO_5.out) gb200 (Nat.le_of_eq hg.symm)) hb)) (aI (kB BK186 hb) (aI (sB HB hb) (aI (aM hbox) (aI (gE HB hg) (aI (gE HB hg) (aI (nL BK186 hg) (nG BK186 hg)))))))); clear HO_4 HO_5 BK186 HB; obtain ⟨HO_4, HO_5, BK186, HB, BK200, GW200, GE200, NB186_200, NB200_186⟩ := n_; (try clear hb hbox hg); have hnb45 := NB200_186.out; have hnc45 := NB186_200.out; have hcz46_0 := cZ0 BK200; have hcz46_1 := cZ1 BK200; have hcz46_2 : w44.cell? ⟨gb200, 2, none⟩ = some (.int .i64 0) := (blk_cell BK200.out 2).trans rfl; have hcz46_3 : w44.cell? ⟨gb200, 3, none⟩ = some (.int .i64 0) := (blk_cell BK200.out 3).trans rfl; have hcz46_4 : w44.cell? ⟨gb200, 4, none⟩ = some (.slice none 0 0) := (blk_cell BK200.out 4).trans rfl; have hfz46_0 := fZ BK200 0; have hfz46_1 := fZ BK200 1; have hfz46_2 := fZ BK200 2; have hfz46_3 := fZ BK200 3; have hfz46_4 := fZ BK200 4; obtain ⟨Ao47, co47, eo47⟩ := Kd.R_slice HO_4.out; subst eo47))
            have n0_ : Aside0 (Kd.R (Kd.int .i64) 3 (((((w44.setCell ⟨gb200, 0, none⟩ (.int .i64 (wrap64 (rd y190 0)))).setCell ⟨gb200, 1, none⟩ (.int .i64 0)).setCell ⟨gb200, 2, none⟩ (.int .i64 0)).setCell ⟨gb200, 3, none⟩ (.int .i64 0)).setCell ⟨gb200, 4, none⟩ (.slice none 0 0)) w.heap.size (fun _ => True) (.slice Ao47 x4_1.length co47) x4_1) := ⟨rP (Kd.R_mono (Kd.R_far (p := ⟨gb200, 4, none⟩) (Kd.R_far (p := ⟨gb200, 3, none⟩) (Kd.R_far (p := ⟨gb200, 2, none⟩) (Kd.R_far (p := ⟨gb200, 1, none⟩) (Kd.R_far (p := ⟨gb200, 0, none⟩) (Kd.R_types HO_4.out BK200.out (by decide)) (fun _ hk => hk.2) (.int .i64 (wrap64 (rd y190 0)))) (fun _ hk => hk.2) (.int .i64 0)) (fun _ hk => hk.2) (.int .i64 0)) (fun _ hk => hk.2) (.int .i64 0)) (fun _ hk => hk.2) (.slice none 0 0)) (fun _ hk => trivial))⟩
            have n1_ : Aside0 (Kd.V (Kd.int .u8) 5 (((((w44.setCell ⟨gb200, 0, none⟩ (.int .i64 (wrap64 (rd y190 0)))).setCell ⟨gb200, 1, none⟩ (.int .i64 0)).setCell ⟨gb200, 2, none⟩ (.int .i64 0)).setCell ⟨gb200, 3, none⟩ (.int .i64 0)).setCell ⟨gb200, 4, none⟩ (.slice none 0 0)) w.heap.size (fun k_ => some k_ ≠ (.slice Ao47 x4_1.length co47 : Value).ownBlock ∧ k_ ≠ gb186 ∧ k_ ≠ gb200) (.slice (some ad199) y190.length co43) y190) := ⟨by (with_reducible repeat (first | apply Kd.V_alloc | apply Kd.V_drewN | apply Kd.V_drew)); exact Kd.V_mono (Kd.V_far (p := ⟨gb200, 4, none⟩) (Kd.V_far (p := ⟨gb200, 3, none⟩) (Kd.V_far (p := ⟨gb200, 2, none⟩) (Kd.V_far (p := ⟨gb200, 1, none⟩) (Kd.V_far (p := ⟨gb200, 0, none⟩) (Kd.V_mono HO_5.out (fun k_ hk => (⟨hk, hk.2⟩ : _ ∧ k_ ≠ gb200))) (fun _ hk => hk.2) (.int .i64 (wrap64 (rd y190 0)))) (fun _ hk => hk.2) (.int .i64 0)) (fun _ hk => hk.2) (.int .i64 0)) (fun _ hk => hk.2) (.int .i64 0)) (fun _ hk => hk.2) (.slice none 0 0)) (fun _ hk => ⟨hk.1.1.1, ⟨hk.1.1.2, hk.1.2⟩⟩)⟩
            have n2_ : Aside0 ((((((w44.setCell ⟨gb200, 0, none⟩ (.int .i64 (wrap64 (rd y190 0)))).setCell ⟨gb200, 1, none⟩ (.int .i64 0)).setCell ⟨gb200, 2, none⟩ (.int .i64 0)).setCell ⟨gb200, 3, none⟩ (.int .i64 0)).setCell ⟨gb200, 4, none⟩ (.slice none 0 0)).heap[gb186]? = some (.cells #[.int .i64 x187000_1, .int .i64 x187001_1, .int .i64 x187002_1, .int .i64 x187003_1, .slice none 0 0] 33 (0, 0))) := ⟨kP BK186⟩
            have n3_ : Aside0 ((((((w44.setCell ⟨gb200, 0, none⟩ (.int .i64 (wrap64 (rd y190 0)))).setCell ⟨gb200, 1, none⟩ (.int .i64 0)).setCell ⟨gb200, 2, none⟩ (.int .i64 0)).setCell ⟨gb200, 3, none⟩ (.int .i64 0)).setCell ⟨gb200, 4, none⟩ (.slice none 0 0)).heap[gb200]? = some (.cells #[.int .i64 (wrap64 (rd y190 0)), .int .i64 0, .int .i64 0, .int .i64 0, .slice none 0 0] 33 (0, 0))) := ⟨by (with_reducible repeat (first | apply bN | apply bD | apply bA)); refine blk_put (cs := #[.int .i64 (wrap64 (rd y190 0)), .int .i64 0, .int .i64 0, .int .i64 0, .slice none 0 0]) ?_ 4 _ rfl; (with_reducible repeat (first | apply bN | apply bD | apply bA)); refine blk_put (cs := #[.int .i64 (wrap64 (rd y190 0)), .int .i64 0, .int .i64 0, .int .i64 0, .slice none 0 0]) ?_ 3 _ rfl; (with_reducible repeat (first | apply bN | apply bD | apply bA)); refine blk_put (cs := #[.int .i64 (wrap64 (rd y190 0)), .int .i64 0, .int .i64 0, .int .i64 0, .slice none 0 0]) ?_ 2 _ rfl; (with_reducible repeat (first | apply bN | apply bD | apply bA)); refine blk_put (cs := #[.int .i64 (wrap64 (rd y190 0)), .int .i64 0, .int .i64 0, .int .i64 0, .slice none 0 0]) ?_ 1 _ rfl; (with_reducible repeat (first | apply bN | apply bD | apply bA)); refine blk_put (cs := #[.int .i64 0, .int .i64 0, .int .i64 0, .int .i64 0, .slice none 0 0]) ?_ 0 _ rfl; (with_reducible repeat (first | apply bN | apply bD | apply bA)); exact BK200.out⟩
            have n4_ : Aside0 (Below w.heap.size w (((((w44.setCell ⟨gb200, 0, none⟩ (.int .i64 (wrap64 (rd y190 0)))).setCell ⟨gb200, 1, none⟩ (.int .i64 0)).setCell ⟨gb200, 2, none⟩ (.int .i64 0)).setCell ⟨gb200, 3, none⟩ (.int .i64 0)).setCell ⟨gb200, 4, none⟩ (.slice none 0 0))) := ⟨bB⟩
            (try clear HO_4)
            (try clear HO_5)
            (try clear BK186)
            (try clear BK200)
            (try clear HB)
            generalize (((((w44.setCell ⟨gb200, 0, none⟩ (.int .i64 (wrap64 (rd y190 0)))).setCell ⟨gb200, 1, none⟩ (.int .i64 0)).setCell ⟨gb200, 2, none⟩ (.int .i64 0)).setCell ⟨gb200, 3, none⟩ (.int .i64 0)).setCell ⟨gb200, 4, none⟩ (.slice none 0 0)) = w48 at n0_ n1_ n2_ n3_ n4_ ⊢
            have HO_4 := n0_
            have HO_5 := n1_
            have BK186 := n2_
            have BK200 := n3_
            have HB := n4_
            clear n0_ n1_ n2_ n3_ n4_
            have n_ := aI (aM (Kd.R_drew HO_4.out)) (aI (aM (Kd.V_drew HO_5.out)) (aI (aM (blk_drew BK186.out)) (aI (aM (blk_drew BK200.out)) (aM (below_drew1 HB.out)))))
            clear HO_4 HO_5 BK186 BK200 HB
            obtain ⟨HO_4, HO_5, BK186, BK200, HB⟩ := n_
            have p201 : 0 ≤ (0 : Int) := (by omega)
            have q201 : 0 < (x4_1.length : Int) := dT
            obtain ⟨ad201, e201, hx201_0⟩ := Kd.at_int (Kd.R_reads' HO_4.out).2.2 0 p201 q201
            cases e201
            have qi201 : (0 < x4_1.length) = True := eq_true (by omega)
            (try rw [show ((0 : Int)).toNat = 0 from rfl] at hx201_0)
            (try rw [Addr.add_zero'] at hx201_0)
            replace p201 := eq_true p201
            replace q201 := eq_true q201
            have p202 : 0 ≤ (1 : Int) := (by omega)
            have q202 : 1 < (x4_1.length : Int) := dT
            obtain ⟨ad202, e202, hx202_0⟩ := Kd.at_int (Kd.R_reads' HO_4.out).2.2 1 p202 q202
            obtain rfl : ad201 = ad202 := (by injection e202)
            (try simp only [show (1 : Int).toNat = 1 from rfl, Nat.reduceMul, Nat.reduceEqDiff, Go.Addr.add, ↓reduceIte] at hx202_0)
            have qi202 : (1 < x4_1.length) = True := eq_true (by omega)
            (try rw [show ((1 : Int)).toNat = 1 from rfl] at hx202_0)
            replace p202 := eq_true p202
            replace q202 := eq_true q202
            have p203 : 0 ≤ (2 : Int) := (by omega)
            have q203 : 2 < (x4_1.length : Int) := dT
            obtain ⟨ad203, e203, hx203_0⟩ := Kd.at_int (Kd.R_reads' HO_4.out).2.2 2 p203 q203
            obtain rfl : ad201 = ad203 := (by injection e203)
            (try simp only [show (2 : Int).toNat = 2 from rfl, Nat.reduceMul, Nat.reduceEqDiff, Go.Addr.add, ↓reduceIte] at hx203_0)
            have qi203 : (2 < x4_1.length) = True := eq_true (by omega)
            (try rw [show ((2 : Int)).toNat = 2 from rfl] at hx203_0)
            replace p203 := eq_true p203
            replace q203 := eq_true q203
            refine start_ (n := 15) (S := fun w' => w'.cell? ad201 = some (.int .i64 (rd x4_1 0)) ∧ w'.cell? ⟨ad201.block, ad201.off + 1, none⟩ = some (.int .i64 (rd x4_1 1)) ∧ w'.cell? ⟨ad201.block, ad201.off + 2, none⟩ = some (.int .i64 (rd x4_1 2))) (ds := []) #[tF, tF, tF, tF, tF, tF, tF, tF, tF, tF, tF, tF, tF, tF, tF] (by kernel_rfl) rfl rfl ⟨hx201_0, hx202_0, hx203_0⟩ (fun hHeld => ?_); refine with_tabW impl_NodeOf.tab14 impl_NodeOf.bits14 (fun HT_ HW_ => ?_)
            generalize w48.drew = w49 at HO_4 HO_5 BK186 BK200 HB hx201_0 hx202_0 hx203_0 hHeld ⊢
            refine pY 0 44 #[tT, tF, tF, tF, tF, tF, tF, tF, tF, tF, tF, tF, tF, tF, tF] ?_
            refine pY 1 45 #[tT, tT, tF, tF, tF, tF, tF, tF, tF, tF, tF, tF, tF, tF, tF] ?_
            refine pY 3 47 #[tT, tT, tF, tT, tF, tF, tF, tF, tF, tF, tF, tF, tF, tF, tF] ?_
            refine pY 4 48 #[tT, tT, tF, tT, tT, tF, tF, tF, tF, tF, tF, tF, tF, tF, tF] ?_
            refine pY 6 50 #[tT, tT, tF, tT, tT, tF, tT, tF, tF, tF, tF, tF, tF, tF, tF] ?_
            refine pY 7 51 #[tT, tT, tF, tT, tT, tF, tT, tT, tF, tF, tF, tF, tF, tF, tF] ?_
            refine take_ (i := 2) (N := some 46) (v := ?_) (a' := ?_) #[tT, tT, tT, tT, tT, tF, tT, tT, tF, tF, tF, tF, tF, tF, tF] rfl rfl (take_ofW HT_.out HW_.out (by kernel_rfl)) (fun _ _ _ h => h) (Or.inl ⟨by rfl, ?_⟩) hHeld ?_ ?_
            rotate_left
            ·rintro w' ⟨s0, s1, s2⟩
             go_simp
             with_reducible rfl
            rotate_left
            ·simp only [Act.put, List.setIfInBounds_toArray, List.set_cons_zero, List.set_cons_succ, i64_w, i32_w]
             rfl
            refine pY 9 53 #[tT, tT, tT, tT, tT, tF, tT, tT, tF, tT, tF, tF, tF, tF, tF] ?_
            refine take_ (i := 5) (N := some 49) (v := ?_) (a' := ?_) #[tT, tT, tT, tT, tT, tT, tT, tT, tF, tT, tF, tF, tF, tF, tF] rfl rfl (take_ofW HT_.out HW_.out (by kernel_rfl)) (fun _ _ _ h => h) (Or.inl ⟨by rfl, ?_⟩) hHeld ?_ ?_
            rotate_left
            ·rintro w' ⟨s0, s1, s2⟩
             go_simp
             with_reducible rfl
            rotate_left
            ·simp only [Act.put, List.setIfInBounds_toArray, List.set_cons_zero, List.set_cons_succ, i64_w, i32_w]
             rfl
            refine take_ (i := 8) (N := some 52) (v := ?_) (a' := ?_) #[tT, tT, tT, tT, tT, tT, tT, tT, tT, tT, tF, tF, tF, tF, tF] rfl rfl (take_ofW HT_.out HW_.out (by kernel_rfl)) (fun _ _ _ h => h) (Or.inl ⟨by rfl, ?_⟩) hHeld ?_ ?_
            rotate_left
            ·rintro w' ⟨s0, s1, s2⟩
             go_simp
             with_reducible rfl
            rotate_left
            ·simp only [Act.put, List.setIfInBounds_toArray, List.set_cons_zero, List.set_cons_succ, i64_w, i32_w]
             rfl
            refine one_ (i := 10) (N := none) #[tT, tT, tT, tT, tT, tT, tT, tT, tT, tT, tT, tF, tF, tF, tF] rfl rfl (one_of HT_.out (by kernel_rfl)) (by decide) (fun K hK => ?_)
            have hs50 : w49.cell? ⟨gb200, 1, none⟩ = some (.int .i64 0) := (blk_cell BK200.out 1).trans rfl
            have hfs50 := blk_frozen BK200.out 1
            have hns50_0 := NB186_200.out
            have hms50_0 := NB200_186.out
            refine skip_ (w1 := ?_) (by rfl) rfl ?_ ?_
            rotate_left
            ·go_simp
             rfl
            refine hK.out _ _ ⟨((cell_far (p := ⟨gb200, _, none⟩) (by first | exact Kd.own_blk (Kd.R_ne HO_4.out BK200.out (by decide)) | (rw [add_block]; exact Kd.own_blk (Kd.R_ne HO_4.out BK200.out (by decide))) | (show (Addr.add _ _).block ≠ _; rw [add_block]; exact Kd.own_blk (Kd.R_ne HO_4.out BK200.out (by decide))) | (dsimp only; exact Kd.own_blk (Kd.R_ne HO_4.out BK200.out (by decide)))) _).trans (hHeld.1)), ((cell_far (p := ⟨gb200, _, none⟩) (by first | exact Kd.own_blk (Kd.R_ne HO_4.out BK200.out (by decide)) | (rw [add_block]; exact Kd.own_blk (Kd.R_ne HO_4.out BK200.out (by decide))) | (show (Addr.add _ _).block ≠ _; rw [add_block]; exact Kd.own_blk (Kd.R_ne HO_4.out BK200.out (by decide))) | (dsimp only; exact Kd.own_blk (Kd.R_ne HO_4.out BK200.out (by decide)))) _).trans (hHeld.2.1)), ((cell_far (p := ⟨gb200, _, none⟩) (by first | exact Kd.own_blk (Kd.R_ne HO_4.out BK200.out (by decide)) | (rw [add_block]; exact Kd.own_blk (Kd.R_ne HO_4.out BK200.out (by decide))) | (show (Addr.add _ _).block ≠ _; rw [add_block]; exact Kd.own_blk (Kd.R_ne HO_4.out BK200.out (by decide))) | (dsimp only; exact Kd.own_blk (Kd.R_ne HO_4.out BK200.out (by decide)))) _).trans (hHeld.2.2))⟩ (fun hHeld => ?_)
            clear hK K
            refine pY 11 54 #[tT, tT, tT, tT, tT, tT, tT, tT, tT, tT, tT, tT, tF, tF, tF] ?_
            refine one_ (i := 12) (N := none) #[tT, tT, tT, tT, tT, tT, tT, tT, tT, tT, tT, tT, tT, tF, tF] rfl rfl (one_of HT_.out (by kernel_rfl)) (by decide) (fun K hK => ?_)
            have hs51 : w49.cell? ⟨gb200, 2, none⟩ = some (.int .i64 0) := (blk_cell BK200.out 2).trans rfl
            have hfs51 := blk_frozen BK200.out 2
            have hns51_0 := NB186_200.out
            have hms51_0 := NB200_186.out
            refine skip_ (w1 := ?_) (by rfl) rfl ?_ ?_
            rotate_left
            ·go_simp
             rfl
            refine hK.out _ _ ⟨((cell_far (p := ⟨gb200, _, none⟩) (by first | exact Kd.own_blk (Kd.R_ne HO_4.out BK200.out (by decide)) | (rw [add_block]; exact Kd.own_blk (Kd.R_ne HO_4.out BK200.out (by decide))) | (show (Addr.add _ _).block ≠ _; rw [add_block]; exact Kd.own_blk (Kd.R_ne HO_4.out BK200.out (by decide))) | (dsimp only; exact Kd.own_blk (Kd.R_ne HO_4.out BK200.out (by decide)))) _).trans (hHeld.1)), ((cell_far (p := ⟨gb200, _, none⟩) (by first | exact Kd.own_blk (Kd.R_ne HO_4.out BK200.out (by decide)) | (rw [add_block]; exact Kd.own_blk (Kd.R_ne HO_4.out BK200.out (by decide))) | (show (Addr.add _ _).block ≠ _; rw [add_block]; exact Kd.own_blk (Kd.R_ne HO_4.out BK200.out (by decide))) | (dsimp only; exact Kd.own_blk (Kd.R_ne HO_4.out BK200.out (by decide)))) _).trans (hHeld.2.1)), ((cell_far (p := ⟨gb200, _, none⟩) (by first | exact Kd.own_blk (Kd.R_ne HO_4.out BK200.out (by decide)) | (rw [add_block]; exact Kd.own_blk (Kd.R_ne HO_4.out BK200.out (by decide))) | (show (Addr.add _ _).block ≠ _; rw [add_block]; exact Kd.own_blk (Kd.R_ne HO_4.out BK200.out (by decide))) | (dsimp only; exact Kd.own_blk (Kd.R_ne HO_4.out BK200.out (by decide)))) _).trans (hHeld.2.2))⟩ (fun hHeld => ?_)
            clear hK K
            refine pY 13 55 #[tT, tT, tT, tT, tT, tT, tT, tT, tT, tT, tT, tT, tT, tT, tF] ?_
            refine one_ (i := 14) (N := none) #[tT, tT, tT, tT, tT, tT, tT, tT, tT, tT, tT, tT, tT, tT, tT] rfl rfl (one_of HT_.out (by kernel_rfl)) (by decide) (fun K hK => ?_)
            have hs52 : w49.cell? ⟨gb200, 3, none⟩ = some (.int .i64 0) := (blk_cell BK200.out 3).trans rfl
            have hfs52 := blk_frozen BK200.out 3
            have hns52_0 := NB186_200.out
            have hms52_0 := NB200_186.out
            refine skip_ (w1 := ?_) (by rfl) rfl ?_ ?_
            rotate_left
            ·go_simp
             rfl
            refine hK.out _ _ ⟨((cell_far (p := ⟨gb200, _, none⟩) (by first | exact Kd.own_blk (Kd.R_ne HO_4.out BK200.out (by decide)) | (rw [add_block]; exact Kd.own_blk (Kd.R_ne HO_4.out BK200.out (by decide))) | (show (Addr.add _ _).block ≠ _; rw [add_block]; exact Kd.own_blk (Kd.R_ne HO_4.out BK200.out (by decide))) | (dsimp only; exact Kd.own_blk (Kd.R_ne HO_4.out BK200.out (by decide)))) _).trans (hHeld.1)), ((cell_far (p := ⟨gb200, _, none⟩) (by first | exact Kd.own_blk (Kd.R_ne HO_4.out BK200.out (by decide)) | (rw [add_block]; exact Kd.own_blk (Kd.R_ne HO_4.out BK200.out (by decide))) | (show (Addr.add _ _).block ≠ _; rw [add_block]; exact Kd.own_blk (Kd.R_ne HO_4.out BK200.out (by decide))) | (dsimp only; exact Kd.own_blk (Kd.R_ne HO_4.out BK200.out (by decide)))) _).trans (hHeld.2.1)), ((cell_far (p := ⟨gb200, _, none⟩) (by first | exact Kd.own_blk (Kd.R_ne HO_4.out BK200.out (by decide)) | (rw [add_block]; exact Kd.own_blk (Kd.R_ne HO_4.out BK200.out (by decide))) | (show (Addr.add _ _).block ≠ _; rw [add_block]; exact Kd.own_blk (Kd.R_ne HO_4.out BK200.out (by decide))) | (dsimp only; exact Kd.own_blk (Kd.R_ne HO_4.out BK200.out (by decide)))) _).trans (hHeld.2.2))⟩ (fun hHeld => ?_)
            clear hK K
            refine done_ (done_of HT_.out (by kernel_rfl)) ?_
            have n0_ : Aside0 (Kd.R (Kd.int .i64) 3 (((w49.setCell ⟨gb200, 1, none⟩ (.int .i64 (rd x4_1 0))).setCell ⟨gb200, 2, none⟩ (.int .i64 (rd x4_1 1))).setCell ⟨gb200, 3, none⟩ (.int .i64 (rd x4_1 2))) w.heap.size (fun _ => True) (.slice (some ad201) x4_1.length co47) x4_1) := ⟨rP (Kd.R_mono (Kd.R_far (p := ⟨gb200, 3, none⟩) (Kd.R_far (p := ⟨gb200, 2, none⟩) (Kd.R_far (p := ⟨gb200, 1, none⟩) (Kd.R_types HO_4.out BK200.out (by decide)) (fun _ hk => hk.2) (.int .i64 (rd x4_1 0))) (fun _ hk => hk.2) (.int .i64 (rd x4_1 1))) (fun _ hk => hk.2) (.int .i64 (rd x4_1 2))) (fun _ hk => trivial))⟩
            have n1_ : Aside0 (Kd.V (Kd.int .u8) 5 (((w49.setCell ⟨gb200, 1, none⟩ (.int .i64 (rd x4_1 0))).setCell ⟨gb200, 2, none⟩ (.int .i64 (rd x4_1 1))).setCell ⟨gb200, 3, none⟩ (.int .i64 (rd x4_1 2))) w.heap.size (fun k_ => some k_ ≠ (.slice (some ad201) x4_1.length co47 : Value).ownBlock ∧ k_ ≠ gb186 ∧ k_ ≠ gb200) (.slice (some ad199) y190.length co43) y190) := ⟨by (with_reducible repeat (first | apply Kd.V_alloc | apply Kd.V_drewN | apply Kd.V_drew)); exact Kd.V_mono (Kd.V_far (p := ⟨gb200, 3, none⟩) (Kd.V_far (p := ⟨gb200, 2, none⟩) (Kd.V_far (p := ⟨gb200, 1, none⟩) (Kd.V_mono HO_5.out (fun k_ hk => (⟨hk, hk.2.2⟩ : _ ∧ k_ ≠ gb200))) (fun _ hk => hk.2) (.int .i64 (rd x4_1 0))) (fun _ hk => hk.2) (.int .i64 (rd x4_1 1))) (fun _ hk => hk.2) (.int .i64 (rd x4_1 2))) (fun _ hk => ⟨hk.1.1, ⟨hk.1.2.1, hk.1.2.2⟩⟩)⟩
            have n2_ : Aside0 ((((w49.setCell ⟨gb200, 1, none⟩ (.int .i64 (rd x4_1 0))).setCell ⟨gb200, 2, none⟩ (.int .i64 (rd x4_1 1))).setCell ⟨gb200, 3, none⟩ (.int .i64 (rd x4_1 2))).heap[gb186]? = some (.cells #[.int .i64 x187000_1, .int .i64 x187001_1, .int .i64 x187002_1, .int .i64 x187003_1, .slice none 0 0] 33 (0, 0))) := ⟨kP BK186⟩
            have n3_ : Aside0 ((((w49.setCell ⟨gb200, 1, none⟩ (.int .i64 (rd x4_1 0))).setCell ⟨gb200, 2, none⟩ (.int .i64 (rd x4_1 1))).setCell ⟨gb200, 3, none⟩ (.int .i64 (rd x4_1 2))).heap[gb200]? = some (.cells #[.int .i64 (wrap64 (rd y190 0)), .int .i64 (rd x4_1 0), .int .i64 (rd x4_1 1), .int .i64 (rd x4_1 2), .slice none 0 0] 33 (0, 0))) := ⟨by (with_reducible repeat (first | apply bN | apply bD | apply bA)); refine blk_put (cs := #[.int .i64 (wrap64 (rd y190 0)), .int .i64 (rd x4_1 0), .int .i64 (rd x4_1 1), .int .i64 0, .slice none 0 0]) ?_ 3 _ rfl; (with_reducible repeat (first | apply bN | apply bD | apply bA)); refine blk_put (cs := #[.int .i64 (wrap64 (rd y190 0)), .int .i64 (rd x4_1 0), .int .i64 0, .int .i64 0, .slice none 0 0]) ?_ 2 _ rfl; (with_reducible repeat (first | apply bN | apply bD | apply bA)); refine blk_put (cs := #[.int .i64 (wrap64 (rd y190 0)), .int .i64 0, .int .i64 0, .int .i64 0, .slice none 0 0]) ?_ 1 _ rfl; (with_reducible repeat (first | apply bN | apply bD | apply bA)); exact BK200.out⟩
            have n4_ : Aside0 (Below w.heap.size w (((w49.setCell ⟨gb200, 1, none⟩ (.int .i64 (rd x4_1 0))).setCell ⟨gb200, 2, none⟩ (.int .i64 (rd x4_1 1))).setCell ⟨gb200, 3, none⟩ (.int .i64 (rd x4_1 2)))) := ⟨bB⟩
            (try clear HO_4)
            (try clear HO_5)
            (try clear BK186)
            (try clear BK200)
            (try clear HB)
            generalize (((w49.setCell ⟨gb200, 1, none⟩ (.int .i64 (rd x4_1 0))).setCell ⟨gb200, 2, none⟩ (.int .i64 (rd x4_1 1))).setCell ⟨gb200, 3, none⟩ (.int .i64 (rd x4_1 2))) = w53 at n0_ n1_ n2_ n3_ n4_ ⊢
            have HO_4 := n0_
            have HO_5 := n1_
            have BK186 := n2_
            have BK200 := n3_
            have HB := n4_
            clear n0_ n1_ n2_ n3_ n4_
            have q54 : (3 : Int) ≤ ((x4_1.length : Int) : Int) := dT
            obtain ⟨i054, hi054, _, hsz54, _⟩ := info_parts info3
            have hcut54 := cut_from (P := Try.prog) 31 3 .i64 Try.underlying31 hi054 1 hsz54 (some ad201) x4_1.length co47 3 (by omega) q54
            have hr54 := Kd.Q_drop (k := (3 : Int).toNat) (Kd.Q_of_R HO_4.out) (by omega)
            obtain ⟨A54, hA54⟩ : ∃ A1, A1 = (if co47 = (3 : Int).toNat then (some ad201) else ((some ad201) : Option Addr).map (·.add ((3 : Int).toNat * 1))) := ⟨_, rfl⟩
            obtain ⟨c54, hc54⟩ : ∃ c1, c1 = co47 - (3 : Int).toNat := ⟨_, rfl⟩
            have hy54 : y204.length = x4_1.length - (3 : Int).toNat := (by rw [Ny204.out, List.length_drop])
            rw [← Ny204.out] at hr54
            rw [← hy54, ← hA54, ← hc54] at hcut54
            replace hr54 : Kd.Q (Kd.int .i64) 3 w53 w.heap.size (fun _ => True) (.slice A54 y204.length c54) y204 := (by rw [hA54, hc54, hy54]; exact hr54)
            have HE54 : Aside0 ((Value.slice A54 y204.length c54).ownBlock = (.slice (some ad201) x4_1.length co47 : Value).ownBlock) := ⟨by rw [hA54]; split <;> (cases ((some ad201) : Option Addr) <;> rfl)⟩
            clear hy54 hi054 hsz54 HO_4 hA54 hc54
            have HO206 := aM hr54
            clear hr54
            replace q54 := eq_true q54
            have n_ := aM (Kd.V_mono (ok' := fun k_ => (some k_ ≠ (.slice A54 y204.length c54 : Value).ownBlock ∧ (k_ ≠ gb186 ∧ k_ ≠ gb200))) HO_5.out (fun k_ hk => ⟨(by rw [HE54.out]; exact hk.1), ⟨hk.2.1, hk.2.2⟩⟩))
            clear HO_5
            have HO_5 := n_
            clear n_
            have hcz55_0 : w53.cell? ⟨gb200, 0, none⟩ = some (.int .i64 (wrap64 (rd y190 0))) := (blk_cell BK200.out 0).trans rfl
            have hcz55_1 := cZ1 BK200
            have hcz55_2 : w53.cell? ⟨gb200, 2, none⟩ = some (.int .i64 (rd x4_1 1)) := (blk_cell BK200.out 2).trans rfl
            have hcz55_3 : w53.cell? ⟨gb200, 3, none⟩ = some (.int .i64 (rd x4_1 2)) := (blk_cell BK200.out 3).trans rfl
            have hcz55_4 : w53.cell? ⟨gb200, 4, none⟩ = some (.slice none 0 0) := (blk_cell BK200.out 4).trans rfl
            have hfz55_0 := fZ BK200 0
            have hfz55_1 := fZ BK200 1
            have hfz55_2 := fZ BK200 2
            have hfz55_3 := fZ BK200 3
            have hfz55_4 := fZ BK200 4
            try go_wp2_with (first | ((with_reducible refine gate_callee (f := 18) rfl ?_); refine gL (some 60) Try.func18 #[.agg #[.int .i64 (wrap64 (rd y190 0)), .int .i64 (rd x4_1 0), .int .i64 (rd x4_1 1), .int .i64 (rd x4_1 2), .slice A54 y204.length c54]] ?_; (with_reducible refine (impl_NodeText.calls k1 (wrap64 (rd y190 0)) (rd x4_1 0) (rd x4_1 1) (rd x4_1 2) _ _ y204 t207 _ ?side1 ?side2 A25.out).mono ?_); (case side1 => refine (Kd.Q_reads' (e := 3) (base := w.heap.size) (ok := fun k_ => True) (n := y204.length) (c := c54) ?_).2.2; exact (by (with_reducible repeat (first | apply Kd.Q_alloc | apply Kd.Q_drewN | apply Kd.Q_drew)); exact (Kd.Q_mono (Kd.Q_far (p := ⟨gb200, 4, none⟩) (Kd.Q_types HO206.out BK200.out (by decide)) (fun _ hk => hk.2) (.slice A54 y204.length c54)) (fun _ h_ => h_.1)))); (case side2 => exact (Kd.Q_reads' HO206.out).2.1); rintro e w56 ⟨rfl, hb⟩; refine ⟨_, rfl, ?_⟩; have n_ := aI (aM (Kd.Q_below (by (with_reducible repeat (first | apply Kd.Q_alloc | apply Kd.Q_drewN | apply Kd.Q_drew)); exact (Kd.Q_mono (Kd.Q_far (p := ⟨gb200, 4, none⟩) (Kd.Q_types HO206.out BK200.out (by decide)) (fun _ hk => hk.2) (.slice A54 y204.length c54)) (fun _ h_ => h_.1))) hb)) (aI (aM (Kd.V_below (by (with_reducible repeat (first | apply Kd.V_alloc | apply Kd.V_drewN | apply Kd.V_drew)); exact (Kd.V_mono (Kd.V_far (p := ⟨gb200, 4, none⟩) (Kd.V_mono HO_5.out (fun k_ hk => (⟨hk, hk.2.2⟩ : _ ∧ k_ ≠ gb200))) (fun _ hk => hk.2) (.slice A54 y204.length c54)) (fun _ h_ => h_.1))) hb)) (aI (kB BK186 hb) (aI (aM (blk_below (g := gb200) (o := .cells #[.int .i64 (wrap64 (rd y190 0)), .int .i64 (rd x4_1 0), .int .i64 (rd x4_1 1), .int .i64 (rd x4_1 2), .slice A54 y204.length c54] 33 (0, 0)) (by (with_reducible repeat (first | apply bN | apply bD | apply bA)); refine blk_put (cs := #[.int .i64 (wrap64 (rd y190 0)), .int .i64 (rd x4_1 0), .int .i64 (rd x4_1 1), .int .i64 (rd x4_1 2), .slice none 0 0]) ?_ 4 _ rfl; (with_reducible repeat (first | apply bN | apply bD | apply bA)); exact BK200.out) hb)) (sB HB hb)))); clear HO206 HO_5 BK186 BK200 HB; obtain ⟨HO206, HO_5, BK186, BK200, HB⟩ := n_; (try clear hb); have hcz57_0 := cZ0 BK186; have hcz57_1 := cZ1 BK186; have hcz57_2 : w56.cell? ⟨gb186, 2, none⟩ = some (.int .i64 x187002_1) := (blk_cell BK186.out 2).trans rfl; have hcz57_3 : w56.cell? ⟨gb186, 3, none⟩ = some (.int .i64 x187003_1) := (blk_cell BK186.out 3).trans rfl; have hcz57_4 : w56.cell? ⟨gb186, 4, none⟩ = some (.slice none 0 0) := (blk_cell BK186.out 4).trans rfl; have hfz57_0 := fZ BK186 0; have hfz57_1 := fZ BK186 1; have hfz57_2 := fZ BK186 2; have hfz57_3 := fZ BK186 3; have hfz57_4 := fZ BK186 4))
            refine bodyPost_ret (results_ct rfl _ _ gb186 33 #[.int .i64 0, .int .i64 0, .int .i64 0, .int .i64 0, .slice none 0 0] (0, 0) _ rfl (by (with_reducible repeat (first | apply bN | apply bD | apply bA)); refine blk_put (cs := #[.int .i64 0, .int .i64 0, .int .i64 0, .int .i64 0, .slice none 0 0]) ?_ 4 _ rfl; (with_reducible repeat (first | apply bN | apply bD | apply bA)); refine blk_put (cs := #[.int .i64 0, .int .i64 0, .int .i64 0, .int .i64 x187003_1, .slice none 0 0]) ?_ 3 _ rfl; (with_reducible repeat (first | apply bN | apply bD | apply bA)); refine blk_put (cs := #[.int .i64 0, .int .i64 0, .int .i64 x187002_1, .int .i64 x187003_1, .slice none 0 0]) ?_ 2 _ rfl; (with_reducible repeat (first | apply bN | apply bD | apply bA)); refine blk_put (cs := #[.int .i64 0, .int .i64 x187001_1, .int .i64 x187002_1, .int .i64 x187003_1, .slice none 0 0]) ?_ 1 _ rfl; (with_reducible repeat (first | apply bN | apply bD | apply bA)); refine blk_put (cs := #[.int .i64 x187000_1, .int .i64 x187001_1, .int .i64 x187002_1, .int .i64 x187003_1, .slice none 0 0]) ?_ 0 _ rfl; (with_reducible repeat (first | apply bN | apply bD | apply bA)); exact BK186.out) Try.underlying33 rfl (by kernel_rfl)) rfl ?_
            exact ⟨_, eW, Kd.Q_of_R (by first | exact Kd.R_nil _ _ _ _ _ | exact Kd.N_nil _ _ _ _ _ | exact Kd.V_nil _ _ _ _ _ | exact Kd.Q_nil _ _ _ _ _ | exact Kd.S_nil _ _ _ _ _), bB⟩
          ·rw [if_neg c24] at H
           exact absurd H (by simp)
         ·rw [if_neg c23] at H
          exact absurd H (by simp)
        ·rw [if_neg c22] at H
         exact absurd H (by simp)
       ·rw [if_neg c21] at H
        exact absurd H (by simp)
      ·rw [if_neg c20] at H
       have c20b0 : decide (3 ≤ (x4_1.length : Int)) = false := decide_eq_false c20
       have c20b1 : decide (3 ≤ x4_1.length) = false := decide_eq_false (by omega)
       clear c20
       replace H := Option.bind_eq_some_iff.mp H
       obtain ⟨t208, A580, H⟩ := H
       try dsimp only at H
       have A58 := aM A580
       clear A580
       by_cases c59 : t208.toList = a0.toList
       ·rw [if_pos c59] at H
        have c59b0 : (t208.toList == a0.toList) = true := beq_iff_eq.mpr c59
        have c59b1 : (t208.toList != a0.toList) = false := bne_eq_false_iff_eq.mpr c59
        clear c59
        simp only [Option.some.injEq, Prod.mk.injEq] at H
        obtain ⟨rfl, rfl, rfl, rfl, rfl, rfl⟩ := H
        obtain ⟨Ao60, co60, eo60⟩ := Kd.V_slice HO_5.out
        subst eo60
        have p199 : 0 ≤ (0 : Int) := (by omega)
        have q199 : 0 < (y190.length : Int) := dT
        obtain ⟨ad199, e199, hx199_0⟩ := Kd.at_int (Kd.V_reads' HO_5.out).2.2 0 p199 q199
        cases e199
        have qi199 : (0 < y190.length) = True := eq_true (by omega)
        (try rw [show ((0 : Int)).toNat = 0 from rfl] at hx199_0)
        (try rw [Addr.add_zero'] at hx199_0)
        replace p199 := eq_true p199
        replace q199 := eq_true q199
        go_wp2_with (first | ((with_reducible refine gate_dst (N := 10) rfl ?_); refine bE 10 #[.int .i64 0, .int .i64 0, .int .i64 0, .int .i64 0, .slice none 0 0] 33 ?_; intro gb200 hg w61 hbox hb; have n_ := aI (rB HO_4 hb) (aI (aM (Kd.V_below (Kd.V_elderB (by (with_reducible repeat (first | apply Kd.V_alloc | apply Kd.V_drewN | apply Kd.V_drew)); exact HO_5.out) gb200 (Nat.le_of_eq hg.symm)) hb)) (aI (kB BK186 hb) (aI (sB HB hb) (aI (aM hbox) (aI (gE HB hg) (aI (gE HB hg) (aI (nL BK186 hg) (nG BK186 hg)))))))); clear HO_4 HO_5 BK186 HB; obtain ⟨HO_4, HO_5, BK186, HB, BK200, GW200, GE200, NB186_200, NB200_186⟩ := n_; (try clear hb hbox hg); have hnb62 := NB200_186.out; have hnc62 := NB186_200.out; have hcz63_0 := cZ0 BK200; have hcz63_1 := cZ1 BK200; have hcz63_2 : w61.cell? ⟨gb200, 2, none⟩ = some (.int .i64 0) := (blk_cell BK200.out 2).trans rfl; have hcz63_3 : w61.cell? ⟨gb200, 3, none⟩ = some (.int .i64 0) := (blk_cell BK200.out 3).trans rfl; have hcz63_4 : w61.cell? ⟨gb200, 4, none⟩ = some (.slice none 0 0) := (blk_cell BK200.out 4).trans rfl; have hfz63_0 := fZ BK200 0; have hfz63_1 := fZ BK200 1; have hfz63_2 := fZ BK200 2; have hfz63_3 := fZ BK200 3; have hfz63_4 := fZ BK200 4; obtain ⟨Ao64, co64, eo64⟩ := Kd.R_slice HO_4.out; subst eo64) | ((with_reducible refine gate_callee (f := 18) rfl ?_); refine gL (some 60) Try.func18 #[.agg #[.int .i64 (wrap64 (rd y190 0)), .int .i64 0, .int .i64 0, .int .i64 0, .slice none 0 0]] ?_; (refine (impl_NodeText.calls k1 (wrap64 (rd y190 0)) 0 0 0 _ _ ([] : List Int) t208 _ ?side1 ?side2 A58.out).mono ?_); (case side1 => exact Kd.C_nil _ _); (case side2 => exact Nat.le_refl _); rintro e w65 ⟨rfl, hb⟩; refine ⟨_, rfl, ?_⟩; have n_ := aI (aM (Kd.R_below (rP (Kd.R_mono (Kd.R_far (p := ⟨gb200, 4, none⟩) (Kd.R_far (p := ⟨gb200, 3, none⟩) (Kd.R_far (p := ⟨gb200, 2, none⟩) (Kd.R_far (p := ⟨gb200, 1, none⟩) (Kd.R_far (p := ⟨gb200, 0, none⟩) (Kd.R_types HO_4.out BK200.out (by decide)) (fun _ hk => hk.2) (.int .i64 (wrap64 (rd y190 0)))) (fun _ hk => hk.2) (.int .i64 0)) (fun _ hk => hk.2) (.int .i64 0)) (fun _ hk => hk.2) (.int .i64 0)) (fun _ hk => hk.2) (.slice none 0 0)) (fun _ h_ => h_.1))) hb)) (aI (aM (Kd.V_below (by (with_reducible repeat (first | apply Kd.V_alloc | apply Kd.V_drewN | apply Kd.V_drew)); exact (Kd.V_mono (Kd.V_far (p := ⟨gb200, 4, none⟩) (Kd.V_far (p := ⟨gb200, 3, none⟩) (Kd.V_far (p := ⟨gb200, 2, none⟩) (Kd.V_far (p := ⟨gb200, 1, none⟩) (Kd.V_far (p := ⟨gb200, 0, none⟩) (Kd.V_mono HO_5.out (fun k_ hk => (⟨hk, hk.2⟩ : _ ∧ k_ ≠ gb200))) (fun _ hk => hk.2) (.int .i64 (wrap64 (rd y190 0)))) (fun _ hk => hk.2) (.int .i64 0)) (fun _ hk => hk.2) (.int .i64 0)) (fun _ hk => hk.2) (.int .i64 0)) (fun _ hk => hk.2) (.slice none 0 0)) (fun _ h_ => h_.1))) hb)) (aI (kB BK186 hb) (aI (aM (blk_below (g := gb200) (o := .cells #[.int .i64 (wrap64 (rd y190 0)), .int .i64 0, .int .i64 0, .int .i64 0, .slice none 0 0] 33 (0, 0)) (by (with_reducible repeat (first | apply bN | apply bD | apply bA)); refine blk_put (cs := #[.int .i64 (wrap64 (rd y190 0)), .int .i64 0, .int .i64 0, .int .i64 0, .slice none 0 0]) ?_ 4 _ rfl; (with_reducible repeat (first | apply bN | apply bD | apply bA)); refine blk_put (cs := #[.int .i64 (wrap64 (rd y190 0)), .int .i64 0, .int .i64 0, .int .i64 0, .slice none 0 0]) ?_ 3 _ rfl; (with_reducible repeat (first | apply bN | apply bD | apply bA)); refine blk_put (cs := #[.int .i64 (wrap64 (rd y190 0)), .int .i64 0, .int .i64 0, .int .i64 0, .slice none 0 0]) ?_ 2 _ rfl; (with_reducible repeat (first | apply bN | apply bD | apply bA)); refine blk_put (cs := #[.int .i64 (wrap64 (rd y190 0)), .int .i64 0, .int .i64 0, .int .i64 0, .slice none 0 0]) ?_ 1 _ rfl; (with_reducible repeat (first | apply bN | apply bD | apply bA)); refine blk_put (cs := #[.int .i64 0, .int .i64 0, .int .i64 0, .int .i64 0, .slice none 0 0]) ?_ 0 _ rfl; (with_reducible repeat (first | apply bN | apply bD | apply bA)); exact BK200.out) hb)) (sB HB hb)))); clear HO_4 HO_5 BK186 BK200 HB; obtain ⟨HO_4, HO_5, BK186, BK200, HB⟩ := n_; (try clear hb); have hcz66_0 : w65.cell? ⟨gb200, 0, none⟩ = some (.int .i64 (wrap64 (rd y190 0))) := (blk_cell BK200.out 0).trans rfl; have hcz66_1 := cZ1 BK200; have hcz66_2 : w65.cell? ⟨gb200, 2, none⟩ = some (.int .i64 0) := (blk_cell BK200.out 2).trans rfl; have hcz66_3 : w65.cell? ⟨gb200, 3, none⟩ = some (.int .i64 0) := (blk_cell BK200.out 3).trans rfl; have hcz66_4 : w65.cell? ⟨gb200, 4, none⟩ = some (.slice none 0 0) := (blk_cell BK200.out 4).trans rfl; have hfz66_0 := fZ BK200 0; have hfz66_1 := fZ BK200 1; have hfz66_2 := fZ BK200 2; have hfz66_3 := fZ BK200 3; have hfz66_4 := fZ BK200 4; have hcz67_0 := cZ0 BK186; have hcz67_1 := cZ1 BK186; have hcz67_2 : w65.cell? ⟨gb186, 2, none⟩ = some (.int .i64 x187002_1) := (blk_cell BK186.out 2).trans rfl; have hcz67_3 : w65.cell? ⟨gb186, 3, none⟩ = some (.int .i64 x187003_1) := (blk_cell BK186.out 3).trans rfl; have hcz67_4 : w65.cell? ⟨gb186, 4, none⟩ = some (.slice none 0 0) := (blk_cell BK186.out 4).trans rfl; have hfz67_0 := fZ BK186 0; have hfz67_1 := fZ BK186 1; have hfz67_2 := fZ BK186 2; have hfz67_3 := fZ BK186 3; have hfz67_4 := fZ BK186 4))
        refine bodyPost_ret (results_ct rfl _ _ gb186 33 #[.int .i64 (wrap64 (rd y190 0)), .int .i64 0, .int .i64 0, .int .i64 0, .slice none 0 0] (0, 0) _ rfl (by (with_reducible repeat (first | apply bN | apply bD | apply bA)); refine blk_put (cs := #[.int .i64 (wrap64 (rd y190 0)), .int .i64 0, .int .i64 0, .int .i64 0, .slice none 0 0]) ?_ 4 _ rfl; (with_reducible repeat (first | apply bN | apply bD | apply bA)); refine blk_put (cs := #[.int .i64 (wrap64 (rd y190 0)), .int .i64 0, .int .i64 0, .int .i64 x187003_1, .slice none 0 0]) ?_ 3 _ rfl; (with_reducible repeat (first | apply bN | apply bD | apply bA)); refine blk_put (cs := #[.int .i64 (wrap64 (rd y190 0)), .int .i64 0, .int .i64 x187002_1, .int .i64 x187003_1, .slice none 0 0]) ?_ 2 _ rfl; (with_reducible repeat (first | apply bN | apply bD | apply bA)); refine blk_put (cs := #[.int .i64 (wrap64 (rd y190 0)), .int .i64 x187001_1, .int .i64 x187002_1, .int .i64 x187003_1, .slice none 0 0]) ?_ 1 _ rfl; (with_reducible repeat (first | apply bN | apply bD | apply bA)); refine blk_put (cs := #[.int .i64 x187000_1, .int .i64 x187001_1, .int .i64 x187002_1, .int .i64 x187003_1, .slice none 0 0]) ?_ 0 _ rfl; (with_reducible repeat (first | apply bN | apply bD | apply bA)); exact BK186.out) Try.underlying33 rfl (by kernel_rfl)) rfl ?_
        exact ⟨_, eW, Kd.Q_of_R (by first | exact Kd.R_nil _ _ _ _ _ | exact Kd.N_nil _ _ _ _ _ | exact Kd.V_nil _ _ _ _ _ | exact Kd.Q_nil _ _ _ _ _ | exact Kd.S_nil _ _ _ _ _), bB⟩
       ·rw [if_neg c59] at H
        have c59b0 : (t208.toList == a0.toList) = false := beq_eq_false_iff_ne.mpr c59
        have c59b1 : (t208.toList != a0.toList) = true := bne_iff_ne.mpr c59
        simp only [Option.some.injEq, Prod.mk.injEq] at H
        obtain ⟨rfl, rfl, rfl, rfl, rfl, rfl⟩ := H
        obtain ⟨Ao68, co68, eo68⟩ := Kd.V_slice HO_5.out
        subst eo68
        have p199 : 0 ≤ (0 : Int) := (by omega)
        have q199 : 0 < (y190.length : Int) := dT
        obtain ⟨ad199, e199, hx199_0⟩ := Kd.at_int (Kd.V_reads' HO_5.out).2.2 0 p199 q199
        cases e199
        have qi199 : (0 < y190.length) = True := eq_true (by omega)
        (try rw [show ((0 : Int)).toNat = 0 from rfl] at hx199_0)
        (try rw [Addr.add_zero'] at hx199_0)
        replace p199 := eq_true p199
        replace q199 := eq_true q199
        go_wp2_with (first | ((with_reducible refine gate_dst (N := 10) rfl ?_); refine bE 10 #[.int .i64 0, .int .i64 0, .int .i64 0, .int .i64 0, .slice none 0 0] 33 ?_; intro gb200 hg w69 hbox hb; have n_ := aI (rB HO_4 hb) (aI (aM (Kd.V_below (Kd.V_elderB (by (with_reducible repeat (first | apply Kd.V_alloc | apply Kd.V_drewN | apply Kd.V_drew)); exact HO_5.out) gb200 (Nat.le_of_eq hg.symm)) hb)) (aI (kB BK186 hb) (aI (sB HB hb) (aI (aM hbox) (aI (gE HB hg) (aI (gE HB hg) (aI (nL BK186 hg) (nG BK186 hg)))))))); clear HO_4 HO_5 BK186 HB; obtain ⟨HO_4, HO_5, BK186, HB, BK200, GW200, GE200, NB186_200, NB200_186⟩ := n_; (try clear hb hbox hg); have hnb70 := NB200_186.out; have hnc70 := NB186_200.out; have hcz71_0 := cZ0 BK200; have hcz71_1 := cZ1 BK200; have hcz71_2 : w69.cell? ⟨gb200, 2, none⟩ = some (.int .i64 0) := (blk_cell BK200.out 2).trans rfl; have hcz71_3 : w69.cell? ⟨gb200, 3, none⟩ = some (.int .i64 0) := (blk_cell BK200.out 3).trans rfl; have hcz71_4 : w69.cell? ⟨gb200, 4, none⟩ = some (.slice none 0 0) := (blk_cell BK200.out 4).trans rfl; have hfz71_0 := fZ BK200 0; have hfz71_1 := fZ BK200 1; have hfz71_2 := fZ BK200 2; have hfz71_3 := fZ BK200 3; have hfz71_4 := fZ BK200 4; obtain ⟨Ao72, co72, eo72⟩ := Kd.R_slice HO_4.out; subst eo72) | ((with_reducible refine gate_callee (f := 18) rfl ?_); refine gL (some 60) Try.func18 #[.agg #[.int .i64 (wrap64 (rd y190 0)), .int .i64 0, .int .i64 0, .int .i64 0, .slice none 0 0]] ?_; (refine (impl_NodeText.calls k1 (wrap64 (rd y190 0)) 0 0 0 _ _ ([] : List Int) t208 _ ?side1 ?side2 A58.out).mono ?_); (case side1 => exact Kd.C_nil _ _); (case side2 => exact Nat.le_refl _); rintro e w73 ⟨rfl, hb⟩; refine ⟨_, rfl, ?_⟩; have n_ := aI (aM (Kd.R_below (rP (Kd.R_mono (Kd.R_far (p := ⟨gb200, 4, none⟩) (Kd.R_far (p := ⟨gb200, 3, none⟩) (Kd.R_far (p := ⟨gb200, 2, none⟩) (Kd.R_far (p := ⟨gb200, 1, none⟩) (Kd.R_far (p := ⟨gb200, 0, none⟩) (Kd.R_types HO_4.out BK200.out (by decide)) (fun _ hk => hk.2) (.int .i64 (wrap64 (rd y190 0)))) (fun _ hk => hk.2) (.int .i64 0)) (fun _ hk => hk.2) (.int .i64 0)) (fun _ hk => hk.2) (.int .i64 0)) (fun _ hk => hk.2) (.slice none 0 0)) (fun _ h_ => h_.1))) hb)) (aI (aM (Kd.V_below (by (with_reducible repeat (first | apply Kd.V_alloc | apply Kd.V_drewN | apply Kd.V_drew)); exact (Kd.V_mono (Kd.V_far (p := ⟨gb200, 4, none⟩) (Kd.V_far (p := ⟨gb200, 3, none⟩) (Kd.V_far (p := ⟨gb200, 2, none⟩) (Kd.V_far (p := ⟨gb200, 1, none⟩) (Kd.V_far (p := ⟨gb200, 0, none⟩) (Kd.V_mono HO_5.out (fun k_ hk => (⟨hk, hk.2⟩ : _ ∧ k_ ≠ gb200))) (fun _ hk => hk.2) (.int .i64 (wrap64 (rd y190 0)))) (fun _ hk => hk.2) (.int .i64 0)) (fun _ hk => hk.2) (.int .i64 0)) (fun _ hk => hk.2) (.int .i64 0)) (fun _ hk => hk.2) (.slice none 0 0)) (fun _ h_ => h_.1))) hb)) (aI (kB BK186 hb) (aI (aM (blk_below (g := gb200) (o := .cells #[.int .i64 (wrap64 (rd y190 0)), .int .i64 0, .int .i64 0, .int .i64 0, .slice none 0 0] 33 (0, 0)) (by (with_reducible repeat (first | apply bN | apply bD | apply bA)); refine blk_put (cs := #[.int .i64 (wrap64 (rd y190 0)), .int .i64 0, .int .i64 0, .int .i64 0, .slice none 0 0]) ?_ 4 _ rfl; (with_reducible repeat (first | apply bN | apply bD | apply bA)); refine blk_put (cs := #[.int .i64 (wrap64 (rd y190 0)), .int .i64 0, .int .i64 0, .int .i64 0, .slice none 0 0]) ?_ 3 _ rfl; (with_reducible repeat (first | apply bN | apply bD | apply bA)); refine blk_put (cs := #[.int .i64 (wrap64 (rd y190 0)), .int .i64 0, .int .i64 0, .int .i64 0, .slice none 0 0]) ?_ 2 _ rfl; (with_reducible repeat (first | apply bN | apply bD | apply bA)); refine blk_put (cs := #[.int .i64 (wrap64 (rd y190 0)), .int .i64 0, .int .i64 0, .int .i64 0, .slice none 0 0]) ?_ 1 _ rfl; (with_reducible repeat (first | apply bN | apply bD | apply bA)); refine blk_put (cs := #[.int .i64 0, .int .i64 0, .int .i64 0, .int .i64 0, .slice none 0 0]) ?_ 0 _ rfl; (with_reducible repeat (first | apply bN | apply bD | apply bA)); exact BK200.out) hb)) (sB HB hb)))); clear HO_4 HO_5 BK186 BK200 HB; obtain ⟨HO_4, HO_5, BK186, BK200, HB⟩ := n_; (try clear hb); have hcz74_0 := cZ0 BK186; have hcz74_1 := cZ1 BK186; have hcz74_2 : w73.cell? ⟨gb186, 2, none⟩ = some (.int .i64 x187002_1) := (blk_cell BK186.out 2).trans rfl; have hcz74_3 : w73.cell? ⟨gb186, 3, none⟩ = some (.int .i64 x187003_1) := (blk_cell BK186.out 3).trans rfl; have hcz74_4 : w73.cell? ⟨gb186, 4, none⟩ = some (.slice none 0 0) := (blk_cell BK186.out 4).trans rfl; have hfz74_0 := fZ BK186 0; have hfz74_1 := fZ BK186 1; have hfz74_2 := fZ BK186 2; have hfz74_3 := fZ BK186 3; have hfz74_4 := fZ BK186 4))
        refine bodyPost_ret (results_ct rfl _ _ gb186 33 #[.int .i64 0, .int .i64 0, .int .i64 0, .int .i64 0, .slice none 0 0] (0, 0) _ rfl (by (with_reducible repeat (first | apply bN | apply bD | apply bA)); refine blk_put (cs := #[.int .i64 0, .int .i64 0, .int .i64 0, .int .i64 0, .slice none 0 0]) ?_ 4 _ rfl; (with_reducible repeat (first | apply bN | apply bD | apply bA)); refine blk_put (cs := #[.int .i64 0, .int .i64 0, .int .i64 0, .int .i64 x187003_1, .slice none 0 0]) ?_ 3 _ rfl; (with_reducible repeat (first | apply bN | apply bD | apply bA)); refine blk_put (cs := #[.int .i64 0, .int .i64 0, .int .i64 x187002_1, .int .i64 x187003_1, .slice none 0 0]) ?_ 2 _ rfl; (with_reducible repeat (first | apply bN | apply bD | apply bA)); refine blk_put (cs := #[.int .i64 0, .int .i64 x187001_1, .int .i64 x187002_1, .int .i64 x187003_1, .slice none 0 0]) ?_ 1 _ rfl; (with_reducible repeat (first | apply bN | apply bD | apply bA)); refine blk_put (cs := #[.int .i64 x187000_1, .int .i64 x187001_1, .int .i64 x187002_1, .int .i64 x187003_1, .slice none 0 0]) ?_ 0 _ rfl; (with_reducible repeat (first | apply bN | apply bD | apply bA)); exact BK186.out) Try.underlying33 rfl (by kernel_rfl)) rfl ?_
        exact ⟨_, eW, Kd.Q_of_R (by first | exact Kd.R_nil _ _ _ _ _ | exact Kd.N_nil _ _ _ _ _ | exact Kd.V_nil _ _ _ _ _ | exact Kd.Q_nil _ _ _ _ _ | exact Kd.S_nil _ _ _ _ _), bB⟩
     ·rw [if_neg c19] at H
      exact absurd H (by simp)
 rw [if_neg c5] at H
 exact absurd H (by simp)

/-! ### laws_eqIntS: function 33 -/
def laws_eqIntS.l0 : Nat → List Int → List Int → Int → Option (Bool)
 | 0, _, _, _ => none
 | k + 1, x0, x1, x5 => if x5 < (x0.length : Int) then (if 0 ≤ x5 then (if x5 < (x1.length : Int) then (if (rd x0 x5) = (rd x1 x5) then (laws_eqIntS.l0 k x0 x1 (wrap64 (x5 + 1))) else (some false)) else (none)) else (none)) else (some true)
def laws_eqIntS.f (k : Nat) (l0 : List Int) (l1 : List Int) : Option (Bool) := if (l0.length : Int) = (l1.length : Int) then (laws_eqIntS.l0 k l0 l1 0) else (some false)
theorem laws_eqIntS.mono_l : ∀ k, (∀ y0 y1 y2, LeO (laws_eqIntS.l0 k y0 y1 y2) (laws_eqIntS.l0 (k + 1) y0 y1 y2))
 | 0 => fun _ _ _ r h => by simp [laws_eqIntS.l0] at h
 | k + 1 => by
  have ih0 := laws_eqIntS.mono_l k
  ·intro y0 y1 y2
   unfold laws_eqIntS.l0
   exact mM
theorem laws_eqIntS.mono : ∀ a0 a1 k, LeO (laws_eqIntS.f k a0 a1) (laws_eqIntS.f (k + 1) a0 a1) := by
 intro a0 a1 k
 have ih0 := laws_eqIntS.mono_l k
 unfold laws_eqIntS.f
 exact mM
set_option maxHeartbeats 8000000 in
set_option maxRecDepth 100000 in
theorem laws_eqIntS.calls (k : Nat) (A0 : Option Addr) (c0 : Nat) (l0 : List Int) (A1 : Option Addr) (c1 : Nat) (l1 : List Int) (r : Bool) (w : World) (hr0 : Kd.C (Kd.int .i64) w A0 l0.length l0) (hc0 : l0.length ≤ c0) (hr1 : Kd.C (Kd.int .i64) w A1 l1.length l1) (hc1 : l1.length ≤ c1) (h : laws_eqIntS.f k l0 l1 = some r) :
  Calls Try.prog 33 #[.slice A0 l0.length c0, .slice A1 l1.length c1] w fun e w' => e = .returned (.bool r) ∧ Drawn0 w w' := by
 have HR0 := aM hr0
 have HC0 := aM hc0
 clear hr0 hc0
 have HR1 := aM hr1
 have HC1 := aM hc1
 clear hr1 hc1
 unfold laws_eqIntS.f at h
 have H := h
 clear h
 by_cases c3 : (l0.length : Int) = (l1.length : Int)
 ·rw [if_pos c3] at H
  have c3b0 : ((l0.length : Int) == (l1.length : Int)) = true := beq_iff_eq.mpr c3
  have c3b1 : ((l0.length : Int) != (l1.length : Int)) = false := bne_eq_false_iff_eq.mpr c3
  have c3b2 : (l0.length == l1.length) = true := by first | simpa using c3 | (simp at c3 ⊢; omega)
  clear c3
  have H' := aM H
  clear H
  go_enter Try.func33, Try.ntmps33
  go_wp2
  repeat (go_quiet (fail); try go_wp2)
  go_loopg [5] k (fun kq v5 w' => ∃ (x5_1 : Int), v5 = .int .i64 x5_1 ∧ Aside0 (laws_eqIntS.l0 kq l0 l1 x5_1 = some r) ∧ Aside0 (kq ≤ k) ∧ Drawn0 w w')
  case atStart => exact ⟨(0), (by first | rfl | (simp; done) | (simp [*]; done) | (simp; exact (by intro l_; cases l_ <;> rfl : ∀ l_ : List UInt8, l_.isEmpty = !(l_ != [])) _)), H', ⟨Nat.le_refl _⟩, by repeat (first | exact Drawn0.refl _ | apply Drawn0.step)⟩
  case round =>
   clear H'
   try clear c1
   try clear p2
   try clear c3
   try clear c3b0
   try clear c3b1
   try clear c3b2
   obtain ⟨x5_1, rfl, HA, HK1, ⟨m1, rfl⟩⟩ := hrel
   cases gk with
   | zero => exact absurd HA.out (by simp [laws_eqIntS.l0])
   | succ k1 =>
    have H := HA.out
    clear HA
    simp only [laws_eqIntS.l0] at H
    by_cases c4 : x5_1 < (l0.length : Int)
    ·rw [if_pos c4] at H
     have c4b0 : decide (x5_1 < (l0.length : Int)) = true := decide_eq_true c4
     clear c4
     by_cases c5 : 0 ≤ x5_1
     ·rw [if_pos c5] at H
      have c5b0 : decide (0 ≤ x5_1) = true := decide_eq_true c5
      clear c5
      by_cases c6 : x5_1 < (l1.length : Int)
      ·rw [if_pos c6] at H
       have c6b0 : decide (x5_1 < (l1.length : Int)) = true := decide_eq_true c6
       clear c6
       by_cases c7 : (rd l0 x5_1) = (rd l1 x5_1)
       ·rw [if_pos c7] at H
        have c7b0 : ((rd l0 x5_1) == (rd l1 x5_1)) = true := beq_iff_eq.mpr c7
        have c7b1 : ((rd l0 x5_1) != (rd l1 x5_1)) = false := bne_eq_false_iff_eq.mpr c7
        clear c7
        have H' := aM H
        clear H
        have p209 : 0 ≤ (x5_1 : Int) := dT
        have q209 : x5_1 < (l0.length : Int) := dT
        obtain ⟨ad209, e209, hx209_0⟩ := Kd.at_int HR0.out x5_1 p209 q209
        cases e209
        replace p209 := eq_true p209
        replace q209 := eq_true q209
        have p210 : 0 ≤ (x5_1 : Int) := dT
        have q210 : x5_1 < (l1.length : Int) := dT
        obtain ⟨ad210, e210, hx210_0⟩ := Kd.at_int HR1.out x5_1 p210 q210
        cases e210
        replace p210 := eq_true p210
        replace q210 := eq_true q210
        go_wp2
        repeat (go_quiet (fail); try go_wp2)
        go_roundg k1
        case measure => have := HK1.out; omega
        case rel => exact ⟨(wrap64 (x5_1 + 1)), (by first | rfl | (simp; done) | (simp [*]; done) | (simp; exact (by intro l_; cases l_ <;> rfl : ∀ l_ : List UInt8, l_.isEmpty = !(l_ != [])) _)), H', ⟨by have := HK1.out; omega⟩, by repeat (first | exact Drawn0.refl _ | apply Drawn0.step)⟩
       ·rw [if_neg c7] at H
        have c7b0 : ((rd l0 x5_1) == (rd l1 x5_1)) = false := beq_eq_false_iff_ne.mpr c7
        have c7b1 : ((rd l0 x5_1) != (rd l1 x5_1)) = true := bne_iff_ne.mpr c7
        obtain rfl := Option.some.inj H
        have p209 : 0 ≤ (x5_1 : Int) := dT
        have q209 : x5_1 < (l0.length : Int) := dT
        obtain ⟨ad209, e209, hx209_0⟩ := Kd.at_int HR0.out x5_1 p209 q209
        cases e209
        replace p209 := eq_true p209
        replace q209 := eq_true q209
        have p210 : 0 ≤ (x5_1 : Int) := dT
        have q210 : x5_1 < (l1.length : Int) := dT
        obtain ⟨ad210, e210, hx210_0⟩ := Kd.at_int HR1.out x5_1 p210 q210
        cases e210
        replace p210 := eq_true p210
        replace q210 := eq_true q210
        go_wp2
        repeat (go_quiet (fail); try go_wp2)
        go_ret
        exact ⟨by first | rfl | (simp; done) | (simp [*]; done), by repeat (first | exact Drawn0.refl _ | apply Drawn0.step)⟩
      ·rw [if_neg c6] at H
       exact absurd H (by simp)
     ·rw [if_neg c5] at H
      exact absurd H (by simp)
    ·rw [if_neg c4] at H
     have c4b0 : decide (x5_1 < (l0.length : Int)) = false := decide_eq_false c4
     clear c4
     obtain rfl := Option.some.inj H
     go_wp2
     repeat (go_quiet (fail); try go_wp2)
     go_ret
     exact ⟨by first | rfl | (simp; done) | (simp [*]; done), by repeat (first | exact Drawn0.refl _ | apply Drawn0.step)⟩
 rw [if_neg c3] at H
 have c3b0 : ((l0.length : Int) == (l1.length : Int)) = false := beq_eq_false_iff_ne.mpr c3
 have c3b1 : ((l0.length : Int) != (l1.length : Int)) = true := bne_iff_ne.mpr c3
 have c3b2 : (l0.length == l1.length) = false := by first | simpa using c3 | (simp at c3 ⊢; omega)
 obtain rfl := Option.some.inj H
 go_enter Try.func33, Try.ntmps33
 go_wp2
 repeat (go_quiet (fail); try go_wp2)
 go_ret
 exact ⟨by first | rfl | (simp; done) | (simp [*]; done), by repeat (first | exact Drawn0.refl _ | apply Drawn0.step)⟩

/-! ### laws_eqNode: function 13 -/
def laws_eqNode.f (k : Nat) (a0_0 : Int) (a0_1 : Int) (a0_2 : Int) (a0_3 : Int) (l0_4 : List Int) (a1_0 : Int) (a1_1 : Int) (a1_2 : Int) (a1_3 : Int) (l1_4 : List Int) : Option (Bool) := if a0_0 = a1_0 then (if a0_1 = a1_1 then (if a0_2 = a1_2 then (if a0_3 = a1_3 then ((laws_eqIntS.f k l0_4 l1_4).bind fun t213 => (if t213 = true then (some true) else (some false))) else (some false)) else (some false)) else (some false)) else (some false)
theorem laws_eqNode.mono : ∀ a0 a1 a2 a3 a4 a5 a6 a7 a8 a9 k, LeO (laws_eqNode.f k a0 a1 a2 a3 a4 a5 a6 a7 a8 a9) (laws_eqNode.f (k + 1) a0 a1 a2 a3 a4 a5 a6 a7 a8 a9) := by
 intro a0 a1 a2 a3 a4 a5 a6 a7 a8 a9 k
 unfold laws_eqNode.f
 have m0_ := @laws_eqIntS.mono
 exact mM
set_option maxHeartbeats 8000000 in
set_option maxRecDepth 100000 in
theorem laws_eqNode.calls (k : Nat) (a0_0 : Int) (a0_1 : Int) (a0_2 : Int) (a0_3 : Int) (A0_4 : Option Addr) (c0_4 : Nat) (l0_4 : List Int) (a1_0 : Int) (a1_1 : Int) (a1_2 : Int) (a1_3 : Int) (A1_4 : Option Addr) (c1_4 : Nat) (l1_4 : List Int) (r : Bool) (w : World) (hr0_4 : Kd.C (Kd.int .i64) w A0_4 l0_4.length l0_4) (hc0_4 : l0_4.length ≤ c0_4) (hr1_4 : Kd.C (Kd.int .i64) w A1_4 l1_4.length l1_4) (hc1_4 : l1_4.length ≤ c1_4) (h : laws_eqNode.f k a0_0 a0_1 a0_2 a0_3 l0_4 a1_0 a1_1 a1_2 a1_3 l1_4 = some r) :
  Calls Try.prog 13 #[.agg #[.int .i64 a0_0, .int .i64 a0_1, .int .i64 a0_2, .int .i64 a0_3, .slice A0_4 l0_4.length c0_4], .agg #[.int .i64 a1_0, .int .i64 a1_1, .int .i64 a1_2, .int .i64 a1_3, .slice A1_4 l1_4.length c1_4]] w fun e w' => e = .returned (.bool r) ∧ Below w.heap.size w w' := by
 have hu33 := Try.underlying33
 have HR0_4 := aM hr0_4
 have HC0_4 := aM hc0_4
 clear hr0_4 hc0_4
 have HR1_4 := aM hr1_4
 have HC1_4 := aM hc1_4
 clear hr1_4 hc1_4
 have HB := aM (Below.refl w.heap.size w)
 unfold laws_eqNode.f at h
 have H := h
 clear h
 by_cases c3 : a0_0 = a1_0
 ·rw [if_pos c3] at H
  have c3b0 : (a0_0 == a1_0) = true := beq_iff_eq.mpr c3
  have c3b1 : (a0_0 != a1_0) = false := bne_eq_false_iff_eq.mpr c3
  clear c3
  by_cases c4 : a0_1 = a1_1
  ·rw [if_pos c4] at H
   have c4b0 : (a0_1 == a1_1) = true := beq_iff_eq.mpr c4
   have c4b1 : (a0_1 != a1_1) = false := bne_eq_false_iff_eq.mpr c4
   clear c4
   by_cases c5 : a0_2 = a1_2
   ·rw [if_pos c5] at H
    have c5b0 : (a0_2 == a1_2) = true := beq_iff_eq.mpr c5
    have c5b1 : (a0_2 != a1_2) = false := bne_eq_false_iff_eq.mpr c5
    clear c5
    by_cases c6 : a0_3 = a1_3
    ·rw [if_pos c6] at H
     have c6b0 : (a0_3 == a1_3) = true := beq_iff_eq.mpr c6
     have c6b1 : (a0_3 != a1_3) = false := bne_eq_false_iff_eq.mpr c6
     clear c6
     replace H := Option.bind_eq_some_iff.mp H
     obtain ⟨t213, A70, H⟩ := H
     try dsimp only at H
     have A7 := aM A70
     clear A70
     by_cases c8 : t213 = true
     ·subst c8
      rw [if_pos rfl] at H
      obtain rfl := Option.some.inj H
      go_enter Try.func13, Try.ntmps13
      go_wp2_with (first | ((with_reducible refine gate_dst (N := 2) rfl ?_); refine bE 2 #[.int .i64 a0_0, .int .i64 a0_1, .int .i64 a0_2, .int .i64 a0_3, .slice A0_4 l0_4.length c0_4] 33 ?_; intro gb211 hg w9 hbox hb; have n_ := aI (sB HB hb) (aI (aM hbox) (aI (gE HB hg) (gE HB hg))); clear HB; obtain ⟨HB, BK211, GW211, GE211⟩ := n_; (try clear hb hbox hg)) | ((with_reducible refine gate_dst (N := 3) rfl ?_); refine bE 3 #[.int .i64 a1_0, .int .i64 a1_1, .int .i64 a1_2, .int .i64 a1_3, .slice A1_4 l1_4.length c1_4] 33 ?_; intro gb212 hg w10 hbox hb; have n_ := aI (kB BK211 hb) (aI (sB HB hb) (aI (aM hbox) (aI (gE HB hg) (aI (gE HB hg) (aI (nL BK211 hg) (nG BK211 hg)))))); clear BK211 HB; obtain ⟨BK211, HB, BK212, GW212, GE212, NB211_212, NB212_211⟩ := n_; (try clear hb hbox hg); have hnb11 := NB211_212.out; have hnc11 := NB212_211.out; have hcz12_0 := cZ0 BK211; have hcz12_1 := cZ1 BK211; have hcz12_2 : w10.cell? ⟨gb211, 2, none⟩ = some (.int .i64 a0_2) := (blk_cell BK211.out 2).trans rfl; have hcz12_3 : w10.cell? ⟨gb211, 3, none⟩ = some (.int .i64 a0_3) := (blk_cell BK211.out 3).trans rfl; have hcz12_4 : w10.cell? ⟨gb211, 4, none⟩ = some (.slice A0_4 l0_4.length c0_4) := (blk_cell BK211.out 4).trans rfl; have hfz12_0 := fZ BK211 0; have hfz12_1 := fZ BK211 1; have hfz12_2 := fZ BK211 2; have hfz12_3 := fZ BK211 3; have hfz12_4 := fZ BK211 4; have hcz13_0 := cZ0 BK212; have hcz13_1 := cZ1 BK212; have hcz13_2 : w10.cell? ⟨gb212, 2, none⟩ = some (.int .i64 a1_2) := (blk_cell BK212.out 2).trans rfl; have hcz13_3 : w10.cell? ⟨gb212, 3, none⟩ = some (.int .i64 a1_3) := (blk_cell BK212.out 3).trans rfl; have hcz13_4 : w10.cell? ⟨gb212, 4, none⟩ = some (.slice A1_4 l1_4.length c1_4) := (blk_cell BK212.out 4).trans rfl; have hfz13_0 := fZ BK212 0; have hfz13_1 := fZ BK212 1; have hfz13_2 := fZ BK212 2; have hfz13_3 := fZ BK212 3; have hfz13_4 := fZ BK212 4) | ((with_reducible refine gate_callee (f := 33) rfl ?_); refine gL (some 29) Try.func33 #[.slice A0_4 l0_4.length c0_4, .slice A1_4 l1_4.length c1_4] ?_; (with_reducible refine (laws_eqIntS.calls k _ _ l0_4 _ _ l1_4 true _ ?side1 ?side2 ?side3 ?side4 A7.out).mono ?_); (case side1 => exact cS HR0_4 HB); (case side2 => exact HC0_4.out); (case side3 => exact cS HR1_4 HB); (case side4 => exact HC1_4.out); rintro e w' ⟨rfl, ⟨nd, rfl⟩⟩; refine ⟨_, rfl, ?_⟩))
      go_ret
      exact ⟨eW, bB⟩
     replace c8 := Bool.eq_false_iff.mpr c8
     subst c8
     rw [if_neg (show ¬ (false = true) by decide)] at H
     obtain rfl := Option.some.inj H
     go_enter Try.func13, Try.ntmps13
     go_wp2_with (first | ((with_reducible refine gate_dst (N := 2) rfl ?_); refine bE 2 #[.int .i64 a0_0, .int .i64 a0_1, .int .i64 a0_2, .int .i64 a0_3, .slice A0_4 l0_4.length c0_4] 33 ?_; intro gb211 hg w14 hbox hb; have n_ := aI (sB HB hb) (aI (aM hbox) (aI (gE HB hg) (gE HB hg))); clear HB; obtain ⟨HB, BK211, GW211, GE211⟩ := n_; (try clear hb hbox hg)) | ((with_reducible refine gate_dst (N := 3) rfl ?_); refine bE 3 #[.int .i64 a1_0, .int .i64 a1_1, .int .i64 a1_2, .int .i64 a1_3, .slice A1_4 l1_4.length c1_4] 33 ?_; intro gb212 hg w15 hbox hb; have n_ := aI (kB BK211 hb) (aI (sB HB hb) (aI (aM hbox) (aI (gE HB hg) (aI (gE HB hg) (aI (nL BK211 hg) (nG BK211 hg)))))); clear BK211 HB; obtain ⟨BK211, HB, BK212, GW212, GE212, NB211_212, NB212_211⟩ := n_; (try clear hb hbox hg); have hnb16 := NB211_212.out; have hnc16 := NB212_211.out; have hcz17_0 := cZ0 BK211; have hcz17_1 := cZ1 BK211; have hcz17_2 : w15.cell? ⟨gb211, 2, none⟩ = some (.int .i64 a0_2) := (blk_cell BK211.out 2).trans rfl; have hcz17_3 : w15.cell? ⟨gb211, 3, none⟩ = some (.int .i64 a0_3) := (blk_cell BK211.out 3).trans rfl; have hcz17_4 : w15.cell? ⟨gb211, 4, none⟩ = some (.slice A0_4 l0_4.length c0_4) := (blk_cell BK211.out 4).trans rfl; have hfz17_0 := fZ BK211 0; have hfz17_1 := fZ BK211 1; have hfz17_2 := fZ BK211 2; have hfz17_3 := fZ BK211 3; have hfz17_4 := fZ BK211 4; have hcz18_0 := cZ0 BK212; have hcz18_1 := cZ1 BK212; have hcz18_2 : w15.cell? ⟨gb212, 2, none⟩ = some (.int .i64 a1_2) := (blk_cell BK212.out 2).trans rfl; have hcz18_3 : w15.cell? ⟨gb212, 3, none⟩ = some (.int .i64 a1_3) := (blk_cell BK212.out 3).trans rfl; have hcz18_4 : w15.cell? ⟨gb212, 4, none⟩ = some (.slice A1_4 l1_4.length c1_4) := (blk_cell BK212.out 4).trans rfl; have hfz18_0 := fZ BK212 0; have hfz18_1 := fZ BK212 1; have hfz18_2 := fZ BK212 2; have hfz18_3 := fZ BK212 3; have hfz18_4 := fZ BK212 4) | ((with_reducible refine gate_callee (f := 33) rfl ?_); refine gL (some 29) Try.func33 #[.slice A0_4 l0_4.length c0_4, .slice A1_4 l1_4.length c1_4] ?_; (with_reducible refine (laws_eqIntS.calls k _ _ l0_4 _ _ l1_4 false _ ?side1 ?side2 ?side3 ?side4 A7.out).mono ?_); (case side1 => exact cS HR0_4 HB); (case side2 => exact HC0_4.out); (case side3 => exact cS HR1_4 HB); (case side4 => exact HC1_4.out); rintro e w' ⟨rfl, ⟨nd, rfl⟩⟩; refine ⟨_, rfl, ?_⟩))
     go_ret
     exact ⟨eW, bB⟩
    rw [if_neg c6] at H
    have c6b0 : (a0_3 == a1_3) = false := beq_eq_false_iff_ne.mpr c6
    have c6b1 : (a0_3 != a1_3) = true := bne_iff_ne.mpr c6
    obtain rfl := Option.some.inj H
    go_enter Try.func13, Try.ntmps13
    go_wp2_with (first | ((with_reducible refine gate_dst (N := 2) rfl ?_); refine bE 2 #[.int .i64 a0_0, .int .i64 a0_1, .int .i64 a0_2, .int .i64 a0_3, .slice A0_4 l0_4.length c0_4] 33 ?_; intro gb211 hg w19 hbox hb; have n_ := aI (sB HB hb) (aI (aM hbox) (aI (gE HB hg) (gE HB hg))); clear HB; obtain ⟨HB, BK211, GW211, GE211⟩ := n_; (try clear hb hbox hg)) | ((with_reducible refine gate_dst (N := 3) rfl ?_); refine bE 3 #[.int .i64 a1_0, .int .i64 a1_1, .int .i64 a1_2, .int .i64 a1_3, .slice A1_4 l1_4.length c1_4] 33 ?_; intro gb212 hg w20 hbox hb; have n_ := aI (kB BK211 hb) (aI (sB HB hb) (aI (aM hbox) (aI (gE HB hg) (aI (gE HB hg) (aI (nL BK211 hg) (nG BK211 hg)))))); clear BK211 HB; obtain ⟨BK211, HB, BK212, GW212, GE212, NB211_212, NB212_211⟩ := n_; (try clear hb hbox hg); have hnb21 := NB211_212.out; have hnc21 := NB212_211.out; have hcz22_0 := cZ0 BK211; have hcz22_1 := cZ1 BK211; have hcz22_2 : w20.cell? ⟨gb211, 2, none⟩ = some (.int .i64 a0_2) := (blk_cell BK211.out 2).trans rfl; have hcz22_3 : w20.cell? ⟨gb211, 3, none⟩ = some (.int .i64 a0_3) := (blk_cell BK211.out 3).trans rfl; have hcz22_4 : w20.cell? ⟨gb211, 4, none⟩ = some (.slice A0_4 l0_4.length c0_4) := (blk_cell BK211.out 4).trans rfl; have hfz22_0 := fZ BK211 0; have hfz22_1 := fZ BK211 1; have hfz22_2 := fZ BK211 2; have hfz22_3 := fZ BK211 3; have hfz22_4 := fZ BK211 4; have hcz23_0 := cZ0 BK212; have hcz23_1 := cZ1 BK212; have hcz23_2 : w20.cell? ⟨gb212, 2, none⟩ = some (.int .i64 a1_2) := (blk_cell BK212.out 2).trans rfl; have hcz23_3 : w20.cell? ⟨gb212, 3, none⟩ = some (.int .i64 a1_3) := (blk_cell BK212.out 3).trans rfl; have hcz23_4 : w20.cell? ⟨gb212, 4, none⟩ = some (.slice A1_4 l1_4.length c1_4) := (blk_cell BK212.out 4).trans rfl; have hfz23_0 := fZ BK212 0; have hfz23_1 := fZ BK212 1; have hfz23_2 := fZ BK212 2; have hfz23_3 := fZ BK212 3; have hfz23_4 := fZ BK212 4))
    go_ret
    exact ⟨eW, bB⟩
   rw [if_neg c5] at H
   have c5b0 : (a0_2 == a1_2) = false := beq_eq_false_iff_ne.mpr c5
   have c5b1 : (a0_2 != a1_2) = true := bne_iff_ne.mpr c5
   obtain rfl := Option.some.inj H
   go_enter Try.func13, Try.ntmps13
   go_wp2_with (first | ((with_reducible refine gate_dst (N := 2) rfl ?_); refine bE 2 #[.int .i64 a0_0, .int .i64 a0_1, .int .i64 a0_2, .int .i64 a0_3, .slice A0_4 l0_4.length c0_4] 33 ?_; intro gb211 hg w24 hbox hb; have n_ := aI (sB HB hb) (aI (aM hbox) (aI (gE HB hg) (gE HB hg))); clear HB; obtain ⟨HB, BK211, GW211, GE211⟩ := n_; (try clear hb hbox hg)) | ((with_reducible refine gate_dst (N := 3) rfl ?_); refine bE 3 #[.int .i64 a1_0, .int .i64 a1_1, .int .i64 a1_2, .int .i64 a1_3, .slice A1_4 l1_4.length c1_4] 33 ?_; intro gb212 hg w25 hbox hb; have n_ := aI (kB BK211 hb) (aI (sB HB hb) (aI (aM hbox) (aI (gE HB hg) (aI (gE HB hg) (aI (nL BK211 hg) (nG BK211 hg)))))); clear BK211 HB; obtain ⟨BK211, HB, BK212, GW212, GE212, NB211_212, NB212_211⟩ := n_; (try clear hb hbox hg); have hnb26 := NB211_212.out; have hnc26 := NB212_211.out; have hcz27_0 := cZ0 BK211; have hcz27_1 := cZ1 BK211; have hcz27_2 : w25.cell? ⟨gb211, 2, none⟩ = some (.int .i64 a0_2) := (blk_cell BK211.out 2).trans rfl; have hcz27_3 : w25.cell? ⟨gb211, 3, none⟩ = some (.int .i64 a0_3) := (blk_cell BK211.out 3).trans rfl; have hcz27_4 : w25.cell? ⟨gb211, 4, none⟩ = some (.slice A0_4 l0_4.length c0_4) := (blk_cell BK211.out 4).trans rfl; have hfz27_0 := fZ BK211 0; have hfz27_1 := fZ BK211 1; have hfz27_2 := fZ BK211 2; have hfz27_3 := fZ BK211 3; have hfz27_4 := fZ BK211 4; have hcz28_0 := cZ0 BK212; have hcz28_1 := cZ1 BK212; have hcz28_2 : w25.cell? ⟨gb212, 2, none⟩ = some (.int .i64 a1_2) := (blk_cell BK212.out 2).trans rfl; have hcz28_3 : w25.cell? ⟨gb212, 3, none⟩ = some (.int .i64 a1_3) := (blk_cell BK212.out 3).trans rfl; have hcz28_4 : w25.cell? ⟨gb212, 4, none⟩ = some (.slice A1_4 l1_4.length c1_4) := (blk_cell BK212.out 4).trans rfl; have hfz28_0 := fZ BK212 0; have hfz28_1 := fZ BK212 1; have hfz28_2 := fZ BK212 2; have hfz28_3 := fZ BK212 3; have hfz28_4 := fZ BK212 4))
   go_ret
   exact ⟨eW, bB⟩
  rw [if_neg c4] at H
  have c4b0 : (a0_1 == a1_1) = false := beq_eq_false_iff_ne.mpr c4
  have c4b1 : (a0_1 != a1_1) = true := bne_iff_ne.mpr c4
  obtain rfl := Option.some.inj H
  go_enter Try.func13, Try.ntmps13
  go_wp2_with (first | ((with_reducible refine gate_dst (N := 2) rfl ?_); refine bE 2 #[.int .i64 a0_0, .int .i64 a0_1, .int .i64 a0_2, .int .i64 a0_3, .slice A0_4 l0_4.length c0_4] 33 ?_; intro gb211 hg w29 hbox hb; have n_ := aI (sB HB hb) (aI (aM hbox) (aI (gE HB hg) (gE HB hg))); clear HB; obtain ⟨HB, BK211, GW211, GE211⟩ := n_; (try clear hb hbox hg)) | ((with_reducible refine gate_dst (N := 3) rfl ?_); refine bE 3 #[.int .i64 a1_0, .int .i64 a1_1, .int .i64 a1_2, .int .i64 a1_3, .slice A1_4 l1_4.length c1_4] 33 ?_; intro gb212 hg w30 hbox hb; have n_ := aI (kB BK211 hb) (aI (sB HB hb) (aI (aM hbox) (aI (gE HB hg) (aI (gE HB hg) (aI (nL BK211 hg) (nG BK211 hg)))))); clear BK211 HB; obtain ⟨BK211, HB, BK212, GW212, GE212, NB211_212, NB212_211⟩ := n_; (try clear hb hbox hg); have hnb31 := NB211_212.out; have hnc31 := NB212_211.out; have hcz32_0 := cZ0 BK211; have hcz32_1 := cZ1 BK211; have hcz32_2 : w30.cell? ⟨gb211, 2, none⟩ = some (.int .i64 a0_2) := (blk_cell BK211.out 2).trans rfl; have hcz32_3 : w30.cell? ⟨gb211, 3, none⟩ = some (.int .i64 a0_3) := (blk_cell BK211.out 3).trans rfl; have hcz32_4 : w30.cell? ⟨gb211, 4, none⟩ = some (.slice A0_4 l0_4.length c0_4) := (blk_cell BK211.out 4).trans rfl; have hfz32_0 := fZ BK211 0; have hfz32_1 := fZ BK211 1; have hfz32_2 := fZ BK211 2; have hfz32_3 := fZ BK211 3; have hfz32_4 := fZ BK211 4; have hcz33_0 := cZ0 BK212; have hcz33_1 := cZ1 BK212; have hcz33_2 : w30.cell? ⟨gb212, 2, none⟩ = some (.int .i64 a1_2) := (blk_cell BK212.out 2).trans rfl; have hcz33_3 : w30.cell? ⟨gb212, 3, none⟩ = some (.int .i64 a1_3) := (blk_cell BK212.out 3).trans rfl; have hcz33_4 : w30.cell? ⟨gb212, 4, none⟩ = some (.slice A1_4 l1_4.length c1_4) := (blk_cell BK212.out 4).trans rfl; have hfz33_0 := fZ BK212 0; have hfz33_1 := fZ BK212 1; have hfz33_2 := fZ BK212 2; have hfz33_3 := fZ BK212 3; have hfz33_4 := fZ BK212 4))
  go_ret
  exact ⟨eW, bB⟩
 rw [if_neg c3] at H
 have c3b0 : (a0_0 == a1_0) = false := beq_eq_false_iff_ne.mpr c3
 have c3b1 : (a0_0 != a1_0) = true := bne_iff_ne.mpr c3
 obtain rfl := Option.some.inj H
 go_enter Try.func13, Try.ntmps13
 go_wp2_with (first | ((with_reducible refine gate_dst (N := 2) rfl ?_); refine bE 2 #[.int .i64 a0_0, .int .i64 a0_1, .int .i64 a0_2, .int .i64 a0_3, .slice A0_4 l0_4.length c0_4] 33 ?_; intro gb211 hg w34 hbox hb; have n_ := aI (sB HB hb) (aI (aM hbox) (aI (gE HB hg) (gE HB hg))); clear HB; obtain ⟨HB, BK211, GW211, GE211⟩ := n_; (try clear hb hbox hg)) | ((with_reducible refine gate_dst (N := 3) rfl ?_); refine bE 3 #[.int .i64 a1_0, .int .i64 a1_1, .int .i64 a1_2, .int .i64 a1_3, .slice A1_4 l1_4.length c1_4] 33 ?_; intro gb212 hg w35 hbox hb; have n_ := aI (kB BK211 hb) (aI (sB HB hb) (aI (aM hbox) (aI (gE HB hg) (aI (gE HB hg) (aI (nL BK211 hg) (nG BK211 hg)))))); clear BK211 HB; obtain ⟨BK211, HB, BK212, GW212, GE212, NB211_212, NB212_211⟩ := n_; (try clear hb hbox hg); have hnb36 := NB211_212.out; have hnc36 := NB212_211.out; have hcz37_0 := cZ0 BK211; have hcz37_1 := cZ1 BK211; have hcz37_2 : w35.cell? ⟨gb211, 2, none⟩ = some (.int .i64 a0_2) := (blk_cell BK211.out 2).trans rfl; have hcz37_3 : w35.cell? ⟨gb211, 3, none⟩ = some (.int .i64 a0_3) := (blk_cell BK211.out 3).trans rfl; have hcz37_4 : w35.cell? ⟨gb211, 4, none⟩ = some (.slice A0_4 l0_4.length c0_4) := (blk_cell BK211.out 4).trans rfl; have hfz37_0 := fZ BK211 0; have hfz37_1 := fZ BK211 1; have hfz37_2 := fZ BK211 2; have hfz37_3 := fZ BK211 3; have hfz37_4 := fZ BK211 4; have hcz38_0 := cZ0 BK212; have hcz38_1 := cZ1 BK212; have hcz38_2 : w35.cell? ⟨gb212, 2, none⟩ = some (.int .i64 a1_2) := (blk_cell BK212.out 2).trans rfl; have hcz38_3 : w35.cell? ⟨gb212, 3, none⟩ = some (.int .i64 a1_3) := (blk_cell BK212.out 3).trans rfl; have hcz38_4 : w35.cell? ⟨gb212, 4, none⟩ = some (.slice A1_4 l1_4.length c1_4) := (blk_cell BK212.out 4).trans rfl; have hfz38_0 := fZ BK212 0; have hfz38_1 := fZ BK212 1; have hfz38_2 := fZ BK212 2; have hfz38_3 := fZ BK212 3; have hfz38_4 := fZ BK212 4))
 go_ret
 exact ⟨eW, bB⟩

end Go.Proofs.Ytadfimhielcmmaa.PFnExactNodeOf
