-- Written by xprint.py, a program of this session over the kit's print. Not trusted: Lean checks it.
import Derived.Test.YtadfimhielcmmaaPFnNodesx0
import Derived.Test.YtadfimhielcmmaaPFnNodesx5
namespace Go.Proofs.Ytadfimhielcmmaa.PFnNodes
open Go.RowKit Go.Proofs.YtadfimhielcmmaaW.PrintWords Go.Proofs.YtadfimhielcmmaaW.PrintLast Go.Proofs.YtadfimhielcmmaaW.PrintMore
attribute [local go_sem] max2_int min2_int max_two min_two max_three min_three max_four min_four   -- for this text's walks alone
set_option linter.unusedVariables false
set_option linter.unusedSimpArgs false

/-! ### impl_NodeOf: function 12 -/
def impl_NodeOf.l0 : Nat → ByteArray → List Int → List Int → Int → Option (Int × Int × Int × Int × List Int × Bool)
 | 0, _, _, _, _ => none
 | k + 1, x0, x4, x5, x6 => if x6 < (x5.length : Int) then ((impl_GetNum.f k x5 x6).bind fun bt193 => (if bt193.2.2 = true then (if x4.length < 17592186044416 then (impl_NodeOf.l0 k x0 (x4 ++ [bt193.1]) x5 bt193.2.1) else (none)) else (some (0, 0, 0, 0, ([] : List Int), false)))) else (if 0 < (x5.length : Int) then (if (x4.length : Int) ≥ 3 then (if 0 < (x4.length : Int) then (if 1 < (x4.length : Int) then (if 2 < (x4.length : Int) then (if 3 ≤ (x4.length : Int) then ((some (x4.drop (3 : Int).toNat : List Int)).bind fun y204 => ((impl_NodeText.f k (wrap64 (rd x5 0)) (rd x4 0) (rd x4 1) (rd x4 2) y204).bind fun t207 => (if t207.toList = x0.toList then (some (wrap64 (rd x5 0), rd x4 0, rd x4 1, rd x4 2, y204, true)) else (some (0, 0, 0, 0, ([] : List Int), false))))) else (none)) else (none)) else (none)) else (none)) else ((impl_NodeText.f k (wrap64 (rd x5 0)) 0 0 0 ([] : List Int)).bind fun t208 => (if t208.toList = x0.toList then (some (wrap64 (rd x5 0), 0, 0, 0, ([] : List Int), true)) else (some (0, 0, 0, 0, ([] : List Int), false))))) else (none))
def impl_NodeOf.f (k : Nat) (a0 : ByteArray) : Option (Int × Int × Int × Int × List Int × Bool) := if a0.toList = ([] : List UInt8) then (some (0, 0, 0, 0, ([] : List Int), false)) else (if a0.size ≤ 9223372036854775807 then (impl_NodeOf.l0 k a0 (([] : List Int)) (bytesOf a0) 1) else (none))
theorem impl_NodeOf.mono_l : ∀ k, (∀ y0 y1 y2 y3, LeO (impl_NodeOf.l0 k y0 y1 y2 y3) (impl_NodeOf.l0 (k + 1) y0 y1 y2 y3))
 | 0 => fun _ _ _ _ r h => by simp [impl_NodeOf.l0] at h
 | k + 1 => by
  have ih0 := impl_NodeOf.mono_l k
  ·intro y0 y1 y2 y3
   unfold impl_NodeOf.l0
   have m0_ := @impl_GetNum.mono
   have m1_ := @impl_NodeText.mono
   exact mM
theorem impl_NodeOf.mono : ∀ a0 k, LeO (impl_NodeOf.f k a0) (impl_NodeOf.f (k + 1) a0) := by
 intro a0 k
 have ih0 := impl_NodeOf.mono_l k
 unfold impl_NodeOf.f
 have m0_ := @impl_GetNum.mono
 have m1_ := @impl_NodeText.mono
 exact mM
def impl_NodeOf.T14 : Bool × List (List Nat × List Nat) := (true, [([], []), ([0], [0]), ([1], [1]), ([], []), ([3], [3]), ([4], [4]), ([], []), ([6], [6]), ([7], [7]), ([0, 1, 2], []), ([9, 2, 0, 1, 2], [2, 9]), ([0, 1, 2, 3, 4, 5, 9, 10], []), ([11, 5, 10, 0, 1, 2, 3, 4, 5, 9, 10], [5, 11]), ([0, 1, 2, 3, 4, 5, 6, 7, 8, 9, 10, 11, 12], []), ([13, 8, 12, 0, 1, 2, 3, 4, 5, 6, 7, 8, 9, 10, 11, 12], [8, 13])])
def impl_NodeOf.B14 : List Nat := [0, 1, 3, 0, 8, 24, 0, 64, 192, 7, 519, 1599, 3647, 8191, 16383]
theorem impl_NodeOf.tab14 : rtab .any (opsOf Try.f12 14) = impl_NodeOf.T14 := by kernel_rfl
theorem impl_NodeOf.bits14 : waitsOk impl_NodeOf.T14.2 impl_NodeOf.B14 = true := by kernel_rfl
set_option maxHeartbeats 8000000 in
set_option maxRecDepth 100000 in
theorem impl_NodeOf.calls (k : Nat) (a0 : ByteArray) (r1 : Int) (r2 : Int) (r3 : Int) (r4 : Int) (r5 : List Int) (r6 : Bool) (w : World) (h : impl_NodeOf.f k a0 = some (r1, r2, r3, r4, r5, r6)) :
  Calls Try.prog 12 #[.string a0] w fun e w' => ∃ v4_ : Value, e = .returned (.tuple #[.agg #[.int .i64 r1, .int .i64 r2, .int .i64 r3, .int .i64 r4, v4_], .bool r6]) ∧ Kd.Q (Kd.int .i64) 3 w' w.heap.size (fun _ => True) v4_ r5 ∧ Below w.heap.size w w' := by
 have hu33 := Try.underlying33
 have HB := aM (Below.refl w.heap.size w)
 unfold impl_NodeOf.f at h
 have H := h
 clear h
 by_cases c2 : a0.toList = ([] : List UInt8)
 ·rw [if_pos c2] at H
  have c2b0 : (a0.toList == ([] : List UInt8)) = true := beq_iff_eq.mpr c2
  have c2b1 : (a0.toList != ([] : List UInt8)) = false := bne_eq_false_iff_eq.mpr c2
  clear c2
  simp only [Option.some.injEq, Prod.mk.injEq] at H
  obtain ⟨rfl, rfl, rfl, rfl, rfl, rfl⟩ := H
  go_enter Try.func12, Try.ntmps12
  go_wp2_with (first | ((with_reducible refine gate_dst (N := 2) rfl ?_); refine bE 2 #[.int .i64 0, .int .i64 0, .int .i64 0, .int .i64 0, .slice none 0 0] 33 ?_; intro gb186 hg w3 hbox hb; have n_ := aI (sB HB hb) (aI (aM hbox) (aI (gE HB hg) (gE HB hg))); clear HB; obtain ⟨HB, BK186, GW186, GE186⟩ := n_; (try clear hb hbox hg); have hcz4_0 := cZ0 BK186; have hcz4_1 := cZ1 BK186; have hcz4_2 : w3.cell? ⟨gb186, 2, none⟩ = some (.int .i64 0) := (blk_cell BK186.out 2).trans rfl; have hcz4_3 : w3.cell? ⟨gb186, 3, none⟩ = some (.int .i64 0) := (blk_cell BK186.out 3).trans rfl; have hcz4_4 : w3.cell? ⟨gb186, 4, none⟩ = some (.slice none 0 0) := (blk_cell BK186.out 4).trans rfl; have hfz4_0 := fZ BK186 0; have hfz4_1 := fZ BK186 1; have hfz4_2 := fZ BK186 2; have hfz4_3 := fZ BK186 3; have hfz4_4 := fZ BK186 4))
  refine bodyPost_ret (results_ct rfl _ _ gb186 33 #[.int .i64 0, .int .i64 0, .int .i64 0, .int .i64 0, .slice none 0 0] (0, 0) _ rfl (by (with_reducible repeat (first | apply bN | apply bD | apply bA)); refine blk_put (cs := #[.int .i64 0, .int .i64 0, .int .i64 0, .int .i64 0, .slice none 0 0]) ?_ 4 _ rfl; (with_reducible repeat (first | apply bN | apply bD | apply bA)); refine blk_put (cs := #[.int .i64 0, .int .i64 0, .int .i64 0, .int .i64 0, .slice none 0 0]) ?_ 3 _ rfl; (with_reducible repeat (first | apply bN | apply bD | apply bA)); refine blk_put (cs := #[.int .i64 0, .int .i64 0, .int .i64 0, .int .i64 0, .slice none 0 0]) ?_ 2 _ rfl; (with_reducible repeat (first | apply bN | apply bD | apply bA)); refine blk_put (cs := #[.int .i64 0, .int .i64 0, .int .i64 0, .int .i64 0, .slice none 0 0]) ?_ 1 _ rfl; (with_reducible repeat (first | apply bN | apply bD | apply bA)); refine blk_put (cs := #[.int .i64 0, .int .i64 0, .int .i64 0, .int .i64 0, .slice none 0 0]) ?_ 0 _ rfl; (with_reducible repeat (first | apply bN | apply bD | apply bA)); exact BK186.out) Try.underlying33 rfl (by kernel_rfl)) rfl ?_
  exact ⟨_, eW, Kd.Q_of_R (by first | exact Kd.R_nil _ _ _ _ _ | exact Kd.N_nil _ _ _ _ _ | exact Kd.V_nil _ _ _ _ _ | exact Kd.Q_nil _ _ _ _ _ | exact Kd.S_nil _ _ _ _ _), bB⟩
 rw [if_neg c2] at H
 have c2b0 : (a0.toList == ([] : List UInt8)) = false := beq_eq_false_iff_ne.mpr c2
 have c2b1 : (a0.toList != ([] : List UInt8)) = true := bne_iff_ne.mpr c2
 obtain ⟨y187, hy187⟩ : ∃ y_ : List Int, y_ = (([] : List Int)) := ⟨_, rfl⟩
 replace H : (if a0.size ≤ 9223372036854775807 then (impl_NodeOf.l0 k a0 y187 (bytesOf a0) 1) else (none)) = some (r1, r2, r3, r4, r5, r6) := bQ hy187 H
 have Ny187 := aM hy187
 clear hy187
 by_cases c5 : a0.size ≤ 9223372036854775807
 ·rw [if_pos c5] at H
  have c5b0 := eq_true c5
  have c5b1 : decide (a0.size ≤ 9223372036854775807) = true := decide_eq_true c5
  try have c5b2 : (9223372036854775807 < a0.size) = False := eq_false (Nat.not_lt.2 c5)
  clear c5
  obtain ⟨y190, hy190⟩ : ∃ y_ : List Int, y_ = (bytesOf a0) := ⟨_, rfl⟩
  replace H : (impl_NodeOf.l0 k a0 y187 y190 1) = some (r1, r2, r3, r4, r5, r6) := bQ hy190 H
  have Ny190 := aM hy190
  clear hy190
  have H' := aM H
  clear H
  go_enter Try.func12, Try.ntmps12
  go_wp2_with (first | ((with_reducible refine gate_dst (N := 2) rfl ?_); refine bE 2 #[.int .i64 0, .int .i64 0, .int .i64 0, .int .i64 0, .slice none 0 0] 33 ?_; intro gb186 hg w6 hbox hb; have n_ := aI (sB HB hb) (aI (aM hbox) (aI (gE HB hg) (gE HB hg))); clear HB; obtain ⟨HB, BK186, GW186, GE186⟩ := n_; (try clear hb hbox hg)) | ((with_reducible refine gate_dst (N := 14) rfl ?_); refine Kd.R_lit (Kd.int .i64) _ 3 ?hg (N := 14) ?hd (xs := ([] : List Int)) (inner := []) (ok := fun _ => True) (okp := fun _ => True) ?hr ?hp (fun _ hk => hk) trivial (Below.refl _ _) (Nat.le_refl _) (by simp) ?_; (case hd => rfl); (case hg => rfl); (case hr => first | (go_simp; done) | (go_simp; rfl)); (case hp => exact (Reps.none _ _)); intro v188 w7 ho8 hb hg_ hnew_; clear hg_ hnew_; (first | rw [← Ny187.out] at ho8 | (simp only [Int.reduceToNat] at ho8; rw [← Ny187.out] at ho8)); have n_ := aI (lR HB ho8) (aI (kB BK186 hb) (sB HB hb)); clear BK186 HB; obtain ⟨HO189, BK186, HB⟩ := n_; (try clear hb ho8)) | ((with_reducible refine gate_dst (N := 16) rfl ?_); refine V_bytes 5 rfl (N' := 16) rfl 9 39 _ rfl a0 rfl Try.underlying9 Try.underlying39 Try.underlying5 (by first | (with_reducible assumption) | assumption | exact dT) ?_; intro v191 w9 ho10 hb hg_ hnew_; clear hg_ hnew_; (first | rw [← Ny190.out] at ho10 | (simp only [Int.reduceToNat] at ho10; rw [← Ny190.out] at ho10)); have n_ := aI (rB HO189 hb) (aI (aM (Kd.V_lower (Kd.V_mono (ok' := fun k_ => some k_ ≠ (v188 : Value).ownBlock ∧ k_ ≠ gb186) ho10 (fun k_ hk_ => ⟨(Kd.fresh' (rL HO189) k_ hk_), (Kd.freshB (g := gb186) (o := .cells #[.int .i64 0, .int .i64 0, .int .i64 0, .int .i64 0, .slice none 0 0] 33 (0, 0)) (kP BK186) k_ hk_)⟩)) (zB HB))) (aI (kB BK186 hb) (sB HB hb))); clear HO189 BK186 HB; obtain ⟨HO189, HO192, BK186, HB⟩ := n_; (try clear hb ho10)))
  go_loopg [4, 6] k (fun kq v4 v6 w' => ∃ (x4_1 : List Int) (x6_1 : Int) (x187000_1 : Int) (x187001_1 : Int) (x187002_1 : Int) (x187003_1 : Int), v6 = .int .i64 x6_1 ∧ Aside0 (impl_NodeOf.l0 kq a0 x4_1 y190 x6_1 = some (r1, r2, r3, r4, r5, r6)) ∧ Aside0 (kq ≤ k) ∧ Aside0 (Kd.R (Kd.int .i64) 3 w' w.heap.size (fun _ => True) v4 x4_1) ∧ Aside0 (Kd.V (Kd.int .u8) 5 w' w.heap.size (fun k_ => some k_ ≠ (v4 : Value).ownBlock ∧ k_ ≠ gb186) v191 y190) ∧ Aside0 (w'.heap[gb186]? = some (.cells #[.int .i64 x187000_1, .int .i64 x187001_1, .int .i64 x187002_1, .int .i64 x187003_1, (.slice none 0 0)] 33 (0, 0))) ∧ Aside0 (Below w.heap.size w w'))
  case atStart => exact ⟨(y187), (1), (0), (0), (0), (0), (by first | rfl | (simp; done) | (simp [*]; done) | (simp; exact (by intro l_; cases l_ <;> rfl : ∀ l_ : List UInt8, l_.isEmpty = !(l_ != [])) _)), H', ⟨Nat.le_refl _⟩, ⟨rP HO189.out⟩, ⟨by (with_reducible repeat (first | apply Kd.V_alloc | apply Kd.V_drewN | apply Kd.V_drew)); exact HO192.out⟩, ⟨kP BK186⟩, ⟨bB⟩⟩
  case round =>
   clear H'
   try clear c1
   try clear c2
   try clear c2b0
   try clear c2b1
   try clear p2
   try clear c5
   try clear c5b0
   try clear c5b1
   try clear c5b2
   try clear hcz4_0
   try clear hcz4_1
   try clear hcz4_2
   try clear hcz4_3
   try clear hcz4_4
   try clear hfz4_0
   try clear hfz4_1
   try clear hfz4_2
   try clear hfz4_3
   try clear hfz4_4
   obtain ⟨x4_1, x6_1, x187000_1, x187001_1, x187002_1, x187003_1, rfl, HA, HK1, HO_4, HO_5, BK186, HB⟩ := hrel
   cases gk with
   | zero => exact absurd HA.out (by simp [impl_NodeOf.l0])
   | succ k1 =>
    have H := HA.out
    clear HA
    simp only [impl_NodeOf.l0] at H
    by_cases c11 : x6_1 < (y190.length : Int)
    ·rw [if_pos c11] at H
     have c11b0 : decide (x6_1 < (y190.length : Int)) = true := decide_eq_true c11
     clear c11
     replace H := Option.bind_eq_some_iff.mp H
     obtain ⟨⟨t193, t194, t195⟩, A120, H⟩ := H
     try dsimp only at H
     have A12 := aM A120
     clear A120
     by_cases c13 : t195 = true
     ·subst c13
      rw [if_pos rfl] at H
      by_cases c14 : x4_1.length < 17592186044416
      ·rw [if_pos c14] at H
       have LMc14 := aM c14
       clear c14
       obtain ⟨y196, hy196⟩ : ∃ y_ : List Int, y_ = (x4_1 ++ [t193]) := ⟨_, rfl⟩
       replace H : (impl_NodeOf.l0 k1 a0 y196 y190 t194) = some (r1, r2, r3, r4, r5, r6) := bQ hy196 H
       have Ny196 := aM hy196
       clear hy196
       have H' := aM H
       clear H
       obtain ⟨Ao15, co15, eo15⟩ := Kd.V_slice HO_5.out
       subst eo15
       go_wp2_with (first | ((with_reducible refine gate_callee (f := 32) rfl ?_); refine gL (some 24) Try.func32 #[.slice Ao15 y190.length co15, .int .i64 x6_1] ?_; (with_reducible refine (impl_GetNum.calls k1 _ _ y190 x6_1 t193 t194 true _ ?side1 ?side2 A12.out).mono ?_); (case side1 => repeat (first | exact (Kd.V_reads' HO_5.out).2.2 | (with_reducible refine Kd.C_alloc ?_ _) | (with_reducible refine Kd.C_drewN ?_ _) | (with_reducible refine Kd.C_drew ?_))); (case side2 => exact (Kd.V_reads' HO_5.out).2.1); rintro e w' ⟨rfl, ⟨nd, rfl⟩⟩; refine ⟨_, rfl, ?_⟩) | ((with_reducible refine gate_builtin (b := .append) (xs := #[.tmp 31, .tmp 33]) rfl ?_); at_builtin; refine Kd.R_append (Kd.int .i64) (w0 := w) w.heap.size rfl (.tmp 31) (.tmp 33) 31 3 (.int .i64 0) 8 rfl Try.underlying31 info3 rfl (by decide) (by omega) u4 x4_1 t193 [.int .i64 t193] (fun _ => True) (fun _ => False) rfl rfl ?aP (fun _ hk => hk.elim) ?aF ?aO ?aB ?aS ?aL ?_; (case aP => exact rfl); (case aB => exact bB); (case aF => exact (fun _ _ => trivial)); (case aO => exact (rP HO_4.out)); (case aS => exact (zB HB)); (case aL => have := LMc14.out; omega); intro v197 w16 ho hb hg hat; rw [← Ny196.out] at ho; have n_ := aI (aM (Kd.V_afterv (ok := (fun k_ => k_ ≠ gb186)) (by (with_reducible repeat (first | apply Kd.V_alloc | apply Kd.V_drewN | apply Kd.V_drew)); exact Kd.V_mono HO_5.out (fun _ hk => ⟨hk.2, hk.1⟩)) hg hat)) (aI (aM (blk_grown (g := gb186) (o := .cells #[.int .i64 x187000_1, .int .i64 x187001_1, .int .i64 x187002_1, .int .i64 x187003_1, .slice none 0 0] 33 (0, 0)) (kP BK186) hg (Kd.R_ne HO_4.out BK186.out (by decide)))) (aI (aM (hb)) (aM (ho)))); clear HO_5 BK186 HB HO_4; obtain ⟨HO_5, BK186, HB, HO198⟩ := n_; (try clear ho hb hg hat)))
       go_roundg k1
       case measure => have := HK1.out; omega
       case rel => exact ⟨(y196), (t194), (x187000_1), (x187001_1), (x187002_1), (x187003_1), (by first | rfl | (simp; done) | (simp [*]; done) | (simp; exact (by intro l_; cases l_ <;> rfl : ∀ l_ : List UInt8, l_.isEmpty = !(l_ != [])) _)), H', ⟨by have := HK1.out; omega⟩, ⟨rP HO198.out⟩, ⟨by (with_reducible repeat (first | apply Kd.V_alloc | apply Kd.V_drewN | apply Kd.V_drew)); exact Kd.V_mono HO_5.out (fun _ hk => ⟨hk.2, hk.1⟩)⟩, ⟨kP BK186⟩, ⟨bB⟩⟩
      ·rw [if_neg c14] at H
       exact absurd H (by simp)
     ·replace c13 := Bool.eq_false_iff.mpr c13
      subst c13
      rw [if_neg (show ¬ (false = true) by decide)] at H
      simp only [Option.some.injEq, Prod.mk.injEq] at H
      obtain ⟨rfl, rfl, rfl, rfl, rfl, rfl⟩ := H
      obtain ⟨Ao17, co17, eo17⟩ := Kd.V_slice HO_5.out
      subst eo17
      go_wp2_with (first | ((with_reducible refine gate_callee (f := 32) rfl ?_); refine gL (some 24) Try.func32 #[.slice Ao17 y190.length co17, .int .i64 x6_1] ?_; (with_reducible refine (impl_GetNum.calls k1 _ _ y190 x6_1 t193 t194 false _ ?side1 ?side2 A12.out).mono ?_); (case side1 => repeat (first | exact (Kd.V_reads' HO_5.out).2.2 | (with_reducible refine Kd.C_alloc ?_ _) | (with_reducible refine Kd.C_drewN ?_ _) | (with_reducible refine Kd.C_drew ?_))); (case side2 => exact (Kd.V_reads' HO_5.out).2.1); rintro e w' ⟨rfl, ⟨nd, rfl⟩⟩; refine ⟨_, rfl, ?_⟩; (try (rw [drewN_self wr]; generalize hq_ : World.drewN wr _ = wr; have n0_ : Aside0 (Kd.R (Kd.int .i64) 3 wr w.heap.size (fun _ => True) u4 x4_1) := ⟨by rw [← hq_]; exact (rP HO_4.out)⟩; have n1_ : Aside0 (Kd.V (Kd.int .u8) 5 wr w.heap.size (fun k_ => some k_ ≠ (u4 : Value).ownBlock ∧ k_ ≠ gb186) (.slice Ao17 y190.length co17) y190) := ⟨by rw [← hq_]; exact (by (with_reducible repeat (first | apply Kd.V_alloc | apply Kd.V_drewN | apply Kd.V_drew)); exact HO_5.out)⟩; have n2_ : Aside0 (wr.heap[gb186]? = some (.cells #[.int .i64 x187000_1, .int .i64 x187001_1, .int .i64 x187002_1, .int .i64 x187003_1, .slice none 0 0] 33 (0, 0))) := ⟨by rw [← hq_]; exact (kP BK186)⟩; have n3_ : Aside0 (Below w.heap.size w wr) := ⟨by rw [← hq_]; exact bB⟩; clear HO_4 HO_5 BK186 HB hq_; have HO_4 := n0_; have HO_5 := n1_; have BK186 := n2_; have HB := n3_; clear n0_ n1_ n2_ n3_)); have hcz18_0 := cZ0 BK186; have hcz18_1 := cZ1 BK186; have hcz18_2 : wr.cell? ⟨gb186, 2, none⟩ = some (.int .i64 x187002_1) := (blk_cell BK186.out 2).trans rfl; have hcz18_3 : wr.cell? ⟨gb186, 3, none⟩ = some (.int .i64 x187003_1) := (blk_cell BK186.out 3).trans rfl; have hcz18_4 : wr.cell? ⟨gb186, 4, none⟩ = some (.slice none 0 0) := (blk_cell BK186.out 4).trans rfl; have hfz18_0 := fZ BK186 0; have hfz18_1 := fZ BK186 1; have hfz18_2 := fZ BK186 2; have hfz18_3 := fZ BK186 3; have hfz18_4 := fZ BK186 4))
      refine bodyPost_ret (results_ct rfl _ _ gb186 33 #[.int .i64 0, .int .i64 0, .int .i64 0, .int .i64 0, .slice none 0 0] (0, 0) _ rfl (by (with_reducible repeat (first | apply bN | apply bD | apply bA)); refine blk_put (cs := #[.int .i64 0, .int .i64 0, .int .i64 0, .int .i64 0, .slice none 0 0]) ?_ 4 _ rfl; (with_reducible repeat (first | apply bN | apply bD | apply bA)); refine blk_put (cs := #[.int .i64 0, .int .i64 0, .int .i64 0, .int .i64 x187003_1, .slice none 0 0]) ?_ 3 _ rfl; (with_reducible repeat (first | apply bN | apply bD | apply bA)); refine blk_put (cs := #[.int .i64 0, .int .i64 0, .int .i64 x187002_1, .int .i64 x187003_1, .slice none 0 0]) ?_ 2 _ rfl; (with_reducible repeat (first | apply bN | apply bD | apply bA)); refine blk_put (cs := #[.int .i64 0, .int .i64 x187001_1, .int .i64 x187002_1, .int .i64 x187003_1, .slice none 0 0]) ?_ 1 _ rfl; (with_reducible repeat (first | apply bN | apply bD | apply bA)); refine blk_put (cs := #[.int .i64 x187000_1, .int .i64 x187001_1, .int .i64 x187002_1, .int .i64 x187003_1, .slice none 0 0]) ?_ 0 _ rfl; (with_reducible repeat (first | apply bN | apply bD | apply bA)); exact BK186.out) Try.underlying33 rfl (by kernel_rfl)) rfl ?_
      exact ⟨_, eW, Kd.Q_of_R (by first | exact Kd.R_nil _ _ _ _ _ | exact Kd.N_nil _ _ _ _ _ | exact Kd.V_nil _ _ _ _ _ | exact Kd.Q_nil _ _ _ _ _ | exact Kd.S_nil _ _ _ _ _), bB⟩
    ·rw [if_neg c11] at H
     have c11b0 : decide (x6_1 < (y190.length : Int)) = false := decide_eq_false c11
     clear c11
     by_cases c19 : 0 < (y190.length : Int)
     ·rw [if_pos c19] at H
      have c19b0 : decide (0 < (y190.length : Int)) = true := decide_eq_true c19
      have c19b1 : decide (0 < y190.length) = true := decide_eq_true (by omega)
      clear c19
      by_cases c20 : (x4_1.length : Int) ≥ 3
      ·rw [if_pos c20] at H
       have c20b0 : decide (3 ≤ (x4_1.length : Int)) = true := decide_eq_true c20
       have c20b1 : decide (3 ≤ x4_1.length) = true := decide_eq_true (by omega)
       clear c20
       by_cases c21 : 0 < (x4_1.length : Int)
       ·rw [if_pos c21] at H
        have c21b0 : decide (0 < (x4_1.length : Int)) = true := decide_eq_true c21
        have c21b1 : decide (0 < x4_1.length) = true := decide_eq_true (by omega)
        clear c21
        by_cases c22 : 1 < (x4_1.length : Int)
        ·rw [if_pos c22] at H
         have c22b0 : decide (1 < (x4_1.length : Int)) = true := decide_eq_true c22
         have c22b1 : decide (1 < x4_1.length) = true := decide_eq_true (by omega)
         clear c22
         by_cases c23 : 2 < (x4_1.length : Int)
         ·rw [if_pos c23] at H
          have c23b0 : decide (2 < (x4_1.length : Int)) = true := decide_eq_true c23
          have c23b1 : decide (2 < x4_1.length) = true := decide_eq_true (by omega)
          clear c23
          by_cases c24 : 3 ≤ (x4_1.length : Int)
          ·rw [if_pos c24] at H
           have c24b0 := eq_true c24
           have c24b1 : decide (3 ≤ (x4_1.length : Int)) = true := decide_eq_true c24
           clear c24
           obtain ⟨y204, hy204⟩ : ∃ y_ : List Int, y_ = (x4_1.drop (3 : Int).toNat) := ⟨_, rfl⟩
           replace H : ((impl_NodeText.f k1 (wrap64 (rd y190 0)) (rd x4_1 0) (rd x4_1 1) (rd x4_1 2) y204).bind fun t207 => (if t207.toList = a0.toList then (some (wrap64 (rd y190 0), rd x4_1 0, rd x4_1 1, rd x4_1 2, y204, true)) else (some (0, 0, 0, 0, ([] : List Int), false)))) = some (r1, r2, r3, r4, r5, r6) := bQ hy204 H
           have Ny204 := aM hy204
           clear hy204
           replace H := Option.bind_eq_some_iff.mp H
           obtain ⟨t207, A250, H⟩ := H
           try dsimp only at H
           have A25 := aM A250
           clear A250
           by_cases c26 : t207.toList = a0.toList
           ·rw [if_pos c26] at H
            have c26b0 : (t207.toList == a0.toList) = true := beq_iff_eq.mpr c26
            have c26b1 : (t207.toList != a0.toList) = false := bne_eq_false_iff_eq.mpr c26
            clear c26
            simp only [Option.some.injEq, Prod.mk.injEq] at H
            obtain ⟨rfl, rfl, rfl, rfl, rfl, rfl⟩ := H
            obtain ⟨Ao27, co27, eo27⟩ := Kd.V_slice HO_5.out
            subst eo27
            have p199 : 0 ≤ (0 : Int) := (by omega)
            have q199 : 0 < (y190.length : Int) := dT
            obtain ⟨ad199, e199, hx199_0⟩ := Kd.at_int (Kd.V_reads' HO_5.out).2.2 0 p199 q199
            cases e199
            have qi199 : (0 < y190.length) = True := eq_true (by omega)
            (try rw [show ((0 : Int)).toNat = 0 from rfl] at hx199_0)
            (try rw [Addr.add_zero'] at hx199_0)
            replace p199 := eq_true p199
            replace q199 := eq_true q199
            try go_wp2_with (first | ((with_reducible refine gate_dst (N := 10) rfl ?_); refine bE 10 #[.int .i64 0, .int .i64 0, .int .i64 0, .int .i64 0, .slice none 0 0] 33 ?_; intro gb200 hg w28 hbox hb; have n_ := aI (rB HO_4 hb) (aI (aM (Kd.V_below (Kd.V_elderB (by (with_reducible repeat (first | apply Kd.V_alloc | apply Kd.V_drewN | apply Kd.V_drew)); exact HO_5.out) gb200 (Nat.le_of_eq hg.symm)) hb)) (aI (kB BK186 hb) (aI (sB HB hb) (aI (aM hbox) (aI (gE HB hg) (aI (gE HB hg) (aI (nL BK186 hg) (nG BK186 hg)))))))); clear HO_4 HO_5 BK186 HB; obtain ⟨HO_4, HO_5, BK186, HB, BK200, GW200, GE200, NB186_200, NB200_186⟩ := n_; (try clear hb hbox hg); have hnb29 := NB200_186.out; have hnc29 := NB186_200.out; have hcz30_0 := cZ0 BK200; have hcz30_1 := cZ1 BK200; have hcz30_2 : w28.cell? ⟨gb200, 2, none⟩ = some (.int .i64 0) := (blk_cell BK200.out 2).trans rfl; have hcz30_3 : w28.cell? ⟨gb200, 3, none⟩ = some (.int .i64 0) := (blk_cell BK200.out 3).trans rfl; have hcz30_4 : w28.cell? ⟨gb200, 4, none⟩ = some (.slice none 0 0) := (blk_cell BK200.out 4).trans rfl; have hfz30_0 := fZ BK200 0; have hfz30_1 := fZ BK200 1; have hfz30_2 := fZ BK200 2; have hfz30_3 := fZ BK200 3; have hfz30_4 := fZ BK200 4; obtain ⟨Ao31, co31, eo31⟩ := Kd.R_slice HO_4.out; subst eo31))
            have n0_ : Aside0 (Kd.R (Kd.int .i64) 3 (((((w28.setCell ⟨gb200, 0, none⟩ (.int .i64 (wrap64 (rd y190 0)))).setCell ⟨gb200, 1, none⟩ (.int .i64 0)).setCell ⟨gb200, 2, none⟩ (.int .i64 0)).setCell ⟨gb200, 3, none⟩ (.int .i64 0)).setCell ⟨gb200, 4, none⟩ (.slice none 0 0)) w.heap.size (fun _ => True) (.slice Ao31 x4_1.length co31) x4_1) := ⟨rP (Kd.R_mono (Kd.R_far (p := ⟨gb200, 4, none⟩) (Kd.R_far (p := ⟨gb200, 3, none⟩) (Kd.R_far (p := ⟨gb200, 2, none⟩) (Kd.R_far (p := ⟨gb200, 1, none⟩) (Kd.R_far (p := ⟨gb200, 0, none⟩) (Kd.R_types HO_4.out BK200.out (by decide)) (fun _ hk => hk.2) (.int .i64 (wrap64 (rd y190 0)))) (fun _ hk => hk.2) (.int .i64 0)) (fun _ hk => hk.2) (.int .i64 0)) (fun _ hk => hk.2) (.int .i64 0)) (fun _ hk => hk.2) (.slice none 0 0)) (fun _ hk => trivial))⟩
            have n1_ : Aside0 (Kd.V (Kd.int .u8) 5 (((((w28.setCell ⟨gb200, 0, none⟩ (.int .i64 (wrap64 (rd y190 0)))).setCell ⟨gb200, 1, none⟩ (.int .i64 0)).setCell ⟨gb200, 2, none⟩ (.int .i64 0)).setCell ⟨gb200, 3, none⟩ (.int .i64 0)).setCell ⟨gb200, 4, none⟩ (.slice none 0 0)) w.heap.size (fun k_ => some k_ ≠ (.slice Ao31 x4_1.length co31 : Value).ownBlock ∧ k_ ≠ gb186 ∧ k_ ≠ gb200) (.slice (some ad199) y190.length co27) y190) := ⟨by (with_reducible repeat (first | apply Kd.V_alloc | apply Kd.V_drewN | apply Kd.V_drew)); exact Kd.V_mono (Kd.V_far (p := ⟨gb200, 4, none⟩) (Kd.V_far (p := ⟨gb200, 3, none⟩) (Kd.V_far (p := ⟨gb200, 2, none⟩) (Kd.V_far (p := ⟨gb200, 1, none⟩) (Kd.V_far (p := ⟨gb200, 0, none⟩) (Kd.V_mono HO_5.out (fun k_ hk => (⟨hk, hk.2⟩ : _ ∧ k_ ≠ gb200))) (fun _ hk => hk.2) (.int .i64 (wrap64 (rd y190 0)))) (fun _ hk => hk.2) (.int .i64 0)) (fun _ hk => hk.2) (.int .i64 0)) (fun _ hk => hk.2) (.int .i64 0)) (fun _ hk => hk.2) (.slice none 0 0)) (fun _ hk => ⟨hk.1.1.1, ⟨hk.1.1.2, hk.1.2⟩⟩)⟩
            have n2_ : Aside0 ((((((w28.setCell ⟨gb200, 0, none⟩ (.int .i64 (wrap64 (rd y190 0)))).setCell ⟨gb200, 1, none⟩ (.int .i64 0)).setCell ⟨gb200, 2, none⟩ (.int .i64 0)).setCell ⟨gb200, 3, none⟩ (.int .i64 0)).setCell ⟨gb200, 4, none⟩ (.slice none 0 0)).heap[gb186]? = some (.cells #[.int .i64 x187000_1, .int .i64 x187001_1, .int .i64 x187002_1, .int .i64 x187003_1, .slice none 0 0] 33 (0, 0))) := ⟨kP BK186⟩
            have n3_ : Aside0 ((((((w28.setCell ⟨gb200, 0, none⟩ (.int .i64 (wrap64 (rd y190 0)))).setCell ⟨gb200, 1, none⟩ (.int .i64 0)).setCell ⟨gb200, 2, none⟩ (.int .i64 0)).setCell ⟨gb200, 3, none⟩ (.int .i64 0)).setCell ⟨gb200, 4, none⟩ (.slice none 0 0)).heap[gb200]? = some (.cells #[.int .i64 (wrap64 (rd y190 0)), .int .i64 0, .int .i64 0, .int .i64 0, .slice none 0 0] 33 (0, 0))) := ⟨by (with_reducible repeat (first | apply bN | apply bD | apply bA)); refine blk_put (cs := #[.int .i64 (wrap64 (rd y190 0)), .int .i64 0, .int .i64 0, .int .i64 0, .slice none 0 0]) ?_ 4 _ rfl; (with_reducible repeat (first | apply bN | apply bD | apply bA)); refine blk_put (cs := #[.int .i64 (wrap64 (rd y190 0)), .int .i64 0, .int .i64 0, .int .i64 0, .slice none 0 0]) ?_ 3 _ rfl; (with_reducible repeat (first | apply bN | apply bD | apply bA)); refine blk_put (cs := #[.int .i64 (wrap64 (rd y190 0)), .int .i64 0, .int .i64 0, .int .i64 0, .slice none 0 0]) ?_ 2 _ rfl; (with_reducible repeat (first | apply bN | apply bD | apply bA)); refine blk_put (cs := #[.int .i64 (wrap64 (rd y190 0)), .int .i64 0, .int .i64 0, .int .i64 0, .slice none 0 0]) ?_ 1 _ rfl; (with_reducible repeat (first | apply bN | apply bD | apply bA)); refine blk_put (cs := #[.int .i64 0, .int .i64 0, .int .i64 0, .int .i64 0, .slice none 0 0]) ?_ 0 _ rfl; (with_reducible repeat (first | apply bN | apply bD | apply bA)); exact BK200.out⟩
            have n4_ : Aside0 (Below w.heap.size w (((((w28.setCell ⟨gb200, 0, none⟩ (.int .i64 (wrap64 (rd y190 0)))).setCell ⟨gb200, 1, none⟩ (.int .i64 0)).setCell ⟨gb200, 2, none⟩ (.int .i64 0)).setCell ⟨gb200, 3, none⟩ (.int .i64 0)).setCell ⟨gb200, 4, none⟩ (.slice none 0 0))) := ⟨bB⟩
            (try clear HO_4)
            (try clear HO_5)
            (try clear BK186)
            (try clear BK200)
            (try clear HB)
            generalize (((((w28.setCell ⟨gb200, 0, none⟩ (.int .i64 (wrap64 (rd y190 0)))).setCell ⟨gb200, 1, none⟩ (.int .i64 0)).setCell ⟨gb200, 2, none⟩ (.int .i64 0)).setCell ⟨gb200, 3, none⟩ (.int .i64 0)).setCell ⟨gb200, 4, none⟩ (.slice none 0 0)) = w32 at n0_ n1_ n2_ n3_ n4_ ⊢
            have HO_4 := n0_
            have HO_5 := n1_
            have BK186 := n2_
            have BK200 := n3_
            have HB := n4_
            clear n0_ n1_ n2_ n3_ n4_
            have n_ := aI (aM (Kd.R_drew HO_4.out)) (aI (aM (Kd.V_drew HO_5.out)) (aI (aM (blk_drew BK186.out)) (aI (aM (blk_drew BK200.out)) (aM (below_drew1 HB.out)))))
            clear HO_4 HO_5 BK186 BK200 HB
            obtain ⟨HO_4, HO_5, BK186, BK200, HB⟩ := n_
            have p201 : 0 ≤ (0 : Int) := (by omega)
            have q201 : 0 < (x4_1.length : Int) := dT
            obtain ⟨ad201, e201, hx201_0⟩ := Kd.at_int (Kd.R_reads' HO_4.out).2.2 0 p201 q201
            cases e201
            have qi201 : (0 < x4_1.length) = True := eq_true (by omega)
            (try rw [show ((0 : Int)).toNat = 0 from rfl] at hx201_0)
            (try rw [Addr.add_zero'] at hx201_0)
            replace p201 := eq_true p201
            replace q201 := eq_true q201
            have p202 : 0 ≤ (1 : Int) := (by omega)
            have q202 : 1 < (x4_1.length : Int) := dT
            obtain ⟨ad202, e202, hx202_0⟩ := Kd.at_int (Kd.R_reads' HO_4.out).2.2 1 p202 q202
            obtain rfl : ad201 = ad202 := (by injection e202)
            (try simp only [show (1 : Int).toNat = 1 from rfl, Nat.reduceMul, Nat.reduceEqDiff, Go.Addr.add, ↓reduceIte] at hx202_0)
            have qi202 : (1 < x4_1.length) = True := eq_true (by omega)
            (try rw [show ((1 : Int)).toNat = 1 from rfl] at hx202_0)
            replace p202 := eq_true p202
            replace q202 := eq_true q202
            have p203 : 0 ≤ (2 : Int) := (by omega)
            have q203 : 2 < (x4_1.length : Int) := dT
            obtain ⟨ad203, e203, hx203_0⟩ := Kd.at_int (Kd.R_reads' HO_4.out).2.2 2 p203 q203
            obtain rfl : ad201 = ad203 := (by injection e203)
            (try simp only [show (2 : Int).toNat = 2 from rfl, Nat.reduceMul, Nat.reduceEqDiff, Go.Addr.add, ↓reduceIte] at hx203_0)
            have qi203 : (2 < x4_1.length) = True := eq_true (by omega)
            (try rw [show ((2 : Int)).toNat = 2 from rfl] at hx203_0)
            replace p203 := eq_true p203
            replace q203 := eq_true q203
            refine start_ (n := 15) (S := fun w' => w'.cell? ad201 = some (.int .i64 (rd x4_1 0)) ∧ w'.cell? ⟨ad201.block, ad201.off + 1, none⟩ = some (.int .i64 (rd x4_1 1)) ∧ w'.cell? ⟨ad201.block, ad201.off + 2, none⟩ = some (.int .i64 (rd x4_1 2))) (ds := []) #[tF, tF, tF, tF, tF, tF, tF, tF, tF, tF, tF, tF, tF, tF, tF] (by kernel_rfl) rfl rfl ⟨hx201_0, hx202_0, hx203_0⟩ (fun hHeld => ?_); refine with_tabW impl_NodeOf.tab14 impl_NodeOf.bits14 (fun HT_ HW_ => ?_)
            generalize w32.drew = w33 at HO_4 HO_5 BK186 BK200 HB hx201_0 hx202_0 hx203_0 hHeld ⊢
            refine pY 0 44 #[tT, tF, tF, tF, tF, tF, tF, tF, tF, tF, tF, tF, tF, tF, tF] ?_
            refine pY 1 45 #[tT, tT, tF, tF, tF, tF, tF, tF, tF, tF, tF, tF, tF, tF, tF] ?_
            refine pY 3 47 #[tT, tT, tF, tT, tF, tF, tF, tF, tF, tF, tF, tF, tF, tF, tF] ?_
            refine pY 4 48 #[tT, tT, tF, tT, tT, tF, tF, tF, tF, tF, tF, tF, tF, tF, tF] ?_
            refine pY 6 50 #[tT, tT, tF, tT, tT, tF, tT, tF, tF, tF, tF, tF, tF, tF, tF] ?_
            refine pY 7 51 #[tT, tT, tF, tT, tT, tF, tT, tT, tF, tF, tF, tF, tF, tF, tF] ?_
            refine take_ (i := 2) (N := some 46) (v := ?_) (a' := ?_) #[tT, tT, tT, tT, tT, tF, tT, tT, tF, tF, tF, tF, tF, tF, tF] rfl rfl (take_ofW HT_.out HW_.out (by kernel_rfl)) (fun _ _ _ h => h) (Or.inl ⟨by rfl, ?_⟩) hHeld ?_ ?_
            rotate_left
            ·rintro w' ⟨s0, s1, s2⟩
             go_simp
             with_reducible rfl
            rotate_left
            ·simp only [Act.put, List.setIfInBounds_toArray, List.set_cons_zero, List.set_cons_succ, i64_w, i32_w]
             rfl
            refine pY 9 53 #[tT, tT, tT, tT, tT, tF, tT, tT, tF, tT, tF, tF, tF, tF, tF] ?_
            refine take_ (i := 5) (N := some 49) (v := ?_) (a' := ?_) #[tT, tT, tT, tT, tT, tT, tT, tT, tF, tT, tF, tF, tF, tF, tF] rfl rfl (take_ofW HT_.out HW_.out (by kernel_rfl)) (fun _ _ _ h => h) (Or.inl ⟨by rfl, ?_⟩) hHeld ?_ ?_
            rotate_left
            ·rintro w' ⟨s0, s1, s2⟩
             go_simp
             with_reducible rfl
            rotate_left
            ·simp only [Act.put, List.setIfInBounds_toArray, List.set_cons_zero, List.set_cons_succ, i64_w, i32_w]
             rfl
            refine take_ (i := 8) (N := some 52) (v := ?_) (a' := ?_) #[tT, tT, tT, tT, tT, tT, tT, tT, tT, tT, tF, tF, tF, tF, tF] rfl rfl (take_ofW HT_.out HW_.out (by kernel_rfl)) (fun _ _ _ h => h) (Or.inl ⟨by rfl, ?_⟩) hHeld ?_ ?_
            rotate_left
            ·rintro w' ⟨s0, s1, s2⟩
             go_simp
             with_reducible rfl
            rotate_left
            ·simp only [Act.put, List.setIfInBounds_toArray, List.set_cons_zero, List.set_cons_succ, i64_w, i32_w]
             rfl
            refine one_ (i := 10) (N := none) #[tT, tT, tT, tT, tT, tT, tT, tT, tT, tT, tT, tF, tF, tF, tF] rfl rfl (one_of HT_.out (by kernel_rfl)) (by decide) (fun K hK => ?_)
            have hs34 : w33.cell? ⟨gb200, 1, none⟩ = some (.int .i64 0) := (blk_cell BK200.out 1).trans rfl
            have hfs34 := blk_frozen BK200.out 1
            have hns34_0 := NB186_200.out
            have hms34_0 := NB200_186.out
            refine skip_ (w1 := ?_) (by rfl) rfl ?_ ?_
            rotate_left
            ·go_simp
             rfl
            refine hK.out _ _ ⟨((cell_far (p := ⟨gb200, _, none⟩) (by first | exact Kd.own_blk (Kd.R_ne HO_4.out BK200.out (by decide)) | (rw [add_block]; exact Kd.own_blk (Kd.R_ne HO_4.out BK200.out (by decide))) | (show (Addr.add _ _).block ≠ _; rw [add_block]; exact Kd.own_blk (Kd.R_ne HO_4.out BK200.out (by decide))) | (dsimp only; exact Kd.own_blk (Kd.R_ne HO_4.out BK200.out (by decide)))) _).trans (hHeld.1)), ((cell_far (p := ⟨gb200, _, none⟩) (by first | exact Kd.own_blk (Kd.R_ne HO_4.out BK200.out (by decide)) | (rw [add_block]; exact Kd.own_blk (Kd.R_ne HO_4.out BK200.out (by decide))) | (show (Addr.add _ _).block ≠ _; rw [add_block]; exact Kd.own_blk (Kd.R_ne HO_4.out BK200.out (by decide))) | (dsimp only; exact Kd.own_blk (Kd.R_ne HO_4.out BK200.out (by decide)))) _).trans (hHeld.2.1)), ((cell_far (p := ⟨gb200, _, none⟩) (by first | exact Kd.own_blk (Kd.R_ne HO_4.out BK200.out (by decide)) | (rw [add_block]; exact Kd.own_blk (Kd.R_ne HO_4.out BK200.out (by decide))) | (show (Addr.add _ _).block ≠ _; rw [add_block]; exact Kd.own_blk (Kd.R_ne HO_4.out BK200.out (by decide))) | (dsimp only; exact Kd.own_blk (Kd.R_ne HO_4.out BK200.out (by decide)))) _).trans (hHeld.2.2))⟩ (fun hHeld => ?_)
            clear hK K
            refine pY 11 54 #[tT, tT, tT, tT, tT, tT, tT, tT, tT, tT, tT, tT, tF, tF, tF] ?_
            refine one_ (i := 12) (N := none) #[tT, tT, tT, tT, tT, tT, tT, tT, tT, tT, tT, tT, tT, tF, tF] rfl rfl (one_of HT_.out (by kernel_rfl)) (by decide) (fun K hK => ?_)
            have hs35 : w33.cell? ⟨gb200, 2, none⟩ = some (.int .i64 0) := (blk_cell BK200.out 2).trans rfl
            have hfs35 := blk_frozen BK200.out 2
            have hns35_0 := NB186_200.out
            have hms35_0 := NB200_186.out
            refine skip_ (w1 := ?_) (by rfl) rfl ?_ ?_
            rotate_left
            ·go_simp
             rfl
            refine hK.out _ _ ⟨((cell_far (p := ⟨gb200, _, none⟩) (by first | exact Kd.own_blk (Kd.R_ne HO_4.out BK200.out (by decide)) | (rw [add_block]; exact Kd.own_blk (Kd.R_ne HO_4.out BK200.out (by decide))) | (show (Addr.add _ _).block ≠ _; rw [add_block]; exact Kd.own_blk (Kd.R_ne HO_4.out BK200.out (by decide))) | (dsimp only; exact Kd.own_blk (Kd.R_ne HO_4.out BK200.out (by decide)))) _).trans (hHeld.1)), ((cell_far (p := ⟨gb200, _, none⟩) (by first | exact Kd.own_blk (Kd.R_ne HO_4.out BK200.out (by decide)) | (rw [add_block]; exact Kd.own_blk (Kd.R_ne HO_4.out BK200.out (by decide))) | (show (Addr.add _ _).block ≠ _; rw [add_block]; exact Kd.own_blk (Kd.R_ne HO_4.out BK200.out (by decide))) | (dsimp only; exact Kd.own_blk (Kd.R_ne HO_4.out BK200.out (by decide)))) _).trans (hHeld.2.1)), ((cell_far (p := ⟨gb200, _, none⟩) (by first | exact Kd.own_blk (Kd.R_ne HO_4.out BK200.out (by decide)) | (rw [add_block]; exact Kd.own_blk (Kd.R_ne HO_4.out BK200.out (by decide))) | (show (Addr.add _ _).block ≠ _; rw [add_block]; exact Kd.own_blk (Kd.R_ne HO_4.out BK200.out (by decide))) | (dsimp only; exact Kd.own_blk (Kd.R_ne HO_4.out BK200.out (by decide)))) _).trans (hHeld.2.2))⟩ (fun hHeld => ?_)
            clear hK K
            refine pY 13 55 #[tT, tT, tT, tT, tT, tT, tT, tT, tT, tT, tT, tT, tT, tT, tF] ?_
            refine one_ (i := 14) (N := none) #[tT, tT, tT, tT, tT, tT, tT, tT, tT, tT, tT, tT, tT, tT, tT] rfl rfl (one_of HT_.out (by kernel_rfl)) (by decide) (fun K hK => ?_)
            have hs36 : w33.cell? ⟨gb200, 3, none⟩ = some (.int .i64 0) := (blk_cell BK200.out 3).trans rfl
            have hfs36 := blk_frozen BK200.out 3
            have hns36_0 := NB186_200.out
            have hms36_0 := NB200_186.out
            refine skip_ (w1 := ?_) (by rfl) rfl ?_ ?_
            rotate_left
            ·go_simp
             rfl
            refine hK.out _ _ ⟨((cell_far (p := ⟨gb200, _, none⟩) (by first | exact Kd.own_blk (Kd.R_ne HO_4.out BK200.out (by decide)) | (rw [add_block]; exact Kd.own_blk (Kd.R_ne HO_4.out BK200.out (by decide))) | (show (Addr.add _ _).block ≠ _; rw [add_block]; exact Kd.own_blk (Kd.R_ne HO_4.out BK200.out (by decide))) | (dsimp only; exact Kd.own_blk (Kd.R_ne HO_4.out BK200.out (by decide)))) _).trans (hHeld.1)), ((cell_far (p := ⟨gb200, _, none⟩) (by first | exact Kd.own_blk (Kd.R_ne HO_4.out BK200.out (by decide)) | (rw [add_block]; exact Kd.own_blk (Kd.R_ne HO_4.out BK200.out (by decide))) | (show (Addr.add _ _).block ≠ _; rw [add_block]; exact Kd.own_blk (Kd.R_ne HO_4.out BK200.out (by decide))) | (dsimp only; exact Kd.own_blk (Kd.R_ne HO_4.out BK200.out (by decide)))) _).trans (hHeld.2.1)), ((cell_far (p := ⟨gb200, _, none⟩) (by first | exact Kd.own_blk (Kd.R_ne HO_4.out BK200.out (by decide)) | (rw [add_block]; exact Kd.own_blk (Kd.R_ne HO_4.out BK200.out (by decide))) | (show (Addr.add _ _).block ≠ _; rw [add_block]; exact Kd.own_blk (Kd.R_ne HO_4.out BK200.out (by decide))) | (dsimp only; exact Kd.own_blk (Kd.R_ne HO_4.out BK200.out (by decide)))) _).trans (hHeld.2.2))⟩ (fun hHeld => ?_)
            clear hK K
            refine done_ (done_of HT_.out (by kernel_rfl)) ?_
            have n0_ : Aside0 (Kd.R (Kd.int .i64) 3 (((w33.setCell ⟨gb200, 1, none⟩ (.int .i64 (rd x4_1 0))).setCell ⟨gb200, 2, none⟩ (.int .i64 (rd x4_1 1))).setCell ⟨gb200, 3, none⟩ (.int .i64 (rd x4_1 2))) w.heap.size (fun _ => True) (.slice (some ad201) x4_1.length co31) x4_1) := ⟨rP (Kd.R_mono (Kd.R_far (p := ⟨gb200, 3, none⟩) (Kd.R_far (p := ⟨gb200, 2, none⟩) (Kd.R_far (p := ⟨gb200, 1, none⟩) (Kd.R_types HO_4.out BK200.out (by decide)) (fun _ hk => hk.2) (.int .i64 (rd x4_1 0))) (fun _ hk => hk.2) (.int .i64 (rd x4_1 1))) (fun _ hk => hk.2) (.int .i64 (rd x4_1 2))) (fun _ hk => trivial))⟩
            have n1_ : Aside0 (Kd.V (Kd.int .u8) 5 (((w33.setCell ⟨gb200, 1, none⟩ (.int .i64 (rd x4_1 0))).setCell ⟨gb200, 2, none⟩ (.int .i64 (rd x4_1 1))).setCell ⟨gb200, 3, none⟩ (.int .i64 (rd x4_1 2))) w.heap.size (fun k_ => some k_ ≠ (.slice (some ad201) x4_1.length co31 : Value).ownBlock ∧ k_ ≠ gb186 ∧ k_ ≠ gb200) (.slice (some ad199) y190.length co27) y190) := ⟨by (with_reducible repeat (first | apply Kd.V_alloc | apply Kd.V_drewN | apply Kd.V_drew)); exact Kd.V_mono (Kd.V_far (p := ⟨gb200, 3, none⟩) (Kd.V_far (p := ⟨gb200, 2, none⟩) (Kd.V_far (p := ⟨gb200, 1, none⟩) (Kd.V_mono HO_5.out (fun k_ hk => (⟨hk, hk.2.2⟩ : _ ∧ k_ ≠ gb200))) (fun _ hk => hk.2) (.int .i64 (rd x4_1 0))) (fun _ hk => hk.2) (.int .i64 (rd x4_1 1))) (fun _ hk => hk.2) (.int .i64 (rd x4_1 2))) (fun _ hk => ⟨hk.1.1, ⟨hk.1.2.1, hk.1.2.2⟩⟩)⟩
            have n2_ : Aside0 ((((w33.setCell ⟨gb200, 1, none⟩ (.int .i64 (rd x4_1 0))).setCell ⟨gb200, 2, none⟩ (.int .i64 (rd x4_1 1))).setCell ⟨gb200, 3, none⟩ (.int .i64 (rd x4_1 2))).heap[gb186]? = some (.cells #[.int .i64 x187000_1, .int .i64 x187001_1, .int .i64 x187002_1, .int .i64 x187003_1, .slice none 0 0] 33 (0, 0))) := ⟨kP BK186⟩
            have n3_ : Aside0 ((((w33.setCell ⟨gb200, 1, none⟩ (.int .i64 (rd x4_1 0))).setCell ⟨gb200, 2, none⟩ (.int .i64 (rd x4_1 1))).setCell ⟨gb200, 3, none⟩ (.int .i64 (rd x4_1 2))).heap[gb200]? = some (.cells #[.int .i64 (wrap64 (rd y190 0)), .int .i64 (rd x4_1 0), .int .i64 (rd x4_1 1), .int .i64 (rd x4_1 2), .slice none 0 0] 33 (0, 0))) := ⟨by (with_reducible repeat (first | apply bN | apply bD | apply bA)); refine blk_put (cs := #[.int .i64 (wrap64 (rd y190 0)), .int .i64 (rd x4_1 0), .int .i64 (rd x4_1 1), .int .i64 0, .slice none 0 0]) ?_ 3 _ rfl; (with_reducible repeat (first | apply bN | apply bD | apply bA)); refine blk_put (cs := #[.int .i64 (wrap64 (rd y190 0)), .int .i64 (rd x4_1 0), .int .i64 0, .int .i64 0, .slice none 0 0]) ?_ 2 _ rfl; (with_reducible repeat (first | apply bN | apply bD | apply bA)); refine blk_put (cs := #[.int .i64 (wrap64 (rd y190 0)), .int .i64 0, .int .i64 0, .int .i64 0, .slice none 0 0]) ?_ 1 _ rfl; (with_reducible repeat (first | apply bN | apply bD | apply bA)); exact BK200.out⟩
            have n4_ : Aside0 (Below w.heap.size w (((w33.setCell ⟨gb200, 1, none⟩ (.int .i64 (rd x4_1 0))).setCell ⟨gb200, 2, none⟩ (.int .i64 (rd x4_1 1))).setCell ⟨gb200, 3, none⟩ (.int .i64 (rd x4_1 2)))) := ⟨bB⟩
            (try clear HO_4)
            (try clear HO_5)
            (try clear BK186)
            (try clear BK200)
            (try clear HB)
            generalize (((w33.setCell ⟨gb200, 1, none⟩ (.int .i64 (rd x4_1 0))).setCell ⟨gb200, 2, none⟩ (.int .i64 (rd x4_1 1))).setCell ⟨gb200, 3, none⟩ (.int .i64 (rd x4_1 2))) = w37 at n0_ n1_ n2_ n3_ n4_ ⊢
            have HO_4 := n0_
            have HO_5 := n1_
            have BK186 := n2_
            have BK200 := n3_
            have HB := n4_
            clear n0_ n1_ n2_ n3_ n4_
            have q38 : (3 : Int) ≤ ((x4_1.length : Int) : Int) := dT
            obtain ⟨i038, hi038, _, hsz38, _⟩ := info_parts info3
            have hcut38 := cut_from (P := Try.prog) 31 3 .i64 Try.underlying31 hi038 1 hsz38 (some ad201) x4_1.length co31 3 (by omega) q38
            have hr38 := Kd.Q_drop (k := (3 : Int).toNat) (Kd.Q_of_R HO_4.out) (by omega)
            obtain ⟨A38, hA38⟩ : ∃ A1, A1 = (if co31 = (3 : Int).toNat then (some ad201) else ((some ad201) : Option Addr).map (·.add ((3 : Int).toNat * 1))) := ⟨_, rfl⟩
            obtain ⟨c38, hc38⟩ : ∃ c1, c1 = co31 - (3 : Int).toNat := ⟨_, rfl⟩
            have hy38 : y204.length = x4_1.length - (3 : Int).toNat := (by rw [Ny204.out, List.length_drop])
            rw [← Ny204.out] at hr38
            rw [← hy38, ← hA38, ← hc38] at hcut38
            replace hr38 : Kd.Q (Kd.int .i64) 3 w37 w.heap.size (fun _ => True) (.slice A38 y204.length c38) y204 := (by rw [hA38, hc38, hy38]; exact hr38)
            have HE38 : Aside0 ((Value.slice A38 y204.length c38).ownBlock = (.slice (some ad201) x4_1.length co31 : Value).ownBlock) := ⟨by rw [hA38]; split <;> (cases ((some ad201) : Option Addr) <;> rfl)⟩
            clear hy38 hi038 hsz38 HO_4 hA38 hc38
            have HO206 := aM hr38
            clear hr38
            replace q38 := eq_true q38
            have n_ := aM (Kd.V_mono (ok' := fun k_ => (some k_ ≠ (.slice A38 y204.length c38 : Value).ownBlock ∧ (k_ ≠ gb186 ∧ k_ ≠ gb200))) HO_5.out (fun k_ hk => ⟨(by rw [HE38.out]; exact hk.1), ⟨hk.2.1, hk.2.2⟩⟩))
            clear HO_5
            have HO_5 := n_
            clear n_
            have hcz39_0 : w37.cell? ⟨gb200, 0, none⟩ = some (.int .i64 (wrap64 (rd y190 0))) := (blk_cell BK200.out 0).trans rfl
            have hcz39_1 := cZ1 BK200
            have hcz39_2 : w37.cell? ⟨gb200, 2, none⟩ = some (.int .i64 (rd x4_1 1)) := (blk_cell BK200.out 2).trans rfl
            have hcz39_3 : w37.cell? ⟨gb200, 3, none⟩ = some (.int .i64 (rd x4_1 2)) := (blk_cell BK200.out 3).trans rfl
            have hcz39_4 : w37.cell? ⟨gb200, 4, none⟩ = some (.slice none 0 0) := (blk_cell BK200.out 4).trans rfl
            have hfz39_0 := fZ BK200 0
            have hfz39_1 := fZ BK200 1
            have hfz39_2 := fZ BK200 2
            have hfz39_3 := fZ BK200 3
            have hfz39_4 := fZ BK200 4
            try go_wp2_with (first | ((with_reducible refine gate_callee (f := 18) rfl ?_); refine gL (some 60) Try.func18 #[.agg #[.int .i64 (wrap64 (rd y190 0)), .int .i64 (rd x4_1 0), .int .i64 (rd x4_1 1), .int .i64 (rd x4_1 2), .slice A38 y204.length c38]] ?_; (with_reducible refine (impl_NodeText.calls k1 (wrap64 (rd y190 0)) (rd x4_1 0) (rd x4_1 1) (rd x4_1 2) _ _ y204 t207 _ ?side1 ?side2 A25.out).mono ?_); (case side1 => refine (Kd.Q_reads' (e := 3) (base := w.heap.size) (ok := fun k_ => True) (n := y204.length) (c := c38) ?_).2.2; exact (by (with_reducible repeat (first | apply Kd.Q_alloc | apply Kd.Q_drewN | apply Kd.Q_drew)); exact (Kd.Q_mono (Kd.Q_far (p := ⟨gb200, 4, none⟩) (Kd.Q_types HO206.out BK200.out (by decide)) (fun _ hk => hk.2) (.slice A38 y204.length c38)) (fun _ h_ => h_.1)))); (case side2 => exact (Kd.Q_reads' HO206.out).2.1); rintro e w40 ⟨rfl, hb⟩; refine ⟨_, rfl, ?_⟩; have n_ := aI (aM (Kd.Q_below (by (with_reducible repeat (first | apply Kd.Q_alloc | apply Kd.Q_drewN | apply Kd.Q_drew)); exact (Kd.Q_mono (Kd.Q_far (p := ⟨gb200, 4, none⟩) (Kd.Q_types HO206.out BK200.out (by decide)) (fun _ hk => hk.2) (.slice A38 y204.length c38)) (fun _ h_ => h_.1))) hb)) (aI (aM (Kd.V_below (by (with_reducible repeat (first | apply Kd.V_alloc | apply Kd.V_drewN | apply Kd.V_drew)); exact (Kd.V_mono (Kd.V_far (p := ⟨gb200, 4, none⟩) (Kd.V_mono HO_5.out (fun k_ hk => (⟨hk, hk.2.2⟩ : _ ∧ k_ ≠ gb200))) (fun _ hk => hk.2) (.slice A38 y204.length c38)) (fun _ h_ => h_.1))) hb)) (aI (kB BK186 hb) (aI (aM (blk_below (g := gb200) (o := .cells #[.int .i64 (wrap64 (rd y190 0)), .int .i64 (rd x4_1 0), .int .i64 (rd x4_1 1), .int .i64 (rd x4_1 2), .slice A38 y204.length c38] 33 (0, 0)) (by (with_reducible repeat (first | apply bN | apply bD | apply bA)); refine blk_put (cs := #[.int .i64 (wrap64 (rd y190 0)), .int .i64 (rd x4_1 0), .int .i64 (rd x4_1 1), .int .i64 (rd x4_1 2), .slice none 0 0]) ?_ 4 _ rfl; (with_reducible repeat (first | apply bN | apply bD | apply bA)); exact BK200.out) hb)) (sB HB hb)))); clear HO206 HO_5 BK186 BK200 HB; obtain ⟨HO206, HO_5, BK186, BK200, HB⟩ := n_; (try clear hb); have hcz41_0 : w40.cell? ⟨gb200, 0, none⟩ = some (.int .i64 (wrap64 (rd y190 0))) := (blk_cell BK200.out 0).trans rfl; have hcz41_1 := cZ1 BK200; have hcz41_2 : w40.cell? ⟨gb200, 2, none⟩ = some (.int .i64 (rd x4_1 1)) := (blk_cell BK200.out 2).trans rfl; have hcz41_3 : w40.cell? ⟨gb200, 3, none⟩ = some (.int .i64 (rd x4_1 2)) := (blk_cell BK200.out 3).trans rfl; have hcz41_4 : w40.cell? ⟨gb200, 4, none⟩ = some (.slice A38 y204.length c38) := (blk_cell BK200.out 4).trans rfl; have hfz41_0 := fZ BK200 0; have hfz41_1 := fZ BK200 1; have hfz41_2 := fZ BK200 2; have hfz41_3 := fZ BK200 3; have hfz41_4 := fZ BK200 4; have hcz42_0 := cZ0 BK186; have hcz42_1 := cZ1 BK186; have hcz42_2 : w40.cell? ⟨gb186, 2, none⟩ = some (.int .i64 x187002_1) := (blk_cell BK186.out 2).trans rfl; have hcz42_3 : w40.cell? ⟨gb186, 3, none⟩ = some (.int .i64 x187003_1) := (blk_cell BK186.out 3).trans rfl; have hcz42_4 : w40.cell? ⟨gb186, 4, none⟩ = some (.slice none 0 0) := (blk_cell BK186.out 4).trans rfl; have hfz42_0 := fZ BK186 0; have hfz42_1 := fZ BK186 1; have hfz42_2 := fZ BK186 2; have hfz42_3 := fZ BK186 3; have hfz42_4 := fZ BK186 4))
            refine bodyPost_ret (results_ct rfl _ _ gb186 33 #[.int .i64 (wrap64 (rd y190 0)), .int .i64 (rd x4_1 0), .int .i64 (rd x4_1 1), .int .i64 (rd x4_1 2), .slice A38 y204.length c38] (0, 0) _ rfl (by (with_reducible repeat (first | apply bN | apply bD | apply bA)); refine blk_put (cs := #[.int .i64 (wrap64 (rd y190 0)), .int .i64 (rd x4_1 0), .int .i64 (rd x4_1 1), .int .i64 (rd x4_1 2), .slice none 0 0]) ?_ 4 _ rfl; (with_reducible repeat (first | apply bN | apply bD | apply bA)); refine blk_put (cs := #[.int .i64 (wrap64 (rd y190 0)), .int .i64 (rd x4_1 0), .int .i64 (rd x4_1 1), .int .i64 x187003_1, .slice none 0 0]) ?_ 3 _ rfl; (with_reducible repeat (first | apply bN | apply bD | apply bA)); refine blk_put (cs := #[.int .i64 (wrap64 (rd y190 0)), .int .i64 (rd x4_1 0), .int .i64 x187002_1, .int .i64 x187003_1, .slice none 0 0]) ?_ 2 _ rfl; (with_reducible repeat (first | apply bN | apply bD | apply bA)); refine blk_put (cs := #[.int .i64 (wrap64 (rd y190 0)), .int .i64 x187001_1, .int .i64 x187002_1, .int .i64 x187003_1, .slice none 0 0]) ?_ 1 _ rfl; (with_reducible repeat (first | apply bN | apply bD | apply bA)); refine blk_put (cs := #[.int .i64 x187000_1, .int .i64 x187001_1, .int .i64 x187002_1, .int .i64 x187003_1, .slice none 0 0]) ?_ 0 _ rfl; (with_reducible repeat (first | apply bN | apply bD | apply bA)); exact BK186.out) Try.underlying33 rfl (by kernel_rfl)) rfl ?_
            exact ⟨_, eW, by (with_reducible repeat (first | apply Kd.Q_alloc | apply Kd.Q_drewN | apply Kd.Q_drew)); exact Kd.Q_mono (Kd.Q_far (p := ⟨gb186, 4, none⟩) (Kd.Q_far (p := ⟨gb186, 3, none⟩) (Kd.Q_far (p := ⟨gb186, 2, none⟩) (Kd.Q_far (p := ⟨gb186, 1, none⟩) (Kd.Q_far (p := ⟨gb186, 0, none⟩) (Kd.Q_types HO206.out BK186.out (by decide)) (fun _ hk => hk.2) (.int .i64 (wrap64 (rd y190 0)))) (fun _ hk => hk.2) (.int .i64 (rd x4_1 0))) (fun _ hk => hk.2) (.int .i64 (rd x4_1 1))) (fun _ hk => hk.2) (.int .i64 (rd x4_1 2))) (fun _ hk => hk.2) (.slice A38 y204.length c38)) (fun _ hk => trivial), bB⟩
           ·rw [if_neg c26] at H
            have c26b0 : (t207.toList == a0.toList) = false := beq_eq_false_iff_ne.mpr c26
            have c26b1 : (t207.toList != a0.toList) = true := bne_iff_ne.mpr c26
            simp only [Option.some.injEq, Prod.mk.injEq] at H
            obtain ⟨rfl, rfl, rfl, rfl, rfl, rfl⟩ := H
            obtain ⟨Ao43, co43, eo43⟩ := Kd.V_slice HO_5.out
            subst eo43
            have p199 : 0 ≤ (0 : Int) := (by omega)
            have q199 : 0 < (y190.length : Int) := dT
            obtain ⟨ad199, e199, hx199_0⟩ := Kd.at_int (Kd.V_reads' HO_5.out).2.2 0 p199 q199
            cases e199
            have qi199 : (0 < y190.length) = True := eq_true (by omega)
            (try rw [show ((0 : Int)).toNat = 0 from rfl] at hx199_0)
            (try rw [Addr.add_zero'] at hx199_0)
            replace p199 := eq_true p199
            replace q199 := eq_true q199
            try go_wp2_with (first | ((with_reducible refine gate_dst (N := 10) rfl ?_); refine bE 10 #[.int .i64 0, .int .i64 0, .int .i64 0, .int .i64 0, .slice none 0 0] 33 ?_; intro gb200 hg w44 hbox hb; have n_ := aI (rB HO_4 hb) (aI (aM (Kd.V_below (Kd.V_elderB (by (with_reducible repeat (first | apply Kd.V_alloc | apply Kd.V_drewN | apply Kd.V_drew)); exact HO_5.out) gb200 (Nat.le_of_eq hg.symm)) hb)) (aI (kB BK186 hb) (aI (sB HB hb) (aI (aM hbox) (aI (gE HB hg) (aI (gE HB hg) (aI (nL BK186 hg) (nG BK186 hg)))))))); clear HO_4 HO_5 BK186 HB; obtain ⟨HO_4, HO_5, BK186, HB, BK200, GW200, GE200, NB186_200, NB200_186⟩ := n_; (try clear hb hbox hg); have hnb45 := NB200_186.out; have hnc45 := NB186_200.out; have hcz46_0 := cZ0 BK200; have hcz46_1 := cZ1 BK200; have hcz46_2 : w44.cell? ⟨gb200, 2, none⟩ = some (.int .i64 0) := (blk_cell BK200.out 2).trans rfl; have hcz46_3 : w44.cell? ⟨gb200, 3, none⟩ = some (.int .i64 0) := (blk_cell BK200.out 3).trans rfl; have hcz46_4 : w44.cell? ⟨gb200, 4, none⟩ = some (.slice none 0 0) := (blk_cell BK200.out 4).trans rfl; have hfz46_0 := fZ BK200 0; have hfz46_1 := fZ BK200 1; have hfz46_2 := fZ BK200 2; have hfz46_3 := fZ BK200 3; have hfz46_4 := fZ BK200 4; obtain ⟨Ao47, co47, eo47⟩ := Kd.R_slice HO_4.out; subst eo47))
            have n0_ : Aside0 (Kd.R (Kd.int .i64) 3 (((((w44.setCell ⟨gb200, 0, none⟩ (.int .i64 (wrap64 (rd y190 0)))).setCell ⟨gb200, 1, none⟩ (.int .i64 0)).setCell ⟨gb200, 2, none⟩ (.int .i64 0)).setCell ⟨gb200, 3, none⟩ (.int .i64 0)).setCell ⟨gb200, 4, none⟩ (.slice none 0 0)) w.heap.size (fun _ => True) (.slice Ao47 x4_1.length co47) x4_1) := ⟨rP (Kd.R_mono (Kd.R_far (p := ⟨gb200, 4, none⟩) (Kd.R_far (p := ⟨gb200, 3, none⟩) (Kd.R_far (p := ⟨gb200, 2, none⟩) (Kd.R_far (p := ⟨gb200, 1, none⟩) (Kd.R_far (p := ⟨gb200, 0, none⟩) (Kd.R_types HO_4.out BK200.out (by decide)) (fun _ hk => hk.2) (.int .i64 (wrap64 (rd y190 0)))) (fun _ hk => hk.2) (.int .i64 0)) (fun _ hk => hk.2) (.int .i64 0)) (fun _ hk => hk.2) (.int .i64 0)) (fun _ hk => hk.2) (.slice none 0 0)) (fun _ hk => trivial))⟩
            have n1_ : Aside0 (Kd.V (Kd.int .u8) 5 (((((w44.setCell ⟨gb200, 0, none⟩ (.int .i64 (wrap64 (rd y190 0)))).setCell ⟨gb200, 1, none⟩ (.int .i64 0)).setCell ⟨gb200, 2, none⟩ (.int .i64 0)).setCell ⟨gb200, 3, none⟩ (.int .i64 0)).setCell ⟨gb200, 4, none⟩ (.slice none 0 0)) w.heap.size (fun k_ => some k_ ≠ (.slice Ao47 x4_1.length co47 : Value).ownBlock ∧ k_ ≠ gb186 ∧ k_ ≠ gb200) (.slice (some ad199) y190.length co43) y190) := ⟨by (with_reducible repeat (first | apply Kd.V_alloc | apply Kd.V_drewN | apply Kd.V_drew)); exact Kd.V_mono (Kd.V_far (p := ⟨gb200, 4, none⟩) (Kd.V_far (p := ⟨gb200, 3, none⟩) (Kd.V_far (p := ⟨gb200, 2, none⟩) (Kd.V_far (p := ⟨gb200, 1, none⟩) (Kd.V_far (p := ⟨gb200, 0, none⟩) (Kd.V_mono HO_5.out (fun k_ hk => (⟨hk, hk.2⟩ : _ ∧ k_ ≠ gb200))) (fun _ hk => hk.2) (.int .i64 (wrap64 (rd y190 0)))) (fun _ hk => hk.2) (.int .i64 0)) (fun _ hk => hk.2) (.int .i64 0)) (fun _ hk => hk.2) (.int .i64 0)) (fun _ hk => hk.2) (.slice none 0 0)) (fun _ hk => ⟨hk.1.1.1, ⟨hk.1.1.2, hk.1.2⟩⟩)⟩
            have n2_ : Aside0 ((((((w44.setCell ⟨gb200, 0, none⟩ (.int .i64 (wrap64 (rd y190 0)))).setCell ⟨gb200, 1, none⟩ (.int .i64 0)).setCell ⟨gb200, 2, none⟩ (.int .i64 0)).setCell ⟨gb200, 3, none⟩ (.int .i64 0)).setCell ⟨gb200, 4, none⟩ (.slice none 0 0)).heap[gb186]? = some (.cells #[.int .i64 x187000_1, .int .i64 x187001_1, .int .i64 x187002_1, .int .i64 x187003_1, .slice none 0 0] 33 (0, 0))) := ⟨kP BK186⟩
            have n3_ : Aside0 ((((((w44.setCell ⟨gb200, 0, none⟩ (.int .i64 (wrap64 (rd y190 0)))).setCell ⟨gb200, 1, none⟩ (.int .i64 0)).setCell ⟨gb200, 2, none⟩ (.int .i64 0)).setCell ⟨gb200, 3, none⟩ (.int .i64 0)).setCell ⟨gb200, 4, none⟩ (.slice none 0 0)).heap[gb200]? = some (.cells #[.int .i64 (wrap64 (rd y190 0)), .int .i64 0, .int .i64 0, .int .i64 0, .slice none 0 0] 33 (0, 0))) := ⟨by (with_reducible repeat (first | apply bN | apply bD | apply bA)); refine blk_put (cs := #[.int .i64 (wrap64 (rd y190 0)), .int .i64 0, .int .i64 0, .int .i64 0, .slice none 0 0]) ?_ 4 _ rfl; (with_reducible repeat (first | apply bN | apply bD | apply bA)); refine blk_put (cs := #[.int .i64 (wrap64 (rd y190 0)), .int .i64 0, .int .i64 0, .int .i64 0, .slice none 0 0]) ?_ 3 _ rfl; (with_reducible repeat (first | apply bN | apply bD | apply bA)); refine blk_put (cs := #[.int .i64 (wrap64 (rd y190 0)), .int .i64 0, .int .i64 0, .int .i64 0, .slice none 0 0]) ?_ 2 _ rfl; (with_reducible repeat (first | apply bN | apply bD | apply bA)); refine blk_put (cs := #[.int .i64 (wrap64 (rd y190 0)), .int .i64 0, .int .i64 0, .int .i64 0, .slice none 0 0]) ?_ 1 _ rfl; (with_reducible repeat (first | apply bN | apply bD | apply bA)); refine blk_put (cs := #[.int .i64 0, .int .i64 0, .int .i64 0, .int .i64 0, .slice none 0 0]) ?_ 0 _ rfl; (with_reducible repeat (first | apply bN | apply bD | apply bA)); exact BK200.out⟩
            have n4_ : Aside0 (Below w.heap.size w (((((w44.setCell ⟨gb200, 0, none⟩ (.int .i64 (wrap64 (rd y190 0)))).setCell ⟨gb200, 1, none⟩ (.int .i64 0)).setCell ⟨gb200, 2, none⟩ (.int .i64 0)).setCell ⟨gb200, 3, none⟩ (.int .i64 0)).setCell ⟨gb200, 4, none⟩ (.slice none 0 0))) := ⟨bB⟩
            (try clear HO_4)
            (try clear HO_5)
            (try clear BK186)
            (try clear BK200)
            (try clear HB)
            generalize (((((w44.setCell ⟨gb200, 0, none⟩ (.int .i64 (wrap64 (rd y190 0)))).setCell ⟨gb200, 1, none⟩ (.int .i64 0)).setCell ⟨gb200, 2, none⟩ (.int .i64 0)).setCell ⟨gb200, 3, none⟩ (.int .i64 0)).setCell ⟨gb200, 4, none⟩ (.slice none 0 0)) = w48 at n0_ n1_ n2_ n3_ n4_ ⊢
            have HO_4 := n0_
            have HO_5 := n1_
            have BK186 := n2_
            have BK200 := n3_
            have HB := n4_
            clear n0_ n1_ n2_ n3_ n4_
            have n_ := aI (aM (Kd.R_drew HO_4.out)) (aI (aM (Kd.V_drew HO_5.out)) (aI (aM (blk_drew BK186.out)) (aI (aM (blk_drew BK200.out)) (aM (below_drew1 HB.out)))))
            clear HO_4 HO_5 BK186 BK200 HB
            obtain ⟨HO_4, HO_5, BK186, BK200, HB⟩ := n_
            have p201 : 0 ≤ (0 : Int) := (by omega)
            have q201 : 0 < (x4_1.length : Int) := dT
            obtain ⟨ad201, e201, hx201_0⟩ := Kd.at_int (Kd.R_reads' HO_4.out).2.2 0 p201 q201
            cases e201
            have qi201 : (0 < x4_1.length) = True := eq_true (by omega)
            (try rw [show ((0 : Int)).toNat = 0 from rfl] at hx201_0)
            (try rw [Addr.add_zero'] at hx201_0)
            replace p201 := eq_true p201
            replace q201 := eq_true q201
            have p202 : 0 ≤ (1 : Int) := (by omega)
            have q202 : 1 < (x4_1.length : Int) := dT
            obtain ⟨ad202, e202, hx202_0⟩ := Kd.at_int (Kd.R_reads' HO_4.out).2.2 1 p202 q202
            obtain rfl : ad201 = ad202 := (by injection e202)
            (try simp only [show (1 : Int).toNat = 1 from rfl, Nat.reduceMul, Nat.reduceEqDiff, Go.Addr.add, ↓reduceIte] at hx202_0)
            have qi202 : (1 < x4_1.length) = True := eq_true (by omega)
            (try rw [show ((1 : Int)).toNat = 1 from rfl] at hx202_0)
            replace p202 := eq_true p202
            replace q202 := eq_true q202
            have p203 : 0 ≤ (2 : Int) := (by omega)
            have q203 : 2 < (x4_1.length : Int) := dT
            obtain ⟨ad203, e203, hx203_0⟩ := Kd.at_int (Kd.R_reads' HO_4.out).2.2 2 p203 q203
            obtain rfl : ad201 = ad203 := (by injection e203)
            (try simp only [show (2 : Int).toNat = 2 from rfl, Nat.reduceMul, Nat.reduceEqDiff, Go.Addr.add, ↓reduceIte] at hx203_0)
            have qi203 : (2 < x4_1.length) = True := eq_true (by omega)
            (try rw [show ((2 : Int)).toNat = 2 from rfl] at hx203_0)
            replace p203 := eq_true p203
            replace q203 := eq_true q203
            refine start_ (n := 15) (S := fun w' => w'.cell? ad201 = some (.int .i64 (rd x4_1 0)) ∧ w'.cell? ⟨ad201.block, ad201.off + 1, none⟩ = some (.int .i64 (rd x4_1 1)) ∧ w'.cell? ⟨ad201.block, ad201.off + 2, none⟩ = some (.int .i64 (rd x4_1 2))) (ds := []) #[tF, tF, tF, tF, tF, tF, tF, tF, tF, tF, tF, tF, tF, tF, tF] (by kernel_rfl) rfl rfl ⟨hx201_0, hx202_0, hx203_0⟩ (fun hHeld => ?_); refine with_tabW impl_NodeOf.tab14 impl_NodeOf.bits14 (fun HT_ HW_ => ?_)
            generalize w48.drew = w49 at HO_4 HO_5 BK186 BK200 HB hx201_0 hx202_0 hx203_0 hHeld ⊢
            refine pY 0 44 #[tT, tF, tF, tF, tF, tF, tF, tF, tF, tF, tF, tF, tF, tF, tF] ?_
            refine pY 1 45 #[tT, tT, tF, tF, tF, tF, tF, tF, tF, tF, tF, tF, tF, tF, tF] ?_
            refine pY 3 47 #[tT, tT, tF, tT, tF, tF, tF, tF, tF, tF, tF, tF, tF, tF, tF] ?_
            refine pY 4 48 #[tT, tT, tF, tT, tT, tF, tF, tF, tF, tF, tF, tF, tF, tF, tF] ?_
            refine pY 6 50 #[tT, tT, tF, tT, tT, tF, tT, tF, tF, tF, tF, tF, tF, tF, tF] ?_
            refine pY 7 51 #[tT, tT, tF, tT, tT, tF, tT, tT, tF, tF, tF, tF, tF, tF, tF] ?_
            refine take_ (i := 2) (N := some 46) (v := ?_) (a' := ?_) #[tT, tT, tT, tT, tT, tF, tT, tT, tF, tF, tF, tF, tF, tF, tF] rfl rfl (take_ofW HT_.out HW_.out (by kernel_rfl)) (fun _ _ _ h => h) (Or.inl ⟨by rfl, ?_⟩) hHeld ?_ ?_
            rotate_left
            ·rintro w' ⟨s0, s1, s2⟩
             go_simp
             with_reducible rfl
            rotate_left
            ·simp only [Act.put, List.setIfInBounds_toArray, List.set_cons_zero, List.set_cons_succ, i64_w, i32_w]
             rfl
            refine pY 9 53 #[tT, tT, tT, tT, tT, tF, tT, tT, tF, tT, tF, tF, tF, tF, tF] ?_
            refine take_ (i := 5) (N := some 49) (v := ?_) (a' := ?_) #[tT, tT, tT, tT, tT, tT, tT, tT, tF, tT, tF, tF, tF, tF, tF] rfl rfl (take_ofW HT_.out HW_.out (by kernel_rfl)) (fun _ _ _ h => h) (Or.inl ⟨by rfl, ?_⟩) hHeld ?_ ?_
            rotate_left
            ·rintro w' ⟨s0, s1, s2⟩
             go_simp
             with_reducible rfl
            rotate_left
            ·simp only [Act.put, List.setIfInBounds_toArray, List.set_cons_zero, List.set_cons_succ, i64_w, i32_w]
             rfl
            refine take_ (i := 8) (N := some 52) (v := ?_) (a' := ?_) #[tT, tT, tT, tT, tT, tT, tT, tT, tT, tT, tF, tF, tF, tF, tF] rfl rfl (take_ofW HT_.out HW_.out (by kernel_rfl)) (fun _ _ _ h => h) (Or.inl ⟨by rfl, ?_⟩) hHeld ?_ ?_
            rotate_left
            ·rintro w' ⟨s0, s1, s2⟩
             go_simp
             with_reducible rfl
            rotate_left
            ·simp only [Act.put, List.setIfInBounds_toArray, List.set_cons_zero, List.set_cons_succ, i64_w, i32_w]
             rfl
            refine one_ (i := 10) (N := none) #[tT, tT, tT, tT, tT, tT, tT, tT, tT, tT, tT, tF, tF, tF, tF] rfl rfl (one_of HT_.out (by kernel_rfl)) (by decide) (fun K hK => ?_)
            have hs50 : w49.cell? ⟨gb200, 1, none⟩ = some (.int .i64 0) := (blk_cell BK200.out 1).trans rfl
            have hfs50 := blk_frozen BK200.out 1
            have hns50_0 := NB186_200.out
            have hms50_0 := NB200_186.out
            refine skip_ (w1 := ?_) (by rfl) rfl ?_ ?_
            rotate_left
            ·go_simp
             rfl
            refine hK.out _ _ ⟨((cell_far (p := ⟨gb200, _, none⟩) (by first | exact Kd.own_blk (Kd.R_ne HO_4.out BK200.out (by decide)) | (rw [add_block]; exact Kd.own_blk (Kd.R_ne HO_4.out BK200.out (by decide))) | (show (Addr.add _ _).block ≠ _; rw [add_block]; exact Kd.own_blk (Kd.R_ne HO_4.out BK200.out (by decide))) | (dsimp only; exact Kd.own_blk (Kd.R_ne HO_4.out BK200.out (by decide)))) _).trans (hHeld.1)), ((cell_far (p := ⟨gb200, _, none⟩) (by first | exact Kd.own_blk (Kd.R_ne HO_4.out BK200.out (by decide)) | (rw [add_block]; exact Kd.own_blk (Kd.R_ne HO_4.out BK200.out (by decide))) | (show (Addr.add _ _).block ≠ _; rw [add_block]; exact Kd.own_blk (Kd.R_ne HO_4.out BK200.out (by decide))) | (dsimp only; exact Kd.own_blk (Kd.R_ne HO_4.out BK200.out (by decide)))) _).trans (hHeld.2.1)), ((cell_far (p := ⟨gb200, _, none⟩) (by first | exact Kd.own_blk (Kd.R_ne HO_4.out BK200.out (by decide)) | (rw [add_block]; exact Kd.own_blk (Kd.R_ne HO_4.out BK200.out (by decide))) | (show (Addr.add _ _).block ≠ _; rw [add_block]; exact Kd.own_blk (Kd.R_ne HO_4.out BK200.out (by decide))) | (dsimp only; exact Kd.own_blk (Kd.R_ne HO_4.out BK200.out (by decide)))) _).trans (hHeld.2.2))⟩ (fun hHeld => ?_)
            clear hK K
            refine pY 11 54 #[tT, tT, tT, tT, tT, tT, tT, tT, tT, tT, tT, tT, tF, tF, tF] ?_
            refine one_ (i := 12) (N := none) #[tT, tT, tT, tT, tT, tT, tT, tT, tT, tT, tT, tT, tT, tF, tF] rfl rfl (one_of HT_.out (by kernel_rfl)) (by decide) (fun K hK => ?_)
            have hs51 : w49.cell? ⟨gb200, 2, none⟩ = some (.int .i64 0) := (blk_cell BK200.out 2).trans rfl
            have hfs51 := blk_frozen BK200.out 2
            have hns51_0 := NB186_200.out
            have hms51_0 := NB200_186.out
            refine skip_ (w1 := ?_) (by rfl) rfl ?_ ?_
            rotate_left
            ·go_simp
             rfl
            refine hK.out _ _ ⟨((cell_far (p := ⟨gb200, _, none⟩) (by first | exact Kd.own_blk (Kd.R_ne HO_4.out BK200.out (by decide)) | (rw [add_block]; exact Kd.own_blk (Kd.R_ne HO_4.out BK200.out (by decide))) | (show (Addr.add _ _).block ≠ _; rw [add_block]; exact Kd.own_blk (Kd.R_ne HO_4.out BK200.out (by decide))) | (dsimp only; exact Kd.own_blk (Kd.R_ne HO_4.out BK200.out (by decide)))) _).trans (hHeld.1)), ((cell_far (p := ⟨gb200, _, none⟩) (by first | exact Kd.own_blk (Kd.R_ne HO_4.out BK200.out (by decide)) | (rw [add_block]; exact Kd.own_blk (Kd.R_ne HO_4.out BK200.out (by decide))) | (show (Addr.add _ _).block ≠ _; rw [add_block]; exact Kd.own_blk (Kd.R_ne HO_4.out BK200.out (by decide))) | (dsimp only; exact Kd.own_blk (Kd.R_ne HO_4.out BK200.out (by decide)))) _).trans (hHeld.2.1)), ((cell_far (p := ⟨gb200, _, none⟩) (by first | exact Kd.own_blk (Kd.R_ne HO_4.out BK200.out (by decide)) | (rw [add_block]; exact Kd.own_blk (Kd.R_ne HO_4.out BK200.out (by decide))) | (show (Addr.add _ _).block ≠ _; rw [add_block]; exact Kd.own_blk (Kd.R_ne HO_4.out BK200.out (by decide))) | (dsimp only; exact Kd.own_blk (Kd.R_ne HO_4.out BK200.out (by decide)))) _).trans (hHeld.2.2))⟩ (fun hHeld => ?_)
            clear hK K
            refine pY 13 55 #[tT, tT, tT, tT, tT, tT, tT, tT, tT, tT, tT, tT, tT, tT, tF] ?_
            refine one_ (i := 14) (N := none) #[tT, tT, tT, tT, tT, tT, tT, tT, tT, tT, tT, tT, tT, tT, tT] rfl rfl (one_of HT_.out (by kernel_rfl)) (by decide) (fun K hK => ?_)
            have hs52 : w49.cell? ⟨gb200, 3, none⟩ = some (.int .i64 0) := (blk_cell BK200.out 3).trans rfl
            have hfs52 := blk_frozen BK200.out 3
            have hns52_0 := NB186_200.out
            have hms52_0 := NB200_186.out
            refine skip_ (w1 := ?_) (by rfl) rfl ?_ ?_
            rotate_left
            ·go_simp
             rfl
            refine hK.out _ _ ⟨((cell_far (p := ⟨gb200, _, none⟩) (by first | exact Kd.own_blk (Kd.R_ne HO_4.out BK200.out (by decide)) | (rw [add_block]; exact Kd.own_blk (Kd.R_ne HO_4.out BK200.out (by decide))) | (show (Addr.add _ _).block ≠ _; rw [add_block]; exact Kd.own_blk (Kd.R_ne HO_4.out BK200.out (by decide))) | (dsimp only; exact Kd.own_blk (Kd.R_ne HO_4.out BK200.out (by decide)))) _).trans (hHeld.1)), ((cell_far (p := ⟨gb200, _, none⟩) (by first | exact Kd.own_blk (Kd.R_ne HO_4.out BK200.out (by decide)) | (rw [add_block]; exact Kd.own_blk (Kd.R_ne HO_4.out BK200.out (by decide))) | (show (Addr.add _ _).block ≠ _; rw [add_block]; exact Kd.own_blk (Kd.R_ne HO_4.out BK200.out (by decide))) | (dsimp only; exact Kd.own_blk (Kd.R_ne HO_4.out BK200.out (by decide)))) _).trans (hHeld.2.1)), ((cell_far (p := ⟨gb200, _, none⟩) (by first | exact Kd.own_blk (Kd.R_ne HO_4.out BK200.out (by decide)) | (rw [add_block]; exact Kd.own_blk (Kd.R_ne HO_4.out BK200.out (by decide))) | (show (Addr.add _ _).block ≠ _; rw [add_block]; exact Kd.own_blk (Kd.R_ne HO_4.out BK200.out (by decide))) | (dsimp only; exact Kd.own_blk (Kd.R_ne HO_4.out BK200.out (by decide)))) _).trans (hHeld.2.2))⟩ (fun hHeld => ?_)
            clear hK K
            refine done_ (done_of HT_.out (by kernel_rfl)) ?_
            have n0_ : Aside0 (Kd.R (Kd.int .i64) 3 (((w49.setCell ⟨gb200, 1, none⟩ (.int .i64 (rd x4_1 0))).setCell ⟨gb200, 2, none⟩ (.int .i64 (rd x4_1 1))).setCell ⟨gb200, 3, none⟩ (.int .i64 (rd x4_1 2))) w.heap.size (fun _ => True) (.slice (some ad201) x4_1.length co47) x4_1) := ⟨rP (Kd.R_mono (Kd.R_far (p := ⟨gb200, 3, none⟩) (Kd.R_far (p := ⟨gb200, 2, none⟩) (Kd.R_far (p := ⟨gb200, 1, none⟩) (Kd.R_types HO_4.out BK200.out (by decide)) (fun _ hk => hk.2) (.int .i64 (rd x4_1 0))) (fun _ hk => hk.2) (.int .i64 (rd x4_1 1))) (fun _ hk => hk.2) (.int .i64 (rd x4_1 2))) (fun _ hk => trivial))⟩
            have n1_ : Aside0 (Kd.V (Kd.int .u8) 5 (((w49.setCell ⟨gb200, 1, none⟩ (.int .i64 (rd x4_1 0))).setCell ⟨gb200, 2, none⟩ (.int .i64 (rd x4_1 1))).setCell ⟨gb200, 3, none⟩ (.int .i64 (rd x4_1 2))) w.heap.size (fun k_ => some k_ ≠ (.slice (some ad201) x4_1.length co47 : Value).ownBlock ∧ k_ ≠ gb186 ∧ k_ ≠ gb200) (.slice (some ad199) y190.length co43) y190) := ⟨by (with_reducible repeat (first | apply Kd.V_alloc | apply Kd.V_drewN | apply Kd.V_drew)); exact Kd.V_mono (Kd.V_far (p := ⟨gb200, 3, none⟩) (Kd.V_far (p := ⟨gb200, 2, none⟩) (Kd.V_far (p := ⟨gb200, 1, none⟩) (Kd.V_mono HO_5.out (fun k_ hk => (⟨hk, hk.2.2⟩ : _ ∧ k_ ≠ gb200))) (fun _ hk => hk.2) (.int .i64 (rd x4_1 0))) (fun _ hk => hk.2) (.int .i64 (rd x4_1 1))) (fun _ hk => hk.2) (.int .i64 (rd x4_1 2))) (fun _ hk => ⟨hk.1.1, ⟨hk.1.2.1, hk.1.2.2⟩⟩)⟩
            have n2_ : Aside0 ((((w49.setCell ⟨gb200, 1, none⟩ (.int .i64 (rd x4_1 0))).setCell ⟨gb200, 2, none⟩ (.int .i64 (rd x4_1 1))).setCell ⟨gb200, 3, none⟩ (.int .i64 (rd x4_1 2))).heap[gb186]? = some (.cells #[.int .i64 x187000_1, .int .i64 x187001_1, .int .i64 x187002_1, .int .i64 x187003_1, .slice none 0 0] 33 (0, 0))) := ⟨kP BK186⟩
            have n3_ : Aside0 ((((w49.setCell ⟨gb200, 1, none⟩ (.int .i64 (rd x4_1 0))).setCell ⟨gb200, 2, none⟩ (.int .i64 (rd x4_1 1))).setCell ⟨gb200, 3, none⟩ (.int .i64 (rd x4_1 2))).heap[gb200]? = some (.cells #[.int .i64 (wrap64 (rd y190 0)), .int .i64 (rd x4_1 0), .int .i64 (rd x4_1 1), .int .i64 (rd x4_1 2), .slice none 0 0] 33 (0, 0))) := ⟨by (with_reducible repeat (first | apply bN | apply bD | apply bA)); refine blk_put (cs := #[.int .i64 (wrap64 (rd y190 0)), .int .i64 (rd x4_1 0), .int .i64 (rd x4_1 1), .int .i64 0, .slice none 0 0]) ?_ 3 _ rfl; (with_reducible repeat (first | apply bN | apply bD | apply bA)); refine blk_put (cs := #[.int .i64 (wrap64 (rd y190 0)), .int .i64 (rd x4_1 0), .int .i64 0, .int .i64 0, .slice none 0 0]) ?_ 2 _ rfl; (with_reducible repeat (first | apply bN | apply bD | apply bA)); refine blk_put (cs := #[.int .i64 (wrap64 (rd y190 0)), .int .i64 0, .int .i64 0, .int .i64 0, .slice none 0 0]) ?_ 1 _ rfl; (with_reducible repeat (first | apply bN | apply bD | apply bA)); exact BK200.out⟩
            have n4_ : Aside0 (Below w.heap.size w (((w49.setCell ⟨gb200, 1, none⟩ (.int .i64 (rd x4_1 0))).setCell ⟨gb200, 2, none⟩ (.int .i64 (rd x4_1 1))).setCell ⟨gb200, 3, none⟩ (.int .i64 (rd x4_1 2)))) := ⟨bB⟩
            (try clear HO_4)
            (try clear HO_5)
            (try clear BK186)
            (try clear BK200)
            (try clear HB)
            generalize (((w49.setCell ⟨gb200, 1, none⟩ (.int .i64 (rd x4_1 0))).setCell ⟨gb200, 2, none⟩ (.int .i64 (rd x4_1 1))).setCell ⟨gb200, 3, none⟩ (.int .i64 (rd x4_1 2))) = w53 at n0_ n1_ n2_ n3_ n4_ ⊢
            have HO_4 := n0_
            have HO_5 := n1_
            have BK186 := n2_
            have BK200 := n3_
            have HB := n4_
            clear n0_ n1_ n2_ n3_ n4_
            have q54 : (3 : Int) ≤ ((x4_1.length : Int) : Int) := dT
            obtain ⟨i054, hi054, _, hsz54, _⟩ := info_parts info3
            have hcut54 := cut_from (P := Try.prog) 31 3 .i64 Try.underlying31 hi054 1 hsz54 (some ad201) x4_1.length co47 3 (by omega) q54
            have hr54 := Kd.Q_drop (k := (3 : Int).toNat) (Kd.Q_of_R HO_4.out) (by omega)
            obtain ⟨A54, hA54⟩ : ∃ A1, A1 = (if co47 = (3 : Int).toNat then (some ad201) else ((some ad201) : Option Addr).map (·.add ((3 : Int).toNat * 1))) := ⟨_, rfl⟩
            obtain ⟨c54, hc54⟩ : ∃ c1, c1 = co47 - (3 : Int).toNat := ⟨_, rfl⟩
            have hy54 : y204.length = x4_1.length - (3 : Int).toNat := (by rw [Ny204.out, List.length_drop])
            rw [← Ny204.out] at hr54
            rw [← hy54, ← hA54, ← hc54] at hcut54
            replace hr54 : Kd.Q (Kd.int .i64) 3 w53 w.heap.size (fun _ => True) (.slice A54 y204.length c54) y204 := (by rw [hA54, hc54, hy54]; exact hr54)
            have HE54 : Aside0 ((Value.slice A54 y204.length c54).ownBlock = (.slice (some ad201) x4_1.length co47 : Value).ownBlock) := ⟨by rw [hA54]; split <;> (cases ((some ad201) : Option Addr) <;> rfl)⟩
            clear hy54 hi054 hsz54 HO_4 hA54 hc54
            have HO206 := aM hr54
            clear hr54
            replace q54 := eq_true q54
            have n_ := aM (Kd.V_mono (ok' := fun k_ => (some k_ ≠ (.slice A54 y204.length c54 : Value).ownBlock ∧ (k_ ≠ gb186 ∧ k_ ≠ gb200))) HO_5.out (fun k_ hk => ⟨(by rw [HE54.out]; exact hk.1), ⟨hk.2.1, hk.2.2⟩⟩))
            clear HO_5
            have HO_5 := n_
            clear n_
            have hcz55_0 : w53.cell? ⟨gb200, 0, none⟩ = some (.int .i64 (wrap64 (rd y190 0))) := (blk_cell BK200.out 0).trans rfl
            have hcz55_1 := cZ1 BK200
            have hcz55_2 : w53.cell? ⟨gb200, 2, none⟩ = some (.int .i64 (rd x4_1 1)) := (blk_cell BK200.out 2).trans rfl
            have hcz55_3 : w53.cell? ⟨gb200, 3, none⟩ = some (.int .i64 (rd x4_1 2)) := (blk_cell BK200.out 3).trans rfl
            have hcz55_4 : w53.cell? ⟨gb200, 4, none⟩ = some (.slice none 0 0) := (blk_cell BK200.out 4).trans rfl
            have hfz55_0 := fZ BK200 0
            have hfz55_1 := fZ BK200 1
            have hfz55_2 := fZ BK200 2
            have hfz55_3 := fZ BK200 3
            have hfz55_4 := fZ BK200 4
            try go_wp2_with (first | ((with_reducible refine gate_callee (f := 18) rfl ?_); refine gL (some 60) Try.func18 #[.agg #[.int .i64 (wrap64 (rd y190 0)), .int .i64 (rd x4_1 0), .int .i64 (rd x4_1 1), .int .i64 (rd x4_1 2), .slice A54 y204.length c54]] ?_; (with_reducible refine (impl_NodeText.calls k1 (wrap64 (rd y190 0)) (rd x4_1 0) (rd x4_1 1) (rd x4_1 2) _ _ y204 t207 _ ?side1 ?side2 A25.out).mono ?_); (case side1 => refine (Kd.Q_reads' (e := 3) (base := w.heap.size) (ok := fun k_ => True) (n := y204.length) (c := c54) ?_).2.2; exact (by (with_reducible repeat (first | apply Kd.Q_alloc | apply Kd.Q_drewN | apply Kd.Q_drew)); exact (Kd.Q_mono (Kd.Q_far (p := ⟨gb200, 4, none⟩) (Kd.Q_types HO206.out BK200.out (by decide)) (fun _ hk => hk.2) (.slice A54 y204.length c54)) (fun _ h_ => h_.1)))); (case side2 => exact (Kd.Q_reads' HO206.out).2.1); rintro e w56 ⟨rfl, hb⟩; refine ⟨_, rfl, ?_⟩; have n_ := aI (aM (Kd.Q_below (by (with_reducible repeat (first | apply Kd.Q_alloc | apply Kd.Q_drewN | apply Kd.Q_drew)); exact (Kd.Q_mono (Kd.Q_far (p := ⟨gb200, 4, none⟩) (Kd.Q_types HO206.out BK200.out (by decide)) (fun _ hk => hk.2) (.slice A54 y204.length c54)) (fun _ h_ => h_.1))) hb)) (aI (aM (Kd.V_below (by (with_reducible repeat (first | apply Kd.V_alloc | apply Kd.V_drewN | apply Kd.V_drew)); exact (Kd.V_mono (Kd.V_far (p := ⟨gb200, 4, none⟩) (Kd.V_mono HO_5.out (fun k_ hk => (⟨hk, hk.2.2⟩ : _ ∧ k_ ≠ gb200))) (fun _ hk => hk.2) (.slice A54 y204.length c54)) (fun _ h_ => h_.1))) hb)) (aI (kB BK186 hb) (aI (aM (blk_below (g := gb200) (o := .cells #[.int .i64 (wrap64 (rd y190 0)), .int .i64 (rd x4_1 0), .int .i64 (rd x4_1 1), .int .i64 (rd x4_1 2), .slice A54 y204.length c54] 33 (0, 0)) (by (with_reducible repeat (first | apply bN | apply bD | apply bA)); refine blk_put (cs := #[.int .i64 (wrap64 (rd y190 0)), .int .i64 (rd x4_1 0), .int .i64 (rd x4_1 1), .int .i64 (rd x4_1 2), .slice none 0 0]) ?_ 4 _ rfl; (with_reducible repeat (first | apply bN | apply bD | apply bA)); exact BK200.out) hb)) (sB HB hb)))); clear HO206 HO_5 BK186 BK200 HB; obtain ⟨HO206, HO_5, BK186, BK200, HB⟩ := n_; (try clear hb); have hcz57_0 := cZ0 BK186; have hcz57_1 := cZ1 BK186; have hcz57_2 : w56.cell? ⟨gb186, 2, none⟩ = some (.int .i64 x187002_1) := (blk_cell BK186.out 2).trans rfl; have hcz57_3 : w56.cell? ⟨gb186, 3, none⟩ = some (.int .i64 x187003_1) := (blk_cell BK186.out 3).trans rfl; have hcz57_4 : w56.cell? ⟨gb186, 4, none⟩ = some (.slice none 0 0) := (blk_cell BK186.out 4).trans rfl; have hfz57_0 := fZ BK186 0; have hfz57_1 := fZ BK186 1; have hfz57_2 := fZ BK186 2; have hfz57_3 := fZ BK186 3; have hfz57_4 := fZ BK186 4))
            refine bodyPost_ret (results_ct rfl _ _ gb186 33 #[.int .i64 0, .int .i64 0, .int .i64 0, .int .i64 0, .slice none 0 0] (0, 0) _ rfl (by (with_reducible repeat (first | apply bN | apply bD | apply bA)); refine blk_put (cs := #[.int .i64 0, .int .i64 0, .int .i64 0, .int .i64 0, .slice none 0 0]) ?_ 4 _ rfl; (with_reducible repeat (first | apply bN | apply bD | apply bA)); refine blk_put (cs := #[.int .i64 0, .int .i64 0, .int .i64 0, .int .i64 x187003_1, .slice none 0 0]) ?_ 3 _ rfl; (with_reducible repeat (first | apply bN | apply bD | apply bA)); refine blk_put (cs := #[.int .i64 0, .int .i64 0, .int .i64 x187002_1, .int .i64 x187003_1, .slice none 0 0]) ?_ 2 _ rfl; (with_reducible repeat (first | apply bN | apply bD | apply bA)); refine blk_put (cs := #[.int .i64 0, .int .i64 x187001_1, .int .i64 x187002_1, .int .i64 x187003_1, .slice none 0 0]) ?_ 1 _ rfl; (with_reducible repeat (first | apply bN | apply bD | apply bA)); refine blk_put (cs := #[.int .i64 x187000_1, .int .i64 x187001_1, .int .i64 x187002_1, .int .i64 x187003_1, .slice none 0 0]) ?_ 0 _ rfl; (with_reducible repeat (first | apply bN | apply bD | apply bA)); exact BK186.out) Try.underlying33 rfl (by kernel_rfl)) rfl ?_
            exact ⟨_, eW, Kd.Q_of_R (by first | exact Kd.R_nil _ _ _ _ _ | exact Kd.N_nil _ _ _ _ _ | exact Kd.V_nil _ _ _ _ _ | exact Kd.Q_nil _ _ _ _ _ | exact Kd.S_nil _ _ _ _ _), bB⟩
          ·rw [if_neg c24] at H
           exact absurd H (by simp)
         ·rw [if_neg c23] at H
          exact absurd H (by simp)
        ·rw [if_neg c22] at H
         exact absurd H (by simp)
       ·rw [if_neg c21] at H
        exact absurd H (by simp)
      ·rw [if_neg c20] at H
       have c20b0 : decide (3 ≤ (x4_1.length : Int)) = false := decide_eq_false c20
       have c20b1 : decide (3 ≤ x4_1.length) = false := decide_eq_false (by omega)
       clear c20
       replace H := Option.bind_eq_some_iff.mp H
       obtain ⟨t208, A580, H⟩ := H
       try dsimp only at H
       have A58 := aM A580
       clear A580
       by_cases c59 : t208.toList = a0.toList
       ·rw [if_pos c59] at H
        have c59b0 : (t208.toList == a0.toList) = true := beq_iff_eq.mpr c59
        have c59b1 : (t208.toList != a0.toList) = false := bne_eq_false_iff_eq.mpr c59
        clear c59
        simp only [Option.some.injEq, Prod.mk.injEq] at H
        obtain ⟨rfl, rfl, rfl, rfl, rfl, rfl⟩ := H
        obtain ⟨Ao60, co60, eo60⟩ := Kd.V_slice HO_5.out
        subst eo60
        have p199 : 0 ≤ (0 : Int) := (by omega)
        have q199 : 0 < (y190.length : Int) := dT
        obtain ⟨ad199, e199, hx199_0⟩ := Kd.at_int (Kd.V_reads' HO_5.out).2.2 0 p199 q199
        cases e199
        have qi199 : (0 < y190.length) = True := eq_true (by omega)
        (try rw [show ((0 : Int)).toNat = 0 from rfl] at hx199_0)
        (try rw [Addr.add_zero'] at hx199_0)
        replace p199 := eq_true p199
        replace q199 := eq_true q199
        go_wp2_with (first | ((with_reducible refine gate_dst (N := 10) rfl ?_); refine bE 10 #[.int .i64 0, .int .i64 0, .int .i64 0, .int .i64 0, .slice none 0 0] 33 ?_; intro gb200 hg w61 hbox hb; have n_ := aI (rB HO_4 hb) (aI (aM (Kd.V_below (Kd.V_elderB (by (with_reducible repeat (first | apply Kd.V_alloc | apply Kd.V_drewN | apply Kd.V_drew)); exact HO_5.out) gb200 (Nat.le_of_eq hg.symm)) hb)) (aI (kB BK186 hb) (aI (sB HB hb) (aI (aM hbox) (aI (gE HB hg) (aI (gE HB hg) (aI (nL BK186 hg) (nG BK186 hg)))))))); clear HO_4 HO_5 BK186 HB; obtain ⟨HO_4, HO_5, BK186, HB, BK200, GW200, GE200, NB186_200, NB200_186⟩ := n_; (try clear hb hbox hg); have hnb62 := NB200_186.out; have hnc62 := NB186_200.out; have hcz63_0 := cZ0 BK200; have hcz63_1 := cZ1 BK200; have hcz63_2 : w61.cell? ⟨gb200, 2, none⟩ = some (.int .i64 0) := (blk_cell BK200.out 2).trans rfl; have hcz63_3 : w61.cell? ⟨gb200, 3, none⟩ = some (.int .i64 0) := (blk_cell BK200.out 3).trans rfl; have hcz63_4 : w61.cell? ⟨gb200, 4, none⟩ = some (.slice none 0 0) := (blk_cell BK200.out 4).trans rfl; have hfz63_0 := fZ BK200 0; have hfz63_1 := fZ BK200 1; have hfz63_2 := fZ BK200 2; have hfz63_3 := fZ BK200 3; have hfz63_4 := fZ BK200 4; obtain ⟨Ao64, co64, eo64⟩ := Kd.R_slice HO_4.out; subst eo64) | ((with_reducible refine gate_callee (f := 18) rfl ?_); refine gL (some 60) Try.func18 #[.agg #[.int .i64 (wrap64 (rd y190 0)), .int .i64 0, .int .i64 0, .int .i64 0, .slice none 0 0]] ?_; (refine (impl_NodeText.calls k1 (wrap64 (rd y190 0)) 0 0 0 _ _ ([] : List Int) t208 _ ?side1 ?side2 A58.out).mono ?_); (case side1 => exact Kd.C_nil _ _); (case side2 => exact Nat.le_refl _); rintro e w65 ⟨rfl, hb⟩; refine ⟨_, rfl, ?_⟩; have n_ := aI (aM (Kd.R_below (rP (Kd.R_mono (Kd.R_far (p := ⟨gb200, 4, none⟩) (Kd.R_far (p := ⟨gb200, 3, none⟩) (Kd.R_far (p := ⟨gb200, 2, none⟩) (Kd.R_far (p := ⟨gb200, 1, none⟩) (Kd.R_far (p := ⟨gb200, 0, none⟩) (Kd.R_types HO_4.out BK200.out (by decide)) (fun _ hk => hk.2) (.int .i64 (wrap64 (rd y190 0)))) (fun _ hk => hk.2) (.int .i64 0)) (fun _ hk => hk.2) (.int .i64 0)) (fun _ hk => hk.2) (.int .i64 0)) (fun _ hk => hk.2) (.slice none 0 0)) (fun _ h_ => h_.1))) hb)) (aI (aM (Kd.V_below (by (with_reducible repeat (first | apply Kd.V_alloc | apply Kd.V_drewN | apply Kd.V_drew)); exact (Kd.V_mono (Kd.V_far (p := ⟨gb200, 4, none⟩) (Kd.V_far (p := ⟨gb200, 3, none⟩) (Kd.V_far (p := ⟨gb200, 2, none⟩) (Kd.V_far (p := ⟨gb200, 1, none⟩) (Kd.V_far (p := ⟨gb200, 0, none⟩) (Kd.V_mono HO_5.out (fun k_ hk => (⟨hk, hk.2⟩ : _ ∧ k_ ≠ gb200))) (fun _ hk => hk.2) (.int .i64 (wrap64 (rd y190 0)))) (fun _ hk => hk.2) (.int .i64 0)) (fun _ hk => hk.2) (.int .i64 0)) (fun _ hk => hk.2) (.int .i64 0)) (fun _ hk => hk.2) (.slice none 0 0)) (fun _ h_ => h_.1))) hb)) (aI (kB BK186 hb) (aI (aM (blk_below (g := gb200) (o := .cells #[.int .i64 (wrap64 (rd y190 0)), .int .i64 0, .int .i64 0, .int .i64 0, .slice none 0 0] 33 (0, 0)) (by (with_reducible repeat (first | apply bN | apply bD | apply bA)); refine blk_put (cs := #[.int .i64 (wrap64 (rd y190 0)), .int .i64 0, .int .i64 0, .int .i64 0, .slice none 0 0]) ?_ 4 _ rfl; (with_reducible repeat (first | apply bN | apply bD | apply bA)); refine blk_put (cs := #[.int .i64 (wrap64 (rd y190 0)), .int .i64 0, .int .i64 0, .int .i64 0, .slice none 0 0]) ?_ 3 _ rfl; (with_reducible repeat (first | apply bN | apply bD | apply bA)); refine blk_put (cs := #[.int .i64 (wrap64 (rd y190 0)), .int .i64 0, .int .i64 0, .int .i64 0, .slice none 0 0]) ?_ 2 _ rfl; (with_reducible repeat (first | apply bN | apply bD | apply bA)); refine blk_put (cs := #[.int .i64 (wrap64 (rd y190 0)), .int .i64 0, .int .i64 0, .int .i64 0, .slice none 0 0]) ?_ 1 _ rfl; (with_reducible repeat (first | apply bN | apply bD | apply bA)); refine blk_put (cs := #[.int .i64 0, .int .i64 0, .int .i64 0, .int .i64 0, .slice none 0 0]) ?_ 0 _ rfl; (with_reducible repeat (first | apply bN | apply bD | apply bA)); exact BK200.out) hb)) (sB HB hb)))); clear HO_4 HO_5 BK186 BK200 HB; obtain ⟨HO_4, HO_5, BK186, BK200, HB⟩ := n_; (try clear hb); have hcz66_0 : w65.cell? ⟨gb200, 0, none⟩ = some (.int .i64 (wrap64 (rd y190 0))) := (blk_cell BK200.out 0).trans rfl; have hcz66_1 := cZ1 BK200; have hcz66_2 : w65.cell? ⟨gb200, 2, none⟩ = some (.int .i64 0) := (blk_cell BK200.out 2).trans rfl; have hcz66_3 : w65.cell? ⟨gb200, 3, none⟩ = some (.int .i64 0) := (blk_cell BK200.out 3).trans rfl; have hcz66_4 : w65.cell? ⟨gb200, 4, none⟩ = some (.slice none 0 0) := (blk_cell BK200.out 4).trans rfl; have hfz66_0 := fZ BK200 0; have hfz66_1 := fZ BK200 1; have hfz66_2 := fZ BK200 2; have hfz66_3 := fZ BK200 3; have hfz66_4 := fZ BK200 4; have hcz67_0 := cZ0 BK186; have hcz67_1 := cZ1 BK186; have hcz67_2 : w65.cell? ⟨gb186, 2, none⟩ = some (.int .i64 x187002_1) := (blk_cell BK186.out 2).trans rfl; have hcz67_3 : w65.cell? ⟨gb186, 3, none⟩ = some (.int .i64 x187003_1) := (blk_cell BK186.out 3).trans rfl; have hcz67_4 : w65.cell? ⟨gb186, 4, none⟩ = some (.slice none 0 0) := (blk_cell BK186.out 4).trans rfl; have hfz67_0 := fZ BK186 0; have hfz67_1 := fZ BK186 1; have hfz67_2 := fZ BK186 2; have hfz67_3 := fZ BK186 3; have hfz67_4 := fZ BK186 4))
        refine bodyPost_ret (results_ct rfl _ _ gb186 33 #[.int .i64 (wrap64 (rd y190 0)), .int .i64 0, .int .i64 0, .int .i64 0, .slice none 0 0] (0, 0) _ rfl (by (with_reducible repeat (first | apply bN | apply bD | apply bA)); refine blk_put (cs := #[.int .i64 (wrap64 (rd y190 0)), .int .i64 0, .int .i64 0, .int .i64 0, .slice none 0 0]) ?_ 4 _ rfl; (with_reducible repeat (first | apply bN | apply bD | apply bA)); refine blk_put (cs := #[.int .i64 (wrap64 (rd y190 0)), .int .i64 0, .int .i64 0, .int .i64 x187003_1, .slice none 0 0]) ?_ 3 _ rfl; (with_reducible repeat (first | apply bN | apply bD | apply bA)); refine blk_put (cs := #[.int .i64 (wrap64 (rd y190 0)), .int .i64 0, .int .i64 x187002_1, .int .i64 x187003_1, .slice none 0 0]) ?_ 2 _ rfl; (with_reducible repeat (first | apply bN | apply bD | apply bA)); refine blk_put (cs := #[.int .i64 (wrap64 (rd y190 0)), .int .i64 x187001_1, .int .i64 x187002_1, .int .i64 x187003_1, .slice none 0 0]) ?_ 1 _ rfl; (with_reducible repeat (first | apply bN | apply bD | apply bA)); refine blk_put (cs := #[.int .i64 x187000_1, .int .i64 x187001_1, .int .i64 x187002_1, .int .i64 x187003_1, .slice none 0 0]) ?_ 0 _ rfl; (with_reducible repeat (first | apply bN | apply bD | apply bA)); exact BK186.out) Try.underlying33 rfl (by kernel_rfl)) rfl ?_
        exact ⟨_, eW, Kd.Q_of_R (by first | exact Kd.R_nil _ _ _ _ _ | exact Kd.N_nil _ _ _ _ _ | exact Kd.V_nil _ _ _ _ _ | exact Kd.Q_nil _ _ _ _ _ | exact Kd.S_nil _ _ _ _ _), bB⟩
       ·rw [if_neg c59] at H
        have c59b0 : (t208.toList == a0.toList) = false := beq_eq_false_iff_ne.mpr c59
        have c59b1 : (t208.toList != a0.toList) = true := bne_iff_ne.mpr c59
        simp only [Option.some.injEq, Prod.mk.injEq] at H
        obtain ⟨rfl, rfl, rfl, rfl, rfl, rfl⟩ := H
        obtain ⟨Ao68, co68, eo68⟩ := Kd.V_slice HO_5.out
        subst eo68
        have p199 : 0 ≤ (0 : Int) := (by omega)
        have q199 : 0 < (y190.length : Int) := dT
        obtain ⟨ad199, e199, hx199_0⟩ := Kd.at_int (Kd.V_reads' HO_5.out).2.2 0 p199 q199
        cases e199
        have qi199 : (0 < y190.length) = True := eq_true (by omega)
        (try rw [show ((0 : Int)).toNat = 0 from rfl] at hx199_0)
        (try rw [Addr.add_zero'] at hx199_0)
        replace p199 := eq_true p199
        replace q199 := eq_true q199
        go_wp2_with (first | ((with_reducible refine gate_dst (N := 10) rfl ?_); refine bE 10 #[.int .i64 0, .int .i64 0, .int .i64 0, .int .i64 0, .slice none 0 0] 33 ?_; intro gb200 hg w69 hbox hb; have n_ := aI (rB HO_4 hb) (aI (aM (Kd.V_below (Kd.V_elderB (by (with_reducible repeat (first | apply Kd.V_alloc | apply Kd.V_drewN | apply Kd.V_drew)); exact HO_5.out) gb200 (Nat.le_of_eq hg.symm)) hb)) (aI (kB BK186 hb) (aI (sB HB hb) (aI (aM hbox) (aI (gE HB hg) (aI (gE HB hg) (aI (nL BK186 hg) (nG BK186 hg)))))))); clear HO_4 HO_5 BK186 HB; obtain ⟨HO_4, HO_5, BK186, HB, BK200, GW200, GE200, NB186_200, NB200_186⟩ := n_; (try clear hb hbox hg); have hnb70 := NB200_186.out; have hnc70 := NB186_200.out; have hcz71_0 := cZ0 BK200; have hcz71_1 := cZ1 BK200; have hcz71_2 : w69.cell? ⟨gb200, 2, none⟩ = some (.int .i64 0) := (blk_cell BK200.out 2).trans rfl; have hcz71_3 : w69.cell? ⟨gb200, 3, none⟩ = some (.int .i64 0) := (blk_cell BK200.out 3).trans rfl; have hcz71_4 : w69.cell? ⟨gb200, 4, none⟩ = some (.slice none 0 0) := (blk_cell BK200.out 4).trans rfl; have hfz71_0 := fZ BK200 0; have hfz71_1 := fZ BK200 1; have hfz71_2 := fZ BK200 2; have hfz71_3 := fZ BK200 3; have hfz71_4 := fZ BK200 4; obtain ⟨Ao72, co72, eo72⟩ := Kd.R_slice HO_4.out; subst eo72) | ((with_reducible refine gate_callee (f := 18) rfl ?_); refine gL (some 60) Try.func18 #[.agg #[.int .i64 (wrap64 (rd y190 0)), .int .i64 0, .int .i64 0, .int .i64 0, .slice none 0 0]] ?_; (refine (impl_NodeText.calls k1 (wrap64 (rd y190 0)) 0 0 0 _ _ ([] : List Int) t208 _ ?side1 ?side2 A58.out).mono ?_); (case side1 => exact Kd.C_nil _ _); (case side2 => exact Nat.le_refl _); rintro e w73 ⟨rfl, hb⟩; refine ⟨_, rfl, ?_⟩; have n_ := aI (aM (Kd.R_below (rP (Kd.R_mono (Kd.R_far (p := ⟨gb200, 4, none⟩) (Kd.R_far (p := ⟨gb200, 3, none⟩) (Kd.R_far (p := ⟨gb200, 2, none⟩) (Kd.R_far (p := ⟨gb200, 1, none⟩) (Kd.R_far (p := ⟨gb200, 0, none⟩) (Kd.R_types HO_4.out BK200.out (by decide)) (fun _ hk => hk.2) (.int .i64 (wrap64 (rd y190 0)))) (fun _ hk => hk.2) (.int .i64 0)) (fun _ hk => hk.2) (.int .i64 0)) (fun _ hk => hk.2) (.int .i64 0)) (fun _ hk => hk.2) (.slice none 0 0)) (fun _ h_ => h_.1))) hb)) (aI (aM (Kd.V_below (by (with_reducible repeat (first | apply Kd.V_alloc | apply Kd.V_drewN | apply Kd.V_drew)); exact (Kd.V_mono (Kd.V_far (p := ⟨gb200, 4, none⟩) (Kd.V_far (p := ⟨gb200, 3, none⟩) (Kd.V_far (p := ⟨gb200, 2, none⟩) (Kd.V_far (p := ⟨gb200, 1, none⟩) (Kd.V_far (p := ⟨gb200, 0, none⟩) (Kd.V_mono HO_5.out (fun k_ hk => (⟨hk, hk.2⟩ : _ ∧ k_ ≠ gb200))) (fun _ hk => hk.2) (.int .i64 (wrap64 (rd y190 0)))) (fun _ hk => hk.2) (.int .i64 0)) (fun _ hk => hk.2) (.int .i64 0)) (fun _ hk => hk.2) (.int .i64 0)) (fun _ hk => hk.2) (.slice none 0 0)) (fun _ h_ => h_.1))) hb)) (aI (kB BK186 hb) (aI (aM (blk_below (g := gb200) (o := .cells #[.int .i64 (wrap64 (rd y190 0)), .int .i64 0, .int .i64 0, .int .i64 0, .slice none 0 0] 33 (0, 0)) (by (with_reducible repeat (first | apply bN | apply bD | apply bA)); refine blk_put (cs := #[.int .i64 (wrap64 (rd y190 0)), .int .i64 0, .int .i64 0, .int .i64 0, .slice none 0 0]) ?_ 4 _ rfl; (with_reducible repeat (first | apply bN | apply bD | apply bA)); refine blk_put (cs := #[.int .i64 (wrap64 (rd y190 0)), .int .i64 0, .int .i64 0, .int .i64 0, .slice none 0 0]) ?_ 3 _ rfl; (with_reducible repeat (first | apply bN | apply bD | apply bA)); refine blk_put (cs := #[.int .i64 (wrap64 (rd y190 0)), .int .i64 0, .int .i64 0, .int .i64 0, .slice none 0 0]) ?_ 2 _ rfl; (with_reducible repeat (first | apply bN | apply bD | apply bA)); refine blk_put (cs := #[.int .i64 (wrap64 (rd y190 0)), .int .i64 0, .int .i64 0, .int .i64 0, .slice none 0 0]) ?_ 1 _ rfl; (with_reducible repeat (first | apply bN | apply bD | apply bA)); refine blk_put (cs := #[.int .i64 0, .int .i64 0, .int .i64 0, .int .i64 0, .slice none 0 0]) ?_ 0 _ rfl; (with_reducible repeat (first | apply bN | apply bD | apply bA)); exact BK200.out) hb)) (sB HB hb)))); clear HO_4 HO_5 BK186 BK200 HB; obtain ⟨HO_4, HO_5, BK186, BK200, HB⟩ := n_; (try clear hb); have hcz74_0 := cZ0 BK186; have hcz74_1 := cZ1 BK186; have hcz74_2 : w73.cell? ⟨gb186, 2, none⟩ = some (.int .i64 x187002_1) := (blk_cell BK186.out 2).trans rfl; have hcz74_3 : w73.cell? ⟨gb186, 3, none⟩ = some (.int .i64 x187003_1) := (blk_cell BK186.out 3).trans rfl; have hcz74_4 : w73.cell? ⟨gb186, 4, none⟩ = some (.slice none 0 0) := (blk_cell BK186.out 4).trans rfl; have hfz74_0 := fZ BK186 0; have hfz74_1 := fZ BK186 1; have hfz74_2 := fZ BK186 2; have hfz74_3 := fZ BK186 3; have hfz74_4 := fZ BK186 4))
        refine bodyPost_ret (results_ct rfl _ _ gb186 33 #[.int .i64 0, .int .i64 0, .int .i64 0, .int .i64 0, .slice none 0 0] (0, 0) _ rfl (by (with_reducible repeat (first | apply bN | apply bD | apply bA)); refine blk_put (cs := #[.int .i64 0, .int .i64 0, .int .i64 0, .int .i64 0, .slice none 0 0]) ?_ 4 _ rfl; (with_reducible repeat (first | apply bN | apply bD | apply bA)); refine blk_put (cs := #[.int .i64 0, .int .i64 0, .int .i64 0, .int .i64 x187003_1, .slice none 0 0]) ?_ 3 _ rfl; (with_reducible repeat (first | apply bN | apply bD | apply bA)); refine blk_put (cs := #[.int .i64 0, .int .i64 0, .int .i64 x187002_1, .int .i64 x187003_1, .slice none 0 0]) ?_ 2 _ rfl; (with_reducible repeat (first | apply bN | apply bD | apply bA)); refine blk_put (cs := #[.int .i64 0, .int .i64 x187001_1, .int .i64 x187002_1, .int .i64 x187003_1, .slice none 0 0]) ?_ 1 _ rfl; (with_reducible repeat (first | apply bN | apply bD | apply bA)); refine blk_put (cs := #[.int .i64 x187000_1, .int .i64 x187001_1, .int .i64 x187002_1, .int .i64 x187003_1, .slice none 0 0]) ?_ 0 _ rfl; (with_reducible repeat (first | apply bN | apply bD | apply bA)); exact BK186.out) Try.underlying33 rfl (by kernel_rfl)) rfl ?_
        exact ⟨_, eW, Kd.Q_of_R (by first | exact Kd.R_nil _ _ _ _ _ | exact Kd.N_nil _ _ _ _ _ | exact Kd.V_nil _ _ _ _ _ | exact Kd.Q_nil _ _ _ _ _ | exact Kd.S_nil _ _ _ _ _), bB⟩
     ·rw [if_neg c19] at H
      exact absurd H (by simp)
 rw [if_neg c5] at H
 exact absurd H (by simp)

/-! ### laws_big: function 16 -/
def laws_big.f (l0 : List Int) : Option (Bool) := some (decide ((l0.length : Int) > 1048576))
set_option maxHeartbeats 8000000 in
set_option maxRecDepth 100000 in
theorem laws_big.calls (A0 : Option Addr) (c0 : Nat) (l0 : List Int) (r : Bool) (w : World) (hr0 : Kd.C (Kd.int .u8) w A0 l0.length l0) (hc0 : l0.length ≤ c0) (h : laws_big.f l0 = some r) :
  Calls Try.prog 16 #[.slice A0 l0.length c0] w fun e w' => e = .returned (.bool r) ∧ Drawn0 w w' := by
 have HR0 := aM hr0
 have HC0 := aM hc0
 clear hr0 hc0
 unfold laws_big.f at h
 have H := h
 clear h
 obtain rfl := Option.some.inj H
 go_enter Try.func16, Try.ntmps16
 go_wp2
 go_ret
 exact ⟨by first | rfl | (simp; done) | (simp [*]; done), by repeat (first | exact Drawn0.refl _ | apply Drawn0.step)⟩

/-- A state of type 65 at block g of W; what its slices lead to came in by w0. -/
def IsS65 (w0 W : World) (g : Nat) (f0 : List Int) (f1 : Int) (f2 : Int) : Prop := ∃ A0 c0, W.heap[g]? = some (.cells #[.slice A0 f0.length c0, .int .i64 f1, .int .i64 f2] 65 (0, 0)) ∧ w0.heap.size ≤ g ∧ Kd.C (Kd.int .u8) w0 A0 f0.length f0
theorem IsS65.grown {w0 W : World} {g : Nat} {f0 : List Int} {f1 : Int} {f2 : Int} {W1 : World} {row : Option Nat} (h : IsS65 w0 W g f0 f1 f2) (hw : W.grownBy W1 row) (hne : some g ≠ row) : IsS65 w0 W1 g f0 f1 f2 := by
 obtain ⟨A0, c0, hb, hg, hr0⟩ := h
 exact ⟨A0, c0, blk_grown hb hw hne, hg, hr0⟩
theorem IsS65.own_neN {w0 W : World} {g : Nat} {f0 : List Int} {f1 : Int} {f2 : Int} {α : Type} {d : Kd α} {e : Nat} {base : Nat} {ok : Nat → Prop} {v : Value} {xs : List α} (h : IsS65 w0 W g f0 f1 f2) (ho : Kd.N d e W base ok v xs) (ht : e ≠ 65) : some g ≠ v.ownBlock := by
 obtain ⟨A0, c0, hb, hg, hr0⟩ := h
 exact Kd.N_ne ho hb ht
theorem IsS65.fresh {w0 W : World} {g : Nat} {f0 : List Int} {f1 : Int} {f2 : Int} (h : IsS65 w0 W g f0 f1 f2) : ∀ k, W.heap.size ≤ k → k ≠ g := by
 obtain ⟨A0, c0, hb, hg, hr0⟩ := h
 exact Kd.freshB hb
theorem IsS65.kept {w0 W : World} {g : Nat} {f0 : List Int} {f1 : Int} {f2 : Int} {W1 : World} {S : Nat → Prop} (h : IsS65 w0 W g f0 f1 f2) (hk : Kept W W1 S) (hne : ¬ S g) : IsS65 w0 W1 g f0 f1 f2 := by
 obtain ⟨A0, c0, hb, hg, hr0⟩ := h
 exact ⟨A0, c0, blk_kept hb hk hne, hg, hr0⟩
theorem IsS65.below {w0 W : World} {g : Nat} {f0 : List Int} {f1 : Int} {f2 : Int} {W1 : World} (h : IsS65 w0 W g f0 f1 f2) (hw : Below W.heap.size W W1) : IsS65 w0 W1 g f0 f1 f2 := h.grown (grown_of_below hw none) (by simp)
theorem IsS65.alloc {w0 W : World} {g : Nat} {f0 : List Int} {f1 : Int} {f2 : Int} (h : IsS65 w0 W g f0 f1 f2) (o : Obj) : IsS65 w0 (W.alloc o) g f0 f1 f2 := h.below (below_alloc (Below.refl _ _) o)
theorem IsS65.drewN {w0 W : World} {g : Nat} {f0 : List Int} {f1 : Int} {f2 : Int} (h : IsS65 w0 W g f0 f1 f2) (m : Nat) : IsS65 w0 (W.drewN m) g f0 f1 f2 := h
theorem IsS65.drew {w0 W : World} {g : Nat} {f0 : List Int} {f1 : Int} {f2 : Int} (h : IsS65 w0 W g f0 f1 f2) : IsS65 w0 W.drew g f0 f1 f2 := h
theorem IsS65.at_ {w0 W : World} {g : Nat} {f0 : List Int} {f1 : Int} {f2 : Int} {w' : World} {m : Nat} (hq : W.drewN m = w') (h : IsS65 w0 W g f0 f1 f2) : IsS65 w0 w' g f0 f1 f2 := by subst hq; exact IsS65.drewN h m
theorem IsS65.apart {w0 W : World} {g : Nat} {f0 : List Int} {f1 : Int} {f2 : Int} {α : Type} {d : Kd α} {e : Nat} {base : Nat} {ok : Nat → Prop} {v : Value} {xs : List α} (h : IsS65 w0 W g f0 f1 f2) (ho : d.R e W base ok v xs) (ht : ∀ q, q ∈ e :: d.E → q ≠ 65) : d.R e W base (fun k => ok k ∧ k ≠ g) v xs := by
 obtain ⟨A0, c0, hb, hg, hr0⟩ := h
 exact Kd.R_types ho hb ht
theorem IsS65.own_ne {w0 W : World} {g : Nat} {f0 : List Int} {f1 : Int} {f2 : Int} {α : Type} {d : Kd α} {e : Nat} {base : Nat} {ok : Nat → Prop} {v : Value} {xs : List α} (h : IsS65 w0 W g f0 f1 f2) (ho : d.R e W base ok v xs) (ht : e ≠ 65) : some g ≠ v.ownBlock := by
 obtain ⟨A0, c0, hb, hg, hr0⟩ := h
 exact Kd.R_ne ho hb ht
theorem IsS65.apartQ {w0 W : World} {g : Nat} {f0 : List Int} {f1 : Int} {f2 : Int} {α : Type} {d : Kd α} {e : Nat} {base : Nat} {ok : Nat → Prop} {v : Value} {xs : List α} (h : IsS65 w0 W g f0 f1 f2) (ho : d.Q e W base ok v xs) (ht : ∀ q, q ∈ e :: d.E → q ≠ 65) : d.Q e W base (fun k => ok k ∧ k ≠ g) v xs := by
 obtain ⟨A0, c0, hb, hg, hr0⟩ := h
 exact Kd.Q_types ho hb ht
theorem IsS65.own_neQ {w0 W : World} {g : Nat} {f0 : List Int} {f1 : Int} {f2 : Int} {α : Type} {d : Kd α} {e : Nat} {base : Nat} {ok : Nat → Prop} {v : Value} {xs : List α} (h : IsS65 w0 W g f0 f1 f2) (ho : d.Q e W base ok v xs) (ht : e ≠ 65) : some g ≠ v.ownBlock := by
 obtain ⟨A0, c0, hb, hg, hr0⟩ := h
 exact Kd.Q_ne ho hb ht
theorem IsS65.apartS {w0 W : World} {g : Nat} {f0 : List Int} {f1 : Int} {f2 : Int} {α : Type} {d : Kd α} {e : Nat} {base : Nat} {ok : Nat → Prop} {v : Value} {xs : List α} (h : IsS65 w0 W g f0 f1 f2) (ho : d.S e W base ok v xs) (ht : ∀ q, q ∈ e :: d.E → q ≠ 65) : d.S e W base (fun k => ok k ∧ k ≠ g) v xs := by
 obtain ⟨A0, c0, hb, hg, hr0⟩ := h
 exact Kd.S_types ho hb ht
theorem IsS65.own_neS {w0 W : World} {g : Nat} {f0 : List Int} {f1 : Int} {f2 : Int} {α : Type} {d : Kd α} {e : Nat} {base : Nat} {ok : Nat → Prop} {v : Value} {xs : List α} (h : IsS65 w0 W g f0 f1 f2) (ho : d.S e W base ok v xs) (ht : e ≠ 65) : some g ≠ v.ownBlock := by
 obtain ⟨A0, c0, hb, hg, hr0⟩ := h
 exact Kd.S_ne ho hb ht
theorem IsS65.lt {w0 W : World} {g : Nat} {f0 : List Int} {f1 : Int} {f2 : Int} (h : IsS65 w0 W g f0 f1 f2) : g < W.heap.size := by
 obtain ⟨A0, c0, hb, hg, hr0⟩ := h
 exact blk_lt hb
theorem IsS65.ge {w0 W : World} {g : Nat} {f0 : List Int} {f1 : Int} {f2 : Int} (h : IsS65 w0 W g f0 f1 f2) : w0.heap.size ≤ g := by
 obtain ⟨A0, c0, hb, hg, hr0⟩ := h
 exact hg
theorem IsS65.ne_blk {w0 W : World} {g : Nat} {f0 : List Int} {f1 : Int} {f2 : Int} {a : Nat} {cs : Array Value} {t : TypeId} {fr : Nat × Nat} (h : IsS65 w0 W g f0 f1 f2) (hb2 : W.heap[a]? = some (.cells cs t fr)) (ht : t ≠ 65) : g ≠ a := by
 obtain ⟨A0, c0, hb, hg, hr0⟩ := h
 rintro rfl
 rw [hb] at hb2
 injection hb2 with hb2
 injection hb2 with _ ht2
 exact ht ht2.symm
theorem IsS65.far {w0 W : World} {g : Nat} {f0 : List Int} {f1 : Int} {f2 : Int} {p : Addr} (h : IsS65 w0 W g f0 f1 f2) (hne : g ≠ p.block) (u : Value) : IsS65 w0 (W.setCell p u) g f0 f1 f2 := by
 obtain ⟨A0, c0, hb, hg, hr0⟩ := h
 exact ⟨A0, c0, blk_far hb hne u, hg, hr0⟩
theorem cellS65_0 {W : World} {g : Nat} {A0 : Option Addr} {c0 : Nat} {f0 : List Int} {f1 : Int} {f2 : Int} (h : W.heap[g]? = some (.cells #[.slice A0 f0.length c0, .int .i64 f1, .int .i64 f2] 65 (0, 0))) : W.cell? ⟨g, 0, none⟩ = some (.slice A0 f0.length c0) := (blk_cell h 0).trans rfl
theorem cellS65_1 {W : World} {g : Nat} {A0 : Option Addr} {c0 : Nat} {f0 : List Int} {f1 : Int} {f2 : Int} (h : W.heap[g]? = some (.cells #[.slice A0 f0.length c0, .int .i64 f1, .int .i64 f2] 65 (0, 0))) : W.cell? ⟨g, 1, none⟩ = some (.int .i64 f1) := (blk_cell h 1).trans rfl
theorem IsS65.set_1 {w0 W : World} {g : Nat} {f0 : List Int} {f1 : Int} {f2 : Int} (h : IsS65 w0 W g f0 f1 f2) (x : Int) : IsS65 w0 (W.setCell ⟨g, 1, none⟩ (.int .i64 x)) g f0 x f2 := by
 obtain ⟨A0, c0, hb, hg, hr0⟩ := h
 exact ⟨A0, c0, by simpa using blk_set hb 1 (.int .i64 x), hg, hr0⟩
theorem cellS65_2 {W : World} {g : Nat} {A0 : Option Addr} {c0 : Nat} {f0 : List Int} {f1 : Int} {f2 : Int} (h : W.heap[g]? = some (.cells #[.slice A0 f0.length c0, .int .i64 f1, .int .i64 f2] 65 (0, 0))) : W.cell? ⟨g, 2, none⟩ = some (.int .i64 f2) := (blk_cell h 2).trans rfl
theorem IsS65.set_2 {w0 W : World} {g : Nat} {f0 : List Int} {f1 : Int} {f2 : Int} (h : IsS65 w0 W g f0 f1 f2) (x : Int) : IsS65 w0 (W.setCell ⟨g, 2, none⟩ (.int .i64 x)) g f0 f1 x := by
 obtain ⟨A0, c0, hb, hg, hr0⟩ := h
 exact ⟨A0, c0, by simpa using blk_set hb 2 (.int .i64 x), hg, hr0⟩
theorem IsS65.iI {w0 w1 W : World} {g : Nat} {f0 f0' : List Int} {f1 f1' : Int} {f2 f2' : Int} (b : Aside0 (IsS65 w0 w1 g f0 f1 f2)) (h : IsS65 w0 w1 g f0 f1 f2 → IsS65 w0 W g f0' f1' f2' := by intro h_; repeat (first | (with_reducible first | exact h_ | apply IsS65.alloc | apply IsS65.drewN | apply IsS65.drew | apply IsS65.set_1 | apply IsS65.set_2 | refine IsS65.far ?_ (Aside0.out (by assumption)) _) | exact h_)) : IsS65 w0 W g f0' f1' f2' := h b.out
theorem IsS65.new (w0 W : World) (A0 : Option Addr) (c0 : Nat) (f0 : List Int) (f1 : Int) (f2 : Int) (hB : Below w0.heap.size w0 W) (hr0 : Kd.C (Kd.int .u8) w0 A0 f0.length f0) : IsS65 w0 (W.alloc (.cells #[.slice A0 f0.length c0, .int .i64 f1, .int .i64 f2] 65)) W.heap.size f0 f1 f2 := ⟨A0, c0, by simpa using heap_alloc_new W _, hB.size, hr0⟩

/-! ### spec_l1Byte: function 42 -/
def spec_l1Byte.f (s0_0 : List Int) (s0_1 : Int) (s0_2 : Int) : Option (Int × Int × Int) := if s0_1 < (s0_0.length : Int) then (if 0 ≤ s0_1 then (some (Go.bits .and .i64 (wrap64 ((Go.bits .and .i64 (Go.bits .xor .i64 ((wrap64 ((wrap64 (s0_2 * 6364136223846793005)) + 1442695040888963407)) / 8589934592) ((wrap64 ((wrap64 (s0_2 * 6364136223846793005)) + 1442695040888963407)) / 35184372088832)) 255) + (wrap64 (rd s0_0 s0_1)))) 255, wrap64 (s0_1 + 1), wrap64 ((wrap64 (s0_2 * 6364136223846793005)) + 1442695040888963407))) else (none)) else (some (Go.bits .and .i64 (Go.bits .xor .i64 ((wrap64 ((wrap64 (s0_2 * 6364136223846793005)) + 1442695040888963407)) / 8589934592) ((wrap64 ((wrap64 (s0_2 * 6364136223846793005)) + 1442695040888963407)) / 35184372088832)) 255, s0_1, wrap64 ((wrap64 (s0_2 * 6364136223846793005)) + 1442695040888963407)))
set_option maxHeartbeats 8000000 in
set_option maxRecDepth 100000 in
theorem spec_l1Byte.calls (g : Nat) (s0_0 : List Int) (s0_1 : Int) (s0_2 : Int) (r1 : Int) (r2 : Int) (r3 : Int) (w0 w : World) (hI : IsS65 w0 w g s0_0 s0_1 s0_2) (hB : Below w0.heap.size w0 w) (h : spec_l1Byte.f s0_0 s0_1 s0_2 = some (r1, r2, r3)) :
  Calls Try.prog 42 #[.pointer (some ⟨g, 0, none⟩)] w fun e w' => e = .returned (.int .i64 r1) ∧ IsS65 w0 w' g s0_0 r2 r3 ∧ Below w0.heap.size w0 w' ∧ KeepBut w w' g none := by
 have HI0 := aM hI
 have GEg_ := aM (IsS65.ge hI)
 have HK := aM (KeepBut.refl w g none)
 have HL := aM hB.size
 clear hI
 have HW0 := aM hB.size
 have HB := aM hB
 clear hB
 unfold spec_l1Byte.f at h
 have H := h
 clear h
 by_cases c2 : s0_1 < (s0_0.length : Int)
 ·rw [if_pos c2] at H
  have c2b0 : decide (s0_1 < (s0_0.length : Int)) = true := decide_eq_true c2
  clear c2
  by_cases c3 : 0 ≤ s0_1
  ·rw [if_pos c3] at H
   have c3b0 : decide (0 ≤ s0_1) = true := decide_eq_true c3
   clear c3
   simp only [Option.some.injEq, Prod.mk.injEq] at H
   obtain ⟨rfl, rfl, rfl⟩ := H
   obtain ⟨ASz4_0, cSz4_0, HGz4, hgz4, HSz4_0⟩ := HI0.out
   have hcz4_0 := cellS65_0 HGz4
   have hcz4_1 := cellS65_1 HGz4
   have hcz4_2 := cellS65_2 HGz4
   have hfz4_1 := blk_frozen HGz4 1
   have hfz4_2 := blk_frozen HGz4 2
   clear HGz4 hgz4
   have p209 : 0 ≤ (s0_1 : Int) := dT
   have q209 : s0_1 < (s0_0.length : Int) := dT
   obtain ⟨ad209, e209, hx209_0⟩ := Kd.at_int HSz4_0 s0_1 p209 q209
   cases e209
   have hn209_0 : ad209.block ≠ g := Nat.ne_of_lt (Nat.lt_of_lt_of_le (by have := World.block_lt_of_cell? _ _ hx209_0; first | rwa [add_block] at this | exact this) (IsS65.ge HI0.out))
   replace hx209_0 := pw_cell_below HB.out hx209_0
   replace hx209_0 := (cell_far (p := ⟨g, 2, none⟩) (by first | (rw [add_block]; exact hn209_0) | (show (Addr.add _ _).block ≠ _; rw [add_block]; exact hn209_0) | exact hn209_0) (.int .i64 (wrap64 ((wrap64 (s0_2 * 6364136223846793005)) + 1442695040888963407)))).trans hx209_0
   (try have hy209_0 := fun (n_ : Nat) => (show (((w.drewN n_).setCell ⟨g, 2, none⟩ (.int .i64 (wrap64 ((wrap64 (s0_2 * 6364136223846793005)) + 1442695040888963407))))).cell? _ = some _ from hx209_0))
   clear hn209_0
   replace p209 := eq_true p209
   replace q209 := eq_true q209
   go_enter Try.func42, Try.ntmps42
   go_wp2
   repeat (go_quiet (fail); try go_wp2)
   go_ret
   exact ⟨eW, IsS65.iI HI0, bB, bK HK⟩
  rw [if_neg c3] at H
  exact absurd H (by simp)
 rw [if_neg c2] at H
 have c2b0 : decide (s0_1 < (s0_0.length : Int)) = false := decide_eq_false c2
 clear c2
 simp only [Option.some.injEq, Prod.mk.injEq] at H
 obtain ⟨rfl, rfl, rfl⟩ := H
 obtain ⟨ASz5_0, cSz5_0, HGz5, hgz5, HSz5_0⟩ := HI0.out
 have hcz5_0 := cellS65_0 HGz5
 have hcz5_1 := cellS65_1 HGz5
 have hcz5_2 := cellS65_2 HGz5
 have hfz5_1 := blk_frozen HGz5 1
 have hfz5_2 := blk_frozen HGz5 2
 clear HGz5 hgz5
 go_enter Try.func42, Try.ntmps42
 go_wp2
 repeat (go_quiet (fail); try go_wp2)
 go_ret
 exact ⟨eW, IsS65.iI HI0, bB, bK HK⟩

/-! ### spec_l1Below: function 41 -/
def spec_l1Below.f (s0_0 : List Int) (s0_1 : Int) (s0_2 : Int) (a1 : Int) : Option (Int × Int × Int) := if a1 ≤ 0 then (some (0, s0_1, s0_2)) else (if a1 ≤ 256 then ((spec_l1Byte.f s0_0 s0_1 s0_2).bind fun bt210 => (if a1 = 0 then (none) else (some (Int.tmod bt210.1 a1, bt210.2.1, bt210.2.2)))) else ((spec_l1Byte.f s0_0 s0_1 s0_2).bind fun bt213 => ((spec_l1Byte.f s0_0 bt213.2.1 bt213.2.2).bind fun bt216 => ((spec_l1Byte.f s0_0 bt216.2.1 bt216.2.2).bind fun bt219 => ((spec_l1Byte.f s0_0 bt219.2.1 bt219.2.2).bind fun bt222 => (if a1 = 0 then (none) else (some (Int.tmod (wrap64 ((wrap64 ((wrap64 ((wrap64 (bt213.1 * 16777216)) + (wrap64 (bt216.1 * 65536)))) + (wrap64 (bt219.1 * 256)))) + bt222.1)) a1, bt222.2.1, bt222.2.2))))))))
set_option maxHeartbeats 8000000 in
set_option maxRecDepth 100000 in
theorem spec_l1Below.calls (g : Nat) (s0_0 : List Int) (s0_1 : Int) (s0_2 : Int) (a1 : Int) (r1 : Int) (r2 : Int) (r3 : Int) (w0 w : World) (hI : IsS65 w0 w g s0_0 s0_1 s0_2) (hB : Below w0.heap.size w0 w) (h : spec_l1Below.f s0_0 s0_1 s0_2 a1 = some (r1, r2, r3)) :
  Calls Try.prog 41 #[.pointer (some ⟨g, 0, none⟩), .int .i64 a1] w fun e w' => e = .returned (.int .i64 r1) ∧ IsS65 w0 w' g s0_0 r2 r3 ∧ Below w0.heap.size w0 w' ∧ KeepBut w w' g none := by
 have HI0 := aM hI
 have GEg_ := aM (IsS65.ge hI)
 have HK := aM (KeepBut.refl w g none)
 have HL := aM hB.size
 clear hI
 have HW0 := aM hB.size
 have HB := aM hB
 clear hB
 unfold spec_l1Below.f at h
 have H := h
 clear h
 by_cases c3 : a1 ≤ 0
 ·rw [if_pos c3] at H
  have c3b0 : decide (a1 ≤ 0) = true := decide_eq_true c3
  clear c3
  simp only [Option.some.injEq, Prod.mk.injEq] at H
  obtain ⟨rfl, rfl, rfl⟩ := H
  go_enter Try.func41, Try.ntmps41
  go_wp2
  go_ret
  exact ⟨eW, IsS65.iI HI0, bB, bK HK⟩
 rw [if_neg c3] at H
 have c3b0 : decide (a1 ≤ 0) = false := decide_eq_false c3
 clear c3
 by_cases c4 : a1 ≤ 256
 ·rw [if_pos c4] at H
  have c4b0 : decide (a1 ≤ 256) = true := decide_eq_true c4
  clear c4
  replace H := Option.bind_eq_some_iff.mp H
  obtain ⟨⟨t210, t211, t212⟩, A50, H⟩ := H
  try dsimp only at H
  have A5 := aM A50
  clear A50
  by_cases c6 : a1 = 0
  ·rw [if_pos c6] at H
   exact absurd H (by simp)
  rw [if_neg c6] at H
  have c6b0 : (a1 == 0) = false := beq_eq_false_iff_ne.mpr c6
  have c6b1 : (a1 != 0) = true := bne_iff_ne.mpr c6
  simp only [Option.some.injEq, Prod.mk.injEq] at H
  obtain ⟨rfl, rfl, rfl⟩ := H
  go_enter Try.func41, Try.ntmps41
  go_wp2_with (first | ((with_reducible refine gate_callee (f := 42) rfl ?_); refine gL (some 14) Try.func42 #[.pointer (some ⟨g, 0, none⟩)] ?_; (with_reducible refine (spec_l1Byte.calls g s0_0 s0_1 s0_2 t210 t211 t212 w0 _ ?side1 ?side2 A5.out).mono ?_); (case side1 => exact IsS65.iI HI0); (case side2 => exact bB); rintro e w7 ⟨rfl, hi, hb, hk⟩; refine ⟨_, rfl, ?_⟩; have n_ := aI (aM (KeepBut.trans (bK HK) hk (.inl rfl))) (aI (aM (hb)) (aM (hi))); clear HK HB HI0; obtain ⟨HK, HB, HI0⟩ := n_; (try clear hb hk hi)))
  go_ret
  exact ⟨eW, IsS65.iI HI0, bB, bK HK⟩
 rw [if_neg c4] at H
 have c4b0 : decide (a1 ≤ 256) = false := decide_eq_false c4
 clear c4
 replace H := Option.bind_eq_some_iff.mp H
 obtain ⟨⟨t213, t214, t215⟩, A80, H⟩ := H
 try dsimp only at H
 have A8 := aM A80
 clear A80
 replace H := Option.bind_eq_some_iff.mp H
 obtain ⟨⟨t216, t217, t218⟩, A90, H⟩ := H
 try dsimp only at H
 have A9 := aM A90
 clear A90
 replace H := Option.bind_eq_some_iff.mp H
 obtain ⟨⟨t219, t220, t221⟩, A100, H⟩ := H
 try dsimp only at H
 have A10 := aM A100
 clear A100
 replace H := Option.bind_eq_some_iff.mp H
 obtain ⟨⟨t222, t223, t224⟩, A110, H⟩ := H
 try dsimp only at H
 have A11 := aM A110
 clear A110
 by_cases c12 : a1 = 0
 ·rw [if_pos c12] at H
  exact absurd H (by simp)
 rw [if_neg c12] at H
 have c12b0 : (a1 == 0) = false := beq_eq_false_iff_ne.mpr c12
 have c12b1 : (a1 != 0) = true := bne_iff_ne.mpr c12
 simp only [Option.some.injEq, Prod.mk.injEq] at H
 obtain ⟨rfl, rfl, rfl⟩ := H
 go_enter Try.func41, Try.ntmps41
 go_wp2_with (first | ((with_reducible refine gate_callee (f := 42) rfl ?_); refine gL (some 18) Try.func42 #[.pointer (some ⟨g, 0, none⟩)] ?_; (with_reducible refine (spec_l1Byte.calls g s0_0 s0_1 s0_2 t213 t214 t215 w0 _ ?side1 ?side2 A8.out).mono ?_); (case side1 => exact IsS65.iI HI0); (case side2 => exact bB); rintro e w13 ⟨rfl, hi, hb, hk⟩; refine ⟨_, rfl, ?_⟩; have n_ := aI (aM (KeepBut.trans (bK HK) hk (.inl rfl))) (aI (aM (hb)) (aM (hi))); clear HK HB HI0; obtain ⟨HK, HB, HI0⟩ := n_; (try clear hb hk hi)) | ((with_reducible refine gate_callee (f := 42) rfl ?_); refine gL (some 20) Try.func42 #[.pointer (some ⟨g, 0, none⟩)] ?_; (with_reducible refine (spec_l1Byte.calls g s0_0 t214 t215 t216 t217 t218 w0 _ ?side1 ?side2 A9.out).mono ?_); (case side1 => exact IsS65.iI HI0); (case side2 => exact bB); rintro e w14 ⟨rfl, hi, hb, hk⟩; refine ⟨_, rfl, ?_⟩; have n_ := aI (aM (KeepBut.trans (bK HK) hk (.inl rfl))) (aI (aM (hb)) (aM (hi))); clear HK HB HI0; obtain ⟨HK, HB, HI0⟩ := n_; (try clear hb hk hi)) | ((with_reducible refine gate_callee (f := 42) rfl ?_); refine gL (some 22) Try.func42 #[.pointer (some ⟨g, 0, none⟩)] ?_; (with_reducible refine (spec_l1Byte.calls g s0_0 t217 t218 t219 t220 t221 w0 _ ?side1 ?side2 A10.out).mono ?_); (case side1 => exact IsS65.iI HI0); (case side2 => exact bB); rintro e w15 ⟨rfl, hi, hb, hk⟩; refine ⟨_, rfl, ?_⟩; have n_ := aI (aM (KeepBut.trans (bK HK) hk (.inl rfl))) (aI (aM (hb)) (aM (hi))); clear HK HB HI0; obtain ⟨HK, HB, HI0⟩ := n_; (try clear hb hk hi)) | ((with_reducible refine gate_callee (f := 42) rfl ?_); refine gL (some 24) Try.func42 #[.pointer (some ⟨g, 0, none⟩)] ?_; (with_reducible refine (spec_l1Byte.calls g s0_0 t220 t221 t222 t223 t224 w0 _ ?side1 ?side2 A11.out).mono ?_); (case side1 => exact IsS65.iI HI0); (case side2 => exact bB); rintro e w16 ⟨rfl, hi, hb, hk⟩; refine ⟨_, rfl, ?_⟩; have n_ := aI (aM (KeepBut.trans (bK HK) hk (.inl rfl))) (aI (aM (hb)) (aM (hi))); clear HK HB HI0; obtain ⟨HK, HB, HI0⟩ := n_; (try clear hb hk hi)))
 go_ret
 exact ⟨eW, IsS65.iI HI0, bB, bK HK⟩

/-! ### spec_l1PickInt: function 49 -/
def spec_l1PickInt.f (s0_0 : List Int) (s0_1 : Int) (s0_2 : Int) (l1 : List Int) : Option (Int × Int × Int) := (spec_l1Below.f s0_0 s0_1 s0_2 (l1.length : Int)).bind fun bt225 => (if 0 ≤ bt225.1 then (if bt225.1 < (l1.length : Int) then (some (rd l1 bt225.1, bt225.2.1, bt225.2.2)) else (none)) else (none))
set_option maxHeartbeats 8000000 in
set_option maxRecDepth 100000 in
theorem spec_l1PickInt.calls (g : Nat) (s0_0 : List Int) (s0_1 : Int) (s0_2 : Int) (A1 : Option Addr) (c1 : Nat) (l1 : List Int) (r1 : Int) (r2 : Int) (r3 : Int) (w0 w : World) (hI : IsS65 w0 w g s0_0 s0_1 s0_2) (hB : Below w0.heap.size w0 w) (hr1 : Kd.C (Kd.int .i64) w A1 l1.length l1) (hc1 : l1.length ≤ c1) (hf1 : ∀ ad, A1 = some ad → 0 < l1.length → ad.block ≠ g) (h : spec_l1PickInt.f s0_0 s0_1 s0_2 l1 = some (r1, r2, r3)) :
  Calls Try.prog 49 #[.pointer (some ⟨g, 0, none⟩), .slice A1 l1.length c1] w fun e w' => e = .returned (.int .i64 r1) ∧ IsS65 w0 w' g s0_0 r2 r3 ∧ Below w0.heap.size w0 w' ∧ KeepBut w w' g none := by
 have HR1 := aM hr1
 have HC1 := aM hc1
 clear hr1 hc1
 have HI0 := aM hI
 have GEg_ := aM (IsS65.ge hI)
 have HK := aM (KeepBut.refl w g none)
 have HL := aM hB.size
 clear hI
 have HW0 := aM hB.size
 have HB := aM hB
 clear hB
 unfold spec_l1PickInt.f at h
 have H := h
 clear h
 replace H := Option.bind_eq_some_iff.mp H
 obtain ⟨⟨t225, t226, t227⟩, A30, H⟩ := H
 try dsimp only at H
 have A3 := aM A30
 clear A30
 by_cases c4 : 0 ≤ t225
 ·rw [if_pos c4] at H
  have c4b0 : decide (0 ≤ t225) = true := decide_eq_true c4
  clear c4
  by_cases c5 : t225 < (l1.length : Int)
  ·rw [if_pos c5] at H
   have c5b0 : decide (t225 < (l1.length : Int)) = true := decide_eq_true c5
   clear c5
   simp only [Option.some.injEq, Prod.mk.injEq] at H
   obtain ⟨rfl, rfl, rfl⟩ := H
   go_enter Try.func49, Try.ntmps49
   go_wp2_with (first | ((with_reducible refine gate_callee (f := 41) rfl ?_); refine gL (some 9) Try.func41 #[.pointer (some ⟨g, 0, none⟩), .int .i64 (l1.length : Int)] ?_; (with_reducible refine (spec_l1Below.calls g s0_0 s0_1 s0_2 (l1.length : Int) t225 t226 t227 w0 _ ?side1 ?side2 A3.out).mono ?_); (case side1 => exact IsS65.iI HI0); (case side2 => exact bB); rintro e w6 ⟨rfl, hi, hb, hk⟩; refine ⟨_, rfl, ?_⟩; have n_ := aI (aM (KeepBut.trans (bK HK) hk (.inl rfl))) (aI (aM (hb)) (aM (hi))); clear HK HB HI0; obtain ⟨HK, HB, HI0⟩ := n_; (try clear hb hk hi); have p228 : 0 ≤ (t225 : Int) := dT; have q228 : t225 < (l1.length : Int) := dT; obtain ⟨ad228, e228, hx228_0⟩ := Kd.at_int HR1.out t225 p228 q228; cases e228; replace hx228_0 := keep_cell HK.out hx228_0 (by first | (rw [add_block]; exact hf1 _ rfl (by omega)) | exact hf1 _ rfl (by omega) | exact hf1 ad228 rfl (by omega)); replace p228 := eq_true p228; replace q228 := eq_true q228))
   go_ret
   exact ⟨eW, IsS65.iI HI0, bB, bK HK⟩
  rw [if_neg c5] at H
  exact absurd H (by simp)
 rw [if_neg c4] at H
 exact absurd H (by simp)

end Go.Proofs.Ytadfimhielcmmaa.PFnNodes
