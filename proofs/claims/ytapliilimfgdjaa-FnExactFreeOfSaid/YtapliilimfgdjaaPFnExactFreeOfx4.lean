-- Written by xprint.py, a program of this session over the kit's print. Not trusted: Lean checks it.
import Derived.Test.YtapliilimfgdjaaPFnExactFreeOfx0
import Derived.Test.YtapliilimfgdjaaPFnExactFreeOfx2
namespace Go.Proofs.Ytapliilimfgdjaa.PFnExactFreeOf
open Go.RowKit Go.Proofs.YtapliilimfgdjaaW.PrintWords Go.Proofs.YtapliilimfgdjaaW.PrintLast Go.Proofs.YtapliilimfgdjaaW.PrintMore
attribute [local go_sem] max2_int min2_int max_two min_two max_three min_three max_four min_four   -- for this text's walks alone
set_option linter.unusedVariables false
set_option linter.unusedSimpArgs false

/-! ### spec_l6Used: function 19 -/
mutual
def spec_l6Used.l0 : Nat → List Int → Int → List (S40) → List ByteArray → Option (List Int)
 | 0, _, _, _, _ => none
 | k + 1, x3, x4, x173000, x173001 => if x4 < (x173000.length : Int) then (spec_l6Used.l1 k x3 x4 0 x173000 x173001) else (some x3)
def spec_l6Used.l1 : Nat → List Int → Int → Int → List (S40) → List ByteArray → Option (List Int)
 | 0, _, _, _, _, _ => none
 | k + 1, x3, x4, x5, x173000, x173001 => if 0 ≤ x4 then (if x4 < (x173000.length : Int) then (if x5 < (((rd_T40 x173000 x4).f4).length : Int) then (if 0 ≤ x5 then ((spec_l1In.f (rd ((rd_T40 x173000 x4).f4) x5) 0 (wrap64 ((x173001.length : Int) - 1))).bind fun t179 => (if t179 = true then (if 0 ≤ (rd ((rd_T40 x173000 x4).f4) x5) then (if (rd ((rd_T40 x173000 x4).f4) x5) < (x3.length : Int) then (spec_l6Used.l1 k (x3.set ((rd ((rd_T40 x173000 x4).f4) x5) : Int).toNat (wrap64 ((rd x3 (rd ((rd_T40 x173000 x4).f4) x5)) + 1))) x4 (wrap64 (x5 + 1)) x173000 x173001) else (none)) else (none)) else (if 0 ≤ (x173001.length : Int) then (if (x173001.length : Int) < (x3.length : Int) then (spec_l6Used.l1 k (x3.set ((x173001.length : Int) : Int).toNat (wrap64 ((rd x3 (x173001.length : Int)) + 1))) x4 (wrap64 (x5 + 1)) x173000 x173001) else (none)) else (none)))) else (none)) else (spec_l6Used.l0 k x3 (wrap64 (x4 + 1)) x173000 x173001)) else (none)) else (none)
end
def spec_l6Used.f (k : Nat) (l0_0 : List (S40)) (l0_1 : List ByteArray) : Option (List Int) := if 0 ≤ (wrap64 ((l0_1.length : Int) + 1)) then (if (wrap64 ((l0_1.length : Int) + 1) : Int).toNat ≤ 35184372088832 then (spec_l6Used.l0 k (List.replicate (wrap64 ((l0_1.length : Int) + 1) : Int).toNat 0) 0 l0_0 l0_1) else (none)) else (none)
theorem spec_l6Used.mono_l : ∀ k, (∀ y0 y1 y2 y3, LeO (spec_l6Used.l0 k y0 y1 y2 y3) (spec_l6Used.l0 (k + 1) y0 y1 y2 y3)) ∧ (∀ y0 y1 y2 y3 y4, LeO (spec_l6Used.l1 k y0 y1 y2 y3 y4) (spec_l6Used.l1 (k + 1) y0 y1 y2 y3 y4))
 | 0 => ⟨fun _ _ _ _ r h => by simp [spec_l6Used.l0] at h, fun _ _ _ _ _ r h => by simp [spec_l6Used.l1] at h⟩
 | k + 1 => by
  obtain ⟨ih0, ih1⟩ := spec_l6Used.mono_l k
  refine ⟨?_, ?_⟩
  ·intro y0 y1 y2 y3
   unfold spec_l6Used.l0
   exact mM
  ·intro y0 y1 y2 y3 y4
   unfold spec_l6Used.l1
   exact mM
theorem spec_l6Used.mono : ∀ a0 a1 k, LeO (spec_l6Used.f k a0 a1) (spec_l6Used.f (k + 1) a0 a1) := by
 intro a0 a1 k
 obtain ⟨ih0, ih1⟩ := spec_l6Used.mono_l k
 unfold spec_l6Used.f
 exact mM
def spec_l6Used.T11 : Bool × List (List Nat × List Nat) := (true, [([], []), ([], []), ([1], [1]), ([2], [2]), ([], []), ([], []), ([5], [5]), ([6], [6]), ([4, 7], [4, 7]), ([8], [8]), ([9], [9]), ([0, 3, 0, 1, 2, 3, 4, 5, 6, 7, 8, 9, 10], [0, 3]), ([11, 10, 0, 1, 2, 3, 4, 5, 6, 7, 8, 9, 10], [10, 11])])
def spec_l6Used.B11 : List Nat := [0, 0, 2, 6, 0, 0, 32, 96, 240, 496, 1008, 2047, 4095]
theorem spec_l6Used.tab11 : rtab .any (opsOf Try.f19 11) = spec_l6Used.T11 := by kernel_rfl
theorem spec_l6Used.bits11 : waitsOk spec_l6Used.T11.2 spec_l6Used.B11 = true := by kernel_rfl
set_option maxHeartbeats 8000000 in
set_option maxRecDepth 100000 in
theorem spec_l6Used.calls (k : Nat) (A0_0 : Option Addr) (c0_0 : Nat) (l0_0 : List (S40)) (A0_1 : Option Addr) (c0_1 : Nat) (l0_1 : List ByteArray) (r : List Int) (w : World) (hr0_0 : Kd.C k40 w A0_0 l0_0.length l0_0) (hc0_0 : l0_0.length ≤ c0_0) (hr0_1 : Kd.C Kd.string w A0_1 l0_1.length l0_1) (hc0_1 : l0_1.length ≤ c0_1) (h : spec_l6Used.f k l0_0 l0_1 = some r) :
  Calls Try.prog 19 #[.agg #[.slice A0_0 l0_0.length c0_0, .slice A0_1 l0_1.length c0_1]] w fun e w' => ∃ v0_ : Value, e = .returned (v0_) ∧ Kd.R (Kd.int .i64) 3 w' w.heap.size (fun _ => True) v0_ r ∧ Below w.heap.size w w' := by
 have hu30 := Try.underlying30
 have HR0_0 := aM hr0_0
 have HC0_0 := aM hc0_0
 clear hr0_0 hc0_0
 have HR0_1 := aM hr0_1
 have HC0_1 := aM hc0_1
 clear hr0_1 hc0_1
 have HB := aM (Below.refl w.heap.size w)
 unfold spec_l6Used.f at h
 have H := h
 clear h
 obtain ⟨ji2, hji2⟩ : ∃ j_ : Int, (wrap64 ((l0_1.length : Int) + 1)) = j_ := ⟨_, rfl⟩
 replace H : (if 0 ≤ (ji2) then (if (ji2 : Int).toNat ≤ 35184372088832 then (spec_l6Used.l0 k (List.replicate (ji2 : Int).toNat 0) 0 l0_0 l0_1) else (none)) else (none)) = some r := by first | (rw [hji2] at H; exact H) | (simp only [hji2] at H ⊢; exact H)
 have hji2w : (IntKind.i64.wrap ((l0_1.length : Int) + 1)) = ji2 := (i64_w _).trans hji2
 by_cases c3 : 0 ≤ (ji2)
 ·rw [if_pos c3] at H
  have c3b0 := eq_true c3
  have c3b1 : decide (0 ≤ (ji2)) = true := decide_eq_true c3
  clear c3
  by_cases c4 : (ji2 : Int).toNat ≤ 35184372088832
  ·rw [if_pos c4] at H
   have c4b0 := eq_true c4
   have c4b1 : decide ((ji2 : Int).toNat ≤ 35184372088832) = true := decide_eq_true c4
   clear c4
   obtain ⟨y173, hy173⟩ : ∃ y_ : List Int, y_ = (List.replicate (ji2 : Int).toNat 0) := ⟨_, rfl⟩
   replace H : (spec_l6Used.l0 k y173 0 l0_0 l0_1) = some r := bQ hy173 H
   have Ny173 := aM hy173
   clear hy173
   have H' := aM H
   clear H
   go_enter Try.func19, Try.ntmps19
   go_wp2_with (first | ((with_reducible refine gate_dst (N := 1) rfl ?_); refine bE 1 #[.slice A0_0 l0_0.length c0_0, .slice A0_1 l0_1.length c0_1] 30 ?_; intro gb172 hg w5 hbox hb; have n_ := aI (sB HB hb) (aI (aM hbox) (aI (gE HB hg) (gE HB hg))); clear HB; obtain ⟨HB, BK172, GW172, GE172⟩ := n_; (try clear hb hbox hg); have hcz6_0 := cZ0 BK172; have hcz6_1 := cZ1 BK172; have hfz6_0 := fZ BK172 0; have hfz6_1 := fZ BK172 1) | ((with_reducible refine gate_dst (N := 11) rfl ?_); refine Kd.R_make (Kd.int .i64) _ 3 rfl (N := 11) rfl 38 _ _ rfl ji2 rfl rfl Try.underlying38 (.int .i64 0) 8 info3 rfl (by decide) (by omega) 0 (ok := fun _ => True) (okp := fun _ => True) rfl (fun _ hk => hk) trivial (dT) (Nat.le_trans (Nat.mul_le_mul_right _ (dT : ji2.toNat ≤ 35184372088832)) (by omega)) (Below.refl _ _) (Nat.le_refl _) ?_; intro v174 w7 ho8 hb hg_ hnew_; clear hg_ hnew_; (first | rw [← Ny173.out] at ho8 | (simp only [Int.reduceToNat] at ho8; rw [← Ny173.out] at ho8)); have n_ := aI (lR HB ho8) (aI (kB BK172 hb) (sB HB hb)); clear BK172 HB; obtain ⟨HO175, BK172, HB⟩ := n_; (try clear hb ho8)))
   go_loopg [4] k (fun kq v4 w' => ∃ (x3_1 : List Int) (x4_1 : Int), v4 = .int .i64 x4_1 ∧ Aside0 (spec_l6Used.l0 kq x3_1 x4_1 l0_0 l0_1 = some r) ∧ Aside0 (kq ≤ k) ∧ Aside0 (Kd.R (Kd.int .i64) 3 w' w.heap.size (fun _ => True) v174 x3_1) ∧ Aside0 (w'.heap[gb172]? = some (.cells #[(.slice A0_0 l0_0.length c0_0), (.slice A0_1 l0_1.length c0_1)] 30 (0, 0))) ∧ Aside0 (Below w.heap.size w w'))
   case atStart => exact ⟨(y173), (0), (by first | rfl | (simp; done) | (simp [*]; done) | (simp; exact (by intro l_; cases l_ <;> rfl : ∀ l_ : List UInt8, l_.isEmpty = !(l_ != [])) _)), H', ⟨Nat.le_refl _⟩, ⟨rP HO175.out⟩, ⟨kP BK172⟩, ⟨bB⟩⟩
   case round =>
    clear H'
    try clear c1
    try clear p2
    try clear c3
    try clear c3b0
    try clear c3b1
    try clear c4
    try clear c4b0
    try clear c4b1
    try clear p6
    try clear hcz6_0
    try clear hcz6_1
    try clear hfz6_0
    try clear hfz6_1
    obtain ⟨x3_1, x4_1, rfl, HA, HK1, HO_3, BK172, HB⟩ := hrel
    cases gk with
    | zero => exact absurd HA.out (by simp [spec_l6Used.l0])
    | succ k1 =>
     have H := HA.out
     clear HA
     simp only [spec_l6Used.l0] at H
     by_cases c9 : x4_1 < (l0_0.length : Int)
     ·rw [if_pos c9] at H
      have c9b0 : decide (x4_1 < (l0_0.length : Int)) = true := decide_eq_true c9
      clear c9
      have H' := aM H
      clear H
      have hcz10_0 := cZ0 BK172
      have hcz10_1 := cZ1 BK172
      have hfz10_0 := fZ BK172 0
      have hfz10_1 := fZ BK172 1
      go_wp2
      go_loopg [5] k1 (fun kq v5 w' => ∃ (x3_2 : List Int) (x5_2 : Int), v5 = .int .i64 x5_2 ∧ Aside0 (spec_l6Used.l1 kq x3_2 x4_1 x5_2 l0_0 l0_1 = some r) ∧ Aside0 (kq ≤ k1) ∧ Aside0 (Kd.R (Kd.int .i64) 3 w' w.heap.size (fun _ => True) v174 x3_2) ∧ Aside0 (w'.heap[gb172]? = some (.cells #[(.slice A0_0 l0_0.length c0_0), (.slice A0_1 l0_1.length c0_1)] 30 (0, 0))) ∧ Aside0 (Below w.heap.size w w'))
      case atStart => exact ⟨(x3_1), (0), (by first | rfl | (simp; done) | (simp [*]; done) | (simp; exact (by intro l_; cases l_ <;> rfl : ∀ l_ : List UInt8, l_.isEmpty = !(l_ != [])) _)), H', ⟨Nat.le_refl _⟩, ⟨rP HO_3.out⟩, ⟨kP BK172⟩, ⟨bB⟩⟩
      case round =>
       clear H'
       try clear c1
       try clear p2
       try clear c3
       try clear c3b0
       try clear c3b1
       try clear c4
       try clear c4b0
       try clear c4b1
       try clear p6
       try clear c9
       try clear c9b0
       try clear hcz10_0
       try clear hcz10_1
       try clear hcz6_0
       try clear hcz6_1
       try clear hfz10_0
       try clear hfz10_1
       try clear hfz6_0
       try clear hfz6_1
       try clear p2
       try clear p6
       obtain ⟨x3_2, x5_2, rfl, HA, HK2, HO_3, BK172, HB⟩ := hrel
       cases gk with
       | zero => exact absurd HA.out (by simp [spec_l6Used.l1])
       | succ k2 =>
        have H := HA.out
        clear HA
        simp only [spec_l6Used.l1] at H
        by_cases c11 : 0 ≤ x4_1
        ·rw [if_pos c11] at H
         have c11b0 : decide (0 ≤ x4_1) = true := decide_eq_true c11
         clear c11
         by_cases c12 : x4_1 < (l0_0.length : Int)
         ·rw [if_pos c12] at H
          have c12b0 : decide (x4_1 < (l0_0.length : Int)) = true := decide_eq_true c12
          clear c12
          by_cases c13 : x5_2 < (((rd_T40 l0_0 x4_1).f4).length : Int)
          ·rw [if_pos c13] at H
           have c13b0 : decide (x5_2 < (((rd_T40 l0_0 x4_1).f4).length : Int)) = true := decide_eq_true c13
           clear c13
           by_cases c14 : 0 ≤ x5_2
           ·rw [if_pos c14] at H
            have c14b0 : decide (0 ≤ x5_2) = true := decide_eq_true c14
            clear c14
            replace H := Option.bind_eq_some_iff.mp H
            obtain ⟨t179, A150, H⟩ := H
            try dsimp only at H
            have A15 := aM A150
            clear A150
            by_cases c16 : t179 = true
            ·subst c16
             rw [if_pos rfl] at H
             by_cases c17 : 0 ≤ (rd ((rd_T40 l0_0 x4_1).f4) x5_2)
             ·rw [if_pos c17] at H
              have c17b0 : decide (0 ≤ (rd ((rd_T40 l0_0 x4_1).f4) x5_2)) = true := decide_eq_true c17
              clear c17
              by_cases c18 : (rd ((rd_T40 l0_0 x4_1).f4) x5_2) < (x3_2.length : Int)
              ·rw [if_pos c18] at H
               have c18b0 : decide ((rd ((rd_T40 l0_0 x4_1).f4) x5_2) < (x3_2.length : Int)) = true := decide_eq_true c18
               clear c18
               obtain ⟨y181, hy181⟩ : ∃ y_ : List Int, y_ = (x3_2.set ((rd ((rd_T40 l0_0 x4_1).f4) x5_2) : Int).toNat (wrap64 ((rd x3_2 (rd ((rd_T40 l0_0 x4_1).f4) x5_2)) + 1))) := ⟨_, rfl⟩
               replace H : (spec_l6Used.l1 k2 y181 x4_1 (wrap64 (x5_2 + 1)) l0_0 l0_1) = some r := bQ hy181 H
               have Ny181 := aM hy181
               clear hy181
               have H' := aM H
               clear H
               have hcz20_0 := cZ0 BK172
               have hcz20_1 := cZ1 BK172
               have hfz20_0 := fZ BK172 0
               have hfz20_1 := fZ BK172 1
               have p176 : 0 ≤ (x4_1 : Int) := dT
               have q176 : x4_1 < (l0_0.length : Int) := dT
               obtain ⟨ad176, A176_4, c176_4, e176, hx176_0, hx176_1, hx176_2, hx176_3, hx176_4, hl176_4, hi176_4⟩ := at_T40 HR0_0.out x4_1 p176 q176
               cases e176
               replace hx176_0 := (HB.out.cell (World.block_lt_of_cell? w _ hx176_0)).trans hx176_0
               replace hx176_1 := (HB.out.cell (World.block_lt_of_cell? w _ hx176_1)).trans hx176_1
               replace hx176_2 := (HB.out.cell (World.block_lt_of_cell? w _ hx176_2)).trans hx176_2
               replace hx176_3 := (HB.out.cell (World.block_lt_of_cell? w _ hx176_3)).trans hx176_3
               replace hx176_4 := (HB.out.cell (World.block_lt_of_cell? w _ hx176_4)).trans hx176_4
               have HR176_4 := aM hi176_4
               have HC176_4 := aM hl176_4
               clear hi176_4 hl176_4
               replace p176 := eq_true p176
               replace q176 := eq_true q176
               have p177 : 0 ≤ (x4_1 : Int) := dT
               have q177 : x4_1 < (l0_0.length : Int) := dT
               obtain ⟨ad177, A177_4, c177_4, e177, hx177_0, hx177_1, hx177_2, hx177_3, hx177_4, hl177_4, hi177_4⟩ := at_T40 HR0_0.out x4_1 p177 q177
               obtain rfl : ad176 = ad177 := (by injection e177)
               replace hx177_0 := (HB.out.cell (World.block_lt_of_cell? w _ hx177_0)).trans hx177_0
               replace hx177_1 := (HB.out.cell (World.block_lt_of_cell? w _ hx177_1)).trans hx177_1
               replace hx177_2 := (HB.out.cell (World.block_lt_of_cell? w _ hx177_2)).trans hx177_2
               replace hx177_3 := (HB.out.cell (World.block_lt_of_cell? w _ hx177_3)).trans hx177_3
               replace hx177_4 := (HB.out.cell (World.block_lt_of_cell? w _ hx177_4)).trans hx177_4
               have HR177_4 := aM hi177_4
               have HC177_4 := aM hl177_4
               clear hi177_4 hl177_4
               replace p177 := eq_true p177
               replace q177 := eq_true q177
               have ea_ := Option.some.inj (hx176_4.symm.trans hx177_4)
               injection ea_ with ea_ en_ ec_
               subst ea_
               subst ec_
               clear en_
               have p178 : 0 ≤ (x5_2 : Int) := dT
               have q178 : x5_2 < (((rd_T40 l0_0 x4_1).f4).length : Int) := dT
               obtain ⟨ad178, e178, hx178_0⟩ := Kd.at_int HR177_4.out x5_2 p178 q178
               cases e178
               replace hx178_0 := (HB.out.cell (World.block_lt_of_cell? w _ hx178_0)).trans hx178_0
               replace p178 := eq_true p178
               replace q178 := eq_true q178
               go_wp2_with (first | ((with_reducible refine gate_callee (f := 17) rfl ?_); refine gL (some 44) Try.func17 #[.int .i64 (rd ((rd_T40 l0_0 x4_1).f4) x5_2), .int .i64 0, .int .i64 (wrap64 ((l0_1.length : Int) - 1))] ?_; (with_reducible refine (spec_l1In.calls (rd ((rd_T40 l0_0 x4_1).f4) x5_2) 0 (wrap64 ((l0_1.length : Int) - 1)) true _ A15.out).mono ?_); rintro e w' ⟨rfl, ⟨nd, rfl⟩⟩; refine ⟨_, rfl, ?_⟩; (try (rw [drewN_self wr]; generalize hq_ : World.drewN wr _ = wr; have n0_ : Aside0 (Kd.R (Kd.int .i64) 3 wr w.heap.size (fun _ => True) v174 x3_2) := ⟨by rw [← hq_]; exact (rP HO_3.out)⟩; have n1_ : Aside0 (wr.heap[gb172]? = some (.cells #[.slice (some ad176) l0_0.length c0_0, .slice A0_1 l0_1.length c0_1] 30 (0, 0))) := ⟨by rw [← hq_]; exact (kP BK172)⟩; have n2_ : Aside0 (Below w.heap.size w wr) := ⟨by rw [← hq_]; exact bB⟩; clear HO_3 BK172 HB hq_; have HO_3 := n0_; have BK172 := n1_; have HB := n2_; clear n0_ n1_ n2_)); obtain ⟨Ao21, co21, eo21⟩ := Kd.R_slice HO_3.out; subst eo21; have p180 : 0 ≤ ((rd ((rd_T40 l0_0 x4_1).f4) x5_2) : Int) := dT; have q180 : (rd ((rd_T40 l0_0 x4_1).f4) x5_2) < (x3_2.length : Int) := dT; obtain ⟨ad180, e180, hx180_0⟩ := Kd.at_int (Kd.R_reads' HO_3.out).2.2 (rd ((rd_T40 l0_0 x4_1).f4) x5_2) p180 q180; cases e180; replace p180 := eq_true p180; replace q180 := eq_true q180; have p19 : 0 ≤ ((rd ((rd_T40 l0_0 x4_1).f4) x5_2) : Int) := dT; have q19 : ((rd ((rd_T40 l0_0 x4_1).f4) x5_2) : Int) < ((x3_2.length : Int) : Int) := dT; obtain ⟨go19, co19, eo19, gb19, gl19, cl19, HG19⟩ := Kd.R_form HO_3.out (by omega); (first | cases eo19 | (injection eo19 with ea_ en_ ec_; (first | subst ea_ | (injection ea_ with ea_; subst ea_)); subst ec_; clear en_)); have GB19 := aM gb19; have GG19 := aM HG19; clear gb19 gl19 HG19; (first | simp only [add_plain] at hx180_0 | skip); obtain ⟨hx19_0, hf19_0⟩ := Kd.R_celln 0 HO_3.out ((rd ((rd_T40 l0_0 x4_1).f4) x5_2) : Int) p19 q19; replace p19 := eq_true p19; replace q19 := eq_true q19; obtain ⟨hy22_, hz22_⟩ := Kd.R_celln 0 HO_3.out ((rd ((rd_T40 l0_0 x4_1).f4) x5_2) : Int) (dT) (dT); have HP22 := Kd.R_putg HO_3.out ((rd ((rd_T40 l0_0 x4_1).f4) x5_2) : Int) (wrap64 ((rd x3_2 (rd ((rd_T40 l0_0 x4_1).f4) x5_2)) + 1))) | ((with_reducible refine gate_store (t := 3) (p := 52) rfl ?_); refine store_event (t := 3) (p := 52) (v := ?vo_w23) (w1 := (wr.setCell ⟨go19, ((rd ((rd_T40 l0_0 x4_1).f4) x5_2) : Int).toNat, none⟩ (.int .i64 (wrap64 ((rd x3_2 (rd ((rd_T40 l0_0 x4_1).f4) x5_2)) + 1))))) ?hg ?ho ?hn ?hr ?_; (case ho => rfl); (case hg => rfl); (case hn => rfl); (case hr => first | (go_simp; done) | (go_simp; rfl)); intro w23 hw; have hg : wr.grownBy w23 (some go19) := (by rw [hw]; exact HP22.2); have hp_ : Kd.R (Kd.int .i64) 3 w23 w.heap.size (fun _ => True) (.slice (some ⟨go19, 0, none⟩) x3_2.length co21) y181 := (by rw [hw, Ny181.out]; exact HP22.1); clear HP22; have n_ := aI (aM (hp_)) (aI (aM (blk_grown (g := gb172) (o := .cells #[.slice (some ad176) l0_0.length c0_0, .slice A0_1 l0_1.length c0_1] 30 (0, 0)) (kP BK172) hg (Kd.R_ne HO_3.out BK172.out (by decide)))) (aM ((by rw [hw]; exact below_set (HB.out) GB19.out : Below w.heap.size w w23)))); clear HO_3 BK172 HB; obtain ⟨HO_3, BK172, HB⟩ := n_; (try clear hw)))
               go_roundg k2
               case measure => have := HK1.out; have := HK2.out; omega
               case rel => exact ⟨(y181), (wrap64 (x5_2 + 1)), (by first | rfl | (simp; done) | (simp [*]; done) | (simp; exact (by intro l_; cases l_ <;> rfl : ∀ l_ : List UInt8, l_.isEmpty = !(l_ != [])) _)), H', ⟨by have := HK1.out; have := HK2.out; omega⟩, ⟨rP HO_3.out⟩, ⟨kP BK172⟩, ⟨bB⟩⟩
              ·rw [if_neg c18] at H
               exact absurd H (by simp)
             ·rw [if_neg c17] at H
              exact absurd H (by simp)
            ·replace c16 := Bool.eq_false_iff.mpr c16
             subst c16
             rw [if_neg (show ¬ (false = true) by decide)] at H
             by_cases c24 : 0 ≤ (l0_1.length : Int)
             ·rw [if_pos c24] at H
              have c24b0 : decide (0 ≤ (l0_1.length : Int)) = true := decide_eq_true c24
              have c24b1 : decide (0 ≤ l0_1.length) = true := decide_eq_true (by omega)
              clear c24
              by_cases c25 : (l0_1.length : Int) < (x3_2.length : Int)
              ·rw [if_pos c25] at H
               have c25b0 : decide ((l0_1.length : Int) < (x3_2.length : Int)) = true := decide_eq_true c25
               have c25b1 : decide (l0_1.length < x3_2.length) = true := decide_eq_true (Int.ofNat_lt.mp c25)
               clear c25
               obtain ⟨y183, hy183⟩ : ∃ y_ : List Int, y_ = (x3_2.set ((l0_1.length : Int) : Int).toNat (wrap64 ((rd x3_2 (l0_1.length : Int)) + 1))) := ⟨_, rfl⟩
               replace H : (spec_l6Used.l1 k2 y183 x4_1 (wrap64 (x5_2 + 1)) l0_0 l0_1) = some r := bQ hy183 H
               have Ny183 := aM hy183
               clear hy183
               have H' := aM H
               clear H
               have hcz27_0 := cZ0 BK172
               have hcz27_1 := cZ1 BK172
               have hfz27_0 := fZ BK172 0
               have hfz27_1 := fZ BK172 1
               have p176 : 0 ≤ (x4_1 : Int) := dT
               have q176 : x4_1 < (l0_0.length : Int) := dT
               obtain ⟨ad176, A176_4, c176_4, e176, hx176_0, hx176_1, hx176_2, hx176_3, hx176_4, hl176_4, hi176_4⟩ := at_T40 HR0_0.out x4_1 p176 q176
               cases e176
               replace hx176_0 := (HB.out.cell (World.block_lt_of_cell? w _ hx176_0)).trans hx176_0
               replace hx176_1 := (HB.out.cell (World.block_lt_of_cell? w _ hx176_1)).trans hx176_1
               replace hx176_2 := (HB.out.cell (World.block_lt_of_cell? w _ hx176_2)).trans hx176_2
               replace hx176_3 := (HB.out.cell (World.block_lt_of_cell? w _ hx176_3)).trans hx176_3
               replace hx176_4 := (HB.out.cell (World.block_lt_of_cell? w _ hx176_4)).trans hx176_4
               have HR176_4 := aM hi176_4
               have HC176_4 := aM hl176_4
               clear hi176_4 hl176_4
               replace p176 := eq_true p176
               replace q176 := eq_true q176
               have p177 : 0 ≤ (x4_1 : Int) := dT
               have q177 : x4_1 < (l0_0.length : Int) := dT
               obtain ⟨ad177, A177_4, c177_4, e177, hx177_0, hx177_1, hx177_2, hx177_3, hx177_4, hl177_4, hi177_4⟩ := at_T40 HR0_0.out x4_1 p177 q177
               obtain rfl : ad176 = ad177 := (by injection e177)
               replace hx177_0 := (HB.out.cell (World.block_lt_of_cell? w _ hx177_0)).trans hx177_0
               replace hx177_1 := (HB.out.cell (World.block_lt_of_cell? w _ hx177_1)).trans hx177_1
               replace hx177_2 := (HB.out.cell (World.block_lt_of_cell? w _ hx177_2)).trans hx177_2
               replace hx177_3 := (HB.out.cell (World.block_lt_of_cell? w _ hx177_3)).trans hx177_3
               replace hx177_4 := (HB.out.cell (World.block_lt_of_cell? w _ hx177_4)).trans hx177_4
               have HR177_4 := aM hi177_4
               have HC177_4 := aM hl177_4
               clear hi177_4 hl177_4
               replace p177 := eq_true p177
               replace q177 := eq_true q177
               have ea_ := Option.some.inj (hx176_4.symm.trans hx177_4)
               injection ea_ with ea_ en_ ec_
               subst ea_
               subst ec_
               clear en_
               have p178 : 0 ≤ (x5_2 : Int) := dT
               have q178 : x5_2 < (((rd_T40 l0_0 x4_1).f4).length : Int) := dT
               obtain ⟨ad178, e178, hx178_0⟩ := Kd.at_int HR177_4.out x5_2 p178 q178
               cases e178
               replace hx178_0 := (HB.out.cell (World.block_lt_of_cell? w _ hx178_0)).trans hx178_0
               replace p178 := eq_true p178
               replace q178 := eq_true q178
               try go_wp2_with (first | ((with_reducible refine gate_callee (f := 17) rfl ?_); refine gL (some 44) Try.func17 #[.int .i64 (rd ((rd_T40 l0_0 x4_1).f4) x5_2), .int .i64 0, .int .i64 (wrap64 ((l0_1.length : Int) - 1))] ?_; (with_reducible refine (spec_l1In.calls (rd ((rd_T40 l0_0 x4_1).f4) x5_2) 0 (wrap64 ((l0_1.length : Int) - 1)) false _ A15.out).mono ?_); rintro e w' ⟨rfl, ⟨nd, rfl⟩⟩; refine ⟨_, rfl, ?_⟩; (try (rw [drewN_self wr]; generalize hq_ : World.drewN wr _ = wr; have n0_ : Aside0 (Kd.R (Kd.int .i64) 3 wr w.heap.size (fun _ => True) v174 x3_2) := ⟨by rw [← hq_]; exact (rP HO_3.out)⟩; have n1_ : Aside0 (wr.heap[gb172]? = some (.cells #[.slice (some ad176) l0_0.length c0_0, .slice A0_1 l0_1.length c0_1] 30 (0, 0))) := ⟨by rw [← hq_]; exact (kP BK172)⟩; have n2_ : Aside0 (Below w.heap.size w wr) := ⟨by rw [← hq_]; exact bB⟩; clear HO_3 BK172 HB hq_; have HO_3 := n0_; have BK172 := n1_; have HB := n2_; clear n0_ n1_ n2_))))
               have n_ := aI (aM (Kd.R_drew HO_3.out)) (aI (aM (blk_drew BK172.out)) (aM (below_drew1 HB.out)))
               clear HO_3 BK172 HB
               obtain ⟨HO_3, BK172, HB⟩ := n_
               obtain ⟨Ao29, co29, eo29⟩ := Kd.R_slice HO_3.out
               (first | subst eo29 | (injection eo29 with f1_ f2_ f3_; have f4_ := f1_.symm; have f5_ := f3_.symm; clear f1_ f2_ f3_; subst f4_; subst f5_))
               have p182 : 0 ≤ ((l0_1.length : Int) : Int) := dT
               have q182 : (l0_1.length : Int) < (x3_2.length : Int) := dT
               obtain ⟨ad182, e182, hx182_0⟩ := Kd.at_int (Kd.R_reads' HO_3.out).2.2 (l0_1.length : Int) p182 q182
               cases e182
               (try simp only [Go.IntWalk.toNatUp] at hx182_0)
               replace p182 := eq_true p182
               replace q182 := eq_true q182
               have p26 : 0 ≤ ((l0_1.length : Int) : Int) := dT
               have q26 : ((l0_1.length : Int) : Int) < ((x3_2.length : Int) : Int) := dT
               obtain ⟨go26, co26, eo26, gb26, gl26, cl26, HG26⟩ := Kd.R_form HO_3.out (by omega)
               (first | cases eo26 | (injection eo26 with ea_ en_ ec_; (first | subst ea_ | (injection ea_ with ea_; subst ea_)); subst ec_; clear en_))
               have GB26 := aM gb26
               have GG26 := aM HG26
               clear gb26 gl26 HG26
               (first | simp only [add_plain] at hx182_0 | skip)
               obtain ⟨hx26_0, hf26_0⟩ := Kd.R_celln 0 HO_3.out ((l0_1.length : Int) : Int) p26 q26
               simp only [Int.toNat_natCast] at hx26_0 hf26_0
               replace p26 := eq_true p26
               replace q26 := eq_true q26
               have HP30 := Kd.R_putn HO_3.out ((l0_1.length : Int) : Int) (wrap64 ((rd x3_2 (l0_1.length : Int)) + 1))
               rw [← Ny183.out] at HP30
               have HQ30 := aM HP30
               clear HP30
               refine start_ (n := 13) (S := fun w' => w'.cell? ⟨gb172, 0, none⟩ = some (.slice (some ad176) l0_0.length c0_0) ∧ w'.cell? ⟨gb172, 1, none⟩ = some (.slice A0_1 l0_1.length c0_1) ∧ w'.cell? ⟨go26, l0_1.length, none⟩ = some (.int .i64 (rd x3_2 (l0_1.length : Int)))) (ds := [12]) #[tF, tF, tF, tF, tF, tF, tF, tF, tF, tF, tF, tF, tF] (by kernel_rfl) rfl rfl ⟨(blk_cell BK172.out 0).trans rfl, (blk_cell BK172.out 1).trans rfl, hx182_0⟩ (fun hHeld => ?_); refine with_tabW spec_l6Used.tab11 spec_l6Used.bits11 (fun HT_ HW_ => ?_)
               generalize wr.drew = w28 at HO_3 BK172 HB GG26 HQ30 hf26_0 hx182_0 hx26_0 hHeld ⊢
               refine pY 0 53 #[tT, tF, tF, tF, tF, tF, tF, tF, tF, tF, tF, tF, tF] ?_
               refine pY 1 54 #[tT, tT, tF, tF, tF, tF, tF, tF, tF, tF, tF, tF, tF] ?_
               refine pY 4 57 #[tT, tT, tF, tF, tT, tF, tF, tF, tF, tF, tF, tF, tF] ?_
               refine pY 5 58 #[tT, tT, tF, tF, tT, tT, tF, tF, tF, tF, tF, tF, tF] ?_
               refine take_ (i := 2) (N := some 55) (v := ?_) (a' := ?_) #[tT, tT, tT, tF, tT, tT, tF, tF, tF, tF, tF, tF, tF] rfl rfl (take_ofW HT_.out HW_.out (by kernel_rfl)) (fun _ _ _ h => h) (Or.inl ⟨by rfl, ?_⟩) hHeld ?_ ?_
               rotate_left
               ·rintro w' ⟨s0, s1, s2⟩
                go_simp
                with_reducible rfl
               rotate_left
               ·simp only [Act.put, List.setIfInBounds_toArray, List.set_cons_zero, List.set_cons_succ, i64_w, i32_w]
                rfl
               refine pY 3 56 #[tT, tT, tT, tT, tT, tT, tF, tF, tF, tF, tF, tF, tF] ?_
               refine take_ (i := 6) (N := some 59) (v := ?_) (a' := ?_) #[tT, tT, tT, tT, tT, tT, tT, tF, tF, tF, tF, tF, tF] rfl rfl (take_ofW HT_.out HW_.out (by kernel_rfl)) (fun _ _ _ h => h) (Or.inl ⟨by rfl, ?_⟩) hHeld ?_ ?_
               rotate_left
               ·rintro w' ⟨s0, s1, s2⟩
                go_simp
                with_reducible rfl
               rotate_left
               ·simp only [Act.put, List.setIfInBounds_toArray, List.set_cons_zero, List.set_cons_succ, i64_w, i32_w]
                rfl
               refine pY 7 60 #[tT, tT, tT, tT, tT, tT, tT, tT, tF, tF, tF, tF, tF] ?_
               refine pY 8 61 #[tT, tT, tT, tT, tT, tT, tT, tT, tT, tF, tF, tF, tF] ?_
               refine take_ (i := 9) (N := some 62) (v := ?_) (a' := ?_) #[tT, tT, tT, tT, tT, tT, tT, tT, tT, tT, tF, tF, tF] rfl rfl (take_ofW HT_.out HW_.out (by kernel_rfl)) (fun _ _ _ h => h) (Or.inl ⟨by rfl, ?_⟩) hHeld ?_ ?_
               rotate_left
               ·rintro w' ⟨s0, s1, s2⟩
                go_simp
                with_reducible rfl
               rotate_left
               ·simp only [Act.put, List.setIfInBounds_toArray, List.set_cons_zero, List.set_cons_succ, i64_w, i32_w]
                rfl
               refine pY 10 63 #[tT, tT, tT, tT, tT, tT, tT, tT, tT, tT, tT, tF, tF] ?_
               refine pY 11 64 #[tT, tT, tT, tT, tT, tT, tT, tT, tT, tT, tT, tT, tF] ?_
               refine last_ (i := 12) (N := none) #[tT, tT, tT, tT, tT, tT, tT, tT, tT, tT, tT, tT, tT] rfl rfl (one_of HT_.out (by kernel_rfl)) (by decide) (fun K hK => ?_)
               refine skip_ (w1 := ?_) (by rfl) rfl ?_ ?_
               rotate_left
               ·go_simp
                rfl
               refine hK.out _ _ ?_
               clear hK K
               refine done_ (done_of HT_.out (by kernel_rfl)) ?_
               try go_wp2
               go_roundg k2
               case measure => have := HK1.out; have := HK2.out; omega
               case rel => exact ⟨(y183), (wrap64 (x5_2 + 1)), (by first | rfl | (simp; done) | (simp [*]; done) | (simp; exact (by intro l_; cases l_ <;> rfl : ∀ l_ : List UInt8, l_.isEmpty = !(l_ != [])) _)), H', ⟨by have := HK1.out; have := HK2.out; omega⟩, ⟨rP HQ30.out⟩, ⟨by (with_reducible repeat (first | apply bN | apply bD | apply bA)); refine blk_far ?_ (by have h_ := Kd.R_ne HO_3.out BK172.out (by decide); intro e_; exact h_ (by rw [e_]; rfl)) _; (with_reducible repeat (first | apply bN | apply bD | apply bA)); exact BK172.out⟩, ⟨bB⟩⟩
              ·rw [if_neg c25] at H
               exact absurd H (by simp)
             ·rw [if_neg c24] at H
              exact absurd H (by simp)
           ·rw [if_neg c14] at H
            exact absurd H (by simp)
          ·rw [if_neg c13] at H
           have c13b0 : decide (x5_2 < (((rd_T40 l0_0 x4_1).f4).length : Int)) = false := decide_eq_false c13
           clear c13
           have H' := aM H
           clear H
           have hcz31_0 := cZ0 BK172
           have hcz31_1 := cZ1 BK172
           have hfz31_0 := fZ BK172 0
           have hfz31_1 := fZ BK172 1
           have p176 : 0 ≤ (x4_1 : Int) := dT
           have q176 : x4_1 < (l0_0.length : Int) := dT
           obtain ⟨ad176, A176_4, c176_4, e176, hx176_0, hx176_1, hx176_2, hx176_3, hx176_4, hl176_4, hi176_4⟩ := at_T40 HR0_0.out x4_1 p176 q176
           cases e176
           replace hx176_0 := (HB.out.cell (World.block_lt_of_cell? w _ hx176_0)).trans hx176_0
           replace hx176_1 := (HB.out.cell (World.block_lt_of_cell? w _ hx176_1)).trans hx176_1
           replace hx176_2 := (HB.out.cell (World.block_lt_of_cell? w _ hx176_2)).trans hx176_2
           replace hx176_3 := (HB.out.cell (World.block_lt_of_cell? w _ hx176_3)).trans hx176_3
           replace hx176_4 := (HB.out.cell (World.block_lt_of_cell? w _ hx176_4)).trans hx176_4
           have HR176_4 := aM hi176_4
           have HC176_4 := aM hl176_4
           clear hi176_4 hl176_4
           replace p176 := eq_true p176
           replace q176 := eq_true q176
           go_wp2
           go_roundg k2
           case measure => have := HK1.out; have := HK2.out; omega
           case rel => exact ⟨(x3_2), (wrap64 (x4_1 + 1)), (by first | rfl | (simp; done) | (simp [*]; done) | (simp; exact (by intro l_; cases l_ <;> rfl : ∀ l_ : List UInt8, l_.isEmpty = !(l_ != [])) _)), H', ⟨by have := HK1.out; have := HK2.out; omega⟩, ⟨rP HO_3.out⟩, ⟨kP BK172⟩, ⟨bB⟩⟩
         ·rw [if_neg c12] at H
          exact absurd H (by simp)
        ·rw [if_neg c11] at H
         exact absurd H (by simp)
     ·rw [if_neg c9] at H
      have c9b0 : decide (x4_1 < (l0_0.length : Int)) = false := decide_eq_false c9
      clear c9
      obtain rfl := Option.some.inj H
      have hcz32_0 := cZ0 BK172
      have hcz32_1 := cZ1 BK172
      have hfz32_0 := fZ BK172 0
      have hfz32_1 := fZ BK172 1
      go_wp2
      go_ret
      exact ⟨_, by first | rfl | (simp [errW_none, errW_some] <;> rfl) | (simp only [← hji2]; first | rfl | (simp [errW_none, errW_some] <;> rfl)) | (simp [*, errW_none, errW_some] <;> rfl), by (with_reducible repeat (first | apply Kd.R_alloc | apply Kd.R_drewN | apply Kd.R_drew)); exact HO_3.out, bB⟩
  rw [if_neg c4] at H
  exact absurd H (by simp)
 rw [if_neg c3] at H
 exact absurd H (by simp)

/-! ### spec_l1Min: function 34 -/
def spec_l1Min.f (a0 : Int) (a1 : Int) : Option (Int) := if a0 < a1 then (some a0) else (some a1)
set_option maxHeartbeats 8000000 in
set_option maxRecDepth 100000 in
theorem spec_l1Min.calls (a0 : Int) (a1 : Int) (r : Int) (w : World) (h : spec_l1Min.f a0 a1 = some r) :
  Calls Try.prog 34 #[.int .i64 a0, .int .i64 a1] w fun e w' => e = .returned (.int .i64 r) ∧ Drawn0 w w' := by
 unfold spec_l1Min.f at h
 have H := h
 clear h
 by_cases c3 : a0 < a1
 ·rw [if_pos c3] at H
  have c3b0 : decide (a0 < a1) = true := decide_eq_true c3
  clear c3
  obtain rfl := Option.some.inj H
  go_enter Try.func34, Try.ntmps34
  go_wp2
  go_ret
  exact ⟨by first | rfl | (simp; done) | (simp [*]; done), by repeat (first | exact Drawn0.refl _ | apply Drawn0.step)⟩
 rw [if_neg c3] at H
 have c3b0 : decide (a0 < a1) = false := decide_eq_false c3
 clear c3
 obtain rfl := Option.some.inj H
 go_enter Try.func34, Try.ntmps34
 go_wp2
 go_ret
 exact ⟨by first | rfl | (simp; done) | (simp [*]; done), by repeat (first | exact Drawn0.refl _ | apply Drawn0.step)⟩

/-! ### spec_l6Long: function 20 -/
def spec_l6Long.f (a0 : Int) (a1 : Int) : Option (Int) := (spec_l1Min.f 16 (wrap64 (a0 - (wrap64 (a1 * 16))))).bind fun t184 => (some t184)
set_option maxHeartbeats 8000000 in
set_option maxRecDepth 100000 in
theorem spec_l6Long.calls (a0 : Int) (a1 : Int) (r : Int) (w : World) (h : spec_l6Long.f a0 a1 = some r) :
  Calls Try.prog 20 #[.int .i64 a0, .int .i64 a1] w fun e w' => e = .returned (.int .i64 r) ∧ Drawn0 w w' := by
 unfold spec_l6Long.f at h
 have H := h
 clear h
 replace H := Option.bind_eq_some_iff.mp H
 obtain ⟨t184, A30, H⟩ := H
 try dsimp only at H
 have A3 := aM A30
 clear A30
 obtain rfl := Option.some.inj H
 go_enter Try.func20, Try.ntmps20
 go_wp2_with (first | ((with_reducible refine gate_callee (f := 34) rfl ?_); refine gL (some 9) Try.func34 #[.int .i64 16, .int .i64 (wrap64 (a0 - (wrap64 (a1 * 16))))] ?_; (with_reducible refine (spec_l1Min.calls 16 (wrap64 (a0 - (wrap64 (a1 * 16)))) t184 _ A3.out).mono ?_); rintro e w' ⟨rfl, ⟨nd, rfl⟩⟩; refine ⟨_, rfl, ?_⟩))
 go_ret
 exact ⟨by first | rfl | (simp; done) | (simp [*]; done), by repeat (first | exact Drawn0.refl _ | apply Drawn0.step)⟩

end Go.Proofs.Ytapliilimfgdjaa.PFnExactFreeOf
