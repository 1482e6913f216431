-- Written by xprint.py, a program of this session over the kit's print. Not trusted: Lean checks it.
import Derived.Test.YtgmpdkefegofhaaPFnExactEventsDox0
import Derived.Test.YtgmpdkefegofhaaPFnExactEventsDox4
namespace Go.Proofs.Ytgmpdkefegofhaa.PFnExactEventsDo
open Go.RowKit Go.Proofs.YtgmpdkefegofhaaW.PrintWords Go.Proofs.YtgmpdkefegofhaaW.PrintLast Go.Proofs.YtgmpdkefegofhaaW.PrintMore
attribute [local go_sem] max2_int min2_int max_two min_two max_three min_three max_four min_four   -- for this text's walks alone
set_option linter.unusedVariables false
set_option linter.unusedSimpArgs false

/-! ### spec_Flush: function 31 -/
def spec_Flush.l0 : Nat → Int → List ByteArray → List (S65) → List ByteArray → List (S65) → Option (List ByteArray × (List (S65)))
 | 0, _, _, _, _, _ => none
 | k + 1, x4, x217000, x217001, x225000, x225001 => if x4 < (x217001.length : Int) then (if 0 ≤ x4 then (if 0 ≤ ((rd_T65 x217001 x4).f0) then (if ((rd_T65 x217001 x4).f0) < (x225000.length : Int) then (spec_Flush.l0 k (wrap64 (x4 + 1)) x217000 x217001 (x225000.set (((rd_T65 x217001 x4).f0) : Int).toNat ((rd_T65 x217001 x4).f1)) x225001) else (none)) else (none)) else (none)) else (some (x225000, ([] : List (S65))))
def spec_Flush.f (k : Nat) (l0_0 : List ByteArray) (l0_1 : List (S65)) : Option (List ByteArray × (List (S65))) := (spec_l3Copy.f l0_0 l0_1).bind fun bt218 => ((spec_DiskOk.f k l0_0 l0_1).bind fun t225 => (if t225 = true then (spec_Flush.l0 k 0 l0_0 l0_1 bt218.1 bt218.2) else (some (bt218.1, bt218.2))))
theorem spec_Flush.mono_l : ∀ k, (∀ y0 y1 y2 y3 y4, LeO (spec_Flush.l0 k y0 y1 y2 y3 y4) (spec_Flush.l0 (k + 1) y0 y1 y2 y3 y4))
 | 0 => fun _ _ _ _ _ r h => by simp [spec_Flush.l0] at h
 | k + 1 => by
  have ih0 := spec_Flush.mono_l k
  ·intro y0 y1 y2 y3 y4
   unfold spec_Flush.l0
   have m0_ := @spec_DiskOk.mono
   exact mM
theorem spec_Flush.mono : ∀ a0 a1 k, LeO (spec_Flush.f k a0 a1) (spec_Flush.f (k + 1) a0 a1) := by
 intro a0 a1 k
 have ih0 := spec_Flush.mono_l k
 unfold spec_Flush.f
 have m0_ := @spec_DiskOk.mono
 exact mM
def spec_Flush.T7 : Bool × List (List Nat × List Nat) := (true, [([], []), ([0], [0]), ([], []), ([2], [2]), ([], []), ([3, 4], [3, 4]), ([5], [5]), ([6], [6]), ([], []), ([8], [8]), ([], []), ([9, 10], [9, 10]), ([11], [11]), ([12], [12]), ([1, 7, 0, 1, 2, 3, 4, 5, 6, 7, 8, 9, 10, 11, 12, 13], [1, 7]), ([14, 13, 0, 1, 2, 3, 4, 5, 6, 7, 8, 9, 10, 11, 12, 13], [13, 14])])
def spec_Flush.B7 : List Nat := [0, 1, 0, 4, 0, 28, 60, 124, 0, 256, 0, 1792, 3840, 7936, 16383, 32767]
theorem spec_Flush.tab7 : rtab .any (opsOf Try.f31 7) = spec_Flush.T7 := by kernel_rfl
theorem spec_Flush.bits7 : waitsOk spec_Flush.T7.2 spec_Flush.B7 = true := by kernel_rfl
set_option maxHeartbeats 8000000 in
set_option maxRecDepth 100000 in
theorem spec_Flush.calls (k : Nat) (A0_0 : Option Addr) (c0_0 : Nat) (l0_0 : List ByteArray) (A0_1 : Option Addr) (c0_1 : Nat) (l0_1 : List (S65)) (r1 : List ByteArray) (r2 : List (S65)) (w : World) (hr0_0 : Kd.C Kd.string w A0_0 l0_0.length l0_0) (hc0_0 : l0_0.length ≤ c0_0) (hr0_1 : Kd.C k65 w A0_1 l0_1.length l0_1) (hc0_1 : l0_1.length ≤ c0_1) (h : spec_Flush.f k l0_0 l0_1 = some (r1, r2)) :
  Calls Try.prog 31 #[.agg #[.slice A0_0 l0_0.length c0_0, .slice A0_1 l0_1.length c0_1]] w fun e w' => ∃ v0_ v1_ : Value, e = .returned (.agg #[v0_, v1_]) ∧ Kd.R Kd.string 9 w' w.heap.size (fun _ => True) v0_ r1 ∧ Kd.R k65 65 w' w.heap.size (fun _ => True) v1_ r2 ∧ Below w.heap.size w w' := by
 have hu30 := Try.underlying30
 have HR0_0 := Aside0.mk hr0_0
 have HC0_0 := Aside0.mk hc0_0
 clear hr0_0 hc0_0
 have HR0_1 := Aside0.mk hr0_1
 have HC0_1 := Aside0.mk hc0_1
 clear hr0_1 hc0_1
 have HB := Aside0.mk (Below.refl w.heap.size w)
 unfold spec_Flush.f at h
 have H := h
 clear h
 replace H := Option.bind_eq_some_iff.mp H
 obtain ⟨⟨t218, t221⟩, A20, H⟩ := H
 try dsimp only at H
 have A2 := Aside0.mk A20
 clear A20
 replace H := Option.bind_eq_some_iff.mp H
 obtain ⟨t225, A30, H⟩ := H
 try dsimp only at H
 have A3 := Aside0.mk A30
 clear A30
 by_cases c4 : t225 = true
 ·subst c4
  rw [if_pos rfl] at H
  have H' := Aside0.mk H
  clear H
  go_enter Try.func31, Try.ntmps31
  go_wp2_with (first | ((with_reducible refine gate_dst (N := 1) rfl ?_); refine bE 1 #[.slice A0_0 l0_0.length c0_0, .slice A0_1 l0_1.length c0_1] 30 ?_; intro gb216 hg w5 hbox hb; have n_ := And.intro (sB HB hb) (And.intro (Aside0.mk hbox) (And.intro (gE HB hg) (gE HB hg))); clear HB; obtain ⟨HB, BK216, GW216, GE216⟩ := n_; (try clear hb hbox hg)) | ((with_reducible refine gate_dst (N := 2) rfl ?_); refine bE 2 #[.slice none 0 0, .slice none 0 0] 30 ?_; intro gb217 hg w6 hbox hb; have n_ := And.intro (kB BK216 hb) (And.intro (sB HB hb) (And.intro (Aside0.mk hbox) (And.intro (gE HB hg) (And.intro (gE HB hg) (And.intro (nL BK216 hg) (nG BK216 hg)))))); clear BK216 HB; obtain ⟨BK216, HB, BK217, GW217, GE217, NB216_217, NB217_216⟩ := n_; (try clear hb hbox hg); have hnb7 := NB216_217.out; have hnc7 := NB217_216.out; have hcz8_0 := cZ0 BK216; have hcz8_1 := cZ1 BK216; have hfz8_0 := blk_frozen BK216.out 0; have hfz8_1 := blk_frozen BK216.out 1) | ((with_reducible refine gate_callee (f := 75) rfl ?_); refine gL (some 6) Try.func75 #[.agg #[.slice A0_0 l0_0.length c0_0, .slice A0_1 l0_1.length c0_1]] ?_; (with_reducible refine (spec_l3Copy.calls _ _ l0_0 _ _ l0_1 t218 t221 _ ?side1 ?side2 ?side3 ?side4 A2.out).mono ?_); (case side1 => exact cS HR0_0 HB); (case side2 => exact HC0_0.out); (case side3 => exact cS HR0_1 HB); (case side4 => exact HC0_1.out); rintro e w9 ⟨v219, v222, rfl, ho0, ho1, hb⟩; refine ⟨_, rfl, ?_⟩; have n_ := And.intro (lR HB ho0) (And.intro (lR HB ho1) (And.intro (kB BK216 hb) (And.intro (kB BK217 hb) (sB HB hb)))); clear BK216 BK217 HB; obtain ⟨HO220, HO223, BK216, BK217, HB⟩ := n_; (try clear hb ho0 ho1)) | ((with_reducible refine gate_dst (N := 3) rfl ?_); refine bE 3 #[.slice none 0 0, .slice none 0 0] 30 ?_; intro gb224 hg w10 hbox hb; have n_ := And.intro (rB HO220 hb) (And.intro (rB HO223 hb) (And.intro (kB BK216 hb) (And.intro (kB BK217 hb) (And.intro (sB HB hb) (And.intro (Aside0.mk hbox) (And.intro (gE HB hg) (And.intro (gE HB hg) (And.intro (nL BK216 hg) (And.intro (nG BK216 hg) (And.intro (nL BK217 hg) (nG BK217 hg))))))))))); clear HO220 HO223 BK216 BK217 HB; obtain ⟨HO220, HO223, BK216, BK217, HB, BK224, GW224, GE224, NB216_224, NB224_216, NB217_224, NB224_217⟩ := n_; (try clear hb hbox hg); obtain ⟨Ao11, co11, eo11⟩ := Kd.R_slice HO220.out; subst eo11; have hnb12 := NB224_216.out; have hnc12 := NB216_224.out; have hnb13 := NB224_217.out; have hnc13 := NB217_224.out; have hcz14_0 := cZ0 BK224; have hcz14_1 := cZ1 BK224; have hfz14_0 := blk_frozen BK224.out 0; have hfz14_1 := blk_frozen BK224.out 1; obtain ⟨Ao15, co15, eo15⟩ := Kd.R_slice HO223.out; subst eo15; have hcz16_0 := cZ0 BK216; have hcz16_1 := cZ1 BK216; have hfz16_0 := blk_frozen BK216.out 0; have hfz16_1 := blk_frozen BK216.out 1) | ((with_reducible refine gate_callee (f := 16) rfl ?_); refine gL (some 8) Try.func16 #[.agg #[.slice A0_0 l0_0.length c0_0, .slice A0_1 l0_1.length c0_1]] ?_; (with_reducible refine (spec_DiskOk.calls k _ _ l0_0 _ _ l0_1 true _ ?side1 ?side2 ?side3 ?side4 A3.out).mono ?_); (case side1 => exact cS HR0_0 HB); (case side2 => exact HC0_0.out); (case side3 => exact cS HR0_1 HB); (case side4 => exact HC0_1.out); rintro e w17 ⟨rfl, hb⟩; refine ⟨_, rfl, ?_⟩; have n_ := And.intro (Aside0.mk (Kd.R_below (rP (Kd.R_mono (Kd.R_far (p := ⟨gb224, 1, none⟩) (Kd.R_far (p := ⟨gb224, 0, none⟩) (Kd.R_types HO220.out BK224.out (by decide)) (fun _ hk => hk.2) (.slice Ao11 t218.length co11)) (fun _ hk => hk.2) (.slice Ao15 t221.length co15)) (fun _ h_ => h_.1))) hb)) (And.intro (Aside0.mk (Kd.R_below (rP (Kd.R_mono (Kd.R_far (p := ⟨gb224, 1, none⟩) (Kd.R_far (p := ⟨gb224, 0, none⟩) (Kd.R_types HO223.out BK224.out (by decide)) (fun _ hk => hk.2) (.slice Ao11 t218.length co11)) (fun _ hk => hk.2) (.slice Ao15 t221.length co15)) (fun _ h_ => h_.1))) hb)) (And.intro (kB BK216 hb) (And.intro (kB BK217 hb) (And.intro (Aside0.mk (blk_below (g := gb224) (o := .cells #[.slice Ao11 t218.length co11, .slice Ao15 t221.length co15] 30 (0, 0)) (by (with_reducible repeat (first | refine blk_drewN ?_ _ | refine blk_drew ?_ | refine blk_alloc ?_ _)); refine blk_put (cs := #[.slice Ao11 t218.length co11, .slice none 0 0]) ?_ 1 _ rfl; (with_reducible repeat (first | refine blk_drewN ?_ _ | refine blk_drew ?_ | refine blk_alloc ?_ _)); refine blk_put (cs := #[.slice none 0 0, .slice none 0 0]) ?_ 0 _ rfl; (with_reducible repeat (first | refine blk_drewN ?_ _ | refine blk_drew ?_ | refine blk_alloc ?_ _)); exact BK224.out) hb)) (sB HB hb))))); clear HO220 HO223 BK216 BK217 BK224 HB; obtain ⟨HO220, HO223, BK216, BK217, BK224, HB⟩ := n_; (try clear hb)))
  go_loopg [4] k (fun kq v4 w' => ∃ (x4_1 : Int) (x225000_1 : List ByteArray) (u225000 : Value), v4 = .int .i64 x4_1 ∧ Aside0 (spec_Flush.l0 kq x4_1 l0_0 l0_1 x225000_1 t221 = some (r1, r2)) ∧ Aside0 (kq ≤ k) ∧ Aside0 (Kd.R Kd.string 9 w' w.heap.size (fun _ => True) u225000 x225000_1) ∧ Aside0 (Kd.R k65 65 w' w.heap.size (fun _ => True) (.slice Ao15 t221.length co15) t221) ∧ Aside0 (w'.heap[gb216]? = some (.cells #[(.slice A0_0 l0_0.length c0_0), (.slice A0_1 l0_1.length c0_1)] 30 (0, 0))) ∧ Aside0 (w'.heap[gb217]? = some (.cells #[(.slice none 0 0), (.slice none 0 0)] 30 (0, 0))) ∧ Aside0 (w'.heap[gb224]? = some (.cells #[u225000, (.slice Ao15 t221.length co15)] 30 (0, 0))) ∧ Aside0 (Below w.heap.size w w'))
  case atStart => exact ⟨(0), (t218), (.slice Ao11 t218.length co11), (by first | rfl | (simp; done) | (simp [*]; done) | (simp; exact (by intro l_; cases l_ <;> rfl : ∀ l_ : List UInt8, l_.isEmpty = !(l_ != [])) _)), H', ⟨Nat.le_refl _⟩, ⟨rP HO220.out⟩, ⟨rP HO223.out⟩, ⟨kP BK216⟩, ⟨kP BK217⟩, ⟨kP BK224⟩, ⟨bB⟩⟩
  case round =>
   clear H'
   try clear c1
   try clear p2
   try clear c3
   try clear c4
   try clear c7
   try clear c12
   try clear c13
   try clear c16
   try clear hcz14_0
   try clear hcz14_1
   try clear hcz16_0
   try clear hcz16_1
   try clear hcz8_0
   try clear hcz8_1
   try clear hfz14_0
   try clear hfz14_1
   try clear hfz16_0
   try clear hfz16_1
   try clear hfz8_0
   try clear hfz8_1
   obtain ⟨x4_1, x225000_1, u225000, rfl, HA, HK1, HO_225000, HO_225001, BK216, BK217, BK224, HB⟩ := hrel
   cases gk with
   | zero => exact absurd HA.out (by simp [spec_Flush.l0])
   | succ k1 =>
    have H := HA.out
    clear HA
    simp only [spec_Flush.l0] at H
    by_cases c18 : x4_1 < (l0_1.length : Int)
    ·rw [if_pos c18] at H
     have c18b0 : decide (x4_1 < (l0_1.length : Int)) = true := decide_eq_true c18
     clear c18
     by_cases c19 : 0 ≤ x4_1
     ·rw [if_pos c19] at H
      have c19b0 : decide (0 ≤ x4_1) = true := decide_eq_true c19
      clear c19
      by_cases c20 : 0 ≤ ((rd_T65 l0_1 x4_1).f0)
      ·rw [if_pos c20] at H
       have c20b0 : decide (0 ≤ ((rd_T65 l0_1 x4_1).f0)) = true := decide_eq_true c20
       clear c20
       by_cases c21 : ((rd_T65 l0_1 x4_1).f0) < (x225000_1.length : Int)
       ·rw [if_pos c21] at H
        have c21b0 : decide (((rd_T65 l0_1 x4_1).f0) < (x225000_1.length : Int)) = true := decide_eq_true c21
        clear c21
        obtain ⟨y228, hy228⟩ : ∃ y_ : List ByteArray, y_ = (x225000_1.set (((rd_T65 l0_1 x4_1).f0) : Int).toNat ((rd_T65 l0_1 x4_1).f1)) := ⟨_, rfl⟩
        replace H : (spec_Flush.l0 k1 (wrap64 (x4_1 + 1)) l0_0 l0_1 y228 t221) = some (r1, r2) := by first | (rw [hy228]; with_reducible exact H) | (have H2_ := (Option.bind_some _ _).symm.trans H; rw [hy228]; with_reducible exact H2_) | (have H2_ := (Option.bind_some _ _).symm.trans H; with_reducible exact H2_) | with_reducible exact H | (rw [hy228]; exact H) | exact H
        have Ny228 := Aside0.mk hy228
        clear hy228
        have H' := Aside0.mk H
        clear H
        have hnb23 := NB216_217.out
        have hnc23 := NB217_216.out
        have hnb24 := NB216_224.out
        have hnc24 := NB224_216.out
        have hcz25_0 := cZ0 BK216
        have hcz25_1 := cZ1 BK216
        have hfz25_0 := blk_frozen BK216.out 0
        have hfz25_1 := blk_frozen BK216.out 1
        try go_wp2
        have n0_ := Aside0.mk (Kd.R_drew HO_225000.out)
        have n1_ := Aside0.mk (Kd.R_drew HO_225001.out)
        have n2_ := Aside0.mk (blk_drew BK216.out)
        have n3_ := Aside0.mk (blk_drew BK217.out)
        have n4_ := Aside0.mk (blk_drew BK224.out)
        have n5_ := Aside0.mk (below_drew1 HB.out)
        clear HO_225000
        clear HO_225001
        clear BK216
        clear BK217
        clear BK224
        clear HB
        have HO_225000 := n0_
        have HO_225001 := n1_
        have BK216 := n2_
        have BK217 := n3_
        have BK224 := n4_
        have HB := n5_
        clear n0_ n1_ n2_ n3_ n4_ n5_
        have p226 : 0 ≤ (x4_1 : Int) := dT
        have q226 : x4_1 < (l0_1.length : Int) := dT
        obtain ⟨ad226, e226, hx226_0, hx226_1⟩ := at_T65 HR0_1.out x4_1 p226 q226
        have hw226_1 := hx226_1
        have hw226_0 := hx226_0
        cases e226
        replace hx226_0 := (HB.out.cell (World.block_lt_of_cell? w _ hx226_0)).trans hx226_0
        replace hx226_1 := (HB.out.cell (World.block_lt_of_cell? w _ hx226_1)).trans hx226_1
        replace p226 := eq_true p226
        replace q226 := eq_true q226
        have p227 : 0 ≤ (x4_1 : Int) := dT
        have q227 : x4_1 < (l0_1.length : Int) := dT
        obtain ⟨ad227, e227, hx227_0, hx227_1⟩ := at_T65 HR0_1.out x4_1 p227 q227
        have hw227_1 := hx227_1
        have hw227_0 := hx227_0
        obtain rfl : ad226 = ad227 := (by injection e227)
        replace hx227_0 := (HB.out.cell (World.block_lt_of_cell? w _ hx227_0)).trans hx227_0
        replace hx227_1 := (HB.out.cell (World.block_lt_of_cell? w _ hx227_1)).trans hx227_1
        replace p227 := eq_true p227
        replace q227 := eq_true q227
        have p22 : 0 ≤ (((rd_T65 l0_1 x4_1).f0) : Int) := dT
        have q22 : (((rd_T65 l0_1 x4_1).f0) : Int) < ((x225000_1.length : Int) : Int) := dT
        obtain ⟨go22, co22, eo22, gb22, gl22, cl22, HG22⟩ := Kd.R_form HO_225000.out (by omega)
        (first | cases eo22 | (injection eo22 with ea_ en_ ec_; (first | subst ea_ | (injection ea_ with ea_; subst ea_)); subst ec_; clear en_))
        have GB22 := Aside0.mk gb22
        have GG22 := Aside0.mk HG22
        clear gb22 gl22 HG22
        obtain ⟨hx22_0, hf22_0⟩ := Kd.R_celln (⟨#[]⟩ : ByteArray) HO_225000.out (((rd_T65 l0_1 x4_1).f0) : Int) p22 q22
        replace p22 := eq_true p22
        replace q22 := eq_true q22
        have HP27 := Kd.R_putn HO_225000.out (((rd_T65 l0_1 x4_1).f0) : Int) ((rd_T65 l0_1 x4_1).f1)
        rw [← Ny228.out] at HP27
        have HQ27 := Aside0.mk HP27
        clear HP27
        refine start_ (n := 16) (S := fun w' => w'.cell? ⟨gb224, 0, none⟩ = some (.slice (some ⟨go22, 0, none⟩) x225000_1.length co22) ∧ w'.cell? ⟨gb224, 1, none⟩ = some (.slice Ao15 t221.length co15) ∧ w'.cell? ⟨gb216, 0, none⟩ = some (.slice A0_0 l0_0.length c0_0) ∧ w'.cell? ⟨gb216, 1, none⟩ = some (.slice (some ad226) l0_1.length c0_1) ∧ w'.cell? (ad226.add ((x4_1).toNat * 2)) = some (.int .i64 ((rd_T65 l0_1 x4_1).f0)) ∧ w'.cell? ⟨(ad226.add ((x4_1).toNat * 2)).block, (ad226.add ((x4_1).toNat * 2)).off + 1, none⟩ = some (.string ((rd_T65 l0_1 x4_1).f1)) ∧ w'.cell? (ad226.add ((x4_1).toNat * 2)) = some (.int .i64 ((rd_T65 l0_1 x4_1).f0)) ∧ w'.cell? ⟨(ad226.add ((x4_1).toNat * 2)).block, (ad226.add ((x4_1).toNat * 2)).off + 1, none⟩ = some (.string ((rd_T65 l0_1 x4_1).f1))) (ds := [15]) #[false, false, false, false, false, false, false, false, false, false, false, false, false, false, false, false] (by kernel_rfl) rfl rfl ⟨(blk_cell BK224.out 0).trans rfl, (blk_cell BK224.out 1).trans rfl, (blk_cell BK216.out 0).trans rfl, (blk_cell BK216.out 1).trans rfl, ((HB.out.cell (World.block_lt_of_cell? w _ hw226_0)).trans hw226_0), ((HB.out.cell (World.block_lt_of_cell? w _ hw226_1)).trans hw226_1), ((HB.out.cell (World.block_lt_of_cell? w _ hw227_0)).trans hw227_0), ((HB.out.cell (World.block_lt_of_cell? w _ hw227_1)).trans hw227_1)⟩ (fun hHeld => ?_); refine with_tabW spec_Flush.tab7 spec_Flush.bits7 (fun HT_ HW_ => ?_)
        generalize wr.drew = w26 at HO_225000 HO_225001 BK216 BK217 BK224 HB GG22 HQ27 hf22_0 hx226_0 hx226_1 hx227_0 hx227_1 hx22_0 hHeld ⊢
        refine pure_ (i := 0) (N := some 18) (v := ?_) (a' := ?_) #[true, false, false, false, false, false, false, false, false, false, false, false, false, false, false, false] rfl rfl (any_of HT_.out (by kernel_rfl)) (fun _ _ _ h => h) (Or.inl ⟨by rfl, ?_⟩) ?_ ?_
        rotate_left
        ·intro w'
         go_simp
         with_reducible rfl
        rotate_left
        ·simp only [Act.put, List.setIfInBounds_toArray, List.set_cons_zero, List.set_cons_succ, i64_w, i32_w]
         rfl
        refine pure_ (i := 2) (N := some 20) (v := ?_) (a' := ?_) #[true, false, true, false, false, false, false, false, false, false, false, false, false, false, false, false] rfl rfl (any_of HT_.out (by kernel_rfl)) (fun _ _ _ h => h) (Or.inl ⟨by rfl, ?_⟩) ?_ ?_
        rotate_left
        ·intro w'
         go_simp
         with_reducible rfl
        rotate_left
        ·simp only [Act.put, List.setIfInBounds_toArray, List.set_cons_zero, List.set_cons_succ, i64_w, i32_w]
         rfl
        refine pure_ (i := 4) (N := some 22) (v := ?_) (a' := ?_) #[true, false, true, false, true, false, false, false, false, false, false, false, false, false, false, false] rfl rfl (any_of HT_.out (by kernel_rfl)) (fun _ _ _ h => h) (Or.inl ⟨by rfl, ?_⟩) ?_ ?_
        rotate_left
        ·intro w'
         go_simp
         with_reducible rfl
        rotate_left
        ·simp only [Act.put, List.setIfInBounds_toArray, List.set_cons_zero, List.set_cons_succ, i64_w, i32_w]
         rfl
        refine pure_ (i := 8) (N := some 26) (v := ?_) (a' := ?_) #[true, false, true, false, true, false, false, false, true, false, false, false, false, false, false, false] rfl rfl (any_of HT_.out (by kernel_rfl)) (fun _ _ _ h => h) (Or.inl ⟨by rfl, ?_⟩) ?_ ?_
        rotate_left
        ·intro w'
         go_simp
         with_reducible rfl
        rotate_left
        ·simp only [Act.put, List.setIfInBounds_toArray, List.set_cons_zero, List.set_cons_succ, i64_w, i32_w]
         rfl
        refine pure_ (i := 10) (N := some 28) (v := ?_) (a' := ?_) #[true, false, true, false, true, false, false, false, true, false, true, false, false, false, false, false] rfl rfl (any_of HT_.out (by kernel_rfl)) (fun _ _ _ h => h) (Or.inl ⟨by rfl, ?_⟩) ?_ ?_
        rotate_left
        ·intro w'
         go_simp
         with_reducible rfl
        rotate_left
        ·simp only [Act.put, List.setIfInBounds_toArray, List.set_cons_zero, List.set_cons_succ, i64_w, i32_w]
         rfl
        refine take_ (i := 1) (N := some 19) (v := ?_) (a' := ?_) #[true, true, true, false, true, false, false, false, true, false, true, false, false, false, false, false] rfl rfl (take_ofW HT_.out HW_.out (by kernel_rfl)) (fun _ _ _ h => h) (Or.inl ⟨by rfl, ?_⟩) hHeld ?_ ?_
        rotate_left
        ·rintro w' ⟨s0, s1, s2, s3, s4, s5, s6, s7⟩
         go_simp
         with_reducible rfl
        rotate_left
        ·simp only [Act.put, List.setIfInBounds_toArray, List.set_cons_zero, List.set_cons_succ, i64_w, i32_w]
         rfl
        refine take_ (i := 3) (N := some 21) (v := ?_) (a' := ?_) #[true, true, true, true, true, false, false, false, true, false, true, false, false, false, false, false] rfl rfl (take_ofW HT_.out HW_.out (by kernel_rfl)) (fun _ _ _ h => h) (Or.inl ⟨by rfl, ?_⟩) hHeld ?_ ?_
        rotate_left
        ·rintro w' ⟨s0, s1, s2, s3, s4, s5, s6, s7⟩
         go_simp
         with_reducible rfl
        rotate_left
        ·simp only [Act.put, List.setIfInBounds_toArray, List.set_cons_zero, List.set_cons_succ, i64_w, i32_w]
         rfl
        refine pure_ (i := 5) (N := some 23) (v := ?_) (a' := ?_) #[true, true, true, true, true, true, false, false, true, false, true, false, false, false, false, false] rfl rfl (any_of HT_.out (by kernel_rfl)) (fun _ _ _ h => h) (Or.inl ⟨by rfl, ?_⟩) ?_ ?_
        rotate_left
        ·intro w'
         go_simp
         with_reducible rfl
        rotate_left
        ·simp only [Act.put, List.setIfInBounds_toArray, List.set_cons_zero, List.set_cons_succ, i64_w, i32_w]
         rfl
        refine pure_ (i := 6) (N := some 24) (v := ?_) (a' := ?_) #[true, true, true, true, true, true, true, false, true, false, true, false, false, false, false, false] rfl rfl (any_of HT_.out (by kernel_rfl)) (fun _ _ _ h => h) (Or.inl ⟨by rfl, ?_⟩) ?_ ?_
        rotate_left
        ·intro w'
         go_simp
         with_reducible rfl
        rotate_left
        ·simp only [Act.put, List.setIfInBounds_toArray, List.set_cons_zero, List.set_cons_succ, i64_w, i32_w]
         rfl
        refine take_ (i := 7) (N := some 25) (v := ?_) (a' := ?_) #[true, true, true, true, true, true, true, true, true, false, true, false, false, false, false, false] rfl rfl (take_ofW HT_.out HW_.out (by kernel_rfl)) (fun _ _ _ h => h) (Or.inl ⟨by rfl, ?_⟩) hHeld ?_ ?_
        rotate_left
        ·rintro w' ⟨s0, s1, s2, s3, s4, s5, s6, s7⟩
         go_simp
         with_reducible rfl
        rotate_left
        ·simp only [Act.put, List.setIfInBounds_toArray, List.set_cons_zero, List.set_cons_succ, i64_w, i32_w]
         rfl
        refine take_ (i := 9) (N := some 27) (v := ?_) (a' := ?_) #[true, true, true, true, true, true, true, true, true, true, true, false, false, false, false, false] rfl rfl (take_ofW HT_.out HW_.out (by kernel_rfl)) (fun _ _ _ h => h) (Or.inl ⟨by rfl, ?_⟩) hHeld ?_ ?_
        rotate_left
        ·rintro w' ⟨s0, s1, s2, s3, s4, s5, s6, s7⟩
         go_simp
         with_reducible rfl
        rotate_left
        ·simp only [Act.put, List.setIfInBounds_toArray, List.set_cons_zero, List.set_cons_succ, i64_w, i32_w]
         rfl
        refine pure_ (i := 11) (N := some 29) (v := ?_) (a' := ?_) #[true, true, true, true, true, true, true, true, true, true, true, true, false, false, false, false] rfl rfl (any_of HT_.out (by kernel_rfl)) (fun _ _ _ h => h) (Or.inl ⟨by rfl, ?_⟩) ?_ ?_
        rotate_left
        ·intro w'
         go_simp
         with_reducible rfl
        rotate_left
        ·simp only [Act.put, List.setIfInBounds_toArray, List.set_cons_zero, List.set_cons_succ, i64_w, i32_w]
         rfl
        refine pure_ (i := 12) (N := some 30) (v := ?_) (a' := ?_) #[true, true, true, true, true, true, true, true, true, true, true, true, true, false, false, false] rfl rfl (any_of HT_.out (by kernel_rfl)) (fun _ _ _ h => h) (Or.inl ⟨by rfl, ?_⟩) ?_ ?_
        rotate_left
        ·intro w'
         go_simp
         with_reducible rfl
        rotate_left
        ·simp only [Act.put, List.setIfInBounds_toArray, List.set_cons_zero, List.set_cons_succ, i64_w, i32_w]
         rfl
        refine take_ (i := 13) (N := some 31) (v := ?_) (a' := ?_) #[true, true, true, true, true, true, true, true, true, true, true, true, true, true, false, false] rfl rfl (take_ofW HT_.out HW_.out (by kernel_rfl)) (fun _ _ _ h => h) (Or.inl ⟨by rfl, ?_⟩) hHeld ?_ ?_
        rotate_left
        ·rintro w' ⟨s0, s1, s2, s3, s4, s5, s6, s7⟩
         go_simp
         with_reducible rfl
        rotate_left
        ·simp only [Act.put, List.setIfInBounds_toArray, List.set_cons_zero, List.set_cons_succ, i64_w, i32_w]
         rfl
        refine pure_ (i := 14) (N := some 32) (v := ?_) (a' := ?_) #[true, true, true, true, true, true, true, true, true, true, true, true, true, true, true, false] rfl rfl (any_of HT_.out (by kernel_rfl)) (fun _ _ _ h => h) (Or.inl ⟨by rfl, ?_⟩) ?_ ?_
        rotate_left
        ·intro w'
         go_simp
         with_reducible rfl
        rotate_left
        ·simp only [Act.put, List.setIfInBounds_toArray, List.set_cons_zero, List.set_cons_succ, i64_w, i32_w]
         rfl
        refine last_ (i := 15) (N := none) #[true, true, true, true, true, true, true, true, true, true, true, true, true, true, true, true] rfl rfl (one_of HT_.out (by kernel_rfl)) (by decide) (fun K hK => ?_)
        refine skip_ (w1 := ?_) (by rfl) rfl ?_ ?_
        rotate_left
        ·go_simp
         rfl
        refine hK.out _ _ ?_
        clear hK K
        refine done_ (done_of HT_.out (by kernel_rfl)) ?_
        try go_wp2
        go_roundg k1
        case measure => have := HK1.out; omega
        case rel => exact ⟨(wrap64 (x4_1 + 1)), (y228), (.slice (some ⟨go22, 0, none⟩) x225000_1.length co22), (by first | rfl | (simp; done) | (simp [*]; done) | (simp; exact (by intro l_; cases l_ <;> rfl : ∀ l_ : List UInt8, l_.isEmpty = !(l_ != [])) _)), H', ⟨by have := HK1.out; omega⟩, ⟨rP HQ27.out⟩, ⟨rP (Kd.R_mono (Kd.R_far (p := ⟨go22, (((rd_T65 l0_1 x4_1).f0) : Int).toNat, none⟩) (Kd.R_types HO_225001.out GG22.out (by decide)) (fun _ hk => hk.2) (.string ((rd_T65 l0_1 x4_1).f1))) (fun _ hk => trivial))⟩, ⟨by (with_reducible repeat (first | refine blk_drewN ?_ _ | refine blk_drew ?_ | refine blk_alloc ?_ _)); refine blk_far ?_ (by have h_ := Kd.R_ne HO_225000.out BK216.out (by decide); intro e_; exact h_ (by rw [e_]; rfl)) _; (with_reducible repeat (first | refine blk_drewN ?_ _ | refine blk_drew ?_ | refine blk_alloc ?_ _)); exact BK216.out⟩, ⟨by (with_reducible repeat (first | refine blk_drewN ?_ _ | refine blk_drew ?_ | refine blk_alloc ?_ _)); refine blk_far ?_ (by have h_ := Kd.R_ne HO_225000.out BK217.out (by decide); intro e_; exact h_ (by rw [e_]; rfl)) _; (with_reducible repeat (first | refine blk_drewN ?_ _ | refine blk_drew ?_ | refine blk_alloc ?_ _)); exact BK217.out⟩, ⟨by (with_reducible repeat (first | refine blk_drewN ?_ _ | refine blk_drew ?_ | refine blk_alloc ?_ _)); refine blk_far ?_ (by have h_ := Kd.R_ne HO_225000.out BK224.out (by decide); intro e_; exact h_ (by rw [e_]; rfl)) _; (with_reducible repeat (first | refine blk_drewN ?_ _ | refine blk_drew ?_ | refine blk_alloc ?_ _)); exact BK224.out⟩, ⟨by repeat (first | (with_reducible first | exact HB.out | apply below_alloc | apply pw_below_drewN | apply below_drew1 | refine below_set ?_ GB22.out | refine below_set ?_ GE216.out | refine below_set ?_ GE217.out | refine below_set ?_ GE224.out) | exact HB.out)⟩⟩
       ·rw [if_neg c21] at H
        exact absurd H (by simp)
      ·rw [if_neg c20] at H
       exact absurd H (by simp)
     ·rw [if_neg c19] at H
      exact absurd H (by simp)
    ·rw [if_neg c18] at H
     have c18b0 : decide (x4_1 < (l0_1.length : Int)) = false := decide_eq_false c18
     clear c18
     simp only [Option.some.injEq, Prod.mk.injEq] at H
     obtain ⟨rfl, rfl⟩ := H
     have hnb28 := NB216_217.out
     have hnc28 := NB217_216.out
     have hnb29 := NB216_224.out
     have hnc29 := NB224_216.out
     have hcz30_0 := cZ0 BK216
     have hcz30_1 := cZ1 BK216
     have hfz30_0 := blk_frozen BK216.out 0
     have hfz30_1 := blk_frozen BK216.out 1
     have hnb31 := NB224_217.out
     have hnc31 := NB217_224.out
     have hcz32_0 := cZ0 BK224
     have hcz32_1 := cZ1 BK224
     have hfz32_0 := blk_frozen BK224.out 0
     have hfz32_1 := blk_frozen BK224.out 1
     obtain ⟨Ao33, co33, eo33⟩ := Kd.R_slice HO_225000.out
     subst eo33
     have hcz34_0 := cZ0 BK217
     have hcz34_1 := cZ1 BK217
     have hfz34_0 := blk_frozen BK217.out 0
     have hfz34_1 := blk_frozen BK217.out 1
     go_wp2
     refine bodyPost_ret (results_cell_row rfl _ _ gb217 30 #[.slice Ao33 x225000_1.length co33, .slice none 0 0] (0, 0) _ rfl (by (with_reducible repeat (first | refine blk_drewN ?_ _ | refine blk_drew ?_ | refine blk_alloc ?_ _)); refine blk_put (cs := #[.slice Ao33 x225000_1.length co33, .slice none 0 0]) ?_ 1 _ rfl; (with_reducible repeat (first | refine blk_drewN ?_ _ | refine blk_drew ?_ | refine blk_alloc ?_ _)); refine blk_put (cs := #[.slice none 0 0, .slice none 0 0]) ?_ 0 _ rfl; (with_reducible repeat (first | refine blk_drewN ?_ _ | refine blk_drew ?_ | refine blk_alloc ?_ _)); refine blk_far ?_ NB217_224.out _; (with_reducible repeat (first | refine blk_drewN ?_ _ | refine blk_drew ?_ | refine blk_alloc ?_ _)); exact BK217.out) Try.underlying30 rfl (by kernel_rfl)) rfl ?_
     exact ⟨_, _, eW, by (with_reducible repeat (first | apply Kd.R_alloc | apply Kd.R_drewN | apply Kd.R_drew)); exact Kd.R_mono (Kd.R_far (p := ⟨gb217, 1, none⟩) (Kd.R_far (p := ⟨gb217, 0, none⟩) (Kd.R_far (p := ⟨gb224, 1, none⟩) (Kd.R_types (Kd.R_types HO_225000.out BK224.out (by decide)) BK217.out (by decide)) (fun _ hk => hk.1.2) (.slice none 0 0)) (fun _ hk => hk.2) (.slice Ao33 x225000_1.length co33)) (fun _ hk => hk.2) (.slice none 0 0)) (fun _ hk => trivial), by first | exact Kd.R_nil _ _ _ _ _ | exact Kd.N_nil _ _ _ _ _ | exact Kd.V_nil _ _ _ _ _ | exact Kd.Q_nil _ _ _ _ _ | exact Kd.S_nil _ _ _ _ _, bB⟩
 replace c4 := Bool.eq_false_iff.mpr c4
 subst c4
 rw [if_neg (show ¬ (false = true) by decide)] at H
 simp only [Option.some.injEq, Prod.mk.injEq] at H
 obtain ⟨rfl, rfl⟩ := H
 go_enter Try.func31, Try.ntmps31
 go_wp2_with (first | ((with_reducible refine gate_dst (N := 1) rfl ?_); refine bE 1 #[.slice A0_0 l0_0.length c0_0, .slice A0_1 l0_1.length c0_1] 30 ?_; intro gb216 hg w35 hbox hb; have n_ := And.intro (sB HB hb) (And.intro (Aside0.mk hbox) (And.intro (gE HB hg) (gE HB hg))); clear HB; obtain ⟨HB, BK216, GW216, GE216⟩ := n_; (try clear hb hbox hg)) | ((with_reducible refine gate_dst (N := 2) rfl ?_); refine bE 2 #[.slice none 0 0, .slice none 0 0] 30 ?_; intro gb217 hg w36 hbox hb; have n_ := And.intro (kB BK216 hb) (And.intro (sB HB hb) (And.intro (Aside0.mk hbox) (And.intro (gE HB hg) (And.intro (gE HB hg) (And.intro (nL BK216 hg) (nG BK216 hg)))))); clear BK216 HB; obtain ⟨BK216, HB, BK217, GW217, GE217, NB216_217, NB217_216⟩ := n_; (try clear hb hbox hg); have hnb37 := NB216_217.out; have hnc37 := NB217_216.out; have hcz38_0 := cZ0 BK216; have hcz38_1 := cZ1 BK216; have hfz38_0 := blk_frozen BK216.out 0; have hfz38_1 := blk_frozen BK216.out 1) | ((with_reducible refine gate_callee (f := 75) rfl ?_); refine gL (some 6) Try.func75 #[.agg #[.slice A0_0 l0_0.length c0_0, .slice A0_1 l0_1.length c0_1]] ?_; (with_reducible refine (spec_l3Copy.calls _ _ l0_0 _ _ l0_1 t218 t221 _ ?side1 ?side2 ?side3 ?side4 A2.out).mono ?_); (case side1 => exact cS HR0_0 HB); (case side2 => exact HC0_0.out); (case side3 => exact cS HR0_1 HB); (case side4 => exact HC0_1.out); rintro e w39 ⟨v219, v222, rfl, ho0, ho1, hb⟩; refine ⟨_, rfl, ?_⟩; have n_ := And.intro (lR HB ho0) (And.intro (lR HB ho1) (And.intro (kB BK216 hb) (And.intro (kB BK217 hb) (sB HB hb)))); clear BK216 BK217 HB; obtain ⟨HO220, HO223, BK216, BK217, HB⟩ := n_; (try clear hb ho0 ho1)) | ((with_reducible refine gate_dst (N := 3) rfl ?_); refine bE 3 #[.slice none 0 0, .slice none 0 0] 30 ?_; intro gb224 hg w40 hbox hb; have n_ := And.intro (rB HO220 hb) (And.intro (rB HO223 hb) (And.intro (kB BK216 hb) (And.intro (kB BK217 hb) (And.intro (sB HB hb) (And.intro (Aside0.mk hbox) (And.intro (gE HB hg) (And.intro (gE HB hg) (And.intro (nL BK216 hg) (And.intro (nG BK216 hg) (And.intro (nL BK217 hg) (nG BK217 hg))))))))))); clear HO220 HO223 BK216 BK217 HB; obtain ⟨HO220, HO223, BK216, BK217, HB, BK224, GW224, GE224, NB216_224, NB224_216, NB217_224, NB224_217⟩ := n_; (try clear hb hbox hg); obtain ⟨Ao41, co41, eo41⟩ := Kd.R_slice HO220.out; subst eo41; have hnb42 := NB224_216.out; have hnc42 := NB216_224.out; have hnb43 := NB224_217.out; have hnc43 := NB217_224.out; have hcz44_0 := cZ0 BK224; have hcz44_1 := cZ1 BK224; have hfz44_0 := blk_frozen BK224.out 0; have hfz44_1 := blk_frozen BK224.out 1; obtain ⟨Ao45, co45, eo45⟩ := Kd.R_slice HO223.out; subst eo45; have hcz46_0 := cZ0 BK216; have hcz46_1 := cZ1 BK216; have hfz46_0 := blk_frozen BK216.out 0; have hfz46_1 := blk_frozen BK216.out 1) | ((with_reducible refine gate_callee (f := 16) rfl ?_); refine gL (some 8) Try.func16 #[.agg #[.slice A0_0 l0_0.length c0_0, .slice A0_1 l0_1.length c0_1]] ?_; (with_reducible refine (spec_DiskOk.calls k _ _ l0_0 _ _ l0_1 false _ ?side1 ?side2 ?side3 ?side4 A3.out).mono ?_); (case side1 => exact cS HR0_0 HB); (case side2 => exact HC0_0.out); (case side3 => exact cS HR0_1 HB); (case side4 => exact HC0_1.out); rintro e w47 ⟨rfl, hb⟩; refine ⟨_, rfl, ?_⟩; have n_ := And.intro (Aside0.mk (Kd.R_below (rP (Kd.R_mono (Kd.R_far (p := ⟨gb224, 1, none⟩) (Kd.R_far (p := ⟨gb224, 0, none⟩) (Kd.R_types HO220.out BK224.out (by decide)) (fun _ hk => hk.2) (.slice Ao41 t218.length co41)) (fun _ hk => hk.2) (.slice Ao45 t221.length co45)) (fun _ h_ => h_.1))) hb)) (And.intro (Aside0.mk (Kd.R_below (rP (Kd.R_mono (Kd.R_far (p := ⟨gb224, 1, none⟩) (Kd.R_far (p := ⟨gb224, 0, none⟩) (Kd.R_types HO223.out BK224.out (by decide)) (fun _ hk => hk.2) (.slice Ao41 t218.length co41)) (fun _ hk => hk.2) (.slice Ao45 t221.length co45)) (fun _ h_ => h_.1))) hb)) (And.intro (kB BK216 hb) (And.intro (kB BK217 hb) (And.intro (Aside0.mk (blk_below (g := gb224) (o := .cells #[.slice Ao41 t218.length co41, .slice Ao45 t221.length co45] 30 (0, 0)) (by (with_reducible repeat (first | refine blk_drewN ?_ _ | refine blk_drew ?_ | refine blk_alloc ?_ _)); refine blk_put (cs := #[.slice Ao41 t218.length co41, .slice none 0 0]) ?_ 1 _ rfl; (with_reducible repeat (first | refine blk_drewN ?_ _ | refine blk_drew ?_ | refine blk_alloc ?_ _)); refine blk_put (cs := #[.slice none 0 0, .slice none 0 0]) ?_ 0 _ rfl; (with_reducible repeat (first | refine blk_drewN ?_ _ | refine blk_drew ?_ | refine blk_alloc ?_ _)); exact BK224.out) hb)) (sB HB hb))))); clear HO220 HO223 BK216 BK217 BK224 HB; obtain ⟨HO220, HO223, BK216, BK217, BK224, HB⟩ := n_; (try clear hb); have hcz48_0 := cZ0 BK224; have hcz48_1 := cZ1 BK224; have hfz48_0 := blk_frozen BK224.out 0; have hfz48_1 := blk_frozen BK224.out 1; have hcz49_0 := cZ0 BK217; have hcz49_1 := cZ1 BK217; have hfz49_0 := blk_frozen BK217.out 0; have hfz49_1 := blk_frozen BK217.out 1))
 refine bodyPost_ret (results_cell_row rfl _ _ gb217 30 #[.slice Ao41 t218.length co41, .slice Ao45 t221.length co45] (0, 0) _ rfl (by (with_reducible repeat (first | refine blk_drewN ?_ _ | refine blk_drew ?_ | refine blk_alloc ?_ _)); refine blk_put (cs := #[.slice Ao41 t218.length co41, .slice none 0 0]) ?_ 1 _ rfl; (with_reducible repeat (first | refine blk_drewN ?_ _ | refine blk_drew ?_ | refine blk_alloc ?_ _)); refine blk_put (cs := #[.slice none 0 0, .slice none 0 0]) ?_ 0 _ rfl; (with_reducible repeat (first | refine blk_drewN ?_ _ | refine blk_drew ?_ | refine blk_alloc ?_ _)); exact BK217.out) Try.underlying30 rfl (by kernel_rfl)) rfl ?_
 exact ⟨_, _, eW, by (with_reducible repeat (first | apply Kd.R_alloc | apply Kd.R_drewN | apply Kd.R_drew)); exact Kd.R_mono (Kd.R_far (p := ⟨gb217, 1, none⟩) (Kd.R_far (p := ⟨gb217, 0, none⟩) (Kd.R_types HO220.out BK217.out (by decide)) (fun _ hk => hk.2) (.slice Ao41 t218.length co41)) (fun _ hk => hk.2) (.slice Ao45 t221.length co45)) (fun _ hk => trivial), by (with_reducible repeat (first | apply Kd.R_alloc | apply Kd.R_drewN | apply Kd.R_drew)); exact Kd.R_mono (Kd.R_far (p := ⟨gb217, 1, none⟩) (Kd.R_far (p := ⟨gb217, 0, none⟩) (Kd.R_types HO223.out BK217.out (by decide)) (fun _ hk => hk.2) (.slice Ao41 t218.length co41)) (fun _ hk => hk.2) (.slice Ao45 t221.length co45)) (fun _ hk => trivial), bB⟩

/-! ### spec_EventsDo: function 39 -/
def spec_EventsDo.l0 : Nat → List (S92) → Int → List ByteArray → List (S65) → Option (List ByteArray × (List (S65)))
 | 0, _, _, _, _ => none
 | k + 1, x1, x6, x238000, x238001 => if x6 < (x1.length : Int) then (if 0 ≤ x6 then (if ((rd_T92 x1 x6).f0) = 0 then ((spec_SectorWrite.f k x238000 x238001 ((rd_T92 x1 x6).f1) ((rd_T92 x1 x6).f2)).bind fun bt241 => (spec_EventsDo.l0 k x1 (wrap64 (x6 + 1)) bt241.1 bt241.2.1)) else (if ((rd_T92 x1 x6).f0) = 1 then ((spec_Flush.f k x238000 x238001).bind fun bt248 => (spec_EventsDo.l0 k x1 (wrap64 (x6 + 1)) bt248.1 bt248.2)) else (spec_EventsDo.l0 k x1 (wrap64 (x6 + 1)) x238000 x238001))) else (none)) else (some (x238000, x238001))
def spec_EventsDo.f (k : Nat) (l0_0 : List ByteArray) (l0_1 : List (S65)) (l1 : List (S92)) : Option (List ByteArray × (List (S65))) := (spec_l3Copy.f l0_0 l0_1).bind fun bt231 => (spec_EventsDo.l0 k l1 0 bt231.1 bt231.2)
theorem spec_EventsDo.mono_l : ∀ k, (∀ y0 y1 y2 y3, LeO (spec_EventsDo.l0 k y0 y1 y2 y3) (spec_EventsDo.l0 (k + 1) y0 y1 y2 y3))
 | 0 => fun _ _ _ _ r h => by simp [spec_EventsDo.l0] at h
 | k + 1 => by
  have ih0 := spec_EventsDo.mono_l k
  ·intro y0 y1 y2 y3
   unfold spec_EventsDo.l0
   have m0_ := @spec_Flush.mono
   have m1_ := @spec_SectorWrite.mono
   exact mM
theorem spec_EventsDo.mono : ∀ a0 a1 a2 k, LeO (spec_EventsDo.f k a0 a1 a2) (spec_EventsDo.f (k + 1) a0 a1 a2) := by
 intro a0 a1 a2 k
 have ih0 := spec_EventsDo.mono_l k
 unfold spec_EventsDo.f
 have m0_ := @spec_Flush.mono
 have m1_ := @spec_SectorWrite.mono
 exact mM
def spec_EventsDo.T7 : Bool × List (List Nat × List Nat) := (true, [([], []), ([], []), ([], []), ([1, 2], [1, 2]), ([3], [3]), ([4], [4]), ([], []), ([], []), ([6, 7], [6, 7]), ([8], [8]), ([9], [9]), ([0, 5, 10], [0, 5, 10]), ([11], [11]), ([12], [12]), ([12], [12]), ([13, 11, 0, 1, 2, 3, 4, 5, 6, 7, 8, 9, 10, 11, 12, 13], [13])])
def spec_EventsDo.B7 : List Nat := [0, 0, 0, 6, 14, 30, 0, 0, 192, 448, 960, 2047, 4095, 8191, 8191, 16383]
theorem spec_EventsDo.tab7 : rtab .any (opsOf Try.f39 7) = spec_EventsDo.T7 := by kernel_rfl
theorem spec_EventsDo.bits7 : waitsOk spec_EventsDo.T7.2 spec_EventsDo.B7 = true := by kernel_rfl
set_option maxHeartbeats 8000000 in
set_option maxRecDepth 100000 in
theorem spec_EventsDo.calls (k : Nat) (A0_0 : Option Addr) (c0_0 : Nat) (l0_0 : List ByteArray) (A0_1 : Option Addr) (c0_1 : Nat) (l0_1 : List (S65)) (A1 : Option Addr) (c1 : Nat) (l1 : List (S92)) (r1 : List ByteArray) (r2 : List (S65)) (w : World) (hr0_0 : Kd.C Kd.string w A0_0 l0_0.length l0_0) (hc0_0 : l0_0.length ≤ c0_0) (hr0_1 : Kd.C k65 w A0_1 l0_1.length l0_1) (hc0_1 : l0_1.length ≤ c0_1) (hr1 : Kd.C k92 w A1 l1.length l1) (hc1 : l1.length ≤ c1) (h : spec_EventsDo.f k l0_0 l0_1 l1 = some (r1, r2)) :
  Calls Try.prog 39 #[.agg #[.slice A0_0 l0_0.length c0_0, .slice A0_1 l0_1.length c0_1], .slice A1 l1.length c1] w fun e w' => ∃ v0_ v1_ : Value, e = .returned (.agg #[v0_, v1_]) ∧ Kd.R Kd.string 9 w' w.heap.size (fun _ => True) v0_ r1 ∧ Kd.R k65 65 w' w.heap.size (fun _ => True) v1_ r2 ∧ Below w.heap.size w w' := by
 have hu30 := Try.underlying30
 have HR0_0 := Aside0.mk hr0_0
 have HC0_0 := Aside0.mk hc0_0
 clear hr0_0 hc0_0
 have HR0_1 := Aside0.mk hr0_1
 have HC0_1 := Aside0.mk hc0_1
 clear hr0_1 hc0_1
 have HR1 := Aside0.mk hr1
 have HC1 := Aside0.mk hc1
 clear hr1 hc1
 have HB := Aside0.mk (Below.refl w.heap.size w)
 unfold spec_EventsDo.f at h
 have H := h
 clear h
 replace H := Option.bind_eq_some_iff.mp H
 obtain ⟨⟨t231, t234⟩, A30, H⟩ := H
 try dsimp only at H
 have A3 := Aside0.mk A30
 clear A30
 have H' := Aside0.mk H
 clear H
 go_enter Try.func39, Try.ntmps39
 go_wp2_with (first | ((with_reducible refine gate_dst (N := 2) rfl ?_); refine bE 2 #[.slice A0_0 l0_0.length c0_0, .slice A0_1 l0_1.length c0_1] 30 ?_; intro gb229 hg w4 hbox hb; have n_ := And.intro (sB HB hb) (And.intro (Aside0.mk hbox) (And.intro (gE HB hg) (gE HB hg))); clear HB; obtain ⟨HB, BK229, GW229, GE229⟩ := n_; (try clear hb hbox hg)) | ((with_reducible refine gate_dst (N := 4) rfl ?_); refine bE 4 #[.slice none 0 0, .slice none 0 0] 30 ?_; intro gb230 hg w5 hbox hb; have n_ := And.intro (kB BK229 hb) (And.intro (sB HB hb) (And.intro (Aside0.mk hbox) (And.intro (gE HB hg) (And.intro (gE HB hg) (And.intro (nL BK229 hg) (nG BK229 hg)))))); clear BK229 HB; obtain ⟨BK229, HB, BK230, GW230, GE230, NB229_230, NB230_229⟩ := n_; (try clear hb hbox hg); have hnb6 := NB229_230.out; have hnc6 := NB230_229.out; have hcz7_0 := cZ0 BK229; have hcz7_1 := cZ1 BK229; have hfz7_0 := blk_frozen BK229.out 0; have hfz7_1 := blk_frozen BK229.out 1) | ((with_reducible refine gate_callee (f := 75) rfl ?_); refine gL (some 8) Try.func75 #[.agg #[.slice A0_0 l0_0.length c0_0, .slice A0_1 l0_1.length c0_1]] ?_; (with_reducible refine (spec_l3Copy.calls _ _ l0_0 _ _ l0_1 t231 t234 _ ?side1 ?side2 ?side3 ?side4 A3.out).mono ?_); (case side1 => exact cS HR0_0 HB); (case side2 => exact HC0_0.out); (case side3 => exact cS HR0_1 HB); (case side4 => exact HC0_1.out); rintro e w8 ⟨v232, v235, rfl, ho0, ho1, hb⟩; refine ⟨_, rfl, ?_⟩; have n_ := And.intro (lR HB ho0) (And.intro (lR HB ho1) (And.intro (kB BK229 hb) (And.intro (kB BK230 hb) (sB HB hb)))); clear BK229 BK230 HB; obtain ⟨HO233, HO236, BK229, BK230, HB⟩ := n_; (try clear hb ho0 ho1)) | ((with_reducible refine gate_dst (N := 5) rfl ?_); refine bE 5 #[.slice none 0 0, .slice none 0 0] 30 ?_; intro gb237 hg w9 hbox hb; have n_ := And.intro (rB HO233 hb) (And.intro (rB HO236 hb) (And.intro (kB BK229 hb) (And.intro (kB BK230 hb) (And.intro (sB HB hb) (And.intro (Aside0.mk hbox) (And.intro (gE HB hg) (And.intro (gE HB hg) (And.intro (nL BK229 hg) (And.intro (nG BK229 hg) (And.intro (nL BK230 hg) (nG BK230 hg))))))))))); clear HO233 HO236 BK229 BK230 HB; obtain ⟨HO233, HO236, BK229, BK230, HB, BK237, GW237, GE237, NB229_237, NB237_229, NB230_237, NB237_230⟩ := n_; (try clear hb hbox hg); obtain ⟨Ao10, co10, eo10⟩ := Kd.R_slice HO233.out; subst eo10; have hnb11 := NB237_229.out; have hnc11 := NB229_237.out; have hnb12 := NB237_230.out; have hnc12 := NB230_237.out; have hcz13_0 := cZ0 BK237; have hcz13_1 := cZ1 BK237; have hfz13_0 := blk_frozen BK237.out 0; have hfz13_1 := blk_frozen BK237.out 1; obtain ⟨Ao14, co14, eo14⟩ := Kd.R_slice HO236.out; subst eo14))
 go_loopg [6] k (fun kq v6 w' => ∃ (x6_1 : Int) (x238000_1 : List ByteArray) (x238001_1 : List (S65)) (u238000 : Value) (u238001 : Value), v6 = .int .i64 x6_1 ∧ Aside0 (spec_EventsDo.l0 kq l1 x6_1 x238000_1 x238001_1 = some (r1, r2)) ∧ Aside0 (kq ≤ k) ∧ Aside0 (Kd.R Kd.string 9 w' w.heap.size (fun _ => True) u238000 x238000_1) ∧ Aside0 (Kd.R k65 65 w' w.heap.size (fun _ => True) u238001 x238001_1) ∧ Aside0 (w'.heap[gb229]? = some (.cells #[(.slice A0_0 l0_0.length c0_0), (.slice A0_1 l0_1.length c0_1)] 30 (0, 0))) ∧ Aside0 (w'.heap[gb230]? = some (.cells #[(.slice none 0 0), (.slice none 0 0)] 30 (0, 0))) ∧ Aside0 (w'.heap[gb237]? = some (.cells #[u238000, u238001] 30 (0, 0))) ∧ Aside0 (Below w.heap.size w w'))
 case atStart => exact ⟨(0), (t231), (t234), (.slice Ao10 t231.length co10), (.slice Ao14 t234.length co14), (by first | rfl | (simp; done) | (simp [*]; done) | (simp; exact (by intro l_; cases l_ <;> rfl : ∀ l_ : List UInt8, l_.isEmpty = !(l_ != [])) _)), H', ⟨Nat.le_refl _⟩, ⟨rP (Kd.R_mono (Kd.R_far (p := ⟨gb237, 1, none⟩) (Kd.R_far (p := ⟨gb237, 0, none⟩) (Kd.R_types HO233.out BK237.out (by decide)) (fun _ hk => hk.2) (.slice Ao10 t231.length co10)) (fun _ hk => hk.2) (.slice Ao14 t234.length co14)) (fun _ hk => trivial))⟩, ⟨rP (Kd.R_mono (Kd.R_far (p := ⟨gb237, 1, none⟩) (Kd.R_far (p := ⟨gb237, 0, none⟩) (Kd.R_types HO236.out BK237.out (by decide)) (fun _ hk => hk.2) (.slice Ao10 t231.length co10)) (fun _ hk => hk.2) (.slice Ao14 t234.length co14)) (fun _ hk => trivial))⟩, ⟨kP BK229⟩, ⟨kP BK230⟩, ⟨by (with_reducible repeat (first | refine blk_drewN ?_ _ | refine blk_drew ?_ | refine blk_alloc ?_ _)); refine blk_put (cs := #[.slice Ao10 t231.length co10, .slice none 0 0]) ?_ 1 _ rfl; (with_reducible repeat (first | refine blk_drewN ?_ _ | refine blk_drew ?_ | refine blk_alloc ?_ _)); refine blk_put (cs := #[.slice none 0 0, .slice none 0 0]) ?_ 0 _ rfl; (with_reducible repeat (first | refine blk_drewN ?_ _ | refine blk_drew ?_ | refine blk_alloc ?_ _)); exact BK237.out⟩, ⟨bB⟩⟩
 case round =>
  clear H'
  try clear c1
  try clear p2
  try clear c3
  try clear c6
  try clear c7
  try clear c11
  try clear c12
  try clear hcz13_0
  try clear hcz13_1
  try clear hcz7_0
  try clear hcz7_1
  try clear hfz13_0
  try clear hfz13_1
  try clear hfz7_0
  try clear hfz7_1
  obtain ⟨x6_1, x238000_1, x238001_1, u238000, u238001, rfl, HA, HK1, HO_238000, HO_238001, BK229, BK230, BK237, HB⟩ := hrel
  cases gk with
  | zero => exact absurd HA.out (by simp [spec_EventsDo.l0])
  | succ k1 =>
   have H := HA.out
   clear HA
   simp only [spec_EventsDo.l0] at H
   by_cases c15 : x6_1 < (l1.length : Int)
   ·rw [if_pos c15] at H
    have c15b0 : decide (x6_1 < (l1.length : Int)) = true := decide_eq_true c15
    clear c15
    by_cases c16 : 0 ≤ x6_1
    ·rw [if_pos c16] at H
     have c16b0 : decide (0 ≤ x6_1) = true := decide_eq_true c16
     clear c16
     by_cases c17 : ((rd_T92 l1 x6_1).f0) = 0
     ·rw [if_pos c17] at H
      have c17b0 : (((rd_T92 l1 x6_1).f0) == 0) = true := beq_iff_eq.mpr c17
      have c17b1 : (((rd_T92 l1 x6_1).f0) != 0) = false := bne_eq_false_iff_eq.mpr c17
      clear c17
      replace H := Option.bind_eq_some_iff.mp H
      obtain ⟨⟨t241, t244, t247⟩, A180, H⟩ := H
      try dsimp only at H
      have A18 := Aside0.mk A180
      clear A180
      have H' := Aside0.mk H
      clear H
      have p238 : 0 ≤ (x6_1 : Int) := dT
      have q238 : x6_1 < (l1.length : Int) := dT
      obtain ⟨ad238, e238, hx238_0, hx238_1, hx238_2⟩ := at_T92 HR1.out x6_1 p238 q238
      cases e238
      replace hx238_0 := (HB.out.cell (World.block_lt_of_cell? w _ hx238_0)).trans hx238_0
      replace hx238_1 := (HB.out.cell (World.block_lt_of_cell? w _ hx238_1)).trans hx238_1
      replace hx238_2 := (HB.out.cell (World.block_lt_of_cell? w _ hx238_2)).trans hx238_2
      replace p238 := eq_true p238
      replace q238 := eq_true q238
      try go_wp2
      have n0_ := Aside0.mk (Kd.R_drew HO_238000.out)
      have n1_ := Aside0.mk (Kd.R_drew HO_238001.out)
      have n2_ := Aside0.mk (blk_drew BK229.out)
      have n3_ := Aside0.mk (blk_drew BK230.out)
      have n4_ := Aside0.mk (blk_drew BK237.out)
      have n5_ := Aside0.mk (below_drew1 HB.out)
      clear HO_238000
      clear HO_238001
      clear BK229
      clear BK230
      clear BK237
      clear HB
      have HO_238000 := n0_
      have HO_238001 := n1_
      have BK229 := n2_
      have BK230 := n3_
      have BK237 := n4_
      have HB := n5_
      clear n0_ n1_ n2_ n3_ n4_ n5_
      have p239 : 0 ≤ (x6_1 : Int) := dT
      have q239 : x6_1 < (l1.length : Int) := dT
      obtain ⟨ad239, e239, hx239_0, hx239_1, hx239_2⟩ := at_T92 HR1.out x6_1 p239 q239
      have hw239_2 := hx239_2
      have hw239_1 := hx239_1
      have hw239_0 := hx239_0
      obtain rfl : ad238 = ad239 := (by injection e239)
      replace hx239_0 := (HB.out.cell (World.block_lt_of_cell? w _ hx239_0)).trans hx239_0
      replace hx239_1 := (HB.out.cell (World.block_lt_of_cell? w _ hx239_1)).trans hx239_1
      replace hx239_2 := (HB.out.cell (World.block_lt_of_cell? w _ hx239_2)).trans hx239_2
      replace p239 := eq_true p239
      replace q239 := eq_true q239
      have p240 : 0 ≤ (x6_1 : Int) := dT
      have q240 : x6_1 < (l1.length : Int) := dT
      obtain ⟨ad240, e240, hx240_0, hx240_1, hx240_2⟩ := at_T92 HR1.out x6_1 p240 q240
      have hw240_2 := hx240_2
      have hw240_1 := hx240_1
      have hw240_0 := hx240_0
      obtain rfl : ad238 = ad240 := (by injection e240)
      replace hx240_0 := (HB.out.cell (World.block_lt_of_cell? w _ hx240_0)).trans hx240_0
      replace hx240_1 := (HB.out.cell (World.block_lt_of_cell? w _ hx240_1)).trans hx240_1
      replace hx240_2 := (HB.out.cell (World.block_lt_of_cell? w _ hx240_2)).trans hx240_2
      replace p240 := eq_true p240
      replace q240 := eq_true q240
      obtain ⟨Ao20, co20, eo20⟩ := Kd.R_slice HO_238000.out
      (first | subst eo20 | (injection eo20 with f1_ f2_ f3_; have f4_ := f1_.symm; have f5_ := f3_.symm; clear f1_ f2_ f3_; subst f4_; subst f5_))
      obtain ⟨Ao21, co21, eo21⟩ := Kd.R_slice HO_238001.out
      (first | subst eo21 | (injection eo21 with f1_ f2_ f3_; have f4_ := f1_.symm; have f5_ := f3_.symm; clear f1_ f2_ f3_; subst f4_; subst f5_))
      refine start_ (n := 16) (S := fun w' => w'.cell? ⟨gb237, 0, none⟩ = some (.slice Ao20 x238000_1.length co20) ∧ w'.cell? ⟨gb237, 1, none⟩ = some (.slice Ao21 x238001_1.length co21) ∧ w'.cell? (ad238.add ((x6_1).toNat * 3)) = some (.int .i64 ((rd_T92 l1 x6_1).f0)) ∧ w'.cell? ⟨(ad238.add ((x6_1).toNat * 3)).block, (ad238.add ((x6_1).toNat * 3)).off + 1, none⟩ = some (.int .i64 ((rd_T92 l1 x6_1).f1)) ∧ w'.cell? ⟨(ad238.add ((x6_1).toNat * 3)).block, (ad238.add ((x6_1).toNat * 3)).off + 2, none⟩ = some (.string ((rd_T92 l1 x6_1).f2)) ∧ w'.cell? (ad238.add ((x6_1).toNat * 3)) = some (.int .i64 ((rd_T92 l1 x6_1).f0)) ∧ w'.cell? ⟨(ad238.add ((x6_1).toNat * 3)).block, (ad238.add ((x6_1).toNat * 3)).off + 1, none⟩ = some (.int .i64 ((rd_T92 l1 x6_1).f1)) ∧ w'.cell? ⟨(ad238.add ((x6_1).toNat * 3)).block, (ad238.add ((x6_1).toNat * 3)).off + 2, none⟩ = some (.string ((rd_T92 l1 x6_1).f2))) (ds := [15]) #[false, false, false, false, false, false, false, false, false, false, false, false, false, false, false, false] (by kernel_rfl) rfl rfl ⟨(blk_cell BK237.out 0).trans rfl, (blk_cell BK237.out 1).trans rfl, ((HB.out.cell (World.block_lt_of_cell? w _ hw239_0)).trans hw239_0), ((HB.out.cell (World.block_lt_of_cell? w _ hw239_1)).trans hw239_1), ((HB.out.cell (World.block_lt_of_cell? w _ hw239_2)).trans hw239_2), ((HB.out.cell (World.block_lt_of_cell? w _ hw240_0)).trans hw240_0), ((HB.out.cell (World.block_lt_of_cell? w _ hw240_1)).trans hw240_1), ((HB.out.cell (World.block_lt_of_cell? w _ hw240_2)).trans hw240_2)⟩ (fun hHeld => ?_); refine with_tabW spec_EventsDo.tab7 spec_EventsDo.bits7 (fun HT_ HW_ => ?_)
      generalize wr.drew = w19 at HO_238000 HO_238001 BK229 BK230 BK237 HB hx239_0 hx239_1 hx239_2 hx240_0 hx240_1 hx240_2 hHeld ⊢
      refine pure_ (i := 1) (N := some 24) (v := ?_) (a' := ?_) #[false, true, false, false, false, false, false, false, false, false, false, false, false, false, false, false] rfl rfl (any_of HT_.out (by kernel_rfl)) (fun _ _ _ h => h) (Or.inl ⟨by rfl, ?_⟩) ?_ ?_
      rotate_left
      ·intro w'
       go_simp
       with_reducible rfl
      rotate_left
      ·simp only [Act.put, List.setIfInBounds_toArray, List.set_cons_zero, List.set_cons_succ, i64_w, i32_w]
       rfl
      refine pure_ (i := 2) (N := some 25) (v := ?_) (a' := ?_) #[false, true, true, false, false, false, false, false, false, false, false, false, false, false, false, false] rfl rfl (any_of HT_.out (by kernel_rfl)) (fun _ _ _ h => h) (Or.inl ⟨by rfl, ?_⟩) ?_ ?_
      rotate_left
      ·intro w'
       go_simp
       with_reducible rfl
      rotate_left
      ·simp only [Act.put, List.setIfInBounds_toArray, List.set_cons_zero, List.set_cons_succ, i64_w, i32_w]
       rfl
      refine pure_ (i := 3) (N := some 26) (v := ?_) (a' := ?_) #[false, true, true, true, false, false, false, false, false, false, false, false, false, false, false, false] rfl rfl (any_of HT_.out (by kernel_rfl)) (fun _ _ _ h => h) (Or.inl ⟨by rfl, ?_⟩) ?_ ?_
      rotate_left
      ·intro w'
       go_simp
       with_reducible rfl
      rotate_left
      ·simp only [Act.put, List.setIfInBounds_toArray, List.set_cons_zero, List.set_cons_succ, i64_w, i32_w]
       rfl
      refine pure_ (i := 4) (N := some 27) (v := ?_) (a' := ?_) #[false, true, true, true, true, false, false, false, false, false, false, false, false, false, false, false] rfl rfl (any_of HT_.out (by kernel_rfl)) (fun _ _ _ h => h) (Or.inl ⟨by rfl, ?_⟩) ?_ ?_
      rotate_left
      ·intro w'
       go_simp
       with_reducible rfl
      rotate_left
      ·simp only [Act.put, List.setIfInBounds_toArray, List.set_cons_zero, List.set_cons_succ, i64_w, i32_w]
       rfl
      refine pure_ (i := 6) (N := some 29) (v := ?_) (a' := ?_) #[false, true, true, true, true, false, true, false, false, false, false, false, false, false, false, false] rfl rfl (any_of HT_.out (by kernel_rfl)) (fun _ _ _ h => h) (Or.inl ⟨by rfl, ?_⟩) ?_ ?_
      rotate_left
      ·intro w'
       go_simp
       with_reducible rfl
      rotate_left
      ·simp only [Act.put, List.setIfInBounds_toArray, List.set_cons_zero, List.set_cons_succ, i64_w, i32_w]
       rfl
      refine pure_ (i := 7) (N := some 30) (v := ?_) (a' := ?_) #[false, true, true, true, true, false, true, true, false, false, false, false, false, false, false, false] rfl rfl (any_of HT_.out (by kernel_rfl)) (fun _ _ _ h => h) (Or.inl ⟨by rfl, ?_⟩) ?_ ?_
      rotate_left
      ·intro w'
       go_simp
       with_reducible rfl
      rotate_left
      ·simp only [Act.put, List.setIfInBounds_toArray, List.set_cons_zero, List.set_cons_succ, i64_w, i32_w]
       rfl
      refine pure_ (i := 8) (N := some 31) (v := ?_) (a' := ?_) #[false, true, true, true, true, false, true, true, true, false, false, false, false, false, false, false] rfl rfl (any_of HT_.out (by kernel_rfl)) (fun _ _ _ h => h) (Or.inl ⟨by rfl, ?_⟩) ?_ ?_
      rotate_left
      ·intro w'
       go_simp
       with_reducible rfl
      rotate_left
      ·simp only [Act.put, List.setIfInBounds_toArray, List.set_cons_zero, List.set_cons_succ, i64_w, i32_w]
       rfl
      refine pure_ (i := 9) (N := some 32) (v := ?_) (a' := ?_) #[false, true, true, true, true, false, true, true, true, true, false, false, false, false, false, false] rfl rfl (any_of HT_.out (by kernel_rfl)) (fun _ _ _ h => h) (Or.inl ⟨by rfl, ?_⟩) ?_ ?_
      rotate_left
      ·intro w'
       go_simp
       with_reducible rfl
      rotate_left
      ·simp only [Act.put, List.setIfInBounds_toArray, List.set_cons_zero, List.set_cons_succ, i64_w, i32_w]
       rfl
      refine take_ (i := 0) (N := some 23) (v := ?_) (a' := ?_) #[true, true, true, true, true, false, true, true, true, true, false, false, false, false, false, false] rfl rfl (take_ofW HT_.out HW_.out (by kernel_rfl)) (fun _ _ _ h => h) (Or.inl ⟨by rfl, ?_⟩) hHeld ?_ ?_
      rotate_left
      ·rintro w' ⟨s0, s1, s2, s3, s4, s5, s6, s7⟩
       go_simp
       with_reducible rfl
      rotate_left
      ·simp only [Act.put, List.setIfInBounds_toArray, List.set_cons_zero, List.set_cons_succ, i64_w, i32_w]
       rfl
      refine take_ (i := 5) (N := some 28) (v := ?_) (a' := ?_) #[true, true, true, true, true, true, true, true, true, true, false, false, false, false, false, false] rfl rfl (take_ofW HT_.out HW_.out (by kernel_rfl)) (fun _ _ _ h => h) (Or.inl ⟨by rfl, ?_⟩) hHeld ?_ ?_
      rotate_left
      ·rintro w' ⟨s0, s1, s2, s3, s4, s5, s6, s7⟩
       go_simp
       with_reducible rfl
      rotate_left
      ·simp only [Act.put, List.setIfInBounds_toArray, List.set_cons_zero, List.set_cons_succ, i64_w, i32_w]
       rfl
      refine take_ (i := 10) (N := some 33) (v := ?_) (a' := ?_) #[true, true, true, true, true, true, true, true, true, true, true, false, false, false, false, false] rfl rfl (take_ofW HT_.out HW_.out (by kernel_rfl)) (fun _ _ _ h => h) (Or.inl ⟨by rfl, ?_⟩) hHeld ?_ ?_
      rotate_left
      ·rintro w' ⟨s0, s1, s2, s3, s4, s5, s6, s7⟩
       go_simp
       with_reducible rfl
      rotate_left
      ·simp only [Act.put, List.setIfInBounds_toArray, List.set_cons_zero, List.set_cons_succ, i64_w, i32_w]
       rfl
      refine one_ (i := 11) (N := some 34) #[true, true, true, true, true, true, true, true, true, true, true, true, false, false, false, false] rfl rfl (one_of HT_.out (by kernel_rfl)) (by decide) (fun K hK => ?_)
      refine goes_ Try.func28 (by kernel_rfl) rfl #[.agg #[.slice Ao20 x238000_1.length co20, .slice Ao21 x238001_1.length co21], .int .i64 ((rd_T92 l1 x6_1).f1), .string ((rd_T92 l1 x6_1).f2)] (by rfl) rfl rfl (by (try simp only [List.map_toArray, List.map_cons, List.map_nil]); first | done | rfl | (simp only [List.length_drop, List.length_take]; rfl)) ?_
      with_reducible refine (spec_SectorWrite.calls k1 _ _ x238000_1 _ _ x238001_1 ((rd_T92 l1 x6_1).f1) ((rd_T92 l1 x6_1).f2) t241 t244 t247 _ ?side1 ?side2 ?side3 ?side4 A18.out).mono ?_
      (case side1 => exact cR HO_238000)
      (case side2 => exact (Kd.R_reads' HO_238000.out).2.1)
      (case side3 => exact cR HO_238001)
      (case side4 => exact (Kd.R_reads' HO_238001.out).2.1)
      rintro e w22 ⟨v242, v245, rfl, ho0, ho1, hb⟩
      refine ⟨_, rfl, ?_⟩
      have n0_ := eR HO_238000 ho0 hb
      have n1_ := eR HO_238001 ho1 hb
      have n2_ := Aside0.mk (Kd.R_lower (Kd.R_new' ho0 (rL HO_238000)) (zB HB))
      have n3_ := Aside0.mk (Kd.R_lower (Kd.R_new' ho1 (rL HO_238001)) (zB HB))
      have n4_ := kB BK229 hb
      have n5_ := kB BK230 hb
      have n6_ := kB BK237 hb
      have n7_ := sB HB hb
      clear HO_238000
      clear HO_238001
      clear BK229
      clear BK230
      clear BK237
      clear HB
      have HO_238000 := n0_
      have HO_238001 := n1_
      have HO243 := n2_
      have HO246 := n3_
      have BK229 := n4_
      have BK230 := n5_
      have BK237 := n6_
      have HB := n7_
      clear n0_ n1_ n2_ n3_ n4_ n5_ n6_ n7_
      (try clear hb)
      (try clear hb2)
      (try clear hk)
      (try clear hi)
      (try clear ho0)
      (try clear ho1)
      obtain ⟨Ao23, co23, eo23⟩ := Kd.R_slice HO243.out
      (first | subst eo23 | (injection eo23 with f1_ f2_ f3_; have f4_ := f1_.symm; have f5_ := f3_.symm; clear f1_ f2_ f3_; subst f4_; subst f5_))
      obtain ⟨Ao25, co25, eo25⟩ := Kd.R_slice HO246.out
      (first | subst eo25 | (injection eo25 with f1_ f2_ f3_; have f4_ := f1_.symm; have f5_ := f3_.symm; clear f1_ f2_ f3_; subst f4_; subst f5_))
      refine hK.out _ _ ⟨(blk_cell BK237.out 0).trans rfl, (blk_cell BK237.out 1).trans rfl, ((HB.out.cell (World.block_lt_of_cell? w _ hw239_0)).trans hw239_0), ((HB.out.cell (World.block_lt_of_cell? w _ hw239_1)).trans hw239_1), ((HB.out.cell (World.block_lt_of_cell? w _ hw239_2)).trans hw239_2), ((HB.out.cell (World.block_lt_of_cell? w _ hw240_0)).trans hw240_0), ((HB.out.cell (World.block_lt_of_cell? w _ hw240_1)).trans hw240_1), ((HB.out.cell (World.block_lt_of_cell? w _ hw240_2)).trans hw240_2)⟩ (fun hHeld => ?_)
      clear hK K
      refine norm_ (a' := ?_) ?_ ?_
      rotate_left
      ·show Act.put _ (some 34) _ = _
       simp only [Act.put, List.setIfInBounds_toArray, List.set_cons_zero, List.set_cons_succ, i64_w, i32_w]
       rfl
      refine pure_ (i := 12) (N := some 22) (v := ?_) (a' := ?_) #[true, true, true, true, true, true, true, true, true, true, true, true, true, false, false, false] rfl rfl (any_of HT_.out (by kernel_rfl)) (fun _ _ _ h => h) (Or.inl ⟨by rfl, ?_⟩) ?_ ?_
      rotate_left
      ·intro w'
       go_simp
       with_reducible rfl
      rotate_left
      ·simp only [Act.put, List.setIfInBounds_toArray, List.set_cons_zero, List.set_cons_succ, i64_w, i32_w]
       rfl
      refine pure_ (i := 13) (N := some 35) (v := ?_) (a' := ?_) #[true, true, true, true, true, true, true, true, true, true, true, true, true, true, false, false] rfl rfl (any_of HT_.out (by kernel_rfl)) (fun _ _ _ h => h) (Or.inl ⟨by rfl, ?_⟩) ?_ ?_
      rotate_left
      ·intro w'
       go_simp
       with_reducible rfl
      rotate_left
      ·simp only [Act.put, List.setIfInBounds_toArray, List.set_cons_zero, List.set_cons_succ, i64_w, i32_w]
       rfl
      refine pure_ (i := 14) (N := some 36) (v := ?_) (a' := ?_) #[true, true, true, true, true, true, true, true, true, true, true, true, true, true, true, false] rfl rfl (any_of HT_.out (by kernel_rfl)) (fun _ _ _ h => h) (Or.inl ⟨by rfl, ?_⟩) ?_ ?_
      rotate_left
      ·intro w'
       go_simp
       with_reducible rfl
      rotate_left
      ·simp only [Act.put, List.setIfInBounds_toArray, List.set_cons_zero, List.set_cons_succ, i64_w, i32_w]
       rfl
      refine last_ (i := 15) (N := none) #[true, true, true, true, true, true, true, true, true, true, true, true, true, true, true, true] rfl rfl (one_of HT_.out (by kernel_rfl)) (by decide) (fun K hK => ?_)
      have hs24 : w22.cell? ⟨gb237, 0, none⟩ = some (.slice Ao20 x238000_1.length co20) := (blk_cell BK237.out 0).trans rfl
      have hfs24 := blk_frozen BK237.out 0
      have hns24_0 := NB229_237.out
      have hns24_1 := NB230_237.out
      have hms24_0 := NB237_229.out
      have hms24_1 := NB237_230.out
      have hs26 : w22.cell? ⟨gb237, 1, none⟩ = some (.slice Ao21 x238001_1.length co21) := (blk_cell BK237.out 1).trans rfl
      have hfs26 := blk_frozen BK237.out 1
      have hns26_0 := NB229_237.out
      have hns26_1 := NB230_237.out
      have hms26_0 := NB237_229.out
      have hms26_1 := NB237_230.out
      refine skip_ (w1 := ?_) (by rfl) rfl ?_ ?_
      rotate_left
      ·go_simp
       rfl
      refine hK.out _ _ ?_
      clear hK K
      refine done_ (done_of HT_.out (by kernel_rfl)) ?_
      try go_wp2
      go_roundg k1
      case measure => have := HK1.out; omega
      case rel => exact ⟨(wrap64 (x6_1 + 1)), (t241), (t244), (.slice Ao23 t241.length co23), (.slice Ao25 t244.length co25), (by first | rfl | (simp; done) | (simp [*]; done) | (simp; exact (by intro l_; cases l_ <;> rfl : ∀ l_ : List UInt8, l_.isEmpty = !(l_ != [])) _)), H', ⟨by have := HK1.out; omega⟩, ⟨rP (Kd.R_mono (Kd.R_far (p := ⟨gb237, 1, none⟩) (Kd.R_far (p := ⟨gb237, 0, none⟩) (Kd.R_types HO243.out BK237.out (by decide)) (fun _ hk => hk.2) (.slice Ao23 t241.length co23)) (fun _ hk => hk.2) (.slice Ao25 t244.length co25)) (fun _ hk => trivial))⟩, ⟨rP (Kd.R_mono (Kd.R_far (p := ⟨gb237, 1, none⟩) (Kd.R_far (p := ⟨gb237, 0, none⟩) (Kd.R_types HO246.out BK237.out (by decide)) (fun _ hk => hk.2) (.slice Ao23 t241.length co23)) (fun _ hk => hk.2) (.slice Ao25 t244.length co25)) (fun _ hk => trivial))⟩, ⟨kP BK229⟩, ⟨kP BK230⟩, ⟨by (with_reducible repeat (first | refine blk_drewN ?_ _ | refine blk_drew ?_ | refine blk_alloc ?_ _)); refine blk_put (cs := #[.slice Ao23 t241.length co23, .slice Ao21 x238001_1.length co21]) ?_ 1 _ rfl; (with_reducible repeat (first | refine blk_drewN ?_ _ | refine blk_drew ?_ | refine blk_alloc ?_ _)); refine blk_put (cs := #[.slice Ao20 x238000_1.length co20, .slice Ao21 x238001_1.length co21]) ?_ 0 _ rfl; (with_reducible repeat (first | refine blk_drewN ?_ _ | refine blk_drew ?_ | refine blk_alloc ?_ _)); exact BK237.out⟩, ⟨bB⟩⟩
     ·rw [if_neg c17] at H
      have c17b0 : (((rd_T92 l1 x6_1).f0) == 0) = false := beq_eq_false_iff_ne.mpr c17
      have c17b1 : (((rd_T92 l1 x6_1).f0) != 0) = true := bne_iff_ne.mpr c17
      by_cases c27 : ((rd_T92 l1 x6_1).f0) = 1
      ·rw [if_pos c27] at H
       have c27b0 : (((rd_T92 l1 x6_1).f0) == 1) = true := beq_iff_eq.mpr c27
       have c27b1 : (((rd_T92 l1 x6_1).f0) != 1) = false := bne_eq_false_iff_eq.mpr c27
       clear c27
       replace H := Option.bind_eq_some_iff.mp H
       obtain ⟨⟨t248, t251⟩, A280, H⟩ := H
       try dsimp only at H
       have A28 := Aside0.mk A280
       clear A280
       have H' := Aside0.mk H
       clear H
       have p238 : 0 ≤ (x6_1 : Int) := dT
       have q238 : x6_1 < (l1.length : Int) := dT
       obtain ⟨ad238, e238, hx238_0, hx238_1, hx238_2⟩ := at_T92 HR1.out x6_1 p238 q238
       cases e238
       replace hx238_0 := (HB.out.cell (World.block_lt_of_cell? w _ hx238_0)).trans hx238_0
       replace hx238_1 := (HB.out.cell (World.block_lt_of_cell? w _ hx238_1)).trans hx238_1
       replace hx238_2 := (HB.out.cell (World.block_lt_of_cell? w _ hx238_2)).trans hx238_2
       replace p238 := eq_true p238
       replace q238 := eq_true q238
       have hnb29 := NB237_229.out
       have hnc29 := NB229_237.out
       have hnb30 := NB237_230.out
       have hnc30 := NB230_237.out
       have hcz31_0 := cZ0 BK237
       have hcz31_1 := cZ1 BK237
       have hfz31_0 := blk_frozen BK237.out 0
       have hfz31_1 := blk_frozen BK237.out 1
       obtain ⟨Ao32, co32, eo32⟩ := Kd.R_slice HO_238000.out
       subst eo32
       obtain ⟨Ao33, co33, eo33⟩ := Kd.R_slice HO_238001.out
       subst eo33
       go_wp2_with (first | ((with_reducible refine gate_callee (f := 31) rfl ?_); refine gL (some 40) Try.func31 #[.agg #[.slice Ao32 x238000_1.length co32, .slice Ao33 x238001_1.length co33]] ?_; (with_reducible refine (spec_Flush.calls k1 _ _ x238000_1 _ _ x238001_1 t248 t251 _ ?side1 ?side2 ?side3 ?side4 A28.out).mono ?_); (case side1 => exact cR HO_238000); (case side2 => exact (Kd.R_reads' HO_238000.out).2.1); (case side3 => exact cR HO_238001); (case side4 => exact (Kd.R_reads' HO_238001.out).2.1); rintro e w34 ⟨v249, v252, rfl, ho0, ho1, hb⟩; refine ⟨_, rfl, ?_⟩; have n_ := And.intro (eR HO_238000 ho0 hb) (And.intro (eR HO_238001 ho1 hb) (And.intro (Aside0.mk (Kd.R_lower (Kd.R_new' ho0 (rL HO_238000)) (zB HB))) (And.intro (Aside0.mk (Kd.R_lower (Kd.R_new' ho1 (rL HO_238001)) (zB HB))) (And.intro (kB BK229 hb) (And.intro (kB BK230 hb) (And.intro (kB BK237 hb) (sB HB hb))))))); clear HO_238000 HO_238001 BK229 BK230 BK237 HB; obtain ⟨HO_238000, HO_238001, HO250, HO253, BK229, BK230, BK237, HB⟩ := n_; (try clear hb ho0 ho1); obtain ⟨Ao35, co35, eo35⟩ := Kd.R_slice HO250.out; subst eo35; have hcz36_0 := cZ0 BK237; have hcz36_1 := cZ1 BK237; have hfz36_0 := blk_frozen BK237.out 0; have hfz36_1 := blk_frozen BK237.out 1; obtain ⟨Ao37, co37, eo37⟩ := Kd.R_slice HO253.out; subst eo37))
       go_roundg k1
       case measure => have := HK1.out; omega
       case rel => exact ⟨(wrap64 (x6_1 + 1)), (t248), (t251), (.slice Ao35 t248.length co35), (.slice Ao37 t251.length co37), (by first | rfl | (simp; done) | (simp [*]; done) | (simp; exact (by intro l_; cases l_ <;> rfl : ∀ l_ : List UInt8, l_.isEmpty = !(l_ != [])) _)), H', ⟨by have := HK1.out; omega⟩, ⟨rP (Kd.R_mono (Kd.R_far (p := ⟨gb237, 1, none⟩) (Kd.R_far (p := ⟨gb237, 0, none⟩) (Kd.R_types HO250.out BK237.out (by decide)) (fun _ hk => hk.2) (.slice Ao35 t248.length co35)) (fun _ hk => hk.2) (.slice Ao37 t251.length co37)) (fun _ hk => trivial))⟩, ⟨rP (Kd.R_mono (Kd.R_far (p := ⟨gb237, 1, none⟩) (Kd.R_far (p := ⟨gb237, 0, none⟩) (Kd.R_types HO253.out BK237.out (by decide)) (fun _ hk => hk.2) (.slice Ao35 t248.length co35)) (fun _ hk => hk.2) (.slice Ao37 t251.length co37)) (fun _ hk => trivial))⟩, ⟨kP BK229⟩, ⟨kP BK230⟩, ⟨by (with_reducible repeat (first | refine blk_drewN ?_ _ | refine blk_drew ?_ | refine blk_alloc ?_ _)); refine blk_put (cs := #[.slice Ao35 t248.length co35, .slice Ao33 x238001_1.length co33]) ?_ 1 _ rfl; (with_reducible repeat (first | refine blk_drewN ?_ _ | refine blk_drew ?_ | refine blk_alloc ?_ _)); refine blk_put (cs := #[.slice Ao32 x238000_1.length co32, .slice Ao33 x238001_1.length co33]) ?_ 0 _ rfl; (with_reducible repeat (first | refine blk_drewN ?_ _ | refine blk_drew ?_ | refine blk_alloc ?_ _)); exact BK237.out⟩, ⟨bB⟩⟩
      ·rw [if_neg c27] at H
       have c27b0 : (((rd_T92 l1 x6_1).f0) == 1) = false := beq_eq_false_iff_ne.mpr c27
       have c27b1 : (((rd_T92 l1 x6_1).f0) != 1) = true := bne_iff_ne.mpr c27
       have H' := Aside0.mk H
       clear H
       have p238 : 0 ≤ (x6_1 : Int) := dT
       have q238 : x6_1 < (l1.length : Int) := dT
       obtain ⟨ad238, e238, hx238_0, hx238_1, hx238_2⟩ := at_T92 HR1.out x6_1 p238 q238
       cases e238
       replace hx238_0 := (HB.out.cell (World.block_lt_of_cell? w _ hx238_0)).trans hx238_0
       replace hx238_1 := (HB.out.cell (World.block_lt_of_cell? w _ hx238_1)).trans hx238_1
       replace hx238_2 := (HB.out.cell (World.block_lt_of_cell? w _ hx238_2)).trans hx238_2
       replace p238 := eq_true p238
       replace q238 := eq_true q238
       go_wp2
       go_roundg k1
       case measure => have := HK1.out; omega
       case rel => exact ⟨(wrap64 (x6_1 + 1)), (x238000_1), (x238001_1), (u238000), (u238001), (by first | rfl | (simp; done) | (simp [*]; done) | (simp; exact (by intro l_; cases l_ <;> rfl : ∀ l_ : List UInt8, l_.isEmpty = !(l_ != [])) _)), H', ⟨by have := HK1.out; omega⟩, ⟨rP HO_238000.out⟩, ⟨rP HO_238001.out⟩, ⟨kP BK229⟩, ⟨kP BK230⟩, ⟨kP BK237⟩, ⟨bB⟩⟩
    ·rw [if_neg c16] at H
     exact absurd H (by simp)
   ·rw [if_neg c15] at H
    have c15b0 : decide (x6_1 < (l1.length : Int)) = false := decide_eq_false c15
    clear c15
    simp only [Option.some.injEq, Prod.mk.injEq] at H
    obtain ⟨rfl, rfl⟩ := H
    have hnb38 := NB237_229.out
    have hnc38 := NB229_237.out
    have hnb39 := NB237_230.out
    have hnc39 := NB230_237.out
    have hcz40_0 := cZ0 BK237
    have hcz40_1 := cZ1 BK237
    have hfz40_0 := blk_frozen BK237.out 0
    have hfz40_1 := blk_frozen BK237.out 1
    obtain ⟨Ao41, co41, eo41⟩ := Kd.R_slice HO_238000.out
    subst eo41
    have hnb42 := NB230_229.out
    have hnc42 := NB229_230.out
    have hcz43_0 := cZ0 BK230
    have hcz43_1 := cZ1 BK230
    have hfz43_0 := blk_frozen BK230.out 0
    have hfz43_1 := blk_frozen BK230.out 1
    obtain ⟨Ao44, co44, eo44⟩ := Kd.R_slice HO_238001.out
    subst eo44
    go_wp2
    refine bodyPost_ret (results_cell_row rfl _ _ gb230 30 #[.slice Ao41 x238000_1.length co41, .slice Ao44 x238001_1.length co44] (0, 0) _ rfl (by (with_reducible repeat (first | refine blk_drewN ?_ _ | refine blk_drew ?_ | refine blk_alloc ?_ _)); refine blk_put (cs := #[.slice Ao41 x238000_1.length co41, .slice none 0 0]) ?_ 1 _ rfl; (with_reducible repeat (first | refine blk_drewN ?_ _ | refine blk_drew ?_ | refine blk_alloc ?_ _)); refine blk_put (cs := #[.slice none 0 0, .slice none 0 0]) ?_ 0 _ rfl; (with_reducible repeat (first | refine blk_drewN ?_ _ | refine blk_drew ?_ | refine blk_alloc ?_ _)); exact BK230.out) Try.underlying30 rfl (by kernel_rfl)) rfl ?_
    exact ⟨_, _, eW, by (with_reducible repeat (first | apply Kd.R_alloc | apply Kd.R_drewN | apply Kd.R_drew)); exact Kd.R_mono (Kd.R_far (p := ⟨gb230, 1, none⟩) (Kd.R_far (p := ⟨gb230, 0, none⟩) (Kd.R_types HO_238000.out BK230.out (by decide)) (fun _ hk => hk.2) (.slice Ao41 x238000_1.length co41)) (fun _ hk => hk.2) (.slice Ao44 x238001_1.length co44)) (fun _ hk => trivial), by (with_reducible repeat (first | apply Kd.R_alloc | apply Kd.R_drewN | apply Kd.R_drew)); exact Kd.R_mono (Kd.R_far (p := ⟨gb230, 1, none⟩) (Kd.R_far (p := ⟨gb230, 0, none⟩) (Kd.R_types HO_238001.out BK230.out (by decide)) (fun _ hk => hk.2) (.slice Ao41 x238000_1.length co41)) (fun _ hk => hk.2) (.slice Ao44 x238001_1.length co44)) (fun _ hk => trivial), bB⟩

/-! ### laws_toEvent: function 82 -/
def laws_toEvent.f (a0_0 : Int) (a0_1 : Int) (a0_2 : ByteArray) : Option (Int × Int × ByteArray) := some (a0_0, a0_1, a0_2)
set_option maxHeartbeats 8000000 in
set_option maxRecDepth 100000 in
theorem laws_toEvent.calls (a0_0 : Int) (a0_1 : Int) (a0_2 : ByteArray) (r1 : Int) (r2 : Int) (r3 : ByteArray) (w : World) (h : laws_toEvent.f a0_0 a0_1 a0_2 = some (r1, r2, r3)) :
  Calls Try.prog 82 #[.agg #[.int .i64 a0_0, .int .i64 a0_1, .string a0_2]] w fun e w' => e = .returned (.agg #[.int .i64 r1, .int .i64 r2, .string r3]) ∧ Below w.heap.size w w' := by
 have hu91 := Try.underlying91
 have hu92 := Try.underlying92
 have HB := Aside0.mk (Below.refl w.heap.size w)
 unfold laws_toEvent.f at h
 have H := h
 clear h
 simp only [Option.some.injEq, Prod.mk.injEq] at H
 obtain ⟨rfl, rfl, rfl⟩ := H
 go_enter Try.func82, Try.ntmps82
 go_wp2_with (first | ((with_reducible refine gate_dst (N := 1) rfl ?_); refine bE 1 #[.int .i64 a0_0, .int .i64 a0_1, .string a0_2] 91 ?_; intro gb254 hg w2 hbox hb; have n_ := And.intro (sB HB hb) (And.intro (Aside0.mk hbox) (And.intro (gE HB hg) (gE HB hg))); clear HB; obtain ⟨HB, BK254, GW254, GE254⟩ := n_; (try clear hb hbox hg)) | ((with_reducible refine gate_dst (N := 2) rfl ?_); refine bE 2 #[.int .i64 0, .int .i64 0, .string (⟨#[]⟩ : ByteArray)] 92 ?_; intro gb255 hg w3 hbox hb; have n_ := And.intro (kB BK254 hb) (And.intro (sB HB hb) (And.intro (Aside0.mk hbox) (And.intro (gE HB hg) (And.intro (gE HB hg) (And.intro (nL BK254 hg) (nG BK254 hg)))))); clear BK254 HB; obtain ⟨BK254, HB, BK255, GW255, GE255, NB254_255, NB255_254⟩ := n_; (try clear hb hbox hg)) | ((with_reducible refine gate_dst (N := 3) rfl ?_); refine bE 3 #[.int .i64 0, .int .i64 0, .string (⟨#[]⟩ : ByteArray)] 92 ?_; intro gb256 hg w4 hbox hb; have n_ := And.intro (kB BK254 hb) (And.intro (kB BK255 hb) (And.intro (sB HB hb) (And.intro (Aside0.mk hbox) (And.intro (gE HB hg) (And.intro (gE HB hg) (And.intro (nL BK254 hg) (And.intro (nG BK254 hg) (And.intro (nL BK255 hg) (nG BK255 hg))))))))); clear BK254 BK255 HB; obtain ⟨BK254, BK255, HB, BK256, GW256, GE256, NB254_256, NB256_254, NB255_256, NB256_255⟩ := n_; (try clear hb hbox hg); have hnb5 := NB254_255.out; have hnc5 := NB255_254.out; have hnb6 := NB254_256.out; have hnc6 := NB256_254.out; have hcz7_0 := cZ0 BK254; have hcz7_1 := cZ1 BK254; have hcz7_2 : w4.cell? ⟨gb254, 2, none⟩ = some (.string a0_2) := (blk_cell BK254.out 2).trans rfl; have hfz7_0 := blk_frozen BK254.out 0; have hfz7_1 := blk_frozen BK254.out 1; have hfz7_2 := blk_frozen BK254.out 2; have hnb8 := NB256_255.out; have hnc8 := NB255_256.out; have hcz9_0 := cZ0 BK256; have hcz9_1 := cZ1 BK256; have hcz9_2 : w4.cell? ⟨gb256, 2, none⟩ = some (.string (⟨#[]⟩ : ByteArray)) := (blk_cell BK256.out 2).trans rfl; have hfz9_0 := blk_frozen BK256.out 0; have hfz9_1 := blk_frozen BK256.out 1; have hfz9_2 := blk_frozen BK256.out 2; have hcz10_0 := cZ0 BK255; have hcz10_1 := cZ1 BK255; have hcz10_2 : w4.cell? ⟨gb255, 2, none⟩ = some (.string (⟨#[]⟩ : ByteArray)) := (blk_cell BK255.out 2).trans rfl; have hfz10_0 := blk_frozen BK255.out 0; have hfz10_1 := blk_frozen BK255.out 1; have hfz10_2 := blk_frozen BK255.out 2))
 refine bodyPost_ret (results_cell_row rfl _ _ gb255 92 #[.int .i64 a0_0, .int .i64 a0_1, .string a0_2] (0, 0) _ rfl (by (with_reducible repeat (first | refine blk_drewN ?_ _ | refine blk_drew ?_ | refine blk_alloc ?_ _)); refine blk_put (cs := #[.int .i64 a0_0, .int .i64 a0_1, .string (⟨#[]⟩ : ByteArray)]) ?_ 2 _ rfl; (with_reducible repeat (first | refine blk_drewN ?_ _ | refine blk_drew ?_ | refine blk_alloc ?_ _)); refine blk_put (cs := #[.int .i64 a0_0, .int .i64 0, .string (⟨#[]⟩ : ByteArray)]) ?_ 1 _ rfl; (with_reducible repeat (first | refine blk_drewN ?_ _ | refine blk_drew ?_ | refine blk_alloc ?_ _)); refine blk_put (cs := #[.int .i64 0, .int .i64 0, .string (⟨#[]⟩ : ByteArray)]) ?_ 0 _ rfl; (with_reducible repeat (first | refine blk_drewN ?_ _ | refine blk_drew ?_ | refine blk_alloc ?_ _)); refine blk_far ?_ NB255_256.out _; (with_reducible repeat (first | refine blk_drewN ?_ _ | refine blk_drew ?_ | refine blk_alloc ?_ _)); refine blk_far ?_ NB255_256.out _; (with_reducible repeat (first | refine blk_drewN ?_ _ | refine blk_drew ?_ | refine blk_alloc ?_ _)); refine blk_far ?_ NB255_256.out _; (with_reducible repeat (first | refine blk_drewN ?_ _ | refine blk_drew ?_ | refine blk_alloc ?_ _)); exact BK255.out) Try.underlying92 rfl (by kernel_rfl)) rfl ?_
 exact ⟨eW, bB⟩

end Go.Proofs.Ytgmpdkefegofhaa.PFnExactEventsDo
