-- Written by xprint.py, a program of this session over the kit's print. Not trusted: Lean checks it.
import Derived.Test.YtgmpdkefegofhaaPFnExactEventsDox0
import Derived.Test.YtgmpdkefegofhaaPFnExactEventsDox6
namespace Go.Proofs.Ytgmpdkefegofhaa.PFnExactEventsDo
open Go.RowKit Go.Proofs.YtgmpdkefegofhaaW.PrintWords Go.Proofs.YtgmpdkefegofhaaW.PrintLast Go.Proofs.YtgmpdkefegofhaaW.PrintMore
attribute [local go_sem] max2_int min2_int max_two min_two max_three min_three max_four min_four   -- for this text's walks alone
set_option linter.unusedVariables false
set_option linter.unusedSimpArgs false

/-! ### impl_settle_Flush_1: function 78 -/
def impl_settle_Flush_1.l0 : Nat → List (S65) → Int → Int → List ByteArray → List (S65) → Option (List ByteArray × (List (S65)))
 | 0, _, _, _, _, _ => none
 | k + 1, x15, x16, x17, x309000, x309001 => if x17 < x16 then (if 0 ≤ x17 then (if x17 < (x15.length : Int) then ((impl_Flush_1.f x17).bind fun t312 => (if t312 = true then (if 0 ≤ ((rd_T65 x15 x17).f0) then (if ((rd_T65 x15 x17).f0) < (x309000.length : Int) then (impl_settle_Flush_1.l0 k x15 x16 (wrap64 (x17 + 1)) (x309000.set (((rd_T65 x15 x17).f0) : Int).toNat ((rd_T65 x15 x17).f1)) x309001) else (none)) else (none)) else (impl_settle_Flush_1.l0 k x15 x16 (wrap64 (x17 + 1)) x309000 x309001))) else (none)) else (none)) else (some (x309000, ([] : List (S65))))
def impl_settle_Flush_1.f (k : Nat) (l0_0 : List ByteArray) (l0_1 : List (S65))  : Option (List ByteArray × (List (S65))) := (impl_cloneDisk.f l0_0 l0_1).bind fun bt302 => ((impl_DiskOk.f l0_0 l0_1).bind fun t309 => (if t309 = true then (impl_settle_Flush_1.l0 k l0_1 (l0_1.length : Int) 0 bt302.1 bt302.2) else (some (bt302.1, bt302.2))))
theorem impl_settle_Flush_1.mono_l : ∀ k, (∀ y0 y1 y2 y3 y4, LeO (impl_settle_Flush_1.l0 k y0 y1 y2 y3 y4) (impl_settle_Flush_1.l0 (k + 1) y0 y1 y2 y3 y4))
 | 0 => fun _ _ _ _ _ r h => by simp [impl_settle_Flush_1.l0] at h
 | k + 1 => by
  have ih0 := impl_settle_Flush_1.mono_l k
  ·intro y0 y1 y2 y3 y4
   unfold impl_settle_Flush_1.l0
   exact mM
theorem impl_settle_Flush_1.mono : ∀ a0 a1 k, LeO (impl_settle_Flush_1.f k a0 a1) (impl_settle_Flush_1.f (k + 1) a0 a1) := by
 intro a0 a1 k
 have ih0 := impl_settle_Flush_1.mono_l k
 unfold impl_settle_Flush_1.f
 exact mM
set_option maxHeartbeats 8000000 in
set_option maxRecDepth 100000 in
theorem impl_settle_Flush_1.calls (k : Nat) (A0_0 : Option Addr) (c0_0 : Nat) (l0_0 : List ByteArray) (A0_1 : Option Addr) (c0_1 : Nat) (l0_1 : List (S65))  (r1 : List ByteArray) (r2 : List (S65)) (w : World) (hr0_0 : Kd.C Kd.string w A0_0 l0_0.length l0_0) (hc0_0 : l0_0.length ≤ c0_0) (hr0_1 : Kd.C k65 w A0_1 l0_1.length l0_1) (hc0_1 : l0_1.length ≤ c0_1) (h : impl_settle_Flush_1.f k l0_0 l0_1 = some (r1, r2)) :
  Calls Try.prog 78 #[.agg #[.slice A0_0 l0_0.length c0_0, .slice A0_1 l0_1.length c0_1], .func (.func 79) #[] #[]] w fun e w' => ∃ v0_ v1_ : Value, e = .returned (.agg #[v0_, v1_]) ∧ Kd.R Kd.string 9 w' w.heap.size (fun _ => True) v0_ r1 ∧ Kd.R k65 65 w' w.heap.size (fun _ => True) v1_ r2 ∧ Below w.heap.size w w' := by
 have hu30 := Try.underlying30
 have hu65 := Try.underlying65
 have HR0_0 := Aside0.mk hr0_0
 have HC0_0 := Aside0.mk hc0_0
 clear hr0_0 hc0_0
 have HR0_1 := Aside0.mk hr0_1
 have HC0_1 := Aside0.mk hc0_1
 clear hr0_1 hc0_1
 have HB := Aside0.mk (Below.refl w.heap.size w)
 unfold impl_settle_Flush_1.f at h
 have H := h
 clear h
 replace H := Option.bind_eq_some_iff.mp H
 obtain ⟨⟨t302, t305⟩, A30, H⟩ := H
 try dsimp only at H
 have A3 := Aside0.mk A30
 clear A30
 replace H := Option.bind_eq_some_iff.mp H
 obtain ⟨t309, A40, H⟩ := H
 try dsimp only at H
 have A4 := Aside0.mk A40
 clear A40
 by_cases c5 : t309 = true
 ·subst c5
  rw [if_pos rfl] at H
  have H' := Aside0.mk H
  clear H
  go_enter Try.func78, Try.ntmps78
  go_wp2_with (first | ((with_reducible refine gate_dst (N := 2) rfl ?_); refine bE 2 #[.slice A0_0 l0_0.length c0_0, .slice A0_1 l0_1.length c0_1] 30 ?_; intro gb300 hg w6 hbox hb; have n_ := And.intro (sB HB hb) (And.intro (Aside0.mk hbox) (And.intro (gE HB hg) (gE HB hg))); clear HB; obtain ⟨HB, BK300, GW300, GE300⟩ := n_; (try clear hb hbox hg)) | ((with_reducible refine gate_dst (N := 4) rfl ?_); refine bE 4 #[.slice none 0 0, .slice none 0 0] 30 ?_; intro gb301 hg w7 hbox hb; have n_ := And.intro (kB BK300 hb) (And.intro (sB HB hb) (And.intro (Aside0.mk hbox) (And.intro (gE HB hg) (And.intro (gE HB hg) (And.intro (nL BK300 hg) (nG BK300 hg)))))); clear BK300 HB; obtain ⟨BK300, HB, BK301, GW301, GE301, NB300_301, NB301_300⟩ := n_; (try clear hb hbox hg); have hnb8 := NB300_301.out; have hnc8 := NB301_300.out; have hcz9_0 := cZ0 BK300; have hcz9_1 := cZ1 BK300; have hfz9_0 := blk_frozen BK300.out 0; have hfz9_1 := blk_frozen BK300.out 1) | ((with_reducible refine gate_callee (f := 76) rfl ?_); refine gL (some 9) Try.func76 #[.agg #[.slice A0_0 l0_0.length c0_0, .slice A0_1 l0_1.length c0_1]] ?_; (with_reducible refine (impl_cloneDisk.calls _ _ l0_0 _ _ l0_1 t302 t305 _ ?side1 ?side2 ?side3 ?side4 A3.out).mono ?_); (case side1 => exact cS HR0_0 HB); (case side2 => exact HC0_0.out); (case side3 => exact cS HR0_1 HB); (case side4 => exact HC0_1.out); rintro e w10 ⟨v303, v306, rfl, ho0, ho1, hb⟩; refine ⟨_, rfl, ?_⟩; have n_ := And.intro (lR HB ho0) (And.intro (lR HB ho1) (And.intro (kB BK300 hb) (And.intro (kB BK301 hb) (sB HB hb)))); clear BK300 BK301 HB; obtain ⟨HO304, HO307, BK300, BK301, HB⟩ := n_; (try clear hb ho0 ho1)) | ((with_reducible refine gate_dst (N := 5) rfl ?_); refine bE 5 #[.slice none 0 0, .slice none 0 0] 30 ?_; intro gb308 hg w11 hbox hb; have n_ := And.intro (rB HO304 hb) (And.intro (rB HO307 hb) (And.intro (kB BK300 hb) (And.intro (kB BK301 hb) (And.intro (sB HB hb) (And.intro (Aside0.mk hbox) (And.intro (gE HB hg) (And.intro (gE HB hg) (And.intro (nL BK300 hg) (And.intro (nG BK300 hg) (And.intro (nL BK301 hg) (nG BK301 hg))))))))))); clear HO304 HO307 BK300 BK301 HB; obtain ⟨HO304, HO307, BK300, BK301, HB, BK308, GW308, GE308, NB300_308, NB308_300, NB301_308, NB308_301⟩ := n_; (try clear hb hbox hg); obtain ⟨Ao12, co12, eo12⟩ := Kd.R_slice HO304.out; subst eo12; have hnb13 := NB308_300.out; have hnc13 := NB300_308.out; have hnb14 := NB308_301.out; have hnc14 := NB301_308.out; have hcz15_0 := cZ0 BK308; have hcz15_1 := cZ1 BK308; have hfz15_0 := blk_frozen BK308.out 0; have hfz15_1 := blk_frozen BK308.out 1; obtain ⟨Ao16, co16, eo16⟩ := Kd.R_slice HO307.out; subst eo16; have hcz17_0 := cZ0 BK300; have hcz17_1 := cZ1 BK300; have hfz17_0 := blk_frozen BK300.out 0; have hfz17_1 := blk_frozen BK300.out 1) | ((with_reducible refine gate_callee (f := 18) rfl ?_); refine gL (some 11) Try.func18 #[.agg #[.slice A0_0 l0_0.length c0_0, .slice A0_1 l0_1.length c0_1]] ?_; (with_reducible refine (impl_DiskOk.calls _ _ l0_0 _ _ l0_1 true _ ?side1 ?side2 ?side3 ?side4 A4.out).mono ?_); (case side1 => exact cS HR0_0 HB); (case side2 => exact HC0_0.out); (case side3 => exact cS HR0_1 HB); (case side4 => exact HC0_1.out); rintro e w18 ⟨rfl, hb⟩; refine ⟨_, rfl, ?_⟩; have n_ := And.intro (Aside0.mk (Kd.R_below (rP (Kd.R_mono (Kd.R_far (p := ⟨gb308, 1, none⟩) (Kd.R_far (p := ⟨gb308, 0, none⟩) (Kd.R_types HO304.out BK308.out (by decide)) (fun _ hk => hk.2) (.slice Ao12 t302.length co12)) (fun _ hk => hk.2) (.slice Ao16 t305.length co16)) (fun _ h_ => h_.1))) hb)) (And.intro (Aside0.mk (Kd.R_below (rP (Kd.R_mono (Kd.R_far (p := ⟨gb308, 1, none⟩) (Kd.R_far (p := ⟨gb308, 0, none⟩) (Kd.R_types HO307.out BK308.out (by decide)) (fun _ hk => hk.2) (.slice Ao12 t302.length co12)) (fun _ hk => hk.2) (.slice Ao16 t305.length co16)) (fun _ h_ => h_.1))) hb)) (And.intro (kB BK300 hb) (And.intro (kB BK301 hb) (And.intro (Aside0.mk (blk_below (g := gb308) (o := .cells #[.slice Ao12 t302.length co12, .slice Ao16 t305.length co16] 30 (0, 0)) (by (with_reducible repeat (first | refine blk_drewN ?_ _ | refine blk_drew ?_ | refine blk_alloc ?_ _)); refine blk_put (cs := #[.slice Ao12 t302.length co12, .slice none 0 0]) ?_ 1 _ rfl; (with_reducible repeat (first | refine blk_drewN ?_ _ | refine blk_drew ?_ | refine blk_alloc ?_ _)); refine blk_put (cs := #[.slice none 0 0, .slice none 0 0]) ?_ 0 _ rfl; (with_reducible repeat (first | refine blk_drewN ?_ _ | refine blk_drew ?_ | refine blk_alloc ?_ _)); exact BK308.out) hb)) (sB HB hb))))); clear HO304 HO307 BK300 BK301 BK308 HB; obtain ⟨HO304, HO307, BK300, BK301, BK308, HB⟩ := n_; (try clear hb); have hcz19_0 := cZ0 BK300; have hcz19_1 := cZ1 BK300; have hfz19_0 := blk_frozen BK300.out 0; have hfz19_1 := blk_frozen BK300.out 1))
  go_loopg [17] k (fun kq v17 w' => ∃ (x17_1 : Int) (x309000_1 : List ByteArray) (u309000 : Value), v17 = .int .i64 x17_1 ∧ Aside0 (impl_settle_Flush_1.l0 kq l0_1 (l0_1.length : Int) x17_1 x309000_1 t305 = some (r1, r2)) ∧ Aside0 (kq ≤ k) ∧ Aside0 (Kd.R Kd.string 9 w' w.heap.size (fun _ => True) u309000 x309000_1) ∧ Aside0 (Kd.R k65 65 w' w.heap.size (fun _ => True) (.slice Ao16 t305.length co16) t305) ∧ Aside0 (w'.heap[gb300]? = some (.cells #[(.slice A0_0 l0_0.length c0_0), (.slice A0_1 l0_1.length c0_1)] 30 (0, 0))) ∧ Aside0 (w'.heap[gb301]? = some (.cells #[(.slice none 0 0), (.slice none 0 0)] 30 (0, 0))) ∧ Aside0 (w'.heap[gb308]? = some (.cells #[u309000, (.slice Ao16 t305.length co16)] 30 (0, 0))) ∧ Aside0 (Below w.heap.size w w'))
  case atStart => exact ⟨(0), (t302), (.slice Ao12 t302.length co12), (by first | rfl | (simp; done) | (simp [*]; done) | (simp; exact (by intro l_; cases l_ <;> rfl : ∀ l_ : List UInt8, l_.isEmpty = !(l_ != [])) _)), H', ⟨Nat.le_refl _⟩, ⟨rP HO304.out⟩, ⟨rP HO307.out⟩, ⟨kP BK300⟩, ⟨kP BK301⟩, ⟨kP BK308⟩, ⟨bB⟩⟩
  case round =>
   clear H'
   try clear c1
   try clear p2
   try clear c5
   try clear c7
   try clear c8
   try clear c10
   try clear c13
   try clear c14
   try clear c18
   try clear hcz15_0
   try clear hcz15_1
   try clear hcz17_0
   try clear hcz17_1
   try clear hcz19_0
   try clear hcz19_1
   try clear hcz9_0
   try clear hcz9_1
   try clear hfz15_0
   try clear hfz15_1
   try clear hfz17_0
   try clear hfz17_1
   try clear hfz19_0
   try clear hfz19_1
   try clear hfz9_0
   try clear hfz9_1
   obtain ⟨x17_1, x309000_1, u309000, rfl, HA, HK1, HO_309000, HO_309001, BK300, BK301, BK308, HB⟩ := hrel
   cases gk with
   | zero => exact absurd HA.out (by simp [impl_settle_Flush_1.l0])
   | succ k1 =>
    have H := HA.out
    clear HA
    simp only [impl_settle_Flush_1.l0] at H
    by_cases c20 : x17_1 < (l0_1.length : Int)
    ·rw [if_pos c20] at H
     have c20b0 : decide (x17_1 < (l0_1.length : Int)) = true := decide_eq_true c20
     clear c20
     by_cases c21 : 0 ≤ x17_1
     ·rw [if_pos c21] at H
      have c21b0 : decide (0 ≤ x17_1) = true := decide_eq_true c21
      clear c21
      by_cases c22 : x17_1 < (l0_1.length : Int)
      ·rw [if_pos c22] at H
       have c22b0 : decide (x17_1 < (l0_1.length : Int)) = true := decide_eq_true c22
       clear c22
       replace H := Option.bind_eq_some_iff.mp H
       obtain ⟨t312, A230, H⟩ := H
       try dsimp only at H
       have A23 := Aside0.mk A230
       clear A230
       by_cases c24 : t312 = true
       ·subst c24
        rw [if_pos rfl] at H
        by_cases c25 : 0 ≤ ((rd_T65 l0_1 x17_1).f0)
        ·rw [if_pos c25] at H
         have c25b0 : decide (0 ≤ ((rd_T65 l0_1 x17_1).f0)) = true := decide_eq_true c25
         clear c25
         by_cases c26 : ((rd_T65 l0_1 x17_1).f0) < (x309000_1.length : Int)
         ·rw [if_pos c26] at H
          have c26b0 : decide (((rd_T65 l0_1 x17_1).f0) < (x309000_1.length : Int)) = true := decide_eq_true c26
          clear c26
          obtain ⟨y313, hy313⟩ : ∃ y_ : List ByteArray, y_ = (x309000_1.set (((rd_T65 l0_1 x17_1).f0) : Int).toNat ((rd_T65 l0_1 x17_1).f1)) := ⟨_, rfl⟩
          replace H : (impl_settle_Flush_1.l0 k1 l0_1 (l0_1.length : Int) (wrap64 (x17_1 + 1)) y313 t305) = some (r1, r2) := by first | (rw [hy313]; with_reducible exact H) | (have H2_ := (Option.bind_some _ _).symm.trans H; rw [hy313]; with_reducible exact H2_) | (have H2_ := (Option.bind_some _ _).symm.trans H; with_reducible exact H2_) | with_reducible exact H | (rw [hy313]; exact H) | exact H
          have Ny313 := Aside0.mk hy313
          clear hy313
          have H' := Aside0.mk H
          clear H
          have p310 : 0 ≤ (x17_1 : Int) := dT
          have q310 : x17_1 < (l0_1.length : Int) := dT
          obtain ⟨ad310, e310, hx310_0, hx310_1⟩ := at_T65 HR0_1.out x17_1 p310 q310
          cases e310
          replace hx310_0 := (HB.out.cell (World.block_lt_of_cell? w _ hx310_0)).trans hx310_0
          replace hx310_1 := (HB.out.cell (World.block_lt_of_cell? w _ hx310_1)).trans hx310_1
          replace p310 := eq_true p310
          replace q310 := eq_true q310
          go_wp2_with (first | ((with_reducible refine gate_dst (N := 7) rfl ?_); refine bE 7 #[.int .i64 0, .string (⟨#[]⟩ : ByteArray)] 65 ?_; intro gb311 hg w28 hbox hb; have n_ := And.intro (rB HO_309000 hb) (And.intro (Aside0.mk (Kd.R_below (Kd.R_elderB (rP HO_309001.out) gb311 (Nat.le_of_eq hg.symm)) hb)) (And.intro (kB BK300 hb) (And.intro (kB BK301 hb) (And.intro (kB BK308 hb) (And.intro (sB HB hb) (And.intro (Aside0.mk hbox) (And.intro (gE HB hg) (And.intro (gE HB hg) (And.intro (nL BK300 hg) (And.intro (nG BK300 hg) (And.intro (nL BK301 hg) (And.intro (nG BK301 hg) (And.intro (nL BK308 hg) (nG BK308 hg)))))))))))))); clear HO_309000 HO_309001 BK300 BK301 BK308 HB; obtain ⟨HO_309000, HO_309001, BK300, BK301, BK308, HB, BK311, GW311, GE311, NB300_311, NB311_300, NB301_311, NB311_301, NB308_311, NB311_308⟩ := n_; (try clear hb hbox hg); have hnb29 := NB311_300.out; have hnc29 := NB300_311.out; have hnb30 := NB311_301.out; have hnc30 := NB301_311.out; have hnb31 := NB311_308.out; have hnc31 := NB308_311.out; have hcz32_0 := cZ0 BK311; have hcz32_1 := cZ1 BK311; have hfz32_0 := blk_frozen BK311.out 0; have hfz32_1 := blk_frozen BK311.out 1) | ((with_reducible refine gate_store (t := 65) (p := 7) rfl ?_); refine store_event (t := 65) (p := 7) (v := ?vo_w33) (w1 := ((w28.setCell ⟨gb311, 0, none⟩ (.int .i64 ((rd_T65 l0_1 x17_1).f0))).setCell ⟨gb311, 1, none⟩ (.string ((rd_T65 l0_1 x17_1).f1)))) ?hg ?ho ?hn ?hr ?_; (case ho => rfl); (case hg => rfl); (case hn => rfl); (case hr => first | (go_simp; done) | (go_simp; rfl)); intro w33 hw; have n0_ : Aside0 (Kd.R Kd.string 9 w33 w.heap.size (fun _ => True) u309000 x309000_1) := ⟨(by rw [hw]; exact (rP (Kd.R_mono (Kd.R_far (p := ⟨gb311, 1, none⟩) (Kd.R_far (p := ⟨gb311, 0, none⟩) (Kd.R_types HO_309000.out BK311.out (by decide)) (fun _ hk => hk.2) (.int .i64 ((rd_T65 l0_1 x17_1).f0))) (fun _ hk => hk.2) (.string ((rd_T65 l0_1 x17_1).f1))) (fun _ hk => trivial))))⟩; have n1_ : Aside0 (Kd.R k65 65 w33 w.heap.size (fun k_ => k_ ≠ gb311) (.slice Ao16 t305.length co16) t305) := ⟨(by rw [hw]; exact (rP (Kd.R_mono (Kd.R_far (p := ⟨gb311, 1, none⟩) (Kd.R_far (p := ⟨gb311, 0, none⟩) (Kd.R_mono HO_309001.out (fun k_ hk => (⟨hk, hk.2⟩ : _ ∧ k_ ≠ gb311))) (fun _ hk => hk.2) (.int .i64 ((rd_T65 l0_1 x17_1).f0))) (fun _ hk => hk.2) (.string ((rd_T65 l0_1 x17_1).f1))) (fun _ hk => hk.1.2))))⟩; have n2_ : Aside0 (w33.heap[gb300]? = some (.cells #[.slice A0_0 l0_0.length c0_0, .slice (some ad310) l0_1.length c0_1] 30 (0, 0))) := ⟨(by rw [hw]; exact (kP BK300))⟩; have n3_ : Aside0 (w33.heap[gb301]? = some (.cells #[.slice none 0 0, .slice none 0 0] 30 (0, 0))) := ⟨(by rw [hw]; exact (kP BK301))⟩; have n4_ : Aside0 (w33.heap[gb308]? = some (.cells #[u309000, .slice Ao16 t305.length co16] 30 (0, 0))) := ⟨(by rw [hw]; exact (kP BK308))⟩; have n5_ : Aside0 (w33.heap[gb311]? = some (.cells #[.int .i64 ((rd_T65 l0_1 x17_1).f0), .string ((rd_T65 l0_1 x17_1).f1)] 65 (0, 0))) := ⟨(by rw [hw]; exact (by (with_reducible repeat (first | refine blk_drewN ?_ _ | refine blk_drew ?_ | refine blk_alloc ?_ _)); refine blk_put (cs := #[.int .i64 ((rd_T65 l0_1 x17_1).f0), .string (⟨#[]⟩ : ByteArray)]) ?_ 1 _ rfl; (with_reducible repeat (first | refine blk_drewN ?_ _ | refine blk_drew ?_ | refine blk_alloc ?_ _)); refine blk_put (cs := #[.int .i64 0, .string (⟨#[]⟩ : ByteArray)]) ?_ 0 _ rfl; (with_reducible repeat (first | refine blk_drewN ?_ _ | refine blk_drew ?_ | refine blk_alloc ?_ _)); exact BK311.out))⟩; have n6_ : Aside0 (Below w.heap.size w w33) := ⟨(by rw [hw]; exact bB)⟩; clear hw; clear HO_309000; clear HO_309001; clear BK300; clear BK301; clear BK308; clear BK311; clear HB; have HO_309000 := n0_; have HO_309001 := n1_; have BK300 := n2_; have BK301 := n3_; have BK308 := n4_; have BK311 := n5_; have HB := n6_; clear n0_ n1_ n2_ n3_ n4_ n5_ n6_) | (go_at_call 79; (with_reducible refine (impl_Flush_1.calls x17_1 true _ A23.out).mono ?_); rintro e w' ⟨rfl, ⟨nd, rfl⟩⟩; (try (rw [drewN_self w33]; generalize hq_ : World.drewN w33 _ = w33; have n0_ : Aside0 (Kd.R Kd.string 9 w33 w.heap.size (fun _ => True) u309000 x309000_1) := ⟨by rw [← hq_]; exact (rP HO_309000.out)⟩; have n1_ : Aside0 (Kd.R k65 65 w33 w.heap.size (fun k_ => k_ ≠ gb311) (.slice Ao16 t305.length co16) t305) := ⟨by rw [← hq_]; exact (rP HO_309001.out)⟩; have n2_ : Aside0 (w33.heap[gb300]? = some (.cells #[.slice A0_0 l0_0.length c0_0, .slice (some ad310) l0_1.length c0_1] 30 (0, 0))) := ⟨by rw [← hq_]; exact (kP BK300)⟩; have n3_ : Aside0 (w33.heap[gb301]? = some (.cells #[.slice none 0 0, .slice none 0 0] 30 (0, 0))) := ⟨by rw [← hq_]; exact (kP BK301)⟩; have n4_ : Aside0 (w33.heap[gb308]? = some (.cells #[u309000, .slice Ao16 t305.length co16] 30 (0, 0))) := ⟨by rw [← hq_]; exact (kP BK308)⟩; have n5_ : Aside0 (w33.heap[gb311]? = some (.cells #[.int .i64 ((rd_T65 l0_1 x17_1).f0), .string ((rd_T65 l0_1 x17_1).f1)] 65 (0, 0))) := ⟨by rw [← hq_]; exact (kP BK311)⟩; have n6_ : Aside0 (Below w.heap.size w w33) := ⟨by rw [← hq_]; exact bB⟩; clear HO_309000 HO_309001 BK300 BK301 BK308 BK311 HB hq_; have HO_309000 := n0_; have HO_309001 := n1_; have BK300 := n2_; have BK301 := n3_; have BK308 := n4_; have BK311 := n5_; have HB := n6_; clear n0_ n1_ n2_ n3_ n4_ n5_ n6_)); have hnb34 := NB308_300.out; have hnc34 := NB300_308.out; have hnb35 := NB308_301.out; have hnc35 := NB301_308.out; have hcz36_0 := cZ0 BK308; have hcz36_1 := cZ1 BK308; have hfz36_0 := blk_frozen BK308.out 0; have hfz36_1 := blk_frozen BK308.out 1; have hcz37_0 : w33.cell? ⟨gb311, 0, none⟩ = some (.int .i64 ((rd_T65 l0_1 x17_1).f0)) := (blk_cell BK311.out 0).trans rfl; have hcz37_1 : w33.cell? ⟨gb311, 1, none⟩ = some (.string ((rd_T65 l0_1 x17_1).f1)) := (blk_cell BK311.out 1).trans rfl; have hfz37_0 := blk_frozen BK311.out 0; have hfz37_1 := blk_frozen BK311.out 1; have p27 : 0 ≤ (((rd_T65 l0_1 x17_1).f0) : Int) := dT; have q27 : (((rd_T65 l0_1 x17_1).f0) : Int) < ((x309000_1.length : Int) : Int) := dT; obtain ⟨go27, co27, eo27, gb27, gl27, cl27, HG27⟩ := Kd.R_form HO_309000.out (by omega); (first | cases eo27 | (injection eo27 with ea_ en_ ec_; (first | subst ea_ | (injection ea_ with ea_; subst ea_)); subst ec_; clear en_)); have GB27 := Aside0.mk gb27; have GG27 := Aside0.mk HG27; clear gb27 gl27 HG27; obtain ⟨hx27_0, hf27_0⟩ := Kd.R_celln (⟨#[]⟩ : ByteArray) HO_309000.out (((rd_T65 l0_1 x17_1).f0) : Int) p27 q27; replace p27 := eq_true p27; replace q27 := eq_true q27; obtain ⟨hy38_, hz38_⟩ := Kd.R_celln (⟨#[]⟩ : ByteArray) HO_309000.out (((rd_T65 l0_1 x17_1).f0) : Int) (dT) (dT); have HP38 := Kd.R_putg HO_309000.out (((rd_T65 l0_1 x17_1).f0) : Int) ((rd_T65 l0_1 x17_1).f1)) | ((with_reducible refine gate_store (t := 9) (p := 31) rfl ?_); refine store_event (t := 9) (p := 31) (v := ?vo_w39) (w1 := (w33.setCell ⟨go27, (((rd_T65 l0_1 x17_1).f0) : Int).toNat, none⟩ (.string ((rd_T65 l0_1 x17_1).f1)))) ?hg ?ho ?hn ?hr ?_; (case ho => rfl); (case hg => rfl); (case hn => rfl); (case hr => first | (go_simp; done) | (go_simp; rfl)); intro w39 hw; have hg : w33.grownBy w39 (some go27) := (by rw [hw]; exact HP38.2); have hp_ : Kd.R Kd.string 9 w39 w.heap.size (fun _ => True) (.slice (some ⟨go27, 0, none⟩) x309000_1.length co27) y313 := (by rw [hw, Ny313.out]; exact HP38.1); clear HP38; have n_ := And.intro (Aside0.mk (hp_)) (And.intro (Aside0.mk (Kd.R_over' (v := (.slice (some ⟨go27, 0, none⟩) x309000_1.length co27)) (rP HO_309001.out) (Kd.R_typed HO_309000.out) (by decide) hg)) (And.intro (Aside0.mk (blk_grown (g := gb300) (o := .cells #[.slice A0_0 l0_0.length c0_0, .slice (some ad310) l0_1.length c0_1] 30 (0, 0)) (kP BK300) hg (Kd.R_ne HO_309000.out BK300.out (by decide)))) (And.intro (Aside0.mk (blk_grown (g := gb301) (o := .cells #[.slice none 0 0, .slice none 0 0] 30 (0, 0)) (kP BK301) hg (Kd.R_ne HO_309000.out BK301.out (by decide)))) (And.intro (Aside0.mk (blk_grown (g := gb308) (o := .cells #[.slice (some ⟨go27, 0, none⟩) x309000_1.length co27, .slice Ao16 t305.length co16] 30 (0, 0)) (kP BK308) hg (Kd.R_ne HO_309000.out BK308.out (by decide)))) (And.intro (Aside0.mk (blk_grown (g := gb311) (o := .cells #[.int .i64 ((rd_T65 l0_1 x17_1).f0), .string ((rd_T65 l0_1 x17_1).f1)] 65 (0, 0)) (kP BK311) hg (Kd.R_ne HO_309000.out BK311.out (by decide)))) (Aside0.mk ((by rw [hw]; exact below_set (HB.out) GB27.out : Below w.heap.size w w39)))))))); clear HO_309000 HO_309001 BK300 BK301 BK308 BK311 HB; obtain ⟨HO_309000, HO_309001, BK300, BK301, BK308, BK311, HB⟩ := n_; (try clear hw)))
          go_roundg k1
          case measure => have := HK1.out; omega
          case rel => exact ⟨(wrap64 (x17_1 + 1)), (y313), (.slice (some ⟨go27, 0, none⟩) x309000_1.length co27), (by first | rfl | (simp; done) | (simp [*]; done) | (simp; exact (by intro l_; cases l_ <;> rfl : ∀ l_ : List UInt8, l_.isEmpty = !(l_ != [])) _)), H', ⟨by have := HK1.out; omega⟩, ⟨rP HO_309000.out⟩, ⟨rP (Kd.R_mono HO_309001.out (fun _ hk => trivial))⟩, ⟨kP BK300⟩, ⟨kP BK301⟩, ⟨kP BK308⟩, ⟨bB⟩⟩
         ·rw [if_neg c26] at H
          exact absurd H (by simp)
        ·rw [if_neg c25] at H
         exact absurd H (by simp)
       ·replace c24 := Bool.eq_false_iff.mpr c24
        subst c24
        rw [if_neg (show ¬ (false = true) by decide)] at H
        have H' := Aside0.mk H
        clear H
        have p310 : 0 ≤ (x17_1 : Int) := dT
        have q310 : x17_1 < (l0_1.length : Int) := dT
        obtain ⟨ad310, e310, hx310_0, hx310_1⟩ := at_T65 HR0_1.out x17_1 p310 q310
        cases e310
        replace hx310_0 := (HB.out.cell (World.block_lt_of_cell? w _ hx310_0)).trans hx310_0
        replace hx310_1 := (HB.out.cell (World.block_lt_of_cell? w _ hx310_1)).trans hx310_1
        replace p310 := eq_true p310
        replace q310 := eq_true q310
        go_wp2_with (first | ((with_reducible refine gate_dst (N := 7) rfl ?_); refine bE 7 #[.int .i64 0, .string (⟨#[]⟩ : ByteArray)] 65 ?_; intro gb311 hg w40 hbox hb; have n_ := And.intro (rB HO_309000 hb) (And.intro (Aside0.mk (Kd.R_below (Kd.R_elderB (rP HO_309001.out) gb311 (Nat.le_of_eq hg.symm)) hb)) (And.intro (kB BK300 hb) (And.intro (kB BK301 hb) (And.intro (kB BK308 hb) (And.intro (sB HB hb) (And.intro (Aside0.mk hbox) (And.intro (gE HB hg) (And.intro (gE HB hg) (And.intro (nL BK300 hg) (And.intro (nG BK300 hg) (And.intro (nL BK301 hg) (And.intro (nG BK301 hg) (And.intro (nL BK308 hg) (nG BK308 hg)))))))))))))); clear HO_309000 HO_309001 BK300 BK301 BK308 HB; obtain ⟨HO_309000, HO_309001, BK300, BK301, BK308, HB, BK311, GW311, GE311, NB300_311, NB311_300, NB301_311, NB311_301, NB308_311, NB311_308⟩ := n_; (try clear hb hbox hg); have hnb41 := NB311_300.out; have hnc41 := NB300_311.out; have hnb42 := NB311_301.out; have hnc42 := NB301_311.out; have hnb43 := NB311_308.out; have hnc43 := NB308_311.out; have hcz44_0 := cZ0 BK311; have hcz44_1 := cZ1 BK311; have hfz44_0 := blk_frozen BK311.out 0; have hfz44_1 := blk_frozen BK311.out 1) | (go_at_call 79; (with_reducible refine (impl_Flush_1.calls x17_1 false _ A23.out).mono ?_); rintro e w' ⟨rfl, ⟨nd, rfl⟩⟩))
        go_roundg k1
        case measure => have := HK1.out; omega
        case rel => exact ⟨(wrap64 (x17_1 + 1)), (x309000_1), (u309000), (by first | rfl | (simp; done) | (simp [*]; done) | (simp; exact (by intro l_; cases l_ <;> rfl : ∀ l_ : List UInt8, l_.isEmpty = !(l_ != [])) _)), H', ⟨by have := HK1.out; omega⟩, ⟨rP (Kd.R_mono (Kd.R_far (p := ⟨gb311, 1, none⟩) (Kd.R_far (p := ⟨gb311, 0, none⟩) (Kd.R_types HO_309000.out BK311.out (by decide)) (fun _ hk => hk.2) (.int .i64 ((rd_T65 l0_1 x17_1).f0))) (fun _ hk => hk.2) (.string ((rd_T65 l0_1 x17_1).f1))) (fun _ hk => trivial))⟩, ⟨rP (Kd.R_mono (Kd.R_far (p := ⟨gb311, 1, none⟩) (Kd.R_far (p := ⟨gb311, 0, none⟩) (Kd.R_mono HO_309001.out (fun k_ hk => (⟨hk, hk.2⟩ : _ ∧ k_ ≠ gb311))) (fun _ hk => hk.2) (.int .i64 ((rd_T65 l0_1 x17_1).f0))) (fun _ hk => hk.2) (.string ((rd_T65 l0_1 x17_1).f1))) (fun _ hk => trivial))⟩, ⟨kP BK300⟩, ⟨kP BK301⟩, ⟨kP BK308⟩, ⟨bB⟩⟩
      ·rw [if_neg c22] at H
       exact absurd H (by simp)
     ·rw [if_neg c21] at H
      exact absurd H (by simp)
    ·rw [if_neg c20] at H
     have c20b0 : decide (x17_1 < (l0_1.length : Int)) = false := decide_eq_false c20
     clear c20
     simp only [Option.some.injEq, Prod.mk.injEq] at H
     obtain ⟨rfl, rfl⟩ := H
     have hnb45 := NB308_300.out
     have hnc45 := NB300_308.out
     have hnb46 := NB308_301.out
     have hnc46 := NB301_308.out
     have hcz47_0 := cZ0 BK308
     have hcz47_1 := cZ1 BK308
     have hfz47_0 := blk_frozen BK308.out 0
     have hfz47_1 := blk_frozen BK308.out 1
     obtain ⟨Ao48, co48, eo48⟩ := Kd.R_slice HO_309000.out
     subst eo48
     have hnb49 := NB301_300.out
     have hnc49 := NB300_301.out
     have hcz50_0 := cZ0 BK301
     have hcz50_1 := cZ1 BK301
     have hfz50_0 := blk_frozen BK301.out 0
     have hfz50_1 := blk_frozen BK301.out 1
     go_wp2
     refine bodyPost_ret (results_cell_row rfl _ _ gb301 30 #[.slice Ao48 x309000_1.length co48, .slice none 0 0] (0, 0) _ rfl (by (with_reducible repeat (first | refine blk_drewN ?_ _ | refine blk_drew ?_ | refine blk_alloc ?_ _)); refine blk_put (cs := #[.slice Ao48 x309000_1.length co48, .slice none 0 0]) ?_ 1 _ rfl; (with_reducible repeat (first | refine blk_drewN ?_ _ | refine blk_drew ?_ | refine blk_alloc ?_ _)); refine blk_put (cs := #[.slice none 0 0, .slice none 0 0]) ?_ 0 _ rfl; (with_reducible repeat (first | refine blk_drewN ?_ _ | refine blk_drew ?_ | refine blk_alloc ?_ _)); refine blk_far ?_ NB301_308.out _; (with_reducible repeat (first | refine blk_drewN ?_ _ | refine blk_drew ?_ | refine blk_alloc ?_ _)); exact BK301.out) Try.underlying30 rfl (by kernel_rfl)) rfl ?_
     exact ⟨_, _, eW, by (with_reducible repeat (first | apply Kd.R_alloc | apply Kd.R_drewN | apply Kd.R_drew)); exact Kd.R_mono (Kd.R_far (p := ⟨gb301, 1, none⟩) (Kd.R_far (p := ⟨gb301, 0, none⟩) (Kd.R_far (p := ⟨gb308, 1, none⟩) (Kd.R_types (Kd.R_types HO_309000.out BK308.out (by decide)) BK301.out (by decide)) (fun _ hk => hk.1.2) (.slice none 0 0)) (fun _ hk => hk.2) (.slice Ao48 x309000_1.length co48)) (fun _ hk => hk.2) (.slice none 0 0)) (fun _ hk => trivial), by first | exact Kd.R_nil _ _ _ _ _ | exact Kd.N_nil _ _ _ _ _ | exact Kd.V_nil _ _ _ _ _ | exact Kd.Q_nil _ _ _ _ _ | exact Kd.S_nil _ _ _ _ _, bB⟩
 replace c5 := Bool.eq_false_iff.mpr c5
 subst c5
 rw [if_neg (show ¬ (false = true) by decide)] at H
 simp only [Option.some.injEq, Prod.mk.injEq] at H
 obtain ⟨rfl, rfl⟩ := H
 go_enter Try.func78, Try.ntmps78
 go_wp2_with (first | ((with_reducible refine gate_dst (N := 2) rfl ?_); refine bE 2 #[.slice A0_0 l0_0.length c0_0, .slice A0_1 l0_1.length c0_1] 30 ?_; intro gb300 hg w51 hbox hb; have n_ := And.intro (sB HB hb) (And.intro (Aside0.mk hbox) (And.intro (gE HB hg) (gE HB hg))); clear HB; obtain ⟨HB, BK300, GW300, GE300⟩ := n_; (try clear hb hbox hg)) | ((with_reducible refine gate_dst (N := 4) rfl ?_); refine bE 4 #[.slice none 0 0, .slice none 0 0] 30 ?_; intro gb301 hg w52 hbox hb; have n_ := And.intro (kB BK300 hb) (And.intro (sB HB hb) (And.intro (Aside0.mk hbox) (And.intro (gE HB hg) (And.intro (gE HB hg) (And.intro (nL BK300 hg) (nG BK300 hg)))))); clear BK300 HB; obtain ⟨BK300, HB, BK301, GW301, GE301, NB300_301, NB301_300⟩ := n_; (try clear hb hbox hg); have hnb53 := NB300_301.out; have hnc53 := NB301_300.out; have hcz54_0 := cZ0 BK300; have hcz54_1 := cZ1 BK300; have hfz54_0 := blk_frozen BK300.out 0; have hfz54_1 := blk_frozen BK300.out 1) | ((with_reducible refine gate_callee (f := 76) rfl ?_); refine gL (some 9) Try.func76 #[.agg #[.slice A0_0 l0_0.length c0_0, .slice A0_1 l0_1.length c0_1]] ?_; (with_reducible refine (impl_cloneDisk.calls _ _ l0_0 _ _ l0_1 t302 t305 _ ?side1 ?side2 ?side3 ?side4 A3.out).mono ?_); (case side1 => exact cS HR0_0 HB); (case side2 => exact HC0_0.out); (case side3 => exact cS HR0_1 HB); (case side4 => exact HC0_1.out); rintro e w55 ⟨v303, v306, rfl, ho0, ho1, hb⟩; refine ⟨_, rfl, ?_⟩; have n_ := And.intro (lR HB ho0) (And.intro (lR HB ho1) (And.intro (kB BK300 hb) (And.intro (kB BK301 hb) (sB HB hb)))); clear BK300 BK301 HB; obtain ⟨HO304, HO307, BK300, BK301, HB⟩ := n_; (try clear hb ho0 ho1)) | ((with_reducible refine gate_dst (N := 5) rfl ?_); refine bE 5 #[.slice none 0 0, .slice none 0 0] 30 ?_; intro gb308 hg w56 hbox hb; have n_ := And.intro (rB HO304 hb) (And.intro (rB HO307 hb) (And.intro (kB BK300 hb) (And.intro (kB BK301 hb) (And.intro (sB HB hb) (And.intro (Aside0.mk hbox) (And.intro (gE HB hg) (And.intro (gE HB hg) (And.intro (nL BK300 hg) (And.intro (nG BK300 hg) (And.intro (nL BK301 hg) (nG BK301 hg))))))))))); clear HO304 HO307 BK300 BK301 HB; obtain ⟨HO304, HO307, BK300, BK301, HB, BK308, GW308, GE308, NB300_308, NB308_300, NB301_308, NB308_301⟩ := n_; (try clear hb hbox hg); obtain ⟨Ao57, co57, eo57⟩ := Kd.R_slice HO304.out; subst eo57; have hnb58 := NB308_300.out; have hnc58 := NB300_308.out; have hnb59 := NB308_301.out; have hnc59 := NB301_308.out; have hcz60_0 := cZ0 BK308; have hcz60_1 := cZ1 BK308; have hfz60_0 := blk_frozen BK308.out 0; have hfz60_1 := blk_frozen BK308.out 1; obtain ⟨Ao61, co61, eo61⟩ := Kd.R_slice HO307.out; subst eo61; have hcz62_0 := cZ0 BK300; have hcz62_1 := cZ1 BK300; have hfz62_0 := blk_frozen BK300.out 0; have hfz62_1 := blk_frozen BK300.out 1) | ((with_reducible refine gate_callee (f := 18) rfl ?_); refine gL (some 11) Try.func18 #[.agg #[.slice A0_0 l0_0.length c0_0, .slice A0_1 l0_1.length c0_1]] ?_; (with_reducible refine (impl_DiskOk.calls _ _ l0_0 _ _ l0_1 false _ ?side1 ?side2 ?side3 ?side4 A4.out).mono ?_); (case side1 => exact cS HR0_0 HB); (case side2 => exact HC0_0.out); (case side3 => exact cS HR0_1 HB); (case side4 => exact HC0_1.out); rintro e w63 ⟨rfl, hb⟩; refine ⟨_, rfl, ?_⟩; have n_ := And.intro (Aside0.mk (Kd.R_below (rP (Kd.R_mono (Kd.R_far (p := ⟨gb308, 1, none⟩) (Kd.R_far (p := ⟨gb308, 0, none⟩) (Kd.R_types HO304.out BK308.out (by decide)) (fun _ hk => hk.2) (.slice Ao57 t302.length co57)) (fun _ hk => hk.2) (.slice Ao61 t305.length co61)) (fun _ h_ => h_.1))) hb)) (And.intro (Aside0.mk (Kd.R_below (rP (Kd.R_mono (Kd.R_far (p := ⟨gb308, 1, none⟩) (Kd.R_far (p := ⟨gb308, 0, none⟩) (Kd.R_types HO307.out BK308.out (by decide)) (fun _ hk => hk.2) (.slice Ao57 t302.length co57)) (fun _ hk => hk.2) (.slice Ao61 t305.length co61)) (fun _ h_ => h_.1))) hb)) (And.intro (kB BK300 hb) (And.intro (kB BK301 hb) (And.intro (Aside0.mk (blk_below (g := gb308) (o := .cells #[.slice Ao57 t302.length co57, .slice Ao61 t305.length co61] 30 (0, 0)) (by (with_reducible repeat (first | refine blk_drewN ?_ _ | refine blk_drew ?_ | refine blk_alloc ?_ _)); refine blk_put (cs := #[.slice Ao57 t302.length co57, .slice none 0 0]) ?_ 1 _ rfl; (with_reducible repeat (first | refine blk_drewN ?_ _ | refine blk_drew ?_ | refine blk_alloc ?_ _)); refine blk_put (cs := #[.slice none 0 0, .slice none 0 0]) ?_ 0 _ rfl; (with_reducible repeat (first | refine blk_drewN ?_ _ | refine blk_drew ?_ | refine blk_alloc ?_ _)); exact BK308.out) hb)) (sB HB hb))))); clear HO304 HO307 BK300 BK301 BK308 HB; obtain ⟨HO304, HO307, BK300, BK301, BK308, HB⟩ := n_; (try clear hb); have hcz64_0 := cZ0 BK308; have hcz64_1 := cZ1 BK308; have hfz64_0 := blk_frozen BK308.out 0; have hfz64_1 := blk_frozen BK308.out 1; have hcz65_0 := cZ0 BK301; have hcz65_1 := cZ1 BK301; have hfz65_0 := blk_frozen BK301.out 0; have hfz65_1 := blk_frozen BK301.out 1))
 refine bodyPost_ret (results_cell_row rfl _ _ gb301 30 #[.slice Ao57 t302.length co57, .slice Ao61 t305.length co61] (0, 0) _ rfl (by (with_reducible repeat (first | refine blk_drewN ?_ _ | refine blk_drew ?_ | refine blk_alloc ?_ _)); refine blk_put (cs := #[.slice Ao57 t302.length co57, .slice none 0 0]) ?_ 1 _ rfl; (with_reducible repeat (first | refine blk_drewN ?_ _ | refine blk_drew ?_ | refine blk_alloc ?_ _)); refine blk_put (cs := #[.slice none 0 0, .slice none 0 0]) ?_ 0 _ rfl; (with_reducible repeat (first | refine blk_drewN ?_ _ | refine blk_drew ?_ | refine blk_alloc ?_ _)); exact BK301.out) Try.underlying30 rfl (by kernel_rfl)) rfl ?_
 exact ⟨_, _, eW, by (with_reducible repeat (first | apply Kd.R_alloc | apply Kd.R_drewN | apply Kd.R_drew)); exact Kd.R_mono (Kd.R_far (p := ⟨gb301, 1, none⟩) (Kd.R_far (p := ⟨gb301, 0, none⟩) (Kd.R_types HO304.out BK301.out (by decide)) (fun _ hk => hk.2) (.slice Ao57 t302.length co57)) (fun _ hk => hk.2) (.slice Ao61 t305.length co61)) (fun _ hk => trivial), by (with_reducible repeat (first | apply Kd.R_alloc | apply Kd.R_drewN | apply Kd.R_drew)); exact Kd.R_mono (Kd.R_far (p := ⟨gb301, 1, none⟩) (Kd.R_far (p := ⟨gb301, 0, none⟩) (Kd.R_types HO307.out BK301.out (by decide)) (fun _ hk => hk.2) (.slice Ao57 t302.length co57)) (fun _ hk => hk.2) (.slice Ao61 t305.length co61)) (fun _ hk => trivial), bB⟩

/-! ### impl_Flush: function 32 -/
def impl_Flush.f (k : Nat) (l0_0 : List ByteArray) (l0_1 : List (S65)) : Option (List ByteArray × (List (S65))) := (impl_settle_Flush_1.f k l0_0 l0_1).bind fun bt316 => (some (bt316.1, bt316.2))
theorem impl_Flush.mono : ∀ a0 a1 k, LeO (impl_Flush.f k a0 a1) (impl_Flush.f (k + 1) a0 a1) := by
 intro a0 a1 k
 unfold impl_Flush.f
 have m0_ := @impl_settle_Flush_1.mono
 exact mM
set_option maxHeartbeats 8000000 in
set_option maxRecDepth 100000 in
theorem impl_Flush.calls (k : Nat) (A0_0 : Option Addr) (c0_0 : Nat) (l0_0 : List ByteArray) (A0_1 : Option Addr) (c0_1 : Nat) (l0_1 : List (S65)) (r1 : List ByteArray) (r2 : List (S65)) (w : World) (hr0_0 : Kd.C Kd.string w A0_0 l0_0.length l0_0) (hc0_0 : l0_0.length ≤ c0_0) (hr0_1 : Kd.C k65 w A0_1 l0_1.length l0_1) (hc0_1 : l0_1.length ≤ c0_1) (h : impl_Flush.f k l0_0 l0_1 = some (r1, r2)) :
  Calls Try.prog 32 #[.agg #[.slice A0_0 l0_0.length c0_0, .slice A0_1 l0_1.length c0_1]] w fun e w' => ∃ v0_ v1_ : Value, e = .returned (.agg #[v0_, v1_]) ∧ Kd.R Kd.string 9 w' w.heap.size (fun _ => True) v0_ r1 ∧ Kd.R k65 65 w' w.heap.size (fun _ => True) v1_ r2 ∧ Below w.heap.size w w' := by
 have hu30 := Try.underlying30
 have HR0_0 := Aside0.mk hr0_0
 have HC0_0 := Aside0.mk hc0_0
 clear hr0_0 hc0_0
 have HR0_1 := Aside0.mk hr0_1
 have HC0_1 := Aside0.mk hc0_1
 clear hr0_1 hc0_1
 have HB := Aside0.mk (Below.refl w.heap.size w)
 unfold impl_Flush.f at h
 have H := h
 clear h
 replace H := Option.bind_eq_some_iff.mp H
 obtain ⟨⟨t316, t319⟩, A20, H⟩ := H
 try dsimp only at H
 have A2 := Aside0.mk A20
 clear A20
 simp only [Option.some.injEq, Prod.mk.injEq] at H
 obtain ⟨rfl, rfl⟩ := H
 go_enter Try.func32, Try.ntmps32
 go_wp2_with (first | ((with_reducible refine gate_dst (N := 1) rfl ?_); refine bE 1 #[.slice A0_0 l0_0.length c0_0, .slice A0_1 l0_1.length c0_1] 30 ?_; intro gb314 hg w3 hbox hb; have n_ := And.intro (sB HB hb) (And.intro (Aside0.mk hbox) (And.intro (gE HB hg) (gE HB hg))); clear HB; obtain ⟨HB, BK314, GW314, GE314⟩ := n_; (try clear hb hbox hg)) | ((with_reducible refine gate_dst (N := 2) rfl ?_); refine bE 2 #[.slice none 0 0, .slice none 0 0] 30 ?_; intro gb315 hg w4 hbox hb; have n_ := And.intro (kB BK314 hb) (And.intro (sB HB hb) (And.intro (Aside0.mk hbox) (And.intro (gE HB hg) (And.intro (gE HB hg) (And.intro (nL BK314 hg) (nG BK314 hg)))))); clear BK314 HB; obtain ⟨BK314, HB, BK315, GW315, GE315, NB314_315, NB315_314⟩ := n_; (try clear hb hbox hg); have hnb5 := NB314_315.out; have hnc5 := NB315_314.out; have hcz6_0 := cZ0 BK314; have hcz6_1 := cZ1 BK314; have hfz6_0 := blk_frozen BK314.out 0; have hfz6_1 := blk_frozen BK314.out 1) | ((with_reducible refine gate_callee (f := 78) rfl ?_); refine gL (some 4) Try.func78 #[.agg #[.slice A0_0 l0_0.length c0_0, .slice A0_1 l0_1.length c0_1], .func (.func 79) #[] #[]] ?_; (with_reducible refine (impl_settle_Flush_1.calls k _ _ l0_0 _ _ l0_1  t316 t319 _ ?side1 ?side2 ?side3 ?side4 A2.out).mono ?_); (case side1 => exact cS HR0_0 HB); (case side2 => exact HC0_0.out); (case side3 => exact cS HR0_1 HB); (case side4 => exact HC0_1.out); rintro e w7 ⟨v317, v320, rfl, ho0, ho1, hb⟩; refine ⟨_, rfl, ?_⟩; have n_ := And.intro (lR HB ho0) (And.intro (lR HB ho1) (And.intro (kB BK314 hb) (And.intro (kB BK315 hb) (sB HB hb)))); clear BK314 BK315 HB; obtain ⟨HO318, HO321, BK314, BK315, HB⟩ := n_; (try clear hb ho0 ho1); obtain ⟨Ao8, co8, eo8⟩ := Kd.R_slice HO318.out; subst eo8; have hcz9_0 := cZ0 BK315; have hcz9_1 := cZ1 BK315; have hfz9_0 := blk_frozen BK315.out 0; have hfz9_1 := blk_frozen BK315.out 1; obtain ⟨Ao10, co10, eo10⟩ := Kd.R_slice HO321.out; subst eo10))
 refine bodyPost_ret (results_cell_row rfl _ _ gb315 30 #[.slice Ao8 t316.length co8, .slice Ao10 t319.length co10] (0, 0) _ rfl (by (with_reducible repeat (first | refine blk_drewN ?_ _ | refine blk_drew ?_ | refine blk_alloc ?_ _)); refine blk_put (cs := #[.slice Ao8 t316.length co8, .slice none 0 0]) ?_ 1 _ rfl; (with_reducible repeat (first | refine blk_drewN ?_ _ | refine blk_drew ?_ | refine blk_alloc ?_ _)); refine blk_put (cs := #[.slice none 0 0, .slice none 0 0]) ?_ 0 _ rfl; (with_reducible repeat (first | refine blk_drewN ?_ _ | refine blk_drew ?_ | refine blk_alloc ?_ _)); exact BK315.out) Try.underlying30 rfl (by kernel_rfl)) rfl ?_
 exact ⟨_, _, eW, by (with_reducible repeat (first | apply Kd.R_alloc | apply Kd.R_drewN | apply Kd.R_drew)); exact Kd.R_mono (Kd.R_far (p := ⟨gb315, 1, none⟩) (Kd.R_far (p := ⟨gb315, 0, none⟩) (Kd.R_types HO318.out BK315.out (by decide)) (fun _ hk => hk.2) (.slice Ao8 t316.length co8)) (fun _ hk => hk.2) (.slice Ao10 t319.length co10)) (fun _ hk => trivial), by (with_reducible repeat (first | apply Kd.R_alloc | apply Kd.R_drewN | apply Kd.R_drew)); exact Kd.R_mono (Kd.R_far (p := ⟨gb315, 1, none⟩) (Kd.R_far (p := ⟨gb315, 0, none⟩) (Kd.R_types HO321.out BK315.out (by decide)) (fun _ hk => hk.2) (.slice Ao8 t316.length co8)) (fun _ hk => hk.2) (.slice Ao10 t319.length co10)) (fun _ hk => trivial), bB⟩

/-! ### impl_EventsDo: function 41 -/
def impl_EventsDo.l0 : Nat → List (S92) → Int → Int → List ByteArray → List (S65) → Option (List ByteArray × (List (S65)))
 | 0, _, _, _, _, _ => none
 | k + 1, x12, x13, x14, x331000, x331001 => if x14 < x13 then (if 0 ≤ x14 then (if x14 < (x12.length : Int) then (if ((rd_T92 x12 x14).f0) = 0 then ((impl_SectorWrite.f x331000 x331001 ((rd_T92 x12 x14).f1) ((rd_T92 x12 x14).f2)).bind fun bt333 => (if bt333.2.2 = true then (impl_EventsDo.l0 k x12 x13 (wrap64 (x14 + 1)) bt333.1 bt333.2.1) else (impl_EventsDo.l0 k x12 x13 (wrap64 (x14 + 1)) x331000 x331001))) else (if ((rd_T92 x12 x14).f0) = 1 then ((impl_Flush.f k x331000 x331001).bind fun bt341 => (impl_EventsDo.l0 k x12 x13 (wrap64 (x14 + 1)) bt341.1 bt341.2)) else (impl_EventsDo.l0 k x12 x13 (wrap64 (x14 + 1)) x331000 x331001))) else (none)) else (none)) else (some (x331000, x331001))
def impl_EventsDo.f (k : Nat) (l0_0 : List ByteArray) (l0_1 : List (S65)) (l1 : List (S92)) : Option (List ByteArray × (List (S65))) := (impl_cloneDisk.f l0_0 l0_1).bind fun bt324 => (impl_EventsDo.l0 k l1 (l1.length : Int) 0 bt324.1 bt324.2)
theorem impl_EventsDo.mono_l : ∀ k, (∀ y0 y1 y2 y3 y4, LeO (impl_EventsDo.l0 k y0 y1 y2 y3 y4) (impl_EventsDo.l0 (k + 1) y0 y1 y2 y3 y4))
 | 0 => fun _ _ _ _ _ r h => by simp [impl_EventsDo.l0] at h
 | k + 1 => by
  have ih0 := impl_EventsDo.mono_l k
  ·intro y0 y1 y2 y3 y4
   unfold impl_EventsDo.l0
   have m0_ := @impl_Flush.mono
   exact mM
theorem impl_EventsDo.mono : ∀ a0 a1 a2 k, LeO (impl_EventsDo.f k a0 a1 a2) (impl_EventsDo.f (k + 1) a0 a1 a2) := by
 intro a0 a1 a2 k
 have ih0 := impl_EventsDo.mono_l k
 unfold impl_EventsDo.f
 have m0_ := @impl_Flush.mono
 exact mM
set_option maxHeartbeats 8000000 in
set_option maxRecDepth 100000 in
theorem impl_EventsDo.calls (k : Nat) (A0_0 : Option Addr) (c0_0 : Nat) (l0_0 : List ByteArray) (A0_1 : Option Addr) (c0_1 : Nat) (l0_1 : List (S65)) (A1 : Option Addr) (c1 : Nat) (l1 : List (S92)) (r1 : List ByteArray) (r2 : List (S65)) (w : World) (hr0_0 : Kd.C Kd.string w A0_0 l0_0.length l0_0) (hc0_0 : l0_0.length ≤ c0_0) (hr0_1 : Kd.C k65 w A0_1 l0_1.length l0_1) (hc0_1 : l0_1.length ≤ c0_1) (hr1 : Kd.C k92 w A1 l1.length l1) (hc1 : l1.length ≤ c1) (h : impl_EventsDo.f k l0_0 l0_1 l1 = some (r1, r2)) :
  Calls Try.prog 41 #[.agg #[.slice A0_0 l0_0.length c0_0, .slice A0_1 l0_1.length c0_1], .slice A1 l1.length c1] w fun e w' => ∃ v0_ v1_ : Value, e = .returned (.agg #[v0_, v1_]) ∧ Kd.R Kd.string 9 w' w.heap.size (fun _ => True) v0_ r1 ∧ Kd.R k65 65 w' w.heap.size (fun _ => True) v1_ r2 ∧ Below w.heap.size w w' := by
 have hu30 := Try.underlying30
 have hu92 := Try.underlying92
 have HR0_0 := Aside0.mk hr0_0
 have HC0_0 := Aside0.mk hc0_0
 clear hr0_0 hc0_0
 have HR0_1 := Aside0.mk hr0_1
 have HC0_1 := Aside0.mk hc0_1
 clear hr0_1 hc0_1
 have HR1 := Aside0.mk hr1
 have HC1 := Aside0.mk hc1
 clear hr1 hc1
 have HB := Aside0.mk (Below.refl w.heap.size w)
 unfold impl_EventsDo.f at h
 have H := h
 clear h
 replace H := Option.bind_eq_some_iff.mp H
 obtain ⟨⟨t324, t327⟩, A30, H⟩ := H
 try dsimp only at H
 have A3 := Aside0.mk A30
 clear A30
 have H' := Aside0.mk H
 clear H
 go_enter Try.func41, Try.ntmps41
 go_wp2_with (first | ((with_reducible refine gate_dst (N := 2) rfl ?_); refine bE 2 #[.slice A0_0 l0_0.length c0_0, .slice A0_1 l0_1.length c0_1] 30 ?_; intro gb322 hg w4 hbox hb; have n_ := And.intro (sB HB hb) (And.intro (Aside0.mk hbox) (And.intro (gE HB hg) (gE HB hg))); clear HB; obtain ⟨HB, BK322, GW322, GE322⟩ := n_; (try clear hb hbox hg)) | ((with_reducible refine gate_dst (N := 4) rfl ?_); refine bE 4 #[.slice none 0 0, .slice none 0 0] 30 ?_; intro gb323 hg w5 hbox hb; have n_ := And.intro (kB BK322 hb) (And.intro (sB HB hb) (And.intro (Aside0.mk hbox) (And.intro (gE HB hg) (And.intro (gE HB hg) (And.intro (nL BK322 hg) (nG BK322 hg)))))); clear BK322 HB; obtain ⟨BK322, HB, BK323, GW323, GE323, NB322_323, NB323_322⟩ := n_; (try clear hb hbox hg); have hnb6 := NB322_323.out; have hnc6 := NB323_322.out; have hcz7_0 := cZ0 BK322; have hcz7_1 := cZ1 BK322; have hfz7_0 := blk_frozen BK322.out 0; have hfz7_1 := blk_frozen BK322.out 1) | ((with_reducible refine gate_callee (f := 76) rfl ?_); refine gL (some 11) Try.func76 #[.agg #[.slice A0_0 l0_0.length c0_0, .slice A0_1 l0_1.length c0_1]] ?_; (with_reducible refine (impl_cloneDisk.calls _ _ l0_0 _ _ l0_1 t324 t327 _ ?side1 ?side2 ?side3 ?side4 A3.out).mono ?_); (case side1 => exact cS HR0_0 HB); (case side2 => exact HC0_0.out); (case side3 => exact cS HR0_1 HB); (case side4 => exact HC0_1.out); rintro e w8 ⟨v325, v328, rfl, ho0, ho1, hb⟩; refine ⟨_, rfl, ?_⟩; have n_ := And.intro (lR HB ho0) (And.intro (lR HB ho1) (And.intro (kB BK322 hb) (And.intro (kB BK323 hb) (sB HB hb)))); clear BK322 BK323 HB; obtain ⟨HO326, HO329, BK322, BK323, HB⟩ := n_; (try clear hb ho0 ho1)) | ((with_reducible refine gate_dst (N := 5) rfl ?_); refine bE 5 #[.slice none 0 0, .slice none 0 0] 30 ?_; intro gb330 hg w9 hbox hb; have n_ := And.intro (rB HO326 hb) (And.intro (rB HO329 hb) (And.intro (kB BK322 hb) (And.intro (kB BK323 hb) (And.intro (sB HB hb) (And.intro (Aside0.mk hbox) (And.intro (gE HB hg) (And.intro (gE HB hg) (And.intro (nL BK322 hg) (And.intro (nG BK322 hg) (And.intro (nL BK323 hg) (nG BK323 hg))))))))))); clear HO326 HO329 BK322 BK323 HB; obtain ⟨HO326, HO329, BK322, BK323, HB, BK330, GW330, GE330, NB322_330, NB330_322, NB323_330, NB330_323⟩ := n_; (try clear hb hbox hg); obtain ⟨Ao10, co10, eo10⟩ := Kd.R_slice HO326.out; subst eo10; have hnb11 := NB330_322.out; have hnc11 := NB322_330.out; have hnb12 := NB330_323.out; have hnc12 := NB323_330.out; have hcz13_0 := cZ0 BK330; have hcz13_1 := cZ1 BK330; have hfz13_0 := blk_frozen BK330.out 0; have hfz13_1 := blk_frozen BK330.out 1; obtain ⟨Ao14, co14, eo14⟩ := Kd.R_slice HO329.out; subst eo14))
 go_loopg [14] k (fun kq v14 w' => ∃ (x14_1 : Int) (x331000_1 : List ByteArray) (x331001_1 : List (S65)) (u331000 : Value) (u331001 : Value), v14 = .int .i64 x14_1 ∧ Aside0 (impl_EventsDo.l0 kq l1 (l1.length : Int) x14_1 x331000_1 x331001_1 = some (r1, r2)) ∧ Aside0 (kq ≤ k) ∧ Aside0 (Kd.R Kd.string 9 w' w.heap.size (fun _ => True) u331000 x331000_1) ∧ Aside0 (Kd.R k65 65 w' w.heap.size (fun _ => True) u331001 x331001_1) ∧ Aside0 (w'.heap[gb322]? = some (.cells #[(.slice A0_0 l0_0.length c0_0), (.slice A0_1 l0_1.length c0_1)] 30 (0, 0))) ∧ Aside0 (w'.heap[gb323]? = some (.cells #[(.slice none 0 0), (.slice none 0 0)] 30 (0, 0))) ∧ Aside0 (w'.heap[gb330]? = some (.cells #[u331000, u331001] 30 (0, 0))) ∧ Aside0 (Below w.heap.size w w'))
 case atStart => exact ⟨(0), (t324), (t327), (.slice Ao10 t324.length co10), (.slice Ao14 t327.length co14), (by first | rfl | (simp; done) | (simp [*]; done) | (simp; exact (by intro l_; cases l_ <;> rfl : ∀ l_ : List UInt8, l_.isEmpty = !(l_ != [])) _)), H', ⟨Nat.le_refl _⟩, ⟨rP (Kd.R_mono (Kd.R_far (p := ⟨gb330, 1, none⟩) (Kd.R_far (p := ⟨gb330, 0, none⟩) (Kd.R_types HO326.out BK330.out (by decide)) (fun _ hk => hk.2) (.slice Ao10 t324.length co10)) (fun _ hk => hk.2) (.slice Ao14 t327.length co14)) (fun _ hk => trivial))⟩, ⟨rP (Kd.R_mono (Kd.R_far (p := ⟨gb330, 1, none⟩) (Kd.R_far (p := ⟨gb330, 0, none⟩) (Kd.R_types HO329.out BK330.out (by decide)) (fun _ hk => hk.2) (.slice Ao10 t324.length co10)) (fun _ hk => hk.2) (.slice Ao14 t327.length co14)) (fun _ hk => trivial))⟩, ⟨kP BK322⟩, ⟨kP BK323⟩, ⟨by (with_reducible repeat (first | refine blk_drewN ?_ _ | refine blk_drew ?_ | refine blk_alloc ?_ _)); refine blk_put (cs := #[.slice Ao10 t324.length co10, .slice none 0 0]) ?_ 1 _ rfl; (with_reducible repeat (first | refine blk_drewN ?_ _ | refine blk_drew ?_ | refine blk_alloc ?_ _)); refine blk_put (cs := #[.slice none 0 0, .slice none 0 0]) ?_ 0 _ rfl; (with_reducible repeat (first | refine blk_drewN ?_ _ | refine blk_drew ?_ | refine blk_alloc ?_ _)); exact BK330.out⟩, ⟨bB⟩⟩
 case round =>
  clear H'
  try clear c1
  try clear p2
  try clear c4
  try clear c6
  try clear c7
  try clear c11
  try clear c12
  try clear hcz13_0
  try clear hcz13_1
  try clear hcz7_0
  try clear hcz7_1
  try clear hfz13_0
  try clear hfz13_1
  try clear hfz7_0
  try clear hfz7_1
  obtain ⟨x14_1, x331000_1, x331001_1, u331000, u331001, rfl, HA, HK1, HO_331000, HO_331001, BK322, BK323, BK330, HB⟩ := hrel
  cases gk with
  | zero => exact absurd HA.out (by simp [impl_EventsDo.l0])
  | succ k1 =>
   have H := HA.out
   clear HA
   simp only [impl_EventsDo.l0] at H
   by_cases c15 : x14_1 < (l1.length : Int)
   ·rw [if_pos c15] at H
    have c15b0 : decide (x14_1 < (l1.length : Int)) = true := decide_eq_true c15
    clear c15
    by_cases c16 : 0 ≤ x14_1
    ·rw [if_pos c16] at H
     have c16b0 : decide (0 ≤ x14_1) = true := decide_eq_true c16
     clear c16
     by_cases c17 : x14_1 < (l1.length : Int)
     ·rw [if_pos c17] at H
      have c17b0 : decide (x14_1 < (l1.length : Int)) = true := decide_eq_true c17
      clear c17
      by_cases c18 : ((rd_T92 l1 x14_1).f0) = 0
      ·rw [if_pos c18] at H
       have c18b0 : (((rd_T92 l1 x14_1).f0) == 0) = true := beq_iff_eq.mpr c18
       have c18b1 : (((rd_T92 l1 x14_1).f0) != 0) = false := bne_eq_false_iff_eq.mpr c18
       clear c18
       replace H := Option.bind_eq_some_iff.mp H
       obtain ⟨⟨t333, t336, t339⟩, A190, H⟩ := H
       try dsimp only at H
       have A19 := Aside0.mk A190
       clear A190
       by_cases c20 : t339 = true
       ·subst c20
        rw [if_pos rfl] at H
        have H' := Aside0.mk H
        clear H
        have p331 : 0 ≤ (x14_1 : Int) := dT
        have q331 : x14_1 < (l1.length : Int) := dT
        obtain ⟨ad331, e331, hx331_0, hx331_1, hx331_2⟩ := at_T92 HR1.out x14_1 p331 q331
        cases e331
        replace hx331_0 := (HB.out.cell (World.block_lt_of_cell? w _ hx331_0)).trans hx331_0
        replace hx331_1 := (HB.out.cell (World.block_lt_of_cell? w _ hx331_1)).trans hx331_1
        replace hx331_2 := (HB.out.cell (World.block_lt_of_cell? w _ hx331_2)).trans hx331_2
        replace p331 := eq_true p331
        replace q331 := eq_true q331
        go_wp2_with (first | ((with_reducible refine gate_dst (N := 7) rfl ?_); refine bE 7 #[.int .i64 0, .int .i64 0, .string (⟨#[]⟩ : ByteArray)] 92 ?_; intro gb332 hg w21 hbox hb; have n_ := And.intro (rB HO_331000 hb) (And.intro (rB HO_331001 hb) (And.intro (kB BK322 hb) (And.intro (kB BK323 hb) (And.intro (kB BK330 hb) (And.intro (sB HB hb) (And.intro (Aside0.mk hbox) (And.intro (gE HB hg) (And.intro (gE HB hg) (And.intro (nL BK322 hg) (And.intro (nG BK322 hg) (And.intro (nL BK323 hg) (And.intro (nG BK323 hg) (And.intro (nL BK330 hg) (nG BK330 hg)))))))))))))); clear HO_331000 HO_331001 BK322 BK323 BK330 HB; obtain ⟨HO_331000, HO_331001, BK322, BK323, BK330, HB, BK332, GW332, GE332, NB322_332, NB332_322, NB323_332, NB332_323, NB330_332, NB332_330⟩ := n_; (try clear hb hbox hg); have hnb22 := NB332_322.out; have hnc22 := NB322_332.out; have hnb23 := NB332_323.out; have hnc23 := NB323_332.out; have hnb24 := NB332_330.out; have hnc24 := NB330_332.out; have hcz25_0 := cZ0 BK332; have hcz25_1 := cZ1 BK332; have hcz25_2 : w21.cell? ⟨gb332, 2, none⟩ = some (.string (⟨#[]⟩ : ByteArray)) := (blk_cell BK332.out 2).trans rfl; have hfz25_0 := blk_frozen BK332.out 0; have hfz25_1 := blk_frozen BK332.out 1; have hfz25_2 := blk_frozen BK332.out 2; have hnb26 := NB330_322.out; have hnc26 := NB322_330.out; have hnb27 := NB330_323.out; have hnc27 := NB323_330.out; have hcz28_0 := cZ0 BK330; have hcz28_1 := cZ1 BK330; have hfz28_0 := blk_frozen BK330.out 0; have hfz28_1 := blk_frozen BK330.out 1; obtain ⟨Ao29, co29, eo29⟩ := Kd.R_slice HO_331000.out; subst eo29; obtain ⟨Ao30, co30, eo30⟩ := Kd.R_slice HO_331001.out; subst eo30) | ((with_reducible refine gate_callee (f := 29) rfl ?_); refine gL (some 28) Try.func29 #[.agg #[.slice Ao29 x331000_1.length co29, .slice Ao30 x331001_1.length co30], .int .i64 ((rd_T92 l1 x14_1).f1), .string ((rd_T92 l1 x14_1).f2)] ?_; (with_reducible refine (impl_SectorWrite.calls _ _ x331000_1 _ _ x331001_1 ((rd_T92 l1 x14_1).f1) ((rd_T92 l1 x14_1).f2) t333 t336 true _ ?side1 ?side2 ?side3 ?side4 A19.out).mono ?_); (case side1 => refine (Kd.R_reads' (e := 9) (base := w.heap.size) (ok := fun k_ => True) (n := x331000_1.length) (c := co29) ?_).2.2; exact (rP (Kd.R_mono (Kd.R_far (p := ⟨gb332, 2, none⟩) (Kd.R_far (p := ⟨gb332, 1, none⟩) (Kd.R_far (p := ⟨gb332, 0, none⟩) (Kd.R_types HO_331000.out BK332.out (by decide)) (fun _ hk => hk.2) (.int .i64 ((rd_T92 l1 x14_1).f0))) (fun _ hk => hk.2) (.int .i64 ((rd_T92 l1 x14_1).f1))) (fun _ hk => hk.2) (.string ((rd_T92 l1 x14_1).f2))) (fun _ h_ => h_.1)))); (case side2 => exact (Kd.R_reads' HO_331000.out).2.1); (case side3 => refine (Kd.R_reads' (e := 65) (base := w.heap.size) (ok := fun k_ => True) (n := x331001_1.length) (c := co30) ?_).2.2; exact (rP (Kd.R_mono (Kd.R_far (p := ⟨gb332, 2, none⟩) (Kd.R_far (p := ⟨gb332, 1, none⟩) (Kd.R_far (p := ⟨gb332, 0, none⟩) (Kd.R_types HO_331001.out BK332.out (by decide)) (fun _ hk => hk.2) (.int .i64 ((rd_T92 l1 x14_1).f0))) (fun _ hk => hk.2) (.int .i64 ((rd_T92 l1 x14_1).f1))) (fun _ hk => hk.2) (.string ((rd_T92 l1 x14_1).f2))) (fun _ h_ => h_.1)))); (case side4 => exact (Kd.R_reads' HO_331001.out).2.1); rintro e w31 ⟨v334, v337, rfl, ho0, ho1, hb⟩; refine ⟨_, rfl, ?_⟩; have n_ := And.intro (Aside0.mk (Kd.R_elder' (rP (Kd.R_mono (Kd.R_far (p := ⟨gb332, 2, none⟩) (Kd.R_far (p := ⟨gb332, 1, none⟩) (Kd.R_far (p := ⟨gb332, 0, none⟩) (Kd.R_types HO_331000.out BK332.out (by decide)) (fun _ hk => hk.2) (.int .i64 ((rd_T92 l1 x14_1).f0))) (fun _ hk => hk.2) (.int .i64 ((rd_T92 l1 x14_1).f1))) (fun _ hk => hk.2) (.string ((rd_T92 l1 x14_1).f2))) (fun _ h_ => h_.1))) (Kd.R_base ho0) hb)) (And.intro (Aside0.mk (Kd.R_elder' (rP (Kd.R_mono (Kd.R_far (p := ⟨gb332, 2, none⟩) (Kd.R_far (p := ⟨gb332, 1, none⟩) (Kd.R_far (p := ⟨gb332, 0, none⟩) (Kd.R_types HO_331001.out BK332.out (by decide)) (fun _ hk => hk.2) (.int .i64 ((rd_T92 l1 x14_1).f0))) (fun _ hk => hk.2) (.int .i64 ((rd_T92 l1 x14_1).f1))) (fun _ hk => hk.2) (.string ((rd_T92 l1 x14_1).f2))) (fun _ h_ => h_.1))) (Kd.R_base ho1) hb)) (And.intro (Aside0.mk (Kd.R_lower (Kd.R_new' ho0 (Kd.R_lt (rP (Kd.R_mono (Kd.R_far (p := ⟨gb332, 2, none⟩) (Kd.R_far (p := ⟨gb332, 1, none⟩) (Kd.R_far (p := ⟨gb332, 0, none⟩) (Kd.R_types HO_331000.out BK332.out (by decide)) (fun _ hk => hk.2) (.int .i64 ((rd_T92 l1 x14_1).f0))) (fun _ hk => hk.2) (.int .i64 ((rd_T92 l1 x14_1).f1))) (fun _ hk => hk.2) (.string ((rd_T92 l1 x14_1).f2))) (fun _ h_ => h_.1))))) (zB HB))) (And.intro (Aside0.mk (Kd.R_lower (Kd.R_new' ho1 (Kd.R_lt (rP (Kd.R_mono (Kd.R_far (p := ⟨gb332, 2, none⟩) (Kd.R_far (p := ⟨gb332, 1, none⟩) (Kd.R_far (p := ⟨gb332, 0, none⟩) (Kd.R_types HO_331001.out BK332.out (by decide)) (fun _ hk => hk.2) (.int .i64 ((rd_T92 l1 x14_1).f0))) (fun _ hk => hk.2) (.int .i64 ((rd_T92 l1 x14_1).f1))) (fun _ hk => hk.2) (.string ((rd_T92 l1 x14_1).f2))) (fun _ h_ => h_.1))))) (zB HB))) (And.intro (kB BK322 hb) (And.intro (kB BK323 hb) (And.intro (kB BK330 hb) (And.intro (Aside0.mk (blk_below (g := gb332) (o := .cells #[.int .i64 ((rd_T92 l1 x14_1).f0), .int .i64 ((rd_T92 l1 x14_1).f1), .string ((rd_T92 l1 x14_1).f2)] 92 (0, 0)) (by (with_reducible repeat (first | refine blk_drewN ?_ _ | refine blk_drew ?_ | refine blk_alloc ?_ _)); refine blk_put (cs := #[.int .i64 ((rd_T92 l1 x14_1).f0), .int .i64 ((rd_T92 l1 x14_1).f1), .string (⟨#[]⟩ : ByteArray)]) ?_ 2 _ rfl; (with_reducible repeat (first | refine blk_drewN ?_ _ | refine blk_drew ?_ | refine blk_alloc ?_ _)); refine blk_put (cs := #[.int .i64 ((rd_T92 l1 x14_1).f0), .int .i64 0, .string (⟨#[]⟩ : ByteArray)]) ?_ 1 _ rfl; (with_reducible repeat (first | refine blk_drewN ?_ _ | refine blk_drew ?_ | refine blk_alloc ?_ _)); refine blk_put (cs := #[.int .i64 0, .int .i64 0, .string (⟨#[]⟩ : ByteArray)]) ?_ 0 _ rfl; (with_reducible repeat (first | refine blk_drewN ?_ _ | refine blk_drew ?_ | refine blk_alloc ?_ _)); exact BK332.out) hb)) (sB HB hb)))))))); clear HO_331000 HO_331001 BK322 BK323 BK330 BK332 HB; obtain ⟨HO_331000, HO_331001, HO335, HO338, BK322, BK323, BK330, BK332, HB⟩ := n_; (try clear hb ho0 ho1)) | ((with_reducible refine gate_dst (N := 8) rfl ?_); refine bE 8 #[.slice none 0 0, .slice none 0 0] 30 ?_; intro gb340 hg w32 hbox hb; have n_ := And.intro (rB HO_331000 hb) (And.intro (rB HO_331001 hb) (And.intro (rB HO335 hb) (And.intro (rB HO338 hb) (And.intro (kB BK322 hb) (And.intro (kB BK323 hb) (And.intro (kB BK330 hb) (And.intro (kB BK332 hb) (And.intro (sB HB hb) (And.intro (Aside0.mk hbox) (And.intro (gE HB hg) (And.intro (gE HB hg) (And.intro (nL BK322 hg) (And.intro (nG BK322 hg) (And.intro (nL BK323 hg) (And.intro (nG BK323 hg) (And.intro (nL BK330 hg) (And.intro (nG BK330 hg) (And.intro (nL BK332 hg) (nG BK332 hg))))))))))))))))))); clear HO_331000 HO_331001 HO335 HO338 BK322 BK323 BK330 BK332 HB; obtain ⟨HO_331000, HO_331001, HO335, HO338, BK322, BK323, BK330, BK332, HB, BK340, GW340, GE340, NB322_340, NB340_322, NB323_340, NB340_323, NB330_340, NB340_330, NB332_340, NB340_332⟩ := n_; (try clear hb hbox hg); obtain ⟨Ao33, co33, eo33⟩ := Kd.R_slice HO335.out; subst eo33; have hnb34 := NB340_322.out; have hnc34 := NB322_340.out; have hnb35 := NB340_323.out; have hnc35 := NB323_340.out; have hnb36 := NB340_330.out; have hnc36 := NB330_340.out; have hnb37 := NB340_332.out; have hnc37 := NB332_340.out; have hcz38_0 := cZ0 BK340; have hcz38_1 := cZ1 BK340; have hfz38_0 := blk_frozen BK340.out 0; have hfz38_1 := blk_frozen BK340.out 1; obtain ⟨Ao39, co39, eo39⟩ := Kd.R_slice HO338.out; subst eo39; have hcz40_0 := cZ0 BK330; have hcz40_1 := cZ1 BK330; have hfz40_0 := blk_frozen BK330.out 0; have hfz40_1 := blk_frozen BK330.out 1))
        go_roundg k1
        case measure => have := HK1.out; omega
        case rel => exact ⟨(wrap64 (x14_1 + 1)), (t333), (t336), (.slice Ao33 t333.length co33), (.slice Ao39 t336.length co39), (by first | rfl | (simp; done) | (simp [*]; done) | (simp; exact (by intro l_; cases l_ <;> rfl : ∀ l_ : List UInt8, l_.isEmpty = !(l_ != [])) _)), H', ⟨by have := HK1.out; omega⟩, ⟨rP (Kd.R_mono (Kd.R_far (p := ⟨gb330, 1, none⟩) (Kd.R_far (p := ⟨gb330, 0, none⟩) (Kd.R_far (p := ⟨gb340, 1, none⟩) (Kd.R_far (p := ⟨gb340, 0, none⟩) (Kd.R_types (Kd.R_types HO335.out BK340.out (by decide)) BK330.out (by decide)) (fun _ hk => hk.1.2) (.slice Ao33 t333.length co33)) (fun _ hk => hk.1.2) (.slice Ao39 t336.length co39)) (fun _ hk => hk.2) (.slice Ao33 t333.length co33)) (fun _ hk => hk.2) (.slice Ao39 t336.length co39)) (fun _ hk => trivial))⟩, ⟨rP (Kd.R_mono (Kd.R_far (p := ⟨gb330, 1, none⟩) (Kd.R_far (p := ⟨gb330, 0, none⟩) (Kd.R_far (p := ⟨gb340, 1, none⟩) (Kd.R_far (p := ⟨gb340, 0, none⟩) (Kd.R_types (Kd.R_types HO338.out BK340.out (by decide)) BK330.out (by decide)) (fun _ hk => hk.1.2) (.slice Ao33 t333.length co33)) (fun _ hk => hk.1.2) (.slice Ao39 t336.length co39)) (fun _ hk => hk.2) (.slice Ao33 t333.length co33)) (fun _ hk => hk.2) (.slice Ao39 t336.length co39)) (fun _ hk => trivial))⟩, ⟨kP BK322⟩, ⟨kP BK323⟩, ⟨by (with_reducible repeat (first | refine blk_drewN ?_ _ | refine blk_drew ?_ | refine blk_alloc ?_ _)); refine blk_put (cs := #[.slice Ao33 t333.length co33, .slice Ao30 x331001_1.length co30]) ?_ 1 _ rfl; (with_reducible repeat (first | refine blk_drewN ?_ _ | refine blk_drew ?_ | refine blk_alloc ?_ _)); refine blk_put (cs := #[.slice Ao29 x331000_1.length co29, .slice Ao30 x331001_1.length co30]) ?_ 0 _ rfl; (with_reducible repeat (first | refine blk_drewN ?_ _ | refine blk_drew ?_ | refine blk_alloc ?_ _)); refine blk_far ?_ NB330_340.out _; (with_reducible repeat (first | refine blk_drewN ?_ _ | refine blk_drew ?_ | refine blk_alloc ?_ _)); refine blk_far ?_ NB330_340.out _; (with_reducible repeat (first | refine blk_drewN ?_ _ | refine blk_drew ?_ | refine blk_alloc ?_ _)); exact BK330.out⟩, ⟨bB⟩⟩
       ·replace c20 := Bool.eq_false_iff.mpr c20
        subst c20
        rw [if_neg (show ¬ (false = true) by decide)] at H
        have H' := Aside0.mk H
        clear H
        have p331 : 0 ≤ (x14_1 : Int) := dT
        have q331 : x14_1 < (l1.length : Int) := dT
        obtain ⟨ad331, e331, hx331_0, hx331_1, hx331_2⟩ := at_T92 HR1.out x14_1 p331 q331
        cases e331
        replace hx331_0 := (HB.out.cell (World.block_lt_of_cell? w _ hx331_0)).trans hx331_0
        replace hx331_1 := (HB.out.cell (World.block_lt_of_cell? w _ hx331_1)).trans hx331_1
        replace hx331_2 := (HB.out.cell (World.block_lt_of_cell? w _ hx331_2)).trans hx331_2
        replace p331 := eq_true p331
        replace q331 := eq_true q331
        go_wp2_with (first | ((with_reducible refine gate_dst (N := 7) rfl ?_); refine bE 7 #[.int .i64 0, .int .i64 0, .string (⟨#[]⟩ : ByteArray)] 92 ?_; intro gb332 hg w41 hbox hb; have n_ := And.intro (rB HO_331000 hb) (And.intro (rB HO_331001 hb) (And.intro (kB BK322 hb) (And.intro (kB BK323 hb) (And.intro (kB BK330 hb) (And.intro (sB HB hb) (And.intro (Aside0.mk hbox) (And.intro (gE HB hg) (And.intro (gE HB hg) (And.intro (nL BK322 hg) (And.intro (nG BK322 hg) (And.intro (nL BK323 hg) (And.intro (nG BK323 hg) (And.intro (nL BK330 hg) (nG BK330 hg)))))))))))))); clear HO_331000 HO_331001 BK322 BK323 BK330 HB; obtain ⟨HO_331000, HO_331001, BK322, BK323, BK330, HB, BK332, GW332, GE332, NB322_332, NB332_322, NB323_332, NB332_323, NB330_332, NB332_330⟩ := n_; (try clear hb hbox hg); have hnb42 := NB332_322.out; have hnc42 := NB322_332.out; have hnb43 := NB332_323.out; have hnc43 := NB323_332.out; have hnb44 := NB332_330.out; have hnc44 := NB330_332.out; have hcz45_0 := cZ0 BK332; have hcz45_1 := cZ1 BK332; have hcz45_2 : w41.cell? ⟨gb332, 2, none⟩ = some (.string (⟨#[]⟩ : ByteArray)) := (blk_cell BK332.out 2).trans rfl; have hfz45_0 := blk_frozen BK332.out 0; have hfz45_1 := blk_frozen BK332.out 1; have hfz45_2 := blk_frozen BK332.out 2; have hnb46 := NB330_322.out; have hnc46 := NB322_330.out; have hnb47 := NB330_323.out; have hnc47 := NB323_330.out; have hcz48_0 := cZ0 BK330; have hcz48_1 := cZ1 BK330; have hfz48_0 := blk_frozen BK330.out 0; have hfz48_1 := blk_frozen BK330.out 1; obtain ⟨Ao49, co49, eo49⟩ := Kd.R_slice HO_331000.out; subst eo49; obtain ⟨Ao50, co50, eo50⟩ := Kd.R_slice HO_331001.out; subst eo50) | ((with_reducible refine gate_callee (f := 29) rfl ?_); refine gL (some 28) Try.func29 #[.agg #[.slice Ao49 x331000_1.length co49, .slice Ao50 x331001_1.length co50], .int .i64 ((rd_T92 l1 x14_1).f1), .string ((rd_T92 l1 x14_1).f2)] ?_; (with_reducible refine (impl_SectorWrite.calls _ _ x331000_1 _ _ x331001_1 ((rd_T92 l1 x14_1).f1) ((rd_T92 l1 x14_1).f2) t333 t336 false _ ?side1 ?side2 ?side3 ?side4 A19.out).mono ?_); (case side1 => refine (Kd.R_reads' (e := 9) (base := w.heap.size) (ok := fun k_ => True) (n := x331000_1.length) (c := co49) ?_).2.2; exact (rP (Kd.R_mono (Kd.R_far (p := ⟨gb332, 2, none⟩) (Kd.R_far (p := ⟨gb332, 1, none⟩) (Kd.R_far (p := ⟨gb332, 0, none⟩) (Kd.R_types HO_331000.out BK332.out (by decide)) (fun _ hk => hk.2) (.int .i64 ((rd_T92 l1 x14_1).f0))) (fun _ hk => hk.2) (.int .i64 ((rd_T92 l1 x14_1).f1))) (fun _ hk => hk.2) (.string ((rd_T92 l1 x14_1).f2))) (fun _ h_ => h_.1)))); (case side2 => exact (Kd.R_reads' HO_331000.out).2.1); (case side3 => refine (Kd.R_reads' (e := 65) (base := w.heap.size) (ok := fun k_ => True) (n := x331001_1.length) (c := co50) ?_).2.2; exact (rP (Kd.R_mono (Kd.R_far (p := ⟨gb332, 2, none⟩) (Kd.R_far (p := ⟨gb332, 1, none⟩) (Kd.R_far (p := ⟨gb332, 0, none⟩) (Kd.R_types HO_331001.out BK332.out (by decide)) (fun _ hk => hk.2) (.int .i64 ((rd_T92 l1 x14_1).f0))) (fun _ hk => hk.2) (.int .i64 ((rd_T92 l1 x14_1).f1))) (fun _ hk => hk.2) (.string ((rd_T92 l1 x14_1).f2))) (fun _ h_ => h_.1)))); (case side4 => exact (Kd.R_reads' HO_331001.out).2.1); rintro e w51 ⟨v334, v337, rfl, ho0, ho1, hb⟩; refine ⟨_, rfl, ?_⟩; have n_ := And.intro (Aside0.mk (Kd.R_elder' (rP (Kd.R_mono (Kd.R_far (p := ⟨gb332, 2, none⟩) (Kd.R_far (p := ⟨gb332, 1, none⟩) (Kd.R_far (p := ⟨gb332, 0, none⟩) (Kd.R_types HO_331000.out BK332.out (by decide)) (fun _ hk => hk.2) (.int .i64 ((rd_T92 l1 x14_1).f0))) (fun _ hk => hk.2) (.int .i64 ((rd_T92 l1 x14_1).f1))) (fun _ hk => hk.2) (.string ((rd_T92 l1 x14_1).f2))) (fun _ h_ => h_.1))) (Kd.R_base ho0) hb)) (And.intro (Aside0.mk (Kd.R_elder' (rP (Kd.R_mono (Kd.R_far (p := ⟨gb332, 2, none⟩) (Kd.R_far (p := ⟨gb332, 1, none⟩) (Kd.R_far (p := ⟨gb332, 0, none⟩) (Kd.R_types HO_331001.out BK332.out (by decide)) (fun _ hk => hk.2) (.int .i64 ((rd_T92 l1 x14_1).f0))) (fun _ hk => hk.2) (.int .i64 ((rd_T92 l1 x14_1).f1))) (fun _ hk => hk.2) (.string ((rd_T92 l1 x14_1).f2))) (fun _ h_ => h_.1))) (Kd.R_base ho1) hb)) (And.intro (Aside0.mk (Kd.R_lower (Kd.R_new' ho0 (Kd.R_lt (rP (Kd.R_mono (Kd.R_far (p := ⟨gb332, 2, none⟩) (Kd.R_far (p := ⟨gb332, 1, none⟩) (Kd.R_far (p := ⟨gb332, 0, none⟩) (Kd.R_types HO_331000.out BK332.out (by decide)) (fun _ hk => hk.2) (.int .i64 ((rd_T92 l1 x14_1).f0))) (fun _ hk => hk.2) (.int .i64 ((rd_T92 l1 x14_1).f1))) (fun _ hk => hk.2) (.string ((rd_T92 l1 x14_1).f2))) (fun _ h_ => h_.1))))) (zB HB))) (And.intro (Aside0.mk (Kd.R_lower (Kd.R_new' ho1 (Kd.R_lt (rP (Kd.R_mono (Kd.R_far (p := ⟨gb332, 2, none⟩) (Kd.R_far (p := ⟨gb332, 1, none⟩) (Kd.R_far (p := ⟨gb332, 0, none⟩) (Kd.R_types HO_331001.out BK332.out (by decide)) (fun _ hk => hk.2) (.int .i64 ((rd_T92 l1 x14_1).f0))) (fun _ hk => hk.2) (.int .i64 ((rd_T92 l1 x14_1).f1))) (fun _ hk => hk.2) (.string ((rd_T92 l1 x14_1).f2))) (fun _ h_ => h_.1))))) (zB HB))) (And.intro (kB BK322 hb) (And.intro (kB BK323 hb) (And.intro (kB BK330 hb) (And.intro (Aside0.mk (blk_below (g := gb332) (o := .cells #[.int .i64 ((rd_T92 l1 x14_1).f0), .int .i64 ((rd_T92 l1 x14_1).f1), .string ((rd_T92 l1 x14_1).f2)] 92 (0, 0)) (by (with_reducible repeat (first | refine blk_drewN ?_ _ | refine blk_drew ?_ | refine blk_alloc ?_ _)); refine blk_put (cs := #[.int .i64 ((rd_T92 l1 x14_1).f0), .int .i64 ((rd_T92 l1 x14_1).f1), .string (⟨#[]⟩ : ByteArray)]) ?_ 2 _ rfl; (with_reducible repeat (first | refine blk_drewN ?_ _ | refine blk_drew ?_ | refine blk_alloc ?_ _)); refine blk_put (cs := #[.int .i64 ((rd_T92 l1 x14_1).f0), .int .i64 0, .string (⟨#[]⟩ : ByteArray)]) ?_ 1 _ rfl; (with_reducible repeat (first | refine blk_drewN ?_ _ | refine blk_drew ?_ | refine blk_alloc ?_ _)); refine blk_put (cs := #[.int .i64 0, .int .i64 0, .string (⟨#[]⟩ : ByteArray)]) ?_ 0 _ rfl; (with_reducible repeat (first | refine blk_drewN ?_ _ | refine blk_drew ?_ | refine blk_alloc ?_ _)); exact BK332.out) hb)) (sB HB hb)))))))); clear HO_331000 HO_331001 BK322 BK323 BK330 BK332 HB; obtain ⟨HO_331000, HO_331001, HO335, HO338, BK322, BK323, BK330, BK332, HB⟩ := n_; (try clear hb ho0 ho1)) | ((with_reducible refine gate_dst (N := 8) rfl ?_); refine bE 8 #[.slice none 0 0, .slice none 0 0] 30 ?_; intro gb340 hg w52 hbox hb; have n_ := And.intro (rB HO_331000 hb) (And.intro (rB HO_331001 hb) (And.intro (rB HO335 hb) (And.intro (rB HO338 hb) (And.intro (kB BK322 hb) (And.intro (kB BK323 hb) (And.intro (kB BK330 hb) (And.intro (kB BK332 hb) (And.intro (sB HB hb) (And.intro (Aside0.mk hbox) (And.intro (gE HB hg) (And.intro (gE HB hg) (And.intro (nL BK322 hg) (And.intro (nG BK322 hg) (And.intro (nL BK323 hg) (And.intro (nG BK323 hg) (And.intro (nL BK330 hg) (And.intro (nG BK330 hg) (And.intro (nL BK332 hg) (nG BK332 hg))))))))))))))))))); clear HO_331000 HO_331001 HO335 HO338 BK322 BK323 BK330 BK332 HB; obtain ⟨HO_331000, HO_331001, HO335, HO338, BK322, BK323, BK330, BK332, HB, BK340, GW340, GE340, NB322_340, NB340_322, NB323_340, NB340_323, NB330_340, NB340_330, NB332_340, NB340_332⟩ := n_; (try clear hb hbox hg); obtain ⟨Ao53, co53, eo53⟩ := Kd.R_slice HO335.out; subst eo53; have hnb54 := NB340_322.out; have hnc54 := NB322_340.out; have hnb55 := NB340_323.out; have hnc55 := NB323_340.out; have hnb56 := NB340_330.out; have hnc56 := NB330_340.out; have hnb57 := NB340_332.out; have hnc57 := NB332_340.out; have hcz58_0 := cZ0 BK340; have hcz58_1 := cZ1 BK340; have hfz58_0 := blk_frozen BK340.out 0; have hfz58_1 := blk_frozen BK340.out 1; obtain ⟨Ao59, co59, eo59⟩ := Kd.R_slice HO338.out; subst eo59))
        go_roundg k1
        case measure => have := HK1.out; omega
        case rel => exact ⟨(wrap64 (x14_1 + 1)), (x331000_1), (x331001_1), (.slice Ao49 x331000_1.length co49), (.slice Ao50 x331001_1.length co50), (by first | rfl | (simp; done) | (simp [*]; done) | (simp; exact (by intro l_; cases l_ <;> rfl : ∀ l_ : List UInt8, l_.isEmpty = !(l_ != [])) _)), H', ⟨by have := HK1.out; omega⟩, ⟨rP (Kd.R_mono (Kd.R_far (p := ⟨gb340, 1, none⟩) (Kd.R_far (p := ⟨gb340, 0, none⟩) (Kd.R_types HO_331000.out BK340.out (by decide)) (fun _ hk => hk.2) (.slice Ao53 t333.length co53)) (fun _ hk => hk.2) (.slice Ao59 t336.length co59)) (fun _ hk => trivial))⟩, ⟨rP (Kd.R_mono (Kd.R_far (p := ⟨gb340, 1, none⟩) (Kd.R_far (p := ⟨gb340, 0, none⟩) (Kd.R_types HO_331001.out BK340.out (by decide)) (fun _ hk => hk.2) (.slice Ao53 t333.length co53)) (fun _ hk => hk.2) (.slice Ao59 t336.length co59)) (fun _ hk => trivial))⟩, ⟨kP BK322⟩, ⟨kP BK323⟩, ⟨kP BK330⟩, ⟨bB⟩⟩
      ·rw [if_neg c18] at H
       have c18b0 : (((rd_T92 l1 x14_1).f0) == 0) = false := beq_eq_false_iff_ne.mpr c18
       have c18b1 : (((rd_T92 l1 x14_1).f0) != 0) = true := bne_iff_ne.mpr c18
       by_cases c60 : ((rd_T92 l1 x14_1).f0) = 1
       ·rw [if_pos c60] at H
        have c60b0 : (((rd_T92 l1 x14_1).f0) == 1) = true := beq_iff_eq.mpr c60
        have c60b1 : (((rd_T92 l1 x14_1).f0) != 1) = false := bne_eq_false_iff_eq.mpr c60
        clear c60
        replace H := Option.bind_eq_some_iff.mp H
        obtain ⟨⟨t341, t344⟩, A610, H⟩ := H
        try dsimp only at H
        have A61 := Aside0.mk A610
        clear A610
        have H' := Aside0.mk H
        clear H
        have p331 : 0 ≤ (x14_1 : Int) := dT
        have q331 : x14_1 < (l1.length : Int) := dT
        obtain ⟨ad331, e331, hx331_0, hx331_1, hx331_2⟩ := at_T92 HR1.out x14_1 p331 q331
        cases e331
        replace hx331_0 := (HB.out.cell (World.block_lt_of_cell? w _ hx331_0)).trans hx331_0
        replace hx331_1 := (HB.out.cell (World.block_lt_of_cell? w _ hx331_1)).trans hx331_1
        replace hx331_2 := (HB.out.cell (World.block_lt_of_cell? w _ hx331_2)).trans hx331_2
        replace p331 := eq_true p331
        replace q331 := eq_true q331
        go_wp2_with (first | ((with_reducible refine gate_dst (N := 7) rfl ?_); refine bE 7 #[.int .i64 0, .int .i64 0, .string (⟨#[]⟩ : ByteArray)] 92 ?_; intro gb332 hg w62 hbox hb; have n_ := And.intro (rB HO_331000 hb) (And.intro (rB HO_331001 hb) (And.intro (kB BK322 hb) (And.intro (kB BK323 hb) (And.intro (kB BK330 hb) (And.intro (sB HB hb) (And.intro (Aside0.mk hbox) (And.intro (gE HB hg) (And.intro (gE HB hg) (And.intro (nL BK322 hg) (And.intro (nG BK322 hg) (And.intro (nL BK323 hg) (And.intro (nG BK323 hg) (And.intro (nL BK330 hg) (nG BK330 hg)))))))))))))); clear HO_331000 HO_331001 BK322 BK323 BK330 HB; obtain ⟨HO_331000, HO_331001, BK322, BK323, BK330, HB, BK332, GW332, GE332, NB322_332, NB332_322, NB323_332, NB332_323, NB330_332, NB332_330⟩ := n_; (try clear hb hbox hg); have hnb63 := NB332_322.out; have hnc63 := NB322_332.out; have hnb64 := NB332_323.out; have hnc64 := NB323_332.out; have hnb65 := NB332_330.out; have hnc65 := NB330_332.out; have hcz66_0 := cZ0 BK332; have hcz66_1 := cZ1 BK332; have hcz66_2 : w62.cell? ⟨gb332, 2, none⟩ = some (.string (⟨#[]⟩ : ByteArray)) := (blk_cell BK332.out 2).trans rfl; have hfz66_0 := blk_frozen BK332.out 0; have hfz66_1 := blk_frozen BK332.out 1; have hfz66_2 := blk_frozen BK332.out 2; have hnb67 := NB330_322.out; have hnc67 := NB322_330.out; have hnb68 := NB330_323.out; have hnc68 := NB323_330.out; have hcz69_0 := cZ0 BK330; have hcz69_1 := cZ1 BK330; have hfz69_0 := blk_frozen BK330.out 0; have hfz69_1 := blk_frozen BK330.out 1; obtain ⟨Ao70, co70, eo70⟩ := Kd.R_slice HO_331000.out; subst eo70; obtain ⟨Ao71, co71, eo71⟩ := Kd.R_slice HO_331001.out; subst eo71) | ((with_reducible refine gate_callee (f := 32) rfl ?_); refine gL (some 36) Try.func32 #[.agg #[.slice Ao70 x331000_1.length co70, .slice Ao71 x331001_1.length co71]] ?_; (with_reducible refine (impl_Flush.calls k1 _ _ x331000_1 _ _ x331001_1 t341 t344 _ ?side1 ?side2 ?side3 ?side4 A61.out).mono ?_); (case side1 => refine (Kd.R_reads' (e := 9) (base := w.heap.size) (ok := fun k_ => True) (n := x331000_1.length) (c := co70) ?_).2.2; exact (rP (Kd.R_mono (Kd.R_far (p := ⟨gb332, 2, none⟩) (Kd.R_far (p := ⟨gb332, 1, none⟩) (Kd.R_far (p := ⟨gb332, 0, none⟩) (Kd.R_types HO_331000.out BK332.out (by decide)) (fun _ hk => hk.2) (.int .i64 ((rd_T92 l1 x14_1).f0))) (fun _ hk => hk.2) (.int .i64 ((rd_T92 l1 x14_1).f1))) (fun _ hk => hk.2) (.string ((rd_T92 l1 x14_1).f2))) (fun _ h_ => h_.1)))); (case side2 => exact (Kd.R_reads' HO_331000.out).2.1); (case side3 => refine (Kd.R_reads' (e := 65) (base := w.heap.size) (ok := fun k_ => True) (n := x331001_1.length) (c := co71) ?_).2.2; exact (rP (Kd.R_mono (Kd.R_far (p := ⟨gb332, 2, none⟩) (Kd.R_far (p := ⟨gb332, 1, none⟩) (Kd.R_far (p := ⟨gb332, 0, none⟩) (Kd.R_types HO_331001.out BK332.out (by decide)) (fun _ hk => hk.2) (.int .i64 ((rd_T92 l1 x14_1).f0))) (fun _ hk => hk.2) (.int .i64 ((rd_T92 l1 x14_1).f1))) (fun _ hk => hk.2) (.string ((rd_T92 l1 x14_1).f2))) (fun _ h_ => h_.1)))); (case side4 => exact (Kd.R_reads' HO_331001.out).2.1); rintro e w72 ⟨v342, v345, rfl, ho0, ho1, hb⟩; refine ⟨_, rfl, ?_⟩; have n_ := And.intro (Aside0.mk (Kd.R_elder' (rP (Kd.R_mono (Kd.R_far (p := ⟨gb332, 2, none⟩) (Kd.R_far (p := ⟨gb332, 1, none⟩) (Kd.R_far (p := ⟨gb332, 0, none⟩) (Kd.R_types HO_331000.out BK332.out (by decide)) (fun _ hk => hk.2) (.int .i64 ((rd_T92 l1 x14_1).f0))) (fun _ hk => hk.2) (.int .i64 ((rd_T92 l1 x14_1).f1))) (fun _ hk => hk.2) (.string ((rd_T92 l1 x14_1).f2))) (fun _ h_ => h_.1))) (Kd.R_base ho0) hb)) (And.intro (Aside0.mk (Kd.R_elder' (rP (Kd.R_mono (Kd.R_far (p := ⟨gb332, 2, none⟩) (Kd.R_far (p := ⟨gb332, 1, none⟩) (Kd.R_far (p := ⟨gb332, 0, none⟩) (Kd.R_types HO_331001.out BK332.out (by decide)) (fun _ hk => hk.2) (.int .i64 ((rd_T92 l1 x14_1).f0))) (fun _ hk => hk.2) (.int .i64 ((rd_T92 l1 x14_1).f1))) (fun _ hk => hk.2) (.string ((rd_T92 l1 x14_1).f2))) (fun _ h_ => h_.1))) (Kd.R_base ho1) hb)) (And.intro (Aside0.mk (Kd.R_lower (Kd.R_new' ho0 (Kd.R_lt (rP (Kd.R_mono (Kd.R_far (p := ⟨gb332, 2, none⟩) (Kd.R_far (p := ⟨gb332, 1, none⟩) (Kd.R_far (p := ⟨gb332, 0, none⟩) (Kd.R_types HO_331000.out BK332.out (by decide)) (fun _ hk => hk.2) (.int .i64 ((rd_T92 l1 x14_1).f0))) (fun _ hk => hk.2) (.int .i64 ((rd_T92 l1 x14_1).f1))) (fun _ hk => hk.2) (.string ((rd_T92 l1 x14_1).f2))) (fun _ h_ => h_.1))))) (zB HB))) (And.intro (Aside0.mk (Kd.R_lower (Kd.R_new' ho1 (Kd.R_lt (rP (Kd.R_mono (Kd.R_far (p := ⟨gb332, 2, none⟩) (Kd.R_far (p := ⟨gb332, 1, none⟩) (Kd.R_far (p := ⟨gb332, 0, none⟩) (Kd.R_types HO_331001.out BK332.out (by decide)) (fun _ hk => hk.2) (.int .i64 ((rd_T92 l1 x14_1).f0))) (fun _ hk => hk.2) (.int .i64 ((rd_T92 l1 x14_1).f1))) (fun _ hk => hk.2) (.string ((rd_T92 l1 x14_1).f2))) (fun _ h_ => h_.1))))) (zB HB))) (And.intro (kB BK322 hb) (And.intro (kB BK323 hb) (And.intro (kB BK330 hb) (And.intro (Aside0.mk (blk_below (g := gb332) (o := .cells #[.int .i64 ((rd_T92 l1 x14_1).f0), .int .i64 ((rd_T92 l1 x14_1).f1), .string ((rd_T92 l1 x14_1).f2)] 92 (0, 0)) (by (with_reducible repeat (first | refine blk_drewN ?_ _ | refine blk_drew ?_ | refine blk_alloc ?_ _)); refine blk_put (cs := #[.int .i64 ((rd_T92 l1 x14_1).f0), .int .i64 ((rd_T92 l1 x14_1).f1), .string (⟨#[]⟩ : ByteArray)]) ?_ 2 _ rfl; (with_reducible repeat (first | refine blk_drewN ?_ _ | refine blk_drew ?_ | refine blk_alloc ?_ _)); refine blk_put (cs := #[.int .i64 ((rd_T92 l1 x14_1).f0), .int .i64 0, .string (⟨#[]⟩ : ByteArray)]) ?_ 1 _ rfl; (with_reducible repeat (first | refine blk_drewN ?_ _ | refine blk_drew ?_ | refine blk_alloc ?_ _)); refine blk_put (cs := #[.int .i64 0, .int .i64 0, .string (⟨#[]⟩ : ByteArray)]) ?_ 0 _ rfl; (with_reducible repeat (first | refine blk_drewN ?_ _ | refine blk_drew ?_ | refine blk_alloc ?_ _)); exact BK332.out) hb)) (sB HB hb)))))))); clear HO_331000 HO_331001 BK322 BK323 BK330 BK332 HB; obtain ⟨HO_331000, HO_331001, HO343, HO346, BK322, BK323, BK330, BK332, HB⟩ := n_; (try clear hb ho0 ho1); obtain ⟨Ao73, co73, eo73⟩ := Kd.R_slice HO343.out; subst eo73; have hcz74_0 := cZ0 BK330; have hcz74_1 := cZ1 BK330; have hfz74_0 := blk_frozen BK330.out 0; have hfz74_1 := blk_frozen BK330.out 1; obtain ⟨Ao75, co75, eo75⟩ := Kd.R_slice HO346.out; subst eo75))
        go_roundg k1
        case measure => have := HK1.out; omega
        case rel => exact ⟨(wrap64 (x14_1 + 1)), (t341), (t344), (.slice Ao73 t341.length co73), (.slice Ao75 t344.length co75), (by first | rfl | (simp; done) | (simp [*]; done) | (simp; exact (by intro l_; cases l_ <;> rfl : ∀ l_ : List UInt8, l_.isEmpty = !(l_ != [])) _)), H', ⟨by have := HK1.out; omega⟩, ⟨rP (Kd.R_mono (Kd.R_far (p := ⟨gb330, 1, none⟩) (Kd.R_far (p := ⟨gb330, 0, none⟩) (Kd.R_types HO343.out BK330.out (by decide)) (fun _ hk => hk.2) (.slice Ao73 t341.length co73)) (fun _ hk => hk.2) (.slice Ao75 t344.length co75)) (fun _ hk => trivial))⟩, ⟨rP (Kd.R_mono (Kd.R_far (p := ⟨gb330, 1, none⟩) (Kd.R_far (p := ⟨gb330, 0, none⟩) (Kd.R_types HO346.out BK330.out (by decide)) (fun _ hk => hk.2) (.slice Ao73 t341.length co73)) (fun _ hk => hk.2) (.slice Ao75 t344.length co75)) (fun _ hk => trivial))⟩, ⟨kP BK322⟩, ⟨kP BK323⟩, ⟨by (with_reducible repeat (first | refine blk_drewN ?_ _ | refine blk_drew ?_ | refine blk_alloc ?_ _)); refine blk_put (cs := #[.slice Ao73 t341.length co73, .slice Ao71 x331001_1.length co71]) ?_ 1 _ rfl; (with_reducible repeat (first | refine blk_drewN ?_ _ | refine blk_drew ?_ | refine blk_alloc ?_ _)); refine blk_put (cs := #[.slice Ao70 x331000_1.length co70, .slice Ao71 x331001_1.length co71]) ?_ 0 _ rfl; (with_reducible repeat (first | refine blk_drewN ?_ _ | refine blk_drew ?_ | refine blk_alloc ?_ _)); exact BK330.out⟩, ⟨bB⟩⟩
       ·rw [if_neg c60] at H
        have c60b0 : (((rd_T92 l1 x14_1).f0) == 1) = false := beq_eq_false_iff_ne.mpr c60
        have c60b1 : (((rd_T92 l1 x14_1).f0) != 1) = true := bne_iff_ne.mpr c60
        have H' := Aside0.mk H
        clear H
        have p331 : 0 ≤ (x14_1 : Int) := dT
        have q331 : x14_1 < (l1.length : Int) := dT
        obtain ⟨ad331, e331, hx331_0, hx331_1, hx331_2⟩ := at_T92 HR1.out x14_1 p331 q331
        cases e331
        replace hx331_0 := (HB.out.cell (World.block_lt_of_cell? w _ hx331_0)).trans hx331_0
        replace hx331_1 := (HB.out.cell (World.block_lt_of_cell? w _ hx331_1)).trans hx331_1
        replace hx331_2 := (HB.out.cell (World.block_lt_of_cell? w _ hx331_2)).trans hx331_2
        replace p331 := eq_true p331
        replace q331 := eq_true q331
        go_wp2_with (first | ((with_reducible refine gate_dst (N := 7) rfl ?_); refine bE 7 #[.int .i64 0, .int .i64 0, .string (⟨#[]⟩ : ByteArray)] 92 ?_; intro gb332 hg w76 hbox hb; have n_ := And.intro (rB HO_331000 hb) (And.intro (rB HO_331001 hb) (And.intro (kB BK322 hb) (And.intro (kB BK323 hb) (And.intro (kB BK330 hb) (And.intro (sB HB hb) (And.intro (Aside0.mk hbox) (And.intro (gE HB hg) (And.intro (gE HB hg) (And.intro (nL BK322 hg) (And.intro (nG BK322 hg) (And.intro (nL BK323 hg) (And.intro (nG BK323 hg) (And.intro (nL BK330 hg) (nG BK330 hg)))))))))))))); clear HO_331000 HO_331001 BK322 BK323 BK330 HB; obtain ⟨HO_331000, HO_331001, BK322, BK323, BK330, HB, BK332, GW332, GE332, NB322_332, NB332_322, NB323_332, NB332_323, NB330_332, NB332_330⟩ := n_; (try clear hb hbox hg); have hnb77 := NB332_322.out; have hnc77 := NB322_332.out; have hnb78 := NB332_323.out; have hnc78 := NB323_332.out; have hnb79 := NB332_330.out; have hnc79 := NB330_332.out; have hcz80_0 := cZ0 BK332; have hcz80_1 := cZ1 BK332; have hcz80_2 : w76.cell? ⟨gb332, 2, none⟩ = some (.string (⟨#[]⟩ : ByteArray)) := (blk_cell BK332.out 2).trans rfl; have hfz80_0 := blk_frozen BK332.out 0; have hfz80_1 := blk_frozen BK332.out 1; have hfz80_2 := blk_frozen BK332.out 2))
        go_roundg k1
        case measure => have := HK1.out; omega
        case rel => exact ⟨(wrap64 (x14_1 + 1)), (x331000_1), (x331001_1), (u331000), (u331001), (by first | rfl | (simp; done) | (simp [*]; done) | (simp; exact (by intro l_; cases l_ <;> rfl : ∀ l_ : List UInt8, l_.isEmpty = !(l_ != [])) _)), H', ⟨by have := HK1.out; omega⟩, ⟨rP (Kd.R_mono (Kd.R_far (p := ⟨gb332, 2, none⟩) (Kd.R_far (p := ⟨gb332, 1, none⟩) (Kd.R_far (p := ⟨gb332, 0, none⟩) (Kd.R_types HO_331000.out BK332.out (by decide)) (fun _ hk => hk.2) (.int .i64 ((rd_T92 l1 x14_1).f0))) (fun _ hk => hk.2) (.int .i64 ((rd_T92 l1 x14_1).f1))) (fun _ hk => hk.2) (.string ((rd_T92 l1 x14_1).f2))) (fun _ hk => trivial))⟩, ⟨rP (Kd.R_mono (Kd.R_far (p := ⟨gb332, 2, none⟩) (Kd.R_far (p := ⟨gb332, 1, none⟩) (Kd.R_far (p := ⟨gb332, 0, none⟩) (Kd.R_types HO_331001.out BK332.out (by decide)) (fun _ hk => hk.2) (.int .i64 ((rd_T92 l1 x14_1).f0))) (fun _ hk => hk.2) (.int .i64 ((rd_T92 l1 x14_1).f1))) (fun _ hk => hk.2) (.string ((rd_T92 l1 x14_1).f2))) (fun _ hk => trivial))⟩, ⟨kP BK322⟩, ⟨kP BK323⟩, ⟨kP BK330⟩, ⟨bB⟩⟩
     ·rw [if_neg c17] at H
      exact absurd H (by simp)
    ·rw [if_neg c16] at H
     exact absurd H (by simp)
   ·rw [if_neg c15] at H
    have c15b0 : decide (x14_1 < (l1.length : Int)) = false := decide_eq_false c15
    clear c15
    simp only [Option.some.injEq, Prod.mk.injEq] at H
    obtain ⟨rfl, rfl⟩ := H
    have hnb81 := NB330_322.out
    have hnc81 := NB322_330.out
    have hnb82 := NB330_323.out
    have hnc82 := NB323_330.out
    have hcz83_0 := cZ0 BK330
    have hcz83_1 := cZ1 BK330
    have hfz83_0 := blk_frozen BK330.out 0
    have hfz83_1 := blk_frozen BK330.out 1
    obtain ⟨Ao84, co84, eo84⟩ := Kd.R_slice HO_331000.out
    subst eo84
    have hnb85 := NB323_322.out
    have hnc85 := NB322_323.out
    have hcz86_0 := cZ0 BK323
    have hcz86_1 := cZ1 BK323
    have hfz86_0 := blk_frozen BK323.out 0
    have hfz86_1 := blk_frozen BK323.out 1
    obtain ⟨Ao87, co87, eo87⟩ := Kd.R_slice HO_331001.out
    subst eo87
    go_wp2
    refine bodyPost_ret (results_cell_row rfl _ _ gb323 30 #[.slice Ao84 x331000_1.length co84, .slice Ao87 x331001_1.length co87] (0, 0) _ rfl (by (with_reducible repeat (first | refine blk_drewN ?_ _ | refine blk_drew ?_ | refine blk_alloc ?_ _)); refine blk_put (cs := #[.slice Ao84 x331000_1.length co84, .slice none 0 0]) ?_ 1 _ rfl; (with_reducible repeat (first | refine blk_drewN ?_ _ | refine blk_drew ?_ | refine blk_alloc ?_ _)); refine blk_put (cs := #[.slice none 0 0, .slice none 0 0]) ?_ 0 _ rfl; (with_reducible repeat (first | refine blk_drewN ?_ _ | refine blk_drew ?_ | refine blk_alloc ?_ _)); exact BK323.out) Try.underlying30 rfl (by kernel_rfl)) rfl ?_
    exact ⟨_, _, eW, by (with_reducible repeat (first | apply Kd.R_alloc | apply Kd.R_drewN | apply Kd.R_drew)); exact Kd.R_mono (Kd.R_far (p := ⟨gb323, 1, none⟩) (Kd.R_far (p := ⟨gb323, 0, none⟩) (Kd.R_types HO_331000.out BK323.out (by decide)) (fun _ hk => hk.2) (.slice Ao84 x331000_1.length co84)) (fun _ hk => hk.2) (.slice Ao87 x331001_1.length co87)) (fun _ hk => trivial), by (with_reducible repeat (first | apply Kd.R_alloc | apply Kd.R_drewN | apply Kd.R_drew)); exact Kd.R_mono (Kd.R_far (p := ⟨gb323, 1, none⟩) (Kd.R_far (p := ⟨gb323, 0, none⟩) (Kd.R_types HO_331001.out BK323.out (by decide)) (fun _ hk => hk.2) (.slice Ao84 x331000_1.length co84)) (fun _ hk => hk.2) (.slice Ao87 x331001_1.length co87)) (fun _ hk => trivial), bB⟩

/-! ### laws_eqEvent: function 83 -/
def laws_eqEvent.f (a0_0 : Int) (a0_1 : Int) (a0_2 : ByteArray) (a1_0 : Int) (a1_1 : Int) (a1_2 : ByteArray) : Option (Bool) := if a0_0 = a1_0 then (if a0_1 = a1_1 then (if a0_2.toList = a1_2.toList then (some true) else (some false)) else (some false)) else (some false)
set_option maxHeartbeats 8000000 in
set_option maxRecDepth 100000 in
theorem laws_eqEvent.calls (a0_0 : Int) (a0_1 : Int) (a0_2 : ByteArray) (a1_0 : Int) (a1_1 : Int) (a1_2 : ByteArray) (r : Bool) (w : World) (h : laws_eqEvent.f a0_0 a0_1 a0_2 a1_0 a1_1 a1_2 = some r) :
  Calls Try.prog 83 #[.agg #[.int .i64 a0_0, .int .i64 a0_1, .string a0_2], .agg #[.int .i64 a1_0, .int .i64 a1_1, .string a1_2]] w fun e w' => e = .returned (.bool r) ∧ Below w.heap.size w w' := by
 have hu92 := Try.underlying92
 have HB := Aside0.mk (Below.refl w.heap.size w)
 unfold laws_eqEvent.f at h
 have H := h
 clear h
 by_cases c3 : a0_0 = a1_0
 ·rw [if_pos c3] at H
  have c3b0 : (a0_0 == a1_0) = true := beq_iff_eq.mpr c3
  have c3b1 : (a0_0 != a1_0) = false := bne_eq_false_iff_eq.mpr c3
  clear c3
  by_cases c4 : a0_1 = a1_1
  ·rw [if_pos c4] at H
   have c4b0 : (a0_1 == a1_1) = true := beq_iff_eq.mpr c4
   have c4b1 : (a0_1 != a1_1) = false := bne_eq_false_iff_eq.mpr c4
   clear c4
   by_cases c5 : a0_2.toList = a1_2.toList
   ·rw [if_pos c5] at H
    have c5b0 : (a0_2.toList == a1_2.toList) = true := beq_iff_eq.mpr c5
    have c5b1 : (a0_2.toList != a1_2.toList) = false := bne_eq_false_iff_eq.mpr c5
    clear c5
    obtain rfl := Option.some.inj H
    go_enter Try.func83, Try.ntmps83
    go_wp2_with (first | ((with_reducible refine gate_dst (N := 2) rfl ?_); refine bE 2 #[.int .i64 a0_0, .int .i64 a0_1, .string a0_2] 92 ?_; intro gb347 hg w6 hbox hb; have n_ := And.intro (sB HB hb) (And.intro (Aside0.mk hbox) (And.intro (gE HB hg) (gE HB hg))); clear HB; obtain ⟨HB, BK347, GW347, GE347⟩ := n_; (try clear hb hbox hg)) | ((with_reducible refine gate_dst (N := 3) rfl ?_); refine bE 3 #[.int .i64 a1_0, .int .i64 a1_1, .string a1_2] 92 ?_; intro gb348 hg w7 hbox hb; have n_ := And.intro (kB BK347 hb) (And.intro (sB HB hb) (And.intro (Aside0.mk hbox) (And.intro (gE HB hg) (And.intro (gE HB hg) (And.intro (nL BK347 hg) (nG BK347 hg)))))); clear BK347 HB; obtain ⟨BK347, HB, BK348, GW348, GE348, NB347_348, NB348_347⟩ := n_; (try clear hb hbox hg); have hnb8 := NB347_348.out; have hnc8 := NB348_347.out; have hcz9_0 := cZ0 BK347; have hcz9_1 := cZ1 BK347; have hcz9_2 : w7.cell? ⟨gb347, 2, none⟩ = some (.string a0_2) := (blk_cell BK347.out 2).trans rfl; have hfz9_0 := blk_frozen BK347.out 0; have hfz9_1 := blk_frozen BK347.out 1; have hfz9_2 := blk_frozen BK347.out 2; have hcz10_0 := cZ0 BK348; have hcz10_1 := cZ1 BK348; have hcz10_2 : w7.cell? ⟨gb348, 2, none⟩ = some (.string a1_2) := (blk_cell BK348.out 2).trans rfl; have hfz10_0 := blk_frozen BK348.out 0; have hfz10_1 := blk_frozen BK348.out 1; have hfz10_2 := blk_frozen BK348.out 2))
    go_ret
    exact ⟨eW, bB⟩
   rw [if_neg c5] at H
   have c5b0 : (a0_2.toList == a1_2.toList) = false := beq_eq_false_iff_ne.mpr c5
   have c5b1 : (a0_2.toList != a1_2.toList) = true := bne_iff_ne.mpr c5
   obtain rfl := Option.some.inj H
   go_enter Try.func83, Try.ntmps83
   go_wp2_with (first | ((with_reducible refine gate_dst (N := 2) rfl ?_); refine bE 2 #[.int .i64 a0_0, .int .i64 a0_1, .string a0_2] 92 ?_; intro gb347 hg w11 hbox hb; have n_ := And.intro (sB HB hb) (And.intro (Aside0.mk hbox) (And.intro (gE HB hg) (gE HB hg))); clear HB; obtain ⟨HB, BK347, GW347, GE347⟩ := n_; (try clear hb hbox hg)) | ((with_reducible refine gate_dst (N := 3) rfl ?_); refine bE 3 #[.int .i64 a1_0, .int .i64 a1_1, .string a1_2] 92 ?_; intro gb348 hg w12 hbox hb; have n_ := And.intro (kB BK347 hb) (And.intro (sB HB hb) (And.intro (Aside0.mk hbox) (And.intro (gE HB hg) (And.intro (gE HB hg) (And.intro (nL BK347 hg) (nG BK347 hg)))))); clear BK347 HB; obtain ⟨BK347, HB, BK348, GW348, GE348, NB347_348, NB348_347⟩ := n_; (try clear hb hbox hg); have hnb13 := NB347_348.out; have hnc13 := NB348_347.out; have hcz14_0 := cZ0 BK347; have hcz14_1 := cZ1 BK347; have hcz14_2 : w12.cell? ⟨gb347, 2, none⟩ = some (.string a0_2) := (blk_cell BK347.out 2).trans rfl; have hfz14_0 := blk_frozen BK347.out 0; have hfz14_1 := blk_frozen BK347.out 1; have hfz14_2 := blk_frozen BK347.out 2; have hcz15_0 := cZ0 BK348; have hcz15_1 := cZ1 BK348; have hcz15_2 : w12.cell? ⟨gb348, 2, none⟩ = some (.string a1_2) := (blk_cell BK348.out 2).trans rfl; have hfz15_0 := blk_frozen BK348.out 0; have hfz15_1 := blk_frozen BK348.out 1; have hfz15_2 := blk_frozen BK348.out 2))
   go_ret
   exact ⟨eW, bB⟩
  rw [if_neg c4] at H
  have c4b0 : (a0_1 == a1_1) = false := beq_eq_false_iff_ne.mpr c4
  have c4b1 : (a0_1 != a1_1) = true := bne_iff_ne.mpr c4
  obtain rfl := Option.some.inj H
  go_enter Try.func83, Try.ntmps83
  go_wp2_with (first | ((with_reducible refine gate_dst (N := 2) rfl ?_); refine bE 2 #[.int .i64 a0_0, .int .i64 a0_1, .string a0_2] 92 ?_; intro gb347 hg w16 hbox hb; have n_ := And.intro (sB HB hb) (And.intro (Aside0.mk hbox) (And.intro (gE HB hg) (gE HB hg))); clear HB; obtain ⟨HB, BK347, GW347, GE347⟩ := n_; (try clear hb hbox hg)) | ((with_reducible refine gate_dst (N := 3) rfl ?_); refine bE 3 #[.int .i64 a1_0, .int .i64 a1_1, .string a1_2] 92 ?_; intro gb348 hg w17 hbox hb; have n_ := And.intro (kB BK347 hb) (And.intro (sB HB hb) (And.intro (Aside0.mk hbox) (And.intro (gE HB hg) (And.intro (gE HB hg) (And.intro (nL BK347 hg) (nG BK347 hg)))))); clear BK347 HB; obtain ⟨BK347, HB, BK348, GW348, GE348, NB347_348, NB348_347⟩ := n_; (try clear hb hbox hg); have hnb18 := NB347_348.out; have hnc18 := NB348_347.out; have hcz19_0 := cZ0 BK347; have hcz19_1 := cZ1 BK347; have hcz19_2 : w17.cell? ⟨gb347, 2, none⟩ = some (.string a0_2) := (blk_cell BK347.out 2).trans rfl; have hfz19_0 := blk_frozen BK347.out 0; have hfz19_1 := blk_frozen BK347.out 1; have hfz19_2 := blk_frozen BK347.out 2; have hcz20_0 := cZ0 BK348; have hcz20_1 := cZ1 BK348; have hcz20_2 : w17.cell? ⟨gb348, 2, none⟩ = some (.string a1_2) := (blk_cell BK348.out 2).trans rfl; have hfz20_0 := blk_frozen BK348.out 0; have hfz20_1 := blk_frozen BK348.out 1; have hfz20_2 := blk_frozen BK348.out 2))
  go_ret
  exact ⟨eW, bB⟩
 rw [if_neg c3] at H
 have c3b0 : (a0_0 == a1_0) = false := beq_eq_false_iff_ne.mpr c3
 have c3b1 : (a0_0 != a1_0) = true := bne_iff_ne.mpr c3
 obtain rfl := Option.some.inj H
 go_enter Try.func83, Try.ntmps83
 go_wp2_with (first | ((with_reducible refine gate_dst (N := 2) rfl ?_); refine bE 2 #[.int .i64 a0_0, .int .i64 a0_1, .string a0_2] 92 ?_; intro gb347 hg w21 hbox hb; have n_ := And.intro (sB HB hb) (And.intro (Aside0.mk hbox) (And.intro (gE HB hg) (gE HB hg))); clear HB; obtain ⟨HB, BK347, GW347, GE347⟩ := n_; (try clear hb hbox hg)) | ((with_reducible refine gate_dst (N := 3) rfl ?_); refine bE 3 #[.int .i64 a1_0, .int .i64 a1_1, .string a1_2] 92 ?_; intro gb348 hg w22 hbox hb; have n_ := And.intro (kB BK347 hb) (And.intro (sB HB hb) (And.intro (Aside0.mk hbox) (And.intro (gE HB hg) (And.intro (gE HB hg) (And.intro (nL BK347 hg) (nG BK347 hg)))))); clear BK347 HB; obtain ⟨BK347, HB, BK348, GW348, GE348, NB347_348, NB348_347⟩ := n_; (try clear hb hbox hg); have hnb23 := NB347_348.out; have hnc23 := NB348_347.out; have hcz24_0 := cZ0 BK347; have hcz24_1 := cZ1 BK347; have hcz24_2 : w22.cell? ⟨gb347, 2, none⟩ = some (.string a0_2) := (blk_cell BK347.out 2).trans rfl; have hfz24_0 := blk_frozen BK347.out 0; have hfz24_1 := blk_frozen BK347.out 1; have hfz24_2 := blk_frozen BK347.out 2; have hcz25_0 := cZ0 BK348; have hcz25_1 := cZ1 BK348; have hcz25_2 : w22.cell? ⟨gb348, 2, none⟩ = some (.string a1_2) := (blk_cell BK348.out 2).trans rfl; have hfz25_0 := blk_frozen BK348.out 0; have hfz25_1 := blk_frozen BK348.out 1; have hfz25_2 := blk_frozen BK348.out 2))
 go_ret
 exact ⟨eW, bB⟩

/-! ### laws_eqEventS: function 42 -/
def laws_eqEventS.l0 : Nat → List (S92) → List (S92) → Int → Option (Bool)
 | 0, _, _, _ => none
 | k + 1, x0, x1, x5 => if x5 < (x0.length : Int) then (if 0 ≤ x5 then (if x5 < (x1.length : Int) then ((laws_eqEvent.f ((rd_T92 x0 x5).f0) ((rd_T92 x0 x5).f1) ((rd_T92 x0 x5).f2) ((rd_T92 x1 x5).f0) ((rd_T92 x1 x5).f1) ((rd_T92 x1 x5).f2)).bind fun t351 => (if t351 = true then (laws_eqEventS.l0 k x0 x1 (wrap64 (x5 + 1))) else (some false))) else (none)) else (none)) else (some true)
def laws_eqEventS.f (k : Nat) (l0 : List (S92)) (l1 : List (S92)) : Option (Bool) := if (l0.length : Int) = (l1.length : Int) then (laws_eqEventS.l0 k l0 l1 0) else (some false)
theorem laws_eqEventS.mono_l : ∀ k, (∀ y0 y1 y2, LeO (laws_eqEventS.l0 k y0 y1 y2) (laws_eqEventS.l0 (k + 1) y0 y1 y2))
 | 0 => fun _ _ _ r h => by simp [laws_eqEventS.l0] at h
 | k + 1 => by
  have ih0 := laws_eqEventS.mono_l k
  ·intro y0 y1 y2
   unfold laws_eqEventS.l0
   exact mM
theorem laws_eqEventS.mono : ∀ a0 a1 k, LeO (laws_eqEventS.f k a0 a1) (laws_eqEventS.f (k + 1) a0 a1) := by
 intro a0 a1 k
 have ih0 := laws_eqEventS.mono_l k
 unfold laws_eqEventS.f
 exact mM
def laws_eqEventS.T6 : Bool × List (List Nat × List Nat) := (true, [([], []), ([], []), ([0, 1], [0, 1]), ([2], [2]), ([], []), ([], []), ([4, 5], [4, 5]), ([6], [6]), ([3, 7], [3, 7]), ([8], [8])])
def laws_eqEventS.B6 : List Nat := [0, 0, 3, 7, 0, 0, 48, 112, 255, 511]
theorem laws_eqEventS.tab6 : rtab .any (opsOf Try.f42 6) = laws_eqEventS.T6 := by kernel_rfl
theorem laws_eqEventS.bits6 : waitsOk laws_eqEventS.T6.2 laws_eqEventS.B6 = true := by kernel_rfl
set_option maxHeartbeats 8000000 in
set_option maxRecDepth 100000 in
theorem laws_eqEventS.calls (k : Nat) (A0 : Option Addr) (c0 : Nat) (l0 : List (S92)) (A1 : Option Addr) (c1 : Nat) (l1 : List (S92)) (r : Bool) (w : World) (hr0 : Kd.C k92 w A0 l0.length l0) (hc0 : l0.length ≤ c0) (hr1 : Kd.C k92 w A1 l1.length l1) (hc1 : l1.length ≤ c1) (h : laws_eqEventS.f k l0 l1 = some r) :
  Calls Try.prog 42 #[.slice A0 l0.length c0, .slice A1 l1.length c1] w fun e w' => e = .returned (.bool r) ∧ Below w.heap.size w w' := by
 have hu92 := Try.underlying92
 have HR0 := Aside0.mk hr0
 have HC0 := Aside0.mk hc0
 clear hr0 hc0
 have HR1 := Aside0.mk hr1
 have HC1 := Aside0.mk hc1
 clear hr1 hc1
 have HB := Aside0.mk (Below.refl w.heap.size w)
 unfold laws_eqEventS.f at h
 have H := h
 clear h
 by_cases c3 : (l0.length : Int) = (l1.length : Int)
 ·rw [if_pos c3] at H
  have c3b0 : ((l0.length : Int) == (l1.length : Int)) = true := beq_iff_eq.mpr c3
  have c3b1 : ((l0.length : Int) != (l1.length : Int)) = false := bne_eq_false_iff_eq.mpr c3
  have c3b2 : (l0.length == l1.length) = true := by first | simpa using c3 | (simp at c3 ⊢; omega)
  clear c3
  have H' := Aside0.mk H
  clear H
  go_enter Try.func42, Try.ntmps42
  go_wp2
  go_loopg [5] k (fun kq v5 w' => ∃ (x5_1 : Int), v5 = .int .i64 x5_1 ∧ Aside0 (laws_eqEventS.l0 kq l0 l1 x5_1 = some r) ∧ Aside0 (kq ≤ k) ∧ Aside0 (Below w.heap.size w w'))
  case atStart => exact ⟨(0), (by first | rfl | (simp; done) | (simp [*]; done) | (simp; exact (by intro l_; cases l_ <;> rfl : ∀ l_ : List UInt8, l_.isEmpty = !(l_ != [])) _)), H', ⟨Nat.le_refl _⟩, ⟨bB⟩⟩
  case round =>
   clear H'
   try clear c1
   try clear p2
   try clear c3
   try clear c3b0
   try clear c3b1
   try clear c3b2
   obtain ⟨x5_1, rfl, HA, HK1, HB⟩ := hrel
   cases gk with
   | zero => exact absurd HA.out (by simp [laws_eqEventS.l0])
   | succ k1 =>
    have H := HA.out
    clear HA
    simp only [laws_eqEventS.l0] at H
    by_cases c4 : x5_1 < (l0.length : Int)
    ·rw [if_pos c4] at H
     have c4b0 : decide (x5_1 < (l0.length : Int)) = true := decide_eq_true c4
     clear c4
     by_cases c5 : 0 ≤ x5_1
     ·rw [if_pos c5] at H
      have c5b0 : decide (0 ≤ x5_1) = true := decide_eq_true c5
      clear c5
      by_cases c6 : x5_1 < (l1.length : Int)
      ·rw [if_pos c6] at H
       have c6b0 : decide (x5_1 < (l1.length : Int)) = true := decide_eq_true c6
       clear c6
       replace H := Option.bind_eq_some_iff.mp H
       obtain ⟨t351, A70, H⟩ := H
       try dsimp only at H
       have A7 := Aside0.mk A70
       clear A70
       by_cases c8 : t351 = true
       ·subst c8
        rw [if_pos rfl] at H
        have H' := Aside0.mk H
        clear H
        try go_wp2
        have n0_ := Aside0.mk (below_drew1 HB.out)
        clear HB
        have HB := n0_
        clear n0_
        have p349 : 0 ≤ (x5_1 : Int) := dT
        have q349 : x5_1 < (l0.length : Int) := dT
        obtain ⟨ad349, e349, hx349_0, hx349_1, hx349_2⟩ := at_T92 HR0.out x5_1 p349 q349
        have hw349_2 := hx349_2
        have hw349_1 := hx349_1
        have hw349_0 := hx349_0
        cases e349
        replace hx349_0 := (HB.out.cell (World.block_lt_of_cell? w _ hx349_0)).trans hx349_0
        replace hx349_1 := (HB.out.cell (World.block_lt_of_cell? w _ hx349_1)).trans hx349_1
        replace hx349_2 := (HB.out.cell (World.block_lt_of_cell? w _ hx349_2)).trans hx349_2
        replace p349 := eq_true p349
        replace q349 := eq_true q349
        have p350 : 0 ≤ (x5_1 : Int) := dT
        have q350 : x5_1 < (l1.length : Int) := dT
        obtain ⟨ad350, e350, hx350_0, hx350_1, hx350_2⟩ := at_T92 HR1.out x5_1 p350 q350
        have hw350_2 := hx350_2
        have hw350_1 := hx350_1
        have hw350_0 := hx350_0
        cases e350
        replace hx350_0 := (HB.out.cell (World.block_lt_of_cell? w _ hx350_0)).trans hx350_0
        replace hx350_1 := (HB.out.cell (World.block_lt_of_cell? w _ hx350_1)).trans hx350_1
        replace hx350_2 := (HB.out.cell (World.block_lt_of_cell? w _ hx350_2)).trans hx350_2
        replace p350 := eq_true p350
        replace q350 := eq_true q350
        refine start_ (n := 10) (S := fun w' => w'.cell? (ad349.add ((x5_1).toNat * 3)) = some (.int .i64 ((rd_T92 l0 x5_1).f0)) ∧ w'.cell? ⟨(ad349.add ((x5_1).toNat * 3)).block, (ad349.add ((x5_1).toNat * 3)).off + 1, none⟩ = some (.int .i64 ((rd_T92 l0 x5_1).f1)) ∧ w'.cell? ⟨(ad349.add ((x5_1).toNat * 3)).block, (ad349.add ((x5_1).toNat * 3)).off + 2, none⟩ = some (.string ((rd_T92 l0 x5_1).f2)) ∧ w'.cell? (ad350.add ((x5_1).toNat * 3)) = some (.int .i64 ((rd_T92 l1 x5_1).f0)) ∧ w'.cell? ⟨(ad350.add ((x5_1).toNat * 3)).block, (ad350.add ((x5_1).toNat * 3)).off + 1, none⟩ = some (.int .i64 ((rd_T92 l1 x5_1).f1)) ∧ w'.cell? ⟨(ad350.add ((x5_1).toNat * 3)).block, (ad350.add ((x5_1).toNat * 3)).off + 2, none⟩ = some (.string ((rd_T92 l1 x5_1).f2))) (ds := []) #[false, false, false, false, false, false, false, false, false, false] (by kernel_rfl) rfl rfl ⟨((HB.out.cell (World.block_lt_of_cell? w _ hw349_0)).trans hw349_0), ((HB.out.cell (World.block_lt_of_cell? w _ hw349_1)).trans hw349_1), ((HB.out.cell (World.block_lt_of_cell? w _ hw349_2)).trans hw349_2), ((HB.out.cell (World.block_lt_of_cell? w _ hw350_0)).trans hw350_0), ((HB.out.cell (World.block_lt_of_cell? w _ hw350_1)).trans hw350_1), ((HB.out.cell (World.block_lt_of_cell? w _ hw350_2)).trans hw350_2)⟩ (fun hHeld => ?_); refine with_tabW laws_eqEventS.tab6 laws_eqEventS.bits6 (fun HT_ HW_ => ?_)
        generalize wr.drew = w9 at HB hx349_0 hx349_1 hx349_2 hx350_0 hx350_1 hx350_2 hHeld ⊢
        refine pure_ (i := 0) (N := some 17) (v := ?_) (a' := ?_) #[true, false, false, false, false, false, false, false, false, false] rfl rfl (any_of HT_.out (by kernel_rfl)) (fun _ _ _ h => h) (Or.inl ⟨by rfl, ?_⟩) ?_ ?_
        rotate_left
        ·intro w'
         go_simp
         with_reducible rfl
        rotate_left
        ·simp only [Act.put, List.setIfInBounds_toArray, List.set_cons_zero, List.set_cons_succ, i64_w, i32_w]
         rfl
        refine pure_ (i := 1) (N := some 18) (v := ?_) (a' := ?_) #[true, true, false, false, false, false, false, false, false, false] rfl rfl (any_of HT_.out (by kernel_rfl)) (fun _ _ _ h => h) (Or.inl ⟨by rfl, ?_⟩) ?_ ?_
        rotate_left
        ·intro w'
         go_simp
         with_reducible rfl
        rotate_left
        ·simp only [Act.put, List.setIfInBounds_toArray, List.set_cons_zero, List.set_cons_succ, i64_w, i32_w]
         rfl
        refine pure_ (i := 2) (N := some 19) (v := ?_) (a' := ?_) #[true, true, true, false, false, false, false, false, false, false] rfl rfl (any_of HT_.out (by kernel_rfl)) (fun _ _ _ h => h) (Or.inl ⟨by rfl, ?_⟩) ?_ ?_
        rotate_left
        ·intro w'
         go_simp
         with_reducible rfl
        rotate_left
        ·simp only [Act.put, List.setIfInBounds_toArray, List.set_cons_zero, List.set_cons_succ, i64_w, i32_w]
         rfl
        refine pure_ (i := 4) (N := some 21) (v := ?_) (a' := ?_) #[true, true, true, false, true, false, false, false, false, false] rfl rfl (any_of HT_.out (by kernel_rfl)) (fun _ _ _ h => h) (Or.inl ⟨by rfl, ?_⟩) ?_ ?_
        rotate_left
        ·intro w'
         go_simp
         with_reducible rfl
        rotate_left
        ·simp only [Act.put, List.setIfInBounds_toArray, List.set_cons_zero, List.set_cons_succ, i64_w, i32_w]
         rfl
        refine pure_ (i := 5) (N := some 22) (v := ?_) (a' := ?_) #[true, true, true, false, true, true, false, false, false, false] rfl rfl (any_of HT_.out (by kernel_rfl)) (fun _ _ _ h => h) (Or.inl ⟨by rfl, ?_⟩) ?_ ?_
        rotate_left
        ·intro w'
         go_simp
         with_reducible rfl
        rotate_left
        ·simp only [Act.put, List.setIfInBounds_toArray, List.set_cons_zero, List.set_cons_succ, i64_w, i32_w]
         rfl
        refine pure_ (i := 6) (N := some 23) (v := ?_) (a' := ?_) #[true, true, true, false, true, true, true, false, false, false] rfl rfl (any_of HT_.out (by kernel_rfl)) (fun _ _ _ h => h) (Or.inl ⟨by rfl, ?_⟩) ?_ ?_
        rotate_left
        ·intro w'
         go_simp
         with_reducible rfl
        rotate_left
        ·simp only [Act.put, List.setIfInBounds_toArray, List.set_cons_zero, List.set_cons_succ, i64_w, i32_w]
         rfl
        refine take_ (i := 3) (N := some 20) (v := ?_) (a' := ?_) #[true, true, true, true, true, true, true, false, false, false] rfl rfl (take_ofW HT_.out HW_.out (by kernel_rfl)) (fun _ _ _ h => h) (Or.inl ⟨by rfl, ?_⟩) hHeld ?_ ?_
        rotate_left
        ·rintro w' ⟨s0, s1, s2, s3, s4, s5⟩
         go_simp
         with_reducible rfl
        rotate_left
        ·simp only [Act.put, List.setIfInBounds_toArray, List.set_cons_zero, List.set_cons_succ, i64_w, i32_w]
         rfl
        refine take_ (i := 7) (N := some 24) (v := ?_) (a' := ?_) #[true, true, true, true, true, true, true, true, false, false] rfl rfl (take_ofW HT_.out HW_.out (by kernel_rfl)) (fun _ _ _ h => h) (Or.inl ⟨by rfl, ?_⟩) hHeld ?_ ?_
        rotate_left
        ·rintro w' ⟨s0, s1, s2, s3, s4, s5⟩
         go_simp
         with_reducible rfl
        rotate_left
        ·simp only [Act.put, List.setIfInBounds_toArray, List.set_cons_zero, List.set_cons_succ, i64_w, i32_w]
         rfl
        refine one_ (i := 8) (N := some 25) #[true, true, true, true, true, true, true, true, true, false] rfl rfl (one_of HT_.out (by kernel_rfl)) (by decide) (fun K hK => ?_)
        refine goes_ Try.func83 (by kernel_rfl) rfl #[.agg #[.int .i64 ((rd_T92 l0 x5_1).f0), .int .i64 ((rd_T92 l0 x5_1).f1), .string ((rd_T92 l0 x5_1).f2)], .agg #[.int .i64 ((rd_T92 l1 x5_1).f0), .int .i64 ((rd_T92 l1 x5_1).f1), .string ((rd_T92 l1 x5_1).f2)]] (by rfl) rfl rfl (by (try simp only [List.map_toArray, List.map_cons, List.map_nil]); first | done | rfl | (simp only [List.length_drop, List.length_take]; rfl)) ?_
        with_reducible refine (laws_eqEvent.calls ((rd_T92 l0 x5_1).f0) ((rd_T92 l0 x5_1).f1) ((rd_T92 l0 x5_1).f2) ((rd_T92 l1 x5_1).f0) ((rd_T92 l1 x5_1).f1) ((rd_T92 l1 x5_1).f2) true _ A7.out).mono ?_
        rintro e w10 ⟨rfl, hb⟩
        refine ⟨_, rfl, ?_⟩
        have n0_ := sB HB hb
        clear HB
        have HB := n0_
        clear n0_
        (try clear hb)
        (try clear hb2)
        (try clear hk)
        (try clear hi)
        refine hK.out _ _ ⟨((HB.out.cell (World.block_lt_of_cell? w _ hw349_0)).trans hw349_0), ((HB.out.cell (World.block_lt_of_cell? w _ hw349_1)).trans hw349_1), ((HB.out.cell (World.block_lt_of_cell? w _ hw349_2)).trans hw349_2), ((HB.out.cell (World.block_lt_of_cell? w _ hw350_0)).trans hw350_0), ((HB.out.cell (World.block_lt_of_cell? w _ hw350_1)).trans hw350_1), ((HB.out.cell (World.block_lt_of_cell? w _ hw350_2)).trans hw350_2)⟩ (fun hHeld => ?_)
        clear hK K
        refine norm_ (a' := ?_) ?_ ?_
        rotate_left
        ·show Act.put _ (some 25) _ = _
         simp only [Act.put, List.setIfInBounds_toArray, List.set_cons_zero, List.set_cons_succ, i64_w, i32_w]
         rfl
        refine pure_ (i := 9) (N := some 26) (v := ?_) (a' := ?_) #[true, true, true, true, true, true, true, true, true, true] rfl rfl (any_of HT_.out (by kernel_rfl)) (fun _ _ _ h => h) (Or.inl ⟨by rfl, ?_⟩) ?_ ?_
        rotate_left
        ·intro w'
         go_simp
         with_reducible rfl
        rotate_left
        ·simp only [Act.put, List.setIfInBounds_toArray, List.set_cons_zero, List.set_cons_succ, i64_w, i32_w]
         rfl
        refine done_ (done_of HT_.out (by kernel_rfl)) ?_
        try go_wp2
        go_roundg k1
        case measure => have := HK1.out; omega
        case rel => exact ⟨(wrap64 (x5_1 + 1)), (by first | rfl | (simp; done) | (simp [*]; done) | (simp; exact (by intro l_; cases l_ <;> rfl : ∀ l_ : List UInt8, l_.isEmpty = !(l_ != [])) _)), H', ⟨by have := HK1.out; omega⟩, ⟨bB⟩⟩
       ·replace c8 := Bool.eq_false_iff.mpr c8
        subst c8
        rw [if_neg (show ¬ (false = true) by decide)] at H
        obtain rfl := Option.some.inj H
        try go_wp2
        have n0_ := Aside0.mk (below_drew1 HB.out)
        clear HB
        have HB := n0_
        clear n0_
        have p349 : 0 ≤ (x5_1 : Int) := dT
        have q349 : x5_1 < (l0.length : Int) := dT
        obtain ⟨ad349, e349, hx349_0, hx349_1, hx349_2⟩ := at_T92 HR0.out x5_1 p349 q349
        have hw349_2 := hx349_2
        have hw349_1 := hx349_1
        have hw349_0 := hx349_0
        cases e349
        replace hx349_0 := (HB.out.cell (World.block_lt_of_cell? w _ hx349_0)).trans hx349_0
        replace hx349_1 := (HB.out.cell (World.block_lt_of_cell? w _ hx349_1)).trans hx349_1
        replace hx349_2 := (HB.out.cell (World.block_lt_of_cell? w _ hx349_2)).trans hx349_2
        replace p349 := eq_true p349
        replace q349 := eq_true q349
        have p350 : 0 ≤ (x5_1 : Int) := dT
        have q350 : x5_1 < (l1.length : Int) := dT
        obtain ⟨ad350, e350, hx350_0, hx350_1, hx350_2⟩ := at_T92 HR1.out x5_1 p350 q350
        have hw350_2 := hx350_2
        have hw350_1 := hx350_1
        have hw350_0 := hx350_0
        cases e350
        replace hx350_0 := (HB.out.cell (World.block_lt_of_cell? w _ hx350_0)).trans hx350_0
        replace hx350_1 := (HB.out.cell (World.block_lt_of_cell? w _ hx350_1)).trans hx350_1
        replace hx350_2 := (HB.out.cell (World.block_lt_of_cell? w _ hx350_2)).trans hx350_2
        replace p350 := eq_true p350
        replace q350 := eq_true q350
        refine start_ (n := 10) (S := fun w' => w'.cell? (ad349.add ((x5_1).toNat * 3)) = some (.int .i64 ((rd_T92 l0 x5_1).f0)) ∧ w'.cell? ⟨(ad349.add ((x5_1).toNat * 3)).block, (ad349.add ((x5_1).toNat * 3)).off + 1, none⟩ = some (.int .i64 ((rd_T92 l0 x5_1).f1)) ∧ w'.cell? ⟨(ad349.add ((x5_1).toNat * 3)).block, (ad349.add ((x5_1).toNat * 3)).off + 2, none⟩ = some (.string ((rd_T92 l0 x5_1).f2)) ∧ w'.cell? (ad350.add ((x5_1).toNat * 3)) = some (.int .i64 ((rd_T92 l1 x5_1).f0)) ∧ w'.cell? ⟨(ad350.add ((x5_1).toNat * 3)).block, (ad350.add ((x5_1).toNat * 3)).off + 1, none⟩ = some (.int .i64 ((rd_T92 l1 x5_1).f1)) ∧ w'.cell? ⟨(ad350.add ((x5_1).toNat * 3)).block, (ad350.add ((x5_1).toNat * 3)).off + 2, none⟩ = some (.string ((rd_T92 l1 x5_1).f2))) (ds := []) #[false, false, false, false, false, false, false, false, false, false] (by kernel_rfl) rfl rfl ⟨((HB.out.cell (World.block_lt_of_cell? w _ hw349_0)).trans hw349_0), ((HB.out.cell (World.block_lt_of_cell? w _ hw349_1)).trans hw349_1), ((HB.out.cell (World.block_lt_of_cell? w _ hw349_2)).trans hw349_2), ((HB.out.cell (World.block_lt_of_cell? w _ hw350_0)).trans hw350_0), ((HB.out.cell (World.block_lt_of_cell? w _ hw350_1)).trans hw350_1), ((HB.out.cell (World.block_lt_of_cell? w _ hw350_2)).trans hw350_2)⟩ (fun hHeld => ?_); refine with_tabW laws_eqEventS.tab6 laws_eqEventS.bits6 (fun HT_ HW_ => ?_)
        generalize wr.drew = w11 at HB hx349_0 hx349_1 hx349_2 hx350_0 hx350_1 hx350_2 hHeld ⊢
        refine pure_ (i := 0) (N := some 17) (v := ?_) (a' := ?_) #[true, false, false, false, false, false, false, false, false, false] rfl rfl (any_of HT_.out (by kernel_rfl)) (fun _ _ _ h => h) (Or.inl ⟨by rfl, ?_⟩) ?_ ?_
        rotate_left
        ·intro w'
         go_simp
         with_reducible rfl
        rotate_left
        ·simp only [Act.put, List.setIfInBounds_toArray, List.set_cons_zero, List.set_cons_succ, i64_w, i32_w]
         rfl
        refine pure_ (i := 1) (N := some 18) (v := ?_) (a' := ?_) #[true, true, false, false, false, false, false, false, false, false] rfl rfl (any_of HT_.out (by kernel_rfl)) (fun _ _ _ h => h) (Or.inl ⟨by rfl, ?_⟩) ?_ ?_
        rotate_left
        ·intro w'
         go_simp
         with_reducible rfl
        rotate_left
        ·simp only [Act.put, List.setIfInBounds_toArray, List.set_cons_zero, List.set_cons_succ, i64_w, i32_w]
         rfl
        refine pure_ (i := 2) (N := some 19) (v := ?_) (a' := ?_) #[true, true, true, false, false, false, false, false, false, false] rfl rfl (any_of HT_.out (by kernel_rfl)) (fun _ _ _ h => h) (Or.inl ⟨by rfl, ?_⟩) ?_ ?_
        rotate_left
        ·intro w'
         go_simp
         with_reducible rfl
        rotate_left
        ·simp only [Act.put, List.setIfInBounds_toArray, List.set_cons_zero, List.set_cons_succ, i64_w, i32_w]
         rfl
        refine pure_ (i := 4) (N := some 21) (v := ?_) (a' := ?_) #[true, true, true, false, true, false, false, false, false, false] rfl rfl (any_of HT_.out (by kernel_rfl)) (fun _ _ _ h => h) (Or.inl ⟨by rfl, ?_⟩) ?_ ?_
        rotate_left
        ·intro w'
         go_simp
         with_reducible rfl
        rotate_left
        ·simp only [Act.put, List.setIfInBounds_toArray, List.set_cons_zero, List.set_cons_succ, i64_w, i32_w]
         rfl
        refine pure_ (i := 5) (N := some 22) (v := ?_) (a' := ?_) #[true, true, true, false, true, true, false, false, false, false] rfl rfl (any_of HT_.out (by kernel_rfl)) (fun _ _ _ h => h) (Or.inl ⟨by rfl, ?_⟩) ?_ ?_
        rotate_left
        ·intro w'
         go_simp
         with_reducible rfl
        rotate_left
        ·simp only [Act.put, List.setIfInBounds_toArray, List.set_cons_zero, List.set_cons_succ, i64_w, i32_w]
         rfl
        refine pure_ (i := 6) (N := some 23) (v := ?_) (a' := ?_) #[true, true, true, false, true, true, true, false, false, false] rfl rfl (any_of HT_.out (by kernel_rfl)) (fun _ _ _ h => h) (Or.inl ⟨by rfl, ?_⟩) ?_ ?_
        rotate_left
        ·intro w'
         go_simp
         with_reducible rfl
        rotate_left
        ·simp only [Act.put, List.setIfInBounds_toArray, List.set_cons_zero, List.set_cons_succ, i64_w, i32_w]
         rfl
        refine take_ (i := 3) (N := some 20) (v := ?_) (a' := ?_) #[true, true, true, true, true, true, true, false, false, false] rfl rfl (take_ofW HT_.out HW_.out (by kernel_rfl)) (fun _ _ _ h => h) (Or.inl ⟨by rfl, ?_⟩) hHeld ?_ ?_
        rotate_left
        ·rintro w' ⟨s0, s1, s2, s3, s4, s5⟩
         go_simp
         with_reducible rfl
        rotate_left
        ·simp only [Act.put, List.setIfInBounds_toArray, List.set_cons_zero, List.set_cons_succ, i64_w, i32_w]
         rfl
        refine take_ (i := 7) (N := some 24) (v := ?_) (a' := ?_) #[true, true, true, true, true, true, true, true, false, false] rfl rfl (take_ofW HT_.out HW_.out (by kernel_rfl)) (fun _ _ _ h => h) (Or.inl ⟨by rfl, ?_⟩) hHeld ?_ ?_
        rotate_left
        ·rintro w' ⟨s0, s1, s2, s3, s4, s5⟩
         go_simp
         with_reducible rfl
        rotate_left
        ·simp only [Act.put, List.setIfInBounds_toArray, List.set_cons_zero, List.set_cons_succ, i64_w, i32_w]
         rfl
        refine one_ (i := 8) (N := some 25) #[true, true, true, true, true, true, true, true, true, false] rfl rfl (one_of HT_.out (by kernel_rfl)) (by decide) (fun K hK => ?_)
        refine goes_ Try.func83 (by kernel_rfl) rfl #[.agg #[.int .i64 ((rd_T92 l0 x5_1).f0), .int .i64 ((rd_T92 l0 x5_1).f1), .string ((rd_T92 l0 x5_1).f2)], .agg #[.int .i64 ((rd_T92 l1 x5_1).f0), .int .i64 ((rd_T92 l1 x5_1).f1), .string ((rd_T92 l1 x5_1).f2)]] (by rfl) rfl rfl (by (try simp only [List.map_toArray, List.map_cons, List.map_nil]); first | done | rfl | (simp only [List.length_drop, List.length_take]; rfl)) ?_
        with_reducible refine (laws_eqEvent.calls ((rd_T92 l0 x5_1).f0) ((rd_T92 l0 x5_1).f1) ((rd_T92 l0 x5_1).f2) ((rd_T92 l1 x5_1).f0) ((rd_T92 l1 x5_1).f1) ((rd_T92 l1 x5_1).f2) false _ A7.out).mono ?_
        rintro e w12 ⟨rfl, hb⟩
        refine ⟨_, rfl, ?_⟩
        have n0_ := sB HB hb
        clear HB
        have HB := n0_
        clear n0_
        (try clear hb)
        (try clear hb2)
        (try clear hk)
        (try clear hi)
        refine hK.out _ _ ⟨((HB.out.cell (World.block_lt_of_cell? w _ hw349_0)).trans hw349_0), ((HB.out.cell (World.block_lt_of_cell? w _ hw349_1)).trans hw349_1), ((HB.out.cell (World.block_lt_of_cell? w _ hw349_2)).trans hw349_2), ((HB.out.cell (World.block_lt_of_cell? w _ hw350_0)).trans hw350_0), ((HB.out.cell (World.block_lt_of_cell? w _ hw350_1)).trans hw350_1), ((HB.out.cell (World.block_lt_of_cell? w _ hw350_2)).trans hw350_2)⟩ (fun hHeld => ?_)
        clear hK K
        refine norm_ (a' := ?_) ?_ ?_
        rotate_left
        ·show Act.put _ (some 25) _ = _
         simp only [Act.put, List.setIfInBounds_toArray, List.set_cons_zero, List.set_cons_succ, i64_w, i32_w]
         rfl
        refine pure_ (i := 9) (N := some 26) (v := ?_) (a' := ?_) #[true, true, true, true, true, true, true, true, true, true] rfl rfl (any_of HT_.out (by kernel_rfl)) (fun _ _ _ h => h) (Or.inl ⟨by rfl, ?_⟩) ?_ ?_
        rotate_left
        ·intro w'
         go_simp
         with_reducible rfl
        rotate_left
        ·simp only [Act.put, List.setIfInBounds_toArray, List.set_cons_zero, List.set_cons_succ, i64_w, i32_w]
         rfl
        refine done_ (done_of HT_.out (by kernel_rfl)) ?_
        try go_wp2
        go_ret
        exact ⟨eW, bB⟩
      ·rw [if_neg c6] at H
       exact absurd H (by simp)
     ·rw [if_neg c5] at H
      exact absurd H (by simp)
    ·rw [if_neg c4] at H
     have c4b0 : decide (x5_1 < (l0.length : Int)) = false := decide_eq_false c4
     clear c4
     obtain rfl := Option.some.inj H
     go_wp2
     go_ret
     exact ⟨eW, bB⟩
 rw [if_neg c3] at H
 have c3b0 : ((l0.length : Int) == (l1.length : Int)) = false := beq_eq_false_iff_ne.mpr c3
 have c3b1 : ((l0.length : Int) != (l1.length : Int)) = true := bne_iff_ne.mpr c3
 have c3b2 : (l0.length == l1.length) = false := by first | simpa using c3 | (simp at c3 ⊢; omega)
 obtain rfl := Option.some.inj H
 go_enter Try.func42, Try.ntmps42
 go_wp2
 go_ret
 exact ⟨eW, bB⟩

end Go.Proofs.Ytgmpdkefegofhaa.PFnExactEventsDo
