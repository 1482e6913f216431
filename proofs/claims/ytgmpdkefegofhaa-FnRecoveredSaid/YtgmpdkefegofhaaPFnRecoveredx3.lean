-- Written by xprint.py, a program of this session over the kit's print. Not trusted: Lean checks it.
import Derived.Test.YtgmpdkefegofhaaPFnRecoveredx0
import Derived.Test.YtgmpdkefegofhaaPFnRecoveredx2
namespace Go.Proofs.Ytgmpdkefegofhaa.PFnRecovered
open Go.RowKit Go.Proofs.YtgmpdkefegofhaaW.PrintWords Go.Proofs.YtgmpdkefegofhaaW.PrintLast Go.Proofs.YtgmpdkefegofhaaW.PrintMore
attribute [local go_sem] max2_int min2_int max_two min_two max_three min_three max_four min_four   -- for this text's walks alone
set_option linter.unusedVariables false
set_option linter.unusedSimpArgs false

/-! ### impl_Fall: function 35 -/
def impl_Fall_1.f (l : List Bool) (i : Int) : Option Bool := if i < (l.length : Int) then (if 0 ≤ i then some (rdOf false l i) else none) else some false
set_option maxHeartbeats 8000000 in
set_option maxRecDepth 100000 in
theorem impl_Fall_1.calls (i : Int) (gk : Nat) (A2 : Option Addr) (c2 : Nat) (l2 : List Bool) (r : Bool) (w : World) (hk2 : w.heap[gk]? = some (.cells #[.slice A2 l2.length c2] 45 (0, 0))) (hr2 : Kd.C Kd.bool w A2 l2.length l2) (h : impl_Fall_1.f l2 i = some r) :
  Calls Try.prog 80 #[.int .i64 i, .pointer (some ⟨gk, 0, none⟩)] w fun e w' => e = .returned (.bool r) ∧ Drawn0 w w' := by
 have hc0 : w.cell? ⟨gk, 0, none⟩ = some (.slice A2 l2.length c2) := (blk_cell hk2 0).trans rfl
 have HR2 := aM hr2
 clear hk2 hr2
 unfold impl_Fall_1.f at h
 by_cases c : i < (l2.length : Int)
 ·rw [if_pos c] at h
  have cb : decide (i < (l2.length : Int)) = true := decide_eq_true c
  by_cases d : 0 ≤ i
  ·rw [if_pos d] at h
   obtain rfl := Option.some.inj h
   clear h
   obtain ⟨ad, e, hx⟩ := Kd.at_bool HR2.out i d c
   cases e
   have d1 := eq_true d
   have c1 := eq_true c
   clear c d
   go_enter Try.func80, Try.ntmps80
   go_wp2
   go_ret
   exact ⟨by first | rfl | (simp; done) | (simp [*]; done), by repeat (first | exact Drawn0.refl _ | apply Drawn0.step)⟩
  rw [if_neg d] at h
  cases h
 rw [if_neg c] at h
 have cb : decide (i < (l2.length : Int)) = false := decide_eq_false c
 obtain rfl := Option.some.inj h
 clear h c
 go_enter Try.func80, Try.ntmps80
 go_wp2
 go_ret
 exact ⟨by first | rfl | (simp; done) | (simp [*]; done), by repeat (first | exact Drawn0.refl _ | apply Drawn0.step)⟩
def impl_settle_Fall_1.l0 (l2 : List Bool) : Nat → List (S65) → Int → Int → List ByteArray → List (S65) → Option (List ByteArray × (List (S65)))
 | 0, _, _, _, _, _ => none
 | k + 1, x15, x16, x17, x218000, x218001 => if x17 < x16 then (if 0 ≤ x17 then (if x17 < (x15.length : Int) then ((impl_Fall_1.f l2 x17).bind fun t221 => (if t221 = true then (if 0 ≤ ((rd_T65 x15 x17).f0) then (if ((rd_T65 x15 x17).f0) < (x218000.length : Int) then (impl_settle_Fall_1.l0 l2 k x15 x16 (wrap64 (x17 + 1)) (x218000.set (((rd_T65 x15 x17).f0) : Int).toNat ((rd_T65 x15 x17).f1)) x218001) else (none)) else (none)) else (impl_settle_Fall_1.l0 l2 k x15 x16 (wrap64 (x17 + 1)) x218000 x218001))) else (none)) else (none)) else (some (x218000, ([] : List (S65))))
def impl_settle_Fall_1.f (l2 : List Bool) (k : Nat) (l0_0 : List ByteArray) (l0_1 : List (S65))  : Option (List ByteArray × (List (S65))) := (impl_cloneDisk.f l0_0 l0_1).bind fun bt211 => ((impl_DiskOk.f l0_0 l0_1).bind fun t218 => (if t218 = true then (impl_settle_Fall_1.l0 l2 k l0_1 (l0_1.length : Int) 0 bt211.1 bt211.2) else (some (bt211.1, bt211.2))))
theorem impl_settle_Fall_1.mono_l (l2 : List Bool) : ∀ k, (∀ y0 y1 y2 y3 y4, LeO (impl_settle_Fall_1.l0 l2 k y0 y1 y2 y3 y4) (impl_settle_Fall_1.l0 l2 (k + 1) y0 y1 y2 y3 y4))
 | 0 => fun _ _ _ _ _ r h => by simp [impl_settle_Fall_1.l0] at h
 | k + 1 => by
  have ih0 := impl_settle_Fall_1.mono_l l2 k
  ·intro y0 y1 y2 y3 y4
   unfold impl_settle_Fall_1.l0
   exact mM
theorem impl_settle_Fall_1.mono (l2 : List Bool) : ∀ a0 a1 k, LeO (impl_settle_Fall_1.f l2 k a0 a1) (impl_settle_Fall_1.f l2 (k + 1) a0 a1) := by
 intro a0 a1 k
 have ih0 := impl_settle_Fall_1.mono_l l2 k
 unfold impl_settle_Fall_1.f
 exact mM
set_option maxHeartbeats 8000000 in
set_option maxRecDepth 100000 in
theorem impl_settle_Fall_1.calls (gk : Nat) (A2 : Option Addr) (c2 : Nat) (l2 : List Bool) (k : Nat) (A0_0 : Option Addr) (c0_0 : Nat) (l0_0 : List ByteArray) (A0_1 : Option Addr) (c0_1 : Nat) (l0_1 : List (S65))  (r1 : List ByteArray) (r2 : List (S65)) (w : World) (hk2 : w.heap[gk]? = some (.cells #[.slice A2 l2.length c2] 45 (0, 0))) (hr2 : Kd.C Kd.bool w A2 l2.length l2) (hr0_0 : Kd.C Kd.string w A0_0 l0_0.length l0_0) (hc0_0 : l0_0.length ≤ c0_0) (hr0_1 : Kd.C k65 w A0_1 l0_1.length l0_1) (hc0_1 : l0_1.length ≤ c0_1) (h : impl_settle_Fall_1.f l2 k l0_0 l0_1 = some (r1, r2)) :
  Calls Try.prog 78 #[.agg #[.slice A0_0 l0_0.length c0_0, .slice A0_1 l0_1.length c0_1], .func (.func 80) #[] #[.pointer (some ⟨gk, 0, none⟩)]] w fun e w' => ∃ v0_ v1_ : Value, e = .returned (.agg #[v0_, v1_]) ∧ Kd.R Kd.string 9 w' w.heap.size (fun _ => True) v0_ r1 ∧ Kd.R k65 65 w' w.heap.size (fun _ => True) v1_ r2 ∧ Below w.heap.size w w' := by
 have hu30 := Try.underlying30
 have hu65 := Try.underlying65
 have HK2 := aM hk2
 have HR2 := aM hr2
 clear hk2 hr2
 have HR0_0 := aM hr0_0
 have HC0_0 := aM hc0_0
 clear hr0_0 hc0_0
 have HR0_1 := aM hr0_1
 have HC0_1 := aM hc0_1
 clear hr0_1 hc0_1
 have HB := aM (Below.refl w.heap.size w)
 unfold impl_settle_Fall_1.f at h
 have H := h
 clear h
 replace H := Option.bind_eq_some_iff.mp H
 obtain ⟨⟨t211, t214⟩, A30, H⟩ := H
 try dsimp only at H
 have A3 := aM A30
 clear A30
 replace H := Option.bind_eq_some_iff.mp H
 obtain ⟨t218, A40, H⟩ := H
 try dsimp only at H
 have A4 := aM A40
 clear A40
 by_cases c5 : t218 = true
 ·subst c5
  rw [if_pos rfl] at H
  have H' := aM H
  clear H
  go_enter Try.func78, Try.ntmps78
  go_wp2_with (first | ((with_reducible refine gate_dst (N := 2) rfl ?_); refine bE 2 #[.slice A0_0 l0_0.length c0_0, .slice A0_1 l0_1.length c0_1] 30 ?_; intro gb209 hg w6 hbox hb; have n_ := aI (sB HB hb) (aI (aM hbox) (aI (gE HB hg) (gE HB hg))); clear HB; obtain ⟨HB, BK209, GW209, GE209⟩ := n_; (try clear hb hbox hg)) | ((with_reducible refine gate_dst (N := 4) rfl ?_); refine bE 4 #[.slice none 0 0, .slice none 0 0] 30 ?_; intro gb210 hg w7 hbox hb; have n_ := aI (kB BK209 hb) (aI (sB HB hb) (aI (aM hbox) (aI (gE HB hg) (aI (gE HB hg) (aI (nL BK209 hg) (nG BK209 hg)))))); clear BK209 HB; obtain ⟨BK209, HB, BK210, GW210, GE210, NB209_210, NB210_209⟩ := n_; (try clear hb hbox hg); have hnb8 := NB209_210.out; have hnc8 := NB210_209.out; have hcz9_0 := cZ0 BK209; have hcz9_1 := cZ1 BK209; have hfz9_0 := fZ BK209 0; have hfz9_1 := fZ BK209 1) | ((with_reducible refine gate_callee (f := 76) rfl ?_); refine gL (some 9) Try.func76 #[.agg #[.slice A0_0 l0_0.length c0_0, .slice A0_1 l0_1.length c0_1]] ?_; (with_reducible refine (impl_cloneDisk.calls _ _ l0_0 _ _ l0_1 t211 t214 _ ?side1 ?side2 ?side3 ?side4 A3.out).mono ?_); (case side1 => exact cS HR0_0 HB); (case side2 => exact HC0_0.out); (case side3 => exact cS HR0_1 HB); (case side4 => exact HC0_1.out); rintro e w10 ⟨v212, v215, rfl, ho0, ho1, hb⟩; refine ⟨_, rfl, ?_⟩; have n_ := aI (lR HB ho0) (aI (lR HB ho1) (aI (kB BK209 hb) (aI (kB BK210 hb) (sB HB hb)))); clear BK209 BK210 HB; obtain ⟨HO213, HO216, BK209, BK210, HB⟩ := n_; (try clear hb ho0 ho1)) | ((with_reducible refine gate_dst (N := 5) rfl ?_); refine bE 5 #[.slice none 0 0, .slice none 0 0] 30 ?_; intro gb217 hg w11 hbox hb; have n_ := aI (rB HO213 hb) (aI (rB HO216 hb) (aI (kB BK209 hb) (aI (kB BK210 hb) (aI (sB HB hb) (aI (aM hbox) (aI (gE HB hg) (aI (gE HB hg) (aI (nL BK209 hg) (aI (nG BK209 hg) (aI (nL BK210 hg) (nG BK210 hg))))))))))); clear HO213 HO216 BK209 BK210 HB; obtain ⟨HO213, HO216, BK209, BK210, HB, BK217, GW217, GE217, NB209_217, NB217_209, NB210_217, NB217_210⟩ := n_; (try clear hb hbox hg); obtain ⟨Ao12, co12, eo12⟩ := Kd.R_slice HO213.out; subst eo12; have hnb13 := NB217_209.out; have hnc13 := NB209_217.out; have hnb14 := NB217_210.out; have hnc14 := NB210_217.out; have hcz15_0 := cZ0 BK217; have hcz15_1 := cZ1 BK217; have hfz15_0 := fZ BK217 0; have hfz15_1 := fZ BK217 1; obtain ⟨Ao16, co16, eo16⟩ := Kd.R_slice HO216.out; subst eo16; have hcz17_0 := cZ0 BK209; have hcz17_1 := cZ1 BK209; have hfz17_0 := fZ BK209 0; have hfz17_1 := fZ BK209 1) | ((with_reducible refine gate_callee (f := 18) rfl ?_); refine gL (some 11) Try.func18 #[.agg #[.slice A0_0 l0_0.length c0_0, .slice A0_1 l0_1.length c0_1]] ?_; (with_reducible refine (impl_DiskOk.calls _ _ l0_0 _ _ l0_1 true _ ?side1 ?side2 ?side3 ?side4 A4.out).mono ?_); (case side1 => exact cS HR0_0 HB); (case side2 => exact HC0_0.out); (case side3 => exact cS HR0_1 HB); (case side4 => exact HC0_1.out); rintro e w18 ⟨rfl, hb⟩; refine ⟨_, rfl, ?_⟩; have n_ := aI (aM (Kd.R_below (rP (Kd.R_mono (Kd.R_far (p := ⟨gb217, 1, none⟩) (Kd.R_far (p := ⟨gb217, 0, none⟩) (Kd.R_types HO213.out BK217.out (by decide)) (fun _ hk => hk.2) (.slice Ao12 t211.length co12)) (fun _ hk => hk.2) (.slice Ao16 t214.length co16)) (fun _ h_ => h_.1))) hb)) (aI (aM (Kd.R_below (rP (Kd.R_mono (Kd.R_far (p := ⟨gb217, 1, none⟩) (Kd.R_far (p := ⟨gb217, 0, none⟩) (Kd.R_types HO216.out BK217.out (by decide)) (fun _ hk => hk.2) (.slice Ao12 t211.length co12)) (fun _ hk => hk.2) (.slice Ao16 t214.length co16)) (fun _ h_ => h_.1))) hb)) (aI (kB BK209 hb) (aI (kB BK210 hb) (aI (aM (blk_below (g := gb217) (o := .cells #[.slice Ao12 t211.length co12, .slice Ao16 t214.length co16] 30 (0, 0)) (by (with_reducible repeat (first | apply bN | apply bD | apply bA)); refine blk_put (cs := #[.slice Ao12 t211.length co12, .slice none 0 0]) ?_ 1 _ rfl; (with_reducible repeat (first | apply bN | apply bD | apply bA)); refine blk_put (cs := #[.slice none 0 0, .slice none 0 0]) ?_ 0 _ rfl; (with_reducible repeat (first | apply bN | apply bD | apply bA)); exact BK217.out) hb)) (sB HB hb))))); clear HO213 HO216 BK209 BK210 BK217 HB; obtain ⟨HO213, HO216, BK209, BK210, BK217, HB⟩ := n_; (try clear hb); have hcz19_0 := cZ0 BK209; have hcz19_1 := cZ1 BK209; have hfz19_0 := fZ BK209 0; have hfz19_1 := fZ BK209 1))
  go_loopg [17] k (fun kq v17 w' => ∃ (x17_1 : Int) (x218000_1 : List ByteArray) (u218000 : Value), v17 = .int .i64 x17_1 ∧ Aside0 (impl_settle_Fall_1.l0 l2 kq l0_1 (l0_1.length : Int) x17_1 x218000_1 t214 = some (r1, r2)) ∧ Aside0 (kq ≤ k) ∧ Aside0 (Kd.R Kd.string 9 w' w.heap.size (fun _ => True) u218000 x218000_1) ∧ Aside0 (Kd.R k65 65 w' w.heap.size (fun _ => True) (.slice Ao16 t214.length co16) t214) ∧ Aside0 (w'.heap[gb209]? = some (.cells #[(.slice A0_0 l0_0.length c0_0), (.slice A0_1 l0_1.length c0_1)] 30 (0, 0))) ∧ Aside0 (w'.heap[gb210]? = some (.cells #[(.slice none 0 0), (.slice none 0 0)] 30 (0, 0))) ∧ Aside0 (w'.heap[gb217]? = some (.cells #[u218000, (.slice Ao16 t214.length co16)] 30 (0, 0))) ∧ Aside0 (Below w.heap.size w w'))
  case atStart => exact ⟨(0), (t211), (.slice Ao12 t211.length co12), eV, H', ⟨Nat.le_refl _⟩, ⟨rP HO213.out⟩, ⟨rP HO216.out⟩, ⟨kP BK209⟩, ⟨kP BK210⟩, ⟨kP BK217⟩, ⟨bB⟩⟩
  case round =>
   clear H'
   try clear c1
   try clear p2
   try clear c5
   try clear c7
   try clear c8
   try clear c10
   try clear c13
   try clear c14
   try clear c18
   try clear hcz15_0
   try clear hcz15_1
   try clear hcz17_0
   try clear hcz17_1
   try clear hcz19_0
   try clear hcz19_1
   try clear hcz9_0
   try clear hcz9_1
   try clear hfz15_0
   try clear hfz15_1
   try clear hfz17_0
   try clear hfz17_1
   try clear hfz19_0
   try clear hfz19_1
   try clear hfz9_0
   try clear hfz9_1
   obtain ⟨x17_1, x218000_1, u218000, rfl, HA, HK1, HO_218000, HO_218001, BK209, BK210, BK217, HB⟩ := hrel
   cases gk with
   | zero => exact absurd HA.out (by simp [impl_settle_Fall_1.l0])
   | succ k1 =>
    have H := HA.out
    clear HA
    simp only [impl_settle_Fall_1.l0] at H
    by_cases c20 : x17_1 < (l0_1.length : Int)
    ·rw [if_pos c20] at H
     have c20b0 : decide (x17_1 < (l0_1.length : Int)) = true := decide_eq_true c20
     clear c20
     by_cases c21 : 0 ≤ x17_1
     ·rw [if_pos c21] at H
      have c21b0 : decide (0 ≤ x17_1) = true := decide_eq_true c21
      clear c21
      by_cases c22 : x17_1 < (l0_1.length : Int)
      ·rw [if_pos c22] at H
       have c22b0 : decide (x17_1 < (l0_1.length : Int)) = true := decide_eq_true c22
       clear c22
       replace H := Option.bind_eq_some_iff.mp H
       obtain ⟨t221, A230, H⟩ := H
       try dsimp only at H
       have A23 := aM A230
       clear A230
       by_cases c24 : t221 = true
       ·subst c24
        rw [if_pos rfl] at H
        by_cases c25 : 0 ≤ ((rd_T65 l0_1 x17_1).f0)
        ·rw [if_pos c25] at H
         have c25b0 : decide (0 ≤ ((rd_T65 l0_1 x17_1).f0)) = true := decide_eq_true c25
         clear c25
         by_cases c26 : ((rd_T65 l0_1 x17_1).f0) < (x218000_1.length : Int)
         ·rw [if_pos c26] at H
          have c26b0 : decide (((rd_T65 l0_1 x17_1).f0) < (x218000_1.length : Int)) = true := decide_eq_true c26
          clear c26
          obtain ⟨y222, hy222⟩ : ∃ y_ : List ByteArray, y_ = (x218000_1.set (((rd_T65 l0_1 x17_1).f0) : Int).toNat ((rd_T65 l0_1 x17_1).f1)) := ⟨_, rfl⟩
          replace H : (impl_settle_Fall_1.l0 l2 k1 l0_1 (l0_1.length : Int) (wrap64 (x17_1 + 1)) y222 t214) = some (r1, r2) := bQ hy222 H
          have Ny222 := aM hy222
          clear hy222
          have H' := aM H
          clear H
          have p219 : 0 ≤ (x17_1 : Int) := dT
          have q219 : x17_1 < (l0_1.length : Int) := dT
          obtain ⟨ad219, e219, hx219_0, hx219_1⟩ := at_T65 HR0_1.out x17_1 p219 q219
          cases e219
          replace hx219_0 := (HB.out.cell (World.block_lt_of_cell? w _ hx219_0)).trans hx219_0
          replace hx219_1 := (HB.out.cell (World.block_lt_of_cell? w _ hx219_1)).trans hx219_1
          replace p219 := eq_true p219
          replace q219 := eq_true q219
          go_wp2_with (first | ((with_reducible refine gate_dst (N := 7) rfl ?_); refine bE 7 #[.int .i64 0, .string (⟨#[]⟩ : ByteArray)] 65 ?_; intro gb220 hg w28 hbox hb; have n_ := aI (rB HO_218000 hb) (aI (aM (Kd.R_below (Kd.R_elderB (rP HO_218001.out) gb220 (Nat.le_of_eq hg.symm)) hb)) (aI (kB BK209 hb) (aI (kB BK210 hb) (aI (kB BK217 hb) (aI (sB HB hb) (aI (aM hbox) (aI (gE HB hg) (aI (gE HB hg) (aI (nL BK209 hg) (aI (nG BK209 hg) (aI (nL BK210 hg) (aI (nG BK210 hg) (aI (nL BK217 hg) (nG BK217 hg)))))))))))))); clear HO_218000 HO_218001 BK209 BK210 BK217 HB; obtain ⟨HO_218000, HO_218001, BK209, BK210, BK217, HB, BK220, GW220, GE220, NB209_220, NB220_209, NB210_220, NB220_210, NB217_220, NB220_217⟩ := n_; (try clear hb hbox hg); have hnb29 := NB220_209.out; have hnc29 := NB209_220.out; have hnb30 := NB220_210.out; have hnc30 := NB210_220.out; have hnb31 := NB220_217.out; have hnc31 := NB217_220.out; have hcz32_0 := cZ0 BK220; have hcz32_1 := cZ1 BK220; have hfz32_0 := fZ BK220 0; have hfz32_1 := fZ BK220 1) | ((with_reducible refine gate_store (t := 65) (p := 7) rfl ?_); refine store_event (t := 65) (p := 7) (v := ?vo_w33) (w1 := ((w28.setCell ⟨gb220, 0, none⟩ (.int .i64 ((rd_T65 l0_1 x17_1).f0))).setCell ⟨gb220, 1, none⟩ (.string ((rd_T65 l0_1 x17_1).f1)))) ?hg ?ho ?hn ?hr ?_; (case ho => rfl); (case hg => rfl); (case hn => rfl); (case hr => first | (go_simp; done) | (go_simp; rfl)); intro w33 hw; have n0_ : Aside0 (Kd.R Kd.string 9 w33 w.heap.size (fun _ => True) u218000 x218000_1) := ⟨(by rw [hw]; exact (rP (Kd.R_mono (Kd.R_far (p := ⟨gb220, 1, none⟩) (Kd.R_far (p := ⟨gb220, 0, none⟩) (Kd.R_types HO_218000.out BK220.out (by decide)) (fun _ hk => hk.2) (.int .i64 ((rd_T65 l0_1 x17_1).f0))) (fun _ hk => hk.2) (.string ((rd_T65 l0_1 x17_1).f1))) (fun _ hk => trivial))))⟩; have n1_ : Aside0 (Kd.R k65 65 w33 w.heap.size (fun k_ => k_ ≠ gb220) (.slice Ao16 t214.length co16) t214) := ⟨(by rw [hw]; exact (rP (Kd.R_mono (Kd.R_far (p := ⟨gb220, 1, none⟩) (Kd.R_far (p := ⟨gb220, 0, none⟩) (Kd.R_mono HO_218001.out (fun k_ hk => (⟨hk, hk.2⟩ : _ ∧ k_ ≠ gb220))) (fun _ hk => hk.2) (.int .i64 ((rd_T65 l0_1 x17_1).f0))) (fun _ hk => hk.2) (.string ((rd_T65 l0_1 x17_1).f1))) (fun _ hk => hk.1.2))))⟩; have n2_ : Aside0 (w33.heap[gb209]? = some (.cells #[.slice A0_0 l0_0.length c0_0, .slice (some ad219) l0_1.length c0_1] 30 (0, 0))) := ⟨(by rw [hw]; exact (kP BK209))⟩; have n3_ : Aside0 (w33.heap[gb210]? = some (.cells #[.slice none 0 0, .slice none 0 0] 30 (0, 0))) := ⟨(by rw [hw]; exact (kP BK210))⟩; have n4_ : Aside0 (w33.heap[gb217]? = some (.cells #[u218000, .slice Ao16 t214.length co16] 30 (0, 0))) := ⟨(by rw [hw]; exact (kP BK217))⟩; have n5_ : Aside0 (w33.heap[gb220]? = some (.cells #[.int .i64 ((rd_T65 l0_1 x17_1).f0), .string ((rd_T65 l0_1 x17_1).f1)] 65 (0, 0))) := ⟨(by rw [hw]; exact (by (with_reducible repeat (first | apply bN | apply bD | apply bA)); refine blk_put (cs := #[.int .i64 ((rd_T65 l0_1 x17_1).f0), .string (⟨#[]⟩ : ByteArray)]) ?_ 1 _ rfl; (with_reducible repeat (first | apply bN | apply bD | apply bA)); refine blk_put (cs := #[.int .i64 0, .string (⟨#[]⟩ : ByteArray)]) ?_ 0 _ rfl; (with_reducible repeat (first | apply bN | apply bD | apply bA)); exact BK220.out))⟩; have n6_ : Aside0 (Below w.heap.size w w33) := ⟨(by rw [hw]; exact bB)⟩; clear hw; clear HO_218000; clear HO_218001; clear BK209; clear BK210; clear BK217; clear BK220; clear HB; have HO_218000 := n0_; have HO_218001 := n1_; have BK209 := n2_; have BK210 := n3_; have BK217 := n4_; have BK220 := n5_; have HB := n6_; clear n0_ n1_ n2_ n3_ n4_ n5_ n6_) | (go_at_call 80; (with_reducible refine (impl_Fall_1.calls x17_1 gk A2 c2 l2 true _ (blk_below HK2.out bB) (Kd.C_below HR2.out bB) A23.out).mono ?_); rintro e w' ⟨rfl, ⟨nd, rfl⟩⟩; (try (rw [drewN_self w33]; generalize hq_ : World.drewN w33 _ = w33; have n0_ : Aside0 (Kd.R Kd.string 9 w33 w.heap.size (fun _ => True) u218000 x218000_1) := ⟨by rw [← hq_]; exact (rP HO_218000.out)⟩; have n1_ : Aside0 (Kd.R k65 65 w33 w.heap.size (fun k_ => k_ ≠ gb220) (.slice Ao16 t214.length co16) t214) := ⟨by rw [← hq_]; exact (rP HO_218001.out)⟩; have n2_ : Aside0 (w33.heap[gb209]? = some (.cells #[.slice A0_0 l0_0.length c0_0, .slice (some ad219) l0_1.length c0_1] 30 (0, 0))) := ⟨by rw [← hq_]; exact (kP BK209)⟩; have n3_ : Aside0 (w33.heap[gb210]? = some (.cells #[.slice none 0 0, .slice none 0 0] 30 (0, 0))) := ⟨by rw [← hq_]; exact (kP BK210)⟩; have n4_ : Aside0 (w33.heap[gb217]? = some (.cells #[u218000, .slice Ao16 t214.length co16] 30 (0, 0))) := ⟨by rw [← hq_]; exact (kP BK217)⟩; have n5_ : Aside0 (w33.heap[gb220]? = some (.cells #[.int .i64 ((rd_T65 l0_1 x17_1).f0), .string ((rd_T65 l0_1 x17_1).f1)] 65 (0, 0))) := ⟨by rw [← hq_]; exact (kP BK220)⟩; have n6_ : Aside0 (Below w.heap.size w w33) := ⟨by rw [← hq_]; exact bB⟩; clear HO_218000 HO_218001 BK209 BK210 BK217 BK220 HB hq_; have HO_218000 := n0_; have HO_218001 := n1_; have BK209 := n2_; have BK210 := n3_; have BK217 := n4_; have BK220 := n5_; have HB := n6_; clear n0_ n1_ n2_ n3_ n4_ n5_ n6_)); have hnb34 := NB217_209.out; have hnc34 := NB209_217.out; have hnb35 := NB217_210.out; have hnc35 := NB210_217.out; have hcz36_0 := cZ0 BK217; have hcz36_1 := cZ1 BK217; have hfz36_0 := fZ BK217 0; have hfz36_1 := fZ BK217 1; have hcz37_0 : w33.cell? ⟨gb220, 0, none⟩ = some (.int .i64 ((rd_T65 l0_1 x17_1).f0)) := (blk_cell BK220.out 0).trans rfl; have hcz37_1 : w33.cell? ⟨gb220, 1, none⟩ = some (.string ((rd_T65 l0_1 x17_1).f1)) := (blk_cell BK220.out 1).trans rfl; have hfz37_0 := fZ BK220 0; have hfz37_1 := fZ BK220 1; have p27 : 0 ≤ (((rd_T65 l0_1 x17_1).f0) : Int) := dT; have q27 : (((rd_T65 l0_1 x17_1).f0) : Int) < ((x218000_1.length : Int) : Int) := dT; obtain ⟨go27, co27, eo27, gb27, gl27, cl27, HG27⟩ := Kd.R_form HO_218000.out (by omega); (first | cases eo27 | (injection eo27 with ea_ en_ ec_; (first | subst ea_ | (injection ea_ with ea_; subst ea_)); subst ec_; clear en_)); have GB27 := aM gb27; have GG27 := aM HG27; clear gb27 gl27 HG27; obtain ⟨hx27_0, hf27_0⟩ := Kd.R_celln (⟨#[]⟩ : ByteArray) HO_218000.out (((rd_T65 l0_1 x17_1).f0) : Int) p27 q27; replace p27 := eq_true p27; replace q27 := eq_true q27; obtain ⟨hy38_, hz38_⟩ := Kd.R_celln (⟨#[]⟩ : ByteArray) HO_218000.out (((rd_T65 l0_1 x17_1).f0) : Int) (dT) (dT); have HP38 := Kd.R_putg HO_218000.out (((rd_T65 l0_1 x17_1).f0) : Int) ((rd_T65 l0_1 x17_1).f1)) | ((with_reducible refine gate_store (t := 9) (p := 31) rfl ?_); refine store_event (t := 9) (p := 31) (v := ?vo_w39) (w1 := (w33.setCell ⟨go27, (((rd_T65 l0_1 x17_1).f0) : Int).toNat, none⟩ (.string ((rd_T65 l0_1 x17_1).f1)))) ?hg ?ho ?hn ?hr ?_; (case ho => rfl); (case hg => rfl); (case hn => rfl); (case hr => first | (go_simp; done) | (go_simp; rfl)); intro w39 hw; have hg : w33.grownBy w39 (some go27) := (by rw [hw]; exact HP38.2); have hp_ : Kd.R Kd.string 9 w39 w.heap.size (fun _ => True) (.slice (some ⟨go27, 0, none⟩) x218000_1.length co27) y222 := (by rw [hw, Ny222.out]; exact HP38.1); clear HP38; have n_ := aI (aM (hp_)) (aI (aM (Kd.R_over' (v := (.slice (some ⟨go27, 0, none⟩) x218000_1.length co27)) (rP HO_218001.out) (Kd.R_typed HO_218000.out) (by decide) hg)) (aI (aM (blk_grown (g := gb209) (o := .cells #[.slice A0_0 l0_0.length c0_0, .slice (some ad219) l0_1.length c0_1] 30 (0, 0)) (kP BK209) hg (Kd.R_ne HO_218000.out BK209.out (by decide)))) (aI (aM (blk_grown (g := gb210) (o := .cells #[.slice none 0 0, .slice none 0 0] 30 (0, 0)) (kP BK210) hg (Kd.R_ne HO_218000.out BK210.out (by decide)))) (aI (aM (blk_grown (g := gb217) (o := .cells #[.slice (some ⟨go27, 0, none⟩) x218000_1.length co27, .slice Ao16 t214.length co16] 30 (0, 0)) (kP BK217) hg (Kd.R_ne HO_218000.out BK217.out (by decide)))) (aI (aM (blk_grown (g := gb220) (o := .cells #[.int .i64 ((rd_T65 l0_1 x17_1).f0), .string ((rd_T65 l0_1 x17_1).f1)] 65 (0, 0)) (kP BK220) hg (Kd.R_ne HO_218000.out BK220.out (by decide)))) (aM ((by rw [hw]; exact below_set (HB.out) GB27.out : Below w.heap.size w w39)))))))); clear HO_218000 HO_218001 BK209 BK210 BK217 BK220 HB; obtain ⟨HO_218000, HO_218001, BK209, BK210, BK217, BK220, HB⟩ := n_; (try clear hw)))
          go_roundg k1
          case measure => have := HK1.out; omega
          case rel => exact ⟨(wrap64 (x17_1 + 1)), (y222), (.slice (some ⟨go27, 0, none⟩) x218000_1.length co27), eV, H', ⟨by have := HK1.out; omega⟩, ⟨rP HO_218000.out⟩, ⟨rP (Kd.R_mono HO_218001.out (fun _ hk => trivial))⟩, ⟨kP BK209⟩, ⟨kP BK210⟩, ⟨kP BK217⟩, ⟨bB⟩⟩
         ·rw [if_neg c26] at H
          exact absurd H (by simp)
        ·rw [if_neg c25] at H
         exact absurd H (by simp)
       ·replace c24 := Bool.eq_false_iff.mpr c24
        subst c24
        rw [if_neg (show ¬ (false = true) by decide)] at H
        have H' := aM H
        clear H
        have p219 : 0 ≤ (x17_1 : Int) := dT
        have q219 : x17_1 < (l0_1.length : Int) := dT
        obtain ⟨ad219, e219, hx219_0, hx219_1⟩ := at_T65 HR0_1.out x17_1 p219 q219
        cases e219
        replace hx219_0 := (HB.out.cell (World.block_lt_of_cell? w _ hx219_0)).trans hx219_0
        replace hx219_1 := (HB.out.cell (World.block_lt_of_cell? w _ hx219_1)).trans hx219_1
        replace p219 := eq_true p219
        replace q219 := eq_true q219
        go_wp2_with (first | ((with_reducible refine gate_dst (N := 7) rfl ?_); refine bE 7 #[.int .i64 0, .string (⟨#[]⟩ : ByteArray)] 65 ?_; intro gb220 hg w40 hbox hb; have n_ := aI (rB HO_218000 hb) (aI (aM (Kd.R_below (Kd.R_elderB (rP HO_218001.out) gb220 (Nat.le_of_eq hg.symm)) hb)) (aI (kB BK209 hb) (aI (kB BK210 hb) (aI (kB BK217 hb) (aI (sB HB hb) (aI (aM hbox) (aI (gE HB hg) (aI (gE HB hg) (aI (nL BK209 hg) (aI (nG BK209 hg) (aI (nL BK210 hg) (aI (nG BK210 hg) (aI (nL BK217 hg) (nG BK217 hg)))))))))))))); clear HO_218000 HO_218001 BK209 BK210 BK217 HB; obtain ⟨HO_218000, HO_218001, BK209, BK210, BK217, HB, BK220, GW220, GE220, NB209_220, NB220_209, NB210_220, NB220_210, NB217_220, NB220_217⟩ := n_; (try clear hb hbox hg); have hnb41 := NB220_209.out; have hnc41 := NB209_220.out; have hnb42 := NB220_210.out; have hnc42 := NB210_220.out; have hnb43 := NB220_217.out; have hnc43 := NB217_220.out; have hcz44_0 := cZ0 BK220; have hcz44_1 := cZ1 BK220; have hfz44_0 := fZ BK220 0; have hfz44_1 := fZ BK220 1) | (go_at_call 80; (with_reducible refine (impl_Fall_1.calls x17_1 gk A2 c2 l2 false _ (blk_below HK2.out bB) (Kd.C_below HR2.out bB) A23.out).mono ?_); rintro e w' ⟨rfl, ⟨nd, rfl⟩⟩))
        go_roundg k1
        case measure => have := HK1.out; omega
        case rel => exact ⟨(wrap64 (x17_1 + 1)), (x218000_1), (u218000), eV, H', ⟨by have := HK1.out; omega⟩, ⟨rP (Kd.R_mono (Kd.R_far (p := ⟨gb220, 1, none⟩) (Kd.R_far (p := ⟨gb220, 0, none⟩) (Kd.R_types HO_218000.out BK220.out (by decide)) (fun _ hk => hk.2) (.int .i64 ((rd_T65 l0_1 x17_1).f0))) (fun _ hk => hk.2) (.string ((rd_T65 l0_1 x17_1).f1))) (fun _ hk => trivial))⟩, ⟨rP (Kd.R_mono (Kd.R_far (p := ⟨gb220, 1, none⟩) (Kd.R_far (p := ⟨gb220, 0, none⟩) (Kd.R_mono HO_218001.out (fun k_ hk => (⟨hk, hk.2⟩ : _ ∧ k_ ≠ gb220))) (fun _ hk => hk.2) (.int .i64 ((rd_T65 l0_1 x17_1).f0))) (fun _ hk => hk.2) (.string ((rd_T65 l0_1 x17_1).f1))) (fun _ hk => trivial))⟩, ⟨kP BK209⟩, ⟨kP BK210⟩, ⟨kP BK217⟩, ⟨bB⟩⟩
      ·rw [if_neg c22] at H
       exact absurd H (by simp)
     ·rw [if_neg c21] at H
      exact absurd H (by simp)
    ·rw [if_neg c20] at H
     have c20b0 : decide (x17_1 < (l0_1.length : Int)) = false := decide_eq_false c20
     clear c20
     simp only [Option.some.injEq, Prod.mk.injEq] at H
     obtain ⟨rfl, rfl⟩ := H
     have hnb45 := NB217_209.out
     have hnc45 := NB209_217.out
     have hnb46 := NB217_210.out
     have hnc46 := NB210_217.out
     have hcz47_0 := cZ0 BK217
     have hcz47_1 := cZ1 BK217
     have hfz47_0 := fZ BK217 0
     have hfz47_1 := fZ BK217 1
     obtain ⟨Ao48, co48, eo48⟩ := Kd.R_slice HO_218000.out
     subst eo48
     have hnb49 := NB210_209.out
     have hnc49 := NB209_210.out
     have hcz50_0 := cZ0 BK210
     have hcz50_1 := cZ1 BK210
     have hfz50_0 := fZ BK210 0
     have hfz50_1 := fZ BK210 1
     go_wp2
     refine bodyPost_ret (results_cell_row rfl _ _ gb210 30 #[.slice Ao48 x218000_1.length co48, .slice none 0 0] (0, 0) _ rfl (by (with_reducible repeat (first | apply bN | apply bD | apply bA)); refine blk_put (cs := #[.slice Ao48 x218000_1.length co48, .slice none 0 0]) ?_ 1 _ rfl; (with_reducible repeat (first | apply bN | apply bD | apply bA)); refine blk_put (cs := #[.slice none 0 0, .slice none 0 0]) ?_ 0 _ rfl; (with_reducible repeat (first | apply bN | apply bD | apply bA)); refine blk_far ?_ NB210_217.out _; (with_reducible repeat (first | apply bN | apply bD | apply bA)); exact BK210.out) Try.underlying30 rfl (by kernel_rfl)) rfl ?_
     exact ⟨_, _, eW, by (with_reducible repeat (first | apply Kd.R_alloc | apply Kd.R_drewN | apply Kd.R_drew)); exact Kd.R_mono (Kd.R_far (p := ⟨gb210, 1, none⟩) (Kd.R_far (p := ⟨gb210, 0, none⟩) (Kd.R_far (p := ⟨gb217, 1, none⟩) (Kd.R_types (Kd.R_types HO_218000.out BK217.out (by decide)) BK210.out (by decide)) (fun _ hk => hk.1.2) (.slice none 0 0)) (fun _ hk => hk.2) (.slice Ao48 x218000_1.length co48)) (fun _ hk => hk.2) (.slice none 0 0)) (fun _ hk => trivial), by first | exact Kd.R_nil _ _ _ _ _ | exact Kd.N_nil _ _ _ _ _ | exact Kd.V_nil _ _ _ _ _ | exact Kd.Q_nil _ _ _ _ _ | exact Kd.S_nil _ _ _ _ _, bB⟩
 replace c5 := Bool.eq_false_iff.mpr c5
 subst c5
 rw [if_neg (show ¬ (false = true) by decide)] at H
 simp only [Option.some.injEq, Prod.mk.injEq] at H
 obtain ⟨rfl, rfl⟩ := H
 go_enter Try.func78, Try.ntmps78
 go_wp2_with (first | ((with_reducible refine gate_dst (N := 2) rfl ?_); refine bE 2 #[.slice A0_0 l0_0.length c0_0, .slice A0_1 l0_1.length c0_1] 30 ?_; intro gb209 hg w51 hbox hb; have n_ := aI (sB HB hb) (aI (aM hbox) (aI (gE HB hg) (gE HB hg))); clear HB; obtain ⟨HB, BK209, GW209, GE209⟩ := n_; (try clear hb hbox hg)) | ((with_reducible refine gate_dst (N := 4) rfl ?_); refine bE 4 #[.slice none 0 0, .slice none 0 0] 30 ?_; intro gb210 hg w52 hbox hb; have n_ := aI (kB BK209 hb) (aI (sB HB hb) (aI (aM hbox) (aI (gE HB hg) (aI (gE HB hg) (aI (nL BK209 hg) (nG BK209 hg)))))); clear BK209 HB; obtain ⟨BK209, HB, BK210, GW210, GE210, NB209_210, NB210_209⟩ := n_; (try clear hb hbox hg); have hnb53 := NB209_210.out; have hnc53 := NB210_209.out; have hcz54_0 := cZ0 BK209; have hcz54_1 := cZ1 BK209; have hfz54_0 := fZ BK209 0; have hfz54_1 := fZ BK209 1) | ((with_reducible refine gate_callee (f := 76) rfl ?_); refine gL (some 9) Try.func76 #[.agg #[.slice A0_0 l0_0.length c0_0, .slice A0_1 l0_1.length c0_1]] ?_; (with_reducible refine (impl_cloneDisk.calls _ _ l0_0 _ _ l0_1 t211 t214 _ ?side1 ?side2 ?side3 ?side4 A3.out).mono ?_); (case side1 => exact cS HR0_0 HB); (case side2 => exact HC0_0.out); (case side3 => exact cS HR0_1 HB); (case side4 => exact HC0_1.out); rintro e w55 ⟨v212, v215, rfl, ho0, ho1, hb⟩; refine ⟨_, rfl, ?_⟩; have n_ := aI (lR HB ho0) (aI (lR HB ho1) (aI (kB BK209 hb) (aI (kB BK210 hb) (sB HB hb)))); clear BK209 BK210 HB; obtain ⟨HO213, HO216, BK209, BK210, HB⟩ := n_; (try clear hb ho0 ho1)) | ((with_reducible refine gate_dst (N := 5) rfl ?_); refine bE 5 #[.slice none 0 0, .slice none 0 0] 30 ?_; intro gb217 hg w56 hbox hb; have n_ := aI (rB HO213 hb) (aI (rB HO216 hb) (aI (kB BK209 hb) (aI (kB BK210 hb) (aI (sB HB hb) (aI (aM hbox) (aI (gE HB hg) (aI (gE HB hg) (aI (nL BK209 hg) (aI (nG BK209 hg) (aI (nL BK210 hg) (nG BK210 hg))))))))))); clear HO213 HO216 BK209 BK210 HB; obtain ⟨HO213, HO216, BK209, BK210, HB, BK217, GW217, GE217, NB209_217, NB217_209, NB210_217, NB217_210⟩ := n_; (try clear hb hbox hg); obtain ⟨Ao57, co57, eo57⟩ := Kd.R_slice HO213.out; subst eo57; have hnb58 := NB217_209.out; have hnc58 := NB209_217.out; have hnb59 := NB217_210.out; have hnc59 := NB210_217.out; have hcz60_0 := cZ0 BK217; have hcz60_1 := cZ1 BK217; have hfz60_0 := fZ BK217 0; have hfz60_1 := fZ BK217 1; obtain ⟨Ao61, co61, eo61⟩ := Kd.R_slice HO216.out; subst eo61; have hcz62_0 := cZ0 BK209; have hcz62_1 := cZ1 BK209; have hfz62_0 := fZ BK209 0; have hfz62_1 := fZ BK209 1) | ((with_reducible refine gate_callee (f := 18) rfl ?_); refine gL (some 11) Try.func18 #[.agg #[.slice A0_0 l0_0.length c0_0, .slice A0_1 l0_1.length c0_1]] ?_; (with_reducible refine (impl_DiskOk.calls _ _ l0_0 _ _ l0_1 false _ ?side1 ?side2 ?side3 ?side4 A4.out).mono ?_); (case side1 => exact cS HR0_0 HB); (case side2 => exact HC0_0.out); (case side3 => exact cS HR0_1 HB); (case side4 => exact HC0_1.out); rintro e w63 ⟨rfl, hb⟩; refine ⟨_, rfl, ?_⟩; have n_ := aI (aM (Kd.R_below (rP (Kd.R_mono (Kd.R_far (p := ⟨gb217, 1, none⟩) (Kd.R_far (p := ⟨gb217, 0, none⟩) (Kd.R_types HO213.out BK217.out (by decide)) (fun _ hk => hk.2) (.slice Ao57 t211.length co57)) (fun _ hk => hk.2) (.slice Ao61 t214.length co61)) (fun _ h_ => h_.1))) hb)) (aI (aM (Kd.R_below (rP (Kd.R_mono (Kd.R_far (p := ⟨gb217, 1, none⟩) (Kd.R_far (p := ⟨gb217, 0, none⟩) (Kd.R_types HO216.out BK217.out (by decide)) (fun _ hk => hk.2) (.slice Ao57 t211.length co57)) (fun _ hk => hk.2) (.slice Ao61 t214.length co61)) (fun _ h_ => h_.1))) hb)) (aI (kB BK209 hb) (aI (kB BK210 hb) (aI (aM (blk_below (g := gb217) (o := .cells #[.slice Ao57 t211.length co57, .slice Ao61 t214.length co61] 30 (0, 0)) (by (with_reducible repeat (first | apply bN | apply bD | apply bA)); refine blk_put (cs := #[.slice Ao57 t211.length co57, .slice none 0 0]) ?_ 1 _ rfl; (with_reducible repeat (first | apply bN | apply bD | apply bA)); refine blk_put (cs := #[.slice none 0 0, .slice none 0 0]) ?_ 0 _ rfl; (with_reducible repeat (first | apply bN | apply bD | apply bA)); exact BK217.out) hb)) (sB HB hb))))); clear HO213 HO216 BK209 BK210 BK217 HB; obtain ⟨HO213, HO216, BK209, BK210, BK217, HB⟩ := n_; (try clear hb); have hcz64_0 := cZ0 BK217; have hcz64_1 := cZ1 BK217; have hfz64_0 := fZ BK217 0; have hfz64_1 := fZ BK217 1; have hcz65_0 := cZ0 BK210; have hcz65_1 := cZ1 BK210; have hfz65_0 := fZ BK210 0; have hfz65_1 := fZ BK210 1))
 refine bodyPost_ret (results_cell_row rfl _ _ gb210 30 #[.slice Ao57 t211.length co57, .slice Ao61 t214.length co61] (0, 0) _ rfl (by (with_reducible repeat (first | apply bN | apply bD | apply bA)); refine blk_put (cs := #[.slice Ao57 t211.length co57, .slice none 0 0]) ?_ 1 _ rfl; (with_reducible repeat (first | apply bN | apply bD | apply bA)); refine blk_put (cs := #[.slice none 0 0, .slice none 0 0]) ?_ 0 _ rfl; (with_reducible repeat (first | apply bN | apply bD | apply bA)); exact BK210.out) Try.underlying30 rfl (by kernel_rfl)) rfl ?_
 exact ⟨_, _, eW, by (with_reducible repeat (first | apply Kd.R_alloc | apply Kd.R_drewN | apply Kd.R_drew)); exact Kd.R_mono (Kd.R_far (p := ⟨gb210, 1, none⟩) (Kd.R_far (p := ⟨gb210, 0, none⟩) (Kd.R_types HO213.out BK210.out (by decide)) (fun _ hk => hk.2) (.slice Ao57 t211.length co57)) (fun _ hk => hk.2) (.slice Ao61 t214.length co61)) (fun _ hk => trivial), by (with_reducible repeat (first | apply Kd.R_alloc | apply Kd.R_drewN | apply Kd.R_drew)); exact Kd.R_mono (Kd.R_far (p := ⟨gb210, 1, none⟩) (Kd.R_far (p := ⟨gb210, 0, none⟩) (Kd.R_types HO216.out BK210.out (by decide)) (fun _ hk => hk.2) (.slice Ao57 t211.length co57)) (fun _ hk => hk.2) (.slice Ao61 t214.length co61)) (fun _ hk => trivial), bB⟩
def impl_Fall.f (k : Nat) (l0_0 : List ByteArray) (l0_1 : List (S65)) (l1 : List Bool) : Option (List ByteArray × (List (S65))) := impl_settle_Fall_1.f l1 k l0_0 l0_1
theorem impl_Fall.mono : ∀ a0 a1 a2 k, LeO (impl_Fall.f k a0 a1 a2) (impl_Fall.f (k + 1) a0 a1 a2) := fun a0 a1 a2 k => impl_settle_Fall_1.mono a2 a0 a1 k
set_option maxHeartbeats 8000000 in
set_option maxRecDepth 100000 in
theorem impl_Fall.calls (k : Nat) (A0_0 : Option Addr) (c0_0 : Nat) (l0_0 : List ByteArray) (A0_1 : Option Addr) (c0_1 : Nat) (l0_1 : List (S65)) (A1 : Option Addr) (c1 : Nat) (l1 : List Bool) (r1 : List ByteArray) (r2 : List (S65)) (w : World) (hr0_0 : Kd.C Kd.string w A0_0 l0_0.length l0_0) (hc0_0 : l0_0.length ≤ c0_0) (hr0_1 : Kd.C k65 w A0_1 l0_1.length l0_1) (hc0_1 : l0_1.length ≤ c0_1) (hr1 : Kd.C Kd.bool w A1 l1.length l1) (hc1 : l1.length ≤ c1) (h : impl_Fall.f k l0_0 l0_1 l1 = some (r1, r2)) :
  Calls Try.prog 35 #[.agg #[.slice A0_0 l0_0.length c0_0, .slice A0_1 l0_1.length c0_1], .slice A1 l1.length c1] w fun e w' => ∃ v0_ v1_ : Value, e = .returned (.agg #[v0_, v1_]) ∧ Kd.R Kd.string 9 w' w.heap.size (fun _ => True) v0_ r1 ∧ Kd.R k65 65 w' w.heap.size (fun _ => True) v1_ r2 ∧ Below w.heap.size w w' := by
 have hu30 := Try.underlying30
 have HR0_0 := aM hr0_0
 have HC0_0 := aM hc0_0
 have HR0_1 := aM hr0_1
 have HC0_1 := aM hc0_1
 have HR1 := aM hr1
 have HB := aM (Below.refl w.heap.size w)
 have HH := aM (show impl_settle_Fall_1.f l1 k l0_0 l0_1 = some (r1, r2) from h)
 clear hr0_0 hc0_0 hr0_1 hc0_1 hr1 hc1 h
 go_enter Try.func35, Try.ntmps35
 go_wp2_with (first | ((with_reducible refine gate_dst (N := 2) rfl ?_); refine bE 2 #[.slice A0_0 l0_0.length c0_0, .slice A0_1 l0_1.length c0_1] 30 ?_; intro g1 hg w3 hbox hb; have n_ := aI (sB HB hb) (aI (aM hbox) (gE HB hg)); clear HB; obtain ⟨HB, BKg1, GEg1⟩ := n_; (try clear hb hbox hg)) | ((with_reducible refine gate_dst (N := 3) rfl ?_); refine bE 3 #[.slice A1 l1.length c1] 45 ?_; intro g2 hg w4 hbox hb; have n0_ := sB HB hb; have n1_ := aM hbox; have n2_ := gE HB hg; have m0_ := aM (blk_below BKg1.out hb); clear HB; clear BKg1; have HB := n0_; have BKg2 := n1_; have GEg2 := n2_; have BKg1 := m0_; clear n0_ n1_ n2_ m0_; clear hb hbox hg) | ((with_reducible refine gate_dst (N := 4) rfl ?_); refine bE 4 #[.slice none 0 0, .slice none 0 0] 30 ?_; intro g3 hg w5 hbox hb; have n0_ := sB HB hb; have n1_ := aM hbox; have n2_ := gE HB hg; have m0_ := aM (blk_below BKg1.out hb); have m1_ := aM (blk_below BKg2.out hb); clear HB; clear BKg1; clear BKg2; have HB := n0_; have BKg3 := n1_; have GEg3 := n2_; have BKg1 := m0_; have BKg2 := m1_; clear n0_ n1_ n2_ m0_ m1_; clear hb hbox hg; have hcz6_0 := cZ0 BKg1; have hcz6_1 := cZ1 BKg1) | ((with_reducible refine gate_callee (f := 78) rfl ?_); refine gL (some 7) Try.func78 #[.agg #[.slice A0_0 l0_0.length c0_0, .slice A0_1 l0_1.length c0_1], .func (.func 80) #[] #[.pointer (some ⟨g2, 0, none⟩)]] ?_; (with_reducible refine (impl_settle_Fall_1.calls g2 A1 c1 l1 k _ _ l0_0 _ _ l0_1 r1 r2 _ BKg2.out ?side0 ?side1 ?side2 ?side3 ?side4 HH.out).mono ?_); (case side0 => exact (Kd.C_below HR1.out HB.out)); (case side1 => exact (Kd.C_below HR0_0.out HB.out)); (case side2 => exact HC0_0.out); (case side3 => exact (Kd.C_below HR0_1.out HB.out)); (case side4 => exact HC0_1.out); rintro e w7 ⟨v226, v229, rfl, ho0, ho1, hb⟩; refine ⟨_, rfl, ?_⟩; have n0_ := lR HB ho0; have n1_ := lR HB ho1; have n3_ := aM (blk_below BKg3.out hb); have n4_ := sB HB hb; clear BKg1; clear BKg2; clear BKg3; clear HB; have HO227 := n0_; have HO230 := n1_; have BKg3 := n3_; have HB := n4_; clear n0_ n1_ n3_ n4_; clear hb ho0 ho1; obtain ⟨Ao8, co8, eo8⟩ := Kd.R_slice HO227.out; subst eo8; have hcz9_0 := cZ0 BKg3; have hcz9_1 := cZ1 BKg3; have hfz9_0 := fZ BKg3 0; have hfz9_1 := fZ BKg3 1; obtain ⟨Ao10, co10, eo10⟩ := Kd.R_slice HO230.out; subst eo10))
 refine bodyPost_ret (results_cell_row rfl _ _ g3 30 #[.slice Ao8 r1.length co8, .slice Ao10 r2.length co10] (0, 0) _ rfl (by (with_reducible repeat (first | apply bN | apply bD | apply bA)); refine blk_put (cs := #[.slice Ao8 r1.length co8, .slice none 0 0]) ?_ 1 _ rfl; (with_reducible repeat (first | apply bN | apply bD | apply bA)); refine blk_put (cs := #[.slice none 0 0, .slice none 0 0]) ?_ 0 _ rfl; (with_reducible repeat (first | apply bN | apply bD | apply bA)); exact BKg3.out) Try.underlying30 rfl (by kernel_rfl)) rfl ?_
 exact ⟨_, _, eW, by (with_reducible repeat (first | apply Kd.R_alloc | apply Kd.R_drewN | apply Kd.R_drew)); exact Kd.R_mono (Kd.R_far (p := ⟨g3, 1, none⟩) (Kd.R_far (p := ⟨g3, 0, none⟩) (Kd.R_types HO227.out BKg3.out (by decide)) (fun _ hk => hk.2) (.slice Ao8 r1.length co8)) (fun _ hk => hk.2) (.slice Ao10 r2.length co10)) (fun _ hk => trivial), by (with_reducible repeat (first | apply Kd.R_alloc | apply Kd.R_drewN | apply Kd.R_drew)); exact Kd.R_mono (Kd.R_far (p := ⟨g3, 1, none⟩) (Kd.R_far (p := ⟨g3, 0, none⟩) (Kd.R_types HO230.out BKg3.out (by decide)) (fun _ hk => hk.2) (.slice Ao8 r1.length co8)) (fun _ hk => hk.2) (.slice Ao10 r2.length co10)) (fun _ hk => trivial), bB⟩


/-! ### spec_l1Copy: function 110 -/
def spec_l1Copy.f (l0 : List ByteArray) : Option (List ByteArray) := (some (([] : List ByteArray) : List ByteArray)).bind fun y116 => (if y116.length + l0.length < 8796093022208 then (some (y116 ++ l0)) else (none))
set_option maxHeartbeats 8000000 in
set_option maxRecDepth 100000 in
theorem spec_l1Copy.calls (A0 : Option Addr) (c0 : Nat) (l0 : List ByteArray) (r : List ByteArray) (w : World) (hr0 : Kd.C Kd.string w A0 l0.length l0) (hc0 : l0.length ≤ c0) (h : spec_l1Copy.f l0 = some r) :
  Calls Try.prog 110 #[.slice A0 l0.length c0] w fun e w' => ∃ v0_ : Value, e = .returned (v0_) ∧ Kd.R Kd.string 9 w' w.heap.size (fun _ => True) v0_ r ∧ Below w.heap.size w w' := by
 have HR0 := aM hr0
 have HC0 := aM hc0
 clear hr0 hc0
 have HB := aM (Below.refl w.heap.size w)
 unfold spec_l1Copy.f at h
 have H := h
 clear h
 obtain ⟨y116, hy116⟩ : ∃ y_ : List ByteArray, y_ = (([] : List ByteArray)) := ⟨_, rfl⟩
 replace H : (if y116.length + l0.length < 8796093022208 then (some (y116 ++ l0)) else (none)) = some r := bQ hy116 H
 have Ny116 := aM hy116
 clear hy116
 by_cases c2 : y116.length + l0.length < 8796093022208
 ·rw [if_pos c2] at H
  have LMc2 := aM c2
  clear c2
  obtain ⟨y119, hy119⟩ : ∃ y_ : List ByteArray, y_ = (y116 ++ l0) := ⟨_, rfl⟩
  replace H : (some y119) = some r := bQ hy119 H
  have Ny119 := aM hy119
  clear hy119
  obtain rfl := Option.some.inj H
  go_enter Try.func110, Try.ntmps110
  go_wp2_with (first | ((with_reducible refine gate_dst (N := 3) rfl ?_); refine Kd.R_lit Kd.string _ 9 ?hg (N := 3) ?hd (xs := ([] : List ByteArray)) (inner := []) (ok := fun _ => True) (okp := fun _ => True) ?hr ?hp (fun _ hk => hk) trivial (Below.refl _ _) (Nat.le_refl _) (by simp) ?_; (case hd => rfl); (case hg => rfl); (case hr => first | (go_simp; done) | (go_simp; rfl)); (case hp => exact (Reps.none _ _)); intro v117 w3 ho4 hb hg_ hnew_; clear hg_ hnew_; (first | rw [← Ny116.out] at ho4 | (simp only [Int.reduceToNat] at ho4; rw [← Ny116.out] at ho4)); have n_ := aI (lR HB ho4) (sB HB hb); clear HB; obtain ⟨HO118, HB⟩ := n_; (try clear hb ho4)) | ((with_reducible refine gate_builtin (b := .append) (xs := #[.tmp 3, .tmp 4]) rfl ?_); at_builtin; refine Kd.R_append_rows Kd.string (w0 := w) w.heap.size rfl (.tmp 3) (.tmp 4) 22 9 (.string ⟨#[]⟩) 16 rfl Try.underlying22 info9 rfl (by decide) (by omega) v117 y116 l0 _ _ _ (fun _ => True) (fun _ => False) rfl rfl ?aO ?aR (fun _ _ h => h) (fun _ h => h.elim) ?aF ?aB ?aS ?aL ?_; (case aR => exact cS HR0 HB); (case aB => exact bB); (case aF => exact (fun _ _ => trivial)); (case aO => exact (rP HO118.out)); (case aS => exact (zB HB)); (case aL => have := LMc2.out; omega); intro v120 w5 ho hb hg hat; rw [← Ny119.out] at ho; have n_ := aI (aM (hb)) (aM (ho)); clear HB HO118; obtain ⟨HB, HO121⟩ := n_; (try clear ho hb hg hat)))
  go_ret
  exact ⟨_, eW, by (with_reducible repeat (first | apply Kd.R_alloc | apply Kd.R_drewN | apply Kd.R_drew)); exact HO121.out, bB⟩
 rw [if_neg c2] at H
 exact absurd H (by simp)

/-! ### spec_l3Copy: function 75 -/
def spec_l3Copy.f (l0_0 : List ByteArray) (l0_1 : List (S65)) : Option (List ByteArray × (List (S65))) := (spec_l1Copy.f l0_0).bind fun t124 => ((some (([] : List (S65)) : List (S65))).bind fun y127 => (if y127.length + l0_1.length < 5864062014805 then (some (t124, (y127 ++ l0_1))) else (none)))
def spec_l3Copy.T1 : Bool × List (List Nat × List Nat) := (true, [([], []), ([0], [0]), ([1], [1]), ([], []), ([], []), ([4], [4]), ([3, 5, 2], [3, 5]), ([2, 6], [2, 6]), ([7, 6, 0, 1, 2, 3, 4, 5, 6, 7], [7])])
def spec_l3Copy.B1 : List Nat := [0, 1, 3, 0, 0, 16, 63, 127, 255]
theorem spec_l3Copy.tab1 : rtab .any (opsOf Try.f75 1) = spec_l3Copy.T1 := by kernel_rfl
theorem spec_l3Copy.bits1 : waitsOk spec_l3Copy.T1.2 spec_l3Copy.B1 = true := by kernel_rfl
set_option maxHeartbeats 8000000 in
set_option maxRecDepth 100000 in
theorem spec_l3Copy.calls (A0_0 : Option Addr) (c0_0 : Nat) (l0_0 : List ByteArray) (A0_1 : Option Addr) (c0_1 : Nat) (l0_1 : List (S65)) (r1 : List ByteArray) (r2 : List (S65)) (w : World) (hr0_0 : Kd.C Kd.string w A0_0 l0_0.length l0_0) (hc0_0 : l0_0.length ≤ c0_0) (hr0_1 : Kd.C k65 w A0_1 l0_1.length l0_1) (hc0_1 : l0_1.length ≤ c0_1) (h : spec_l3Copy.f l0_0 l0_1 = some (r1, r2)) :
  Calls Try.prog 75 #[.agg #[.slice A0_0 l0_0.length c0_0, .slice A0_1 l0_1.length c0_1]] w fun e w' => ∃ v0_ v1_ : Value, e = .returned (.agg #[v0_, v1_]) ∧ Kd.R Kd.string 9 w' w.heap.size (fun _ => True) v0_ r1 ∧ Kd.R k65 65 w' w.heap.size (fun _ => True) v1_ r2 ∧ Below w.heap.size w w' := by
 have hu30 := Try.underlying30
 have HR0_0 := aM hr0_0
 have HC0_0 := aM hc0_0
 clear hr0_0 hc0_0
 have HR0_1 := aM hr0_1
 have HC0_1 := aM hc0_1
 clear hr0_1 hc0_1
 have HB := aM (Below.refl w.heap.size w)
 unfold spec_l3Copy.f at h
 have H := h
 clear h
 replace H := Option.bind_eq_some_iff.mp H
 obtain ⟨t124, A20, H⟩ := H
 try dsimp only at H
 have A2 := aM A20
 clear A20
 obtain ⟨y127, hy127⟩ : ∃ y_ : List (S65), y_ = (([] : List (S65))) := ⟨_, rfl⟩
 replace H : (if y127.length + l0_1.length < 5864062014805 then (some (t124, (y127 ++ l0_1))) else (none)) = some (r1, r2) := bQ hy127 H
 have Ny127 := aM hy127
 clear hy127
 by_cases c3 : y127.length + l0_1.length < 5864062014805
 ·rw [if_pos c3] at H
  have LMc3 := aM c3
  clear c3
  obtain ⟨y130, hy130⟩ : ∃ y_ : List (S65), y_ = (y127 ++ l0_1) := ⟨_, rfl⟩
  replace H : (some (t124, y130)) = some (r1, r2) := bQ hy130 H
  have Ny130 := aM hy130
  clear hy130
  simp only [Option.some.injEq, Prod.mk.injEq] at H
  obtain ⟨rfl, rfl⟩ := H
  go_enter Try.func75, Try.ntmps75
  try go_wp2_with (first | ((with_reducible refine gate_dst (N := 1) rfl ?_); refine bE 1 #[.slice A0_0 l0_0.length c0_0, .slice A0_1 l0_1.length c0_1] 30 ?_; intro gb122 hg w4 hbox hb; have n_ := aI (sB HB hb) (aI (aM hbox) (aI (gE HB hg) (gE HB hg))); clear HB; obtain ⟨HB, BK122, GW122, GE122⟩ := n_; (try clear hb hbox hg)) | ((with_reducible refine gate_dst (N := 2) rfl ?_); refine bE 2 #[.slice none 0 0, .slice none 0 0] 30 ?_; intro gb123 hg w5 hbox hb; have n_ := aI (kB BK122 hb) (aI (sB HB hb) (aI (aM hbox) (aI (gE HB hg) (aI (gE HB hg) (aI (nL BK122 hg) (nG BK122 hg)))))); clear BK122 HB; obtain ⟨BK122, HB, BK123, GW123, GE123, NB122_123, NB123_122⟩ := n_; (try clear hb hbox hg)))
  have n_ := aI (aM (blk_drew BK122.out)) (aI (aM (blk_drew BK123.out)) (aM (below_drew1 HB.out)))
  clear BK122 BK123 HB
  obtain ⟨BK122, BK123, HB⟩ := n_
  refine start_ (n := 9) (S := fun w' => w'.cell? ⟨gb122, 0, none⟩ = some (.slice A0_0 l0_0.length c0_0) ∧ w'.cell? ⟨gb122, 1, none⟩ = some (.slice A0_1 l0_1.length c0_1)) (ds := []) #[tF, tF, tF, tF, tF, tF, tF, tF, tF] (by kernel_rfl) rfl rfl ⟨(blk_cell BK122.out 0).trans rfl, (blk_cell BK122.out 1).trans rfl⟩ (fun hHeld => ?_); refine with_tabW spec_l3Copy.tab1 spec_l3Copy.bits1 (fun HT_ HW_ => ?_)
  generalize w5.drew = w6 at BK122 BK123 HB hHeld ⊢
  refine pY 0 3 #[tT, tF, tF, tF, tF, tF, tF, tF, tF] ?_
  refine pY 4 7 #[tT, tF, tF, tF, tT, tF, tF, tF, tF] ?_
  refine take_ (i := 1) (N := some 4) (v := ?_) (a' := ?_) #[tT, tT, tF, tF, tT, tF, tF, tF, tF] rfl rfl (take_ofW HT_.out HW_.out (by kernel_rfl)) (fun _ _ _ h => h) (Or.inl ⟨by rfl, ?_⟩) hHeld ?_ ?_
  rotate_left
  ·rintro w' ⟨s0, s1⟩
   go_simp
   with_reducible rfl
  rotate_left
  ·simp only [Act.put, List.setIfInBounds_toArray, List.set_cons_zero, List.set_cons_succ, i64_w, i32_w]
   rfl
  refine take_ (i := 5) (N := some 8) (v := ?_) (a' := ?_) #[tT, tT, tF, tF, tT, tT, tF, tF, tF] rfl rfl (take_ofW HT_.out HW_.out (by kernel_rfl)) (fun _ _ _ h => h) (Or.inl ⟨by rfl, ?_⟩) hHeld ?_ ?_
  rotate_left
  ·rintro w' ⟨s0, s1⟩
   go_simp
   with_reducible rfl
  rotate_left
  ·simp only [Act.put, List.setIfInBounds_toArray, List.set_cons_zero, List.set_cons_succ, i64_w, i32_w]
   rfl
  refine join_ (σ := Value × Value) 3 #[true, true, true, true, true, true, false, false, false] (fun s_ => [(5, s_.1), (6, s_.2)]) (fun s_ w' => (w'.cell? ⟨gb122, 0, none⟩ = some (.slice A0_0 l0_0.length c0_0) ∧ w'.cell? ⟨gb122, 1, none⟩ = some (.slice A0_1 l0_1.length c0_1)) ∧ (Kd.R Kd.string 9 w' w.heap.size (fun _ => True) s_.1 t124) ∧ (Kd.R k65 65 w' w.heap.size (fun _ => True) s_.2 y127) ∧ (w'.heap[gb122]? = some (.cells #[.slice A0_0 l0_0.length c0_0, .slice A0_1 l0_1.length c0_1] 30 (0, 0))) ∧ (w'.heap[gb123]? = some (.cells #[.slice none 0 0, .slice none 0 0] 30 (0, 0))) ∧ (Below w.heap.size w w')) ?_ ?_
  rotate_left
  ·intro hCont
   refine two_ (i := 2) (j := 3) (Ni := some 5) (Nj := some 6) #[true, true, true, false, true, true, false, false, false] #[true, true, false, true, true, true, false, false, false] rfl rfl rfl rfl (two_of HT_.out (by kernel_rfl)) (by decide) (by decide) (fun K hK => ?_) (fun K hK => ?_)
   ·skip
    refine goes_ Try.func110 (by kernel_rfl) rfl #[.slice A0_0 l0_0.length c0_0] (by rfl) rfl rfl (by (try simp only [List.map_toArray, List.map_cons, List.map_nil]); first | done | rfl | (simp only [List.length_drop, List.length_take]; rfl)) ?_
    with_reducible refine (spec_l1Copy.calls _ _ l0_0 t124 _ ?side1 ?side2 A2.out).mono ?_
    (case side1 => exact cS HR0_0 HB)
    (case side2 => exact HC0_0.out)
    rintro e w7 ⟨v125, rfl, ho0, hb⟩
    refine ⟨_, rfl, ?_⟩
    have n_ := aI (lR HB ho0) (aI (kB BK122 hb) (aI (kB BK123 hb) (sB HB hb)))
    clear BK122 BK123 HB
    obtain ⟨HO126, BK122, BK123, HB⟩ := n_
    (try clear hb)
    (try clear hb2)
    (try clear hk)
    (try clear hi)
    (try clear ho0)
    refine hK.out _ _ ⟨(blk_cell BK122.out 0).trans rfl, (blk_cell BK122.out 1).trans rfl⟩ (fun hHeld => ?_)
    clear hK K
    refine norm_ (a' := ?_) ?_ ?_
    rotate_left
    ·show Act.put _ (some 5) _ = _
     simp only [Act.put, List.setIfInBounds_toArray, List.set_cons_zero, List.set_cons_succ, i64_w, i32_w]
     rfl
    refine one_ (i := 3) (N := some 6) #[tT, tT, tT, tT, tT, tT, tF, tF, tF] rfl rfl (one_of HT_.out (by kernel_rfl)) (by decide) (fun K hK => ?_)
    refine Kd.R_lit_step k65 _ 65 ?hg (N := 6) ?hd (xs := ([] : List (S65))) (inner := []) (ok := fun _ => True) (okp := fun _ => True) ?hr ?hp (fun _ hk => hk) trivial (Below.refl _ _) (Nat.le_refl _) (by simp) ?_; (case hd => rfl); (case hg => rfl); (case hr => first | (go_simp; done) | (go_simp; rfl)); (case hp => exact (Reps.none _ _))
    intro v128 w8 ho9 hb hg_ hnew_
    clear hg_ hnew_
    (first | rw [← Ny127.out] at ho9 | (simp only [Int.reduceToNat] at ho9; rw [← Ny127.out] at ho9))
    have n_ := aI (rB HO126 hb) (aI (lR HB ho9) (aI (kB BK122 hb) (aI (kB BK123 hb) (sB HB hb))))
    clear HO126 BK122 BK123 HB
    obtain ⟨HO126, HO129, BK122, BK123, HB⟩ := n_
    clear hb ho9
    refine hK.out _ _ ⟨(blk_cell BK122.out 0).trans rfl, (blk_cell BK122.out 1).trans rfl⟩ (fun hHeld => ?_)
    clear hK K
    refine norm_ (a' := ?_) ?_ ?_
    rotate_left
    ·show Act.put _ (some 6) _ = _
     simp only [Act.put, List.setIfInBounds_toArray, List.set_cons_zero, List.set_cons_succ, i64_w, i32_w]
     rfl
    exact norm_ (by simp only [putAll, Act.put, List.setIfInBounds_toArray, List.set_cons_zero, List.set_cons_succ]) (hCont (v125, v128) _ ⟨hHeld, (rP HO126.out), (rP HO129.out), (kP BK122), (kP BK123), bB⟩)
   skip
   refine Kd.R_lit_step k65 _ 65 ?hg (N := 6) ?hd (xs := ([] : List (S65))) (inner := []) (ok := fun _ => True) (okp := fun _ => True) ?hr ?hp (fun _ hk => hk) trivial (Below.refl _ _) (Nat.le_refl _) (by simp) ?_; (case hd => rfl); (case hg => rfl); (case hr => first | (go_simp; done) | (go_simp; rfl)); (case hp => exact (Reps.none _ _))
   intro v128 w7 ho8 hb hg_ hnew_
   clear hg_ hnew_
   (first | rw [← Ny127.out] at ho8 | (simp only [Int.reduceToNat] at ho8; rw [← Ny127.out] at ho8))
   have n_ := aI (lR HB ho8) (aI (kB BK122 hb) (aI (kB BK123 hb) (sB HB hb)))
   clear BK122 BK123 HB
   obtain ⟨HO129, BK122, BK123, HB⟩ := n_
   clear hb ho8
   refine hK.out _ _ ⟨(blk_cell BK122.out 0).trans rfl, (blk_cell BK122.out 1).trans rfl⟩ (fun hHeld => ?_)
   clear hK K
   refine norm_ (a' := ?_) ?_ ?_
   rotate_left
   ·show Act.put _ (some 6) _ = _
    simp only [Act.put, List.setIfInBounds_toArray, List.set_cons_zero, List.set_cons_succ, i64_w, i32_w]
    rfl
   refine one_ (i := 2) (N := some 5) #[tT, tT, tT, tT, tT, tT, tF, tF, tF] rfl rfl (one_of HT_.out (by kernel_rfl)) (by decide) (fun K hK => ?_)
   refine goes_ Try.func110 (by kernel_rfl) rfl #[.slice A0_0 l0_0.length c0_0] (by rfl) rfl rfl (by (try simp only [List.map_toArray, List.map_cons, List.map_nil]); first | done | rfl | (simp only [List.length_drop, List.length_take]; rfl)) ?_
   with_reducible refine (spec_l1Copy.calls _ _ l0_0 t124 _ ?side1 ?side2 A2.out).mono ?_
   (case side1 => exact cS HR0_0 HB)
   (case side2 => exact HC0_0.out)
   rintro e w9 ⟨v125, rfl, ho0, hb⟩
   refine ⟨_, rfl, ?_⟩
   have n_ := aI (rB HO129 hb) (aI (lR HB ho0) (aI (kB BK122 hb) (aI (kB BK123 hb) (sB HB hb))))
   clear HO129 BK122 BK123 HB
   obtain ⟨HO129, HO126, BK122, BK123, HB⟩ := n_
   (try clear hb)
   (try clear hb2)
   (try clear hk)
   (try clear hi)
   (try clear ho0)
   refine hK.out _ _ ⟨(blk_cell BK122.out 0).trans rfl, (blk_cell BK122.out 1).trans rfl⟩ (fun hHeld => ?_)
   clear hK K
   refine norm_ (a' := ?_) ?_ ?_
   rotate_left
   ·show Act.put _ (some 5) _ = _
    simp only [Act.put, List.setIfInBounds_toArray, List.set_cons_zero, List.set_cons_succ, i64_w, i32_w]
    rfl
   exact norm_ (by simp only [putAll, Act.put, List.setIfInBounds_toArray, List.set_cons_zero, List.set_cons_succ]) (hCont (v125, v128) _ ⟨hHeld, (rP HO126.out), (rP HO129.out), (kP BK122), (kP BK123), bB⟩)
  rintro ⟨v125, v128⟩ w10 ⟨hS_, h0_, h1_, h2_, h3_, h4_⟩
  have n0_ : Aside0 (Kd.R Kd.string 9 w10 w.heap.size (fun _ => True) v125 t124) := ⟨h0_⟩
  have n1_ : Aside0 (Kd.R k65 65 w10 w.heap.size (fun _ => True) v128 y127) := ⟨h1_⟩
  have n2_ : Aside0 (w10.heap[gb122]? = some (.cells #[.slice A0_0 l0_0.length c0_0, .slice A0_1 l0_1.length c0_1] 30 (0, 0))) := ⟨h2_⟩
  have n3_ : Aside0 (w10.heap[gb123]? = some (.cells #[.slice none 0 0, .slice none 0 0] 30 (0, 0))) := ⟨h3_⟩
  have n4_ : Aside0 (Below w.heap.size w w10) := ⟨h4_⟩
  clear BK122
  clear BK123
  clear HB
  clear h0_ h1_ h2_ h3_ h4_
  have HO126 := n0_
  have HO129 := n1_
  have BK122 := n2_
  have BK123 := n3_
  have HB := n4_
  clear n0_ n1_ n2_ n3_ n4_
  have hHeld : w10.cell? ⟨gb122, 0, none⟩ = some (.slice A0_0 l0_0.length c0_0) ∧ w10.cell? ⟨gb122, 1, none⟩ = some (.slice A0_1 l0_1.length c0_1) := hS_
  refine norm_ (a' := ?_) ?_ ?_
  rotate_left
  ·simp only [putAll, Act.put, List.setIfInBounds_toArray, List.set_cons_zero, List.set_cons_succ]
   rfl
  refine one_ (i := 6) (N := some 9) #[tT, tT, tT, tT, tT, tT, tT, tF, tF] rfl rfl (one_of HT_.out (by kernel_rfl)) (by decide) (fun K hK => ?_)
  refine Kd.R_append_rows_step k65 (w0 := w) w.heap.size (by rfl) (.tmp 6) (.tmp 8) 28 65 (.agg #[(.int .i64 0), (.string ⟨#[]⟩)]) 24 rfl Try.underlying28 info65 rfl (by decide) (by omega) v128 y127 l0_1 _ _ _ (fun _ => True) (fun _ => False) rfl rfl ?aO ?aR (fun _ _ h => h) (fun _ h => h.elim) ?aF ?aB ?aS ?aL ?_
  (case aR => exact cS HR0_1 HB)
  (case aB => exact bB)
  (case aF => exact (fun _ _ => trivial))
  (case aO => exact (rP HO129.out))
  (case aS => exact (zB HB))
  (case aL => have := LMc3.out; omega)
  intro v131 w11 ho hb hg hat
  rw [← Ny130.out] at ho
  have n_ := aI (aM (blk_grown (g := gb122) (o := .cells #[.slice A0_0 l0_0.length c0_0, .slice A0_1 l0_1.length c0_1] 30 (0, 0)) (kP BK122) hg (Kd.R_ne HO129.out BK122.out (by decide)))) (aI (aM (blk_grown (g := gb123) (o := .cells #[.slice none 0 0, .slice none 0 0] 30 (0, 0)) (kP BK123) hg (Kd.R_ne HO129.out BK123.out (by decide)))) (aI (aM (Kd.R_over' (rP HO126.out) (Kd.R_typed (rP HO129.out)) (by decide) hg)) (aI (aM (hb)) (aM (ho)))))
  clear BK122 BK123 HO126 HB HO129
  obtain ⟨BK122, BK123, HO126, HB, HO132⟩ := n_
  clear ho hb hg hat
  obtain ⟨Ao12, co12, eo12⟩ := Kd.R_slice HO132.out
  (first | subst eo12 | (injection eo12 with f1_ f2_ f3_; have f4_ := f1_.symm; have f5_ := f3_.symm; clear f1_ f2_ f3_; subst f4_; subst f5_))
  obtain ⟨Ao13, co13, eo13⟩ := Kd.R_slice HO126.out
  (first | subst eo13 | (injection eo13 with f1_ f2_ f3_; have f4_ := f1_.symm; have f5_ := f3_.symm; clear f1_ f2_ f3_; subst f4_; subst f5_))
  refine hK.out _ _ ⟨(blk_cell BK122.out 0).trans rfl, (blk_cell BK122.out 1).trans rfl⟩ (fun hHeld => ?_)
  clear hK K
  refine norm_ (a' := ?_) ?_ ?_
  rotate_left
  ·show Act.put _ (some 9) _ = _
   simp only [Act.put, List.setIfInBounds_toArray, List.set_cons_zero, List.set_cons_succ, i64_w, i32_w]
   rfl
  refine pY 7 10 #[tT, tT, tT, tT, tT, tT, tT, tT, tF] ?_
  refine one_ (i := 8) (N := none) #[tT, tT, tT, tT, tT, tT, tT, tT, tT] rfl rfl (one_of HT_.out (by kernel_rfl)) (by decide) (fun K hK => ?_)
  have hs14 : w11.cell? ⟨gb123, 0, none⟩ = some (.slice none 0 0) := (blk_cell BK123.out 0).trans rfl
  have hfs14 := blk_frozen BK123.out 0
  have hns14_0 := NB122_123.out
  have hms14_0 := NB123_122.out
  have hs15 : w11.cell? ⟨gb123, 1, none⟩ = some (.slice none 0 0) := (blk_cell BK123.out 1).trans rfl
  have hfs15 := blk_frozen BK123.out 1
  have hns15_0 := NB122_123.out
  have hms15_0 := NB123_122.out
  refine skip_ (w1 := ?_) (by rfl) rfl ?_ ?_
  rotate_left
  ·go_simp
   rfl
  refine hK.out _ _ ⟨((cell_far (p := ⟨gb123, _, none⟩) NB122_123.out _).trans (((cell_far (p := ⟨gb123, _, none⟩) NB122_123.out _).trans (hHeld.1)))), ((cell_far (p := ⟨gb123, _, none⟩) NB122_123.out _).trans (((cell_far (p := ⟨gb123, _, none⟩) NB122_123.out _).trans (hHeld.2))))⟩ (fun hHeld => ?_)
  clear hK K
  refine done_ (done_of HT_.out (by kernel_rfl)) ?_
  try go_wp2
  refine bodyPost_ret (results_cell_row rfl _ _ gb123 30 #[.slice Ao13 t124.length co13, .slice Ao12 y130.length co12] (0, 0) _ rfl (by (with_reducible repeat (first | apply bN | apply bD | apply bA)); refine blk_put (cs := #[.slice Ao13 t124.length co13, .slice none 0 0]) ?_ 1 _ rfl; (with_reducible repeat (first | apply bN | apply bD | apply bA)); refine blk_put (cs := #[.slice none 0 0, .slice none 0 0]) ?_ 0 _ rfl; (with_reducible repeat (first | apply bN | apply bD | apply bA)); exact BK123.out) Try.underlying30 rfl (by kernel_rfl)) rfl ?_
  exact ⟨_, _, eW, by (with_reducible repeat (first | apply Kd.R_alloc | apply Kd.R_drewN | apply Kd.R_drew)); exact Kd.R_mono (Kd.R_far (p := ⟨gb123, 1, none⟩) (Kd.R_far (p := ⟨gb123, 0, none⟩) (Kd.R_types HO126.out BK123.out (by decide)) (fun _ hk => hk.2) (.slice Ao13 t124.length co13)) (fun _ hk => hk.2) (.slice Ao12 y130.length co12)) (fun _ hk => trivial), by (with_reducible repeat (first | apply Kd.R_alloc | apply Kd.R_drewN | apply Kd.R_drew)); exact Kd.R_mono (Kd.R_far (p := ⟨gb123, 1, none⟩) (Kd.R_far (p := ⟨gb123, 0, none⟩) (Kd.R_types HO132.out BK123.out (by decide)) (fun _ hk => hk.2) (.slice Ao13 t124.length co13)) (fun _ hk => hk.2) (.slice Ao12 y130.length co12)) (fun _ hk => trivial), bB⟩
 rw [if_neg c3] at H
 exact absurd H (by simp)

/-! ### spec_Fall: function 33 -/
mutual
def spec_Fall.l0 : Nat → List Bool → Int → List ByteArray → List (S65) → List ByteArray → List (S65) → Option (List ByteArray × (List (S65)))
 | 0, _, _, _, _, _, _ => none
 | k + 1, x1, x6, x134000, x134001, x142000, x142001 => if x6 < (x134001.length : Int) then (spec_Fall.j1 k x1 x6 (decide (x6 < (x1.length : Int))) x134000 x134001 x142000 x142001) else (spec_Fall.j1 k x1 x6 false x134000 x134001 x142000 x142001)
def spec_Fall.j1 : Nat → List Bool → Int → Bool → List ByteArray → List (S65) → List ByteArray → List (S65) → Option (List ByteArray × (List (S65)))
 | 0, _, _, _, _, _, _, _ => none
 | k + 1, x1, x6, x23, x134000, x134001, x142000, x142001 => if x23 = true then (if 0 ≤ x6 then (if x6 < (x1.length : Int) then (if rdOf false x1 x6 = true then (if x6 < (x134001.length : Int) then (if 0 ≤ ((rd_T65 x134001 x6).f0) then (if ((rd_T65 x134001 x6).f0) < (x142000.length : Int) then (spec_Fall.l0 k x1 (wrap64 (x6 + 1)) x134000 x134001 (x142000.set (((rd_T65 x134001 x6).f0) : Int).toNat ((rd_T65 x134001 x6).f1)) x142001) else (none)) else (none)) else (none)) else (spec_Fall.l0 k x1 (wrap64 (x6 + 1)) x134000 x134001 x142000 x142001)) else (none)) else (none)) else (some (x142000, ([] : List (S65))))
end
def spec_Fall.f (k : Nat) (l0_0 : List ByteArray) (l0_1 : List (S65)) (l1 : List Bool) : Option (List ByteArray × (List (S65))) := (spec_l3Copy.f l0_0 l0_1).bind fun bt135 => ((spec_DiskOk.f k l0_0 l0_1).bind fun t142 => (if t142 = true then (spec_Fall.l0 k l1 0 l0_0 l0_1 bt135.1 bt135.2) else (some (bt135.1, bt135.2))))
theorem spec_Fall.mono_l : ∀ k, (∀ y0 y1 y2 y3 y4 y5, LeO (spec_Fall.l0 k y0 y1 y2 y3 y4 y5) (spec_Fall.l0 (k + 1) y0 y1 y2 y3 y4 y5)) ∧ (∀ y0 y1 y2 y3 y4 y5 y6, LeO (spec_Fall.j1 k y0 y1 y2 y3 y4 y5 y6) (spec_Fall.j1 (k + 1) y0 y1 y2 y3 y4 y5 y6))
 | 0 => ⟨fun _ _ _ _ _ _ r h => by simp [spec_Fall.l0] at h, fun _ _ _ _ _ _ _ r h => by simp [spec_Fall.j1] at h⟩
 | k + 1 => by
  obtain ⟨ih0, ih1⟩ := spec_Fall.mono_l k
  refine ⟨?_, ?_⟩
  ·intro y0 y1 y2 y3 y4 y5
   unfold spec_Fall.l0
   have m0_ := @spec_DiskOk.mono
   exact mM
  ·intro y0 y1 y2 y3 y4 y5 y6
   unfold spec_Fall.j1
   have m0_ := @spec_DiskOk.mono
   exact mM
theorem spec_Fall.mono : ∀ a0 a1 a2 k, LeO (spec_Fall.f k a0 a1 a2) (spec_Fall.f (k + 1) a0 a1 a2) := by
 intro a0 a1 a2 k
 obtain ⟨ih0, ih1⟩ := spec_Fall.mono_l k
 unfold spec_Fall.f
 have m0_ := @spec_DiskOk.mono
 exact mM
def spec_Fall.T8 : Bool × List (List Nat × List Nat) := (true, [([], []), ([0], [0]), ([], []), ([2], [2]), ([], []), ([3, 4], [3, 4]), ([5], [5]), ([6], [6]), ([], []), ([8], [8]), ([], []), ([9, 10], [9, 10]), ([11], [11]), ([12], [12]), ([1, 7, 0, 1, 2, 3, 4, 5, 6, 7, 8, 9, 10, 11, 12, 13], [1, 7]), ([14, 13, 0, 1, 2, 3, 4, 5, 6, 7, 8, 9, 10, 11, 12, 13], [13, 14])])
def spec_Fall.B8 : List Nat := [0, 1, 0, 4, 0, 28, 60, 124, 0, 256, 0, 1792, 3840, 7936, 16383, 32767]
theorem spec_Fall.tab8 : rtab .any (opsOf Try.f33 8) = spec_Fall.T8 := by kernel_rfl
theorem spec_Fall.bits8 : waitsOk spec_Fall.T8.2 spec_Fall.B8 = true := by kernel_rfl
set_option maxHeartbeats 8000000 in
set_option maxRecDepth 100000 in
theorem spec_Fall.calls (k : Nat) (A0_0 : Option Addr) (c0_0 : Nat) (l0_0 : List ByteArray) (A0_1 : Option Addr) (c0_1 : Nat) (l0_1 : List (S65)) (A1 : Option Addr) (c1 : Nat) (l1 : List Bool) (r1 : List ByteArray) (r2 : List (S65)) (w : World) (hr0_0 : Kd.C Kd.string w A0_0 l0_0.length l0_0) (hc0_0 : l0_0.length ≤ c0_0) (hr0_1 : Kd.C k65 w A0_1 l0_1.length l0_1) (hc0_1 : l0_1.length ≤ c0_1) (hr1 : Kd.C Kd.bool w A1 l1.length l1) (hc1 : l1.length ≤ c1) (h : spec_Fall.f k l0_0 l0_1 l1 = some (r1, r2)) :
  Calls Try.prog 33 #[.agg #[.slice A0_0 l0_0.length c0_0, .slice A0_1 l0_1.length c0_1], .slice A1 l1.length c1] w fun e w' => ∃ v0_ v1_ : Value, e = .returned (.agg #[v0_, v1_]) ∧ Kd.R Kd.string 9 w' w.heap.size (fun _ => True) v0_ r1 ∧ Kd.R k65 65 w' w.heap.size (fun _ => True) v1_ r2 ∧ Below w.heap.size w w' := by
 have hu30 := Try.underlying30
 have HR0_0 := aM hr0_0
 have HC0_0 := aM hc0_0
 clear hr0_0 hc0_0
 have HR0_1 := aM hr0_1
 have HC0_1 := aM hc0_1
 clear hr0_1 hc0_1
 have HR1 := aM hr1
 have HC1 := aM hc1
 clear hr1 hc1
 have HB := aM (Below.refl w.heap.size w)
 unfold spec_Fall.f at h
 have H := h
 clear h
 replace H := Option.bind_eq_some_iff.mp H
 obtain ⟨⟨t135, t138⟩, A30, H⟩ := H
 try dsimp only at H
 have A3 := aM A30
 clear A30
 replace H := Option.bind_eq_some_iff.mp H
 obtain ⟨t142, A40, H⟩ := H
 try dsimp only at H
 have A4 := aM A40
 clear A40
 by_cases c5 : t142 = true
 ·subst c5
  rw [if_pos rfl] at H
  have H' := aM H
  clear H
  go_enter Try.func33, Try.ntmps33
  go_wp2_with (first | ((with_reducible refine gate_dst (N := 2) rfl ?_); (try (refine gate_guard (by rfl) ?_; dsimp only)); refine box_event ?hg (N := 2) ?hd (cs := #[.slice A0_0 l0_0.length c0_0, .slice A0_1 l0_1.length c0_1]) (t := 30) ?hr ?_; (case hd => rfl); (case hg => rfl); (case hr => first | (go_simp; done) | (go_simp; rfl)); intro gb133 hg w6 hbox hb; have n_ := aI (sB HB hb) (aI (aM hbox) (aI (gE HB hg) (gE HB hg))); clear HB; obtain ⟨HB, BK133, GW133, GE133⟩ := n_; (try clear hb hbox hg)) | ((with_reducible refine gate_dst (N := 4) rfl ?_); (try (refine gate_guard (by rfl) ?_; dsimp only)); refine box_event ?hg (N := 4) ?hd (cs := #[.slice none 0 0, .slice none 0 0]) (t := 30) ?hr ?_; (case hd => rfl); (case hg => rfl); (case hr => first | (go_simp; done) | (go_simp; rfl)); intro gb134 hg w7 hbox hb; have n_ := aI (kB BK133 hb) (aI (sB HB hb) (aI (aM hbox) (aI (gE HB hg) (aI (gE HB hg) (aI (nL BK133 hg) (nG BK133 hg)))))); clear BK133 HB; obtain ⟨BK133, HB, BK134, GW134, GE134, NB133_134, NB134_133⟩ := n_; (try clear hb hbox hg); have hnb8 := NB133_134.out; have hnc8 := NB134_133.out; have hcz9_0 := cZ0 BK133; have hcz9_1 := cZ1 BK133; have hfz9_0 := fZ BK133 0; have hfz9_1 := fZ BK133 1) | ((with_reducible refine gate_callee (f := 75) rfl ?_); refine gL (some 8) Try.func75 #[.agg #[.slice A0_0 l0_0.length c0_0, .slice A0_1 l0_1.length c0_1]] ?_; (with_reducible refine (spec_l3Copy.calls _ _ l0_0 _ _ l0_1 t135 t138 _ ?side1 ?side2 ?side3 ?side4 A3.out).mono ?_); (case side1 => exact cS HR0_0 HB); (case side2 => exact HC0_0.out); (case side3 => exact cS HR0_1 HB); (case side4 => exact HC0_1.out); rintro e w10 ⟨v136, v139, rfl, ho0, ho1, hb⟩; refine ⟨_, rfl, ?_⟩; have n_ := aI (lR HB ho0) (aI (lR HB ho1) (aI (kB BK133 hb) (aI (kB BK134 hb) (sB HB hb)))); clear BK133 BK134 HB; obtain ⟨HO137, HO140, BK133, BK134, HB⟩ := n_; (try clear hb ho0 ho1)) | ((with_reducible refine gate_dst (N := 5) rfl ?_); (try (refine gate_guard (by rfl) ?_; dsimp only)); refine box_event ?hg (N := 5) ?hd (cs := #[.slice none 0 0, .slice none 0 0]) (t := 30) ?hr ?_; (case hd => rfl); (case hg => rfl); (case hr => first | (go_simp; done) | (go_simp; rfl)); intro gb141 hg w11 hbox hb; have n_ := aI (rB HO137 hb) (aI (rB HO140 hb) (aI (kB BK133 hb) (aI (kB BK134 hb) (aI (sB HB hb) (aI (aM hbox) (aI (gE HB hg) (aI (gE HB hg) (aI (nL BK133 hg) (aI (nG BK133 hg) (aI (nL BK134 hg) (nG BK134 hg))))))))))); clear HO137 HO140 BK133 BK134 HB; obtain ⟨HO137, HO140, BK133, BK134, HB, BK141, GW141, GE141, NB133_141, NB141_133, NB134_141, NB141_134⟩ := n_; (try clear hb hbox hg); obtain ⟨Ao12, co12, eo12⟩ := Kd.R_slice HO137.out; subst eo12; have hnb13 := NB141_133.out; have hnc13 := NB133_141.out; have hnb14 := NB141_134.out; have hnc14 := NB134_141.out; have hcz15_0 := cZ0 BK141; have hcz15_1 := cZ1 BK141; have hfz15_0 := fZ BK141 0; have hfz15_1 := fZ BK141 1; obtain ⟨Ao16, co16, eo16⟩ := Kd.R_slice HO140.out; subst eo16; have hcz17_0 := cZ0 BK133; have hcz17_1 := cZ1 BK133; have hfz17_0 := fZ BK133 0; have hfz17_1 := fZ BK133 1) | ((with_reducible refine gate_callee (f := 16) rfl ?_); refine gL (some 10) Try.func16 #[.agg #[.slice A0_0 l0_0.length c0_0, .slice A0_1 l0_1.length c0_1]] ?_; (with_reducible refine (spec_DiskOk.calls k _ _ l0_0 _ _ l0_1 true _ ?side1 ?side2 ?side3 ?side4 A4.out).mono ?_); (case side1 => exact cS HR0_0 HB); (case side2 => exact HC0_0.out); (case side3 => exact cS HR0_1 HB); (case side4 => exact HC0_1.out); rintro e w18 ⟨rfl, hb⟩; refine ⟨_, rfl, ?_⟩; have n_ := aI (aM (Kd.R_below (rP (Kd.R_mono (Kd.R_far (p := ⟨gb141, 1, none⟩) (Kd.R_far (p := ⟨gb141, 0, none⟩) (Kd.R_types HO137.out BK141.out (by decide)) (fun _ hk => hk.2) (.slice Ao12 t135.length co12)) (fun _ hk => hk.2) (.slice Ao16 t138.length co16)) (fun _ h_ => h_.1))) hb)) (aI (aM (Kd.R_below (rP (Kd.R_mono (Kd.R_far (p := ⟨gb141, 1, none⟩) (Kd.R_far (p := ⟨gb141, 0, none⟩) (Kd.R_types HO140.out BK141.out (by decide)) (fun _ hk => hk.2) (.slice Ao12 t135.length co12)) (fun _ hk => hk.2) (.slice Ao16 t138.length co16)) (fun _ h_ => h_.1))) hb)) (aI (kB BK133 hb) (aI (kB BK134 hb) (aI (aM (blk_below (g := gb141) (o := .cells #[.slice Ao12 t135.length co12, .slice Ao16 t138.length co16] 30 (0, 0)) (by (with_reducible repeat (first | apply bN | apply bD | apply bA)); refine blk_put (cs := #[.slice Ao12 t135.length co12, .slice none 0 0]) ?_ 1 _ rfl; (with_reducible repeat (first | apply bN | apply bD | apply bA)); refine blk_put (cs := #[.slice none 0 0, .slice none 0 0]) ?_ 0 _ rfl; (with_reducible repeat (first | apply bN | apply bD | apply bA)); exact BK141.out) hb)) (sB HB hb))))); clear HO137 HO140 BK133 BK134 BK141 HB; obtain ⟨HO137, HO140, BK133, BK134, BK141, HB⟩ := n_; (try clear hb)))
  go_loopg [6] k (fun kq v6 w' => ∃ (x6_1 : Int) (x142000_1 : List ByteArray) (u142000 : Value), v6 = .int .i64 x6_1 ∧ Aside0 (spec_Fall.l0 kq l1 x6_1 l0_0 l0_1 x142000_1 t138 = some (r1, r2)) ∧ Aside0 (kq ≤ k) ∧ Aside0 (Kd.R Kd.string 9 w' w.heap.size (fun _ => True) u142000 x142000_1) ∧ Aside0 (Kd.R k65 65 w' w.heap.size (fun _ => True) (.slice Ao16 t138.length co16) t138) ∧ Aside0 (w'.heap[gb133]? = some (.cells #[(.slice A0_0 l0_0.length c0_0), (.slice A0_1 l0_1.length c0_1)] 30 (0, 0))) ∧ Aside0 (w'.heap[gb134]? = some (.cells #[(.slice none 0 0), (.slice none 0 0)] 30 (0, 0))) ∧ Aside0 (w'.heap[gb141]? = some (.cells #[u142000, (.slice Ao16 t138.length co16)] 30 (0, 0))) ∧ Aside0 (Below w.heap.size w w'))
  case atStart => exact ⟨(0), (t135), (.slice Ao12 t135.length co12), (by first | rfl | (simp; done) | (simp [*]; done) | (simp; exact (by intro l_; cases l_ <;> rfl : ∀ l_ : List UInt8, l_.isEmpty = !(l_ != [])) _)), H', ⟨Nat.le_refl _⟩, ⟨rP HO137.out⟩, ⟨rP HO140.out⟩, ⟨kP BK133⟩, ⟨kP BK134⟩, ⟨kP BK141⟩, ⟨bB⟩⟩
  case round =>
   clear H'
   try clear c1
   try clear p2
   try clear c3
   try clear c5
   try clear c7
   try clear c8
   try clear c13
   try clear c14
   try clear c16
   try clear hcz15_0
   try clear hcz15_1
   try clear hcz17_0
   try clear hcz17_1
   try clear hcz9_0
   try clear hcz9_1
   try clear hfz15_0
   try clear hfz15_1
   try clear hfz17_0
   try clear hfz17_1
   try clear hfz9_0
   try clear hfz9_1
   obtain ⟨x6_1, x142000_1, u142000, rfl, HA, HK1, HO_142000, HO_142001, BK133, BK134, BK141, HB⟩ := hrel
   cases gk with
   | zero => exact absurd HA.out (by simp [spec_Fall.l0])
   | succ k1 =>
    have H := HA.out
    clear HA
    simp only [spec_Fall.l0] at H
    have HC19 := aM H
    clear H
    go_upto_region 5 with (fail)
    go_cut [23] (fun v23 wc => ∃ (kq : Nat) (x23_18 : Bool), v23 = .bool x23_18 ∧ Aside0 (spec_Fall.j1 kq l1 x6_1 x23_18 l0_0 l0_1 x142000_1 t138 = some (r1, r2)) ∧ Aside0 (kq ≤ k1) ∧ Aside0 (Kd.R Kd.string 9 wc w.heap.size (fun _ => True) u142000 x142000_1) ∧ Aside0 (Kd.R k65 65 wc w.heap.size (fun _ => True) (.slice Ao16 t138.length co16) t138) ∧ Aside0 (wc.heap[gb133]? = some (.cells #[(.slice A0_0 l0_0.length c0_0), (.slice A0_1 l0_1.length c0_1)] 30 (0, 0))) ∧ Aside0 (wc.heap[gb134]? = some (.cells #[(.slice none 0 0), (.slice none 0 0)] 30 (0, 0))) ∧ Aside0 (wc.heap[gb141]? = some (.cells #[u142000, (.slice Ao16 t138.length co16)] 30 (0, 0))) ∧ Aside0 (Below w.heap.size w wc))
    case first =>
     have H := HC19.out
     clear HC19
     by_cases c20 : x6_1 < (l0_1.length : Int)
     ·rw [if_pos c20] at H
      have c20b0 : decide (x6_1 < (l0_1.length : Int)) = true := decide_eq_true c20
      clear c20
      (first | rw [c20b0] | (simp only [i64_w, i32_w]; rw [c20b0]) | rw [c20b1] | rw [c20b2] | skip)
      have H' := aM H
      clear H
      have hnb21 := NB133_134.out
      have hnc21 := NB134_133.out
      have hnb22 := NB133_141.out
      have hnc22 := NB141_133.out
      have hcz23_0 := cZ0 BK133
      have hcz23_1 := cZ1 BK133
      have hfz23_0 := fZ BK133 0
      have hfz23_1 := fZ BK133 1
      go_wp2
      go_meet
      case rel => exact ⟨_, (decide (x6_1 < (l1.length : Int))), (by first | rfl | (simp; done) | (simp [*]; done) | (simp; exact (by intro l_; cases l_ <;> rfl : ∀ l_ : List UInt8, l_.isEmpty = !(l_ != [])) _)), H', ⟨by have := HK1.out; first | omega | exact Nat.le_refl _⟩, ⟨rP HO_142000.out⟩, ⟨rP HO_142001.out⟩, ⟨kP BK133⟩, ⟨kP BK134⟩, ⟨kP BK141⟩, ⟨bB⟩⟩
     ·rw [if_neg c20] at H
      have c20b0 : decide (x6_1 < (l0_1.length : Int)) = false := decide_eq_false c20
      clear c20
      (first | rw [c20b0] | (simp only [i64_w, i32_w]; rw [c20b0]) | rw [c20b1] | rw [c20b2] | skip)
      have H' := aM H
      clear H
      have hnb24 := NB133_134.out
      have hnc24 := NB134_133.out
      have hnb25 := NB133_141.out
      have hnc25 := NB141_133.out
      have hcz26_0 := cZ0 BK133
      have hcz26_1 := cZ1 BK133
      have hfz26_0 := fZ BK133 0
      have hfz26_1 := fZ BK133 1
      go_wp2
      go_meet
      case rel => exact ⟨_, (false), (by first | rfl | (simp; done) | (simp [*]; done) | (simp; exact (by intro l_; cases l_ <;> rfl : ∀ l_ : List UInt8, l_.isEmpty = !(l_ != [])) _)), H', ⟨by have := HK1.out; first | omega | exact Nat.le_refl _⟩, ⟨rP HO_142000.out⟩, ⟨rP HO_142001.out⟩, ⟨kP BK133⟩, ⟨kP BK134⟩, ⟨kP BK141⟩, ⟨bB⟩⟩
    case rest =>
     clear HC19
     try clear c1
     try clear c2
     try clear p2
     try clear c3
     try clear c5
     try clear c7
     try clear c8
     try clear c13
     try clear c14
     try clear c16
     try clear c20
     try clear c20b0
     try clear c20b1
     try clear c20b2
     try clear c21
     try clear c22
     try clear c24
     try clear c25
     try clear hcz15_0
     try clear hcz15_1
     try clear hcz17_0
     try clear hcz17_1
     try clear hcz23_0
     try clear hcz23_1
     try clear hcz26_0
     try clear hcz26_1
     try clear hcz9_0
     try clear hcz9_1
     try clear hfz15_0
     try clear hfz15_1
     try clear hfz17_0
     try clear hfz17_1
     try clear hfz23_0
     try clear hfz23_1
     try clear hfz26_0
     try clear hfz26_1
     try clear hfz9_0
     try clear hfz9_1
     try clear p2
     obtain ⟨kq, x23_18, rfl, HA, HJ18, HO_142000, HO_142001, BK133, BK134, BK141, HB⟩ := hcut
     cases kq with
     | zero => exact absurd HA.out (by simp [spec_Fall.j1])
     | succ kj18 =>
      have H := HA.out
      clear HA
      simp only [spec_Fall.j1] at H
      by_cases c27 : x23_18 = true
      ·subst c27
       rw [if_pos rfl] at H
       by_cases c28 : 0 ≤ x6_1
       ·rw [if_pos c28] at H
        have c28b0 : decide (0 ≤ x6_1) = true := decide_eq_true c28
        clear c28
        by_cases c29 : x6_1 < (l1.length : Int)
        ·rw [if_pos c29] at H
         have c29b0 : decide (x6_1 < (l1.length : Int)) = true := decide_eq_true c29
         clear c29
         obtain ⟨bq30, hbq30⟩ : ∃ b_ : Bool, b_ = (rdOf false l1 x6_1) := ⟨_, rfl⟩
         replace H : (if bq30 = true then (if x6_1 < (l0_1.length : Int) then (if 0 ≤ ((rd_T65 l0_1 x6_1).f0) then (if ((rd_T65 l0_1 x6_1).f0) < (x142000_1.length : Int) then (spec_Fall.l0 kj18 l1 (wrap64 (x6_1 + 1)) l0_0 l0_1 (x142000_1.set (((rd_T65 l0_1 x6_1).f0) : Int).toNat ((rd_T65 l0_1 x6_1).f1)) t138) else (none)) else (none)) else (none)) else (spec_Fall.l0 kj18 l1 (wrap64 (x6_1 + 1)) l0_0 l0_1 x142000_1 t138)) = some (r1, r2) := by rw [← hbq30] at H; exact H
         have Nbq30 := aM hbq30
         clear hbq30
         by_cases c31 : bq30 = true
         ·subst c31
          rw [if_pos rfl] at H
          by_cases c32 : x6_1 < (l0_1.length : Int)
          ·rw [if_pos c32] at H
           have c32b0 : decide (x6_1 < (l0_1.length : Int)) = true := decide_eq_true c32
           clear c32
           by_cases c33 : 0 ≤ ((rd_T65 l0_1 x6_1).f0)
           ·rw [if_pos c33] at H
            have c33b0 : decide (0 ≤ ((rd_T65 l0_1 x6_1).f0)) = true := decide_eq_true c33
            clear c33
            by_cases c34 : ((rd_T65 l0_1 x6_1).f0) < (x142000_1.length : Int)
            ·rw [if_pos c34] at H
             have c34b0 : decide (((rd_T65 l0_1 x6_1).f0) < (x142000_1.length : Int)) = true := decide_eq_true c34
             clear c34
             obtain ⟨y146, hy146⟩ : ∃ y_ : List ByteArray, y_ = (x142000_1.set (((rd_T65 l0_1 x6_1).f0) : Int).toNat ((rd_T65 l0_1 x6_1).f1)) := ⟨_, rfl⟩
             replace H : (spec_Fall.l0 kj18 l1 (wrap64 (x6_1 + 1)) l0_0 l0_1 y146 t138) = some (r1, r2) := bQ hy146 H
             have Ny146 := aM hy146
             clear hy146
             have H' := aM H
             clear H
             have p143 : 0 ≤ (x6_1 : Int) := dT
             have q143 : x6_1 < (l1.length : Int) := dT
             obtain ⟨ad143, e143, hx143_0⟩ := Kd.at_bool HR1.out x6_1 p143 q143
             (try rw [← Nbq30.out] at hx143_0)
             cases e143
             replace hx143_0 := (HB.out.cell (World.block_lt_of_cell? w _ hx143_0)).trans hx143_0
             replace p143 := eq_true p143
             replace q143 := eq_true q143
             try go_wp2
             have n_ := aI (aM (Kd.R_drew HO_142000.out)) (aI (aM (Kd.R_drew HO_142001.out)) (aI (aM (blk_drew BK133.out)) (aI (aM (blk_drew BK134.out)) (aI (aM (blk_drew BK141.out)) (aM (below_drew1 HB.out))))))
             clear HO_142000 HO_142001 BK133 BK134 BK141 HB
             obtain ⟨HO_142000, HO_142001, BK133, BK134, BK141, HB⟩ := n_
             have p144 : 0 ≤ (x6_1 : Int) := dT
             have q144 : x6_1 < (l0_1.length : Int) := dT
             obtain ⟨ad144, e144, hx144_0, hx144_1⟩ := at_T65 HR0_1.out x6_1 p144 q144
             have hw144_1 := hx144_1
             have hw144_0 := hx144_0
             cases e144
             replace hx144_0 := (HB.out.cell (World.block_lt_of_cell? w _ hx144_0)).trans hx144_0
             replace hx144_1 := (HB.out.cell (World.block_lt_of_cell? w _ hx144_1)).trans hx144_1
             replace p144 := eq_true p144
             replace q144 := eq_true q144
             have p145 : 0 ≤ (x6_1 : Int) := dT
             have q145 : x6_1 < (l0_1.length : Int) := dT
             obtain ⟨ad145, e145, hx145_0, hx145_1⟩ := at_T65 HR0_1.out x6_1 p145 q145
             have hw145_1 := hx145_1
             have hw145_0 := hx145_0
             obtain rfl : ad144 = ad145 := (by injection e145)
             replace hx145_0 := (HB.out.cell (World.block_lt_of_cell? w _ hx145_0)).trans hx145_0
             replace hx145_1 := (HB.out.cell (World.block_lt_of_cell? w _ hx145_1)).trans hx145_1
             replace p145 := eq_true p145
             replace q145 := eq_true q145
             have p35 : 0 ≤ (((rd_T65 l0_1 x6_1).f0) : Int) := dT
             have q35 : (((rd_T65 l0_1 x6_1).f0) : Int) < ((x142000_1.length : Int) : Int) := dT
             obtain ⟨go35, co35, eo35, gb35, gl35, cl35, HG35⟩ := Kd.R_form HO_142000.out (by omega)
             (first | cases eo35 | (injection eo35 with ea_ en_ ec_; (first | subst ea_ | (injection ea_ with ea_; subst ea_)); subst ec_; clear en_))
             have GB35 := aM gb35
             have GG35 := aM HG35
             clear gb35 gl35 HG35
             obtain ⟨hx35_0, hf35_0⟩ := Kd.R_celln (⟨#[]⟩ : ByteArray) HO_142000.out (((rd_T65 l0_1 x6_1).f0) : Int) p35 q35
             replace p35 := eq_true p35
             replace q35 := eq_true q35
             have HP37 := Kd.R_putn HO_142000.out (((rd_T65 l0_1 x6_1).f0) : Int) ((rd_T65 l0_1 x6_1).f1)
             rw [← Ny146.out] at HP37
             have HQ37 := aM HP37
             clear HP37
             refine start_ (n := 16) (S := fun w' => w'.cell? ⟨gb141, 0, none⟩ = some (.slice (some ⟨go35, 0, none⟩) x142000_1.length co35) ∧ w'.cell? ⟨gb141, 1, none⟩ = some (.slice Ao16 t138.length co16) ∧ w'.cell? ⟨gb133, 0, none⟩ = some (.slice A0_0 l0_0.length c0_0) ∧ w'.cell? ⟨gb133, 1, none⟩ = some (.slice (some ad144) l0_1.length c0_1) ∧ w'.cell? (ad144.add ((x6_1).toNat * 2)) = some (.int .i64 ((rd_T65 l0_1 x6_1).f0)) ∧ w'.cell? ⟨(ad144.add ((x6_1).toNat * 2)).block, (ad144.add ((x6_1).toNat * 2)).off + 1, none⟩ = some (.string ((rd_T65 l0_1 x6_1).f1)) ∧ w'.cell? (ad144.add ((x6_1).toNat * 2)) = some (.int .i64 ((rd_T65 l0_1 x6_1).f0)) ∧ w'.cell? ⟨(ad144.add ((x6_1).toNat * 2)).block, (ad144.add ((x6_1).toNat * 2)).off + 1, none⟩ = some (.string ((rd_T65 l0_1 x6_1).f1))) (ds := [15]) #[tF, tF, tF, tF, tF, tF, tF, tF, tF, tF, tF, tF, tF, tF, tF, tF] (by kernel_rfl) rfl rfl ⟨(blk_cell BK141.out 0).trans rfl, (blk_cell BK141.out 1).trans rfl, (blk_cell BK133.out 0).trans rfl, (blk_cell BK133.out 1).trans rfl, ((HB.out.cell (World.block_lt_of_cell? w _ hw144_0)).trans hw144_0), ((HB.out.cell (World.block_lt_of_cell? w _ hw144_1)).trans hw144_1), ((HB.out.cell (World.block_lt_of_cell? w _ hw145_0)).trans hw145_0), ((HB.out.cell (World.block_lt_of_cell? w _ hw145_1)).trans hw145_1)⟩ (fun hHeld => ?_); refine with_tabW spec_Fall.tab8 spec_Fall.bits8 (fun HT_ HW_ => ?_)
             generalize wc.drew = w36 at HO_142000 HO_142001 BK133 BK134 BK141 HB GG35 HQ37 hf35_0 hx144_0 hx144_1 hx145_0 hx145_1 hx35_0 hHeld ⊢
             refine pY 0 30 #[tT, tF, tF, tF, tF, tF, tF, tF, tF, tF, tF, tF, tF, tF, tF, tF] ?_
             refine pY 2 32 #[tT, tF, tT, tF, tF, tF, tF, tF, tF, tF, tF, tF, tF, tF, tF, tF] ?_
             refine pY 4 34 #[tT, tF, tT, tF, tT, tF, tF, tF, tF, tF, tF, tF, tF, tF, tF, tF] ?_
             refine pY 8 38 #[tT, tF, tT, tF, tT, tF, tF, tF, tT, tF, tF, tF, tF, tF, tF, tF] ?_
             refine pY 10 40 #[tT, tF, tT, tF, tT, tF, tF, tF, tT, tF, tT, tF, tF, tF, tF, tF] ?_
             refine take_ (i := 1) (N := some 31) (v := ?_) (a' := ?_) #[tT, tT, tT, tF, tT, tF, tF, tF, tT, tF, tT, tF, tF, tF, tF, tF] rfl rfl (take_ofW HT_.out HW_.out (by kernel_rfl)) (fun _ _ _ h => h) (Or.inl ⟨by rfl, ?_⟩) hHeld ?_ ?_
             rotate_left
             ·rintro w' ⟨s0, s1, s2, s3, s4, s5, s6, s7⟩
              go_simp
              with_reducible rfl
             rotate_left
             ·simp only [Act.put, List.setIfInBounds_toArray, List.set_cons_zero, List.set_cons_succ, i64_w, i32_w]
              rfl
             refine take_ (i := 3) (N := some 33) (v := ?_) (a' := ?_) #[tT, tT, tT, tT, tT, tF, tF, tF, tT, tF, tT, tF, tF, tF, tF, tF] rfl rfl (take_ofW HT_.out HW_.out (by kernel_rfl)) (fun _ _ _ h => h) (Or.inl ⟨by rfl, ?_⟩) hHeld ?_ ?_
             rotate_left
             ·rintro w' ⟨s0, s1, s2, s3, s4, s5, s6, s7⟩
              go_simp
              with_reducible rfl
             rotate_left
             ·simp only [Act.put, List.setIfInBounds_toArray, List.set_cons_zero, List.set_cons_succ, i64_w, i32_w]
              rfl
             refine pY 5 35 #[tT, tT, tT, tT, tT, tT, tF, tF, tT, tF, tT, tF, tF, tF, tF, tF] ?_
             refine pY 6 36 #[tT, tT, tT, tT, tT, tT, tT, tF, tT, tF, tT, tF, tF, tF, tF, tF] ?_
             refine take_ (i := 7) (N := some 37) (v := ?_) (a' := ?_) #[tT, tT, tT, tT, tT, tT, tT, tT, tT, tF, tT, tF, tF, tF, tF, tF] rfl rfl (take_ofW HT_.out HW_.out (by kernel_rfl)) (fun _ _ _ h => h) (Or.inl ⟨by rfl, ?_⟩) hHeld ?_ ?_
             rotate_left
             ·rintro w' ⟨s0, s1, s2, s3, s4, s5, s6, s7⟩
              go_simp
              with_reducible rfl
             rotate_left
             ·simp only [Act.put, List.setIfInBounds_toArray, List.set_cons_zero, List.set_cons_succ, i64_w, i32_w]
              rfl
             refine take_ (i := 9) (N := some 39) (v := ?_) (a' := ?_) #[tT, tT, tT, tT, tT, tT, tT, tT, tT, tT, tT, tF, tF, tF, tF, tF] rfl rfl (take_ofW HT_.out HW_.out (by kernel_rfl)) (fun _ _ _ h => h) (Or.inl ⟨by rfl, ?_⟩) hHeld ?_ ?_
             rotate_left
             ·rintro w' ⟨s0, s1, s2, s3, s4, s5, s6, s7⟩
              go_simp
              with_reducible rfl
             rotate_left
             ·simp only [Act.put, List.setIfInBounds_toArray, List.set_cons_zero, List.set_cons_succ, i64_w, i32_w]
              rfl
             refine pY 11 41 #[tT, tT, tT, tT, tT, tT, tT, tT, tT, tT, tT, tT, tF, tF, tF, tF] ?_
             refine pY 12 42 #[tT, tT, tT, tT, tT, tT, tT, tT, tT, tT, tT, tT, tT, tF, tF, tF] ?_
             refine take_ (i := 13) (N := some 43) (v := ?_) (a' := ?_) #[tT, tT, tT, tT, tT, tT, tT, tT, tT, tT, tT, tT, tT, tT, tF, tF] rfl rfl (take_ofW HT_.out HW_.out (by kernel_rfl)) (fun _ _ _ h => h) (Or.inl ⟨by rfl, ?_⟩) hHeld ?_ ?_
             rotate_left
             ·rintro w' ⟨s0, s1, s2, s3, s4, s5, s6, s7⟩
              go_simp
              with_reducible rfl
             rotate_left
             ·simp only [Act.put, List.setIfInBounds_toArray, List.set_cons_zero, List.set_cons_succ, i64_w, i32_w]
              rfl
             refine pY 14 44 #[tT, tT, tT, tT, tT, tT, tT, tT, tT, tT, tT, tT, tT, tT, tT, tF] ?_
             refine last_ (i := 15) (N := none) #[tT, tT, tT, tT, tT, tT, tT, tT, tT, tT, tT, tT, tT, tT, tT, tT] rfl rfl (one_of HT_.out (by kernel_rfl)) (by decide) (fun K hK => ?_)
             refine skip_ (w1 := ?_) (by rfl) rfl ?_ ?_
             rotate_left
             ·go_simp
              rfl
             refine hK.out _ _ ?_
             clear hK K
             refine done_ (done_of HT_.out (by kernel_rfl)) ?_
             try go_wp2
             go_roundg kj18
             case measure => have := HK1.out; have := HJ18.out; omega
             case rel => exact ⟨(wrap64 (x6_1 + 1)), (y146), (.slice (some ⟨go35, 0, none⟩) x142000_1.length co35), (by first | rfl | (simp; done) | (simp [*]; done) | (simp; exact (by intro l_; cases l_ <;> rfl : ∀ l_ : List UInt8, l_.isEmpty = !(l_ != [])) _)), H', ⟨by have := HK1.out; have := HJ18.out; omega⟩, ⟨rP HQ37.out⟩, ⟨rP (Kd.R_mono (Kd.R_far (p := ⟨go35, (((rd_T65 l0_1 x6_1).f0) : Int).toNat, none⟩) (Kd.R_types HO_142001.out GG35.out (by decide)) (fun _ hk => hk.2) (.string ((rd_T65 l0_1 x6_1).f1))) (fun _ hk => trivial))⟩, ⟨by (with_reducible repeat (first | apply bN | apply bD | apply bA)); refine blk_far ?_ (by have h_ := Kd.R_ne HO_142000.out BK133.out (by decide); intro e_; exact h_ (by rw [e_]; rfl)) _; (with_reducible repeat (first | apply bN | apply bD | apply bA)); exact BK133.out⟩, ⟨by (with_reducible repeat (first | apply bN | apply bD | apply bA)); refine blk_far ?_ (by have h_ := Kd.R_ne HO_142000.out BK134.out (by decide); intro e_; exact h_ (by rw [e_]; rfl)) _; (with_reducible repeat (first | apply bN | apply bD | apply bA)); exact BK134.out⟩, ⟨by (with_reducible repeat (first | apply bN | apply bD | apply bA)); refine blk_far ?_ (by have h_ := Kd.R_ne HO_142000.out BK141.out (by decide); intro e_; exact h_ (by rw [e_]; rfl)) _; (with_reducible repeat (first | apply bN | apply bD | apply bA)); exact BK141.out⟩, ⟨bB⟩⟩
            ·rw [if_neg c34] at H
             exact absurd H (by simp)
           ·rw [if_neg c33] at H
            exact absurd H (by simp)
          ·rw [if_neg c32] at H
           exact absurd H (by simp)
         ·replace c31 := Bool.eq_false_iff.mpr c31
          subst c31
          rw [if_neg (show ¬ (false = true) by decide)] at H
          have H' := aM H
          clear H
          have p143 : 0 ≤ (x6_1 : Int) := dT
          have q143 : x6_1 < (l1.length : Int) := dT
          obtain ⟨ad143, e143, hx143_0⟩ := Kd.at_bool HR1.out x6_1 p143 q143
          (try rw [← Nbq30.out] at hx143_0)
          cases e143
          replace hx143_0 := (HB.out.cell (World.block_lt_of_cell? w _ hx143_0)).trans hx143_0
          replace p143 := eq_true p143
          replace q143 := eq_true q143
          go_wp2
          go_roundg kj18
          case measure => have := HK1.out; have := HJ18.out; omega
          case rel => exact ⟨(wrap64 (x6_1 + 1)), (x142000_1), (u142000), (by first | rfl | (simp; done) | (simp [*]; done) | (simp; exact (by intro l_; cases l_ <;> rfl : ∀ l_ : List UInt8, l_.isEmpty = !(l_ != [])) _)), H', ⟨by have := HK1.out; have := HJ18.out; omega⟩, ⟨rP HO_142000.out⟩, ⟨rP HO_142001.out⟩, ⟨kP BK133⟩, ⟨kP BK134⟩, ⟨kP BK141⟩, ⟨bB⟩⟩
        ·rw [if_neg c29] at H
         exact absurd H (by simp)
       ·rw [if_neg c28] at H
        exact absurd H (by simp)
      ·replace c27 := Bool.eq_false_iff.mpr c27
       subst c27
       rw [if_neg (show ¬ (false = true) by decide)] at H
       simp only [Option.some.injEq, Prod.mk.injEq] at H
       obtain ⟨rfl, rfl⟩ := H
       have hnb38 := NB141_133.out
       have hnc38 := NB133_141.out
       have hnb39 := NB141_134.out
       have hnc39 := NB134_141.out
       have hcz40_0 := cZ0 BK141
       have hcz40_1 := cZ1 BK141
       have hfz40_0 := fZ BK141 0
       have hfz40_1 := fZ BK141 1
       obtain ⟨Ao41, co41, eo41⟩ := Kd.R_slice HO_142000.out
       subst eo41
       have hnb42 := NB134_133.out
       have hnc42 := NB133_134.out
       have hcz43_0 := cZ0 BK134
       have hcz43_1 := cZ1 BK134
       have hfz43_0 := fZ BK134 0
       have hfz43_1 := fZ BK134 1
       go_wp2
       refine bodyPost_ret (results_cell_row rfl _ _ gb134 30 #[.slice Ao41 x142000_1.length co41, .slice none 0 0] (0, 0) _ rfl (by (with_reducible repeat (first | apply bN | apply bD | apply bA)); refine blk_put (cs := #[.slice Ao41 x142000_1.length co41, .slice none 0 0]) ?_ 1 _ rfl; (with_reducible repeat (first | apply bN | apply bD | apply bA)); refine blk_put (cs := #[.slice none 0 0, .slice none 0 0]) ?_ 0 _ rfl; (with_reducible repeat (first | apply bN | apply bD | apply bA)); refine blk_far ?_ NB134_141.out _; (with_reducible repeat (first | apply bN | apply bD | apply bA)); exact BK134.out) Try.underlying30 rfl (by kernel_rfl)) rfl ?_
       exact ⟨_, _, eW, by (with_reducible repeat (first | apply Kd.R_alloc | apply Kd.R_drewN | apply Kd.R_drew)); exact Kd.R_mono (Kd.R_far (p := ⟨gb134, 1, none⟩) (Kd.R_far (p := ⟨gb134, 0, none⟩) (Kd.R_far (p := ⟨gb141, 1, none⟩) (Kd.R_types (Kd.R_types HO_142000.out BK141.out (by decide)) BK134.out (by decide)) (fun _ hk => hk.1.2) (.slice none 0 0)) (fun _ hk => hk.2) (.slice Ao41 x142000_1.length co41)) (fun _ hk => hk.2) (.slice none 0 0)) (fun _ hk => trivial), by first | exact Kd.R_nil _ _ _ _ _ | exact Kd.N_nil _ _ _ _ _ | exact Kd.V_nil _ _ _ _ _ | exact Kd.Q_nil _ _ _ _ _ | exact Kd.S_nil _ _ _ _ _, bB⟩
 replace c5 := Bool.eq_false_iff.mpr c5
 subst c5
 rw [if_neg (show ¬ (false = true) by decide)] at H
 simp only [Option.some.injEq, Prod.mk.injEq] at H
 obtain ⟨rfl, rfl⟩ := H
 go_enter Try.func33, Try.ntmps33
 go_wp2_with (first | ((with_reducible refine gate_dst (N := 2) rfl ?_); (try (refine gate_guard (by rfl) ?_; dsimp only)); refine box_event ?hg (N := 2) ?hd (cs := #[.slice A0_0 l0_0.length c0_0, .slice A0_1 l0_1.length c0_1]) (t := 30) ?hr ?_; (case hd => rfl); (case hg => rfl); (case hr => first | (go_simp; done) | (go_simp; rfl)); intro gb133 hg w44 hbox hb; have n_ := aI (sB HB hb) (aI (aM hbox) (aI (gE HB hg) (gE HB hg))); clear HB; obtain ⟨HB, BK133, GW133, GE133⟩ := n_; (try clear hb hbox hg)) | ((with_reducible refine gate_dst (N := 4) rfl ?_); (try (refine gate_guard (by rfl) ?_; dsimp only)); refine box_event ?hg (N := 4) ?hd (cs := #[.slice none 0 0, .slice none 0 0]) (t := 30) ?hr ?_; (case hd => rfl); (case hg => rfl); (case hr => first | (go_simp; done) | (go_simp; rfl)); intro gb134 hg w45 hbox hb; have n_ := aI (kB BK133 hb) (aI (sB HB hb) (aI (aM hbox) (aI (gE HB hg) (aI (gE HB hg) (aI (nL BK133 hg) (nG BK133 hg)))))); clear BK133 HB; obtain ⟨BK133, HB, BK134, GW134, GE134, NB133_134, NB134_133⟩ := n_; (try clear hb hbox hg); have hnb46 := NB133_134.out; have hnc46 := NB134_133.out; have hcz47_0 := cZ0 BK133; have hcz47_1 := cZ1 BK133; have hfz47_0 := fZ BK133 0; have hfz47_1 := fZ BK133 1) | ((with_reducible refine gate_callee (f := 75) rfl ?_); refine gL (some 8) Try.func75 #[.agg #[.slice A0_0 l0_0.length c0_0, .slice A0_1 l0_1.length c0_1]] ?_; (with_reducible refine (spec_l3Copy.calls _ _ l0_0 _ _ l0_1 t135 t138 _ ?side1 ?side2 ?side3 ?side4 A3.out).mono ?_); (case side1 => exact cS HR0_0 HB); (case side2 => exact HC0_0.out); (case side3 => exact cS HR0_1 HB); (case side4 => exact HC0_1.out); rintro e w48 ⟨v136, v139, rfl, ho0, ho1, hb⟩; refine ⟨_, rfl, ?_⟩; have n_ := aI (lR HB ho0) (aI (lR HB ho1) (aI (kB BK133 hb) (aI (kB BK134 hb) (sB HB hb)))); clear BK133 BK134 HB; obtain ⟨HO137, HO140, BK133, BK134, HB⟩ := n_; (try clear hb ho0 ho1)) | ((with_reducible refine gate_dst (N := 5) rfl ?_); (try (refine gate_guard (by rfl) ?_; dsimp only)); refine box_event ?hg (N := 5) ?hd (cs := #[.slice none 0 0, .slice none 0 0]) (t := 30) ?hr ?_; (case hd => rfl); (case hg => rfl); (case hr => first | (go_simp; done) | (go_simp; rfl)); intro gb141 hg w49 hbox hb; have n_ := aI (rB HO137 hb) (aI (rB HO140 hb) (aI (kB BK133 hb) (aI (kB BK134 hb) (aI (sB HB hb) (aI (aM hbox) (aI (gE HB hg) (aI (gE HB hg) (aI (nL BK133 hg) (aI (nG BK133 hg) (aI (nL BK134 hg) (nG BK134 hg))))))))))); clear HO137 HO140 BK133 BK134 HB; obtain ⟨HO137, HO140, BK133, BK134, HB, BK141, GW141, GE141, NB133_141, NB141_133, NB134_141, NB141_134⟩ := n_; (try clear hb hbox hg); obtain ⟨Ao50, co50, eo50⟩ := Kd.R_slice HO137.out; subst eo50; have hnb51 := NB141_133.out; have hnc51 := NB133_141.out; have hnb52 := NB141_134.out; have hnc52 := NB134_141.out; have hcz53_0 := cZ0 BK141; have hcz53_1 := cZ1 BK141; have hfz53_0 := fZ BK141 0; have hfz53_1 := fZ BK141 1; obtain ⟨Ao54, co54, eo54⟩ := Kd.R_slice HO140.out; subst eo54; have hcz55_0 := cZ0 BK133; have hcz55_1 := cZ1 BK133; have hfz55_0 := fZ BK133 0; have hfz55_1 := fZ BK133 1) | ((with_reducible refine gate_callee (f := 16) rfl ?_); refine gL (some 10) Try.func16 #[.agg #[.slice A0_0 l0_0.length c0_0, .slice A0_1 l0_1.length c0_1]] ?_; (with_reducible refine (spec_DiskOk.calls k _ _ l0_0 _ _ l0_1 false _ ?side1 ?side2 ?side3 ?side4 A4.out).mono ?_); (case side1 => exact cS HR0_0 HB); (case side2 => exact HC0_0.out); (case side3 => exact cS HR0_1 HB); (case side4 => exact HC0_1.out); rintro e w56 ⟨rfl, hb⟩; refine ⟨_, rfl, ?_⟩; have n_ := aI (aM (Kd.R_below (rP (Kd.R_mono (Kd.R_far (p := ⟨gb141, 1, none⟩) (Kd.R_far (p := ⟨gb141, 0, none⟩) (Kd.R_types HO137.out BK141.out (by decide)) (fun _ hk => hk.2) (.slice Ao50 t135.length co50)) (fun _ hk => hk.2) (.slice Ao54 t138.length co54)) (fun _ h_ => h_.1))) hb)) (aI (aM (Kd.R_below (rP (Kd.R_mono (Kd.R_far (p := ⟨gb141, 1, none⟩) (Kd.R_far (p := ⟨gb141, 0, none⟩) (Kd.R_types HO140.out BK141.out (by decide)) (fun _ hk => hk.2) (.slice Ao50 t135.length co50)) (fun _ hk => hk.2) (.slice Ao54 t138.length co54)) (fun _ h_ => h_.1))) hb)) (aI (kB BK133 hb) (aI (kB BK134 hb) (aI (aM (blk_below (g := gb141) (o := .cells #[.slice Ao50 t135.length co50, .slice Ao54 t138.length co54] 30 (0, 0)) (by (with_reducible repeat (first | apply bN | apply bD | apply bA)); refine blk_put (cs := #[.slice Ao50 t135.length co50, .slice none 0 0]) ?_ 1 _ rfl; (with_reducible repeat (first | apply bN | apply bD | apply bA)); refine blk_put (cs := #[.slice none 0 0, .slice none 0 0]) ?_ 0 _ rfl; (with_reducible repeat (first | apply bN | apply bD | apply bA)); exact BK141.out) hb)) (sB HB hb))))); clear HO137 HO140 BK133 BK134 BK141 HB; obtain ⟨HO137, HO140, BK133, BK134, BK141, HB⟩ := n_; (try clear hb); have hcz57_0 := cZ0 BK141; have hcz57_1 := cZ1 BK141; have hfz57_0 := fZ BK141 0; have hfz57_1 := fZ BK141 1; have hcz58_0 := cZ0 BK134; have hcz58_1 := cZ1 BK134; have hfz58_0 := fZ BK134 0; have hfz58_1 := fZ BK134 1))
 refine bodyPost_ret (results_cell_row rfl _ _ gb134 30 #[.slice Ao50 t135.length co50, .slice Ao54 t138.length co54] (0, 0) _ rfl (by (with_reducible repeat (first | apply bN | apply bD | apply bA)); refine blk_put (cs := #[.slice Ao50 t135.length co50, .slice none 0 0]) ?_ 1 _ rfl; (with_reducible repeat (first | apply bN | apply bD | apply bA)); refine blk_put (cs := #[.slice none 0 0, .slice none 0 0]) ?_ 0 _ rfl; (with_reducible repeat (first | apply bN | apply bD | apply bA)); exact BK134.out) Try.underlying30 rfl (by kernel_rfl)) rfl ?_
 exact ⟨_, _, eW, by (with_reducible repeat (first | apply Kd.R_alloc | apply Kd.R_drewN | apply Kd.R_drew)); exact Kd.R_mono (Kd.R_far (p := ⟨gb134, 1, none⟩) (Kd.R_far (p := ⟨gb134, 0, none⟩) (Kd.R_types HO137.out BK134.out (by decide)) (fun _ hk => hk.2) (.slice Ao50 t135.length co50)) (fun _ hk => hk.2) (.slice Ao54 t138.length co54)) (fun _ hk => trivial), by (with_reducible repeat (first | apply Kd.R_alloc | apply Kd.R_drewN | apply Kd.R_drew)); exact Kd.R_mono (Kd.R_far (p := ⟨gb134, 1, none⟩) (Kd.R_far (p := ⟨gb134, 0, none⟩) (Kd.R_types HO140.out BK134.out (by decide)) (fun _ hk => hk.2) (.slice Ao50 t135.length co50)) (fun _ hk => hk.2) (.slice Ao54 t138.length co54)) (fun _ hk => trivial), bB⟩

end Go.Proofs.Ytgmpdkefegofhaa.PFnRecovered
