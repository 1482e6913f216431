-- Written by xprint.py, a program of this session over the kit's print. Not trusted: Lean checks it.
import Derived.Test.YtadfimhielcmmaaPFnNodesx0
import Derived.Test.YtadfimhielcmmaaPFnNodesx3
namespace Go.Proofs.Ytadfimhielcmmaa.PFnNodes
open Go.RowKit Go.Proofs.YtadfimhielcmmaaW.PrintWords Go.Proofs.YtadfimhielcmmaaW.PrintLast Go.Proofs.YtadfimhielcmmaaW.PrintMore
attribute [local go_sem] max2_int min2_int max_two min_two max_three min_three max_four min_four   -- for this text's walks alone
set_option linter.unusedVariables false
set_option linter.unusedSimpArgs false

/-! ### impl_NodeOk: function 22 -/
mutual
def impl_NodeOk.j0 : Nat → Bool → Int → Int → Int → Int → List Int → Option (Bool)
 | 0, _, _, _, _, _, _ => none
 | k + 1, x48, x146000, x146001, x146002, x146003, x146004 => if x48 = true then (some false) else (if x146000 = 2 then (if x146001 = 0 then (if x146002 = 0 then ((impl_BlocksFor.f x146003).bind fun t150 => (impl_NodeOk.j1 k ((x146004.length : Int) != t150) x146000 x146001 x146002 x146003 x146004)) else (impl_NodeOk.j1 k true x146000 x146001 x146002 x146003 x146004)) else (impl_NodeOk.j1 k true x146000 x146001 x146002 x146003 x146004)) else ((impl_BlocksFor.f x146003).bind fun t151 => (impl_NodeOk.j1 k ((x146004.length : Int) != t151) x146000 x146001 x146002 x146003 x146004)))
def impl_NodeOk.j1 : Nat → Bool → Int → Int → Int → Int → List Int → Option (Bool)
 | 0, _, _, _, _, _, _ => none
 | k + 1, x70, x146000, x146001, x146002, x146003, x146004 => if x70 = true then (some false) else (impl_NodeOk.l0 k x146004 (x146004.length : Int) 0 x146000 x146001 x146002 x146003 x146004)
def impl_NodeOk.l0 : Nat → List Int → Int → Int → Int → Int → Int → Int → List Int → Option (Bool)
 | 0, _, _, _, _, _, _, _, _ => none
 | k + 1, x72, x73, x74, x146000, x146001, x146002, x146003, x146004 => if x74 < x73 then (if 0 ≤ x74 then (if x74 < (x72.length : Int) then ((impl_within.f (rd x72 x74) 0 35).bind fun t153 => (if t153 = true then (if x74 ≤ (x146004.length : Int) then ((slices_Contains_int_int.f k (x146004.take (x74 : Int).toNat) (rd x72 x74)).bind fun t155 => (if t155 = true then (some false) else (impl_NodeOk.l0 k x72 x73 (wrap64 (x74 + 1)) x146000 x146001 x146002 x146003 x146004))) else (none)) else (some false))) else (none)) else (none)) else (some true)
end
def impl_NodeOk.f (k : Nat) (a0_0 : Int) (a0_1 : Int) (a0_2 : Int) (a0_3 : Int) (l0_4 : List Int) : Option (Bool) := if a0_0 = 0 then (if a0_1 = 0 then (if a0_2 = 0 then (if a0_3 = 0 then (some ((l0_4.length : Int) == 0)) else (some false)) else (some false)) else (some false)) else ((impl_within.f a0_0 1 3).bind fun t146 => (if t146 = true then ((impl_within.f a0_1 0 1000000).bind fun t147 => (if t147 = true then ((impl_within.f a0_2 0 100000).bind fun t148 => (if t148 = true then ((impl_within.f a0_3 0 80).bind fun t149 => (impl_NodeOk.j0 k (!t149) a0_0 a0_1 a0_2 a0_3 l0_4)) else (impl_NodeOk.j0 k true a0_0 a0_1 a0_2 a0_3 l0_4))) else (impl_NodeOk.j0 k true a0_0 a0_1 a0_2 a0_3 l0_4))) else (impl_NodeOk.j0 k true a0_0 a0_1 a0_2 a0_3 l0_4)))
theorem impl_NodeOk.mono_l : ∀ k, (∀ y0 y1 y2 y3 y4 y5, LeO (impl_NodeOk.j0 k y0 y1 y2 y3 y4 y5) (impl_NodeOk.j0 (k + 1) y0 y1 y2 y3 y4 y5)) ∧ (∀ y0 y1 y2 y3 y4 y5, LeO (impl_NodeOk.j1 k y0 y1 y2 y3 y4 y5) (impl_NodeOk.j1 (k + 1) y0 y1 y2 y3 y4 y5)) ∧ (∀ y0 y1 y2 y3 y4 y5 y6 y7, LeO (impl_NodeOk.l0 k y0 y1 y2 y3 y4 y5 y6 y7) (impl_NodeOk.l0 (k + 1) y0 y1 y2 y3 y4 y5 y6 y7))
 | 0 => ⟨fun _ _ _ _ _ _ r h => by simp [impl_NodeOk.j0] at h, fun _ _ _ _ _ _ r h => by simp [impl_NodeOk.j1] at h, fun _ _ _ _ _ _ _ _ r h => by simp [impl_NodeOk.l0] at h⟩
 | k + 1 => by
  obtain ⟨ih0, ih1, ih2⟩ := impl_NodeOk.mono_l k
  refine ⟨?_, ?_, ?_⟩
  ·intro y0 y1 y2 y3 y4 y5
   unfold impl_NodeOk.j0
   have m0_ := @slices_Contains_int_int.mono
   exact mM
  ·intro y0 y1 y2 y3 y4 y5
   unfold impl_NodeOk.j1
   have m0_ := @slices_Contains_int_int.mono
   exact mM
  ·intro y0 y1 y2 y3 y4 y5 y6 y7
   unfold impl_NodeOk.l0
   have m0_ := @slices_Contains_int_int.mono
   exact mM
theorem impl_NodeOk.mono : ∀ a0 a1 a2 a3 a4 k, LeO (impl_NodeOk.f k a0 a1 a2 a3 a4) (impl_NodeOk.f (k + 1) a0 a1 a2 a3 a4) := by
 intro a0 a1 a2 a3 a4 k
 obtain ⟨ih0, ih1, ih2⟩ := impl_NodeOk.mono_l k
 unfold impl_NodeOk.f
 have m0_ := @slices_Contains_int_int.mono
 exact mM
set_option maxHeartbeats 8000000 in
set_option maxRecDepth 100000 in
theorem impl_NodeOk.calls (k : Nat) (a0_0 : Int) (a0_1 : Int) (a0_2 : Int) (a0_3 : Int) (A0_4 : Option Addr) (c0_4 : Nat) (l0_4 : List Int) (r : Bool) (w : World) (hr0_4 : Kd.C (Kd.int .i64) w A0_4 l0_4.length l0_4) (hc0_4 : l0_4.length ≤ c0_4) (h : impl_NodeOk.f k a0_0 a0_1 a0_2 a0_3 l0_4 = some r) :
  Calls Try.prog 22 #[.agg #[.int .i64 a0_0, .int .i64 a0_1, .int .i64 a0_2, .int .i64 a0_3, .slice A0_4 l0_4.length c0_4]] w fun e w' => e = .returned (.bool r) ∧ Below w.heap.size w w' := by
 have hu33 := Try.underlying33
 have HR0_4 := aM hr0_4
 have HC0_4 := aM hc0_4
 clear hr0_4 hc0_4
 have HB := aM (Below.refl w.heap.size w)
 unfold impl_NodeOk.f at h
 have H := h
 clear h
 by_cases c2 : a0_0 = 0
 ·rw [if_pos c2] at H
  have c2b0 : (a0_0 == 0) = true := beq_iff_eq.mpr c2
  have c2b1 : (a0_0 != 0) = false := bne_eq_false_iff_eq.mpr c2
  clear c2
  by_cases c3 : a0_1 = 0
  ·rw [if_pos c3] at H
   have c3b0 : (a0_1 == 0) = true := beq_iff_eq.mpr c3
   have c3b1 : (a0_1 != 0) = false := bne_eq_false_iff_eq.mpr c3
   clear c3
   by_cases c4 : a0_2 = 0
   ·rw [if_pos c4] at H
    have c4b0 : (a0_2 == 0) = true := beq_iff_eq.mpr c4
    have c4b1 : (a0_2 != 0) = false := bne_eq_false_iff_eq.mpr c4
    clear c4
    by_cases c5 : a0_3 = 0
    ·rw [if_pos c5] at H
     have c5b0 : (a0_3 == 0) = true := beq_iff_eq.mpr c5
     have c5b1 : (a0_3 != 0) = false := bne_eq_false_iff_eq.mpr c5
     clear c5
     obtain rfl := Option.some.inj H
     go_enter Try.func22, Try.ntmps22
     go_wp2_with (first | ((with_reducible refine gate_dst (N := 1) rfl ?_); (try (refine gate_guard (by rfl) ?_; dsimp only)); refine box_event ?hg (N := 1) ?hd (cs := #[.int .i64 a0_0, .int .i64 a0_1, .int .i64 a0_2, .int .i64 a0_3, .slice A0_4 l0_4.length c0_4]) (t := 33) ?hr ?_; (case hd => rfl); (case hg => rfl); (case hr => first | (go_simp; done) | (go_simp; rfl)); intro gb145 hg w6 hbox hb; have n_ := aI (sB HB hb) (aI (aM hbox) (aI (gE HB hg) (gE HB hg))); clear HB; obtain ⟨HB, BK145, GW145, GE145⟩ := n_; (try clear hb hbox hg); have hcz7_0 := cZ0 BK145; have hcz7_1 := cZ1 BK145; have hcz7_2 : w6.cell? ⟨gb145, 2, none⟩ = some (.int .i64 a0_2) := (blk_cell BK145.out 2).trans rfl; have hcz7_3 : w6.cell? ⟨gb145, 3, none⟩ = some (.int .i64 a0_3) := (blk_cell BK145.out 3).trans rfl; have hcz7_4 : w6.cell? ⟨gb145, 4, none⟩ = some (.slice A0_4 l0_4.length c0_4) := (blk_cell BK145.out 4).trans rfl; have hfz7_0 := fZ BK145 0; have hfz7_1 := fZ BK145 1; have hfz7_2 := fZ BK145 2; have hfz7_3 := fZ BK145 3; have hfz7_4 := fZ BK145 4))
     repeat (go_quiet (first | ((with_reducible refine gate_dst (N := 1) rfl ?_); (try (refine gate_guard (by rfl) ?_; dsimp only)); refine box_event ?hg (N := 1) ?hd (cs := #[.int .i64 a0_0, .int .i64 a0_1, .int .i64 a0_2, .int .i64 a0_3, .slice A0_4 l0_4.length c0_4]) (t := 33) ?hr ?_; (case hd => rfl); (case hg => rfl); (case hr => first | (go_simp; done) | (go_simp; rfl)); intro gb145 hg w6 hbox hb; have n_ := aI (sB HB hb) (aI (aM hbox) (aI (gE HB hg) (gE HB hg))); clear HB; obtain ⟨HB, BK145, GW145, GE145⟩ := n_; (try clear hb hbox hg); have hcz7_0 := cZ0 BK145; have hcz7_1 := cZ1 BK145; have hcz7_2 : w6.cell? ⟨gb145, 2, none⟩ = some (.int .i64 a0_2) := (blk_cell BK145.out 2).trans rfl; have hcz7_3 : w6.cell? ⟨gb145, 3, none⟩ = some (.int .i64 a0_3) := (blk_cell BK145.out 3).trans rfl; have hcz7_4 : w6.cell? ⟨gb145, 4, none⟩ = some (.slice A0_4 l0_4.length c0_4) := (blk_cell BK145.out 4).trans rfl; have hfz7_0 := fZ BK145 0; have hfz7_1 := fZ BK145 1; have hfz7_2 := fZ BK145 2; have hfz7_3 := fZ BK145 3; have hfz7_4 := fZ BK145 4)); try go_wp2_with (first | ((with_reducible refine gate_dst (N := 1) rfl ?_); (try (refine gate_guard (by rfl) ?_; dsimp only)); refine box_event ?hg (N := 1) ?hd (cs := #[.int .i64 a0_0, .int .i64 a0_1, .int .i64 a0_2, .int .i64 a0_3, .slice A0_4 l0_4.length c0_4]) (t := 33) ?hr ?_; (case hd => rfl); (case hg => rfl); (case hr => first | (go_simp; done) | (go_simp; rfl)); intro gb145 hg w6 hbox hb; have n_ := aI (sB HB hb) (aI (aM hbox) (aI (gE HB hg) (gE HB hg))); clear HB; obtain ⟨HB, BK145, GW145, GE145⟩ := n_; (try clear hb hbox hg); have hcz7_0 := cZ0 BK145; have hcz7_1 := cZ1 BK145; have hcz7_2 : w6.cell? ⟨gb145, 2, none⟩ = some (.int .i64 a0_2) := (blk_cell BK145.out 2).trans rfl; have hcz7_3 : w6.cell? ⟨gb145, 3, none⟩ = some (.int .i64 a0_3) := (blk_cell BK145.out 3).trans rfl; have hcz7_4 : w6.cell? ⟨gb145, 4, none⟩ = some (.slice A0_4 l0_4.length c0_4) := (blk_cell BK145.out 4).trans rfl; have hfz7_0 := fZ BK145 0; have hfz7_1 := fZ BK145 1; have hfz7_2 := fZ BK145 2; have hfz7_3 := fZ BK145 3; have hfz7_4 := fZ BK145 4)))
     go_ret
     exact ⟨eW, bB⟩
    rw [if_neg c5] at H
    have c5b0 : (a0_3 == 0) = false := beq_eq_false_iff_ne.mpr c5
    have c5b1 : (a0_3 != 0) = true := bne_iff_ne.mpr c5
    obtain rfl := Option.some.inj H
    go_enter Try.func22, Try.ntmps22
    go_wp2_with (first | ((with_reducible refine gate_dst (N := 1) rfl ?_); (try (refine gate_guard (by rfl) ?_; dsimp only)); refine box_event ?hg (N := 1) ?hd (cs := #[.int .i64 a0_0, .int .i64 a0_1, .int .i64 a0_2, .int .i64 a0_3, .slice A0_4 l0_4.length c0_4]) (t := 33) ?hr ?_; (case hd => rfl); (case hg => rfl); (case hr => first | (go_simp; done) | (go_simp; rfl)); intro gb145 hg w8 hbox hb; have n_ := aI (sB HB hb) (aI (aM hbox) (aI (gE HB hg) (gE HB hg))); clear HB; obtain ⟨HB, BK145, GW145, GE145⟩ := n_; (try clear hb hbox hg); have hcz9_0 := cZ0 BK145; have hcz9_1 := cZ1 BK145; have hcz9_2 : w8.cell? ⟨gb145, 2, none⟩ = some (.int .i64 a0_2) := (blk_cell BK145.out 2).trans rfl; have hcz9_3 : w8.cell? ⟨gb145, 3, none⟩ = some (.int .i64 a0_3) := (blk_cell BK145.out 3).trans rfl; have hcz9_4 : w8.cell? ⟨gb145, 4, none⟩ = some (.slice A0_4 l0_4.length c0_4) := (blk_cell BK145.out 4).trans rfl; have hfz9_0 := fZ BK145 0; have hfz9_1 := fZ BK145 1; have hfz9_2 := fZ BK145 2; have hfz9_3 := fZ BK145 3; have hfz9_4 := fZ BK145 4))
    repeat (go_quiet (first | ((with_reducible refine gate_dst (N := 1) rfl ?_); (try (refine gate_guard (by rfl) ?_; dsimp only)); refine box_event ?hg (N := 1) ?hd (cs := #[.int .i64 a0_0, .int .i64 a0_1, .int .i64 a0_2, .int .i64 a0_3, .slice A0_4 l0_4.length c0_4]) (t := 33) ?hr ?_; (case hd => rfl); (case hg => rfl); (case hr => first | (go_simp; done) | (go_simp; rfl)); intro gb145 hg w8 hbox hb; have n_ := aI (sB HB hb) (aI (aM hbox) (aI (gE HB hg) (gE HB hg))); clear HB; obtain ⟨HB, BK145, GW145, GE145⟩ := n_; (try clear hb hbox hg); have hcz9_0 := cZ0 BK145; have hcz9_1 := cZ1 BK145; have hcz9_2 : w8.cell? ⟨gb145, 2, none⟩ = some (.int .i64 a0_2) := (blk_cell BK145.out 2).trans rfl; have hcz9_3 : w8.cell? ⟨gb145, 3, none⟩ = some (.int .i64 a0_3) := (blk_cell BK145.out 3).trans rfl; have hcz9_4 : w8.cell? ⟨gb145, 4, none⟩ = some (.slice A0_4 l0_4.length c0_4) := (blk_cell BK145.out 4).trans rfl; have hfz9_0 := fZ BK145 0; have hfz9_1 := fZ BK145 1; have hfz9_2 := fZ BK145 2; have hfz9_3 := fZ BK145 3; have hfz9_4 := fZ BK145 4)); try go_wp2_with (first | ((with_reducible refine gate_dst (N := 1) rfl ?_); (try (refine gate_guard (by rfl) ?_; dsimp only)); refine box_event ?hg (N := 1) ?hd (cs := #[.int .i64 a0_0, .int .i64 a0_1, .int .i64 a0_2, .int .i64 a0_3, .slice A0_4 l0_4.length c0_4]) (t := 33) ?hr ?_; (case hd => rfl); (case hg => rfl); (case hr => first | (go_simp; done) | (go_simp; rfl)); intro gb145 hg w8 hbox hb; have n_ := aI (sB HB hb) (aI (aM hbox) (aI (gE HB hg) (gE HB hg))); clear HB; obtain ⟨HB, BK145, GW145, GE145⟩ := n_; (try clear hb hbox hg); have hcz9_0 := cZ0 BK145; have hcz9_1 := cZ1 BK145; have hcz9_2 : w8.cell? ⟨gb145, 2, none⟩ = some (.int .i64 a0_2) := (blk_cell BK145.out 2).trans rfl; have hcz9_3 : w8.cell? ⟨gb145, 3, none⟩ = some (.int .i64 a0_3) := (blk_cell BK145.out 3).trans rfl; have hcz9_4 : w8.cell? ⟨gb145, 4, none⟩ = some (.slice A0_4 l0_4.length c0_4) := (blk_cell BK145.out 4).trans rfl; have hfz9_0 := fZ BK145 0; have hfz9_1 := fZ BK145 1; have hfz9_2 := fZ BK145 2; have hfz9_3 := fZ BK145 3; have hfz9_4 := fZ BK145 4)))
    go_ret
    exact ⟨eW, bB⟩
   rw [if_neg c4] at H
   have c4b0 : (a0_2 == 0) = false := beq_eq_false_iff_ne.mpr c4
   have c4b1 : (a0_2 != 0) = true := bne_iff_ne.mpr c4
   obtain rfl := Option.some.inj H
   go_enter Try.func22, Try.ntmps22
   go_wp2_with (first | ((with_reducible refine gate_dst (N := 1) rfl ?_); (try (refine gate_guard (by rfl) ?_; dsimp only)); refine box_event ?hg (N := 1) ?hd (cs := #[.int .i64 a0_0, .int .i64 a0_1, .int .i64 a0_2, .int .i64 a0_3, .slice A0_4 l0_4.length c0_4]) (t := 33) ?hr ?_; (case hd => rfl); (case hg => rfl); (case hr => first | (go_simp; done) | (go_simp; rfl)); intro gb145 hg w10 hbox hb; have n_ := aI (sB HB hb) (aI (aM hbox) (aI (gE HB hg) (gE HB hg))); clear HB; obtain ⟨HB, BK145, GW145, GE145⟩ := n_; (try clear hb hbox hg); have hcz11_0 := cZ0 BK145; have hcz11_1 := cZ1 BK145; have hcz11_2 : w10.cell? ⟨gb145, 2, none⟩ = some (.int .i64 a0_2) := (blk_cell BK145.out 2).trans rfl; have hcz11_3 : w10.cell? ⟨gb145, 3, none⟩ = some (.int .i64 a0_3) := (blk_cell BK145.out 3).trans rfl; have hcz11_4 : w10.cell? ⟨gb145, 4, none⟩ = some (.slice A0_4 l0_4.length c0_4) := (blk_cell BK145.out 4).trans rfl; have hfz11_0 := fZ BK145 0; have hfz11_1 := fZ BK145 1; have hfz11_2 := fZ BK145 2; have hfz11_3 := fZ BK145 3; have hfz11_4 := fZ BK145 4))
   repeat (go_quiet (first | ((with_reducible refine gate_dst (N := 1) rfl ?_); (try (refine gate_guard (by rfl) ?_; dsimp only)); refine box_event ?hg (N := 1) ?hd (cs := #[.int .i64 a0_0, .int .i64 a0_1, .int .i64 a0_2, .int .i64 a0_3, .slice A0_4 l0_4.length c0_4]) (t := 33) ?hr ?_; (case hd => rfl); (case hg => rfl); (case hr => first | (go_simp; done) | (go_simp; rfl)); intro gb145 hg w10 hbox hb; have n_ := aI (sB HB hb) (aI (aM hbox) (aI (gE HB hg) (gE HB hg))); clear HB; obtain ⟨HB, BK145, GW145, GE145⟩ := n_; (try clear hb hbox hg); have hcz11_0 := cZ0 BK145; have hcz11_1 := cZ1 BK145; have hcz11_2 : w10.cell? ⟨gb145, 2, none⟩ = some (.int .i64 a0_2) := (blk_cell BK145.out 2).trans rfl; have hcz11_3 : w10.cell? ⟨gb145, 3, none⟩ = some (.int .i64 a0_3) := (blk_cell BK145.out 3).trans rfl; have hcz11_4 : w10.cell? ⟨gb145, 4, none⟩ = some (.slice A0_4 l0_4.length c0_4) := (blk_cell BK145.out 4).trans rfl; have hfz11_0 := fZ BK145 0; have hfz11_1 := fZ BK145 1; have hfz11_2 := fZ BK145 2; have hfz11_3 := fZ BK145 3; have hfz11_4 := fZ BK145 4)); try go_wp2_with (first | ((with_reducible refine gate_dst (N := 1) rfl ?_); (try (refine gate_guard (by rfl) ?_; dsimp only)); refine box_event ?hg (N := 1) ?hd (cs := #[.int .i64 a0_0, .int .i64 a0_1, .int .i64 a0_2, .int .i64 a0_3, .slice A0_4 l0_4.length c0_4]) (t := 33) ?hr ?_; (case hd => rfl); (case hg => rfl); (case hr => first | (go_simp; done) | (go_simp; rfl)); intro gb145 hg w10 hbox hb; have n_ := aI (sB HB hb) (aI (aM hbox) (aI (gE HB hg) (gE HB hg))); clear HB; obtain ⟨HB, BK145, GW145, GE145⟩ := n_; (try clear hb hbox hg); have hcz11_0 := cZ0 BK145; have hcz11_1 := cZ1 BK145; have hcz11_2 : w10.cell? ⟨gb145, 2, none⟩ = some (.int .i64 a0_2) := (blk_cell BK145.out 2).trans rfl; have hcz11_3 : w10.cell? ⟨gb145, 3, none⟩ = some (.int .i64 a0_3) := (blk_cell BK145.out 3).trans rfl; have hcz11_4 : w10.cell? ⟨gb145, 4, none⟩ = some (.slice A0_4 l0_4.length c0_4) := (blk_cell BK145.out 4).trans rfl; have hfz11_0 := fZ BK145 0; have hfz11_1 := fZ BK145 1; have hfz11_2 := fZ BK145 2; have hfz11_3 := fZ BK145 3; have hfz11_4 := fZ BK145 4)))
   go_ret
   exact ⟨eW, bB⟩
  rw [if_neg c3] at H
  have c3b0 : (a0_1 == 0) = false := beq_eq_false_iff_ne.mpr c3
  have c3b1 : (a0_1 != 0) = true := bne_iff_ne.mpr c3
  obtain rfl := Option.some.inj H
  go_enter Try.func22, Try.ntmps22
  go_wp2_with (first | ((with_reducible refine gate_dst (N := 1) rfl ?_); (try (refine gate_guard (by rfl) ?_; dsimp only)); refine box_event ?hg (N := 1) ?hd (cs := #[.int .i64 a0_0, .int .i64 a0_1, .int .i64 a0_2, .int .i64 a0_3, .slice A0_4 l0_4.length c0_4]) (t := 33) ?hr ?_; (case hd => rfl); (case hg => rfl); (case hr => first | (go_simp; done) | (go_simp; rfl)); intro gb145 hg w12 hbox hb; have n_ := aI (sB HB hb) (aI (aM hbox) (aI (gE HB hg) (gE HB hg))); clear HB; obtain ⟨HB, BK145, GW145, GE145⟩ := n_; (try clear hb hbox hg); have hcz13_0 := cZ0 BK145; have hcz13_1 := cZ1 BK145; have hcz13_2 : w12.cell? ⟨gb145, 2, none⟩ = some (.int .i64 a0_2) := (blk_cell BK145.out 2).trans rfl; have hcz13_3 : w12.cell? ⟨gb145, 3, none⟩ = some (.int .i64 a0_3) := (blk_cell BK145.out 3).trans rfl; have hcz13_4 : w12.cell? ⟨gb145, 4, none⟩ = some (.slice A0_4 l0_4.length c0_4) := (blk_cell BK145.out 4).trans rfl; have hfz13_0 := fZ BK145 0; have hfz13_1 := fZ BK145 1; have hfz13_2 := fZ BK145 2; have hfz13_3 := fZ BK145 3; have hfz13_4 := fZ BK145 4))
  repeat (go_quiet (first | ((with_reducible refine gate_dst (N := 1) rfl ?_); (try (refine gate_guard (by rfl) ?_; dsimp only)); refine box_event ?hg (N := 1) ?hd (cs := #[.int .i64 a0_0, .int .i64 a0_1, .int .i64 a0_2, .int .i64 a0_3, .slice A0_4 l0_4.length c0_4]) (t := 33) ?hr ?_; (case hd => rfl); (case hg => rfl); (case hr => first | (go_simp; done) | (go_simp; rfl)); intro gb145 hg w12 hbox hb; have n_ := aI (sB HB hb) (aI (aM hbox) (aI (gE HB hg) (gE HB hg))); clear HB; obtain ⟨HB, BK145, GW145, GE145⟩ := n_; (try clear hb hbox hg); have hcz13_0 := cZ0 BK145; have hcz13_1 := cZ1 BK145; have hcz13_2 : w12.cell? ⟨gb145, 2, none⟩ = some (.int .i64 a0_2) := (blk_cell BK145.out 2).trans rfl; have hcz13_3 : w12.cell? ⟨gb145, 3, none⟩ = some (.int .i64 a0_3) := (blk_cell BK145.out 3).trans rfl; have hcz13_4 : w12.cell? ⟨gb145, 4, none⟩ = some (.slice A0_4 l0_4.length c0_4) := (blk_cell BK145.out 4).trans rfl; have hfz13_0 := fZ BK145 0; have hfz13_1 := fZ BK145 1; have hfz13_2 := fZ BK145 2; have hfz13_3 := fZ BK145 3; have hfz13_4 := fZ BK145 4)); try go_wp2_with (first | ((with_reducible refine gate_dst (N := 1) rfl ?_); (try (refine gate_guard (by rfl) ?_; dsimp only)); refine box_event ?hg (N := 1) ?hd (cs := #[.int .i64 a0_0, .int .i64 a0_1, .int .i64 a0_2, .int .i64 a0_3, .slice A0_4 l0_4.length c0_4]) (t := 33) ?hr ?_; (case hd => rfl); (case hg => rfl); (case hr => first | (go_simp; done) | (go_simp; rfl)); intro gb145 hg w12 hbox hb; have n_ := aI (sB HB hb) (aI (aM hbox) (aI (gE HB hg) (gE HB hg))); clear HB; obtain ⟨HB, BK145, GW145, GE145⟩ := n_; (try clear hb hbox hg); have hcz13_0 := cZ0 BK145; have hcz13_1 := cZ1 BK145; have hcz13_2 : w12.cell? ⟨gb145, 2, none⟩ = some (.int .i64 a0_2) := (blk_cell BK145.out 2).trans rfl; have hcz13_3 : w12.cell? ⟨gb145, 3, none⟩ = some (.int .i64 a0_3) := (blk_cell BK145.out 3).trans rfl; have hcz13_4 : w12.cell? ⟨gb145, 4, none⟩ = some (.slice A0_4 l0_4.length c0_4) := (blk_cell BK145.out 4).trans rfl; have hfz13_0 := fZ BK145 0; have hfz13_1 := fZ BK145 1; have hfz13_2 := fZ BK145 2; have hfz13_3 := fZ BK145 3; have hfz13_4 := fZ BK145 4)))
  go_ret
  exact ⟨eW, bB⟩
 rw [if_neg c2] at H
 have c2b0 : (a0_0 == 0) = false := beq_eq_false_iff_ne.mpr c2
 have c2b1 : (a0_0 != 0) = true := bne_iff_ne.mpr c2
 have HC14 := aM H
 clear H
 go_enter Try.func22, Try.ntmps22
 go_upto_region 3 with (first | ((with_reducible refine gate_dst (N := 1) rfl ?_); (try (refine gate_guard (by rfl) ?_; dsimp only)); refine box_event ?hg (N := 1) ?hd (cs := #[.int .i64 a0_0, .int .i64 a0_1, .int .i64 a0_2, .int .i64 a0_3, .slice A0_4 l0_4.length c0_4]) (t := 33) ?hr ?_; (case hd => rfl); (case hg => rfl); (case hr => first | (go_simp; done) | (go_simp; rfl)); intro gb145 hg w15 hbox hb; have n_ := aI (sB HB hb) (aI (aM hbox) (aI (gE HB hg) (gE HB hg))); clear HB; obtain ⟨HB, BK145, GW145, GE145⟩ := n_; (try clear hb hbox hg); have hcz16_0 := cZ0 BK145; have hcz16_1 := cZ1 BK145; have hcz16_2 : w15.cell? ⟨gb145, 2, none⟩ = some (.int .i64 a0_2) := (blk_cell BK145.out 2).trans rfl; have hcz16_3 : w15.cell? ⟨gb145, 3, none⟩ = some (.int .i64 a0_3) := (blk_cell BK145.out 3).trans rfl; have hcz16_4 : w15.cell? ⟨gb145, 4, none⟩ = some (.slice A0_4 l0_4.length c0_4) := (blk_cell BK145.out 4).trans rfl; have hfz16_0 := fZ BK145 0; have hfz16_1 := fZ BK145 1; have hfz16_2 := fZ BK145 2; have hfz16_3 := fZ BK145 3; have hfz16_4 := fZ BK145 4))
 repeat (go_quiet (first | ((with_reducible refine gate_dst (N := 1) rfl ?_); (try (refine gate_guard (by rfl) ?_; dsimp only)); refine box_event ?hg (N := 1) ?hd (cs := #[.int .i64 a0_0, .int .i64 a0_1, .int .i64 a0_2, .int .i64 a0_3, .slice A0_4 l0_4.length c0_4]) (t := 33) ?hr ?_; (case hd => rfl); (case hg => rfl); (case hr => first | (go_simp; done) | (go_simp; rfl)); intro gb145 hg w15 hbox hb; have n_ := aI (sB HB hb) (aI (aM hbox) (aI (gE HB hg) (gE HB hg))); clear HB; obtain ⟨HB, BK145, GW145, GE145⟩ := n_; (try clear hb hbox hg); have hcz16_0 := cZ0 BK145; have hcz16_1 := cZ1 BK145; have hcz16_2 : w15.cell? ⟨gb145, 2, none⟩ = some (.int .i64 a0_2) := (blk_cell BK145.out 2).trans rfl; have hcz16_3 : w15.cell? ⟨gb145, 3, none⟩ = some (.int .i64 a0_3) := (blk_cell BK145.out 3).trans rfl; have hcz16_4 : w15.cell? ⟨gb145, 4, none⟩ = some (.slice A0_4 l0_4.length c0_4) := (blk_cell BK145.out 4).trans rfl; have hfz16_0 := fZ BK145 0; have hfz16_1 := fZ BK145 1; have hfz16_2 := fZ BK145 2; have hfz16_3 := fZ BK145 3; have hfz16_4 := fZ BK145 4)); go_upto_region 3 with (first | ((with_reducible refine gate_dst (N := 1) rfl ?_); (try (refine gate_guard (by rfl) ?_; dsimp only)); refine box_event ?hg (N := 1) ?hd (cs := #[.int .i64 a0_0, .int .i64 a0_1, .int .i64 a0_2, .int .i64 a0_3, .slice A0_4 l0_4.length c0_4]) (t := 33) ?hr ?_; (case hd => rfl); (case hg => rfl); (case hr => first | (go_simp; done) | (go_simp; rfl)); intro gb145 hg w15 hbox hb; have n_ := aI (sB HB hb) (aI (aM hbox) (aI (gE HB hg) (gE HB hg))); clear HB; obtain ⟨HB, BK145, GW145, GE145⟩ := n_; (try clear hb hbox hg); have hcz16_0 := cZ0 BK145; have hcz16_1 := cZ1 BK145; have hcz16_2 : w15.cell? ⟨gb145, 2, none⟩ = some (.int .i64 a0_2) := (blk_cell BK145.out 2).trans rfl; have hcz16_3 : w15.cell? ⟨gb145, 3, none⟩ = some (.int .i64 a0_3) := (blk_cell BK145.out 3).trans rfl; have hcz16_4 : w15.cell? ⟨gb145, 4, none⟩ = some (.slice A0_4 l0_4.length c0_4) := (blk_cell BK145.out 4).trans rfl; have hfz16_0 := fZ BK145 0; have hfz16_1 := fZ BK145 1; have hfz16_2 := fZ BK145 2; have hfz16_3 := fZ BK145 3; have hfz16_4 := fZ BK145 4)))
 (try simp only [Act.put, List.setIfInBounds_toArray, List.set_cons_zero, List.set_cons_succ])
 go_cut [48] (fun v48 wc => ∃ (kq : Nat) (x48_13 : Bool), v48 = .bool x48_13 ∧ Aside0 (impl_NodeOk.j0 kq x48_13 a0_0 a0_1 a0_2 a0_3 l0_4 = some r) ∧ Aside0 (kq ≤ k) ∧ Aside0 (wc.heap[gb145]? = some (.cells #[.int .i64 a0_0, .int .i64 a0_1, .int .i64 a0_2, .int .i64 a0_3, (.slice A0_4 l0_4.length c0_4)] 33 (0, 0))) ∧ Aside0 (Below w.heap.size w wc))
 case first =>
  have H := HC14.out
  clear HC14
  replace H := Option.bind_eq_some_iff.mp H
  obtain ⟨t146, A170, H⟩ := H
  try dsimp only at H
  have A17 := aM A170
  clear A170
  by_cases c18 : t146 = true
  ·subst c18
   rw [if_pos rfl] at H
   replace H := Option.bind_eq_some_iff.mp H
   obtain ⟨t147, A190, H⟩ := H
   try dsimp only at H
   have A19 := aM A190
   clear A190
   by_cases c20 : t147 = true
   ·subst c20
    rw [if_pos rfl] at H
    replace H := Option.bind_eq_some_iff.mp H
    obtain ⟨t148, A210, H⟩ := H
    try dsimp only at H
    have A21 := aM A210
    clear A210
    by_cases c22 : t148 = true
    ·subst c22
     rw [if_pos rfl] at H
     replace H := Option.bind_eq_some_iff.mp H
     obtain ⟨t149, A230, H⟩ := H
     try dsimp only at H
     have A23 := aM A230
     clear A230
     have H' := aM H
     clear H
     have hcz24_0 := cZ0 BK145
     have hcz24_1 := cZ1 BK145
     have hcz24_2 : w15.cell? ⟨gb145, 2, none⟩ = some (.int .i64 a0_2) := (blk_cell BK145.out 2).trans rfl
     have hcz24_3 : w15.cell? ⟨gb145, 3, none⟩ = some (.int .i64 a0_3) := (blk_cell BK145.out 3).trans rfl
     have hcz24_4 : w15.cell? ⟨gb145, 4, none⟩ = some (.slice A0_4 l0_4.length c0_4) := (blk_cell BK145.out 4).trans rfl
     have hfz24_0 := fZ BK145 0
     have hfz24_1 := fZ BK145 1
     have hfz24_2 := fZ BK145 2
     have hfz24_3 := fZ BK145 3
     have hfz24_4 := fZ BK145 4
     go_wp2_with (first | (go_at_call 24; (with_reducible refine (impl_within.calls a0_0 1 3 true _ A17.out).mono ?_); rintro e w' ⟨rfl, ⟨nd, rfl⟩⟩; (try first | exact ⟨rfl, _, World.drewN_drewN _ _ _⟩ | exact ⟨rfl, _, Eq.trans (World.drewN_drewN _ _ _) (congrArg (World.drewN _) (Nat.add_assoc _ _ _))⟩)) | (go_at_call 24; (with_reducible refine (impl_within.calls a0_1 0 1000000 true _ A19.out).mono ?_); rintro e w' ⟨rfl, ⟨nd, rfl⟩⟩; (try first | exact ⟨rfl, _, World.drewN_drewN _ _ _⟩ | exact ⟨rfl, _, Eq.trans (World.drewN_drewN _ _ _) (congrArg (World.drewN _) (Nat.add_assoc _ _ _))⟩)) | (go_at_call 24; (with_reducible refine (impl_within.calls a0_2 0 100000 true _ A21.out).mono ?_); rintro e w' ⟨rfl, ⟨nd, rfl⟩⟩; (try first | exact ⟨rfl, _, World.drewN_drewN _ _ _⟩ | exact ⟨rfl, _, Eq.trans (World.drewN_drewN _ _ _) (congrArg (World.drewN _) (Nat.add_assoc _ _ _))⟩)) | (go_at_call 24; (with_reducible refine (impl_within.calls a0_3 0 80 t149 _ A23.out).mono ?_); rintro e w' ⟨rfl, ⟨nd, rfl⟩⟩; (try first | exact ⟨rfl, _, World.drewN_drewN _ _ _⟩ | exact ⟨rfl, _, Eq.trans (World.drewN_drewN _ _ _) (congrArg (World.drewN _) (Nat.add_assoc _ _ _))⟩)))
     repeat (go_quiet (first | (go_at_call 24; (with_reducible refine (impl_within.calls a0_0 1 3 true _ A17.out).mono ?_); rintro e w' ⟨rfl, ⟨nd, rfl⟩⟩; (try first | exact ⟨rfl, _, World.drewN_drewN _ _ _⟩ | exact ⟨rfl, _, Eq.trans (World.drewN_drewN _ _ _) (congrArg (World.drewN _) (Nat.add_assoc _ _ _))⟩)) | (go_at_call 24; (with_reducible refine (impl_within.calls a0_1 0 1000000 true _ A19.out).mono ?_); rintro e w' ⟨rfl, ⟨nd, rfl⟩⟩; (try first | exact ⟨rfl, _, World.drewN_drewN _ _ _⟩ | exact ⟨rfl, _, Eq.trans (World.drewN_drewN _ _ _) (congrArg (World.drewN _) (Nat.add_assoc _ _ _))⟩)) | (go_at_call 24; (with_reducible refine (impl_within.calls a0_2 0 100000 true _ A21.out).mono ?_); rintro e w' ⟨rfl, ⟨nd, rfl⟩⟩; (try first | exact ⟨rfl, _, World.drewN_drewN _ _ _⟩ | exact ⟨rfl, _, Eq.trans (World.drewN_drewN _ _ _) (congrArg (World.drewN _) (Nat.add_assoc _ _ _))⟩)) | (go_at_call 24; (with_reducible refine (impl_within.calls a0_3 0 80 t149 _ A23.out).mono ?_); rintro e w' ⟨rfl, ⟨nd, rfl⟩⟩; (try first | exact ⟨rfl, _, World.drewN_drewN _ _ _⟩ | exact ⟨rfl, _, Eq.trans (World.drewN_drewN _ _ _) (congrArg (World.drewN _) (Nat.add_assoc _ _ _))⟩))); try go_wp2_with (first | (go_at_call 24; (with_reducible refine (impl_within.calls a0_0 1 3 true _ A17.out).mono ?_); rintro e w' ⟨rfl, ⟨nd, rfl⟩⟩; (try first | exact ⟨rfl, _, World.drewN_drewN _ _ _⟩ | exact ⟨rfl, _, Eq.trans (World.drewN_drewN _ _ _) (congrArg (World.drewN _) (Nat.add_assoc _ _ _))⟩)) | (go_at_call 24; (with_reducible refine (impl_within.calls a0_1 0 1000000 true _ A19.out).mono ?_); rintro e w' ⟨rfl, ⟨nd, rfl⟩⟩; (try first | exact ⟨rfl, _, World.drewN_drewN _ _ _⟩ | exact ⟨rfl, _, Eq.trans (World.drewN_drewN _ _ _) (congrArg (World.drewN _) (Nat.add_assoc _ _ _))⟩)) | (go_at_call 24; (with_reducible refine (impl_within.calls a0_2 0 100000 true _ A21.out).mono ?_); rintro e w' ⟨rfl, ⟨nd, rfl⟩⟩; (try first | exact ⟨rfl, _, World.drewN_drewN _ _ _⟩ | exact ⟨rfl, _, Eq.trans (World.drewN_drewN _ _ _) (congrArg (World.drewN _) (Nat.add_assoc _ _ _))⟩)) | (go_at_call 24; (with_reducible refine (impl_within.calls a0_3 0 80 t149 _ A23.out).mono ?_); rintro e w' ⟨rfl, ⟨nd, rfl⟩⟩; (try first | exact ⟨rfl, _, World.drewN_drewN _ _ _⟩ | exact ⟨rfl, _, Eq.trans (World.drewN_drewN _ _ _) (congrArg (World.drewN _) (Nat.add_assoc _ _ _))⟩))))
     go_meet
     case rel => exact ⟨_, (!t149), (by first | rfl | (simp; done) | (simp [*]; done) | (simp; exact (by intro l_; cases l_ <;> rfl : ∀ l_ : List UInt8, l_.isEmpty = !(l_ != [])) _)), H', ⟨by first | omega | exact Nat.le_refl _⟩, ⟨kP BK145⟩, ⟨bB⟩⟩
    replace c22 := Bool.eq_false_iff.mpr c22
    subst c22
    rw [if_neg (show ¬ (false = true) by decide)] at H
    have H' := aM H
    clear H
    have hcz25_0 := cZ0 BK145
    have hcz25_1 := cZ1 BK145
    have hcz25_2 : w15.cell? ⟨gb145, 2, none⟩ = some (.int .i64 a0_2) := (blk_cell BK145.out 2).trans rfl
    have hcz25_3 : w15.cell? ⟨gb145, 3, none⟩ = some (.int .i64 a0_3) := (blk_cell BK145.out 3).trans rfl
    have hcz25_4 : w15.cell? ⟨gb145, 4, none⟩ = some (.slice A0_4 l0_4.length c0_4) := (blk_cell BK145.out 4).trans rfl
    have hfz25_0 := fZ BK145 0
    have hfz25_1 := fZ BK145 1
    have hfz25_2 := fZ BK145 2
    have hfz25_3 := fZ BK145 3
    have hfz25_4 := fZ BK145 4
    go_wp2_with (first | (go_at_call 24; (with_reducible refine (impl_within.calls a0_0 1 3 true _ A17.out).mono ?_); rintro e w' ⟨rfl, ⟨nd, rfl⟩⟩; (try first | exact ⟨rfl, _, World.drewN_drewN _ _ _⟩ | exact ⟨rfl, _, Eq.trans (World.drewN_drewN _ _ _) (congrArg (World.drewN _) (Nat.add_assoc _ _ _))⟩)) | (go_at_call 24; (with_reducible refine (impl_within.calls a0_1 0 1000000 true _ A19.out).mono ?_); rintro e w' ⟨rfl, ⟨nd, rfl⟩⟩; (try first | exact ⟨rfl, _, World.drewN_drewN _ _ _⟩ | exact ⟨rfl, _, Eq.trans (World.drewN_drewN _ _ _) (congrArg (World.drewN _) (Nat.add_assoc _ _ _))⟩)) | (go_at_call 24; (with_reducible refine (impl_within.calls a0_2 0 100000 false _ A21.out).mono ?_); rintro e w' ⟨rfl, ⟨nd, rfl⟩⟩; (try first | exact ⟨rfl, _, World.drewN_drewN _ _ _⟩ | exact ⟨rfl, _, Eq.trans (World.drewN_drewN _ _ _) (congrArg (World.drewN _) (Nat.add_assoc _ _ _))⟩)))
    repeat (go_quiet (first | (go_at_call 24; (with_reducible refine (impl_within.calls a0_0 1 3 true _ A17.out).mono ?_); rintro e w' ⟨rfl, ⟨nd, rfl⟩⟩; (try first | exact ⟨rfl, _, World.drewN_drewN _ _ _⟩ | exact ⟨rfl, _, Eq.trans (World.drewN_drewN _ _ _) (congrArg (World.drewN _) (Nat.add_assoc _ _ _))⟩)) | (go_at_call 24; (with_reducible refine (impl_within.calls a0_1 0 1000000 true _ A19.out).mono ?_); rintro e w' ⟨rfl, ⟨nd, rfl⟩⟩; (try first | exact ⟨rfl, _, World.drewN_drewN _ _ _⟩ | exact ⟨rfl, _, Eq.trans (World.drewN_drewN _ _ _) (congrArg (World.drewN _) (Nat.add_assoc _ _ _))⟩)) | (go_at_call 24; (with_reducible refine (impl_within.calls a0_2 0 100000 false _ A21.out).mono ?_); rintro e w' ⟨rfl, ⟨nd, rfl⟩⟩; (try first | exact ⟨rfl, _, World.drewN_drewN _ _ _⟩ | exact ⟨rfl, _, Eq.trans (World.drewN_drewN _ _ _) (congrArg (World.drewN _) (Nat.add_assoc _ _ _))⟩))); try go_wp2_with (first | (go_at_call 24; (with_reducible refine (impl_within.calls a0_0 1 3 true _ A17.out).mono ?_); rintro e w' ⟨rfl, ⟨nd, rfl⟩⟩; (try first | exact ⟨rfl, _, World.drewN_drewN _ _ _⟩ | exact ⟨rfl, _, Eq.trans (World.drewN_drewN _ _ _) (congrArg (World.drewN _) (Nat.add_assoc _ _ _))⟩)) | (go_at_call 24; (with_reducible refine (impl_within.calls a0_1 0 1000000 true _ A19.out).mono ?_); rintro e w' ⟨rfl, ⟨nd, rfl⟩⟩; (try first | exact ⟨rfl, _, World.drewN_drewN _ _ _⟩ | exact ⟨rfl, _, Eq.trans (World.drewN_drewN _ _ _) (congrArg (World.drewN _) (Nat.add_assoc _ _ _))⟩)) | (go_at_call 24; (with_reducible refine (impl_within.calls a0_2 0 100000 false _ A21.out).mono ?_); rintro e w' ⟨rfl, ⟨nd, rfl⟩⟩; (try first | exact ⟨rfl, _, World.drewN_drewN _ _ _⟩ | exact ⟨rfl, _, Eq.trans (World.drewN_drewN _ _ _) (congrArg (World.drewN _) (Nat.add_assoc _ _ _))⟩))))
    go_meet
    case rel => exact ⟨_, (true), (by first | rfl | (simp; done) | (simp [*]; done) | (simp; exact (by intro l_; cases l_ <;> rfl : ∀ l_ : List UInt8, l_.isEmpty = !(l_ != [])) _)), H', ⟨by first | omega | exact Nat.le_refl _⟩, ⟨kP BK145⟩, ⟨bB⟩⟩
   replace c20 := Bool.eq_false_iff.mpr c20
   subst c20
   rw [if_neg (show ¬ (false = true) by decide)] at H
   have H' := aM H
   clear H
   have hcz26_0 := cZ0 BK145
   have hcz26_1 := cZ1 BK145
   have hcz26_2 : w15.cell? ⟨gb145, 2, none⟩ = some (.int .i64 a0_2) := (blk_cell BK145.out 2).trans rfl
   have hcz26_3 : w15.cell? ⟨gb145, 3, none⟩ = some (.int .i64 a0_3) := (blk_cell BK145.out 3).trans rfl
   have hcz26_4 : w15.cell? ⟨gb145, 4, none⟩ = some (.slice A0_4 l0_4.length c0_4) := (blk_cell BK145.out 4).trans rfl
   have hfz26_0 := fZ BK145 0
   have hfz26_1 := fZ BK145 1
   have hfz26_2 := fZ BK145 2
   have hfz26_3 := fZ BK145 3
   have hfz26_4 := fZ BK145 4
   go_wp2_with (first | (go_at_call 24; (with_reducible refine (impl_within.calls a0_0 1 3 true _ A17.out).mono ?_); rintro e w' ⟨rfl, ⟨nd, rfl⟩⟩; (try first | exact ⟨rfl, _, World.drewN_drewN _ _ _⟩ | exact ⟨rfl, _, Eq.trans (World.drewN_drewN _ _ _) (congrArg (World.drewN _) (Nat.add_assoc _ _ _))⟩)) | (go_at_call 24; (with_reducible refine (impl_within.calls a0_1 0 1000000 false _ A19.out).mono ?_); rintro e w' ⟨rfl, ⟨nd, rfl⟩⟩; (try first | exact ⟨rfl, _, World.drewN_drewN _ _ _⟩ | exact ⟨rfl, _, Eq.trans (World.drewN_drewN _ _ _) (congrArg (World.drewN _) (Nat.add_assoc _ _ _))⟩)))
   repeat (go_quiet (first | (go_at_call 24; (with_reducible refine (impl_within.calls a0_0 1 3 true _ A17.out).mono ?_); rintro e w' ⟨rfl, ⟨nd, rfl⟩⟩; (try first | exact ⟨rfl, _, World.drewN_drewN _ _ _⟩ | exact ⟨rfl, _, Eq.trans (World.drewN_drewN _ _ _) (congrArg (World.drewN _) (Nat.add_assoc _ _ _))⟩)) | (go_at_call 24; (with_reducible refine (impl_within.calls a0_1 0 1000000 false _ A19.out).mono ?_); rintro e w' ⟨rfl, ⟨nd, rfl⟩⟩; (try first | exact ⟨rfl, _, World.drewN_drewN _ _ _⟩ | exact ⟨rfl, _, Eq.trans (World.drewN_drewN _ _ _) (congrArg (World.drewN _) (Nat.add_assoc _ _ _))⟩))); try go_wp2_with (first | (go_at_call 24; (with_reducible refine (impl_within.calls a0_0 1 3 true _ A17.out).mono ?_); rintro e w' ⟨rfl, ⟨nd, rfl⟩⟩; (try first | exact ⟨rfl, _, World.drewN_drewN _ _ _⟩ | exact ⟨rfl, _, Eq.trans (World.drewN_drewN _ _ _) (congrArg (World.drewN _) (Nat.add_assoc _ _ _))⟩)) | (go_at_call 24; (with_reducible refine (impl_within.calls a0_1 0 1000000 false _ A19.out).mono ?_); rintro e w' ⟨rfl, ⟨nd, rfl⟩⟩; (try first | exact ⟨rfl, _, World.drewN_drewN _ _ _⟩ | exact ⟨rfl, _, Eq.trans (World.drewN_drewN _ _ _) (congrArg (World.drewN _) (Nat.add_assoc _ _ _))⟩))))
   go_meet
   case rel => exact ⟨_, (true), (by first | rfl | (simp; done) | (simp [*]; done) | (simp; exact (by intro l_; cases l_ <;> rfl : ∀ l_ : List UInt8, l_.isEmpty = !(l_ != [])) _)), H', ⟨by first | omega | exact Nat.le_refl _⟩, ⟨kP BK145⟩, ⟨bB⟩⟩
  replace c18 := Bool.eq_false_iff.mpr c18
  subst c18
  rw [if_neg (show ¬ (false = true) by decide)] at H
  have H' := aM H
  clear H
  have hcz27_0 := cZ0 BK145
  have hcz27_1 := cZ1 BK145
  have hcz27_2 : w15.cell? ⟨gb145, 2, none⟩ = some (.int .i64 a0_2) := (blk_cell BK145.out 2).trans rfl
  have hcz27_3 : w15.cell? ⟨gb145, 3, none⟩ = some (.int .i64 a0_3) := (blk_cell BK145.out 3).trans rfl
  have hcz27_4 : w15.cell? ⟨gb145, 4, none⟩ = some (.slice A0_4 l0_4.length c0_4) := (blk_cell BK145.out 4).trans rfl
  have hfz27_0 := fZ BK145 0
  have hfz27_1 := fZ BK145 1
  have hfz27_2 := fZ BK145 2
  have hfz27_3 := fZ BK145 3
  have hfz27_4 := fZ BK145 4
  go_wp2_with (first | (go_at_call 24; (with_reducible refine (impl_within.calls a0_0 1 3 false _ A17.out).mono ?_); rintro e w' ⟨rfl, ⟨nd, rfl⟩⟩; (try first | exact ⟨rfl, _, World.drewN_drewN _ _ _⟩ | exact ⟨rfl, _, Eq.trans (World.drewN_drewN _ _ _) (congrArg (World.drewN _) (Nat.add_assoc _ _ _))⟩)))
  repeat (go_quiet (first | (go_at_call 24; (with_reducible refine (impl_within.calls a0_0 1 3 false _ A17.out).mono ?_); rintro e w' ⟨rfl, ⟨nd, rfl⟩⟩; (try first | exact ⟨rfl, _, World.drewN_drewN _ _ _⟩ | exact ⟨rfl, _, Eq.trans (World.drewN_drewN _ _ _) (congrArg (World.drewN _) (Nat.add_assoc _ _ _))⟩))); try go_wp2_with (first | (go_at_call 24; (with_reducible refine (impl_within.calls a0_0 1 3 false _ A17.out).mono ?_); rintro e w' ⟨rfl, ⟨nd, rfl⟩⟩; (try first | exact ⟨rfl, _, World.drewN_drewN _ _ _⟩ | exact ⟨rfl, _, Eq.trans (World.drewN_drewN _ _ _) (congrArg (World.drewN _) (Nat.add_assoc _ _ _))⟩))))
  go_meet
  case rel => exact ⟨_, (true), (by first | rfl | (simp; done) | (simp [*]; done) | (simp; exact (by intro l_; cases l_ <;> rfl : ∀ l_ : List UInt8, l_.isEmpty = !(l_ != [])) _)), H', ⟨by first | omega | exact Nat.le_refl _⟩, ⟨kP BK145⟩, ⟨bB⟩⟩
 case rest =>
  clear HC14
  try clear c1
  try clear c2
  try clear c2b0
  try clear c2b1
  try clear p2
  try clear c3
  try clear c3b0
  try clear c3b1
  try clear c4
  try clear c4b0
  try clear c4b1
  try clear c5
  try clear c5b0
  try clear c5b1
  try clear c18
  try clear c20
  try clear c22
  try clear hcz11_0
  try clear hcz11_1
  try clear hcz11_2
  try clear hcz11_3
  try clear hcz11_4
  try clear hcz13_0
  try clear hcz13_1
  try clear hcz13_2
  try clear hcz13_3
  try clear hcz13_4
  try clear hcz16_0
  try clear hcz16_1
  try clear hcz16_2
  try clear hcz16_3
  try clear hcz16_4
  try clear hcz24_0
  try clear hcz24_1
  try clear hcz24_2
  try clear hcz24_3
  try clear hcz24_4
  try clear hcz25_0
  try clear hcz25_1
  try clear hcz25_2
  try clear hcz25_3
  try clear hcz25_4
  try clear hcz26_0
  try clear hcz26_1
  try clear hcz26_2
  try clear hcz26_3
  try clear hcz26_4
  try clear hcz27_0
  try clear hcz27_1
  try clear hcz27_2
  try clear hcz27_3
  try clear hcz27_4
  try clear hcz7_0
  try clear hcz7_1
  try clear hcz7_2
  try clear hcz7_3
  try clear hcz7_4
  try clear hcz9_0
  try clear hcz9_1
  try clear hcz9_2
  try clear hcz9_3
  try clear hcz9_4
  try clear hfz11_0
  try clear hfz11_1
  try clear hfz11_2
  try clear hfz11_3
  try clear hfz11_4
  try clear hfz13_0
  try clear hfz13_1
  try clear hfz13_2
  try clear hfz13_3
  try clear hfz13_4
  try clear hfz16_0
  try clear hfz16_1
  try clear hfz16_2
  try clear hfz16_3
  try clear hfz16_4
  try clear hfz24_0
  try clear hfz24_1
  try clear hfz24_2
  try clear hfz24_3
  try clear hfz24_4
  try clear hfz25_0
  try clear hfz25_1
  try clear hfz25_2
  try clear hfz25_3
  try clear hfz25_4
  try clear hfz26_0
  try clear hfz26_1
  try clear hfz26_2
  try clear hfz26_3
  try clear hfz26_4
  try clear hfz27_0
  try clear hfz27_1
  try clear hfz27_2
  try clear hfz27_3
  try clear hfz27_4
  try clear hfz7_0
  try clear hfz7_1
  try clear hfz7_2
  try clear hfz7_3
  try clear hfz7_4
  try clear hfz9_0
  try clear hfz9_1
  try clear hfz9_2
  try clear hfz9_3
  try clear hfz9_4
  obtain ⟨kq, x48_13, rfl, HA, HJ13, BK145, HB⟩ := hcut
  cases kq with
  | zero => exact absurd HA.out (by simp [impl_NodeOk.j0])
  | succ kj13 =>
   have H := HA.out
   clear HA
   simp only [impl_NodeOk.j0] at H
   by_cases c28 : x48_13 = true
   ·subst c28
    rw [if_pos rfl] at H
    obtain rfl := Option.some.inj H
    go_wp2
    repeat (go_quiet (fail); try go_wp2)
    go_ret
    exact ⟨eW, bB⟩
   ·replace c28 := Bool.eq_false_iff.mpr c28
    subst c28
    rw [if_neg (show ¬ (false = true) by decide)] at H
    have HC29 := aM H
    clear H
    go_upto_region 5 with (fail)
    repeat (go_quiet (fail); go_upto_region 5 with (fail))
    go_cut [70] (fun v70 wc => ∃ (kq : Nat) (x70_28 : Bool), v70 = .bool x70_28 ∧ Aside0 (impl_NodeOk.j1 kq x70_28 a0_0 a0_1 a0_2 a0_3 l0_4 = some r) ∧ Aside0 (kq ≤ kj13) ∧ Aside0 (wc.heap[gb145]? = some (.cells #[.int .i64 a0_0, .int .i64 a0_1, .int .i64 a0_2, .int .i64 a0_3, (.slice A0_4 l0_4.length c0_4)] 33 (0, 0))) ∧ Aside0 (Below w.heap.size w wc))
    case first =>
     have H := HC29.out
     clear HC29
     by_cases c30 : a0_0 = 2
     ·rw [if_pos c30] at H
      have c30b0 : (a0_0 == 2) = true := beq_iff_eq.mpr c30
      have c30b1 : (a0_0 != 2) = false := bne_eq_false_iff_eq.mpr c30
      clear c30
      (first | rw [c30b0] | (simp only [i64_w, i32_w]; rw [c30b0]) | rw [c30b1] | rw [c30b2] | skip)
      by_cases c31 : a0_1 = 0
      ·rw [if_pos c31] at H
       have c31b0 : (a0_1 == 0) = true := beq_iff_eq.mpr c31
       have c31b1 : (a0_1 != 0) = false := bne_eq_false_iff_eq.mpr c31
       clear c31
       by_cases c32 : a0_2 = 0
       ·rw [if_pos c32] at H
        have c32b0 : (a0_2 == 0) = true := beq_iff_eq.mpr c32
        have c32b1 : (a0_2 != 0) = false := bne_eq_false_iff_eq.mpr c32
        clear c32
        replace H := Option.bind_eq_some_iff.mp H
        obtain ⟨t150, A330, H⟩ := H
        try dsimp only at H
        have A33 := aM A330
        clear A330
        have H' := aM H
        clear H
        have hcz34_0 := cZ0 BK145
        have hcz34_1 := cZ1 BK145
        have hcz34_2 : wc.cell? ⟨gb145, 2, none⟩ = some (.int .i64 a0_2) := (blk_cell BK145.out 2).trans rfl
        have hcz34_3 : wc.cell? ⟨gb145, 3, none⟩ = some (.int .i64 a0_3) := (blk_cell BK145.out 3).trans rfl
        have hcz34_4 : wc.cell? ⟨gb145, 4, none⟩ = some (.slice A0_4 l0_4.length c0_4) := (blk_cell BK145.out 4).trans rfl
        have hfz34_0 := fZ BK145 0
        have hfz34_1 := fZ BK145 1
        have hfz34_2 := fZ BK145 2
        have hfz34_3 := fZ BK145 3
        have hfz34_4 := fZ BK145 4
        go_wp2_with (first | (go_at_call 46; (with_reducible refine (impl_BlocksFor.calls a0_3 t150 _ A33.out).mono ?_); rintro e w' ⟨rfl, ⟨nd, rfl⟩⟩; (try first | exact ⟨rfl, _, World.drewN_drewN _ _ _⟩ | exact ⟨rfl, _, Eq.trans (World.drewN_drewN _ _ _) (congrArg (World.drewN _) (Nat.add_assoc _ _ _))⟩)))
        repeat (go_quiet (first | (go_at_call 46; (with_reducible refine (impl_BlocksFor.calls a0_3 t150 _ A33.out).mono ?_); rintro e w' ⟨rfl, ⟨nd, rfl⟩⟩; (try first | exact ⟨rfl, _, World.drewN_drewN _ _ _⟩ | exact ⟨rfl, _, Eq.trans (World.drewN_drewN _ _ _) (congrArg (World.drewN _) (Nat.add_assoc _ _ _))⟩))); try go_wp2_with (first | (go_at_call 46; (with_reducible refine (impl_BlocksFor.calls a0_3 t150 _ A33.out).mono ?_); rintro e w' ⟨rfl, ⟨nd, rfl⟩⟩; (try first | exact ⟨rfl, _, World.drewN_drewN _ _ _⟩ | exact ⟨rfl, _, Eq.trans (World.drewN_drewN _ _ _) (congrArg (World.drewN _) (Nat.add_assoc _ _ _))⟩))))
        go_meet
        case rel => exact ⟨_, (((l0_4.length : Int) != t150)), (by first | rfl | (simp; done) | (simp [*]; done) | (simp; exact (by intro l_; cases l_ <;> rfl : ∀ l_ : List UInt8, l_.isEmpty = !(l_ != [])) _)), H', ⟨by have := HJ13.out; first | omega | exact Nat.le_refl _⟩, ⟨kP BK145⟩, ⟨bB⟩⟩
       ·rw [if_neg c32] at H
        have c32b0 : (a0_2 == 0) = false := beq_eq_false_iff_ne.mpr c32
        have c32b1 : (a0_2 != 0) = true := bne_iff_ne.mpr c32
        have H' := aM H
        clear H
        have hcz35_0 := cZ0 BK145
        have hcz35_1 := cZ1 BK145
        have hcz35_2 : wc.cell? ⟨gb145, 2, none⟩ = some (.int .i64 a0_2) := (blk_cell BK145.out 2).trans rfl
        have hcz35_3 : wc.cell? ⟨gb145, 3, none⟩ = some (.int .i64 a0_3) := (blk_cell BK145.out 3).trans rfl
        have hcz35_4 : wc.cell? ⟨gb145, 4, none⟩ = some (.slice A0_4 l0_4.length c0_4) := (blk_cell BK145.out 4).trans rfl
        have hfz35_0 := fZ BK145 0
        have hfz35_1 := fZ BK145 1
        have hfz35_2 := fZ BK145 2
        have hfz35_3 := fZ BK145 3
        have hfz35_4 := fZ BK145 4
        go_wp2
        repeat (go_quiet (fail); try go_wp2)
        go_meet
        case rel => exact ⟨_, (true), (by first | rfl | (simp; done) | (simp [*]; done) | (simp; exact (by intro l_; cases l_ <;> rfl : ∀ l_ : List UInt8, l_.isEmpty = !(l_ != [])) _)), H', ⟨by have := HJ13.out; first | omega | exact Nat.le_refl _⟩, ⟨kP BK145⟩, ⟨bB⟩⟩
      ·rw [if_neg c31] at H
       have c31b0 : (a0_1 == 0) = false := beq_eq_false_iff_ne.mpr c31
       have c31b1 : (a0_1 != 0) = true := bne_iff_ne.mpr c31
       have H' := aM H
       clear H
       have hcz36_0 := cZ0 BK145
       have hcz36_1 := cZ1 BK145
       have hcz36_2 : wc.cell? ⟨gb145, 2, none⟩ = some (.int .i64 a0_2) := (blk_cell BK145.out 2).trans rfl
       have hcz36_3 : wc.cell? ⟨gb145, 3, none⟩ = some (.int .i64 a0_3) := (blk_cell BK145.out 3).trans rfl
       have hcz36_4 : wc.cell? ⟨gb145, 4, none⟩ = some (.slice A0_4 l0_4.length c0_4) := (blk_cell BK145.out 4).trans rfl
       have hfz36_0 := fZ BK145 0
       have hfz36_1 := fZ BK145 1
       have hfz36_2 := fZ BK145 2
       have hfz36_3 := fZ BK145 3
       have hfz36_4 := fZ BK145 4
       go_wp2
       repeat (go_quiet (fail); try go_wp2)
       go_meet
       case rel => exact ⟨_, (true), (by first | rfl | (simp; done) | (simp [*]; done) | (simp; exact (by intro l_; cases l_ <;> rfl : ∀ l_ : List UInt8, l_.isEmpty = !(l_ != [])) _)), H', ⟨by have := HJ13.out; first | omega | exact Nat.le_refl _⟩, ⟨kP BK145⟩, ⟨bB⟩⟩
     ·rw [if_neg c30] at H
      have c30b0 : (a0_0 == 2) = false := beq_eq_false_iff_ne.mpr c30
      have c30b1 : (a0_0 != 2) = true := bne_iff_ne.mpr c30
      (first | rw [c30b0] | (simp only [i64_w, i32_w]; rw [c30b0]) | rw [c30b1] | rw [c30b2] | skip)
      replace H := Option.bind_eq_some_iff.mp H
      obtain ⟨t151, A370, H⟩ := H
      try dsimp only at H
      have A37 := aM A370
      clear A370
      have H' := aM H
      clear H
      have hcz38_0 := cZ0 BK145
      have hcz38_1 := cZ1 BK145
      have hcz38_2 : wc.cell? ⟨gb145, 2, none⟩ = some (.int .i64 a0_2) := (blk_cell BK145.out 2).trans rfl
      have hcz38_3 : wc.cell? ⟨gb145, 3, none⟩ = some (.int .i64 a0_3) := (blk_cell BK145.out 3).trans rfl
      have hcz38_4 : wc.cell? ⟨gb145, 4, none⟩ = some (.slice A0_4 l0_4.length c0_4) := (blk_cell BK145.out 4).trans rfl
      have hfz38_0 := fZ BK145 0
      have hfz38_1 := fZ BK145 1
      have hfz38_2 := fZ BK145 2
      have hfz38_3 := fZ BK145 3
      have hfz38_4 := fZ BK145 4
      go_wp2_with (first | (go_at_call 46; (with_reducible refine (impl_BlocksFor.calls a0_3 t151 _ A37.out).mono ?_); rintro e w' ⟨rfl, ⟨nd, rfl⟩⟩; (try first | exact ⟨rfl, _, World.drewN_drewN _ _ _⟩ | exact ⟨rfl, _, Eq.trans (World.drewN_drewN _ _ _) (congrArg (World.drewN _) (Nat.add_assoc _ _ _))⟩)))
      repeat (go_quiet (first | (go_at_call 46; (with_reducible refine (impl_BlocksFor.calls a0_3 t151 _ A37.out).mono ?_); rintro e w' ⟨rfl, ⟨nd, rfl⟩⟩; (try first | exact ⟨rfl, _, World.drewN_drewN _ _ _⟩ | exact ⟨rfl, _, Eq.trans (World.drewN_drewN _ _ _) (congrArg (World.drewN _) (Nat.add_assoc _ _ _))⟩))); try go_wp2_with (first | (go_at_call 46; (with_reducible refine (impl_BlocksFor.calls a0_3 t151 _ A37.out).mono ?_); rintro e w' ⟨rfl, ⟨nd, rfl⟩⟩; (try first | exact ⟨rfl, _, World.drewN_drewN _ _ _⟩ | exact ⟨rfl, _, Eq.trans (World.drewN_drewN _ _ _) (congrArg (World.drewN _) (Nat.add_assoc _ _ _))⟩))))
      go_meet
      case rel => exact ⟨_, (((l0_4.length : Int) != t151)), (by first | rfl | (simp; done) | (simp [*]; done) | (simp; exact (by intro l_; cases l_ <;> rfl : ∀ l_ : List UInt8, l_.isEmpty = !(l_ != [])) _)), H', ⟨by have := HJ13.out; first | omega | exact Nat.le_refl _⟩, ⟨kP BK145⟩, ⟨bB⟩⟩
    case rest =>
     clear HC29
     try clear c1
     try clear c2
     try clear c2b0
     try clear c2b1
     try clear p2
     try clear c3
     try clear c3b0
     try clear c3b1
     try clear c4
     try clear c4b0
     try clear c4b1
     try clear c5
     try clear c5b0
     try clear c5b1
     try clear c18
     try clear c20
     try clear c22
     try clear c28
     try clear c30
     try clear c30b0
     try clear c30b1
     try clear c30b2
     try clear c31
     try clear c31b0
     try clear c31b1
     try clear c32
     try clear c32b0
     try clear c32b1
     try clear hcz11_0
     try clear hcz11_1
     try clear hcz11_2
     try clear hcz11_3
     try clear hcz11_4
     try clear hcz13_0
     try clear hcz13_1
     try clear hcz13_2
     try clear hcz13_3
     try clear hcz13_4
     try clear hcz16_0
     try clear hcz16_1
     try clear hcz16_2
     try clear hcz16_3
     try clear hcz16_4
     try clear hcz24_0
     try clear hcz24_1
     try clear hcz24_2
     try clear hcz24_3
     try clear hcz24_4
     try clear hcz25_0
     try clear hcz25_1
     try clear hcz25_2
     try clear hcz25_3
     try clear hcz25_4
     try clear hcz26_0
     try clear hcz26_1
     try clear hcz26_2
     try clear hcz26_3
     try clear hcz26_4
     try clear hcz27_0
     try clear hcz27_1
     try clear hcz27_2
     try clear hcz27_3
     try clear hcz27_4
     try clear hcz34_0
     try clear hcz34_1
     try clear hcz34_2
     try clear hcz34_3
     try clear hcz34_4
     try clear hcz35_0
     try clear hcz35_1
     try clear hcz35_2
     try clear hcz35_3
     try clear hcz35_4
     try clear hcz36_0
     try clear hcz36_1
     try clear hcz36_2
     try clear hcz36_3
     try clear hcz36_4
     try clear hcz38_0
     try clear hcz38_1
     try clear hcz38_2
     try clear hcz38_3
     try clear hcz38_4
     try clear hcz7_0
     try clear hcz7_1
     try clear hcz7_2
     try clear hcz7_3
     try clear hcz7_4
     try clear hcz9_0
     try clear hcz9_1
     try clear hcz9_2
     try clear hcz9_3
     try clear hcz9_4
     try clear hfz11_0
     try clear hfz11_1
     try clear hfz11_2
     try clear hfz11_3
     try clear hfz11_4
     try clear hfz13_0
     try clear hfz13_1
     try clear hfz13_2
     try clear hfz13_3
     try clear hfz13_4
     try clear hfz16_0
     try clear hfz16_1
     try clear hfz16_2
     try clear hfz16_3
     try clear hfz16_4
     try clear hfz24_0
     try clear hfz24_1
     try clear hfz24_2
     try clear hfz24_3
     try clear hfz24_4
     try clear hfz25_0
     try clear hfz25_1
     try clear hfz25_2
     try clear hfz25_3
     try clear hfz25_4
     try clear hfz26_0
     try clear hfz26_1
     try clear hfz26_2
     try clear hfz26_3
     try clear hfz26_4
     try clear hfz27_0
     try clear hfz27_1
     try clear hfz27_2
     try clear hfz27_3
     try clear hfz27_4
     try clear hfz34_0
     try clear hfz34_1
     try clear hfz34_2
     try clear hfz34_3
     try clear hfz34_4
     try clear hfz35_0
     try clear hfz35_1
     try clear hfz35_2
     try clear hfz35_3
     try clear hfz35_4
     try clear hfz36_0
     try clear hfz36_1
     try clear hfz36_2
     try clear hfz36_3
     try clear hfz36_4
     try clear hfz38_0
     try clear hfz38_1
     try clear hfz38_2
     try clear hfz38_3
     try clear hfz38_4
     try clear hfz7_0
     try clear hfz7_1
     try clear hfz7_2
     try clear hfz7_3
     try clear hfz7_4
     try clear hfz9_0
     try clear hfz9_1
     try clear hfz9_2
     try clear hfz9_3
     try clear hfz9_4
     try clear p2
     obtain ⟨kq, x70_28, rfl, HA, HJ28, BK145, HB⟩ := hcut
     cases kq with
     | zero => exact absurd HA.out (by simp [impl_NodeOk.j1])
     | succ kj28 =>
      have H := HA.out
      clear HA
      simp only [impl_NodeOk.j1] at H
      by_cases c39 : x70_28 = true
      ·subst c39
       rw [if_pos rfl] at H
       obtain rfl := Option.some.inj H
       go_wp2
       repeat (go_quiet (fail); try go_wp2)
       go_ret
       exact ⟨eW, bB⟩
      ·replace c39 := Bool.eq_false_iff.mpr c39
       subst c39
       rw [if_neg (show ¬ (false = true) by decide)] at H
       have H' := aM H
       clear H
       have hcz40_0 := cZ0 BK145
       have hcz40_1 := cZ1 BK145
       have hcz40_2 : wc.cell? ⟨gb145, 2, none⟩ = some (.int .i64 a0_2) := (blk_cell BK145.out 2).trans rfl
       have hcz40_3 : wc.cell? ⟨gb145, 3, none⟩ = some (.int .i64 a0_3) := (blk_cell BK145.out 3).trans rfl
       have hcz40_4 : wc.cell? ⟨gb145, 4, none⟩ = some (.slice A0_4 l0_4.length c0_4) := (blk_cell BK145.out 4).trans rfl
       have hfz40_0 := fZ BK145 0
       have hfz40_1 := fZ BK145 1
       have hfz40_2 := fZ BK145 2
       have hfz40_3 := fZ BK145 3
       have hfz40_4 := fZ BK145 4
       go_wp2
       repeat (go_quiet (fail); try go_wp2)
       go_loopg [74] kj28 (fun kq v74 w' => ∃ (x74_3 : Int), v74 = .int .i64 x74_3 ∧ Aside0 (impl_NodeOk.l0 kq l0_4 (l0_4.length : Int) x74_3 a0_0 a0_1 a0_2 a0_3 l0_4 = some r) ∧ Aside0 (kq ≤ kj28) ∧ Aside0 (w'.heap[gb145]? = some (.cells #[.int .i64 a0_0, .int .i64 a0_1, .int .i64 a0_2, .int .i64 a0_3, (.slice A0_4 l0_4.length c0_4)] 33 (0, 0))) ∧ Aside0 (Below w.heap.size w w'))
       case atStart => exact ⟨(0), (by first | rfl | (simp; done) | (simp [*]; done) | (simp; exact (by intro l_; cases l_ <;> rfl : ∀ l_ : List UInt8, l_.isEmpty = !(l_ != [])) _)), H', ⟨Nat.le_refl _⟩, ⟨kP BK145⟩, ⟨bB⟩⟩
       case round =>
        clear H'
        try clear c1
        try clear c2
        try clear c2b0
        try clear c2b1
        try clear p2
        try clear c3
        try clear c3b0
        try clear c3b1
        try clear c4
        try clear c4b0
        try clear c4b1
        try clear c5
        try clear c5b0
        try clear c5b1
        try clear c18
        try clear c20
        try clear c22
        try clear c28
        try clear c30
        try clear c30b0
        try clear c30b1
        try clear c30b2
        try clear c31
        try clear c31b0
        try clear c31b1
        try clear c32
        try clear c32b0
        try clear c32b1
        try clear c39
        try clear hcz11_0
        try clear hcz11_1
        try clear hcz11_2
        try clear hcz11_3
        try clear hcz11_4
        try clear hcz13_0
        try clear hcz13_1
        try clear hcz13_2
        try clear hcz13_3
        try clear hcz13_4
        try clear hcz16_0
        try clear hcz16_1
        try clear hcz16_2
        try clear hcz16_3
        try clear hcz16_4
        try clear hcz24_0
        try clear hcz24_1
        try clear hcz24_2
        try clear hcz24_3
        try clear hcz24_4
        try clear hcz25_0
        try clear hcz25_1
        try clear hcz25_2
        try clear hcz25_3
        try clear hcz25_4
        try clear hcz26_0
        try clear hcz26_1
        try clear hcz26_2
        try clear hcz26_3
        try clear hcz26_4
        try clear hcz27_0
        try clear hcz27_1
        try clear hcz27_2
        try clear hcz27_3
        try clear hcz27_4
        try clear hcz34_0
        try clear hcz34_1
        try clear hcz34_2
        try clear hcz34_3
        try clear hcz34_4
        try clear hcz35_0
        try clear hcz35_1
        try clear hcz35_2
        try clear hcz35_3
        try clear hcz35_4
        try clear hcz36_0
        try clear hcz36_1
        try clear hcz36_2
        try clear hcz36_3
        try clear hcz36_4
        try clear hcz38_0
        try clear hcz38_1
        try clear hcz38_2
        try clear hcz38_3
        try clear hcz38_4
        try clear hcz40_0
        try clear hcz40_1
        try clear hcz40_2
        try clear hcz40_3
        try clear hcz40_4
        try clear hcz7_0
        try clear hcz7_1
        try clear hcz7_2
        try clear hcz7_3
        try clear hcz7_4
        try clear hcz9_0
        try clear hcz9_1
        try clear hcz9_2
        try clear hcz9_3
        try clear hcz9_4
        try clear hfz11_0
        try clear hfz11_1
        try clear hfz11_2
        try clear hfz11_3
        try clear hfz11_4
        try clear hfz13_0
        try clear hfz13_1
        try clear hfz13_2
        try clear hfz13_3
        try clear hfz13_4
        try clear hfz16_0
        try clear hfz16_1
        try clear hfz16_2
        try clear hfz16_3
        try clear hfz16_4
        try clear hfz24_0
        try clear hfz24_1
        try clear hfz24_2
        try clear hfz24_3
        try clear hfz24_4
        try clear hfz25_0
        try clear hfz25_1
        try clear hfz25_2
        try clear hfz25_3
        try clear hfz25_4
        try clear hfz26_0
        try clear hfz26_1
        try clear hfz26_2
        try clear hfz26_3
        try clear hfz26_4
        try clear hfz27_0
        try clear hfz27_1
        try clear hfz27_2
        try clear hfz27_3
        try clear hfz27_4
        try clear hfz34_0
        try clear hfz34_1
        try clear hfz34_2
        try clear hfz34_3
        try clear hfz34_4
        try clear hfz35_0
        try clear hfz35_1
        try clear hfz35_2
        try clear hfz35_3
        try clear hfz35_4
        try clear hfz36_0
        try clear hfz36_1
        try clear hfz36_2
        try clear hfz36_3
        try clear hfz36_4
        try clear hfz38_0
        try clear hfz38_1
        try clear hfz38_2
        try clear hfz38_3
        try clear hfz38_4
        try clear hfz40_0
        try clear hfz40_1
        try clear hfz40_2
        try clear hfz40_3
        try clear hfz40_4
        try clear hfz7_0
        try clear hfz7_1
        try clear hfz7_2
        try clear hfz7_3
        try clear hfz7_4
        try clear hfz9_0
        try clear hfz9_1
        try clear hfz9_2
        try clear hfz9_3
        try clear hfz9_4
        try clear p2
        obtain ⟨x74_3, rfl, HA, HK3, BK145, HB⟩ := hrel
        cases gk with
        | zero => exact absurd HA.out (by simp [impl_NodeOk.l0])
        | succ k3 =>
         have H := HA.out
         clear HA
         simp only [impl_NodeOk.l0] at H
         by_cases c41 : x74_3 < (l0_4.length : Int)
         ·rw [if_pos c41] at H
          have c41b0 : decide (x74_3 < (l0_4.length : Int)) = true := decide_eq_true c41
          clear c41
          by_cases c42 : 0 ≤ x74_3
          ·rw [if_pos c42] at H
           have c42b0 : decide (0 ≤ x74_3) = true := decide_eq_true c42
           clear c42
           by_cases c43 : x74_3 < (l0_4.length : Int)
           ·rw [if_pos c43] at H
            have c43b0 : decide (x74_3 < (l0_4.length : Int)) = true := decide_eq_true c43
            clear c43
            replace H := Option.bind_eq_some_iff.mp H
            obtain ⟨t153, A440, H⟩ := H
            try dsimp only at H
            have A44 := aM A440
            clear A440
            by_cases c45 : t153 = true
            ·subst c45
             rw [if_pos rfl] at H
             have c46b0 := eq_true (dT : 0 ≤ x74_3)
             by_cases c47 : x74_3 ≤ (l0_4.length : Int)
             ·rw [if_pos c47] at H
              have c47b0 := eq_true c47
              have c47b1 : decide (x74_3 ≤ (l0_4.length : Int)) = true := decide_eq_true c47
              clear c47
              replace H := Option.bind_eq_some_iff.mp H
              obtain ⟨t155, A480, H⟩ := H
              try dsimp only at H
              have A48 := aM A480
              clear A480
              by_cases c49 : t155 = true
              ·subst c49
               rw [if_pos rfl] at H
               obtain rfl := Option.some.inj H
               have p152 : 0 ≤ (x74_3 : Int) := dT
               have q152 : x74_3 < (l0_4.length : Int) := dT
               obtain ⟨ad152, e152, hx152_0⟩ := Kd.at_int HR0_4.out x74_3 p152 q152
               cases e152
               replace hx152_0 := (HB.out.cell (World.block_lt_of_cell? w _ hx152_0)).trans hx152_0
               replace p152 := eq_true p152
               replace q152 := eq_true q152
               go_wp2_with (first | (go_at_call 24; (with_reducible refine (impl_within.calls (rd l0_4 x74_3) 0 35 true _ A44.out).mono ?_); rintro e w' ⟨rfl, ⟨nd, rfl⟩⟩; (try first | exact ⟨rfl, _, World.drewN_drewN _ _ _⟩ | exact ⟨rfl, _, Eq.trans (World.drewN_drewN _ _ _) (congrArg (World.drewN _) (Nat.add_assoc _ _ _))⟩); have hcz50_0 := cZ0 BK145; have hcz50_1 := cZ1 BK145; have hcz50_2 : wr.cell? ⟨gb145, 2, none⟩ = some (.int .i64 a0_2) := (blk_cell BK145.out 2).trans rfl; have hcz50_3 : wr.cell? ⟨gb145, 3, none⟩ = some (.int .i64 a0_3) := (blk_cell BK145.out 3).trans rfl; have hcz50_4 : wr.cell? ⟨gb145, 4, none⟩ = some (.slice (some ad152) l0_4.length c0_4) := (blk_cell BK145.out 4).trans rfl; have hfz50_0 := fZ BK145 0; have hfz50_1 := fZ BK145 1; have hfz50_2 := fZ BK145 2; have hfz50_3 := fZ BK145 3; have hfz50_4 := fZ BK145 4; obtain ⟨i051, hi051, _, hsz51, _⟩ := info_parts info3; obtain ⟨hcut51, hA51, hC51⟩ := print_take_of (P := Try.prog) (Value.int .i64) 0 31 3 .i64 Try.underlying31 hi051 hsz51 (some ad152) c0_4 l0_4 x74_3 (dT) (dT) HC0_4.out; have HR154 := aM (Kd.C_of_reads (h1 := fun _ => rfl) (hA51 _ (Kd.reads_of_C HR0_4.out))); have HC154 := aM hC51; clear hA51 hC51 hi051 hsz51) | (go_at_call 47; refine calls_of_args (args' := #[.slice (some ad152) (l0_4.take (x74_3 : Int).toNat).length c0_4, .int .i64 (rd l0_4 x74_3)]) (by first | rfl | (rw [show (l0_4.take (x74_3 : Int).toNat).length = x74_3.toNat from by rw [List.length_take, Nat.min_eq_left (by have h_ : x74_3 ≤ (l0_4.length : Int) := of_eq_true (by assumption); omega)]]; rfl) | (rw [show (l0_4.take (x74_3 : Int).toNat).length = x74_3.toNat from by rw [List.length_take, Nat.min_eq_left (by have h_ : x74_3 ≤ (l0_4.length : Int) := of_eq_true (by assumption); omega)]])) ?_; (with_reducible refine (slices_Contains_int_int.calls k3 _ _ (l0_4.take (x74_3 : Int).toNat) (rd l0_4 x74_3) true _ ?side1 ?side2 A48.out).mono ?_); (case side1 => repeat (first | exact (Kd.C_below HR154.out bB) | (with_reducible refine Kd.C_alloc ?_ _) | (with_reducible refine Kd.C_drewN ?_ _) | (with_reducible refine Kd.C_drew ?_))); (case side2 => exact HC154.out); rintro e w' ⟨rfl, ⟨nd, rfl⟩⟩; (try first | exact ⟨rfl, _, World.drewN_drewN _ _ _⟩ | exact ⟨rfl, _, Eq.trans (World.drewN_drewN _ _ _) (congrArg (World.drewN _) (Nat.add_assoc _ _ _))⟩)))
               repeat (go_quiet (first | (go_at_call 24; (with_reducible refine (impl_within.calls (rd l0_4 x74_3) 0 35 true _ A44.out).mono ?_); rintro e w' ⟨rfl, ⟨nd, rfl⟩⟩; (try first | exact ⟨rfl, _, World.drewN_drewN _ _ _⟩ | exact ⟨rfl, _, Eq.trans (World.drewN_drewN _ _ _) (congrArg (World.drewN _) (Nat.add_assoc _ _ _))⟩); have hcz50_0 := cZ0 BK145; have hcz50_1 := cZ1 BK145; have hcz50_2 : wr.cell? ⟨gb145, 2, none⟩ = some (.int .i64 a0_2) := (blk_cell BK145.out 2).trans rfl; have hcz50_3 : wr.cell? ⟨gb145, 3, none⟩ = some (.int .i64 a0_3) := (blk_cell BK145.out 3).trans rfl; have hcz50_4 : wr.cell? ⟨gb145, 4, none⟩ = some (.slice (some ad152) l0_4.length c0_4) := (blk_cell BK145.out 4).trans rfl; have hfz50_0 := fZ BK145 0; have hfz50_1 := fZ BK145 1; have hfz50_2 := fZ BK145 2; have hfz50_3 := fZ BK145 3; have hfz50_4 := fZ BK145 4; obtain ⟨i051, hi051, _, hsz51, _⟩ := info_parts info3; obtain ⟨hcut51, hA51, hC51⟩ := print_take_of (P := Try.prog) (Value.int .i64) 0 31 3 .i64 Try.underlying31 hi051 hsz51 (some ad152) c0_4 l0_4 x74_3 (dT) (dT) HC0_4.out; have HR154 := aM (Kd.C_of_reads (h1 := fun _ => rfl) (hA51 _ (Kd.reads_of_C HR0_4.out))); have HC154 := aM hC51; clear hA51 hC51 hi051 hsz51) | (go_at_call 47; refine calls_of_args (args' := #[.slice (some ad152) (l0_4.take (x74_3 : Int).toNat).length c0_4, .int .i64 (rd l0_4 x74_3)]) (by first | rfl | (rw [show (l0_4.take (x74_3 : Int).toNat).length = x74_3.toNat from by rw [List.length_take, Nat.min_eq_left (by have h_ : x74_3 ≤ (l0_4.length : Int) := of_eq_true (by assumption); omega)]]; rfl) | (rw [show (l0_4.take (x74_3 : Int).toNat).length = x74_3.toNat from by rw [List.length_take, Nat.min_eq_left (by have h_ : x74_3 ≤ (l0_4.length : Int) := of_eq_true (by assumption); omega)]])) ?_; (with_reducible refine (slices_Contains_int_int.calls k3 _ _ (l0_4.take (x74_3 : Int).toNat) (rd l0_4 x74_3) true _ ?side1 ?side2 A48.out).mono ?_); (case side1 => repeat (first | exact (Kd.C_below HR154.out bB) | (with_reducible refine Kd.C_alloc ?_ _) | (with_reducible refine Kd.C_drewN ?_ _) | (with_reducible refine Kd.C_drew ?_))); (case side2 => exact HC154.out); rintro e w' ⟨rfl, ⟨nd, rfl⟩⟩; (try first | exact ⟨rfl, _, World.drewN_drewN _ _ _⟩ | exact ⟨rfl, _, Eq.trans (World.drewN_drewN _ _ _) (congrArg (World.drewN _) (Nat.add_assoc _ _ _))⟩))); try go_wp2_with (first | (go_at_call 24; (with_reducible refine (impl_within.calls (rd l0_4 x74_3) 0 35 true _ A44.out).mono ?_); rintro e w' ⟨rfl, ⟨nd, rfl⟩⟩; (try first | exact ⟨rfl, _, World.drewN_drewN _ _ _⟩ | exact ⟨rfl, _, Eq.trans (World.drewN_drewN _ _ _) (congrArg (World.drewN _) (Nat.add_assoc _ _ _))⟩); have hcz50_0 := cZ0 BK145; have hcz50_1 := cZ1 BK145; have hcz50_2 : wr.cell? ⟨gb145, 2, none⟩ = some (.int .i64 a0_2) := (blk_cell BK145.out 2).trans rfl; have hcz50_3 : wr.cell? ⟨gb145, 3, none⟩ = some (.int .i64 a0_3) := (blk_cell BK145.out 3).trans rfl; have hcz50_4 : wr.cell? ⟨gb145, 4, none⟩ = some (.slice (some ad152) l0_4.length c0_4) := (blk_cell BK145.out 4).trans rfl; have hfz50_0 := fZ BK145 0; have hfz50_1 := fZ BK145 1; have hfz50_2 := fZ BK145 2; have hfz50_3 := fZ BK145 3; have hfz50_4 := fZ BK145 4; obtain ⟨i051, hi051, _, hsz51, _⟩ := info_parts info3; obtain ⟨hcut51, hA51, hC51⟩ := print_take_of (P := Try.prog) (Value.int .i64) 0 31 3 .i64 Try.underlying31 hi051 hsz51 (some ad152) c0_4 l0_4 x74_3 (dT) (dT) HC0_4.out; have HR154 := aM (Kd.C_of_reads (h1 := fun _ => rfl) (hA51 _ (Kd.reads_of_C HR0_4.out))); have HC154 := aM hC51; clear hA51 hC51 hi051 hsz51) | (go_at_call 47; refine calls_of_args (args' := #[.slice (some ad152) (l0_4.take (x74_3 : Int).toNat).length c0_4, .int .i64 (rd l0_4 x74_3)]) (by first | rfl | (rw [show (l0_4.take (x74_3 : Int).toNat).length = x74_3.toNat from by rw [List.length_take, Nat.min_eq_left (by have h_ : x74_3 ≤ (l0_4.length : Int) := of_eq_true (by assumption); omega)]]; rfl) | (rw [show (l0_4.take (x74_3 : Int).toNat).length = x74_3.toNat from by rw [List.length_take, Nat.min_eq_left (by have h_ : x74_3 ≤ (l0_4.length : Int) := of_eq_true (by assumption); omega)]])) ?_; (with_reducible refine (slices_Contains_int_int.calls k3 _ _ (l0_4.take (x74_3 : Int).toNat) (rd l0_4 x74_3) true _ ?side1 ?side2 A48.out).mono ?_); (case side1 => repeat (first | exact (Kd.C_below HR154.out bB) | (with_reducible refine Kd.C_alloc ?_ _) | (with_reducible refine Kd.C_drewN ?_ _) | (with_reducible refine Kd.C_drew ?_))); (case side2 => exact HC154.out); rintro e w' ⟨rfl, ⟨nd, rfl⟩⟩; (try first | exact ⟨rfl, _, World.drewN_drewN _ _ _⟩ | exact ⟨rfl, _, Eq.trans (World.drewN_drewN _ _ _) (congrArg (World.drewN _) (Nat.add_assoc _ _ _))⟩))))
               go_ret
               exact ⟨eW, bB⟩
              ·replace c49 := Bool.eq_false_iff.mpr c49
               subst c49
               rw [if_neg (show ¬ (false = true) by decide)] at H
               have H' := aM H
               clear H
               have p152 : 0 ≤ (x74_3 : Int) := dT
               have q152 : x74_3 < (l0_4.length : Int) := dT
               obtain ⟨ad152, e152, hx152_0⟩ := Kd.at_int HR0_4.out x74_3 p152 q152
               cases e152
               replace hx152_0 := (HB.out.cell (World.block_lt_of_cell? w _ hx152_0)).trans hx152_0
               replace p152 := eq_true p152
               replace q152 := eq_true q152
               go_wp2_with (first | (go_at_call 24; (with_reducible refine (impl_within.calls (rd l0_4 x74_3) 0 35 true _ A44.out).mono ?_); rintro e w' ⟨rfl, ⟨nd, rfl⟩⟩; (try first | exact ⟨rfl, _, World.drewN_drewN _ _ _⟩ | exact ⟨rfl, _, Eq.trans (World.drewN_drewN _ _ _) (congrArg (World.drewN _) (Nat.add_assoc _ _ _))⟩); have hcz52_0 := cZ0 BK145; have hcz52_1 := cZ1 BK145; have hcz52_2 : wr.cell? ⟨gb145, 2, none⟩ = some (.int .i64 a0_2) := (blk_cell BK145.out 2).trans rfl; have hcz52_3 : wr.cell? ⟨gb145, 3, none⟩ = some (.int .i64 a0_3) := (blk_cell BK145.out 3).trans rfl; have hcz52_4 : wr.cell? ⟨gb145, 4, none⟩ = some (.slice (some ad152) l0_4.length c0_4) := (blk_cell BK145.out 4).trans rfl; have hfz52_0 := fZ BK145 0; have hfz52_1 := fZ BK145 1; have hfz52_2 := fZ BK145 2; have hfz52_3 := fZ BK145 3; have hfz52_4 := fZ BK145 4; obtain ⟨i053, hi053, _, hsz53, _⟩ := info_parts info3; obtain ⟨hcut53, hA53, hC53⟩ := print_take_of (P := Try.prog) (Value.int .i64) 0 31 3 .i64 Try.underlying31 hi053 hsz53 (some ad152) c0_4 l0_4 x74_3 (dT) (dT) HC0_4.out; have HR154 := aM (Kd.C_of_reads (h1 := fun _ => rfl) (hA53 _ (Kd.reads_of_C HR0_4.out))); have HC154 := aM hC53; clear hA53 hC53 hi053 hsz53) | (go_at_call 47; refine calls_of_args (args' := #[.slice (some ad152) (l0_4.take (x74_3 : Int).toNat).length c0_4, .int .i64 (rd l0_4 x74_3)]) (by first | rfl | (rw [show (l0_4.take (x74_3 : Int).toNat).length = x74_3.toNat from by rw [List.length_take, Nat.min_eq_left (by have h_ : x74_3 ≤ (l0_4.length : Int) := of_eq_true (by assumption); omega)]]; rfl) | (rw [show (l0_4.take (x74_3 : Int).toNat).length = x74_3.toNat from by rw [List.length_take, Nat.min_eq_left (by have h_ : x74_3 ≤ (l0_4.length : Int) := of_eq_true (by assumption); omega)]])) ?_; (with_reducible refine (slices_Contains_int_int.calls k3 _ _ (l0_4.take (x74_3 : Int).toNat) (rd l0_4 x74_3) false _ ?side1 ?side2 A48.out).mono ?_); (case side1 => repeat (first | exact (Kd.C_below HR154.out bB) | (with_reducible refine Kd.C_alloc ?_ _) | (with_reducible refine Kd.C_drewN ?_ _) | (with_reducible refine Kd.C_drew ?_))); (case side2 => exact HC154.out); rintro e w' ⟨rfl, ⟨nd, rfl⟩⟩; (try first | exact ⟨rfl, _, World.drewN_drewN _ _ _⟩ | exact ⟨rfl, _, Eq.trans (World.drewN_drewN _ _ _) (congrArg (World.drewN _) (Nat.add_assoc _ _ _))⟩)))
               repeat (go_quiet (first | (go_at_call 24; (with_reducible refine (impl_within.calls (rd l0_4 x74_3) 0 35 true _ A44.out).mono ?_); rintro e w' ⟨rfl, ⟨nd, rfl⟩⟩; (try first | exact ⟨rfl, _, World.drewN_drewN _ _ _⟩ | exact ⟨rfl, _, Eq.trans (World.drewN_drewN _ _ _) (congrArg (World.drewN _) (Nat.add_assoc _ _ _))⟩); have hcz52_0 := cZ0 BK145; have hcz52_1 := cZ1 BK145; have hcz52_2 : wr.cell? ⟨gb145, 2, none⟩ = some (.int .i64 a0_2) := (blk_cell BK145.out 2).trans rfl; have hcz52_3 : wr.cell? ⟨gb145, 3, none⟩ = some (.int .i64 a0_3) := (blk_cell BK145.out 3).trans rfl; have hcz52_4 : wr.cell? ⟨gb145, 4, none⟩ = some (.slice (some ad152) l0_4.length c0_4) := (blk_cell BK145.out 4).trans rfl; have hfz52_0 := fZ BK145 0; have hfz52_1 := fZ BK145 1; have hfz52_2 := fZ BK145 2; have hfz52_3 := fZ BK145 3; have hfz52_4 := fZ BK145 4; obtain ⟨i053, hi053, _, hsz53, _⟩ := info_parts info3; obtain ⟨hcut53, hA53, hC53⟩ := print_take_of (P := Try.prog) (Value.int .i64) 0 31 3 .i64 Try.underlying31 hi053 hsz53 (some ad152) c0_4 l0_4 x74_3 (dT) (dT) HC0_4.out; have HR154 := aM (Kd.C_of_reads (h1 := fun _ => rfl) (hA53 _ (Kd.reads_of_C HR0_4.out))); have HC154 := aM hC53; clear hA53 hC53 hi053 hsz53) | (go_at_call 47; refine calls_of_args (args' := #[.slice (some ad152) (l0_4.take (x74_3 : Int).toNat).length c0_4, .int .i64 (rd l0_4 x74_3)]) (by first | rfl | (rw [show (l0_4.take (x74_3 : Int).toNat).length = x74_3.toNat from by rw [List.length_take, Nat.min_eq_left (by have h_ : x74_3 ≤ (l0_4.length : Int) := of_eq_true (by assumption); omega)]]; rfl) | (rw [show (l0_4.take (x74_3 : Int).toNat).length = x74_3.toNat from by rw [List.length_take, Nat.min_eq_left (by have h_ : x74_3 ≤ (l0_4.length : Int) := of_eq_true (by assumption); omega)]])) ?_; (with_reducible refine (slices_Contains_int_int.calls k3 _ _ (l0_4.take (x74_3 : Int).toNat) (rd l0_4 x74_3) false _ ?side1 ?side2 A48.out).mono ?_); (case side1 => repeat (first | exact (Kd.C_below HR154.out bB) | (with_reducible refine Kd.C_alloc ?_ _) | (with_reducible refine Kd.C_drewN ?_ _) | (with_reducible refine Kd.C_drew ?_))); (case side2 => exact HC154.out); rintro e w' ⟨rfl, ⟨nd, rfl⟩⟩; (try first | exact ⟨rfl, _, World.drewN_drewN _ _ _⟩ | exact ⟨rfl, _, Eq.trans (World.drewN_drewN _ _ _) (congrArg (World.drewN _) (Nat.add_assoc _ _ _))⟩))); try go_wp2_with (first | (go_at_call 24; (with_reducible refine (impl_within.calls (rd l0_4 x74_3) 0 35 true _ A44.out).mono ?_); rintro e w' ⟨rfl, ⟨nd, rfl⟩⟩; (try first | exact ⟨rfl, _, World.drewN_drewN _ _ _⟩ | exact ⟨rfl, _, Eq.trans (World.drewN_drewN _ _ _) (congrArg (World.drewN _) (Nat.add_assoc _ _ _))⟩); have hcz52_0 := cZ0 BK145; have hcz52_1 := cZ1 BK145; have hcz52_2 : wr.cell? ⟨gb145, 2, none⟩ = some (.int .i64 a0_2) := (blk_cell BK145.out 2).trans rfl; have hcz52_3 : wr.cell? ⟨gb145, 3, none⟩ = some (.int .i64 a0_3) := (blk_cell BK145.out 3).trans rfl; have hcz52_4 : wr.cell? ⟨gb145, 4, none⟩ = some (.slice (some ad152) l0_4.length c0_4) := (blk_cell BK145.out 4).trans rfl; have hfz52_0 := fZ BK145 0; have hfz52_1 := fZ BK145 1; have hfz52_2 := fZ BK145 2; have hfz52_3 := fZ BK145 3; have hfz52_4 := fZ BK145 4; obtain ⟨i053, hi053, _, hsz53, _⟩ := info_parts info3; obtain ⟨hcut53, hA53, hC53⟩ := print_take_of (P := Try.prog) (Value.int .i64) 0 31 3 .i64 Try.underlying31 hi053 hsz53 (some ad152) c0_4 l0_4 x74_3 (dT) (dT) HC0_4.out; have HR154 := aM (Kd.C_of_reads (h1 := fun _ => rfl) (hA53 _ (Kd.reads_of_C HR0_4.out))); have HC154 := aM hC53; clear hA53 hC53 hi053 hsz53) | (go_at_call 47; refine calls_of_args (args' := #[.slice (some ad152) (l0_4.take (x74_3 : Int).toNat).length c0_4, .int .i64 (rd l0_4 x74_3)]) (by first | rfl | (rw [show (l0_4.take (x74_3 : Int).toNat).length = x74_3.toNat from by rw [List.length_take, Nat.min_eq_left (by have h_ : x74_3 ≤ (l0_4.length : Int) := of_eq_true (by assumption); omega)]]; rfl) | (rw [show (l0_4.take (x74_3 : Int).toNat).length = x74_3.toNat from by rw [List.length_take, Nat.min_eq_left (by have h_ : x74_3 ≤ (l0_4.length : Int) := of_eq_true (by assumption); omega)]])) ?_; (with_reducible refine (slices_Contains_int_int.calls k3 _ _ (l0_4.take (x74_3 : Int).toNat) (rd l0_4 x74_3) false _ ?side1 ?side2 A48.out).mono ?_); (case side1 => repeat (first | exact (Kd.C_below HR154.out bB) | (with_reducible refine Kd.C_alloc ?_ _) | (with_reducible refine Kd.C_drewN ?_ _) | (with_reducible refine Kd.C_drew ?_))); (case side2 => exact HC154.out); rintro e w' ⟨rfl, ⟨nd, rfl⟩⟩; (try first | exact ⟨rfl, _, World.drewN_drewN _ _ _⟩ | exact ⟨rfl, _, Eq.trans (World.drewN_drewN _ _ _) (congrArg (World.drewN _) (Nat.add_assoc _ _ _))⟩))))
               go_roundg k3
               case measure => have := HJ13.out; have := HJ28.out; have := HK3.out; omega
               case rel => exact ⟨(wrap64 (x74_3 + 1)), (by first | rfl | (simp; done) | (simp [*]; done) | (simp; exact (by intro l_; cases l_ <;> rfl : ∀ l_ : List UInt8, l_.isEmpty = !(l_ != [])) _)), H', ⟨by have := HJ13.out; have := HJ28.out; have := HK3.out; omega⟩, ⟨kP BK145⟩, ⟨bB⟩⟩
             ·rw [if_neg c47] at H
              exact absurd H (by simp)
            ·replace c45 := Bool.eq_false_iff.mpr c45
             subst c45
             rw [if_neg (show ¬ (false = true) by decide)] at H
             obtain rfl := Option.some.inj H
             have p152 : 0 ≤ (x74_3 : Int) := dT
             have q152 : x74_3 < (l0_4.length : Int) := dT
             obtain ⟨ad152, e152, hx152_0⟩ := Kd.at_int HR0_4.out x74_3 p152 q152
             cases e152
             replace hx152_0 := (HB.out.cell (World.block_lt_of_cell? w _ hx152_0)).trans hx152_0
             replace p152 := eq_true p152
             replace q152 := eq_true q152
             go_wp2_with (first | (go_at_call 24; (with_reducible refine (impl_within.calls (rd l0_4 x74_3) 0 35 false _ A44.out).mono ?_); rintro e w' ⟨rfl, ⟨nd, rfl⟩⟩; (try first | exact ⟨rfl, _, World.drewN_drewN _ _ _⟩ | exact ⟨rfl, _, Eq.trans (World.drewN_drewN _ _ _) (congrArg (World.drewN _) (Nat.add_assoc _ _ _))⟩)))
             repeat (go_quiet (first | (go_at_call 24; (with_reducible refine (impl_within.calls (rd l0_4 x74_3) 0 35 false _ A44.out).mono ?_); rintro e w' ⟨rfl, ⟨nd, rfl⟩⟩; (try first | exact ⟨rfl, _, World.drewN_drewN _ _ _⟩ | exact ⟨rfl, _, Eq.trans (World.drewN_drewN _ _ _) (congrArg (World.drewN _) (Nat.add_assoc _ _ _))⟩))); try go_wp2_with (first | (go_at_call 24; (with_reducible refine (impl_within.calls (rd l0_4 x74_3) 0 35 false _ A44.out).mono ?_); rintro e w' ⟨rfl, ⟨nd, rfl⟩⟩; (try first | exact ⟨rfl, _, World.drewN_drewN _ _ _⟩ | exact ⟨rfl, _, Eq.trans (World.drewN_drewN _ _ _) (congrArg (World.drewN _) (Nat.add_assoc _ _ _))⟩))))
             go_ret
             exact ⟨eW, bB⟩
           ·rw [if_neg c43] at H
            exact absurd H (by simp)
          ·rw [if_neg c42] at H
           exact absurd H (by simp)
         ·rw [if_neg c41] at H
          have c41b0 : decide (x74_3 < (l0_4.length : Int)) = false := decide_eq_false c41
          clear c41
          obtain rfl := Option.some.inj H
          go_wp2
          repeat (go_quiet (fail); try go_wp2)
          go_ret
          exact ⟨eW, bB⟩

end Go.Proofs.Ytadfimhielcmmaa.PFnNodes
