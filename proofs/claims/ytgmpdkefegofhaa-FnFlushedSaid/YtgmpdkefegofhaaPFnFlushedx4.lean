-- Written by xprint.py, a program of this session over the kit's print. Not trusted: Lean checks it.
import Derived.Test.YtgmpdkefegofhaaPFnFlushedx0
import Derived.Test.YtgmpdkefegofhaaPFnFlushedx2
import Derived.Test.YtgmpdkefegofhaaPFnFlushedx3
namespace Go.Proofs.Ytgmpdkefegofhaa.PFnFlushed
open Go.RowKit Go.Proofs.YtgmpdkefegofhaaW.PrintWords Go.Proofs.YtgmpdkefegofhaaW.PrintLast Go.Proofs.YtgmpdkefegofhaaW.PrintMore
attribute [local go_sem] max2_int min2_int max_two min_two max_three min_three max_four min_four   -- for this text's walks alone
set_option linter.unusedVariables false
set_option linter.unusedSimpArgs false

/-! ### impl_SectorWrite: function 29 -/
def impl_SectorWrite.f (l0_0 : List ByteArray) (l0_1 : List (S65)) (a1 : Int) (a2 : ByteArray) : Option (List ByteArray × (List (S65)) × Bool) := (impl_cloneDisk.f l0_0 l0_1).bind fun bt167 => (if bt167.2.length < 5864062014805 then ((some (bt167.2 ++ [(⟨a1, a2⟩ : S65)] : List (S65))).bind fun y174 => ((impl_DiskOk.f l0_0 l0_1).bind fun t177 => (if t177 = true then ((impl_DiskOk.f bt167.1 y174).bind fun t178 => (if t178 = true then (some (bt167.1, y174, true)) else ((impl_cloneDisk.f l0_0 l0_1).bind fun bt179 => (some (bt179.1, bt179.2, false))))) else ((impl_cloneDisk.f l0_0 l0_1).bind fun bt185 => (some (bt185.1, bt185.2, false)))))) else (none))
set_option maxHeartbeats 8000000 in
set_option maxRecDepth 100000 in
theorem impl_SectorWrite.calls (A0_0 : Option Addr) (c0_0 : Nat) (l0_0 : List ByteArray) (A0_1 : Option Addr) (c0_1 : Nat) (l0_1 : List (S65)) (a1 : Int) (a2 : ByteArray) (r1 : List ByteArray) (r2 : List (S65)) (r3 : Bool) (w : World) (hr0_0 : Kd.C Kd.string w A0_0 l0_0.length l0_0) (hc0_0 : l0_0.length ≤ c0_0) (hr0_1 : Kd.C k65 w A0_1 l0_1.length l0_1) (hc0_1 : l0_1.length ≤ c0_1) (h : impl_SectorWrite.f l0_0 l0_1 a1 a2 = some (r1, r2, r3)) :
  Calls Try.prog 29 #[.agg #[.slice A0_0 l0_0.length c0_0, .slice A0_1 l0_1.length c0_1], .int .i64 a1, .string a2] w fun e w' => ∃ v0_ v1_ : Value, e = .returned (.tuple #[.agg #[v0_, v1_], .bool r3]) ∧ Kd.R Kd.string 9 w' w.heap.size (fun _ => True) v0_ r1 ∧ Kd.R k65 65 w' w.heap.size (fun _ => True) v1_ r2 ∧ Below w.heap.size w w' := by
 have hu30 := Try.underlying30
 have hu65 := Try.underlying65
 have HR0_0 := aM hr0_0
 have HC0_0 := aM hc0_0
 clear hr0_0 hc0_0
 have HR0_1 := aM hr0_1
 have HC0_1 := aM hc0_1
 clear hr0_1 hc0_1
 have HB := aM (Below.refl w.heap.size w)
 unfold impl_SectorWrite.f at h
 have H := h
 clear h
 replace H := Option.bind_eq_some_iff.mp H
 obtain ⟨⟨t167, t170⟩, A40, H⟩ := H
 try dsimp only at H
 have A4 := aM A40
 clear A40
 by_cases c5 : t170.length < 5864062014805
 ·rw [if_pos c5] at H
  have LMc5 := aM c5
  clear c5
  obtain ⟨y174, hy174⟩ : ∃ y_ : List (S65), y_ = (t170 ++ [(⟨a1, a2⟩ : S65)]) := ⟨_, rfl⟩
  replace H : ((impl_DiskOk.f l0_0 l0_1).bind fun t177 => (if t177 = true then ((impl_DiskOk.f t167 y174).bind fun t178 => (if t178 = true then (some (t167, y174, true)) else ((impl_cloneDisk.f l0_0 l0_1).bind fun bt179 => (some (bt179.1, bt179.2, false))))) else ((impl_cloneDisk.f l0_0 l0_1).bind fun bt185 => (some (bt185.1, bt185.2, false))))) = some (r1, r2, r3) := by first | (rw [hy174]; with_reducible exact H) | (have H2_ := (Option.bind_some _ _).symm.trans H; rw [hy174]; with_reducible exact H2_) | (have H2_ := (Option.bind_some _ _).symm.trans H; with_reducible exact H2_) | with_reducible exact H | (rw [hy174]; exact H) | exact H
  have Ny174 := aM hy174
  clear hy174
  replace H := Option.bind_eq_some_iff.mp H
  obtain ⟨t177, A60, H⟩ := H
  try dsimp only at H
  have A6 := aM A60
  clear A60
  by_cases c7 : t177 = true
  ·subst c7
   rw [if_pos rfl] at H
   replace H := Option.bind_eq_some_iff.mp H
   obtain ⟨t178, A80, H⟩ := H
   try dsimp only at H
   have A8 := aM A80
   clear A80
   by_cases c9 : t178 = true
   ·subst c9
    rw [if_pos rfl] at H
    simp only [Option.some.injEq, Prod.mk.injEq] at H
    obtain ⟨rfl, rfl, rfl⟩ := H
    go_enter Try.func29, Try.ntmps29
    go_wp2_with (first | ((with_reducible refine gate_dst (N := 3) rfl ?_); refine bE 3 #[.slice A0_0 l0_0.length c0_0, .slice A0_1 l0_1.length c0_1] 30 ?_; intro gb165 hg w10 hbox hb; have n_ := aI (sB HB hb) (aI (aM hbox) (aI (gE HB hg) (gE HB hg))); clear HB; obtain ⟨HB, BK165, GW165, GE165⟩ := n_; (try clear hb hbox hg)) | ((with_reducible refine gate_dst (N := 6) rfl ?_); refine bE 6 #[.slice none 0 0, .slice none 0 0] 30 ?_; intro gb166 hg w11 hbox hb; have n_ := aI (kB BK165 hb) (aI (sB HB hb) (aI (aM hbox) (aI (gE HB hg) (aI (gE HB hg) (aI (nL BK165 hg) (nG BK165 hg)))))); clear BK165 HB; obtain ⟨BK165, HB, BK166, GW166, GE166, NB165_166, NB166_165⟩ := n_; (try clear hb hbox hg); have hnb12 := NB165_166.out; have hnc12 := NB166_165.out; have hcz13_0 := cZ0 BK165; have hcz13_1 := cZ1 BK165; have hfz13_0 := blk_frozen BK165.out 0; have hfz13_1 := blk_frozen BK165.out 1) | ((with_reducible refine gate_callee (f := 76) rfl ?_); refine gL (some 10) Try.func76 #[.agg #[.slice A0_0 l0_0.length c0_0, .slice A0_1 l0_1.length c0_1]] ?_; (with_reducible refine (impl_cloneDisk.calls _ _ l0_0 _ _ l0_1 t167 t170 _ ?side1 ?side2 ?side3 ?side4 A4.out).mono ?_); (case side1 => exact cS HR0_0 HB); (case side2 => exact HC0_0.out); (case side3 => exact cS HR0_1 HB); (case side4 => exact HC0_1.out); rintro e w14 ⟨v168, v171, rfl, ho0, ho1, hb⟩; refine ⟨_, rfl, ?_⟩; have n_ := aI (lR HB ho0) (aI (lR HB ho1) (aI (kB BK165 hb) (aI (kB BK166 hb) (sB HB hb)))); clear BK165 BK166 HB; obtain ⟨HO169, HO172, BK165, BK166, HB⟩ := n_; (try clear hb ho0 ho1)) | ((with_reducible refine gate_dst (N := 8) rfl ?_); refine bE 8 #[.slice none 0 0, .slice none 0 0] 30 ?_; intro gb173 hg w15 hbox hb; have n_ := aI (rB HO169 hb) (aI (rB HO172 hb) (aI (kB BK165 hb) (aI (kB BK166 hb) (aI (sB HB hb) (aI (aM hbox) (aI (gE HB hg) (aI (gE HB hg) (aI (nL BK165 hg) (aI (nG BK165 hg) (aI (nL BK166 hg) (nG BK166 hg))))))))))); clear HO169 HO172 BK165 BK166 HB; obtain ⟨HO169, HO172, BK165, BK166, HB, BK173, GW173, GE173, NB165_173, NB173_165, NB166_173, NB173_166⟩ := n_; (try clear hb hbox hg); obtain ⟨Ao16, co16, eo16⟩ := Kd.R_slice HO169.out; subst eo16; have hnb17 := NB173_165.out; have hnc17 := NB165_173.out; have hnb18 := NB173_166.out; have hnc18 := NB166_173.out; have hcz19_0 := cZ0 BK173; have hcz19_1 := cZ1 BK173; have hfz19_0 := blk_frozen BK173.out 0; have hfz19_1 := blk_frozen BK173.out 1; obtain ⟨Ao20, co20, eo20⟩ := Kd.R_slice HO172.out; subst eo20) | ((with_reducible refine gate_builtin (b := .append) (xs := #[.tmp 12, .tmp 16]) rfl ?_); at_builtin; refine Kd.R_append k65 (w0 := w) w.heap.size rfl (.tmp 12) (.tmp 16) 28 65 (.agg #[(.int .i64 0), (.string ⟨#[]⟩)]) 24 rfl Try.underlying28 info65 rfl (by decide) (by omega) (.slice Ao20 t170.length co20) t170 (⟨a1, a2⟩ : S65) [.int .i64 a1, .string a2] (fun _ => True) (fun _ => False) rfl (by first | (go_simp; done) | (go_simp; rfl)) ?aP (fun _ hk => hk.elim) ?aF ?aO ?aB ?aS ?aL ?_; (case aP => exact k65_mkM _ _ _ (⟨a1, a2⟩ : S65)); (case aB => exact bB); (case aF => exact (fun _ _ => trivial)); (case aO => exact (rP (Kd.R_mono (Kd.R_far (p := ⟨gb173, 1, none⟩) (Kd.R_far (p := ⟨gb173, 0, none⟩) (Kd.R_types HO172.out BK173.out (by decide)) (fun _ hk => hk.2) (.slice Ao16 t167.length co16)) (fun _ hk => hk.2) (.slice Ao20 t170.length co20)) (fun _ hk => trivial)))); (case aS => exact (zB HB)); (case aL => have := LMc5.out; omega); intro v175 w21 ho hb hg hat; rw [← Ny174.out] at ho; have n_ := aI (aM (blk_grown (g := gb165) (o := .cells #[.slice A0_0 l0_0.length c0_0, .slice A0_1 l0_1.length c0_1] 30 (0, 0)) (kP BK165) hg (Kd.R_ne HO172.out BK165.out (by decide)))) (aI (aM (blk_grown (g := gb166) (o := .cells #[.slice none 0 0, .slice none 0 0] 30 (0, 0)) (kP BK166) hg (Kd.R_ne HO172.out BK166.out (by decide)))) (aI (aM (Kd.R_over' (rP (Kd.R_mono (Kd.R_far (p := ⟨gb173, 1, none⟩) (Kd.R_far (p := ⟨gb173, 0, none⟩) (Kd.R_types HO169.out BK173.out (by decide)) (fun _ hk => hk.2) (.slice Ao16 t167.length co16)) (fun _ hk => hk.2) (.slice Ao20 t170.length co20)) (fun _ h_ => h_.1))) (Kd.R_typed (rP (Kd.R_mono (Kd.R_far (p := ⟨gb173, 1, none⟩) (Kd.R_far (p := ⟨gb173, 0, none⟩) (Kd.R_types HO172.out BK173.out (by decide)) (fun _ hk => hk.2) (.slice Ao16 t167.length co16)) (fun _ hk => hk.2) (.slice Ao20 t170.length co20)) (fun _ h_ => h_.1)))) (by decide) hg)) (aI (aM (blk_grown (g := gb173) (o := .cells #[.slice Ao16 t167.length co16, .slice Ao20 t170.length co20] 30 (0, 0)) (by (with_reducible repeat (first | refine blk_drewN ?_ _ | refine blk_drew ?_ | refine blk_alloc ?_ _)); refine blk_put (cs := #[.slice Ao16 t167.length co16, .slice none 0 0]) ?_ 1 _ rfl; (with_reducible repeat (first | refine blk_drewN ?_ _ | refine blk_drew ?_ | refine blk_alloc ?_ _)); refine blk_put (cs := #[.slice none 0 0, .slice none 0 0]) ?_ 0 _ rfl; (with_reducible repeat (first | refine blk_drewN ?_ _ | refine blk_drew ?_ | refine blk_alloc ?_ _)); exact BK173.out) hg (Kd.R_ne HO172.out BK173.out (by decide)))) (aI (aM (hb)) (aM (ho)))))); clear BK165 BK166 HO169 BK173 HB HO172; obtain ⟨BK165, BK166, HO169, BK173, HB, HO176⟩ := n_; (try clear ho hb hg hat); obtain ⟨Ao22, co22, eo22⟩ := Kd.R_slice HO176.out; subst eo22; have hcz23_0 := cZ0 BK173; have hcz23_1 := cZ1 BK173; have hfz23_0 := blk_frozen BK173.out 0; have hfz23_1 := blk_frozen BK173.out 1; have hcz24_0 := cZ0 BK165; have hcz24_1 := cZ1 BK165; have hfz24_0 := blk_frozen BK165.out 0; have hfz24_1 := blk_frozen BK165.out 1) | ((with_reducible refine gate_callee (f := 18) rfl ?_); refine gL (some 20) Try.func18 #[.agg #[.slice A0_0 l0_0.length c0_0, .slice A0_1 l0_1.length c0_1]] ?_; (with_reducible refine (impl_DiskOk.calls _ _ l0_0 _ _ l0_1 true _ ?side1 ?side2 ?side3 ?side4 A6.out).mono ?_); (case side1 => exact cS HR0_0 HB); (case side2 => exact HC0_0.out); (case side3 => exact cS HR0_1 HB); (case side4 => exact HC0_1.out); rintro e w25 ⟨rfl, hb⟩; refine ⟨_, rfl, ?_⟩; have n_ := aI (aM (Kd.R_below (rP (Kd.R_mono (Kd.R_far (p := ⟨gb173, 1, none⟩) (Kd.R_types HO169.out BK173.out (by decide)) (fun _ hk => hk.2) (.slice Ao22 y174.length co22)) (fun _ h_ => h_.1))) hb)) (aI (aM (Kd.R_below (rP (Kd.R_mono (Kd.R_far (p := ⟨gb173, 1, none⟩) (Kd.R_types HO176.out BK173.out (by decide)) (fun _ hk => hk.2) (.slice Ao22 y174.length co22)) (fun _ h_ => h_.1))) hb)) (aI (kB BK165 hb) (aI (kB BK166 hb) (aI (aM (blk_below (g := gb173) (o := .cells #[.slice Ao16 t167.length co16, .slice Ao22 y174.length co22] 30 (0, 0)) (by (with_reducible repeat (first | refine blk_drewN ?_ _ | refine blk_drew ?_ | refine blk_alloc ?_ _)); refine blk_put (cs := #[.slice Ao16 t167.length co16, .slice Ao20 t170.length co20]) ?_ 1 _ rfl; (with_reducible repeat (first | refine blk_drewN ?_ _ | refine blk_drew ?_ | refine blk_alloc ?_ _)); exact BK173.out) hb)) (sB HB hb))))); clear HO169 HO176 BK165 BK166 BK173 HB; obtain ⟨HO169, HO176, BK165, BK166, BK173, HB⟩ := n_; (try clear hb); have hcz26_0 := cZ0 BK173; have hcz26_1 := cZ1 BK173; have hfz26_0 := blk_frozen BK173.out 0; have hfz26_1 := blk_frozen BK173.out 1) | (go_at_call 18; (with_reducible refine (impl_DiskOk.calls _ _ t167 _ _ y174 true _ ?side1 ?side2 ?side3 ?side4 A8.out).mono ?_); (case side1 => exact cR HO169); (case side2 => exact (Kd.R_reads' HO169.out).2.1); (case side3 => exact cR HO176); (case side4 => exact (Kd.R_reads' HO176.out).2.1); rintro e w27 ⟨rfl, hb⟩; have n_ := aI (rB HO169 hb) (aI (rB HO176 hb) (aI (kB BK165 hb) (aI (kB BK166 hb) (aI (kB BK173 hb) (sB HB hb))))); clear HO169 HO176 BK165 BK166 BK173 HB; obtain ⟨HO169, HO176, BK165, BK166, BK173, HB⟩ := n_; (try clear hb); have hcz28_0 := cZ0 BK173; have hcz28_1 := cZ1 BK173; have hfz28_0 := blk_frozen BK173.out 0; have hfz28_1 := blk_frozen BK173.out 1; have hcz29_0 := cZ0 BK166; have hcz29_1 := cZ1 BK166; have hfz29_0 := blk_frozen BK166.out 0; have hfz29_1 := blk_frozen BK166.out 1))
    refine bodyPost_ret (results_ct rfl _ _ gb166 30 #[.slice Ao16 t167.length co16, .slice Ao22 y174.length co22] (0, 0) _ rfl (by (with_reducible repeat (first | refine blk_drewN ?_ _ | refine blk_drew ?_ | refine blk_alloc ?_ _)); refine blk_put (cs := #[.slice Ao16 t167.length co16, .slice none 0 0]) ?_ 1 _ rfl; (with_reducible repeat (first | refine blk_drewN ?_ _ | refine blk_drew ?_ | refine blk_alloc ?_ _)); refine blk_put (cs := #[.slice none 0 0, .slice none 0 0]) ?_ 0 _ rfl; (with_reducible repeat (first | refine blk_drewN ?_ _ | refine blk_drew ?_ | refine blk_alloc ?_ _)); exact BK166.out) Try.underlying30 rfl (by kernel_rfl)) rfl ?_
    exact ⟨_, _, eW, by (with_reducible repeat (first | apply Kd.R_alloc | apply Kd.R_drewN | apply Kd.R_drew)); exact Kd.R_mono (Kd.R_far (p := ⟨gb166, 1, none⟩) (Kd.R_far (p := ⟨gb166, 0, none⟩) (Kd.R_types HO169.out BK166.out (by decide)) (fun _ hk => hk.2) (.slice Ao16 t167.length co16)) (fun _ hk => hk.2) (.slice Ao22 y174.length co22)) (fun _ hk => trivial), by (with_reducible repeat (first | apply Kd.R_alloc | apply Kd.R_drewN | apply Kd.R_drew)); exact Kd.R_mono (Kd.R_far (p := ⟨gb166, 1, none⟩) (Kd.R_far (p := ⟨gb166, 0, none⟩) (Kd.R_types HO176.out BK166.out (by decide)) (fun _ hk => hk.2) (.slice Ao16 t167.length co16)) (fun _ hk => hk.2) (.slice Ao22 y174.length co22)) (fun _ hk => trivial), bB⟩
   replace c9 := Bool.eq_false_iff.mpr c9
   subst c9
   rw [if_neg (show ¬ (false = true) by decide)] at H
   replace H := Option.bind_eq_some_iff.mp H
   obtain ⟨⟨t179, t182⟩, A300, H⟩ := H
   try dsimp only at H
   have A30 := aM A300
   clear A300
   simp only [Option.some.injEq, Prod.mk.injEq] at H
   obtain ⟨rfl, rfl, rfl⟩ := H
   go_enter Try.func29, Try.ntmps29
   go_wp2_with (first | ((with_reducible refine gate_dst (N := 3) rfl ?_); refine bE 3 #[.slice A0_0 l0_0.length c0_0, .slice A0_1 l0_1.length c0_1] 30 ?_; intro gb165 hg w31 hbox hb; have n_ := aI (sB HB hb) (aI (aM hbox) (aI (gE HB hg) (gE HB hg))); clear HB; obtain ⟨HB, BK165, GW165, GE165⟩ := n_; (try clear hb hbox hg)) | ((with_reducible refine gate_dst (N := 6) rfl ?_); refine bE 6 #[.slice none 0 0, .slice none 0 0] 30 ?_; intro gb166 hg w32 hbox hb; have n_ := aI (kB BK165 hb) (aI (sB HB hb) (aI (aM hbox) (aI (gE HB hg) (aI (gE HB hg) (aI (nL BK165 hg) (nG BK165 hg)))))); clear BK165 HB; obtain ⟨BK165, HB, BK166, GW166, GE166, NB165_166, NB166_165⟩ := n_; (try clear hb hbox hg); have hnb33 := NB165_166.out; have hnc33 := NB166_165.out; have hcz34_0 := cZ0 BK165; have hcz34_1 := cZ1 BK165; have hfz34_0 := blk_frozen BK165.out 0; have hfz34_1 := blk_frozen BK165.out 1) | ((with_reducible refine gate_callee (f := 76) rfl ?_); refine gL (some 10) Try.func76 #[.agg #[.slice A0_0 l0_0.length c0_0, .slice A0_1 l0_1.length c0_1]] ?_; (with_reducible refine (impl_cloneDisk.calls _ _ l0_0 _ _ l0_1 t167 t170 _ ?side1 ?side2 ?side3 ?side4 A4.out).mono ?_); (case side1 => exact cS HR0_0 HB); (case side2 => exact HC0_0.out); (case side3 => exact cS HR0_1 HB); (case side4 => exact HC0_1.out); rintro e w35 ⟨v168, v171, rfl, ho0, ho1, hb⟩; refine ⟨_, rfl, ?_⟩; have n_ := aI (lR HB ho0) (aI (lR HB ho1) (aI (kB BK165 hb) (aI (kB BK166 hb) (sB HB hb)))); clear BK165 BK166 HB; obtain ⟨HO169, HO172, BK165, BK166, HB⟩ := n_; (try clear hb ho0 ho1)) | ((with_reducible refine gate_dst (N := 8) rfl ?_); refine bE 8 #[.slice none 0 0, .slice none 0 0] 30 ?_; intro gb173 hg w36 hbox hb; have n_ := aI (rB HO169 hb) (aI (rB HO172 hb) (aI (kB BK165 hb) (aI (kB BK166 hb) (aI (sB HB hb) (aI (aM hbox) (aI (gE HB hg) (aI (gE HB hg) (aI (nL BK165 hg) (aI (nG BK165 hg) (aI (nL BK166 hg) (nG BK166 hg))))))))))); clear HO169 HO172 BK165 BK166 HB; obtain ⟨HO169, HO172, BK165, BK166, HB, BK173, GW173, GE173, NB165_173, NB173_165, NB166_173, NB173_166⟩ := n_; (try clear hb hbox hg); obtain ⟨Ao37, co37, eo37⟩ := Kd.R_slice HO169.out; subst eo37; have hnb38 := NB173_165.out; have hnc38 := NB165_173.out; have hnb39 := NB173_166.out; have hnc39 := NB166_173.out; have hcz40_0 := cZ0 BK173; have hcz40_1 := cZ1 BK173; have hfz40_0 := blk_frozen BK173.out 0; have hfz40_1 := blk_frozen BK173.out 1; obtain ⟨Ao41, co41, eo41⟩ := Kd.R_slice HO172.out; subst eo41) | ((with_reducible refine gate_builtin (b := .append) (xs := #[.tmp 12, .tmp 16]) rfl ?_); at_builtin; refine Kd.R_append k65 (w0 := w) w.heap.size rfl (.tmp 12) (.tmp 16) 28 65 (.agg #[(.int .i64 0), (.string ⟨#[]⟩)]) 24 rfl Try.underlying28 info65 rfl (by decide) (by omega) (.slice Ao41 t170.length co41) t170 (⟨a1, a2⟩ : S65) [.int .i64 a1, .string a2] (fun _ => True) (fun _ => False) rfl (by first | (go_simp; done) | (go_simp; rfl)) ?aP (fun _ hk => hk.elim) ?aF ?aO ?aB ?aS ?aL ?_; (case aP => exact k65_mkM _ _ _ (⟨a1, a2⟩ : S65)); (case aB => exact bB); (case aF => exact (fun _ _ => trivial)); (case aO => exact (rP (Kd.R_mono (Kd.R_far (p := ⟨gb173, 1, none⟩) (Kd.R_far (p := ⟨gb173, 0, none⟩) (Kd.R_types HO172.out BK173.out (by decide)) (fun _ hk => hk.2) (.slice Ao37 t167.length co37)) (fun _ hk => hk.2) (.slice Ao41 t170.length co41)) (fun _ hk => trivial)))); (case aS => exact (zB HB)); (case aL => have := LMc5.out; omega); intro v175 w42 ho hb hg hat; rw [← Ny174.out] at ho; have n_ := aI (aM (blk_grown (g := gb165) (o := .cells #[.slice A0_0 l0_0.length c0_0, .slice A0_1 l0_1.length c0_1] 30 (0, 0)) (kP BK165) hg (Kd.R_ne HO172.out BK165.out (by decide)))) (aI (aM (blk_grown (g := gb166) (o := .cells #[.slice none 0 0, .slice none 0 0] 30 (0, 0)) (kP BK166) hg (Kd.R_ne HO172.out BK166.out (by decide)))) (aI (aM (Kd.R_over' (rP (Kd.R_mono (Kd.R_far (p := ⟨gb173, 1, none⟩) (Kd.R_far (p := ⟨gb173, 0, none⟩) (Kd.R_types HO169.out BK173.out (by decide)) (fun _ hk => hk.2) (.slice Ao37 t167.length co37)) (fun _ hk => hk.2) (.slice Ao41 t170.length co41)) (fun _ h_ => h_.1))) (Kd.R_typed (rP (Kd.R_mono (Kd.R_far (p := ⟨gb173, 1, none⟩) (Kd.R_far (p := ⟨gb173, 0, none⟩) (Kd.R_types HO172.out BK173.out (by decide)) (fun _ hk => hk.2) (.slice Ao37 t167.length co37)) (fun _ hk => hk.2) (.slice Ao41 t170.length co41)) (fun _ h_ => h_.1)))) (by decide) hg)) (aI (aM (blk_grown (g := gb173) (o := .cells #[.slice Ao37 t167.length co37, .slice Ao41 t170.length co41] 30 (0, 0)) (by (with_reducible repeat (first | refine blk_drewN ?_ _ | refine blk_drew ?_ | refine blk_alloc ?_ _)); refine blk_put (cs := #[.slice Ao37 t167.length co37, .slice none 0 0]) ?_ 1 _ rfl; (with_reducible repeat (first | refine blk_drewN ?_ _ | refine blk_drew ?_ | refine blk_alloc ?_ _)); refine blk_put (cs := #[.slice none 0 0, .slice none 0 0]) ?_ 0 _ rfl; (with_reducible repeat (first | refine blk_drewN ?_ _ | refine blk_drew ?_ | refine blk_alloc ?_ _)); exact BK173.out) hg (Kd.R_ne HO172.out BK173.out (by decide)))) (aI (aM (hb)) (aM (ho)))))); clear BK165 BK166 HO169 BK173 HB HO172; obtain ⟨BK165, BK166, HO169, BK173, HB, HO176⟩ := n_; (try clear ho hb hg hat); obtain ⟨Ao43, co43, eo43⟩ := Kd.R_slice HO176.out; subst eo43; have hcz44_0 := cZ0 BK173; have hcz44_1 := cZ1 BK173; have hfz44_0 := blk_frozen BK173.out 0; have hfz44_1 := blk_frozen BK173.out 1; have hcz45_0 := cZ0 BK165; have hcz45_1 := cZ1 BK165; have hfz45_0 := blk_frozen BK165.out 0; have hfz45_1 := blk_frozen BK165.out 1) | ((with_reducible refine gate_callee (f := 18) rfl ?_); refine gL (some 20) Try.func18 #[.agg #[.slice A0_0 l0_0.length c0_0, .slice A0_1 l0_1.length c0_1]] ?_; (with_reducible refine (impl_DiskOk.calls _ _ l0_0 _ _ l0_1 true _ ?side1 ?side2 ?side3 ?side4 A6.out).mono ?_); (case side1 => exact cS HR0_0 HB); (case side2 => exact HC0_0.out); (case side3 => exact cS HR0_1 HB); (case side4 => exact HC0_1.out); rintro e w46 ⟨rfl, hb⟩; refine ⟨_, rfl, ?_⟩; have n_ := aI (aM (Kd.R_below (rP (Kd.R_mono (Kd.R_far (p := ⟨gb173, 1, none⟩) (Kd.R_types HO169.out BK173.out (by decide)) (fun _ hk => hk.2) (.slice Ao43 y174.length co43)) (fun _ h_ => h_.1))) hb)) (aI (aM (Kd.R_below (rP (Kd.R_mono (Kd.R_far (p := ⟨gb173, 1, none⟩) (Kd.R_types HO176.out BK173.out (by decide)) (fun _ hk => hk.2) (.slice Ao43 y174.length co43)) (fun _ h_ => h_.1))) hb)) (aI (kB BK165 hb) (aI (kB BK166 hb) (aI (aM (blk_below (g := gb173) (o := .cells #[.slice Ao37 t167.length co37, .slice Ao43 y174.length co43] 30 (0, 0)) (by (with_reducible repeat (first | refine blk_drewN ?_ _ | refine blk_drew ?_ | refine blk_alloc ?_ _)); refine blk_put (cs := #[.slice Ao37 t167.length co37, .slice Ao41 t170.length co41]) ?_ 1 _ rfl; (with_reducible repeat (first | refine blk_drewN ?_ _ | refine blk_drew ?_ | refine blk_alloc ?_ _)); exact BK173.out) hb)) (sB HB hb))))); clear HO169 HO176 BK165 BK166 BK173 HB; obtain ⟨HO169, HO176, BK165, BK166, BK173, HB⟩ := n_; (try clear hb); have hcz47_0 := cZ0 BK173; have hcz47_1 := cZ1 BK173; have hfz47_0 := blk_frozen BK173.out 0; have hfz47_1 := blk_frozen BK173.out 1) | (go_at_call 18; (with_reducible refine (impl_DiskOk.calls _ _ t167 _ _ y174 false _ ?side1 ?side2 ?side3 ?side4 A8.out).mono ?_); (case side1 => exact cR HO169); (case side2 => exact (Kd.R_reads' HO169.out).2.1); (case side3 => exact cR HO176); (case side4 => exact (Kd.R_reads' HO176.out).2.1); rintro e w48 ⟨rfl, hb⟩; have n_ := aI (rB HO169 hb) (aI (rB HO176 hb) (aI (kB BK165 hb) (aI (kB BK166 hb) (aI (kB BK173 hb) (sB HB hb))))); clear HO169 HO176 BK165 BK166 BK173 HB; obtain ⟨HO169, HO176, BK165, BK166, BK173, HB⟩ := n_; (try clear hb); have hcz49_0 := cZ0 BK165; have hcz49_1 := cZ1 BK165; have hfz49_0 := blk_frozen BK165.out 0; have hfz49_1 := blk_frozen BK165.out 1) | ((with_reducible refine gate_callee (f := 76) rfl ?_); refine gL (some 28) Try.func76 #[.agg #[.slice A0_0 l0_0.length c0_0, .slice A0_1 l0_1.length c0_1]] ?_; (with_reducible refine (impl_cloneDisk.calls _ _ l0_0 _ _ l0_1 t179 t182 _ ?side1 ?side2 ?side3 ?side4 A30.out).mono ?_); (case side1 => exact cS HR0_0 HB); (case side2 => exact HC0_0.out); (case side3 => exact cS HR0_1 HB); (case side4 => exact HC0_1.out); rintro e w50 ⟨v180, v183, rfl, ho0, ho1, hb⟩; refine ⟨_, rfl, ?_⟩; have n_ := aI (eR HO169 ho0 hb) (aI (eR HO176 ho1 hb) (aI (aM (Kd.R_lower (Kd.R_new' ho0 (rL HO169)) (zB HB))) (aI (aM (Kd.R_lower (Kd.R_new' ho1 (rL HO176)) (zB HB))) (aI (kB BK165 hb) (aI (kB BK166 hb) (aI (kB BK173 hb) (sB HB hb))))))); clear HO169 HO176 BK165 BK166 BK173 HB; obtain ⟨HO169, HO176, HO181, HO184, BK165, BK166, BK173, HB⟩ := n_; (try clear hb ho0 ho1); obtain ⟨Ao51, co51, eo51⟩ := Kd.R_slice HO181.out; subst eo51; have hcz52_0 := cZ0 BK166; have hcz52_1 := cZ1 BK166; have hfz52_0 := blk_frozen BK166.out 0; have hfz52_1 := blk_frozen BK166.out 1; obtain ⟨Ao53, co53, eo53⟩ := Kd.R_slice HO184.out; subst eo53))
   refine bodyPost_ret (results_ct rfl _ _ gb166 30 #[.slice Ao51 t179.length co51, .slice Ao53 t182.length co53] (0, 0) _ rfl (by (with_reducible repeat (first | refine blk_drewN ?_ _ | refine blk_drew ?_ | refine blk_alloc ?_ _)); refine blk_put (cs := #[.slice Ao51 t179.length co51, .slice none 0 0]) ?_ 1 _ rfl; (with_reducible repeat (first | refine blk_drewN ?_ _ | refine blk_drew ?_ | refine blk_alloc ?_ _)); refine blk_put (cs := #[.slice none 0 0, .slice none 0 0]) ?_ 0 _ rfl; (with_reducible repeat (first | refine blk_drewN ?_ _ | refine blk_drew ?_ | refine blk_alloc ?_ _)); exact BK166.out) Try.underlying30 rfl (by kernel_rfl)) rfl ?_
   exact ⟨_, _, eW, by (with_reducible repeat (first | apply Kd.R_alloc | apply Kd.R_drewN | apply Kd.R_drew)); exact Kd.R_mono (Kd.R_far (p := ⟨gb166, 1, none⟩) (Kd.R_far (p := ⟨gb166, 0, none⟩) (Kd.R_types HO181.out BK166.out (by decide)) (fun _ hk => hk.2) (.slice Ao51 t179.length co51)) (fun _ hk => hk.2) (.slice Ao53 t182.length co53)) (fun _ hk => trivial), by (with_reducible repeat (first | apply Kd.R_alloc | apply Kd.R_drewN | apply Kd.R_drew)); exact Kd.R_mono (Kd.R_far (p := ⟨gb166, 1, none⟩) (Kd.R_far (p := ⟨gb166, 0, none⟩) (Kd.R_types HO184.out BK166.out (by decide)) (fun _ hk => hk.2) (.slice Ao51 t179.length co51)) (fun _ hk => hk.2) (.slice Ao53 t182.length co53)) (fun _ hk => trivial), bB⟩
  replace c7 := Bool.eq_false_iff.mpr c7
  subst c7
  rw [if_neg (show ¬ (false = true) by decide)] at H
  replace H := Option.bind_eq_some_iff.mp H
  obtain ⟨⟨t185, t188⟩, A540, H⟩ := H
  try dsimp only at H
  have A54 := aM A540
  clear A540
  simp only [Option.some.injEq, Prod.mk.injEq] at H
  obtain ⟨rfl, rfl, rfl⟩ := H
  go_enter Try.func29, Try.ntmps29
  go_wp2_with (first | ((with_reducible refine gate_dst (N := 3) rfl ?_); refine bE 3 #[.slice A0_0 l0_0.length c0_0, .slice A0_1 l0_1.length c0_1] 30 ?_; intro gb165 hg w55 hbox hb; have n_ := aI (sB HB hb) (aI (aM hbox) (aI (gE HB hg) (gE HB hg))); clear HB; obtain ⟨HB, BK165, GW165, GE165⟩ := n_; (try clear hb hbox hg)) | ((with_reducible refine gate_dst (N := 6) rfl ?_); refine bE 6 #[.slice none 0 0, .slice none 0 0] 30 ?_; intro gb166 hg w56 hbox hb; have n_ := aI (kB BK165 hb) (aI (sB HB hb) (aI (aM hbox) (aI (gE HB hg) (aI (gE HB hg) (aI (nL BK165 hg) (nG BK165 hg)))))); clear BK165 HB; obtain ⟨BK165, HB, BK166, GW166, GE166, NB165_166, NB166_165⟩ := n_; (try clear hb hbox hg); have hnb57 := NB165_166.out; have hnc57 := NB166_165.out; have hcz58_0 := cZ0 BK165; have hcz58_1 := cZ1 BK165; have hfz58_0 := blk_frozen BK165.out 0; have hfz58_1 := blk_frozen BK165.out 1) | ((with_reducible refine gate_callee (f := 76) rfl ?_); refine gL (some 10) Try.func76 #[.agg #[.slice A0_0 l0_0.length c0_0, .slice A0_1 l0_1.length c0_1]] ?_; (with_reducible refine (impl_cloneDisk.calls _ _ l0_0 _ _ l0_1 t167 t170 _ ?side1 ?side2 ?side3 ?side4 A4.out).mono ?_); (case side1 => exact cS HR0_0 HB); (case side2 => exact HC0_0.out); (case side3 => exact cS HR0_1 HB); (case side4 => exact HC0_1.out); rintro e w59 ⟨v168, v171, rfl, ho0, ho1, hb⟩; refine ⟨_, rfl, ?_⟩; have n_ := aI (lR HB ho0) (aI (lR HB ho1) (aI (kB BK165 hb) (aI (kB BK166 hb) (sB HB hb)))); clear BK165 BK166 HB; obtain ⟨HO169, HO172, BK165, BK166, HB⟩ := n_; (try clear hb ho0 ho1)) | ((with_reducible refine gate_dst (N := 8) rfl ?_); refine bE 8 #[.slice none 0 0, .slice none 0 0] 30 ?_; intro gb173 hg w60 hbox hb; have n_ := aI (rB HO169 hb) (aI (rB HO172 hb) (aI (kB BK165 hb) (aI (kB BK166 hb) (aI (sB HB hb) (aI (aM hbox) (aI (gE HB hg) (aI (gE HB hg) (aI (nL BK165 hg) (aI (nG BK165 hg) (aI (nL BK166 hg) (nG BK166 hg))))))))))); clear HO169 HO172 BK165 BK166 HB; obtain ⟨HO169, HO172, BK165, BK166, HB, BK173, GW173, GE173, NB165_173, NB173_165, NB166_173, NB173_166⟩ := n_; (try clear hb hbox hg); obtain ⟨Ao61, co61, eo61⟩ := Kd.R_slice HO169.out; subst eo61; have hnb62 := NB173_165.out; have hnc62 := NB165_173.out; have hnb63 := NB173_166.out; have hnc63 := NB166_173.out; have hcz64_0 := cZ0 BK173; have hcz64_1 := cZ1 BK173; have hfz64_0 := blk_frozen BK173.out 0; have hfz64_1 := blk_frozen BK173.out 1; obtain ⟨Ao65, co65, eo65⟩ := Kd.R_slice HO172.out; subst eo65) | ((with_reducible refine gate_builtin (b := .append) (xs := #[.tmp 12, .tmp 16]) rfl ?_); at_builtin; refine Kd.R_append k65 (w0 := w) w.heap.size rfl (.tmp 12) (.tmp 16) 28 65 (.agg #[(.int .i64 0), (.string ⟨#[]⟩)]) 24 rfl Try.underlying28 info65 rfl (by decide) (by omega) (.slice Ao65 t170.length co65) t170 (⟨a1, a2⟩ : S65) [.int .i64 a1, .string a2] (fun _ => True) (fun _ => False) rfl (by first | (go_simp; done) | (go_simp; rfl)) ?aP (fun _ hk => hk.elim) ?aF ?aO ?aB ?aS ?aL ?_; (case aP => exact k65_mkM _ _ _ (⟨a1, a2⟩ : S65)); (case aB => exact bB); (case aF => exact (fun _ _ => trivial)); (case aO => exact (rP (Kd.R_mono (Kd.R_far (p := ⟨gb173, 1, none⟩) (Kd.R_far (p := ⟨gb173, 0, none⟩) (Kd.R_types HO172.out BK173.out (by decide)) (fun _ hk => hk.2) (.slice Ao61 t167.length co61)) (fun _ hk => hk.2) (.slice Ao65 t170.length co65)) (fun _ hk => trivial)))); (case aS => exact (zB HB)); (case aL => have := LMc5.out; omega); intro v175 w66 ho hb hg hat; rw [← Ny174.out] at ho; have n_ := aI (aM (blk_grown (g := gb165) (o := .cells #[.slice A0_0 l0_0.length c0_0, .slice A0_1 l0_1.length c0_1] 30 (0, 0)) (kP BK165) hg (Kd.R_ne HO172.out BK165.out (by decide)))) (aI (aM (blk_grown (g := gb166) (o := .cells #[.slice none 0 0, .slice none 0 0] 30 (0, 0)) (kP BK166) hg (Kd.R_ne HO172.out BK166.out (by decide)))) (aI (aM (Kd.R_over' (rP (Kd.R_mono (Kd.R_far (p := ⟨gb173, 1, none⟩) (Kd.R_far (p := ⟨gb173, 0, none⟩) (Kd.R_types HO169.out BK173.out (by decide)) (fun _ hk => hk.2) (.slice Ao61 t167.length co61)) (fun _ hk => hk.2) (.slice Ao65 t170.length co65)) (fun _ h_ => h_.1))) (Kd.R_typed (rP (Kd.R_mono (Kd.R_far (p := ⟨gb173, 1, none⟩) (Kd.R_far (p := ⟨gb173, 0, none⟩) (Kd.R_types HO172.out BK173.out (by decide)) (fun _ hk => hk.2) (.slice Ao61 t167.length co61)) (fun _ hk => hk.2) (.slice Ao65 t170.length co65)) (fun _ h_ => h_.1)))) (by decide) hg)) (aI (aM (blk_grown (g := gb173) (o := .cells #[.slice Ao61 t167.length co61, .slice Ao65 t170.length co65] 30 (0, 0)) (by (with_reducible repeat (first | refine blk_drewN ?_ _ | refine blk_drew ?_ | refine blk_alloc ?_ _)); refine blk_put (cs := #[.slice Ao61 t167.length co61, .slice none 0 0]) ?_ 1 _ rfl; (with_reducible repeat (first | refine blk_drewN ?_ _ | refine blk_drew ?_ | refine blk_alloc ?_ _)); refine blk_put (cs := #[.slice none 0 0, .slice none 0 0]) ?_ 0 _ rfl; (with_reducible repeat (first | refine blk_drewN ?_ _ | refine blk_drew ?_ | refine blk_alloc ?_ _)); exact BK173.out) hg (Kd.R_ne HO172.out BK173.out (by decide)))) (aI (aM (hb)) (aM (ho)))))); clear BK165 BK166 HO169 BK173 HB HO172; obtain ⟨BK165, BK166, HO169, BK173, HB, HO176⟩ := n_; (try clear ho hb hg hat); obtain ⟨Ao67, co67, eo67⟩ := Kd.R_slice HO176.out; subst eo67; have hcz68_0 := cZ0 BK173; have hcz68_1 := cZ1 BK173; have hfz68_0 := blk_frozen BK173.out 0; have hfz68_1 := blk_frozen BK173.out 1; have hcz69_0 := cZ0 BK165; have hcz69_1 := cZ1 BK165; have hfz69_0 := blk_frozen BK165.out 0; have hfz69_1 := blk_frozen BK165.out 1) | ((with_reducible refine gate_callee (f := 18) rfl ?_); refine gL (some 20) Try.func18 #[.agg #[.slice A0_0 l0_0.length c0_0, .slice A0_1 l0_1.length c0_1]] ?_; (with_reducible refine (impl_DiskOk.calls _ _ l0_0 _ _ l0_1 false _ ?side1 ?side2 ?side3 ?side4 A6.out).mono ?_); (case side1 => exact cS HR0_0 HB); (case side2 => exact HC0_0.out); (case side3 => exact cS HR0_1 HB); (case side4 => exact HC0_1.out); rintro e w70 ⟨rfl, hb⟩; refine ⟨_, rfl, ?_⟩; have n_ := aI (aM (Kd.R_below (rP (Kd.R_mono (Kd.R_far (p := ⟨gb173, 1, none⟩) (Kd.R_types HO169.out BK173.out (by decide)) (fun _ hk => hk.2) (.slice Ao67 y174.length co67)) (fun _ h_ => h_.1))) hb)) (aI (aM (Kd.R_below (rP (Kd.R_mono (Kd.R_far (p := ⟨gb173, 1, none⟩) (Kd.R_types HO176.out BK173.out (by decide)) (fun _ hk => hk.2) (.slice Ao67 y174.length co67)) (fun _ h_ => h_.1))) hb)) (aI (kB BK165 hb) (aI (kB BK166 hb) (aI (aM (blk_below (g := gb173) (o := .cells #[.slice Ao61 t167.length co61, .slice Ao67 y174.length co67] 30 (0, 0)) (by (with_reducible repeat (first | refine blk_drewN ?_ _ | refine blk_drew ?_ | refine blk_alloc ?_ _)); refine blk_put (cs := #[.slice Ao61 t167.length co61, .slice Ao65 t170.length co65]) ?_ 1 _ rfl; (with_reducible repeat (first | refine blk_drewN ?_ _ | refine blk_drew ?_ | refine blk_alloc ?_ _)); exact BK173.out) hb)) (sB HB hb))))); clear HO169 HO176 BK165 BK166 BK173 HB; obtain ⟨HO169, HO176, BK165, BK166, BK173, HB⟩ := n_; (try clear hb); have hcz71_0 := cZ0 BK165; have hcz71_1 := cZ1 BK165; have hfz71_0 := blk_frozen BK165.out 0; have hfz71_1 := blk_frozen BK165.out 1) | ((with_reducible refine gate_callee (f := 76) rfl ?_); refine gL (some 28) Try.func76 #[.agg #[.slice A0_0 l0_0.length c0_0, .slice A0_1 l0_1.length c0_1]] ?_; (with_reducible refine (impl_cloneDisk.calls _ _ l0_0 _ _ l0_1 t185 t188 _ ?side1 ?side2 ?side3 ?side4 A54.out).mono ?_); (case side1 => exact cS HR0_0 HB); (case side2 => exact HC0_0.out); (case side3 => exact cS HR0_1 HB); (case side4 => exact HC0_1.out); rintro e w72 ⟨v186, v189, rfl, ho0, ho1, hb⟩; refine ⟨_, rfl, ?_⟩; have n_ := aI (eR HO169 ho0 hb) (aI (eR HO176 ho1 hb) (aI (aM (Kd.R_lower (Kd.R_new' ho0 (rL HO169)) (zB HB))) (aI (aM (Kd.R_lower (Kd.R_new' ho1 (rL HO176)) (zB HB))) (aI (kB BK165 hb) (aI (kB BK166 hb) (aI (kB BK173 hb) (sB HB hb))))))); clear HO169 HO176 BK165 BK166 BK173 HB; obtain ⟨HO169, HO176, HO187, HO190, BK165, BK166, BK173, HB⟩ := n_; (try clear hb ho0 ho1); obtain ⟨Ao73, co73, eo73⟩ := Kd.R_slice HO187.out; subst eo73; have hcz74_0 := cZ0 BK166; have hcz74_1 := cZ1 BK166; have hfz74_0 := blk_frozen BK166.out 0; have hfz74_1 := blk_frozen BK166.out 1; obtain ⟨Ao75, co75, eo75⟩ := Kd.R_slice HO190.out; subst eo75))
  refine bodyPost_ret (results_ct rfl _ _ gb166 30 #[.slice Ao73 t185.length co73, .slice Ao75 t188.length co75] (0, 0) _ rfl (by (with_reducible repeat (first | refine blk_drewN ?_ _ | refine blk_drew ?_ | refine blk_alloc ?_ _)); refine blk_put (cs := #[.slice Ao73 t185.length co73, .slice none 0 0]) ?_ 1 _ rfl; (with_reducible repeat (first | refine blk_drewN ?_ _ | refine blk_drew ?_ | refine blk_alloc ?_ _)); refine blk_put (cs := #[.slice none 0 0, .slice none 0 0]) ?_ 0 _ rfl; (with_reducible repeat (first | refine blk_drewN ?_ _ | refine blk_drew ?_ | refine blk_alloc ?_ _)); exact BK166.out) Try.underlying30 rfl (by kernel_rfl)) rfl ?_
  exact ⟨_, _, eW, by (with_reducible repeat (first | apply Kd.R_alloc | apply Kd.R_drewN | apply Kd.R_drew)); exact Kd.R_mono (Kd.R_far (p := ⟨gb166, 1, none⟩) (Kd.R_far (p := ⟨gb166, 0, none⟩) (Kd.R_types HO187.out BK166.out (by decide)) (fun _ hk => hk.2) (.slice Ao73 t185.length co73)) (fun _ hk => hk.2) (.slice Ao75 t188.length co75)) (fun _ hk => trivial), by (with_reducible repeat (first | apply Kd.R_alloc | apply Kd.R_drewN | apply Kd.R_drew)); exact Kd.R_mono (Kd.R_far (p := ⟨gb166, 1, none⟩) (Kd.R_far (p := ⟨gb166, 0, none⟩) (Kd.R_types HO190.out BK166.out (by decide)) (fun _ hk => hk.2) (.slice Ao73 t185.length co73)) (fun _ hk => hk.2) (.slice Ao75 t188.length co75)) (fun _ hk => trivial), bB⟩
 rw [if_neg c5] at H
 exact absurd H (by simp)

/-! ### impl_Flush_1: function 79 -/
def impl_Flush_1.f (a0 : Int) : Option (Bool) := some true
set_option maxHeartbeats 8000000 in
set_option maxRecDepth 100000 in
theorem impl_Flush_1.calls (a0 : Int) (r : Bool) (w : World) (h : impl_Flush_1.f a0 = some r) :
  Calls Try.prog 79 #[.int .i64 a0] w fun e w' => e = .returned (.bool r) ∧ Drawn0 w w' := by
 unfold impl_Flush_1.f at h
 have H := h
 clear h
 obtain rfl := Option.some.inj H
 go_enter Try.func79, Try.ntmps79
 go_wp2
 go_ret
 exact ⟨by first | rfl | (simp; done) | (simp [*]; done), by repeat (first | exact Drawn0.refl _ | apply Drawn0.step)⟩

/-! ### impl_settle_Flush_1: function 78 -/
def impl_settle_Flush_1.l0 : Nat → List (S65) → Int → Int → List ByteArray → List (S65) → Option (List ByteArray × (List (S65)))
 | 0, _, _, _, _, _ => none
 | k + 1, x15, x16, x17, x200000, x200001 => if x17 < x16 then (if 0 ≤ x17 then (if x17 < (x15.length : Int) then ((impl_Flush_1.f x17).bind fun t203 => (if t203 = true then (if 0 ≤ ((rd_T65 x15 x17).f0) then (if ((rd_T65 x15 x17).f0) < (x200000.length : Int) then (impl_settle_Flush_1.l0 k x15 x16 (wrap64 (x17 + 1)) (x200000.set (((rd_T65 x15 x17).f0) : Int).toNat ((rd_T65 x15 x17).f1)) x200001) else (none)) else (none)) else (impl_settle_Flush_1.l0 k x15 x16 (wrap64 (x17 + 1)) x200000 x200001))) else (none)) else (none)) else (some (x200000, ([] : List (S65))))
def impl_settle_Flush_1.f (k : Nat) (l0_0 : List ByteArray) (l0_1 : List (S65))  : Option (List ByteArray × (List (S65))) := (impl_cloneDisk.f l0_0 l0_1).bind fun bt193 => ((impl_DiskOk.f l0_0 l0_1).bind fun t200 => (if t200 = true then (impl_settle_Flush_1.l0 k l0_1 (l0_1.length : Int) 0 bt193.1 bt193.2) else (some (bt193.1, bt193.2))))
theorem impl_settle_Flush_1.mono_l : ∀ k, (∀ y0 y1 y2 y3 y4, LeO (impl_settle_Flush_1.l0 k y0 y1 y2 y3 y4) (impl_settle_Flush_1.l0 (k + 1) y0 y1 y2 y3 y4))
 | 0 => fun _ _ _ _ _ r h => by simp [impl_settle_Flush_1.l0] at h
 | k + 1 => by
  have ih0 := impl_settle_Flush_1.mono_l k
  ·intro y0 y1 y2 y3 y4
   unfold impl_settle_Flush_1.l0
   exact mM
theorem impl_settle_Flush_1.mono : ∀ a0 a1 k, LeO (impl_settle_Flush_1.f k a0 a1) (impl_settle_Flush_1.f (k + 1) a0 a1) := by
 intro a0 a1 k
 have ih0 := impl_settle_Flush_1.mono_l k
 unfold impl_settle_Flush_1.f
 exact mM
set_option maxHeartbeats 8000000 in
set_option maxRecDepth 100000 in
theorem impl_settle_Flush_1.calls (k : Nat) (A0_0 : Option Addr) (c0_0 : Nat) (l0_0 : List ByteArray) (A0_1 : Option Addr) (c0_1 : Nat) (l0_1 : List (S65))  (r1 : List ByteArray) (r2 : List (S65)) (w : World) (hr0_0 : Kd.C Kd.string w A0_0 l0_0.length l0_0) (hc0_0 : l0_0.length ≤ c0_0) (hr0_1 : Kd.C k65 w A0_1 l0_1.length l0_1) (hc0_1 : l0_1.length ≤ c0_1) (h : impl_settle_Flush_1.f k l0_0 l0_1 = some (r1, r2)) :
  Calls Try.prog 78 #[.agg #[.slice A0_0 l0_0.length c0_0, .slice A0_1 l0_1.length c0_1], .func (.func 79) #[] #[]] w fun e w' => ∃ v0_ v1_ : Value, e = .returned (.agg #[v0_, v1_]) ∧ Kd.R Kd.string 9 w' w.heap.size (fun _ => True) v0_ r1 ∧ Kd.R k65 65 w' w.heap.size (fun _ => True) v1_ r2 ∧ Below w.heap.size w w' := by
 have hu30 := Try.underlying30
 have hu65 := Try.underlying65
 have HR0_0 := aM hr0_0
 have HC0_0 := aM hc0_0
 clear hr0_0 hc0_0
 have HR0_1 := aM hr0_1
 have HC0_1 := aM hc0_1
 clear hr0_1 hc0_1
 have HB := aM (Below.refl w.heap.size w)
 unfold impl_settle_Flush_1.f at h
 have H := h
 clear h
 replace H := Option.bind_eq_some_iff.mp H
 obtain ⟨⟨t193, t196⟩, A30, H⟩ := H
 try dsimp only at H
 have A3 := aM A30
 clear A30
 replace H := Option.bind_eq_some_iff.mp H
 obtain ⟨t200, A40, H⟩ := H
 try dsimp only at H
 have A4 := aM A40
 clear A40
 by_cases c5 : t200 = true
 ·subst c5
  rw [if_pos rfl] at H
  have H' := aM H
  clear H
  go_enter Try.func78, Try.ntmps78
  go_wp2_with (first | ((with_reducible refine gate_dst (N := 2) rfl ?_); refine bE 2 #[.slice A0_0 l0_0.length c0_0, .slice A0_1 l0_1.length c0_1] 30 ?_; intro gb191 hg w6 hbox hb; have n_ := aI (sB HB hb) (aI (aM hbox) (aI (gE HB hg) (gE HB hg))); clear HB; obtain ⟨HB, BK191, GW191, GE191⟩ := n_; (try clear hb hbox hg)) | ((with_reducible refine gate_dst (N := 4) rfl ?_); refine bE 4 #[.slice none 0 0, .slice none 0 0] 30 ?_; intro gb192 hg w7 hbox hb; have n_ := aI (kB BK191 hb) (aI (sB HB hb) (aI (aM hbox) (aI (gE HB hg) (aI (gE HB hg) (aI (nL BK191 hg) (nG BK191 hg)))))); clear BK191 HB; obtain ⟨BK191, HB, BK192, GW192, GE192, NB191_192, NB192_191⟩ := n_; (try clear hb hbox hg); have hnb8 := NB191_192.out; have hnc8 := NB192_191.out; have hcz9_0 := cZ0 BK191; have hcz9_1 := cZ1 BK191; have hfz9_0 := blk_frozen BK191.out 0; have hfz9_1 := blk_frozen BK191.out 1) | ((with_reducible refine gate_callee (f := 76) rfl ?_); refine gL (some 9) Try.func76 #[.agg #[.slice A0_0 l0_0.length c0_0, .slice A0_1 l0_1.length c0_1]] ?_; (with_reducible refine (impl_cloneDisk.calls _ _ l0_0 _ _ l0_1 t193 t196 _ ?side1 ?side2 ?side3 ?side4 A3.out).mono ?_); (case side1 => exact cS HR0_0 HB); (case side2 => exact HC0_0.out); (case side3 => exact cS HR0_1 HB); (case side4 => exact HC0_1.out); rintro e w10 ⟨v194, v197, rfl, ho0, ho1, hb⟩; refine ⟨_, rfl, ?_⟩; have n_ := aI (lR HB ho0) (aI (lR HB ho1) (aI (kB BK191 hb) (aI (kB BK192 hb) (sB HB hb)))); clear BK191 BK192 HB; obtain ⟨HO195, HO198, BK191, BK192, HB⟩ := n_; (try clear hb ho0 ho1)) | ((with_reducible refine gate_dst (N := 5) rfl ?_); refine bE 5 #[.slice none 0 0, .slice none 0 0] 30 ?_; intro gb199 hg w11 hbox hb; have n_ := aI (rB HO195 hb) (aI (rB HO198 hb) (aI (kB BK191 hb) (aI (kB BK192 hb) (aI (sB HB hb) (aI (aM hbox) (aI (gE HB hg) (aI (gE HB hg) (aI (nL BK191 hg) (aI (nG BK191 hg) (aI (nL BK192 hg) (nG BK192 hg))))))))))); clear HO195 HO198 BK191 BK192 HB; obtain ⟨HO195, HO198, BK191, BK192, HB, BK199, GW199, GE199, NB191_199, NB199_191, NB192_199, NB199_192⟩ := n_; (try clear hb hbox hg); obtain ⟨Ao12, co12, eo12⟩ := Kd.R_slice HO195.out; subst eo12; have hnb13 := NB199_191.out; have hnc13 := NB191_199.out; have hnb14 := NB199_192.out; have hnc14 := NB192_199.out; have hcz15_0 := cZ0 BK199; have hcz15_1 := cZ1 BK199; have hfz15_0 := blk_frozen BK199.out 0; have hfz15_1 := blk_frozen BK199.out 1; obtain ⟨Ao16, co16, eo16⟩ := Kd.R_slice HO198.out; subst eo16; have hcz17_0 := cZ0 BK191; have hcz17_1 := cZ1 BK191; have hfz17_0 := blk_frozen BK191.out 0; have hfz17_1 := blk_frozen BK191.out 1) | ((with_reducible refine gate_callee (f := 18) rfl ?_); refine gL (some 11) Try.func18 #[.agg #[.slice A0_0 l0_0.length c0_0, .slice A0_1 l0_1.length c0_1]] ?_; (with_reducible refine (impl_DiskOk.calls _ _ l0_0 _ _ l0_1 true _ ?side1 ?side2 ?side3 ?side4 A4.out).mono ?_); (case side1 => exact cS HR0_0 HB); (case side2 => exact HC0_0.out); (case side3 => exact cS HR0_1 HB); (case side4 => exact HC0_1.out); rintro e w18 ⟨rfl, hb⟩; refine ⟨_, rfl, ?_⟩; have n_ := aI (aM (Kd.R_below (rP (Kd.R_mono (Kd.R_far (p := ⟨gb199, 1, none⟩) (Kd.R_far (p := ⟨gb199, 0, none⟩) (Kd.R_types HO195.out BK199.out (by decide)) (fun _ hk => hk.2) (.slice Ao12 t193.length co12)) (fun _ hk => hk.2) (.slice Ao16 t196.length co16)) (fun _ h_ => h_.1))) hb)) (aI (aM (Kd.R_below (rP (Kd.R_mono (Kd.R_far (p := ⟨gb199, 1, none⟩) (Kd.R_far (p := ⟨gb199, 0, none⟩) (Kd.R_types HO198.out BK199.out (by decide)) (fun _ hk => hk.2) (.slice Ao12 t193.length co12)) (fun _ hk => hk.2) (.slice Ao16 t196.length co16)) (fun _ h_ => h_.1))) hb)) (aI (kB BK191 hb) (aI (kB BK192 hb) (aI (aM (blk_below (g := gb199) (o := .cells #[.slice Ao12 t193.length co12, .slice Ao16 t196.length co16] 30 (0, 0)) (by (with_reducible repeat (first | refine blk_drewN ?_ _ | refine blk_drew ?_ | refine blk_alloc ?_ _)); refine blk_put (cs := #[.slice Ao12 t193.length co12, .slice none 0 0]) ?_ 1 _ rfl; (with_reducible repeat (first | refine blk_drewN ?_ _ | refine blk_drew ?_ | refine blk_alloc ?_ _)); refine blk_put (cs := #[.slice none 0 0, .slice none 0 0]) ?_ 0 _ rfl; (with_reducible repeat (first | refine blk_drewN ?_ _ | refine blk_drew ?_ | refine blk_alloc ?_ _)); exact BK199.out) hb)) (sB HB hb))))); clear HO195 HO198 BK191 BK192 BK199 HB; obtain ⟨HO195, HO198, BK191, BK192, BK199, HB⟩ := n_; (try clear hb); have hcz19_0 := cZ0 BK191; have hcz19_1 := cZ1 BK191; have hfz19_0 := blk_frozen BK191.out 0; have hfz19_1 := blk_frozen BK191.out 1))
  go_loopg [17] k (fun kq v17 w' => ∃ (x17_1 : Int) (x200000_1 : List ByteArray) (u200000 : Value), v17 = .int .i64 x17_1 ∧ Aside0 (impl_settle_Flush_1.l0 kq l0_1 (l0_1.length : Int) x17_1 x200000_1 t196 = some (r1, r2)) ∧ Aside0 (kq ≤ k) ∧ Aside0 (Kd.R Kd.string 9 w' w.heap.size (fun _ => True) u200000 x200000_1) ∧ Aside0 (Kd.R k65 65 w' w.heap.size (fun _ => True) (.slice Ao16 t196.length co16) t196) ∧ Aside0 (w'.heap[gb191]? = some (.cells #[(.slice A0_0 l0_0.length c0_0), (.slice A0_1 l0_1.length c0_1)] 30 (0, 0))) ∧ Aside0 (w'.heap[gb192]? = some (.cells #[(.slice none 0 0), (.slice none 0 0)] 30 (0, 0))) ∧ Aside0 (w'.heap[gb199]? = some (.cells #[u200000, (.slice Ao16 t196.length co16)] 30 (0, 0))) ∧ Aside0 (Below w.heap.size w w'))
  case atStart => exact ⟨(0), (t193), (.slice Ao12 t193.length co12), (by first | rfl | (simp; done) | (simp [*]; done) | (simp; exact (by intro l_; cases l_ <;> rfl : ∀ l_ : List UInt8, l_.isEmpty = !(l_ != [])) _)), H', ⟨Nat.le_refl _⟩, ⟨rP HO195.out⟩, ⟨rP HO198.out⟩, ⟨kP BK191⟩, ⟨kP BK192⟩, ⟨kP BK199⟩, ⟨bB⟩⟩
  case round =>
   clear H'
   try clear c1
   try clear p2
   try clear c5
   try clear c7
   try clear c8
   try clear c10
   try clear c13
   try clear c14
   try clear c18
   try clear hcz15_0
   try clear hcz15_1
   try clear hcz17_0
   try clear hcz17_1
   try clear hcz19_0
   try clear hcz19_1
   try clear hcz9_0
   try clear hcz9_1
   try clear hfz15_0
   try clear hfz15_1
   try clear hfz17_0
   try clear hfz17_1
   try clear hfz19_0
   try clear hfz19_1
   try clear hfz9_0
   try clear hfz9_1
   obtain ⟨x17_1, x200000_1, u200000, rfl, HA, HK1, HO_200000, HO_200001, BK191, BK192, BK199, HB⟩ := hrel
   cases gk with
   | zero => exact absurd HA.out (by simp [impl_settle_Flush_1.l0])
   | succ k1 =>
    have H := HA.out
    clear HA
    simp only [impl_settle_Flush_1.l0] at H
    by_cases c20 : x17_1 < (l0_1.length : Int)
    ·rw [if_pos c20] at H
     have c20b0 : decide (x17_1 < (l0_1.length : Int)) = true := decide_eq_true c20
     clear c20
     by_cases c21 : 0 ≤ x17_1
     ·rw [if_pos c21] at H
      have c21b0 : decide (0 ≤ x17_1) = true := decide_eq_true c21
      clear c21
      by_cases c22 : x17_1 < (l0_1.length : Int)
      ·rw [if_pos c22] at H
       have c22b0 : decide (x17_1 < (l0_1.length : Int)) = true := decide_eq_true c22
       clear c22
       replace H := Option.bind_eq_some_iff.mp H
       obtain ⟨t203, A230, H⟩ := H
       try dsimp only at H
       have A23 := aM A230
       clear A230
       by_cases c24 : t203 = true
       ·subst c24
        rw [if_pos rfl] at H
        by_cases c25 : 0 ≤ ((rd_T65 l0_1 x17_1).f0)
        ·rw [if_pos c25] at H
         have c25b0 : decide (0 ≤ ((rd_T65 l0_1 x17_1).f0)) = true := decide_eq_true c25
         clear c25
         by_cases c26 : ((rd_T65 l0_1 x17_1).f0) < (x200000_1.length : Int)
         ·rw [if_pos c26] at H
          have c26b0 : decide (((rd_T65 l0_1 x17_1).f0) < (x200000_1.length : Int)) = true := decide_eq_true c26
          clear c26
          obtain ⟨y204, hy204⟩ : ∃ y_ : List ByteArray, y_ = (x200000_1.set (((rd_T65 l0_1 x17_1).f0) : Int).toNat ((rd_T65 l0_1 x17_1).f1)) := ⟨_, rfl⟩
          replace H : (impl_settle_Flush_1.l0 k1 l0_1 (l0_1.length : Int) (wrap64 (x17_1 + 1)) y204 t196) = some (r1, r2) := by first | (rw [hy204]; with_reducible exact H) | (have H2_ := (Option.bind_some _ _).symm.trans H; rw [hy204]; with_reducible exact H2_) | (have H2_ := (Option.bind_some _ _).symm.trans H; with_reducible exact H2_) | with_reducible exact H | (rw [hy204]; exact H) | exact H
          have Ny204 := aM hy204
          clear hy204
          have H' := aM H
          clear H
          have p201 : 0 ≤ (x17_1 : Int) := dT
          have q201 : x17_1 < (l0_1.length : Int) := dT
          obtain ⟨ad201, e201, hx201_0, hx201_1⟩ := at_T65 HR0_1.out x17_1 p201 q201
          cases e201
          replace hx201_0 := (HB.out.cell (World.block_lt_of_cell? w _ hx201_0)).trans hx201_0
          replace hx201_1 := (HB.out.cell (World.block_lt_of_cell? w _ hx201_1)).trans hx201_1
          replace p201 := eq_true p201
          replace q201 := eq_true q201
          go_wp2_with (first | ((with_reducible refine gate_dst (N := 7) rfl ?_); refine bE 7 #[.int .i64 0, .string (⟨#[]⟩ : ByteArray)] 65 ?_; intro gb202 hg w28 hbox hb; have n_ := aI (rB HO_200000 hb) (aI (aM (Kd.R_below (Kd.R_elderB (rP HO_200001.out) gb202 (Nat.le_of_eq hg.symm)) hb)) (aI (kB BK191 hb) (aI (kB BK192 hb) (aI (kB BK199 hb) (aI (sB HB hb) (aI (aM hbox) (aI (gE HB hg) (aI (gE HB hg) (aI (nL BK191 hg) (aI (nG BK191 hg) (aI (nL BK192 hg) (aI (nG BK192 hg) (aI (nL BK199 hg) (nG BK199 hg)))))))))))))); clear HO_200000 HO_200001 BK191 BK192 BK199 HB; obtain ⟨HO_200000, HO_200001, BK191, BK192, BK199, HB, BK202, GW202, GE202, NB191_202, NB202_191, NB192_202, NB202_192, NB199_202, NB202_199⟩ := n_; (try clear hb hbox hg); have hnb29 := NB202_191.out; have hnc29 := NB191_202.out; have hnb30 := NB202_192.out; have hnc30 := NB192_202.out; have hnb31 := NB202_199.out; have hnc31 := NB199_202.out; have hcz32_0 := cZ0 BK202; have hcz32_1 := cZ1 BK202; have hfz32_0 := blk_frozen BK202.out 0; have hfz32_1 := blk_frozen BK202.out 1) | ((with_reducible refine gate_store (t := 65) (p := 7) rfl ?_); refine store_event (t := 65) (p := 7) (v := ?vo_w33) (w1 := ((w28.setCell ⟨gb202, 0, none⟩ (.int .i64 ((rd_T65 l0_1 x17_1).f0))).setCell ⟨gb202, 1, none⟩ (.string ((rd_T65 l0_1 x17_1).f1)))) ?hg ?ho ?hn ?hr ?_; (case ho => rfl); (case hg => rfl); (case hn => rfl); (case hr => first | (go_simp; done) | (go_simp; rfl)); intro w33 hw; have n0_ : Aside0 (Kd.R Kd.string 9 w33 w.heap.size (fun _ => True) u200000 x200000_1) := ⟨(by rw [hw]; exact (rP (Kd.R_mono (Kd.R_far (p := ⟨gb202, 1, none⟩) (Kd.R_far (p := ⟨gb202, 0, none⟩) (Kd.R_types HO_200000.out BK202.out (by decide)) (fun _ hk => hk.2) (.int .i64 ((rd_T65 l0_1 x17_1).f0))) (fun _ hk => hk.2) (.string ((rd_T65 l0_1 x17_1).f1))) (fun _ hk => trivial))))⟩; have n1_ : Aside0 (Kd.R k65 65 w33 w.heap.size (fun k_ => k_ ≠ gb202) (.slice Ao16 t196.length co16) t196) := ⟨(by rw [hw]; exact (rP (Kd.R_mono (Kd.R_far (p := ⟨gb202, 1, none⟩) (Kd.R_far (p := ⟨gb202, 0, none⟩) (Kd.R_mono HO_200001.out (fun k_ hk => (⟨hk, hk.2⟩ : _ ∧ k_ ≠ gb202))) (fun _ hk => hk.2) (.int .i64 ((rd_T65 l0_1 x17_1).f0))) (fun _ hk => hk.2) (.string ((rd_T65 l0_1 x17_1).f1))) (fun _ hk => hk.1.2))))⟩; have n2_ : Aside0 (w33.heap[gb191]? = some (.cells #[.slice A0_0 l0_0.length c0_0, .slice (some ad201) l0_1.length c0_1] 30 (0, 0))) := ⟨(by rw [hw]; exact (kP BK191))⟩; have n3_ : Aside0 (w33.heap[gb192]? = some (.cells #[.slice none 0 0, .slice none 0 0] 30 (0, 0))) := ⟨(by rw [hw]; exact (kP BK192))⟩; have n4_ : Aside0 (w33.heap[gb199]? = some (.cells #[u200000, .slice Ao16 t196.length co16] 30 (0, 0))) := ⟨(by rw [hw]; exact (kP BK199))⟩; have n5_ : Aside0 (w33.heap[gb202]? = some (.cells #[.int .i64 ((rd_T65 l0_1 x17_1).f0), .string ((rd_T65 l0_1 x17_1).f1)] 65 (0, 0))) := ⟨(by rw [hw]; exact (by (with_reducible repeat (first | refine blk_drewN ?_ _ | refine blk_drew ?_ | refine blk_alloc ?_ _)); refine blk_put (cs := #[.int .i64 ((rd_T65 l0_1 x17_1).f0), .string (⟨#[]⟩ : ByteArray)]) ?_ 1 _ rfl; (with_reducible repeat (first | refine blk_drewN ?_ _ | refine blk_drew ?_ | refine blk_alloc ?_ _)); refine blk_put (cs := #[.int .i64 0, .string (⟨#[]⟩ : ByteArray)]) ?_ 0 _ rfl; (with_reducible repeat (first | refine blk_drewN ?_ _ | refine blk_drew ?_ | refine blk_alloc ?_ _)); exact BK202.out))⟩; have n6_ : Aside0 (Below w.heap.size w w33) := ⟨(by rw [hw]; exact bB)⟩; clear hw; clear HO_200000; clear HO_200001; clear BK191; clear BK192; clear BK199; clear BK202; clear HB; have HO_200000 := n0_; have HO_200001 := n1_; have BK191 := n2_; have BK192 := n3_; have BK199 := n4_; have BK202 := n5_; have HB := n6_; clear n0_ n1_ n2_ n3_ n4_ n5_ n6_) | (go_at_call 79; (with_reducible refine (impl_Flush_1.calls x17_1 true _ A23.out).mono ?_); rintro e w' ⟨rfl, ⟨nd, rfl⟩⟩; (try (rw [drewN_self w33]; generalize hq_ : World.drewN w33 _ = w33; have n0_ : Aside0 (Kd.R Kd.string 9 w33 w.heap.size (fun _ => True) u200000 x200000_1) := ⟨by rw [← hq_]; exact (rP HO_200000.out)⟩; have n1_ : Aside0 (Kd.R k65 65 w33 w.heap.size (fun k_ => k_ ≠ gb202) (.slice Ao16 t196.length co16) t196) := ⟨by rw [← hq_]; exact (rP HO_200001.out)⟩; have n2_ : Aside0 (w33.heap[gb191]? = some (.cells #[.slice A0_0 l0_0.length c0_0, .slice (some ad201) l0_1.length c0_1] 30 (0, 0))) := ⟨by rw [← hq_]; exact (kP BK191)⟩; have n3_ : Aside0 (w33.heap[gb192]? = some (.cells #[.slice none 0 0, .slice none 0 0] 30 (0, 0))) := ⟨by rw [← hq_]; exact (kP BK192)⟩; have n4_ : Aside0 (w33.heap[gb199]? = some (.cells #[u200000, .slice Ao16 t196.length co16] 30 (0, 0))) := ⟨by rw [← hq_]; exact (kP BK199)⟩; have n5_ : Aside0 (w33.heap[gb202]? = some (.cells #[.int .i64 ((rd_T65 l0_1 x17_1).f0), .string ((rd_T65 l0_1 x17_1).f1)] 65 (0, 0))) := ⟨by rw [← hq_]; exact (kP BK202)⟩; have n6_ : Aside0 (Below w.heap.size w w33) := ⟨by rw [← hq_]; exact bB⟩; clear HO_200000 HO_200001 BK191 BK192 BK199 BK202 HB hq_; have HO_200000 := n0_; have HO_200001 := n1_; have BK191 := n2_; have BK192 := n3_; have BK199 := n4_; have BK202 := n5_; have HB := n6_; clear n0_ n1_ n2_ n3_ n4_ n5_ n6_)); have hnb34 := NB199_191.out; have hnc34 := NB191_199.out; have hnb35 := NB199_192.out; have hnc35 := NB192_199.out; have hcz36_0 := cZ0 BK199; have hcz36_1 := cZ1 BK199; have hfz36_0 := blk_frozen BK199.out 0; have hfz36_1 := blk_frozen BK199.out 1; have hcz37_0 : w33.cell? ⟨gb202, 0, none⟩ = some (.int .i64 ((rd_T65 l0_1 x17_1).f0)) := (blk_cell BK202.out 0).trans rfl; have hcz37_1 : w33.cell? ⟨gb202, 1, none⟩ = some (.string ((rd_T65 l0_1 x17_1).f1)) := (blk_cell BK202.out 1).trans rfl; have hfz37_0 := blk_frozen BK202.out 0; have hfz37_1 := blk_frozen BK202.out 1; have p27 : 0 ≤ (((rd_T65 l0_1 x17_1).f0) : Int) := dT; have q27 : (((rd_T65 l0_1 x17_1).f0) : Int) < ((x200000_1.length : Int) : Int) := dT; obtain ⟨go27, co27, eo27, gb27, gl27, cl27, HG27⟩ := Kd.R_form HO_200000.out (by omega); (first | cases eo27 | (injection eo27 with ea_ en_ ec_; (first | subst ea_ | (injection ea_ with ea_; subst ea_)); subst ec_; clear en_)); have GB27 := aM gb27; have GG27 := aM HG27; clear gb27 gl27 HG27; obtain ⟨hx27_0, hf27_0⟩ := Kd.R_celln (⟨#[]⟩ : ByteArray) HO_200000.out (((rd_T65 l0_1 x17_1).f0) : Int) p27 q27; replace p27 := eq_true p27; replace q27 := eq_true q27; obtain ⟨hy38_, hz38_⟩ := Kd.R_celln (⟨#[]⟩ : ByteArray) HO_200000.out (((rd_T65 l0_1 x17_1).f0) : Int) (dT) (dT); have HP38 := Kd.R_putg HO_200000.out (((rd_T65 l0_1 x17_1).f0) : Int) ((rd_T65 l0_1 x17_1).f1)) | ((with_reducible refine gate_store (t := 9) (p := 31) rfl ?_); refine store_event (t := 9) (p := 31) (v := ?vo_w39) (w1 := (w33.setCell ⟨go27, (((rd_T65 l0_1 x17_1).f0) : Int).toNat, none⟩ (.string ((rd_T65 l0_1 x17_1).f1)))) ?hg ?ho ?hn ?hr ?_; (case ho => rfl); (case hg => rfl); (case hn => rfl); (case hr => first | (go_simp; done) | (go_simp; rfl)); intro w39 hw; have hg : w33.grownBy w39 (some go27) := (by rw [hw]; exact HP38.2); have hp_ : Kd.R Kd.string 9 w39 w.heap.size (fun _ => True) (.slice (some ⟨go27, 0, none⟩) x200000_1.length co27) y204 := (by rw [hw, Ny204.out]; exact HP38.1); clear HP38; have n_ := aI (aM (hp_)) (aI (aM (Kd.R_over' (v := (.slice (some ⟨go27, 0, none⟩) x200000_1.length co27)) (rP HO_200001.out) (Kd.R_typed HO_200000.out) (by decide) hg)) (aI (aM (blk_grown (g := gb191) (o := .cells #[.slice A0_0 l0_0.length c0_0, .slice (some ad201) l0_1.length c0_1] 30 (0, 0)) (kP BK191) hg (Kd.R_ne HO_200000.out BK191.out (by decide)))) (aI (aM (blk_grown (g := gb192) (o := .cells #[.slice none 0 0, .slice none 0 0] 30 (0, 0)) (kP BK192) hg (Kd.R_ne HO_200000.out BK192.out (by decide)))) (aI (aM (blk_grown (g := gb199) (o := .cells #[.slice (some ⟨go27, 0, none⟩) x200000_1.length co27, .slice Ao16 t196.length co16] 30 (0, 0)) (kP BK199) hg (Kd.R_ne HO_200000.out BK199.out (by decide)))) (aI (aM (blk_grown (g := gb202) (o := .cells #[.int .i64 ((rd_T65 l0_1 x17_1).f0), .string ((rd_T65 l0_1 x17_1).f1)] 65 (0, 0)) (kP BK202) hg (Kd.R_ne HO_200000.out BK202.out (by decide)))) (aM ((by rw [hw]; exact below_set (HB.out) GB27.out : Below w.heap.size w w39)))))))); clear HO_200000 HO_200001 BK191 BK192 BK199 BK202 HB; obtain ⟨HO_200000, HO_200001, BK191, BK192, BK199, BK202, HB⟩ := n_; (try clear hw)))
          go_roundg k1
          case measure => have := HK1.out; omega
          case rel => exact ⟨(wrap64 (x17_1 + 1)), (y204), (.slice (some ⟨go27, 0, none⟩) x200000_1.length co27), (by first | rfl | (simp; done) | (simp [*]; done) | (simp; exact (by intro l_; cases l_ <;> rfl : ∀ l_ : List UInt8, l_.isEmpty = !(l_ != [])) _)), H', ⟨by have := HK1.out; omega⟩, ⟨rP HO_200000.out⟩, ⟨rP (Kd.R_mono HO_200001.out (fun _ hk => trivial))⟩, ⟨kP BK191⟩, ⟨kP BK192⟩, ⟨kP BK199⟩, ⟨bB⟩⟩
         ·rw [if_neg c26] at H
          exact absurd H (by simp)
        ·rw [if_neg c25] at H
         exact absurd H (by simp)
       ·replace c24 := Bool.eq_false_iff.mpr c24
        subst c24
        rw [if_neg (show ¬ (false = true) by decide)] at H
        have H' := aM H
        clear H
        have p201 : 0 ≤ (x17_1 : Int) := dT
        have q201 : x17_1 < (l0_1.length : Int) := dT
        obtain ⟨ad201, e201, hx201_0, hx201_1⟩ := at_T65 HR0_1.out x17_1 p201 q201
        cases e201
        replace hx201_0 := (HB.out.cell (World.block_lt_of_cell? w _ hx201_0)).trans hx201_0
        replace hx201_1 := (HB.out.cell (World.block_lt_of_cell? w _ hx201_1)).trans hx201_1
        replace p201 := eq_true p201
        replace q201 := eq_true q201
        go_wp2_with (first | ((with_reducible refine gate_dst (N := 7) rfl ?_); refine bE 7 #[.int .i64 0, .string (⟨#[]⟩ : ByteArray)] 65 ?_; intro gb202 hg w40 hbox hb; have n_ := aI (rB HO_200000 hb) (aI (aM (Kd.R_below (Kd.R_elderB (rP HO_200001.out) gb202 (Nat.le_of_eq hg.symm)) hb)) (aI (kB BK191 hb) (aI (kB BK192 hb) (aI (kB BK199 hb) (aI (sB HB hb) (aI (aM hbox) (aI (gE HB hg) (aI (gE HB hg) (aI (nL BK191 hg) (aI (nG BK191 hg) (aI (nL BK192 hg) (aI (nG BK192 hg) (aI (nL BK199 hg) (nG BK199 hg)))))))))))))); clear HO_200000 HO_200001 BK191 BK192 BK199 HB; obtain ⟨HO_200000, HO_200001, BK191, BK192, BK199, HB, BK202, GW202, GE202, NB191_202, NB202_191, NB192_202, NB202_192, NB199_202, NB202_199⟩ := n_; (try clear hb hbox hg); have hnb41 := NB202_191.out; have hnc41 := NB191_202.out; have hnb42 := NB202_192.out; have hnc42 := NB192_202.out; have hnb43 := NB202_199.out; have hnc43 := NB199_202.out; have hcz44_0 := cZ0 BK202; have hcz44_1 := cZ1 BK202; have hfz44_0 := blk_frozen BK202.out 0; have hfz44_1 := blk_frozen BK202.out 1) | (go_at_call 79; (with_reducible refine (impl_Flush_1.calls x17_1 false _ A23.out).mono ?_); rintro e w' ⟨rfl, ⟨nd, rfl⟩⟩))
        go_roundg k1
        case measure => have := HK1.out; omega
        case rel => exact ⟨(wrap64 (x17_1 + 1)), (x200000_1), (u200000), (by first | rfl | (simp; done) | (simp [*]; done) | (simp; exact (by intro l_; cases l_ <;> rfl : ∀ l_ : List UInt8, l_.isEmpty = !(l_ != [])) _)), H', ⟨by have := HK1.out; omega⟩, ⟨rP (Kd.R_mono (Kd.R_far (p := ⟨gb202, 1, none⟩) (Kd.R_far (p := ⟨gb202, 0, none⟩) (Kd.R_types HO_200000.out BK202.out (by decide)) (fun _ hk => hk.2) (.int .i64 ((rd_T65 l0_1 x17_1).f0))) (fun _ hk => hk.2) (.string ((rd_T65 l0_1 x17_1).f1))) (fun _ hk => trivial))⟩, ⟨rP (Kd.R_mono (Kd.R_far (p := ⟨gb202, 1, none⟩) (Kd.R_far (p := ⟨gb202, 0, none⟩) (Kd.R_mono HO_200001.out (fun k_ hk => (⟨hk, hk.2⟩ : _ ∧ k_ ≠ gb202))) (fun _ hk => hk.2) (.int .i64 ((rd_T65 l0_1 x17_1).f0))) (fun _ hk => hk.2) (.string ((rd_T65 l0_1 x17_1).f1))) (fun _ hk => trivial))⟩, ⟨kP BK191⟩, ⟨kP BK192⟩, ⟨kP BK199⟩, ⟨bB⟩⟩
      ·rw [if_neg c22] at H
       exact absurd H (by simp)
     ·rw [if_neg c21] at H
      exact absurd H (by simp)
    ·rw [if_neg c20] at H
     have c20b0 : decide (x17_1 < (l0_1.length : Int)) = false := decide_eq_false c20
     clear c20
     simp only [Option.some.injEq, Prod.mk.injEq] at H
     obtain ⟨rfl, rfl⟩ := H
     have hnb45 := NB199_191.out
     have hnc45 := NB191_199.out
     have hnb46 := NB199_192.out
     have hnc46 := NB192_199.out
     have hcz47_0 := cZ0 BK199
     have hcz47_1 := cZ1 BK199
     have hfz47_0 := blk_frozen BK199.out 0
     have hfz47_1 := blk_frozen BK199.out 1
     obtain ⟨Ao48, co48, eo48⟩ := Kd.R_slice HO_200000.out
     subst eo48
     have hnb49 := NB192_191.out
     have hnc49 := NB191_192.out
     have hcz50_0 := cZ0 BK192
     have hcz50_1 := cZ1 BK192
     have hfz50_0 := blk_frozen BK192.out 0
     have hfz50_1 := blk_frozen BK192.out 1
     go_wp2
     refine bodyPost_ret (results_cell_row rfl _ _ gb192 30 #[.slice Ao48 x200000_1.length co48, .slice none 0 0] (0, 0) _ rfl (by (with_reducible repeat (first | refine blk_drewN ?_ _ | refine blk_drew ?_ | refine blk_alloc ?_ _)); refine blk_put (cs := #[.slice Ao48 x200000_1.length co48, .slice none 0 0]) ?_ 1 _ rfl; (with_reducible repeat (first | refine blk_drewN ?_ _ | refine blk_drew ?_ | refine blk_alloc ?_ _)); refine blk_put (cs := #[.slice none 0 0, .slice none 0 0]) ?_ 0 _ rfl; (with_reducible repeat (first | refine blk_drewN ?_ _ | refine blk_drew ?_ | refine blk_alloc ?_ _)); refine blk_far ?_ NB192_199.out _; (with_reducible repeat (first | refine blk_drewN ?_ _ | refine blk_drew ?_ | refine blk_alloc ?_ _)); exact BK192.out) Try.underlying30 rfl (by kernel_rfl)) rfl ?_
     exact ⟨_, _, eW, by (with_reducible repeat (first | apply Kd.R_alloc | apply Kd.R_drewN | apply Kd.R_drew)); exact Kd.R_mono (Kd.R_far (p := ⟨gb192, 1, none⟩) (Kd.R_far (p := ⟨gb192, 0, none⟩) (Kd.R_far (p := ⟨gb199, 1, none⟩) (Kd.R_types (Kd.R_types HO_200000.out BK199.out (by decide)) BK192.out (by decide)) (fun _ hk => hk.1.2) (.slice none 0 0)) (fun _ hk => hk.2) (.slice Ao48 x200000_1.length co48)) (fun _ hk => hk.2) (.slice none 0 0)) (fun _ hk => trivial), by first | exact Kd.R_nil _ _ _ _ _ | exact Kd.N_nil _ _ _ _ _ | exact Kd.V_nil _ _ _ _ _ | exact Kd.Q_nil _ _ _ _ _ | exact Kd.S_nil _ _ _ _ _, bB⟩
 replace c5 := Bool.eq_false_iff.mpr c5
 subst c5
 rw [if_neg (show ¬ (false = true) by decide)] at H
 simp only [Option.some.injEq, Prod.mk.injEq] at H
 obtain ⟨rfl, rfl⟩ := H
 go_enter Try.func78, Try.ntmps78
 go_wp2_with (first | ((with_reducible refine gate_dst (N := 2) rfl ?_); refine bE 2 #[.slice A0_0 l0_0.length c0_0, .slice A0_1 l0_1.length c0_1] 30 ?_; intro gb191 hg w51 hbox hb; have n_ := aI (sB HB hb) (aI (aM hbox) (aI (gE HB hg) (gE HB hg))); clear HB; obtain ⟨HB, BK191, GW191, GE191⟩ := n_; (try clear hb hbox hg)) | ((with_reducible refine gate_dst (N := 4) rfl ?_); refine bE 4 #[.slice none 0 0, .slice none 0 0] 30 ?_; intro gb192 hg w52 hbox hb; have n_ := aI (kB BK191 hb) (aI (sB HB hb) (aI (aM hbox) (aI (gE HB hg) (aI (gE HB hg) (aI (nL BK191 hg) (nG BK191 hg)))))); clear BK191 HB; obtain ⟨BK191, HB, BK192, GW192, GE192, NB191_192, NB192_191⟩ := n_; (try clear hb hbox hg); have hnb53 := NB191_192.out; have hnc53 := NB192_191.out; have hcz54_0 := cZ0 BK191; have hcz54_1 := cZ1 BK191; have hfz54_0 := blk_frozen BK191.out 0; have hfz54_1 := blk_frozen BK191.out 1) | ((with_reducible refine gate_callee (f := 76) rfl ?_); refine gL (some 9) Try.func76 #[.agg #[.slice A0_0 l0_0.length c0_0, .slice A0_1 l0_1.length c0_1]] ?_; (with_reducible refine (impl_cloneDisk.calls _ _ l0_0 _ _ l0_1 t193 t196 _ ?side1 ?side2 ?side3 ?side4 A3.out).mono ?_); (case side1 => exact cS HR0_0 HB); (case side2 => exact HC0_0.out); (case side3 => exact cS HR0_1 HB); (case side4 => exact HC0_1.out); rintro e w55 ⟨v194, v197, rfl, ho0, ho1, hb⟩; refine ⟨_, rfl, ?_⟩; have n_ := aI (lR HB ho0) (aI (lR HB ho1) (aI (kB BK191 hb) (aI (kB BK192 hb) (sB HB hb)))); clear BK191 BK192 HB; obtain ⟨HO195, HO198, BK191, BK192, HB⟩ := n_; (try clear hb ho0 ho1)) | ((with_reducible refine gate_dst (N := 5) rfl ?_); refine bE 5 #[.slice none 0 0, .slice none 0 0] 30 ?_; intro gb199 hg w56 hbox hb; have n_ := aI (rB HO195 hb) (aI (rB HO198 hb) (aI (kB BK191 hb) (aI (kB BK192 hb) (aI (sB HB hb) (aI (aM hbox) (aI (gE HB hg) (aI (gE HB hg) (aI (nL BK191 hg) (aI (nG BK191 hg) (aI (nL BK192 hg) (nG BK192 hg))))))))))); clear HO195 HO198 BK191 BK192 HB; obtain ⟨HO195, HO198, BK191, BK192, HB, BK199, GW199, GE199, NB191_199, NB199_191, NB192_199, NB199_192⟩ := n_; (try clear hb hbox hg); obtain ⟨Ao57, co57, eo57⟩ := Kd.R_slice HO195.out; subst eo57; have hnb58 := NB199_191.out; have hnc58 := NB191_199.out; have hnb59 := NB199_192.out; have hnc59 := NB192_199.out; have hcz60_0 := cZ0 BK199; have hcz60_1 := cZ1 BK199; have hfz60_0 := blk_frozen BK199.out 0; have hfz60_1 := blk_frozen BK199.out 1; obtain ⟨Ao61, co61, eo61⟩ := Kd.R_slice HO198.out; subst eo61; have hcz62_0 := cZ0 BK191; have hcz62_1 := cZ1 BK191; have hfz62_0 := blk_frozen BK191.out 0; have hfz62_1 := blk_frozen BK191.out 1) | ((with_reducible refine gate_callee (f := 18) rfl ?_); refine gL (some 11) Try.func18 #[.agg #[.slice A0_0 l0_0.length c0_0, .slice A0_1 l0_1.length c0_1]] ?_; (with_reducible refine (impl_DiskOk.calls _ _ l0_0 _ _ l0_1 false _ ?side1 ?side2 ?side3 ?side4 A4.out).mono ?_); (case side1 => exact cS HR0_0 HB); (case side2 => exact HC0_0.out); (case side3 => exact cS HR0_1 HB); (case side4 => exact HC0_1.out); rintro e w63 ⟨rfl, hb⟩; refine ⟨_, rfl, ?_⟩; have n_ := aI (aM (Kd.R_below (rP (Kd.R_mono (Kd.R_far (p := ⟨gb199, 1, none⟩) (Kd.R_far (p := ⟨gb199, 0, none⟩) (Kd.R_types HO195.out BK199.out (by decide)) (fun _ hk => hk.2) (.slice Ao57 t193.length co57)) (fun _ hk => hk.2) (.slice Ao61 t196.length co61)) (fun _ h_ => h_.1))) hb)) (aI (aM (Kd.R_below (rP (Kd.R_mono (Kd.R_far (p := ⟨gb199, 1, none⟩) (Kd.R_far (p := ⟨gb199, 0, none⟩) (Kd.R_types HO198.out BK199.out (by decide)) (fun _ hk => hk.2) (.slice Ao57 t193.length co57)) (fun _ hk => hk.2) (.slice Ao61 t196.length co61)) (fun _ h_ => h_.1))) hb)) (aI (kB BK191 hb) (aI (kB BK192 hb) (aI (aM (blk_below (g := gb199) (o := .cells #[.slice Ao57 t193.length co57, .slice Ao61 t196.length co61] 30 (0, 0)) (by (with_reducible repeat (first | refine blk_drewN ?_ _ | refine blk_drew ?_ | refine blk_alloc ?_ _)); refine blk_put (cs := #[.slice Ao57 t193.length co57, .slice none 0 0]) ?_ 1 _ rfl; (with_reducible repeat (first | refine blk_drewN ?_ _ | refine blk_drew ?_ | refine blk_alloc ?_ _)); refine blk_put (cs := #[.slice none 0 0, .slice none 0 0]) ?_ 0 _ rfl; (with_reducible repeat (first | refine blk_drewN ?_ _ | refine blk_drew ?_ | refine blk_alloc ?_ _)); exact BK199.out) hb)) (sB HB hb))))); clear HO195 HO198 BK191 BK192 BK199 HB; obtain ⟨HO195, HO198, BK191, BK192, BK199, HB⟩ := n_; (try clear hb); have hcz64_0 := cZ0 BK199; have hcz64_1 := cZ1 BK199; have hfz64_0 := blk_frozen BK199.out 0; have hfz64_1 := blk_frozen BK199.out 1; have hcz65_0 := cZ0 BK192; have hcz65_1 := cZ1 BK192; have hfz65_0 := blk_frozen BK192.out 0; have hfz65_1 := blk_frozen BK192.out 1))
 refine bodyPost_ret (results_cell_row rfl _ _ gb192 30 #[.slice Ao57 t193.length co57, .slice Ao61 t196.length co61] (0, 0) _ rfl (by (with_reducible repeat (first | refine blk_drewN ?_ _ | refine blk_drew ?_ | refine blk_alloc ?_ _)); refine blk_put (cs := #[.slice Ao57 t193.length co57, .slice none 0 0]) ?_ 1 _ rfl; (with_reducible repeat (first | refine blk_drewN ?_ _ | refine blk_drew ?_ | refine blk_alloc ?_ _)); refine blk_put (cs := #[.slice none 0 0, .slice none 0 0]) ?_ 0 _ rfl; (with_reducible repeat (first | refine blk_drewN ?_ _ | refine blk_drew ?_ | refine blk_alloc ?_ _)); exact BK192.out) Try.underlying30 rfl (by kernel_rfl)) rfl ?_
 exact ⟨_, _, eW, by (with_reducible repeat (first | apply Kd.R_alloc | apply Kd.R_drewN | apply Kd.R_drew)); exact Kd.R_mono (Kd.R_far (p := ⟨gb192, 1, none⟩) (Kd.R_far (p := ⟨gb192, 0, none⟩) (Kd.R_types HO195.out BK192.out (by decide)) (fun _ hk => hk.2) (.slice Ao57 t193.length co57)) (fun _ hk => hk.2) (.slice Ao61 t196.length co61)) (fun _ hk => trivial), by (with_reducible repeat (first | apply Kd.R_alloc | apply Kd.R_drewN | apply Kd.R_drew)); exact Kd.R_mono (Kd.R_far (p := ⟨gb192, 1, none⟩) (Kd.R_far (p := ⟨gb192, 0, none⟩) (Kd.R_types HO198.out BK192.out (by decide)) (fun _ hk => hk.2) (.slice Ao57 t193.length co57)) (fun _ hk => hk.2) (.slice Ao61 t196.length co61)) (fun _ hk => trivial), bB⟩

/-! ### impl_Flush: function 32 -/
def impl_Flush.f (k : Nat) (l0_0 : List ByteArray) (l0_1 : List (S65)) : Option (List ByteArray × (List (S65))) := (impl_settle_Flush_1.f k l0_0 l0_1).bind fun bt207 => (some (bt207.1, bt207.2))
theorem impl_Flush.mono : ∀ a0 a1 k, LeO (impl_Flush.f k a0 a1) (impl_Flush.f (k + 1) a0 a1) := by
 intro a0 a1 k
 unfold impl_Flush.f
 have m0_ := @impl_settle_Flush_1.mono
 exact mM
set_option maxHeartbeats 8000000 in
set_option maxRecDepth 100000 in
theorem impl_Flush.calls (k : Nat) (A0_0 : Option Addr) (c0_0 : Nat) (l0_0 : List ByteArray) (A0_1 : Option Addr) (c0_1 : Nat) (l0_1 : List (S65)) (r1 : List ByteArray) (r2 : List (S65)) (w : World) (hr0_0 : Kd.C Kd.string w A0_0 l0_0.length l0_0) (hc0_0 : l0_0.length ≤ c0_0) (hr0_1 : Kd.C k65 w A0_1 l0_1.length l0_1) (hc0_1 : l0_1.length ≤ c0_1) (h : impl_Flush.f k l0_0 l0_1 = some (r1, r2)) :
  Calls Try.prog 32 #[.agg #[.slice A0_0 l0_0.length c0_0, .slice A0_1 l0_1.length c0_1]] w fun e w' => ∃ v0_ v1_ : Value, e = .returned (.agg #[v0_, v1_]) ∧ Kd.R Kd.string 9 w' w.heap.size (fun _ => True) v0_ r1 ∧ Kd.R k65 65 w' w.heap.size (fun _ => True) v1_ r2 ∧ Below w.heap.size w w' := by
 have hu30 := Try.underlying30
 have HR0_0 := aM hr0_0
 have HC0_0 := aM hc0_0
 clear hr0_0 hc0_0
 have HR0_1 := aM hr0_1
 have HC0_1 := aM hc0_1
 clear hr0_1 hc0_1
 have HB := aM (Below.refl w.heap.size w)
 unfold impl_Flush.f at h
 have H := h
 clear h
 replace H := Option.bind_eq_some_iff.mp H
 obtain ⟨⟨t207, t210⟩, A20, H⟩ := H
 try dsimp only at H
 have A2 := aM A20
 clear A20
 simp only [Option.some.injEq, Prod.mk.injEq] at H
 obtain ⟨rfl, rfl⟩ := H
 go_enter Try.func32, Try.ntmps32
 go_wp2_with (first | ((with_reducible refine gate_dst (N := 1) rfl ?_); refine bE 1 #[.slice A0_0 l0_0.length c0_0, .slice A0_1 l0_1.length c0_1] 30 ?_; intro gb205 hg w3 hbox hb; have n_ := aI (sB HB hb) (aI (aM hbox) (aI (gE HB hg) (gE HB hg))); clear HB; obtain ⟨HB, BK205, GW205, GE205⟩ := n_; (try clear hb hbox hg)) | ((with_reducible refine gate_dst (N := 2) rfl ?_); refine bE 2 #[.slice none 0 0, .slice none 0 0] 30 ?_; intro gb206 hg w4 hbox hb; have n_ := aI (kB BK205 hb) (aI (sB HB hb) (aI (aM hbox) (aI (gE HB hg) (aI (gE HB hg) (aI (nL BK205 hg) (nG BK205 hg)))))); clear BK205 HB; obtain ⟨BK205, HB, BK206, GW206, GE206, NB205_206, NB206_205⟩ := n_; (try clear hb hbox hg); have hnb5 := NB205_206.out; have hnc5 := NB206_205.out; have hcz6_0 := cZ0 BK205; have hcz6_1 := cZ1 BK205; have hfz6_0 := blk_frozen BK205.out 0; have hfz6_1 := blk_frozen BK205.out 1) | ((with_reducible refine gate_callee (f := 78) rfl ?_); refine gL (some 4) Try.func78 #[.agg #[.slice A0_0 l0_0.length c0_0, .slice A0_1 l0_1.length c0_1], .func (.func 79) #[] #[]] ?_; (with_reducible refine (impl_settle_Flush_1.calls k _ _ l0_0 _ _ l0_1  t207 t210 _ ?side1 ?side2 ?side3 ?side4 A2.out).mono ?_); (case side1 => exact cS HR0_0 HB); (case side2 => exact HC0_0.out); (case side3 => exact cS HR0_1 HB); (case side4 => exact HC0_1.out); rintro e w7 ⟨v208, v211, rfl, ho0, ho1, hb⟩; refine ⟨_, rfl, ?_⟩; have n_ := aI (lR HB ho0) (aI (lR HB ho1) (aI (kB BK205 hb) (aI (kB BK206 hb) (sB HB hb)))); clear BK205 BK206 HB; obtain ⟨HO209, HO212, BK205, BK206, HB⟩ := n_; (try clear hb ho0 ho1); obtain ⟨Ao8, co8, eo8⟩ := Kd.R_slice HO209.out; subst eo8; have hcz9_0 := cZ0 BK206; have hcz9_1 := cZ1 BK206; have hfz9_0 := blk_frozen BK206.out 0; have hfz9_1 := blk_frozen BK206.out 1; obtain ⟨Ao10, co10, eo10⟩ := Kd.R_slice HO212.out; subst eo10))
 refine bodyPost_ret (results_cell_row rfl _ _ gb206 30 #[.slice Ao8 t207.length co8, .slice Ao10 t210.length co10] (0, 0) _ rfl (by (with_reducible repeat (first | refine blk_drewN ?_ _ | refine blk_drew ?_ | refine blk_alloc ?_ _)); refine blk_put (cs := #[.slice Ao8 t207.length co8, .slice none 0 0]) ?_ 1 _ rfl; (with_reducible repeat (first | refine blk_drewN ?_ _ | refine blk_drew ?_ | refine blk_alloc ?_ _)); refine blk_put (cs := #[.slice none 0 0, .slice none 0 0]) ?_ 0 _ rfl; (with_reducible repeat (first | refine blk_drewN ?_ _ | refine blk_drew ?_ | refine blk_alloc ?_ _)); exact BK206.out) Try.underlying30 rfl (by kernel_rfl)) rfl ?_
 exact ⟨_, _, eW, by (with_reducible repeat (first | apply Kd.R_alloc | apply Kd.R_drewN | apply Kd.R_drew)); exact Kd.R_mono (Kd.R_far (p := ⟨gb206, 1, none⟩) (Kd.R_far (p := ⟨gb206, 0, none⟩) (Kd.R_types HO209.out BK206.out (by decide)) (fun _ hk => hk.2) (.slice Ao8 t207.length co8)) (fun _ hk => hk.2) (.slice Ao10 t210.length co10)) (fun _ hk => trivial), by (with_reducible repeat (first | apply Kd.R_alloc | apply Kd.R_drewN | apply Kd.R_drew)); exact Kd.R_mono (Kd.R_far (p := ⟨gb206, 1, none⟩) (Kd.R_far (p := ⟨gb206, 0, none⟩) (Kd.R_types HO212.out BK206.out (by decide)) (fun _ hk => hk.2) (.slice Ao8 t207.length co8)) (fun _ hk => hk.2) (.slice Ao10 t210.length co10)) (fun _ hk => trivial), bB⟩

-- NOT PRINTED: function 80 (impl_Fall_1)

/-! ### impl_Fall: function 35 -/
def impl_Fall_1.f (l : List Bool) (i : Int) : Option Bool := if i < (l.length : Int) then (if 0 ≤ i then some (rdOf false l i) else none) else some false
set_option maxHeartbeats 8000000 in
set_option maxRecDepth 100000 in
theorem impl_Fall_1.calls (i : Int) (gk : Nat) (A2 : Option Addr) (c2 : Nat) (l2 : List Bool) (r : Bool) (w : World) (hk2 : w.heap[gk]? = some (.cells #[.slice A2 l2.length c2] 45 (0, 0))) (hr2 : Kd.C Kd.bool w A2 l2.length l2) (h : impl_Fall_1.f l2 i = some r) :
  Calls Try.prog 80 #[.int .i64 i, .pointer (some ⟨gk, 0, none⟩)] w fun e w' => e = .returned (.bool r) ∧ Drawn0 w w' := by
 have hc0 : w.cell? ⟨gk, 0, none⟩ = some (.slice A2 l2.length c2) := (blk_cell hk2 0).trans rfl
 have HR2 := aM hr2
 clear hk2 hr2
 unfold impl_Fall_1.f at h
 by_cases c : i < (l2.length : Int)
 ·rw [if_pos c] at h
  have cb : decide (i < (l2.length : Int)) = true := decide_eq_true c
  by_cases d : 0 ≤ i
  ·rw [if_pos d] at h
   obtain rfl := Option.some.inj h
   clear h
   obtain ⟨ad, e, hx⟩ := Kd.at_bool HR2.out i d c
   cases e
   have d1 := eq_true d
   have c1 := eq_true c
   clear c d
   go_enter Try.func80, Try.ntmps80
   go_wp2
   go_ret
   exact ⟨by first | rfl | (simp; done) | (simp [*]; done), by repeat (first | exact Drawn0.refl _ | apply Drawn0.step)⟩
  rw [if_neg d] at h
  cases h
 rw [if_neg c] at h
 have cb : decide (i < (l2.length : Int)) = false := decide_eq_false c
 obtain rfl := Option.some.inj h
 clear h c
 go_enter Try.func80, Try.ntmps80
 go_wp2
 go_ret
 exact ⟨by first | rfl | (simp; done) | (simp [*]; done), by repeat (first | exact Drawn0.refl _ | apply Drawn0.step)⟩
def impl_settle_Fall_1.l0 (l2 : List Bool) : Nat → List (S65) → Int → Int → List ByteArray → List (S65) → Option (List ByteArray × (List (S65)))
 | 0, _, _, _, _, _ => none
 | k + 1, x15, x16, x17, x218000, x218001 => if x17 < x16 then (if 0 ≤ x17 then (if x17 < (x15.length : Int) then ((impl_Fall_1.f l2 x17).bind fun t221 => (if t221 = true then (if 0 ≤ ((rd_T65 x15 x17).f0) then (if ((rd_T65 x15 x17).f0) < (x218000.length : Int) then (impl_settle_Fall_1.l0 l2 k x15 x16 (wrap64 (x17 + 1)) (x218000.set (((rd_T65 x15 x17).f0) : Int).toNat ((rd_T65 x15 x17).f1)) x218001) else (none)) else (none)) else (impl_settle_Fall_1.l0 l2 k x15 x16 (wrap64 (x17 + 1)) x218000 x218001))) else (none)) else (none)) else (some (x218000, ([] : List (S65))))
def impl_settle_Fall_1.f (l2 : List Bool) (k : Nat) (l0_0 : List ByteArray) (l0_1 : List (S65))  : Option (List ByteArray × (List (S65))) := (impl_cloneDisk.f l0_0 l0_1).bind fun bt211 => ((impl_DiskOk.f l0_0 l0_1).bind fun t218 => (if t218 = true then (impl_settle_Fall_1.l0 l2 k l0_1 (l0_1.length : Int) 0 bt211.1 bt211.2) else (some (bt211.1, bt211.2))))
theorem impl_settle_Fall_1.mono_l (l2 : List Bool) : ∀ k, (∀ y0 y1 y2 y3 y4, LeO (impl_settle_Fall_1.l0 l2 k y0 y1 y2 y3 y4) (impl_settle_Fall_1.l0 l2 (k + 1) y0 y1 y2 y3 y4))
 | 0 => fun _ _ _ _ _ r h => by simp [impl_settle_Fall_1.l0] at h
 | k + 1 => by
  have ih0 := impl_settle_Fall_1.mono_l l2 k
  ·intro y0 y1 y2 y3 y4
   unfold impl_settle_Fall_1.l0
   exact mM
theorem impl_settle_Fall_1.mono (l2 : List Bool) : ∀ a0 a1 k, LeO (impl_settle_Fall_1.f l2 k a0 a1) (impl_settle_Fall_1.f l2 (k + 1) a0 a1) := by
 intro a0 a1 k
 have ih0 := impl_settle_Fall_1.mono_l l2 k
 unfold impl_settle_Fall_1.f
 exact mM
set_option maxHeartbeats 8000000 in
set_option maxRecDepth 100000 in
theorem impl_settle_Fall_1.calls (gk : Nat) (A2 : Option Addr) (c2 : Nat) (l2 : List Bool) (k : Nat) (A0_0 : Option Addr) (c0_0 : Nat) (l0_0 : List ByteArray) (A0_1 : Option Addr) (c0_1 : Nat) (l0_1 : List (S65))  (r1 : List ByteArray) (r2 : List (S65)) (w : World) (hk2 : w.heap[gk]? = some (.cells #[.slice A2 l2.length c2] 45 (0, 0))) (hr2 : Kd.C Kd.bool w A2 l2.length l2) (hr0_0 : Kd.C Kd.string w A0_0 l0_0.length l0_0) (hc0_0 : l0_0.length ≤ c0_0) (hr0_1 : Kd.C k65 w A0_1 l0_1.length l0_1) (hc0_1 : l0_1.length ≤ c0_1) (h : impl_settle_Fall_1.f l2 k l0_0 l0_1 = some (r1, r2)) :
  Calls Try.prog 78 #[.agg #[.slice A0_0 l0_0.length c0_0, .slice A0_1 l0_1.length c0_1], .func (.func 80) #[] #[.pointer (some ⟨gk, 0, none⟩)]] w fun e w' => ∃ v0_ v1_ : Value, e = .returned (.agg #[v0_, v1_]) ∧ Kd.R Kd.string 9 w' w.heap.size (fun _ => True) v0_ r1 ∧ Kd.R k65 65 w' w.heap.size (fun _ => True) v1_ r2 ∧ Below w.heap.size w w' := by
 have hu30 := Try.underlying30
 have hu65 := Try.underlying65
 have HK2 := aM hk2
 have HR2 := aM hr2
 clear hk2 hr2
 have HR0_0 := aM hr0_0
 have HC0_0 := aM hc0_0
 clear hr0_0 hc0_0
 have HR0_1 := aM hr0_1
 have HC0_1 := aM hc0_1
 clear hr0_1 hc0_1
 have HB := aM (Below.refl w.heap.size w)
 unfold impl_settle_Fall_1.f at h
 have H := h
 clear h
 replace H := Option.bind_eq_some_iff.mp H
 obtain ⟨⟨t211, t214⟩, A30, H⟩ := H
 try dsimp only at H
 have A3 := aM A30
 clear A30
 replace H := Option.bind_eq_some_iff.mp H
 obtain ⟨t218, A40, H⟩ := H
 try dsimp only at H
 have A4 := aM A40
 clear A40
 by_cases c5 : t218 = true
 ·subst c5
  rw [if_pos rfl] at H
  have H' := aM H
  clear H
  go_enter Try.func78, Try.ntmps78
  go_wp2_with (first | ((with_reducible refine gate_dst (N := 2) rfl ?_); refine bE 2 #[.slice A0_0 l0_0.length c0_0, .slice A0_1 l0_1.length c0_1] 30 ?_; intro gb209 hg w6 hbox hb; have n_ := aI (sB HB hb) (aI (aM hbox) (aI (gE HB hg) (gE HB hg))); clear HB; obtain ⟨HB, BK209, GW209, GE209⟩ := n_; (try clear hb hbox hg)) | ((with_reducible refine gate_dst (N := 4) rfl ?_); refine bE 4 #[.slice none 0 0, .slice none 0 0] 30 ?_; intro gb210 hg w7 hbox hb; have n_ := aI (kB BK209 hb) (aI (sB HB hb) (aI (aM hbox) (aI (gE HB hg) (aI (gE HB hg) (aI (nL BK209 hg) (nG BK209 hg)))))); clear BK209 HB; obtain ⟨BK209, HB, BK210, GW210, GE210, NB209_210, NB210_209⟩ := n_; (try clear hb hbox hg); have hnb8 := NB209_210.out; have hnc8 := NB210_209.out; have hcz9_0 := cZ0 BK209; have hcz9_1 := cZ1 BK209; have hfz9_0 := blk_frozen BK209.out 0; have hfz9_1 := blk_frozen BK209.out 1) | ((with_reducible refine gate_callee (f := 76) rfl ?_); refine gL (some 9) Try.func76 #[.agg #[.slice A0_0 l0_0.length c0_0, .slice A0_1 l0_1.length c0_1]] ?_; (with_reducible refine (impl_cloneDisk.calls _ _ l0_0 _ _ l0_1 t211 t214 _ ?side1 ?side2 ?side3 ?side4 A3.out).mono ?_); (case side1 => exact cS HR0_0 HB); (case side2 => exact HC0_0.out); (case side3 => exact cS HR0_1 HB); (case side4 => exact HC0_1.out); rintro e w10 ⟨v212, v215, rfl, ho0, ho1, hb⟩; refine ⟨_, rfl, ?_⟩; have n_ := aI (lR HB ho0) (aI (lR HB ho1) (aI (kB BK209 hb) (aI (kB BK210 hb) (sB HB hb)))); clear BK209 BK210 HB; obtain ⟨HO213, HO216, BK209, BK210, HB⟩ := n_; (try clear hb ho0 ho1)) | ((with_reducible refine gate_dst (N := 5) rfl ?_); refine bE 5 #[.slice none 0 0, .slice none 0 0] 30 ?_; intro gb217 hg w11 hbox hb; have n_ := aI (rB HO213 hb) (aI (rB HO216 hb) (aI (kB BK209 hb) (aI (kB BK210 hb) (aI (sB HB hb) (aI (aM hbox) (aI (gE HB hg) (aI (gE HB hg) (aI (nL BK209 hg) (aI (nG BK209 hg) (aI (nL BK210 hg) (nG BK210 hg))))))))))); clear HO213 HO216 BK209 BK210 HB; obtain ⟨HO213, HO216, BK209, BK210, HB, BK217, GW217, GE217, NB209_217, NB217_209, NB210_217, NB217_210⟩ := n_; (try clear hb hbox hg); obtain ⟨Ao12, co12, eo12⟩ := Kd.R_slice HO213.out; subst eo12; have hnb13 := NB217_209.out; have hnc13 := NB209_217.out; have hnb14 := NB217_210.out; have hnc14 := NB210_217.out; have hcz15_0 := cZ0 BK217; have hcz15_1 := cZ1 BK217; have hfz15_0 := blk_frozen BK217.out 0; have hfz15_1 := blk_frozen BK217.out 1; obtain ⟨Ao16, co16, eo16⟩ := Kd.R_slice HO216.out; subst eo16; have hcz17_0 := cZ0 BK209; have hcz17_1 := cZ1 BK209; have hfz17_0 := blk_frozen BK209.out 0; have hfz17_1 := blk_frozen BK209.out 1) | ((with_reducible refine gate_callee (f := 18) rfl ?_); refine gL (some 11) Try.func18 #[.agg #[.slice A0_0 l0_0.length c0_0, .slice A0_1 l0_1.length c0_1]] ?_; (with_reducible refine (impl_DiskOk.calls _ _ l0_0 _ _ l0_1 true _ ?side1 ?side2 ?side3 ?side4 A4.out).mono ?_); (case side1 => exact cS HR0_0 HB); (case side2 => exact HC0_0.out); (case side3 => exact cS HR0_1 HB); (case side4 => exact HC0_1.out); rintro e w18 ⟨rfl, hb⟩; refine ⟨_, rfl, ?_⟩; have n_ := aI (aM (Kd.R_below (rP (Kd.R_mono (Kd.R_far (p := ⟨gb217, 1, none⟩) (Kd.R_far (p := ⟨gb217, 0, none⟩) (Kd.R_types HO213.out BK217.out (by decide)) (fun _ hk => hk.2) (.slice Ao12 t211.length co12)) (fun _ hk => hk.2) (.slice Ao16 t214.length co16)) (fun _ h_ => h_.1))) hb)) (aI (aM (Kd.R_below (rP (Kd.R_mono (Kd.R_far (p := ⟨gb217, 1, none⟩) (Kd.R_far (p := ⟨gb217, 0, none⟩) (Kd.R_types HO216.out BK217.out (by decide)) (fun _ hk => hk.2) (.slice Ao12 t211.length co12)) (fun _ hk => hk.2) (.slice Ao16 t214.length co16)) (fun _ h_ => h_.1))) hb)) (aI (kB BK209 hb) (aI (kB BK210 hb) (aI (aM (blk_below (g := gb217) (o := .cells #[.slice Ao12 t211.length co12, .slice Ao16 t214.length co16] 30 (0, 0)) (by (with_reducible repeat (first | refine blk_drewN ?_ _ | refine blk_drew ?_ | refine blk_alloc ?_ _)); refine blk_put (cs := #[.slice Ao12 t211.length co12, .slice none 0 0]) ?_ 1 _ rfl; (with_reducible repeat (first | refine blk_drewN ?_ _ | refine blk_drew ?_ | refine blk_alloc ?_ _)); refine blk_put (cs := #[.slice none 0 0, .slice none 0 0]) ?_ 0 _ rfl; (with_reducible repeat (first | refine blk_drewN ?_ _ | refine blk_drew ?_ | refine blk_alloc ?_ _)); exact BK217.out) hb)) (sB HB hb))))); clear HO213 HO216 BK209 BK210 BK217 HB; obtain ⟨HO213, HO216, BK209, BK210, BK217, HB⟩ := n_; (try clear hb); have hcz19_0 := cZ0 BK209; have hcz19_1 := cZ1 BK209; have hfz19_0 := blk_frozen BK209.out 0; have hfz19_1 := blk_frozen BK209.out 1))
  go_loopg [17] k (fun kq v17 w' => ∃ (x17_1 : Int) (x218000_1 : List ByteArray) (u218000 : Value), v17 = .int .i64 x17_1 ∧ Aside0 (impl_settle_Fall_1.l0 l2 kq l0_1 (l0_1.length : Int) x17_1 x218000_1 t214 = some (r1, r2)) ∧ Aside0 (kq ≤ k) ∧ Aside0 (Kd.R Kd.string 9 w' w.heap.size (fun _ => True) u218000 x218000_1) ∧ Aside0 (Kd.R k65 65 w' w.heap.size (fun _ => True) (.slice Ao16 t214.length co16) t214) ∧ Aside0 (w'.heap[gb209]? = some (.cells #[(.slice A0_0 l0_0.length c0_0), (.slice A0_1 l0_1.length c0_1)] 30 (0, 0))) ∧ Aside0 (w'.heap[gb210]? = some (.cells #[(.slice none 0 0), (.slice none 0 0)] 30 (0, 0))) ∧ Aside0 (w'.heap[gb217]? = some (.cells #[u218000, (.slice Ao16 t214.length co16)] 30 (0, 0))) ∧ Aside0 (Below w.heap.size w w'))
  case atStart => exact ⟨(0), (t211), (.slice Ao12 t211.length co12), eV, H', ⟨Nat.le_refl _⟩, ⟨rP HO213.out⟩, ⟨rP HO216.out⟩, ⟨kP BK209⟩, ⟨kP BK210⟩, ⟨kP BK217⟩, ⟨bB⟩⟩
  case round =>
   clear H'
   try clear c1
   try clear p2
   try clear c5
   try clear c7
   try clear c8
   try clear c10
   try clear c13
   try clear c14
   try clear c18
   try clear hcz15_0
   try clear hcz15_1
   try clear hcz17_0
   try clear hcz17_1
   try clear hcz19_0
   try clear hcz19_1
   try clear hcz9_0
   try clear hcz9_1
   try clear hfz15_0
   try clear hfz15_1
   try clear hfz17_0
   try clear hfz17_1
   try clear hfz19_0
   try clear hfz19_1
   try clear hfz9_0
   try clear hfz9_1
   obtain ⟨x17_1, x218000_1, u218000, rfl, HA, HK1, HO_218000, HO_218001, BK209, BK210, BK217, HB⟩ := hrel
   cases gk with
   | zero => exact absurd HA.out (by simp [impl_settle_Fall_1.l0])
   | succ k1 =>
    have H := HA.out
    clear HA
    simp only [impl_settle_Fall_1.l0] at H
    by_cases c20 : x17_1 < (l0_1.length : Int)
    ·rw [if_pos c20] at H
     have c20b0 : decide (x17_1 < (l0_1.length : Int)) = true := decide_eq_true c20
     clear c20
     by_cases c21 : 0 ≤ x17_1
     ·rw [if_pos c21] at H
      have c21b0 : decide (0 ≤ x17_1) = true := decide_eq_true c21
      clear c21
      by_cases c22 : x17_1 < (l0_1.length : Int)
      ·rw [if_pos c22] at H
       have c22b0 : decide (x17_1 < (l0_1.length : Int)) = true := decide_eq_true c22
       clear c22
       replace H := Option.bind_eq_some_iff.mp H
       obtain ⟨t221, A230, H⟩ := H
       try dsimp only at H
       have A23 := aM A230
       clear A230
       by_cases c24 : t221 = true
       ·subst c24
        rw [if_pos rfl] at H
        by_cases c25 : 0 ≤ ((rd_T65 l0_1 x17_1).f0)
        ·rw [if_pos c25] at H
         have c25b0 : decide (0 ≤ ((rd_T65 l0_1 x17_1).f0)) = true := decide_eq_true c25
         clear c25
         by_cases c26 : ((rd_T65 l0_1 x17_1).f0) < (x218000_1.length : Int)
         ·rw [if_pos c26] at H
          have c26b0 : decide (((rd_T65 l0_1 x17_1).f0) < (x218000_1.length : Int)) = true := decide_eq_true c26
          clear c26
          obtain ⟨y222, hy222⟩ : ∃ y_ : List ByteArray, y_ = (x218000_1.set (((rd_T65 l0_1 x17_1).f0) : Int).toNat ((rd_T65 l0_1 x17_1).f1)) := ⟨_, rfl⟩
          replace H : (impl_settle_Fall_1.l0 l2 k1 l0_1 (l0_1.length : Int) (wrap64 (x17_1 + 1)) y222 t214) = some (r1, r2) := by first | (rw [hy222]; with_reducible exact H) | (have H2_ := (Option.bind_some _ _).symm.trans H; rw [hy222]; with_reducible exact H2_) | (have H2_ := (Option.bind_some _ _).symm.trans H; with_reducible exact H2_) | with_reducible exact H | (rw [hy222]; exact H) | exact H
          have Ny222 := aM hy222
          clear hy222
          have H' := aM H
          clear H
          have p219 : 0 ≤ (x17_1 : Int) := dT
          have q219 : x17_1 < (l0_1.length : Int) := dT
          obtain ⟨ad219, e219, hx219_0, hx219_1⟩ := at_T65 HR0_1.out x17_1 p219 q219
          cases e219
          replace hx219_0 := (HB.out.cell (World.block_lt_of_cell? w _ hx219_0)).trans hx219_0
          replace hx219_1 := (HB.out.cell (World.block_lt_of_cell? w _ hx219_1)).trans hx219_1
          replace p219 := eq_true p219
          replace q219 := eq_true q219
          go_wp2_with (first | ((with_reducible refine gate_dst (N := 7) rfl ?_); refine bE 7 #[.int .i64 0, .string (⟨#[]⟩ : ByteArray)] 65 ?_; intro gb220 hg w28 hbox hb; have n_ := aI (rB HO_218000 hb) (aI (aM (Kd.R_below (Kd.R_elderB (rP HO_218001.out) gb220 (Nat.le_of_eq hg.symm)) hb)) (aI (kB BK209 hb) (aI (kB BK210 hb) (aI (kB BK217 hb) (aI (sB HB hb) (aI (aM hbox) (aI (gE HB hg) (aI (gE HB hg) (aI (nL BK209 hg) (aI (nG BK209 hg) (aI (nL BK210 hg) (aI (nG BK210 hg) (aI (nL BK217 hg) (nG BK217 hg)))))))))))))); clear HO_218000 HO_218001 BK209 BK210 BK217 HB; obtain ⟨HO_218000, HO_218001, BK209, BK210, BK217, HB, BK220, GW220, GE220, NB209_220, NB220_209, NB210_220, NB220_210, NB217_220, NB220_217⟩ := n_; (try clear hb hbox hg); have hnb29 := NB220_209.out; have hnc29 := NB209_220.out; have hnb30 := NB220_210.out; have hnc30 := NB210_220.out; have hnb31 := NB220_217.out; have hnc31 := NB217_220.out; have hcz32_0 := cZ0 BK220; have hcz32_1 := cZ1 BK220; have hfz32_0 := blk_frozen BK220.out 0; have hfz32_1 := blk_frozen BK220.out 1) | ((with_reducible refine gate_store (t := 65) (p := 7) rfl ?_); refine store_event (t := 65) (p := 7) (v := ?vo_w33) (w1 := ((w28.setCell ⟨gb220, 0, none⟩ (.int .i64 ((rd_T65 l0_1 x17_1).f0))).setCell ⟨gb220, 1, none⟩ (.string ((rd_T65 l0_1 x17_1).f1)))) ?hg ?ho ?hn ?hr ?_; (case ho => rfl); (case hg => rfl); (case hn => rfl); (case hr => first | (go_simp; done) | (go_simp; rfl)); intro w33 hw; have n0_ : Aside0 (Kd.R Kd.string 9 w33 w.heap.size (fun _ => True) u218000 x218000_1) := ⟨(by rw [hw]; exact (rP (Kd.R_mono (Kd.R_far (p := ⟨gb220, 1, none⟩) (Kd.R_far (p := ⟨gb220, 0, none⟩) (Kd.R_types HO_218000.out BK220.out (by decide)) (fun _ hk => hk.2) (.int .i64 ((rd_T65 l0_1 x17_1).f0))) (fun _ hk => hk.2) (.string ((rd_T65 l0_1 x17_1).f1))) (fun _ hk => trivial))))⟩; have n1_ : Aside0 (Kd.R k65 65 w33 w.heap.size (fun k_ => k_ ≠ gb220) (.slice Ao16 t214.length co16) t214) := ⟨(by rw [hw]; exact (rP (Kd.R_mono (Kd.R_far (p := ⟨gb220, 1, none⟩) (Kd.R_far (p := ⟨gb220, 0, none⟩) (Kd.R_mono HO_218001.out (fun k_ hk => (⟨hk, hk.2⟩ : _ ∧ k_ ≠ gb220))) (fun _ hk => hk.2) (.int .i64 ((rd_T65 l0_1 x17_1).f0))) (fun _ hk => hk.2) (.string ((rd_T65 l0_1 x17_1).f1))) (fun _ hk => hk.1.2))))⟩; have n2_ : Aside0 (w33.heap[gb209]? = some (.cells #[.slice A0_0 l0_0.length c0_0, .slice (some ad219) l0_1.length c0_1] 30 (0, 0))) := ⟨(by rw [hw]; exact (kP BK209))⟩; have n3_ : Aside0 (w33.heap[gb210]? = some (.cells #[.slice none 0 0, .slice none 0 0] 30 (0, 0))) := ⟨(by rw [hw]; exact (kP BK210))⟩; have n4_ : Aside0 (w33.heap[gb217]? = some (.cells #[u218000, .slice Ao16 t214.length co16] 30 (0, 0))) := ⟨(by rw [hw]; exact (kP BK217))⟩; have n5_ : Aside0 (w33.heap[gb220]? = some (.cells #[.int .i64 ((rd_T65 l0_1 x17_1).f0), .string ((rd_T65 l0_1 x17_1).f1)] 65 (0, 0))) := ⟨(by rw [hw]; exact (by (with_reducible repeat (first | refine blk_drewN ?_ _ | refine blk_drew ?_ | refine blk_alloc ?_ _)); refine blk_put (cs := #[.int .i64 ((rd_T65 l0_1 x17_1).f0), .string (⟨#[]⟩ : ByteArray)]) ?_ 1 _ rfl; (with_reducible repeat (first | refine blk_drewN ?_ _ | refine blk_drew ?_ | refine blk_alloc ?_ _)); refine blk_put (cs := #[.int .i64 0, .string (⟨#[]⟩ : ByteArray)]) ?_ 0 _ rfl; (with_reducible repeat (first | refine blk_drewN ?_ _ | refine blk_drew ?_ | refine blk_alloc ?_ _)); exact BK220.out))⟩; have n6_ : Aside0 (Below w.heap.size w w33) := ⟨(by rw [hw]; exact bB)⟩; clear hw; clear HO_218000; clear HO_218001; clear BK209; clear BK210; clear BK217; clear BK220; clear HB; have HO_218000 := n0_; have HO_218001 := n1_; have BK209 := n2_; have BK210 := n3_; have BK217 := n4_; have BK220 := n5_; have HB := n6_; clear n0_ n1_ n2_ n3_ n4_ n5_ n6_) | (go_at_call 80; (with_reducible refine (impl_Fall_1.calls x17_1 gk A2 c2 l2 true _ (blk_below HK2.out bB) (Kd.C_below HR2.out bB) A23.out).mono ?_); rintro e w' ⟨rfl, ⟨nd, rfl⟩⟩; (try (rw [drewN_self w33]; generalize hq_ : World.drewN w33 _ = w33; have n0_ : Aside0 (Kd.R Kd.string 9 w33 w.heap.size (fun _ => True) u218000 x218000_1) := ⟨by rw [← hq_]; exact (rP HO_218000.out)⟩; have n1_ : Aside0 (Kd.R k65 65 w33 w.heap.size (fun k_ => k_ ≠ gb220) (.slice Ao16 t214.length co16) t214) := ⟨by rw [← hq_]; exact (rP HO_218001.out)⟩; have n2_ : Aside0 (w33.heap[gb209]? = some (.cells #[.slice A0_0 l0_0.length c0_0, .slice (some ad219) l0_1.length c0_1] 30 (0, 0))) := ⟨by rw [← hq_]; exact (kP BK209)⟩; have n3_ : Aside0 (w33.heap[gb210]? = some (.cells #[.slice none 0 0, .slice none 0 0] 30 (0, 0))) := ⟨by rw [← hq_]; exact (kP BK210)⟩; have n4_ : Aside0 (w33.heap[gb217]? = some (.cells #[u218000, .slice Ao16 t214.length co16] 30 (0, 0))) := ⟨by rw [← hq_]; exact (kP BK217)⟩; have n5_ : Aside0 (w33.heap[gb220]? = some (.cells #[.int .i64 ((rd_T65 l0_1 x17_1).f0), .string ((rd_T65 l0_1 x17_1).f1)] 65 (0, 0))) := ⟨by rw [← hq_]; exact (kP BK220)⟩; have n6_ : Aside0 (Below w.heap.size w w33) := ⟨by rw [← hq_]; exact bB⟩; clear HO_218000 HO_218001 BK209 BK210 BK217 BK220 HB hq_; have HO_218000 := n0_; have HO_218001 := n1_; have BK209 := n2_; have BK210 := n3_; have BK217 := n4_; have BK220 := n5_; have HB := n6_; clear n0_ n1_ n2_ n3_ n4_ n5_ n6_)); have hnb34 := NB217_209.out; have hnc34 := NB209_217.out; have hnb35 := NB217_210.out; have hnc35 := NB210_217.out; have hcz36_0 := cZ0 BK217; have hcz36_1 := cZ1 BK217; have hfz36_0 := blk_frozen BK217.out 0; have hfz36_1 := blk_frozen BK217.out 1; have hcz37_0 : w33.cell? ⟨gb220, 0, none⟩ = some (.int .i64 ((rd_T65 l0_1 x17_1).f0)) := (blk_cell BK220.out 0).trans rfl; have hcz37_1 : w33.cell? ⟨gb220, 1, none⟩ = some (.string ((rd_T65 l0_1 x17_1).f1)) := (blk_cell BK220.out 1).trans rfl; have hfz37_0 := blk_frozen BK220.out 0; have hfz37_1 := blk_frozen BK220.out 1; have p27 : 0 ≤ (((rd_T65 l0_1 x17_1).f0) : Int) := dT; have q27 : (((rd_T65 l0_1 x17_1).f0) : Int) < ((x218000_1.length : Int) : Int) := dT; obtain ⟨go27, co27, eo27, gb27, gl27, cl27, HG27⟩ := Kd.R_form HO_218000.out (by omega); (first | cases eo27 | (injection eo27 with ea_ en_ ec_; (first | subst ea_ | (injection ea_ with ea_; subst ea_)); subst ec_; clear en_)); have GB27 := aM gb27; have GG27 := aM HG27; clear gb27 gl27 HG27; obtain ⟨hx27_0, hf27_0⟩ := Kd.R_celln (⟨#[]⟩ : ByteArray) HO_218000.out (((rd_T65 l0_1 x17_1).f0) : Int) p27 q27; replace p27 := eq_true p27; replace q27 := eq_true q27; obtain ⟨hy38_, hz38_⟩ := Kd.R_celln (⟨#[]⟩ : ByteArray) HO_218000.out (((rd_T65 l0_1 x17_1).f0) : Int) (dT) (dT); have HP38 := Kd.R_putg HO_218000.out (((rd_T65 l0_1 x17_1).f0) : Int) ((rd_T65 l0_1 x17_1).f1)) | ((with_reducible refine gate_store (t := 9) (p := 31) rfl ?_); refine store_event (t := 9) (p := 31) (v := ?vo_w39) (w1 := (w33.setCell ⟨go27, (((rd_T65 l0_1 x17_1).f0) : Int).toNat, none⟩ (.string ((rd_T65 l0_1 x17_1).f1)))) ?hg ?ho ?hn ?hr ?_; (case ho => rfl); (case hg => rfl); (case hn => rfl); (case hr => first | (go_simp; done) | (go_simp; rfl)); intro w39 hw; have hg : w33.grownBy w39 (some go27) := (by rw [hw]; exact HP38.2); have hp_ : Kd.R Kd.string 9 w39 w.heap.size (fun _ => True) (.slice (some ⟨go27, 0, none⟩) x218000_1.length co27) y222 := (by rw [hw, Ny222.out]; exact HP38.1); clear HP38; have n_ := aI (aM (hp_)) (aI (aM (Kd.R_over' (v := (.slice (some ⟨go27, 0, none⟩) x218000_1.length co27)) (rP HO_218001.out) (Kd.R_typed HO_218000.out) (by decide) hg)) (aI (aM (blk_grown (g := gb209) (o := .cells #[.slice A0_0 l0_0.length c0_0, .slice (some ad219) l0_1.length c0_1] 30 (0, 0)) (kP BK209) hg (Kd.R_ne HO_218000.out BK209.out (by decide)))) (aI (aM (blk_grown (g := gb210) (o := .cells #[.slice none 0 0, .slice none 0 0] 30 (0, 0)) (kP BK210) hg (Kd.R_ne HO_218000.out BK210.out (by decide)))) (aI (aM (blk_grown (g := gb217) (o := .cells #[.slice (some ⟨go27, 0, none⟩) x218000_1.length co27, .slice Ao16 t214.length co16] 30 (0, 0)) (kP BK217) hg (Kd.R_ne HO_218000.out BK217.out (by decide)))) (aI (aM (blk_grown (g := gb220) (o := .cells #[.int .i64 ((rd_T65 l0_1 x17_1).f0), .string ((rd_T65 l0_1 x17_1).f1)] 65 (0, 0)) (kP BK220) hg (Kd.R_ne HO_218000.out BK220.out (by decide)))) (aM ((by rw [hw]; exact below_set (HB.out) GB27.out : Below w.heap.size w w39)))))))); clear HO_218000 HO_218001 BK209 BK210 BK217 BK220 HB; obtain ⟨HO_218000, HO_218001, BK209, BK210, BK217, BK220, HB⟩ := n_; (try clear hw)))
          go_roundg k1
          case measure => have := HK1.out; omega
          case rel => exact ⟨(wrap64 (x17_1 + 1)), (y222), (.slice (some ⟨go27, 0, none⟩) x218000_1.length co27), eV, H', ⟨by have := HK1.out; omega⟩, ⟨rP HO_218000.out⟩, ⟨rP (Kd.R_mono HO_218001.out (fun _ hk => trivial))⟩, ⟨kP BK209⟩, ⟨kP BK210⟩, ⟨kP BK217⟩, ⟨bB⟩⟩
         ·rw [if_neg c26] at H
          exact absurd H (by simp)
        ·rw [if_neg c25] at H
         exact absurd H (by simp)
       ·replace c24 := Bool.eq_false_iff.mpr c24
        subst c24
        rw [if_neg (show ¬ (false = true) by decide)] at H
        have H' := aM H
        clear H
        have p219 : 0 ≤ (x17_1 : Int) := dT
        have q219 : x17_1 < (l0_1.length : Int) := dT
        obtain ⟨ad219, e219, hx219_0, hx219_1⟩ := at_T65 HR0_1.out x17_1 p219 q219
        cases e219
        replace hx219_0 := (HB.out.cell (World.block_lt_of_cell? w _ hx219_0)).trans hx219_0
        replace hx219_1 := (HB.out.cell (World.block_lt_of_cell? w _ hx219_1)).trans hx219_1
        replace p219 := eq_true p219
        replace q219 := eq_true q219
        go_wp2_with (first | ((with_reducible refine gate_dst (N := 7) rfl ?_); refine bE 7 #[.int .i64 0, .string (⟨#[]⟩ : ByteArray)] 65 ?_; intro gb220 hg w40 hbox hb; have n_ := aI (rB HO_218000 hb) (aI (aM (Kd.R_below (Kd.R_elderB (rP HO_218001.out) gb220 (Nat.le_of_eq hg.symm)) hb)) (aI (kB BK209 hb) (aI (kB BK210 hb) (aI (kB BK217 hb) (aI (sB HB hb) (aI (aM hbox) (aI (gE HB hg) (aI (gE HB hg) (aI (nL BK209 hg) (aI (nG BK209 hg) (aI (nL BK210 hg) (aI (nG BK210 hg) (aI (nL BK217 hg) (nG BK217 hg)))))))))))))); clear HO_218000 HO_218001 BK209 BK210 BK217 HB; obtain ⟨HO_218000, HO_218001, BK209, BK210, BK217, HB, BK220, GW220, GE220, NB209_220, NB220_209, NB210_220, NB220_210, NB217_220, NB220_217⟩ := n_; (try clear hb hbox hg); have hnb41 := NB220_209.out; have hnc41 := NB209_220.out; have hnb42 := NB220_210.out; have hnc42 := NB210_220.out; have hnb43 := NB220_217.out; have hnc43 := NB217_220.out; have hcz44_0 := cZ0 BK220; have hcz44_1 := cZ1 BK220; have hfz44_0 := blk_frozen BK220.out 0; have hfz44_1 := blk_frozen BK220.out 1) | (go_at_call 80; (with_reducible refine (impl_Fall_1.calls x17_1 gk A2 c2 l2 false _ (blk_below HK2.out bB) (Kd.C_below HR2.out bB) A23.out).mono ?_); rintro e w' ⟨rfl, ⟨nd, rfl⟩⟩))
        go_roundg k1
        case measure => have := HK1.out; omega
        case rel => exact ⟨(wrap64 (x17_1 + 1)), (x218000_1), (u218000), eV, H', ⟨by have := HK1.out; omega⟩, ⟨rP (Kd.R_mono (Kd.R_far (p := ⟨gb220, 1, none⟩) (Kd.R_far (p := ⟨gb220, 0, none⟩) (Kd.R_types HO_218000.out BK220.out (by decide)) (fun _ hk => hk.2) (.int .i64 ((rd_T65 l0_1 x17_1).f0))) (fun _ hk => hk.2) (.string ((rd_T65 l0_1 x17_1).f1))) (fun _ hk => trivial))⟩, ⟨rP (Kd.R_mono (Kd.R_far (p := ⟨gb220, 1, none⟩) (Kd.R_far (p := ⟨gb220, 0, none⟩) (Kd.R_mono HO_218001.out (fun k_ hk => (⟨hk, hk.2⟩ : _ ∧ k_ ≠ gb220))) (fun _ hk => hk.2) (.int .i64 ((rd_T65 l0_1 x17_1).f0))) (fun _ hk => hk.2) (.string ((rd_T65 l0_1 x17_1).f1))) (fun _ hk => trivial))⟩, ⟨kP BK209⟩, ⟨kP BK210⟩, ⟨kP BK217⟩, ⟨bB⟩⟩
      ·rw [if_neg c22] at H
       exact absurd H (by simp)
     ·rw [if_neg c21] at H
      exact absurd H (by simp)
    ·rw [if_neg c20] at H
     have c20b0 : decide (x17_1 < (l0_1.length : Int)) = false := decide_eq_false c20
     clear c20
     simp only [Option.some.injEq, Prod.mk.injEq] at H
     obtain ⟨rfl, rfl⟩ := H
     have hnb45 := NB217_209.out
     have hnc45 := NB209_217.out
     have hnb46 := NB217_210.out
     have hnc46 := NB210_217.out
     have hcz47_0 := cZ0 BK217
     have hcz47_1 := cZ1 BK217
     have hfz47_0 := blk_frozen BK217.out 0
     have hfz47_1 := blk_frozen BK217.out 1
     obtain ⟨Ao48, co48, eo48⟩ := Kd.R_slice HO_218000.out
     subst eo48
     have hnb49 := NB210_209.out
     have hnc49 := NB209_210.out
     have hcz50_0 := cZ0 BK210
     have hcz50_1 := cZ1 BK210
     have hfz50_0 := blk_frozen BK210.out 0
     have hfz50_1 := blk_frozen BK210.out 1
     go_wp2
     refine bodyPost_ret (results_cell_row rfl _ _ gb210 30 #[.slice Ao48 x218000_1.length co48, .slice none 0 0] (0, 0) _ rfl (by (with_reducible repeat (first | refine blk_drewN ?_ _ | refine blk_drew ?_ | refine blk_alloc ?_ _)); refine blk_put (cs := #[.slice Ao48 x218000_1.length co48, .slice none 0 0]) ?_ 1 _ rfl; (with_reducible repeat (first | refine blk_drewN ?_ _ | refine blk_drew ?_ | refine blk_alloc ?_ _)); refine blk_put (cs := #[.slice none 0 0, .slice none 0 0]) ?_ 0 _ rfl; (with_reducible repeat (first | refine blk_drewN ?_ _ | refine blk_drew ?_ | refine blk_alloc ?_ _)); refine blk_far ?_ NB210_217.out _; (with_reducible repeat (first | refine blk_drewN ?_ _ | refine blk_drew ?_ | refine blk_alloc ?_ _)); exact BK210.out) Try.underlying30 rfl (by kernel_rfl)) rfl ?_
     exact ⟨_, _, eW, by (with_reducible repeat (first | apply Kd.R_alloc | apply Kd.R_drewN | apply Kd.R_drew)); exact Kd.R_mono (Kd.R_far (p := ⟨gb210, 1, none⟩) (Kd.R_far (p := ⟨gb210, 0, none⟩) (Kd.R_far (p := ⟨gb217, 1, none⟩) (Kd.R_types (Kd.R_types HO_218000.out BK217.out (by decide)) BK210.out (by decide)) (fun _ hk => hk.1.2) (.slice none 0 0)) (fun _ hk => hk.2) (.slice Ao48 x218000_1.length co48)) (fun _ hk => hk.2) (.slice none 0 0)) (fun _ hk => trivial), by first | exact Kd.R_nil _ _ _ _ _ | exact Kd.N_nil _ _ _ _ _ | exact Kd.V_nil _ _ _ _ _ | exact Kd.Q_nil _ _ _ _ _ | exact Kd.S_nil _ _ _ _ _, bB⟩
 replace c5 := Bool.eq_false_iff.mpr c5
 subst c5
 rw [if_neg (show ¬ (false = true) by decide)] at H
 simp only [Option.some.injEq, Prod.mk.injEq] at H
 obtain ⟨rfl, rfl⟩ := H
 go_enter Try.func78, Try.ntmps78
 go_wp2_with (first | ((with_reducible refine gate_dst (N := 2) rfl ?_); refine bE 2 #[.slice A0_0 l0_0.length c0_0, .slice A0_1 l0_1.length c0_1] 30 ?_; intro gb209 hg w51 hbox hb; have n_ := aI (sB HB hb) (aI (aM hbox) (aI (gE HB hg) (gE HB hg))); clear HB; obtain ⟨HB, BK209, GW209, GE209⟩ := n_; (try clear hb hbox hg)) | ((with_reducible refine gate_dst (N := 4) rfl ?_); refine bE 4 #[.slice none 0 0, .slice none 0 0] 30 ?_; intro gb210 hg w52 hbox hb; have n_ := aI (kB BK209 hb) (aI (sB HB hb) (aI (aM hbox) (aI (gE HB hg) (aI (gE HB hg) (aI (nL BK209 hg) (nG BK209 hg)))))); clear BK209 HB; obtain ⟨BK209, HB, BK210, GW210, GE210, NB209_210, NB210_209⟩ := n_; (try clear hb hbox hg); have hnb53 := NB209_210.out; have hnc53 := NB210_209.out; have hcz54_0 := cZ0 BK209; have hcz54_1 := cZ1 BK209; have hfz54_0 := blk_frozen BK209.out 0; have hfz54_1 := blk_frozen BK209.out 1) | ((with_reducible refine gate_callee (f := 76) rfl ?_); refine gL (some 9) Try.func76 #[.agg #[.slice A0_0 l0_0.length c0_0, .slice A0_1 l0_1.length c0_1]] ?_; (with_reducible refine (impl_cloneDisk.calls _ _ l0_0 _ _ l0_1 t211 t214 _ ?side1 ?side2 ?side3 ?side4 A3.out).mono ?_); (case side1 => exact cS HR0_0 HB); (case side2 => exact HC0_0.out); (case side3 => exact cS HR0_1 HB); (case side4 => exact HC0_1.out); rintro e w55 ⟨v212, v215, rfl, ho0, ho1, hb⟩; refine ⟨_, rfl, ?_⟩; have n_ := aI (lR HB ho0) (aI (lR HB ho1) (aI (kB BK209 hb) (aI (kB BK210 hb) (sB HB hb)))); clear BK209 BK210 HB; obtain ⟨HO213, HO216, BK209, BK210, HB⟩ := n_; (try clear hb ho0 ho1)) | ((with_reducible refine gate_dst (N := 5) rfl ?_); refine bE 5 #[.slice none 0 0, .slice none 0 0] 30 ?_; intro gb217 hg w56 hbox hb; have n_ := aI (rB HO213 hb) (aI (rB HO216 hb) (aI (kB BK209 hb) (aI (kB BK210 hb) (aI (sB HB hb) (aI (aM hbox) (aI (gE HB hg) (aI (gE HB hg) (aI (nL BK209 hg) (aI (nG BK209 hg) (aI (nL BK210 hg) (nG BK210 hg))))))))))); clear HO213 HO216 BK209 BK210 HB; obtain ⟨HO213, HO216, BK209, BK210, HB, BK217, GW217, GE217, NB209_217, NB217_209, NB210_217, NB217_210⟩ := n_; (try clear hb hbox hg); obtain ⟨Ao57, co57, eo57⟩ := Kd.R_slice HO213.out; subst eo57; have hnb58 := NB217_209.out; have hnc58 := NB209_217.out; have hnb59 := NB217_210.out; have hnc59 := NB210_217.out; have hcz60_0 := cZ0 BK217; have hcz60_1 := cZ1 BK217; have hfz60_0 := blk_frozen BK217.out 0; have hfz60_1 := blk_frozen BK217.out 1; obtain ⟨Ao61, co61, eo61⟩ := Kd.R_slice HO216.out; subst eo61; have hcz62_0 := cZ0 BK209; have hcz62_1 := cZ1 BK209; have hfz62_0 := blk_frozen BK209.out 0; have hfz62_1 := blk_frozen BK209.out 1) | ((with_reducible refine gate_callee (f := 18) rfl ?_); refine gL (some 11) Try.func18 #[.agg #[.slice A0_0 l0_0.length c0_0, .slice A0_1 l0_1.length c0_1]] ?_; (with_reducible refine (impl_DiskOk.calls _ _ l0_0 _ _ l0_1 false _ ?side1 ?side2 ?side3 ?side4 A4.out).mono ?_); (case side1 => exact cS HR0_0 HB); (case side2 => exact HC0_0.out); (case side3 => exact cS HR0_1 HB); (case side4 => exact HC0_1.out); rintro e w63 ⟨rfl, hb⟩; refine ⟨_, rfl, ?_⟩; have n_ := aI (aM (Kd.R_below (rP (Kd.R_mono (Kd.R_far (p := ⟨gb217, 1, none⟩) (Kd.R_far (p := ⟨gb217, 0, none⟩) (Kd.R_types HO213.out BK217.out (by decide)) (fun _ hk => hk.2) (.slice Ao57 t211.length co57)) (fun _ hk => hk.2) (.slice Ao61 t214.length co61)) (fun _ h_ => h_.1))) hb)) (aI (aM (Kd.R_below (rP (Kd.R_mono (Kd.R_far (p := ⟨gb217, 1, none⟩) (Kd.R_far (p := ⟨gb217, 0, none⟩) (Kd.R_types HO216.out BK217.out (by decide)) (fun _ hk => hk.2) (.slice Ao57 t211.length co57)) (fun _ hk => hk.2) (.slice Ao61 t214.length co61)) (fun _ h_ => h_.1))) hb)) (aI (kB BK209 hb) (aI (kB BK210 hb) (aI (aM (blk_below (g := gb217) (o := .cells #[.slice Ao57 t211.length co57, .slice Ao61 t214.length co61] 30 (0, 0)) (by (with_reducible repeat (first | refine blk_drewN ?_ _ | refine blk_drew ?_ | refine blk_alloc ?_ _)); refine blk_put (cs := #[.slice Ao57 t211.length co57, .slice none 0 0]) ?_ 1 _ rfl; (with_reducible repeat (first | refine blk_drewN ?_ _ | refine blk_drew ?_ | refine blk_alloc ?_ _)); refine blk_put (cs := #[.slice none 0 0, .slice none 0 0]) ?_ 0 _ rfl; (with_reducible repeat (first | refine blk_drewN ?_ _ | refine blk_drew ?_ | refine blk_alloc ?_ _)); exact BK217.out) hb)) (sB HB hb))))); clear HO213 HO216 BK209 BK210 BK217 HB; obtain ⟨HO213, HO216, BK209, BK210, BK217, HB⟩ := n_; (try clear hb); have hcz64_0 := cZ0 BK217; have hcz64_1 := cZ1 BK217; have hfz64_0 := blk_frozen BK217.out 0; have hfz64_1 := blk_frozen BK217.out 1; have hcz65_0 := cZ0 BK210; have hcz65_1 := cZ1 BK210; have hfz65_0 := blk_frozen BK210.out 0; have hfz65_1 := blk_frozen BK210.out 1))
 refine bodyPost_ret (results_cell_row rfl _ _ gb210 30 #[.slice Ao57 t211.length co57, .slice Ao61 t214.length co61] (0, 0) _ rfl (by (with_reducible repeat (first | refine blk_drewN ?_ _ | refine blk_drew ?_ | refine blk_alloc ?_ _)); refine blk_put (cs := #[.slice Ao57 t211.length co57, .slice none 0 0]) ?_ 1 _ rfl; (with_reducible repeat (first | refine blk_drewN ?_ _ | refine blk_drew ?_ | refine blk_alloc ?_ _)); refine blk_put (cs := #[.slice none 0 0, .slice none 0 0]) ?_ 0 _ rfl; (with_reducible repeat (first | refine blk_drewN ?_ _ | refine blk_drew ?_ | refine blk_alloc ?_ _)); exact BK210.out) Try.underlying30 rfl (by kernel_rfl)) rfl ?_
 exact ⟨_, _, eW, by (with_reducible repeat (first | apply Kd.R_alloc | apply Kd.R_drewN | apply Kd.R_drew)); exact Kd.R_mono (Kd.R_far (p := ⟨gb210, 1, none⟩) (Kd.R_far (p := ⟨gb210, 0, none⟩) (Kd.R_types HO213.out BK210.out (by decide)) (fun _ hk => hk.2) (.slice Ao57 t211.length co57)) (fun _ hk => hk.2) (.slice Ao61 t214.length co61)) (fun _ hk => trivial), by (with_reducible repeat (first | apply Kd.R_alloc | apply Kd.R_drewN | apply Kd.R_drew)); exact Kd.R_mono (Kd.R_far (p := ⟨gb210, 1, none⟩) (Kd.R_far (p := ⟨gb210, 0, none⟩) (Kd.R_types HO216.out BK210.out (by decide)) (fun _ hk => hk.2) (.slice Ao57 t211.length co57)) (fun _ hk => hk.2) (.slice Ao61 t214.length co61)) (fun _ hk => trivial), bB⟩
def impl_Fall.f (k : Nat) (l0_0 : List ByteArray) (l0_1 : List (S65)) (l1 : List Bool) : Option (List ByteArray × (List (S65))) := impl_settle_Fall_1.f l1 k l0_0 l0_1
theorem impl_Fall.mono : ∀ a0 a1 a2 k, LeO (impl_Fall.f k a0 a1 a2) (impl_Fall.f (k + 1) a0 a1 a2) := fun a0 a1 a2 k => impl_settle_Fall_1.mono a2 a0 a1 k
set_option maxHeartbeats 8000000 in
set_option maxRecDepth 100000 in
theorem impl_Fall.calls (k : Nat) (A0_0 : Option Addr) (c0_0 : Nat) (l0_0 : List ByteArray) (A0_1 : Option Addr) (c0_1 : Nat) (l0_1 : List (S65)) (A1 : Option Addr) (c1 : Nat) (l1 : List Bool) (r1 : List ByteArray) (r2 : List (S65)) (w : World) (hr0_0 : Kd.C Kd.string w A0_0 l0_0.length l0_0) (hc0_0 : l0_0.length ≤ c0_0) (hr0_1 : Kd.C k65 w A0_1 l0_1.length l0_1) (hc0_1 : l0_1.length ≤ c0_1) (hr1 : Kd.C Kd.bool w A1 l1.length l1) (hc1 : l1.length ≤ c1) (h : impl_Fall.f k l0_0 l0_1 l1 = some (r1, r2)) :
  Calls Try.prog 35 #[.agg #[.slice A0_0 l0_0.length c0_0, .slice A0_1 l0_1.length c0_1], .slice A1 l1.length c1] w fun e w' => ∃ v0_ v1_ : Value, e = .returned (.agg #[v0_, v1_]) ∧ Kd.R Kd.string 9 w' w.heap.size (fun _ => True) v0_ r1 ∧ Kd.R k65 65 w' w.heap.size (fun _ => True) v1_ r2 ∧ Below w.heap.size w w' := by
 have hu30 := Try.underlying30
 have HR0_0 := aM hr0_0
 have HC0_0 := aM hc0_0
 have HR0_1 := aM hr0_1
 have HC0_1 := aM hc0_1
 have HR1 := aM hr1
 have HB := aM (Below.refl w.heap.size w)
 have HH := aM (show impl_settle_Fall_1.f l1 k l0_0 l0_1 = some (r1, r2) from h)
 clear hr0_0 hc0_0 hr0_1 hc0_1 hr1 hc1 h
 go_enter Try.func35, Try.ntmps35
 go_wp2_with (first | ((with_reducible refine gate_dst (N := 2) rfl ?_); refine bE 2 #[.slice A0_0 l0_0.length c0_0, .slice A0_1 l0_1.length c0_1] 30 ?_; intro g1 hg w3 hbox hb; have n_ := aI (sB HB hb) (aI (aM hbox) (gE HB hg)); clear HB; obtain ⟨HB, BKg1, GEg1⟩ := n_; (try clear hb hbox hg)) | ((with_reducible refine gate_dst (N := 3) rfl ?_); refine bE 3 #[.slice A1 l1.length c1] 45 ?_; intro g2 hg w4 hbox hb; have n0_ := sB HB hb; have n1_ := aM hbox; have n2_ := gE HB hg; have m0_ := aM (blk_below BKg1.out hb); clear HB; clear BKg1; have HB := n0_; have BKg2 := n1_; have GEg2 := n2_; have BKg1 := m0_; clear n0_ n1_ n2_ m0_; clear hb hbox hg) | ((with_reducible refine gate_dst (N := 4) rfl ?_); refine bE 4 #[.slice none 0 0, .slice none 0 0] 30 ?_; intro g3 hg w5 hbox hb; have n0_ := sB HB hb; have n1_ := aM hbox; have n2_ := gE HB hg; have m0_ := aM (blk_below BKg1.out hb); have m1_ := aM (blk_below BKg2.out hb); clear HB; clear BKg1; clear BKg2; have HB := n0_; have BKg3 := n1_; have GEg3 := n2_; have BKg1 := m0_; have BKg2 := m1_; clear n0_ n1_ n2_ m0_ m1_; clear hb hbox hg; have hcz6_0 := cZ0 BKg1; have hcz6_1 := cZ1 BKg1) | ((with_reducible refine gate_callee (f := 78) rfl ?_); refine gL (some 7) Try.func78 #[.agg #[.slice A0_0 l0_0.length c0_0, .slice A0_1 l0_1.length c0_1], .func (.func 80) #[] #[.pointer (some ⟨g2, 0, none⟩)]] ?_; (with_reducible refine (impl_settle_Fall_1.calls g2 A1 c1 l1 k _ _ l0_0 _ _ l0_1 r1 r2 _ BKg2.out ?side0 ?side1 ?side2 ?side3 ?side4 HH.out).mono ?_); (case side0 => exact (Kd.C_below HR1.out HB.out)); (case side1 => exact (Kd.C_below HR0_0.out HB.out)); (case side2 => exact HC0_0.out); (case side3 => exact (Kd.C_below HR0_1.out HB.out)); (case side4 => exact HC0_1.out); rintro e w7 ⟨v226, v229, rfl, ho0, ho1, hb⟩; refine ⟨_, rfl, ?_⟩; have n0_ := lR HB ho0; have n1_ := lR HB ho1; have n3_ := aM (blk_below BKg3.out hb); have n4_ := sB HB hb; clear BKg1; clear BKg2; clear BKg3; clear HB; have HO227 := n0_; have HO230 := n1_; have BKg3 := n3_; have HB := n4_; clear n0_ n1_ n3_ n4_; clear hb ho0 ho1; obtain ⟨Ao8, co8, eo8⟩ := Kd.R_slice HO227.out; subst eo8; have hcz9_0 := cZ0 BKg3; have hcz9_1 := cZ1 BKg3; have hfz9_0 := blk_frozen BKg3.out 0; have hfz9_1 := blk_frozen BKg3.out 1; obtain ⟨Ao10, co10, eo10⟩ := Kd.R_slice HO230.out; subst eo10))
 refine bodyPost_ret (results_cell_row rfl _ _ g3 30 #[.slice Ao8 r1.length co8, .slice Ao10 r2.length co10] (0, 0) _ rfl (by (with_reducible repeat (first | refine blk_drewN ?_ _ | refine blk_drew ?_ | refine blk_alloc ?_ _)); refine blk_put (cs := #[.slice Ao8 r1.length co8, .slice none 0 0]) ?_ 1 _ rfl; (with_reducible repeat (first | refine blk_drewN ?_ _ | refine blk_drew ?_ | refine blk_alloc ?_ _)); refine blk_put (cs := #[.slice none 0 0, .slice none 0 0]) ?_ 0 _ rfl; (with_reducible repeat (first | refine blk_drewN ?_ _ | refine blk_drew ?_ | refine blk_alloc ?_ _)); exact BKg3.out) Try.underlying30 rfl (by kernel_rfl)) rfl ?_
 exact ⟨_, _, eW, by (with_reducible repeat (first | apply Kd.R_alloc | apply Kd.R_drewN | apply Kd.R_drew)); exact Kd.R_mono (Kd.R_far (p := ⟨g3, 1, none⟩) (Kd.R_far (p := ⟨g3, 0, none⟩) (Kd.R_types HO227.out BKg3.out (by decide)) (fun _ hk => hk.2) (.slice Ao8 r1.length co8)) (fun _ hk => hk.2) (.slice Ao10 r2.length co10)) (fun _ hk => trivial), by (with_reducible repeat (first | apply Kd.R_alloc | apply Kd.R_drewN | apply Kd.R_drew)); exact Kd.R_mono (Kd.R_far (p := ⟨g3, 1, none⟩) (Kd.R_far (p := ⟨g3, 0, none⟩) (Kd.R_types HO230.out BKg3.out (by decide)) (fun _ hk => hk.2) (.slice Ao8 r1.length co8)) (fun _ hk => hk.2) (.slice Ao10 r2.length co10)) (fun _ hk => trivial), bB⟩


/-! ### laws_big: function 46 -/
def laws_big.f (l0 : List Int) : Option (Bool) := some (decide ((l0.length : Int) > 1048576))
set_option maxHeartbeats 8000000 in
set_option maxRecDepth 100000 in
theorem laws_big.calls (A0 : Option Addr) (c0 : Nat) (l0 : List Int) (r : Bool) (w : World) (hr0 : Kd.C (Kd.int .u8) w A0 l0.length l0) (hc0 : l0.length ≤ c0) (h : laws_big.f l0 = some r) :
  Calls Try.prog 46 #[.slice A0 l0.length c0] w fun e w' => e = .returned (.bool r) ∧ Drawn0 w w' := by
 have HR0 := aM hr0
 have HC0 := aM hc0
 clear hr0 hc0
 unfold laws_big.f at h
 have H := h
 clear h
 obtain rfl := Option.some.inj H
 go_enter Try.func46, Try.ntmps46
 go_wp2
 go_ret
 exact ⟨by first | rfl | (simp; done) | (simp [*]; done), by repeat (first | exact Drawn0.refl _ | apply Drawn0.step)⟩

/-- A state of type 123 at block g of W; what its slices lead to came in by w0. -/
def IsS123 (w0 W : World) (g : Nat) (f0 : List Int) (f1 : Int) (f2 : Int) : Prop := ∃ A0 c0, W.heap[g]? = some (.cells #[.slice A0 f0.length c0, .int .i64 f1, .int .i64 f2] 123 (0, 0)) ∧ w0.heap.size ≤ g ∧ Kd.C (Kd.int .u8) w0 A0 f0.length f0
theorem IsS123.grown {w0 W : World} {g : Nat} {f0 : List Int} {f1 : Int} {f2 : Int} {W1 : World} {row : Option Nat} (h : IsS123 w0 W g f0 f1 f2) (hw : W.grownBy W1 row) (hne : some g ≠ row) : IsS123 w0 W1 g f0 f1 f2 := by
 obtain ⟨A0, c0, hb, hg, hr0⟩ := h
 exact ⟨A0, c0, blk_grown hb hw hne, hg, hr0⟩
theorem IsS123.own_neN {w0 W : World} {g : Nat} {f0 : List Int} {f1 : Int} {f2 : Int} {α : Type} {d : Kd α} {e : Nat} {base : Nat} {ok : Nat → Prop} {v : Value} {xs : List α} (h : IsS123 w0 W g f0 f1 f2) (ho : Kd.N d e W base ok v xs) (ht : e ≠ 123) : some g ≠ v.ownBlock := by
 obtain ⟨A0, c0, hb, hg, hr0⟩ := h
 exact Kd.N_ne ho hb ht
theorem IsS123.fresh {w0 W : World} {g : Nat} {f0 : List Int} {f1 : Int} {f2 : Int} (h : IsS123 w0 W g f0 f1 f2) : ∀ k, W.heap.size ≤ k → k ≠ g := by
 obtain ⟨A0, c0, hb, hg, hr0⟩ := h
 exact Kd.freshB hb
theorem IsS123.kept {w0 W : World} {g : Nat} {f0 : List Int} {f1 : Int} {f2 : Int} {W1 : World} {S : Nat → Prop} (h : IsS123 w0 W g f0 f1 f2) (hk : Kept W W1 S) (hne : ¬ S g) : IsS123 w0 W1 g f0 f1 f2 := by
 obtain ⟨A0, c0, hb, hg, hr0⟩ := h
 exact ⟨A0, c0, blk_kept hb hk hne, hg, hr0⟩
theorem IsS123.below {w0 W : World} {g : Nat} {f0 : List Int} {f1 : Int} {f2 : Int} {W1 : World} (h : IsS123 w0 W g f0 f1 f2) (hw : Below W.heap.size W W1) : IsS123 w0 W1 g f0 f1 f2 := h.grown (grown_of_below hw none) (by simp)
theorem IsS123.alloc {w0 W : World} {g : Nat} {f0 : List Int} {f1 : Int} {f2 : Int} (h : IsS123 w0 W g f0 f1 f2) (o : Obj) : IsS123 w0 (W.alloc o) g f0 f1 f2 := h.below (below_alloc (Below.refl _ _) o)
theorem IsS123.drewN {w0 W : World} {g : Nat} {f0 : List Int} {f1 : Int} {f2 : Int} (h : IsS123 w0 W g f0 f1 f2) (m : Nat) : IsS123 w0 (W.drewN m) g f0 f1 f2 := h
theorem IsS123.drew {w0 W : World} {g : Nat} {f0 : List Int} {f1 : Int} {f2 : Int} (h : IsS123 w0 W g f0 f1 f2) : IsS123 w0 W.drew g f0 f1 f2 := h
theorem IsS123.at_ {w0 W : World} {g : Nat} {f0 : List Int} {f1 : Int} {f2 : Int} {w' : World} {m : Nat} (hq : W.drewN m = w') (h : IsS123 w0 W g f0 f1 f2) : IsS123 w0 w' g f0 f1 f2 := by subst hq; exact IsS123.drewN h m
theorem IsS123.apart {w0 W : World} {g : Nat} {f0 : List Int} {f1 : Int} {f2 : Int} {α : Type} {d : Kd α} {e : Nat} {base : Nat} {ok : Nat → Prop} {v : Value} {xs : List α} (h : IsS123 w0 W g f0 f1 f2) (ho : d.R e W base ok v xs) (ht : ∀ q, q ∈ e :: d.E → q ≠ 123) : d.R e W base (fun k => ok k ∧ k ≠ g) v xs := by
 obtain ⟨A0, c0, hb, hg, hr0⟩ := h
 exact Kd.R_types ho hb ht
theorem IsS123.own_ne {w0 W : World} {g : Nat} {f0 : List Int} {f1 : Int} {f2 : Int} {α : Type} {d : Kd α} {e : Nat} {base : Nat} {ok : Nat → Prop} {v : Value} {xs : List α} (h : IsS123 w0 W g f0 f1 f2) (ho : d.R e W base ok v xs) (ht : e ≠ 123) : some g ≠ v.ownBlock := by
 obtain ⟨A0, c0, hb, hg, hr0⟩ := h
 exact Kd.R_ne ho hb ht
theorem IsS123.apartQ {w0 W : World} {g : Nat} {f0 : List Int} {f1 : Int} {f2 : Int} {α : Type} {d : Kd α} {e : Nat} {base : Nat} {ok : Nat → Prop} {v : Value} {xs : List α} (h : IsS123 w0 W g f0 f1 f2) (ho : d.Q e W base ok v xs) (ht : ∀ q, q ∈ e :: d.E → q ≠ 123) : d.Q e W base (fun k => ok k ∧ k ≠ g) v xs := by
 obtain ⟨A0, c0, hb, hg, hr0⟩ := h
 exact Kd.Q_types ho hb ht
theorem IsS123.own_neQ {w0 W : World} {g : Nat} {f0 : List Int} {f1 : Int} {f2 : Int} {α : Type} {d : Kd α} {e : Nat} {base : Nat} {ok : Nat → Prop} {v : Value} {xs : List α} (h : IsS123 w0 W g f0 f1 f2) (ho : d.Q e W base ok v xs) (ht : e ≠ 123) : some g ≠ v.ownBlock := by
 obtain ⟨A0, c0, hb, hg, hr0⟩ := h
 exact Kd.Q_ne ho hb ht
theorem IsS123.apartS {w0 W : World} {g : Nat} {f0 : List Int} {f1 : Int} {f2 : Int} {α : Type} {d : Kd α} {e : Nat} {base : Nat} {ok : Nat → Prop} {v : Value} {xs : List α} (h : IsS123 w0 W g f0 f1 f2) (ho : d.S e W base ok v xs) (ht : ∀ q, q ∈ e :: d.E → q ≠ 123) : d.S e W base (fun k => ok k ∧ k ≠ g) v xs := by
 obtain ⟨A0, c0, hb, hg, hr0⟩ := h
 exact Kd.S_types ho hb ht
theorem IsS123.own_neS {w0 W : World} {g : Nat} {f0 : List Int} {f1 : Int} {f2 : Int} {α : Type} {d : Kd α} {e : Nat} {base : Nat} {ok : Nat → Prop} {v : Value} {xs : List α} (h : IsS123 w0 W g f0 f1 f2) (ho : d.S e W base ok v xs) (ht : e ≠ 123) : some g ≠ v.ownBlock := by
 obtain ⟨A0, c0, hb, hg, hr0⟩ := h
 exact Kd.S_ne ho hb ht
theorem IsS123.lt {w0 W : World} {g : Nat} {f0 : List Int} {f1 : Int} {f2 : Int} (h : IsS123 w0 W g f0 f1 f2) : g < W.heap.size := by
 obtain ⟨A0, c0, hb, hg, hr0⟩ := h
 exact blk_lt hb
theorem IsS123.ge {w0 W : World} {g : Nat} {f0 : List Int} {f1 : Int} {f2 : Int} (h : IsS123 w0 W g f0 f1 f2) : w0.heap.size ≤ g := by
 obtain ⟨A0, c0, hb, hg, hr0⟩ := h
 exact hg
theorem IsS123.ne_blk {w0 W : World} {g : Nat} {f0 : List Int} {f1 : Int} {f2 : Int} {a : Nat} {cs : Array Value} {t : TypeId} {fr : Nat × Nat} (h : IsS123 w0 W g f0 f1 f2) (hb2 : W.heap[a]? = some (.cells cs t fr)) (ht : t ≠ 123) : g ≠ a := by
 obtain ⟨A0, c0, hb, hg, hr0⟩ := h
 rintro rfl
 rw [hb] at hb2
 injection hb2 with hb2
 injection hb2 with _ ht2
 exact ht ht2.symm
theorem IsS123.far {w0 W : World} {g : Nat} {f0 : List Int} {f1 : Int} {f2 : Int} {p : Addr} (h : IsS123 w0 W g f0 f1 f2) (hne : g ≠ p.block) (u : Value) : IsS123 w0 (W.setCell p u) g f0 f1 f2 := by
 obtain ⟨A0, c0, hb, hg, hr0⟩ := h
 exact ⟨A0, c0, blk_far hb hne u, hg, hr0⟩
theorem cellS123_0 {W : World} {g : Nat} {A0 : Option Addr} {c0 : Nat} {f0 : List Int} {f1 : Int} {f2 : Int} (h : W.heap[g]? = some (.cells #[.slice A0 f0.length c0, .int .i64 f1, .int .i64 f2] 123 (0, 0))) : W.cell? ⟨g, 0, none⟩ = some (.slice A0 f0.length c0) := (blk_cell h 0).trans rfl
theorem cellS123_1 {W : World} {g : Nat} {A0 : Option Addr} {c0 : Nat} {f0 : List Int} {f1 : Int} {f2 : Int} (h : W.heap[g]? = some (.cells #[.slice A0 f0.length c0, .int .i64 f1, .int .i64 f2] 123 (0, 0))) : W.cell? ⟨g, 1, none⟩ = some (.int .i64 f1) := (blk_cell h 1).trans rfl
theorem IsS123.set_1 {w0 W : World} {g : Nat} {f0 : List Int} {f1 : Int} {f2 : Int} (h : IsS123 w0 W g f0 f1 f2) (x : Int) : IsS123 w0 (W.setCell ⟨g, 1, none⟩ (.int .i64 x)) g f0 x f2 := by
 obtain ⟨A0, c0, hb, hg, hr0⟩ := h
 exact ⟨A0, c0, by simpa using blk_set hb 1 (.int .i64 x), hg, hr0⟩
theorem cellS123_2 {W : World} {g : Nat} {A0 : Option Addr} {c0 : Nat} {f0 : List Int} {f1 : Int} {f2 : Int} (h : W.heap[g]? = some (.cells #[.slice A0 f0.length c0, .int .i64 f1, .int .i64 f2] 123 (0, 0))) : W.cell? ⟨g, 2, none⟩ = some (.int .i64 f2) := (blk_cell h 2).trans rfl
theorem IsS123.set_2 {w0 W : World} {g : Nat} {f0 : List Int} {f1 : Int} {f2 : Int} (h : IsS123 w0 W g f0 f1 f2) (x : Int) : IsS123 w0 (W.setCell ⟨g, 2, none⟩ (.int .i64 x)) g f0 f1 x := by
 obtain ⟨A0, c0, hb, hg, hr0⟩ := h
 exact ⟨A0, c0, by simpa using blk_set hb 2 (.int .i64 x), hg, hr0⟩
theorem IsS123.iI {w0 w1 W : World} {g : Nat} {f0 f0' : List Int} {f1 f1' : Int} {f2 f2' : Int} (b : Aside0 (IsS123 w0 w1 g f0 f1 f2)) (h : IsS123 w0 w1 g f0 f1 f2 → IsS123 w0 W g f0' f1' f2' := by intro h_; repeat (first | (with_reducible first | exact h_ | apply IsS123.alloc | apply IsS123.drewN | apply IsS123.drew | apply IsS123.set_1 | apply IsS123.set_2 | refine IsS123.far ?_ (Aside0.out (by assumption)) _) | exact h_)) : IsS123 w0 W g f0' f1' f2' := h b.out
theorem IsS123.new (w0 W : World) (A0 : Option Addr) (c0 : Nat) (f0 : List Int) (f1 : Int) (f2 : Int) (hB : Below w0.heap.size w0 W) (hr0 : Kd.C (Kd.int .u8) w0 A0 f0.length f0) : IsS123 w0 (W.alloc (.cells #[.slice A0 f0.length c0, .int .i64 f1, .int .i64 f2] 123)) W.heap.size f0 f1 f2 := ⟨A0, c0, by simpa using heap_alloc_new W _, hB.size, hr0⟩

/-! ### spec_l1New: function 88 -/
def spec_l1New.l0 : Nat → List Int → Int → Int → Option (List Int × Int × Int)
 | 0, _, _, _ => none
 | k + 1, x0, x3, x4 => if x4 < (x0.length : Int) then (if x4 < 4000 then (if 0 ≤ x4 then (spec_l1New.l0 k x0 (Go.bits .and .i64 (wrap64 ((wrap64 ((wrap64 (x3 * 131)) + (wrap64 (rd x0 x4)))) + 7)) 1073741823) (wrap64 (x4 + 1))) else (none)) else (some (x0, 0, x3))) else (some (x0, 0, x3))
def spec_l1New.f (k : Nat) (l0 : List Int) : Option (List Int × Int × Int) := spec_l1New.l0 k l0 (wrap64 (26583 + (l0.length : Int))) 0
theorem spec_l1New.mono_l : ∀ k, (∀ y0 y1 y2, LeO (spec_l1New.l0 k y0 y1 y2) (spec_l1New.l0 (k + 1) y0 y1 y2))
 | 0 => fun _ _ _ r h => by simp [spec_l1New.l0] at h
 | k + 1 => by
  have ih0 := spec_l1New.mono_l k
  ·intro y0 y1 y2
   unfold spec_l1New.l0
   exact mM
theorem spec_l1New.mono : ∀ a0 k, LeO (spec_l1New.f k a0) (spec_l1New.f (k + 1) a0) := by
 intro a0 k
 have ih0 := spec_l1New.mono_l k
 unfold spec_l1New.f
 exact mM
set_option maxHeartbeats 8000000 in
set_option maxRecDepth 100000 in
theorem spec_l1New.calls (k : Nat) (A0 : Option Addr) (c0 : Nat) (l0 : List Int) (r1 : List Int) (r2 : Int) (r3 : Int) (w0 w : World) (hB : Below w0.heap.size w0 w) (hr0 : Kd.C (Kd.int .u8) w0 A0 l0.length l0) (hc0 : l0.length ≤ c0) (h : spec_l1New.f k l0 = some (r1, r2, r3)) :
  Calls Try.prog 88 #[.slice A0 l0.length c0] w fun e w' => ∃ g_ : Nat, e = .returned (.pointer (some ⟨g_, 0, none⟩)) ∧ IsS123 w0 w' g_ r1 r2 r3 ∧ Below w0.heap.size w0 w' ∧ Below w.heap.size w w' := by
 have hu123 := Try.underlying123
 have HR0 := aM hr0
 have HC0 := aM hc0
 clear hr0 hc0
 have HBW := aM (Below.refl w.heap.size w)
 have HW0 := aM hB.size
 have HB := aM hB
 clear hB
 unfold spec_l1New.f at h
 have H := h
 clear h
 have H' := aM H
 clear H
 go_enter Try.func88, Try.ntmps88
 go_wp2
 go_loopg [3, 4] k (fun kq v3 v4 w' => ∃ (x3_1 : Int) (x4_1 : Int), v3 = .int .i64 x3_1 ∧ v4 = .int .i64 x4_1 ∧ Aside0 (spec_l1New.l0 kq l0 x3_1 x4_1 = some (r1, r2, r3)) ∧ Aside0 (kq ≤ k) ∧ Aside0 (Below w.heap.size w w') ∧ Aside0 (Below w0.heap.size w0 w'))
 case atStart => exact ⟨(wrap64 (26583 + (l0.length : Int))), (0), (by first | rfl | (simp; done) | (simp [*]; done) | (simp; exact (by intro l_; cases l_ <;> rfl : ∀ l_ : List UInt8, l_.isEmpty = !(l_ != [])) _)), (by first | rfl | (simp; done) | (simp [*]; done) | (simp; exact (by intro l_; cases l_ <;> rfl : ∀ l_ : List UInt8, l_.isEmpty = !(l_ != [])) _)), H', ⟨Nat.le_refl _⟩, ⟨by repeat (first | (with_reducible first | exact HBW.out | apply below_alloc | apply pw_below_drewN | apply below_drew1) | exact HBW.out)⟩, ⟨bB⟩⟩
 case round =>
  clear H'
  obtain ⟨x3_1, x4_1, rfl, rfl, HA, HK1, HBW, HB⟩ := hrel
  cases gk with
  | zero => exact absurd HA.out (by simp [spec_l1New.l0])
  | succ k1 =>
   have H := HA.out
   clear HA
   simp only [spec_l1New.l0] at H
   by_cases c2 : x4_1 < (l0.length : Int)
   ·rw [if_pos c2] at H
    have c2b0 : decide (x4_1 < (l0.length : Int)) = true := decide_eq_true c2
    clear c2
    by_cases c3 : x4_1 < 4000
    ·rw [if_pos c3] at H
     have c3b0 : decide (x4_1 < 4000) = true := decide_eq_true c3
     clear c3
     by_cases c4 : 0 ≤ x4_1
     ·rw [if_pos c4] at H
      have c4b0 : decide (0 ≤ x4_1) = true := decide_eq_true c4
      clear c4
      have H' := aM H
      clear H
      have p213 : 0 ≤ (x4_1 : Int) := dT
      have q213 : x4_1 < (l0.length : Int) := dT
      obtain ⟨ad213, e213, hx213_0⟩ := Kd.at_int HR0.out x4_1 p213 q213
      cases e213
      replace hx213_0 := pw_cell_below HB.out hx213_0
      replace p213 := eq_true p213
      replace q213 := eq_true q213
      go_wp2
      go_roundg k1
      case measure => have := HK1.out; omega
      case rel => exact ⟨(Go.bits .and .i64 (wrap64 ((wrap64 ((wrap64 (x3_1 * 131)) + (wrap64 (rd l0 x4_1)))) + 7)) 1073741823), (wrap64 (x4_1 + 1)), (by first | rfl | (simp; done) | (simp [*]; done) | (simp; exact (by intro l_; cases l_ <;> rfl : ∀ l_ : List UInt8, l_.isEmpty = !(l_ != [])) _)), (by first | rfl | (simp; done) | (simp [*]; done) | (simp; exact (by intro l_; cases l_ <;> rfl : ∀ l_ : List UInt8, l_.isEmpty = !(l_ != [])) _)), H', ⟨by have := HK1.out; omega⟩, ⟨by repeat (first | (with_reducible first | exact HBW.out | apply below_alloc | apply pw_below_drewN | apply below_drew1) | exact HBW.out)⟩, ⟨bB⟩⟩
     ·rw [if_neg c4] at H
      exact absurd H (by simp)
    ·rw [if_neg c3] at H
     have c3b0 : decide (x4_1 < 4000) = false := decide_eq_false c3
     clear c3
     simp only [Option.some.injEq, Prod.mk.injEq] at H
     obtain ⟨rfl, rfl, rfl⟩ := H
     go_wp2_with (first | ((with_reducible refine gate_dst (N := 31) rfl ?_); refine bE 31 #[.slice A0 l0.length c0, .int .i64 0, .int .i64 x3_1] 123 ?_; intro gb214 hg w5 hbox hb; have n_ := aI (aM (below_step HBW.out hb)) (aI (sB HB hb) (aI (aM hbox) (aI (aM ((by rw [hg]; exact (below_size (by repeat (first | (with_reducible first | exact HBW.out | apply below_alloc | apply pw_below_drewN | apply below_drew1) | exact HBW.out))) : w.heap.size ≤ gb214))) (aM ((Nat.le_trans HW0.out (by rw [hg]; exact (below_size (by repeat (first | (with_reducible first | exact HBW.out | apply below_alloc | apply pw_below_drewN | apply below_drew1) | exact HBW.out))) : w.heap.size ≤ gb214) : w0.heap.size ≤ gb214)))))); clear HBW HB; obtain ⟨HBW, HB, BK214, GW214, GE214⟩ := n_; (try clear hb hbox hg)))
     go_ret
     exact ⟨_, rfl, (show IsS123 w0 _ gb214 l0 0 x3_1 from ⟨_, _, by (with_reducible repeat (first | refine blk_drewN ?_ _ | refine blk_drew ?_ | refine blk_alloc ?_ _)); exact BK214.out, GE214.out, HR0.out⟩), bB, by repeat (first | (with_reducible first | exact HBW.out | apply below_alloc | apply pw_below_drewN | apply below_drew1 | refine below_set ?_ GW214.out) | exact HBW.out)⟩
   ·rw [if_neg c2] at H
    have c2b0 : decide (x4_1 < (l0.length : Int)) = false := decide_eq_false c2
    clear c2
    simp only [Option.some.injEq, Prod.mk.injEq] at H
    obtain ⟨rfl, rfl, rfl⟩ := H
    go_wp2_with (first | ((with_reducible refine gate_dst (N := 31) rfl ?_); refine bE 31 #[.slice A0 l0.length c0, .int .i64 0, .int .i64 x3_1] 123 ?_; intro gb215 hg w6 hbox hb; have n_ := aI (aM (below_step HBW.out hb)) (aI (sB HB hb) (aI (aM hbox) (aI (aM ((by rw [hg]; exact (below_size (by repeat (first | (with_reducible first | exact HBW.out | apply below_alloc | apply pw_below_drewN | apply below_drew1) | exact HBW.out))) : w.heap.size ≤ gb215))) (aM ((Nat.le_trans HW0.out (by rw [hg]; exact (below_size (by repeat (first | (with_reducible first | exact HBW.out | apply below_alloc | apply pw_below_drewN | apply below_drew1) | exact HBW.out))) : w.heap.size ≤ gb215) : w0.heap.size ≤ gb215)))))); clear HBW HB; obtain ⟨HBW, HB, BK215, GW215, GE215⟩ := n_; (try clear hb hbox hg)))
    go_ret
    exact ⟨_, rfl, (show IsS123 w0 _ gb215 l0 0 x3_1 from ⟨_, _, by (with_reducible repeat (first | refine blk_drewN ?_ _ | refine blk_drew ?_ | refine blk_alloc ?_ _)); exact BK215.out, GE215.out, HR0.out⟩), bB, by repeat (first | (with_reducible first | exact HBW.out | apply below_alloc | apply pw_below_drewN | apply below_drew1 | refine below_set ?_ GW215.out) | exact HBW.out)⟩

/-! ### spec_l1Byte: function 121 -/
def spec_l1Byte.f (s0_0 : List Int) (s0_1 : Int) (s0_2 : Int) : Option (Int × Int × Int) := if s0_1 < (s0_0.length : Int) then (if 0 ≤ s0_1 then (some (Go.bits .and .i64 (wrap64 ((Go.bits .and .i64 (Go.bits .xor .i64 ((wrap64 ((wrap64 (s0_2 * 6364136223846793005)) + 1442695040888963407)) / 8589934592) ((wrap64 ((wrap64 (s0_2 * 6364136223846793005)) + 1442695040888963407)) / 35184372088832)) 255) + (wrap64 (rd s0_0 s0_1)))) 255, wrap64 (s0_1 + 1), wrap64 ((wrap64 (s0_2 * 6364136223846793005)) + 1442695040888963407))) else (none)) else (some (Go.bits .and .i64 (Go.bits .xor .i64 ((wrap64 ((wrap64 (s0_2 * 6364136223846793005)) + 1442695040888963407)) / 8589934592) ((wrap64 ((wrap64 (s0_2 * 6364136223846793005)) + 1442695040888963407)) / 35184372088832)) 255, s0_1, wrap64 ((wrap64 (s0_2 * 6364136223846793005)) + 1442695040888963407)))
set_option maxHeartbeats 8000000 in
set_option maxRecDepth 100000 in
theorem spec_l1Byte.calls (g : Nat) (s0_0 : List Int) (s0_1 : Int) (s0_2 : Int) (r1 : Int) (r2 : Int) (r3 : Int) (w0 w : World) (hI : IsS123 w0 w g s0_0 s0_1 s0_2) (hB : Below w0.heap.size w0 w) (h : spec_l1Byte.f s0_0 s0_1 s0_2 = some (r1, r2, r3)) :
  Calls Try.prog 121 #[.pointer (some ⟨g, 0, none⟩)] w fun e w' => e = .returned (.int .i64 r1) ∧ IsS123 w0 w' g s0_0 r2 r3 ∧ Below w0.heap.size w0 w' ∧ KeepBut w w' g none := by
 have HI0 := aM hI
 have GEg_ := aM (IsS123.ge hI)
 have HK := aM (KeepBut.refl w g none)
 have HL := aM hB.size
 clear hI
 have HW0 := aM hB.size
 have HB := aM hB
 clear hB
 unfold spec_l1Byte.f at h
 have H := h
 clear h
 by_cases c2 : s0_1 < (s0_0.length : Int)
 ·rw [if_pos c2] at H
  have c2b0 : decide (s0_1 < (s0_0.length : Int)) = true := decide_eq_true c2
  clear c2
  by_cases c3 : 0 ≤ s0_1
  ·rw [if_pos c3] at H
   have c3b0 : decide (0 ≤ s0_1) = true := decide_eq_true c3
   clear c3
   simp only [Option.some.injEq, Prod.mk.injEq] at H
   obtain ⟨rfl, rfl, rfl⟩ := H
   obtain ⟨ASz4_0, cSz4_0, HGz4, hgz4, HSz4_0⟩ := HI0.out
   have hcz4_0 := cellS123_0 HGz4
   have hcz4_1 := cellS123_1 HGz4
   have hcz4_2 := cellS123_2 HGz4
   have hfz4_1 := blk_frozen HGz4 1
   have hfz4_2 := blk_frozen HGz4 2
   clear HGz4 hgz4
   have p216 : 0 ≤ (s0_1 : Int) := dT
   have q216 : s0_1 < (s0_0.length : Int) := dT
   obtain ⟨ad216, e216, hx216_0⟩ := Kd.at_int HSz4_0 s0_1 p216 q216
   cases e216
   have hn216_0 : ad216.block ≠ g := Nat.ne_of_lt (Nat.lt_of_lt_of_le (by have := World.block_lt_of_cell? _ _ hx216_0; first | rwa [add_block] at this | exact this) (IsS123.ge HI0.out))
   replace hx216_0 := pw_cell_below HB.out hx216_0
   replace hx216_0 := (cell_far (p := ⟨g, 2, none⟩) (by first | (rw [add_block]; exact hn216_0) | (show (Addr.add _ _).block ≠ _; rw [add_block]; exact hn216_0) | exact hn216_0) (.int .i64 (wrap64 ((wrap64 (s0_2 * 6364136223846793005)) + 1442695040888963407)))).trans hx216_0
   (try have hy216_0 := fun (n_ : Nat) => (show (((w.drewN n_).setCell ⟨g, 2, none⟩ (.int .i64 (wrap64 ((wrap64 (s0_2 * 6364136223846793005)) + 1442695040888963407))))).cell? _ = some _ from hx216_0))
   clear hn216_0
   replace p216 := eq_true p216
   replace q216 := eq_true q216
   go_enter Try.func121, Try.ntmps121
   go_wp2
   repeat (go_quiet (fail); try go_wp2)
   go_ret
   exact ⟨eW, IsS123.iI HI0, bB, bK HK⟩
  rw [if_neg c3] at H
  exact absurd H (by simp)
 rw [if_neg c2] at H
 have c2b0 : decide (s0_1 < (s0_0.length : Int)) = false := decide_eq_false c2
 clear c2
 simp only [Option.some.injEq, Prod.mk.injEq] at H
 obtain ⟨rfl, rfl, rfl⟩ := H
 obtain ⟨ASz5_0, cSz5_0, HGz5, hgz5, HSz5_0⟩ := HI0.out
 have hcz5_0 := cellS123_0 HGz5
 have hcz5_1 := cellS123_1 HGz5
 have hcz5_2 := cellS123_2 HGz5
 have hfz5_1 := blk_frozen HGz5 1
 have hfz5_2 := blk_frozen HGz5 2
 clear HGz5 hgz5
 go_enter Try.func121, Try.ntmps121
 go_wp2
 repeat (go_quiet (fail); try go_wp2)
 go_ret
 exact ⟨eW, IsS123.iI HI0, bB, bK HK⟩

/-! ### spec_l1Below: function 95 -/
def spec_l1Below.f (s0_0 : List Int) (s0_1 : Int) (s0_2 : Int) (a1 : Int) : Option (Int × Int × Int) := if a1 ≤ 0 then (some (0, s0_1, s0_2)) else (if a1 ≤ 256 then ((spec_l1Byte.f s0_0 s0_1 s0_2).bind fun bt217 => (if a1 = 0 then (none) else (some (Int.tmod bt217.1 a1, bt217.2.1, bt217.2.2)))) else ((spec_l1Byte.f s0_0 s0_1 s0_2).bind fun bt220 => ((spec_l1Byte.f s0_0 bt220.2.1 bt220.2.2).bind fun bt223 => ((spec_l1Byte.f s0_0 bt223.2.1 bt223.2.2).bind fun bt226 => ((spec_l1Byte.f s0_0 bt226.2.1 bt226.2.2).bind fun bt229 => (if a1 = 0 then (none) else (some (Int.tmod (wrap64 ((wrap64 ((wrap64 ((wrap64 (bt220.1 * 16777216)) + (wrap64 (bt223.1 * 65536)))) + (wrap64 (bt226.1 * 256)))) + bt229.1)) a1, bt229.2.1, bt229.2.2))))))))
set_option maxHeartbeats 8000000 in
set_option maxRecDepth 100000 in
theorem spec_l1Below.calls (g : Nat) (s0_0 : List Int) (s0_1 : Int) (s0_2 : Int) (a1 : Int) (r1 : Int) (r2 : Int) (r3 : Int) (w0 w : World) (hI : IsS123 w0 w g s0_0 s0_1 s0_2) (hB : Below w0.heap.size w0 w) (h : spec_l1Below.f s0_0 s0_1 s0_2 a1 = some (r1, r2, r3)) :
  Calls Try.prog 95 #[.pointer (some ⟨g, 0, none⟩), .int .i64 a1] w fun e w' => e = .returned (.int .i64 r1) ∧ IsS123 w0 w' g s0_0 r2 r3 ∧ Below w0.heap.size w0 w' ∧ KeepBut w w' g none := by
 have HI0 := aM hI
 have GEg_ := aM (IsS123.ge hI)
 have HK := aM (KeepBut.refl w g none)
 have HL := aM hB.size
 clear hI
 have HW0 := aM hB.size
 have HB := aM hB
 clear hB
 unfold spec_l1Below.f at h
 have H := h
 clear h
 by_cases c3 : a1 ≤ 0
 ·rw [if_pos c3] at H
  have c3b0 : decide (a1 ≤ 0) = true := decide_eq_true c3
  clear c3
  simp only [Option.some.injEq, Prod.mk.injEq] at H
  obtain ⟨rfl, rfl, rfl⟩ := H
  go_enter Try.func95, Try.ntmps95
  go_wp2
  go_ret
  exact ⟨eW, IsS123.iI HI0, bB, bK HK⟩
 rw [if_neg c3] at H
 have c3b0 : decide (a1 ≤ 0) = false := decide_eq_false c3
 clear c3
 by_cases c4 : a1 ≤ 256
 ·rw [if_pos c4] at H
  have c4b0 : decide (a1 ≤ 256) = true := decide_eq_true c4
  clear c4
  replace H := Option.bind_eq_some_iff.mp H
  obtain ⟨⟨t217, t218, t219⟩, A50, H⟩ := H
  try dsimp only at H
  have A5 := aM A50
  clear A50
  by_cases c6 : a1 = 0
  ·rw [if_pos c6] at H
   exact absurd H (by simp)
  rw [if_neg c6] at H
  have c6b0 : (a1 == 0) = false := beq_eq_false_iff_ne.mpr c6
  have c6b1 : (a1 != 0) = true := bne_iff_ne.mpr c6
  simp only [Option.some.injEq, Prod.mk.injEq] at H
  obtain ⟨rfl, rfl, rfl⟩ := H
  go_enter Try.func95, Try.ntmps95
  go_wp2_with (first | ((with_reducible refine gate_callee (f := 121) rfl ?_); refine gL (some 14) Try.func121 #[.pointer (some ⟨g, 0, none⟩)] ?_; (with_reducible refine (spec_l1Byte.calls g s0_0 s0_1 s0_2 t217 t218 t219 w0 _ ?side1 ?side2 A5.out).mono ?_); (case side1 => repeat (first | (with_reducible first | exact HI0.out | apply IsS123.alloc | apply IsS123.drewN | apply IsS123.drew | apply IsS123.set_1 | apply IsS123.set_2) | exact HI0.out)); (case side2 => repeat (first | (with_reducible first | exact HB.out | apply below_alloc | apply pw_below_drewN | apply below_drew1 | refine below_set ?_ (IsS123.ge HI0.out)) | exact HB.out)); rintro e w7 ⟨rfl, hi, hb, hk⟩; refine ⟨_, rfl, ?_⟩; have n_ := aI (aM (KeepBut.trans (bK HK) hk (.inl rfl))) (aI (aM (hb)) (aM (hi))); clear HK HB HI0; obtain ⟨HK, HB, HI0⟩ := n_; (try clear hb hk hi)))
  go_ret
  exact ⟨eW, IsS123.iI HI0, bB, bK HK⟩
 rw [if_neg c4] at H
 have c4b0 : decide (a1 ≤ 256) = false := decide_eq_false c4
 clear c4
 replace H := Option.bind_eq_some_iff.mp H
 obtain ⟨⟨t220, t221, t222⟩, A80, H⟩ := H
 try dsimp only at H
 have A8 := aM A80
 clear A80
 replace H := Option.bind_eq_some_iff.mp H
 obtain ⟨⟨t223, t224, t225⟩, A90, H⟩ := H
 try dsimp only at H
 have A9 := aM A90
 clear A90
 replace H := Option.bind_eq_some_iff.mp H
 obtain ⟨⟨t226, t227, t228⟩, A100, H⟩ := H
 try dsimp only at H
 have A10 := aM A100
 clear A100
 replace H := Option.bind_eq_some_iff.mp H
 obtain ⟨⟨t229, t230, t231⟩, A110, H⟩ := H
 try dsimp only at H
 have A11 := aM A110
 clear A110
 by_cases c12 : a1 = 0
 ·rw [if_pos c12] at H
  exact absurd H (by simp)
 rw [if_neg c12] at H
 have c12b0 : (a1 == 0) = false := beq_eq_false_iff_ne.mpr c12
 have c12b1 : (a1 != 0) = true := bne_iff_ne.mpr c12
 simp only [Option.some.injEq, Prod.mk.injEq] at H
 obtain ⟨rfl, rfl, rfl⟩ := H
 go_enter Try.func95, Try.ntmps95
 go_wp2_with (first | ((with_reducible refine gate_callee (f := 121) rfl ?_); refine gL (some 18) Try.func121 #[.pointer (some ⟨g, 0, none⟩)] ?_; (with_reducible refine (spec_l1Byte.calls g s0_0 s0_1 s0_2 t220 t221 t222 w0 _ ?side1 ?side2 A8.out).mono ?_); (case side1 => repeat (first | (with_reducible first | exact HI0.out | apply IsS123.alloc | apply IsS123.drewN | apply IsS123.drew | apply IsS123.set_1 | apply IsS123.set_2) | exact HI0.out)); (case side2 => repeat (first | (with_reducible first | exact HB.out | apply below_alloc | apply pw_below_drewN | apply below_drew1 | refine below_set ?_ (IsS123.ge HI0.out)) | exact HB.out)); rintro e w13 ⟨rfl, hi, hb, hk⟩; refine ⟨_, rfl, ?_⟩; have n_ := aI (aM (KeepBut.trans (bK HK) hk (.inl rfl))) (aI (aM (hb)) (aM (hi))); clear HK HB HI0; obtain ⟨HK, HB, HI0⟩ := n_; (try clear hb hk hi)) | ((with_reducible refine gate_callee (f := 121) rfl ?_); refine gL (some 20) Try.func121 #[.pointer (some ⟨g, 0, none⟩)] ?_; (with_reducible refine (spec_l1Byte.calls g s0_0 t221 t222 t223 t224 t225 w0 _ ?side1 ?side2 A9.out).mono ?_); (case side1 => repeat (first | (with_reducible first | exact HI0.out | apply IsS123.alloc | apply IsS123.drewN | apply IsS123.drew | apply IsS123.set_1 | apply IsS123.set_2) | exact HI0.out)); (case side2 => repeat (first | (with_reducible first | exact HB.out | apply below_alloc | apply pw_below_drewN | apply below_drew1 | refine below_set ?_ (IsS123.ge HI0.out)) | exact HB.out)); rintro e w14 ⟨rfl, hi, hb, hk⟩; refine ⟨_, rfl, ?_⟩; have n_ := aI (aM (KeepBut.trans (bK HK) hk (.inl rfl))) (aI (aM (hb)) (aM (hi))); clear HK HB HI0; obtain ⟨HK, HB, HI0⟩ := n_; (try clear hb hk hi)) | ((with_reducible refine gate_callee (f := 121) rfl ?_); refine gL (some 22) Try.func121 #[.pointer (some ⟨g, 0, none⟩)] ?_; (with_reducible refine (spec_l1Byte.calls g s0_0 t224 t225 t226 t227 t228 w0 _ ?side1 ?side2 A10.out).mono ?_); (case side1 => repeat (first | (with_reducible first | exact HI0.out | apply IsS123.alloc | apply IsS123.drewN | apply IsS123.drew | apply IsS123.set_1 | apply IsS123.set_2) | exact HI0.out)); (case side2 => repeat (first | (with_reducible first | exact HB.out | apply below_alloc | apply pw_below_drewN | apply below_drew1 | refine below_set ?_ (IsS123.ge HI0.out)) | exact HB.out)); rintro e w15 ⟨rfl, hi, hb, hk⟩; refine ⟨_, rfl, ?_⟩; have n_ := aI (aM (KeepBut.trans (bK HK) hk (.inl rfl))) (aI (aM (hb)) (aM (hi))); clear HK HB HI0; obtain ⟨HK, HB, HI0⟩ := n_; (try clear hb hk hi)) | ((with_reducible refine gate_callee (f := 121) rfl ?_); refine gL (some 24) Try.func121 #[.pointer (some ⟨g, 0, none⟩)] ?_; (with_reducible refine (spec_l1Byte.calls g s0_0 t227 t228 t229 t230 t231 w0 _ ?side1 ?side2 A11.out).mono ?_); (case side1 => repeat (first | (with_reducible first | exact HI0.out | apply IsS123.alloc | apply IsS123.drewN | apply IsS123.drew | apply IsS123.set_1 | apply IsS123.set_2) | exact HI0.out)); (case side2 => repeat (first | (with_reducible first | exact HB.out | apply below_alloc | apply pw_below_drewN | apply below_drew1 | refine below_set ?_ (IsS123.ge HI0.out)) | exact HB.out)); rintro e w16 ⟨rfl, hi, hb, hk⟩; refine ⟨_, rfl, ?_⟩; have n_ := aI (aM (KeepBut.trans (bK HK) hk (.inl rfl))) (aI (aM (hb)) (aM (hi))); clear HK HB HI0; obtain ⟨HK, HB, HI0⟩ := n_; (try clear hb hk hi)))
 go_ret
 exact ⟨eW, IsS123.iI HI0, bB, bK HK⟩

end Go.Proofs.Ytgmpdkefegofhaa.PFnFlushed
