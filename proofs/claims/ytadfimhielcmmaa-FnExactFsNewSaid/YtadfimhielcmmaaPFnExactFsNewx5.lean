-- Written by xprint.py, a program of this session over the kit's print. Not trusted: Lean checks it.
import Derived.Test.YtadfimhielcmmaaPFnExactFsNewx0
import Derived.Test.YtadfimhielcmmaaPFnExactFsNewx1
import Derived.Test.YtadfimhielcmmaaPFnExactFsNewx2
import Derived.Test.YtadfimhielcmmaaPFnExactFsNewx3
import Derived.Test.YtadfimhielcmmaaPFnExactFsNewx4
namespace Go.Proofs.Ytadfimhielcmmaa.PFnExactFsNew
open Go.RowKit Go.Proofs.YtadfimhielcmmaaW.PrintWords Go.Proofs.YtadfimhielcmmaaW.PrintLast Go.Proofs.YtadfimhielcmmaaW.PrintMore
attribute [local go_sem] max2_int min2_int max_two min_two max_three min_three max_four min_four   -- for this text's walks alone
set_option linter.unusedVariables false
set_option linter.unusedSimpArgs false

/-! ### laws_FnExactFsNew: function 3 -/
mutual
def laws_FnExactFsNew.j0 : Nat → Int → Int → Bool → Bool → List (S33) → List ByteArray → List (S33) → List ByteArray → Option (Bool)
 | 0, _, _, _, _, _, _, _, _ => none
 | k + 1, x0, x1, x6, x33, x170000, x170001, x178000, x178001 => if x33 = true then (some false) else ((laws_markFs.f k x178000 x178001 1).bind fun bt179 => ((laws_heldFs.f k bt179.2.1 bt179.2.2 1).bind fun t182 => (if t182 < 0 then (some false) else (if t182 = bt179.1 then ((impl_FsNew.f x0 x1).bind fun bt183 => ((laws_eqFs.f k bt183.1 bt183.2.1 x170000 x170001).bind fun t191 => (if t191 = true then (laws_FnExactFsNew.j1 k bt179.1 (bt183.2.2 != x6) bt179.2.1 bt179.2.2) else (laws_FnExactFsNew.j1 k bt179.1 true bt179.2.1 bt179.2.2)))) else (some false)))))
def laws_FnExactFsNew.j1 : Nat → Int → Bool → List (S33) → List ByteArray → Option (Bool)
 | 0, _, _, _, _ => none
 | k + 1, x9, x59, x178000, x178001 => if x59 = true then (some false) else ((laws_heldFs.f k x178000 x178001 1).bind fun t192 => (if t192 < 0 then (some false) else (if t192 = x9 then (some true) else (some false))))
end
def laws_FnExactFsNew.f (k : Nat) (a0 : Int) (a1 : Int) : Option (Bool) := (spec_FsNew.f a0 a1).bind fun bt162 => ((impl_FsNew.f a0 a1).bind fun bt170 => ((laws_eqFs.f k bt170.1 bt170.2.1 bt162.1 bt162.2.1).bind fun t178 => (if t178 = true then (laws_FnExactFsNew.j0 k a0 a1 bt162.2.2 (bt170.2.2 != bt162.2.2) bt162.1 bt162.2.1 bt170.1 bt170.2.1) else (laws_FnExactFsNew.j0 k a0 a1 bt162.2.2 true bt162.1 bt162.2.1 bt170.1 bt170.2.1))))
theorem laws_FnExactFsNew.mono_l : ∀ k, (∀ y0 y1 y2 y3 y4 y5 y6 y7, LeO (laws_FnExactFsNew.j0 k y0 y1 y2 y3 y4 y5 y6 y7) (laws_FnExactFsNew.j0 (k + 1) y0 y1 y2 y3 y4 y5 y6 y7)) ∧ (∀ y0 y1 y2 y3, LeO (laws_FnExactFsNew.j1 k y0 y1 y2 y3) (laws_FnExactFsNew.j1 (k + 1) y0 y1 y2 y3))
 | 0 => ⟨fun _ _ _ _ _ _ _ _ r h => by simp [laws_FnExactFsNew.j0] at h, fun _ _ _ _ r h => by simp [laws_FnExactFsNew.j1] at h⟩
 | k + 1 => by
  obtain ⟨ih0, ih1⟩ := laws_FnExactFsNew.mono_l k
  refine ⟨?_, ?_⟩
  ·intro y0 y1 y2 y3 y4 y5 y6 y7
   unfold laws_FnExactFsNew.j0
   have m0_ := @laws_eqFs.mono
   have m1_ := @laws_heldFs.mono
   have m2_ := @laws_markFs.mono
   exact mM
  ·intro y0 y1 y2 y3
   unfold laws_FnExactFsNew.j1
   have m0_ := @laws_eqFs.mono
   have m1_ := @laws_heldFs.mono
   have m2_ := @laws_markFs.mono
   exact mM
theorem laws_FnExactFsNew.mono : ∀ a0 a1 k, LeO (laws_FnExactFsNew.f k a0 a1) (laws_FnExactFsNew.f (k + 1) a0 a1) := by
 intro a0 a1 k
 obtain ⟨ih0, ih1⟩ := laws_FnExactFsNew.mono_l k
 unfold laws_FnExactFsNew.f
 have m0_ := @laws_eqFs.mono
 have m1_ := @laws_heldFs.mono
 have m2_ := @laws_markFs.mono
 exact mM
set_option maxHeartbeats 8000000 in
set_option maxRecDepth 100000 in
theorem laws_FnExactFsNew.calls (k : Nat) (a0 : Int) (a1 : Int) (r : Bool) (w : World) (h : laws_FnExactFsNew.f k a0 a1 = some r) :
  Calls Try.prog 3 #[.int .i64 a0, .int .i64 a1] w fun e w' => e = .returned (.bool r) ∧ Below w.heap.size w w' := by
 have hu25 := Try.underlying25
 have HB := aM (Below.refl w.heap.size w)
 unfold laws_FnExactFsNew.f at h
 have H := h
 clear h
 replace H := Option.bind_eq_some_iff.mp H
 obtain ⟨⟨t162, t165, t168⟩, A30, H⟩ := H
 try dsimp only at H
 have A3 := aM A30
 clear A30
 replace H := Option.bind_eq_some_iff.mp H
 obtain ⟨⟨t170, t173, t176⟩, A40, H⟩ := H
 try dsimp only at H
 have A4 := aM A40
 clear A40
 have HC5 := aM H
 clear H
 go_enter Try.func3, Try.ntmps3
 go_upto_region 3 with (first | ((with_reducible refine gate_callee (f := 6) rfl ?_); refine gL (some 16) Try.func6 #[.int .i64 a0, .int .i64 a1] ?_; (with_reducible refine (spec_FsNew.calls a0 a1 t162 t165 t168 _ A3.out).mono ?_); rintro e w6 ⟨v163, v166, rfl, ho0, ho1, hb⟩; refine ⟨_, rfl, ?_⟩; have n_ := aI (lR HB ho0) (aI (lR HB ho1) (sB HB hb)); clear HB; obtain ⟨HO164, HO167, HB⟩ := n_; (try clear hb ho0 ho1)) | ((with_reducible refine gate_dst (N := 5) rfl ?_); refine bE 5 #[.slice none 0 0, .slice none 0 0] 25 ?_; intro gb169 hg w7 hbox hb; have n_ := aI (rB HO164 hb) (aI (rB HO167 hb) (aI (sB HB hb) (aI (aM hbox) (aI (gE HB hg) (gE HB hg))))); clear HO164 HO167 HB; obtain ⟨HO164, HO167, HB, BK169, GW169, GE169⟩ := n_; (try clear hb hbox hg); obtain ⟨Ao8, co8, eo8⟩ := Kd.R_slice HO164.out; subst eo8; have hcz9_0 := cZ0 BK169; have hcz9_1 := cZ1 BK169; have hfz9_0 := fZ BK169 0; have hfz9_1 := fZ BK169 1; obtain ⟨Ao10, co10, eo10⟩ := Kd.R_slice HO167.out; subst eo10) | ((with_reducible refine gate_callee (f := 7) rfl ?_); refine gL (some 22) Try.func7 #[.int .i64 a0, .int .i64 a1] ?_; (with_reducible refine (impl_FsNew.calls a0 a1 t170 t173 t176 _ A4.out).mono ?_); rintro e w11 ⟨v171, v174, rfl, ho0, ho1, hb⟩; refine ⟨_, rfl, ?_⟩; have n_ := aI (aM (Kd.R_elder' (rP (Kd.R_mono (Kd.R_far (p := ⟨gb169, 1, none⟩) (Kd.R_far (p := ⟨gb169, 0, none⟩) (Kd.R_types HO164.out BK169.out (by decide)) (fun _ hk => hk.2) (.slice Ao8 t162.length co8)) (fun _ hk => hk.2) (.slice Ao10 t165.length co10)) (fun _ h_ => h_.1))) (Kd.R_base ho0) hb)) (aI (aM (Kd.R_elder' (rP (Kd.R_mono (Kd.R_far (p := ⟨gb169, 1, none⟩) (Kd.R_far (p := ⟨gb169, 0, none⟩) (Kd.R_types HO167.out BK169.out (by decide)) (fun _ hk => hk.2) (.slice Ao8 t162.length co8)) (fun _ hk => hk.2) (.slice Ao10 t165.length co10)) (fun _ h_ => h_.1))) (Kd.R_base ho1) hb)) (aI (aM (Kd.R_lower (Kd.R_new' ho0 (Kd.R_lt (rP (Kd.R_mono (Kd.R_far (p := ⟨gb169, 1, none⟩) (Kd.R_far (p := ⟨gb169, 0, none⟩) (Kd.R_types HO164.out BK169.out (by decide)) (fun _ hk => hk.2) (.slice Ao8 t162.length co8)) (fun _ hk => hk.2) (.slice Ao10 t165.length co10)) (fun _ h_ => h_.1))))) (zB HB))) (aI (aM (Kd.R_lower (Kd.R_new' ho1 (Kd.R_lt (rP (Kd.R_mono (Kd.R_far (p := ⟨gb169, 1, none⟩) (Kd.R_far (p := ⟨gb169, 0, none⟩) (Kd.R_types HO167.out BK169.out (by decide)) (fun _ hk => hk.2) (.slice Ao8 t162.length co8)) (fun _ hk => hk.2) (.slice Ao10 t165.length co10)) (fun _ h_ => h_.1))))) (zB HB))) (aI (aM (blk_below (g := gb169) (o := .cells #[.slice Ao8 t162.length co8, .slice Ao10 t165.length co10] 25 (0, 0)) (by (with_reducible repeat (first | apply bN | apply bD | apply bA)); refine blk_put (cs := #[.slice Ao8 t162.length co8, .slice none 0 0]) ?_ 1 _ rfl; (with_reducible repeat (first | apply bN | apply bD | apply bA)); refine blk_put (cs := #[.slice none 0 0, .slice none 0 0]) ?_ 0 _ rfl; (with_reducible repeat (first | apply bN | apply bD | apply bA)); exact BK169.out) hb)) (sB HB hb))))); clear HO164 HO167 BK169 HB; obtain ⟨HO164, HO167, HO172, HO175, BK169, HB⟩ := n_; (try clear hb ho0 ho1)) | ((with_reducible refine gate_dst (N := 7) rfl ?_); refine bE 7 #[.slice none 0 0, .slice none 0 0] 25 ?_; intro gb177 hg w12 hbox hb; have n_ := aI (rB HO164 hb) (aI (rB HO167 hb) (aI (rB HO172 hb) (aI (rB HO175 hb) (aI (kB BK169 hb) (aI (sB HB hb) (aI (aM hbox) (aI (gE HB hg) (aI (gE HB hg) (aI (nL BK169 hg) (nG BK169 hg)))))))))); clear HO164 HO167 HO172 HO175 BK169 HB; obtain ⟨HO164, HO167, HO172, HO175, BK169, HB, BK177, GW177, GE177, NB169_177, NB177_169⟩ := n_; (try clear hb hbox hg); obtain ⟨Ao13, co13, eo13⟩ := Kd.R_slice HO172.out; subst eo13; have hnb14 := NB177_169.out; have hnc14 := NB169_177.out; have hcz15_0 := cZ0 BK177; have hcz15_1 := cZ1 BK177; have hfz15_0 := fZ BK177 0; have hfz15_1 := fZ BK177 1; obtain ⟨Ao16, co16, eo16⟩ := Kd.R_slice HO175.out; subst eo16))
 (try simp only [Act.put, List.setIfInBounds_toArray, List.set_cons_zero, List.set_cons_succ])
 go_cut [33] (fun v33 wc => ∃ (kq : Nat) (x33_4 : Bool), v33 = .bool x33_4 ∧ Aside0 (laws_FnExactFsNew.j0 kq a0 a1 t168 x33_4 t162 t165 t170 t173 = some r) ∧ Aside0 (kq ≤ k) ∧ Aside0 (Kd.R k33 33 wc w.heap.size (fun k_ => some k_ ≠ ((.slice Ao13 t170.length co13) : Value).ownBlock) (.slice Ao8 t162.length co8) t162) ∧ Aside0 (Kd.R Kd.string 9 wc w.heap.size (fun k_ => some k_ ≠ ((.slice Ao16 t173.length co16) : Value).ownBlock) (.slice Ao10 t165.length co10) t165) ∧ Aside0 (Kd.Q k33 33 wc w.heap.size (fun k_ => some k_ ≠ ((.slice Ao8 t162.length co8) : Value).ownBlock) (.slice Ao13 t170.length co13) t170) ∧ Aside0 (Kd.Q Kd.string 9 wc w.heap.size (fun k_ => some k_ ≠ ((.slice Ao10 t165.length co10) : Value).ownBlock) (.slice Ao16 t173.length co16) t173) ∧ Aside0 (wc.heap[gb169]? = some (.cells #[(.slice Ao8 t162.length co8), (.slice Ao10 t165.length co10)] 25 (0, 0))) ∧ Aside0 (wc.heap[gb177]? = some (.cells #[(.slice Ao13 t170.length co13), (.slice Ao16 t173.length co16)] 25 (0, 0))) ∧ Aside0 (Below w.heap.size w wc))
 case first =>
  have H := HC5.out
  clear HC5
  replace H := Option.bind_eq_some_iff.mp H
  obtain ⟨t178, A170, H⟩ := H
  try dsimp only at H
  have A17 := aM A170
  clear A170
  by_cases c18 : t178 = true
  ·subst c18
   rw [if_pos rfl] at H
   have H' := aM H
   clear H
   have hnb19 := NB177_169.out
   have hnc19 := NB169_177.out
   have hcz20_0 := cZ0 BK177
   have hcz20_1 := cZ1 BK177
   have hfz20_0 := fZ BK177 0
   have hfz20_1 := fZ BK177 1
   have hcz21_0 := cZ0 BK169
   have hcz21_1 := cZ1 BK169
   have hfz21_0 := fZ BK169 0
   have hfz21_1 := fZ BK169 1
   go_wp2_with (first | ((with_reducible refine gate_callee (f := 8) rfl ?_); refine gL (some 27) Try.func8 #[.agg #[.slice Ao13 t170.length co13, .slice Ao16 t173.length co16], .agg #[.slice Ao8 t162.length co8, .slice Ao10 t165.length co10]] ?_; (with_reducible refine (laws_eqFs.calls k _ _ t170 _ _ t173 _ _ t162 _ _ t165 true _ ?side1 ?side2 ?side3 ?side4 ?side5 ?side6 ?side7 ?side8 A17.out).mono ?_); (case side1 => refine (Kd.R_reads' (e := 33) (base := w.heap.size) (ok := fun k_ => (True ∧ some k_ ≠ (.slice Ao8 t162.length co8 : Value).ownBlock)) (n := t170.length) (c := co13) ?_).2.2; exact (rP (Kd.R_mono (Kd.R_far (p := ⟨gb177, 1, none⟩) (Kd.R_far (p := ⟨gb177, 0, none⟩) (Kd.R_types HO172.out BK177.out (by decide)) (fun _ hk => hk.2) (.slice Ao13 t170.length co13)) (fun _ hk => hk.2) (.slice Ao16 t173.length co16)) (fun _ h_ => h_.1)))); (case side2 => exact (Kd.R_reads' HO172.out).2.1); (case side3 => refine (Kd.R_reads' (e := 9) (base := w.heap.size) (ok := fun k_ => (True ∧ some k_ ≠ (.slice Ao10 t165.length co10 : Value).ownBlock)) (n := t173.length) (c := co16) ?_).2.2; exact (rP (Kd.R_mono (Kd.R_far (p := ⟨gb177, 1, none⟩) (Kd.R_far (p := ⟨gb177, 0, none⟩) (Kd.R_types HO175.out BK177.out (by decide)) (fun _ hk => hk.2) (.slice Ao13 t170.length co13)) (fun _ hk => hk.2) (.slice Ao16 t173.length co16)) (fun _ h_ => h_.1)))); (case side4 => exact (Kd.R_reads' HO175.out).2.1); (case side5 => refine (Kd.R_reads' (e := 33) (base := w.heap.size) (ok := fun k_ => (True ∧ some k_ ≠ (.slice Ao13 t170.length co13 : Value).ownBlock)) (n := t162.length) (c := co8) ?_).2.2; exact (rP (Kd.R_mono (Kd.R_far (p := ⟨gb177, 1, none⟩) (Kd.R_far (p := ⟨gb177, 0, none⟩) (Kd.R_types HO164.out BK177.out (by decide)) (fun _ hk => hk.2) (.slice Ao13 t170.length co13)) (fun _ hk => hk.2) (.slice Ao16 t173.length co16)) (fun _ h_ => h_.1)))); (case side6 => exact (Kd.R_reads' HO164.out).2.1); (case side7 => refine (Kd.R_reads' (e := 9) (base := w.heap.size) (ok := fun k_ => (True ∧ some k_ ≠ (.slice Ao16 t173.length co16 : Value).ownBlock)) (n := t165.length) (c := co10) ?_).2.2; exact (rP (Kd.R_mono (Kd.R_far (p := ⟨gb177, 1, none⟩) (Kd.R_far (p := ⟨gb177, 0, none⟩) (Kd.R_types HO167.out BK177.out (by decide)) (fun _ hk => hk.2) (.slice Ao13 t170.length co13)) (fun _ hk => hk.2) (.slice Ao16 t173.length co16)) (fun _ h_ => h_.1)))); (case side8 => exact (Kd.R_reads' HO167.out).2.1); rintro e w22 ⟨rfl, hb⟩; refine ⟨_, rfl, ?_⟩; have n_ := aI (aM (Kd.R_below (rP (Kd.R_mono (Kd.R_far (p := ⟨gb177, 1, none⟩) (Kd.R_far (p := ⟨gb177, 0, none⟩) (Kd.R_types HO164.out BK177.out (by decide)) (fun _ hk => hk.2) (.slice Ao13 t170.length co13)) (fun _ hk => hk.2) (.slice Ao16 t173.length co16)) (fun _ h_ => h_.1))) hb)) (aI (aM (Kd.R_below (rP (Kd.R_mono (Kd.R_far (p := ⟨gb177, 1, none⟩) (Kd.R_far (p := ⟨gb177, 0, none⟩) (Kd.R_types HO167.out BK177.out (by decide)) (fun _ hk => hk.2) (.slice Ao13 t170.length co13)) (fun _ hk => hk.2) (.slice Ao16 t173.length co16)) (fun _ h_ => h_.1))) hb)) (aI (aM (Kd.R_below (rP (Kd.R_mono (Kd.R_far (p := ⟨gb177, 1, none⟩) (Kd.R_far (p := ⟨gb177, 0, none⟩) (Kd.R_types HO172.out BK177.out (by decide)) (fun _ hk => hk.2) (.slice Ao13 t170.length co13)) (fun _ hk => hk.2) (.slice Ao16 t173.length co16)) (fun _ h_ => h_.1))) hb)) (aI (aM (Kd.R_below (rP (Kd.R_mono (Kd.R_far (p := ⟨gb177, 1, none⟩) (Kd.R_far (p := ⟨gb177, 0, none⟩) (Kd.R_types HO175.out BK177.out (by decide)) (fun _ hk => hk.2) (.slice Ao13 t170.length co13)) (fun _ hk => hk.2) (.slice Ao16 t173.length co16)) (fun _ h_ => h_.1))) hb)) (aI (kB BK169 hb) (aI (aM (blk_below (g := gb177) (o := .cells #[.slice Ao13 t170.length co13, .slice Ao16 t173.length co16] 25 (0, 0)) (by (with_reducible repeat (first | apply bN | apply bD | apply bA)); refine blk_put (cs := #[.slice Ao13 t170.length co13, .slice none 0 0]) ?_ 1 _ rfl; (with_reducible repeat (first | apply bN | apply bD | apply bA)); refine blk_put (cs := #[.slice none 0 0, .slice none 0 0]) ?_ 0 _ rfl; (with_reducible repeat (first | apply bN | apply bD | apply bA)); exact BK177.out) hb)) (sB HB hb)))))); clear HO164 HO167 HO172 HO175 BK169 BK177 HB; obtain ⟨HO164, HO167, HO172, HO175, BK169, BK177, HB⟩ := n_; (try clear hb)))
   go_meet
   case rel => exact ⟨_, ((t176 != t168)), (by first | rfl | (simp; done) | (simp [*]; done) | (simp; exact (by intro l_; cases l_ <;> rfl : ∀ l_ : List UInt8, l_.isEmpty = !(l_ != [])) _)), H', ⟨by first | omega | exact Nat.le_refl _⟩, ⟨rP (Kd.R_mono HO164.out (fun _ hk => hk.2))⟩, ⟨rP (Kd.R_mono HO167.out (fun _ hk => hk.2))⟩, ⟨Kd.Q_of_R (rP (Kd.R_mono HO172.out (fun _ hk => hk.2)))⟩, ⟨Kd.Q_of_R (rP (Kd.R_mono HO175.out (fun _ hk => hk.2)))⟩, ⟨kP BK169⟩, ⟨kP BK177⟩, ⟨bB⟩⟩
  replace c18 := Bool.eq_false_iff.mpr c18
  subst c18
  rw [if_neg (show ¬ (false = true) by decide)] at H
  have H' := aM H
  clear H
  have hnb23 := NB177_169.out
  have hnc23 := NB169_177.out
  have hcz24_0 := cZ0 BK177
  have hcz24_1 := cZ1 BK177
  have hfz24_0 := fZ BK177 0
  have hfz24_1 := fZ BK177 1
  have hcz25_0 := cZ0 BK169
  have hcz25_1 := cZ1 BK169
  have hfz25_0 := fZ BK169 0
  have hfz25_1 := fZ BK169 1
  go_wp2_with (first | ((with_reducible refine gate_callee (f := 8) rfl ?_); refine gL (some 27) Try.func8 #[.agg #[.slice Ao13 t170.length co13, .slice Ao16 t173.length co16], .agg #[.slice Ao8 t162.length co8, .slice Ao10 t165.length co10]] ?_; (with_reducible refine (laws_eqFs.calls k _ _ t170 _ _ t173 _ _ t162 _ _ t165 false _ ?side1 ?side2 ?side3 ?side4 ?side5 ?side6 ?side7 ?side8 A17.out).mono ?_); (case side1 => refine (Kd.R_reads' (e := 33) (base := w.heap.size) (ok := fun k_ => (True ∧ some k_ ≠ (.slice Ao8 t162.length co8 : Value).ownBlock)) (n := t170.length) (c := co13) ?_).2.2; exact (rP (Kd.R_mono (Kd.R_far (p := ⟨gb177, 1, none⟩) (Kd.R_far (p := ⟨gb177, 0, none⟩) (Kd.R_types HO172.out BK177.out (by decide)) (fun _ hk => hk.2) (.slice Ao13 t170.length co13)) (fun _ hk => hk.2) (.slice Ao16 t173.length co16)) (fun _ h_ => h_.1)))); (case side2 => exact (Kd.R_reads' HO172.out).2.1); (case side3 => refine (Kd.R_reads' (e := 9) (base := w.heap.size) (ok := fun k_ => (True ∧ some k_ ≠ (.slice Ao10 t165.length co10 : Value).ownBlock)) (n := t173.length) (c := co16) ?_).2.2; exact (rP (Kd.R_mono (Kd.R_far (p := ⟨gb177, 1, none⟩) (Kd.R_far (p := ⟨gb177, 0, none⟩) (Kd.R_types HO175.out BK177.out (by decide)) (fun _ hk => hk.2) (.slice Ao13 t170.length co13)) (fun _ hk => hk.2) (.slice Ao16 t173.length co16)) (fun _ h_ => h_.1)))); (case side4 => exact (Kd.R_reads' HO175.out).2.1); (case side5 => refine (Kd.R_reads' (e := 33) (base := w.heap.size) (ok := fun k_ => (True ∧ some k_ ≠ (.slice Ao13 t170.length co13 : Value).ownBlock)) (n := t162.length) (c := co8) ?_).2.2; exact (rP (Kd.R_mono (Kd.R_far (p := ⟨gb177, 1, none⟩) (Kd.R_far (p := ⟨gb177, 0, none⟩) (Kd.R_types HO164.out BK177.out (by decide)) (fun _ hk => hk.2) (.slice Ao13 t170.length co13)) (fun _ hk => hk.2) (.slice Ao16 t173.length co16)) (fun _ h_ => h_.1)))); (case side6 => exact (Kd.R_reads' HO164.out).2.1); (case side7 => refine (Kd.R_reads' (e := 9) (base := w.heap.size) (ok := fun k_ => (True ∧ some k_ ≠ (.slice Ao16 t173.length co16 : Value).ownBlock)) (n := t165.length) (c := co10) ?_).2.2; exact (rP (Kd.R_mono (Kd.R_far (p := ⟨gb177, 1, none⟩) (Kd.R_far (p := ⟨gb177, 0, none⟩) (Kd.R_types HO167.out BK177.out (by decide)) (fun _ hk => hk.2) (.slice Ao13 t170.length co13)) (fun _ hk => hk.2) (.slice Ao16 t173.length co16)) (fun _ h_ => h_.1)))); (case side8 => exact (Kd.R_reads' HO167.out).2.1); rintro e w26 ⟨rfl, hb⟩; refine ⟨_, rfl, ?_⟩; have n_ := aI (aM (Kd.R_below (rP (Kd.R_mono (Kd.R_far (p := ⟨gb177, 1, none⟩) (Kd.R_far (p := ⟨gb177, 0, none⟩) (Kd.R_types HO164.out BK177.out (by decide)) (fun _ hk => hk.2) (.slice Ao13 t170.length co13)) (fun _ hk => hk.2) (.slice Ao16 t173.length co16)) (fun _ h_ => h_.1))) hb)) (aI (aM (Kd.R_below (rP (Kd.R_mono (Kd.R_far (p := ⟨gb177, 1, none⟩) (Kd.R_far (p := ⟨gb177, 0, none⟩) (Kd.R_types HO167.out BK177.out (by decide)) (fun _ hk => hk.2) (.slice Ao13 t170.length co13)) (fun _ hk => hk.2) (.slice Ao16 t173.length co16)) (fun _ h_ => h_.1))) hb)) (aI (aM (Kd.R_below (rP (Kd.R_mono (Kd.R_far (p := ⟨gb177, 1, none⟩) (Kd.R_far (p := ⟨gb177, 0, none⟩) (Kd.R_types HO172.out BK177.out (by decide)) (fun _ hk => hk.2) (.slice Ao13 t170.length co13)) (fun _ hk => hk.2) (.slice Ao16 t173.length co16)) (fun _ h_ => h_.1))) hb)) (aI (aM (Kd.R_below (rP (Kd.R_mono (Kd.R_far (p := ⟨gb177, 1, none⟩) (Kd.R_far (p := ⟨gb177, 0, none⟩) (Kd.R_types HO175.out BK177.out (by decide)) (fun _ hk => hk.2) (.slice Ao13 t170.length co13)) (fun _ hk => hk.2) (.slice Ao16 t173.length co16)) (fun _ h_ => h_.1))) hb)) (aI (kB BK169 hb) (aI (aM (blk_below (g := gb177) (o := .cells #[.slice Ao13 t170.length co13, .slice Ao16 t173.length co16] 25 (0, 0)) (by (with_reducible repeat (first | apply bN | apply bD | apply bA)); refine blk_put (cs := #[.slice Ao13 t170.length co13, .slice none 0 0]) ?_ 1 _ rfl; (with_reducible repeat (first | apply bN | apply bD | apply bA)); refine blk_put (cs := #[.slice none 0 0, .slice none 0 0]) ?_ 0 _ rfl; (with_reducible repeat (first | apply bN | apply bD | apply bA)); exact BK177.out) hb)) (sB HB hb)))))); clear HO164 HO167 HO172 HO175 BK169 BK177 HB; obtain ⟨HO164, HO167, HO172, HO175, BK169, BK177, HB⟩ := n_; (try clear hb)))
  go_meet
  case rel => exact ⟨_, (true), (by first | rfl | (simp; done) | (simp [*]; done) | (simp; exact (by intro l_; cases l_ <;> rfl : ∀ l_ : List UInt8, l_.isEmpty = !(l_ != [])) _)), H', ⟨by first | omega | exact Nat.le_refl _⟩, ⟨rP (Kd.R_mono HO164.out (fun _ hk => hk.2))⟩, ⟨rP (Kd.R_mono HO167.out (fun _ hk => hk.2))⟩, ⟨Kd.Q_of_R (rP (Kd.R_mono HO172.out (fun _ hk => hk.2)))⟩, ⟨Kd.Q_of_R (rP (Kd.R_mono HO175.out (fun _ hk => hk.2)))⟩, ⟨kP BK169⟩, ⟨kP BK177⟩, ⟨bB⟩⟩
 case rest =>
  clear HC5
  try clear c1
  try clear c2
  try clear p2
  try clear c3
  try clear c6
  try clear c7
  try clear c8
  try clear c14
  try clear c18
  try clear c19
  try clear c23
  try clear hcz15_0
  try clear hcz15_1
  try clear hcz20_0
  try clear hcz20_1
  try clear hcz21_0
  try clear hcz21_1
  try clear hcz24_0
  try clear hcz24_1
  try clear hcz25_0
  try clear hcz25_1
  try clear hcz9_0
  try clear hcz9_1
  try clear hfz15_0
  try clear hfz15_1
  try clear hfz20_0
  try clear hfz20_1
  try clear hfz21_0
  try clear hfz21_1
  try clear hfz24_0
  try clear hfz24_1
  try clear hfz25_0
  try clear hfz25_1
  try clear hfz9_0
  try clear hfz9_1
  obtain ⟨kq, x33_4, rfl, HA, HJ4, HO_170000, HO_170001, HO_178000, HO_178001, BK169, BK177, HB⟩ := hcut
  cases kq with
  | zero => exact absurd HA.out (by simp [laws_FnExactFsNew.j0])
  | succ kj4 =>
   have H := HA.out
   clear HA
   simp only [laws_FnExactFsNew.j0] at H
   by_cases c27 : x33_4 = true
   ·subst c27
    rw [if_pos rfl] at H
    obtain rfl := Option.some.inj H
    go_wp2
    go_ret
    exact ⟨eW, bB⟩
   ·replace c27 := Bool.eq_false_iff.mpr c27
    subst c27
    rw [if_neg (show ¬ (false = true) by decide)] at H
    replace H := Option.bind_eq_some_iff.mp H
    obtain ⟨⟨t179, t180, t181⟩, A280, H⟩ := H
    try dsimp only at H
    have A28 := aM A280
    clear A280
    replace H := Option.bind_eq_some_iff.mp H
    obtain ⟨t182, A290, H⟩ := H
    try dsimp only at H
    have A29 := aM A290
    clear A290
    by_cases c30 : t182 < 0
    ·rw [if_pos c30] at H
     have c30b0 : decide (t182 < 0) = true := decide_eq_true c30
     clear c30
     obtain rfl := Option.some.inj H
     have hnb31 := NB177_169.out
     have hnc31 := NB169_177.out
     have hcz32_0 := cZ0 BK177
     have hcz32_1 := cZ1 BK177
     have hfz32_0 := fZ BK177 0
     have hfz32_1 := fZ BK177 1
     go_wp2_with (first | ((with_reducible refine gate_callee (f := 9) rfl ?_); refine gL (some 36) Try.func9 #[.agg #[.slice Ao13 t170.length co13, .slice Ao16 t173.length co16], .int .i64 1] ?_; (with_reducible refine (laws_markFs.calls kj4 (fun k_ => some k_ = (.slice Ao13 t170.length co13 : Value).ownBlock) (.slice Ao13 t170.length co13) t170 (fun k_ => some k_ = (.slice Ao16 t173.length co16 : Value).ownBlock) (.slice Ao16 t173.length co16) t173 1 t179 t180 t181 w _ ?side1 ?side2 ?side3 A28.out).mono ?_); (case side1 => exact bB); (case side2 => exact Kd.Q_tight rfl HO_178000.out); (case side3 => exact Kd.Q_tight rfl HO_178001.out); rintro e w33 ⟨rfl, hy0, hy1, hb, hkp⟩; refine ⟨_, rfl, ?_⟩; have n_ := aI (aM (Kd.R_mono (ok' := fun k_ => some k_ ≠ (.slice Ao13 t170.length co13 : Value).ownBlock) (Kd.R_keptB ((Kd.R_apart' HO_170000.out (Kd.Q_typed HO_178001.out) (by decide))) hkp (fun k_ hk_ hs_ => Or.elim hs_ (fun e_ => (hk_.1) e_) (fun e_ => (hk_.2) e_))) (fun k_ hk_ => hk_.1.1))) (aI (aM (Kd.R_mono (ok' := fun k_ => some k_ ≠ (.slice Ao16 t173.length co16 : Value).ownBlock) (Kd.R_keptB ((Kd.R_apart' HO_170001.out (Kd.Q_typed HO_178000.out) (by decide))) hkp (fun k_ hk_ hs_ => Or.elim hs_ (fun e_ => (hk_.2) e_) (fun e_ => (hk_.1) e_))) (fun k_ hk_ => hk_.1.1))) (aI (aM (Kd.Q_reok rfl hy0 (fun k_ e_ => HO_178000.out.1 k_ e_))) (aI (aM (Kd.Q_reok rfl hy1 (fun k_ e_ => HO_178001.out.1 k_ e_))) (aI (aM (blk_kept (kP BK169) hkp (fun hs_ => Or.elim hs_ (fun e_ => (fun e_ => (Kd.Q_ne HO_178000.out BK169.out (by decide)) e_) e_) (fun e_ => (fun e_ => (Kd.Q_ne HO_178001.out BK169.out (by decide)) e_) e_)))) (aI (aM (blk_kept (kP BK177) hkp (fun hs_ => Or.elim hs_ (fun e_ => (fun e_ => (Kd.Q_ne HO_178000.out BK177.out (by decide)) e_) e_) (fun e_ => (fun e_ => (Kd.Q_ne HO_178001.out BK177.out (by decide)) e_) e_)))) (aM (hb))))))); clear HO_170000 HO_170001 HO_178000 HO_178001 BK169 BK177 HB; obtain ⟨HO_170000, HO_170001, HO_178000, HO_178001, BK169, BK177, HB⟩ := n_; (try clear hb hkp hy0 hy1); have hcz34_0 := cZ0 BK177; have hcz34_1 := cZ1 BK177; have hfz34_0 := fZ BK177 0; have hfz34_1 := fZ BK177 1) | ((with_reducible refine gate_callee (f := 10) rfl ?_); refine goesL_ (some 39) rfl rfl Try.func10 (by kernel_rfl) rfl #[.agg #[.slice Ao13 t180.length co13, .slice Ao16 t181.length co16], .int .i64 1] rfl (by (try simp only [List.map_toArray, List.map_cons, List.map_nil]); first | done | (rw [show t180.length = t170.length from (Kd.Q_reads' HO_178000.out).1.symm, show t181.length = t173.length from (Kd.Q_reads' HO_178001.out).1.symm] <;> rfl) | rfl | (simp only [List.length_drop, List.length_take]; rfl)) ?_; (with_reducible refine (laws_heldFs.calls kj4 _ _ t180 _ _ t181 1 t182 _ ?side1 ?side2 ?side3 ?side4 A29.out).mono ?_); (case side1 => repeat (first | exact (Kd.Q_reads' HO_178000.out).2.2 | (with_reducible refine Kd.C_alloc ?_ _) | (with_reducible refine Kd.C_drewN ?_ _) | (with_reducible refine Kd.C_drew ?_))); (case side2 => rw [show t180.length = t170.length from (Kd.Q_reads' HO_178000.out).1.symm]; exact (Kd.Q_reads' HO_178000.out).2.1); (case side3 => repeat (first | exact (Kd.Q_reads' HO_178001.out).2.2 | (with_reducible refine Kd.C_alloc ?_ _) | (with_reducible refine Kd.C_drewN ?_ _) | (with_reducible refine Kd.C_drew ?_))); (case side4 => rw [show t181.length = t173.length from (Kd.Q_reads' HO_178001.out).1.symm]; exact (Kd.Q_reads' HO_178001.out).2.1); rintro e w35 ⟨rfl, hb⟩; refine ⟨_, rfl, ?_⟩; have n_ := aI (rB HO_170000 hb) (aI (rB HO_170001 hb) (aI (aM (Kd.Q_below (by (with_reducible repeat (first | apply Kd.Q_alloc | apply Kd.Q_drewN | apply Kd.Q_drew)); exact HO_178000.out) hb)) (aI (aM (Kd.Q_below (by (with_reducible repeat (first | apply Kd.Q_alloc | apply Kd.Q_drewN | apply Kd.Q_drew)); exact HO_178001.out) hb)) (aI (kB BK169 hb) (aI (kB BK177 hb) (sB HB hb)))))); clear HO_170000 HO_170001 HO_178000 HO_178001 BK169 BK177 HB; obtain ⟨HO_170000, HO_170001, HO_178000, HO_178001, BK169, BK177, HB⟩ := n_; (try clear hb)))
     go_ret
     exact ⟨eW, bB⟩
    ·rw [if_neg c30] at H
     have c30b0 : decide (t182 < 0) = false := decide_eq_false c30
     clear c30
     by_cases c36 : t182 = t179
     ·rw [if_pos c36] at H
      have c36b0 : (t182 == t179) = true := beq_iff_eq.mpr c36
      have c36b1 : (t182 != t179) = false := bne_eq_false_iff_eq.mpr c36
      clear c36
      replace H := Option.bind_eq_some_iff.mp H
      obtain ⟨⟨t183, t186, t189⟩, A370, H⟩ := H
      try dsimp only at H
      have A37 := aM A370
      clear A370
      have HC38 := aM H
      clear H
      have hnb39 := NB177_169.out
      have hnc39 := NB169_177.out
      have hcz40_0 := cZ0 BK177
      have hcz40_1 := cZ1 BK177
      have hfz40_0 := fZ BK177 0
      have hfz40_1 := fZ BK177 1
      go_upto_region 14 with (first | ((with_reducible refine gate_callee (f := 9) rfl ?_); refine gL (some 36) Try.func9 #[.agg #[.slice Ao13 t170.length co13, .slice Ao16 t173.length co16], .int .i64 1] ?_; (with_reducible refine (laws_markFs.calls kj4 (fun k_ => some k_ = (.slice Ao13 t170.length co13 : Value).ownBlock) (.slice Ao13 t170.length co13) t170 (fun k_ => some k_ = (.slice Ao16 t173.length co16 : Value).ownBlock) (.slice Ao16 t173.length co16) t173 1 t179 t180 t181 w _ ?side1 ?side2 ?side3 A28.out).mono ?_); (case side1 => exact bB); (case side2 => exact Kd.Q_tight rfl HO_178000.out); (case side3 => exact Kd.Q_tight rfl HO_178001.out); rintro e w41 ⟨rfl, hy0, hy1, hb, hkp⟩; refine ⟨_, rfl, ?_⟩; have n_ := aI (aM (Kd.R_mono (ok' := fun k_ => some k_ ≠ (.slice Ao13 t170.length co13 : Value).ownBlock) (Kd.R_keptB ((Kd.R_apart' HO_170000.out (Kd.Q_typed HO_178001.out) (by decide))) hkp (fun k_ hk_ hs_ => Or.elim hs_ (fun e_ => (hk_.1) e_) (fun e_ => (hk_.2) e_))) (fun k_ hk_ => hk_.1.1))) (aI (aM (Kd.R_mono (ok' := fun k_ => some k_ ≠ (.slice Ao16 t173.length co16 : Value).ownBlock) (Kd.R_keptB ((Kd.R_apart' HO_170001.out (Kd.Q_typed HO_178000.out) (by decide))) hkp (fun k_ hk_ hs_ => Or.elim hs_ (fun e_ => (hk_.2) e_) (fun e_ => (hk_.1) e_))) (fun k_ hk_ => hk_.1.1))) (aI (aM (Kd.Q_reok rfl hy0 (fun k_ e_ => HO_178000.out.1 k_ e_))) (aI (aM (Kd.Q_reok rfl hy1 (fun k_ e_ => HO_178001.out.1 k_ e_))) (aI (aM (blk_kept (kP BK169) hkp (fun hs_ => Or.elim hs_ (fun e_ => (fun e_ => (Kd.Q_ne HO_178000.out BK169.out (by decide)) e_) e_) (fun e_ => (fun e_ => (Kd.Q_ne HO_178001.out BK169.out (by decide)) e_) e_)))) (aI (aM (blk_kept (kP BK177) hkp (fun hs_ => Or.elim hs_ (fun e_ => (fun e_ => (Kd.Q_ne HO_178000.out BK177.out (by decide)) e_) e_) (fun e_ => (fun e_ => (Kd.Q_ne HO_178001.out BK177.out (by decide)) e_) e_)))) (aM (hb))))))); clear HO_170000 HO_170001 HO_178000 HO_178001 BK169 BK177 HB; obtain ⟨HO_170000, HO_170001, HO_178000, HO_178001, BK169, BK177, HB⟩ := n_; (try clear hb hkp hy0 hy1); have hcz42_0 := cZ0 BK177; have hcz42_1 := cZ1 BK177; have hfz42_0 := fZ BK177 0; have hfz42_1 := fZ BK177 1) | ((with_reducible refine gate_callee (f := 10) rfl ?_); refine goesL_ (some 39) rfl rfl Try.func10 (by kernel_rfl) rfl #[.agg #[.slice Ao13 t180.length co13, .slice Ao16 t181.length co16], .int .i64 1] rfl (by (try simp only [List.map_toArray, List.map_cons, List.map_nil]); first | done | (rw [show t180.length = t170.length from (Kd.Q_reads' HO_178000.out).1.symm, show t181.length = t173.length from (Kd.Q_reads' HO_178001.out).1.symm] <;> rfl) | rfl | (simp only [List.length_drop, List.length_take]; rfl)) ?_; (with_reducible refine (laws_heldFs.calls kj4 _ _ t180 _ _ t181 1 t182 _ ?side1 ?side2 ?side3 ?side4 A29.out).mono ?_); (case side1 => repeat (first | exact (Kd.Q_reads' HO_178000.out).2.2 | (with_reducible refine Kd.C_alloc ?_ _) | (with_reducible refine Kd.C_drewN ?_ _) | (with_reducible refine Kd.C_drew ?_))); (case side2 => rw [show t180.length = t170.length from (Kd.Q_reads' HO_178000.out).1.symm]; exact (Kd.Q_reads' HO_178000.out).2.1); (case side3 => repeat (first | exact (Kd.Q_reads' HO_178001.out).2.2 | (with_reducible refine Kd.C_alloc ?_ _) | (with_reducible refine Kd.C_drewN ?_ _) | (with_reducible refine Kd.C_drew ?_))); (case side4 => rw [show t181.length = t173.length from (Kd.Q_reads' HO_178001.out).1.symm]; exact (Kd.Q_reads' HO_178001.out).2.1); rintro e w43 ⟨rfl, hb⟩; refine ⟨_, rfl, ?_⟩; have n_ := aI (rB HO_170000 hb) (aI (rB HO_170001 hb) (aI (aM (Kd.Q_below (by (with_reducible repeat (first | apply Kd.Q_alloc | apply Kd.Q_drewN | apply Kd.Q_drew)); exact HO_178000.out) hb)) (aI (aM (Kd.Q_below (by (with_reducible repeat (first | apply Kd.Q_alloc | apply Kd.Q_drewN | apply Kd.Q_drew)); exact HO_178001.out) hb)) (aI (kB BK169 hb) (aI (kB BK177 hb) (sB HB hb)))))); clear HO_170000 HO_170001 HO_178000 HO_178001 BK169 BK177 HB; obtain ⟨HO_170000, HO_170001, HO_178000, HO_178001, BK169, BK177, HB⟩ := n_; (try clear hb)) | ((with_reducible refine gate_callee (f := 7) rfl ?_); refine gL (some 48) Try.func7 #[.int .i64 a0, .int .i64 a1] ?_; (with_reducible refine (impl_FsNew.calls a0 a1 t183 t186 t189 _ A37.out).mono ?_); rintro e w44 ⟨v184, v187, rfl, ho0, ho1, hb⟩; refine ⟨_, rfl, ?_⟩; have n_ := aI (eR HO_170000 ho0 hb) (aI (eR HO_170001 ho1 hb) (aI (aM (Kd.Q_elder' (by (with_reducible repeat (first | apply Kd.Q_alloc | apply Kd.Q_drewN | apply Kd.Q_drew)); exact HO_178000.out) (Kd.R_base ho0) hb)) (aI (aM (Kd.Q_elder' (by (with_reducible repeat (first | apply Kd.Q_alloc | apply Kd.Q_drewN | apply Kd.Q_drew)); exact HO_178001.out) (Kd.R_base ho1) hb)) (aI (aM (Kd.R_lower (Kd.R_new' (Kd.R_new' ho0 (rL HO_170000)) (Kd.Q_lt (by (with_reducible repeat (first | apply Kd.Q_alloc | apply Kd.Q_drewN | apply Kd.Q_drew)); exact HO_178000.out))) (zB HB))) (aI (aM (Kd.R_lower (Kd.R_new' (Kd.R_new' ho1 (rL HO_170001)) (Kd.Q_lt (by (with_reducible repeat (first | apply Kd.Q_alloc | apply Kd.Q_drewN | apply Kd.Q_drew)); exact HO_178001.out))) (zB HB))) (aI (kB BK169 hb) (aI (kB BK177 hb) (sB HB hb)))))))); clear HO_170000 HO_170001 HO_178000 HO_178001 BK169 BK177 HB; obtain ⟨HO_170000, HO_170001, HO_178000, HO_178001, HO185, HO188, BK169, BK177, HB⟩ := n_; (try clear hb ho0 ho1)) | ((with_reducible refine gate_dst (N := 11) rfl ?_); refine bE 11 #[.slice none 0 0, .slice none 0 0] 25 ?_; intro gb190 hg w45 hbox hb; have n_ := aI (rB HO_170000 hb) (aI (rB HO_170001 hb) (aI (aM (Kd.Q_below (by (with_reducible repeat (first | apply Kd.Q_alloc | apply Kd.Q_drewN | apply Kd.Q_drew)); exact HO_178000.out) hb)) (aI (aM (Kd.Q_below (by (with_reducible repeat (first | apply Kd.Q_alloc | apply Kd.Q_drewN | apply Kd.Q_drew)); exact HO_178001.out) hb)) (aI (rB HO185 hb) (aI (rB HO188 hb) (aI (kB BK169 hb) (aI (kB BK177 hb) (aI (sB HB hb) (aI (aM hbox) (aI (gE HB hg) (aI (gE HB hg) (aI (nL BK169 hg) (aI (nG BK169 hg) (aI (nL BK177 hg) (nG BK177 hg))))))))))))))); clear HO_170000 HO_170001 HO_178000 HO_178001 HO185 HO188 BK169 BK177 HB; obtain ⟨HO_170000, HO_170001, HO_178000, HO_178001, HO185, HO188, BK169, BK177, HB, BK190, GW190, GE190, NB169_190, NB190_169, NB177_190, NB190_177⟩ := n_; (try clear hb hbox hg); obtain ⟨Ao46, co46, eo46⟩ := Kd.R_slice HO185.out; subst eo46; have hnb47 := NB190_169.out; have hnc47 := NB169_190.out; have hnb48 := NB190_177.out; have hnc48 := NB177_190.out; have hcz49_0 := cZ0 BK190; have hcz49_1 := cZ1 BK190; have hfz49_0 := fZ BK190 0; have hfz49_1 := fZ BK190 1; obtain ⟨Ao50, co50, eo50⟩ := Kd.R_slice HO188.out; subst eo50))
      (try simp only [Act.put, List.setIfInBounds_toArray, List.set_cons_zero, List.set_cons_succ])
      go_cut [59] (fun v59 wc => ∃ (kq : Nat) (x59_37 : Bool), v59 = .bool x59_37 ∧ Aside0 (laws_FnExactFsNew.j1 kq t179 x59_37 t180 t181 = some r) ∧ Aside0 (kq ≤ kj4) ∧ Aside0 (Kd.R k33 33 wc w.heap.size (fun k_ => some k_ ≠ ((.slice Ao13 t170.length co13) : Value).ownBlock ∧ some k_ ≠ ((.slice Ao46 t183.length co46) : Value).ownBlock) (.slice Ao8 t162.length co8) t162) ∧ Aside0 (Kd.R Kd.string 9 wc w.heap.size (fun k_ => some k_ ≠ ((.slice Ao16 t173.length co16) : Value).ownBlock ∧ some k_ ≠ ((.slice Ao50 t186.length co50) : Value).ownBlock) (.slice Ao10 t165.length co10) t165) ∧ Aside0 (Kd.Q k33 33 wc w.heap.size (fun k_ => some k_ ≠ ((.slice Ao8 t162.length co8) : Value).ownBlock ∧ some k_ ≠ ((.slice Ao46 t183.length co46) : Value).ownBlock) (.slice Ao13 t170.length co13) t180) ∧ Aside0 (Kd.Q Kd.string 9 wc w.heap.size (fun k_ => some k_ ≠ ((.slice Ao10 t165.length co10) : Value).ownBlock ∧ some k_ ≠ ((.slice Ao50 t186.length co50) : Value).ownBlock) (.slice Ao16 t173.length co16) t181) ∧ Aside0 (Kd.R k33 33 wc w.heap.size (fun k_ => some k_ ≠ ((.slice Ao8 t162.length co8) : Value).ownBlock ∧ some k_ ≠ ((.slice Ao13 t170.length co13) : Value).ownBlock) (.slice Ao46 t183.length co46) t183) ∧ Aside0 (Kd.R Kd.string 9 wc w.heap.size (fun k_ => some k_ ≠ ((.slice Ao10 t165.length co10) : Value).ownBlock ∧ some k_ ≠ ((.slice Ao16 t173.length co16) : Value).ownBlock) (.slice Ao50 t186.length co50) t186) ∧ Aside0 (wc.heap[gb169]? = some (.cells #[(.slice Ao8 t162.length co8), (.slice Ao10 t165.length co10)] 25 (0, 0))) ∧ Aside0 (wc.heap[gb177]? = some (.cells #[(.slice Ao13 t170.length co13), (.slice Ao16 t173.length co16)] 25 (0, 0))) ∧ Aside0 (wc.heap[gb190]? = some (.cells #[(.slice Ao46 t183.length co46), (.slice Ao50 t186.length co50)] 25 (0, 0))) ∧ Aside0 (Below w.heap.size w wc))
      case first =>
       have H := HC38.out
       clear HC38
       replace H := Option.bind_eq_some_iff.mp H
       obtain ⟨t191, A510, H⟩ := H
       try dsimp only at H
       have A51 := aM A510
       clear A510
       by_cases c52 : t191 = true
       ·subst c52
        rw [if_pos rfl] at H
        have H' := aM H
        clear H
        have hnb53 := NB190_169.out
        have hnc53 := NB169_190.out
        have hnb54 := NB190_177.out
        have hnc54 := NB177_190.out
        have hcz55_0 := cZ0 BK190
        have hcz55_1 := cZ1 BK190
        have hfz55_0 := fZ BK190 0
        have hfz55_1 := fZ BK190 1
        have hnb56 := NB169_177.out
        have hnc56 := NB177_169.out
        have hcz57_0 := cZ0 BK169
        have hcz57_1 := cZ1 BK169
        have hfz57_0 := fZ BK169 0
        have hfz57_1 := fZ BK169 1
        go_wp2_with (first | ((with_reducible refine gate_callee (f := 8) rfl ?_); refine gL (some 53) Try.func8 #[.agg #[.slice Ao46 t183.length co46, .slice Ao50 t186.length co50], .agg #[.slice Ao8 t162.length co8, .slice Ao10 t165.length co10]] ?_; (with_reducible refine (laws_eqFs.calls kj4 _ _ t183 _ _ t186 _ _ t162 _ _ t165 true _ ?side1 ?side2 ?side3 ?side4 ?side5 ?side6 ?side7 ?side8 A51.out).mono ?_); (case side1 => refine (Kd.R_reads' (e := 33) (base := w.heap.size) (ok := fun k_ => ((True ∧ some k_ ≠ (.slice Ao8 t162.length co8 : Value).ownBlock) ∧ some k_ ≠ (.slice Ao13 t170.length co13 : Value).ownBlock)) (n := t183.length) (c := co46) ?_).2.2; exact (rP (Kd.R_mono (Kd.R_far (p := ⟨gb190, 1, none⟩) (Kd.R_far (p := ⟨gb190, 0, none⟩) (Kd.R_types HO185.out BK190.out (by decide)) (fun _ hk => hk.2) (.slice Ao46 t183.length co46)) (fun _ hk => hk.2) (.slice Ao50 t186.length co50)) (fun _ h_ => h_.1)))); (case side2 => exact (Kd.R_reads' HO185.out).2.1); (case side3 => refine (Kd.R_reads' (e := 9) (base := w.heap.size) (ok := fun k_ => ((True ∧ some k_ ≠ (.slice Ao10 t165.length co10 : Value).ownBlock) ∧ some k_ ≠ (.slice Ao16 t173.length co16 : Value).ownBlock)) (n := t186.length) (c := co50) ?_).2.2; exact (rP (Kd.R_mono (Kd.R_far (p := ⟨gb190, 1, none⟩) (Kd.R_far (p := ⟨gb190, 0, none⟩) (Kd.R_types HO188.out BK190.out (by decide)) (fun _ hk => hk.2) (.slice Ao46 t183.length co46)) (fun _ hk => hk.2) (.slice Ao50 t186.length co50)) (fun _ h_ => h_.1)))); (case side4 => exact (Kd.R_reads' HO188.out).2.1); (case side5 => refine (Kd.R_reads' (e := 33) (base := w.heap.size) (ok := fun k_ => (some k_ ≠ (.slice Ao13 t170.length co13 : Value).ownBlock ∧ some k_ ≠ (.slice Ao46 t183.length co46 : Value).ownBlock)) (n := t162.length) (c := co8) ?_).2.2; exact (rP (Kd.R_mono (Kd.R_far (p := ⟨gb190, 1, none⟩) (Kd.R_far (p := ⟨gb190, 0, none⟩) (Kd.R_types HO_170000.out BK190.out (by decide)) (fun _ hk => hk.2) (.slice Ao46 t183.length co46)) (fun _ hk => hk.2) (.slice Ao50 t186.length co50)) (fun _ h_ => h_.1)))); (case side6 => exact (Kd.R_reads' HO_170000.out).2.1); (case side7 => refine (Kd.R_reads' (e := 9) (base := w.heap.size) (ok := fun k_ => (some k_ ≠ (.slice Ao16 t173.length co16 : Value).ownBlock ∧ some k_ ≠ (.slice Ao50 t186.length co50 : Value).ownBlock)) (n := t165.length) (c := co10) ?_).2.2; exact (rP (Kd.R_mono (Kd.R_far (p := ⟨gb190, 1, none⟩) (Kd.R_far (p := ⟨gb190, 0, none⟩) (Kd.R_types HO_170001.out BK190.out (by decide)) (fun _ hk => hk.2) (.slice Ao46 t183.length co46)) (fun _ hk => hk.2) (.slice Ao50 t186.length co50)) (fun _ h_ => h_.1)))); (case side8 => exact (Kd.R_reads' HO_170001.out).2.1); rintro e w58 ⟨rfl, hb⟩; refine ⟨_, rfl, ?_⟩; have n_ := aI (aM (Kd.R_below (rP (Kd.R_mono (Kd.R_far (p := ⟨gb190, 1, none⟩) (Kd.R_far (p := ⟨gb190, 0, none⟩) (Kd.R_types HO_170000.out BK190.out (by decide)) (fun _ hk => hk.2) (.slice Ao46 t183.length co46)) (fun _ hk => hk.2) (.slice Ao50 t186.length co50)) (fun _ h_ => h_.1))) hb)) (aI (aM (Kd.R_below (rP (Kd.R_mono (Kd.R_far (p := ⟨gb190, 1, none⟩) (Kd.R_far (p := ⟨gb190, 0, none⟩) (Kd.R_types HO_170001.out BK190.out (by decide)) (fun _ hk => hk.2) (.slice Ao46 t183.length co46)) (fun _ hk => hk.2) (.slice Ao50 t186.length co50)) (fun _ h_ => h_.1))) hb)) (aI (aM (Kd.Q_below (by (with_reducible repeat (first | apply Kd.Q_alloc | apply Kd.Q_drewN | apply Kd.Q_drew)); exact (Kd.Q_mono (Kd.Q_far (p := ⟨gb190, 1, none⟩) (Kd.Q_far (p := ⟨gb190, 0, none⟩) (Kd.Q_types HO_178000.out BK190.out (by decide)) (fun _ hk => hk.2) (.slice Ao46 t183.length co46)) (fun _ hk => hk.2) (.slice Ao50 t186.length co50)) (fun _ h_ => h_.1))) hb)) (aI (aM (Kd.Q_below (by (with_reducible repeat (first | apply Kd.Q_alloc | apply Kd.Q_drewN | apply Kd.Q_drew)); exact (Kd.Q_mono (Kd.Q_far (p := ⟨gb190, 1, none⟩) (Kd.Q_far (p := ⟨gb190, 0, none⟩) (Kd.Q_types HO_178001.out BK190.out (by decide)) (fun _ hk => hk.2) (.slice Ao46 t183.length co46)) (fun _ hk => hk.2) (.slice Ao50 t186.length co50)) (fun _ h_ => h_.1))) hb)) (aI (aM (Kd.R_below (rP (Kd.R_mono (Kd.R_far (p := ⟨gb190, 1, none⟩) (Kd.R_far (p := ⟨gb190, 0, none⟩) (Kd.R_types HO185.out BK190.out (by decide)) (fun _ hk => hk.2) (.slice Ao46 t183.length co46)) (fun _ hk => hk.2) (.slice Ao50 t186.length co50)) (fun _ h_ => h_.1))) hb)) (aI (aM (Kd.R_below (rP (Kd.R_mono (Kd.R_far (p := ⟨gb190, 1, none⟩) (Kd.R_far (p := ⟨gb190, 0, none⟩) (Kd.R_types HO188.out BK190.out (by decide)) (fun _ hk => hk.2) (.slice Ao46 t183.length co46)) (fun _ hk => hk.2) (.slice Ao50 t186.length co50)) (fun _ h_ => h_.1))) hb)) (aI (kB BK169 hb) (aI (kB BK177 hb) (aI (aM (blk_below (g := gb190) (o := .cells #[.slice Ao46 t183.length co46, .slice Ao50 t186.length co50] 25 (0, 0)) (by (with_reducible repeat (first | apply bN | apply bD | apply bA)); refine blk_put (cs := #[.slice Ao46 t183.length co46, .slice none 0 0]) ?_ 1 _ rfl; (with_reducible repeat (first | apply bN | apply bD | apply bA)); refine blk_put (cs := #[.slice none 0 0, .slice none 0 0]) ?_ 0 _ rfl; (with_reducible repeat (first | apply bN | apply bD | apply bA)); exact BK190.out) hb)) (sB HB hb))))))))); clear HO_170000 HO_170001 HO_178000 HO_178001 HO185 HO188 BK169 BK177 BK190 HB; obtain ⟨HO_170000, HO_170001, HO_178000, HO_178001, HO185, HO188, BK169, BK177, BK190, HB⟩ := n_; (try clear hb)))
        go_meet
        case rel => exact ⟨_, ((t189 != t168)), (by first | rfl | (simp; done) | (simp [*]; done) | (simp; exact (by intro l_; cases l_ <;> rfl : ∀ l_ : List UInt8, l_.isEmpty = !(l_ != [])) _)), H', ⟨by have := HJ4.out; first | omega | exact Nat.le_refl _⟩, ⟨rP HO_170000.out⟩, ⟨rP HO_170001.out⟩, ⟨by (with_reducible repeat (first | apply Kd.Q_alloc | apply Kd.Q_drewN | apply Kd.Q_drew)); exact HO_178000.out⟩, ⟨by (with_reducible repeat (first | apply Kd.Q_alloc | apply Kd.Q_drewN | apply Kd.Q_drew)); exact HO_178001.out⟩, ⟨rP (Kd.R_mono HO185.out (fun _ hk => ⟨hk.1.2, hk.2⟩))⟩, ⟨rP (Kd.R_mono HO188.out (fun _ hk => ⟨hk.1.2, hk.2⟩))⟩, ⟨kP BK169⟩, ⟨kP BK177⟩, ⟨kP BK190⟩, ⟨bB⟩⟩
       ·replace c52 := Bool.eq_false_iff.mpr c52
        subst c52
        rw [if_neg (show ¬ (false = true) by decide)] at H
        have H' := aM H
        clear H
        have hnb59 := NB190_169.out
        have hnc59 := NB169_190.out
        have hnb60 := NB190_177.out
        have hnc60 := NB177_190.out
        have hcz61_0 := cZ0 BK190
        have hcz61_1 := cZ1 BK190
        have hfz61_0 := fZ BK190 0
        have hfz61_1 := fZ BK190 1
        have hnb62 := NB169_177.out
        have hnc62 := NB177_169.out
        have hcz63_0 := cZ0 BK169
        have hcz63_1 := cZ1 BK169
        have hfz63_0 := fZ BK169 0
        have hfz63_1 := fZ BK169 1
        go_wp2_with (first | ((with_reducible refine gate_callee (f := 8) rfl ?_); refine gL (some 53) Try.func8 #[.agg #[.slice Ao46 t183.length co46, .slice Ao50 t186.length co50], .agg #[.slice Ao8 t162.length co8, .slice Ao10 t165.length co10]] ?_; (with_reducible refine (laws_eqFs.calls kj4 _ _ t183 _ _ t186 _ _ t162 _ _ t165 false _ ?side1 ?side2 ?side3 ?side4 ?side5 ?side6 ?side7 ?side8 A51.out).mono ?_); (case side1 => refine (Kd.R_reads' (e := 33) (base := w.heap.size) (ok := fun k_ => ((True ∧ some k_ ≠ (.slice Ao8 t162.length co8 : Value).ownBlock) ∧ some k_ ≠ (.slice Ao13 t170.length co13 : Value).ownBlock)) (n := t183.length) (c := co46) ?_).2.2; exact (rP (Kd.R_mono (Kd.R_far (p := ⟨gb190, 1, none⟩) (Kd.R_far (p := ⟨gb190, 0, none⟩) (Kd.R_types HO185.out BK190.out (by decide)) (fun _ hk => hk.2) (.slice Ao46 t183.length co46)) (fun _ hk => hk.2) (.slice Ao50 t186.length co50)) (fun _ h_ => h_.1)))); (case side2 => exact (Kd.R_reads' HO185.out).2.1); (case side3 => refine (Kd.R_reads' (e := 9) (base := w.heap.size) (ok := fun k_ => ((True ∧ some k_ ≠ (.slice Ao10 t165.length co10 : Value).ownBlock) ∧ some k_ ≠ (.slice Ao16 t173.length co16 : Value).ownBlock)) (n := t186.length) (c := co50) ?_).2.2; exact (rP (Kd.R_mono (Kd.R_far (p := ⟨gb190, 1, none⟩) (Kd.R_far (p := ⟨gb190, 0, none⟩) (Kd.R_types HO188.out BK190.out (by decide)) (fun _ hk => hk.2) (.slice Ao46 t183.length co46)) (fun _ hk => hk.2) (.slice Ao50 t186.length co50)) (fun _ h_ => h_.1)))); (case side4 => exact (Kd.R_reads' HO188.out).2.1); (case side5 => refine (Kd.R_reads' (e := 33) (base := w.heap.size) (ok := fun k_ => (some k_ ≠ (.slice Ao13 t170.length co13 : Value).ownBlock ∧ some k_ ≠ (.slice Ao46 t183.length co46 : Value).ownBlock)) (n := t162.length) (c := co8) ?_).2.2; exact (rP (Kd.R_mono (Kd.R_far (p := ⟨gb190, 1, none⟩) (Kd.R_far (p := ⟨gb190, 0, none⟩) (Kd.R_types HO_170000.out BK190.out (by decide)) (fun _ hk => hk.2) (.slice Ao46 t183.length co46)) (fun _ hk => hk.2) (.slice Ao50 t186.length co50)) (fun _ h_ => h_.1)))); (case side6 => exact (Kd.R_reads' HO_170000.out).2.1); (case side7 => refine (Kd.R_reads' (e := 9) (base := w.heap.size) (ok := fun k_ => (some k_ ≠ (.slice Ao16 t173.length co16 : Value).ownBlock ∧ some k_ ≠ (.slice Ao50 t186.length co50 : Value).ownBlock)) (n := t165.length) (c := co10) ?_).2.2; exact (rP (Kd.R_mono (Kd.R_far (p := ⟨gb190, 1, none⟩) (Kd.R_far (p := ⟨gb190, 0, none⟩) (Kd.R_types HO_170001.out BK190.out (by decide)) (fun _ hk => hk.2) (.slice Ao46 t183.length co46)) (fun _ hk => hk.2) (.slice Ao50 t186.length co50)) (fun _ h_ => h_.1)))); (case side8 => exact (Kd.R_reads' HO_170001.out).2.1); rintro e w64 ⟨rfl, hb⟩; refine ⟨_, rfl, ?_⟩; have n_ := aI (aM (Kd.R_below (rP (Kd.R_mono (Kd.R_far (p := ⟨gb190, 1, none⟩) (Kd.R_far (p := ⟨gb190, 0, none⟩) (Kd.R_types HO_170000.out BK190.out (by decide)) (fun _ hk => hk.2) (.slice Ao46 t183.length co46)) (fun _ hk => hk.2) (.slice Ao50 t186.length co50)) (fun _ h_ => h_.1))) hb)) (aI (aM (Kd.R_below (rP (Kd.R_mono (Kd.R_far (p := ⟨gb190, 1, none⟩) (Kd.R_far (p := ⟨gb190, 0, none⟩) (Kd.R_types HO_170001.out BK190.out (by decide)) (fun _ hk => hk.2) (.slice Ao46 t183.length co46)) (fun _ hk => hk.2) (.slice Ao50 t186.length co50)) (fun _ h_ => h_.1))) hb)) (aI (aM (Kd.Q_below (by (with_reducible repeat (first | apply Kd.Q_alloc | apply Kd.Q_drewN | apply Kd.Q_drew)); exact (Kd.Q_mono (Kd.Q_far (p := ⟨gb190, 1, none⟩) (Kd.Q_far (p := ⟨gb190, 0, none⟩) (Kd.Q_types HO_178000.out BK190.out (by decide)) (fun _ hk => hk.2) (.slice Ao46 t183.length co46)) (fun _ hk => hk.2) (.slice Ao50 t186.length co50)) (fun _ h_ => h_.1))) hb)) (aI (aM (Kd.Q_below (by (with_reducible repeat (first | apply Kd.Q_alloc | apply Kd.Q_drewN | apply Kd.Q_drew)); exact (Kd.Q_mono (Kd.Q_far (p := ⟨gb190, 1, none⟩) (Kd.Q_far (p := ⟨gb190, 0, none⟩) (Kd.Q_types HO_178001.out BK190.out (by decide)) (fun _ hk => hk.2) (.slice Ao46 t183.length co46)) (fun _ hk => hk.2) (.slice Ao50 t186.length co50)) (fun _ h_ => h_.1))) hb)) (aI (aM (Kd.R_below (rP (Kd.R_mono (Kd.R_far (p := ⟨gb190, 1, none⟩) (Kd.R_far (p := ⟨gb190, 0, none⟩) (Kd.R_types HO185.out BK190.out (by decide)) (fun _ hk => hk.2) (.slice Ao46 t183.length co46)) (fun _ hk => hk.2) (.slice Ao50 t186.length co50)) (fun _ h_ => h_.1))) hb)) (aI (aM (Kd.R_below (rP (Kd.R_mono (Kd.R_far (p := ⟨gb190, 1, none⟩) (Kd.R_far (p := ⟨gb190, 0, none⟩) (Kd.R_types HO188.out BK190.out (by decide)) (fun _ hk => hk.2) (.slice Ao46 t183.length co46)) (fun _ hk => hk.2) (.slice Ao50 t186.length co50)) (fun _ h_ => h_.1))) hb)) (aI (kB BK169 hb) (aI (kB BK177 hb) (aI (aM (blk_below (g := gb190) (o := .cells #[.slice Ao46 t183.length co46, .slice Ao50 t186.length co50] 25 (0, 0)) (by (with_reducible repeat (first | apply bN | apply bD | apply bA)); refine blk_put (cs := #[.slice Ao46 t183.length co46, .slice none 0 0]) ?_ 1 _ rfl; (with_reducible repeat (first | apply bN | apply bD | apply bA)); refine blk_put (cs := #[.slice none 0 0, .slice none 0 0]) ?_ 0 _ rfl; (with_reducible repeat (first | apply bN | apply bD | apply bA)); exact BK190.out) hb)) (sB HB hb))))))))); clear HO_170000 HO_170001 HO_178000 HO_178001 HO185 HO188 BK169 BK177 BK190 HB; obtain ⟨HO_170000, HO_170001, HO_178000, HO_178001, HO185, HO188, BK169, BK177, BK190, HB⟩ := n_; (try clear hb)))
        go_meet
        case rel => exact ⟨_, (true), (by first | rfl | (simp; done) | (simp [*]; done) | (simp; exact (by intro l_; cases l_ <;> rfl : ∀ l_ : List UInt8, l_.isEmpty = !(l_ != [])) _)), H', ⟨by have := HJ4.out; first | omega | exact Nat.le_refl _⟩, ⟨rP HO_170000.out⟩, ⟨rP HO_170001.out⟩, ⟨by (with_reducible repeat (first | apply Kd.Q_alloc | apply Kd.Q_drewN | apply Kd.Q_drew)); exact HO_178000.out⟩, ⟨by (with_reducible repeat (first | apply Kd.Q_alloc | apply Kd.Q_drewN | apply Kd.Q_drew)); exact HO_178001.out⟩, ⟨rP (Kd.R_mono HO185.out (fun _ hk => ⟨hk.1.2, hk.2⟩))⟩, ⟨rP (Kd.R_mono HO188.out (fun _ hk => ⟨hk.1.2, hk.2⟩))⟩, ⟨kP BK169⟩, ⟨kP BK177⟩, ⟨kP BK190⟩, ⟨bB⟩⟩
      case rest =>
       clear HC38
       try clear c1
       try clear c2
       try clear p2
       try clear c3
       try clear c4
       try clear c5
       try clear c6
       try clear c7
       try clear c8
       try clear c9
       try clear c10
       try clear c14
       try clear c18
       try clear c19
       try clear c23
       try clear c27
       try clear c30
       try clear c30b0
       try clear c31
       try clear c36
       try clear c36b0
       try clear c36b1
       try clear c39
       try clear c47
       try clear c48
       try clear c52
       try clear c53
       try clear c54
       try clear c56
       try clear c59
       try clear c60
       try clear c62
       try clear hcz15_0
       try clear hcz15_1
       try clear hcz20_0
       try clear hcz20_1
       try clear hcz21_0
       try clear hcz21_1
       try clear hcz24_0
       try clear hcz24_1
       try clear hcz25_0
       try clear hcz25_1
       try clear hcz32_0
       try clear hcz32_1
       try clear hcz34_0
       try clear hcz34_1
       try clear hcz40_0
       try clear hcz40_1
       try clear hcz42_0
       try clear hcz42_1
       try clear hcz49_0
       try clear hcz49_1
       try clear hcz55_0
       try clear hcz55_1
       try clear hcz57_0
       try clear hcz57_1
       try clear hcz61_0
       try clear hcz61_1
       try clear hcz63_0
       try clear hcz63_1
       try clear hcz9_0
       try clear hcz9_1
       try clear hfz15_0
       try clear hfz15_1
       try clear hfz20_0
       try clear hfz20_1
       try clear hfz21_0
       try clear hfz21_1
       try clear hfz24_0
       try clear hfz24_1
       try clear hfz25_0
       try clear hfz25_1
       try clear hfz32_0
       try clear hfz32_1
       try clear hfz34_0
       try clear hfz34_1
       try clear hfz40_0
       try clear hfz40_1
       try clear hfz42_0
       try clear hfz42_1
       try clear hfz49_0
       try clear hfz49_1
       try clear hfz55_0
       try clear hfz55_1
       try clear hfz57_0
       try clear hfz57_1
       try clear hfz61_0
       try clear hfz61_1
       try clear hfz63_0
       try clear hfz63_1
       try clear hfz9_0
       try clear hfz9_1
       try clear p2
       obtain ⟨kq, x59_37, rfl, HA, HJ37, HO_170000, HO_170001, HO_178000, HO_178001, HO_191000, HO_191001, BK169, BK177, BK190, HB⟩ := hcut
       have hl178000_37 := (Kd.Q_reads' HO_178000.out).1
       rw [hl178000_37] at HO_178000
       (try simp only [hl178000_37])
       (try simp only [hl178000_37] at BK169)
       (try simp only [hl178000_37] at BK177)
       (try simp only [hl178000_37] at BK190)
       (try simp only [hl178000_37] at HO_170000)
       (try simp only [hl178000_37] at HO_170001)
       (try simp only [hl178000_37] at HO_178001)
       (try simp only [hl178000_37] at HO_191000)
       (try simp only [hl178000_37] at HO_191001)
       have hl178001_37 := (Kd.Q_reads' HO_178001.out).1
       rw [hl178001_37] at HO_178001
       (try simp only [hl178001_37])
       (try simp only [hl178001_37] at BK169)
       (try simp only [hl178001_37] at BK177)
       (try simp only [hl178001_37] at BK190)
       (try simp only [hl178001_37] at HO_170000)
       (try simp only [hl178001_37] at HO_170001)
       (try simp only [hl178001_37] at HO_178000)
       (try simp only [hl178001_37] at HO_191000)
       (try simp only [hl178001_37] at HO_191001)
       cases kq with
       | zero => exact absurd HA.out (by simp [laws_FnExactFsNew.j1])
       | succ kj37 =>
        have H := HA.out
        clear HA
        simp only [laws_FnExactFsNew.j1] at H
        by_cases c65 : x59_37 = true
        ·subst c65
         rw [if_pos rfl] at H
         obtain rfl := Option.some.inj H
         go_wp2
         go_ret
         exact ⟨eW, bB⟩
        ·replace c65 := Bool.eq_false_iff.mpr c65
         subst c65
         rw [if_neg (show ¬ (false = true) by decide)] at H
         replace H := Option.bind_eq_some_iff.mp H
         obtain ⟨t192, A660, H⟩ := H
         try dsimp only at H
         have A66 := aM A660
         clear A660
         by_cases c67 : t192 < 0
         ·rw [if_pos c67] at H
          have c67b0 : decide (t192 < 0) = true := decide_eq_true c67
          clear c67
          obtain rfl := Option.some.inj H
          have hnb68 := NB177_169.out
          have hnc68 := NB169_177.out
          have hnb69 := NB177_190.out
          have hnc69 := NB190_177.out
          have hcz70_0 := cZ0 BK177
          have hcz70_1 := cZ1 BK177
          have hfz70_0 := fZ BK177 0
          have hfz70_1 := fZ BK177 1
          go_wp2_with (first | ((with_reducible refine gate_callee (f := 10) rfl ?_); refine gL (some 62) Try.func10 #[.agg #[.slice Ao13 t180.length co13, .slice Ao16 t181.length co16], .int .i64 1] ?_; (with_reducible refine (laws_heldFs.calls kj37 _ _ t180 _ _ t181 1 t192 _ ?side1 ?side2 ?side3 ?side4 A66.out).mono ?_); (case side1 => repeat (first | exact (Kd.Q_reads' HO_178000.out).2.2 | (with_reducible refine Kd.C_alloc ?_ _) | (with_reducible refine Kd.C_drewN ?_ _) | (with_reducible refine Kd.C_drew ?_))); (case side2 => exact (Kd.Q_reads' HO_178000.out).2.1); (case side3 => repeat (first | exact (Kd.Q_reads' HO_178001.out).2.2 | (with_reducible refine Kd.C_alloc ?_ _) | (with_reducible refine Kd.C_drewN ?_ _) | (with_reducible refine Kd.C_drew ?_))); (case side4 => exact (Kd.Q_reads' HO_178001.out).2.1); rintro e w71 ⟨rfl, hb⟩; refine ⟨_, rfl, ?_⟩; have n_ := aI (rB HO_170000 hb) (aI (rB HO_170001 hb) (aI (aM (Kd.Q_below (by (with_reducible repeat (first | apply Kd.Q_alloc | apply Kd.Q_drewN | apply Kd.Q_drew)); exact HO_178000.out) hb)) (aI (aM (Kd.Q_below (by (with_reducible repeat (first | apply Kd.Q_alloc | apply Kd.Q_drewN | apply Kd.Q_drew)); exact HO_178001.out) hb)) (aI (rB HO_191000 hb) (aI (rB HO_191001 hb) (aI (kB BK169 hb) (aI (kB BK177 hb) (aI (kB BK190 hb) (sB HB hb))))))))); clear HO_170000 HO_170001 HO_178000 HO_178001 HO_191000 HO_191001 BK169 BK177 BK190 HB; obtain ⟨HO_170000, HO_170001, HO_178000, HO_178001, HO_191000, HO_191001, BK169, BK177, BK190, HB⟩ := n_; (try clear hb)))
          go_ret
          exact ⟨eW, bB⟩
         ·rw [if_neg c67] at H
          have c67b0 : decide (t192 < 0) = false := decide_eq_false c67
          clear c67
          by_cases c72 : t192 = t179
          ·rw [if_pos c72] at H
           have c72b0 : (t192 == t179) = true := beq_iff_eq.mpr c72
           have c72b1 : (t192 != t179) = false := bne_eq_false_iff_eq.mpr c72
           clear c72
           obtain rfl := Option.some.inj H
           have hnb73 := NB177_169.out
           have hnc73 := NB169_177.out
           have hnb74 := NB177_190.out
           have hnc74 := NB190_177.out
           have hcz75_0 := cZ0 BK177
           have hcz75_1 := cZ1 BK177
           have hfz75_0 := fZ BK177 0
           have hfz75_1 := fZ BK177 1
           go_wp2_with (first | ((with_reducible refine gate_callee (f := 10) rfl ?_); refine gL (some 62) Try.func10 #[.agg #[.slice Ao13 t180.length co13, .slice Ao16 t181.length co16], .int .i64 1] ?_; (with_reducible refine (laws_heldFs.calls kj37 _ _ t180 _ _ t181 1 t192 _ ?side1 ?side2 ?side3 ?side4 A66.out).mono ?_); (case side1 => repeat (first | exact (Kd.Q_reads' HO_178000.out).2.2 | (with_reducible refine Kd.C_alloc ?_ _) | (with_reducible refine Kd.C_drewN ?_ _) | (with_reducible refine Kd.C_drew ?_))); (case side2 => exact (Kd.Q_reads' HO_178000.out).2.1); (case side3 => repeat (first | exact (Kd.Q_reads' HO_178001.out).2.2 | (with_reducible refine Kd.C_alloc ?_ _) | (with_reducible refine Kd.C_drewN ?_ _) | (with_reducible refine Kd.C_drew ?_))); (case side4 => exact (Kd.Q_reads' HO_178001.out).2.1); rintro e w76 ⟨rfl, hb⟩; refine ⟨_, rfl, ?_⟩; have n_ := aI (rB HO_170000 hb) (aI (rB HO_170001 hb) (aI (aM (Kd.Q_below (by (with_reducible repeat (first | apply Kd.Q_alloc | apply Kd.Q_drewN | apply Kd.Q_drew)); exact HO_178000.out) hb)) (aI (aM (Kd.Q_below (by (with_reducible repeat (first | apply Kd.Q_alloc | apply Kd.Q_drewN | apply Kd.Q_drew)); exact HO_178001.out) hb)) (aI (rB HO_191000 hb) (aI (rB HO_191001 hb) (aI (kB BK169 hb) (aI (kB BK177 hb) (aI (kB BK190 hb) (sB HB hb))))))))); clear HO_170000 HO_170001 HO_178000 HO_178001 HO_191000 HO_191001 BK169 BK177 BK190 HB; obtain ⟨HO_170000, HO_170001, HO_178000, HO_178001, HO_191000, HO_191001, BK169, BK177, BK190, HB⟩ := n_; (try clear hb)))
           go_ret
           exact ⟨eW, bB⟩
          ·rw [if_neg c72] at H
           have c72b0 : (t192 == t179) = false := beq_eq_false_iff_ne.mpr c72
           have c72b1 : (t192 != t179) = true := bne_iff_ne.mpr c72
           obtain rfl := Option.some.inj H
           have hnb77 := NB177_169.out
           have hnc77 := NB169_177.out
           have hnb78 := NB177_190.out
           have hnc78 := NB190_177.out
           have hcz79_0 := cZ0 BK177
           have hcz79_1 := cZ1 BK177
           have hfz79_0 := fZ BK177 0
           have hfz79_1 := fZ BK177 1
           go_wp2_with (first | ((with_reducible refine gate_callee (f := 10) rfl ?_); refine gL (some 62) Try.func10 #[.agg #[.slice Ao13 t180.length co13, .slice Ao16 t181.length co16], .int .i64 1] ?_; (with_reducible refine (laws_heldFs.calls kj37 _ _ t180 _ _ t181 1 t192 _ ?side1 ?side2 ?side3 ?side4 A66.out).mono ?_); (case side1 => repeat (first | exact (Kd.Q_reads' HO_178000.out).2.2 | (with_reducible refine Kd.C_alloc ?_ _) | (with_reducible refine Kd.C_drewN ?_ _) | (with_reducible refine Kd.C_drew ?_))); (case side2 => exact (Kd.Q_reads' HO_178000.out).2.1); (case side3 => repeat (first | exact (Kd.Q_reads' HO_178001.out).2.2 | (with_reducible refine Kd.C_alloc ?_ _) | (with_reducible refine Kd.C_drewN ?_ _) | (with_reducible refine Kd.C_drew ?_))); (case side4 => exact (Kd.Q_reads' HO_178001.out).2.1); rintro e w80 ⟨rfl, hb⟩; refine ⟨_, rfl, ?_⟩; have n_ := aI (rB HO_170000 hb) (aI (rB HO_170001 hb) (aI (aM (Kd.Q_below (by (with_reducible repeat (first | apply Kd.Q_alloc | apply Kd.Q_drewN | apply Kd.Q_drew)); exact HO_178000.out) hb)) (aI (aM (Kd.Q_below (by (with_reducible repeat (first | apply Kd.Q_alloc | apply Kd.Q_drewN | apply Kd.Q_drew)); exact HO_178001.out) hb)) (aI (rB HO_191000 hb) (aI (rB HO_191001 hb) (aI (kB BK169 hb) (aI (kB BK177 hb) (aI (kB BK190 hb) (sB HB hb))))))))); clear HO_170000 HO_170001 HO_178000 HO_178001 HO_191000 HO_191001 BK169 BK177 BK190 HB; obtain ⟨HO_170000, HO_170001, HO_178000, HO_178001, HO_191000, HO_191001, BK169, BK177, BK190, HB⟩ := n_; (try clear hb)))
           go_ret
           exact ⟨eW, bB⟩
     ·rw [if_neg c36] at H
      have c36b0 : (t182 == t179) = false := beq_eq_false_iff_ne.mpr c36
      have c36b1 : (t182 != t179) = true := bne_iff_ne.mpr c36
      obtain rfl := Option.some.inj H
      have hnb81 := NB177_169.out
      have hnc81 := NB169_177.out
      have hcz82_0 := cZ0 BK177
      have hcz82_1 := cZ1 BK177
      have hfz82_0 := fZ BK177 0
      have hfz82_1 := fZ BK177 1
      go_wp2_with (first | ((with_reducible refine gate_callee (f := 9) rfl ?_); refine gL (some 36) Try.func9 #[.agg #[.slice Ao13 t170.length co13, .slice Ao16 t173.length co16], .int .i64 1] ?_; (with_reducible refine (laws_markFs.calls kj4 (fun k_ => some k_ = (.slice Ao13 t170.length co13 : Value).ownBlock) (.slice Ao13 t170.length co13) t170 (fun k_ => some k_ = (.slice Ao16 t173.length co16 : Value).ownBlock) (.slice Ao16 t173.length co16) t173 1 t179 t180 t181 w _ ?side1 ?side2 ?side3 A28.out).mono ?_); (case side1 => exact bB); (case side2 => exact Kd.Q_tight rfl HO_178000.out); (case side3 => exact Kd.Q_tight rfl HO_178001.out); rintro e w83 ⟨rfl, hy0, hy1, hb, hkp⟩; refine ⟨_, rfl, ?_⟩; have n_ := aI (aM (Kd.R_mono (ok' := fun k_ => some k_ ≠ (.slice Ao13 t170.length co13 : Value).ownBlock) (Kd.R_keptB ((Kd.R_apart' HO_170000.out (Kd.Q_typed HO_178001.out) (by decide))) hkp (fun k_ hk_ hs_ => Or.elim hs_ (fun e_ => (hk_.1) e_) (fun e_ => (hk_.2) e_))) (fun k_ hk_ => hk_.1.1))) (aI (aM (Kd.R_mono (ok' := fun k_ => some k_ ≠ (.slice Ao16 t173.length co16 : Value).ownBlock) (Kd.R_keptB ((Kd.R_apart' HO_170001.out (Kd.Q_typed HO_178000.out) (by decide))) hkp (fun k_ hk_ hs_ => Or.elim hs_ (fun e_ => (hk_.2) e_) (fun e_ => (hk_.1) e_))) (fun k_ hk_ => hk_.1.1))) (aI (aM (Kd.Q_reok rfl hy0 (fun k_ e_ => HO_178000.out.1 k_ e_))) (aI (aM (Kd.Q_reok rfl hy1 (fun k_ e_ => HO_178001.out.1 k_ e_))) (aI (aM (blk_kept (kP BK169) hkp (fun hs_ => Or.elim hs_ (fun e_ => (fun e_ => (Kd.Q_ne HO_178000.out BK169.out (by decide)) e_) e_) (fun e_ => (fun e_ => (Kd.Q_ne HO_178001.out BK169.out (by decide)) e_) e_)))) (aI (aM (blk_kept (kP BK177) hkp (fun hs_ => Or.elim hs_ (fun e_ => (fun e_ => (Kd.Q_ne HO_178000.out BK177.out (by decide)) e_) e_) (fun e_ => (fun e_ => (Kd.Q_ne HO_178001.out BK177.out (by decide)) e_) e_)))) (aM (hb))))))); clear HO_170000 HO_170001 HO_178000 HO_178001 BK169 BK177 HB; obtain ⟨HO_170000, HO_170001, HO_178000, HO_178001, BK169, BK177, HB⟩ := n_; (try clear hb hkp hy0 hy1); have hcz84_0 := cZ0 BK177; have hcz84_1 := cZ1 BK177; have hfz84_0 := fZ BK177 0; have hfz84_1 := fZ BK177 1) | ((with_reducible refine gate_callee (f := 10) rfl ?_); refine goesL_ (some 39) rfl rfl Try.func10 (by kernel_rfl) rfl #[.agg #[.slice Ao13 t180.length co13, .slice Ao16 t181.length co16], .int .i64 1] rfl (by (try simp only [List.map_toArray, List.map_cons, List.map_nil]); first | done | (rw [show t180.length = t170.length from (Kd.Q_reads' HO_178000.out).1.symm, show t181.length = t173.length from (Kd.Q_reads' HO_178001.out).1.symm] <;> rfl) | rfl | (simp only [List.length_drop, List.length_take]; rfl)) ?_; (with_reducible refine (laws_heldFs.calls kj4 _ _ t180 _ _ t181 1 t182 _ ?side1 ?side2 ?side3 ?side4 A29.out).mono ?_); (case side1 => repeat (first | exact (Kd.Q_reads' HO_178000.out).2.2 | (with_reducible refine Kd.C_alloc ?_ _) | (with_reducible refine Kd.C_drewN ?_ _) | (with_reducible refine Kd.C_drew ?_))); (case side2 => rw [show t180.length = t170.length from (Kd.Q_reads' HO_178000.out).1.symm]; exact (Kd.Q_reads' HO_178000.out).2.1); (case side3 => repeat (first | exact (Kd.Q_reads' HO_178001.out).2.2 | (with_reducible refine Kd.C_alloc ?_ _) | (with_reducible refine Kd.C_drewN ?_ _) | (with_reducible refine Kd.C_drew ?_))); (case side4 => rw [show t181.length = t173.length from (Kd.Q_reads' HO_178001.out).1.symm]; exact (Kd.Q_reads' HO_178001.out).2.1); rintro e w85 ⟨rfl, hb⟩; refine ⟨_, rfl, ?_⟩; have n_ := aI (rB HO_170000 hb) (aI (rB HO_170001 hb) (aI (aM (Kd.Q_below (by (with_reducible repeat (first | apply Kd.Q_alloc | apply Kd.Q_drewN | apply Kd.Q_drew)); exact HO_178000.out) hb)) (aI (aM (Kd.Q_below (by (with_reducible repeat (first | apply Kd.Q_alloc | apply Kd.Q_drewN | apply Kd.Q_drew)); exact HO_178001.out) hb)) (aI (kB BK169 hb) (aI (kB BK177 hb) (sB HB hb)))))); clear HO_170000 HO_170001 HO_178000 HO_178001 BK169 BK177 HB; obtain ⟨HO_170000, HO_170001, HO_178000, HO_178001, BK169, BK177, HB⟩ := n_; (try clear hb)))
      go_ret
      exact ⟨eW, bB⟩

/-- THE ONE PURE STATEMENT of laws_FnExactFsNew: yours. -/
def laws_FnExactFsNew.Pure : Prop := ∀ (a0 : Int) (a1 : Int), (Lit.int .i64 a0).wf = true → (Lit.int .i64 a1).wf = true → ∃ k, laws_FnExactFsNew.f k a0 a1 = some true
theorem laws_FnExactFsNew.walk (P : laws_FnExactFsNew.Pure) (a0 : Int) (a1 : Int) (w : World) (w0 : (Lit.int .i64 a0).wf = true) (w1 : (Lit.int .i64 a1).wf = true) :
  Calls Try.prog 3 #[.int .i64 a0, .int .i64 a1] w fun e w' => e = .returned (.bool true) ∧ Below w.heap.size w w' := by
 obtain ⟨k, h⟩ := P a0 a1 w0 w1
 refine (laws_FnExactFsNew.calls k a0 a1 true w h).mono ?_
 rintro e w' ⟨rfl, hd⟩
 exact ⟨rfl, hd⟩

end Go.Proofs.Ytadfimhielcmmaa.PFnExactFsNew
