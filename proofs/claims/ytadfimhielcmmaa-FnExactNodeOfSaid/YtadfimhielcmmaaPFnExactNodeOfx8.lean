-- Written by xprint.py, a program of this session over the kit's print. Not trusted: Lean checks it.
import Derived.Test.YtadfimhielcmmaaPFnExactNodeOfx0
import Derived.Test.YtadfimhielcmmaaPFnExactNodeOfx3
import Derived.Test.YtadfimhielcmmaaPFnExactNodeOfx6
import Derived.Test.YtadfimhielcmmaaPFnExactNodeOfx7
namespace Go.Proofs.Ytadfimhielcmmaa.PFnExactNodeOf
open Go.RowKit Go.Proofs.YtadfimhielcmmaaW.PrintWords Go.Proofs.YtadfimhielcmmaaW.PrintLast Go.Proofs.YtadfimhielcmmaaW.PrintMore
attribute [local go_sem] max2_int min2_int max_two min_two max_three min_three max_four min_four   -- for this text's walks alone
set_option linter.unusedVariables false
set_option linter.unusedSimpArgs false

/-! ### laws_FnExactNodeOf: function 4 -/
mutual
def laws_FnExactNodeOf.j0 : Nat → ByteArray → Bool → Bool → Int → Int → Int → Int → List Int → Int → Int → Int → Int → List Int → Option (Bool)
 | 0, _, _, _, _, _, _, _, _, _, _, _, _, _ => none
 | k + 1, x0, x4, x32, x230000, x230001, x230002, x230003, x230004, x239000, x239001, x239002, x239003, x239004 => if x32 = true then (some false) else ((laws_markNode.f k x239000 x239001 x239002 x239003 x239004 1).bind fun bt240 => ((laws_heldNode.f k x239000 x239001 x239002 x239003 bt240.2 1).bind fun t242 => (if t242 < 0 then (some false) else (if t242 = bt240.1 then ((impl_NodeOf.f k x0).bind fun bt243 => ((laws_eqNode.f k bt243.1 bt243.2.1 bt243.2.2.1 bt243.2.2.2.1 bt243.2.2.2.2.1 x230000 x230001 x230002 x230003 x230004).bind fun t252 => (if t252 = true then (laws_FnExactNodeOf.j1 k bt240.1 (bt243.2.2.2.2.2 != x4) x239000 x239001 x239002 x239003 bt240.2) else (laws_FnExactNodeOf.j1 k bt240.1 true x239000 x239001 x239002 x239003 bt240.2)))) else (some false)))))
def laws_FnExactNodeOf.j1 : Nat → Int → Bool → Int → Int → Int → Int → List Int → Option (Bool)
 | 0, _, _, _, _, _, _, _ => none
 | k + 1, x7, x57, x239000, x239001, x239002, x239003, x239004 => if x57 = true then (some false) else ((laws_heldNode.f k x239000 x239001 x239002 x239003 x239004 1).bind fun t253 => (if t253 < 0 then (some false) else (if t253 = x7 then (some true) else (some false))))
end
def laws_FnExactNodeOf.f (k : Nat) (a0 : ByteArray) : Option (Bool) := if (a0.size : Int) > 1048576 then (some true) else ((spec_NodeOf.f k a0).bind fun bt221 => ((impl_NodeOf.f k a0).bind fun bt230 => ((laws_eqNode.f k bt230.1 bt230.2.1 bt230.2.2.1 bt230.2.2.2.1 bt230.2.2.2.2.1 bt221.1 bt221.2.1 bt221.2.2.1 bt221.2.2.2.1 bt221.2.2.2.2.1).bind fun t239 => (if t239 = true then (laws_FnExactNodeOf.j0 k a0 bt221.2.2.2.2.2 (bt230.2.2.2.2.2 != bt221.2.2.2.2.2) bt221.1 bt221.2.1 bt221.2.2.1 bt221.2.2.2.1 bt221.2.2.2.2.1 bt230.1 bt230.2.1 bt230.2.2.1 bt230.2.2.2.1 bt230.2.2.2.2.1) else (laws_FnExactNodeOf.j0 k a0 bt221.2.2.2.2.2 true bt221.1 bt221.2.1 bt221.2.2.1 bt221.2.2.2.1 bt221.2.2.2.2.1 bt230.1 bt230.2.1 bt230.2.2.1 bt230.2.2.2.1 bt230.2.2.2.2.1)))))
theorem laws_FnExactNodeOf.mono_l : ∀ k, (∀ y0 y1 y2 y3 y4 y5 y6 y7 y8 y9 y10 y11 y12, LeO (laws_FnExactNodeOf.j0 k y0 y1 y2 y3 y4 y5 y6 y7 y8 y9 y10 y11 y12) (laws_FnExactNodeOf.j0 (k + 1) y0 y1 y2 y3 y4 y5 y6 y7 y8 y9 y10 y11 y12)) ∧ (∀ y0 y1 y2 y3 y4 y5 y6, LeO (laws_FnExactNodeOf.j1 k y0 y1 y2 y3 y4 y5 y6) (laws_FnExactNodeOf.j1 (k + 1) y0 y1 y2 y3 y4 y5 y6))
 | 0 => ⟨fun _ _ _ _ _ _ _ _ _ _ _ _ _ r h => by simp [laws_FnExactNodeOf.j0] at h, fun _ _ _ _ _ _ _ r h => by simp [laws_FnExactNodeOf.j1] at h⟩
 | k + 1 => by
  obtain ⟨ih0, ih1⟩ := laws_FnExactNodeOf.mono_l k
  refine ⟨?_, ?_⟩
  ·intro y0 y1 y2 y3 y4 y5 y6 y7 y8 y9 y10 y11 y12
   unfold laws_FnExactNodeOf.j0
   have m0_ := @impl_NodeOf.mono
   have m1_ := @laws_eqNode.mono
   have m2_ := @laws_heldNode.mono
   have m3_ := @laws_markNode.mono
   have m4_ := @spec_NodeOf.mono
   exact mM
  ·intro y0 y1 y2 y3 y4 y5 y6
   unfold laws_FnExactNodeOf.j1
   have m0_ := @impl_NodeOf.mono
   have m1_ := @laws_eqNode.mono
   have m2_ := @laws_heldNode.mono
   have m3_ := @laws_markNode.mono
   have m4_ := @spec_NodeOf.mono
   exact mM
theorem laws_FnExactNodeOf.mono : ∀ a0 k, LeO (laws_FnExactNodeOf.f k a0) (laws_FnExactNodeOf.f (k + 1) a0) := by
 intro a0 k
 obtain ⟨ih0, ih1⟩ := laws_FnExactNodeOf.mono_l k
 unfold laws_FnExactNodeOf.f
 have m0_ := @impl_NodeOf.mono
 have m1_ := @laws_eqNode.mono
 have m2_ := @laws_heldNode.mono
 have m3_ := @laws_markNode.mono
 have m4_ := @spec_NodeOf.mono
 exact mM
set_option maxHeartbeats 8000000 in
set_option maxRecDepth 100000 in
theorem laws_FnExactNodeOf.calls (k : Nat) (a0 : ByteArray) (r : Bool) (w : World) (h : laws_FnExactNodeOf.f k a0 = some r) :
  Calls Try.prog 4 #[.string a0] w fun e w' => e = .returned (.bool r) ∧ Below w.heap.size w w' := by
 have hu33 := Try.underlying33
 have HB := aM (Below.refl w.heap.size w)
 unfold laws_FnExactNodeOf.f at h
 have H := h
 clear h
 by_cases c2 : (a0.size : Int) > 1048576
 ·rw [if_pos c2] at H
  have c2b0 : decide (1048576 < (a0.size : Int)) = true := decide_eq_true c2
  have c2b1 : decide (1048576 < a0.size) = true := decide_eq_true (by omega)
  clear c2
  obtain rfl := Option.some.inj H
  go_enter Try.func4, Try.ntmps4
  go_wp2
  go_ret
  exact ⟨eW, bB⟩
 rw [if_neg c2] at H
 have c2b0 : decide (1048576 < (a0.size : Int)) = false := decide_eq_false c2
 have c2b1 : decide (1048576 < a0.size) = false := decide_eq_false (by omega)
 clear c2
 replace H := Option.bind_eq_some_iff.mp H
 obtain ⟨⟨t221, t222, t223, t224, t225, t228⟩, A30, H⟩ := H
 try dsimp only at H
 have A3 := aM A30
 clear A30
 replace H := Option.bind_eq_some_iff.mp H
 obtain ⟨⟨t230, t231, t232, t233, t234, t237⟩, A40, H⟩ := H
 try dsimp only at H
 have A4 := aM A40
 clear A40
 have HC5 := aM H
 clear H
 go_enter Try.func4, Try.ntmps4
 go_upto_region 5 with (first | ((with_reducible refine gate_callee (f := 11) rfl ?_); refine gL (some 16) Try.func11 #[.string a0] ?_; (with_reducible refine (spec_NodeOf.calls k a0 t221 t222 t223 t224 t225 t228 _ A3.out).mono ?_); rintro e w6 ⟨v226, rfl, ho0, hb⟩; refine ⟨_, rfl, ?_⟩; have n_ := aI (lR HB ho0) (sB HB hb); clear HB; obtain ⟨HO227, HB⟩ := n_; (try clear hb ho0)) | ((with_reducible refine gate_dst (N := 3) rfl ?_); refine bE 3 #[.int .i64 0, .int .i64 0, .int .i64 0, .int .i64 0, .slice none 0 0] 33 ?_; intro gb229 hg w7 hbox hb; have n_ := aI (rB HO227 hb) (aI (sB HB hb) (aI (aM hbox) (aI (gE HB hg) (gE HB hg)))); clear HO227 HB; obtain ⟨HO227, HB, BK229, GW229, GE229⟩ := n_; (try clear hb hbox hg); have hcz8_0 := cZ0 BK229; have hcz8_1 := cZ1 BK229; have hcz8_2 : w7.cell? ⟨gb229, 2, none⟩ = some (.int .i64 0) := (blk_cell BK229.out 2).trans rfl; have hcz8_3 : w7.cell? ⟨gb229, 3, none⟩ = some (.int .i64 0) := (blk_cell BK229.out 3).trans rfl; have hcz8_4 : w7.cell? ⟨gb229, 4, none⟩ = some (.slice none 0 0) := (blk_cell BK229.out 4).trans rfl; have hfz8_0 := fZ BK229 0; have hfz8_1 := fZ BK229 1; have hfz8_2 := fZ BK229 2; have hfz8_3 := fZ BK229 3; have hfz8_4 := fZ BK229 4; obtain ⟨Ao9, co9, eo9⟩ := Kd.R_slice HO227.out; subst eo9) | ((with_reducible refine gate_callee (f := 12) rfl ?_); refine gL (some 21) Try.func12 #[.string a0] ?_; (with_reducible refine (impl_NodeOf.calls k a0 t230 t231 t232 t233 t234 t237 _ A4.out).mono ?_); rintro e w10 ⟨v235, rfl, ho0, hb⟩; refine ⟨_, rfl, ?_⟩; have n_ := aI (aM (Kd.R_elder' (rP (Kd.R_mono (Kd.R_far (p := ⟨gb229, 4, none⟩) (Kd.R_far (p := ⟨gb229, 3, none⟩) (Kd.R_far (p := ⟨gb229, 2, none⟩) (Kd.R_far (p := ⟨gb229, 1, none⟩) (Kd.R_far (p := ⟨gb229, 0, none⟩) (Kd.R_types HO227.out BK229.out (by decide)) (fun _ hk => hk.2) (.int .i64 t221)) (fun _ hk => hk.2) (.int .i64 t222)) (fun _ hk => hk.2) (.int .i64 t223)) (fun _ hk => hk.2) (.int .i64 t224)) (fun _ hk => hk.2) (.slice Ao9 t225.length co9)) (fun _ h_ => h_.1))) (Kd.Q_base ho0) hb)) (aI (aM (Kd.Q_lower (Kd.Q_new' ho0 (Kd.R_lt (rP (Kd.R_mono (Kd.R_far (p := ⟨gb229, 4, none⟩) (Kd.R_far (p := ⟨gb229, 3, none⟩) (Kd.R_far (p := ⟨gb229, 2, none⟩) (Kd.R_far (p := ⟨gb229, 1, none⟩) (Kd.R_far (p := ⟨gb229, 0, none⟩) (Kd.R_types HO227.out BK229.out (by decide)) (fun _ hk => hk.2) (.int .i64 t221)) (fun _ hk => hk.2) (.int .i64 t222)) (fun _ hk => hk.2) (.int .i64 t223)) (fun _ hk => hk.2) (.int .i64 t224)) (fun _ hk => hk.2) (.slice Ao9 t225.length co9)) (fun _ h_ => h_.1))))) (zB HB))) (aI (aM (blk_below (g := gb229) (o := .cells #[.int .i64 t221, .int .i64 t222, .int .i64 t223, .int .i64 t224, .slice Ao9 t225.length co9] 33 (0, 0)) (by (with_reducible repeat (first | apply bN | apply bD | apply bA)); refine blk_put (cs := #[.int .i64 t221, .int .i64 t222, .int .i64 t223, .int .i64 t224, .slice none 0 0]) ?_ 4 _ rfl; (with_reducible repeat (first | apply bN | apply bD | apply bA)); refine blk_put (cs := #[.int .i64 t221, .int .i64 t222, .int .i64 t223, .int .i64 0, .slice none 0 0]) ?_ 3 _ rfl; (with_reducible repeat (first | apply bN | apply bD | apply bA)); refine blk_put (cs := #[.int .i64 t221, .int .i64 t222, .int .i64 0, .int .i64 0, .slice none 0 0]) ?_ 2 _ rfl; (with_reducible repeat (first | apply bN | apply bD | apply bA)); refine blk_put (cs := #[.int .i64 t221, .int .i64 0, .int .i64 0, .int .i64 0, .slice none 0 0]) ?_ 1 _ rfl; (with_reducible repeat (first | apply bN | apply bD | apply bA)); refine blk_put (cs := #[.int .i64 0, .int .i64 0, .int .i64 0, .int .i64 0, .slice none 0 0]) ?_ 0 _ rfl; (with_reducible repeat (first | apply bN | apply bD | apply bA)); exact BK229.out) hb)) (sB HB hb))); clear HO227 BK229 HB; obtain ⟨HO227, HO236, BK229, HB⟩ := n_; (try clear hb ho0)) | ((with_reducible refine gate_dst (N := 5) rfl ?_); refine bE 5 #[.int .i64 0, .int .i64 0, .int .i64 0, .int .i64 0, .slice none 0 0] 33 ?_; intro gb238 hg w11 hbox hb; have n_ := aI (rB HO227 hb) (aI (aM (Kd.Q_below (by (with_reducible repeat (first | apply Kd.Q_alloc | apply Kd.Q_drewN | apply Kd.Q_drew)); exact HO236.out) hb)) (aI (kB BK229 hb) (aI (sB HB hb) (aI (aM hbox) (aI (gE HB hg) (aI (gE HB hg) (aI (nL BK229 hg) (nG BK229 hg)))))))); clear HO227 HO236 BK229 HB; obtain ⟨HO227, HO236, BK229, HB, BK238, GW238, GE238, NB229_238, NB238_229⟩ := n_; (try clear hb hbox hg); have hnb12 := NB238_229.out; have hnc12 := NB229_238.out; have hcz13_0 := cZ0 BK238; have hcz13_1 := cZ1 BK238; have hcz13_2 : w11.cell? ⟨gb238, 2, none⟩ = some (.int .i64 0) := (blk_cell BK238.out 2).trans rfl; have hcz13_3 : w11.cell? ⟨gb238, 3, none⟩ = some (.int .i64 0) := (blk_cell BK238.out 3).trans rfl; have hcz13_4 : w11.cell? ⟨gb238, 4, none⟩ = some (.slice none 0 0) := (blk_cell BK238.out 4).trans rfl; have hfz13_0 := fZ BK238 0; have hfz13_1 := fZ BK238 1; have hfz13_2 := fZ BK238 2; have hfz13_3 := fZ BK238 3; have hfz13_4 := fZ BK238 4; obtain ⟨Ao14, co14, eo14, _⟩ := Kd.Q_slice HO236.out; subst eo14))
 (try simp only [Act.put, List.setIfInBounds_toArray, List.set_cons_zero, List.set_cons_succ])
 go_cut [32] (fun v32 wc => ∃ (kq : Nat) (x32_4 : Bool), v32 = .bool x32_4 ∧ Aside0 (laws_FnExactNodeOf.j0 kq a0 t228 x32_4 t221 t222 t223 t224 t225 t230 t231 t232 t233 t234 = some r) ∧ Aside0 (kq ≤ k) ∧ Aside0 (Kd.Q (Kd.int .i64) 3 wc w.heap.size (fun k_ => some k_ ≠ ((.slice Ao14 t234.length co14) : Value).ownBlock) (.slice Ao9 t225.length co9) t225) ∧ Aside0 (Kd.Q (Kd.int .i64) 3 wc w.heap.size (fun k_ => some k_ ≠ ((.slice Ao9 t225.length co9) : Value).ownBlock) (.slice Ao14 t234.length co14) t234) ∧ Aside0 (wc.heap[gb229]? = some (.cells #[.int .i64 t221, .int .i64 t222, .int .i64 t223, .int .i64 t224, (.slice Ao9 t225.length co9)] 33 (0, 0))) ∧ Aside0 (wc.heap[gb238]? = some (.cells #[.int .i64 t230, .int .i64 t231, .int .i64 t232, .int .i64 t233, (.slice Ao14 t234.length co14)] 33 (0, 0))) ∧ Aside0 (Below w.heap.size w wc))
 case first =>
  have H := HC5.out
  clear HC5
  replace H := Option.bind_eq_some_iff.mp H
  obtain ⟨t239, A150, H⟩ := H
  try dsimp only at H
  have A15 := aM A150
  clear A150
  by_cases c16 : t239 = true
  ·subst c16
   rw [if_pos rfl] at H
   have H' := aM H
   clear H
   have hnb17 := NB238_229.out
   have hnc17 := NB229_238.out
   have hcz18_0 := cZ0 BK238
   have hcz18_1 := cZ1 BK238
   have hcz18_2 : w11.cell? ⟨gb238, 2, none⟩ = some (.int .i64 0) := (blk_cell BK238.out 2).trans rfl
   have hcz18_3 : w11.cell? ⟨gb238, 3, none⟩ = some (.int .i64 0) := (blk_cell BK238.out 3).trans rfl
   have hcz18_4 : w11.cell? ⟨gb238, 4, none⟩ = some (.slice none 0 0) := (blk_cell BK238.out 4).trans rfl
   have hfz18_0 := fZ BK238 0
   have hfz18_1 := fZ BK238 1
   have hfz18_2 := fZ BK238 2
   have hfz18_3 := fZ BK238 3
   have hfz18_4 := fZ BK238 4
   have hcz19_0 := cZ0 BK229
   have hcz19_1 := cZ1 BK229
   have hcz19_2 : w11.cell? ⟨gb229, 2, none⟩ = some (.int .i64 t223) := (blk_cell BK229.out 2).trans rfl
   have hcz19_3 : w11.cell? ⟨gb229, 3, none⟩ = some (.int .i64 t224) := (blk_cell BK229.out 3).trans rfl
   have hcz19_4 : w11.cell? ⟨gb229, 4, none⟩ = some (.slice Ao9 t225.length co9) := (blk_cell BK229.out 4).trans rfl
   have hfz19_0 := fZ BK229 0
   have hfz19_1 := fZ BK229 1
   have hfz19_2 := fZ BK229 2
   have hfz19_3 := fZ BK229 3
   have hfz19_4 := fZ BK229 4
   go_wp2_with (first | ((with_reducible refine gate_callee (f := 13) rfl ?_); refine gL (some 26) Try.func13 #[.agg #[.int .i64 t230, .int .i64 t231, .int .i64 t232, .int .i64 t233, .slice Ao14 t234.length co14], .agg #[.int .i64 t221, .int .i64 t222, .int .i64 t223, .int .i64 t224, .slice Ao9 t225.length co9]] ?_; (with_reducible refine (laws_eqNode.calls k t230 t231 t232 t233 _ _ t234 t221 t222 t223 t224 _ _ t225 true _ ?side1 ?side2 ?side3 ?side4 A15.out).mono ?_); (case side1 => refine (Kd.Q_reads' (e := 3) (base := w.heap.size) (ok := fun k_ => (True ∧ some k_ ≠ (.slice Ao9 t225.length co9 : Value).ownBlock)) (n := t234.length) (c := co14) ?_).2.2; exact (by (with_reducible repeat (first | apply Kd.Q_alloc | apply Kd.Q_drewN | apply Kd.Q_drew)); exact (Kd.Q_mono (Kd.Q_far (p := ⟨gb238, 4, none⟩) (Kd.Q_far (p := ⟨gb238, 3, none⟩) (Kd.Q_far (p := ⟨gb238, 2, none⟩) (Kd.Q_far (p := ⟨gb238, 1, none⟩) (Kd.Q_far (p := ⟨gb238, 0, none⟩) (Kd.Q_types HO236.out BK238.out (by decide)) (fun _ hk => hk.2) (.int .i64 t230)) (fun _ hk => hk.2) (.int .i64 t231)) (fun _ hk => hk.2) (.int .i64 t232)) (fun _ hk => hk.2) (.int .i64 t233)) (fun _ hk => hk.2) (.slice Ao14 t234.length co14)) (fun _ h_ => h_.1)))); (case side2 => exact (Kd.Q_reads' HO236.out).2.1); (case side3 => refine (Kd.R_reads' (e := 3) (base := w.heap.size) (ok := fun k_ => (True ∧ some k_ ≠ (.slice Ao14 t234.length co14 : Value).ownBlock)) (n := t225.length) (c := co9) ?_).2.2; exact (rP (Kd.R_mono (Kd.R_far (p := ⟨gb238, 4, none⟩) (Kd.R_far (p := ⟨gb238, 3, none⟩) (Kd.R_far (p := ⟨gb238, 2, none⟩) (Kd.R_far (p := ⟨gb238, 1, none⟩) (Kd.R_far (p := ⟨gb238, 0, none⟩) (Kd.R_types HO227.out BK238.out (by decide)) (fun _ hk => hk.2) (.int .i64 t230)) (fun _ hk => hk.2) (.int .i64 t231)) (fun _ hk => hk.2) (.int .i64 t232)) (fun _ hk => hk.2) (.int .i64 t233)) (fun _ hk => hk.2) (.slice Ao14 t234.length co14)) (fun _ h_ => h_.1)))); (case side4 => exact (Kd.R_reads' HO227.out).2.1); rintro e w20 ⟨rfl, hb⟩; refine ⟨_, rfl, ?_⟩; have n_ := aI (aM (Kd.R_below (rP (Kd.R_mono (Kd.R_far (p := ⟨gb238, 4, none⟩) (Kd.R_far (p := ⟨gb238, 3, none⟩) (Kd.R_far (p := ⟨gb238, 2, none⟩) (Kd.R_far (p := ⟨gb238, 1, none⟩) (Kd.R_far (p := ⟨gb238, 0, none⟩) (Kd.R_types HO227.out BK238.out (by decide)) (fun _ hk => hk.2) (.int .i64 t230)) (fun _ hk => hk.2) (.int .i64 t231)) (fun _ hk => hk.2) (.int .i64 t232)) (fun _ hk => hk.2) (.int .i64 t233)) (fun _ hk => hk.2) (.slice Ao14 t234.length co14)) (fun _ h_ => h_.1))) hb)) (aI (aM (Kd.Q_below (by (with_reducible repeat (first | apply Kd.Q_alloc | apply Kd.Q_drewN | apply Kd.Q_drew)); exact (Kd.Q_mono (Kd.Q_far (p := ⟨gb238, 4, none⟩) (Kd.Q_far (p := ⟨gb238, 3, none⟩) (Kd.Q_far (p := ⟨gb238, 2, none⟩) (Kd.Q_far (p := ⟨gb238, 1, none⟩) (Kd.Q_far (p := ⟨gb238, 0, none⟩) (Kd.Q_types HO236.out BK238.out (by decide)) (fun _ hk => hk.2) (.int .i64 t230)) (fun _ hk => hk.2) (.int .i64 t231)) (fun _ hk => hk.2) (.int .i64 t232)) (fun _ hk => hk.2) (.int .i64 t233)) (fun _ hk => hk.2) (.slice Ao14 t234.length co14)) (fun _ h_ => h_.1))) hb)) (aI (kB BK229 hb) (aI (aM (blk_below (g := gb238) (o := .cells #[.int .i64 t230, .int .i64 t231, .int .i64 t232, .int .i64 t233, .slice Ao14 t234.length co14] 33 (0, 0)) (by (with_reducible repeat (first | apply bN | apply bD | apply bA)); refine blk_put (cs := #[.int .i64 t230, .int .i64 t231, .int .i64 t232, .int .i64 t233, .slice none 0 0]) ?_ 4 _ rfl; (with_reducible repeat (first | apply bN | apply bD | apply bA)); refine blk_put (cs := #[.int .i64 t230, .int .i64 t231, .int .i64 t232, .int .i64 0, .slice none 0 0]) ?_ 3 _ rfl; (with_reducible repeat (first | apply bN | apply bD | apply bA)); refine blk_put (cs := #[.int .i64 t230, .int .i64 t231, .int .i64 0, .int .i64 0, .slice none 0 0]) ?_ 2 _ rfl; (with_reducible repeat (first | apply bN | apply bD | apply bA)); refine blk_put (cs := #[.int .i64 t230, .int .i64 0, .int .i64 0, .int .i64 0, .slice none 0 0]) ?_ 1 _ rfl; (with_reducible repeat (first | apply bN | apply bD | apply bA)); refine blk_put (cs := #[.int .i64 0, .int .i64 0, .int .i64 0, .int .i64 0, .slice none 0 0]) ?_ 0 _ rfl; (with_reducible repeat (first | apply bN | apply bD | apply bA)); exact BK238.out) hb)) (sB HB hb)))); clear HO227 HO236 BK229 BK238 HB; obtain ⟨HO227, HO236, BK229, BK238, HB⟩ := n_; (try clear hb)))
   go_meet
   case rel => exact ⟨_, ((t237 != t228)), (by first | rfl | (simp; done) | (simp [*]; done) | (simp; exact (by intro l_; cases l_ <;> rfl : ∀ l_ : List UInt8, l_.isEmpty = !(l_ != [])) _)), H', ⟨by first | omega | exact Nat.le_refl _⟩, ⟨Kd.Q_of_R (rP (Kd.R_mono HO227.out (fun _ hk => hk.2)))⟩, ⟨by (with_reducible repeat (first | apply Kd.Q_alloc | apply Kd.Q_drewN | apply Kd.Q_drew)); exact Kd.Q_mono HO236.out (fun _ hk => hk.2)⟩, ⟨kP BK229⟩, ⟨kP BK238⟩, ⟨bB⟩⟩
  replace c16 := Bool.eq_false_iff.mpr c16
  subst c16
  rw [if_neg (show ¬ (false = true) by decide)] at H
  have H' := aM H
  clear H
  have hnb21 := NB238_229.out
  have hnc21 := NB229_238.out
  have hcz22_0 := cZ0 BK238
  have hcz22_1 := cZ1 BK238
  have hcz22_2 : w11.cell? ⟨gb238, 2, none⟩ = some (.int .i64 0) := (blk_cell BK238.out 2).trans rfl
  have hcz22_3 : w11.cell? ⟨gb238, 3, none⟩ = some (.int .i64 0) := (blk_cell BK238.out 3).trans rfl
  have hcz22_4 : w11.cell? ⟨gb238, 4, none⟩ = some (.slice none 0 0) := (blk_cell BK238.out 4).trans rfl
  have hfz22_0 := fZ BK238 0
  have hfz22_1 := fZ BK238 1
  have hfz22_2 := fZ BK238 2
  have hfz22_3 := fZ BK238 3
  have hfz22_4 := fZ BK238 4
  have hcz23_0 := cZ0 BK229
  have hcz23_1 := cZ1 BK229
  have hcz23_2 : w11.cell? ⟨gb229, 2, none⟩ = some (.int .i64 t223) := (blk_cell BK229.out 2).trans rfl
  have hcz23_3 : w11.cell? ⟨gb229, 3, none⟩ = some (.int .i64 t224) := (blk_cell BK229.out 3).trans rfl
  have hcz23_4 : w11.cell? ⟨gb229, 4, none⟩ = some (.slice Ao9 t225.length co9) := (blk_cell BK229.out 4).trans rfl
  have hfz23_0 := fZ BK229 0
  have hfz23_1 := fZ BK229 1
  have hfz23_2 := fZ BK229 2
  have hfz23_3 := fZ BK229 3
  have hfz23_4 := fZ BK229 4
  go_wp2_with (first | ((with_reducible refine gate_callee (f := 13) rfl ?_); refine gL (some 26) Try.func13 #[.agg #[.int .i64 t230, .int .i64 t231, .int .i64 t232, .int .i64 t233, .slice Ao14 t234.length co14], .agg #[.int .i64 t221, .int .i64 t222, .int .i64 t223, .int .i64 t224, .slice Ao9 t225.length co9]] ?_; (with_reducible refine (laws_eqNode.calls k t230 t231 t232 t233 _ _ t234 t221 t222 t223 t224 _ _ t225 false _ ?side1 ?side2 ?side3 ?side4 A15.out).mono ?_); (case side1 => refine (Kd.Q_reads' (e := 3) (base := w.heap.size) (ok := fun k_ => (True ∧ some k_ ≠ (.slice Ao9 t225.length co9 : Value).ownBlock)) (n := t234.length) (c := co14) ?_).2.2; exact (by (with_reducible repeat (first | apply Kd.Q_alloc | apply Kd.Q_drewN | apply Kd.Q_drew)); exact (Kd.Q_mono (Kd.Q_far (p := ⟨gb238, 4, none⟩) (Kd.Q_far (p := ⟨gb238, 3, none⟩) (Kd.Q_far (p := ⟨gb238, 2, none⟩) (Kd.Q_far (p := ⟨gb238, 1, none⟩) (Kd.Q_far (p := ⟨gb238, 0, none⟩) (Kd.Q_types HO236.out BK238.out (by decide)) (fun _ hk => hk.2) (.int .i64 t230)) (fun _ hk => hk.2) (.int .i64 t231)) (fun _ hk => hk.2) (.int .i64 t232)) (fun _ hk => hk.2) (.int .i64 t233)) (fun _ hk => hk.2) (.slice Ao14 t234.length co14)) (fun _ h_ => h_.1)))); (case side2 => exact (Kd.Q_reads' HO236.out).2.1); (case side3 => refine (Kd.R_reads' (e := 3) (base := w.heap.size) (ok := fun k_ => (True ∧ some k_ ≠ (.slice Ao14 t234.length co14 : Value).ownBlock)) (n := t225.length) (c := co9) ?_).2.2; exact (rP (Kd.R_mono (Kd.R_far (p := ⟨gb238, 4, none⟩) (Kd.R_far (p := ⟨gb238, 3, none⟩) (Kd.R_far (p := ⟨gb238, 2, none⟩) (Kd.R_far (p := ⟨gb238, 1, none⟩) (Kd.R_far (p := ⟨gb238, 0, none⟩) (Kd.R_types HO227.out BK238.out (by decide)) (fun _ hk => hk.2) (.int .i64 t230)) (fun _ hk => hk.2) (.int .i64 t231)) (fun _ hk => hk.2) (.int .i64 t232)) (fun _ hk => hk.2) (.int .i64 t233)) (fun _ hk => hk.2) (.slice Ao14 t234.length co14)) (fun _ h_ => h_.1)))); (case side4 => exact (Kd.R_reads' HO227.out).2.1); rintro e w24 ⟨rfl, hb⟩; refine ⟨_, rfl, ?_⟩; have n_ := aI (aM (Kd.R_below (rP (Kd.R_mono (Kd.R_far (p := ⟨gb238, 4, none⟩) (Kd.R_far (p := ⟨gb238, 3, none⟩) (Kd.R_far (p := ⟨gb238, 2, none⟩) (Kd.R_far (p := ⟨gb238, 1, none⟩) (Kd.R_far (p := ⟨gb238, 0, none⟩) (Kd.R_types HO227.out BK238.out (by decide)) (fun _ hk => hk.2) (.int .i64 t230)) (fun _ hk => hk.2) (.int .i64 t231)) (fun _ hk => hk.2) (.int .i64 t232)) (fun _ hk => hk.2) (.int .i64 t233)) (fun _ hk => hk.2) (.slice Ao14 t234.length co14)) (fun _ h_ => h_.1))) hb)) (aI (aM (Kd.Q_below (by (with_reducible repeat (first | apply Kd.Q_alloc | apply Kd.Q_drewN | apply Kd.Q_drew)); exact (Kd.Q_mono (Kd.Q_far (p := ⟨gb238, 4, none⟩) (Kd.Q_far (p := ⟨gb238, 3, none⟩) (Kd.Q_far (p := ⟨gb238, 2, none⟩) (Kd.Q_far (p := ⟨gb238, 1, none⟩) (Kd.Q_far (p := ⟨gb238, 0, none⟩) (Kd.Q_types HO236.out BK238.out (by decide)) (fun _ hk => hk.2) (.int .i64 t230)) (fun _ hk => hk.2) (.int .i64 t231)) (fun _ hk => hk.2) (.int .i64 t232)) (fun _ hk => hk.2) (.int .i64 t233)) (fun _ hk => hk.2) (.slice Ao14 t234.length co14)) (fun _ h_ => h_.1))) hb)) (aI (kB BK229 hb) (aI (aM (blk_below (g := gb238) (o := .cells #[.int .i64 t230, .int .i64 t231, .int .i64 t232, .int .i64 t233, .slice Ao14 t234.length co14] 33 (0, 0)) (by (with_reducible repeat (first | apply bN | apply bD | apply bA)); refine blk_put (cs := #[.int .i64 t230, .int .i64 t231, .int .i64 t232, .int .i64 t233, .slice none 0 0]) ?_ 4 _ rfl; (with_reducible repeat (first | apply bN | apply bD | apply bA)); refine blk_put (cs := #[.int .i64 t230, .int .i64 t231, .int .i64 t232, .int .i64 0, .slice none 0 0]) ?_ 3 _ rfl; (with_reducible repeat (first | apply bN | apply bD | apply bA)); refine blk_put (cs := #[.int .i64 t230, .int .i64 t231, .int .i64 0, .int .i64 0, .slice none 0 0]) ?_ 2 _ rfl; (with_reducible repeat (first | apply bN | apply bD | apply bA)); refine blk_put (cs := #[.int .i64 t230, .int .i64 0, .int .i64 0, .int .i64 0, .slice none 0 0]) ?_ 1 _ rfl; (with_reducible repeat (first | apply bN | apply bD | apply bA)); refine blk_put (cs := #[.int .i64 0, .int .i64 0, .int .i64 0, .int .i64 0, .slice none 0 0]) ?_ 0 _ rfl; (with_reducible repeat (first | apply bN | apply bD | apply bA)); exact BK238.out) hb)) (sB HB hb)))); clear HO227 HO236 BK229 BK238 HB; obtain ⟨HO227, HO236, BK229, BK238, HB⟩ := n_; (try clear hb)))
  go_meet
  case rel => exact ⟨_, (true), (by first | rfl | (simp; done) | (simp [*]; done) | (simp; exact (by intro l_; cases l_ <;> rfl : ∀ l_ : List UInt8, l_.isEmpty = !(l_ != [])) _)), H', ⟨by first | omega | exact Nat.le_refl _⟩, ⟨Kd.Q_of_R (rP (Kd.R_mono HO227.out (fun _ hk => hk.2)))⟩, ⟨by (with_reducible repeat (first | apply Kd.Q_alloc | apply Kd.Q_drewN | apply Kd.Q_drew)); exact Kd.Q_mono HO236.out (fun _ hk => hk.2)⟩, ⟨kP BK229⟩, ⟨kP BK238⟩, ⟨bB⟩⟩
 case rest =>
  clear HC5
  try clear c1
  try clear c2
  try clear c2b0
  try clear c2b1
  try clear p2
  try clear c4
  try clear c11
  try clear c12
  try clear c13
  try clear c16
  try clear c17
  try clear c21
  try clear hcz13_0
  try clear hcz13_1
  try clear hcz13_2
  try clear hcz13_3
  try clear hcz13_4
  try clear hcz18_0
  try clear hcz18_1
  try clear hcz18_2
  try clear hcz18_3
  try clear hcz18_4
  try clear hcz19_0
  try clear hcz19_1
  try clear hcz19_2
  try clear hcz19_3
  try clear hcz19_4
  try clear hcz22_0
  try clear hcz22_1
  try clear hcz22_2
  try clear hcz22_3
  try clear hcz22_4
  try clear hcz23_0
  try clear hcz23_1
  try clear hcz23_2
  try clear hcz23_3
  try clear hcz23_4
  try clear hcz8_0
  try clear hcz8_1
  try clear hcz8_2
  try clear hcz8_3
  try clear hcz8_4
  try clear hfz13_0
  try clear hfz13_1
  try clear hfz13_2
  try clear hfz13_3
  try clear hfz13_4
  try clear hfz18_0
  try clear hfz18_1
  try clear hfz18_2
  try clear hfz18_3
  try clear hfz18_4
  try clear hfz19_0
  try clear hfz19_1
  try clear hfz19_2
  try clear hfz19_3
  try clear hfz19_4
  try clear hfz22_0
  try clear hfz22_1
  try clear hfz22_2
  try clear hfz22_3
  try clear hfz22_4
  try clear hfz23_0
  try clear hfz23_1
  try clear hfz23_2
  try clear hfz23_3
  try clear hfz23_4
  try clear hfz8_0
  try clear hfz8_1
  try clear hfz8_2
  try clear hfz8_3
  try clear hfz8_4
  obtain ⟨kq, x32_4, rfl, HA, HJ4, HO_230004, HO_239004, BK229, BK238, HB⟩ := hcut
  cases kq with
  | zero => exact absurd HA.out (by simp [laws_FnExactNodeOf.j0])
  | succ kj4 =>
   have H := HA.out
   clear HA
   simp only [laws_FnExactNodeOf.j0] at H
   by_cases c25 : x32_4 = true
   ·subst c25
    rw [if_pos rfl] at H
    obtain rfl := Option.some.inj H
    go_wp2
    go_ret
    exact ⟨eW, bB⟩
   ·replace c25 := Bool.eq_false_iff.mpr c25
    subst c25
    rw [if_neg (show ¬ (false = true) by decide)] at H
    replace H := Option.bind_eq_some_iff.mp H
    obtain ⟨⟨t240, t241⟩, A260, H⟩ := H
    try dsimp only at H
    have A26 := aM A260
    clear A260
    replace H := Option.bind_eq_some_iff.mp H
    obtain ⟨t242, A270, H⟩ := H
    try dsimp only at H
    have A27 := aM A270
    clear A270
    by_cases c28 : t242 < 0
    ·rw [if_pos c28] at H
     have c28b0 : decide (t242 < 0) = true := decide_eq_true c28
     clear c28
     obtain rfl := Option.some.inj H
     have hnb29 := NB238_229.out
     have hnc29 := NB229_238.out
     have hcz30_0 := cZ0 BK238
     have hcz30_1 := cZ1 BK238
     have hcz30_2 : wc.cell? ⟨gb238, 2, none⟩ = some (.int .i64 t232) := (blk_cell BK238.out 2).trans rfl
     have hcz30_3 : wc.cell? ⟨gb238, 3, none⟩ = some (.int .i64 t233) := (blk_cell BK238.out 3).trans rfl
     have hcz30_4 : wc.cell? ⟨gb238, 4, none⟩ = some (.slice Ao14 t234.length co14) := (blk_cell BK238.out 4).trans rfl
     have hfz30_0 := fZ BK238 0
     have hfz30_1 := fZ BK238 1
     have hfz30_2 := fZ BK238 2
     have hfz30_3 := fZ BK238 3
     have hfz30_4 := fZ BK238 4
     go_wp2_with (first | ((with_reducible refine gate_callee (f := 14) rfl ?_); refine gL (some 35) Try.func14 #[.agg #[.int .i64 t230, .int .i64 t231, .int .i64 t232, .int .i64 t233, .slice Ao14 t234.length co14], .int .i64 1] ?_; (with_reducible refine (laws_markNode.calls kj4 t230 t231 t232 t233 (fun k_ => some k_ = (.slice Ao14 t234.length co14 : Value).ownBlock) (.slice Ao14 t234.length co14) t234 1 t240 t241 w _ ?side1 ?side2 A26.out).mono ?_); (case side1 => exact bB); (case side2 => exact Kd.Q_tight rfl HO_239004.out); rintro e w31 ⟨rfl, hy0, hb, hkp⟩; refine ⟨_, rfl, ?_⟩; have n_ := aI (aM (Kd.Q_mono (ok' := fun k_ => some k_ ≠ (.slice Ao14 t234.length co14 : Value).ownBlock) (Kd.Q_keptB (HO_230004.out) hkp (fun k_ hk_ hs_ => (hk_) hs_)) (fun k_ hk_ => hk_.1))) (aI (aM (Kd.Q_reok rfl hy0 (fun k_ e_ => HO_239004.out.1 k_ e_))) (aI (aM (blk_kept (kP BK229) hkp (fun hs_ => (fun e_ => (Kd.Q_ne HO_239004.out BK229.out (by decide)) e_) hs_))) (aI (aM (blk_kept (kP BK238) hkp (fun hs_ => (fun e_ => (Kd.Q_ne HO_239004.out BK238.out (by decide)) e_) hs_))) (aM (hb))))); clear HO_230004 HO_239004 BK229 BK238 HB; obtain ⟨HO_230004, HO_239004, BK229, BK238, HB⟩ := n_; (try clear hb hkp hy0); have hcz32_0 := cZ0 BK238; have hcz32_1 := cZ1 BK238; have hcz32_2 : w31.cell? ⟨gb238, 2, none⟩ = some (.int .i64 t232) := (blk_cell BK238.out 2).trans rfl; have hcz32_3 : w31.cell? ⟨gb238, 3, none⟩ = some (.int .i64 t233) := (blk_cell BK238.out 3).trans rfl; have hcz32_4 : w31.cell? ⟨gb238, 4, none⟩ = some (.slice Ao14 t234.length co14) := (blk_cell BK238.out 4).trans rfl; have hfz32_0 := fZ BK238 0; have hfz32_1 := fZ BK238 1; have hfz32_2 := fZ BK238 2; have hfz32_3 := fZ BK238 3; have hfz32_4 := fZ BK238 4) | ((with_reducible refine gate_callee (f := 15) rfl ?_); refine goesL_ (some 38) rfl rfl Try.func15 (by kernel_rfl) rfl #[.agg #[.int .i64 t230, .int .i64 t231, .int .i64 t232, .int .i64 t233, .slice Ao14 t241.length co14], .int .i64 1] rfl (by (try simp only [List.map_toArray, List.map_cons, List.map_nil]); first | done | (rw [show t241.length = t234.length from (Kd.Q_reads' HO_239004.out).1.symm] <;> rfl) | rfl | (simp only [List.length_drop, List.length_take]; rfl)) ?_; (with_reducible refine (laws_heldNode.calls kj4 t230 t231 t232 t233 _ _ t241 1 t242 _ ?side1 ?side2 A27.out).mono ?_); (case side1 => repeat (first | exact (Kd.Q_reads' HO_239004.out).2.2 | (with_reducible refine Kd.C_alloc ?_ _) | (with_reducible refine Kd.C_drewN ?_ _) | (with_reducible refine Kd.C_drew ?_))); (case side2 => rw [show t241.length = t234.length from (Kd.Q_reads' HO_239004.out).1.symm]; exact (Kd.Q_reads' HO_239004.out).2.1); rintro e w33 ⟨rfl, hb⟩; refine ⟨_, rfl, ?_⟩; have n_ := aI (aM (Kd.Q_below (by (with_reducible repeat (first | apply Kd.Q_alloc | apply Kd.Q_drewN | apply Kd.Q_drew)); exact HO_230004.out) hb)) (aI (aM (Kd.Q_below (by (with_reducible repeat (first | apply Kd.Q_alloc | apply Kd.Q_drewN | apply Kd.Q_drew)); exact HO_239004.out) hb)) (aI (kB BK229 hb) (aI (kB BK238 hb) (sB HB hb)))); clear HO_230004 HO_239004 BK229 BK238 HB; obtain ⟨HO_230004, HO_239004, BK229, BK238, HB⟩ := n_; (try clear hb)))
     go_ret
     exact ⟨eW, bB⟩
    ·rw [if_neg c28] at H
     have c28b0 : decide (t242 < 0) = false := decide_eq_false c28
     clear c28
     by_cases c34 : t242 = t240
     ·rw [if_pos c34] at H
      have c34b0 : (t242 == t240) = true := beq_iff_eq.mpr c34
      have c34b1 : (t242 != t240) = false := bne_eq_false_iff_eq.mpr c34
      clear c34
      replace H := Option.bind_eq_some_iff.mp H
      obtain ⟨⟨t243, t244, t245, t246, t247, t250⟩, A350, H⟩ := H
      try dsimp only at H
      have A35 := aM A350
      clear A350
      have HC36 := aM H
      clear H
      have hnb37 := NB238_229.out
      have hnc37 := NB229_238.out
      have hcz38_0 := cZ0 BK238
      have hcz38_1 := cZ1 BK238
      have hcz38_2 : wc.cell? ⟨gb238, 2, none⟩ = some (.int .i64 t232) := (blk_cell BK238.out 2).trans rfl
      have hcz38_3 : wc.cell? ⟨gb238, 3, none⟩ = some (.int .i64 t233) := (blk_cell BK238.out 3).trans rfl
      have hcz38_4 : wc.cell? ⟨gb238, 4, none⟩ = some (.slice Ao14 t234.length co14) := (blk_cell BK238.out 4).trans rfl
      have hfz38_0 := fZ BK238 0
      have hfz38_1 := fZ BK238 1
      have hfz38_2 := fZ BK238 2
      have hfz38_3 := fZ BK238 3
      have hfz38_4 := fZ BK238 4
      go_upto_region 16 with (first | ((with_reducible refine gate_callee (f := 14) rfl ?_); refine gL (some 35) Try.func14 #[.agg #[.int .i64 t230, .int .i64 t231, .int .i64 t232, .int .i64 t233, .slice Ao14 t234.length co14], .int .i64 1] ?_; (with_reducible refine (laws_markNode.calls kj4 t230 t231 t232 t233 (fun k_ => some k_ = (.slice Ao14 t234.length co14 : Value).ownBlock) (.slice Ao14 t234.length co14) t234 1 t240 t241 w _ ?side1 ?side2 A26.out).mono ?_); (case side1 => exact bB); (case side2 => exact Kd.Q_tight rfl HO_239004.out); rintro e w39 ⟨rfl, hy0, hb, hkp⟩; refine ⟨_, rfl, ?_⟩; have n_ := aI (aM (Kd.Q_mono (ok' := fun k_ => some k_ ≠ (.slice Ao14 t234.length co14 : Value).ownBlock) (Kd.Q_keptB (HO_230004.out) hkp (fun k_ hk_ hs_ => (hk_) hs_)) (fun k_ hk_ => hk_.1))) (aI (aM (Kd.Q_reok rfl hy0 (fun k_ e_ => HO_239004.out.1 k_ e_))) (aI (aM (blk_kept (kP BK229) hkp (fun hs_ => (fun e_ => (Kd.Q_ne HO_239004.out BK229.out (by decide)) e_) hs_))) (aI (aM (blk_kept (kP BK238) hkp (fun hs_ => (fun e_ => (Kd.Q_ne HO_239004.out BK238.out (by decide)) e_) hs_))) (aM (hb))))); clear HO_230004 HO_239004 BK229 BK238 HB; obtain ⟨HO_230004, HO_239004, BK229, BK238, HB⟩ := n_; (try clear hb hkp hy0); have hcz40_0 := cZ0 BK238; have hcz40_1 := cZ1 BK238; have hcz40_2 : w39.cell? ⟨gb238, 2, none⟩ = some (.int .i64 t232) := (blk_cell BK238.out 2).trans rfl; have hcz40_3 : w39.cell? ⟨gb238, 3, none⟩ = some (.int .i64 t233) := (blk_cell BK238.out 3).trans rfl; have hcz40_4 : w39.cell? ⟨gb238, 4, none⟩ = some (.slice Ao14 t234.length co14) := (blk_cell BK238.out 4).trans rfl; have hfz40_0 := fZ BK238 0; have hfz40_1 := fZ BK238 1; have hfz40_2 := fZ BK238 2; have hfz40_3 := fZ BK238 3; have hfz40_4 := fZ BK238 4) | ((with_reducible refine gate_callee (f := 15) rfl ?_); refine goesL_ (some 38) rfl rfl Try.func15 (by kernel_rfl) rfl #[.agg #[.int .i64 t230, .int .i64 t231, .int .i64 t232, .int .i64 t233, .slice Ao14 t241.length co14], .int .i64 1] rfl (by (try simp only [List.map_toArray, List.map_cons, List.map_nil]); first | done | (rw [show t241.length = t234.length from (Kd.Q_reads' HO_239004.out).1.symm] <;> rfl) | rfl | (simp only [List.length_drop, List.length_take]; rfl)) ?_; (with_reducible refine (laws_heldNode.calls kj4 t230 t231 t232 t233 _ _ t241 1 t242 _ ?side1 ?side2 A27.out).mono ?_); (case side1 => repeat (first | exact (Kd.Q_reads' HO_239004.out).2.2 | (with_reducible refine Kd.C_alloc ?_ _) | (with_reducible refine Kd.C_drewN ?_ _) | (with_reducible refine Kd.C_drew ?_))); (case side2 => rw [show t241.length = t234.length from (Kd.Q_reads' HO_239004.out).1.symm]; exact (Kd.Q_reads' HO_239004.out).2.1); rintro e w41 ⟨rfl, hb⟩; refine ⟨_, rfl, ?_⟩; have n_ := aI (aM (Kd.Q_below (by (with_reducible repeat (first | apply Kd.Q_alloc | apply Kd.Q_drewN | apply Kd.Q_drew)); exact HO_230004.out) hb)) (aI (aM (Kd.Q_below (by (with_reducible repeat (first | apply Kd.Q_alloc | apply Kd.Q_drewN | apply Kd.Q_drew)); exact HO_239004.out) hb)) (aI (kB BK229 hb) (aI (kB BK238 hb) (sB HB hb)))); clear HO_230004 HO_239004 BK229 BK238 HB; obtain ⟨HO_230004, HO_239004, BK229, BK238, HB⟩ := n_; (try clear hb)) | ((with_reducible refine gate_callee (f := 12) rfl ?_); refine gL (some 46) Try.func12 #[.string a0] ?_; (with_reducible refine (impl_NodeOf.calls kj4 a0 t243 t244 t245 t246 t247 t250 _ A35.out).mono ?_); rintro e w42 ⟨v248, rfl, ho0, hb⟩; refine ⟨_, rfl, ?_⟩; have n_ := aI (aM (Kd.Q_elder' (by (with_reducible repeat (first | apply Kd.Q_alloc | apply Kd.Q_drewN | apply Kd.Q_drew)); exact HO_230004.out) (Kd.Q_base ho0) hb)) (aI (aM (Kd.Q_elder' (by (with_reducible repeat (first | apply Kd.Q_alloc | apply Kd.Q_drewN | apply Kd.Q_drew)); exact HO_239004.out) (Kd.Q_base ho0) hb)) (aI (aM (Kd.Q_lower (Kd.Q_new' (Kd.Q_new' ho0 (Kd.Q_lt (by (with_reducible repeat (first | apply Kd.Q_alloc | apply Kd.Q_drewN | apply Kd.Q_drew)); exact HO_230004.out))) (Kd.Q_lt (by (with_reducible repeat (first | apply Kd.Q_alloc | apply Kd.Q_drewN | apply Kd.Q_drew)); exact HO_239004.out))) (zB HB))) (aI (kB BK229 hb) (aI (kB BK238 hb) (sB HB hb))))); clear HO_230004 HO_239004 BK229 BK238 HB; obtain ⟨HO_230004, HO_239004, HO249, BK229, BK238, HB⟩ := n_; (try clear hb ho0)) | ((with_reducible refine gate_dst (N := 9) rfl ?_); refine bE 9 #[.int .i64 0, .int .i64 0, .int .i64 0, .int .i64 0, .slice none 0 0] 33 ?_; intro gb251 hg w43 hbox hb; have n_ := aI (aM (Kd.Q_below (by (with_reducible repeat (first | apply Kd.Q_alloc | apply Kd.Q_drewN | apply Kd.Q_drew)); exact HO_230004.out) hb)) (aI (aM (Kd.Q_below (by (with_reducible repeat (first | apply Kd.Q_alloc | apply Kd.Q_drewN | apply Kd.Q_drew)); exact HO_239004.out) hb)) (aI (aM (Kd.Q_below (by (with_reducible repeat (first | apply Kd.Q_alloc | apply Kd.Q_drewN | apply Kd.Q_drew)); exact HO249.out) hb)) (aI (kB BK229 hb) (aI (kB BK238 hb) (aI (sB HB hb) (aI (aM hbox) (aI (gE HB hg) (aI (gE HB hg) (aI (nL BK229 hg) (aI (nG BK229 hg) (aI (nL BK238 hg) (nG BK238 hg)))))))))))); clear HO_230004 HO_239004 HO249 BK229 BK238 HB; obtain ⟨HO_230004, HO_239004, HO249, BK229, BK238, HB, BK251, GW251, GE251, NB229_251, NB251_229, NB238_251, NB251_238⟩ := n_; (try clear hb hbox hg); have hnb44 := NB251_229.out; have hnc44 := NB229_251.out; have hnb45 := NB251_238.out; have hnc45 := NB238_251.out; have hcz46_0 := cZ0 BK251; have hcz46_1 := cZ1 BK251; have hcz46_2 : w43.cell? ⟨gb251, 2, none⟩ = some (.int .i64 0) := (blk_cell BK251.out 2).trans rfl; have hcz46_3 : w43.cell? ⟨gb251, 3, none⟩ = some (.int .i64 0) := (blk_cell BK251.out 3).trans rfl; have hcz46_4 : w43.cell? ⟨gb251, 4, none⟩ = some (.slice none 0 0) := (blk_cell BK251.out 4).trans rfl; have hfz46_0 := fZ BK251 0; have hfz46_1 := fZ BK251 1; have hfz46_2 := fZ BK251 2; have hfz46_3 := fZ BK251 3; have hfz46_4 := fZ BK251 4; obtain ⟨Ao47, co47, eo47, _⟩ := Kd.Q_slice HO249.out; subst eo47))
      (try simp only [Act.put, List.setIfInBounds_toArray, List.set_cons_zero, List.set_cons_succ])
      go_cut [57] (fun v57 wc => ∃ (kq : Nat) (x57_35 : Bool), v57 = .bool x57_35 ∧ Aside0 (laws_FnExactNodeOf.j1 kq t240 x57_35 t230 t231 t232 t233 t241 = some r) ∧ Aside0 (kq ≤ kj4) ∧ Aside0 (Kd.Q (Kd.int .i64) 3 wc w.heap.size (fun k_ => some k_ ≠ ((.slice Ao14 t234.length co14) : Value).ownBlock ∧ some k_ ≠ ((.slice Ao47 t247.length co47) : Value).ownBlock) (.slice Ao9 t225.length co9) t225) ∧ Aside0 (Kd.Q (Kd.int .i64) 3 wc w.heap.size (fun k_ => some k_ ≠ ((.slice Ao9 t225.length co9) : Value).ownBlock ∧ some k_ ≠ ((.slice Ao47 t247.length co47) : Value).ownBlock) (.slice Ao14 t234.length co14) t241) ∧ Aside0 (Kd.Q (Kd.int .i64) 3 wc w.heap.size (fun k_ => some k_ ≠ ((.slice Ao9 t225.length co9) : Value).ownBlock ∧ some k_ ≠ ((.slice Ao14 t234.length co14) : Value).ownBlock) (.slice Ao47 t247.length co47) t247) ∧ Aside0 (wc.heap[gb229]? = some (.cells #[.int .i64 t221, .int .i64 t222, .int .i64 t223, .int .i64 t224, (.slice Ao9 t225.length co9)] 33 (0, 0))) ∧ Aside0 (wc.heap[gb238]? = some (.cells #[.int .i64 t230, .int .i64 t231, .int .i64 t232, .int .i64 t233, (.slice Ao14 t234.length co14)] 33 (0, 0))) ∧ Aside0 (wc.heap[gb251]? = some (.cells #[.int .i64 t243, .int .i64 t244, .int .i64 t245, .int .i64 t246, (.slice Ao47 t247.length co47)] 33 (0, 0))) ∧ Aside0 (Below w.heap.size w wc))
      case first =>
       have H := HC36.out
       clear HC36
       replace H := Option.bind_eq_some_iff.mp H
       obtain ⟨t252, A480, H⟩ := H
       try dsimp only at H
       have A48 := aM A480
       clear A480
       by_cases c49 : t252 = true
       ·subst c49
        rw [if_pos rfl] at H
        have H' := aM H
        clear H
        have hnb50 := NB251_229.out
        have hnc50 := NB229_251.out
        have hnb51 := NB251_238.out
        have hnc51 := NB238_251.out
        have hcz52_0 := cZ0 BK251
        have hcz52_1 := cZ1 BK251
        have hcz52_2 : w43.cell? ⟨gb251, 2, none⟩ = some (.int .i64 0) := (blk_cell BK251.out 2).trans rfl
        have hcz52_3 : w43.cell? ⟨gb251, 3, none⟩ = some (.int .i64 0) := (blk_cell BK251.out 3).trans rfl
        have hcz52_4 : w43.cell? ⟨gb251, 4, none⟩ = some (.slice none 0 0) := (blk_cell BK251.out 4).trans rfl
        have hfz52_0 := fZ BK251 0
        have hfz52_1 := fZ BK251 1
        have hfz52_2 := fZ BK251 2
        have hfz52_3 := fZ BK251 3
        have hfz52_4 := fZ BK251 4
        have hnb53 := NB229_238.out
        have hnc53 := NB238_229.out
        have hcz54_0 := cZ0 BK229
        have hcz54_1 := cZ1 BK229
        have hcz54_2 : w43.cell? ⟨gb229, 2, none⟩ = some (.int .i64 t223) := (blk_cell BK229.out 2).trans rfl
        have hcz54_3 : w43.cell? ⟨gb229, 3, none⟩ = some (.int .i64 t224) := (blk_cell BK229.out 3).trans rfl
        have hcz54_4 : w43.cell? ⟨gb229, 4, none⟩ = some (.slice Ao9 t225.length co9) := (blk_cell BK229.out 4).trans rfl
        have hfz54_0 := fZ BK229 0
        have hfz54_1 := fZ BK229 1
        have hfz54_2 := fZ BK229 2
        have hfz54_3 := fZ BK229 3
        have hfz54_4 := fZ BK229 4
        go_wp2_with (first | ((with_reducible refine gate_callee (f := 13) rfl ?_); refine gL (some 51) Try.func13 #[.agg #[.int .i64 t243, .int .i64 t244, .int .i64 t245, .int .i64 t246, .slice Ao47 t247.length co47], .agg #[.int .i64 t221, .int .i64 t222, .int .i64 t223, .int .i64 t224, .slice Ao9 t225.length co9]] ?_; (with_reducible refine (laws_eqNode.calls kj4 t243 t244 t245 t246 _ _ t247 t221 t222 t223 t224 _ _ t225 true _ ?side1 ?side2 ?side3 ?side4 A48.out).mono ?_); (case side1 => refine (Kd.Q_reads' (e := 3) (base := w.heap.size) (ok := fun k_ => ((True ∧ some k_ ≠ (.slice Ao9 t225.length co9 : Value).ownBlock) ∧ some k_ ≠ (.slice Ao14 t234.length co14 : Value).ownBlock)) (n := t247.length) (c := co47) ?_).2.2; exact (by (with_reducible repeat (first | apply Kd.Q_alloc | apply Kd.Q_drewN | apply Kd.Q_drew)); exact (Kd.Q_mono (Kd.Q_far (p := ⟨gb251, 4, none⟩) (Kd.Q_far (p := ⟨gb251, 3, none⟩) (Kd.Q_far (p := ⟨gb251, 2, none⟩) (Kd.Q_far (p := ⟨gb251, 1, none⟩) (Kd.Q_far (p := ⟨gb251, 0, none⟩) (Kd.Q_types HO249.out BK251.out (by decide)) (fun _ hk => hk.2) (.int .i64 t243)) (fun _ hk => hk.2) (.int .i64 t244)) (fun _ hk => hk.2) (.int .i64 t245)) (fun _ hk => hk.2) (.int .i64 t246)) (fun _ hk => hk.2) (.slice Ao47 t247.length co47)) (fun _ h_ => h_.1)))); (case side2 => exact (Kd.Q_reads' HO249.out).2.1); (case side3 => refine (Kd.Q_reads' (e := 3) (base := w.heap.size) (ok := fun k_ => (some k_ ≠ (.slice Ao14 t234.length co14 : Value).ownBlock ∧ some k_ ≠ (.slice Ao47 t247.length co47 : Value).ownBlock)) (n := t225.length) (c := co9) ?_).2.2; exact (by (with_reducible repeat (first | apply Kd.Q_alloc | apply Kd.Q_drewN | apply Kd.Q_drew)); exact (Kd.Q_mono (Kd.Q_far (p := ⟨gb251, 4, none⟩) (Kd.Q_far (p := ⟨gb251, 3, none⟩) (Kd.Q_far (p := ⟨gb251, 2, none⟩) (Kd.Q_far (p := ⟨gb251, 1, none⟩) (Kd.Q_far (p := ⟨gb251, 0, none⟩) (Kd.Q_types HO_230004.out BK251.out (by decide)) (fun _ hk => hk.2) (.int .i64 t243)) (fun _ hk => hk.2) (.int .i64 t244)) (fun _ hk => hk.2) (.int .i64 t245)) (fun _ hk => hk.2) (.int .i64 t246)) (fun _ hk => hk.2) (.slice Ao47 t247.length co47)) (fun _ h_ => h_.1)))); (case side4 => exact (Kd.Q_reads' HO_230004.out).2.1); rintro e w55 ⟨rfl, hb⟩; refine ⟨_, rfl, ?_⟩; have n_ := aI (aM (Kd.Q_below (by (with_reducible repeat (first | apply Kd.Q_alloc | apply Kd.Q_drewN | apply Kd.Q_drew)); exact (Kd.Q_mono (Kd.Q_far (p := ⟨gb251, 4, none⟩) (Kd.Q_far (p := ⟨gb251, 3, none⟩) (Kd.Q_far (p := ⟨gb251, 2, none⟩) (Kd.Q_far (p := ⟨gb251, 1, none⟩) (Kd.Q_far (p := ⟨gb251, 0, none⟩) (Kd.Q_types HO_230004.out BK251.out (by decide)) (fun _ hk => hk.2) (.int .i64 t243)) (fun _ hk => hk.2) (.int .i64 t244)) (fun _ hk => hk.2) (.int .i64 t245)) (fun _ hk => hk.2) (.int .i64 t246)) (fun _ hk => hk.2) (.slice Ao47 t247.length co47)) (fun _ h_ => h_.1))) hb)) (aI (aM (Kd.Q_below (by (with_reducible repeat (first | apply Kd.Q_alloc | apply Kd.Q_drewN | apply Kd.Q_drew)); exact (Kd.Q_mono (Kd.Q_far (p := ⟨gb251, 4, none⟩) (Kd.Q_far (p := ⟨gb251, 3, none⟩) (Kd.Q_far (p := ⟨gb251, 2, none⟩) (Kd.Q_far (p := ⟨gb251, 1, none⟩) (Kd.Q_far (p := ⟨gb251, 0, none⟩) (Kd.Q_types HO_239004.out BK251.out (by decide)) (fun _ hk => hk.2) (.int .i64 t243)) (fun _ hk => hk.2) (.int .i64 t244)) (fun _ hk => hk.2) (.int .i64 t245)) (fun _ hk => hk.2) (.int .i64 t246)) (fun _ hk => hk.2) (.slice Ao47 t247.length co47)) (fun _ h_ => h_.1))) hb)) (aI (aM (Kd.Q_below (by (with_reducible repeat (first | apply Kd.Q_alloc | apply Kd.Q_drewN | apply Kd.Q_drew)); exact (Kd.Q_mono (Kd.Q_far (p := ⟨gb251, 4, none⟩) (Kd.Q_far (p := ⟨gb251, 3, none⟩) (Kd.Q_far (p := ⟨gb251, 2, none⟩) (Kd.Q_far (p := ⟨gb251, 1, none⟩) (Kd.Q_far (p := ⟨gb251, 0, none⟩) (Kd.Q_types HO249.out BK251.out (by decide)) (fun _ hk => hk.2) (.int .i64 t243)) (fun _ hk => hk.2) (.int .i64 t244)) (fun _ hk => hk.2) (.int .i64 t245)) (fun _ hk => hk.2) (.int .i64 t246)) (fun _ hk => hk.2) (.slice Ao47 t247.length co47)) (fun _ h_ => h_.1))) hb)) (aI (kB BK229 hb) (aI (kB BK238 hb) (aI (aM (blk_below (g := gb251) (o := .cells #[.int .i64 t243, .int .i64 t244, .int .i64 t245, .int .i64 t246, .slice Ao47 t247.length co47] 33 (0, 0)) (by (with_reducible repeat (first | apply bN | apply bD | apply bA)); refine blk_put (cs := #[.int .i64 t243, .int .i64 t244, .int .i64 t245, .int .i64 t246, .slice none 0 0]) ?_ 4 _ rfl; (with_reducible repeat (first | apply bN | apply bD | apply bA)); refine blk_put (cs := #[.int .i64 t243, .int .i64 t244, .int .i64 t245, .int .i64 0, .slice none 0 0]) ?_ 3 _ rfl; (with_reducible repeat (first | apply bN | apply bD | apply bA)); refine blk_put (cs := #[.int .i64 t243, .int .i64 t244, .int .i64 0, .int .i64 0, .slice none 0 0]) ?_ 2 _ rfl; (with_reducible repeat (first | apply bN | apply bD | apply bA)); refine blk_put (cs := #[.int .i64 t243, .int .i64 0, .int .i64 0, .int .i64 0, .slice none 0 0]) ?_ 1 _ rfl; (with_reducible repeat (first | apply bN | apply bD | apply bA)); refine blk_put (cs := #[.int .i64 0, .int .i64 0, .int .i64 0, .int .i64 0, .slice none 0 0]) ?_ 0 _ rfl; (with_reducible repeat (first | apply bN | apply bD | apply bA)); exact BK251.out) hb)) (sB HB hb)))))); clear HO_230004 HO_239004 HO249 BK229 BK238 BK251 HB; obtain ⟨HO_230004, HO_239004, HO249, BK229, BK238, BK251, HB⟩ := n_; (try clear hb)))
        go_meet
        case rel => exact ⟨_, ((t250 != t228)), (by first | rfl | (simp; done) | (simp [*]; done) | (simp; exact (by intro l_; cases l_ <;> rfl : ∀ l_ : List UInt8, l_.isEmpty = !(l_ != [])) _)), H', ⟨by have := HJ4.out; first | omega | exact Nat.le_refl _⟩, ⟨by (with_reducible repeat (first | apply Kd.Q_alloc | apply Kd.Q_drewN | apply Kd.Q_drew)); exact HO_230004.out⟩, ⟨by (with_reducible repeat (first | apply Kd.Q_alloc | apply Kd.Q_drewN | apply Kd.Q_drew)); exact HO_239004.out⟩, ⟨by (with_reducible repeat (first | apply Kd.Q_alloc | apply Kd.Q_drewN | apply Kd.Q_drew)); exact Kd.Q_mono HO249.out (fun _ hk => ⟨hk.1.2, hk.2⟩)⟩, ⟨kP BK229⟩, ⟨kP BK238⟩, ⟨kP BK251⟩, ⟨bB⟩⟩
       ·replace c49 := Bool.eq_false_iff.mpr c49
        subst c49
        rw [if_neg (show ¬ (false = true) by decide)] at H
        have H' := aM H
        clear H
        have hnb56 := NB251_229.out
        have hnc56 := NB229_251.out
        have hnb57 := NB251_238.out
        have hnc57 := NB238_251.out
        have hcz58_0 := cZ0 BK251
        have hcz58_1 := cZ1 BK251
        have hcz58_2 : w43.cell? ⟨gb251, 2, none⟩ = some (.int .i64 0) := (blk_cell BK251.out 2).trans rfl
        have hcz58_3 : w43.cell? ⟨gb251, 3, none⟩ = some (.int .i64 0) := (blk_cell BK251.out 3).trans rfl
        have hcz58_4 : w43.cell? ⟨gb251, 4, none⟩ = some (.slice none 0 0) := (blk_cell BK251.out 4).trans rfl
        have hfz58_0 := fZ BK251 0
        have hfz58_1 := fZ BK251 1
        have hfz58_2 := fZ BK251 2
        have hfz58_3 := fZ BK251 3
        have hfz58_4 := fZ BK251 4
        have hnb59 := NB229_238.out
        have hnc59 := NB238_229.out
        have hcz60_0 := cZ0 BK229
        have hcz60_1 := cZ1 BK229
        have hcz60_2 : w43.cell? ⟨gb229, 2, none⟩ = some (.int .i64 t223) := (blk_cell BK229.out 2).trans rfl
        have hcz60_3 : w43.cell? ⟨gb229, 3, none⟩ = some (.int .i64 t224) := (blk_cell BK229.out 3).trans rfl
        have hcz60_4 : w43.cell? ⟨gb229, 4, none⟩ = some (.slice Ao9 t225.length co9) := (blk_cell BK229.out 4).trans rfl
        have hfz60_0 := fZ BK229 0
        have hfz60_1 := fZ BK229 1
        have hfz60_2 := fZ BK229 2
        have hfz60_3 := fZ BK229 3
        have hfz60_4 := fZ BK229 4
        go_wp2_with (first | ((with_reducible refine gate_callee (f := 13) rfl ?_); refine gL (some 51) Try.func13 #[.agg #[.int .i64 t243, .int .i64 t244, .int .i64 t245, .int .i64 t246, .slice Ao47 t247.length co47], .agg #[.int .i64 t221, .int .i64 t222, .int .i64 t223, .int .i64 t224, .slice Ao9 t225.length co9]] ?_; (with_reducible refine (laws_eqNode.calls kj4 t243 t244 t245 t246 _ _ t247 t221 t222 t223 t224 _ _ t225 false _ ?side1 ?side2 ?side3 ?side4 A48.out).mono ?_); (case side1 => refine (Kd.Q_reads' (e := 3) (base := w.heap.size) (ok := fun k_ => ((True ∧ some k_ ≠ (.slice Ao9 t225.length co9 : Value).ownBlock) ∧ some k_ ≠ (.slice Ao14 t234.length co14 : Value).ownBlock)) (n := t247.length) (c := co47) ?_).2.2; exact (by (with_reducible repeat (first | apply Kd.Q_alloc | apply Kd.Q_drewN | apply Kd.Q_drew)); exact (Kd.Q_mono (Kd.Q_far (p := ⟨gb251, 4, none⟩) (Kd.Q_far (p := ⟨gb251, 3, none⟩) (Kd.Q_far (p := ⟨gb251, 2, none⟩) (Kd.Q_far (p := ⟨gb251, 1, none⟩) (Kd.Q_far (p := ⟨gb251, 0, none⟩) (Kd.Q_types HO249.out BK251.out (by decide)) (fun _ hk => hk.2) (.int .i64 t243)) (fun _ hk => hk.2) (.int .i64 t244)) (fun _ hk => hk.2) (.int .i64 t245)) (fun _ hk => hk.2) (.int .i64 t246)) (fun _ hk => hk.2) (.slice Ao47 t247.length co47)) (fun _ h_ => h_.1)))); (case side2 => exact (Kd.Q_reads' HO249.out).2.1); (case side3 => refine (Kd.Q_reads' (e := 3) (base := w.heap.size) (ok := fun k_ => (some k_ ≠ (.slice Ao14 t234.length co14 : Value).ownBlock ∧ some k_ ≠ (.slice Ao47 t247.length co47 : Value).ownBlock)) (n := t225.length) (c := co9) ?_).2.2; exact (by (with_reducible repeat (first | apply Kd.Q_alloc | apply Kd.Q_drewN | apply Kd.Q_drew)); exact (Kd.Q_mono (Kd.Q_far (p := ⟨gb251, 4, none⟩) (Kd.Q_far (p := ⟨gb251, 3, none⟩) (Kd.Q_far (p := ⟨gb251, 2, none⟩) (Kd.Q_far (p := ⟨gb251, 1, none⟩) (Kd.Q_far (p := ⟨gb251, 0, none⟩) (Kd.Q_types HO_230004.out BK251.out (by decide)) (fun _ hk => hk.2) (.int .i64 t243)) (fun _ hk => hk.2) (.int .i64 t244)) (fun _ hk => hk.2) (.int .i64 t245)) (fun _ hk => hk.2) (.int .i64 t246)) (fun _ hk => hk.2) (.slice Ao47 t247.length co47)) (fun _ h_ => h_.1)))); (case side4 => exact (Kd.Q_reads' HO_230004.out).2.1); rintro e w61 ⟨rfl, hb⟩; refine ⟨_, rfl, ?_⟩; have n_ := aI (aM (Kd.Q_below (by (with_reducible repeat (first | apply Kd.Q_alloc | apply Kd.Q_drewN | apply Kd.Q_drew)); exact (Kd.Q_mono (Kd.Q_far (p := ⟨gb251, 4, none⟩) (Kd.Q_far (p := ⟨gb251, 3, none⟩) (Kd.Q_far (p := ⟨gb251, 2, none⟩) (Kd.Q_far (p := ⟨gb251, 1, none⟩) (Kd.Q_far (p := ⟨gb251, 0, none⟩) (Kd.Q_types HO_230004.out BK251.out (by decide)) (fun _ hk => hk.2) (.int .i64 t243)) (fun _ hk => hk.2) (.int .i64 t244)) (fun _ hk => hk.2) (.int .i64 t245)) (fun _ hk => hk.2) (.int .i64 t246)) (fun _ hk => hk.2) (.slice Ao47 t247.length co47)) (fun _ h_ => h_.1))) hb)) (aI (aM (Kd.Q_below (by (with_reducible repeat (first | apply Kd.Q_alloc | apply Kd.Q_drewN | apply Kd.Q_drew)); exact (Kd.Q_mono (Kd.Q_far (p := ⟨gb251, 4, none⟩) (Kd.Q_far (p := ⟨gb251, 3, none⟩) (Kd.Q_far (p := ⟨gb251, 2, none⟩) (Kd.Q_far (p := ⟨gb251, 1, none⟩) (Kd.Q_far (p := ⟨gb251, 0, none⟩) (Kd.Q_types HO_239004.out BK251.out (by decide)) (fun _ hk => hk.2) (.int .i64 t243)) (fun _ hk => hk.2) (.int .i64 t244)) (fun _ hk => hk.2) (.int .i64 t245)) (fun _ hk => hk.2) (.int .i64 t246)) (fun _ hk => hk.2) (.slice Ao47 t247.length co47)) (fun _ h_ => h_.1))) hb)) (aI (aM (Kd.Q_below (by (with_reducible repeat (first | apply Kd.Q_alloc | apply Kd.Q_drewN | apply Kd.Q_drew)); exact (Kd.Q_mono (Kd.Q_far (p := ⟨gb251, 4, none⟩) (Kd.Q_far (p := ⟨gb251, 3, none⟩) (Kd.Q_far (p := ⟨gb251, 2, none⟩) (Kd.Q_far (p := ⟨gb251, 1, none⟩) (Kd.Q_far (p := ⟨gb251, 0, none⟩) (Kd.Q_types HO249.out BK251.out (by decide)) (fun _ hk => hk.2) (.int .i64 t243)) (fun _ hk => hk.2) (.int .i64 t244)) (fun _ hk => hk.2) (.int .i64 t245)) (fun _ hk => hk.2) (.int .i64 t246)) (fun _ hk => hk.2) (.slice Ao47 t247.length co47)) (fun _ h_ => h_.1))) hb)) (aI (kB BK229 hb) (aI (kB BK238 hb) (aI (aM (blk_below (g := gb251) (o := .cells #[.int .i64 t243, .int .i64 t244, .int .i64 t245, .int .i64 t246, .slice Ao47 t247.length co47] 33 (0, 0)) (by (with_reducible repeat (first | apply bN | apply bD | apply bA)); refine blk_put (cs := #[.int .i64 t243, .int .i64 t244, .int .i64 t245, .int .i64 t246, .slice none 0 0]) ?_ 4 _ rfl; (with_reducible repeat (first | apply bN | apply bD | apply bA)); refine blk_put (cs := #[.int .i64 t243, .int .i64 t244, .int .i64 t245, .int .i64 0, .slice none 0 0]) ?_ 3 _ rfl; (with_reducible repeat (first | apply bN | apply bD | apply bA)); refine blk_put (cs := #[.int .i64 t243, .int .i64 t244, .int .i64 0, .int .i64 0, .slice none 0 0]) ?_ 2 _ rfl; (with_reducible repeat (first | apply bN | apply bD | apply bA)); refine blk_put (cs := #[.int .i64 t243, .int .i64 0, .int .i64 0, .int .i64 0, .slice none 0 0]) ?_ 1 _ rfl; (with_reducible repeat (first | apply bN | apply bD | apply bA)); refine blk_put (cs := #[.int .i64 0, .int .i64 0, .int .i64 0, .int .i64 0, .slice none 0 0]) ?_ 0 _ rfl; (with_reducible repeat (first | apply bN | apply bD | apply bA)); exact BK251.out) hb)) (sB HB hb)))))); clear HO_230004 HO_239004 HO249 BK229 BK238 BK251 HB; obtain ⟨HO_230004, HO_239004, HO249, BK229, BK238, BK251, HB⟩ := n_; (try clear hb)))
        go_meet
        case rel => exact ⟨_, (true), (by first | rfl | (simp; done) | (simp [*]; done) | (simp; exact (by intro l_; cases l_ <;> rfl : ∀ l_ : List UInt8, l_.isEmpty = !(l_ != [])) _)), H', ⟨by have := HJ4.out; first | omega | exact Nat.le_refl _⟩, ⟨by (with_reducible repeat (first | apply Kd.Q_alloc | apply Kd.Q_drewN | apply Kd.Q_drew)); exact HO_230004.out⟩, ⟨by (with_reducible repeat (first | apply Kd.Q_alloc | apply Kd.Q_drewN | apply Kd.Q_drew)); exact HO_239004.out⟩, ⟨by (with_reducible repeat (first | apply Kd.Q_alloc | apply Kd.Q_drewN | apply Kd.Q_drew)); exact Kd.Q_mono HO249.out (fun _ hk => ⟨hk.1.2, hk.2⟩)⟩, ⟨kP BK229⟩, ⟨kP BK238⟩, ⟨kP BK251⟩, ⟨bB⟩⟩
      case rest =>
       clear HC36
       try clear c1
       try clear c2
       try clear c2b0
       try clear c2b1
       try clear p2
       try clear c3
       try clear c4
       try clear c5
       try clear c11
       try clear c12
       try clear c13
       try clear c14
       try clear c15
       try clear c16
       try clear c17
       try clear c21
       try clear c25
       try clear c28
       try clear c28b0
       try clear c29
       try clear c34
       try clear c34b0
       try clear c34b1
       try clear c37
       try clear c44
       try clear c45
       try clear c49
       try clear c50
       try clear c51
       try clear c53
       try clear c56
       try clear c57
       try clear c59
       try clear hcz13_0
       try clear hcz13_1
       try clear hcz13_2
       try clear hcz13_3
       try clear hcz13_4
       try clear hcz18_0
       try clear hcz18_1
       try clear hcz18_2
       try clear hcz18_3
       try clear hcz18_4
       try clear hcz19_0
       try clear hcz19_1
       try clear hcz19_2
       try clear hcz19_3
       try clear hcz19_4
       try clear hcz22_0
       try clear hcz22_1
       try clear hcz22_2
       try clear hcz22_3
       try clear hcz22_4
       try clear hcz23_0
       try clear hcz23_1
       try clear hcz23_2
       try clear hcz23_3
       try clear hcz23_4
       try clear hcz30_0
       try clear hcz30_1
       try clear hcz30_2
       try clear hcz30_3
       try clear hcz30_4
       try clear hcz32_0
       try clear hcz32_1
       try clear hcz32_2
       try clear hcz32_3
       try clear hcz32_4
       try clear hcz38_0
       try clear hcz38_1
       try clear hcz38_2
       try clear hcz38_3
       try clear hcz38_4
       try clear hcz40_0
       try clear hcz40_1
       try clear hcz40_2
       try clear hcz40_3
       try clear hcz40_4
       try clear hcz46_0
       try clear hcz46_1
       try clear hcz46_2
       try clear hcz46_3
       try clear hcz46_4
       try clear hcz52_0
       try clear hcz52_1
       try clear hcz52_2
       try clear hcz52_3
       try clear hcz52_4
       try clear hcz54_0
       try clear hcz54_1
       try clear hcz54_2
       try clear hcz54_3
       try clear hcz54_4
       try clear hcz58_0
       try clear hcz58_1
       try clear hcz58_2
       try clear hcz58_3
       try clear hcz58_4
       try clear hcz60_0
       try clear hcz60_1
       try clear hcz60_2
       try clear hcz60_3
       try clear hcz60_4
       try clear hcz8_0
       try clear hcz8_1
       try clear hcz8_2
       try clear hcz8_3
       try clear hcz8_4
       try clear hfz13_0
       try clear hfz13_1
       try clear hfz13_2
       try clear hfz13_3
       try clear hfz13_4
       try clear hfz18_0
       try clear hfz18_1
       try clear hfz18_2
       try clear hfz18_3
       try clear hfz18_4
       try clear hfz19_0
       try clear hfz19_1
       try clear hfz19_2
       try clear hfz19_3
       try clear hfz19_4
       try clear hfz22_0
       try clear hfz22_1
       try clear hfz22_2
       try clear hfz22_3
       try clear hfz22_4
       try clear hfz23_0
       try clear hfz23_1
       try clear hfz23_2
       try clear hfz23_3
       try clear hfz23_4
       try clear hfz30_0
       try clear hfz30_1
       try clear hfz30_2
       try clear hfz30_3
       try clear hfz30_4
       try clear hfz32_0
       try clear hfz32_1
       try clear hfz32_2
       try clear hfz32_3
       try clear hfz32_4
       try clear hfz38_0
       try clear hfz38_1
       try clear hfz38_2
       try clear hfz38_3
       try clear hfz38_4
       try clear hfz40_0
       try clear hfz40_1
       try clear hfz40_2
       try clear hfz40_3
       try clear hfz40_4
       try clear hfz46_0
       try clear hfz46_1
       try clear hfz46_2
       try clear hfz46_3
       try clear hfz46_4
       try clear hfz52_0
       try clear hfz52_1
       try clear hfz52_2
       try clear hfz52_3
       try clear hfz52_4
       try clear hfz54_0
       try clear hfz54_1
       try clear hfz54_2
       try clear hfz54_3
       try clear hfz54_4
       try clear hfz58_0
       try clear hfz58_1
       try clear hfz58_2
       try clear hfz58_3
       try clear hfz58_4
       try clear hfz60_0
       try clear hfz60_1
       try clear hfz60_2
       try clear hfz60_3
       try clear hfz60_4
       try clear hfz8_0
       try clear hfz8_1
       try clear hfz8_2
       try clear hfz8_3
       try clear hfz8_4
       try clear p2
       obtain ⟨kq, x57_35, rfl, HA, HJ35, HO_230004, HO_239004, HO_252004, BK229, BK238, BK251, HB⟩ := hcut
       have hl239004_35 := (Kd.Q_reads' HO_239004.out).1
       rw [hl239004_35] at HO_239004
       (try simp only [hl239004_35])
       (try simp only [hl239004_35] at BK229)
       (try simp only [hl239004_35] at BK238)
       (try simp only [hl239004_35] at BK251)
       (try simp only [hl239004_35] at HO_230004)
       (try simp only [hl239004_35] at HO_252004)
       cases kq with
       | zero => exact absurd HA.out (by simp [laws_FnExactNodeOf.j1])
       | succ kj35 =>
        have H := HA.out
        clear HA
        simp only [laws_FnExactNodeOf.j1] at H
        by_cases c62 : x57_35 = true
        ·subst c62
         rw [if_pos rfl] at H
         obtain rfl := Option.some.inj H
         go_wp2
         go_ret
         exact ⟨eW, bB⟩
        ·replace c62 := Bool.eq_false_iff.mpr c62
         subst c62
         rw [if_neg (show ¬ (false = true) by decide)] at H
         replace H := Option.bind_eq_some_iff.mp H
         obtain ⟨t253, A630, H⟩ := H
         try dsimp only at H
         have A63 := aM A630
         clear A630
         by_cases c64 : t253 < 0
         ·rw [if_pos c64] at H
          have c64b0 : decide (t253 < 0) = true := decide_eq_true c64
          clear c64
          obtain rfl := Option.some.inj H
          have hnb65 := NB238_229.out
          have hnc65 := NB229_238.out
          have hnb66 := NB238_251.out
          have hnc66 := NB251_238.out
          have hcz67_0 := cZ0 BK238
          have hcz67_1 := cZ1 BK238
          have hcz67_2 : wc.cell? ⟨gb238, 2, none⟩ = some (.int .i64 t232) := (blk_cell BK238.out 2).trans rfl
          have hcz67_3 : wc.cell? ⟨gb238, 3, none⟩ = some (.int .i64 t233) := (blk_cell BK238.out 3).trans rfl
          have hcz67_4 : wc.cell? ⟨gb238, 4, none⟩ = some (.slice Ao14 t241.length co14) := (blk_cell BK238.out 4).trans rfl
          have hfz67_0 := fZ BK238 0
          have hfz67_1 := fZ BK238 1
          have hfz67_2 := fZ BK238 2
          have hfz67_3 := fZ BK238 3
          have hfz67_4 := fZ BK238 4
          go_wp2_with (first | ((with_reducible refine gate_callee (f := 15) rfl ?_); refine gL (some 60) Try.func15 #[.agg #[.int .i64 t230, .int .i64 t231, .int .i64 t232, .int .i64 t233, .slice Ao14 t241.length co14], .int .i64 1] ?_; (with_reducible refine (laws_heldNode.calls kj35 t230 t231 t232 t233 _ _ t241 1 t253 _ ?side1 ?side2 A63.out).mono ?_); (case side1 => repeat (first | exact (Kd.Q_reads' HO_239004.out).2.2 | (with_reducible refine Kd.C_alloc ?_ _) | (with_reducible refine Kd.C_drewN ?_ _) | (with_reducible refine Kd.C_drew ?_))); (case side2 => exact (Kd.Q_reads' HO_239004.out).2.1); rintro e w68 ⟨rfl, hb⟩; refine ⟨_, rfl, ?_⟩; have n_ := aI (aM (Kd.Q_below (by (with_reducible repeat (first | apply Kd.Q_alloc | apply Kd.Q_drewN | apply Kd.Q_drew)); exact HO_230004.out) hb)) (aI (aM (Kd.Q_below (by (with_reducible repeat (first | apply Kd.Q_alloc | apply Kd.Q_drewN | apply Kd.Q_drew)); exact HO_239004.out) hb)) (aI (aM (Kd.Q_below (by (with_reducible repeat (first | apply Kd.Q_alloc | apply Kd.Q_drewN | apply Kd.Q_drew)); exact HO_252004.out) hb)) (aI (kB BK229 hb) (aI (kB BK238 hb) (aI (kB BK251 hb) (sB HB hb)))))); clear HO_230004 HO_239004 HO_252004 BK229 BK238 BK251 HB; obtain ⟨HO_230004, HO_239004, HO_252004, BK229, BK238, BK251, HB⟩ := n_; (try clear hb)))
          go_ret
          exact ⟨eW, bB⟩
         ·rw [if_neg c64] at H
          have c64b0 : decide (t253 < 0) = false := decide_eq_false c64
          clear c64
          by_cases c69 : t253 = t240
          ·rw [if_pos c69] at H
           have c69b0 : (t253 == t240) = true := beq_iff_eq.mpr c69
           have c69b1 : (t253 != t240) = false := bne_eq_false_iff_eq.mpr c69
           clear c69
           obtain rfl := Option.some.inj H
           have hnb70 := NB238_229.out
           have hnc70 := NB229_238.out
           have hnb71 := NB238_251.out
           have hnc71 := NB251_238.out
           have hcz72_0 := cZ0 BK238
           have hcz72_1 := cZ1 BK238
           have hcz72_2 : wc.cell? ⟨gb238, 2, none⟩ = some (.int .i64 t232) := (blk_cell BK238.out 2).trans rfl
           have hcz72_3 : wc.cell? ⟨gb238, 3, none⟩ = some (.int .i64 t233) := (blk_cell BK238.out 3).trans rfl
           have hcz72_4 : wc.cell? ⟨gb238, 4, none⟩ = some (.slice Ao14 t241.length co14) := (blk_cell BK238.out 4).trans rfl
           have hfz72_0 := fZ BK238 0
           have hfz72_1 := fZ BK238 1
           have hfz72_2 := fZ BK238 2
           have hfz72_3 := fZ BK238 3
           have hfz72_4 := fZ BK238 4
           go_wp2_with (first | ((with_reducible refine gate_callee (f := 15) rfl ?_); refine gL (some 60) Try.func15 #[.agg #[.int .i64 t230, .int .i64 t231, .int .i64 t232, .int .i64 t233, .slice Ao14 t241.length co14], .int .i64 1] ?_; (with_reducible refine (laws_heldNode.calls kj35 t230 t231 t232 t233 _ _ t241 1 t253 _ ?side1 ?side2 A63.out).mono ?_); (case side1 => repeat (first | exact (Kd.Q_reads' HO_239004.out).2.2 | (with_reducible refine Kd.C_alloc ?_ _) | (with_reducible refine Kd.C_drewN ?_ _) | (with_reducible refine Kd.C_drew ?_))); (case side2 => exact (Kd.Q_reads' HO_239004.out).2.1); rintro e w73 ⟨rfl, hb⟩; refine ⟨_, rfl, ?_⟩; have n_ := aI (aM (Kd.Q_below (by (with_reducible repeat (first | apply Kd.Q_alloc | apply Kd.Q_drewN | apply Kd.Q_drew)); exact HO_230004.out) hb)) (aI (aM (Kd.Q_below (by (with_reducible repeat (first | apply Kd.Q_alloc | apply Kd.Q_drewN | apply Kd.Q_drew)); exact HO_239004.out) hb)) (aI (aM (Kd.Q_below (by (with_reducible repeat (first | apply Kd.Q_alloc | apply Kd.Q_drewN | apply Kd.Q_drew)); exact HO_252004.out) hb)) (aI (kB BK229 hb) (aI (kB BK238 hb) (aI (kB BK251 hb) (sB HB hb)))))); clear HO_230004 HO_239004 HO_252004 BK229 BK238 BK251 HB; obtain ⟨HO_230004, HO_239004, HO_252004, BK229, BK238, BK251, HB⟩ := n_; (try clear hb)))
           go_ret
           exact ⟨eW, bB⟩
          ·rw [if_neg c69] at H
           have c69b0 : (t253 == t240) = false := beq_eq_false_iff_ne.mpr c69
           have c69b1 : (t253 != t240) = true := bne_iff_ne.mpr c69
           obtain rfl := Option.some.inj H
           have hnb74 := NB238_229.out
           have hnc74 := NB229_238.out
           have hnb75 := NB238_251.out
           have hnc75 := NB251_238.out
           have hcz76_0 := cZ0 BK238
           have hcz76_1 := cZ1 BK238
           have hcz76_2 : wc.cell? ⟨gb238, 2, none⟩ = some (.int .i64 t232) := (blk_cell BK238.out 2).trans rfl
           have hcz76_3 : wc.cell? ⟨gb238, 3, none⟩ = some (.int .i64 t233) := (blk_cell BK238.out 3).trans rfl
           have hcz76_4 : wc.cell? ⟨gb238, 4, none⟩ = some (.slice Ao14 t241.length co14) := (blk_cell BK238.out 4).trans rfl
           have hfz76_0 := fZ BK238 0
           have hfz76_1 := fZ BK238 1
           have hfz76_2 := fZ BK238 2
           have hfz76_3 := fZ BK238 3
           have hfz76_4 := fZ BK238 4
           go_wp2_with (first | ((with_reducible refine gate_callee (f := 15) rfl ?_); refine gL (some 60) Try.func15 #[.agg #[.int .i64 t230, .int .i64 t231, .int .i64 t232, .int .i64 t233, .slice Ao14 t241.length co14], .int .i64 1] ?_; (with_reducible refine (laws_heldNode.calls kj35 t230 t231 t232 t233 _ _ t241 1 t253 _ ?side1 ?side2 A63.out).mono ?_); (case side1 => repeat (first | exact (Kd.Q_reads' HO_239004.out).2.2 | (with_reducible refine Kd.C_alloc ?_ _) | (with_reducible refine Kd.C_drewN ?_ _) | (with_reducible refine Kd.C_drew ?_))); (case side2 => exact (Kd.Q_reads' HO_239004.out).2.1); rintro e w77 ⟨rfl, hb⟩; refine ⟨_, rfl, ?_⟩; have n_ := aI (aM (Kd.Q_below (by (with_reducible repeat (first | apply Kd.Q_alloc | apply Kd.Q_drewN | apply Kd.Q_drew)); exact HO_230004.out) hb)) (aI (aM (Kd.Q_below (by (with_reducible repeat (first | apply Kd.Q_alloc | apply Kd.Q_drewN | apply Kd.Q_drew)); exact HO_239004.out) hb)) (aI (aM (Kd.Q_below (by (with_reducible repeat (first | apply Kd.Q_alloc | apply Kd.Q_drewN | apply Kd.Q_drew)); exact HO_252004.out) hb)) (aI (kB BK229 hb) (aI (kB BK238 hb) (aI (kB BK251 hb) (sB HB hb)))))); clear HO_230004 HO_239004 HO_252004 BK229 BK238 BK251 HB; obtain ⟨HO_230004, HO_239004, HO_252004, BK229, BK238, BK251, HB⟩ := n_; (try clear hb)))
           go_ret
           exact ⟨eW, bB⟩
     ·rw [if_neg c34] at H
      have c34b0 : (t242 == t240) = false := beq_eq_false_iff_ne.mpr c34
      have c34b1 : (t242 != t240) = true := bne_iff_ne.mpr c34
      obtain rfl := Option.some.inj H
      have hnb78 := NB238_229.out
      have hnc78 := NB229_238.out
      have hcz79_0 := cZ0 BK238
      have hcz79_1 := cZ1 BK238
      have hcz79_2 : wc.cell? ⟨gb238, 2, none⟩ = some (.int .i64 t232) := (blk_cell BK238.out 2).trans rfl
      have hcz79_3 : wc.cell? ⟨gb238, 3, none⟩ = some (.int .i64 t233) := (blk_cell BK238.out 3).trans rfl
      have hcz79_4 : wc.cell? ⟨gb238, 4, none⟩ = some (.slice Ao14 t234.length co14) := (blk_cell BK238.out 4).trans rfl
      have hfz79_0 := fZ BK238 0
      have hfz79_1 := fZ BK238 1
      have hfz79_2 := fZ BK238 2
      have hfz79_3 := fZ BK238 3
      have hfz79_4 := fZ BK238 4
      go_wp2_with (first | ((with_reducible refine gate_callee (f := 14) rfl ?_); refine gL (some 35) Try.func14 #[.agg #[.int .i64 t230, .int .i64 t231, .int .i64 t232, .int .i64 t233, .slice Ao14 t234.length co14], .int .i64 1] ?_; (with_reducible refine (laws_markNode.calls kj4 t230 t231 t232 t233 (fun k_ => some k_ = (.slice Ao14 t234.length co14 : Value).ownBlock) (.slice Ao14 t234.length co14) t234 1 t240 t241 w _ ?side1 ?side2 A26.out).mono ?_); (case side1 => exact bB); (case side2 => exact Kd.Q_tight rfl HO_239004.out); rintro e w80 ⟨rfl, hy0, hb, hkp⟩; refine ⟨_, rfl, ?_⟩; have n_ := aI (aM (Kd.Q_mono (ok' := fun k_ => some k_ ≠ (.slice Ao14 t234.length co14 : Value).ownBlock) (Kd.Q_keptB (HO_230004.out) hkp (fun k_ hk_ hs_ => (hk_) hs_)) (fun k_ hk_ => hk_.1))) (aI (aM (Kd.Q_reok rfl hy0 (fun k_ e_ => HO_239004.out.1 k_ e_))) (aI (aM (blk_kept (kP BK229) hkp (fun hs_ => (fun e_ => (Kd.Q_ne HO_239004.out BK229.out (by decide)) e_) hs_))) (aI (aM (blk_kept (kP BK238) hkp (fun hs_ => (fun e_ => (Kd.Q_ne HO_239004.out BK238.out (by decide)) e_) hs_))) (aM (hb))))); clear HO_230004 HO_239004 BK229 BK238 HB; obtain ⟨HO_230004, HO_239004, BK229, BK238, HB⟩ := n_; (try clear hb hkp hy0); have hcz81_0 := cZ0 BK238; have hcz81_1 := cZ1 BK238; have hcz81_2 : w80.cell? ⟨gb238, 2, none⟩ = some (.int .i64 t232) := (blk_cell BK238.out 2).trans rfl; have hcz81_3 : w80.cell? ⟨gb238, 3, none⟩ = some (.int .i64 t233) := (blk_cell BK238.out 3).trans rfl; have hcz81_4 : w80.cell? ⟨gb238, 4, none⟩ = some (.slice Ao14 t234.length co14) := (blk_cell BK238.out 4).trans rfl; have hfz81_0 := fZ BK238 0; have hfz81_1 := fZ BK238 1; have hfz81_2 := fZ BK238 2; have hfz81_3 := fZ BK238 3; have hfz81_4 := fZ BK238 4) | ((with_reducible refine gate_callee (f := 15) rfl ?_); refine goesL_ (some 38) rfl rfl Try.func15 (by kernel_rfl) rfl #[.agg #[.int .i64 t230, .int .i64 t231, .int .i64 t232, .int .i64 t233, .slice Ao14 t241.length co14], .int .i64 1] rfl (by (try simp only [List.map_toArray, List.map_cons, List.map_nil]); first | done | (rw [show t241.length = t234.length from (Kd.Q_reads' HO_239004.out).1.symm] <;> rfl) | rfl | (simp only [List.length_drop, List.length_take]; rfl)) ?_; (with_reducible refine (laws_heldNode.calls kj4 t230 t231 t232 t233 _ _ t241 1 t242 _ ?side1 ?side2 A27.out).mono ?_); (case side1 => repeat (first | exact (Kd.Q_reads' HO_239004.out).2.2 | (with_reducible refine Kd.C_alloc ?_ _) | (with_reducible refine Kd.C_drewN ?_ _) | (with_reducible refine Kd.C_drew ?_))); (case side2 => rw [show t241.length = t234.length from (Kd.Q_reads' HO_239004.out).1.symm]; exact (Kd.Q_reads' HO_239004.out).2.1); rintro e w82 ⟨rfl, hb⟩; refine ⟨_, rfl, ?_⟩; have n_ := aI (aM (Kd.Q_below (by (with_reducible repeat (first | apply Kd.Q_alloc | apply Kd.Q_drewN | apply Kd.Q_drew)); exact HO_230004.out) hb)) (aI (aM (Kd.Q_below (by (with_reducible repeat (first | apply Kd.Q_alloc | apply Kd.Q_drewN | apply Kd.Q_drew)); exact HO_239004.out) hb)) (aI (kB BK229 hb) (aI (kB BK238 hb) (sB HB hb)))); clear HO_230004 HO_239004 BK229 BK238 HB; obtain ⟨HO_230004, HO_239004, BK229, BK238, HB⟩ := n_; (try clear hb)))
      go_ret
      exact ⟨eW, bB⟩

/-- THE ONE PURE STATEMENT of laws_FnExactNodeOf: yours. -/
def laws_FnExactNodeOf.Pure : Prop := ∀ (a0 : ByteArray), a0.size ≤ 140737488351232 → ∃ k, laws_FnExactNodeOf.f k a0 = some true
theorem laws_FnExactNodeOf.walk (P : laws_FnExactNodeOf.Pure) (a0 : ByteArray) (w : World) (w0 : a0.size ≤ 140737488351232) :
  Calls Try.prog 4 #[.string a0] w fun e w' => e = .returned (.bool true) ∧ Below w.heap.size w w' := by
 obtain ⟨k, h⟩ := P a0 w0
 refine (laws_FnExactNodeOf.calls k a0 true w h).mono ?_
 rintro e w' ⟨rfl, hd⟩
 exact ⟨rfl, hd⟩

end Go.Proofs.Ytadfimhielcmmaa.PFnExactNodeOf
