-- Written by xprint.py, a program of this session over the kit's print. Not trusted: Lean checks it.
import Derived.Test.YtgmpdkefegofhaaPFnRecoveredx0
import Derived.Test.YtgmpdkefegofhaaPFnRecoveredx2
import Derived.Test.YtgmpdkefegofhaaPFnRecoveredx3
import Derived.Test.YtgmpdkefegofhaaPFnRecoveredx4
import Derived.Test.YtgmpdkefegofhaaPFnRecoveredx5
namespace Go.Proofs.Ytgmpdkefegofhaa.PFnRecovered
open Go.RowKit Go.Proofs.YtgmpdkefegofhaaW.PrintWords Go.Proofs.YtgmpdkefegofhaaW.PrintLast Go.Proofs.YtgmpdkefegofhaaW.PrintMore
attribute [local go_sem] max2_int min2_int max_two min_two max_three min_three max_four min_four   -- for this text's walks alone
set_option linter.unusedVariables false
set_option linter.unusedSimpArgs false

/-! ### spec_Recover: function 44 -/
mutual
def spec_Recover.j0 : Nat → Int → List Int → Bool → List ByteArray → List (S65) → Option (List ByteArray × (List (S65)))
 | 0, _, _, _, _, _ => none
 | k + 1, x1, x6, x39, x242000, x242001 => if x39 = true then (spec_Recover.l0 k x1 x6 0 x242000 x242001) else (if 0 < (x242000.length : Int) then (some ((x242000.set (0 : Int).toNat (⟨#[]⟩ : ByteArray)), x242001)) else (none))
def spec_Recover.l0 : Nat → Int → List Int → Int → List ByteArray → List (S65) → Option (List ByteArray × (List (S65)))
 | 0, _, _, _, _, _ => none
 | k + 1, x1, x6, x9, x242000, x242001 => if x9 < (x6.length : Int) then (if 0 ≤ x9 then (if 0 ≤ (wrap64 (1 + x9)) then (if (wrap64 (1 + x9)) < (x242000.length : Int) then (if 0 ≤ (wrap64 ((wrap64 (x1 + 1)) + (rd x6 x9))) then (if (wrap64 ((wrap64 (x1 + 1)) + (rd x6 x9))) < (x242000.length : Int) then (spec_Recover.l0 k x1 x6 (wrap64 (x9 + 1)) (x242000.set ((wrap64 ((wrap64 (x1 + 1)) + (rd x6 x9))) : Int).toNat (rdOf ByteArray.empty x242000 (wrap64 (1 + x9)))) x242001) else (none)) else (none)) else (none)) else (none)) else (none)) else (if 0 < (x242000.length : Int) then (some ((x242000.set (0 : Int).toNat (⟨#[]⟩ : ByteArray)), x242001)) else (none))
end
def spec_Recover.f (k : Nat) (l0_0 : List ByteArray) (l0_1 : List (S65)) (a1 : Int) : Option (List ByteArray × (List (S65))) := (spec_l4Ok.f k l0_0 l0_1 a1).bind fun t228 => (if t228 = true then ((spec_Fall.f k l0_0 l0_1 ([] : List Bool)).bind fun bt235 => (if 0 < (bt235.1.length : Int) then ((spec_HeadOf.f k (rdOf ByteArray.empty bt235.1 0) a1).bind fun bt243 => (if bt243.2.2 = true then (if 1 ≤ (wrap64 (1 + (bt243.1.length : Int))) then (if (wrap64 (1 + (bt243.1.length : Int))) ≤ (bt235.1.length : Int) then ((spec_l4Sum.f k ((bt235.1.take ((wrap64 (1 + (bt243.1.length : Int))) : Int).toNat).drop 1)).bind fun t252 => (spec_Recover.j0 k a1 bt243.1 (t252 == bt243.2.1) bt235.1 bt235.2)) else (none)) else (none)) else (spec_Recover.j0 k a1 bt243.1 false bt235.1 bt235.2))) else (none))) else ((spec_l3Copy.f l0_0 l0_1).bind fun bt229 => (some (bt229.1, bt229.2))))
theorem spec_Recover.mono_l : ∀ k, (∀ y0 y1 y2 y3 y4, LeO (spec_Recover.j0 k y0 y1 y2 y3 y4) (spec_Recover.j0 (k + 1) y0 y1 y2 y3 y4)) ∧ (∀ y0 y1 y2 y3 y4, LeO (spec_Recover.l0 k y0 y1 y2 y3 y4) (spec_Recover.l0 (k + 1) y0 y1 y2 y3 y4))
 | 0 => ⟨fun _ _ _ _ _ r h => by simp [spec_Recover.j0] at h, fun _ _ _ _ _ r h => by simp [spec_Recover.l0] at h⟩
 | k + 1 => by
  obtain ⟨ih0, ih1⟩ := spec_Recover.mono_l k
  refine ⟨?_, ?_⟩
  ·intro y0 y1 y2 y3 y4
   unfold spec_Recover.j0
   have m0_ := @spec_Fall.mono
   have m1_ := @spec_HeadOf.mono
   have m2_ := @spec_l4Ok.mono
   have m3_ := @spec_l4Sum.mono
   exact mM
  ·intro y0 y1 y2 y3 y4
   unfold spec_Recover.l0
   have m0_ := @spec_Fall.mono
   have m1_ := @spec_HeadOf.mono
   have m2_ := @spec_l4Ok.mono
   have m3_ := @spec_l4Sum.mono
   exact mM
theorem spec_Recover.mono : ∀ a0 a1 a2 k, LeO (spec_Recover.f k a0 a1 a2) (spec_Recover.f (k + 1) a0 a1 a2) := by
 intro a0 a1 a2 k
 obtain ⟨ih0, ih1⟩ := spec_Recover.mono_l k
 unfold spec_Recover.f
 have m0_ := @spec_Fall.mono
 have m1_ := @spec_HeadOf.mono
 have m2_ := @spec_l4Ok.mono
 have m3_ := @spec_l4Sum.mono
 exact mM
def spec_Recover.T9 : Bool × List (List Nat × List Nat) := (true, [([], []), ([0], [0]), ([], []), ([2], [2]), ([], []), ([], []), ([4, 5], [4, 5]), ([6], [6]), ([3, 7], [3, 7]), ([], []), ([9], [9]), ([], []), ([11], [11]), ([10, 12], [10, 12]), ([13], [13]), ([1, 8, 0, 1, 2, 3, 4, 5, 6, 7, 8, 9, 10, 11, 12, 13, 14], [1, 8]), ([15, 14, 0, 1, 2, 3, 4, 5, 6, 7, 8, 9, 10, 11, 12, 13, 14], [14, 15])])
def spec_Recover.B9 : List Nat := [0, 1, 0, 4, 0, 0, 48, 112, 252, 0, 512, 0, 2048, 7680, 15872, 32767, 65535]
theorem spec_Recover.tab9 : rtab .any (opsOf Try.f44 9) = spec_Recover.T9 := by kernel_rfl
theorem spec_Recover.bits9 : waitsOk spec_Recover.T9.2 spec_Recover.B9 = true := by kernel_rfl
set_option maxHeartbeats 8000000 in
set_option maxRecDepth 100000 in
theorem spec_Recover.calls (k : Nat) (A0_0 : Option Addr) (c0_0 : Nat) (l0_0 : List ByteArray) (A0_1 : Option Addr) (c0_1 : Nat) (l0_1 : List (S65)) (a1 : Int) (r1 : List ByteArray) (r2 : List (S65)) (w : World) (hr0_0 : Kd.C Kd.string w A0_0 l0_0.length l0_0) (hc0_0 : l0_0.length ≤ c0_0) (hr0_1 : Kd.C k65 w A0_1 l0_1.length l0_1) (hc0_1 : l0_1.length ≤ c0_1) (h : spec_Recover.f k l0_0 l0_1 a1 = some (r1, r2)) :
  Calls Try.prog 44 #[.agg #[.slice A0_0 l0_0.length c0_0, .slice A0_1 l0_1.length c0_1], .int .i64 a1] w fun e w' => ∃ v0_ v1_ : Value, e = .returned (.agg #[v0_, v1_]) ∧ Kd.R Kd.string 9 w' w.heap.size (fun _ => True) v0_ r1 ∧ Kd.R k65 65 w' w.heap.size (fun _ => True) v1_ r2 ∧ Below w.heap.size w w' := by
 have hu30 := Try.underlying30
 have HR0_0 := aM hr0_0
 have HC0_0 := aM hc0_0
 clear hr0_0 hc0_0
 have HR0_1 := aM hr0_1
 have HC0_1 := aM hc0_1
 clear hr0_1 hc0_1
 have HB := aM (Below.refl w.heap.size w)
 unfold spec_Recover.f at h
 have H := h
 clear h
 replace H := Option.bind_eq_some_iff.mp H
 obtain ⟨t228, A30, H⟩ := H
 try dsimp only at H
 have A3 := aM A30
 clear A30
 by_cases c4 : t228 = true
 ·subst c4
  rw [if_pos rfl] at H
  replace H := Option.bind_eq_some_iff.mp H
  obtain ⟨⟨t235, t238⟩, A50, H⟩ := H
  try dsimp only at H
  have A5 := aM A50
  clear A50
  by_cases c6 : 0 < (t235.length : Int)
  ·rw [if_pos c6] at H
   have c6b0 : decide (0 < (t235.length : Int)) = true := decide_eq_true c6
   have c6b1 : decide (0 < t235.length) = true := decide_eq_true (by omega)
   clear c6
   replace H := Option.bind_eq_some_iff.mp H
   obtain ⟨⟨t243, t244, t245⟩, A70, H⟩ := H
   try dsimp only at H
   have A7 := aM A70
   clear A70
   have HC8 := aM H
   clear H
   go_enter Try.func44, Try.ntmps44
   go_upto_region 5 with (first | ((with_reducible refine gate_dst (N := 2) rfl ?_); (try (refine gate_guard (by rfl) ?_; dsimp only)); refine box_event ?hg (N := 2) ?hd (cs := #[.slice A0_0 l0_0.length c0_0, .slice A0_1 l0_1.length c0_1]) (t := 30) ?hr ?_; (case hd => rfl); (case hg => rfl); (case hr => first | (go_simp; done) | (go_simp; rfl)); intro gb226 hg w9 hbox hb; have n_ := aI (sB HB hb) (aI (aM hbox) (aI (gE HB hg) (gE HB hg))); clear HB; obtain ⟨HB, BK226, GW226, GE226⟩ := n_; (try clear hb hbox hg)) | ((with_reducible refine gate_dst (N := 4) rfl ?_); (try (refine gate_guard (by rfl) ?_; dsimp only)); refine box_event ?hg (N := 4) ?hd (cs := #[.slice none 0 0, .slice none 0 0]) (t := 30) ?hr ?_; (case hd => rfl); (case hg => rfl); (case hr => first | (go_simp; done) | (go_simp; rfl)); intro gb227 hg w10 hbox hb; have n_ := aI (kB BK226 hb) (aI (sB HB hb) (aI (aM hbox) (aI (gE HB hg) (aI (gE HB hg) (aI (nL BK226 hg) (nG BK226 hg)))))); clear BK226 HB; obtain ⟨BK226, HB, BK227, GW227, GE227, NB226_227, NB227_226⟩ := n_; (try clear hb hbox hg); have hnb11 := NB226_227.out; have hnc11 := NB227_226.out; have hcz12_0 := cZ0 BK226; have hcz12_1 := cZ1 BK226; have hfz12_0 := fZ BK226 0; have hfz12_1 := fZ BK226 1) | ((with_reducible refine gate_callee (f := 70) rfl ?_); refine gL (some 12) Try.func70 #[.agg #[.slice A0_0 l0_0.length c0_0, .slice A0_1 l0_1.length c0_1], .int .i64 a1] ?_; (with_reducible refine (spec_l4Ok.calls k _ _ l0_0 _ _ l0_1 a1 true _ ?side1 ?side2 ?side3 ?side4 A3.out).mono ?_); (case side1 => exact cS HR0_0 HB); (case side2 => exact HC0_0.out); (case side3 => exact cS HR0_1 HB); (case side4 => exact HC0_1.out); rintro e w13 ⟨rfl, hb⟩; refine ⟨_, rfl, ?_⟩; have n_ := aI (kB BK226 hb) (aI (kB BK227 hb) (sB HB hb)); clear BK226 BK227 HB; obtain ⟨BK226, BK227, HB⟩ := n_; (try clear hb); have hcz14_0 := cZ0 BK226; have hcz14_1 := cZ1 BK226; have hfz14_0 := fZ BK226 0; have hfz14_1 := fZ BK226 1) | ((with_reducible refine gate_callee (f := 33) rfl ?_); refine gL (some 17) Try.func33 #[.agg #[.slice A0_0 l0_0.length c0_0, .slice A0_1 l0_1.length c0_1], .slice none 0 0] ?_; (refine (spec_Fall.calls k _ _ l0_0 _ _ l0_1 _ _ ([] : List Bool) t235 t238 _ ?side1 ?side2 ?side3 ?side4 ?side5 ?side6 A5.out).mono ?_); (case side1 => exact cS HR0_0 HB); (case side2 => exact HC0_0.out); (case side3 => exact cS HR0_1 HB); (case side4 => exact HC0_1.out); (case side5 => exact Kd.C_nil _ _); (case side6 => exact Nat.le_refl _); rintro e w15 ⟨v236, v239, rfl, ho0, ho1, hb⟩; refine ⟨_, rfl, ?_⟩; have n_ := aI (lR HB ho0) (aI (lR HB ho1) (aI (kB BK226 hb) (aI (kB BK227 hb) (sB HB hb)))); clear BK226 BK227 HB; obtain ⟨HO237, HO240, BK226, BK227, HB⟩ := n_; (try clear hb ho0 ho1)) | ((with_reducible refine gate_dst (N := 5) rfl ?_); (try (refine gate_guard (by rfl) ?_; dsimp only)); refine box_event ?hg (N := 5) ?hd (cs := #[.slice none 0 0, .slice none 0 0]) (t := 30) ?hr ?_; (case hd => rfl); (case hg => rfl); (case hr => first | (go_simp; done) | (go_simp; rfl)); intro gb241 hg w16 hbox hb; have n_ := aI (rB HO237 hb) (aI (rB HO240 hb) (aI (kB BK226 hb) (aI (kB BK227 hb) (aI (sB HB hb) (aI (aM hbox) (aI (gE HB hg) (aI (gE HB hg) (aI (nL BK226 hg) (aI (nG BK226 hg) (aI (nL BK227 hg) (nG BK227 hg))))))))))); clear HO237 HO240 BK226 BK227 HB; obtain ⟨HO237, HO240, BK226, BK227, HB, BK241, GW241, GE241, NB226_241, NB241_226, NB227_241, NB241_227⟩ := n_; (try clear hb hbox hg); obtain ⟨Ao17, co17, eo17⟩ := Kd.R_slice HO237.out; subst eo17; have hnb18 := NB241_226.out; have hnc18 := NB226_241.out; have hnb19 := NB241_227.out; have hnc19 := NB227_241.out; have hcz20_0 := cZ0 BK241; have hcz20_1 := cZ1 BK241; have hfz20_0 := fZ BK241 0; have hfz20_1 := fZ BK241 1; obtain ⟨Ao21, co21, eo21⟩ := Kd.R_slice HO240.out; subst eo21; have p242 : 0 ≤ (0 : Int) := (by omega); have q242 : 0 < (t235.length : Int) := dT; obtain ⟨ad242, e242, hx242_0⟩ := Kd.at_string (Kd.R_reads' HO237.out).2.2 0 p242 q242; cases e242; have qi242 : (0 < t235.length) = True := eq_true (by omega); (try rw [show ((0 : Int)).toNat = 0 from rfl] at hx242_0); (try rw [Addr.add_zero'] at hx242_0); have hn242_0 : ad242.block ≠ gb241 := Kd.own_blk (Kd.R_ne HO237.out BK241.out (by decide)); have hn242_1 : ad242.block ≠ gb241 := Kd.own_blk (Kd.R_ne HO237.out BK241.out (by decide)); replace hx242_0 := (cell_far (p := ⟨gb241, 0, none⟩) (by first | (rw [add_block]; exact hn242_0) | (show (Addr.add _ _).block ≠ _; rw [add_block]; exact hn242_0) | exact hn242_0) (.slice (some ad242) t235.length co17)).trans hx242_0; replace hx242_0 := (cell_far (p := ⟨gb241, 1, none⟩) (by first | (rw [add_block]; exact hn242_1) | (show (Addr.add _ _).block ≠ _; rw [add_block]; exact hn242_1) | exact hn242_1) (.slice Ao21 t238.length co21)).trans hx242_0; clear hn242_0; clear hn242_1; replace p242 := eq_true p242; replace q242 := eq_true q242) | ((with_reducible refine gate_callee (f := 84) rfl ?_); refine gL (some 24) Try.func84 #[.string (rdOf ByteArray.empty t235 0), .int .i64 a1] ?_; (with_reducible refine (spec_HeadOf.calls k (rdOf ByteArray.empty t235 0) a1 t243 t244 t245 _ A7.out).mono ?_); rintro e w22 ⟨v246, rfl, ho0, hb⟩; refine ⟨_, rfl, ?_⟩; have n_ := aI (aM (Kd.R_below (rP (Kd.R_mono (Kd.R_far (p := ⟨gb241, 1, none⟩) (Kd.R_far (p := ⟨gb241, 0, none⟩) (Kd.R_types HO237.out BK241.out (by decide)) (fun _ hk => hk.2) (.slice (some ad242) t235.length co17)) (fun _ hk => hk.2) (.slice Ao21 t238.length co21)) (fun _ h_ => h_.1))) hb)) (aI (aM (Kd.R_below (rP (Kd.R_mono (Kd.R_far (p := ⟨gb241, 1, none⟩) (Kd.R_far (p := ⟨gb241, 0, none⟩) (Kd.R_types HO240.out BK241.out (by decide)) (fun _ hk => hk.2) (.slice (some ad242) t235.length co17)) (fun _ hk => hk.2) (.slice Ao21 t238.length co21)) (fun _ h_ => h_.1))) hb)) (aI (lR HB ho0) (aI (kB BK226 hb) (aI (kB BK227 hb) (aI (aM (blk_below (g := gb241) (o := .cells #[.slice (some ad242) t235.length co17, .slice Ao21 t238.length co21] 30 (0, 0)) (by (with_reducible repeat (first | apply bN | apply bD | apply bA)); refine blk_put (cs := #[.slice (some ad242) t235.length co17, .slice none 0 0]) ?_ 1 _ rfl; (with_reducible repeat (first | apply bN | apply bD | apply bA)); refine blk_put (cs := #[.slice none 0 0, .slice none 0 0]) ?_ 0 _ rfl; (with_reducible repeat (first | apply bN | apply bD | apply bA)); exact BK241.out) hb)) (sB HB hb)))))); clear HO237 HO240 BK226 BK227 BK241 HB; obtain ⟨HO237, HO240, HO247, BK226, BK227, BK241, HB⟩ := n_; (try clear hb ho0)))
   (try simp only [Act.put, List.setIfInBounds_toArray, List.set_cons_zero, List.set_cons_succ])
   go_cut [39] (fun v39 wc => ∃ (kq : Nat) (x39_7 : Bool), v39 = .bool x39_7 ∧ Aside0 (spec_Recover.j0 kq a1 t243 x39_7 t235 t238 = some (r1, r2)) ∧ Aside0 (kq ≤ k) ∧ Aside0 (Kd.R (Kd.int .i64) 3 wc w.heap.size (fun _ => True) v246 t243) ∧ Aside0 (Kd.R Kd.string 9 wc w.heap.size (fun _ => True) (.slice (some ad242) t235.length co17) t235) ∧ Aside0 (Kd.R k65 65 wc w.heap.size (fun _ => True) (.slice Ao21 t238.length co21) t238) ∧ Aside0 (wc.heap[gb226]? = some (.cells #[(.slice A0_0 l0_0.length c0_0), (.slice A0_1 l0_1.length c0_1)] 30 (0, 0))) ∧ Aside0 (wc.heap[gb227]? = some (.cells #[(.slice none 0 0), (.slice none 0 0)] 30 (0, 0))) ∧ Aside0 (wc.heap[gb241]? = some (.cells #[(.slice (some ad242) t235.length co17), (.slice Ao21 t238.length co21)] 30 (0, 0))) ∧ Aside0 (Below w.heap.size w wc))
   case first =>
    have H := HC8.out
    clear HC8
    by_cases c23 : t245 = true
    ·subst c23
     rw [if_pos rfl] at H
     by_cases c24 : 1 ≤ (wrap64 (1 + (t243.length : Int)))
     ·rw [if_pos c24] at H
      have c24b0 := eq_true c24
      have c24b1 : decide (1 ≤ (wrap64 (1 + (t243.length : Int)))) = true := decide_eq_true c24
      by_cases c25 : (wrap64 (1 + (t243.length : Int))) ≤ (t235.length : Int)
      ·rw [if_pos c25] at H
       have c25b0 := eq_true c25
       have c25b1 : decide ((wrap64 (1 + (t243.length : Int))) ≤ (t235.length : Int)) = true := decide_eq_true c25
       obtain ⟨y248, hy248⟩ : ∃ y_ : List ByteArray, y_ = ((t235.take ((wrap64 (1 + (t243.length : Int))) : Int).toNat).drop 1) := ⟨_, rfl⟩
       replace H : ((spec_l4Sum.f k y248).bind fun t252 => (spec_Recover.j0 k a1 t243 (t252 == t244) t235 t238)) = some (r1, r2) := bQ hy248 H
       have Ny248 := aM hy248
       clear hy248
       replace H := Option.bind_eq_some_iff.mp H
       obtain ⟨t252, A260, H⟩ := H
       try dsimp only at H
       have A26 := aM A260
       clear A260
       have H' := aM H
       clear H
       have hnb27 := NB241_226.out
       have hnc27 := NB226_241.out
       have hnb28 := NB241_227.out
       have hnc28 := NB227_241.out
       have hcz29_0 := cZ0 BK241
       have hcz29_1 := cZ1 BK241
       have hfz29_0 := fZ BK241 0
       have hfz29_1 := fZ BK241 1
       obtain ⟨Ao30, co30, eo30⟩ := Kd.R_slice HO247.out
       subst eo30
       have q31 : ((wrap64 (1 + (t243.length : Int))) : Int) ≤ ((t235.length : Int) : Int) := dT
       obtain ⟨i031, hi031, _, hsz31, _⟩ := info_parts info9
       have hroom31 : t235.length ≤ co17 := (Kd.R_reads' HO237.out).2.1
       have hC31 : Kd.C Kd.string _ (some ad242) t235.length t235 := (Kd.R_reads' HO237.out).2.2
       have ql31 : (1 : Int) ≤ ((wrap64 (1 + (t243.length : Int))) : Int) := dT
       have hcut31 := cut_mid (P := Try.prog) 22 9 .i64 .i64 Try.underlying22 hi031 1 hsz31 (some ad242) t235.length co17 1 (wrap64 (1 + (t243.length : Int))) (by omega) ql31 q31 hroom31
       have hr31 := Kd.C_mid (lo := (1 : Int).toNat) (hi := ((wrap64 (1 + (t243.length : Int))) : Int).toNat) (c := co17) hC31 (by omega) (by omega) hroom31
       obtain ⟨A31, hA31⟩ : ∃ A1, A1 = (if co17 = (1 : Int).toNat then (some ad242) else ((some ad242) : Option Addr).map (·.add ((1 : Int).toNat * 1))) := ⟨_, rfl⟩
       obtain ⟨c31, hc31⟩ : ∃ c1, c1 = co17 - (1 : Int).toNat := ⟨_, rfl⟩
       have hy31 : y248.length = ((wrap64 (1 + (t243.length : Int))) : Int).toNat - (1 : Int).toNat := (by rw [Ny248.out, List.length_drop, List.length_take]; exact congrArg (fun z_ => z_ - _) (Nat.min_eq_left (by omega)))
       rw [show ((t235).take ((wrap64 (1 + (t243.length : Int))) : Int).toNat).drop (1 : Int).toNat = y248 from Ny248.out.symm] at hr31
       replace hr31 : Kd.C Kd.string _ A31 y248.length y248 := (by rw [hA31]; exact hr31)
       rw [← hy31, ← hA31, ← hc31] at hcut31
       have HR251 := aM hr31
       have HC251 := aM (show y248.length ≤ c31 from by rw [hy31, hc31]; exact Nat.sub_le_sub_right (Nat.le_trans (by omega) hroom31) _)
       clear hr31 hC31 hroom31 hi031 hsz31 hc31
       have KY31 := aM hy31
       have KA31 := aM hA31
       clear hy31 hA31
       have KL31 := aM (show ((wrap64 (1 + (t243.length : Int))) : Int).toNat ≤ t235.length from by omega)
       have KM31 := aM (show 1 ≤ ((wrap64 (1 + (t243.length : Int))) : Int).toNat from by omega)
       replace q31 := eq_true q31
       go_wp2_with (first | (go_at_call 85; (with_reducible refine (spec_l4Sum.calls k _ _ y248 t252 _ ?side1 ?side2 A26.out).mono ?_); (case side1 => repeat (first | exact (by repeat (first | (with_reducible exact HR251.out) | (with_reducible refine Kd.C_alloc ?_ _) | (with_reducible refine Kd.C_drewN ?_ _) | (with_reducible refine Kd.C_drew ?_) | exact HR251.out)) | (with_reducible refine Kd.C_alloc ?_ _) | (with_reducible refine Kd.C_drewN ?_ _) | (with_reducible refine Kd.C_drew ?_))); (case side2 => exact HC251.out); rintro e w32 ⟨rfl, hb⟩; have n_ := aI (rB HO237 hb) (aI (rB HO240 hb) (aI (rB HO247 hb) (aI (kB BK226 hb) (aI (kB BK227 hb) (aI (kB BK241 hb) (aI (aM (Kd.C_below (by repeat (first | (with_reducible exact HR251.out) | (with_reducible refine Kd.C_alloc ?_ _) | (with_reducible refine Kd.C_drewN ?_ _) | (with_reducible refine Kd.C_drew ?_) | exact HR251.out)) hb)) (sB HB hb))))))); clear HO237 HO240 HO247 BK226 BK227 BK241 HR251 HB; obtain ⟨HO237, HO240, HO247, BK226, BK227, BK241, HR251, HB⟩ := n_; (try clear hb)))
       go_meet
       case rel => exact ⟨_, ((t252 == t244)), (by first | rfl | (simp; done) | (simp [*]; done) | (simp; exact (by intro l_; cases l_ <;> rfl : ∀ l_ : List UInt8, l_.isEmpty = !(l_ != [])) _)), H', ⟨by first | omega | exact Nat.le_refl _⟩, ⟨rP HO247.out⟩, ⟨rP HO237.out⟩, ⟨rP HO240.out⟩, ⟨kP BK226⟩, ⟨kP BK227⟩, ⟨kP BK241⟩, ⟨bB⟩⟩
      rw [if_neg c25] at H
      exact absurd H (by simp)
     rw [if_neg c24] at H
     exact absurd H (by simp)
    replace c23 := Bool.eq_false_iff.mpr c23
    subst c23
    rw [if_neg (show ¬ (false = true) by decide)] at H
    have H' := aM H
    clear H
    go_wp2
    go_meet
    case rel => exact ⟨_, (false), (by first | rfl | (simp; done) | (simp [*]; done) | (simp; exact (by intro l_; cases l_ <;> rfl : ∀ l_ : List UInt8, l_.isEmpty = !(l_ != [])) _)), H', ⟨by first | omega | exact Nat.le_refl _⟩, ⟨rP HO247.out⟩, ⟨rP HO237.out⟩, ⟨rP HO240.out⟩, ⟨kP BK226⟩, ⟨kP BK227⟩, ⟨kP BK241⟩, ⟨bB⟩⟩
   case rest =>
    clear HC8
    try clear c1
    try clear c2
    try clear p2
    try clear q2
    try clear hx2
    try clear qi2
    try clear c3
    try clear q3
    try clear c4
    try clear c6
    try clear c6b0
    try clear c6b1
    try clear p6
    try clear c7
    try clear c8
    try clear c11
    try clear c18
    try clear c19
    try clear c23
    try clear c24
    try clear c24b0
    try clear c24b1
    try clear p24
    try clear q24
    try clear hx24
    try clear qi24
    try clear c25
    try clear c25b0
    try clear c25b1
    try clear c27
    try clear c28
    try clear c31
    try clear q31
    try clear hcz12_0
    try clear hcz12_1
    try clear hcz14_0
    try clear hcz14_1
    try clear hcz20_0
    try clear hcz20_1
    try clear hcz29_0
    try clear hcz29_1
    try clear hfz12_0
    try clear hfz12_1
    try clear hfz14_0
    try clear hfz14_1
    try clear hfz20_0
    try clear hfz20_1
    try clear hfz29_0
    try clear hfz29_1
    try clear hx242_0
    try clear p242
    try clear q242
    try clear q31
    obtain ⟨kq, x39_7, rfl, HA, HJ7, HO_6, HO_242000, HO_242001, BK226, BK227, BK241, HB⟩ := hcut
    cases kq with
    | zero => exact absurd HA.out (by simp [spec_Recover.j0])
    | succ kj7 =>
     have H := HA.out
     clear HA
     simp only [spec_Recover.j0] at H
     by_cases c33 : x39_7 = true
     ·subst c33
      rw [if_pos rfl] at H
      have H' := aM H
      clear H
      go_wp2
      go_loopg [9] kj7 (fun kq v9 w' => ∃ (x9_2 : Int) (x242000_2 : List ByteArray) (u242000 : Value), v9 = .int .i64 x9_2 ∧ Aside0 (spec_Recover.l0 kq a1 t243 x9_2 x242000_2 t238 = some (r1, r2)) ∧ Aside0 (kq ≤ kj7) ∧ Aside0 (Kd.R (Kd.int .i64) 3 w' w.heap.size (fun _ => True) v246 t243) ∧ Aside0 (Kd.R Kd.string 9 w' w.heap.size (fun _ => True) u242000 x242000_2) ∧ Aside0 (Kd.R k65 65 w' w.heap.size (fun _ => True) (.slice Ao21 t238.length co21) t238) ∧ Aside0 (w'.heap[gb226]? = some (.cells #[(.slice A0_0 l0_0.length c0_0), (.slice A0_1 l0_1.length c0_1)] 30 (0, 0))) ∧ Aside0 (w'.heap[gb227]? = some (.cells #[(.slice none 0 0), (.slice none 0 0)] 30 (0, 0))) ∧ Aside0 (w'.heap[gb241]? = some (.cells #[u242000, (.slice Ao21 t238.length co21)] 30 (0, 0))) ∧ Aside0 (Below w.heap.size w w'))
      case atStart => exact ⟨(0), (t235), (.slice (some ad242) t235.length co17), (by first | rfl | (simp; done) | (simp [*]; done) | (simp; exact (by intro l_; cases l_ <;> rfl : ∀ l_ : List UInt8, l_.isEmpty = !(l_ != [])) _)), H', ⟨Nat.le_refl _⟩, ⟨rP HO_6.out⟩, ⟨rP HO_242000.out⟩, ⟨rP HO_242001.out⟩, ⟨kP BK226⟩, ⟨kP BK227⟩, ⟨kP BK241⟩, ⟨bB⟩⟩
      case round =>
       clear H'
       try clear c1
       try clear c2
       try clear p2
       try clear q2
       try clear hx2
       try clear qi2
       try clear c3
       try clear q3
       try clear c4
       try clear c6
       try clear c6b0
       try clear c6b1
       try clear p6
       try clear c7
       try clear c8
       try clear c11
       try clear c18
       try clear c19
       try clear c23
       try clear c24
       try clear c24b0
       try clear c24b1
       try clear p24
       try clear q24
       try clear hx24
       try clear qi24
       try clear c25
       try clear c25b0
       try clear c25b1
       try clear c27
       try clear c28
       try clear c31
       try clear q31
       try clear c33
       try clear hcz12_0
       try clear hcz12_1
       try clear hcz14_0
       try clear hcz14_1
       try clear hcz20_0
       try clear hcz20_1
       try clear hcz29_0
       try clear hcz29_1
       try clear hfz12_0
       try clear hfz12_1
       try clear hfz14_0
       try clear hfz14_1
       try clear hfz20_0
       try clear hfz20_1
       try clear hfz29_0
       try clear hfz29_1
       try clear hx242_0
       try clear p2
       try clear p24
       try clear p242
       try clear p6
       try clear q2
       try clear q24
       try clear q242
       try clear q3
       try clear q31
       obtain ⟨x9_2, x242000_2, u242000, rfl, HA, HK2, HO_6, HO_242000, HO_242001, BK226, BK227, BK241, HB⟩ := hrel
       cases gk with
       | zero => exact absurd HA.out (by simp [spec_Recover.l0])
       | succ k2 =>
        have H := HA.out
        clear HA
        simp only [spec_Recover.l0] at H
        by_cases c34 : x9_2 < (t243.length : Int)
        ·rw [if_pos c34] at H
         have c34b0 : decide (x9_2 < (t243.length : Int)) = true := decide_eq_true c34
         clear c34
         by_cases c35 : 0 ≤ x9_2
         ·rw [if_pos c35] at H
          have c35b0 : decide (0 ≤ x9_2) = true := decide_eq_true c35
          clear c35
          obtain ⟨ji36, hji36⟩ : ∃ j_ : Int, (wrap64 (1 + x9_2)) = j_ := ⟨_, rfl⟩
          replace H : (if 0 ≤ (ji36) then (if (ji36) < (x242000_2.length : Int) then (if 0 ≤ (wrap64 ((wrap64 (a1 + 1)) + (rd t243 x9_2))) then (if (wrap64 ((wrap64 (a1 + 1)) + (rd t243 x9_2))) < (x242000_2.length : Int) then (spec_Recover.l0 k2 a1 t243 (wrap64 (x9_2 + 1)) (x242000_2.set ((wrap64 ((wrap64 (a1 + 1)) + (rd t243 x9_2))) : Int).toNat (rdOf ByteArray.empty x242000_2 (ji36))) t238) else (none)) else (none)) else (none)) else (none)) = some (r1, r2) := by first | (rw [hji36] at H; exact H) | (simp only [hji36] at H ⊢; exact H)
          have hji36w : (IntKind.i64.wrap (1 + x9_2)) = ji36 := (i64_w _).trans hji36
          by_cases c37 : 0 ≤ (ji36)
          ·rw [if_pos c37] at H
           have c37b0 : decide (0 ≤ (ji36)) = true := decide_eq_true c37
           clear c37
           by_cases c38 : (ji36) < (x242000_2.length : Int)
           ·rw [if_pos c38] at H
            have c38b0 : decide ((ji36) < (x242000_2.length : Int)) = true := decide_eq_true c38
            clear c38
            obtain ⟨ji39, hji39⟩ : ∃ j_ : Int, (wrap64 ((wrap64 (a1 + 1)) + (rd t243 x9_2))) = j_ := ⟨_, rfl⟩
            replace H : (if 0 ≤ (ji39) then (if (ji39) < (x242000_2.length : Int) then (spec_Recover.l0 k2 a1 t243 (wrap64 (x9_2 + 1)) (x242000_2.set ((ji39) : Int).toNat (rdOf ByteArray.empty x242000_2 (ji36))) t238) else (none)) else (none)) = some (r1, r2) := by first | (rw [hji39] at H; exact H) | (simp only [hji39] at H ⊢; exact H)
            have hji39w : (IntKind.i64.wrap ((wrap64 (a1 + 1)) + (rd t243 x9_2))) = ji39 := (i64_w _).trans hji39
            by_cases c40 : 0 ≤ (ji39)
            ·rw [if_pos c40] at H
             have c40b0 : decide (0 ≤ (ji39)) = true := decide_eq_true c40
             clear c40
             by_cases c41 : (ji39) < (x242000_2.length : Int)
             ·rw [if_pos c41] at H
              have c41b0 : decide ((ji39) < (x242000_2.length : Int)) = true := decide_eq_true c41
              clear c41
              obtain ⟨y255, hy255⟩ : ∃ y_ : List ByteArray, y_ = (x242000_2.set ((ji39) : Int).toNat (rdOf ByteArray.empty x242000_2 (ji36))) := ⟨_, rfl⟩
              replace H : (spec_Recover.l0 k2 a1 t243 (wrap64 (x9_2 + 1)) y255 t238) = some (r1, r2) := bQ hy255 H
              have Ny255 := aM hy255
              clear hy255
              have H' := aM H
              clear H
              obtain ⟨Ao43, co43, eo43⟩ := Kd.R_slice HO_6.out
              subst eo43
              try go_wp2
              have n_ := aI (aM (Kd.R_drew HO_6.out)) (aI (aM (Kd.R_drew HO_242000.out)) (aI (aM (Kd.R_drew HO_242001.out)) (aI (aM (blk_drew BK226.out)) (aI (aM (blk_drew BK227.out)) (aI (aM (blk_drew BK241.out)) (aM (below_drew1 HB.out)))))))
              clear HO_6 HO_242000 HO_242001 BK226 BK227 BK241 HB
              obtain ⟨HO_6, HO_242000, HO_242001, BK226, BK227, BK241, HB⟩ := n_
              have p253 : 0 ≤ (x9_2 : Int) := dT
              have q253 : x9_2 < (t243.length : Int) := dT
              obtain ⟨ad253, e253, hx253_0⟩ := Kd.at_int (Kd.R_reads' HO_6.out).2.2 x9_2 p253 q253
              cases e253
              replace p253 := eq_true p253
              replace q253 := eq_true q253
              obtain ⟨Ao45, co45, eo45⟩ := Kd.R_slice HO_242000.out
              (first | subst eo45 | (injection eo45 with f1_ f2_ f3_; have f4_ := f1_.symm; have f5_ := f3_.symm; clear f1_ f2_ f3_; subst f4_; subst f5_))
              have p254 : 0 ≤ ((ji36) : Int) := dT
              have q254 : (ji36) < (x242000_2.length : Int) := dT
              obtain ⟨ad254, e254, hx254_0⟩ := Kd.at_string (Kd.R_reads' HO_242000.out).2.2 (ji36) p254 q254
              cases e254
              replace p254 := eq_true p254
              replace q254 := eq_true q254
              have p42 : 0 ≤ ((ji39) : Int) := dT
              have q42 : ((ji39) : Int) < ((x242000_2.length : Int) : Int) := dT
              obtain ⟨go42, co42, eo42, gb42, gl42, cl42, HG42⟩ := Kd.R_form HO_242000.out (by omega)
              (first | cases eo42 | (injection eo42 with ea_ en_ ec_; (first | subst ea_ | (injection ea_ with ea_; subst ea_)); subst ec_; clear en_))
              have GB42 := aM gb42
              have GG42 := aM HG42
              clear gb42 gl42 HG42
              (first | simp only [add_plain] at hx254_0 | skip)
              obtain ⟨hx42_0, hf42_0⟩ := Kd.R_celln (⟨#[]⟩ : ByteArray) HO_242000.out ((ji39) : Int) p42 q42
              replace p42 := eq_true p42
              replace q42 := eq_true q42
              have HP46 := Kd.R_putn HO_242000.out ((ji39) : Int) (rdOf ByteArray.empty x242000_2 (ji36))
              rw [← Ny255.out] at HP46
              have HQ46 := aM HP46
              clear HP46
              refine start_ (n := 17) (S := fun w' => w'.cell? ⟨gb241, 0, none⟩ = some (.slice (some ⟨go42, 0, none⟩) x242000_2.length co45) ∧ w'.cell? ⟨gb241, 1, none⟩ = some (.slice Ao21 t238.length co21) ∧ w'.cell? (ad253.add (x9_2).toNat) = some (.int .i64 (rd t243 x9_2)) ∧ w'.cell? ⟨go42, ((ji36)).toNat, none⟩ = some (.string (rdOf ByteArray.empty x242000_2 (ji36)))) (ds := [16]) #[tF, tF, tF, tF, tF, tF, tF, tF, tF, tF, tF, tF, tF, tF, tF, tF, tF] (by kernel_rfl) rfl rfl ⟨(blk_cell BK241.out 0).trans rfl, (blk_cell BK241.out 1).trans rfl, hx253_0, hx254_0⟩ (fun hHeld => ?_); refine with_tabW spec_Recover.tab9 spec_Recover.bits9 (fun HT_ HW_ => ?_)
              generalize wr.drew = w44 at HO_6 HO_242000 HO_242001 BK226 BK227 BK241 HB GG42 HQ46 hf42_0 hx253_0 hx254_0 hx42_0 hHeld ⊢
              refine pY 0 46 #[tT, tF, tF, tF, tF, tF, tF, tF, tF, tF, tF, tF, tF, tF, tF, tF, tF] ?_
              refine pY 2 48 #[tT, tF, tT, tF, tF, tF, tF, tF, tF, tF, tF, tF, tF, tF, tF, tF, tF] ?_
              refine pY 3 49 #[tT, tF, tT, tT, tF, tF, tF, tF, tF, tF, tF, tF, tF, tF, tF, tF, tF] ?_
              refine pY 4 50 #[tT, tF, tT, tT, tT, tF, tF, tF, tF, tF, tF, tF, tF, tF, tF, tF, tF] ?_
              refine pY 5 51 #[tT, tF, tT, tT, tT, tT, tF, tF, tF, tF, tF, tF, tF, tF, tF, tF, tF] ?_
              refine pY 6 52 #[tT, tF, tT, tT, tT, tT, tT, tF, tF, tF, tF, tF, tF, tF, tF, tF, tF] ?_
              refine pY 9 55 #[tT, tF, tT, tT, tT, tT, tT, tF, tF, tT, tF, tF, tF, tF, tF, tF, tF] ?_
              refine pY 11 57 #[tT, tF, tT, tT, tT, tT, tT, tF, tF, tT, tF, tT, tF, tF, tF, tF, tF] ?_
              refine pY 12 58 #[tT, tF, tT, tT, tT, tT, tT, tF, tF, tT, tF, tT, tT, tF, tF, tF, tF] ?_
              refine take_ (i := 1) (N := some 47) (v := ?_) (a' := ?_) #[tT, tT, tT, tT, tT, tT, tT, tF, tF, tT, tF, tT, tT, tF, tF, tF, tF] rfl rfl (take_ofW HT_.out HW_.out (by kernel_rfl)) (fun _ _ _ h => h) (Or.inl ⟨by rfl, ?_⟩) hHeld ?_ ?_
              rotate_left
              ·rintro w' ⟨s0, s1, s2, s3⟩
               go_simp
               with_reducible rfl
              rotate_left
              ·simp only [Act.put, List.setIfInBounds_toArray, List.set_cons_zero, List.set_cons_succ, i64_w, i32_w]
               rfl
              refine take_ (i := 7) (N := some 53) (v := ?_) (a' := ?_) #[tT, tT, tT, tT, tT, tT, tT, tT, tF, tT, tF, tT, tT, tF, tF, tF, tF] rfl rfl (take_ofW HT_.out HW_.out (by kernel_rfl)) (fun _ _ _ h => h) (Or.inl ⟨by rfl, ?_⟩) hHeld ?_ ?_
              rotate_left
              ·rintro w' ⟨s0, s1, s2, s3⟩
               go_simp
               with_reducible rfl
              rotate_left
              ·simp only [Act.put, List.setIfInBounds_toArray, List.set_cons_zero, List.set_cons_succ, i64_w, i32_w]
               rfl
              refine pY 8 54 #[tT, tT, tT, tT, tT, tT, tT, tT, tT, tT, tF, tT, tT, tF, tF, tF, tF] ?_
              refine take_ (i := 10) (N := some 56) (v := ?_) (a' := ?_) #[tT, tT, tT, tT, tT, tT, tT, tT, tT, tT, tT, tT, tT, tF, tF, tF, tF] rfl rfl (take_ofW HT_.out HW_.out (by kernel_rfl)) (fun _ _ _ h => h) (Or.inl ⟨by rfl, ?_⟩) hHeld ?_ ?_
              rotate_left
              ·rintro w' ⟨s0, s1, s2, s3⟩
               go_simp
               with_reducible rfl
              rotate_left
              ·simp only [Act.put, List.setIfInBounds_toArray, List.set_cons_zero, List.set_cons_succ, i64_w, i32_w]
               rfl
              refine pY 13 59 #[tT, tT, tT, tT, tT, tT, tT, tT, tT, tT, tT, tT, tT, tT, tF, tF, tF] ?_
              refine take_ (i := 14) (N := some 60) (v := ?_) (a' := ?_) #[tT, tT, tT, tT, tT, tT, tT, tT, tT, tT, tT, tT, tT, tT, tT, tF, tF] rfl rfl (take_ofW HT_.out HW_.out (by kernel_rfl)) (fun _ _ _ h => h) (Or.inl ⟨by rfl, ?_⟩) hHeld ?_ ?_
              rotate_left
              ·rintro w' ⟨s0, s1, s2, s3⟩
               go_simp
               with_reducible rfl
              rotate_left
              ·simp only [Act.put, List.setIfInBounds_toArray, List.set_cons_zero, List.set_cons_succ, i64_w, i32_w]
               rfl
              refine pY 15 61 #[tT, tT, tT, tT, tT, tT, tT, tT, tT, tT, tT, tT, tT, tT, tT, tT, tF] ?_
              refine last_ (i := 16) (N := none) #[tT, tT, tT, tT, tT, tT, tT, tT, tT, tT, tT, tT, tT, tT, tT, tT, tT] rfl rfl (one_of HT_.out (by kernel_rfl)) (by decide) (fun K hK => ?_)
              refine skip_ (w1 := ?_) (by rfl) rfl ?_ ?_
              rotate_left
              ·go_simp
               rfl
              refine hK.out _ _ ?_
              clear hK K
              refine done_ (done_of HT_.out (by kernel_rfl)) ?_
              try go_wp2
              go_roundg k2
              case measure => have := HJ7.out; have := HK2.out; omega
              case rel => exact ⟨(wrap64 (x9_2 + 1)), (y255), (.slice (some ⟨go42, 0, none⟩) x242000_2.length co45), (by first | rfl | (simp; done) | (simp [*]; done) | (simp; exact (by intro l_; cases l_ <;> rfl : ∀ l_ : List UInt8, l_.isEmpty = !(l_ != [])) _)), H', ⟨by have := HJ7.out; have := HK2.out; omega⟩, ⟨rP (Kd.R_mono (Kd.R_far (p := ⟨go42, ((ji39) : Int).toNat, none⟩) (Kd.R_types HO_6.out GG42.out (by decide)) (fun _ hk => hk.2) (.string (rdOf ByteArray.empty x242000_2 (ji36)))) (fun _ hk => trivial))⟩, ⟨rP HQ46.out⟩, ⟨rP (Kd.R_mono (Kd.R_far (p := ⟨go42, ((ji39) : Int).toNat, none⟩) (Kd.R_types HO_242001.out GG42.out (by decide)) (fun _ hk => hk.2) (.string (rdOf ByteArray.empty x242000_2 (ji36)))) (fun _ hk => trivial))⟩, ⟨by (with_reducible repeat (first | apply bN | apply bD | apply bA)); refine blk_far ?_ (by have h_ := Kd.R_ne HO_242000.out BK226.out (by decide); intro e_; exact h_ (by rw [e_]; rfl)) _; (with_reducible repeat (first | apply bN | apply bD | apply bA)); exact BK226.out⟩, ⟨by (with_reducible repeat (first | apply bN | apply bD | apply bA)); refine blk_far ?_ (by have h_ := Kd.R_ne HO_242000.out BK227.out (by decide); intro e_; exact h_ (by rw [e_]; rfl)) _; (with_reducible repeat (first | apply bN | apply bD | apply bA)); exact BK227.out⟩, ⟨by (with_reducible repeat (first | apply bN | apply bD | apply bA)); refine blk_far ?_ (by have h_ := Kd.R_ne HO_242000.out BK241.out (by decide); intro e_; exact h_ (by rw [e_]; rfl)) _; (with_reducible repeat (first | apply bN | apply bD | apply bA)); exact BK241.out⟩, ⟨bB⟩⟩
             ·rw [if_neg c41] at H
              exact absurd H (by simp)
            ·rw [if_neg c40] at H
             exact absurd H (by simp)
           ·rw [if_neg c38] at H
            exact absurd H (by simp)
          ·rw [if_neg c37] at H
           exact absurd H (by simp)
         ·rw [if_neg c35] at H
          exact absurd H (by simp)
        ·rw [if_neg c34] at H
         have c34b0 : decide (x9_2 < (t243.length : Int)) = false := decide_eq_false c34
         clear c34
         by_cases c47 : 0 < (x242000_2.length : Int)
         ·rw [if_pos c47] at H
          have c47b0 : decide (0 < (x242000_2.length : Int)) = true := decide_eq_true c47
          have c47b1 : decide (0 < x242000_2.length) = true := decide_eq_true (by omega)
          clear c47
          obtain ⟨y256, hy256⟩ : ∃ y_ : List ByteArray, y_ = (x242000_2.set (0 : Int).toNat (⟨#[]⟩ : ByteArray)) := ⟨_, rfl⟩
          replace H : (some (y256, t238)) = some (r1, r2) := bQ hy256 H
          have Ny256 := aM hy256
          clear hy256
          simp only [Option.some.injEq, Prod.mk.injEq] at H
          obtain ⟨rfl, rfl⟩ := H
          obtain ⟨Ao49, co49, eo49⟩ := Kd.R_slice HO_6.out
          subst eo49
          have hnb50 := NB241_226.out
          have hnc50 := NB226_241.out
          have hnb51 := NB241_227.out
          have hnc51 := NB227_241.out
          have hcz52_0 := cZ0 BK241
          have hcz52_1 := cZ1 BK241
          have hfz52_0 := fZ BK241 0
          have hfz52_1 := fZ BK241 1
          have p48 : 0 ≤ (0 : Int) := (by omega)
          have q48 : (0 : Int) < ((x242000_2.length : Int) : Int) := dT
          have qi48 : (0 < x242000_2.length) = True := eq_true (by omega)
          obtain ⟨go48, co48, eo48, gb48, gl48, cl48, HG48⟩ := Kd.R_form HO_242000.out (by omega)
          (first | cases eo48 | (injection eo48 with ea_ en_ ec_; (first | subst ea_ | (injection ea_ with ea_; subst ea_)); subst ec_; clear en_))
          have GB48 := aM gb48
          have GG48 := aM HG48
          clear gb48 gl48 HG48
          obtain ⟨hx48_0, hf48_0⟩ := Kd.R_celln (⟨#[]⟩ : ByteArray) HO_242000.out (0 : Int) p48 q48
          (try rw [show ((0 : Int)).toNat = 0 from rfl] at hx48_0)
          (try simp only [Nat.reduceMul, Nat.zero_mul, Nat.zero_add, Nat.reduceAdd] at hx48_0)
          (try rw [show ((0 : Int)).toNat = 0 from rfl] at hf48_0)
          (try simp only [Nat.reduceMul, Nat.zero_mul, Nat.zero_add, Nat.reduceAdd] at hf48_0)
          replace p48 := eq_true p48
          replace q48 := eq_true q48
          have HP53 := Kd.R_putg HO_242000.out (0 : Int) (⟨#[]⟩ : ByteArray)
          go_wp2_with (first | ((with_reducible refine gate_store (t := 9) (p := 64) rfl ?_); refine store_event (t := 9) (p := 64) (v := ?vo_w54) (w1 := (wr.setCell ⟨go48, (0 : Int).toNat, none⟩ (.string (⟨#[]⟩ : ByteArray)))) ?hg ?ho ?hn ?hr ?_; (case ho => rfl); (case hg => rfl); (case hn => rfl); (case hr => first | (go_simp; done) | (go_simp; rfl)); intro w54 hw; have hg : wr.grownBy w54 (some go48) := (by rw [hw]; exact HP53.2); have hp_ : Kd.R Kd.string 9 w54 w.heap.size (fun _ => True) (.slice (some ⟨go48, 0, none⟩) x242000_2.length co48) y256 := (by rw [hw, Ny256.out]; exact HP53.1); clear HP53; have n_ := aI (aM (Kd.R_over' (v := (.slice (some ⟨go48, 0, none⟩) x242000_2.length co48)) (rP HO_6.out) (Kd.R_typed HO_242000.out) (by decide) hg)) (aI (aM (hp_)) (aI (aM (Kd.R_over' (v := (.slice (some ⟨go48, 0, none⟩) x242000_2.length co48)) (rP HO_242001.out) (Kd.R_typed HO_242000.out) (by decide) hg)) (aI (aM (blk_grown (g := gb226) (o := .cells #[.slice A0_0 l0_0.length c0_0, .slice A0_1 l0_1.length c0_1] 30 (0, 0)) (kP BK226) hg (Kd.R_ne HO_242000.out BK226.out (by decide)))) (aI (aM (blk_grown (g := gb227) (o := .cells #[.slice none 0 0, .slice none 0 0] 30 (0, 0)) (kP BK227) hg (Kd.R_ne HO_242000.out BK227.out (by decide)))) (aI (aM (blk_grown (g := gb241) (o := .cells #[.slice (some ⟨go48, 0, none⟩) x242000_2.length co48, .slice Ao21 t238.length co21] 30 (0, 0)) (kP BK241) hg (Kd.R_ne HO_242000.out BK241.out (by decide)))) (aM ((by rw [hw]; exact below_set (HB.out) GB48.out : Below w.heap.size w w54)))))))); clear HO_6 HO_242000 HO_242001 BK226 BK227 BK241 HB; obtain ⟨HO_6, HO_242000, HO_242001, BK226, BK227, BK241, HB⟩ := n_; (try clear hw); have hcz55_0 := cZ0 BK241; have hcz55_1 := cZ1 BK241; have hfz55_0 := fZ BK241 0; have hfz55_1 := fZ BK241 1; have hnb56 := NB227_226.out; have hnc56 := NB226_227.out; have hcz57_0 := cZ0 BK227; have hcz57_1 := cZ1 BK227; have hfz57_0 := fZ BK227 0; have hfz57_1 := fZ BK227 1))
          refine bodyPost_ret (results_cell_row rfl _ _ gb227 30 #[.slice (some ⟨go48, 0, none⟩) x242000_2.length co48, .slice Ao21 t238.length co21] (0, 0) _ rfl (by (with_reducible repeat (first | apply bN | apply bD | apply bA)); refine blk_put (cs := #[.slice (some ⟨go48, 0, none⟩) x242000_2.length co48, .slice none 0 0]) ?_ 1 _ rfl; (with_reducible repeat (first | apply bN | apply bD | apply bA)); refine blk_put (cs := #[.slice none 0 0, .slice none 0 0]) ?_ 0 _ rfl; (with_reducible repeat (first | apply bN | apply bD | apply bA)); exact BK227.out) Try.underlying30 rfl (by kernel_rfl)) rfl ?_
          exact ⟨_, _, eW, by (with_reducible repeat (first | apply Kd.R_alloc | apply Kd.R_drewN | apply Kd.R_drew)); exact Kd.R_mono (Kd.R_far (p := ⟨gb227, 1, none⟩) (Kd.R_far (p := ⟨gb227, 0, none⟩) (Kd.R_types HO_242000.out BK227.out (by decide)) (fun _ hk => hk.2) (.slice (some ⟨go48, 0, none⟩) x242000_2.length co48)) (fun _ hk => hk.2) (.slice Ao21 t238.length co21)) (fun _ hk => trivial), by (with_reducible repeat (first | apply Kd.R_alloc | apply Kd.R_drewN | apply Kd.R_drew)); exact Kd.R_mono (Kd.R_far (p := ⟨gb227, 1, none⟩) (Kd.R_far (p := ⟨gb227, 0, none⟩) (Kd.R_types HO_242001.out BK227.out (by decide)) (fun _ hk => hk.2) (.slice (some ⟨go48, 0, none⟩) x242000_2.length co48)) (fun _ hk => hk.2) (.slice Ao21 t238.length co21)) (fun _ hk => trivial), bB⟩
         ·rw [if_neg c47] at H
          exact absurd H (by simp)
     ·replace c33 := Bool.eq_false_iff.mpr c33
      subst c33
      rw [if_neg (show ¬ (false = true) by decide)] at H
      by_cases c58 : 0 < (t235.length : Int)
      ·rw [if_pos c58] at H
       have c58b0 : decide (0 < (t235.length : Int)) = true := decide_eq_true c58
       have c58b1 : decide (0 < t235.length) = true := decide_eq_true (by omega)
       clear c58
       obtain ⟨y257, hy257⟩ : ∃ y_ : List ByteArray, y_ = (t235.set (0 : Int).toNat (⟨#[]⟩ : ByteArray)) := ⟨_, rfl⟩
       replace H : (some (y257, t238)) = some (r1, r2) := bQ hy257 H
       have Ny257 := aM hy257
       clear hy257
       simp only [Option.some.injEq, Prod.mk.injEq] at H
       obtain ⟨rfl, rfl⟩ := H
       have hnb60 := NB241_226.out
       have hnc60 := NB226_241.out
       have hnb61 := NB241_227.out
       have hnc61 := NB227_241.out
       have hcz62_0 := cZ0 BK241
       have hcz62_1 := cZ1 BK241
       have hfz62_0 := fZ BK241 0
       have hfz62_1 := fZ BK241 1
       have p59 : 0 ≤ (0 : Int) := (by omega)
       have q59 : (0 : Int) < ((t235.length : Int) : Int) := dT
       have qi59 : (0 < t235.length) = True := eq_true (by omega)
       obtain ⟨go59, co59, eo59, gb59, gl59, cl59, HG59⟩ := Kd.R_form HO_242000.out (by omega)
       (first | cases eo59 | (injection eo59 with ea_ en_ ec_; (first | subst ea_ | (injection ea_ with ea_; subst ea_)); subst ec_; clear en_))
       have GB59 := aM gb59
       have GG59 := aM HG59
       clear gb59 gl59 HG59
       (first | simp only [add_plain] at hx242_0 | skip)
       obtain ⟨hx59_0, hf59_0⟩ := Kd.R_celln (⟨#[]⟩ : ByteArray) HO_242000.out (0 : Int) p59 q59
       (try rw [show ((0 : Int)).toNat = 0 from rfl] at hx59_0)
       (try simp only [Nat.reduceMul, Nat.zero_mul, Nat.zero_add, Nat.reduceAdd] at hx59_0)
       (try rw [show ((0 : Int)).toNat = 0 from rfl] at hf59_0)
       (try simp only [Nat.reduceMul, Nat.zero_mul, Nat.zero_add, Nat.reduceAdd] at hf59_0)
       replace p59 := eq_true p59
       replace q59 := eq_true q59
       have HP63 := Kd.R_putg HO_242000.out (0 : Int) (⟨#[]⟩ : ByteArray)
       go_wp2_with (first | ((with_reducible refine gate_store (t := 9) (p := 64) rfl ?_); refine store_event (t := 9) (p := 64) (v := ?vo_w64) (w1 := (wc.setCell ⟨go59, (0 : Int).toNat, none⟩ (.string (⟨#[]⟩ : ByteArray)))) ?hg ?ho ?hn ?hr ?_; (case ho => rfl); (case hg => rfl); (case hn => rfl); (case hr => first | (go_simp; done) | (go_simp; rfl)); intro w64 hw; have hg : wc.grownBy w64 (some go59) := (by rw [hw]; exact HP63.2); have hp_ : Kd.R Kd.string 9 w64 w.heap.size (fun _ => True) (.slice (some ⟨go59, 0, none⟩) t235.length co17) y257 := (by rw [hw, Ny257.out]; exact HP63.1); clear HP63; have n_ := aI (aM (Kd.R_over' (v := (.slice (some ⟨go59, 0, none⟩) t235.length co17)) (rP HO_6.out) (Kd.R_typed HO_242000.out) (by decide) hg)) (aI (aM (hp_)) (aI (aM (Kd.R_over' (v := (.slice (some ⟨go59, 0, none⟩) t235.length co17)) (rP HO_242001.out) (Kd.R_typed HO_242000.out) (by decide) hg)) (aI (aM (blk_grown (g := gb226) (o := .cells #[.slice A0_0 l0_0.length c0_0, .slice A0_1 l0_1.length c0_1] 30 (0, 0)) (kP BK226) hg (Kd.R_ne HO_242000.out BK226.out (by decide)))) (aI (aM (blk_grown (g := gb227) (o := .cells #[.slice none 0 0, .slice none 0 0] 30 (0, 0)) (kP BK227) hg (Kd.R_ne HO_242000.out BK227.out (by decide)))) (aI (aM (blk_grown (g := gb241) (o := .cells #[.slice (some ⟨go59, 0, none⟩) t235.length co17, .slice Ao21 t238.length co21] 30 (0, 0)) (kP BK241) hg (Kd.R_ne HO_242000.out BK241.out (by decide)))) (aM ((by rw [hw]; exact below_set (HB.out) GB59.out : Below w.heap.size w w64)))))))); clear HO_6 HO_242000 HO_242001 BK226 BK227 BK241 HB; obtain ⟨HO_6, HO_242000, HO_242001, BK226, BK227, BK241, HB⟩ := n_; (try clear hw); have hcz65_0 := cZ0 BK241; have hcz65_1 := cZ1 BK241; have hfz65_0 := fZ BK241 0; have hfz65_1 := fZ BK241 1; have hnb66 := NB227_226.out; have hnc66 := NB226_227.out; have hcz67_0 := cZ0 BK227; have hcz67_1 := cZ1 BK227; have hfz67_0 := fZ BK227 0; have hfz67_1 := fZ BK227 1))
       refine bodyPost_ret (results_cell_row rfl _ _ gb227 30 #[.slice (some ⟨go59, 0, none⟩) t235.length co17, .slice Ao21 t238.length co21] (0, 0) _ rfl (by (with_reducible repeat (first | apply bN | apply bD | apply bA)); refine blk_put (cs := #[.slice (some ⟨go59, 0, none⟩) t235.length co17, .slice none 0 0]) ?_ 1 _ rfl; (with_reducible repeat (first | apply bN | apply bD | apply bA)); refine blk_put (cs := #[.slice none 0 0, .slice none 0 0]) ?_ 0 _ rfl; (with_reducible repeat (first | apply bN | apply bD | apply bA)); exact BK227.out) Try.underlying30 rfl (by kernel_rfl)) rfl ?_
       exact ⟨_, _, eW, by (with_reducible repeat (first | apply Kd.R_alloc | apply Kd.R_drewN | apply Kd.R_drew)); exact Kd.R_mono (Kd.R_far (p := ⟨gb227, 1, none⟩) (Kd.R_far (p := ⟨gb227, 0, none⟩) (Kd.R_types HO_242000.out BK227.out (by decide)) (fun _ hk => hk.2) (.slice (some ⟨go59, 0, none⟩) t235.length co17)) (fun _ hk => hk.2) (.slice Ao21 t238.length co21)) (fun _ hk => trivial), by (with_reducible repeat (first | apply Kd.R_alloc | apply Kd.R_drewN | apply Kd.R_drew)); exact Kd.R_mono (Kd.R_far (p := ⟨gb227, 1, none⟩) (Kd.R_far (p := ⟨gb227, 0, none⟩) (Kd.R_types HO_242001.out BK227.out (by decide)) (fun _ hk => hk.2) (.slice (some ⟨go59, 0, none⟩) t235.length co17)) (fun _ hk => hk.2) (.slice Ao21 t238.length co21)) (fun _ hk => trivial), bB⟩
      ·rw [if_neg c58] at H
       exact absurd H (by simp)
  rw [if_neg c6] at H
  exact absurd H (by simp)
 replace c4 := Bool.eq_false_iff.mpr c4
 subst c4
 rw [if_neg (show ¬ (false = true) by decide)] at H
 replace H := Option.bind_eq_some_iff.mp H
 obtain ⟨⟨t229, t232⟩, A680, H⟩ := H
 try dsimp only at H
 have A68 := aM A680
 clear A680
 simp only [Option.some.injEq, Prod.mk.injEq] at H
 obtain ⟨rfl, rfl⟩ := H
 go_enter Try.func44, Try.ntmps44
 go_wp2_with (first | ((with_reducible refine gate_dst (N := 2) rfl ?_); (try (refine gate_guard (by rfl) ?_; dsimp only)); refine box_event ?hg (N := 2) ?hd (cs := #[.slice A0_0 l0_0.length c0_0, .slice A0_1 l0_1.length c0_1]) (t := 30) ?hr ?_; (case hd => rfl); (case hg => rfl); (case hr => first | (go_simp; done) | (go_simp; rfl)); intro gb226 hg w69 hbox hb; have n_ := aI (sB HB hb) (aI (aM hbox) (aI (gE HB hg) (gE HB hg))); clear HB; obtain ⟨HB, BK226, GW226, GE226⟩ := n_; (try clear hb hbox hg)) | ((with_reducible refine gate_dst (N := 4) rfl ?_); (try (refine gate_guard (by rfl) ?_; dsimp only)); refine box_event ?hg (N := 4) ?hd (cs := #[.slice none 0 0, .slice none 0 0]) (t := 30) ?hr ?_; (case hd => rfl); (case hg => rfl); (case hr => first | (go_simp; done) | (go_simp; rfl)); intro gb227 hg w70 hbox hb; have n_ := aI (kB BK226 hb) (aI (sB HB hb) (aI (aM hbox) (aI (gE HB hg) (aI (gE HB hg) (aI (nL BK226 hg) (nG BK226 hg)))))); clear BK226 HB; obtain ⟨BK226, HB, BK227, GW227, GE227, NB226_227, NB227_226⟩ := n_; (try clear hb hbox hg); have hnb71 := NB226_227.out; have hnc71 := NB227_226.out; have hcz72_0 := cZ0 BK226; have hcz72_1 := cZ1 BK226; have hfz72_0 := fZ BK226 0; have hfz72_1 := fZ BK226 1) | ((with_reducible refine gate_callee (f := 70) rfl ?_); refine gL (some 12) Try.func70 #[.agg #[.slice A0_0 l0_0.length c0_0, .slice A0_1 l0_1.length c0_1], .int .i64 a1] ?_; (with_reducible refine (spec_l4Ok.calls k _ _ l0_0 _ _ l0_1 a1 false _ ?side1 ?side2 ?side3 ?side4 A3.out).mono ?_); (case side1 => exact cS HR0_0 HB); (case side2 => exact HC0_0.out); (case side3 => exact cS HR0_1 HB); (case side4 => exact HC0_1.out); rintro e w73 ⟨rfl, hb⟩; refine ⟨_, rfl, ?_⟩; have n_ := aI (kB BK226 hb) (aI (kB BK227 hb) (sB HB hb)); clear BK226 BK227 HB; obtain ⟨BK226, BK227, HB⟩ := n_; (try clear hb); have hcz74_0 := cZ0 BK226; have hcz74_1 := cZ1 BK226; have hfz74_0 := fZ BK226 0; have hfz74_1 := fZ BK226 1) | ((with_reducible refine gate_callee (f := 75) rfl ?_); refine gL (some 15) Try.func75 #[.agg #[.slice A0_0 l0_0.length c0_0, .slice A0_1 l0_1.length c0_1]] ?_; (with_reducible refine (spec_l3Copy.calls _ _ l0_0 _ _ l0_1 t229 t232 _ ?side1 ?side2 ?side3 ?side4 A68.out).mono ?_); (case side1 => exact cS HR0_0 HB); (case side2 => exact HC0_0.out); (case side3 => exact cS HR0_1 HB); (case side4 => exact HC0_1.out); rintro e w75 ⟨v230, v233, rfl, ho0, ho1, hb⟩; refine ⟨_, rfl, ?_⟩; have n_ := aI (lR HB ho0) (aI (lR HB ho1) (aI (kB BK226 hb) (aI (kB BK227 hb) (sB HB hb)))); clear BK226 BK227 HB; obtain ⟨HO231, HO234, BK226, BK227, HB⟩ := n_; (try clear hb ho0 ho1); obtain ⟨Ao76, co76, eo76⟩ := Kd.R_slice HO231.out; subst eo76; have hcz77_0 := cZ0 BK227; have hcz77_1 := cZ1 BK227; have hfz77_0 := fZ BK227 0; have hfz77_1 := fZ BK227 1; obtain ⟨Ao78, co78, eo78⟩ := Kd.R_slice HO234.out; subst eo78))
 refine bodyPost_ret (results_cell_row rfl _ _ gb227 30 #[.slice Ao76 t229.length co76, .slice Ao78 t232.length co78] (0, 0) _ rfl (by (with_reducible repeat (first | apply bN | apply bD | apply bA)); refine blk_put (cs := #[.slice Ao76 t229.length co76, .slice none 0 0]) ?_ 1 _ rfl; (with_reducible repeat (first | apply bN | apply bD | apply bA)); refine blk_put (cs := #[.slice none 0 0, .slice none 0 0]) ?_ 0 _ rfl; (with_reducible repeat (first | apply bN | apply bD | apply bA)); exact BK227.out) Try.underlying30 rfl (by kernel_rfl)) rfl ?_
 exact ⟨_, _, eW, by (with_reducible repeat (first | apply Kd.R_alloc | apply Kd.R_drewN | apply Kd.R_drew)); exact Kd.R_mono (Kd.R_far (p := ⟨gb227, 1, none⟩) (Kd.R_far (p := ⟨gb227, 0, none⟩) (Kd.R_types HO231.out BK227.out (by decide)) (fun _ hk => hk.2) (.slice Ao76 t229.length co76)) (fun _ hk => hk.2) (.slice Ao78 t232.length co78)) (fun _ hk => trivial), by (with_reducible repeat (first | apply Kd.R_alloc | apply Kd.R_drewN | apply Kd.R_drew)); exact Kd.R_mono (Kd.R_far (p := ⟨gb227, 1, none⟩) (Kd.R_far (p := ⟨gb227, 0, none⟩) (Kd.R_types HO234.out BK227.out (by decide)) (fun _ hk => hk.2) (.slice Ao76 t229.length co76)) (fun _ hk => hk.2) (.slice Ao78 t232.length co78)) (fun _ hk => trivial), bB⟩

/-! ### impl_homed: function 71 -/
def impl_homed.f (l0_0 : List ByteArray) (l0_1 : List (S65)) (a1 : Int) : Option (Bool) := (impl_DiskOk.f l0_0 l0_1).bind fun t259 => (if t259 = true then ((impl_within.f a1 1 48).bind fun t260 => (if t260 = true then (some ((l0_0.length : Int) == (wrap64 ((wrap64 (2 * a1)) + 1)))) else (some false))) else (some false))
set_option maxHeartbeats 8000000 in
set_option maxRecDepth 100000 in
theorem impl_homed.calls (A0_0 : Option Addr) (c0_0 : Nat) (l0_0 : List ByteArray) (A0_1 : Option Addr) (c0_1 : Nat) (l0_1 : List (S65)) (a1 : Int) (r : Bool) (w : World) (hr0_0 : Kd.C Kd.string w A0_0 l0_0.length l0_0) (hc0_0 : l0_0.length ≤ c0_0) (hr0_1 : Kd.C k65 w A0_1 l0_1.length l0_1) (hc0_1 : l0_1.length ≤ c0_1) (h : impl_homed.f l0_0 l0_1 a1 = some r) :
  Calls Try.prog 71 #[.agg #[.slice A0_0 l0_0.length c0_0, .slice A0_1 l0_1.length c0_1], .int .i64 a1] w fun e w' => e = .returned (.bool r) ∧ Below w.heap.size w w' := by
 have hu30 := Try.underlying30
 have HR0_0 := aM hr0_0
 have HC0_0 := aM hc0_0
 clear hr0_0 hc0_0
 have HR0_1 := aM hr0_1
 have HC0_1 := aM hc0_1
 clear hr0_1 hc0_1
 have HB := aM (Below.refl w.heap.size w)
 unfold impl_homed.f at h
 have H := h
 clear h
 replace H := Option.bind_eq_some_iff.mp H
 obtain ⟨t259, A30, H⟩ := H
 try dsimp only at H
 have A3 := aM A30
 clear A30
 by_cases c4 : t259 = true
 ·subst c4
  rw [if_pos rfl] at H
  replace H := Option.bind_eq_some_iff.mp H
  obtain ⟨t260, A50, H⟩ := H
  try dsimp only at H
  have A5 := aM A50
  clear A50
  by_cases c6 : t260 = true
  ·subst c6
   rw [if_pos rfl] at H
   obtain rfl := Option.some.inj H
   go_enter Try.func71, Try.ntmps71
   go_wp2_with (first | ((with_reducible refine gate_dst (N := 2) rfl ?_); (try (refine gate_guard (by rfl) ?_; dsimp only)); refine box_event ?hg (N := 2) ?hd (cs := #[.slice A0_0 l0_0.length c0_0, .slice A0_1 l0_1.length c0_1]) (t := 30) ?hr ?_; (case hd => rfl); (case hg => rfl); (case hr => first | (go_simp; done) | (go_simp; rfl)); intro gb258 hg w7 hbox hb; have n_ := aI (sB HB hb) (aI (aM hbox) (aI (gE HB hg) (gE HB hg))); clear HB; obtain ⟨HB, BK258, GW258, GE258⟩ := n_; (try clear hb hbox hg); have hcz8_0 := cZ0 BK258; have hcz8_1 := cZ1 BK258; have hfz8_0 := fZ BK258 0; have hfz8_1 := fZ BK258 1) | ((with_reducible refine gate_callee (f := 18) rfl ?_); refine gL (some 6) Try.func18 #[.agg #[.slice A0_0 l0_0.length c0_0, .slice A0_1 l0_1.length c0_1]] ?_; (with_reducible refine (impl_DiskOk.calls _ _ l0_0 _ _ l0_1 true _ ?side1 ?side2 ?side3 ?side4 A3.out).mono ?_); (case side1 => exact cS HR0_0 HB); (case side2 => exact HC0_0.out); (case side3 => exact cS HR0_1 HB); (case side4 => exact HC0_1.out); rintro e w9 ⟨rfl, hb⟩; refine ⟨_, rfl, ?_⟩; have n_ := aI (kB BK258 hb) (sB HB hb); clear BK258 HB; obtain ⟨BK258, HB⟩ := n_; (try clear hb)) | (go_at_call 67; (with_reducible refine (impl_within.calls a1 1 48 true _ A5.out).mono ?_); rintro e w' ⟨rfl, ⟨nd, rfl⟩⟩; have hcz10_0 := cZ0 BK258; have hcz10_1 := cZ1 BK258; have hfz10_0 := fZ BK258 0; have hfz10_1 := fZ BK258 1))
   go_ret
   exact ⟨eW, bB⟩
  replace c6 := Bool.eq_false_iff.mpr c6
  subst c6
  rw [if_neg (show ¬ (false = true) by decide)] at H
  obtain rfl := Option.some.inj H
  go_enter Try.func71, Try.ntmps71
  go_wp2_with (first | ((with_reducible refine gate_dst (N := 2) rfl ?_); (try (refine gate_guard (by rfl) ?_; dsimp only)); refine box_event ?hg (N := 2) ?hd (cs := #[.slice A0_0 l0_0.length c0_0, .slice A0_1 l0_1.length c0_1]) (t := 30) ?hr ?_; (case hd => rfl); (case hg => rfl); (case hr => first | (go_simp; done) | (go_simp; rfl)); intro gb258 hg w11 hbox hb; have n_ := aI (sB HB hb) (aI (aM hbox) (aI (gE HB hg) (gE HB hg))); clear HB; obtain ⟨HB, BK258, GW258, GE258⟩ := n_; (try clear hb hbox hg); have hcz12_0 := cZ0 BK258; have hcz12_1 := cZ1 BK258; have hfz12_0 := fZ BK258 0; have hfz12_1 := fZ BK258 1) | ((with_reducible refine gate_callee (f := 18) rfl ?_); refine gL (some 6) Try.func18 #[.agg #[.slice A0_0 l0_0.length c0_0, .slice A0_1 l0_1.length c0_1]] ?_; (with_reducible refine (impl_DiskOk.calls _ _ l0_0 _ _ l0_1 true _ ?side1 ?side2 ?side3 ?side4 A3.out).mono ?_); (case side1 => exact cS HR0_0 HB); (case side2 => exact HC0_0.out); (case side3 => exact cS HR0_1 HB); (case side4 => exact HC0_1.out); rintro e w13 ⟨rfl, hb⟩; refine ⟨_, rfl, ?_⟩; have n_ := aI (kB BK258 hb) (sB HB hb); clear BK258 HB; obtain ⟨BK258, HB⟩ := n_; (try clear hb)) | (go_at_call 67; (with_reducible refine (impl_within.calls a1 1 48 false _ A5.out).mono ?_); rintro e w' ⟨rfl, ⟨nd, rfl⟩⟩))
  go_ret
  exact ⟨eW, bB⟩
 replace c4 := Bool.eq_false_iff.mpr c4
 subst c4
 rw [if_neg (show ¬ (false = true) by decide)] at H
 obtain rfl := Option.some.inj H
 go_enter Try.func71, Try.ntmps71
 go_wp2_with (first | ((with_reducible refine gate_dst (N := 2) rfl ?_); (try (refine gate_guard (by rfl) ?_; dsimp only)); refine box_event ?hg (N := 2) ?hd (cs := #[.slice A0_0 l0_0.length c0_0, .slice A0_1 l0_1.length c0_1]) (t := 30) ?hr ?_; (case hd => rfl); (case hg => rfl); (case hr => first | (go_simp; done) | (go_simp; rfl)); intro gb258 hg w14 hbox hb; have n_ := aI (sB HB hb) (aI (aM hbox) (aI (gE HB hg) (gE HB hg))); clear HB; obtain ⟨HB, BK258, GW258, GE258⟩ := n_; (try clear hb hbox hg); have hcz15_0 := cZ0 BK258; have hcz15_1 := cZ1 BK258; have hfz15_0 := fZ BK258 0; have hfz15_1 := fZ BK258 1) | ((with_reducible refine gate_callee (f := 18) rfl ?_); refine gL (some 6) Try.func18 #[.agg #[.slice A0_0 l0_0.length c0_0, .slice A0_1 l0_1.length c0_1]] ?_; (with_reducible refine (impl_DiskOk.calls _ _ l0_0 _ _ l0_1 false _ ?side1 ?side2 ?side3 ?side4 A3.out).mono ?_); (case side1 => exact cS HR0_0 HB); (case side2 => exact HC0_0.out); (case side3 => exact cS HR0_1 HB); (case side4 => exact HC0_1.out); rintro e w16 ⟨rfl, hb⟩; refine ⟨_, rfl, ?_⟩; have n_ := aI (kB BK258 hb) (sB HB hb); clear BK258 HB; obtain ⟨BK258, HB⟩ := n_; (try clear hb)))
 go_ret
 exact ⟨eW, bB⟩

/-! ### impl_TxOk: function 100 -/
mutual
def impl_TxOk.j0 : Nat → Int → List (S65) → Bool → Option (Bool)
 | 0, _, _, _ => none
 | k + 1, x0, x1, x15 => if x15 = true then (some false) else (impl_TxOk.l0 k x0 (-1) x1 (x1.length : Int) 0)
def impl_TxOk.l0 : Nat → Int → Int → List (S65) → Int → Int → Option (Bool)
 | 0, _, _, _, _, _ => none
 | k + 1, x0, x5, x16, x17, x18 => if x18 < x17 then (if 0 ≤ x18 then (if x18 < (x16.length : Int) then ((impl_within.f ((rd_T65 x16 x18).f0) (wrap64 (x5 + 1)) (wrap64 (x0 - 1))).bind fun t264 => (if t264 = true then ((impl_short.f ((rd_T65 x16 x18).f1)).bind fun t265 => (if t265 = true then (impl_TxOk.l0 k x0 ((rd_T65 x16 x18).f0) x16 x17 (wrap64 (x18 + 1))) else (some false))) else (some false))) else (none)) else (none)) else (some true)
end
def impl_TxOk.f (k : Nat) (a0 : Int) (l1 : List (S65)) : Option (Bool) := (impl_within.f a0 1 48).bind fun t261 => (if t261 = true then (impl_TxOk.j0 k a0 l1 ((l1.length : Int) == 0)) else (impl_TxOk.j0 k a0 l1 true))
theorem impl_TxOk.mono_l : ∀ k, (∀ y0 y1 y2, LeO (impl_TxOk.j0 k y0 y1 y2) (impl_TxOk.j0 (k + 1) y0 y1 y2)) ∧ (∀ y0 y1 y2 y3 y4, LeO (impl_TxOk.l0 k y0 y1 y2 y3 y4) (impl_TxOk.l0 (k + 1) y0 y1 y2 y3 y4))
 | 0 => ⟨fun _ _ _ r h => by simp [impl_TxOk.j0] at h, fun _ _ _ _ _ r h => by simp [impl_TxOk.l0] at h⟩
 | k + 1 => by
  obtain ⟨ih0, ih1⟩ := impl_TxOk.mono_l k
  refine ⟨?_, ?_⟩
  ·intro y0 y1 y2
   unfold impl_TxOk.j0
   exact mM
  ·intro y0 y1 y2 y3 y4
   unfold impl_TxOk.l0
   exact mM
theorem impl_TxOk.mono : ∀ a0 a1 k, LeO (impl_TxOk.f k a0 a1) (impl_TxOk.f (k + 1) a0 a1) := by
 intro a0 a1 k
 obtain ⟨ih0, ih1⟩ := impl_TxOk.mono_l k
 unfold impl_TxOk.f
 exact mM
set_option maxHeartbeats 8000000 in
set_option maxRecDepth 100000 in
theorem impl_TxOk.calls (k : Nat) (a0 : Int) (A1 : Option Addr) (c1 : Nat) (l1 : List (S65)) (r : Bool) (w : World) (hr1 : Kd.C k65 w A1 l1.length l1) (hc1 : l1.length ≤ c1) (h : impl_TxOk.f k a0 l1 = some r) :
  Calls Try.prog 100 #[.int .i64 a0, .slice A1 l1.length c1] w fun e w' => e = .returned (.bool r) ∧ Below w.heap.size w w' := by
 have hu65 := Try.underlying65
 have HR1 := aM hr1
 have HC1 := aM hc1
 clear hr1 hc1
 have HB := aM (Below.refl w.heap.size w)
 unfold impl_TxOk.f at h
 have H := h
 clear h
 have HC3 := aM H
 clear H
 go_enter Try.func100, Try.ntmps100
 go_upto_region 1 with (fail)
 go_cut [15] (fun v15 wc => ∃ (kq : Nat) (x15_2 : Bool), v15 = .bool x15_2 ∧ Aside0 (impl_TxOk.j0 kq a0 l1 x15_2 = some r) ∧ Aside0 (kq ≤ k) ∧ Aside0 (Below w.heap.size w wc))
 case first =>
  have H := HC3.out
  clear HC3
  replace H := Option.bind_eq_some_iff.mp H
  obtain ⟨t261, A40, H⟩ := H
  try dsimp only at H
  have A4 := aM A40
  clear A40
  by_cases c5 : t261 = true
  ·subst c5
   rw [if_pos rfl] at H
   have H' := aM H
   clear H
   go_wp2_with (first | ((with_reducible refine gate_callee (f := 67) rfl ?_); refine gL (some 9) Try.func67 #[.int .i64 a0, .int .i64 1, .int .i64 48] ?_; (with_reducible refine (impl_within.calls a0 1 48 true _ A4.out).mono ?_); rintro e w' ⟨rfl, ⟨nd, rfl⟩⟩; refine ⟨_, rfl, ?_⟩))
   go_meet
   case rel => exact ⟨_, (((l1.length : Int) == 0)), (by first | rfl | (simp; done) | (simp [*]; done) | (simp; exact (by intro l_; cases l_ <;> rfl : ∀ l_ : List UInt8, l_.isEmpty = !(l_ != [])) _)), H', ⟨by first | omega | exact Nat.le_refl _⟩, ⟨bB⟩⟩
  replace c5 := Bool.eq_false_iff.mpr c5
  subst c5
  rw [if_neg (show ¬ (false = true) by decide)] at H
  have H' := aM H
  clear H
  go_wp2_with (first | ((with_reducible refine gate_callee (f := 67) rfl ?_); refine gL (some 9) Try.func67 #[.int .i64 a0, .int .i64 1, .int .i64 48] ?_; (with_reducible refine (impl_within.calls a0 1 48 false _ A4.out).mono ?_); rintro e w' ⟨rfl, ⟨nd, rfl⟩⟩; refine ⟨_, rfl, ?_⟩))
  go_meet
  case rel => exact ⟨_, (true), (by first | rfl | (simp; done) | (simp [*]; done) | (simp; exact (by intro l_; cases l_ <;> rfl : ∀ l_ : List UInt8, l_.isEmpty = !(l_ != [])) _)), H', ⟨by first | omega | exact Nat.le_refl _⟩, ⟨bB⟩⟩
 case rest =>
  clear HC3
  try clear c1
  try clear p2
  try clear c5
  obtain ⟨kq, x15_2, rfl, HA, HJ2, HB⟩ := hcut
  cases kq with
  | zero => exact absurd HA.out (by simp [impl_TxOk.j0])
  | succ kj2 =>
   have H := HA.out
   clear HA
   simp only [impl_TxOk.j0] at H
   by_cases c6 : x15_2 = true
   ·subst c6
    rw [if_pos rfl] at H
    obtain rfl := Option.some.inj H
    go_wp2
    go_ret
    exact ⟨eW, bB⟩
   ·replace c6 := Bool.eq_false_iff.mpr c6
    subst c6
    rw [if_neg (show ¬ (false = true) by decide)] at H
    have H' := aM H
    clear H
    go_wp2
    go_loopg [5, 18] kj2 (fun kq v5 v18 w' => ∃ (x5_2 : Int) (x18_2 : Int), v5 = .int .i64 x5_2 ∧ v18 = .int .i64 x18_2 ∧ Aside0 (impl_TxOk.l0 kq a0 x5_2 l1 (l1.length : Int) x18_2 = some r) ∧ Aside0 (kq ≤ kj2) ∧ Aside0 (Below w.heap.size w w'))
    case atStart => exact ⟨((-1)), (0), (by first | rfl | (simp; done) | (simp [*]; done) | (simp; exact (by intro l_; cases l_ <;> rfl : ∀ l_ : List UInt8, l_.isEmpty = !(l_ != [])) _)), (by first | rfl | (simp; done) | (simp [*]; done) | (simp; exact (by intro l_; cases l_ <;> rfl : ∀ l_ : List UInt8, l_.isEmpty = !(l_ != [])) _)), H', ⟨Nat.le_refl _⟩, ⟨bB⟩⟩
    case round =>
     clear H'
     try clear c1
     try clear p2
     try clear c5
     try clear c6
     try clear p2
     obtain ⟨x5_2, x18_2, rfl, rfl, HA, HK2, HB⟩ := hrel
     cases gk with
     | zero => exact absurd HA.out (by simp [impl_TxOk.l0])
     | succ k2 =>
      have H := HA.out
      clear HA
      simp only [impl_TxOk.l0] at H
      by_cases c7 : x18_2 < (l1.length : Int)
      ·rw [if_pos c7] at H
       have c7b0 : decide (x18_2 < (l1.length : Int)) = true := decide_eq_true c7
       clear c7
       by_cases c8 : 0 ≤ x18_2
       ·rw [if_pos c8] at H
        have c8b0 : decide (0 ≤ x18_2) = true := decide_eq_true c8
        clear c8
        by_cases c9 : x18_2 < (l1.length : Int)
        ·rw [if_pos c9] at H
         have c9b0 : decide (x18_2 < (l1.length : Int)) = true := decide_eq_true c9
         clear c9
         replace H := Option.bind_eq_some_iff.mp H
         obtain ⟨t264, A100, H⟩ := H
         try dsimp only at H
         have A10 := aM A100
         clear A100
         by_cases c11 : t264 = true
         ·subst c11
          rw [if_pos rfl] at H
          replace H := Option.bind_eq_some_iff.mp H
          obtain ⟨t265, A120, H⟩ := H
          try dsimp only at H
          have A12 := aM A120
          clear A120
          by_cases c13 : t265 = true
          ·subst c13
           rw [if_pos rfl] at H
           have H' := aM H
           clear H
           have p262 : 0 ≤ (x18_2 : Int) := dT
           have q262 : x18_2 < (l1.length : Int) := dT
           obtain ⟨ad262, e262, hx262_0, hx262_1⟩ := at_T65 HR1.out x18_2 p262 q262
           cases e262
           replace hx262_0 := (HB.out.cell (World.block_lt_of_cell? w _ hx262_0)).trans hx262_0
           replace hx262_1 := (HB.out.cell (World.block_lt_of_cell? w _ hx262_1)).trans hx262_1
           replace p262 := eq_true p262
           replace q262 := eq_true q262
           go_wp2_with (first | ((with_reducible refine gate_dst (N := 7) rfl ?_); (try (refine gate_guard (by rfl) ?_; dsimp only)); refine box_event ?hg (N := 7) ?hd (cs := #[.int .i64 0, .string (⟨#[]⟩ : ByteArray)]) (t := 65) ?hr ?_; (case hd => rfl); (case hg => rfl); (case hr => first | (go_simp; done) | (go_simp; rfl)); intro gb263 hg w14 hbox hb; have n_ := aI (sB HB hb) (aI (aM hbox) (aI (gE HB hg) (gE HB hg))); clear HB; obtain ⟨HB, BK263, GW263, GE263⟩ := n_; (try clear hb hbox hg); have hcz15_0 := cZ0 BK263; have hcz15_1 := cZ1 BK263; have hfz15_0 := fZ BK263 0; have hfz15_1 := fZ BK263 1) | ((with_reducible refine gate_callee (f := 67) rfl ?_); refine gL (some 28) Try.func67 #[.int .i64 ((rd_T65 l1 x18_2).f0), .int .i64 (wrap64 (x5_2 + 1)), .int .i64 (wrap64 (a0 - 1))] ?_; (with_reducible refine (impl_within.calls ((rd_T65 l1 x18_2).f0) (wrap64 (x5_2 + 1)) (wrap64 (a0 - 1)) true _ A10.out).mono ?_); rintro e w' ⟨rfl, ⟨nd, rfl⟩⟩; refine ⟨_, rfl, ?_⟩) | (go_at_call 64; (with_reducible refine (impl_short.calls ((rd_T65 l1 x18_2).f1) true _ A12.out).mono ?_); rintro e w' ⟨rfl, ⟨nd, rfl⟩⟩))
           go_roundg k2
           case measure => have := HJ2.out; have := HK2.out; omega
           case rel => exact ⟨((rd_T65 l1 x18_2).f0), (wrap64 (x18_2 + 1)), (by first | rfl | (simp; done) | (simp [*]; done) | (simp; exact (by intro l_; cases l_ <;> rfl : ∀ l_ : List UInt8, l_.isEmpty = !(l_ != [])) _)), (by first | rfl | (simp; done) | (simp [*]; done) | (simp; exact (by intro l_; cases l_ <;> rfl : ∀ l_ : List UInt8, l_.isEmpty = !(l_ != [])) _)), H', ⟨by have := HJ2.out; have := HK2.out; omega⟩, ⟨bB⟩⟩
          ·replace c13 := Bool.eq_false_iff.mpr c13
           subst c13
           rw [if_neg (show ¬ (false = true) by decide)] at H
           obtain rfl := Option.some.inj H
           have p262 : 0 ≤ (x18_2 : Int) := dT
           have q262 : x18_2 < (l1.length : Int) := dT
           obtain ⟨ad262, e262, hx262_0, hx262_1⟩ := at_T65 HR1.out x18_2 p262 q262
           cases e262
           replace hx262_0 := (HB.out.cell (World.block_lt_of_cell? w _ hx262_0)).trans hx262_0
           replace hx262_1 := (HB.out.cell (World.block_lt_of_cell? w _ hx262_1)).trans hx262_1
           replace p262 := eq_true p262
           replace q262 := eq_true q262
           go_wp2_with (first | ((with_reducible refine gate_dst (N := 7) rfl ?_); (try (refine gate_guard (by rfl) ?_; dsimp only)); refine box_event ?hg (N := 7) ?hd (cs := #[.int .i64 0, .string (⟨#[]⟩ : ByteArray)]) (t := 65) ?hr ?_; (case hd => rfl); (case hg => rfl); (case hr => first | (go_simp; done) | (go_simp; rfl)); intro gb263 hg w16 hbox hb; have n_ := aI (sB HB hb) (aI (aM hbox) (aI (gE HB hg) (gE HB hg))); clear HB; obtain ⟨HB, BK263, GW263, GE263⟩ := n_; (try clear hb hbox hg); have hcz17_0 := cZ0 BK263; have hcz17_1 := cZ1 BK263; have hfz17_0 := fZ BK263 0; have hfz17_1 := fZ BK263 1) | ((with_reducible refine gate_callee (f := 67) rfl ?_); refine gL (some 28) Try.func67 #[.int .i64 ((rd_T65 l1 x18_2).f0), .int .i64 (wrap64 (x5_2 + 1)), .int .i64 (wrap64 (a0 - 1))] ?_; (with_reducible refine (impl_within.calls ((rd_T65 l1 x18_2).f0) (wrap64 (x5_2 + 1)) (wrap64 (a0 - 1)) true _ A10.out).mono ?_); rintro e w' ⟨rfl, ⟨nd, rfl⟩⟩; refine ⟨_, rfl, ?_⟩) | (go_at_call 64; (with_reducible refine (impl_short.calls ((rd_T65 l1 x18_2).f1) false _ A12.out).mono ?_); rintro e w' ⟨rfl, ⟨nd, rfl⟩⟩))
           go_ret
           exact ⟨eW, bB⟩
         ·replace c11 := Bool.eq_false_iff.mpr c11
          subst c11
          rw [if_neg (show ¬ (false = true) by decide)] at H
          obtain rfl := Option.some.inj H
          have p262 : 0 ≤ (x18_2 : Int) := dT
          have q262 : x18_2 < (l1.length : Int) := dT
          obtain ⟨ad262, e262, hx262_0, hx262_1⟩ := at_T65 HR1.out x18_2 p262 q262
          cases e262
          replace hx262_0 := (HB.out.cell (World.block_lt_of_cell? w _ hx262_0)).trans hx262_0
          replace hx262_1 := (HB.out.cell (World.block_lt_of_cell? w _ hx262_1)).trans hx262_1
          replace p262 := eq_true p262
          replace q262 := eq_true q262
          go_wp2_with (first | ((with_reducible refine gate_dst (N := 7) rfl ?_); (try (refine gate_guard (by rfl) ?_; dsimp only)); refine box_event ?hg (N := 7) ?hd (cs := #[.int .i64 0, .string (⟨#[]⟩ : ByteArray)]) (t := 65) ?hr ?_; (case hd => rfl); (case hg => rfl); (case hr => first | (go_simp; done) | (go_simp; rfl)); intro gb263 hg w18 hbox hb; have n_ := aI (sB HB hb) (aI (aM hbox) (aI (gE HB hg) (gE HB hg))); clear HB; obtain ⟨HB, BK263, GW263, GE263⟩ := n_; (try clear hb hbox hg); have hcz19_0 := cZ0 BK263; have hcz19_1 := cZ1 BK263; have hfz19_0 := fZ BK263 0; have hfz19_1 := fZ BK263 1) | ((with_reducible refine gate_callee (f := 67) rfl ?_); refine gL (some 28) Try.func67 #[.int .i64 ((rd_T65 l1 x18_2).f0), .int .i64 (wrap64 (x5_2 + 1)), .int .i64 (wrap64 (a0 - 1))] ?_; (with_reducible refine (impl_within.calls ((rd_T65 l1 x18_2).f0) (wrap64 (x5_2 + 1)) (wrap64 (a0 - 1)) false _ A10.out).mono ?_); rintro e w' ⟨rfl, ⟨nd, rfl⟩⟩; refine ⟨_, rfl, ?_⟩))
          go_ret
          exact ⟨eW, bB⟩
        ·rw [if_neg c9] at H
         exact absurd H (by simp)
       ·rw [if_neg c8] at H
        exact absurd H (by simp)
      ·rw [if_neg c7] at H
       have c7b0 : decide (x18_2 < (l1.length : Int)) = false := decide_eq_false c7
       clear c7
       obtain rfl := Option.some.inj H
       go_wp2
       go_ret
       exact ⟨eW, bB⟩

end Go.Proofs.Ytgmpdkefegofhaa.PFnRecovered
