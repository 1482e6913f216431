-- printed
import Derived.Test.YtgmpdkefegofhaaPFnAtomicx0
import Derived.Test.YtgmpdkefegofhaaPFnAtomicx7
import Derived.Test.YtgmpdkefegofhaaPFnAtomicx8
import Derived.Test.YtgmpdkefegofhaaPFnAtomicx9
import Derived.Test.YtgmpdkefegofhaaPFnAtomicx11
import Derived.Test.YtgmpdkefegofhaaPFnAtomicx12
namespace Go.Proofs.Ytgmpdkefegofhaa.PFnAtomic
open Go.RowKit Go.Proofs.YtgmpdkefegofhaaW.PrintWords Go.Proofs.YtgmpdkefegofhaaW.PrintLast Go.Proofs.YtgmpdkefegofhaaW.PrintMore Go.Proofs.YtgmpdkefegofhaaW.Cr
open Go.Proofs.YtgmpdkefegofhaaW.PrintWords.Kd (R_after R_alloc R_append R_append_rows_step R_append_step R_away R_base2 R_below R_drew R_drewN R_elderB R_keep R_lit R_lit_step R_lower R_mono R_new' R_newB R_slice)
attribute [local go_sem] max2_int min2_int max_two min_two max_three min_three max_four min_four
set_option maxHeartbeats 8000000
set_option maxRecDepth 100000
set_option linter.unusedVariables false
set_option linter.unusedSimpArgs false

mutual
def spec_Commit.l0 : Nat → Int → List (S65) → List (S92) → Int → Int → Int → ByteArray → Option ((List (S92)))
 | 0, _, _, _, _, _, _, _ => none
 | k + 1, x0, x1, x5, x7, Je, Jf, Jg => if x7 < (x1.length : Int) then (if 0 ≤ x7 then ((spec_l4Event.f (wrap64 (1 + x7)) ((rd_T65 x1 x7).f1)).bind fun JG => (if x5.length < 4398046511104 then (spec_Commit.l0 k x0 x1 (x5 ++ [(⟨JG.1, JG.2.1, JG.2.2⟩ : S92)]) (wrap64 (x7 + 1)) Je Jf Jg) else (none))) else (none)) else ((spec_HeadText.f k x1).bind fun JH => ((spec_l4Event.f 0 JH).bind fun JI => ((some (([(⟨Je, Jf, Jg⟩ : S92), (⟨JI.1, JI.2.1, JI.2.2⟩ : S92), (⟨Je, Jf, Jg⟩ : S92)] : List (S92)) : List (S92))).bind fun Js => (if x5.length + Js.length < 4398046511104 then (spec_Commit.l1 k x0 x1 (x5 ++ Js) 0 Je Jf Jg) else (none)))))
def spec_Commit.l1 : Nat → Int → List (S65) → List (S92) → Int → Int → Int → ByteArray → Option ((List (S92)))
 | 0, _, _, _, _, _, _, _ => none
 | k + 1, x0, x1, x5, x8, Je, Jf, Jg => if x8 < (x1.length : Int) then (if 0 ≤ x8 then ((spec_l4Event.f (wrap64 ((wrap64 (x0 + 1)) + ((rd_T65 x1 x8).f0))) ((rd_T65 x1 x8).f1)).bind fun JJ => (if x5.length < 4398046511104 then (spec_Commit.l1 k x0 x1 (x5 ++ [(⟨JJ.1, JJ.2.1, JJ.2.2⟩ : S92)]) (wrap64 (x8 + 1)) Je Jf Jg) else (none))) else (none)) else ((spec_l4Event.f 0 (⟨#[]⟩ : ByteArray)).bind fun JK => ((some (([(⟨Je, Jf, Jg⟩ : S92), (⟨JK.1, JK.2.1, JK.2.2⟩ : S92), (⟨Je, Jf, Jg⟩ : S92)] : List (S92)) : List (S92))).bind fun Jt => (if x5.length + Jt.length < 4398046511104 then (some (x5 ++ Jt)) else (none))))
end
def spec_Commit.f (k : Nat) (a0 : Int) (l1 : List (S65)) : Option ((List (S92))) := (some (([] : List (S92)) : List (S92))).bind fun Jw => ((spec_TxOk.f k a0 l1).bind fun JL => (if JL = true then (spec_Commit.l0 k a0 l1 Jw 0 1 0 (⟨#[]⟩ : ByteArray)) else (some Jw)))
theorem spec_Commit.mono_l : ∀ k, (∀ y0 y1 y2 y3 y4 y5 y6, LeO (spec_Commit.l0 k y0 y1 y2 y3 y4 y5 y6) (spec_Commit.l0 (k + 1) y0 y1 y2 y3 y4 y5 y6)) ∧ (∀ y0 y1 y2 y3 y4 y5 y6, LeO (spec_Commit.l1 k y0 y1 y2 y3 y4 y5 y6) (spec_Commit.l1 (k + 1) y0 y1 y2 y3 y4 y5 y6))
 | 0 => ⟨fun _ _ _ _ _ _ _ r h => by simp [spec_Commit.l0] at h, fun _ _ _ _ _ _ _ r h => by simp [spec_Commit.l1] at h⟩
 | k + 1 => by
  obtain ⟨ih0, ih1⟩ := spec_Commit.mono_l k;refine ⟨?_, ?_⟩
  ·intro y0 y1 y2 y3 y4 y5 y6
   unfold spec_Commit.l0;have m0_ := @spec_HeadText.mono;have m1_ := @spec_TxOk.mono;exact mM
  ·intro y0 y1 y2 y3 y4 y5 y6
   unfold spec_Commit.l1;have m0_ := @spec_HeadText.mono;have m1_ := @spec_TxOk.mono;exact mM
theorem spec_Commit.mono : ∀ a0 a1 k, LeO (spec_Commit.f k a0 a1) (spec_Commit.f (k + 1) a0 a1) := by
 intro a0 a1 k;obtain ⟨ih0, ih1⟩ := spec_Commit.mono_l k;unfold spec_Commit.f;have m0_ := @spec_HeadText.mono;have m1_ := @spec_TxOk.mono;exact mM
def spec_Commit.T9 : Bool × List (List Nat × List Nat) := (true, [([], []), ([], []), ([], []), ([2], [2]), ([3, 3], [3]), ([], []), ([1, 4, 5], [1, 4, 5]), ([0, 6, 4], [0, 6]), ([7, 7, 0, 1, 2, 3, 4, 5, 6, 7], [0, 7])])
def spec_Commit.B9 : List Nat := [0, 0, 0, 4, 12, 0, 62, 127, 255]
theorem spec_Commit.tab9 : rtab .any (opsOf Try.f54 9) = spec_Commit.T9 := by kernel_rfl
theorem spec_Commit.bits9 : waitsOk spec_Commit.T9.2 spec_Commit.B9 = true := by kernel_rfl
def spec_Commit.T13 : Bool × List (List Nat × List Nat) := (true, [([], []), ([], []), ([1], [1]), ([], []), ([], []), ([3, 4], [3, 4]), ([5], [5]), ([6], [6]), ([2, 7], [2, 7]), ([], []), ([], []), ([9, 10], [9, 10]), ([11], [11]), ([12], [12]), ([8, 13], [8, 13]), ([14], [14]), ([0, 15, 14], [0, 15]), ([16, 16, 0, 1, 2, 3, 4, 5, 6, 7, 8, 9, 10, 11, 12, 13, 14, 15, 16], [0, 16])])
def spec_Commit.B13 : List Nat := [0, 0, 2, 0, 0, 24, 56, 120, 254, 0, 0, 1536, 3584, 7680, 16382, 32766, 65535, 131071]
theorem spec_Commit.tab13 : rtab .any (opsOf Try.f54 13) = spec_Commit.T13 := by kernel_rfl
theorem spec_Commit.bits13 : waitsOk spec_Commit.T13.2 spec_Commit.B13 = true := by kernel_rfl
theorem spec_Commit.calls (k : Nat) (a0 : Int) (A1 : Option Addr) (c1 : Nat) (l1 : List (S65)) (r : List (S92)) (w : World) (hr1 : Kd.C k65 w A1 l1.length l1) (UR : l1.length ≤ c1) (h : spec_Commit.f k a0 l1 = some r) :
  Calls Try.prog 54 #[.int .i64 a0, .slice A1 l1.length c1] w fun e w' => ∃ US : Value, e = .returned (US) ∧ Kd.R k92 92 w' w.heap.size (fun _ => True) US r ∧ Below w.heap.size w w' := by
 have hu92 := Try.underlying92;have J8 := aM hr1;have UB := aM UR;clear hr1 UR;have HB := aM (Below.refl w.heap.size w);unfold spec_Commit.f at h;have H := h;clear h;obtain ⟨Jw, JM⟩ : ∃ y_ : List (S92), y_ = (([] : List (S92))) := ⟨_, rfl⟩;replace H : ((spec_TxOk.f k a0 l1).bind fun JL => (if JL = true then (spec_Commit.l0 k a0 l1 Jw 0 1 0 (⟨#[]⟩ : ByteArray)) else (some Jw))) = some r := bQ JM H;have JD := aM JM;clear JM;obtain ⟨JL, A3, H⟩ := oB H;try dsimp only at H
 by_cases c4 : JL = true
 ·subst c4
  rw [if_pos rfl] at H;have H' := aM H;clear H
  go_enter Try.func54, Try.ntmps54
  go_wp2_with (first | ((with_reducible refine gate_dst (N := 9) rfl ?_); refine R_lit k92 _ 92 ?hg (N := 9) ?hd (xs := ([] : List (S92))) (inner := []) (ok := fun _ => True) (okp := fun _ => True) ?hr ?hp (fun _ hk => hk) trivial (Below.refl _ _) (Nat.le_refl _) (by simp) ?_; (case hd => rfl); (case hg => rfl); (case hr => first | (go_simp; done) | (go_simp; rfl)); (case hp => exact (Reps.none _ _)); intro Ua w5 Ub hb hg_ hnew_; clear hg_ hnew_; (first | rw [← JD.out] at Ub | (simp only [Int.reduceToNat] at Ub; rw [← JD.out] at Ub)); have n_ := aI (lR HB Ub) (sB HB hb); clear HB; obtain ⟨Jh, HB⟩ := n_; (try clear hb Ub)) | ((with_reducible refine gate_callee (f := 102) rfl ?_); refine gL (some 12) Try.func102 #[.int .i64 a0, .slice A1 l1.length c1] ?_; (with_reducible refine (spec_TxOk.calls k a0 _ _ l1 true _ ?side1 ?side2 A3.out).mono ?_); (case side1 => exact cS J8 HB); (case side2 => exact UB.out); rintro e w' ⟨rfl, ⟨nd, rfl⟩⟩; refine ⟨_, rfl, ?_⟩; (try (rw [drewN_self w5]; generalize hq_ : World.drewN w5 _ = w5; have UT : Aside0 (Kd.R k92 92 w5 w.heap.size (fun _ => True) Ua Jw) := ⟨by rw [← hq_]; exact (rP Jh.out)⟩; have UU : Aside0 (Below w.heap.size w w5) := ⟨by rw [← hq_]; exact bB⟩; clear Jh HB hq_; have Jh := UT; have HB := UU; clear UT UU))) | ((with_reducible refine gate_dst (N := 6) rfl ?_); refine bE 6 #[.int .i64 0, .int .i64 0, .string (⟨#[]⟩ : ByteArray)] 92 ?_; intro Jb hg w7 hbox hb; have n_ := aI (aM (R_below (R_elderB (rP Jh.out) Jb (Nat.le_of_eq hg.symm)) hb)) (aI (sB HB hb) (aI (aM hbox) (aI (gE HB hg) (gE HB hg)))); clear Jh HB; obtain ⟨Jh, HB, Ja, UV, UW⟩ := n_; (try clear hb hbox hg); have UC := cZ0 Ja; have UD := cZ1 Ja; have UE : w7.cell? ⟨Jb, 2, none⟩ = some (.string (⟨#[]⟩ : ByteArray)) := (blk_cell Ja.out 2).trans rfl; have UF := fZ Ja 0; have UG := fZ Ja 1; have UH := fZ Ja 2))
  go_loopg [5, 7] k (fun kq v5 v7 w' => ∃ (Jn : List (S92)) (Ji : Int), v7 = .int .i64 Ji ∧ Aside0 (spec_Commit.l0 kq a0 l1 Jn Ji 1 0 (⟨#[]⟩ : ByteArray) = some r) ∧ Aside0 (kq ≤ k) ∧ Aside0 (Kd.R k92 92 w' w.heap.size (fun k_ => k_ ≠ Jb) v5 Jn) ∧ Aside0 (w'.heap[Jb]? = some (.cells #[.int .i64 1, .int .i64 0, .string (⟨#[]⟩ : ByteArray)] 92 (0, 0))) ∧ Aside0 (Below w.heap.size w w'))
  case atStart => exact ⟨(Jw), (0), eV, H', ⟨Nat.le_refl _⟩, ⟨rP (R_mono (fR Jb 2 (fR Jb 1 (fR Jb 0 (R_mono Jh.out (fun k_ hk => (⟨hk, hk.2⟩ : _ ∧ k_ ≠ Jb))) s2 (.int .i64 1)) s2 (.int .i64 0)) s2 (.string (⟨#[]⟩ : ByteArray))) (fun _ hk => hk.1.2))⟩, ⟨pU Ja⟩, ⟨bB⟩⟩
  case round =>
   clear H';obtain ⟨Jn, Ji, rfl, HA, HK1, Jc, Ja, HB⟩ := hrel
   cases gk with
   | zero => exact absurd HA.out (by simp [spec_Commit.l0])
   | succ k1 =>
    have H := HA.out;clear HA;simp only [spec_Commit.l0] at H
    by_cases c9 : Ji < (l1.length : Int)
    ·rw [if_pos c9] at H
     have UI := decide_eq_true c9;clear c9
     by_cases Uv : 0 ≤ Ji
     ·rw [if_pos Uv] at H
      have UX := decide_eq_true Uv;clear Uv;obtain ⟨⟨JN, JO, JP⟩, U0, H⟩ := oB H;try dsimp only at H
      by_cases Uw : Jn.length < 4398046511104
      ·rw [if_pos Uw] at H
       have Uc := aM Uw;clear Uw;obtain ⟨Ud, JQ⟩ : ∃ y_ : List (S92), y_ = (Jn ++ [(⟨JN, JO, JP⟩ : S92)]) := ⟨_, rfl⟩;replace H : (spec_Commit.l0 k1 a0 l1 Ud (wrap64 (Ji + 1)) 1 0 (⟨#[]⟩ : ByteArray)) = some r := bQ JQ H;have Ue := aM JQ;clear JQ;have H' := aM H;clear H;have J2 : 0 ≤ (Ji : Int) := dT;have J3 : Ji < (l1.length : Int) := dT;obtain ⟨UY, UJ, Ju, Jv⟩ := at_T65 J8.out Ji J2 J3;cases UJ
       replace Ju := (HB.out.cell (World.block_lt_of_cell? w _ Ju)).trans Ju;replace Jv := (HB.out.cell (World.block_lt_of_cell? w _ Jv)).trans Jv;replace J2 := eq_true J2;replace J3 := eq_true J3
       go_wp2_with (first | ((with_reducible refine gate_callee (f := 103) rfl ?_); refine gL (some 30) Try.func103 #[.int .i64 (wrap64 (1 + Ji)), .string ((rd_T65 l1 Ji).f1)] ?_; (with_reducible refine (spec_l4Event.calls (wrap64 (1 + Ji)) ((rd_T65 l1 Ji).f1) JN JO JP _ U0.out).mono ?_); rintro e Vb ⟨rfl, hb⟩; refine ⟨_, rfl, ?_⟩; have n_ := aI (rB Jc hb) (aI (kB Ja hb) (sB HB hb)); clear Jc Ja HB; obtain ⟨Jc, Ja, HB⟩ := n_; (try clear hb)) | ((with_reducible refine gate_builtin (b := .append) (xs := #[.tmp 22, .tmp 31]) rfl ?_); at_builtin; refine R_append k92 (w0 := w) w.heap.size rfl (.tmp 22) (.tmp 31) 54 92 (.agg #[(.int .i64 0), (.int .i64 0), (.string ⟨#[]⟩)]) 32 rfl Try.underlying54 info92 rfl (by decide) (by omega) u5 Jn (⟨JN, JO, JP⟩ : S92) [.int .i64 JN, .int .i64 JO, .string JP] (fun k_ => k_ ≠ Jb) (fun _ => False) rfl rfl ?aP (fun _ hk => hk.elim) ?aF ?aO ?aB ?aS ?aL ?_; (case aP => exact k92_mkM _ _ _ (⟨JN, JO, JP⟩ : S92)); (case aB => exact bB); (case aF => exact (fun k_ hk => Kd.freshB (g := Jb) (o := .cells #[.int .i64 1, .int .i64 0, .string (⟨#[]⟩ : ByteArray)] 92 (0, 0)) (kP Ja) k_ hk)); (case aO => exact (rP Jc.out)); (case aS => exact (zB HB)); (case aL => have := Uc.out; omega); intro U1 Vc ho hb hg hat; rw [← Ue.out] at ho; have n_ := aI (aM (blk_grown (g := Jb) (o := .cells #[.int .i64 1, .int .i64 0, .string (⟨#[]⟩ : ByteArray)] 92 (0, 0)) (kP Ja) hg (R_away Jc.out (fun _ hk => hk)))) (aI (aM (hb)) (aM (ho))); clear Ja HB Jc; obtain ⟨Ja, HB, Uf⟩ := n_; (try clear ho hb hg hat)))
       go_roundg k1
       case measure => have := HK1.out; omega
       case rel => exact ⟨(Ud), (wrap64 (Ji + 1)), eV, H', ⟨by have := HK1.out; omega⟩, ⟨rP Uf.out⟩, ⟨kP Ja⟩, ⟨bB⟩⟩
      ·rw [if_neg Uw] at H
       exact absurd H (by simp)
     ·rw [if_neg Uv] at H
      exact absurd H (by simp)
    ·rw [if_neg c9] at H
     have UI := decide_eq_false c9;clear c9;obtain ⟨JH, U2, H⟩ := oB H;try dsimp only at H
     obtain ⟨⟨Jx, Jy, Jz⟩, U3, H⟩ := oB H;try dsimp only at H
     obtain ⟨Js, JR⟩ : ∃ y_ : List (S92), y_ = (([(⟨1, 0, (⟨#[]⟩ : ByteArray)⟩ : S92), (⟨Jx, Jy, Jz⟩ : S92), (⟨1, 0, (⟨#[]⟩ : ByteArray)⟩ : S92)] : List (S92))) := ⟨_, rfl⟩;replace H : (if Jn.length + Js.length < 4398046511104 then (spec_Commit.l1 k1 a0 l1 (Jn ++ Js) 0 1 0 (⟨#[]⟩ : ByteArray)) else (none)) = some r := bQ JR H;have J0 := aM JR;clear JR
     by_cases Ux : Jn.length + Js.length < 4398046511104
     ·rw [if_pos Ux] at H
      have Ug := aM Ux;clear Ux;obtain ⟨Uh, JS⟩ : ∃ y_ : List (S92), y_ = (Jn ++ Js) := ⟨_, rfl⟩;replace H : (spec_Commit.l1 k1 a0 l1 Uh 0 1 0 (⟨#[]⟩ : ByteArray)) = some r := bQ JS H;have Ui := aM JS;clear JS;have H' := aM H;clear H;try go_wp2
      have n_ := aI (aM (R_drew Jc.out)) (aI (aM (blk_drew Ja.out)) (aM (below_drew1 HB.out)));clear Jc Ja HB;obtain ⟨Jc, Ja, HB⟩ := n_;refine start_ (n := 9) (S := fun w' => w'.cell? ⟨Jb, 0, none⟩ = some (.int .i64 1) ∧ w'.cell? ⟨Jb, 1, none⟩ = some (.int .i64 0) ∧ w'.cell? ⟨Jb, 2, none⟩ = some (.string (⟨#[]⟩ : ByteArray))) (ds := []) #[tF, tF, tF, tF, tF, tF, tF, tF, tF] (by kernel_rfl) rfl rfl ⟨(blk_cell Ja.out 0).trans rfl, (blk_cell Ja.out 1).trans rfl, (blk_cell Ja.out 2).trans rfl⟩ (fun hHeld => ?_); refine with_tabW spec_Commit.tab9 spec_Commit.bits9 (fun HT_ HW_ => ?_);generalize wr.drew = Vd at Jc Ja HB hHeld ⊢;refine pY 0 33 #[tT, tF, tF, tF, tF, tF, tF, tF, tF] ?_;refine pY 2 35 #[tT, tF, tT, tF, tF, tF, tF, tF, tF] ?_;refine take_ (i := 1) (N := some 34) (v := ?_) (a' := ?_) #[tT, tT, tT, tF, tF, tF, tF, tF, tF] rfl rfl (take_ofW HT_.out HW_.out (by kernel_rfl)) (fun _ _ _ h => h) (Or.inl ⟨by rfl, ?_⟩) hHeld ?_ ?_
      rotate_left
      ·rintro w' ⟨s0, s1, s2⟩
       go_simp
       (with_reducible rfl)
      rotate_left
      ·simp only [Act.put, List.setIfInBounds_toArray, List.set_cons_zero, List.set_cons_succ, i64_w, i32_w]
       rfl
      refine take_ (i := 5) (N := some 38) (v := ?_) (a' := ?_) #[tT, tT, tT, tF, tF, tT, tF, tF, tF] rfl rfl (take_ofW HT_.out HW_.out (by kernel_rfl)) (fun _ _ _ h => h) (Or.inl ⟨by rfl, ?_⟩) hHeld ?_ ?_
      rotate_left
      ·rintro w' ⟨s0, s1, s2⟩
       go_simp
       (with_reducible rfl)
      rotate_left
      ·simp only [Act.put, List.setIfInBounds_toArray, List.set_cons_zero, List.set_cons_succ, i64_w, i32_w]
       rfl
      refine one_ (i := 3) (N := some 36) #[tT, tT, tT, tT, tF, tT, tF, tF, tF] rfl rfl (one_of HT_.out (by kernel_rfl)) (by decide) (fun K hK => ?_);refine goes_ Try.func104 (by kernel_rfl) rfl #[.slice A1 l1.length c1] (by rfl) rfl rfl (by (try simp only [List.map_toArray, List.map_cons, List.map_nil]); first | done | rfl | (simp only [List.length_drop, List.length_take]; rfl)) ?_;(with_reducible refine (spec_HeadText.calls k1 _ _ l1 JH _ ?side1 ?side2 U2.out).mono ?_);(case side1 => exact cS J8 HB);(case side2 => exact UB.out);rintro e Ve ⟨rfl, hb⟩;refine ⟨_, rfl, ?_⟩;have n_ := aI (rB Jc hb) (aI (kB Ja hb) (sB HB hb));clear Jc Ja HB;obtain ⟨Jc, Ja, HB⟩ := n_;(try clear hb);(try clear hb2);(try clear hk);(try clear hi);refine hK.out _ _ ⟨(blk_cell Ja.out 0).trans rfl, (blk_cell Ja.out 1).trans rfl, (blk_cell Ja.out 2).trans rfl⟩ (fun hHeld => ?_);clear hK K;refine norm_ (a' := ?_) ?_ ?_
      rotate_left
      ·show Act.put _ (some 36) _ = _
       simp only [Act.put, List.setIfInBounds_toArray, List.set_cons_zero, List.set_cons_succ, i64_w, i32_w]
       rfl
      refine one_ (i := 4) (N := some 37) #[tT, tT, tT, tT, tT, tT, tF, tF, tF] rfl rfl (one_of HT_.out (by kernel_rfl)) (by decide) (fun K hK => ?_);refine goes_ Try.func103 (by kernel_rfl) rfl #[.int .i64 0, .string JH] (by rfl) rfl rfl (by (try simp only [List.map_toArray, List.map_cons, List.map_nil]); first | done | rfl | (simp only [List.length_drop, List.length_take]; rfl)) ?_;(with_reducible refine (spec_l4Event.calls 0 JH Jx Jy Jz _ U3.out).mono ?_);rintro e Vf ⟨rfl, hb⟩;refine ⟨_, rfl, ?_⟩;have n_ := aI (rB Jc hb) (aI (kB Ja hb) (sB HB hb));clear Jc Ja HB;obtain ⟨Jc, Ja, HB⟩ := n_;(try clear hb);(try clear hb2);(try clear hk);(try clear hi);refine hK.out _ _ ⟨(blk_cell Ja.out 0).trans rfl, (blk_cell Ja.out 1).trans rfl, (blk_cell Ja.out 2).trans rfl⟩ (fun hHeld => ?_);clear hK K;refine norm_ (a' := ?_) ?_ ?_
      rotate_left
      ·show Act.put _ (some 37) _ = _
       simp only [Act.put, List.setIfInBounds_toArray, List.set_cons_zero, List.set_cons_succ, i64_w, i32_w]
       rfl
      refine one_ (i := 6) (N := some 39) #[tT, tT, tT, tT, tT, tT, tT, tF, tF] rfl rfl (one_of HT_.out (by kernel_rfl)) (by decide) (fun K hK => ?_);refine R_lit_step k92 _ 92 ?hg (N := 39) ?hd (xs := ([(⟨1, 0, (⟨#[]⟩ : ByteArray)⟩ : S92), (⟨Jx, Jy, Jz⟩ : S92), (⟨1, 0, (⟨#[]⟩ : ByteArray)⟩ : S92)] : List (S92))) (inner := [.int .i64 1, .int .i64 0, .string (⟨#[]⟩ : ByteArray), .int .i64 Jx, .int .i64 Jy, .string Jz, .int .i64 1, .int .i64 0, .string (⟨#[]⟩ : ByteArray)]) (ok := fun _ => True) (okp := fun _ => True) ?hr ?hp (fun _ hk => hk) trivial (Below.refl _ _) (Nat.le_refl _) (by simp) ?_; (case hd => rfl); (case hg => rfl); (case hr => first | (go_simp; done) | (go_simp; rfl)); (case hp => exact (Reps.c3 (show Kd.M k92 _ _ _ (⟨1, 0, (⟨#[]⟩ : ByteArray)⟩ : S92) [.int .i64 1, .int .i64 0, .string (⟨#[]⟩ : ByteArray)] from (k92_mkM _ _ _ (⟨1, 0, (⟨#[]⟩ : ByteArray)⟩ : S92) )) (Reps.c3 (show Kd.M k92 _ _ _ (⟨Jx, Jy, Jz⟩ : S92) [.int .i64 Jx, .int .i64 Jy, .string Jz] from (k92_mkM _ _ _ (⟨Jx, Jy, Jz⟩ : S92) )) (Reps.c3 (show Kd.M k92 _ _ _ (⟨1, 0, (⟨#[]⟩ : ByteArray)⟩ : S92) [.int .i64 1, .int .i64 0, .string (⟨#[]⟩ : ByteArray)] from (k92_mkM _ _ _ (⟨1, 0, (⟨#[]⟩ : ByteArray)⟩ : S92) )) (Reps.none _ _)))));intro U4 Vg JE hb hg_ hnew_;clear hg_ hnew_;(first | rw [← J0.out] at JE | (simp only [Int.reduceToNat] at JE; rw [← J0.out] at JE));have n_ := aI (eR Jc JE hb) (aI (aM (R_lower (R_newB (R_new' JE (rL Jc)) (g := Jb) (o := .cells #[.int .i64 1, .int .i64 0, .string (⟨#[]⟩ : ByteArray)] 92 (0, 0)) (kP Ja)) (zB HB))) (aI (kB Ja hb) (sB HB hb)));clear Jc Ja HB;obtain ⟨Jc, Jq, Ja, HB⟩ := n_;clear hb JE;obtain ⟨UK, UL, Uj⟩ := R_slice Jq.out;(first | subst Uj | (injection Uj with f1_ f2_ f3_; have f4_ := f1_.symm; have f5_ := f3_.symm; clear f1_ f2_ f3_; subst f4_; subst f5_));refine hK.out _ _ ⟨(blk_cell Ja.out 0).trans rfl, (blk_cell Ja.out 1).trans rfl, (blk_cell Ja.out 2).trans rfl⟩ (fun hHeld => ?_);clear hK K;refine norm_ (a' := ?_) ?_ ?_
      rotate_left
      ·show Act.put _ (some 39) _ = _
       simp only [Act.put, List.setIfInBounds_toArray, List.set_cons_zero, List.set_cons_succ, i64_w, i32_w]
       rfl
      refine one_ (i := 7) (N := some 40) #[tT, tT, tT, tT, tT, tT, tT, tT, tF] rfl rfl (one_of HT_.out (by kernel_rfl)) (by decide) (fun K hK => ?_);refine R_append_rows_step k92 (w0 := w) w.heap.size (by rfl) (.tmp 33) (.tmp 39) 54 92 (.agg #[(.int .i64 0), (.int .i64 0), (.string ⟨#[]⟩)]) 32 rfl Try.underlying54 info92 rfl (by decide) (by omega) u5 Jn Js _ _ _ (fun k_ => some k_ ≠ (.slice UK Js.length UL : Value).ownBlock ∧ k_ ≠ Jb) (fun _ => False) rfl rfl ?aO ?aR (fun _ _ h => h) (fun _ h => h.elim) ?aF ?aB ?aS ?aL ?_;(case aR => exact cR Jq);(case aB => exact bB);(case aF => exact (fun k_ hk => ⟨Kd.fresh' (rL Jq) k_ hk, Kd.freshB (g := Jb) (o := .cells #[.int .i64 1, .int .i64 0, .string (⟨#[]⟩ : ByteArray)] 92 (0, 0)) (kP Ja) k_ hk⟩));(case aO => exact (rP (R_mono Jc.out (fun _ hk => ⟨hk.2, hk.1⟩))));(case aS => exact (zB HB));(case aL => have := Ug.out; omega);intro U5 Vh ho hb hg hat;rw [← Ui.out] at ho;have n_ := aI (aM (blk_grown (g := Jb) (o := .cells #[.int .i64 1, .int .i64 0, .string (⟨#[]⟩ : ByteArray)] 92 (0, 0)) (kP Ja) hg (R_away Jc.out (fun _ hk => hk.1)))) (aI (aM (R_after (ok := (fun k_ => k_ ≠ Jb)) (rP (R_mono Jq.out (fun _ hk => ⟨hk.2, hk.1.2⟩))) hg hat)) (aI (aM (hb)) (aM (ho))));clear Ja Jq HB Jc;obtain ⟨Ja, Jq, HB, Uk⟩ := n_;clear ho hb hg hat;refine hK.out _ _ ⟨(blk_cell Ja.out 0).trans rfl, (blk_cell Ja.out 1).trans rfl, (blk_cell Ja.out 2).trans rfl⟩ (fun hHeld => ?_);clear hK K;refine norm_ (a' := ?_) ?_ ?_
      rotate_left
      ·show Act.put _ (some 40) _ = _
       simp only [Act.put, List.setIfInBounds_toArray, List.set_cons_zero, List.set_cons_succ, i64_w, i32_w]
       rfl
      refine pY 8 5 #[tT, tT, tT, tT, tT, tT, tT, tT, tT] ?_;refine done_ (done_of HT_.out (by kernel_rfl)) ?_;try go_wp2
      go_loopg [5, 8] k1 (fun kq v5 v8 w' => ∃ (Jo : List (S92)) (Jd : Int), v8 = .int .i64 Jd ∧ Aside0 (spec_Commit.l1 kq a0 l1 Jo Jd 1 0 (⟨#[]⟩ : ByteArray) = some r) ∧ Aside0 (kq ≤ k1) ∧ Aside0 (Kd.R k92 92 w' w.heap.size (fun k_ => k_ ≠ Jb) v5 Jo) ∧ Aside0 (w'.heap[Jb]? = some (.cells #[.int .i64 1, .int .i64 0, .string (⟨#[]⟩ : ByteArray)] 92 (0, 0))) ∧ Aside0 (Below w.heap.size w w'))
      case atStart => exact ⟨(Uh), (0), eV, H', ⟨Nat.le_refl _⟩, ⟨rP (R_mono Uk.out s2)⟩, ⟨kP Ja⟩, ⟨bB⟩⟩
      case round =>
       clear H';obtain ⟨Jo, Jd, rfl, HA, HK2, Jc, Ja, HB⟩ := hrel
       cases gk with
       | zero => exact absurd HA.out (by simp [spec_Commit.l1])
       | succ k2 =>
        have H := HA.out;clear HA;simp only [spec_Commit.l1] at H
        by_cases J9 : Jd < (l1.length : Int)
        ·rw [if_pos J9] at H
         have Ul := decide_eq_true J9;clear J9
         by_cases Uy : 0 ≤ Jd
         ·rw [if_pos Uy] at H
          have UZ := decide_eq_true Uy;clear Uy;obtain ⟨⟨JT, JU, JV⟩, U6, H⟩ := oB H;try dsimp only at H
          by_cases Uz : Jo.length < 4398046511104
          ·rw [if_pos Uz] at H
           have Um := aM Uz;clear Uz;obtain ⟨Un, JW⟩ : ∃ y_ : List (S92), y_ = (Jo ++ [(⟨JT, JU, JV⟩ : S92)]) := ⟨_, rfl⟩;replace H : (spec_Commit.l1 k2 a0 l1 Un (wrap64 (Jd + 1)) 1 0 (⟨#[]⟩ : ByteArray)) = some r := bQ JW H;have Uo := aM JW;clear JW;have H' := aM H;clear H;try go_wp2
           have n_ := aI (aM (R_drew Jc.out)) (aI (aM (blk_drew Ja.out)) (aM (below_drew1 HB.out)));clear Jc Ja HB;obtain ⟨Jc, Ja, HB⟩ := n_;have J4 : 0 ≤ (Jd : Int) := dT;have J5 : Jd < (l1.length : Int) := dT;obtain ⟨Jp, UM, Jj, Jk⟩ := at_T65 J8.out Jd J4 J5;have hw667_1 := Jk;have hw667_0 := Jj;cases UM
           replace Jj := (HB.out.cell (World.block_lt_of_cell? w _ Jj)).trans Jj;replace Jk := (HB.out.cell (World.block_lt_of_cell? w _ Jk)).trans Jk;replace J4 := eq_true J4;replace J5 := eq_true J5;have J6 : 0 ≤ (Jd : Int) := dT;have J7 : Jd < (l1.length : Int) := dT;obtain ⟨Up, UN, Jl, Jm⟩ := at_T65 J8.out Jd J6 J7;have hw668_1 := Jm;have hw668_0 := Jl;obtain rfl : Jp = Up := (by injection UN);replace Jl := (HB.out.cell (World.block_lt_of_cell? w _ Jl)).trans Jl;replace Jm := (HB.out.cell (World.block_lt_of_cell? w _ Jm)).trans Jm;replace J6 := eq_true J6;replace J7 := eq_true J7;refine start_ (n := 18) (S := fun w' => w'.cell? (Jp.add ((Jd).toNat * 2)) = some (.int .i64 ((rd_T65 l1 Jd).f0)) ∧ w'.cell? ⟨(Jp.add ((Jd).toNat * 2)).block, (Jp.add ((Jd).toNat * 2)).off + 1, none⟩ = some (.string ((rd_T65 l1 Jd).f1)) ∧ w'.cell? (Jp.add ((Jd).toNat * 2)) = some (.int .i64 ((rd_T65 l1 Jd).f0)) ∧ w'.cell? ⟨(Jp.add ((Jd).toNat * 2)).block, (Jp.add ((Jd).toNat * 2)).off + 1, none⟩ = some (.string ((rd_T65 l1 Jd).f1))) (ds := []) #[tF, tF, tF, tF, tF, tF, tF, tF, tF, tF, tF, tF, tF, tF, tF, tF, tF, tF] (by kernel_rfl) rfl rfl ⟨((HB.out.cell (World.block_lt_of_cell? w _ hw667_0)).trans hw667_0), ((HB.out.cell (World.block_lt_of_cell? w _ hw667_1)).trans hw667_1), ((HB.out.cell (World.block_lt_of_cell? w _ hw668_0)).trans hw668_0), ((HB.out.cell (World.block_lt_of_cell? w _ hw668_1)).trans hw668_1)⟩ (fun hHeld => ?_); refine with_tabW spec_Commit.tab13 spec_Commit.bits13 (fun HT_ HW_ => ?_);generalize wr.drew = Vi at Jc Ja HB Jj Jk Jl Jm hHeld ⊢;refine pY 0 47 #[tT, tF, tF, tF, tF, tF, tF, tF, tF, tF, tF, tF, tF, tF, tF, tF, tF, tF] ?_;refine pY 1 48 #[tT, tT, tF, tF, tF, tF, tF, tF, tF, tF, tF, tF, tF, tF, tF, tF, tF, tF] ?_;refine pY 2 49 #[tT, tT, tT, tF, tF, tF, tF, tF, tF, tF, tF, tF, tF, tF, tF, tF, tF, tF] ?_;refine pY 3 50 #[tT, tT, tT, tT, tF, tF, tF, tF, tF, tF, tF, tF, tF, tF, tF, tF, tF, tF] ?_;refine pY 4 51 #[tT, tT, tT, tT, tT, tF, tF, tF, tF, tF, tF, tF, tF, tF, tF, tF, tF, tF] ?_;refine pY 5 52 #[tT, tT, tT, tT, tT, tT, tF, tF, tF, tF, tF, tF, tF, tF, tF, tF, tF, tF] ?_;refine pY 6 53 #[tT, tT, tT, tT, tT, tT, tT, tF, tF, tF, tF, tF, tF, tF, tF, tF, tF, tF] ?_;refine pY 9 56 #[tT, tT, tT, tT, tT, tT, tT, tF, tF, tT, tF, tF, tF, tF, tF, tF, tF, tF] ?_;refine pY 10 57 #[tT, tT, tT, tT, tT, tT, tT, tF, tF, tT, tT, tF, tF, tF, tF, tF, tF, tF] ?_;refine pY 11 58 #[tT, tT, tT, tT, tT, tT, tT, tF, tF, tT, tT, tT, tF, tF, tF, tF, tF, tF] ?_;refine pY 12 59 #[tT, tT, tT, tT, tT, tT, tT, tF, tF, tT, tT, tT, tT, tF, tF, tF, tF, tF] ?_;refine take_ (i := 7) (N := some 54) (v := ?_) (a' := ?_) #[tT, tT, tT, tT, tT, tT, tT, tT, tF, tT, tT, tT, tT, tF, tF, tF, tF, tF] rfl rfl (take_ofW HT_.out HW_.out (by kernel_rfl)) (fun _ _ _ h => h) (Or.inl ⟨by rfl, ?_⟩) hHeld ?_ ?_
           rotate_left
           ·rintro w' ⟨s0, s1, s2, s3⟩
            go_simp
            (with_reducible rfl)
           rotate_left
           ·simp only [Act.put, List.setIfInBounds_toArray, List.set_cons_zero, List.set_cons_succ, i64_w, i32_w]
            rfl
           refine pY 8 55 #[tT, tT, tT, tT, tT, tT, tT, tT, tT, tT, tT, tT, tT, tF, tF, tF, tF, tF] ?_;refine take_ (i := 13) (N := some 60) (v := ?_) (a' := ?_) #[tT, tT, tT, tT, tT, tT, tT, tT, tT, tT, tT, tT, tT, tT, tF, tF, tF, tF] rfl rfl (take_ofW HT_.out HW_.out (by kernel_rfl)) (fun _ _ _ h => h) (Or.inl ⟨by rfl, ?_⟩) hHeld ?_ ?_
           rotate_left
           ·rintro w' ⟨s0, s1, s2, s3⟩
            go_simp
            (with_reducible rfl)
           rotate_left
           ·simp only [Act.put, List.setIfInBounds_toArray, List.set_cons_zero, List.set_cons_succ, i64_w, i32_w]
            rfl
           refine one_ (i := 14) (N := some 61) #[tT, tT, tT, tT, tT, tT, tT, tT, tT, tT, tT, tT, tT, tT, tT, tF, tF, tF] rfl rfl (one_of HT_.out (by kernel_rfl)) (by decide) (fun K hK => ?_);refine goes_ Try.func103 (by kernel_rfl) rfl #[.int .i64 (wrap64 ((wrap64 (a0 + 1)) + ((rd_T65 l1 Jd).f0))), .string ((rd_T65 l1 Jd).f1)] (by rfl) rfl rfl (by (try simp only [List.map_toArray, List.map_cons, List.map_nil]); first | done | rfl | (simp only [List.length_drop, List.length_take]; rfl)) ?_;(with_reducible refine (spec_l4Event.calls (wrap64 ((wrap64 (a0 + 1)) + ((rd_T65 l1 Jd).f0))) ((rd_T65 l1 Jd).f1) JT JU JV _ U6.out).mono ?_);rintro e Vj ⟨rfl, hb⟩;refine ⟨_, rfl, ?_⟩;have n_ := aI (rB Jc hb) (aI (kB Ja hb) (sB HB hb));clear Jc Ja HB;obtain ⟨Jc, Ja, HB⟩ := n_;(try clear hb);(try clear hb2);(try clear hk);(try clear hi);refine hK.out _ _ ⟨((HB.out.cell (World.block_lt_of_cell? w _ hw667_0)).trans hw667_0), ((HB.out.cell (World.block_lt_of_cell? w _ hw667_1)).trans hw667_1), ((HB.out.cell (World.block_lt_of_cell? w _ hw668_0)).trans hw668_0), ((HB.out.cell (World.block_lt_of_cell? w _ hw668_1)).trans hw668_1)⟩ (fun hHeld => ?_);clear hK K;refine norm_ (a' := ?_) ?_ ?_
           rotate_left
           ·show Act.put _ (some 61) _ = _
            simp only [Act.put, List.setIfInBounds_toArray, List.set_cons_zero, List.set_cons_succ, i64_w, i32_w]
            rfl
           refine one_ (i := 15) (N := some 62) #[tT, tT, tT, tT, tT, tT, tT, tT, tT, tT, tT, tT, tT, tT, tT, tT, tF, tF] rfl rfl (one_of HT_.out (by kernel_rfl)) (by decide) (fun K hK => ?_);refine value_ (w1 := ?_) (v := ?_) (by rfl) rfl ?_ ?_
           rotate_left 2
           ·go_simp
            constructor
            ·rfl
            ·rfl
           refine hK.out _ _ ⟨(World.cell?_alloc_lt _ _ _ (World.block_lt_of_cell? _ _ (((HB.out.cell (World.block_lt_of_cell? w _ hw667_0)).trans hw667_0)))).trans (((HB.out.cell (World.block_lt_of_cell? w _ hw667_0)).trans hw667_0)), (World.cell?_alloc_lt _ _ _ (World.block_lt_of_cell? _ _ (((HB.out.cell (World.block_lt_of_cell? w _ hw667_1)).trans hw667_1)))).trans (((HB.out.cell (World.block_lt_of_cell? w _ hw667_1)).trans hw667_1)), (World.cell?_alloc_lt _ _ _ (World.block_lt_of_cell? _ _ (((HB.out.cell (World.block_lt_of_cell? w _ hw668_0)).trans hw668_0)))).trans (((HB.out.cell (World.block_lt_of_cell? w _ hw668_0)).trans hw668_0)), (World.cell?_alloc_lt _ _ _ (World.block_lt_of_cell? _ _ (((HB.out.cell (World.block_lt_of_cell? w _ hw668_1)).trans hw668_1)))).trans (((HB.out.cell (World.block_lt_of_cell? w _ hw668_1)).trans hw668_1))⟩ (fun hHeld => ?_);clear hK K;refine norm_ (a' := ?_) ?_ ?_
           rotate_left
           ·show Act.put _ (some 62) _ = _
            simp only [Act.put, List.setIfInBounds_toArray, List.set_cons_zero, List.set_cons_succ, i64_w, i32_w]
            rfl
           refine one_ (i := 16) (N := some 63) #[tT, tT, tT, tT, tT, tT, tT, tT, tT, tT, tT, tT, tT, tT, tT, tT, tT, tF] rfl rfl (one_of HT_.out (by kernel_rfl)) (by decide) (fun K hK => ?_);refine R_append_step k92 (w0 := w) w.heap.size (by rfl) (.tmp 47) (.tmp 62) 54 92 (.agg #[(.int .i64 0), (.int .i64 0), (.string ⟨#[]⟩)]) 32 rfl Try.underlying54 info92 rfl (by decide) (by omega) u5 Jo (⟨JT, JU, JV⟩ : S92) [.int .i64 JT, .int .i64 JU, .string JV] (fun k_ => k_ ≠ Jb) (fun _ => False) rfl rfl ?aP (fun _ hk => hk.elim) ?aF ?aO ?aB ?aS ?aL ?_;(case aP => exact k92_mkM _ _ _ (⟨JT, JU, JV⟩ : S92));(case aB => exact bB);(case aF => exact (fun k_ hk => Kd.freshB (g := Jb) (o := .cells #[.int .i64 1, .int .i64 0, .string (⟨#[]⟩ : ByteArray)] 92 (0, 0)) (kP Ja) k_ hk));(case aO => exact (rP Jc.out));(case aS => exact (zB HB));(case aL => have := Um.out; omega);intro U7 Vk ho hb hg hat;rw [← Uo.out] at ho;have n_ := aI (aM (blk_grown (g := Jb) (o := .cells #[.int .i64 1, .int .i64 0, .string (⟨#[]⟩ : ByteArray)] 92 (0, 0)) (kP Ja) hg (R_away Jc.out (fun _ hk => hk)))) (aI (aM (hb)) (aM (ho)));clear Ja HB Jc;obtain ⟨Ja, HB, Uq⟩ := n_;clear ho hb hg hat;refine hK.out _ _ ⟨((HB.out.cell (World.block_lt_of_cell? w _ hw667_0)).trans hw667_0), ((HB.out.cell (World.block_lt_of_cell? w _ hw667_1)).trans hw667_1), ((HB.out.cell (World.block_lt_of_cell? w _ hw668_0)).trans hw668_0), ((HB.out.cell (World.block_lt_of_cell? w _ hw668_1)).trans hw668_1)⟩ (fun hHeld => ?_);clear hK K;refine norm_ (a' := ?_) ?_ ?_
           rotate_left
           ·show Act.put _ (some 63) _ = _
            simp only [Act.put, List.setIfInBounds_toArray, List.set_cons_zero, List.set_cons_succ, i64_w, i32_w]
            rfl
           refine pY 17 5 #[tT, tT, tT, tT, tT, tT, tT, tT, tT, tT, tT, tT, tT, tT, tT, tT, tT, tT] ?_;refine done_ (done_of HT_.out (by kernel_rfl)) ?_;try go_wp2
           go_roundg k2
           case measure => have := HK1.out; have := HK2.out; omega
           case rel => exact ⟨(Un), (wrap64 (Jd + 1)), eV, H', ⟨by have := HK1.out; have := HK2.out; omega⟩, ⟨rP Uq.out⟩, ⟨kP Ja⟩, ⟨bB⟩⟩
          ·rw [if_neg Uz] at H
           exact absurd H (by simp)
         ·rw [if_neg Uy] at H
          exact absurd H (by simp)
        ·rw [if_neg J9] at H
         have Ul := decide_eq_false J9;clear J9;obtain ⟨⟨JA, JB, JC⟩, U8, H⟩ := oB H;try dsimp only at H
         obtain ⟨Jt, JX⟩ : ∃ y_ : List (S92), y_ = (([(⟨1, 0, (⟨#[]⟩ : ByteArray)⟩ : S92), (⟨JA, JB, JC⟩ : S92), (⟨1, 0, (⟨#[]⟩ : ByteArray)⟩ : S92)] : List (S92))) := ⟨_, rfl⟩;replace H : (if Jo.length + Jt.length < 4398046511104 then (some (Jo ++ Jt)) else (none)) = some r := bQ JX H;have J1 := aM JX;clear JX
         by_cases UA : Jo.length + Jt.length < 4398046511104
         ·rw [if_pos UA] at H
          have Ur := aM UA;clear UA;obtain ⟨UO, JY⟩ : ∃ y_ : List (S92), y_ = (Jo ++ Jt) := ⟨_, rfl⟩;replace H : (some UO) = some r := bQ JY H;have Us := aM JY;clear JY;obtain rfl := Option.some.inj H;try go_wp2
          have n_ := aI (aM (R_drew Jc.out)) (aI (aM (blk_drew Ja.out)) (aM (below_drew1 HB.out)));clear Jc Ja HB;obtain ⟨Jc, Ja, HB⟩ := n_;refine start_ (n := 7) (S := fun w' => w'.cell? ⟨Jb, 0, none⟩ = some (.int .i64 1) ∧ w'.cell? ⟨Jb, 1, none⟩ = some (.int .i64 0) ∧ w'.cell? ⟨Jb, 2, none⟩ = some (.string (⟨#[]⟩ : ByteArray))) (ds := []) #[tF, tF, tF, tF, tF, tF, tF] (by kernel_rfl) rfl rfl ⟨(blk_cell Ja.out 0).trans rfl, (blk_cell Ja.out 1).trans rfl, (blk_cell Ja.out 2).trans rfl⟩ (fun hHeld => ?_);generalize wr.drew = Vl at Jc Ja HB hHeld ⊢;refine pure_ (i := 0) (N := some 64) (v := ?_) (a' := ?_) #[tT, tF, tF, tF, tF, tF, tF] rfl rfl (by kernel_rfl) (fun _ _ _ h => h) (Or.inl ⟨by rfl, ?_⟩) ?_ ?_
          rotate_left
          ·intro w'
           go_simp
           (with_reducible rfl)
          rotate_left
          ·simp only [Act.put, List.setIfInBounds_toArray, List.set_cons_zero, List.set_cons_succ, i64_w, i32_w]
           rfl
          refine take_ (i := 1) (N := some 65) (v := ?_) (a' := ?_) #[tT, tT, tF, tF, tF, tF, tF] rfl rfl (by kernel_rfl) (fun _ _ _ h => h) (Or.inl ⟨by rfl, ?_⟩) hHeld ?_ ?_
          rotate_left
          ·rintro w' ⟨s0, s1, s2⟩
           go_simp
           (with_reducible rfl)
          rotate_left
          ·simp only [Act.put, List.setIfInBounds_toArray, List.set_cons_zero, List.set_cons_succ, i64_w, i32_w]
           rfl
          refine take_ (i := 3) (N := some 67) (v := ?_) (a' := ?_) #[tT, tT, tF, tT, tF, tF, tF] rfl rfl (by kernel_rfl) (fun _ _ _ h => h) (Or.inl ⟨by rfl, ?_⟩) hHeld ?_ ?_
          rotate_left
          ·rintro w' ⟨s0, s1, s2⟩
           go_simp
           (with_reducible rfl)
          rotate_left
          ·simp only [Act.put, List.setIfInBounds_toArray, List.set_cons_zero, List.set_cons_succ, i64_w, i32_w]
           rfl
          refine one_ (i := 2) (N := some 66) #[tT, tT, tT, tT, tF, tF, tF] rfl rfl (by kernel_rfl) (by decide) (fun K hK => ?_);refine goes_ Try.func103 (by kernel_rfl) rfl #[.int .i64 0, .string (⟨#[]⟩ : ByteArray)] (by rfl) rfl rfl (by (try simp only [List.map_toArray, List.map_cons, List.map_nil]); first | done | rfl | (simp only [List.length_drop, List.length_take]; rfl)) ?_;(with_reducible refine (spec_l4Event.calls 0 (⟨#[]⟩ : ByteArray) JA JB JC _ U8.out).mono ?_);rintro e Vm ⟨rfl, hb⟩;refine ⟨_, rfl, ?_⟩;have n_ := aI (rB Jc hb) (aI (kB Ja hb) (sB HB hb));clear Jc Ja HB;obtain ⟨Jc, Ja, HB⟩ := n_;(try clear hb);(try clear hb2);(try clear hk);(try clear hi);refine hK.out _ _ ⟨(blk_cell Ja.out 0).trans rfl, (blk_cell Ja.out 1).trans rfl, (blk_cell Ja.out 2).trans rfl⟩ (fun hHeld => ?_);clear hK K;refine norm_ (a' := ?_) ?_ ?_
          rotate_left
          ·show Act.put _ (some 66) _ = _
           simp only [Act.put, List.setIfInBounds_toArray, List.set_cons_zero, List.set_cons_succ, i64_w, i32_w]
           rfl
          refine one_ (i := 4) (N := some 68) #[tT, tT, tT, tT, tT, tF, tF] rfl rfl (by kernel_rfl) (by decide) (fun K hK => ?_);refine R_lit_step k92 _ 92 ?hg (N := 68) ?hd (xs := ([(⟨1, 0, (⟨#[]⟩ : ByteArray)⟩ : S92), (⟨JA, JB, JC⟩ : S92), (⟨1, 0, (⟨#[]⟩ : ByteArray)⟩ : S92)] : List (S92))) (inner := [.int .i64 1, .int .i64 0, .string (⟨#[]⟩ : ByteArray), .int .i64 JA, .int .i64 JB, .string JC, .int .i64 1, .int .i64 0, .string (⟨#[]⟩ : ByteArray)]) (ok := fun _ => True) (okp := fun _ => True) ?hr ?hp (fun _ hk => hk) trivial (Below.refl _ _) (Nat.le_refl _) (by simp) ?_; (case hd => rfl); (case hg => rfl); (case hr => first | (go_simp; done) | (go_simp; rfl)); (case hp => exact (Reps.c3 (show Kd.M k92 _ _ _ (⟨1, 0, (⟨#[]⟩ : ByteArray)⟩ : S92) [.int .i64 1, .int .i64 0, .string (⟨#[]⟩ : ByteArray)] from (k92_mkM _ _ _ (⟨1, 0, (⟨#[]⟩ : ByteArray)⟩ : S92) )) (Reps.c3 (show Kd.M k92 _ _ _ (⟨JA, JB, JC⟩ : S92) [.int .i64 JA, .int .i64 JB, .string JC] from (k92_mkM _ _ _ (⟨JA, JB, JC⟩ : S92) )) (Reps.c3 (show Kd.M k92 _ _ _ (⟨1, 0, (⟨#[]⟩ : ByteArray)⟩ : S92) [.int .i64 1, .int .i64 0, .string (⟨#[]⟩ : ByteArray)] from (k92_mkM _ _ _ (⟨1, 0, (⟨#[]⟩ : ByteArray)⟩ : S92) )) (Reps.none _ _)))));intro U9 Vn JF hb hg_ hnew_;clear hg_ hnew_;(first | rw [← J1.out] at JF | (simp only [Int.reduceToNat] at JF; rw [← J1.out] at JF));have n_ := aI (eR Jc JF hb) (aI (aM (R_lower (R_newB (R_new' JF (rL Jc)) (g := Jb) (o := .cells #[.int .i64 1, .int .i64 0, .string (⟨#[]⟩ : ByteArray)] 92 (0, 0)) (kP Ja)) (zB HB))) (aI (kB Ja hb) (sB HB hb)));clear Jc Ja HB;obtain ⟨Jc, Jr, Ja, HB⟩ := n_;clear hb JF;obtain ⟨UP, UQ, Ut⟩ := R_slice Jr.out;(first | subst Ut | (injection Ut with f1_ f2_ f3_; have f4_ := f1_.symm; have f5_ := f3_.symm; clear f1_ f2_ f3_; subst f4_; subst f5_));refine hK.out _ _ ⟨(blk_cell Ja.out 0).trans rfl, (blk_cell Ja.out 1).trans rfl, (blk_cell Ja.out 2).trans rfl⟩ (fun hHeld => ?_);clear hK K;refine norm_ (a' := ?_) ?_ ?_
          rotate_left
          ·show Act.put _ (some 68) _ = _
           simp only [Act.put, List.setIfInBounds_toArray, List.set_cons_zero, List.set_cons_succ, i64_w, i32_w]
           rfl
          refine one_ (i := 5) (N := some 69) #[tT, tT, tT, tT, tT, tT, tF] rfl rfl (by kernel_rfl) (by decide) (fun K hK => ?_);refine R_append_rows_step k92 (w0 := w) w.heap.size (by rfl) (.tmp 64) (.tmp 68) 54 92 (.agg #[(.int .i64 0), (.int .i64 0), (.string ⟨#[]⟩)]) 32 rfl Try.underlying54 info92 rfl (by decide) (by omega) u5 Jo Jt _ _ _ (fun k_ => some k_ ≠ (.slice UP Jt.length UQ : Value).ownBlock ∧ k_ ≠ Jb) (fun _ => False) rfl rfl ?aO ?aR (fun _ _ h => h) (fun _ h => h.elim) ?aF ?aB ?aS ?aL ?_;(case aR => exact cR Jr);(case aB => exact bB);(case aF => exact (fun k_ hk => ⟨Kd.fresh' (rL Jr) k_ hk, Kd.freshB (g := Jb) (o := .cells #[.int .i64 1, .int .i64 0, .string (⟨#[]⟩ : ByteArray)] 92 (0, 0)) (kP Ja) k_ hk⟩));(case aO => exact (rP (R_mono Jc.out (fun _ hk => ⟨hk.2, hk.1⟩))));(case aS => exact (zB HB));(case aL => have := Ur.out; omega);intro Va Vo ho hb hg hat;rw [← Us.out] at ho;have n_ := aI (aM (blk_grown (g := Jb) (o := .cells #[.int .i64 1, .int .i64 0, .string (⟨#[]⟩ : ByteArray)] 92 (0, 0)) (kP Ja) hg (R_away Jc.out (fun _ hk => hk.1)))) (aI (aM (R_after (ok := (fun k_ => k_ ≠ Jb)) (rP (R_mono Jr.out (fun _ hk => ⟨hk.2, hk.1.2⟩))) hg hat)) (aI (aM (hb)) (aM (ho))));clear Ja Jr HB Jc;obtain ⟨Ja, Jr, HB, Uu⟩ := n_;clear ho hb hg hat;refine hK.out _ _ ⟨(blk_cell Ja.out 0).trans rfl, (blk_cell Ja.out 1).trans rfl, (blk_cell Ja.out 2).trans rfl⟩ (fun hHeld => ?_);clear hK K;refine norm_ (a' := ?_) ?_ ?_
          rotate_left
          ·show Act.put _ (some 69) _ = _
           simp only [Act.put, List.setIfInBounds_toArray, List.set_cons_zero, List.set_cons_succ, i64_w, i32_w]
           rfl
          refine pure_ (i := 6) (N := some 4) (v := ?_) (a' := ?_) #[tT, tT, tT, tT, tT, tT, tT] rfl rfl (by kernel_rfl) (fun _ _ _ h => h) (Or.inl ⟨by rfl, ?_⟩) ?_ ?_
          rotate_left
          ·intro w'
           go_simp
           (with_reducible rfl)
          rotate_left
          ·simp only [Act.put, List.setIfInBounds_toArray, List.set_cons_zero, List.set_cons_succ, i64_w, i32_w]
           rfl
          refine done_ (by kernel_rfl) ?_;try go_wp2
          go_ret
          exact ⟨_, eW, by (with_reducible repeat (first | apply R_alloc | apply R_drewN | apply R_drew)); exact R_mono Uu.out sT, bB⟩
         ·rw [if_neg UA] at H
          exact absurd H (by simp)
     ·rw [if_neg Ux] at H
      exact absurd H (by simp)
 replace c4 := Bool.eq_false_iff.mpr c4;subst c4;rw [if_neg (show ¬ (false = true) by decide)] at H;obtain rfl := Option.some.inj H
 go_enter Try.func54, Try.ntmps54
 go_wp2_with (first | ((with_reducible refine gate_dst (N := 9) rfl ?_); refine R_lit k92 _ 92 ?hg (N := 9) ?hd (xs := ([] : List (S92))) (inner := []) (ok := fun _ => True) (okp := fun _ => True) ?hr ?hp (fun _ hk => hk) trivial (Below.refl _ _) (Nat.le_refl _) (by simp) ?_; (case hd => rfl); (case hg => rfl); (case hr => first | (go_simp; done) | (go_simp; rfl)); (case hp => exact (Reps.none _ _)); intro Ua Vp JZ hb hg_ hnew_; clear hg_ hnew_; (first | rw [← JD.out] at JZ | (simp only [Int.reduceToNat] at JZ; rw [← JD.out] at JZ)); have n_ := aI (lR HB JZ) (sB HB hb); clear HB; obtain ⟨Jh, HB⟩ := n_; (try clear hb JZ)) | ((with_reducible refine gate_callee (f := 102) rfl ?_); refine gL (some 12) Try.func102 #[.int .i64 a0, .slice A1 l1.length c1] ?_; (with_reducible refine (spec_TxOk.calls k a0 _ _ l1 false _ ?side1 ?side2 A3.out).mono ?_); (case side1 => exact cS J8 HB); (case side2 => exact UB.out); rintro e w' ⟨rfl, ⟨nd, rfl⟩⟩; refine ⟨_, rfl, ?_⟩))
 go_ret
 exact ⟨_, eW, by (with_reducible repeat (first | apply R_alloc | apply R_drewN | apply R_drew)); exact Jh.out, bB⟩

def spec_l4Tx.l0 : Nat → Int → List (S65) → Int → List Int → Int → Int → Option ((List (S65)) × Int × Int)
 | 0, _, _, _, _, _, _ => none
 | k + 1, x1, x5, x6, Jh, Jt, Ju => if x6 < x1 then ((spec_l1Once.f Jh Jt Ju 3).bind fun Jf => (if Jf.1 = true then ((spec_l3Data.f k Jh Jf.2.1 Jf.2.2).bind fun Jm => (if x5.length < 5864062014805 then (spec_l4Tx.l0 k x1 (x5 ++ [(⟨x6, Jm.1⟩ : S65)]) (wrap64 (x6 + 1)) Jh Jm.2.1 Jm.2.2) else (none))) else (if x6 = (wrap64 (x1 - 1)) then (if (x5.length : Int) = 0 then ((spec_l3Data.f k Jh Jf.2.1 Jf.2.2).bind fun Jn => (if x5.length < 5864062014805 then (spec_l4Tx.l0 k x1 (x5 ++ [(⟨x6, Jn.1⟩ : S65)]) (wrap64 (x6 + 1)) Jh Jn.2.1 Jn.2.2) else (none))) else (spec_l4Tx.l0 k x1 x5 (wrap64 (x6 + 1)) Jh Jf.2.1 Jf.2.2)) else (spec_l4Tx.l0 k x1 x5 (wrap64 (x6 + 1)) Jh Jf.2.1 Jf.2.2)))) else (some (x5, Jt, Ju))
def spec_l4Tx.f (k : Nat) (Jd : List Int) (Jk : Int) (Jl : Int) (a1 : Int) : Option ((List (S65)) × Int × Int) := spec_l4Tx.l0 k a1 (([] : List (S65))) 0 Jd Jk Jl
theorem spec_l4Tx.mono_l : ∀ k, (∀ y0 y1 y2 y3 y4 y5, LeO (spec_l4Tx.l0 k y0 y1 y2 y3 y4 y5) (spec_l4Tx.l0 (k + 1) y0 y1 y2 y3 y4 y5))
 | 0 => fun _ _ _ _ _ _ r h => by simp [spec_l4Tx.l0] at h
 | k + 1 => by
  have ih0 := spec_l4Tx.mono_l k
  ·intro y0 y1 y2 y3 y4 y5
   unfold spec_l4Tx.l0;have m0_ := @spec_l3Data.mono;exact mM
theorem spec_l4Tx.mono : ∀ a0 a1 a2 a3 k, LeO (spec_l4Tx.f k a0 a1 a2 a3) (spec_l4Tx.f (k + 1) a0 a1 a2 a3) := by
 intro a0 a1 a2 a3 k;have ih0 := spec_l4Tx.mono_l k;unfold spec_l4Tx.f;have m0_ := @spec_l3Data.mono;exact mM
theorem spec_l4Tx.calls (k : Nat) (g : Nat) (Jd : List Int) (Jk : Int) (Jl : Int) (a1 : Int) (r1 : List (S65)) (r2 : Int) (r3 : Int) (w0 w : World) (hI : IsS123 w0 w g Jd Jk Jl) (hB : Below w0.heap.size w0 w) (h : spec_l4Tx.f k Jd Jk Jl a1 = some (r1, r2, r3)) :
  Calls Try.prog 125 #[.pointer (some ⟨g, 0, none⟩), .int .i64 a1] w fun e w' => ∃ JY : Value, e = .returned (JY) ∧ Kd.R k65 65 w' w.heap.size (fun _ => True) JY r1 ∧ IsS123 w0 w' g Jd r2 r3 ∧ Below w0.heap.size w0 w' ∧ KeepBut w w' g none := by
 have hu65 := Try.underlying65;have HI0 := aM hI;have GEg_ := aM (IsS123.ge hI);have HK := aM (KeepBut.refl w g none);have HL := aM hB.size;clear hI;have HW0 := aM hB.size;have HB := aM hB;clear hB;unfold spec_l4Tx.f at h;have H := h;clear h;obtain ⟨JC, Jo⟩ : ∃ y_ : List (S65), y_ = (([] : List (S65))) := ⟨_, rfl⟩;replace H : (spec_l4Tx.l0 k a1 JC 0 Jd Jk Jl) = some (r1, r2, r3) := bQ Jo H;have Jv := aM Jo;clear Jo;have H' := aM H;clear H
 go_enter Try.func125, Try.ntmps125
 go_wp2_with (first | ((with_reducible refine gate_dst (N := 7) rfl ?_); (try (refine gate_guard (by rfl) ?_; dsimp only)); refine R_lit k65 _ 65 ?hg (N := 7) ?hd (xs := ([] : List (S65))) (inner := []) (ok := fun _ => True) (okp := fun _ => True) ?hr ?hp (fun _ hk => hk) trivial (Below.refl _ _) (Nat.le_refl _) (by simp) ?_; (case hd => rfl); (case hg => rfl); (case hr => first | (go_simp; done) | (go_simp; rfl)); (case hp => exact (Reps.none _ _)); intro J0 w3 JD hb hg_ hnew_; clear hg_ hnew_; (first | rw [← Jv.out] at JD | (simp only [Int.reduceToNat] at JD; rw [← Jv.out] at JD)); have n_ := aI (aM (R_lower JD (keep_size (w := w) (g := g) (row := none) (bK HK)))) (aI (aM (IsS123.below (IsS123.iI HI0) hb)) (aI (aM (KeepBut.trans (bK HK) (KeepBut.of_below hb g none) (.inl rfl))) (sB HB hb))); clear HI0 HK HB; obtain ⟨JE, HI0, HK, HB⟩ := n_; (try clear hb JD)))
 go_loopg [5, 6] k (fun kq v5 v6 w' => ∃ (Jg : List (S65)) (Je : Int) (Jb : Int) (Jc : Int), v6 = .int .i64 Je ∧ Aside0 (spec_l4Tx.l0 kq a1 Jg Je Jd Jb Jc = some (r1, r2, r3)) ∧ Aside0 (kq ≤ k) ∧ Aside0 (Kd.R k65 65 w' w.heap.size (fun _ => True) v5 Jg) ∧ Aside0 (IsS123 w0 w' g Jd Jb Jc) ∧ Aside0 (KeepBut w w' g none) ∧ Aside0 (Below w0.heap.size w0 w'))
 case atStart => exact ⟨(JC), (0), (Jk), (Jl), eV, H', ⟨Nat.le_refl _⟩, ⟨rP JE.out⟩, ⟨IsS123.iI HI0⟩, ⟨bK HK⟩, ⟨bB⟩⟩
 case round =>
  clear H';obtain ⟨Jg, Je, Jb, Jc, rfl, HA, HK1, Ja, HI0, HK, HB⟩ := hrel
  cases gk with
  | zero => exact absurd HA.out (by simp [spec_l4Tx.l0])
  | succ k1 =>
   have H := HA.out;clear HA;simp only [spec_l4Tx.l0] at H
   by_cases c5 : Je < a1
   ·rw [if_pos c5] at H
    have JR := decide_eq_true c5;clear c5;obtain ⟨⟨JS, Ji, Jj⟩, A6, H⟩ := oB H;try dsimp only at H
    by_cases c7 : JS = true
    ·subst c7
     rw [if_pos rfl] at H;obtain ⟨⟨Jp, Jx, Jy⟩, A8, H⟩ := oB H;try dsimp only at H
     by_cases c9 : Jg.length < 5864062014805
     ·rw [if_pos c9] at H
      have JT := aM c9;clear c9;obtain ⟨JF, Jq⟩ : ∃ y_ : List (S65), y_ = (Jg ++ [(⟨Je, Jp⟩ : S65)]) := ⟨_, rfl⟩;replace H : (spec_l4Tx.l0 k1 a1 JF (wrap64 (Je + 1)) Jd Jx Jy) = some (r1, r2, r3) := bQ Jq H;have JG := aM Jq;clear Jq;have H' := aM H;clear H
      go_wp2_with (first | ((with_reducible refine gate_callee (f := 120) rfl ?_); refine gL (some 14) Try.func120 #[.pointer (some ⟨g, 0, none⟩), .int .i64 3] ?_; (with_reducible refine (spec_l1Once.calls g Jd Jb Jc 3 true Ji Jj w0 _ ?side1 ?side2 A6.out).mono ?_); (case side1 => exact IsS123.iI HI0); (case side2 => exact bB); rintro e J6 ⟨rfl, hi, hb, hk⟩; refine ⟨_, rfl, ?_⟩; have n_ := aI (aM (R_mono (R_keep (IsS123.apart (show IsS123 w0 _ g Jd Jb Jc from IsS123.iI HI0) (rP Ja.out) (by decide)) hk (fun _ h => h.2)) (fun _ h => h.1))) (aI (aM (KeepBut.trans (bK HK) hk (.inl rfl))) (aI (aM (hb)) (aM (hi)))); clear Ja HK HB HI0; obtain ⟨Ja, HK, HB, HI0⟩ := n_; (try clear hb hk hi)) | ((with_reducible refine gate_callee (f := 96) rfl ?_); refine gL (some 29) Try.func96 #[.pointer (some ⟨g, 0, none⟩)] ?_; (with_reducible refine (spec_l3Data.calls k1 g Jd Ji Jj Jp Jx Jy w0 _ ?side1 ?side2 A8.out).mono ?_); (case side1 => exact IsS123.iI HI0); (case side2 => exact bB); rintro e J7 ⟨rfl, hi, hb, hk⟩; refine ⟨_, rfl, ?_⟩; have n_ := aI (aM (R_mono (R_keep (IsS123.apart (show IsS123 w0 _ g Jd Ji Jj from IsS123.iI HI0) (rP Ja.out) (by decide)) hk (fun _ h => h.2)) (fun _ h => h.1))) (aI (aM (KeepBut.trans (bK HK) hk (.inl rfl))) (aI (aM (hb)) (aM (hi)))); clear Ja HK HB HI0; obtain ⟨Ja, HK, HB, HI0⟩ := n_; (try clear hb hk hi)) | ((with_reducible refine gate_builtin (b := .append) (xs := #[.tmp 26, .tmp 31]) rfl ?_); (try (refine gate_guard (by rfl) ?_; dsimp only)); at_builtin; refine R_append k65 w.heap.size rfl (.tmp 26) (.tmp 31) 28 65 (.agg #[(.int .i64 0), (.string ⟨#[]⟩)]) 24 rfl Try.underlying28 info65 rfl (by decide) (by omega) u5 Jg (⟨Je, Jp⟩ : S65) [.int .i64 Je, .string Jp] (fun _ => True) (fun _ => False) rfl rfl ?aP (fun _ hk => hk.elim) ?aF ?aO (Below.refl _ _) ?aS ?aL ?_; (case aP => exact k65_mkM _ _ _ (⟨Je, Jp⟩ : S65)); (case aF => exact (fun _ _ => trivial)); (case aO => exact (rP Ja.out)); (case aS => exact (keep_size (w := w) (g := g) (row := none) (bK HK))); (case aL => have := JT.out; omega); intro J1 J8 ho hb hg hat; rw [← JG.out] at ho; have n_ := aI (aM (IsS123.grown (IsS123.iI HI0) hg (IsS123.own_ne HI0.out Ja.out (by decide)))) (aI (aM (below_weaken bB HL.out hb)) (aI (aM (KeepBut.trans (bK HK) (KeepBut.of_grown hg g) (R_base2 Ja.out))) (aM (ho)))); clear HI0 HB HK Ja; obtain ⟨HI0, HB, HK, JH⟩ := n_; (try clear ho hb hg hat)))
      go_roundg k1
      case measure => have := HK1.out; omega
      case rel => exact ⟨(JF), (wrap64 (Je + 1)), (Jx), (Jy), eV, H', ⟨by have := HK1.out; omega⟩, ⟨rP JH.out⟩, ⟨IsS123.iI HI0⟩, ⟨bK HK⟩, ⟨bB⟩⟩
     ·rw [if_neg c9] at H
      exact absurd H (by simp)
    ·replace c7 := Bool.eq_false_iff.mpr c7
     subst c7;rw [if_neg (show ¬ (false = true) by decide)] at H
     by_cases Jz : Je = (wrap64 (a1 - 1))
     ·rw [if_pos Jz] at H
      have JI := beq_iff_eq.mpr Jz;have JJ := bne_eq_false_iff_eq.mpr Jz;clear Jz
      by_cases Jw : (Jg.length : Int) = 0
      ·rw [if_pos Jw] at H
       have JK := beq_iff_eq.mpr Jw;have JL := bne_eq_false_iff_eq.mpr Jw;clear Jw;obtain ⟨⟨Jr, JA, JB⟩, J2, H⟩ := oB H;try dsimp only at H
       by_cases JQ : Jg.length < 5864062014805
       ·rw [if_pos JQ] at H
        have JM := aM JQ;clear JQ;obtain ⟨JN, Js⟩ : ∃ y_ : List (S65), y_ = (Jg ++ [(⟨Je, Jr⟩ : S65)]) := ⟨_, rfl⟩;replace H : (spec_l4Tx.l0 k1 a1 JN (wrap64 (Je + 1)) Jd JA JB) = some (r1, r2, r3) := bQ Js H;have JO := aM Js;clear Js;have H' := aM H;clear H
        go_wp2_with (first | ((with_reducible refine gate_callee (f := 120) rfl ?_); refine gL (some 14) Try.func120 #[.pointer (some ⟨g, 0, none⟩), .int .i64 3] ?_; (with_reducible refine (spec_l1Once.calls g Jd Jb Jc 3 false Ji Jj w0 _ ?side1 ?side2 A6.out).mono ?_); (case side1 => exact IsS123.iI HI0); (case side2 => exact bB); rintro e J9 ⟨rfl, hi, hb, hk⟩; refine ⟨_, rfl, ?_⟩; have n_ := aI (aM (R_mono (R_keep (IsS123.apart (show IsS123 w0 _ g Jd Jb Jc from IsS123.iI HI0) (rP Ja.out) (by decide)) hk (fun _ h => h.2)) (fun _ h => h.1))) (aI (aM (KeepBut.trans (bK HK) hk (.inl rfl))) (aI (aM (hb)) (aM (hi)))); clear Ja HK HB HI0; obtain ⟨Ja, HK, HB, HI0⟩ := n_; (try clear hb hk hi); obtain ⟨JU, JV, JW⟩ := R_slice Ja.out; subst JW) | ((with_reducible refine gate_callee (f := 96) rfl ?_); refine gL (some 29) Try.func96 #[.pointer (some ⟨g, 0, none⟩)] ?_; (with_reducible refine (spec_l3Data.calls k1 g Jd Ji Jj Jr JA JB w0 _ ?side1 ?side2 J2.out).mono ?_); (case side1 => exact IsS123.iI HI0); (case side2 => exact bB); rintro e Ua ⟨rfl, hi, hb, hk⟩; refine ⟨_, rfl, ?_⟩; have n_ := aI (aM (R_mono (R_keep (IsS123.apart (show IsS123 w0 _ g Jd Ji Jj from IsS123.iI HI0) (rP Ja.out) (by decide)) hk (fun _ h => h.2)) (fun _ h => h.1))) (aI (aM (KeepBut.trans (bK HK) hk (.inl rfl))) (aI (aM (hb)) (aM (hi)))); clear Ja HK HB HI0; obtain ⟨Ja, HK, HB, HI0⟩ := n_; (try clear hb hk hi)) | ((with_reducible refine gate_builtin (b := .append) (xs := #[.tmp 26, .tmp 31]) rfl ?_); (try (refine gate_guard (by rfl) ?_; dsimp only)); at_builtin; refine R_append k65 w.heap.size rfl (.tmp 26) (.tmp 31) 28 65 (.agg #[(.int .i64 0), (.string ⟨#[]⟩)]) 24 rfl Try.underlying28 info65 rfl (by decide) (by omega) (.slice JU Jg.length JV) Jg (⟨Je, Jr⟩ : S65) [.int .i64 Je, .string Jr] (fun _ => True) (fun _ => False) rfl rfl ?aP (fun _ hk => hk.elim) ?aF ?aO (Below.refl _ _) ?aS ?aL ?_; (case aP => exact k65_mkM _ _ _ (⟨Je, Jr⟩ : S65)); (case aF => exact (fun _ _ => trivial)); (case aO => exact (rP Ja.out)); (case aS => exact (keep_size (w := w) (g := g) (row := none) (bK HK))); (case aL => have := JM.out; omega); intro J3 Ub ho hb hg hat; rw [← JO.out] at ho; have n_ := aI (aM (IsS123.grown (IsS123.iI HI0) hg (IsS123.own_ne HI0.out Ja.out (by decide)))) (aI (aM (below_weaken bB HL.out hb)) (aI (aM (KeepBut.trans (bK HK) (KeepBut.of_grown hg g) (R_base2 Ja.out))) (aM (ho)))); clear HI0 HB HK Ja; obtain ⟨HI0, HB, HK, JP⟩ := n_; (try clear ho hb hg hat)))
        go_roundg k1
        case measure => have := HK1.out; omega
        case rel => exact ⟨(JN), (wrap64 (Je + 1)), (JA), (JB), eV, H', ⟨by have := HK1.out; omega⟩, ⟨rP JP.out⟩, ⟨IsS123.iI HI0⟩, ⟨bK HK⟩, ⟨bB⟩⟩
       ·rw [if_neg JQ] at H
        exact absurd H (by simp)
      ·rw [if_neg Jw] at H
       have JK := beq_eq_false_iff_ne.mpr Jw;have JL := bne_iff_ne.mpr Jw;have JZ : ¬ (Jg = []) := fun h_ => Jw (by rw [h_]; rfl)
       have H' := aM H;clear H
       go_wp2_with (first | ((with_reducible refine gate_callee (f := 120) rfl ?_); refine gL (some 14) Try.func120 #[.pointer (some ⟨g, 0, none⟩), .int .i64 3] ?_; (with_reducible refine (spec_l1Once.calls g Jd Jb Jc 3 false Ji Jj w0 _ ?side1 ?side2 A6.out).mono ?_); (case side1 => exact IsS123.iI HI0); (case side2 => exact bB); rintro e Uc ⟨rfl, hi, hb, hk⟩; refine ⟨_, rfl, ?_⟩; have n_ := aI (aM (R_mono (R_keep (IsS123.apart (show IsS123 w0 _ g Jd Jb Jc from IsS123.iI HI0) (rP Ja.out) (by decide)) hk (fun _ h => h.2)) (fun _ h => h.1))) (aI (aM (KeepBut.trans (bK HK) hk (.inl rfl))) (aI (aM (hb)) (aM (hi)))); clear Ja HK HB HI0; obtain ⟨Ja, HK, HB, HI0⟩ := n_; (try clear hb hk hi); obtain ⟨J4, J5, JX⟩ := R_slice Ja.out; subst JX))
       go_roundg k1
       case measure => have := HK1.out; omega
       case rel => exact ⟨(Jg), (wrap64 (Je + 1)), (Ji), (Jj), eV, H', ⟨by have := HK1.out; omega⟩, ⟨rP Ja.out⟩, ⟨IsS123.iI HI0⟩, ⟨bK HK⟩, ⟨bB⟩⟩
     ·rw [if_neg Jz] at H
      have JI := beq_eq_false_iff_ne.mpr Jz;have JJ := bne_iff_ne.mpr Jz;have H' := aM H;clear H
      go_wp2_with (first | ((with_reducible refine gate_callee (f := 120) rfl ?_); refine gL (some 14) Try.func120 #[.pointer (some ⟨g, 0, none⟩), .int .i64 3] ?_; (with_reducible refine (spec_l1Once.calls g Jd Jb Jc 3 false Ji Jj w0 _ ?side1 ?side2 A6.out).mono ?_); (case side1 => exact IsS123.iI HI0); (case side2 => exact bB); rintro e Ud ⟨rfl, hi, hb, hk⟩; refine ⟨_, rfl, ?_⟩; have n_ := aI (aM (R_mono (R_keep (IsS123.apart (show IsS123 w0 _ g Jd Jb Jc from IsS123.iI HI0) (rP Ja.out) (by decide)) hk (fun _ h => h.2)) (fun _ h => h.1))) (aI (aM (KeepBut.trans (bK HK) hk (.inl rfl))) (aI (aM (hb)) (aM (hi)))); clear Ja HK HB HI0; obtain ⟨Ja, HK, HB, HI0⟩ := n_; (try clear hb hk hi)))
      go_roundg k1
      case measure => have := HK1.out; omega
      case rel => exact ⟨(Jg), (wrap64 (Je + 1)), (Ji), (Jj), eV, H', ⟨by have := HK1.out; omega⟩, ⟨rP Ja.out⟩, ⟨IsS123.iI HI0⟩, ⟨bK HK⟩, ⟨bB⟩⟩
   ·rw [if_neg c5] at H
    have JR := decide_eq_false c5;clear c5;simp only [Option.some.injEq, Prod.mk.injEq] at H;obtain ⟨rfl, rfl, rfl⟩ := H
    go_wp2
    go_ret
    exact ⟨_, eW, by (with_reducible repeat (first | apply R_alloc | apply R_drewN | apply R_drew)); exact Ja.out, IsS123.iI HI0, bB, bK HK⟩

end Go.Proofs.Ytgmpdkefegofhaa.PFnAtomic
