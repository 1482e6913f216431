-- printed
import Derived.Test.YtgmpdkefegofhaaPFnAtomicx0
import Derived.Test.YtgmpdkefegofhaaPFnAtomicx2
import Derived.Test.YtgmpdkefegofhaaPFnAtomicx10
namespace Go.Proofs.Ytgmpdkefegofhaa.PFnAtomic
open Go.RowKit Go.Proofs.YtgmpdkefegofhaaW.PrintWords Go.Proofs.YtgmpdkefegofhaaW.PrintLast Go.Proofs.YtgmpdkefegofhaaW.PrintMore Go.Proofs.YtgmpdkefegofhaaW.Cr
open Go.Proofs.YtgmpdkefegofhaaW.PrintWords.Kd (Q_nil R_alloc R_below R_celln R_drew R_drewN R_far R_form R_lower R_mono R_ne R_new' R_nil R_putn R_reads' R_slice R_types)
attribute [local go_sem] max2_int min2_int max_two min_two max_three min_three max_four min_four
set_option maxHeartbeats 8000000
set_option maxRecDepth 100000
set_option linter.unusedVariables false
set_option linter.unusedSimpArgs false

def spec_Flush.l0 : Nat → Int → List ByteArray → List (S65) → List ByteArray → List (S65) → Option (List ByteArray × (List (S65)))
 | 0, _, _, _, _, _ => none
 | k + 1, x4, JU, Js, JF, JV => if x4 < (Js.length : Int) then (if 0 ≤ x4 then (if 0 ≤ ((rd_T65 Js x4).f0) then (if ((rd_T65 Js x4).f0) < (JF.length : Int) then (spec_Flush.l0 k (wrap64 (x4 + 1)) JU Js (JF.set (((rd_T65 Js x4).f0) : Int).toNat ((rd_T65 Js x4).f1)) JV) else (none)) else (none)) else (none)) else (some (JF, ([] : List (S65))))
def spec_Flush.f (k : Nat) (Jj : List ByteArray) (Jd : List (S65)) : Option (List ByteArray × (List (S65))) := (spec_l3Copy.f Jj Jd).bind fun JI => ((spec_DiskOk.f k Jj Jd).bind fun J0 => (if J0 = true then (spec_Flush.l0 k 0 Jj Jd JI.1 JI.2) else (some (JI.1, JI.2))))
theorem spec_Flush.mono_l : ∀ k, (∀ y0 y1 y2 y3 y4, LeO (spec_Flush.l0 k y0 y1 y2 y3 y4) (spec_Flush.l0 (k + 1) y0 y1 y2 y3 y4))
 | 0 => fun _ _ _ _ _ r h => by simp [spec_Flush.l0] at h
 | k + 1 => by
  have ih0 := spec_Flush.mono_l k
  ·intro y0 y1 y2 y3 y4
   unfold spec_Flush.l0;have m0_ := @spec_DiskOk.mono;exact mM
theorem spec_Flush.mono : ∀ a0 a1 k, LeO (spec_Flush.f k a0 a1) (spec_Flush.f (k + 1) a0 a1) := by
 intro a0 a1 k;have ih0 := spec_Flush.mono_l k;unfold spec_Flush.f;have m0_ := @spec_DiskOk.mono;exact mM
def spec_Flush.T7 : Bool × List (List Nat × List Nat) := (true, [([], []), ([0], [0]), ([], []), ([2], [2]), ([], []), ([3, 4], [3, 4]), ([5], [5]), ([6], [6]), ([], []), ([8], [8]), ([], []), ([9, 10], [9, 10]), ([11], [11]), ([12], [12]), ([1, 7, 0, 1, 2, 3, 4, 5, 6, 7, 8, 9, 10, 11, 12, 13], [1, 7]), ([14, 13, 0, 1, 2, 3, 4, 5, 6, 7, 8, 9, 10, 11, 12, 13], [13, 14])])
def spec_Flush.B7 : List Nat := [0, 1, 0, 4, 0, 28, 60, 124, 0, 256, 0, 1792, 3840, 7936, 16383, 32767]
theorem spec_Flush.tab7 : rtab .any (opsOf Try.f31 7) = spec_Flush.T7 := by kernel_rfl
theorem spec_Flush.bits7 : waitsOk spec_Flush.T7.2 spec_Flush.B7 = true := by kernel_rfl
theorem spec_Flush.calls (k : Nat) (JB : Option Addr) (JC : Nat) (Jj : List ByteArray) (JG : Option Addr) (JD : Nat) (Jd : List (S65)) (r1 : List ByteArray) (r2 : List (S65)) (w : World) (hr0_0 : Kd.C Kd.string w JB Jj.length Jj) (JY : Jj.length ≤ JC) (hr0_1 : Kd.C k65 w JG Jd.length Jd) (JZ : Jd.length ≤ JD) (h : spec_Flush.f k Jj Jd = some (r1, r2)) :
  Calls Try.prog 31 #[.agg #[.slice JB Jj.length JC, .slice JG Jd.length JD]] w fun e w' => ∃ UG UH : Value, e = .returned (.agg #[UG, UH]) ∧ Kd.R Kd.string 9 w' w.heap.size (fun _ => True) UG r1 ∧ Kd.R k65 65 w' w.heap.size (fun _ => True) UH r2 ∧ Below w.heap.size w w' := by
 have hu30 := Try.underlying30;have JJ := aM hr0_0;have JK := aM JY;clear hr0_0 JY;have JE := aM hr0_1;have JL := aM JZ;clear hr0_1 JZ;have HB := aM (Below.refl w.heap.size w);unfold spec_Flush.f at h;have H := h;clear h;obtain ⟨⟨Jz, Jr⟩, A2, H⟩ := oB H;try dsimp only at H
 obtain ⟨J0, A3, H⟩ := oB H;try dsimp only at H
 by_cases c4 : J0 = true
 ·subst c4
  rw [if_pos rfl] at H;have H' := aM H;clear H
  go_enter Try.func31, Try.ntmps31
  go_wp2_with (first | ((with_reducible refine gate_dst (N := 1) rfl ?_); refine bE 1 #[.slice JB Jj.length JC, .slice JG Jd.length JD] 30 ?_; intro JM hg w5 hbox hb; have n_ := aI (sB HB hb) (aI (aM hbox) (aI (gE HB hg) (gE HB hg))); clear HB; obtain ⟨HB, Ja, Ub, Uc⟩ := n_; (try clear hb hbox hg)) | ((with_reducible refine gate_dst (N := 2) rfl ?_); refine bE 2 #[.slice none 0 0, .slice none 0 0] 30 ?_; intro Ju hg w6 hbox hb; have n_ := aI (kB Ja hb) (aI (sB HB hb) (aI (aM hbox) (aI (gE HB hg) (aI (gE HB hg) (aI (nL Ja hg) (nG Ja hg)))))); clear Ja HB; obtain ⟨Ja, HB, Jb, Ud, Ue, Jl, Jm⟩ := n_; (try clear hb hbox hg); have U5 := Jl.out; have U6 := Jm.out; obtain ⟨_, _, _, _⟩ := z2 Ja) | ((with_reducible refine gate_callee (f := 75) rfl ?_); refine gL (some 6) Try.func75 #[.agg #[.slice JB Jj.length JC, .slice JG Jd.length JD]] ?_; (with_reducible refine (spec_l3Copy.calls _ _ Jj _ _ Jd Jz Jr _ ?side1 ?side2 ?side3 ?side4 A2.out).mono ?_); (case side1 => exact cS JJ HB); (case side2 => exact JK.out); (case side3 => exact cS JE HB); (case side4 => exact JL.out); rintro e w9 ⟨Uu, Uv, rfl, Uf, Ug, hb⟩; refine ⟨_, rfl, ?_⟩; have n_ := aI (lR HB Uf) (aI (lR HB Ug) (aI (kB Ja hb) (aI (kB Jb hb) (sB HB hb)))); clear Ja Jb HB; obtain ⟨Jh, Ji, Ja, Jb, HB⟩ := n_; (try clear hb Uf Ug)) | ((with_reducible refine gate_dst (N := 3) rfl ?_); refine bE 3 #[.slice none 0 0, .slice none 0 0] 30 ?_; intro Jk hg U9 hbox hb; have n_ := aI (rB Jh hb) (aI (rB Ji hb) (aI (kB Ja hb) (aI (kB Jb hb) (aI (sB HB hb) (aI (aM hbox) (aI (gE HB hg) (aI (gE HB hg) (aI (nL Ja hg) (aI (nG Ja hg) (aI (nL Jb hg) (nG Jb hg))))))))))); clear Jh Ji Ja Jb HB; obtain ⟨Jh, Ji, Ja, Jb, HB, Jf, Uh, Ui, Jn, Jo, Jp, Jt⟩ := n_; (try clear hb hbox hg); obtain ⟨JW, JX, Uw⟩ := R_slice Jh.out; subst Uw; have UI := Jo.out; have UJ := Jn.out; have UK := Jt.out; have UL := Jp.out; obtain ⟨_, _, _, _⟩ := z2 Jf; obtain ⟨JN, JO, Ux⟩ := R_slice Ji.out; subst Ux; obtain ⟨_, _, _, _⟩ := z2 Ja) | ((with_reducible refine gate_callee (f := 16) rfl ?_); refine gL (some 8) Try.func16 #[.agg #[.slice JB Jj.length JC, .slice JG Jd.length JD]] ?_; (with_reducible refine (spec_DiskOk.calls k _ _ Jj _ _ Jd true _ ?side1 ?side2 ?side3 ?side4 A3.out).mono ?_); (case side1 => exact cS JJ HB); (case side2 => exact JK.out); (case side3 => exact cS JE HB); (case side4 => exact JL.out); rintro e Va ⟨rfl, hb⟩; refine ⟨_, rfl, ?_⟩; have n_ := aI (aM (R_below (rP (R_mono (fR Jk 1 (fR Jk 0 (R_types Jh.out Jf.out (by decide)) s2 (.slice JW Jz.length JX)) s2 (.slice JN Jr.length JO)) s1)) hb)) (aI (aM (R_below (rP (R_mono (fR Jk 1 (fR Jk 0 (R_types Ji.out Jf.out (by decide)) s2 (.slice JW Jz.length JX)) s2 (.slice JN Jr.length JO)) s1)) hb)) (aI (kB Ja hb) (aI (kB Jb hb) (aI (aM (blk_below (g := Jk) (o := .cells #[.slice JW Jz.length JX, .slice JN Jr.length JO] 30 (0, 0)) (pU Jf) hb)) (sB HB hb))))); clear Jh Ji Ja Jb Jf HB; obtain ⟨Jh, Ji, Ja, Jb, Jf, HB⟩ := n_; (try clear hb)))
  go_loopg [4] k (fun kq v4 w' => ∃ (Jg : Int) (Je : List ByteArray) (JH : Value), v4 = .int .i64 Jg ∧ Aside0 (spec_Flush.l0 kq Jg Jj Jd Je Jr = some (r1, r2)) ∧ Aside0 (kq ≤ k) ∧ Aside0 (Kd.R Kd.string 9 w' w.heap.size (fun _ => True) JH Je) ∧ Aside0 (Kd.R k65 65 w' w.heap.size (fun _ => True) (.slice JN Jr.length JO) Jr) ∧ Aside0 (w'.heap[JM]? = some (.cells #[(.slice JB Jj.length JC), (.slice JG Jd.length JD)] 30 (0, 0))) ∧ Aside0 (w'.heap[Ju]? = some (.cells #[(.slice none 0 0), (.slice none 0 0)] 30 (0, 0))) ∧ Aside0 (w'.heap[Jk]? = some (.cells #[JH, (.slice JN Jr.length JO)] 30 (0, 0))) ∧ Aside0 (Below w.heap.size w w'))
  case atStart => exact ⟨(0), (Jz), (.slice JW Jz.length JX), eV, H', ⟨Nat.le_refl _⟩, ⟨rP Jh.out⟩, ⟨rP Ji.out⟩, ⟨kP Ja⟩, ⟨kP Jb⟩, ⟨kP Jf⟩, ⟨bB⟩⟩
  case round =>
   clear H';obtain ⟨Jg, Je, JH, rfl, HA, HK1, Jc, Jq, Ja, Jb, Jf, HB⟩ := hrel
   cases gk with
   | zero => exact absurd HA.out (by simp [spec_Flush.l0])
   | succ k1 =>
    have H := HA.out;clear HA;simp only [spec_Flush.l0] at H
    by_cases Ua : Jg < (Jd.length : Int)
    ·rw [if_pos Ua] at H
     have Uj := decide_eq_true Ua;clear Ua
     by_cases Ur : 0 ≤ Jg
     ·rw [if_pos Ur] at H
      have UM := decide_eq_true Ur;clear Ur
      by_cases Us : 0 ≤ ((rd_T65 Jd Jg).f0)
      ·rw [if_pos Us] at H
       have UN := decide_eq_true Us;clear Us
       by_cases Ut : ((rd_T65 Jd Jg).f0) < (Je.length : Int)
       ·rw [if_pos Ut] at H
        have UO := decide_eq_true Ut;clear Ut;obtain ⟨Uk, JT⟩ : ∃ y_ : List ByteArray, y_ = (Je.set (((rd_T65 Jd Jg).f0) : Int).toNat ((rd_T65 Jd Jg).f1)) := ⟨_, rfl⟩;replace H : (spec_Flush.l0 k1 (wrap64 (Jg + 1)) Jj Jd Uk Jr) = some (r1, r2) := bQ JT H;have Ul := aM JT;clear JT;have H' := aM H;clear H;have UP := Jl.out;have UQ := Jm.out;have UR := Jn.out;have US := Jo.out;obtain ⟨_, _, _, _⟩ := z2 Ja;try go_wp2
        have n_ := aI (aM (R_drew Jc.out)) (aI (aM (R_drew Jq.out)) (aI (aM (blk_drew Ja.out)) (aI (aM (blk_drew Jb.out)) (aI (aM (blk_drew Jf.out)) (aM (below_drew1 HB.out))))));clear Jc Jq Ja Jb Jf HB;obtain ⟨Jc, Jq, Ja, Jb, Jf, HB⟩ := n_;have J1 : 0 ≤ (Jg : Int) := dT;have J2 : Jg < (Jd.length : Int) := dT;obtain ⟨JA, Uy, Jv, Jw⟩ := at_T65 JE.out Jg J1 J2;have hw544_1 := Jw;have hw544_0 := Jv;cases Uy
        replace Jv := (HB.out.cell (World.block_lt_of_cell? w _ Jv)).trans Jv;replace Jw := (HB.out.cell (World.block_lt_of_cell? w _ Jw)).trans Jw;replace J1 := eq_true J1;replace J2 := eq_true J2;have J3 : 0 ≤ (Jg : Int) := dT;have J4 : Jg < (Jd.length : Int) := dT;obtain ⟨Um, Uz, Jx, Jy⟩ := at_T65 JE.out Jg J3 J4;have hw545_1 := Jy;have hw545_0 := Jx;obtain rfl : JA = Um := (by injection Uz);replace Jx := (HB.out.cell (World.block_lt_of_cell? w _ Jx)).trans Jx;replace Jy := (HB.out.cell (World.block_lt_of_cell? w _ Jy)).trans Jy;replace J3 := eq_true J3;replace J4 := eq_true J4;have UA : 0 ≤ (((rd_T65 Jd Jg).f0) : Int) := dT;have UB : (((rd_T65 Jd Jg).f0) : Int) < ((Je.length : Int) : Int) := dT;obtain ⟨J5, Un, Uo, Up, UC, U7, HG22⟩ := R_form Jc.out (by omega);(first | cases Uo | (injection Uo with ea_ en_ ec_; (first | subst ea_ | (injection ea_ with ea_; subst ea_)); subst ec_; clear en_));have U8 := aM Up;have Uq := aM HG22;clear Up UC HG22;obtain ⟨J6, J7⟩ := R_celln (⟨#[]⟩ : ByteArray) Jc.out (((rd_T65 Jd Jg).f0) : Int) UA UB;replace UA := eq_true UA;replace UB := eq_true UB;have HP27 := R_putn Jc.out (((rd_T65 Jd Jg).f0) : Int) ((rd_T65 Jd Jg).f1);rw [← Ul.out] at HP27;have HQ27 := aM HP27;clear HP27;refine start_ (n := 16) (S := fun w' => w'.cell? ⟨Jk, 0, none⟩ = some (.slice (some ⟨J5, 0, none⟩) Je.length Un) ∧ w'.cell? ⟨Jk, 1, none⟩ = some (.slice JN Jr.length JO) ∧ w'.cell? ⟨JM, 0, none⟩ = some (.slice JB Jj.length JC) ∧ w'.cell? ⟨JM, 1, none⟩ = some (.slice (some JA) Jd.length JD) ∧ w'.cell? (JA.add ((Jg).toNat * 2)) = some (.int .i64 ((rd_T65 Jd Jg).f0)) ∧ w'.cell? ⟨(JA.add ((Jg).toNat * 2)).block, (JA.add ((Jg).toNat * 2)).off + 1, none⟩ = some (.string ((rd_T65 Jd Jg).f1)) ∧ w'.cell? (JA.add ((Jg).toNat * 2)) = some (.int .i64 ((rd_T65 Jd Jg).f0)) ∧ w'.cell? ⟨(JA.add ((Jg).toNat * 2)).block, (JA.add ((Jg).toNat * 2)).off + 1, none⟩ = some (.string ((rd_T65 Jd Jg).f1))) (ds := [15]) #[tF, tF, tF, tF, tF, tF, tF, tF, tF, tF, tF, tF, tF, tF, tF, tF] (by kernel_rfl) rfl rfl ⟨(blk_cell Jf.out 0).trans rfl, (blk_cell Jf.out 1).trans rfl, (blk_cell Ja.out 0).trans rfl, (blk_cell Ja.out 1).trans rfl, ((HB.out.cell (World.block_lt_of_cell? w _ hw544_0)).trans hw544_0), ((HB.out.cell (World.block_lt_of_cell? w _ hw544_1)).trans hw544_1), ((HB.out.cell (World.block_lt_of_cell? w _ hw545_0)).trans hw545_0), ((HB.out.cell (World.block_lt_of_cell? w _ hw545_1)).trans hw545_1)⟩ (fun hHeld => ?_); refine with_tabW spec_Flush.tab7 spec_Flush.bits7 (fun HT_ HW_ => ?_);generalize wr.drew = Vb at Jc Jq Ja Jb Jf HB Uq HQ27 J7 J6 Jv Jw Jx Jy hHeld ⊢;refine pY 0 18 #[tT, tF, tF, tF, tF, tF, tF, tF, tF, tF, tF, tF, tF, tF, tF, tF] ?_;refine pY 2 20 #[tT, tF, tT, tF, tF, tF, tF, tF, tF, tF, tF, tF, tF, tF, tF, tF] ?_;refine pY 4 22 #[tT, tF, tT, tF, tT, tF, tF, tF, tF, tF, tF, tF, tF, tF, tF, tF] ?_;refine pY 8 26 #[tT, tF, tT, tF, tT, tF, tF, tF, tT, tF, tF, tF, tF, tF, tF, tF] ?_;refine pY 10 28 #[tT, tF, tT, tF, tT, tF, tF, tF, tT, tF, tT, tF, tF, tF, tF, tF] ?_;refine take_ (i := 1) (N := some 19) (v := ?_) (a' := ?_) #[tT, tT, tT, tF, tT, tF, tF, tF, tT, tF, tT, tF, tF, tF, tF, tF] rfl rfl (take_ofW HT_.out HW_.out (by kernel_rfl)) (fun _ _ _ h => h) (Or.inl ⟨by rfl, ?_⟩) hHeld ?_ ?_
        rotate_left
        ·rintro w' ⟨s0, s1, s2, s3, s4, s5, s6, s7⟩
         go_simp
         (with_reducible rfl)
        rotate_left
        ·simp only [Act.put, List.setIfInBounds_toArray, List.set_cons_zero, List.set_cons_succ, i64_w, i32_w]
         rfl
        refine take_ (i := 3) (N := some 21) (v := ?_) (a' := ?_) #[tT, tT, tT, tT, tT, tF, tF, tF, tT, tF, tT, tF, tF, tF, tF, tF] rfl rfl (take_ofW HT_.out HW_.out (by kernel_rfl)) (fun _ _ _ h => h) (Or.inl ⟨by rfl, ?_⟩) hHeld ?_ ?_
        rotate_left
        ·rintro w' ⟨s0, s1, s2, s3, s4, s5, s6, s7⟩
         go_simp
         (with_reducible rfl)
        rotate_left
        ·simp only [Act.put, List.setIfInBounds_toArray, List.set_cons_zero, List.set_cons_succ, i64_w, i32_w]
         rfl
        refine pY 5 23 #[tT, tT, tT, tT, tT, tT, tF, tF, tT, tF, tT, tF, tF, tF, tF, tF] ?_;refine pY 6 24 #[tT, tT, tT, tT, tT, tT, tT, tF, tT, tF, tT, tF, tF, tF, tF, tF] ?_;refine take_ (i := 7) (N := some 25) (v := ?_) (a' := ?_) #[tT, tT, tT, tT, tT, tT, tT, tT, tT, tF, tT, tF, tF, tF, tF, tF] rfl rfl (take_ofW HT_.out HW_.out (by kernel_rfl)) (fun _ _ _ h => h) (Or.inl ⟨by rfl, ?_⟩) hHeld ?_ ?_
        rotate_left
        ·rintro w' ⟨s0, s1, s2, s3, s4, s5, s6, s7⟩
         go_simp
         (with_reducible rfl)
        rotate_left
        ·simp only [Act.put, List.setIfInBounds_toArray, List.set_cons_zero, List.set_cons_succ, i64_w, i32_w]
         rfl
        refine take_ (i := 9) (N := some 27) (v := ?_) (a' := ?_) #[tT, tT, tT, tT, tT, tT, tT, tT, tT, tT, tT, tF, tF, tF, tF, tF] rfl rfl (take_ofW HT_.out HW_.out (by kernel_rfl)) (fun _ _ _ h => h) (Or.inl ⟨by rfl, ?_⟩) hHeld ?_ ?_
        rotate_left
        ·rintro w' ⟨s0, s1, s2, s3, s4, s5, s6, s7⟩
         go_simp
         (with_reducible rfl)
        rotate_left
        ·simp only [Act.put, List.setIfInBounds_toArray, List.set_cons_zero, List.set_cons_succ, i64_w, i32_w]
         rfl
        refine pY 11 29 #[tT, tT, tT, tT, tT, tT, tT, tT, tT, tT, tT, tT, tF, tF, tF, tF] ?_;refine pY 12 30 #[tT, tT, tT, tT, tT, tT, tT, tT, tT, tT, tT, tT, tT, tF, tF, tF] ?_;refine take_ (i := 13) (N := some 31) (v := ?_) (a' := ?_) #[tT, tT, tT, tT, tT, tT, tT, tT, tT, tT, tT, tT, tT, tT, tF, tF] rfl rfl (take_ofW HT_.out HW_.out (by kernel_rfl)) (fun _ _ _ h => h) (Or.inl ⟨by rfl, ?_⟩) hHeld ?_ ?_
        rotate_left
        ·rintro w' ⟨s0, s1, s2, s3, s4, s5, s6, s7⟩
         go_simp
         (with_reducible rfl)
        rotate_left
        ·simp only [Act.put, List.setIfInBounds_toArray, List.set_cons_zero, List.set_cons_succ, i64_w, i32_w]
         rfl
        refine pY 14 32 #[tT, tT, tT, tT, tT, tT, tT, tT, tT, tT, tT, tT, tT, tT, tT, tF] ?_;refine last_ (i := 15) (N := none) #[tT, tT, tT, tT, tT, tT, tT, tT, tT, tT, tT, tT, tT, tT, tT, tT] rfl rfl (one_of HT_.out (by kernel_rfl)) (by decide) (fun K hK => ?_);refine skip_ (w1 := ?_) (by rfl) rfl ?_ ?_
        rotate_left
        ·go_simp
         rfl
        refine hK.out _ _ ?_;clear hK K;refine done_ (done_of HT_.out (by kernel_rfl)) ?_;try go_wp2
        go_roundg k1
        case measure => have := HK1.out; omega
        case rel => exact ⟨(wrap64 (Jg + 1)), (Uk), (.slice (some ⟨J5, 0, none⟩) Je.length Un), eV, H', ⟨by have := HK1.out; omega⟩, ⟨rP HQ27.out⟩, ⟨rP (R_mono (R_far (p := ⟨J5, (((rd_T65 Jd Jg).f0) : Int).toNat, none⟩) (R_types Jq.out Uq.out (by decide)) s2 (.string ((rd_T65 Jd Jg).f1))) sT)⟩, ⟨by (with_reducible repeat (first | apply bN | apply bD | apply bA)); refine blk_far ?_ (by have h_ := R_ne Jc.out Ja.out (by decide); intro e_; exact h_ (by rw [e_]; rfl)) _; (with_reducible repeat (first | apply bN | apply bD | apply bA)); exact Ja.out⟩, ⟨by (with_reducible repeat (first | apply bN | apply bD | apply bA)); refine blk_far ?_ (by have h_ := R_ne Jc.out Jb.out (by decide); intro e_; exact h_ (by rw [e_]; rfl)) _; (with_reducible repeat (first | apply bN | apply bD | apply bA)); exact Jb.out⟩, ⟨by (with_reducible repeat (first | apply bN | apply bD | apply bA)); refine blk_far ?_ (by have h_ := R_ne Jc.out Jf.out (by decide); intro e_; exact h_ (by rw [e_]; rfl)) _; (with_reducible repeat (first | apply bN | apply bD | apply bA)); exact Jf.out⟩, ⟨bB⟩⟩
       ·rw [if_neg Ut] at H
        exact absurd H (by simp)
      ·rw [if_neg Us] at H
       exact absurd H (by simp)
     ·rw [if_neg Ur] at H
      exact absurd H (by simp)
    ·rw [if_neg Ua] at H
     have Uj := decide_eq_false Ua;clear Ua;simp only [Option.some.injEq, Prod.mk.injEq] at H;obtain ⟨rfl, rfl⟩ := H;have UT := Jl.out;have UU := Jm.out;have UV := Jn.out;have UW := Jo.out;obtain ⟨_, _, _, _⟩ := z2 Ja;have UX := Jt.out;have UY := Jp.out;obtain ⟨_, _, _, _⟩ := z2 Jf;obtain ⟨J8, J9, UD⟩ := R_slice Jc.out;subst UD;obtain ⟨_, _, _, _⟩ := z2 Jb
     go_wp2
     refine bodyPost_ret (results_cell_row rfl _ _ Ju 30 #[.slice J8 Je.length J9, .slice none 0 0] (0, 0) _ rfl (by (with_reducible repeat (first | apply bN | apply bD | apply bA)); refine blk_put (cs := #[.slice J8 Je.length J9, .slice none 0 0]) ?_ 1 _ rfl; (with_reducible repeat (first | apply bN | apply bD | apply bA)); refine blk_put (cs := #[.slice none 0 0, .slice none 0 0]) ?_ 0 _ rfl; (with_reducible repeat (first | apply bN | apply bD | apply bA)); refine blk_far ?_ Jp.out _; (with_reducible repeat (first | apply bN | apply bD | apply bA)); exact Jb.out) Try.underlying30 rfl (by kernel_rfl)) rfl ?_;exact ⟨_, _, eW, by (with_reducible repeat (first | apply R_alloc | apply R_drewN | apply R_drew)); exact R_mono (fR Ju 1 (fR Ju 0 (fR Jk 1 (R_types (R_types Jc.out Jf.out (by decide)) Jb.out (by decide)) (fun _ hk => hk.1.2) (.slice none 0 0)) s2 (.slice J8 Je.length J9)) s2 (.slice none 0 0)) sT, by first | exact R_nil _ _ _ _ _ | exact Kd.N_nil _ _ _ _ _ | exact Kd.V_nil _ _ _ _ _ | exact Q_nil _ _ _ _ _ | exact Kd.S_nil _ _ _ _ _, bB⟩
 replace c4 := Bool.eq_false_iff.mpr c4;subst c4;rw [if_neg (show ¬ (false = true) by decide)] at H;simp only [Option.some.injEq, Prod.mk.injEq] at H;obtain ⟨rfl, rfl⟩ := H
 go_enter Try.func31, Try.ntmps31
 go_wp2_with (first | ((with_reducible refine gate_dst (N := 1) rfl ?_); refine bE 1 #[.slice JB Jj.length JC, .slice JG Jd.length JD] 30 ?_; intro JM hg Vc hbox hb; have n_ := aI (sB HB hb) (aI (aM hbox) (aI (gE HB hg) (gE HB hg))); clear HB; obtain ⟨HB, Ja, Ub, Uc⟩ := n_; (try clear hb hbox hg)) | ((with_reducible refine gate_dst (N := 2) rfl ?_); refine bE 2 #[.slice none 0 0, .slice none 0 0] 30 ?_; intro Ju hg Vd hbox hb; have n_ := aI (kB Ja hb) (aI (sB HB hb) (aI (aM hbox) (aI (gE HB hg) (aI (gE HB hg) (aI (nL Ja hg) (nG Ja hg)))))); clear Ja HB; obtain ⟨Ja, HB, Jb, Ud, Ue, Jl, Jm⟩ := n_; (try clear hb hbox hg); have UZ := Jl.out; have U0 := Jm.out; obtain ⟨_, _, _, _⟩ := z2 Ja) | ((with_reducible refine gate_callee (f := 75) rfl ?_); refine gL (some 6) Try.func75 #[.agg #[.slice JB Jj.length JC, .slice JG Jd.length JD]] ?_; (with_reducible refine (spec_l3Copy.calls _ _ Jj _ _ Jd Jz Jr _ ?side1 ?side2 ?side3 ?side4 A2.out).mono ?_); (case side1 => exact cS JJ HB); (case side2 => exact JK.out); (case side3 => exact cS JE HB); (case side4 => exact JL.out); rintro e Ve ⟨Uu, Uv, rfl, Uf, Ug, hb⟩; refine ⟨_, rfl, ?_⟩; have n_ := aI (lR HB Uf) (aI (lR HB Ug) (aI (kB Ja hb) (aI (kB Jb hb) (sB HB hb)))); clear Ja Jb HB; obtain ⟨Jh, Ji, Ja, Jb, HB⟩ := n_; (try clear hb Uf Ug)) | ((with_reducible refine gate_dst (N := 3) rfl ?_); refine bE 3 #[.slice none 0 0, .slice none 0 0] 30 ?_; intro Jk hg Vf hbox hb; have n_ := aI (rB Jh hb) (aI (rB Ji hb) (aI (kB Ja hb) (aI (kB Jb hb) (aI (sB HB hb) (aI (aM hbox) (aI (gE HB hg) (aI (gE HB hg) (aI (nL Ja hg) (aI (nG Ja hg) (aI (nL Jb hg) (nG Jb hg))))))))))); clear Jh Ji Ja Jb HB; obtain ⟨Jh, Ji, Ja, Jb, HB, Jf, Uh, Ui, Jn, Jo, Jp, Jt⟩ := n_; (try clear hb hbox hg); obtain ⟨JP, JQ, UE⟩ := R_slice Jh.out; subst UE; have U1 := Jo.out; have U2 := Jn.out; have U3 := Jt.out; have U4 := Jp.out; obtain ⟨_, _, _, _⟩ := z2 Jf; obtain ⟨JR, JS, UF⟩ := R_slice Ji.out; subst UF; obtain ⟨_, _, _, _⟩ := z2 Ja) | ((with_reducible refine gate_callee (f := 16) rfl ?_); refine gL (some 8) Try.func16 #[.agg #[.slice JB Jj.length JC, .slice JG Jd.length JD]] ?_; (with_reducible refine (spec_DiskOk.calls k _ _ Jj _ _ Jd false _ ?side1 ?side2 ?side3 ?side4 A3.out).mono ?_); (case side1 => exact cS JJ HB); (case side2 => exact JK.out); (case side3 => exact cS JE HB); (case side4 => exact JL.out); rintro e Vg ⟨rfl, hb⟩; refine ⟨_, rfl, ?_⟩; have n_ := aI (aM (R_below (rP (R_mono (fR Jk 1 (fR Jk 0 (R_types Jh.out Jf.out (by decide)) s2 (.slice JP Jz.length JQ)) s2 (.slice JR Jr.length JS)) s1)) hb)) (aI (aM (R_below (rP (R_mono (fR Jk 1 (fR Jk 0 (R_types Ji.out Jf.out (by decide)) s2 (.slice JP Jz.length JQ)) s2 (.slice JR Jr.length JS)) s1)) hb)) (aI (kB Ja hb) (aI (kB Jb hb) (aI (aM (blk_below (g := Jk) (o := .cells #[.slice JP Jz.length JQ, .slice JR Jr.length JS] 30 (0, 0)) (pU Jf) hb)) (sB HB hb))))); clear Jh Ji Ja Jb Jf HB; obtain ⟨Jh, Ji, Ja, Jb, Jf, HB⟩ := n_; (try clear hb); obtain ⟨_, _, _, _⟩ := z2 Jf; obtain ⟨_, _, _, _⟩ := z2 Jb))
 refine bodyPost_ret (results_cell_row rfl _ _ Ju 30 #[.slice JP Jz.length JQ, .slice JR Jr.length JS] (0, 0) _ rfl (pU Jb) Try.underlying30 rfl (by kernel_rfl)) rfl ?_;exact ⟨_, _, eW, by (with_reducible repeat (first | apply R_alloc | apply R_drewN | apply R_drew)); exact R_mono (fR Ju 1 (fR Ju 0 (R_types Jh.out Jb.out (by decide)) s2 (.slice JP Jz.length JQ)) s2 (.slice JR Jr.length JS)) sT, by (with_reducible repeat (first | apply R_alloc | apply R_drewN | apply R_drew)); exact R_mono (fR Ju 1 (fR Ju 0 (R_types Ji.out Jb.out (by decide)) s2 (.slice JP Jz.length JQ)) s2 (.slice JR Jr.length JS)) sT, bB⟩

def spec_EventsDo.l0 : Nat → List (S92) → Int → List ByteArray → List (S65) → Option (List ByteArray × (List (S65)))
 | 0, _, _, _, _ => none
 | k + 1, x1, x6, Jx, Jy => if x6 < (x1.length : Int) then (if 0 ≤ x6 then (if ((rd_T92 x1 x6).f0) = 0 then ((spec_SectorWrite.f k Jx Jy ((rd_T92 x1 x6).f1) ((rd_T92 x1 x6).f2)).bind fun JX => (spec_EventsDo.l0 k x1 (wrap64 (x6 + 1)) JX.1 JX.2.1)) else (if ((rd_T92 x1 x6).f0) = 1 then ((spec_Flush.f k Jx Jy).bind fun JY => (spec_EventsDo.l0 k x1 (wrap64 (x6 + 1)) JY.1 JY.2)) else (spec_EventsDo.l0 k x1 (wrap64 (x6 + 1)) Jx Jy))) else (none)) else (some (Jx, Jy))
def spec_EventsDo.f (k : Nat) (JB : List ByteArray) (JC : List (S65)) (l1 : List (S92)) : Option (List ByteArray × (List (S65))) := (spec_l3Copy.f JB JC).bind fun JZ => (spec_EventsDo.l0 k l1 0 JZ.1 JZ.2)
theorem spec_EventsDo.mono_l : ∀ k, (∀ y0 y1 y2 y3, LeO (spec_EventsDo.l0 k y0 y1 y2 y3) (spec_EventsDo.l0 (k + 1) y0 y1 y2 y3))
 | 0 => fun _ _ _ _ r h => by simp [spec_EventsDo.l0] at h
 | k + 1 => by
  have ih0 := spec_EventsDo.mono_l k
  ·intro y0 y1 y2 y3
   unfold spec_EventsDo.l0;have m0_ := @spec_Flush.mono;have m1_ := @spec_SectorWrite.mono;exact mM
theorem spec_EventsDo.mono : ∀ a0 a1 a2 k, LeO (spec_EventsDo.f k a0 a1 a2) (spec_EventsDo.f (k + 1) a0 a1 a2) := by
 intro a0 a1 a2 k;have ih0 := spec_EventsDo.mono_l k;unfold spec_EventsDo.f;have m0_ := @spec_Flush.mono;have m1_ := @spec_SectorWrite.mono;exact mM
def spec_EventsDo.T7 : Bool × List (List Nat × List Nat) := (true, [([], []), ([], []), ([], []), ([1, 2], [1, 2]), ([3], [3]), ([4], [4]), ([], []), ([], []), ([6, 7], [6, 7]), ([8], [8]), ([9], [9]), ([0, 5, 10], [0, 5, 10]), ([11], [11]), ([12], [12]), ([12], [12]), ([13, 11, 0, 1, 2, 3, 4, 5, 6, 7, 8, 9, 10, 11, 12, 13], [13])])
def spec_EventsDo.B7 : List Nat := [0, 0, 0, 6, 14, 30, 0, 0, 192, 448, 960, 2047, 4095, 8191, 8191, 16383]
theorem spec_EventsDo.tab7 : rtab .any (opsOf Try.f39 7) = spec_EventsDo.T7 := by kernel_rfl
theorem spec_EventsDo.bits7 : waitsOk spec_EventsDo.T7.2 spec_EventsDo.B7 = true := by kernel_rfl
theorem spec_EventsDo.calls (k : Nat) (JK : Option Addr) (JL : Nat) (JB : List ByteArray) (JM : Option Addr) (JN : Nat) (JC : List (S65)) (A1 : Option Addr) (c1 : Nat) (l1 : List (S92)) (r1 : List ByteArray) (r2 : List (S65)) (w : World) (hr0_0 : Kd.C Kd.string w JK JB.length JB) (J0 : JB.length ≤ JL) (hr0_1 : Kd.C k65 w JM JC.length JC) (J1 : JC.length ≤ JN) (hr1 : Kd.C k92 w A1 l1.length l1) (U4 : l1.length ≤ c1) (h : spec_EventsDo.f k JB JC l1 = some (r1, r2)) :
  Calls Try.prog 39 #[.agg #[.slice JK JB.length JL, .slice JM JC.length JN], .slice A1 l1.length c1] w fun e w' => ∃ U5 U6 : Value, e = .returned (.agg #[U5, U6]) ∧ Kd.R Kd.string 9 w' w.heap.size (fun _ => True) U5 r1 ∧ Kd.R k65 65 w' w.heap.size (fun _ => True) U6 r2 ∧ Below w.heap.size w w' := by
 have hu30 := Try.underlying30;have Ux := aM hr0_0;have Uy := aM J0;clear hr0_0 J0;have Uz := aM hr0_1;have UA := aM J1;clear hr0_1 J1;have UB := aM hr1;have VD := aM U4;clear hr1 U4;have HB := aM (Below.refl w.heap.size w);unfold spec_EventsDo.f at h;have H := h;clear h;obtain ⟨⟨JO, JP⟩, A3, H⟩ := oB H;try dsimp only at H
 have H' := aM H;clear H
 go_enter Try.func39, Try.ntmps39
 go_wp2_with (first | ((with_reducible refine gate_dst (N := 2) rfl ?_); refine bE 2 #[.slice JK JB.length JL, .slice JM JC.length JN] 30 ?_; intro UC hg w4 hbox hb; have n_ := aI (sB HB hb) (aI (aM hbox) (aI (gE HB hg) (gE HB hg))); clear HB; obtain ⟨HB, Jg, U7, U8⟩ := n_; (try clear hb hbox hg)) | ((with_reducible refine gate_dst (N := 4) rfl ?_); refine bE 4 #[.slice none 0 0, .slice none 0 0] 30 ?_; intro JF hg w5 hbox hb; have n_ := aI (kB Jg hb) (aI (sB HB hb) (aI (aM hbox) (aI (gE HB hg) (aI (gE HB hg) (aI (nL Jg hg) (nG Jg hg)))))); clear Jg HB; obtain ⟨Jg, HB, Jh, U9, Va, JG, JH⟩ := n_; (try clear hb hbox hg); have Vt := JG.out; have Vu := JH.out; obtain ⟨_, _, _, _⟩ := z2 Jg) | ((with_reducible refine gate_callee (f := 75) rfl ?_); refine gL (some 8) Try.func75 #[.agg #[.slice JK JB.length JL, .slice JM JC.length JN]] ?_; (with_reducible refine (spec_l3Copy.calls _ _ JB _ _ JC JO JP _ ?side1 ?side2 ?side3 ?side4 A3.out).mono ?_); (case side1 => exact cS Ux HB); (case side2 => exact Uy.out); (case side3 => exact cS Uz HB); (case side4 => exact UA.out); rintro e w8 ⟨Vv, Vw, rfl, JV, JW, hb⟩; refine ⟨_, rfl, ?_⟩; have n_ := aI (lR HB JV) (aI (lR HB JW) (aI (kB Jg hb) (aI (kB Jh hb) (sB HB hb)))); clear Jg Jh HB; obtain ⟨JI, JJ, Jg, Jh, HB⟩ := n_; (try clear hb JV JW)) | ((with_reducible refine gate_dst (N := 5) rfl ?_); refine bE 5 #[.slice none 0 0, .slice none 0 0] 30 ?_; intro Jl hg w9 hbox hb; have n_ := aI (rB JI hb) (aI (rB JJ hb) (aI (kB Jg hb) (aI (kB Jh hb) (aI (sB HB hb) (aI (aM hbox) (aI (gE HB hg) (aI (gE HB hg) (aI (nL Jg hg) (aI (nG Jg hg) (aI (nL Jh hg) (nG Jh hg))))))))))); clear JI JJ Jg Jh HB; obtain ⟨JI, JJ, Jg, Jh, HB, Jc, Vb, Vc, Jn, Jo, Jp, Jq⟩ := n_; (try clear hb hbox hg); obtain ⟨J6, J7, UP⟩ := R_slice JI.out; subst UP; have Vd := Jo.out; have Ve := Jn.out; have Vf := Jq.out; have Vg := Jp.out; obtain ⟨_, _, _, _⟩ := z2 Jc; obtain ⟨J8, J9, UQ⟩ := R_slice JJ.out; subst UQ))
 go_loopg [6] k (fun kq v6 w' => ∃ (Jf : Int) (Jd : List ByteArray) (Je : List (S65)) (Jz : Value) (JA : Value), v6 = .int .i64 Jf ∧ Aside0 (spec_EventsDo.l0 kq l1 Jf Jd Je = some (r1, r2)) ∧ Aside0 (kq ≤ k) ∧ Aside0 (Kd.R Kd.string 9 w' w.heap.size (fun _ => True) Jz Jd) ∧ Aside0 (Kd.R k65 65 w' w.heap.size (fun _ => True) JA Je) ∧ Aside0 (w'.heap[UC]? = some (.cells #[(.slice JK JB.length JL), (.slice JM JC.length JN)] 30 (0, 0))) ∧ Aside0 (w'.heap[JF]? = some (.cells #[(.slice none 0 0), (.slice none 0 0)] 30 (0, 0))) ∧ Aside0 (w'.heap[Jl]? = some (.cells #[Jz, JA] 30 (0, 0))) ∧ Aside0 (Below w.heap.size w w'))
 case atStart => exact ⟨(0), (JO), (JP), (.slice J6 JO.length J7), (.slice J8 JP.length J9), eV, H', ⟨Nat.le_refl _⟩, ⟨rP (R_mono (fR Jl 1 (fR Jl 0 (R_types JI.out Jc.out (by decide)) s2 (.slice J6 JO.length J7)) s2 (.slice J8 JP.length J9)) sT)⟩, ⟨rP (R_mono (fR Jl 1 (fR Jl 0 (R_types JJ.out Jc.out (by decide)) s2 (.slice J6 JO.length J7)) s2 (.slice J8 JP.length J9)) sT)⟩, ⟨kP Jg⟩, ⟨kP Jh⟩, ⟨pU Jc⟩, ⟨bB⟩⟩
 case round =>
  clear H';obtain ⟨Jf, Jd, Je, Jz, JA, rfl, HA, HK1, Ja, Jb, Jg, Jh, Jc, HB⟩ := hrel
  cases gk with
  | zero => exact absurd HA.out (by simp [spec_EventsDo.l0])
  | succ k1 =>
   have H := HA.out;clear HA;simp only [spec_EventsDo.l0] at H
   by_cases Uw : Jf < (l1.length : Int)
   ·rw [if_pos Uw] at H
    have UD := decide_eq_true Uw;clear Uw
    by_cases UO : 0 ≤ Jf
    ·rw [if_pos UO] at H
     have Vh := decide_eq_true UO;clear UO
     by_cases Ua : ((rd_T92 l1 Jf).f0) = 0
     ·rw [if_pos Ua] at H
      have UE := beq_iff_eq.mpr Ua;have UF := bne_eq_false_iff_eq.mpr Ua;clear Ua;obtain ⟨⟨JQ, JR, UR⟩, Vx, H⟩ := oB H;try dsimp only at H
      have H' := aM H;clear H;have JD : 0 ≤ (Jf : Int) := dT;have JE : Jf < (l1.length : Int) := dT;obtain ⟨Jm, JS, Ji, Jj, Jk⟩ := at_T92 UB.out Jf JD JE;cases JS
      replace Ji := (HB.out.cell (World.block_lt_of_cell? w _ Ji)).trans Ji;replace Jj := (HB.out.cell (World.block_lt_of_cell? w _ Jj)).trans Jj;replace Jk := (HB.out.cell (World.block_lt_of_cell? w _ Jk)).trans Jk;replace JD := eq_true JD;replace JE := eq_true JE;try go_wp2
      have n_ := aI (aM (R_drew Ja.out)) (aI (aM (R_drew Jb.out)) (aI (aM (blk_drew Jg.out)) (aI (aM (blk_drew Jh.out)) (aI (aM (blk_drew Jc.out)) (aM (below_drew1 HB.out))))));clear Ja Jb Jg Jh Jc HB;obtain ⟨Ja, Jb, Jg, Jh, Jc, HB⟩ := n_;have Ub : 0 ≤ (Jf : Int) := dT;have Uc : Jf < (l1.length : Int) := dT;obtain ⟨UG, US, Jr, Js, Jt⟩ := at_T92 UB.out Jf Ub Uc;have hw557_2 := Jt;have hw557_1 := Js;have hw557_0 := Jr;obtain rfl : Jm = UG := (by injection US);replace Jr := (HB.out.cell (World.block_lt_of_cell? w _ Jr)).trans Jr;replace Js := (HB.out.cell (World.block_lt_of_cell? w _ Js)).trans Js;replace Jt := (HB.out.cell (World.block_lt_of_cell? w _ Jt)).trans Jt;replace Ub := eq_true Ub;replace Uc := eq_true Uc;have Ud : 0 ≤ (Jf : Int) := dT;have Ue : Jf < (l1.length : Int) := dT;obtain ⟨UH, UT, Ju, Jv, Jw⟩ := at_T92 UB.out Jf Ud Ue;have hw558_2 := Jw;have hw558_1 := Jv;have hw558_0 := Ju;obtain rfl : Jm = UH := (by injection UT);replace Ju := (HB.out.cell (World.block_lt_of_cell? w _ Ju)).trans Ju;replace Jv := (HB.out.cell (World.block_lt_of_cell? w _ Jv)).trans Jv;replace Jw := (HB.out.cell (World.block_lt_of_cell? w _ Jw)).trans Jw;replace Ud := eq_true Ud;replace Ue := eq_true Ue;obtain ⟨Uf, Ug, UI⟩ := R_slice Ja.out;(first | subst UI | (injection UI with f1_ f2_ f3_; have f4_ := f1_.symm; have f5_ := f3_.symm; clear f1_ f2_ f3_; subst f4_; subst f5_));obtain ⟨Uh, Ui, UJ⟩ := R_slice Jb.out;(first | subst UJ | (injection UJ with f1_ f2_ f3_; have f4_ := f1_.symm; have f5_ := f3_.symm; clear f1_ f2_ f3_; subst f4_; subst f5_));refine start_ (n := 16) (S := fun w' => w'.cell? ⟨Jl, 0, none⟩ = some (.slice Uf Jd.length Ug) ∧ w'.cell? ⟨Jl, 1, none⟩ = some (.slice Uh Je.length Ui) ∧ w'.cell? (Jm.add ((Jf).toNat * 3)) = some (.int .i64 ((rd_T92 l1 Jf).f0)) ∧ w'.cell? ⟨(Jm.add ((Jf).toNat * 3)).block, (Jm.add ((Jf).toNat * 3)).off + 1, none⟩ = some (.int .i64 ((rd_T92 l1 Jf).f1)) ∧ w'.cell? ⟨(Jm.add ((Jf).toNat * 3)).block, (Jm.add ((Jf).toNat * 3)).off + 2, none⟩ = some (.string ((rd_T92 l1 Jf).f2)) ∧ w'.cell? (Jm.add ((Jf).toNat * 3)) = some (.int .i64 ((rd_T92 l1 Jf).f0)) ∧ w'.cell? ⟨(Jm.add ((Jf).toNat * 3)).block, (Jm.add ((Jf).toNat * 3)).off + 1, none⟩ = some (.int .i64 ((rd_T92 l1 Jf).f1)) ∧ w'.cell? ⟨(Jm.add ((Jf).toNat * 3)).block, (Jm.add ((Jf).toNat * 3)).off + 2, none⟩ = some (.string ((rd_T92 l1 Jf).f2))) (ds := [15]) #[tF, tF, tF, tF, tF, tF, tF, tF, tF, tF, tF, tF, tF, tF, tF, tF] (by kernel_rfl) rfl rfl ⟨(blk_cell Jc.out 0).trans rfl, (blk_cell Jc.out 1).trans rfl, ((HB.out.cell (World.block_lt_of_cell? w _ hw557_0)).trans hw557_0), ((HB.out.cell (World.block_lt_of_cell? w _ hw557_1)).trans hw557_1), ((HB.out.cell (World.block_lt_of_cell? w _ hw557_2)).trans hw557_2), ((HB.out.cell (World.block_lt_of_cell? w _ hw558_0)).trans hw558_0), ((HB.out.cell (World.block_lt_of_cell? w _ hw558_1)).trans hw558_1), ((HB.out.cell (World.block_lt_of_cell? w _ hw558_2)).trans hw558_2)⟩ (fun hHeld => ?_); refine with_tabW spec_EventsDo.tab7 spec_EventsDo.bits7 (fun HT_ HW_ => ?_);generalize wr.drew = VE at Ja Jb Jg Jh Jc HB Jr Js Jt Ju Jv Jw hHeld ⊢;refine pY 1 24 #[tF, tT, tF, tF, tF, tF, tF, tF, tF, tF, tF, tF, tF, tF, tF, tF] ?_;refine pY 2 25 #[tF, tT, tT, tF, tF, tF, tF, tF, tF, tF, tF, tF, tF, tF, tF, tF] ?_;refine pY 3 26 #[tF, tT, tT, tT, tF, tF, tF, tF, tF, tF, tF, tF, tF, tF, tF, tF] ?_;refine pY 4 27 #[tF, tT, tT, tT, tT, tF, tF, tF, tF, tF, tF, tF, tF, tF, tF, tF] ?_;refine pY 6 29 #[tF, tT, tT, tT, tT, tF, tT, tF, tF, tF, tF, tF, tF, tF, tF, tF] ?_;refine pY 7 30 #[tF, tT, tT, tT, tT, tF, tT, tT, tF, tF, tF, tF, tF, tF, tF, tF] ?_;refine pY 8 31 #[tF, tT, tT, tT, tT, tF, tT, tT, tT, tF, tF, tF, tF, tF, tF, tF] ?_;refine pY 9 32 #[tF, tT, tT, tT, tT, tF, tT, tT, tT, tT, tF, tF, tF, tF, tF, tF] ?_;refine take_ (i := 0) (N := some 23) (v := ?_) (a' := ?_) #[tT, tT, tT, tT, tT, tF, tT, tT, tT, tT, tF, tF, tF, tF, tF, tF] rfl rfl (take_ofW HT_.out HW_.out (by kernel_rfl)) (fun _ _ _ h => h) (Or.inl ⟨by rfl, ?_⟩) hHeld ?_ ?_
      rotate_left
      ·rintro w' ⟨s0, s1, s2, s3, s4, s5, s6, s7⟩
       go_simp
       (with_reducible rfl)
      rotate_left
      ·simp only [Act.put, List.setIfInBounds_toArray, List.set_cons_zero, List.set_cons_succ, i64_w, i32_w]
       rfl
      refine take_ (i := 5) (N := some 28) (v := ?_) (a' := ?_) #[tT, tT, tT, tT, tT, tT, tT, tT, tT, tT, tF, tF, tF, tF, tF, tF] rfl rfl (take_ofW HT_.out HW_.out (by kernel_rfl)) (fun _ _ _ h => h) (Or.inl ⟨by rfl, ?_⟩) hHeld ?_ ?_
      rotate_left
      ·rintro w' ⟨s0, s1, s2, s3, s4, s5, s6, s7⟩
       go_simp
       (with_reducible rfl)
      rotate_left
      ·simp only [Act.put, List.setIfInBounds_toArray, List.set_cons_zero, List.set_cons_succ, i64_w, i32_w]
       rfl
      refine take_ (i := 10) (N := some 33) (v := ?_) (a' := ?_) #[tT, tT, tT, tT, tT, tT, tT, tT, tT, tT, tT, tF, tF, tF, tF, tF] rfl rfl (take_ofW HT_.out HW_.out (by kernel_rfl)) (fun _ _ _ h => h) (Or.inl ⟨by rfl, ?_⟩) hHeld ?_ ?_
      rotate_left
      ·rintro w' ⟨s0, s1, s2, s3, s4, s5, s6, s7⟩
       go_simp
       (with_reducible rfl)
      rotate_left
      ·simp only [Act.put, List.setIfInBounds_toArray, List.set_cons_zero, List.set_cons_succ, i64_w, i32_w]
       rfl
      refine one_ (i := 11) (N := some 34) #[tT, tT, tT, tT, tT, tT, tT, tT, tT, tT, tT, tT, tF, tF, tF, tF] rfl rfl (one_of HT_.out (by kernel_rfl)) (by decide) (fun K hK => ?_);refine goes_ Try.func28 (by kernel_rfl) rfl #[.agg #[.slice Uf Jd.length Ug, .slice Uh Je.length Ui], .int .i64 ((rd_T92 l1 Jf).f1), .string ((rd_T92 l1 Jf).f2)] (by rfl) rfl rfl (by (try simp only [List.map_toArray, List.map_cons, List.map_nil]); first | done | rfl | (simp only [List.length_drop, List.length_take]; rfl)) ?_;(with_reducible refine (spec_SectorWrite.calls k1 _ _ Jd _ _ Je ((rd_T92 l1 Jf).f1) ((rd_T92 l1 Jf).f2) JQ JR UR _ ?side1 ?side2 ?side3 ?side4 Vx.out).mono ?_);(case side1 => exact cR Ja);(case side2 => exact (R_reads' Ja.out).2.1);(case side3 => exact cR Jb);(case side4 => exact (R_reads' Jb.out).2.1);rintro e Vi ⟨Vy, Vz, rfl, JV, JW, hb⟩;refine ⟨_, rfl, ?_⟩;have n_ := aI (eR Ja JV hb) (aI (eR Jb JW hb) (aI (aM (R_lower (R_new' JV (rL Ja)) (zB HB))) (aI (aM (R_lower (R_new' JW (rL Jb)) (zB HB))) (aI (kB Jg hb) (aI (kB Jh hb) (aI (kB Jc hb) (sB HB hb)))))));clear Ja Jb Jg Jh Jc HB;obtain ⟨Ja, Jb, J2, J3, Jg, Jh, Jc, HB⟩ := n_;(try clear hb);(try clear hb2);(try clear hk);(try clear hi);(try clear JV);(try clear JW);obtain ⟨Uj, Uk, UK⟩ := R_slice J2.out;(first | subst UK | (injection UK with f1_ f2_ f3_; have f4_ := f1_.symm; have f5_ := f3_.symm; clear f1_ f2_ f3_; subst f4_; subst f5_));obtain ⟨Ul, Um, UL⟩ := R_slice J3.out;(first | subst UL | (injection UL with f1_ f2_ f3_; have f4_ := f1_.symm; have f5_ := f3_.symm; clear f1_ f2_ f3_; subst f4_; subst f5_));refine hK.out _ _ ⟨(blk_cell Jc.out 0).trans rfl, (blk_cell Jc.out 1).trans rfl, ((HB.out.cell (World.block_lt_of_cell? w _ hw557_0)).trans hw557_0), ((HB.out.cell (World.block_lt_of_cell? w _ hw557_1)).trans hw557_1), ((HB.out.cell (World.block_lt_of_cell? w _ hw557_2)).trans hw557_2), ((HB.out.cell (World.block_lt_of_cell? w _ hw558_0)).trans hw558_0), ((HB.out.cell (World.block_lt_of_cell? w _ hw558_1)).trans hw558_1), ((HB.out.cell (World.block_lt_of_cell? w _ hw558_2)).trans hw558_2)⟩ (fun hHeld => ?_);clear hK K;refine norm_ (a' := ?_) ?_ ?_
      rotate_left
      ·show Act.put _ (some 34) _ = _
       simp only [Act.put, List.setIfInBounds_toArray, List.set_cons_zero, List.set_cons_succ, i64_w, i32_w]
       rfl
      refine pY 12 22 #[tT, tT, tT, tT, tT, tT, tT, tT, tT, tT, tT, tT, tT, tF, tF, tF] ?_;refine pY 13 35 #[tT, tT, tT, tT, tT, tT, tT, tT, tT, tT, tT, tT, tT, tT, tF, tF] ?_;refine pY 14 36 #[tT, tT, tT, tT, tT, tT, tT, tT, tT, tT, tT, tT, tT, tT, tT, tF] ?_;refine last_ (i := 15) (N := none) #[tT, tT, tT, tT, tT, tT, tT, tT, tT, tT, tT, tT, tT, tT, tT, tT] rfl rfl (one_of HT_.out (by kernel_rfl)) (by decide) (fun K hK => ?_);have hs24 : Vi.cell? ⟨Jl, 0, none⟩ = some (.slice Uf Jd.length Ug) := (blk_cell Jc.out 0).trans rfl;have hfs24 := blk_frozen Jc.out 0;have hns24_0 := Jn.out;have hns24_1 := Jp.out;have hms24_0 := Jo.out;have hms24_1 := Jq.out;have hs26 : Vi.cell? ⟨Jl, 1, none⟩ = some (.slice Uh Je.length Ui) := (blk_cell Jc.out 1).trans rfl;have hfs26 := blk_frozen Jc.out 1;have hns26_0 := Jn.out;have hns26_1 := Jp.out;have hms26_0 := Jo.out;have hms26_1 := Jq.out;refine skip_ (w1 := ?_) (by rfl) rfl ?_ ?_
      rotate_left
      ·go_simp
       rfl
      refine hK.out _ _ ?_;clear hK K;refine done_ (done_of HT_.out (by kernel_rfl)) ?_;try go_wp2
      go_roundg k1
      case measure => have := HK1.out; omega
      case rel => exact ⟨(wrap64 (Jf + 1)), (JQ), (JR), (.slice Uj JQ.length Uk), (.slice Ul JR.length Um), eV, H', ⟨by have := HK1.out; omega⟩, ⟨rP (R_mono (fR Jl 1 (fR Jl 0 (R_types J2.out Jc.out (by decide)) s2 (.slice Uj JQ.length Uk)) s2 (.slice Ul JR.length Um)) sT)⟩, ⟨rP (R_mono (fR Jl 1 (fR Jl 0 (R_types J3.out Jc.out (by decide)) s2 (.slice Uj JQ.length Uk)) s2 (.slice Ul JR.length Um)) sT)⟩, ⟨kP Jg⟩, ⟨kP Jh⟩, ⟨pU Jc⟩, ⟨bB⟩⟩
     ·rw [if_neg Ua] at H
      have UE := beq_eq_false_iff_ne.mpr Ua;have UF := bne_iff_ne.mpr Ua
      by_cases Un : ((rd_T92 l1 Jf).f0) = 1
      ·rw [if_pos Un] at H
       have UM := beq_iff_eq.mpr Un;have UN := bne_eq_false_iff_eq.mpr Un;clear Un;obtain ⟨⟨JT, JU⟩, VA, H⟩ := oB H;try dsimp only at H
       have H' := aM H;clear H;have JD : 0 ≤ (Jf : Int) := dT;have JE : Jf < (l1.length : Int) := dT;obtain ⟨Jm, JS, Ji, Jj, Jk⟩ := at_T92 UB.out Jf JD JE;cases JS
       replace Ji := (HB.out.cell (World.block_lt_of_cell? w _ Ji)).trans Ji;replace Jj := (HB.out.cell (World.block_lt_of_cell? w _ Jj)).trans Jj;replace Jk := (HB.out.cell (World.block_lt_of_cell? w _ Jk)).trans Jk;replace JD := eq_true JD;replace JE := eq_true JE;have Vj := Jo.out;have Vk := Jn.out;have Vl := Jq.out;have Vm := Jp.out;obtain ⟨_, _, _, _⟩ := z2 Jc;obtain ⟨UU, UV, UW⟩ := R_slice Ja.out;subst UW;obtain ⟨UX, UY, UZ⟩ := R_slice Jb.out;subst UZ
       go_wp2_with (first | ((with_reducible refine gate_callee (f := 31) rfl ?_); refine gL (some 40) Try.func31 #[.agg #[.slice UU Jd.length UV, .slice UX Je.length UY]] ?_; (with_reducible refine (spec_Flush.calls k1 _ _ Jd _ _ Je JT JU _ ?side1 ?side2 ?side3 ?side4 VA.out).mono ?_); (case side1 => exact cR Ja); (case side2 => exact (R_reads' Ja.out).2.1); (case side3 => exact cR Jb); (case side4 => exact (R_reads' Jb.out).2.1); rintro e VF ⟨VB, VC, rfl, JV, JW, hb⟩; refine ⟨_, rfl, ?_⟩; have n_ := aI (eR Ja JV hb) (aI (eR Jb JW hb) (aI (aM (R_lower (R_new' JV (rL Ja)) (zB HB))) (aI (aM (R_lower (R_new' JW (rL Jb)) (zB HB))) (aI (kB Jg hb) (aI (kB Jh hb) (aI (kB Jc hb) (sB HB hb))))))); clear Ja Jb Jg Jh Jc HB; obtain ⟨Ja, Jb, J4, J5, Jg, Jh, Jc, HB⟩ := n_; (try clear hb JV JW); obtain ⟨Uo, Up, U0⟩ := R_slice J4.out; subst U0; obtain ⟨_, _, _, _⟩ := z2 Jc; obtain ⟨Uq, Ur, U1⟩ := R_slice J5.out; subst U1))
       go_roundg k1
       case measure => have := HK1.out; omega
       case rel => exact ⟨(wrap64 (Jf + 1)), (JT), (JU), (.slice Uo JT.length Up), (.slice Uq JU.length Ur), eV, H', ⟨by have := HK1.out; omega⟩, ⟨rP (R_mono (fR Jl 1 (fR Jl 0 (R_types J4.out Jc.out (by decide)) s2 (.slice Uo JT.length Up)) s2 (.slice Uq JU.length Ur)) sT)⟩, ⟨rP (R_mono (fR Jl 1 (fR Jl 0 (R_types J5.out Jc.out (by decide)) s2 (.slice Uo JT.length Up)) s2 (.slice Uq JU.length Ur)) sT)⟩, ⟨kP Jg⟩, ⟨kP Jh⟩, ⟨pU Jc⟩, ⟨bB⟩⟩
      ·rw [if_neg Un] at H
       have UM := beq_eq_false_iff_ne.mpr Un;have UN := bne_iff_ne.mpr Un;have H' := aM H;clear H;have JD : 0 ≤ (Jf : Int) := dT;have JE : Jf < (l1.length : Int) := dT;obtain ⟨Jm, JS, Ji, Jj, Jk⟩ := at_T92 UB.out Jf JD JE;cases JS
       replace Ji := (HB.out.cell (World.block_lt_of_cell? w _ Ji)).trans Ji;replace Jj := (HB.out.cell (World.block_lt_of_cell? w _ Jj)).trans Jj;replace Jk := (HB.out.cell (World.block_lt_of_cell? w _ Jk)).trans Jk;replace JD := eq_true JD;replace JE := eq_true JE
       go_wp2
       go_roundg k1
       case measure => have := HK1.out; omega
       case rel => exact ⟨(wrap64 (Jf + 1)), (Jd), (Je), (Jz), (JA), eV, H', ⟨by have := HK1.out; omega⟩, ⟨rP Ja.out⟩, ⟨rP Jb.out⟩, ⟨kP Jg⟩, ⟨kP Jh⟩, ⟨kP Jc⟩, ⟨bB⟩⟩
    ·rw [if_neg UO] at H
     exact absurd H (by simp)
   ·rw [if_neg Uw] at H
    have UD := decide_eq_false Uw;clear Uw;simp only [Option.some.injEq, Prod.mk.injEq] at H;obtain ⟨rfl, rfl⟩ := H;have Vn := Jo.out;have Vo := Jn.out;have Vp := Jq.out;have Vq := Jp.out;obtain ⟨_, _, _, _⟩ := z2 Jc;obtain ⟨Us, Ut, U2⟩ := R_slice Ja.out;subst U2;have Vr := JH.out;have Vs := JG.out;obtain ⟨_, _, _, _⟩ := z2 Jh;obtain ⟨Uu, Uv, U3⟩ := R_slice Jb.out;subst U3
    go_wp2
    refine bodyPost_ret (results_cell_row rfl _ _ JF 30 #[.slice Us Jd.length Ut, .slice Uu Je.length Uv] (0, 0) _ rfl (pU Jh) Try.underlying30 rfl (by kernel_rfl)) rfl ?_;exact ⟨_, _, eW, by (with_reducible repeat (first | apply R_alloc | apply R_drewN | apply R_drew)); exact R_mono (fR JF 1 (fR JF 0 (R_types Ja.out Jh.out (by decide)) s2 (.slice Us Jd.length Ut)) s2 (.slice Uu Je.length Uv)) sT, by (with_reducible repeat (first | apply R_alloc | apply R_drewN | apply R_drew)); exact R_mono (fR JF 1 (fR JF 0 (R_types Jb.out Jh.out (by decide)) s2 (.slice Us Jd.length Ut)) s2 (.slice Uu Je.length Uv)) sT, bB⟩

mutual
def spec_TxOk.j0 : Nat → List (S65) → Bool → Option (Bool)
 | 0, _, _ => none
 | k + 1, x1, JH => if JH = true then (some false) else (spec_TxOk.l0 k x1 1)
def spec_TxOk.l0 : Nat → List (S65) → Int → Option (Bool)
 | 0, _, _ => none
 | k + 1, x1, x5 => if x5 < (x1.length : Int) then (if 0 ≤ x5 then (if 0 ≤ (wrap64 (x5 - 1)) then (if (wrap64 (x5 - 1)) < (x1.length : Int) then (if ((rd_T65 x1 x5).f0) ≤ ((rd_T65 x1 (wrap64 (x5 - 1))).f0) then (some false) else (spec_TxOk.l0 k x1 (wrap64 (x5 + 1)))) else (none)) else (none)) else (none)) else (some true)
end
def spec_TxOk.f (k : Nat) (a0 : Int) (l1 : List (S65)) : Option (Bool) := (spec_l1In.f a0 1 48).bind fun Jo => (if Jo = true then (if (l1.length : Int) = 0 then (spec_TxOk.j0 k l1 true) else ((spec_l3PutsOk.f k l1 a0).bind fun Jg => (spec_TxOk.j0 k l1 (!Jg)))) else (spec_TxOk.j0 k l1 true))
theorem spec_TxOk.mono_l : ∀ k, (∀ y0 y1, LeO (spec_TxOk.j0 k y0 y1) (spec_TxOk.j0 (k + 1) y0 y1)) ∧ (∀ y0 y1, LeO (spec_TxOk.l0 k y0 y1) (spec_TxOk.l0 (k + 1) y0 y1))
 | 0 => ⟨fun _ _ r h => by simp [spec_TxOk.j0] at h, fun _ _ r h => by simp [spec_TxOk.l0] at h⟩
 | k + 1 => by
  obtain ⟨ih0, ih1⟩ := spec_TxOk.mono_l k;refine ⟨?_, ?_⟩
  ·intro y0 y1
   unfold spec_TxOk.j0;have m0_ := @spec_l3PutsOk.mono;exact mM
  ·intro y0 y1
   unfold spec_TxOk.l0;have m0_ := @spec_l3PutsOk.mono;exact mM
theorem spec_TxOk.mono : ∀ a0 a1 k, LeO (spec_TxOk.f k a0 a1) (spec_TxOk.f (k + 1) a0 a1) := by
 intro a0 a1 k;obtain ⟨ih0, ih1⟩ := spec_TxOk.mono_l k;unfold spec_TxOk.f;have m0_ := @spec_l3PutsOk.mono;exact mM
theorem spec_TxOk.calls (k : Nat) (a0 : Int) (A1 : Option Addr) (c1 : Nat) (l1 : List (S65)) (r : Bool) (w : World) (hr1 : Kd.C k65 w A1 l1.length l1) (JC : l1.length ≤ c1) (h : spec_TxOk.f k a0 l1 = some r) :
  Calls Try.prog 102 #[.int .i64 a0, .slice A1 l1.length c1] w fun e w' => e = .returned (.bool r) ∧ Drawn0 w w' := by
 have Jp := aM hr1;have Jz := aM JC;clear hr1 JC;unfold spec_TxOk.f at h;have H := h;clear h;have JA := aM H;clear H
 go_enter Try.func102, Try.ntmps102
 go_upto_region 1 with (fail)
 repeat (go_quiet (fail); go_upto_region 1 with (fail))
 go_cut [19] (fun JI wc => ∃ (kq : Nat) (Jf : Bool), JI = .bool Jf ∧ Aside0 (spec_TxOk.j0 kq l1 Jf = some r) ∧ Aside0 (kq ≤ k) ∧ Drawn0 w wc)
 case first =>
  have H := JA.out;clear JA;obtain ⟨Jo, A4, H⟩ := oB H;try dsimp only at H
  by_cases c5 : Jo = true
  ·subst c5
   rw [if_pos rfl] at H
   by_cases c6 : (l1.length : Int) = 0
   ·rw [if_pos c6] at H
    have Jh := beq_iff_eq.mpr c6;have Jq := bne_eq_false_iff_eq.mpr c6;clear c6;(first | rw [Jh] | (simp only [i64_w, i32_w]; rw [Jh]) | rw [Jq] | rw [Ju] | skip);have H' := aM H;clear H
    go_wp2_with (first | (go_at_call 69; (with_reducible refine (spec_l1In.calls a0 1 48 true _ A4.out).mono ?_); rintro e w' ⟨rfl, ⟨nd, rfl⟩⟩; (try first | exact ⟨rfl, _, World.drewN_drewN _ _ _⟩ | exact ⟨rfl, _, Eq.trans (World.drewN_drewN _ _ _) (congrArg (World.drewN _) (Nat.add_assoc _ _ _))⟩)))
    repeat (go_quiet (first | (go_at_call 69; (with_reducible refine (spec_l1In.calls a0 1 48 true _ A4.out).mono ?_); rintro e w' ⟨rfl, ⟨nd, rfl⟩⟩; (try first | exact ⟨rfl, _, World.drewN_drewN _ _ _⟩ | exact ⟨rfl, _, Eq.trans (World.drewN_drewN _ _ _) (congrArg (World.drewN _) (Nat.add_assoc _ _ _))⟩))); try go_wp2_with (first | (go_at_call 69; (with_reducible refine (spec_l1In.calls a0 1 48 true _ A4.out).mono ?_); rintro e w' ⟨rfl, ⟨nd, rfl⟩⟩; (try first | exact ⟨rfl, _, World.drewN_drewN _ _ _⟩ | exact ⟨rfl, _, Eq.trans (World.drewN_drewN _ _ _) (congrArg (World.drewN _) (Nat.add_assoc _ _ _))⟩))))
    go_meet
    case rel => exact ⟨_, (true), eV, H', ⟨by first | omega | exact Nat.le_refl _⟩, by repeat (first | exact Drawn0.refl _ | apply Drawn0.step)⟩
   rw [if_neg c6] at H;have Jh := beq_eq_false_iff_ne.mpr c6;have Jq := bne_iff_ne.mpr c6;have Ju : ¬ (l1 = []) := fun h_ => c6 (by rw [h_]; rfl)
   (first | rw [Jh] | (simp only [i64_w, i32_w]; rw [Jh]) | rw [Jq] | rw [Ju] | skip);obtain ⟨Jg, A7, H⟩ := oB H;try dsimp only at H
   have H' := aM H;clear H
   go_wp2_with (first | (go_at_call 69; (with_reducible refine (spec_l1In.calls a0 1 48 true _ A4.out).mono ?_); rintro e w' ⟨rfl, ⟨nd, rfl⟩⟩; (try first | exact ⟨rfl, _, World.drewN_drewN _ _ _⟩ | exact ⟨rfl, _, Eq.trans (World.drewN_drewN _ _ _) (congrArg (World.drewN _) (Nat.add_assoc _ _ _))⟩)) | (go_at_call 59; (with_reducible refine (spec_l3PutsOk.calls k _ _ l1 a0 Jg _ ?side1 ?side2 A7.out).mono ?_); (case side1 => repeat (first | exact Jp.out | (with_reducible refine Kd.C_alloc ?_ _) | (with_reducible refine Kd.C_drewN ?_ _) | (with_reducible refine Kd.C_drew ?_))); (case side2 => exact Jz.out); rintro e w' ⟨rfl, ⟨nd, rfl⟩⟩; (try first | exact ⟨rfl, _, World.drewN_drewN _ _ _⟩ | exact ⟨rfl, _, Eq.trans (World.drewN_drewN _ _ _) (congrArg (World.drewN _) (Nat.add_assoc _ _ _))⟩)))
   repeat (go_quiet (first | (go_at_call 69; (with_reducible refine (spec_l1In.calls a0 1 48 true _ A4.out).mono ?_); rintro e w' ⟨rfl, ⟨nd, rfl⟩⟩; (try first | exact ⟨rfl, _, World.drewN_drewN _ _ _⟩ | exact ⟨rfl, _, Eq.trans (World.drewN_drewN _ _ _) (congrArg (World.drewN _) (Nat.add_assoc _ _ _))⟩)) | (go_at_call 59; (with_reducible refine (spec_l3PutsOk.calls k _ _ l1 a0 Jg _ ?side1 ?side2 A7.out).mono ?_); (case side1 => repeat (first | exact Jp.out | (with_reducible refine Kd.C_alloc ?_ _) | (with_reducible refine Kd.C_drewN ?_ _) | (with_reducible refine Kd.C_drew ?_))); (case side2 => exact Jz.out); rintro e w' ⟨rfl, ⟨nd, rfl⟩⟩; (try first | exact ⟨rfl, _, World.drewN_drewN _ _ _⟩ | exact ⟨rfl, _, Eq.trans (World.drewN_drewN _ _ _) (congrArg (World.drewN _) (Nat.add_assoc _ _ _))⟩))); try go_wp2_with (first | (go_at_call 69; (with_reducible refine (spec_l1In.calls a0 1 48 true _ A4.out).mono ?_); rintro e w' ⟨rfl, ⟨nd, rfl⟩⟩; (try first | exact ⟨rfl, _, World.drewN_drewN _ _ _⟩ | exact ⟨rfl, _, Eq.trans (World.drewN_drewN _ _ _) (congrArg (World.drewN _) (Nat.add_assoc _ _ _))⟩)) | (go_at_call 59; (with_reducible refine (spec_l3PutsOk.calls k _ _ l1 a0 Jg _ ?side1 ?side2 A7.out).mono ?_); (case side1 => repeat (first | exact Jp.out | (with_reducible refine Kd.C_alloc ?_ _) | (with_reducible refine Kd.C_drewN ?_ _) | (with_reducible refine Kd.C_drew ?_))); (case side2 => exact Jz.out); rintro e w' ⟨rfl, ⟨nd, rfl⟩⟩; (try first | exact ⟨rfl, _, World.drewN_drewN _ _ _⟩ | exact ⟨rfl, _, Eq.trans (World.drewN_drewN _ _ _) (congrArg (World.drewN _) (Nat.add_assoc _ _ _))⟩))))
   go_meet
   case rel => exact ⟨_, (!Jg), eV, H', ⟨by first | omega | exact Nat.le_refl _⟩, by repeat (first | exact Drawn0.refl _ | apply Drawn0.step)⟩
  replace c5 := Bool.eq_false_iff.mpr c5;subst c5;rw [if_neg (show ¬ (false = true) by decide)] at H;have H' := aM H;clear H
  go_wp2_with (first | (go_at_call 69; (with_reducible refine (spec_l1In.calls a0 1 48 false _ A4.out).mono ?_); rintro e w' ⟨rfl, ⟨nd, rfl⟩⟩; (try first | exact ⟨rfl, _, World.drewN_drewN _ _ _⟩ | exact ⟨rfl, _, Eq.trans (World.drewN_drewN _ _ _) (congrArg (World.drewN _) (Nat.add_assoc _ _ _))⟩)))
  repeat (go_quiet (first | (go_at_call 69; (with_reducible refine (spec_l1In.calls a0 1 48 false _ A4.out).mono ?_); rintro e w' ⟨rfl, ⟨nd, rfl⟩⟩; (try first | exact ⟨rfl, _, World.drewN_drewN _ _ _⟩ | exact ⟨rfl, _, Eq.trans (World.drewN_drewN _ _ _) (congrArg (World.drewN _) (Nat.add_assoc _ _ _))⟩))); try go_wp2_with (first | (go_at_call 69; (with_reducible refine (spec_l1In.calls a0 1 48 false _ A4.out).mono ?_); rintro e w' ⟨rfl, ⟨nd, rfl⟩⟩; (try first | exact ⟨rfl, _, World.drewN_drewN _ _ _⟩ | exact ⟨rfl, _, Eq.trans (World.drewN_drewN _ _ _) (congrArg (World.drewN _) (Nat.add_assoc _ _ _))⟩))))
  go_meet
  case rel => exact ⟨_, (true), eV, H', ⟨by first | omega | exact Nat.le_refl _⟩, by repeat (first | exact Drawn0.refl _ | apply Drawn0.step)⟩
 case rest =>
  clear JA;obtain ⟨kq, Jf, rfl, HA, HJ2, ⟨mc2, rfl⟩⟩ := hcut
  cases kq with
  | zero => exact absurd HA.out (by simp [spec_TxOk.j0])
  | succ JD =>
   have H := HA.out;clear HA;simp only [spec_TxOk.j0] at H
   by_cases c8 : Jf = true
   ·subst c8
    rw [if_pos rfl] at H;obtain rfl := Option.some.inj H
    go_wp2
    repeat (go_quiet (fail); try go_wp2)
    go_ret
    exact ⟨by first | rfl | (simp; done) | (simp [*]; done), by repeat (first | exact Drawn0.refl _ | apply Drawn0.step)⟩
   ·replace c8 := Bool.eq_false_iff.mpr c8
    subst c8;rw [if_neg (show ¬ (false = true) by decide)] at H;have H' := aM H;clear H
    go_wp2
    repeat (go_quiet (fail); try go_wp2)
    go_loopg [5] JD (fun kq v5 w' => ∃ (Ja : Int), v5 = .int .i64 Ja ∧ Aside0 (spec_TxOk.l0 kq l1 Ja = some r) ∧ Aside0 (kq ≤ JD) ∧ Drawn0 w w')
    case atStart => exact ⟨(1), eV, H', ⟨Nat.le_refl _⟩, by repeat (first | exact Drawn0.refl _ | apply Drawn0.step)⟩
    case round =>
     clear H';obtain ⟨Ja, rfl, HA, HK2, ⟨m2, rfl⟩⟩ := hrel
     cases gk with
     | zero => exact absurd HA.out (by simp [spec_TxOk.l0])
     | succ k2 =>
      have H := HA.out;clear HA;simp only [spec_TxOk.l0] at H
      by_cases c9 : Ja < (l1.length : Int)
      ·rw [if_pos c9] at H
       have JB := decide_eq_true c9;clear c9
       by_cases Jw : 0 ≤ Ja
       ·rw [if_pos Jw] at H
        have JE := decide_eq_true Jw;clear Jw;obtain ⟨ji11, hji11⟩ : ∃ j_ : Int, (wrap64 (Ja - 1)) = j_ := ⟨_, rfl⟩;replace H : (if 0 ≤ (ji11) then (if (ji11) < (l1.length : Int) then (if ((rd_T65 l1 Ja).f0) ≤ ((rd_T65 l1 (ji11)).f0) then (some false) else (spec_TxOk.l0 k2 l1 (wrap64 (Ja + 1)))) else (none)) else (none)) = some r := by first | (rw [hji11] at H; exact H) | (simp only [hji11] at H ⊢; exact H)
        have hji11w : (IntKind.i64.wrap (Ja - 1)) = ji11 := (i64_w _).trans hji11
        by_cases Jx : 0 ≤ (ji11)
        ·rw [if_pos Jx] at H
         have JF := decide_eq_true Jx;clear Jx
         by_cases Jy : (ji11) < (l1.length : Int)
         ·rw [if_pos Jy] at H
          have JG := decide_eq_true Jy;clear Jy
          by_cases Jt : ((rd_T65 l1 Ja).f0) ≤ ((rd_T65 l1 (ji11)).f0)
          ·rw [if_pos Jt] at H
           have Jv := decide_eq_true Jt;clear Jt;obtain rfl := Option.some.inj H;have Jb : 0 ≤ (Ja : Int) := dT;have Jc : Ja < (l1.length : Int) := dT;obtain ⟨Ji, Jr, Jk, Jl⟩ := at_T65 Jp.out Ja Jb Jc;cases Jr
           replace Jb := eq_true Jb;replace Jc := eq_true Jc;have Jd : 0 ≤ ((ji11) : Int) := dT;have Je : (ji11) < (l1.length : Int) := dT;obtain ⟨Jj, Js, Jm, Jn⟩ := at_T65 Jp.out (ji11) Jd Je;obtain rfl : Ji = Jj := (by injection Js);replace Jd := eq_true Jd;replace Je := eq_true Je
           go_wp2
           repeat (go_quiet (fail); try go_wp2)
           go_ret
           exact ⟨by first | rfl | (simp; done) | (simp only [← hji11] <;> (first | rfl | simp)) | (simp [*]; done), by repeat (first | exact Drawn0.refl _ | apply Drawn0.step)⟩
          ·rw [if_neg Jt] at H
           have Jv := decide_eq_false Jt;clear Jt;have H' := aM H;clear H;have Jb : 0 ≤ (Ja : Int) := dT;have Jc : Ja < (l1.length : Int) := dT;obtain ⟨Ji, Jr, Jk, Jl⟩ := at_T65 Jp.out Ja Jb Jc;cases Jr
           replace Jb := eq_true Jb;replace Jc := eq_true Jc;have Jd : 0 ≤ ((ji11) : Int) := dT;have Je : (ji11) < (l1.length : Int) := dT;obtain ⟨Jj, Js, Jm, Jn⟩ := at_T65 Jp.out (ji11) Jd Je;obtain rfl : Ji = Jj := (by injection Js);replace Jd := eq_true Jd;replace Je := eq_true Je
           go_wp2
           repeat (go_quiet (fail); try go_wp2)
           go_roundg k2
           case measure => have := HJ2.out; have := HK2.out; omega
           case rel => exact ⟨(wrap64 (Ja + 1)), eV, H', ⟨by have := HJ2.out; have := HK2.out; omega⟩, by repeat (first | exact Drawn0.refl _ | apply Drawn0.step)⟩
         ·rw [if_neg Jy] at H
          exact absurd H (by simp)
        ·rw [if_neg Jx] at H
         exact absurd H (by simp)
       ·rw [if_neg Jw] at H
        exact absurd H (by simp)
      ·rw [if_neg c9] at H
       have JB := decide_eq_false c9;clear c9;obtain rfl := Option.some.inj H
       go_wp2
       repeat (go_quiet (fail); try go_wp2)
       go_ret
       exact ⟨by first | rfl | (simp; done) | (simp [*]; done), by repeat (first | exact Drawn0.refl _ | apply Drawn0.step)⟩

def spec_l4Event.f (a0 : Int) (a1 : ByteArray) : Option (Int × Int × ByteArray) := some (0, a0, a1)
theorem spec_l4Event.calls (a0 : Int) (a1 : ByteArray) (r1 : Int) (r2 : Int) (r3 : ByteArray) (w : World) (h : spec_l4Event.f a0 a1 = some (r1, r2, r3)) :
  Calls Try.prog 103 #[.int .i64 a0, .string a1] w fun e w' => e = .returned (.agg #[.int .i64 r1, .int .i64 r2, .string r3]) ∧ Below w.heap.size w w' := by
 have hu92 := Try.underlying92;have HB := aM (Below.refl w.heap.size w);unfold spec_l4Event.f at h;have H := h;clear h;simp only [Option.some.injEq, Prod.mk.injEq] at H;obtain ⟨rfl, rfl, rfl⟩ := H
 go_enter Try.func103, Try.ntmps103
 go_wp2_with (first | ((with_reducible refine gate_dst (N := 4) rfl ?_); refine bE 4 #[.int .i64 0, .int .i64 0, .string (⟨#[]⟩ : ByteArray)] 92 ?_; intro Jb hg w3 hbox hb; have n_ := aI (sB HB hb) (aI (aM hbox) (aI (gE HB hg) (gE HB hg))); clear HB; obtain ⟨HB, Ja, Ji, Jj⟩ := n_; (try clear hb hbox hg); have Jc := cZ0 Ja; have Jd := cZ1 Ja; have Je : w3.cell? ⟨Jb, 2, none⟩ = some (.string (⟨#[]⟩ : ByteArray)) := (blk_cell Ja.out 2).trans rfl; have Jf := fZ Ja 0; have Jg := fZ Ja 1; have Jh := fZ Ja 2))
 refine bodyPost_ret (results_cell_row rfl _ _ Jb 92 #[.int .i64 0, .int .i64 a0, .string a1] (0, 0) _ rfl (pU Ja) Try.underlying92 rfl (by kernel_rfl)) rfl ?_;exact ⟨eW, bB⟩

end Go.Proofs.Ytgmpdkefegofhaa.PFnAtomic
