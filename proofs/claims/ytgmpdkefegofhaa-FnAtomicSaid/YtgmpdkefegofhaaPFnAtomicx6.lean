-- printed
import Derived.Test.YtgmpdkefegofhaaPFnAtomicx0
import Derived.Test.YtgmpdkefegofhaaPFnAtomicx2
import Derived.Test.YtgmpdkefegofhaaPFnAtomicx5
namespace Go.Proofs.Ytgmpdkefegofhaa.PFnAtomic
open Go.RowKit Go.Proofs.YtgmpdkefegofhaaW.PrintWords Go.Proofs.YtgmpdkefegofhaaW.PrintLast Go.Proofs.YtgmpdkefegofhaaW.PrintMore Go.Proofs.YtgmpdkefegofhaaW.Cr
open Go.Proofs.YtgmpdkefegofhaaW.PrintWords.Kd (Q_nil R_alloc R_append R_base R_drew R_drewN R_lit R_nil R_of_own R_over' R_reads' R_slice R_typed)
attribute [local go_sem] max2_int min2_int max_two min_two max_three min_three max_four min_four
set_option maxHeartbeats 8000000
set_option maxRecDepth 100000
set_option linter.unusedVariables false
set_option linter.unusedSimpArgs false

mutual
def impl_HeadOf.j0 : Nat → Int → List Int → Bool → Option (List Int × Int × Bool)
 | 0, _, _, _ => none
 | k + 1, x1, x7, U7 => if U7 = true then (some (([] : List Int), 0, false)) else ((impl_GetNum.f k x7 1).bind fun Jn => (if Jn.2.2 = true then (impl_HeadOf.j1 k x1 x7 Jn.1 Jn.2.1 (decide (Jn.1 > 48))) else (impl_HeadOf.j1 k x1 x7 Jn.1 Jn.2.1 true)))
def impl_HeadOf.j1 : Nat → Int → List Int → Int → Int → Bool → Option (List Int × Int × Bool)
 | 0, _, _, _, _, _ => none
 | k + 1, x1, x7, x8, x9, U8 => if U8 = true then (some (([] : List Int), 0, false)) else (impl_HeadOf.l0 k x1 x7 x9 (([] : List (S65))) (([] : List Int)) x8 0)
def impl_HeadOf.l0 : Nat → Int → List Int → Int → List (S65) → List Int → Int → Int → Option (List Int × Int × Bool)
 | 0, _, _, _, _, _, _, _ => none
 | k + 1, x1, x7, x9, Uz, JM, UP, UQ => if UQ < UP then ((impl_GetNum.f k x7 x9).bind fun Jt => (if Jt.2.2 = true then (if Uz.length < 5864062014805 then (if JM.length < 17592186044416 then (impl_HeadOf.l0 k x1 x7 Jt.2.1 (Uz ++ [(⟨Jt.1, (⟨#[]⟩ : ByteArray)⟩ : S65)]) (JM ++ [Jt.1]) UP (wrap64 (UQ + 1))) else (none)) else (none)) else (some (([] : List Int), 0, false)))) else (if (x7.length : Int) = (wrap64 (x9 + 4)) then ((impl_TxOk.f k x1 Uz).bind fun JN => (impl_HeadOf.j3 k x7 x9 JM (!JN))) else (impl_HeadOf.j3 k x7 x9 JM true))
def impl_HeadOf.j3 : Nat → List Int → Int → List Int → Bool → Option (List Int × Int × Bool)
 | 0, _, _, _, _ => none
 | k + 1, x7, x9, JM, U9 => if U9 = true then (some (([] : List Int), 0, false)) else (if 0 ≤ x9 then (if x9 ≤ (x7.length : Int) then ((some (x7.drop (x9 : Int).toNat : List Int)).bind fun Je => (impl_HeadOf.l1 k JM 0 Je (Je.length : Int) 0)) else (none)) else (none))
def impl_HeadOf.l1 : Nat → List Int → Int → List Int → Int → Int → Option (List Int × Int × Bool)
 | 0, _, _, _, _, _ => none
 | k + 1, JM, UR, UA, US, J8 => if J8 < US then (if 0 ≤ J8 then (if J8 < (UA.length : Int) then (impl_HeadOf.l1 k JM (Go.bits .or .i64 (wrap64 (UR * 256)) (wrap64 (rd UA J8))) UA US (wrap64 (J8 + 1))) else (none)) else (none)) else (some (JM, UR, true))
end
def impl_HeadOf.f (k : Nat) (a0 : ByteArray) (a1 : Int) : Option (List Int × Int × Bool) := if a0.size ≤ 9223372036854775807 then ((some (bytesOf a0 : List Int)).bind fun Ja => (if (Ja.length : Int) < 5 then (impl_HeadOf.j0 k a1 Ja true) else (if 0 < (Ja.length : Int) then (impl_HeadOf.j0 k a1 Ja ((rd Ja 0) != 74)) else (none)))) else (none)
theorem impl_HeadOf.mono_l : ∀ k, (∀ y0 y1 y2, LeO (impl_HeadOf.j0 k y0 y1 y2) (impl_HeadOf.j0 (k + 1) y0 y1 y2)) ∧ (∀ y0 y1 y2 y3 y4, LeO (impl_HeadOf.j1 k y0 y1 y2 y3 y4) (impl_HeadOf.j1 (k + 1) y0 y1 y2 y3 y4)) ∧ (∀ y0 y1 y2 y3 y4 y5 y6, LeO (impl_HeadOf.l0 k y0 y1 y2 y3 y4 y5 y6) (impl_HeadOf.l0 (k + 1) y0 y1 y2 y3 y4 y5 y6)) ∧ (∀ y0 y1 y2 y3, LeO (impl_HeadOf.j3 k y0 y1 y2 y3) (impl_HeadOf.j3 (k + 1) y0 y1 y2 y3)) ∧ (∀ y0 y1 y2 y3 y4, LeO (impl_HeadOf.l1 k y0 y1 y2 y3 y4) (impl_HeadOf.l1 (k + 1) y0 y1 y2 y3 y4))
 | 0 => ⟨fun _ _ _ r h => by simp [impl_HeadOf.j0] at h, fun _ _ _ _ _ r h => by simp [impl_HeadOf.j1] at h, fun _ _ _ _ _ _ _ r h => by simp [impl_HeadOf.l0] at h, fun _ _ _ _ r h => by simp [impl_HeadOf.j3] at h, fun _ _ _ _ _ r h => by simp [impl_HeadOf.l1] at h⟩
 | k + 1 => by
  obtain ⟨ih0, ih1, ih2, ih3, ih4⟩ := impl_HeadOf.mono_l k;refine ⟨?_, ?_, ?_, ?_, ?_⟩
  ·intro y0 y1 y2
   unfold impl_HeadOf.j0;have m0_ := @impl_GetNum.mono;have m1_ := @impl_TxOk.mono;exact mM
  ·intro y0 y1 y2 y3 y4
   unfold impl_HeadOf.j1;have m0_ := @impl_GetNum.mono;have m1_ := @impl_TxOk.mono;exact mM
  ·intro y0 y1 y2 y3 y4 y5 y6
   unfold impl_HeadOf.l0;have m0_ := @impl_GetNum.mono;have m1_ := @impl_TxOk.mono;exact mM
  ·intro y0 y1 y2 y3
   unfold impl_HeadOf.j3;have m0_ := @impl_GetNum.mono;have m1_ := @impl_TxOk.mono;exact mM
  ·intro y0 y1 y2 y3 y4
   unfold impl_HeadOf.l1;have m0_ := @impl_GetNum.mono;have m1_ := @impl_TxOk.mono;exact mM
theorem impl_HeadOf.mono : ∀ a0 a1 k, LeO (impl_HeadOf.f k a0 a1) (impl_HeadOf.f (k + 1) a0 a1) := by
 intro a0 a1 k;obtain ⟨ih0, ih1, ih2, ih3, ih4⟩ := impl_HeadOf.mono_l k;unfold impl_HeadOf.f;have m0_ := @impl_GetNum.mono;have m1_ := @impl_TxOk.mono;exact mM
theorem impl_HeadOf.calls (k : Nat) (a0 : ByteArray) (a1 : Int) (r1 : List Int) (r2 : Int) (r3 : Bool) (w : World) (h : impl_HeadOf.f k a0 a1 = some (r1, r2, r3)) :
  Calls Try.prog 86 #[.string a0, .int .i64 a1] w fun e w' => ∃ UT : Value, e = .returned (.tuple #[UT, .int .i64 r2, .bool r3]) ∧ Kd.R (Kd.int .i64) 3 w' w.heap.size (fun _ => True) UT r1 ∧ Below w.heap.size w w' := by
 have hu65 := Try.underlying65;have HB := aM (Below.refl w.heap.size w);unfold impl_HeadOf.f at h;have H := h;clear h
 by_cases c3 : a0.size ≤ 9223372036854775807
 ·rw [if_pos c3] at H
  have Va := eq_true c3;have Vb := decide_eq_true c3;try have Vc : (9223372036854775807 < a0.size) = False := eq_false (Nat.not_lt.2 c3)
  clear c3;obtain ⟨Ja, JB⟩ : ∃ y_ : List Int, y_ = (bytesOf a0) := ⟨_, rfl⟩;replace H : (if (Ja.length : Int) < 5 then (impl_HeadOf.j0 k a1 Ja true) else (if 0 < (Ja.length : Int) then (impl_HeadOf.j0 k a1 Ja ((rd Ja 0) != 74)) else (none))) = some (r1, r2, r3) := bQ JB H;have JQ := aM JB;clear JB;have UB := aM H;clear H
  go_enter Try.func86, Try.ntmps86
  go_upto_region 2 with (first | ((with_reducible refine gate_dst (N := 20) rfl ?_); refine V_bytes 5 rfl (N' := 20) rfl 9 60 _ rfl a0 rfl Try.underlying9 Try.underlying60 Try.underlying5 (by first | (with_reducible assumption) | assumption | exact dT) ?_; intro UC w5 J9 hb hg_ hnew_; clear hg_ hnew_; (first | rw [← JQ.out] at J9 | (simp only [Int.reduceToNat] at J9; rw [← JQ.out] at J9)); have n_ := aI (aM (Kd.V_lower (Kd.V_mono (ok' := fun k_ => True) J9 (fun k_ hk_ => trivial)) (zB HB))) (sB HB hb); clear HB; obtain ⟨Jr, HB⟩ := n_; (try clear hb J9)))
  (try simp only [Act.put, List.setIfInBounds_toArray, List.set_cons_zero, List.set_cons_succ])
  go_cut [29] (fun Vd wc => ∃ (kq : Nat) (Ju : Bool), Vd = .bool Ju ∧ Aside0 (impl_HeadOf.j0 kq a1 Ja Ju = some (r1, r2, r3)) ∧ Aside0 (kq ≤ k) ∧ Aside0 (Kd.V (Kd.int .u8) 5 wc w.heap.size (fun _ => True) UC Ja) ∧ Aside0 (Below w.heap.size w wc))
  case first =>
   have H := UB.out;clear UB
   by_cases c7 : (Ja.length : Int) < 5
   ·rw [if_pos c7] at H
    have JC := decide_eq_true c7;have JV : decide (Ja.length < 5) = true := decide_eq_true (by omega);clear c7;(first | rw [JC] | (simp only [i64_w, i32_w]; rw [JC]) | rw [JV] | rw [UD] | skip);have H' := aM H;clear H;obtain ⟨Vv, Vw, Ve⟩ := Kd.V_slice Jr.out;subst Ve
    go_wp2
    go_meet
    case rel => exact ⟨_, (true), eV, H', ⟨by first | omega | exact Nat.le_refl _⟩, ⟨by (with_reducible repeat (first | apply Kd.V_alloc | apply Kd.V_drewN | apply Kd.V_drew)); exact Jr.out⟩, ⟨bB⟩⟩
   rw [if_neg c7] at H;have JC := decide_eq_false c7;have JV : decide (Ja.length < 5) = false := decide_eq_false (by omega);clear c7;(first | rw [JC] | (simp only [i64_w, i32_w]; rw [JC]) | rw [JV] | rw [UD] | skip)
   by_cases c9 : 0 < (Ja.length : Int)
   ·rw [if_pos c9] at H
    have Vf := decide_eq_true c9;have Vg : decide (0 < Ja.length) = true := decide_eq_true (by omega);clear c9;have H' := aM H;clear H;obtain ⟨Vh, Vi, UE⟩ := Kd.V_slice Jr.out;subst UE;have JW : 0 ≤ (0 : Int) := (by omega);have JX : 0 < (Ja.length : Int) := dT;obtain ⟨UU, UF, Jv⟩ := Kd.at_int (Kd.V_reads' Jr.out).2.2 0 JW JX;cases UF
    have qi227 : (0 < Ja.length) = True := eq_true (by omega);(try rw [show ((0 : Int)).toNat = 0 from rfl] at Jv);(try rw [Addr.add_zero'] at Jv);replace JW := eq_true JW;replace JX := eq_true JX
    go_wp2
    go_meet
    case rel => exact ⟨_, (((rd Ja 0) != 74)), eV, H', ⟨by first | omega | exact Nat.le_refl _⟩, ⟨by (with_reducible repeat (first | apply Kd.V_alloc | apply Kd.V_drewN | apply Kd.V_drew)); exact Jr.out⟩, ⟨bB⟩⟩
   rw [if_neg c9] at H;exact absurd H (by simp)
  case rest =>
   clear UB;obtain ⟨kq, Ju, rfl, HA, HJ3, Jb, HB⟩ := hcut
   cases kq with
   | zero => exact absurd HA.out (by simp [impl_HeadOf.j0])
   | succ UV =>
    have H := HA.out;clear HA;simp only [impl_HeadOf.j0] at H
    by_cases Up : Ju = true
    ·subst Up
     rw [if_pos rfl] at H;simp only [Option.some.injEq, Prod.mk.injEq] at H;obtain ⟨rfl, rfl, rfl⟩ := H
     go_wp2
     go_ret3
     exact ⟨_, eW, by first | exact R_nil _ _ _ _ _ | exact Kd.N_nil _ _ _ _ _ | exact Kd.V_nil _ _ _ _ _ | exact Q_nil _ _ _ _ _ | exact Kd.S_nil _ _ _ _ _, bB⟩
    ·replace Up := Bool.eq_false_iff.mpr Up
     subst Up;rw [if_neg (show ¬ (false = true) by decide)] at H;obtain ⟨⟨Jo, JD, Ua⟩, Vj, H⟩ := oB H;try dsimp only at H
     have JY := aM H;clear H;obtain ⟨Jl, Ji, UG⟩ := Kd.V_slice Jb.out;subst UG
     go_upto_region 5 with (first | ((with_reducible refine gate_callee (f := 116) rfl ?_); refine gL (some 32) Try.func116 #[.slice Jl Ja.length Ji, .int .i64 1] ?_; (with_reducible refine (impl_GetNum.calls UV _ _ Ja 1 Jo JD Ua _ ?side1 ?side2 Vj.out).mono ?_); (case side1 => repeat (first | exact (Kd.V_reads' Jb.out).2.2 | (with_reducible refine Kd.C_alloc ?_ _) | (with_reducible refine Kd.C_drewN ?_ _) | (with_reducible refine Kd.C_drew ?_))); (case side2 => exact (Kd.V_reads' Jb.out).2.1); rintro e w' ⟨rfl, ⟨nd, rfl⟩⟩; refine ⟨_, rfl, ?_⟩))
     (try simp only [Act.put, List.setIfInBounds_toArray, List.set_cons_zero, List.set_cons_succ])
     go_cut [41] (fun Vk wc => ∃ (kq : Nat) (Jp : Bool), Vk = .bool Jp ∧ Aside0 (impl_HeadOf.j1 kq a1 Ja Jo JD Jp = some (r1, r2, r3)) ∧ Aside0 (kq ≤ UV) ∧ Aside0 (Kd.V (Kd.int .u8) 5 wc w.heap.size (fun _ => True) (.slice Jl Ja.length Ji) Ja) ∧ Aside0 (Below w.heap.size w wc))
     case first =>
      have H := JY.out;clear JY
      by_cases Uq : Ua = true
      ·subst Uq
       rw [if_pos rfl] at H;have H' := aM H;clear H
       go_wp2
       go_meet
       case rel => exact ⟨_, (decide (Jo > 48)), eV, H', ⟨by have := HJ3.out; first | omega | exact Nat.le_refl _⟩, ⟨by (with_reducible repeat (first | apply Kd.V_alloc | apply Kd.V_drewN | apply Kd.V_drew)); exact Jb.out⟩, ⟨bB⟩⟩
      ·replace Uq := Bool.eq_false_iff.mpr Uq
       subst Uq;rw [if_neg (show ¬ (false = true) by decide)] at H;have H' := aM H;clear H
       go_wp2
       go_meet
       case rel => exact ⟨_, (true), eV, H', ⟨by have := HJ3.out; first | omega | exact Nat.le_refl _⟩, ⟨by (with_reducible repeat (first | apply Kd.V_alloc | apply Kd.V_drewN | apply Kd.V_drew)); exact Jb.out⟩, ⟨bB⟩⟩
     case rest =>
      clear JY;obtain ⟨kq, Jp, rfl, HA, HJ12, Jb, HB⟩ := hcut
      cases kq with
      | zero => exact absurd HA.out (by simp [impl_HeadOf.j1])
      | succ JO =>
       have H := HA.out;clear HA;simp only [impl_HeadOf.j1] at H
       by_cases Ur : Jp = true
       ·subst Ur
        rw [if_pos rfl] at H;simp only [Option.some.injEq, Prod.mk.injEq] at H;obtain ⟨rfl, rfl, rfl⟩ := H
        go_wp2
        go_ret3
        exact ⟨_, eW, by first | exact R_nil _ _ _ _ _ | exact Kd.N_nil _ _ _ _ _ | exact Kd.V_nil _ _ _ _ _ | exact Q_nil _ _ _ _ _ | exact Kd.S_nil _ _ _ _ _, bB⟩
       ·replace Ur := Bool.eq_false_iff.mpr Ur
        subst Ur;rw [if_neg (show ¬ (false = true) by decide)] at H;obtain ⟨JZ, JE⟩ : ∃ y_ : List (S65), y_ = (([] : List (S65))) := ⟨_, rfl⟩;replace H : (impl_HeadOf.l0 JO a1 Ja JD JZ (([] : List Int)) Jo 0) = some (r1, r2, r3) := bQ JE H;have JR := aM JE;clear JE;obtain ⟨Ub, JF⟩ : ∃ y_ : List Int, y_ = (([] : List Int)) := ⟨_, rfl⟩;replace H : (impl_HeadOf.l0 JO a1 Ja JD JZ Ub Jo 0) = some (r1, r2, r3) := bQ JF H;have JS := aM JF;clear JF;have H' := aM H;clear H
        go_wp2_with (first | ((with_reducible refine gate_dst (N := 42) rfl ?_); refine R_lit k65 _ 65 ?hg (N := 42) ?hd (xs := ([] : List (S65))) (inner := []) (ok := fun _ => True) (okp := fun _ => True) ?hr ?hp (fun _ hk => hk) trivial (Below.refl _ _) (Nat.le_refl _) (by simp) ?_; (case hd => rfl); (case hg => rfl); (case hr => first | (go_simp; done) | (go_simp; rfl)); (case hp => exact (Reps.none _ _)); intro Vl Vx Jz hb hg_ hnew_; clear hg_ hnew_; (first | rw [← JR.out] at Jz | (simp only [Int.reduceToNat] at Jz; rw [← JR.out] at Jz)); have n_ := aI (aM (Kd.V_elder' (by (with_reducible repeat (first | apply Kd.V_alloc | apply Kd.V_drewN | apply Kd.V_drew)); exact Jb.out) (R_base Jz) hb)) (aI (lR HB Jz) (sB HB hb)); clear Jb HB; obtain ⟨Jb, Jw, HB⟩ := n_; (try clear hb Jz)) | ((with_reducible refine gate_dst (N := 43) rfl ?_); refine R_lit (Kd.int .i64) _ 3 ?hg (N := 43) ?hd (xs := ([] : List Int)) (inner := []) (ok := fun _ => True) (okp := fun _ => True) ?hr ?hp (fun _ hk => hk) trivial (Below.refl _ _) (Nat.le_refl _) (by simp) ?_; (case hd => rfl); (case hg => rfl); (case hr => first | (go_simp; done) | (go_simp; rfl)); (case hp => exact (Reps.none _ _)); intro Vm Vy JA hb hg_ hnew_; clear hg_ hnew_; (first | rw [← JS.out] at JA | (simp only [Int.reduceToNat] at JA; rw [← JS.out] at JA)); have n_ := aI (aM (Kd.V_elder' (by (with_reducible repeat (first | apply Kd.V_alloc | apply Kd.V_drewN | apply Kd.V_drew)); exact Jb.out) (R_base JA) hb)) (aI (rB Jw hb) (aI (lR HB JA) (sB HB hb))); clear Jb Jw HB; obtain ⟨Jb, Jw, Uc, HB⟩ := n_; (try clear hb JA)))
        go_loopg [9, 11, 12, 45] JO (fun kq v9 UW UX Vn w' => ∃ (Jd : Int) (Jj : List (S65)) (Jf : List Int) (Jk : Int), v9 = .int .i64 Jd ∧ Vn = .int .i64 Jk ∧ Aside0 (impl_HeadOf.l0 kq a1 Ja Jd Jj Jf Jo Jk = some (r1, r2, r3)) ∧ Aside0 (kq ≤ JO) ∧ Aside0 (Kd.V (Kd.int .u8) 5 w' w.heap.size (fun k_ => some k_ ≠ (UW : Value).ownBlock ∧ some k_ ≠ (UX : Value).ownBlock) (.slice Jl Ja.length Ji) Ja) ∧ Aside0 (Kd.R k65 65 w' w.heap.size (fun _ => True) UW Jj) ∧ Aside0 (Kd.R (Kd.int .i64) 3 w' w.heap.size (fun _ => True) UX Jf) ∧ Aside0 (Below w.heap.size w w'))
        case atStart => exact ⟨(JD), (JZ), (Ub), (0), eV, eV, H', ⟨Nat.le_refl _⟩, ⟨by (with_reducible repeat (first | apply Kd.V_alloc | apply Kd.V_drewN | apply Kd.V_drew)); exact Kd.V_mono Jb.out (fun _ hk => ⟨hk.1.2, hk.2⟩)⟩, ⟨rP Jw.out⟩, ⟨rP Uc.out⟩, ⟨bB⟩⟩
        case round =>
         clear H';obtain ⟨Jd, Jj, Jf, Jk, rfl, rfl, HA, HK3, Jb, Jh, Jc, HB⟩ := hrel
         cases gk with
         | zero => exact absurd HA.out (by simp [impl_HeadOf.l0])
         | succ k3 =>
          have H := HA.out;clear HA;simp only [impl_HeadOf.l0] at H
          by_cases J6 : Jk < Jo
          ·rw [if_pos J6] at H
           have Ud := decide_eq_true J6;clear J6;obtain ⟨⟨Jm, JG, UH⟩, UY, H⟩ := oB H;try dsimp only at H
           by_cases Us : UH = true
           ·subst Us
            rw [if_pos rfl] at H
            by_cases Ut : Jj.length < 5864062014805
            ·rw [if_pos Ut] at H
             have Ue := aM Ut;clear Ut;obtain ⟨J0, JH⟩ : ∃ y_ : List (S65), y_ = (Jj ++ [(⟨Jm, (⟨#[]⟩ : ByteArray)⟩ : S65)]) := ⟨_, rfl⟩;replace H : (if Jf.length < 17592186044416 then (impl_HeadOf.l0 k3 a1 Ja JG J0 (Jf ++ [Jm]) Jo (wrap64 (Jk + 1))) else (none)) = some (r1, r2, r3) := bQ JH H;have Uf := aM JH;clear JH
             by_cases Uu : Jf.length < 17592186044416
             ·rw [if_pos Uu] at H
              have Ug := aM Uu;clear Uu;obtain ⟨Uh, JI⟩ : ∃ y_ : List Int, y_ = (Jf ++ [Jm]) := ⟨_, rfl⟩;replace H : (impl_HeadOf.l0 k3 a1 Ja JG J0 Uh Jo (wrap64 (Jk + 1))) = some (r1, r2, r3) := bQ JI H;have Ui := aM JI;clear JI;have H' := aM H;clear H
              go_wp2_with (first | ((with_reducible refine gate_callee (f := 116) rfl ?_); refine gL (some 50) Try.func116 #[.slice Jl Ja.length Ji, .int .i64 Jd] ?_; (with_reducible refine (impl_GetNum.calls k3 _ _ Ja Jd Jm JG true _ ?side1 ?side2 UY.out).mono ?_); (case side1 => repeat (first | exact (Kd.V_reads' Jb.out).2.2 | (with_reducible refine Kd.C_alloc ?_ _) | (with_reducible refine Kd.C_drewN ?_ _) | (with_reducible refine Kd.C_drew ?_))); (case side2 => exact (Kd.V_reads' Jb.out).2.1); rintro e w' ⟨rfl, ⟨nd, rfl⟩⟩; refine ⟨_, rfl, ?_⟩) | ((with_reducible refine gate_builtin (b := .append) (xs := #[.tmp 56, .tmp 59]) rfl ?_); at_builtin; refine R_append k65 (w0 := w) w.heap.size rfl (.tmp 56) (.tmp 59) 28 65 (.agg #[(.int .i64 0), (.string ⟨#[]⟩)]) 24 rfl Try.underlying28 info65 rfl (by decide) (by omega) u11 Jj (⟨Jm, (⟨#[]⟩ : ByteArray)⟩ : S65) [.int .i64 Jm, .string (⟨#[]⟩ : ByteArray)] (fun _ => True) (fun _ => False) rfl rfl ?aP (fun _ hk => hk.elim) ?aF ?aO ?aB ?aS ?aL ?_; (case aP => exact k65_mkM _ _ _ (⟨Jm, (⟨#[]⟩ : ByteArray)⟩ : S65)); (case aB => exact bB); (case aF => exact (fun _ _ => trivial)); (case aO => exact (rP Jh.out)); (case aS => exact (zB HB)); (case aL => have := Ue.out; omega); intro UI Vz ho hb hg hat; rw [← Uf.out] at ho; have n_ := aI (aM (Kd.V_afterv (ok := (fun k_ => some k_ ≠ (u12 : Value).ownBlock)) (by (with_reducible repeat (first | apply Kd.V_alloc | apply Kd.V_drewN | apply Kd.V_drew)); exact Kd.V_mono Jb.out (fun _ hk => ⟨hk.2, hk.1⟩)) hg hat)) (aI (aM (R_over' (rP Jc.out) (R_typed (rP Jh.out)) (by decide) hg)) (aI (aM (hb)) (aM (ho)))); clear Jb Jc HB Jh; obtain ⟨Jb, Jc, HB, Jx⟩ := n_; (try clear ho hb hg hat)) | ((with_reducible refine gate_builtin (b := .append) (xs := #[.tmp 61, .tmp 63]) rfl ?_); at_builtin; refine R_append (Kd.int .i64) (w0 := w) w.heap.size rfl (.tmp 61) (.tmp 63) 95 3 (.int .i64 0) 8 rfl Try.underlying95 info3 rfl (by decide) (by omega) u12 Jf Jm [.int .i64 Jm] (fun _ => True) (fun _ => False) rfl rfl ?aP (fun _ hk => hk.elim) ?aF ?aO ?aB ?aS ?aL ?_; (case aP => exact rfl); (case aB => exact bB); (case aF => exact (fun _ _ => trivial)); (case aO => exact (rP Jc.out)); (case aS => exact (zB HB)); (case aL => have := Ug.out; omega); intro Vo VA ho hb hg hat; rw [← Ui.out] at ho; have n_ := aI (aM (Kd.V_afterv (ok := (fun k_ => some k_ ≠ (UI : Value).ownBlock)) (by (with_reducible repeat (first | apply Kd.V_alloc | apply Kd.V_drewN | apply Kd.V_drew)); exact Kd.V_mono Jb.out (fun _ hk => ⟨hk.2, hk.1⟩)) hg hat)) (aI (aM (R_over' (rP Jx.out) (R_typed (rP Jc.out)) (by decide) hg)) (aI (aM (hb)) (aM (ho)))); clear Jb Jx HB Jc; obtain ⟨Jb, Jx, HB, Uj⟩ := n_; (try clear ho hb hg hat)))
              go_roundg k3
              case measure => have := HJ3.out; have := HJ12.out; have := HK3.out; omega
              case rel => exact ⟨(JG), (J0), (Uh), (wrap64 (Jk + 1)), eV, eV, H', ⟨by have := HJ3.out; have := HJ12.out; have := HK3.out; omega⟩, ⟨by (with_reducible repeat (first | apply Kd.V_alloc | apply Kd.V_drewN | apply Kd.V_drew)); exact Jb.out⟩, ⟨rP Jx.out⟩, ⟨rP Uj.out⟩, ⟨bB⟩⟩
             ·rw [if_neg Uu] at H
              exact absurd H (by simp)
            ·rw [if_neg Ut] at H
             exact absurd H (by simp)
           ·replace Us := Bool.eq_false_iff.mpr Us
            subst Us;rw [if_neg (show ¬ (false = true) by decide)] at H;simp only [Option.some.injEq, Prod.mk.injEq] at H;obtain ⟨rfl, rfl, rfl⟩ := H
            go_wp2_with (first | ((with_reducible refine gate_callee (f := 116) rfl ?_); refine gL (some 50) Try.func116 #[.slice Jl Ja.length Ji, .int .i64 Jd] ?_; (with_reducible refine (impl_GetNum.calls k3 _ _ Ja Jd Jm JG false _ ?side1 ?side2 UY.out).mono ?_); (case side1 => repeat (first | exact (Kd.V_reads' Jb.out).2.2 | (with_reducible refine Kd.C_alloc ?_ _) | (with_reducible refine Kd.C_drewN ?_ _) | (with_reducible refine Kd.C_drew ?_))); (case side2 => exact (Kd.V_reads' Jb.out).2.1); rintro e w' ⟨rfl, ⟨nd, rfl⟩⟩; refine ⟨_, rfl, ?_⟩))
            go_ret3
            exact ⟨_, eW, by first | exact R_nil _ _ _ _ _ | exact Kd.N_nil _ _ _ _ _ | exact Kd.V_nil _ _ _ _ _ | exact Q_nil _ _ _ _ _ | exact Kd.S_nil _ _ _ _ _, bB⟩
          ·rw [if_neg J6] at H
           have Ud := decide_eq_false J6;clear J6;have J1 := aM H;clear H
           go_upto_region 18 with (fail)
           go_cut [77] (fun Vp wc => ∃ (kq : Nat) (Jq : Bool), Vp = .bool Jq ∧ Aside0 (impl_HeadOf.j3 kq Ja Jd Jf Jq = some (r1, r2, r3)) ∧ Aside0 (kq ≤ k3) ∧ Aside0 (Kd.V (Kd.int .u8) 5 wc w.heap.size (fun k_ => some k_ ≠ (u12 : Value).ownBlock) (.slice Jl Ja.length Ji) Ja) ∧ Aside0 (Kd.R (Kd.int .i64) 3 wc w.heap.size (fun _ => True) u12 Jf) ∧ Aside0 (Below w.heap.size w wc))
           case first =>
            have H := J1.out;clear J1
            by_cases J2 : (Ja.length : Int) = (wrap64 (Jd + 4))
            ·rw [if_pos J2] at H
             have Js := beq_iff_eq.mpr J2;have JJ := bne_eq_false_iff_eq.mpr J2;clear J2;(first | rw [Js] | (simp only [i64_w, i32_w]; rw [Js]) | rw [JJ] | rw [Uk] | skip);obtain ⟨JN, Vq, H⟩ := oB H;try dsimp only at H
             have H' := aM H;clear H;obtain ⟨Vr, Vs, UJ⟩ := R_slice Jh.out;subst UJ
             go_wp2_with (first | (go_at_call 100; (with_reducible refine (impl_TxOk.calls k3 a1 _ _ Jj JN _ ?side1 ?side2 Vq.out).mono ?_); (case side1 => exact cR Jh); (case side2 => exact (R_reads' Jh.out).2.1); rintro e VB ⟨rfl, hb⟩; have n_ := aI (aM (Kd.V_below (by (with_reducible repeat (first | apply Kd.V_alloc | apply Kd.V_drewN | apply Kd.V_drew)); exact Jb.out) hb)) (aI (rB Jh hb) (aI (rB Jc hb) (sB HB hb))); clear Jb Jh Jc HB; obtain ⟨Jb, Jh, Jc, HB⟩ := n_; (try clear hb)))
             go_meet
             case rel => exact ⟨_, (!JN), eV, H', ⟨by have := HJ3.out; have := HJ12.out; have := HK3.out; first | omega | exact Nat.le_refl _⟩, ⟨by (with_reducible repeat (first | apply Kd.V_alloc | apply Kd.V_drewN | apply Kd.V_drew)); exact Kd.V_mono Jb.out s2⟩, ⟨rP Jc.out⟩, ⟨bB⟩⟩
            ·rw [if_neg J2] at H
             have Js := beq_eq_false_iff_ne.mpr J2;have JJ := bne_iff_ne.mpr J2;(first | rw [Js] | (simp only [i64_w, i32_w]; rw [Js]) | rw [JJ] | rw [Uk] | skip);have H' := aM H;clear H
             go_wp2
             go_meet
             case rel => exact ⟨_, (true), eV, H', ⟨by have := HJ3.out; have := HJ12.out; have := HK3.out; first | omega | exact Nat.le_refl _⟩, ⟨by (with_reducible repeat (first | apply Kd.V_alloc | apply Kd.V_drewN | apply Kd.V_drew)); exact Kd.V_mono Jb.out s2⟩, ⟨rP Jc.out⟩, ⟨bB⟩⟩
           case rest =>
            clear J1;obtain ⟨kq, Jq, rfl, HA, HJ27, Jb, Jc, HB⟩ := hcut
            cases kq with
            | zero => exact absurd HA.out (by simp [impl_HeadOf.j3])
            | succ J3 =>
             have H := HA.out;clear HA;simp only [impl_HeadOf.j3] at H
             by_cases Uv : Jq = true
             ·subst Uv
              rw [if_pos rfl] at H;simp only [Option.some.injEq, Prod.mk.injEq] at H;obtain ⟨rfl, rfl, rfl⟩ := H
              go_wp2
              go_ret3
              exact ⟨_, eW, by first | exact R_nil _ _ _ _ _ | exact Kd.N_nil _ _ _ _ _ | exact Kd.V_nil _ _ _ _ _ | exact Q_nil _ _ _ _ _ | exact Kd.S_nil _ _ _ _ _, bB⟩
             ·replace Uv := Bool.eq_false_iff.mpr Uv
              subst Uv;rw [if_neg (show ¬ (false = true) by decide)] at H
              by_cases Ul : 0 ≤ Jd
              ·rw [if_pos Ul] at H
               have UZ := eq_true Ul;have U0 := decide_eq_true Ul;clear Ul
               by_cases Um : Jd ≤ (Ja.length : Int)
               ·rw [if_pos Um] at H
                have U1 := eq_true Um;have U2 := decide_eq_true Um;clear Um;obtain ⟨Je, JK⟩ : ∃ y_ : List Int, y_ = (Ja.drop (Jd : Int).toNat) := ⟨_, rfl⟩;replace H : (impl_HeadOf.l1 J3 Jf 0 Je (Je.length : Int) 0) = some (r1, r2, r3) := bQ JK H;have JT := aM JK;clear JK;have H' := aM H;clear H;have UK : (Jd : Int) ≤ ((Ja.length : Int) : Int) := dT;obtain ⟨i036, hi036, _, hsz36, _⟩ := info_parts info5;have hroom36 : Ja.length ≤ Ji := (Kd.V_reads' Jb.out).2.1;have hC36 : Kd.F (Kd.int .u8) _ _ Jl Ja.length Ja := (Kd.V_at (base := w.heap.size) Jb.out).2.2;have UL : (0 : Int) ≤ (Jd : Int) := dT;have hcut36 := cut_from (P := Try.prog) 60 5 .i64 Try.underlying60 hi036 1 hsz36 Jl Ja.length Ji Jd UL UK;have hr36 := Kd.F_cut (m := (Jd : Int).toNat) (c := Ji) hC36 (by omega) hroom36;obtain ⟨UM, hA36⟩ : ∃ A1, A1 = (if Ji = (Jd : Int).toNat then Jl else (Jl : Option Addr).map (·.add ((Jd : Int).toNat * 1))) := ⟨_, rfl⟩;obtain ⟨UN, JP⟩ : ∃ c1, c1 = Ji - (Jd : Int).toNat := ⟨_, rfl⟩;have JL : Je.length = Ja.length - (Jd : Int).toNat := (by rw [JT.out, List.length_drop] <;> omega);rw [show (Ja).drop (Jd : Int).toNat = Je from JT.out.symm] at hr36;replace hr36 : Kd.F (Kd.int .u8) _ _ UM Je.length Je := (by rw [hA36]; exact hr36);rw [← JL, ← hA36, ← JP] at hcut36;have Un := aM (show Kd.V (Kd.int .u8) 5 _ w.heap.size _ (.slice UM Je.length UN) Je from Kd.V_mk (by rw [JL, JP]; exact Nat.sub_le_sub_right hroom36 _) hr36);have U3 := aM (show Je.length ≤ UN from by rw [JL, JP]; exact Nat.sub_le_sub_right hroom36 _);clear hr36 hC36 hroom36 hi036 hsz36 JP;have KY36 := aM JL;have KA36 := aM hA36;clear JL hA36;replace UK := eq_true UK
                go_wp2
                go_loopg [16, 82] J3 (fun kq Vt Vu w' => ∃ (Jy : Int) (Jg : Int), Vt = .int .i64 Jy ∧ Vu = .int .i64 Jg ∧ Aside0 (impl_HeadOf.l1 kq Jf Jy Je (Je.length : Int) Jg = some (r1, r2, r3)) ∧ Aside0 (kq ≤ J3) ∧ Aside0 (Kd.R (Kd.int .i64) 3 w' w.heap.size (fun _ => True) u12 Jf) ∧ Aside0 (Kd.V (Kd.int .u8) 5 w' w.heap.size (fun k_ => some k_ ≠ (u12 : Value).ownBlock) (.slice UM Je.length UN) Je) ∧ Aside0 (Below w.heap.size w w'))
                case atStart => exact ⟨(0), (0), eV, eV, H', ⟨Nat.le_refl _⟩, ⟨rP Jc.out⟩, ⟨by (with_reducible repeat (first | apply Kd.V_alloc | apply Kd.V_drewN | apply Kd.V_drew)); exact Un.out⟩, ⟨bB⟩⟩
                case round =>
                 clear H';obtain ⟨Jy, Jg, rfl, rfl, HA, HK5, Jc, JU, HB⟩ := hrel
                 cases gk with
                 | zero => exact absurd HA.out (by simp [impl_HeadOf.l1])
                 | succ k5 =>
                  have H := HA.out;clear HA;simp only [impl_HeadOf.l1] at H
                  by_cases J7 : Jg < (Je.length : Int)
                  ·rw [if_pos J7] at H
                   have Uo := decide_eq_true J7;clear J7
                   by_cases Uw : 0 ≤ Jg
                   ·rw [if_pos Uw] at H
                    have U4 := decide_eq_true Uw;clear Uw
                    by_cases Ux : Jg < (Je.length : Int)
                    ·rw [if_pos Ux] at H
                     have U5 := decide_eq_true Ux;clear Ux;have H' := aM H;clear H;have J4 : 0 ≤ (Jg : Int) := dT;have J5 : Jg < (Je.length : Int) := dT;obtain ⟨U6, UO, Uy⟩ := Kd.at_int (Kd.V_reads' JU.out).2.2 Jg J4 J5;cases UO
                     replace J4 := eq_true J4;replace J5 := eq_true J5
                     go_wp2
                     go_roundg k5
                     case measure => have := HJ3.out; have := HJ12.out; have := HK3.out; have := HJ27.out; have := HK5.out; omega
                     case rel => exact ⟨(Go.bits .or .i64 (wrap64 (Jy * 256)) (wrap64 (rd Je Jg))), (wrap64 (Jg + 1)), eV, eV, H', ⟨by have := HJ3.out; have := HJ12.out; have := HK3.out; have := HJ27.out; have := HK5.out; omega⟩, ⟨rP Jc.out⟩, ⟨by (with_reducible repeat (first | apply Kd.V_alloc | apply Kd.V_drewN | apply Kd.V_drew)); exact JU.out⟩, ⟨bB⟩⟩
                    ·rw [if_neg Ux] at H
                     exact absurd H (by simp)
                   ·rw [if_neg Uw] at H
                    exact absurd H (by simp)
                  ·rw [if_neg J7] at H
                   have Uo := decide_eq_false J7;clear J7;simp only [Option.some.injEq, Prod.mk.injEq] at H;obtain ⟨rfl, rfl, rfl⟩ := H
                   go_wp2
                   go_ret3
                   exact ⟨_, eW, by (with_reducible repeat (first | apply R_alloc | apply R_drewN | apply R_drew)); exact Jc.out, bB⟩
               ·rw [if_neg Um] at H
                exact absurd H (by simp)
              ·rw [if_neg Ul] at H
               exact absurd H (by simp)
 rw [if_neg c3] at H;exact absurd H (by simp)

def impl_PutNum.l0 : Nat → Int → List Int → Option (List Int)
 | 0, _, _ => none
 | k + 1, x0, x3 => if x0 ≥ 128 then (if x3.length < 140737488355328 then (impl_PutNum.l0 k (x0 / 128) (x3 ++ [(Go.bits .or .i64 (Go.bits .and .i64 x0 127) 128) % 256])) else (none)) else (if x3.length < 140737488355328 then (some (x3 ++ [(x0) % 256])) else (none))
def impl_PutNum.f (k : Nat) (a0 : Int) : Option (List Int) := (impl_within.f a0 0 2147483647).bind fun Jh => (if Jh = true then (impl_PutNum.l0 k a0 (([] : List Int))) else (some ([] : List Int)))
theorem impl_PutNum.mono_l : ∀ k, (∀ y0 y1, LeO (impl_PutNum.l0 k y0 y1) (impl_PutNum.l0 (k + 1) y0 y1))
 | 0 => fun _ _ r h => by simp [impl_PutNum.l0] at h
 | k + 1 => by
  have ih0 := impl_PutNum.mono_l k
  ·intro y0 y1
   unfold impl_PutNum.l0;exact mM
theorem impl_PutNum.mono : ∀ a0 k, LeO (impl_PutNum.f k a0) (impl_PutNum.f (k + 1) a0) := by
 intro a0 k;have ih0 := impl_PutNum.mono_l k;unfold impl_PutNum.f;exact mM
theorem impl_PutNum.calls (k : Nat) (a0 : Int) (r : List Int) (w : World) (h : impl_PutNum.f k a0 = some r) :
  Calls Try.prog 130 #[.int .i64 a0] w fun e w' => ∃ Ju : Value, e = .returned (Ju) ∧ Kd.R (Kd.int .u8) 5 w' w.heap.size (fun _ => True) Ju r ∧ Below w.heap.size w w' := by
 have HB := aM (Below.refl w.heap.size w);unfold impl_PutNum.f at h;have H := h;clear h;obtain ⟨Jh, A2, H⟩ := oB H;try dsimp only at H
 by_cases c3 : Jh = true
 ·subst c3
  rw [if_pos rfl] at H;obtain ⟨Ji, Jc⟩ : ∃ y_ : List Int, y_ = (([] : List Int)) := ⟨_, rfl⟩;replace H : (impl_PutNum.l0 k a0 Ji) = some r := bQ Jc H;have Jg := aM Jc;clear Jc;have H' := aM H;clear H
  go_enter Try.func130, Try.ntmps130
  go_wp2_with (first | ((with_reducible refine gate_callee (f := 67) rfl ?_); refine gL (some 5) Try.func67 #[.int .i64 a0, .int .i64 0, .int .i64 2147483647] ?_; (with_reducible refine (impl_within.calls a0 0 2147483647 true _ A2.out).mono ?_); rintro e w' ⟨rfl, ⟨nd, rfl⟩⟩; refine ⟨_, rfl, ?_⟩) | ((with_reducible refine gate_dst (N := 7) rfl ?_); refine R_lit (Kd.int .u8) _ 5 ?hg (N := 7) ?hd (xs := ([] : List Int)) (inner := []) (ok := fun _ => True) (okp := fun _ => True) ?hr ?hp (fun _ hk => hk) trivial (Below.refl _ _) (Nat.le_refl _) (by simp) ?_; (case hd => rfl); (case hg => rfl); (case hr => first | (go_simp; done) | (go_simp; rfl)); (case hp => exact (Reps.none _ _)); intro Jv w4 Jj hb hg_ hnew_; clear hg_ hnew_; (first | rw [← Jg.out] at Jj | (simp only [Int.reduceToNat] at Jj; rw [← Jg.out] at Jj)); have n_ := aI (lR HB Jj) (sB HB hb); clear HB; obtain ⟨Jk, HB⟩ := n_; (try clear hb Jj)))
  go_loopg [0, 3] k (fun kq v0 v3 w' => ∃ (Ja : Int) (Jb : List Int), v0 = .int .i64 Ja ∧ Aside0 (impl_PutNum.l0 kq Ja Jb = some r) ∧ Aside0 (kq ≤ k) ∧ Aside0 (Kd.R (Kd.int .u8) 5 w' w.heap.size (fun _ => True) v3 Jb) ∧ Aside0 (Below w.heap.size w w'))
  case atStart => exact ⟨(a0), (Ji), eV, H', ⟨Nat.le_refl _⟩, ⟨rP Jk.out⟩, ⟨bB⟩⟩
  case round =>
   clear H';obtain ⟨Ja, Jb, rfl, HA, HK1, Jf, HB⟩ := hrel
   cases gk with
   | zero => exact absurd HA.out (by simp [impl_PutNum.l0])
   | succ k1 =>
    have H := HA.out;clear HA;simp only [impl_PutNum.l0] at H
    by_cases c6 : Ja ≥ 128
    ·rw [if_pos c6] at H
     have Jq := decide_eq_true c6;clear c6
     by_cases c7 : Jb.length < 140737488355328
     ·rw [if_pos c7] at H
      have Jr := aM c7;clear c7;obtain ⟨Jl, Jd⟩ : ∃ y_ : List Int, y_ = (Jb ++ [(Go.bits .or .i64 (Go.bits .and .i64 Ja 127) 128) % 256]) := ⟨_, rfl⟩;replace H : (impl_PutNum.l0 k1 (Ja / 128) Jl) = some r := bQ Jd H;have Jm := aM Jd;clear Jd;have H' := aM H;clear H
      go_wp2_with (first | ((with_reducible refine gate_builtin (b := .append) (xs := #[.tmp 10, .tmp 15]) rfl ?_); at_builtin; refine R_append (Kd.int .u8) (w0 := w) w.heap.size rfl (.tmp 10) (.tmp 15) 60 5 (.int .u8 0) 1 rfl Try.underlying60 info5 rfl (by decide) (by omega) u3 Jb ((Go.bits .or .i64 (Go.bits .and .i64 Ja 127) 128) % 256) [.int .u8 ((Go.bits .or .i64 (Go.bits .and .i64 Ja 127) 128) % 256)] (fun _ => True) (fun _ => False) rfl rfl ?aP (fun _ hk => hk.elim) ?aF ?aO ?aB ?aS ?aL ?_; (case aP => exact rfl); (case aB => exact bB); (case aF => exact (fun _ _ => trivial)); (case aO => exact (rP Jf.out)); (case aS => exact (zB HB)); (case aL => have := Jr.out; omega); intro Jw w8 ho hb hg hat; rw [← Jm.out] at ho; have n_ := aI (aM (hb)) (aM (ho)); clear HB Jf; obtain ⟨HB, Jn⟩ := n_; (try clear ho hb hg hat)))
      go_roundg k1
      case measure => have := HK1.out; omega
      case rel => exact ⟨(Ja / 128), (Jl), eV, H', ⟨by have := HK1.out; omega⟩, ⟨rP Jn.out⟩, ⟨bB⟩⟩
     ·rw [if_neg c7] at H
      exact absurd H (by simp)
    ·rw [if_neg c6] at H
     have Jq := decide_eq_false c6;clear c6
     by_cases c9 : Jb.length < 140737488355328
     ·rw [if_pos c9] at H
      have Js := aM c9;clear c9;obtain ⟨Jt, Je⟩ : ∃ y_ : List Int, y_ = (Jb ++ [(Ja) % 256]) := ⟨_, rfl⟩;replace H : (some Jt) = some r := bQ Je H;have Jo := aM Je;clear Je;obtain rfl := Option.some.inj H
      go_wp2_with (first | ((with_reducible refine gate_builtin (b := .append) (xs := #[.tmp 19, .tmp 22]) rfl ?_); at_builtin; refine R_append (Kd.int .u8) (w0 := w) w.heap.size rfl (.tmp 19) (.tmp 22) 60 5 (.int .u8 0) 1 rfl Try.underlying60 info5 rfl (by decide) (by omega) u3 Jb ((Ja) % 256) [.int .u8 ((Ja) % 256)] (fun _ => True) (fun _ => False) rfl rfl ?aP (fun _ hk => hk.elim) ?aF ?aO ?aB ?aS ?aL ?_; (case aP => exact rfl); (case aB => exact bB); (case aF => exact (fun _ _ => trivial)); (case aO => exact (rP Jf.out)); (case aS => exact (zB HB)); (case aL => have := Js.out; omega); intro Jx Jy ho hb hg hat; rw [← Jo.out] at ho; have n_ := aI (aM (hb)) (aM (ho)); clear HB Jf; obtain ⟨HB, Jp⟩ := n_; (try clear ho hb hg hat)))
      go_ret
      exact ⟨_, eW, by (with_reducible repeat (first | apply R_alloc | apply R_drewN | apply R_drew)); exact Jp.out, bB⟩
     ·rw [if_neg c9] at H
      exact absurd H (by simp)
 replace c3 := Bool.eq_false_iff.mpr c3;subst c3;rw [if_neg (show ¬ (false = true) by decide)] at H;obtain rfl := Option.some.inj H
 go_enter Try.func130, Try.ntmps130
 go_wp2_with (first | ((with_reducible refine gate_callee (f := 67) rfl ?_); refine gL (some 5) Try.func67 #[.int .i64 a0, .int .i64 0, .int .i64 2147483647] ?_; (with_reducible refine (impl_within.calls a0 0 2147483647 false _ A2.out).mono ?_); rintro e w' ⟨rfl, ⟨nd, rfl⟩⟩; refine ⟨_, rfl, ?_⟩))
 go_ret
 exact ⟨_, eW, by first | exact R_nil _ _ _ _ _ | exact Kd.N_nil _ _ _ _ _ | exact Kd.V_nil _ _ _ _ _ | exact Q_nil _ _ _ _ _ | exact Kd.S_nil _ _ _ _ _, bB⟩

def impl_PutText.f (k : Nat) (a0 : ByteArray) : Option (List Int) := (impl_PutNum.f k (a0.size : Int)).bind fun Ja => (if Ja.length + a0.size < 140737488355328 then (some (Ja ++ bytesOf a0)) else (none))
theorem impl_PutText.mono : ∀ a0 k, LeO (impl_PutText.f k a0) (impl_PutText.f (k + 1) a0) := by
 intro a0 k;unfold impl_PutText.f;have m0_ := @impl_PutNum.mono;exact mM
theorem impl_PutText.calls (k : Nat) (a0 : ByteArray) (r : List Int) (w : World) (h : impl_PutText.f k a0 = some r) :
  Calls Try.prog 117 #[.string a0] w fun e w' => ∃ Jk : Value, e = .returned (Jk) ∧ Kd.R (Kd.int .u8) 5 w' w.heap.size (fun _ => True) Jk r ∧ Below w.heap.size w w' := by
 have HB := aM (Below.refl w.heap.size w);unfold impl_PutText.f at h;have H := h;clear h;obtain ⟨Ja, A2, H⟩ := oB H;try dsimp only at H
 by_cases c3 : Ja.length + a0.size < 140737488355328
 ·rw [if_pos c3] at H
  have Jh := aM c3;clear c3;obtain ⟨Jd, Jb⟩ : ∃ y_ : List Int, y_ = (Ja ++ bytesOf a0) := ⟨_, rfl⟩;replace H : (some Jd) = some r := bQ Jb H;have Je := aM Jb;clear Jb;obtain rfl := Option.some.inj H
  go_enter Try.func117, Try.ntmps117
  go_wp2_with (first | ((with_reducible refine gate_callee (f := 130) rfl ?_); refine gL (some 5) Try.func130 #[.int .i64 (a0.size : Int)] ?_; (with_reducible refine (impl_PutNum.calls k (a0.size : Int) Ja _ A2.out).mono ?_); rintro e w4 ⟨Ji, rfl, Jf, hb⟩; refine ⟨_, rfl, ?_⟩; have n_ := aI (lR HB Jf) (sB HB hb); clear HB; obtain ⟨Jc, HB⟩ := n_; (try clear hb Jf)) | (at_builtin; refine print_append_str (w0 := w) w.heap.size rfl (.tmp 5) _ 60 9 5 rfl Try.underlying60 Try.underlying9 info5 Ji Ja a0 rfl rfl ?aO ?aB ?aS ?aL ?_; (case aB => exact bB); (case aO => exact (Kd.own_of_R (rP Jc.out))); (case aS => exact (zB HB)); (case aL => have := Jh.out; omega); intro Jj w5 Jf hb hg; have ho := R_of_own (h1 := fun _ => rfl) (ok := fun _ => True) Jf (fun _ _ => trivial); clear Jf; have hat := True.intro; rw [← Je.out] at ho; change Kd.R (Kd.int .u8) 5 w5 w.heap.size (fun _ => True) Jj Jd at ho; have n_ := aI (aM (hb)) (aM (ho)); clear HB Jc; obtain ⟨HB, Jg⟩ := n_; (try clear hb hg)))
  go_ret
  exact ⟨_, eW, by (with_reducible repeat (first | apply R_alloc | apply R_drewN | apply R_drew)); exact Jg.out, bB⟩
 rw [if_neg c3] at H;exact absurd H (by simp)

mutual
def impl_Crc.l0 : Nat → Int → List Int → Int → Int → Option (Int)
 | 0, _, _, _, _ => none
 | k + 1, x3, x7, x8, x9 => if x9 < x8 then (if 0 ≤ x9 then (if x9 < (x7.length : Int) then (impl_Crc.l1 k (Go.bits .xor .i64 x3 (wrap64 (rd x7 x9))) x7 x8 x9 0) else (none)) else (none)) else (some (Go.bits .xor .i64 x3 4294967295))
def impl_Crc.l1 : Nat → Int → List Int → Int → Int → Int → Option (Int)
 | 0, _, _, _, _, _ => none
 | k + 1, x3, x7, x8, x9, Jh => if Jh < 8 then (if (Go.bits .and .i64 x3 1) = 1 then (impl_Crc.l1 k (Go.bits .xor .i64 (x3 / 2) 3988292384) x7 x8 x9 (wrap64 (Jh + 1))) else (impl_Crc.l1 k (x3 / 2) x7 x8 x9 (wrap64 (Jh + 1)))) else (impl_Crc.l0 k x3 x7 x8 (wrap64 (x9 + 1)))
end
def impl_Crc.f (k : Nat) (l0 : List Int) : Option (Int) := impl_Crc.l0 k 4294967295 l0 (l0.length : Int) 0
theorem impl_Crc.mono_l : ∀ k, (∀ y0 y1 y2 y3, LeO (impl_Crc.l0 k y0 y1 y2 y3) (impl_Crc.l0 (k + 1) y0 y1 y2 y3)) ∧ (∀ y0 y1 y2 y3 y4, LeO (impl_Crc.l1 k y0 y1 y2 y3 y4) (impl_Crc.l1 (k + 1) y0 y1 y2 y3 y4))
 | 0 => ⟨fun _ _ _ _ r h => by simp [impl_Crc.l0] at h, fun _ _ _ _ _ r h => by simp [impl_Crc.l1] at h⟩
 | k + 1 => by
  obtain ⟨ih0, ih1⟩ := impl_Crc.mono_l k;refine ⟨?_, ?_⟩
  ·intro y0 y1 y2 y3
   unfold impl_Crc.l0;exact mM
  ·intro y0 y1 y2 y3 y4
   unfold impl_Crc.l1;exact mM
theorem impl_Crc.mono : ∀ a0 k, LeO (impl_Crc.f k a0) (impl_Crc.f (k + 1) a0) := by
 intro a0 k;obtain ⟨ih0, ih1⟩ := impl_Crc.mono_l k;unfold impl_Crc.f;exact mM
theorem impl_Crc.calls (k : Nat) (A0 : Option Addr) (c0 : Nat) (l0 : List Int) (r : Int) (w : World) (hr0 : Kd.C (Kd.int .u8) w A0 l0.length l0) (Jn : l0.length ≤ c0) (h : impl_Crc.f k l0 = some r) :
  Calls Try.prog 118 #[.slice A0 l0.length c0] w fun e w' => e = .returned (.int .i64 r) ∧ Drawn0 w w' := by
 have Jp := aM hr0;have Jt := aM Jn;clear hr0 Jn;unfold impl_Crc.f at h;have H := h;clear h;have H' := aM H;clear H
 go_enter Try.func118, Try.ntmps118
 go_wp2
 go_loopg [3, 9] k (fun kq v3 v9 w' => ∃ (Jd : Int) (Ja : Int), v3 = .int .i64 Jd ∧ v9 = .int .i64 Ja ∧ Aside0 (impl_Crc.l0 kq Jd l0 (l0.length : Int) Ja = some r) ∧ Aside0 (kq ≤ k) ∧ Drawn0 w w')
 case atStart => exact ⟨(4294967295), (0), eV, eV, H', ⟨Nat.le_refl _⟩, by repeat (first | exact Drawn0.refl _ | apply Drawn0.step)⟩
 case round =>
  clear H';obtain ⟨Jd, Ja, rfl, rfl, HA, HK1, ⟨m1, rfl⟩⟩ := hrel
  cases gk with
  | zero => exact absurd HA.out (by simp [impl_Crc.l0])
  | succ k1 =>
   have H := HA.out;clear HA;simp only [impl_Crc.l0] at H
   by_cases c2 : Ja < (l0.length : Int)
   ·rw [if_pos c2] at H
    have Ji := decide_eq_true c2;clear c2
    by_cases c3 : 0 ≤ Ja
    ·rw [if_pos c3] at H
     have Jq := decide_eq_true c3;clear c3
     by_cases c4 : Ja < (l0.length : Int)
     ·rw [if_pos c4] at H
      have Jr := decide_eq_true c4;clear c4;have H' := aM H;clear H;have Je : 0 ≤ (Ja : Int) := dT;have Jf : Ja < (l0.length : Int) := dT;obtain ⟨Jo, Jj, Jg⟩ := Kd.at_int Jp.out Ja Je Jf;cases Jj
      replace Je := eq_true Je;replace Jf := eq_true Jf
      go_wp2
      go_loopg [3, 17] k1 (fun kq v3 Js w' => ∃ (Jc : Int) (Jb : Int), v3 = .int .i64 Jc ∧ Js = .int .i64 Jb ∧ Aside0 (impl_Crc.l1 kq Jc l0 (l0.length : Int) Ja Jb = some r) ∧ Aside0 (kq ≤ k1) ∧ Drawn0 w w')
      case atStart => exact ⟨(Go.bits .xor .i64 Jd (wrap64 (rd l0 Ja))), (0), eV, eV, H', ⟨Nat.le_refl _⟩, by repeat (first | exact Drawn0.refl _ | apply Drawn0.step)⟩
      case round =>
       clear H';obtain ⟨Jc, Jb, rfl, rfl, HA, HK2, ⟨m2, rfl⟩⟩ := hrel
       cases gk with
       | zero => exact absurd HA.out (by simp [impl_Crc.l1])
       | succ k2 =>
        have H := HA.out;clear HA;simp only [impl_Crc.l1] at H
        by_cases c5 : Jb < 8
        ·rw [if_pos c5] at H
         have Jk := decide_eq_true c5;clear c5
         by_cases c6 : (Go.bits .and .i64 Jc 1) = 1
         ·rw [if_pos c6] at H
          have Jl := beq_iff_eq.mpr c6;have Jm := bne_eq_false_iff_eq.mpr c6;clear c6;have H' := aM H;clear H
          go_wp2
          go_roundg k2
          case measure => have := HK1.out; have := HK2.out; omega
          case rel => exact ⟨(Go.bits .xor .i64 (Jc / 2) 3988292384), (wrap64 (Jb + 1)), eV, eV, H', ⟨by have := HK1.out; have := HK2.out; omega⟩, by repeat (first | exact Drawn0.refl _ | apply Drawn0.step)⟩
         ·rw [if_neg c6] at H
          have Jl := beq_eq_false_iff_ne.mpr c6;have Jm := bne_iff_ne.mpr c6;have H' := aM H;clear H
          go_wp2
          go_roundg k2
          case measure => have := HK1.out; have := HK2.out; omega
          case rel => exact ⟨(Jc / 2), (wrap64 (Jb + 1)), eV, eV, H', ⟨by have := HK1.out; have := HK2.out; omega⟩, by repeat (first | exact Drawn0.refl _ | apply Drawn0.step)⟩
        ·rw [if_neg c5] at H
         have Jk := decide_eq_false c5;clear c5;have H' := aM H;clear H
         go_wp2
         go_roundg k2
         case measure => have := HK1.out; have := HK2.out; omega
         case rel => exact ⟨(Jc), (wrap64 (Ja + 1)), eV, eV, H', ⟨by have := HK1.out; have := HK2.out; omega⟩, by repeat (first | exact Drawn0.refl _ | apply Drawn0.step)⟩
     ·rw [if_neg c4] at H
      exact absurd H (by simp)
    ·rw [if_neg c3] at H
     exact absurd H (by simp)
   ·rw [if_neg c2] at H
    have Ji := decide_eq_false c2;clear c2;obtain rfl := Option.some.inj H
    go_wp2
    go_ret
    exact ⟨by first | rfl | (simp; done) | (simp [*]; done), by repeat (first | exact Drawn0.refl _ | apply Drawn0.step)⟩

end Go.Proofs.Ytgmpdkefegofhaa.PFnAtomic
