-- printed
import Derived.Test.YtgmpdkefegofhaaPFnAtomicx0
import Derived.Test.YtgmpdkefegofhaaPFnAtomicx2
namespace Go.Proofs.Ytgmpdkefegofhaa.PFnAtomic
open Go.RowKit Go.Proofs.YtgmpdkefegofhaaW.PrintWords Go.Proofs.YtgmpdkefegofhaaW.PrintLast Go.Proofs.YtgmpdkefegofhaaW.PrintMore Go.Proofs.YtgmpdkefegofhaaW.Cr
attribute [local go_sem] max2_int min2_int max_two min_two max_three min_three max_four min_four
set_option maxHeartbeats 8000000
set_option maxRecDepth 100000
set_option linter.unusedVariables false
set_option linter.unusedSimpArgs false

mutual
def impl_TxOk.j0 : Nat → Int → List (S65) → Bool → Option (Bool)
 | 0, _, _, _ => none
 | k + 1, x0, x1, JC => if JC = true then (some false) else (impl_TxOk.l0 k x0 (-1) x1 (x1.length : Int) 0)
def impl_TxOk.l0 : Nat → Int → Int → List (S65) → Int → Int → Option (Bool)
 | 0, _, _, _, _, _ => none
 | k + 1, x0, x5, Jr, Jy, Jn => if Jn < Jy then (if 0 ≤ Jn then (if Jn < (Jr.length : Int) then ((impl_within.f ((rd_T65 Jr Jn).f0) (wrap64 (x5 + 1)) (wrap64 (x0 - 1))).bind fun Jo => (if Jo = true then ((impl_short.f ((rd_T65 Jr Jn).f1)).bind fun Jp => (if Jp = true then (impl_TxOk.l0 k x0 ((rd_T65 Jr Jn).f0) Jr Jy (wrap64 (Jn + 1))) else (some false))) else (some false))) else (none)) else (none)) else (some true)
end
def impl_TxOk.f (k : Nat) (a0 : Int) (l1 : List (S65)) : Option (Bool) := (impl_within.f a0 1 48).bind fun Jq => (if Jq = true then (impl_TxOk.j0 k a0 l1 ((l1.length : Int) == 0)) else (impl_TxOk.j0 k a0 l1 true))
theorem impl_TxOk.mono_l : ∀ k, (∀ y0 y1 y2, LeO (impl_TxOk.j0 k y0 y1 y2) (impl_TxOk.j0 (k + 1) y0 y1 y2)) ∧ (∀ y0 y1 y2 y3 y4, LeO (impl_TxOk.l0 k y0 y1 y2 y3 y4) (impl_TxOk.l0 (k + 1) y0 y1 y2 y3 y4))
 | 0 => ⟨fun _ _ _ r h => by simp [impl_TxOk.j0] at h, fun _ _ _ _ _ r h => by simp [impl_TxOk.l0] at h⟩
 | k + 1 => by
  obtain ⟨ih0, ih1⟩ := impl_TxOk.mono_l k;refine ⟨?_, ?_⟩
  ·intro y0 y1 y2
   unfold impl_TxOk.j0;exact mM
  ·intro y0 y1 y2 y3 y4
   unfold impl_TxOk.l0;exact mM
theorem impl_TxOk.mono : ∀ a0 a1 k, LeO (impl_TxOk.f k a0 a1) (impl_TxOk.f (k + 1) a0 a1) := by
 intro a0 a1 k;obtain ⟨ih0, ih1⟩ := impl_TxOk.mono_l k;unfold impl_TxOk.f;exact mM
theorem impl_TxOk.calls (k : Nat) (a0 : Int) (A1 : Option Addr) (c1 : Nat) (l1 : List (S65)) (r : Bool) (w : World) (hr1 : Kd.C k65 w A1 l1.length l1) (Jz : l1.length ≤ c1) (h : impl_TxOk.f k a0 l1 = some r) :
  Calls Try.prog 100 #[.int .i64 a0, .slice A1 l1.length c1] w fun e w' => e = .returned (.bool r) ∧ Below w.heap.size w w' := by
 have hu65 := Try.underlying65;have Ju := aM hr1;have JH := aM Jz;clear hr1 Jz;have HB := aM (Below.refl w.heap.size w);unfold impl_TxOk.f at h;have H := h;clear h;have Jv := aM H;clear H
 go_enter Try.func100, Try.ntmps100
 go_upto_region 1 with (fail)
 go_cut [15] (fun JD wc => ∃ (kq : Nat) (Jh : Bool), JD = .bool Jh ∧ Aside0 (impl_TxOk.j0 kq a0 l1 Jh = some r) ∧ Aside0 (kq ≤ k) ∧ Aside0 (Below w.heap.size w wc))
 case first =>
  have H := Jv.out;clear Jv;obtain ⟨Jq, A4, H⟩ := oB H;try dsimp only at H
  by_cases c5 : Jq = true
  ·subst c5
   rw [if_pos rfl] at H;have H' := aM H;clear H
   go_wp2_with (first | ((with_reducible refine gate_callee (f := 67) rfl ?_); refine gL (some 9) Try.func67 #[.int .i64 a0, .int .i64 1, .int .i64 48] ?_; (with_reducible refine (impl_within.calls a0 1 48 true _ A4.out).mono ?_); rintro e w' ⟨rfl, ⟨nd, rfl⟩⟩; refine ⟨_, rfl, ?_⟩))
   go_meet
   case rel => exact ⟨_, (((l1.length : Int) == 0)), eV, H', ⟨by first | omega | exact Nat.le_refl _⟩, ⟨bB⟩⟩
  replace c5 := Bool.eq_false_iff.mpr c5;subst c5;rw [if_neg (show ¬ (false = true) by decide)] at H;have H' := aM H;clear H
  go_wp2_with (first | ((with_reducible refine gate_callee (f := 67) rfl ?_); refine gL (some 9) Try.func67 #[.int .i64 a0, .int .i64 1, .int .i64 48] ?_; (with_reducible refine (impl_within.calls a0 1 48 false _ A4.out).mono ?_); rintro e w' ⟨rfl, ⟨nd, rfl⟩⟩; refine ⟨_, rfl, ?_⟩))
  go_meet
  case rel => exact ⟨_, (true), eV, H', ⟨by first | omega | exact Nat.le_refl _⟩, ⟨bB⟩⟩
 case rest =>
  clear Jv;obtain ⟨kq, Jh, rfl, HA, HJ2, HB⟩ := hcut
  cases kq with
  | zero => exact absurd HA.out (by simp [impl_TxOk.j0])
  | succ JA =>
   have H := HA.out;clear HA;simp only [impl_TxOk.j0] at H
   by_cases c6 : Jh = true
   ·subst c6
    rw [if_pos rfl] at H;obtain rfl := Option.some.inj H
    go_wp2
    go_ret
    exact ⟨eW, bB⟩
   ·replace c6 := Bool.eq_false_iff.mpr c6
    subst c6;rw [if_neg (show ¬ (false = true) by decide)] at H;have H' := aM H;clear H
    go_wp2
    go_loopg [5, 18] JA (fun kq v5 JE w' => ∃ (Jf : Int) (Ja : Int), v5 = .int .i64 Jf ∧ JE = .int .i64 Ja ∧ Aside0 (impl_TxOk.l0 kq a0 Jf l1 (l1.length : Int) Ja = some r) ∧ Aside0 (kq ≤ JA) ∧ Aside0 (Below w.heap.size w w'))
    case atStart => exact ⟨((-1)), (0), eV, eV, H', ⟨Nat.le_refl _⟩, ⟨bB⟩⟩
    case round =>
     clear H';obtain ⟨Jf, Ja, rfl, rfl, HA, HK2, HB⟩ := hrel
     cases gk with
     | zero => exact absurd HA.out (by simp [impl_TxOk.l0])
     | succ k2 =>
      have H := HA.out;clear HA;simp only [impl_TxOk.l0] at H
      by_cases c7 : Ja < (l1.length : Int)
      ·rw [if_pos c7] at H
       have Jw := decide_eq_true c7;clear c7
       by_cases c8 : 0 ≤ Ja
       ·rw [if_pos c8] at H
        have JF := decide_eq_true c8;clear c8
        by_cases c9 : Ja < (l1.length : Int)
        ·rw [if_pos c9] at H
         have JG := decide_eq_true c9;clear c9;obtain ⟨Jo, Jx, H⟩ := oB H;try dsimp only at H
         by_cases Js : Jo = true
         ·subst Js
          rw [if_pos rfl] at H;obtain ⟨Jp, JB, H⟩ := oB H;try dsimp only at H
          by_cases Jt : Jp = true
          ·subst Jt
           rw [if_pos rfl] at H;have H' := aM H;clear H;have Jd : 0 ≤ (Ja : Int) := dT;have Je : Ja < (l1.length : Int) := dT;obtain ⟨Jj, Ji, Jb, Jc⟩ := at_T65 Ju.out Ja Jd Je;cases Ji
           replace Jb := (HB.out.cell (World.block_lt_of_cell? w _ Jb)).trans Jb;replace Jc := (HB.out.cell (World.block_lt_of_cell? w _ Jc)).trans Jc;replace Jd := eq_true Jd;replace Je := eq_true Je
           go_wp2_with (first | ((with_reducible refine gate_dst (N := 7) rfl ?_); (try (refine gate_guard (by rfl) ?_; dsimp only)); refine box_event ?hg (N := 7) ?hd (cs := #[.int .i64 0, .string (⟨#[]⟩ : ByteArray)]) (t := 65) ?hr ?_; (case hd => rfl); (case hg => rfl); (case hr => first | (go_simp; done) | (go_simp; rfl)); intro Jk hg JI hbox hb; have n_ := aI (sB HB hb) (aI (aM hbox) (aI (gE HB hg) (gE HB hg))); clear HB; obtain ⟨HB, Jg, Jl, Jm⟩ := n_; (try clear hb hbox hg); obtain ⟨_, _, _, _⟩ := z2 Jg) | ((with_reducible refine gate_callee (f := 67) rfl ?_); refine gL (some 28) Try.func67 #[.int .i64 ((rd_T65 l1 Ja).f0), .int .i64 (wrap64 (Jf + 1)), .int .i64 (wrap64 (a0 - 1))] ?_; (with_reducible refine (impl_within.calls ((rd_T65 l1 Ja).f0) (wrap64 (Jf + 1)) (wrap64 (a0 - 1)) true _ Jx.out).mono ?_); rintro e w' ⟨rfl, ⟨nd, rfl⟩⟩; refine ⟨_, rfl, ?_⟩) | (go_at_call 64; (with_reducible refine (impl_short.calls ((rd_T65 l1 Ja).f1) true _ JB.out).mono ?_); rintro e w' ⟨rfl, ⟨nd, rfl⟩⟩))
           go_roundg k2
           case measure => have := HJ2.out; have := HK2.out; omega
           case rel => exact ⟨((rd_T65 l1 Ja).f0), (wrap64 (Ja + 1)), eV, eV, H', ⟨by have := HJ2.out; have := HK2.out; omega⟩, ⟨bB⟩⟩
          ·replace Jt := Bool.eq_false_iff.mpr Jt
           subst Jt;rw [if_neg (show ¬ (false = true) by decide)] at H;obtain rfl := Option.some.inj H;have Jd : 0 ≤ (Ja : Int) := dT;have Je : Ja < (l1.length : Int) := dT;obtain ⟨Jj, Ji, Jb, Jc⟩ := at_T65 Ju.out Ja Jd Je;cases Ji
           replace Jb := (HB.out.cell (World.block_lt_of_cell? w _ Jb)).trans Jb;replace Jc := (HB.out.cell (World.block_lt_of_cell? w _ Jc)).trans Jc;replace Jd := eq_true Jd;replace Je := eq_true Je
           go_wp2_with (first | ((with_reducible refine gate_dst (N := 7) rfl ?_); (try (refine gate_guard (by rfl) ?_; dsimp only)); refine box_event ?hg (N := 7) ?hd (cs := #[.int .i64 0, .string (⟨#[]⟩ : ByteArray)]) (t := 65) ?hr ?_; (case hd => rfl); (case hg => rfl); (case hr => first | (go_simp; done) | (go_simp; rfl)); intro Jk hg JJ hbox hb; have n_ := aI (sB HB hb) (aI (aM hbox) (aI (gE HB hg) (gE HB hg))); clear HB; obtain ⟨HB, Jg, Jl, Jm⟩ := n_; (try clear hb hbox hg); obtain ⟨_, _, _, _⟩ := z2 Jg) | ((with_reducible refine gate_callee (f := 67) rfl ?_); refine gL (some 28) Try.func67 #[.int .i64 ((rd_T65 l1 Ja).f0), .int .i64 (wrap64 (Jf + 1)), .int .i64 (wrap64 (a0 - 1))] ?_; (with_reducible refine (impl_within.calls ((rd_T65 l1 Ja).f0) (wrap64 (Jf + 1)) (wrap64 (a0 - 1)) true _ Jx.out).mono ?_); rintro e w' ⟨rfl, ⟨nd, rfl⟩⟩; refine ⟨_, rfl, ?_⟩) | (go_at_call 64; (with_reducible refine (impl_short.calls ((rd_T65 l1 Ja).f1) false _ JB.out).mono ?_); rintro e w' ⟨rfl, ⟨nd, rfl⟩⟩))
           go_ret
           exact ⟨eW, bB⟩
         ·replace Js := Bool.eq_false_iff.mpr Js
          subst Js;rw [if_neg (show ¬ (false = true) by decide)] at H;obtain rfl := Option.some.inj H;have Jd : 0 ≤ (Ja : Int) := dT;have Je : Ja < (l1.length : Int) := dT;obtain ⟨Jj, Ji, Jb, Jc⟩ := at_T65 Ju.out Ja Jd Je;cases Ji
          replace Jb := (HB.out.cell (World.block_lt_of_cell? w _ Jb)).trans Jb;replace Jc := (HB.out.cell (World.block_lt_of_cell? w _ Jc)).trans Jc;replace Jd := eq_true Jd;replace Je := eq_true Je
          go_wp2_with (first | ((with_reducible refine gate_dst (N := 7) rfl ?_); (try (refine gate_guard (by rfl) ?_; dsimp only)); refine box_event ?hg (N := 7) ?hd (cs := #[.int .i64 0, .string (⟨#[]⟩ : ByteArray)]) (t := 65) ?hr ?_; (case hd => rfl); (case hg => rfl); (case hr => first | (go_simp; done) | (go_simp; rfl)); intro Jk hg JK hbox hb; have n_ := aI (sB HB hb) (aI (aM hbox) (aI (gE HB hg) (gE HB hg))); clear HB; obtain ⟨HB, Jg, Jl, Jm⟩ := n_; (try clear hb hbox hg); obtain ⟨_, _, _, _⟩ := z2 Jg) | ((with_reducible refine gate_callee (f := 67) rfl ?_); refine gL (some 28) Try.func67 #[.int .i64 ((rd_T65 l1 Ja).f0), .int .i64 (wrap64 (Jf + 1)), .int .i64 (wrap64 (a0 - 1))] ?_; (with_reducible refine (impl_within.calls ((rd_T65 l1 Ja).f0) (wrap64 (Jf + 1)) (wrap64 (a0 - 1)) false _ Jx.out).mono ?_); rintro e w' ⟨rfl, ⟨nd, rfl⟩⟩; refine ⟨_, rfl, ?_⟩))
          go_ret
          exact ⟨eW, bB⟩
        ·rw [if_neg c9] at H
         exact absurd H (by simp)
       ·rw [if_neg c8] at H
        exact absurd H (by simp)
      ·rw [if_neg c7] at H
       have Jw := decide_eq_false c7;clear c7;obtain rfl := Option.some.inj H
       go_wp2
       go_ret
       exact ⟨eW, bB⟩

mutual
def impl_GetNum.l0 : Nat → List Int → Int → Int → Int → Option (Int × Int × Bool)
 | 0, _, _, _, _ => none
 | k + 1, x0, x1, x7, x8 => if x8 < 5 then (impl_GetNum.j1 k x0 x1 x7 x8 (decide ((wrap64 (x1 + x8)) < (x0.length : Int)))) else (impl_GetNum.j1 k x0 x1 x7 x8 false)
def impl_GetNum.j1 : Nat → List Int → Int → Int → Int → Bool → Option (Int × Int × Bool)
 | 0, _, _, _, _, _ => none
 | k + 1, x0, x1, x7, x8, JG => if JG = true then (if 0 ≤ (wrap64 (x1 + x8)) then (if (wrap64 (x1 + x8)) < (x0.length : Int) then (if 0 ≤ (wrap64 (7 * x8)) then (if (wrap64 (rd x0 (wrap64 (x1 + x8)))) ≥ 128 then (impl_GetNum.l0 k x0 x1 (Go.bits .or .i64 x7 (shl .i64 (Go.bits .and .i64 (wrap64 (rd x0 (wrap64 (x1 + x8)))) 127) (wrap64 (7 * x8)))) (wrap64 (x8 + 1))) else (if (wrap64 (rd x0 (wrap64 (x1 + x8)))) = 0 then (if x8 > 0 then (some (0, 0, false)) else (if (Go.bits .or .i64 x7 (shl .i64 (Go.bits .and .i64 (wrap64 (rd x0 (wrap64 (x1 + x8)))) 127) (wrap64 (7 * x8)))) > 2147483647 then (some (0, 0, false)) else (some (Go.bits .or .i64 x7 (shl .i64 (Go.bits .and .i64 (wrap64 (rd x0 (wrap64 (x1 + x8)))) 127) (wrap64 (7 * x8))), wrap64 ((wrap64 (x1 + x8)) + 1), true)))) else (if (Go.bits .or .i64 x7 (shl .i64 (Go.bits .and .i64 (wrap64 (rd x0 (wrap64 (x1 + x8)))) 127) (wrap64 (7 * x8)))) > 2147483647 then (some (0, 0, false)) else (some (Go.bits .or .i64 x7 (shl .i64 (Go.bits .and .i64 (wrap64 (rd x0 (wrap64 (x1 + x8)))) 127) (wrap64 (7 * x8))), wrap64 ((wrap64 (x1 + x8)) + 1), true))))) else (none)) else (none)) else (none)) else (some (0, 0, false))
end
def impl_GetNum.f (k : Nat) (l0 : List Int) (a1 : Int) : Option (Int × Int × Bool) := (impl_within.f a1 0 (l0.length : Int)).bind fun Jj => (if Jj = true then (impl_GetNum.l0 k l0 a1 0 0) else (some (0, 0, false)))
theorem impl_GetNum.mono_l : ∀ k, (∀ y0 y1 y2 y3, LeO (impl_GetNum.l0 k y0 y1 y2 y3) (impl_GetNum.l0 (k + 1) y0 y1 y2 y3)) ∧ (∀ y0 y1 y2 y3 y4, LeO (impl_GetNum.j1 k y0 y1 y2 y3 y4) (impl_GetNum.j1 (k + 1) y0 y1 y2 y3 y4))
 | 0 => ⟨fun _ _ _ _ r h => by simp [impl_GetNum.l0] at h, fun _ _ _ _ _ r h => by simp [impl_GetNum.j1] at h⟩
 | k + 1 => by
  obtain ⟨ih0, ih1⟩ := impl_GetNum.mono_l k;refine ⟨?_, ?_⟩
  ·intro y0 y1 y2 y3
   unfold impl_GetNum.l0;exact mM
  ·intro y0 y1 y2 y3 y4
   unfold impl_GetNum.j1;exact mM
theorem impl_GetNum.mono : ∀ a0 a1 k, LeO (impl_GetNum.f k a0 a1) (impl_GetNum.f (k + 1) a0 a1) := by
 intro a0 a1 k;obtain ⟨ih0, ih1⟩ := impl_GetNum.mono_l k;unfold impl_GetNum.f;exact mM
theorem impl_GetNum.calls (k : Nat) (A0 : Option Addr) (c0 : Nat) (l0 : List Int) (a1 : Int) (r1 : Int) (r2 : Int) (r3 : Bool) (w : World) (hr0 : Kd.C (Kd.int .u8) w A0 l0.length l0) (JC : l0.length ≤ c0) (h : impl_GetNum.f k l0 a1 = some (r1, r2, r3)) :
  Calls Try.prog 116 #[.slice A0 l0.length c0, .int .i64 a1] w fun e w' => e = .returned (.tuple #[.int .i64 r1, .int .i64 r2, .bool r3]) ∧ Drawn0 w w' := by
 have Jl := aM hr0;have JJ := aM JC;clear hr0 JC;unfold impl_GetNum.f at h;have H := h;clear h;obtain ⟨Jj, A3, H⟩ := oB H;try dsimp only at H
 by_cases c4 : Jj = true
 ·subst c4
  rw [if_pos rfl] at H;have H' := aM H;clear H
  go_enter Try.func116, Try.ntmps116
  go_wp2_with (first | ((with_reducible refine gate_callee (f := 67) rfl ?_); refine gL (some 13) Try.func67 #[.int .i64 a1, .int .i64 0, .int .i64 (l0.length : Int)] ?_; (with_reducible refine (impl_within.calls a1 0 (l0.length : Int) true _ A3.out).mono ?_); rintro e w' ⟨rfl, ⟨nd, rfl⟩⟩; refine ⟨_, rfl, ?_⟩))
  go_loopg [7, 8] k (fun kq v7 v8 w' => ∃ (Jd : Int) (Ja : Int), v7 = .int .i64 Jd ∧ v8 = .int .i64 Ja ∧ Aside0 (impl_GetNum.l0 kq l0 a1 Jd Ja = some (r1, r2, r3)) ∧ Aside0 (kq ≤ k) ∧ Drawn0 w w')
  case atStart => exact ⟨(0), (0), eV, eV, H', ⟨Nat.le_refl _⟩, by repeat (first | exact Drawn0.refl _ | apply Drawn0.step)⟩
  case round =>
   clear H';obtain ⟨Jd, Ja, rfl, rfl, HA, HK1, ⟨m1, rfl⟩⟩ := hrel
   cases gk with
   | zero => exact absurd HA.out (by simp [impl_GetNum.l0])
   | succ k1 =>
    have H := HA.out;clear HA;simp only [impl_GetNum.l0] at H;have Jz := aM H;clear H
    go_upto_region 5 with (fail)
    go_cut [24] (fun JH wc => ∃ (kq : Nat) (Jh : Bool), JH = .bool Jh ∧ Aside0 (impl_GetNum.j1 kq l0 a1 Jd Ja Jh = some (r1, r2, r3)) ∧ Aside0 (kq ≤ k1) ∧ Drawn0 w wc)
    case first =>
     have H := Jz.out;clear Jz
     by_cases c6 : Ja < 5
     ·rw [if_pos c6] at H
      have Ji := decide_eq_true c6;clear c6;(first | rw [Ji] | (simp only [i64_w, i32_w]; rw [Ji]) | rw [JA] | rw [JB] | skip);have H' := aM H;clear H
      go_wp2
      go_meet
      case rel => exact ⟨_, (decide ((wrap64 (a1 + Ja)) < (l0.length : Int))), eV, H', ⟨by have := HK1.out; first | omega | exact Nat.le_refl _⟩, by repeat (first | exact Drawn0.refl _ | apply Drawn0.step)⟩
     ·rw [if_neg c6] at H
      have Ji := decide_eq_false c6;clear c6;(first | rw [Ji] | (simp only [i64_w, i32_w]; rw [Ji]) | rw [JA] | rw [JB] | skip);have H' := aM H;clear H
      go_wp2
      go_meet
      case rel => exact ⟨_, (false), eV, H', ⟨by have := HK1.out; first | omega | exact Nat.le_refl _⟩, by repeat (first | exact Drawn0.refl _ | apply Drawn0.step)⟩
    case rest =>
     clear Jz;obtain ⟨kq, Jh, rfl, HA, HJ4, ⟨mc4, rfl⟩⟩ := hcut
     cases kq with
     | zero => exact absurd HA.out (by simp [impl_GetNum.j1])
     | succ Jx =>
      have H := HA.out;clear HA;simp only [impl_GetNum.j1] at H
      by_cases c7 : Jh = true
      ·subst c7
       rw [if_pos rfl] at H;obtain ⟨ji8, hji8⟩ : ∃ j_ : Int, (wrap64 (a1 + Ja)) = j_ := ⟨_, rfl⟩;replace H : (if 0 ≤ (ji8) then (if (ji8) < (l0.length : Int) then (if 0 ≤ (wrap64 (7 * Ja)) then (if (wrap64 (rd l0 (ji8))) ≥ 128 then (impl_GetNum.l0 Jx l0 a1 (Go.bits .or .i64 Jd (shl .i64 (Go.bits .and .i64 (wrap64 (rd l0 (ji8))) 127) (wrap64 (7 * Ja)))) (wrap64 (Ja + 1))) else (if (wrap64 (rd l0 (ji8))) = 0 then (if Ja > 0 then (some (0, 0, false)) else (if (Go.bits .or .i64 Jd (shl .i64 (Go.bits .and .i64 (wrap64 (rd l0 (ji8))) 127) (wrap64 (7 * Ja)))) > 2147483647 then (some (0, 0, false)) else (some (Go.bits .or .i64 Jd (shl .i64 (Go.bits .and .i64 (wrap64 (rd l0 (ji8))) 127) (wrap64 (7 * Ja))), wrap64 ((ji8) + 1), true)))) else (if (Go.bits .or .i64 Jd (shl .i64 (Go.bits .and .i64 (wrap64 (rd l0 (ji8))) 127) (wrap64 (7 * Ja)))) > 2147483647 then (some (0, 0, false)) else (some (Go.bits .or .i64 Jd (shl .i64 (Go.bits .and .i64 (wrap64 (rd l0 (ji8))) 127) (wrap64 (7 * Ja))), wrap64 ((ji8) + 1), true))))) else (none)) else (none)) else (none)) = some (r1, r2, r3) := by first | (rw [hji8] at H; exact H) | (simp only [hji8] at H ⊢; exact H)
       have hji8w : (IntKind.i64.wrap (a1 + Ja)) = ji8 := (i64_w _).trans hji8
       by_cases c9 : 0 ≤ (ji8)
       ·rw [if_pos c9] at H
        have JI := decide_eq_true c9;clear c9
        by_cases Jy : (ji8) < (l0.length : Int)
        ·rw [if_pos Jy] at H
         have JD := decide_eq_true Jy;clear Jy;obtain ⟨ji11, hji11⟩ : ∃ j_ : Int, (wrap64 (7 * Ja)) = j_ := ⟨_, rfl⟩;replace H : (if 0 ≤ (ji11) then (if (wrap64 (rd l0 (ji8))) ≥ 128 then (impl_GetNum.l0 Jx l0 a1 (Go.bits .or .i64 Jd (shl .i64 (Go.bits .and .i64 (wrap64 (rd l0 (ji8))) 127) (ji11))) (wrap64 (Ja + 1))) else (if (wrap64 (rd l0 (ji8))) = 0 then (if Ja > 0 then (some (0, 0, false)) else (if (Go.bits .or .i64 Jd (shl .i64 (Go.bits .and .i64 (wrap64 (rd l0 (ji8))) 127) (ji11))) > 2147483647 then (some (0, 0, false)) else (some (Go.bits .or .i64 Jd (shl .i64 (Go.bits .and .i64 (wrap64 (rd l0 (ji8))) 127) (ji11)), wrap64 ((ji8) + 1), true)))) else (if (Go.bits .or .i64 Jd (shl .i64 (Go.bits .and .i64 (wrap64 (rd l0 (ji8))) 127) (ji11))) > 2147483647 then (some (0, 0, false)) else (some (Go.bits .or .i64 Jd (shl .i64 (Go.bits .and .i64 (wrap64 (rd l0 (ji8))) 127) (ji11)), wrap64 ((ji8) + 1), true))))) else (none)) = some (r1, r2, r3) := by first | (rw [hji11] at H; exact H) | (simp only [hji11] at H ⊢; exact H)
         have hji11w : (IntKind.i64.wrap (7 * Ja)) = ji11 := (i64_w _).trans hji11
         by_cases Jq : 0 ≤ (ji11)
         ·rw [if_pos Jq] at H
          have JE := eq_true Jq;have JF := decide_eq_true Jq;clear Jq;obtain ⟨ji13, hji13⟩ : ∃ j_ : Int, (shl .i64 (Go.bits .and .i64 (wrap64 (rd l0 (ji8))) 127) (ji11)) = j_ := ⟨_, rfl⟩;replace H : (if (wrap64 (rd l0 (ji8))) ≥ 128 then (impl_GetNum.l0 Jx l0 a1 (Go.bits .or .i64 Jd (ji13)) (wrap64 (Ja + 1))) else (if (wrap64 (rd l0 (ji8))) = 0 then (if Ja > 0 then (some (0, 0, false)) else (if (Go.bits .or .i64 Jd (ji13)) > 2147483647 then (some (0, 0, false)) else (some (Go.bits .or .i64 Jd (ji13), wrap64 ((ji8) + 1), true)))) else (if (Go.bits .or .i64 Jd (ji13)) > 2147483647 then (some (0, 0, false)) else (some (Go.bits .or .i64 Jd (ji13), wrap64 ((ji8) + 1), true))))) = some (r1, r2, r3) := by first | (rw [hji13] at H; exact H) | (simp only [hji13] at H ⊢; exact H)
          have hji13_ : (IntKind.i64.wrap ((Go.bits .and .i64 (wrap64 (rd l0 (ji8))) 127) * 2 ^ min (ji11).toNat 64)) = ji13 := hji13;have hji13z : (ji11) ≤ 64 → (IntKind.i64.wrap ((Go.bits .and .i64 (wrap64 (rd l0 (ji8))) 127) * 2 ^ (ji11).toNat)) = ji13 := shl_small hji13;have hji13y : (wrap64 ((Go.bits .and .i64 (wrap64 (rd l0 (ji8))) 127) * 2 ^ min (ji11).toNat 64)) = ji13 := (i64_w _).symm.trans hji13_;have hji13x : (ji11) ≤ 64 → (wrap64 ((Go.bits .and .i64 (wrap64 (rd l0 (ji8))) 127) * 2 ^ (ji11).toNat)) = ji13 := fun h_ => (i64_w _).symm.trans (hji13z h_)
          by_cases Jm : (wrap64 (rd l0 (ji8))) ≥ 128
          ·rw [if_pos Jm] at H
           have Jr := decide_eq_true Jm;clear Jm;have H' := aM H;clear H;have Jb : 0 ≤ ((ji8) : Int) := dT;have Jc : (ji8) < (l0.length : Int) := dT;obtain ⟨Jg, Jf, Je⟩ := Kd.at_int Jl.out (ji8) Jb Jc;cases Jf
           replace Jb := eq_true Jb;replace Jc := eq_true Jc
           go_wp2
           go_roundg Jx
           case measure => have := HK1.out; have := HJ4.out; omega
           case rel => exact ⟨(Go.bits .or .i64 Jd (ji13)), (wrap64 (Ja + 1)), (by first | rfl | (simp; done) | (simp only [← hji13] <;> (first | rfl | simp)) | (simp [*]; done)), eV, H', ⟨by have := HK1.out; have := HJ4.out; omega⟩, by repeat (first | exact Drawn0.refl _ | apply Drawn0.step)⟩
          ·rw [if_neg Jm] at H
           have Jr := decide_eq_false Jm;clear Jm
           by_cases Jk : (wrap64 (rd l0 (ji8))) = 0
           ·rw [if_pos Jk] at H
            have Js := beq_iff_eq.mpr Jk;have Jt := bne_eq_false_iff_eq.mpr Jk;clear Jk
            by_cases Jn : Ja > 0
            ·rw [if_pos Jn] at H
             have Ju := decide_eq_true Jn;clear Jn;simp only [Option.some.injEq, Prod.mk.injEq] at H;obtain ⟨rfl, rfl, rfl⟩ := H;have Jb : 0 ≤ ((ji8) : Int) := dT;have Jc : (ji8) < (l0.length : Int) := dT;obtain ⟨Jg, Jf, Je⟩ := Kd.at_int Jl.out (ji8) Jb Jc;cases Jf
             replace Jb := eq_true Jb;replace Jc := eq_true Jc
             go_wp2
             go_ret3
             exact ⟨by first | rfl | (simp; done) | (simp only [← hji8, ← hji11, ← hji13] <;> (first | rfl | simp)) | (simp [*]; done), by repeat (first | exact Drawn0.refl _ | apply Drawn0.step)⟩
            ·rw [if_neg Jn] at H
             have Ju := decide_eq_false Jn;clear Jn
             by_cases Jo : (Go.bits .or .i64 Jd (ji13)) > 2147483647
             ·rw [if_pos Jo] at H
              have Jv := decide_eq_true Jo;clear Jo;simp only [Option.some.injEq, Prod.mk.injEq] at H;obtain ⟨rfl, rfl, rfl⟩ := H;have Jb : 0 ≤ ((ji8) : Int) := dT;have Jc : (ji8) < (l0.length : Int) := dT;obtain ⟨Jg, Jf, Je⟩ := Kd.at_int Jl.out (ji8) Jb Jc;cases Jf
              replace Jb := eq_true Jb;replace Jc := eq_true Jc
              go_wp2
              go_ret3
              exact ⟨by first | rfl | (simp; done) | (simp only [← hji8, ← hji11, ← hji13] <;> (first | rfl | simp)) | (simp [*]; done), by repeat (first | exact Drawn0.refl _ | apply Drawn0.step)⟩
             ·rw [if_neg Jo] at H
              have Jv := decide_eq_false Jo;clear Jo;simp only [Option.some.injEq, Prod.mk.injEq] at H;obtain ⟨rfl, rfl, rfl⟩ := H;have Jb : 0 ≤ ((ji8) : Int) := dT;have Jc : (ji8) < (l0.length : Int) := dT;obtain ⟨Jg, Jf, Je⟩ := Kd.at_int Jl.out (ji8) Jb Jc;cases Jf
              replace Jb := eq_true Jb;replace Jc := eq_true Jc
              go_wp2
              go_ret3
              exact ⟨by first | rfl | (simp; done) | (simp only [← hji8, ← hji11, ← hji13] <;> (first | rfl | simp)) | (simp [*]; done), by repeat (first | exact Drawn0.refl _ | apply Drawn0.step)⟩
           ·rw [if_neg Jk] at H
            have Js := beq_eq_false_iff_ne.mpr Jk;have Jt := bne_iff_ne.mpr Jk
            by_cases Jp : (Go.bits .or .i64 Jd (ji13)) > 2147483647
            ·rw [if_pos Jp] at H
             have Jw := decide_eq_true Jp;clear Jp;simp only [Option.some.injEq, Prod.mk.injEq] at H;obtain ⟨rfl, rfl, rfl⟩ := H;have Jb : 0 ≤ ((ji8) : Int) := dT;have Jc : (ji8) < (l0.length : Int) := dT;obtain ⟨Jg, Jf, Je⟩ := Kd.at_int Jl.out (ji8) Jb Jc;cases Jf
             replace Jb := eq_true Jb;replace Jc := eq_true Jc
             go_wp2
             go_ret3
             exact ⟨by first | rfl | (simp; done) | (simp only [← hji8, ← hji11, ← hji13] <;> (first | rfl | simp)) | (simp [*]; done), by repeat (first | exact Drawn0.refl _ | apply Drawn0.step)⟩
            ·rw [if_neg Jp] at H
             have Jw := decide_eq_false Jp;clear Jp;simp only [Option.some.injEq, Prod.mk.injEq] at H;obtain ⟨rfl, rfl, rfl⟩ := H;have Jb : 0 ≤ ((ji8) : Int) := dT;have Jc : (ji8) < (l0.length : Int) := dT;obtain ⟨Jg, Jf, Je⟩ := Kd.at_int Jl.out (ji8) Jb Jc;cases Jf
             replace Jb := eq_true Jb;replace Jc := eq_true Jc
             go_wp2
             go_ret3
             exact ⟨by first | rfl | (simp; done) | (simp only [← hji8, ← hji11, ← hji13] <;> (first | rfl | simp)) | (simp [*]; done), by repeat (first | exact Drawn0.refl _ | apply Drawn0.step)⟩
         ·rw [if_neg Jq] at H
          exact absurd H (by simp)
        ·rw [if_neg Jy] at H
         exact absurd H (by simp)
       ·rw [if_neg c9] at H
        exact absurd H (by simp)
      ·replace c7 := Bool.eq_false_iff.mpr c7
       subst c7;rw [if_neg (show ¬ (false = true) by decide)] at H;simp only [Option.some.injEq, Prod.mk.injEq] at H;obtain ⟨rfl, rfl, rfl⟩ := H
       go_wp2
       go_ret3
       exact ⟨by first | rfl | (simp; done) | (simp [*]; done), by repeat (first | exact Drawn0.refl _ | apply Drawn0.step)⟩
 replace c4 := Bool.eq_false_iff.mpr c4;subst c4;rw [if_neg (show ¬ (false = true) by decide)] at H;simp only [Option.some.injEq, Prod.mk.injEq] at H;obtain ⟨rfl, rfl, rfl⟩ := H
 go_enter Try.func116, Try.ntmps116
 go_wp2_with (first | ((with_reducible refine gate_callee (f := 67) rfl ?_); refine gL (some 13) Try.func67 #[.int .i64 a1, .int .i64 0, .int .i64 (l0.length : Int)] ?_; (with_reducible refine (impl_within.calls a1 0 (l0.length : Int) false _ A3.out).mono ?_); rintro e w' ⟨rfl, ⟨nd, rfl⟩⟩; refine ⟨_, rfl, ?_⟩))
 go_ret3
 exact ⟨by first | rfl | (simp; done) | (simp [*]; done), by repeat (first | exact Drawn0.refl _ | apply Drawn0.step)⟩

end Go.Proofs.Ytgmpdkefegofhaa.PFnAtomic
