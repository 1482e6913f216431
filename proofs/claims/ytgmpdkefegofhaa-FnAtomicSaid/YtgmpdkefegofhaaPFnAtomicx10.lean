-- printed
import Derived.Test.YtgmpdkefegofhaaPFnAtomicx0
import Derived.Test.YtgmpdkefegofhaaPFnAtomicx1
import Derived.Test.YtgmpdkefegofhaaPFnAtomicx2
namespace Go.Proofs.Ytgmpdkefegofhaa.PFnAtomic
open Go.RowKit Go.Proofs.YtgmpdkefegofhaaW.PrintWords Go.Proofs.YtgmpdkefegofhaaW.PrintLast Go.Proofs.YtgmpdkefegofhaaW.PrintMore Go.Proofs.YtgmpdkefegofhaaW.Cr
open Go.Proofs.YtgmpdkefegofhaaW.PrintWords.Kd (R_alloc R_append R_append_rows R_append_rows_step R_below R_drew R_drewN R_lit R_lit_step R_lower R_mono R_ne R_new' R_over' R_reads' R_slice R_typed R_types)
attribute [local go_sem] max2_int min2_int max_two min_two max_three min_three max_four min_four
set_option maxHeartbeats 8000000
set_option maxRecDepth 100000
set_option linter.unusedVariables false
set_option linter.unusedSimpArgs false

attribute [local go_sem high] eqA65
def spec_l1Texts.l0 : Nat → List ByteArray → List ByteArray → Int → Option (Bool)
 | 0, _, _, _ => none
 | k + 1, x0, x1, x5 => if x5 < (x0.length : Int) then (if 0 ≤ x5 then (if x5 < (x1.length : Int) then (if (rdOf ByteArray.empty x0 x5).toList = (rdOf ByteArray.empty x1 x5).toList then (spec_l1Texts.l0 k x0 x1 (wrap64 (x5 + 1))) else (some false)) else (none)) else (none)) else (some true)
def spec_l1Texts.f (k : Nat) (l0 : List ByteArray) (l1 : List ByteArray) : Option (Bool) := if (l0.length : Int) = (l1.length : Int) then (spec_l1Texts.l0 k l0 l1 0) else (some false)
theorem spec_l1Texts.mono_l : ∀ k, (∀ y0 y1 y2, LeO (spec_l1Texts.l0 k y0 y1 y2) (spec_l1Texts.l0 (k + 1) y0 y1 y2))
 | 0 => fun _ _ _ r h => by simp [spec_l1Texts.l0] at h
 | k + 1 => by
  have ih0 := spec_l1Texts.mono_l k
  ·intro y0 y1 y2
   unfold spec_l1Texts.l0;exact mM
theorem spec_l1Texts.mono : ∀ a0 a1 k, LeO (spec_l1Texts.f k a0 a1) (spec_l1Texts.f (k + 1) a0 a1) := by
 intro a0 a1 k;have ih0 := spec_l1Texts.mono_l k;unfold spec_l1Texts.f;exact mM
theorem spec_l1Texts.calls (k : Nat) (A0 : Option Addr) (c0 : Nat) (l0 : List ByteArray) (A1 : Option Addr) (c1 : Nat) (l1 : List ByteArray) (r : Bool) (w : World) (hr0 : Kd.C Kd.string w A0 l0.length l0) (Jr : l0.length ≤ c0) (hr1 : Kd.C Kd.string w A1 l1.length l1) (Js : l1.length ≤ c1) (h : spec_l1Texts.f k l0 l1 = some r) :
  Calls Try.prog 91 #[.slice A0 l0.length c0, .slice A1 l1.length c1] w fun e w' => e = .returned (.bool r) ∧ Drawn0 w w' := by
 have Jt := aM hr0;have Jx := aM Jr;clear hr0 Jr;have Ju := aM hr1;have Jy := aM Js;clear hr1 Js;unfold spec_l1Texts.f at h;have H := h;clear h
 by_cases c3 : (l0.length : Int) = (l1.length : Int)
 ·rw [if_pos c3] at H
  have Jl := beq_iff_eq.mpr c3;have Jm := bne_eq_false_iff_eq.mpr c3;have Jn : (l0.length == l1.length) = true := by first | simpa using c3 | (simp at c3 ⊢; omega)
  clear c3;have H' := aM H;clear H
  go_enter Try.func91, Try.ntmps91
  go_wp2
  repeat (go_quiet (fail); try go_wp2)
  go_loopg [5] k (fun kq v5 w' => ∃ (Ja : Int), v5 = .int .i64 Ja ∧ Aside0 (spec_l1Texts.l0 kq l0 l1 Ja = some r) ∧ Aside0 (kq ≤ k) ∧ Drawn0 w w')
  case atStart => exact ⟨(0), eV, H', ⟨Nat.le_refl _⟩, by repeat (first | exact Drawn0.refl _ | apply Drawn0.step)⟩
  case round =>
   clear H';obtain ⟨Ja, rfl, HA, HK1, ⟨m1, rfl⟩⟩ := hrel
   cases gk with
   | zero => exact absurd HA.out (by simp [spec_l1Texts.l0])
   | succ k1 =>
    have H := HA.out;clear HA;simp only [spec_l1Texts.l0] at H
    by_cases c4 : Ja < (l0.length : Int)
    ·rw [if_pos c4] at H
     have Jo := decide_eq_true c4;clear c4
     by_cases c5 : 0 ≤ Ja
     ·rw [if_pos c5] at H
      have Jv := decide_eq_true c5;clear c5
      by_cases c6 : Ja < (l1.length : Int)
      ·rw [if_pos c6] at H
       have Jw := decide_eq_true c6;clear c6
       by_cases c7 : (rdOf ByteArray.empty l0 Ja).toList = (rdOf ByteArray.empty l1 Ja).toList
       ·rw [if_pos c7] at H
        have Jp := beq_iff_eq.mpr c7;have Jq := bne_eq_false_iff_eq.mpr c7;clear c7;have H' := aM H;clear H;have Jb : 0 ≤ (Ja : Int) := dT;have Jc : Ja < (l0.length : Int) := dT;obtain ⟨Jj, Jh, Jf⟩ := Kd.at_string Jt.out Ja Jb Jc;cases Jh
        replace Jb := eq_true Jb;replace Jc := eq_true Jc;have Jd : 0 ≤ (Ja : Int) := dT;have Je : Ja < (l1.length : Int) := dT;obtain ⟨Jk, Ji, Jg⟩ := Kd.at_string Ju.out Ja Jd Je;cases Ji
        replace Jd := eq_true Jd;replace Je := eq_true Je
        go_wp2
        repeat (go_quiet (fail); try go_wp2)
        go_roundg k1
        case measure => have := HK1.out; omega
        case rel => exact ⟨(wrap64 (Ja + 1)), eV, H', ⟨by have := HK1.out; omega⟩, by repeat (first | exact Drawn0.refl _ | apply Drawn0.step)⟩
       ·rw [if_neg c7] at H
        have Jp := beq_eq_false_iff_ne.mpr c7;have Jq := bne_iff_ne.mpr c7;obtain rfl := Option.some.inj H;have Jb : 0 ≤ (Ja : Int) := dT;have Jc : Ja < (l0.length : Int) := dT;obtain ⟨Jj, Jh, Jf⟩ := Kd.at_string Jt.out Ja Jb Jc;cases Jh
        replace Jb := eq_true Jb;replace Jc := eq_true Jc;have Jd : 0 ≤ (Ja : Int) := dT;have Je : Ja < (l1.length : Int) := dT;obtain ⟨Jk, Ji, Jg⟩ := Kd.at_string Ju.out Ja Jd Je;cases Ji
        replace Jd := eq_true Jd;replace Je := eq_true Je
        go_wp2
        repeat (go_quiet (fail); try go_wp2)
        go_ret
        exact ⟨by first | rfl | (simp; done) | (simp [*]; done), by repeat (first | exact Drawn0.refl _ | apply Drawn0.step)⟩
      ·rw [if_neg c6] at H
       exact absurd H (by simp)
     ·rw [if_neg c5] at H
      exact absurd H (by simp)
    ·rw [if_neg c4] at H
     have Jo := decide_eq_false c4;clear c4;obtain rfl := Option.some.inj H
     go_wp2
     repeat (go_quiet (fail); try go_wp2)
     go_ret
     exact ⟨by first | rfl | (simp; done) | (simp [*]; done), by repeat (first | exact Drawn0.refl _ | apply Drawn0.step)⟩
 rw [if_neg c3] at H;have Jl := beq_eq_false_iff_ne.mpr c3;have Jm := bne_iff_ne.mpr c3;have Jn : (l0.length == l1.length) = false := by first | simpa using c3 | (simp at c3 ⊢; omega)
 obtain rfl := Option.some.inj H
 go_enter Try.func91, Try.ntmps91
 go_wp2
 repeat (go_quiet (fail); try go_wp2)
 go_ret
 exact ⟨by first | rfl | (simp; done) | (simp [*]; done), by repeat (first | exact Drawn0.refl _ | apply Drawn0.step)⟩

def spec_l3Puts.l0 : Nat → List (S65) → List (S65) → Int → Option (Bool)
 | 0, _, _, _ => none
 | k + 1, x0, x1, x5 => if x5 < (x0.length : Int) then (if 0 ≤ x5 then (if x5 < (x1.length : Int) then (if (!(((rd_T65 x0 x5).f0) == ((rd_T65 x1 x5).f0)) || (!((((rd_T65 x0 x5).f1).toList) == (((rd_T65 x1 x5).f1).toList)))) = true then (some false) else (spec_l3Puts.l0 k x0 x1 (wrap64 (x5 + 1)))) else (none)) else (none)) else (some true)
def spec_l3Puts.f (k : Nat) (l0 : List (S65)) (l1 : List (S65)) : Option (Bool) := if (l0.length : Int) = (l1.length : Int) then (spec_l3Puts.l0 k l0 l1 0) else (some false)
theorem spec_l3Puts.mono_l : ∀ k, (∀ y0 y1 y2, LeO (spec_l3Puts.l0 k y0 y1 y2) (spec_l3Puts.l0 (k + 1) y0 y1 y2))
 | 0 => fun _ _ _ r h => by simp [spec_l3Puts.l0] at h
 | k + 1 => by
  have ih0 := spec_l3Puts.mono_l k
  ·intro y0 y1 y2
   unfold spec_l3Puts.l0;exact mM
theorem spec_l3Puts.mono : ∀ a0 a1 k, LeO (spec_l3Puts.f k a0 a1) (spec_l3Puts.f (k + 1) a0 a1) := by
 intro a0 a1 k;have ih0 := spec_l3Puts.mono_l k;unfold spec_l3Puts.f;exact mM
theorem spec_l3Puts.calls (k : Nat) (A0 : Option Addr) (c0 : Nat) (l0 : List (S65)) (A1 : Option Addr) (c1 : Nat) (l1 : List (S65)) (r : Bool) (w : World) (hr0 : Kd.C k65 w A0 l0.length l0) (Js : l0.length ≤ c0) (hr1 : Kd.C k65 w A1 l1.length l1) (Jt : l1.length ≤ c1) (h : spec_l3Puts.f k l0 l1 = some r) :
  Calls Try.prog 92 #[.slice A0 l0.length c0, .slice A1 l1.length c1] w fun e w' => e = .returned (.bool r) ∧ Drawn0 w w' := by
 have hu65 := Try.underlying65;have Ju := aM hr0;have Jy := aM Js;clear hr0 Js;have Jv := aM hr1;have Jz := aM Jt;clear hr1 Jt;unfold spec_l3Puts.f at h;have H := h;clear h
 by_cases c3 : (l0.length : Int) = (l1.length : Int)
 ·rw [if_pos c3] at H
  have Jn := beq_iff_eq.mpr c3;have Jo := bne_eq_false_iff_eq.mpr c3;have Jp : (l0.length == l1.length) = true := by first | simpa using c3 | (simp at c3 ⊢; omega)
  clear c3;have H' := aM H;clear H
  go_enter Try.func92, Try.ntmps92
  go_wp2
  repeat (go_quiet (fail); try go_wp2)
  go_loopg [5] k (fun kq v5 w' => ∃ (Ja : Int), v5 = .int .i64 Ja ∧ Aside0 (spec_l3Puts.l0 kq l0 l1 Ja = some r) ∧ Aside0 (kq ≤ k) ∧ Drawn0 w w')
  case atStart => exact ⟨(0), eV, H', ⟨Nat.le_refl _⟩, by repeat (first | exact Drawn0.refl _ | apply Drawn0.step)⟩
  case round =>
   clear H';obtain ⟨Ja, rfl, HA, HK1, ⟨m1, rfl⟩⟩ := hrel
   cases gk with
   | zero => exact absurd HA.out (by simp [spec_l3Puts.l0])
   | succ k1 =>
    have H := HA.out;clear HA;simp only [spec_l3Puts.l0] at H
    by_cases c4 : Ja < (l0.length : Int)
    ·rw [if_pos c4] at H
     have Jq := decide_eq_true c4;clear c4
     by_cases c5 : 0 ≤ Ja
     ·rw [if_pos c5] at H
      have Jw := decide_eq_true c5;clear c5
      by_cases c6 : Ja < (l1.length : Int)
      ·rw [if_pos c6] at H
       have Jx := decide_eq_true c6;clear c6
       by_cases c7 : (!(((rd_T65 l0 Ja).f0) == ((rd_T65 l1 Ja).f0)) || (!((((rd_T65 l0 Ja).f1).toList) == (((rd_T65 l1 Ja).f1).toList)))) = true
       ·rw [if_pos c7] at H
        have Jr : (!(((rd_T65 l0 Ja).f0) == ((rd_T65 l1 Ja).f0)) || (!((((rd_T65 l0 Ja).f1).toList) == (((rd_T65 l1 Ja).f1).toList)))) = true := c7;clear c7;obtain rfl := Option.some.inj H;have Jb : 0 ≤ (Ja : Int) := dT;have Jc : Ja < (l0.length : Int) := dT;obtain ⟨Jl, Jj, Jf, Jg⟩ := at_T65 Ju.out Ja Jb Jc;cases Jj
        replace Jb := eq_true Jb;replace Jc := eq_true Jc;have Jd : 0 ≤ (Ja : Int) := dT;have Je : Ja < (l1.length : Int) := dT;obtain ⟨Jm, Jk, Jh, Ji⟩ := at_T65 Jv.out Ja Jd Je;cases Jk
        replace Jd := eq_true Jd;replace Je := eq_true Je
        go_wp2
        repeat (go_quiet (fail); try go_wp2)
        go_ret
        exact ⟨by first | rfl | (simp; done) | (simp [*]; done), by repeat (first | exact Drawn0.refl _ | apply Drawn0.step)⟩
       ·rw [if_neg c7] at H
        have Jr : (!(((rd_T65 l0 Ja).f0) == ((rd_T65 l1 Ja).f0)) || (!((((rd_T65 l0 Ja).f1).toList) == (((rd_T65 l1 Ja).f1).toList)))) = false := by simpa using c7
        clear c7;have H' := aM H;clear H;have Jb : 0 ≤ (Ja : Int) := dT;have Jc : Ja < (l0.length : Int) := dT;obtain ⟨Jl, Jj, Jf, Jg⟩ := at_T65 Ju.out Ja Jb Jc;cases Jj
        replace Jb := eq_true Jb;replace Jc := eq_true Jc;have Jd : 0 ≤ (Ja : Int) := dT;have Je : Ja < (l1.length : Int) := dT;obtain ⟨Jm, Jk, Jh, Ji⟩ := at_T65 Jv.out Ja Jd Je;cases Jk
        replace Jd := eq_true Jd;replace Je := eq_true Je
        go_wp2
        repeat (go_quiet (fail); try go_wp2)
        go_roundg k1
        case measure => have := HK1.out; omega
        case rel => exact ⟨(wrap64 (Ja + 1)), eV, H', ⟨by have := HK1.out; omega⟩, by repeat (first | exact Drawn0.refl _ | apply Drawn0.step)⟩
      ·rw [if_neg c6] at H
       exact absurd H (by simp)
     ·rw [if_neg c5] at H
      exact absurd H (by simp)
    ·rw [if_neg c4] at H
     have Jq := decide_eq_false c4;clear c4;obtain rfl := Option.some.inj H
     go_wp2
     repeat (go_quiet (fail); try go_wp2)
     go_ret
     exact ⟨by first | rfl | (simp; done) | (simp [*]; done), by repeat (first | exact Drawn0.refl _ | apply Drawn0.step)⟩
 rw [if_neg c3] at H;have Jn := beq_eq_false_iff_ne.mpr c3;have Jo := bne_iff_ne.mpr c3;have Jp : (l0.length == l1.length) = false := by first | simpa using c3 | (simp at c3 ⊢; omega)
 obtain rfl := Option.some.inj H
 go_enter Try.func92, Try.ntmps92
 go_wp2
 repeat (go_quiet (fail); try go_wp2)
 go_ret
 exact ⟨by first | rfl | (simp; done) | (simp [*]; done), by repeat (first | exact Drawn0.refl _ | apply Drawn0.step)⟩

def spec_DiskSame.f (k : Nat) (Jb : List ByteArray) (Jf : List (S65)) (Jc : List ByteArray) (Jg : List (S65)) : Option (Bool) := (spec_l1Texts.f k Jb Jc).bind fun Jy => (if Jy = true then ((spec_l3Puts.f k Jf Jg).bind fun Jz => (some Jz)) else (some false))
theorem spec_DiskSame.mono : ∀ a0 a1 a2 a3 k, LeO (spec_DiskSame.f k a0 a1 a2 a3) (spec_DiskSame.f (k + 1) a0 a1 a2 a3) := by
 intro a0 a1 a2 a3 k;unfold spec_DiskSame.f;have m0_ := @spec_l1Texts.mono;have m1_ := @spec_l3Puts.mono;exact mM
theorem spec_DiskSame.calls (k : Nat) (Jh : Option Addr) (Ji : Nat) (Jb : List ByteArray) (Jm : Option Addr) (Jn : Nat) (Jf : List (S65)) (Jj : Option Addr) (Jk : Nat) (Jc : List ByteArray) (Jo : Option Addr) (Jp : Nat) (Jg : List (S65)) (r : Bool) (w : World) (hr0_0 : Kd.C Kd.string w Jh Jb.length Jb) (Jq : Jb.length ≤ Ji) (hr0_1 : Kd.C k65 w Jm Jf.length Jf) (Jr : Jf.length ≤ Jn) (hr1_0 : Kd.C Kd.string w Jj Jc.length Jc) (Js : Jc.length ≤ Jk) (hr1_1 : Kd.C k65 w Jo Jg.length Jg) (Jt : Jg.length ≤ Jp) (h : spec_DiskSame.f k Jb Jf Jc Jg = some r) :
  Calls Try.prog 48 #[.agg #[.slice Jh Jb.length Ji, .slice Jm Jf.length Jn], .agg #[.slice Jj Jc.length Jk, .slice Jo Jg.length Jp]] w fun e w' => e = .returned (.bool r) ∧ Below w.heap.size w w' := by
 have hu30 := Try.underlying30;have Ju := aM hr0_0;have Jv := aM Jq;clear hr0_0 Jq;have JA := aM hr0_1;have JB := aM Jr;clear hr0_1 Jr;have Jw := aM hr1_0;have Jx := aM Js;clear hr1_0 Js;have JC := aM hr1_1;have JD := aM Jt;clear hr1_1 Jt;have HB := aM (Below.refl w.heap.size w);unfold spec_DiskSame.f at h;have H := h;clear h;obtain ⟨Jy, A3, H⟩ := oB H;try dsimp only at H
 by_cases c4 : Jy = true
 ·subst c4
  rw [if_pos rfl] at H;obtain ⟨Jz, A5, H⟩ := oB H;try dsimp only at H
  obtain rfl := Option.some.inj H
  go_enter Try.func48, Try.ntmps48
  go_wp2_with (first | ((with_reducible refine gate_dst (N := 2) rfl ?_); refine bE 2 #[.slice Jh Jb.length Ji, .slice Jm Jf.length Jn] 30 ?_; intro JE hg w6 hbox hb; have n_ := aI (sB HB hb) (aI (aM hbox) (aI (gE HB hg) (gE HB hg))); clear HB; obtain ⟨HB, Ja, JF, JG⟩ := n_; (try clear hb hbox hg)) | ((with_reducible refine gate_dst (N := 3) rfl ?_); refine bE 3 #[.slice Jj Jc.length Jk, .slice Jo Jg.length Jp] 30 ?_; intro JH hg w7 hbox hb; have n_ := aI (kB Ja hb) (aI (sB HB hb) (aI (aM hbox) (aI (gE HB hg) (aI (gE HB hg) (aI (nL Ja hg) (nG Ja hg)))))); clear Ja HB; obtain ⟨Ja, HB, Jl, JI, JJ, Jd, Je⟩ := n_; (try clear hb hbox hg); have JM := Jd.out; have JN := Je.out; obtain ⟨_, _, _, _⟩ := z2 Ja; obtain ⟨_, _, _, _⟩ := z2 Jl) | ((with_reducible refine gate_callee (f := 91) rfl ?_); refine gL (some 9) Try.func91 #[.slice Jh Jb.length Ji, .slice Jj Jc.length Jk] ?_; (with_reducible refine (spec_l1Texts.calls k _ _ Jb _ _ Jc true _ ?side1 ?side2 ?side3 ?side4 A3.out).mono ?_); (case side1 => exact cS Ju HB); (case side2 => exact Jv.out); (case side3 => exact cS Jw HB); (case side4 => exact Jx.out); rintro e w' ⟨rfl, ⟨nd, rfl⟩⟩; refine ⟨_, rfl, ?_⟩) | (go_at_call 92; (with_reducible refine (spec_l3Puts.calls k _ _ Jf _ _ Jg Jz _ ?side1 ?side2 ?side3 ?side4 A5.out).mono ?_); (case side1 => repeat (first | exact (Kd.C_below JA.out bB) | (with_reducible refine Kd.C_alloc ?_ _) | (with_reducible refine Kd.C_drewN ?_ _) | (with_reducible refine Kd.C_drew ?_))); (case side2 => exact JB.out); (case side3 => repeat (first | exact (Kd.C_below JC.out bB) | (with_reducible refine Kd.C_alloc ?_ _) | (with_reducible refine Kd.C_drewN ?_ _) | (with_reducible refine Kd.C_drew ?_))); (case side4 => exact JD.out); rintro e w' ⟨rfl, ⟨nd, rfl⟩⟩))
  go_ret
  exact ⟨eW, bB⟩
 replace c4 := Bool.eq_false_iff.mpr c4;subst c4;rw [if_neg (show ¬ (false = true) by decide)] at H;obtain rfl := Option.some.inj H
 go_enter Try.func48, Try.ntmps48
 go_wp2_with (first | ((with_reducible refine gate_dst (N := 2) rfl ?_); refine bE 2 #[.slice Jh Jb.length Ji, .slice Jm Jf.length Jn] 30 ?_; intro JE hg JO hbox hb; have n_ := aI (sB HB hb) (aI (aM hbox) (aI (gE HB hg) (gE HB hg))); clear HB; obtain ⟨HB, Ja, JF, JG⟩ := n_; (try clear hb hbox hg)) | ((with_reducible refine gate_dst (N := 3) rfl ?_); refine bE 3 #[.slice Jj Jc.length Jk, .slice Jo Jg.length Jp] 30 ?_; intro JH hg JP hbox hb; have n_ := aI (kB Ja hb) (aI (sB HB hb) (aI (aM hbox) (aI (gE HB hg) (aI (gE HB hg) (aI (nL Ja hg) (nG Ja hg)))))); clear Ja HB; obtain ⟨Ja, HB, Jl, JI, JJ, Jd, Je⟩ := n_; (try clear hb hbox hg); have JK := Jd.out; have JL := Je.out; obtain ⟨_, _, _, _⟩ := z2 Ja; obtain ⟨_, _, _, _⟩ := z2 Jl) | ((with_reducible refine gate_callee (f := 91) rfl ?_); refine gL (some 9) Try.func91 #[.slice Jh Jb.length Ji, .slice Jj Jc.length Jk] ?_; (with_reducible refine (spec_l1Texts.calls k _ _ Jb _ _ Jc false _ ?side1 ?side2 ?side3 ?side4 A3.out).mono ?_); (case side1 => exact cS Ju HB); (case side2 => exact Jv.out); (case side3 => exact cS Jw HB); (case side4 => exact Jx.out); rintro e w' ⟨rfl, ⟨nd, rfl⟩⟩; refine ⟨_, rfl, ?_⟩))
 go_ret
 exact ⟨eW, bB⟩

def spec_l1Copy.f (l0 : List ByteArray) : Option (List ByteArray) := (some (([] : List ByteArray) : List ByteArray)).bind fun Ja => (if Ja.length + l0.length < 8796093022208 then (some (Ja ++ l0)) else (none))
theorem spec_l1Copy.calls (A0 : Option Addr) (c0 : Nat) (l0 : List ByteArray) (r : List ByteArray) (w : World) (hr0 : Kd.C Kd.string w A0 l0.length l0) (Jl : l0.length ≤ c0) (h : spec_l1Copy.f l0 = some r) :
  Calls Try.prog 110 #[.slice A0 l0.length c0] w fun e w' => ∃ Jm : Value, e = .returned (Jm) ∧ Kd.R Kd.string 9 w' w.heap.size (fun _ => True) Jm r ∧ Below w.heap.size w w' := by
 have Jn := aM hr0;have Jp := aM Jl;clear hr0 Jl;have HB := aM (Below.refl w.heap.size w);unfold spec_l1Copy.f at h;have H := h;clear h;obtain ⟨Ja, Jb⟩ : ∃ y_ : List ByteArray, y_ = (([] : List ByteArray)) := ⟨_, rfl⟩;replace H : (if Ja.length + l0.length < 8796093022208 then (some (Ja ++ l0)) else (none)) = some r := bQ Jb H;have Jd := aM Jb;clear Jb
 by_cases c2 : Ja.length + l0.length < 8796093022208
 ·rw [if_pos c2] at H
  have Ji := aM c2;clear c2;obtain ⟨Jj, Jc⟩ : ∃ y_ : List ByteArray, y_ = (Ja ++ l0) := ⟨_, rfl⟩;replace H : (some Jj) = some r := bQ Jc H;have Jf := aM Jc;clear Jc;obtain rfl := Option.some.inj H
  go_enter Try.func110, Try.ntmps110
  go_wp2_with (first | ((with_reducible refine gate_dst (N := 3) rfl ?_); refine R_lit Kd.string _ 9 ?hg (N := 3) ?hd (xs := ([] : List ByteArray)) (inner := []) (ok := fun _ => True) (okp := fun _ => True) ?hr ?hp (fun _ hk => hk) trivial (Below.refl _ _) (Nat.le_refl _) (by simp) ?_; (case hd => rfl); (case hg => rfl); (case hr => first | (go_simp; done) | (go_simp; rfl)); (case hp => exact (Reps.none _ _)); intro Jk w3 Jg hb hg_ hnew_; clear hg_ hnew_; (first | rw [← Jd.out] at Jg | (simp only [Int.reduceToNat] at Jg; rw [← Jd.out] at Jg)); have n_ := aI (lR HB Jg) (sB HB hb); clear HB; obtain ⟨Je, HB⟩ := n_; (try clear hb Jg)) | ((with_reducible refine gate_builtin (b := .append) (xs := #[.tmp 3, .tmp 4]) rfl ?_); at_builtin; refine R_append_rows Kd.string (w0 := w) w.heap.size rfl (.tmp 3) (.tmp 4) 22 9 (.string ⟨#[]⟩) 16 rfl Try.underlying22 info9 rfl (by decide) (by omega) Jk Ja l0 _ _ _ (fun _ => True) (fun _ => False) rfl rfl ?aO ?aR (fun _ _ h => h) (fun _ h => h.elim) ?aF ?aB ?aS ?aL ?_; (case aR => exact cS Jn HB); (case aB => exact bB); (case aF => exact (fun _ _ => trivial)); (case aO => exact (rP Je.out)); (case aS => exact (zB HB)); (case aL => have := Ji.out; omega); intro Jo w5 ho hb hg hat; rw [← Jf.out] at ho; have n_ := aI (aM (hb)) (aM (ho)); clear HB Je; obtain ⟨HB, Jh⟩ := n_; (try clear ho hb hg hat)))
  go_ret
  exact ⟨_, eW, by (with_reducible repeat (first | apply R_alloc | apply R_drewN | apply R_drew)); exact Jh.out, bB⟩
 rw [if_neg c2] at H;exact absurd H (by simp)

def spec_l3Copy.f (Jh : List ByteArray) (Je : List (S65)) : Option (List ByteArray × (List (S65))) := (spec_l1Copy.f Jh).bind fun Jj => ((some (([] : List (S65)) : List (S65))).bind fun Jm => (if Jm.length + Je.length < 5864062014805 then (some (Jj, (Jm ++ Je))) else (none)))
def spec_l3Copy.T1 : Bool × List (List Nat × List Nat) := (true, [([], []), ([0], [0]), ([1], [1]), ([], []), ([], []), ([4], [4]), ([3, 5, 2], [3, 5]), ([2, 6], [2, 6]), ([7, 6, 0, 1, 2, 3, 4, 5, 6, 7], [7])])
def spec_l3Copy.B1 : List Nat := [0, 1, 3, 0, 0, 16, 63, 127, 255]
theorem spec_l3Copy.tab1 : rtab .any (opsOf Try.f75 1) = spec_l3Copy.T1 := by kernel_rfl
theorem spec_l3Copy.bits1 : waitsOk spec_l3Copy.T1.2 spec_l3Copy.B1 = true := by kernel_rfl
theorem spec_l3Copy.calls (Jk : Option Addr) (Jl : Nat) (Jh : List ByteArray) (Jo : Option Addr) (Jp : Nat) (Je : List (S65)) (r1 : List ByteArray) (r2 : List (S65)) (w : World) (hr0_0 : Kd.C Kd.string w Jk Jh.length Jh) (Jw : Jh.length ≤ Jl) (hr0_1 : Kd.C k65 w Jo Je.length Je) (Jx : Je.length ≤ Jp) (h : spec_l3Copy.f Jh Je = some (r1, r2)) :
  Calls Try.prog 75 #[.agg #[.slice Jk Jh.length Jl, .slice Jo Je.length Jp]] w fun e w' => ∃ JO JP : Value, e = .returned (.agg #[JO, JP]) ∧ Kd.R Kd.string 9 w' w.heap.size (fun _ => True) JO r1 ∧ Kd.R k65 65 w' w.heap.size (fun _ => True) JP r2 ∧ Below w.heap.size w w' := by
 have hu30 := Try.underlying30;have Jy := aM hr0_0;have Jz := aM Jw;clear hr0_0 Jw;have JG := aM hr0_1;have JQ := aM Jx;clear hr0_1 Jx;have HB := aM (Below.refl w.heap.size w);unfold spec_l3Copy.f at h;have H := h;clear h;obtain ⟨Jj, A2, H⟩ := oB H;try dsimp only at H
 obtain ⟨Jm, Js⟩ : ∃ y_ : List (S65), y_ = (([] : List (S65))) := ⟨_, rfl⟩;replace H : (if Jm.length + Je.length < 5864062014805 then (some (Jj, (Jm ++ Je))) else (none)) = some (r1, r2) := bQ Js H;have Jq := aM Js;clear Js
 by_cases c3 : Jm.length + Je.length < 5864062014805
 ·rw [if_pos c3] at H
  have JN := aM c3;clear c3;obtain ⟨Jv, Jt⟩ : ∃ y_ : List (S65), y_ = (Jm ++ Je) := ⟨_, rfl⟩;replace H : (some (Jj, Jv)) = some (r1, r2) := bQ Jt H;have JH := aM Jt;clear Jt;simp only [Option.some.injEq, Prod.mk.injEq] at H;obtain ⟨rfl, rfl⟩ := H
  go_enter Try.func75, Try.ntmps75
  try go_wp2_with (first | ((with_reducible refine gate_dst (N := 1) rfl ?_); refine bE 1 #[.slice Jk Jh.length Jl, .slice Jo Je.length Jp] 30 ?_; intro Ji hg w4 hbox hb; have n_ := aI (sB HB hb) (aI (aM hbox) (aI (gE HB hg) (gE HB hg))); clear HB; obtain ⟨HB, Ja, JR, JS⟩ := n_; (try clear hb hbox hg)) | ((with_reducible refine gate_dst (N := 2) rfl ?_); refine bE 2 #[.slice none 0 0, .slice none 0 0] 30 ?_; intro Jd hg w5 hbox hb; have n_ := aI (kB Ja hb) (aI (sB HB hb) (aI (aM hbox) (aI (gE HB hg) (aI (gE HB hg) (aI (nL Ja hg) (nG Ja hg)))))); clear Ja HB; obtain ⟨Ja, HB, Jb, JT, JU, Jc, Jn⟩ := n_; (try clear hb hbox hg)))
  have n_ := aI (aM (blk_drew Ja.out)) (aI (aM (blk_drew Jb.out)) (aM (below_drew1 HB.out)));clear Ja Jb HB;obtain ⟨Ja, Jb, HB⟩ := n_;refine start_ (n := 9) (S := fun w' => w'.cell? ⟨Ji, 0, none⟩ = some (.slice Jk Jh.length Jl) ∧ w'.cell? ⟨Ji, 1, none⟩ = some (.slice Jo Je.length Jp)) (ds := []) #[tF, tF, tF, tF, tF, tF, tF, tF, tF] (by kernel_rfl) rfl rfl ⟨(blk_cell Ja.out 0).trans rfl, (blk_cell Ja.out 1).trans rfl⟩ (fun hHeld => ?_); refine with_tabW spec_l3Copy.tab1 spec_l3Copy.bits1 (fun HT_ HW_ => ?_);generalize w5.drew = w6 at Ja Jb HB hHeld ⊢;refine pY 0 3 #[tT, tF, tF, tF, tF, tF, tF, tF, tF] ?_;refine pY 4 7 #[tT, tF, tF, tF, tT, tF, tF, tF, tF] ?_;refine take_ (i := 1) (N := some 4) (v := ?_) (a' := ?_) #[tT, tT, tF, tF, tT, tF, tF, tF, tF] rfl rfl (take_ofW HT_.out HW_.out (by kernel_rfl)) (fun _ _ _ h => h) (Or.inl ⟨by rfl, ?_⟩) hHeld ?_ ?_
  rotate_left
  ·rintro w' ⟨s0, s1⟩
   go_simp
   (with_reducible rfl)
  rotate_left
  ·simp only [Act.put, List.setIfInBounds_toArray, List.set_cons_zero, List.set_cons_succ, i64_w, i32_w]
   rfl
  refine take_ (i := 5) (N := some 8) (v := ?_) (a' := ?_) #[tT, tT, tF, tF, tT, tT, tF, tF, tF] rfl rfl (take_ofW HT_.out HW_.out (by kernel_rfl)) (fun _ _ _ h => h) (Or.inl ⟨by rfl, ?_⟩) hHeld ?_ ?_
  rotate_left
  ·rintro w' ⟨s0, s1⟩
   go_simp
   (with_reducible rfl)
  rotate_left
  ·simp only [Act.put, List.setIfInBounds_toArray, List.set_cons_zero, List.set_cons_succ, i64_w, i32_w]
   rfl
  refine join_ (σ := Value × Value) 3 #[true, true, true, true, true, true, false, false, false] (fun s_ => [(5, s_.1), (6, s_.2)]) (fun s_ w' => (w'.cell? ⟨Ji, 0, none⟩ = some (.slice Jk Jh.length Jl) ∧ w'.cell? ⟨Ji, 1, none⟩ = some (.slice Jo Je.length Jp)) ∧ (Kd.R Kd.string 9 w' w.heap.size (fun _ => True) s_.1 Jj) ∧ (Kd.R k65 65 w' w.heap.size (fun _ => True) s_.2 Jm) ∧ (w'.heap[Ji]? = some (.cells #[.slice Jk Jh.length Jl, .slice Jo Je.length Jp] 30 (0, 0))) ∧ (w'.heap[Jd]? = some (.cells #[.slice none 0 0, .slice none 0 0] 30 (0, 0))) ∧ (Below w.heap.size w w')) ?_ ?_
  rotate_left
  ·intro hCont
   refine two_ (i := 2) (j := 3) (Ni := some 5) (Nj := some 6) #[true, true, true, false, true, true, false, false, false] #[true, true, false, true, true, true, false, false, false] rfl rfl rfl rfl (two_of HT_.out (by kernel_rfl)) (by decide) (by decide) (fun K hK => ?_) (fun K hK => ?_)
   ·skip
    refine goes_ Try.func110 (by kernel_rfl) rfl #[.slice Jk Jh.length Jl] (by rfl) rfl rfl (by (try simp only [List.map_toArray, List.map_cons, List.map_nil]); first | done | rfl | (simp only [List.length_drop, List.length_take]; rfl)) ?_;(with_reducible refine (spec_l1Copy.calls _ _ Jh Jj _ ?side1 ?side2 A2.out).mono ?_);(case side1 => exact cS Jy HB);(case side2 => exact Jz.out);rintro e w7 ⟨Ju, rfl, JI, hb⟩;refine ⟨_, rfl, ?_⟩;have n_ := aI (lR HB JI) (aI (kB Ja hb) (aI (kB Jb hb) (sB HB hb)));clear Ja Jb HB;obtain ⟨Jf, Ja, Jb, HB⟩ := n_;(try clear hb);(try clear hb2);(try clear hk);(try clear hi);(try clear JI);refine hK.out _ _ ⟨(blk_cell Ja.out 0).trans rfl, (blk_cell Ja.out 1).trans rfl⟩ (fun hHeld => ?_);clear hK K;refine norm_ (a' := ?_) ?_ ?_
    rotate_left
    ·show Act.put _ (some 5) _ = _
     simp only [Act.put, List.setIfInBounds_toArray, List.set_cons_zero, List.set_cons_succ, i64_w, i32_w]
     rfl
    refine one_ (i := 3) (N := some 6) #[tT, tT, tT, tT, tT, tT, tF, tF, tF] rfl rfl (one_of HT_.out (by kernel_rfl)) (by decide) (fun K hK => ?_);refine R_lit_step k65 _ 65 ?hg (N := 6) ?hd (xs := ([] : List (S65))) (inner := []) (ok := fun _ => True) (okp := fun _ => True) ?hr ?hp (fun _ hk => hk) trivial (Below.refl _ _) (Nat.le_refl _) (by simp) ?_; (case hd => rfl); (case hg => rfl); (case hr => first | (go_simp; done) | (go_simp; rfl)); (case hp => exact (Reps.none _ _));intro Jr w8 JJ hb hg_ hnew_;clear hg_ hnew_;(first | rw [← Jq.out] at JJ | (simp only [Int.reduceToNat] at JJ; rw [← Jq.out] at JJ));have n_ := aI (rB Jf hb) (aI (lR HB JJ) (aI (kB Ja hb) (aI (kB Jb hb) (sB HB hb))));clear Jf Ja Jb HB;obtain ⟨Jf, Jg, Ja, Jb, HB⟩ := n_;clear hb JJ;refine hK.out _ _ ⟨(blk_cell Ja.out 0).trans rfl, (blk_cell Ja.out 1).trans rfl⟩ (fun hHeld => ?_);clear hK K;refine norm_ (a' := ?_) ?_ ?_
    rotate_left
    ·show Act.put _ (some 6) _ = _
     simp only [Act.put, List.setIfInBounds_toArray, List.set_cons_zero, List.set_cons_succ, i64_w, i32_w]
     rfl
    exact norm_ (by simp only [putAll, Act.put, List.setIfInBounds_toArray, List.set_cons_zero, List.set_cons_succ]) (hCont (Ju, Jr) _ ⟨hHeld, (rP Jf.out), (rP Jg.out), (kP Ja), (kP Jb), bB⟩)
   skip
   refine R_lit_step k65 _ 65 ?hg (N := 6) ?hd (xs := ([] : List (S65))) (inner := []) (ok := fun _ => True) (okp := fun _ => True) ?hr ?hp (fun _ hk => hk) trivial (Below.refl _ _) (Nat.le_refl _) (by simp) ?_; (case hd => rfl); (case hg => rfl); (case hr => first | (go_simp; done) | (go_simp; rfl)); (case hp => exact (Reps.none _ _));intro Jr w7 JK hb hg_ hnew_;clear hg_ hnew_;(first | rw [← Jq.out] at JK | (simp only [Int.reduceToNat] at JK; rw [← Jq.out] at JK));have n_ := aI (lR HB JK) (aI (kB Ja hb) (aI (kB Jb hb) (sB HB hb)));clear Ja Jb HB;obtain ⟨Jg, Ja, Jb, HB⟩ := n_;clear hb JK;refine hK.out _ _ ⟨(blk_cell Ja.out 0).trans rfl, (blk_cell Ja.out 1).trans rfl⟩ (fun hHeld => ?_);clear hK K;refine norm_ (a' := ?_) ?_ ?_
   rotate_left
   ·show Act.put _ (some 6) _ = _
    simp only [Act.put, List.setIfInBounds_toArray, List.set_cons_zero, List.set_cons_succ, i64_w, i32_w]
    rfl
   refine one_ (i := 2) (N := some 5) #[tT, tT, tT, tT, tT, tT, tF, tF, tF] rfl rfl (one_of HT_.out (by kernel_rfl)) (by decide) (fun K hK => ?_);refine goes_ Try.func110 (by kernel_rfl) rfl #[.slice Jk Jh.length Jl] (by rfl) rfl rfl (by (try simp only [List.map_toArray, List.map_cons, List.map_nil]); first | done | rfl | (simp only [List.length_drop, List.length_take]; rfl)) ?_;(with_reducible refine (spec_l1Copy.calls _ _ Jh Jj _ ?side1 ?side2 A2.out).mono ?_);(case side1 => exact cS Jy HB);(case side2 => exact Jz.out);rintro e w9 ⟨Ju, rfl, JI, hb⟩;refine ⟨_, rfl, ?_⟩;have n_ := aI (rB Jg hb) (aI (lR HB JI) (aI (kB Ja hb) (aI (kB Jb hb) (sB HB hb))));clear Jg Ja Jb HB;obtain ⟨Jg, Jf, Ja, Jb, HB⟩ := n_;(try clear hb);(try clear hb2);(try clear hk);(try clear hi);(try clear JI);refine hK.out _ _ ⟨(blk_cell Ja.out 0).trans rfl, (blk_cell Ja.out 1).trans rfl⟩ (fun hHeld => ?_);clear hK K;refine norm_ (a' := ?_) ?_ ?_
   rotate_left
   ·show Act.put _ (some 5) _ = _
    simp only [Act.put, List.setIfInBounds_toArray, List.set_cons_zero, List.set_cons_succ, i64_w, i32_w]
    rfl
   exact norm_ (by simp only [putAll, Act.put, List.setIfInBounds_toArray, List.set_cons_zero, List.set_cons_succ]) (hCont (Ju, Jr) _ ⟨hHeld, (rP Jf.out), (rP Jg.out), (kP Ja), (kP Jb), bB⟩)
  rintro ⟨Ju, Jr⟩ JB ⟨hS_, h0_, h1_, h2_, h3_, h4_⟩;have JV : Aside0 (Kd.R Kd.string 9 JB w.heap.size (fun _ => True) Ju Jj) := ⟨h0_⟩;have JW : Aside0 (Kd.R k65 65 JB w.heap.size (fun _ => True) Jr Jm) := ⟨h1_⟩;have JX : Aside0 (JB.heap[Ji]? = some (.cells #[.slice Jk Jh.length Jl, .slice Jo Je.length Jp] 30 (0, 0))) := ⟨h2_⟩;have JY : Aside0 (JB.heap[Jd]? = some (.cells #[.slice none 0 0, .slice none 0 0] 30 (0, 0))) := ⟨h3_⟩;have JZ : Aside0 (Below w.heap.size w JB) := ⟨h4_⟩;clear Ja;clear Jb;clear HB;clear h0_ h1_ h2_ h3_ h4_;have Jf := JV;have Jg := JW;have Ja := JX;have Jb := JY;have HB := JZ;clear JV JW JX JY JZ;have hHeld : JB.cell? ⟨Ji, 0, none⟩ = some (.slice Jk Jh.length Jl) ∧ JB.cell? ⟨Ji, 1, none⟩ = some (.slice Jo Je.length Jp) := hS_;refine norm_ (a' := ?_) ?_ ?_
  rotate_left
  ·simp only [putAll, Act.put, List.setIfInBounds_toArray, List.set_cons_zero, List.set_cons_succ]
   rfl
  refine one_ (i := 6) (N := some 9) #[tT, tT, tT, tT, tT, tT, tT, tF, tF] rfl rfl (one_of HT_.out (by kernel_rfl)) (by decide) (fun K hK => ?_);refine R_append_rows_step k65 (w0 := w) w.heap.size (by rfl) (.tmp 6) (.tmp 8) 28 65 (.agg #[(.int .i64 0), (.string ⟨#[]⟩)]) 24 rfl Try.underlying28 info65 rfl (by decide) (by omega) Jr Jm Je _ _ _ (fun _ => True) (fun _ => False) rfl rfl ?aO ?aR (fun _ _ h => h) (fun _ h => h.elim) ?aF ?aB ?aS ?aL ?_;(case aR => exact cS JG HB);(case aB => exact bB);(case aF => exact (fun _ _ => trivial));(case aO => exact (rP Jg.out));(case aS => exact (zB HB));(case aL => have := JN.out; omega);intro J1 J0 ho hb hg hat;rw [← JH.out] at ho;have n_ := aI (aM (blk_grown (g := Ji) (o := .cells #[.slice Jk Jh.length Jl, .slice Jo Je.length Jp] 30 (0, 0)) (kP Ja) hg (R_ne Jg.out Ja.out (by decide)))) (aI (aM (blk_grown (g := Jd) (o := .cells #[.slice none 0 0, .slice none 0 0] 30 (0, 0)) (kP Jb) hg (R_ne Jg.out Jb.out (by decide)))) (aI (aM (R_over' (rP Jf.out) (R_typed (rP Jg.out)) (by decide) hg)) (aI (aM (hb)) (aM (ho)))));clear Ja Jb Jf HB Jg;obtain ⟨Ja, Jb, Jf, HB, JA⟩ := n_;clear ho hb hg hat;obtain ⟨JC, JD, JL⟩ := R_slice JA.out;(first | subst JL | (injection JL with f1_ f2_ f3_; have f4_ := f1_.symm; have f5_ := f3_.symm; clear f1_ f2_ f3_; subst f4_; subst f5_));obtain ⟨JE, JF, JM⟩ := R_slice Jf.out;(first | subst JM | (injection JM with f1_ f2_ f3_; have f4_ := f1_.symm; have f5_ := f3_.symm; clear f1_ f2_ f3_; subst f4_; subst f5_));refine hK.out _ _ ⟨(blk_cell Ja.out 0).trans rfl, (blk_cell Ja.out 1).trans rfl⟩ (fun hHeld => ?_);clear hK K;refine norm_ (a' := ?_) ?_ ?_
  rotate_left
  ·show Act.put _ (some 9) _ = _
   simp only [Act.put, List.setIfInBounds_toArray, List.set_cons_zero, List.set_cons_succ, i64_w, i32_w]
   rfl
  refine pY 7 10 #[tT, tT, tT, tT, tT, tT, tT, tT, tF] ?_;refine one_ (i := 8) (N := none) #[tT, tT, tT, tT, tT, tT, tT, tT, tT] rfl rfl (one_of HT_.out (by kernel_rfl)) (by decide) (fun K hK => ?_);have hs14 : J0.cell? ⟨Jd, 0, none⟩ = some (.slice none 0 0) := (blk_cell Jb.out 0).trans rfl;have hfs14 := blk_frozen Jb.out 0;have hns14_0 := Jc.out;have hms14_0 := Jn.out;have hs15 : J0.cell? ⟨Jd, 1, none⟩ = some (.slice none 0 0) := (blk_cell Jb.out 1).trans rfl;have hfs15 := blk_frozen Jb.out 1;have hns15_0 := Jc.out;have hms15_0 := Jn.out;refine skip_ (w1 := ?_) (by rfl) rfl ?_ ?_
  rotate_left
  ·go_simp
   rfl
  refine hK.out _ _ ⟨((cell_far (p := ⟨Jd, _, none⟩) Jc.out _).trans (((cell_far (p := ⟨Jd, _, none⟩) Jc.out _).trans (hHeld.1)))), ((cell_far (p := ⟨Jd, _, none⟩) Jc.out _).trans (((cell_far (p := ⟨Jd, _, none⟩) Jc.out _).trans (hHeld.2))))⟩ (fun hHeld => ?_);clear hK K;refine done_ (done_of HT_.out (by kernel_rfl)) ?_;try go_wp2
  refine bodyPost_ret (results_cell_row rfl _ _ Jd 30 #[.slice JE Jj.length JF, .slice JC Jv.length JD] (0, 0) _ rfl (pU Jb) Try.underlying30 rfl (by kernel_rfl)) rfl ?_;exact ⟨_, _, eW, by (with_reducible repeat (first | apply R_alloc | apply R_drewN | apply R_drew)); exact R_mono (fR Jd 1 (fR Jd 0 (R_types Jf.out Jb.out (by decide)) s2 (.slice JE Jj.length JF)) s2 (.slice JC Jv.length JD)) sT, by (with_reducible repeat (first | apply R_alloc | apply R_drewN | apply R_drew)); exact R_mono (fR Jd 1 (fR Jd 0 (R_types JA.out Jb.out (by decide)) s2 (.slice JE Jj.length JF)) s2 (.slice JC Jv.length JD)) sT, bB⟩
 rw [if_neg c3] at H;exact absurd H (by simp)

def spec_SectorWrite.f (k : Nat) (Jh : List ByteArray) (Ji : List (S65)) (a1 : Int) (a2 : ByteArray) : Option (List ByteArray × (List (S65)) × Bool) := (spec_l3Copy.f Jh Ji).bind fun JI => (if JI.2.length < 5864062014805 then ((some (JI.2 ++ [(⟨a1, a2⟩ : S65)] : List (S65))).bind fun Js => ((spec_DiskOk.f k Jh Ji).bind fun JL => (if JL = true then ((spec_DiskOk.f k JI.1 Js).bind fun JM => (if JM = true then (some (JI.1, Js, true)) else ((spec_l3Copy.f Jh Ji).bind fun JB => (some (JB.1, JB.2, false))))) else ((spec_l3Copy.f Jh Ji).bind fun JC => (some (JC.1, JC.2, false)))))) else (none))
theorem spec_SectorWrite.mono : ∀ a0 a1 a2 a3 k, LeO (spec_SectorWrite.f k a0 a1 a2 a3) (spec_SectorWrite.f (k + 1) a0 a1 a2 a3) := by
 intro a0 a1 a2 a3 k;unfold spec_SectorWrite.f;have m0_ := @spec_DiskOk.mono;exact mM
theorem spec_SectorWrite.calls (k : Nat) (Jt : Option Addr) (Ju : Nat) (Jh : List ByteArray) (Jv : Option Addr) (Jw : Nat) (Ji : List (S65)) (a1 : Int) (a2 : ByteArray) (r1 : List ByteArray) (r2 : List (S65)) (r3 : Bool) (w : World) (hr0_0 : Kd.C Kd.string w Jt Jh.length Jh) (J3 : Jh.length ≤ Ju) (hr0_1 : Kd.C k65 w Jv Ji.length Ji) (J4 : Ji.length ≤ Jw) (h : spec_SectorWrite.f k Jh Ji a1 a2 = some (r1, r2, r3)) :
  Calls Try.prog 28 #[.agg #[.slice Jt Jh.length Ju, .slice Jv Ji.length Jw], .int .i64 a1, .string a2] w fun e w' => ∃ UI UJ : Value, e = .returned (.tuple #[.agg #[UI, UJ], .bool r3]) ∧ Kd.R Kd.string 9 w' w.heap.size (fun _ => True) UI r1 ∧ Kd.R k65 65 w' w.heap.size (fun _ => True) UJ r2 ∧ Below w.heap.size w w' := by
 have hu30 := Try.underlying30;have hu65 := Try.underlying65;have Jx := aM hr0_0;have Jy := aM J3;clear hr0_0 J3;have Jz := aM hr0_1;have JA := aM J4;clear hr0_1 J4;have HB := aM (Below.refl w.heap.size w);unfold spec_SectorWrite.f at h;have H := h;clear h;obtain ⟨⟨Jk, Jl⟩, A4, H⟩ := oB H;try dsimp only at H
 by_cases c5 : Jl.length < 5864062014805
 ·rw [if_pos c5] at H
  have Uf := aM c5;clear c5;obtain ⟨Js, JN⟩ : ∃ y_ : List (S65), y_ = (Jl ++ [(⟨a1, a2⟩ : S65)]) := ⟨_, rfl⟩;replace H : ((spec_DiskOk.f k Jh Ji).bind fun JL => (if JL = true then ((spec_DiskOk.f k Jk Js).bind fun JM => (if JM = true then (some (Jk, Js, true)) else ((spec_l3Copy.f Jh Ji).bind fun JB => (some (JB.1, JB.2, false))))) else ((spec_l3Copy.f Jh Ji).bind fun JC => (some (JC.1, JC.2, false))))) = some (r1, r2, r3) := bQ JN H;have JO := aM JN;clear JN;obtain ⟨JL, A6, H⟩ := oB H;try dsimp only at H
  by_cases c7 : JL = true
  ·subst c7
   rw [if_pos rfl] at H;obtain ⟨JM, A8, H⟩ := oB H;try dsimp only at H
   by_cases c9 : JM = true
   ·subst c9
    rw [if_pos rfl] at H;simp only [Option.some.injEq, Prod.mk.injEq] at H;obtain ⟨rfl, rfl, rfl⟩ := H
    go_enter Try.func28, Try.ntmps28
    go_wp2_with (first | ((with_reducible refine gate_dst (N := 3) rfl ?_); refine bE 3 #[.slice Jt Jh.length Ju, .slice Jv Ji.length Jw] 30 ?_; intro JD hg U8 hbox hb; have n_ := aI (sB HB hb) (aI (aM hbox) (aI (gE HB hg) (gE HB hg))); clear HB; obtain ⟨HB, Ja, J5, J6⟩ := n_; (try clear hb hbox hg)) | ((with_reducible refine gate_dst (N := 6) rfl ?_); refine bE 6 #[.slice none 0 0, .slice none 0 0] 30 ?_; intro Jj hg U9 hbox hb; have n_ := aI (kB Ja hb) (aI (sB HB hb) (aI (aM hbox) (aI (gE HB hg) (aI (gE HB hg) (aI (nL Ja hg) (nG Ja hg)))))); clear Ja HB; obtain ⟨Ja, HB, Jb, J7, J8, Jm, Jn⟩ := n_; (try clear hb hbox hg); have UK := Jm.out; have UL := Jn.out; obtain ⟨_, _, _, _⟩ := z2 Ja) | ((with_reducible refine gate_callee (f := 75) rfl ?_); refine gL (some 10) Try.func75 #[.agg #[.slice Jt Jh.length Ju, .slice Jv Ji.length Jw]] ?_; (with_reducible refine (spec_l3Copy.calls _ _ Jh _ _ Ji Jk Jl _ ?side1 ?side2 ?side3 ?side4 A4.out).mono ?_); (case side1 => exact cS Jx HB); (case side2 => exact Jy.out); (case side3 => exact cS Jz HB); (case side4 => exact JA.out); rintro e Va ⟨Us, Ut, rfl, JG, JH, hb⟩; refine ⟨_, rfl, ?_⟩; have n_ := aI (lR HB JG) (aI (lR HB JH) (aI (kB Ja hb) (aI (kB Jb hb) (sB HB hb)))); clear Ja Jb HB; obtain ⟨Jd, Jf, Ja, Jb, HB⟩ := n_; (try clear hb JG JH)) | ((with_reducible refine gate_dst (N := 8) rfl ?_); refine bE 8 #[.slice none 0 0, .slice none 0 0] 30 ?_; intro Jg hg Vb hbox hb; have n_ := aI (rB Jd hb) (aI (rB Jf hb) (aI (kB Ja hb) (aI (kB Jb hb) (aI (sB HB hb) (aI (aM hbox) (aI (gE HB hg) (aI (gE HB hg) (aI (nL Ja hg) (aI (nG Ja hg) (aI (nL Jb hg) (nG Jb hg))))))))))); clear Jd Jf Ja Jb HB; obtain ⟨Jd, Jf, Ja, Jb, HB, Jc, J9, Ua, Jo, Jp, Jq, Jr⟩ := n_; (try clear hb hbox hg); obtain ⟨JE, JF, Uv⟩ := R_slice Jd.out; subst Uv; have UM := Jp.out; have UN := Jo.out; have UO := Jr.out; have UP := Jq.out; obtain ⟨_, _, _, _⟩ := z2 Jc; obtain ⟨JP, JQ, Uw⟩ := R_slice Jf.out; subst Uw) | ((with_reducible refine gate_builtin (b := .append) (xs := #[.tmp 12, .tmp 16]) rfl ?_); at_builtin; refine R_append k65 (w0 := w) w.heap.size rfl (.tmp 12) (.tmp 16) 28 65 (.agg #[(.int .i64 0), (.string ⟨#[]⟩)]) 24 rfl Try.underlying28 info65 rfl (by decide) (by omega) (.slice JP Jl.length JQ) Jl (⟨a1, a2⟩ : S65) [.int .i64 a1, .string a2] (fun _ => True) (fun _ => False) rfl (by first | (go_simp; done) | (go_simp; rfl)) ?aP (fun _ hk => hk.elim) ?aF ?aO ?aB ?aS ?aL ?_; (case aP => exact k65_mkM _ _ _ (⟨a1, a2⟩ : S65)); (case aB => exact bB); (case aF => exact (fun _ _ => trivial)); (case aO => exact (rP (R_mono (fR Jg 1 (fR Jg 0 (R_types Jf.out Jc.out (by decide)) s2 (.slice JE Jk.length JF)) s2 (.slice JP Jl.length JQ)) sT))); (case aS => exact (zB HB)); (case aL => have := Uf.out; omega); intro Uu Vc ho hb hg hat; rw [← JO.out] at ho; have n_ := aI (aM (blk_grown (g := JD) (o := .cells #[.slice Jt Jh.length Ju, .slice Jv Ji.length Jw] 30 (0, 0)) (kP Ja) hg (R_ne Jf.out Ja.out (by decide)))) (aI (aM (blk_grown (g := Jj) (o := .cells #[.slice none 0 0, .slice none 0 0] 30 (0, 0)) (kP Jb) hg (R_ne Jf.out Jb.out (by decide)))) (aI (aM (R_over' (rP (R_mono (fR Jg 1 (fR Jg 0 (R_types Jd.out Jc.out (by decide)) s2 (.slice JE Jk.length JF)) s2 (.slice JP Jl.length JQ)) s1)) (R_typed (rP (R_mono (fR Jg 1 (fR Jg 0 (R_types Jf.out Jc.out (by decide)) s2 (.slice JE Jk.length JF)) s2 (.slice JP Jl.length JQ)) s1))) (by decide) hg)) (aI (aM (blk_grown (g := Jg) (o := .cells #[.slice JE Jk.length JF, .slice JP Jl.length JQ] 30 (0, 0)) (pU Jc) hg (R_ne Jf.out Jc.out (by decide)))) (aI (aM (hb)) (aM (ho)))))); clear Ja Jb Jd Jc HB Jf; obtain ⟨Ja, Jb, Jd, Jc, HB, Je⟩ := n_; (try clear ho hb hg hat); obtain ⟨JJ, JK, Ux⟩ := R_slice Je.out; subst Ux; obtain ⟨_, _, _, _⟩ := z2 Jc; obtain ⟨_, _, _, _⟩ := z2 Ja) | ((with_reducible refine gate_callee (f := 16) rfl ?_); refine gL (some 20) Try.func16 #[.agg #[.slice Jt Jh.length Ju, .slice Jv Ji.length Jw]] ?_; (with_reducible refine (spec_DiskOk.calls k _ _ Jh _ _ Ji true _ ?side1 ?side2 ?side3 ?side4 A6.out).mono ?_); (case side1 => exact cS Jx HB); (case side2 => exact Jy.out); (case side3 => exact cS Jz HB); (case side4 => exact JA.out); rintro e Vd ⟨rfl, hb⟩; refine ⟨_, rfl, ?_⟩; have n_ := aI (aM (R_below (rP (R_mono (fR Jg 1 (R_types Jd.out Jc.out (by decide)) s2 (.slice JJ Js.length JK)) s1)) hb)) (aI (aM (R_below (rP (R_mono (fR Jg 1 (R_types Je.out Jc.out (by decide)) s2 (.slice JJ Js.length JK)) s1)) hb)) (aI (kB Ja hb) (aI (kB Jb hb) (aI (aM (blk_below (g := Jg) (o := .cells #[.slice JE Jk.length JF, .slice JJ Js.length JK] 30 (0, 0)) (pU Jc) hb)) (sB HB hb))))); clear Jd Je Ja Jb Jc HB; obtain ⟨Jd, Je, Ja, Jb, Jc, HB⟩ := n_; (try clear hb); obtain ⟨_, _, _, _⟩ := z2 Jc) | (go_at_call 16; (with_reducible refine (spec_DiskOk.calls k _ _ Jk _ _ Js true _ ?side1 ?side2 ?side3 ?side4 A8.out).mono ?_); (case side1 => exact cR Jd); (case side2 => exact (R_reads' Jd.out).2.1); (case side3 => exact cR Je); (case side4 => exact (R_reads' Je.out).2.1); rintro e Ve ⟨rfl, hb⟩; have n_ := aI (rB Jd hb) (aI (rB Je hb) (aI (kB Ja hb) (aI (kB Jb hb) (aI (kB Jc hb) (sB HB hb))))); clear Jd Je Ja Jb Jc HB; obtain ⟨Jd, Je, Ja, Jb, Jc, HB⟩ := n_; (try clear hb); obtain ⟨_, _, _, _⟩ := z2 Jc; obtain ⟨_, _, _, _⟩ := z2 Jb))
    refine bodyPost_ret (results_ct rfl _ _ Jj 30 #[.slice JE Jk.length JF, .slice JJ Js.length JK] (0, 0) _ rfl (pU Jb) Try.underlying30 rfl (by kernel_rfl)) rfl ?_;exact ⟨_, _, eW, by (with_reducible repeat (first | apply R_alloc | apply R_drewN | apply R_drew)); exact R_mono (fR Jj 1 (fR Jj 0 (R_types Jd.out Jb.out (by decide)) s2 (.slice JE Jk.length JF)) s2 (.slice JJ Js.length JK)) sT, by (with_reducible repeat (first | apply R_alloc | apply R_drewN | apply R_drew)); exact R_mono (fR Jj 1 (fR Jj 0 (R_types Je.out Jb.out (by decide)) s2 (.slice JE Jk.length JF)) s2 (.slice JJ Js.length JK)) sT, bB⟩
   replace c9 := Bool.eq_false_iff.mpr c9;subst c9;rw [if_neg (show ¬ (false = true) by decide)] at H;obtain ⟨⟨JZ, J0⟩, U2, H⟩ := oB H;try dsimp only at H
   simp only [Option.some.injEq, Prod.mk.injEq] at H;obtain ⟨rfl, rfl, rfl⟩ := H
   go_enter Try.func28, Try.ntmps28
   go_wp2_with (first | ((with_reducible refine gate_dst (N := 3) rfl ?_); refine bE 3 #[.slice Jt Jh.length Ju, .slice Jv Ji.length Jw] 30 ?_; intro JD hg Vf hbox hb; have n_ := aI (sB HB hb) (aI (aM hbox) (aI (gE HB hg) (gE HB hg))); clear HB; obtain ⟨HB, Ja, J5, J6⟩ := n_; (try clear hb hbox hg)) | ((with_reducible refine gate_dst (N := 6) rfl ?_); refine bE 6 #[.slice none 0 0, .slice none 0 0] 30 ?_; intro Jj hg Vg hbox hb; have n_ := aI (kB Ja hb) (aI (sB HB hb) (aI (aM hbox) (aI (gE HB hg) (aI (gE HB hg) (aI (nL Ja hg) (nG Ja hg)))))); clear Ja HB; obtain ⟨Ja, HB, Jb, J7, J8, Jm, Jn⟩ := n_; (try clear hb hbox hg); have UQ := Jm.out; have UR := Jn.out; obtain ⟨_, _, _, _⟩ := z2 Ja) | ((with_reducible refine gate_callee (f := 75) rfl ?_); refine gL (some 10) Try.func75 #[.agg #[.slice Jt Jh.length Ju, .slice Jv Ji.length Jw]] ?_; (with_reducible refine (spec_l3Copy.calls _ _ Jh _ _ Ji Jk Jl _ ?side1 ?side2 ?side3 ?side4 A4.out).mono ?_); (case side1 => exact cS Jx HB); (case side2 => exact Jy.out); (case side3 => exact cS Jz HB); (case side4 => exact JA.out); rintro e Vh ⟨Us, Ut, rfl, JG, JH, hb⟩; refine ⟨_, rfl, ?_⟩; have n_ := aI (lR HB JG) (aI (lR HB JH) (aI (kB Ja hb) (aI (kB Jb hb) (sB HB hb)))); clear Ja Jb HB; obtain ⟨Jd, Jf, Ja, Jb, HB⟩ := n_; (try clear hb JG JH)) | ((with_reducible refine gate_dst (N := 8) rfl ?_); refine bE 8 #[.slice none 0 0, .slice none 0 0] 30 ?_; intro Jg hg Vi hbox hb; have n_ := aI (rB Jd hb) (aI (rB Jf hb) (aI (kB Ja hb) (aI (kB Jb hb) (aI (sB HB hb) (aI (aM hbox) (aI (gE HB hg) (aI (gE HB hg) (aI (nL Ja hg) (aI (nG Ja hg) (aI (nL Jb hg) (nG Jb hg))))))))))); clear Jd Jf Ja Jb HB; obtain ⟨Jd, Jf, Ja, Jb, HB, Jc, J9, Ua, Jo, Jp, Jq, Jr⟩ := n_; (try clear hb hbox hg); obtain ⟨JR, JS, Uy⟩ := R_slice Jd.out; subst Uy; have US := Jp.out; have UT := Jo.out; have UU := Jr.out; have UV := Jq.out; obtain ⟨_, _, _, _⟩ := z2 Jc; obtain ⟨JT, JU, Uz⟩ := R_slice Jf.out; subst Uz) | ((with_reducible refine gate_builtin (b := .append) (xs := #[.tmp 12, .tmp 16]) rfl ?_); at_builtin; refine R_append k65 (w0 := w) w.heap.size rfl (.tmp 12) (.tmp 16) 28 65 (.agg #[(.int .i64 0), (.string ⟨#[]⟩)]) 24 rfl Try.underlying28 info65 rfl (by decide) (by omega) (.slice JT Jl.length JU) Jl (⟨a1, a2⟩ : S65) [.int .i64 a1, .string a2] (fun _ => True) (fun _ => False) rfl (by first | (go_simp; done) | (go_simp; rfl)) ?aP (fun _ hk => hk.elim) ?aF ?aO ?aB ?aS ?aL ?_; (case aP => exact k65_mkM _ _ _ (⟨a1, a2⟩ : S65)); (case aB => exact bB); (case aF => exact (fun _ _ => trivial)); (case aO => exact (rP (R_mono (fR Jg 1 (fR Jg 0 (R_types Jf.out Jc.out (by decide)) s2 (.slice JR Jk.length JS)) s2 (.slice JT Jl.length JU)) sT))); (case aS => exact (zB HB)); (case aL => have := Uf.out; omega); intro Uu Vj ho hb hg hat; rw [← JO.out] at ho; have n_ := aI (aM (blk_grown (g := JD) (o := .cells #[.slice Jt Jh.length Ju, .slice Jv Ji.length Jw] 30 (0, 0)) (kP Ja) hg (R_ne Jf.out Ja.out (by decide)))) (aI (aM (blk_grown (g := Jj) (o := .cells #[.slice none 0 0, .slice none 0 0] 30 (0, 0)) (kP Jb) hg (R_ne Jf.out Jb.out (by decide)))) (aI (aM (R_over' (rP (R_mono (fR Jg 1 (fR Jg 0 (R_types Jd.out Jc.out (by decide)) s2 (.slice JR Jk.length JS)) s2 (.slice JT Jl.length JU)) s1)) (R_typed (rP (R_mono (fR Jg 1 (fR Jg 0 (R_types Jf.out Jc.out (by decide)) s2 (.slice JR Jk.length JS)) s2 (.slice JT Jl.length JU)) s1))) (by decide) hg)) (aI (aM (blk_grown (g := Jg) (o := .cells #[.slice JR Jk.length JS, .slice JT Jl.length JU] 30 (0, 0)) (pU Jc) hg (R_ne Jf.out Jc.out (by decide)))) (aI (aM (hb)) (aM (ho)))))); clear Ja Jb Jd Jc HB Jf; obtain ⟨Ja, Jb, Jd, Jc, HB, Je⟩ := n_; (try clear ho hb hg hat); obtain ⟨Ug, Uh, UA⟩ := R_slice Je.out; subst UA; obtain ⟨_, _, _, _⟩ := z2 Jc; obtain ⟨_, _, _, _⟩ := z2 Ja) | ((with_reducible refine gate_callee (f := 16) rfl ?_); refine gL (some 20) Try.func16 #[.agg #[.slice Jt Jh.length Ju, .slice Jv Ji.length Jw]] ?_; (with_reducible refine (spec_DiskOk.calls k _ _ Jh _ _ Ji true _ ?side1 ?side2 ?side3 ?side4 A6.out).mono ?_); (case side1 => exact cS Jx HB); (case side2 => exact Jy.out); (case side3 => exact cS Jz HB); (case side4 => exact JA.out); rintro e Vk ⟨rfl, hb⟩; refine ⟨_, rfl, ?_⟩; have n_ := aI (aM (R_below (rP (R_mono (fR Jg 1 (R_types Jd.out Jc.out (by decide)) s2 (.slice Ug Js.length Uh)) s1)) hb)) (aI (aM (R_below (rP (R_mono (fR Jg 1 (R_types Je.out Jc.out (by decide)) s2 (.slice Ug Js.length Uh)) s1)) hb)) (aI (kB Ja hb) (aI (kB Jb hb) (aI (aM (blk_below (g := Jg) (o := .cells #[.slice JR Jk.length JS, .slice Ug Js.length Uh] 30 (0, 0)) (pU Jc) hb)) (sB HB hb))))); clear Jd Je Ja Jb Jc HB; obtain ⟨Jd, Je, Ja, Jb, Jc, HB⟩ := n_; (try clear hb); obtain ⟨_, _, _, _⟩ := z2 Jc) | (go_at_call 16; (with_reducible refine (spec_DiskOk.calls k _ _ Jk _ _ Js false _ ?side1 ?side2 ?side3 ?side4 A8.out).mono ?_); (case side1 => exact cR Jd); (case side2 => exact (R_reads' Jd.out).2.1); (case side3 => exact cR Je); (case side4 => exact (R_reads' Je.out).2.1); rintro e Vl ⟨rfl, hb⟩; have n_ := aI (rB Jd hb) (aI (rB Je hb) (aI (kB Ja hb) (aI (kB Jb hb) (aI (kB Jc hb) (sB HB hb))))); clear Jd Je Ja Jb Jc HB; obtain ⟨Jd, Je, Ja, Jb, Jc, HB⟩ := n_; (try clear hb); obtain ⟨_, _, _, _⟩ := z2 Ja) | ((with_reducible refine gate_callee (f := 75) rfl ?_); refine gL (some 28) Try.func75 #[.agg #[.slice Jt Jh.length Ju, .slice Jv Ji.length Jw]] ?_; (with_reducible refine (spec_l3Copy.calls _ _ Jh _ _ Ji JZ J0 _ ?side1 ?side2 ?side3 ?side4 U2.out).mono ?_); (case side1 => exact cS Jx HB); (case side2 => exact Jy.out); (case side3 => exact cS Jz HB); (case side4 => exact JA.out); rintro e Vm ⟨U3, U4, rfl, JG, JH, hb⟩; refine ⟨_, rfl, ?_⟩; have n_ := aI (eR Jd JG hb) (aI (eR Je JH hb) (aI (aM (R_lower (R_new' JG (rL Jd)) (zB HB))) (aI (aM (R_lower (R_new' JH (rL Je)) (zB HB))) (aI (kB Ja hb) (aI (kB Jb hb) (aI (kB Jc hb) (sB HB hb))))))); clear Jd Je Ja Jb Jc HB; obtain ⟨Jd, Je, Ub, Uc, Ja, Jb, Jc, HB⟩ := n_; (try clear hb JG JH); obtain ⟨Ui, Uj, UB⟩ := R_slice Ub.out; subst UB; obtain ⟨_, _, _, _⟩ := z2 Jb; obtain ⟨Uk, Ul, UC⟩ := R_slice Uc.out; subst UC))
   refine bodyPost_ret (results_ct rfl _ _ Jj 30 #[.slice Ui JZ.length Uj, .slice Uk J0.length Ul] (0, 0) _ rfl (pU Jb) Try.underlying30 rfl (by kernel_rfl)) rfl ?_;exact ⟨_, _, eW, by (with_reducible repeat (first | apply R_alloc | apply R_drewN | apply R_drew)); exact R_mono (fR Jj 1 (fR Jj 0 (R_types Ub.out Jb.out (by decide)) s2 (.slice Ui JZ.length Uj)) s2 (.slice Uk J0.length Ul)) sT, by (with_reducible repeat (first | apply R_alloc | apply R_drewN | apply R_drew)); exact R_mono (fR Jj 1 (fR Jj 0 (R_types Uc.out Jb.out (by decide)) s2 (.slice Ui JZ.length Uj)) s2 (.slice Uk J0.length Ul)) sT, bB⟩
  replace c7 := Bool.eq_false_iff.mpr c7;subst c7;rw [if_neg (show ¬ (false = true) by decide)] at H;obtain ⟨⟨J1, J2⟩, U5, H⟩ := oB H;try dsimp only at H
  simp only [Option.some.injEq, Prod.mk.injEq] at H;obtain ⟨rfl, rfl, rfl⟩ := H
  go_enter Try.func28, Try.ntmps28
  go_wp2_with (first | ((with_reducible refine gate_dst (N := 3) rfl ?_); refine bE 3 #[.slice Jt Jh.length Ju, .slice Jv Ji.length Jw] 30 ?_; intro JD hg Vn hbox hb; have n_ := aI (sB HB hb) (aI (aM hbox) (aI (gE HB hg) (gE HB hg))); clear HB; obtain ⟨HB, Ja, J5, J6⟩ := n_; (try clear hb hbox hg)) | ((with_reducible refine gate_dst (N := 6) rfl ?_); refine bE 6 #[.slice none 0 0, .slice none 0 0] 30 ?_; intro Jj hg Vo hbox hb; have n_ := aI (kB Ja hb) (aI (sB HB hb) (aI (aM hbox) (aI (gE HB hg) (aI (gE HB hg) (aI (nL Ja hg) (nG Ja hg)))))); clear Ja HB; obtain ⟨Ja, HB, Jb, J7, J8, Jm, Jn⟩ := n_; (try clear hb hbox hg); have UW := Jm.out; have UX := Jn.out; obtain ⟨_, _, _, _⟩ := z2 Ja) | ((with_reducible refine gate_callee (f := 75) rfl ?_); refine gL (some 10) Try.func75 #[.agg #[.slice Jt Jh.length Ju, .slice Jv Ji.length Jw]] ?_; (with_reducible refine (spec_l3Copy.calls _ _ Jh _ _ Ji Jk Jl _ ?side1 ?side2 ?side3 ?side4 A4.out).mono ?_); (case side1 => exact cS Jx HB); (case side2 => exact Jy.out); (case side3 => exact cS Jz HB); (case side4 => exact JA.out); rintro e Vp ⟨Us, Ut, rfl, JG, JH, hb⟩; refine ⟨_, rfl, ?_⟩; have n_ := aI (lR HB JG) (aI (lR HB JH) (aI (kB Ja hb) (aI (kB Jb hb) (sB HB hb)))); clear Ja Jb HB; obtain ⟨Jd, Jf, Ja, Jb, HB⟩ := n_; (try clear hb JG JH)) | ((with_reducible refine gate_dst (N := 8) rfl ?_); refine bE 8 #[.slice none 0 0, .slice none 0 0] 30 ?_; intro Jg hg Vq hbox hb; have n_ := aI (rB Jd hb) (aI (rB Jf hb) (aI (kB Ja hb) (aI (kB Jb hb) (aI (sB HB hb) (aI (aM hbox) (aI (gE HB hg) (aI (gE HB hg) (aI (nL Ja hg) (aI (nG Ja hg) (aI (nL Jb hg) (nG Jb hg))))))))))); clear Jd Jf Ja Jb HB; obtain ⟨Jd, Jf, Ja, Jb, HB, Jc, J9, Ua, Jo, Jp, Jq, Jr⟩ := n_; (try clear hb hbox hg); obtain ⟨JV, JW, UD⟩ := R_slice Jd.out; subst UD; have UY := Jp.out; have UZ := Jo.out; have U0 := Jr.out; have U1 := Jq.out; obtain ⟨_, _, _, _⟩ := z2 Jc; obtain ⟨JX, JY, UE⟩ := R_slice Jf.out; subst UE) | ((with_reducible refine gate_builtin (b := .append) (xs := #[.tmp 12, .tmp 16]) rfl ?_); at_builtin; refine R_append k65 (w0 := w) w.heap.size rfl (.tmp 12) (.tmp 16) 28 65 (.agg #[(.int .i64 0), (.string ⟨#[]⟩)]) 24 rfl Try.underlying28 info65 rfl (by decide) (by omega) (.slice JX Jl.length JY) Jl (⟨a1, a2⟩ : S65) [.int .i64 a1, .string a2] (fun _ => True) (fun _ => False) rfl (by first | (go_simp; done) | (go_simp; rfl)) ?aP (fun _ hk => hk.elim) ?aF ?aO ?aB ?aS ?aL ?_; (case aP => exact k65_mkM _ _ _ (⟨a1, a2⟩ : S65)); (case aB => exact bB); (case aF => exact (fun _ _ => trivial)); (case aO => exact (rP (R_mono (fR Jg 1 (fR Jg 0 (R_types Jf.out Jc.out (by decide)) s2 (.slice JV Jk.length JW)) s2 (.slice JX Jl.length JY)) sT))); (case aS => exact (zB HB)); (case aL => have := Uf.out; omega); intro Uu Vr ho hb hg hat; rw [← JO.out] at ho; have n_ := aI (aM (blk_grown (g := JD) (o := .cells #[.slice Jt Jh.length Ju, .slice Jv Ji.length Jw] 30 (0, 0)) (kP Ja) hg (R_ne Jf.out Ja.out (by decide)))) (aI (aM (blk_grown (g := Jj) (o := .cells #[.slice none 0 0, .slice none 0 0] 30 (0, 0)) (kP Jb) hg (R_ne Jf.out Jb.out (by decide)))) (aI (aM (R_over' (rP (R_mono (fR Jg 1 (fR Jg 0 (R_types Jd.out Jc.out (by decide)) s2 (.slice JV Jk.length JW)) s2 (.slice JX Jl.length JY)) s1)) (R_typed (rP (R_mono (fR Jg 1 (fR Jg 0 (R_types Jf.out Jc.out (by decide)) s2 (.slice JV Jk.length JW)) s2 (.slice JX Jl.length JY)) s1))) (by decide) hg)) (aI (aM (blk_grown (g := Jg) (o := .cells #[.slice JV Jk.length JW, .slice JX Jl.length JY] 30 (0, 0)) (pU Jc) hg (R_ne Jf.out Jc.out (by decide)))) (aI (aM (hb)) (aM (ho)))))); clear Ja Jb Jd Jc HB Jf; obtain ⟨Ja, Jb, Jd, Jc, HB, Je⟩ := n_; (try clear ho hb hg hat); obtain ⟨Um, Un, UF⟩ := R_slice Je.out; subst UF; obtain ⟨_, _, _, _⟩ := z2 Jc; obtain ⟨_, _, _, _⟩ := z2 Ja) | ((with_reducible refine gate_callee (f := 16) rfl ?_); refine gL (some 20) Try.func16 #[.agg #[.slice Jt Jh.length Ju, .slice Jv Ji.length Jw]] ?_; (with_reducible refine (spec_DiskOk.calls k _ _ Jh _ _ Ji false _ ?side1 ?side2 ?side3 ?side4 A6.out).mono ?_); (case side1 => exact cS Jx HB); (case side2 => exact Jy.out); (case side3 => exact cS Jz HB); (case side4 => exact JA.out); rintro e Vs ⟨rfl, hb⟩; refine ⟨_, rfl, ?_⟩; have n_ := aI (aM (R_below (rP (R_mono (fR Jg 1 (R_types Jd.out Jc.out (by decide)) s2 (.slice Um Js.length Un)) s1)) hb)) (aI (aM (R_below (rP (R_mono (fR Jg 1 (R_types Je.out Jc.out (by decide)) s2 (.slice Um Js.length Un)) s1)) hb)) (aI (kB Ja hb) (aI (kB Jb hb) (aI (aM (blk_below (g := Jg) (o := .cells #[.slice JV Jk.length JW, .slice Um Js.length Un] 30 (0, 0)) (pU Jc) hb)) (sB HB hb))))); clear Jd Je Ja Jb Jc HB; obtain ⟨Jd, Je, Ja, Jb, Jc, HB⟩ := n_; (try clear hb); obtain ⟨_, _, _, _⟩ := z2 Ja) | ((with_reducible refine gate_callee (f := 75) rfl ?_); refine gL (some 28) Try.func75 #[.agg #[.slice Jt Jh.length Ju, .slice Jv Ji.length Jw]] ?_; (with_reducible refine (spec_l3Copy.calls _ _ Jh _ _ Ji J1 J2 _ ?side1 ?side2 ?side3 ?side4 U5.out).mono ?_); (case side1 => exact cS Jx HB); (case side2 => exact Jy.out); (case side3 => exact cS Jz HB); (case side4 => exact JA.out); rintro e Vt ⟨U6, U7, rfl, JG, JH, hb⟩; refine ⟨_, rfl, ?_⟩; have n_ := aI (eR Jd JG hb) (aI (eR Je JH hb) (aI (aM (R_lower (R_new' JG (rL Jd)) (zB HB))) (aI (aM (R_lower (R_new' JH (rL Je)) (zB HB))) (aI (kB Ja hb) (aI (kB Jb hb) (aI (kB Jc hb) (sB HB hb))))))); clear Jd Je Ja Jb Jc HB; obtain ⟨Jd, Je, Ud, Ue, Ja, Jb, Jc, HB⟩ := n_; (try clear hb JG JH); obtain ⟨Uo, Up, UG⟩ := R_slice Ud.out; subst UG; obtain ⟨_, _, _, _⟩ := z2 Jb; obtain ⟨Uq, Ur, UH⟩ := R_slice Ue.out; subst UH))
  refine bodyPost_ret (results_ct rfl _ _ Jj 30 #[.slice Uo J1.length Up, .slice Uq J2.length Ur] (0, 0) _ rfl (pU Jb) Try.underlying30 rfl (by kernel_rfl)) rfl ?_;exact ⟨_, _, eW, by (with_reducible repeat (first | apply R_alloc | apply R_drewN | apply R_drew)); exact R_mono (fR Jj 1 (fR Jj 0 (R_types Ud.out Jb.out (by decide)) s2 (.slice Uo J1.length Up)) s2 (.slice Uq J2.length Ur)) sT, by (with_reducible repeat (first | apply R_alloc | apply R_drewN | apply R_drew)); exact R_mono (fR Jj 1 (fR Jj 0 (R_types Ue.out Jb.out (by decide)) s2 (.slice Uo J1.length Up)) s2 (.slice Uq J2.length Ur)) sT, bB⟩
 rw [if_neg c5] at H;exact absurd H (by simp)

end Go.Proofs.Ytgmpdkefegofhaa.PFnAtomic
