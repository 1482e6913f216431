-- printed
import Derived.Test.YtgmpdkefegofhaaPFnAtomicx0
namespace Go.Proofs.Ytgmpdkefegofhaa.PFnAtomic
open Go.RowKit Go.Proofs.YtgmpdkefegofhaaW.PrintWords Go.Proofs.YtgmpdkefegofhaaW.PrintLast Go.Proofs.YtgmpdkefegofhaaW.PrintMore Go.Proofs.YtgmpdkefegofhaaW.Cr
attribute [local go_sem] max2_int min2_int max_two min_two max_three min_three max_four min_four
set_option maxHeartbeats 8000000
set_option maxRecDepth 100000
set_option linter.unusedVariables false
set_option linter.unusedSimpArgs false

def laws_at0.f (l0 : List Int) (a1 : Int) : Option (Int) := if a1 < (l0.length : Int) then (if 0 ≤ a1 then (some (wrap64 (rd l0 a1))) else (none)) else (some (Int.tmod (wrap64 ((wrap64 (a1 * 7)) + (l0.length : Int))) 256))
theorem laws_at0.calls (A0 : Option Addr) (c0 : Nat) (l0 : List Int) (a1 : Int) (r : Int) (w : World) (hr0 : Kd.C (Kd.int .u8) w A0 l0.length l0) (Jf : l0.length ≤ c0) (h : laws_at0.f l0 a1 = some r) :
  Calls Try.prog 55 #[.slice A0 l0.length c0, .int .i64 a1] w fun e w' => e = .returned (.int .i64 r) ∧ Drawn0 w w' := by
 have Jh := aM hr0;have Jj := aM Jf;clear hr0 Jf;unfold laws_at0.f at h;have H := h;clear h
 by_cases c3 : a1 < (l0.length : Int)
 ·rw [if_pos c3] at H
  have Jd := decide_eq_true c3;clear c3
  by_cases c4 : 0 ≤ a1
  ·rw [if_pos c4] at H
   have Ji := decide_eq_true c4;clear c4;obtain rfl := Option.some.inj H;have Ja : 0 ≤ (a1 : Int) := dT;have Jb : a1 < (l0.length : Int) := dT;obtain ⟨Jg, Je, Jc⟩ := Kd.at_int Jh.out a1 Ja Jb;cases Je
   replace Ja := eq_true Ja;replace Jb := eq_true Jb
   go_enter Try.func55, Try.ntmps55
   go_wp2
   go_ret
   exact ⟨by first | rfl | (simp; done) | (simp [*]; done), by repeat (first | exact Drawn0.refl _ | apply Drawn0.step)⟩
  rw [if_neg c4] at H;exact absurd H (by simp)
 rw [if_neg c3] at H;have Jd := decide_eq_false c3;clear c3;obtain rfl := Option.some.inj H
 go_enter Try.func55, Try.ntmps55
 go_wp2
 go_ret
 exact ⟨by first | rfl | (simp; done) | (simp [*]; done), by repeat (first | exact Drawn0.refl _ | apply Drawn0.step)⟩

def laws_sameTexts.l0 : Nat → List ByteArray → List ByteArray → Int → Option (Bool)
 | 0, _, _, _ => none
 | k + 1, x0, x1, x5 => if x5 < (x0.length : Int) then (if 0 ≤ x5 then (if x5 < (x1.length : Int) then (if (rdOf ByteArray.empty x0 x5).toList = (rdOf ByteArray.empty x1 x5).toList then (laws_sameTexts.l0 k x0 x1 (wrap64 (x5 + 1))) else (some false)) else (none)) else (none)) else (some true)
def laws_sameTexts.f (k : Nat) (l0 : List ByteArray) (l1 : List ByteArray) : Option (Bool) := if (l0.length : Int) = (l1.length : Int) then (laws_sameTexts.l0 k l0 l1 0) else (some false)
theorem laws_sameTexts.mono_l : ∀ k, (∀ y0 y1 y2, LeO (laws_sameTexts.l0 k y0 y1 y2) (laws_sameTexts.l0 (k + 1) y0 y1 y2))
 | 0 => fun _ _ _ r h => by simp [laws_sameTexts.l0] at h
 | k + 1 => by
  have ih0 := laws_sameTexts.mono_l k
  ·intro y0 y1 y2
   unfold laws_sameTexts.l0;exact mM
theorem laws_sameTexts.mono : ∀ a0 a1 k, LeO (laws_sameTexts.f k a0 a1) (laws_sameTexts.f (k + 1) a0 a1) := by
 intro a0 a1 k;have ih0 := laws_sameTexts.mono_l k;unfold laws_sameTexts.f;exact mM
theorem laws_sameTexts.calls (k : Nat) (A0 : Option Addr) (c0 : Nat) (l0 : List ByteArray) (A1 : Option Addr) (c1 : Nat) (l1 : List ByteArray) (r : Bool) (w : World) (hr0 : Kd.C Kd.string w A0 l0.length l0) (Jr : l0.length ≤ c0) (hr1 : Kd.C Kd.string w A1 l1.length l1) (Js : l1.length ≤ c1) (h : laws_sameTexts.f k l0 l1 = some r) :
  Calls Try.prog 56 #[.slice A0 l0.length c0, .slice A1 l1.length c1] w fun e w' => e = .returned (.bool r) ∧ Drawn0 w w' := by
 have Jt := aM hr0;have Jx := aM Jr;clear hr0 Jr;have Ju := aM hr1;have Jy := aM Js;clear hr1 Js;unfold laws_sameTexts.f at h;have H := h;clear h
 by_cases c3 : (l0.length : Int) = (l1.length : Int)
 ·rw [if_pos c3] at H
  have Jl := beq_iff_eq.mpr c3;have Jm := bne_eq_false_iff_eq.mpr c3;have Jn : (l0.length == l1.length) = true := by first | simpa using c3 | (simp at c3 ⊢; omega)
  clear c3;have H' := aM H;clear H
  go_enter Try.func56, Try.ntmps56
  go_wp2
  repeat (go_quiet (fail); try go_wp2)
  go_loopg [5] k (fun kq v5 w' => ∃ (Ja : Int), v5 = .int .i64 Ja ∧ Aside0 (laws_sameTexts.l0 kq l0 l1 Ja = some r) ∧ Aside0 (kq ≤ k) ∧ Drawn0 w w')
  case atStart => exact ⟨(0), eV, H', ⟨Nat.le_refl _⟩, by repeat (first | exact Drawn0.refl _ | apply Drawn0.step)⟩
  case round =>
   clear H';obtain ⟨Ja, rfl, HA, HK1, ⟨m1, rfl⟩⟩ := hrel
   cases gk with
   | zero => exact absurd HA.out (by simp [laws_sameTexts.l0])
   | succ k1 =>
    have H := HA.out;clear HA;simp only [laws_sameTexts.l0] at H
    by_cases c4 : Ja < (l0.length : Int)
    ·rw [if_pos c4] at H
     have Jo := decide_eq_true c4;clear c4
     by_cases c5 : 0 ≤ Ja
     ·rw [if_pos c5] at H
      have Jv := decide_eq_true c5;clear c5
      by_cases c6 : Ja < (l1.length : Int)
      ·rw [if_pos c6] at H
       have Jw := decide_eq_true c6;clear c6
       by_cases c7 : (rdOf ByteArray.empty l0 Ja).toList = (rdOf ByteArray.empty l1 Ja).toList
       ·rw [if_pos c7] at H
        have Jp := beq_iff_eq.mpr c7;have Jq := bne_eq_false_iff_eq.mpr c7;clear c7;have H' := aM H;clear H;have Jb : 0 ≤ (Ja : Int) := dT;have Jc : Ja < (l0.length : Int) := dT;obtain ⟨Jj, Jh, Jf⟩ := Kd.at_string Jt.out Ja Jb Jc;cases Jh
        replace Jb := eq_true Jb;replace Jc := eq_true Jc;have Jd : 0 ≤ (Ja : Int) := dT;have Je : Ja < (l1.length : Int) := dT;obtain ⟨Jk, Ji, Jg⟩ := Kd.at_string Ju.out Ja Jd Je;cases Ji
        replace Jd := eq_true Jd;replace Je := eq_true Je
        go_wp2
        repeat (go_quiet (fail); try go_wp2)
        go_roundg k1
        case measure => have := HK1.out; omega
        case rel => exact ⟨(wrap64 (Ja + 1)), eV, H', ⟨by have := HK1.out; omega⟩, by repeat (first | exact Drawn0.refl _ | apply Drawn0.step)⟩
       ·rw [if_neg c7] at H
        have Jp := beq_eq_false_iff_ne.mpr c7;have Jq := bne_iff_ne.mpr c7;obtain rfl := Option.some.inj H;have Jb : 0 ≤ (Ja : Int) := dT;have Jc : Ja < (l0.length : Int) := dT;obtain ⟨Jj, Jh, Jf⟩ := Kd.at_string Jt.out Ja Jb Jc;cases Jh
        replace Jb := eq_true Jb;replace Jc := eq_true Jc;have Jd : 0 ≤ (Ja : Int) := dT;have Je : Ja < (l1.length : Int) := dT;obtain ⟨Jk, Ji, Jg⟩ := Kd.at_string Ju.out Ja Jd Je;cases Ji
        replace Jd := eq_true Jd;replace Je := eq_true Je
        go_wp2
        repeat (go_quiet (fail); try go_wp2)
        go_ret
        exact ⟨by first | rfl | (simp; done) | (simp [*]; done), by repeat (first | exact Drawn0.refl _ | apply Drawn0.step)⟩
      ·rw [if_neg c6] at H
       exact absurd H (by simp)
     ·rw [if_neg c5] at H
      exact absurd H (by simp)
    ·rw [if_neg c4] at H
     have Jo := decide_eq_false c4;clear c4;obtain rfl := Option.some.inj H
     go_wp2
     repeat (go_quiet (fail); try go_wp2)
     go_ret
     exact ⟨by first | rfl | (simp; done) | (simp [*]; done), by repeat (first | exact Drawn0.refl _ | apply Drawn0.step)⟩
 rw [if_neg c3] at H;have Jl := beq_eq_false_iff_ne.mpr c3;have Jm := bne_iff_ne.mpr c3;have Jn : (l0.length == l1.length) = false := by first | simpa using c3 | (simp at c3 ⊢; omega)
 obtain rfl := Option.some.inj H
 go_enter Try.func56, Try.ntmps56
 go_wp2
 repeat (go_quiet (fail); try go_wp2)
 go_ret
 exact ⟨by first | rfl | (simp; done) | (simp [*]; done), by repeat (first | exact Drawn0.refl _ | apply Drawn0.step)⟩

end Go.Proofs.Ytgmpdkefegofhaa.PFnAtomic
