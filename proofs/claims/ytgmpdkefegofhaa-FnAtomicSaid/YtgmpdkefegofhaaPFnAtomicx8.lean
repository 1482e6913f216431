-- printed
import Derived.Test.YtgmpdkefegofhaaPFnAtomicx0
import Derived.Test.YtgmpdkefegofhaaPFnAtomicx2
import Derived.Test.YtgmpdkefegofhaaPFnAtomicx7
namespace Go.Proofs.Ytgmpdkefegofhaa.PFnAtomic
open Go.RowKit Go.Proofs.YtgmpdkefegofhaaW.PrintWords Go.Proofs.YtgmpdkefegofhaaW.PrintLast Go.Proofs.YtgmpdkefegofhaaW.PrintMore Go.Proofs.YtgmpdkefegofhaaW.Cr
open Go.Proofs.YtgmpdkefegofhaaW.PrintWords.Kd (Q_nil R_alloc R_append R_append_step R_base2 R_celln R_drew R_drewN R_far R_form R_keep R_lit R_lower R_make R_mono R_ne R_nil R_over' R_putn R_reads' R_slice R_typed R_types)
attribute [local go_sem] max2_int min2_int max_two min_two max_three min_three max_four min_four
set_option maxHeartbeats 8000000
set_option maxRecDepth 100000
set_option linter.unusedVariables false
set_option linter.unusedSimpArgs false

def spec_l1Below.f (Ja : List Int) (Jb : Int) (Jc : Int) (a1 : Int) : Option (Int × Int × Int) := if a1 ≤ 0 then (some (0, Jb, Jc)) else (if a1 ≤ 256 then ((spec_l1Byte.f Ja Jb Jc).bind fun Jd => (if a1 = 0 then (none) else (some (Int.tmod Jd.1 a1, Jd.2.1, Jd.2.2)))) else ((spec_l1Byte.f Ja Jb Jc).bind fun Je => ((spec_l1Byte.f Ja Je.2.1 Je.2.2).bind fun Jf => ((spec_l1Byte.f Ja Jf.2.1 Jf.2.2).bind fun Jg => ((spec_l1Byte.f Ja Jg.2.1 Jg.2.2).bind fun Jh => (if a1 = 0 then (none) else (some (Int.tmod (wrap64 ((wrap64 ((wrap64 ((wrap64 (Je.1 * 16777216)) + (wrap64 (Jf.1 * 65536)))) + (wrap64 (Jg.1 * 256)))) + Jh.1)) a1, Jh.2.1, Jh.2.2))))))))
theorem spec_l1Below.calls (g : Nat) (Ja : List Int) (Jb : Int) (Jc : Int) (a1 : Int) (r1 : Int) (r2 : Int) (r3 : Int) (w0 w : World) (hI : IsS123 w0 w g Ja Jb Jc) (hB : Below w0.heap.size w0 w) (h : spec_l1Below.f Ja Jb Jc a1 = some (r1, r2, r3)) :
  Calls Try.prog 95 #[.pointer (some ⟨g, 0, none⟩), .int .i64 a1] w fun e w' => e = .returned (.int .i64 r1) ∧ IsS123 w0 w' g Ja r2 r3 ∧ Below w0.heap.size w0 w' ∧ KeepBut w w' g none := by
 have HI0 := aM hI;have GEg_ := aM (IsS123.ge hI);have HK := aM (KeepBut.refl w g none);have HL := aM hB.size;clear hI;have HW0 := aM hB.size;have HB := aM hB;clear hB;unfold spec_l1Below.f at h;have H := h;clear h
 by_cases c3 : a1 ≤ 0
 ·rw [if_pos c3] at H
  have Jp := decide_eq_true c3;clear c3;simp only [Option.some.injEq, Prod.mk.injEq] at H;obtain ⟨rfl, rfl, rfl⟩ := H
  go_enter Try.func95, Try.ntmps95
  go_wp2
  go_ret
  exact ⟨eW, IsS123.iI HI0, bB, bK HK⟩
 rw [if_neg c3] at H;have Jp := decide_eq_false c3;clear c3
 by_cases c4 : a1 ≤ 256
 ·rw [if_pos c4] at H
  have Jq := decide_eq_true c4;clear c4;obtain ⟨⟨Jr, Js, Jt⟩, A5, H⟩ := oB H;try dsimp only at H
  by_cases c6 : a1 = 0
  ·rw [if_pos c6] at H
   exact absurd H (by simp)
  rw [if_neg c6] at H;have JC := beq_eq_false_iff_ne.mpr c6;have JD := bne_iff_ne.mpr c6;simp only [Option.some.injEq, Prod.mk.injEq] at H;obtain ⟨rfl, rfl, rfl⟩ := H
  go_enter Try.func95, Try.ntmps95
  go_wp2_with (first | ((with_reducible refine gate_callee (f := 121) rfl ?_); refine gL (some 14) Try.func121 #[.pointer (some ⟨g, 0, none⟩)] ?_; (with_reducible refine (spec_l1Byte.calls g Ja Jb Jc Jr Js Jt w0 _ ?side1 ?side2 A5.out).mono ?_); (case side1 => exact IsS123.iI HI0); (case side2 => exact bB); rintro e w7 ⟨rfl, hi, hb, hk⟩; refine ⟨_, rfl, ?_⟩; have n_ := aI (aM (KeepBut.trans (bK HK) hk (.inl rfl))) (aI (aM (hb)) (aM (hi))); clear HK HB HI0; obtain ⟨HK, HB, HI0⟩ := n_; (try clear hb hk hi)))
  go_ret
  exact ⟨eW, IsS123.iI HI0, bB, bK HK⟩
 rw [if_neg c4] at H;have Jq := decide_eq_false c4;clear c4;obtain ⟨⟨Ju, Ji, Jj⟩, A8, H⟩ := oB H;try dsimp only at H
 obtain ⟨⟨Jv, Jk, Jl⟩, A9, H⟩ := oB H;try dsimp only at H
 obtain ⟨⟨Jw, Jm, Jn⟩, JE, H⟩ := oB H;try dsimp only at H
 obtain ⟨⟨Jx, Jy, Jz⟩, JF, H⟩ := oB H;try dsimp only at H
 by_cases Jo : a1 = 0
 ·rw [if_pos Jo] at H
  exact absurd H (by simp)
 rw [if_neg Jo] at H;have JA := beq_eq_false_iff_ne.mpr Jo;have JB := bne_iff_ne.mpr Jo;simp only [Option.some.injEq, Prod.mk.injEq] at H;obtain ⟨rfl, rfl, rfl⟩ := H
 go_enter Try.func95, Try.ntmps95
 go_wp2_with (first | ((with_reducible refine gate_callee (f := 121) rfl ?_); refine gL (some 18) Try.func121 #[.pointer (some ⟨g, 0, none⟩)] ?_; (with_reducible refine (spec_l1Byte.calls g Ja Jb Jc Ju Ji Jj w0 _ ?side1 ?side2 A8.out).mono ?_); (case side1 => exact IsS123.iI HI0); (case side2 => exact bB); rintro e JG ⟨rfl, hi, hb, hk⟩; refine ⟨_, rfl, ?_⟩; have n_ := aI (aM (KeepBut.trans (bK HK) hk (.inl rfl))) (aI (aM (hb)) (aM (hi))); clear HK HB HI0; obtain ⟨HK, HB, HI0⟩ := n_; (try clear hb hk hi)) | ((with_reducible refine gate_callee (f := 121) rfl ?_); refine gL (some 20) Try.func121 #[.pointer (some ⟨g, 0, none⟩)] ?_; (with_reducible refine (spec_l1Byte.calls g Ja Ji Jj Jv Jk Jl w0 _ ?side1 ?side2 A9.out).mono ?_); (case side1 => exact IsS123.iI HI0); (case side2 => exact bB); rintro e JH ⟨rfl, hi, hb, hk⟩; refine ⟨_, rfl, ?_⟩; have n_ := aI (aM (KeepBut.trans (bK HK) hk (.inl rfl))) (aI (aM (hb)) (aM (hi))); clear HK HB HI0; obtain ⟨HK, HB, HI0⟩ := n_; (try clear hb hk hi)) | ((with_reducible refine gate_callee (f := 121) rfl ?_); refine gL (some 22) Try.func121 #[.pointer (some ⟨g, 0, none⟩)] ?_; (with_reducible refine (spec_l1Byte.calls g Ja Jk Jl Jw Jm Jn w0 _ ?side1 ?side2 JE.out).mono ?_); (case side1 => exact IsS123.iI HI0); (case side2 => exact bB); rintro e JI ⟨rfl, hi, hb, hk⟩; refine ⟨_, rfl, ?_⟩; have n_ := aI (aM (KeepBut.trans (bK HK) hk (.inl rfl))) (aI (aM (hb)) (aM (hi))); clear HK HB HI0; obtain ⟨HK, HB, HI0⟩ := n_; (try clear hb hk hi)) | ((with_reducible refine gate_callee (f := 121) rfl ?_); refine gL (some 24) Try.func121 #[.pointer (some ⟨g, 0, none⟩)] ?_; (with_reducible refine (spec_l1Byte.calls g Ja Jm Jn Jx Jy Jz w0 _ ?side1 ?side2 JF.out).mono ?_); (case side1 => exact IsS123.iI HI0); (case side2 => exact bB); rintro e JJ ⟨rfl, hi, hb, hk⟩; refine ⟨_, rfl, ?_⟩; have n_ := aI (aM (KeepBut.trans (bK HK) hk (.inl rfl))) (aI (aM (hb)) (aM (hi))); clear HK HB HI0; obtain ⟨HK, HB, HI0⟩ := n_; (try clear hb hk hi)))
 go_ret
 exact ⟨eW, IsS123.iI HI0, bB, bK HK⟩

def spec_l1PickInt.f (Jc : List Int) (Je : Int) (Jf : Int) (l1 : List Int) : Option (Int × Int × Int) := (spec_l1Below.f Jc Je Jf (l1.length : Int)).bind fun Ja => (if 0 ≤ Ja.1 then (if Ja.1 < (l1.length : Int) then (some (rd l1 Ja.1, Ja.2.1, Ja.2.2)) else (none)) else (none))
theorem spec_l1PickInt.calls (g : Nat) (Jc : List Int) (Je : Int) (Jf : Int) (A1 : Option Addr) (c1 : Nat) (l1 : List Int) (r1 : Int) (r2 : Int) (r3 : Int) (w0 w : World) (hI : IsS123 w0 w g Jc Je Jf) (hB : Below w0.heap.size w0 w) (hr1 : Kd.C (Kd.int .i64) w A1 l1.length l1) (Jn : l1.length ≤ c1) (Jj : ∀ ad, A1 = some ad → 0 < l1.length → ad.block ≠ g) (h : spec_l1PickInt.f Jc Je Jf l1 = some (r1, r2, r3)) :
  Calls Try.prog 98 #[.pointer (some ⟨g, 0, none⟩), .slice A1 l1.length c1] w fun e w' => e = .returned (.int .i64 r1) ∧ IsS123 w0 w' g Jc r2 r3 ∧ Below w0.heap.size w0 w' ∧ KeepBut w w' g none := by
 have Jo := aM hr1;have Jr := aM Jn;clear hr1 Jn;have HI0 := aM hI;have GEg_ := aM (IsS123.ge hI);have HK := aM (KeepBut.refl w g none);have HL := aM hB.size;clear hI;have HW0 := aM hB.size;have HB := aM hB;clear hB;unfold spec_l1PickInt.f at h;have H := h;clear h;obtain ⟨⟨Jd, Jk, Jl⟩, A3, H⟩ := oB H;try dsimp only at H
 by_cases c4 : 0 ≤ Jd
 ·rw [if_pos c4] at H
  have Jp := decide_eq_true c4;clear c4
  by_cases c5 : Jd < (l1.length : Int)
  ·rw [if_pos c5] at H
   have Jq := decide_eq_true c5;clear c5;simp only [Option.some.injEq, Prod.mk.injEq] at H;obtain ⟨rfl, rfl, rfl⟩ := H
   go_enter Try.func98, Try.ntmps98
   go_wp2_with (first | ((with_reducible refine gate_callee (f := 95) rfl ?_); refine gL (some 9) Try.func95 #[.pointer (some ⟨g, 0, none⟩), .int .i64 (l1.length : Int)] ?_; (with_reducible refine (spec_l1Below.calls g Jc Je Jf (l1.length : Int) Jd Jk Jl w0 _ ?side1 ?side2 A3.out).mono ?_); (case side1 => exact IsS123.iI HI0); (case side2 => exact bB); rintro e w6 ⟨rfl, hi, hb, hk⟩; refine ⟨_, rfl, ?_⟩; have n_ := aI (aM (KeepBut.trans (bK HK) hk (.inl rfl))) (aI (aM (hb)) (aM (hi))); clear HK HB HI0; obtain ⟨HK, HB, HI0⟩ := n_; (try clear hb hk hi); have Jg : 0 ≤ (Jd : Int) := dT; have Jh : Jd < (l1.length : Int) := dT; obtain ⟨Ji, Jm, Jb⟩ := Kd.at_int Jo.out Jd Jg Jh; cases Jm; replace Jb := keep_cell HK.out Jb (by first | (rw [add_block]; exact Jj _ rfl (by omega)) | exact Jj _ rfl (by omega) | exact Jj Ji rfl (by omega)); replace Jg := eq_true Jg; replace Jh := eq_true Jh))
   go_ret
   exact ⟨eW, IsS123.iI HI0, bB, bK HK⟩
  rw [if_neg c5] at H;exact absurd H (by simp)
 rw [if_neg c4] at H;exact absurd H (by simp)

def spec_l1Pick.f (Jc : List Int) (Je : Int) (Jf : Int) (l1 : List ByteArray) : Option (ByteArray × Int × Int) := (spec_l1Below.f Jc Je Jf (l1.length : Int)).bind fun Ja => (if 0 ≤ Ja.1 then (if Ja.1 < (l1.length : Int) then (some (rdOf ByteArray.empty l1 Ja.1, Ja.2.1, Ja.2.2)) else (none)) else (none))
theorem spec_l1Pick.calls (g : Nat) (Jc : List Int) (Je : Int) (Jf : Int) (A1 : Option Addr) (c1 : Nat) (l1 : List ByteArray) (r1 : ByteArray) (r2 : Int) (r3 : Int) (w0 w : World) (hI : IsS123 w0 w g Jc Je Jf) (hB : Below w0.heap.size w0 w) (hr1 : Kd.C Kd.string w A1 l1.length l1) (Jn : l1.length ≤ c1) (Jj : ∀ ad, A1 = some ad → 0 < l1.length → ad.block ≠ g) (h : spec_l1Pick.f Jc Je Jf l1 = some (r1, r2, r3)) :
  Calls Try.prog 122 #[.pointer (some ⟨g, 0, none⟩), .slice A1 l1.length c1] w fun e w' => e = .returned (.string r1) ∧ IsS123 w0 w' g Jc r2 r3 ∧ Below w0.heap.size w0 w' ∧ KeepBut w w' g none := by
 have Jo := aM hr1;have Jr := aM Jn;clear hr1 Jn;have HI0 := aM hI;have GEg_ := aM (IsS123.ge hI);have HK := aM (KeepBut.refl w g none);have HL := aM hB.size;clear hI;have HW0 := aM hB.size;have HB := aM hB;clear hB;unfold spec_l1Pick.f at h;have H := h;clear h;obtain ⟨⟨Jd, Jk, Jl⟩, A3, H⟩ := oB H;try dsimp only at H
 by_cases c4 : 0 ≤ Jd
 ·rw [if_pos c4] at H
  have Jp := decide_eq_true c4;clear c4
  by_cases c5 : Jd < (l1.length : Int)
  ·rw [if_pos c5] at H
   have Jq := decide_eq_true c5;clear c5;simp only [Option.some.injEq, Prod.mk.injEq] at H;obtain ⟨rfl, rfl, rfl⟩ := H
   go_enter Try.func122, Try.ntmps122
   go_wp2_with (first | ((with_reducible refine gate_callee (f := 95) rfl ?_); refine gL (some 9) Try.func95 #[.pointer (some ⟨g, 0, none⟩), .int .i64 (l1.length : Int)] ?_; (with_reducible refine (spec_l1Below.calls g Jc Je Jf (l1.length : Int) Jd Jk Jl w0 _ ?side1 ?side2 A3.out).mono ?_); (case side1 => exact IsS123.iI HI0); (case side2 => exact bB); rintro e w6 ⟨rfl, hi, hb, hk⟩; refine ⟨_, rfl, ?_⟩; have n_ := aI (aM (KeepBut.trans (bK HK) hk (.inl rfl))) (aI (aM (hb)) (aM (hi))); clear HK HB HI0; obtain ⟨HK, HB, HI0⟩ := n_; (try clear hb hk hi); have Jg : 0 ≤ (Jd : Int) := dT; have Jh : Jd < (l1.length : Int) := dT; obtain ⟨Ji, Jm, Jb⟩ := Kd.at_string Jo.out Jd Jg Jh; cases Jm; replace Jb := keep_cell HK.out Jb (by first | (rw [add_block]; exact Jj _ rfl (by omega)) | exact Jj _ rfl (by omega) | exact Jj Ji rfl (by omega)); replace Jg := eq_true Jg; replace Jh := eq_true Jh))
   go_ret
   exact ⟨eW, IsS123.iI HI0, bB, bK HK⟩
  rw [if_neg c5] at H;exact absurd H (by simp)
 rw [if_neg c4] at H;exact absurd H (by simp)

def spec_l1Bytes.l0 : Nat → Int → List Int → Int → List Int → Int → Int → Option (List Int × Int × Int)
 | 0, _, _, _, _, _, _ => none
 | k + 1, x1, x5, x6, Jm, Jn, Jo => if x6 < x1 then ((spec_l1Byte.f Jm Jn Jo).bind fun Ji => (if x5.length < 140737488355328 then (spec_l1Bytes.l0 k x1 (x5 ++ [(Ji.1) % 256]) (wrap64 (x6 + 1)) Jm Ji.2.1 Ji.2.2) else (none))) else (some (x5, Jn, Jo))
def spec_l1Bytes.f (k : Nat) (Jc : List Int) (Je : Int) (Jf : Int) (a1 : Int) : Option (List Int × Int × Int) := spec_l1Bytes.l0 k a1 (([] : List Int)) 0 Jc Je Jf
theorem spec_l1Bytes.mono_l : ∀ k, (∀ y0 y1 y2 y3 y4 y5, LeO (spec_l1Bytes.l0 k y0 y1 y2 y3 y4 y5) (spec_l1Bytes.l0 (k + 1) y0 y1 y2 y3 y4 y5))
 | 0 => fun _ _ _ _ _ _ r h => by simp [spec_l1Bytes.l0] at h
 | k + 1 => by
  have ih0 := spec_l1Bytes.mono_l k
  ·intro y0 y1 y2 y3 y4 y5
   unfold spec_l1Bytes.l0;exact mM
theorem spec_l1Bytes.mono : ∀ a0 a1 a2 a3 k, LeO (spec_l1Bytes.f k a0 a1 a2 a3) (spec_l1Bytes.f (k + 1) a0 a1 a2 a3) := by
 intro a0 a1 a2 a3 k;have ih0 := spec_l1Bytes.mono_l k;unfold spec_l1Bytes.f;exact mM
theorem spec_l1Bytes.calls (k : Nat) (g : Nat) (Jc : List Int) (Je : Int) (Jf : Int) (a1 : Int) (r1 : List Int) (r2 : Int) (r3 : Int) (w0 w : World) (hI : IsS123 w0 w g Jc Je Jf) (hB : Below w0.heap.size w0 w) (h : spec_l1Bytes.f k Jc Je Jf a1 = some (r1, r2, r3)) :
  Calls Try.prog 123 #[.pointer (some ⟨g, 0, none⟩), .int .i64 a1] w fun e w' => ∃ JA : Value, e = .returned (JA) ∧ Kd.R (Kd.int .u8) 5 w' w.heap.size (fun _ => True) JA r1 ∧ IsS123 w0 w' g Jc r2 r3 ∧ Below w0.heap.size w0 w' ∧ KeepBut w w' g none := by
 have HI0 := aM hI;have GEg_ := aM (IsS123.ge hI);have HK := aM (KeepBut.refl w g none);have HL := aM hB.size;clear hI;have HW0 := aM hB.size;have HB := aM hB;clear hB;unfold spec_l1Bytes.f at h;have H := h;clear h;obtain ⟨Js, Jj⟩ : ∃ y_ : List Int, y_ = (([] : List Int)) := ⟨_, rfl⟩;replace H : (spec_l1Bytes.l0 k a1 Js 0 Jc Je Jf) = some (r1, r2, r3) := bQ Jj H;have Jp := aM Jj;clear Jj;have H' := aM H;clear H
 go_enter Try.func123, Try.ntmps123
 go_wp2_with (first | ((with_reducible refine gate_dst (N := 7) rfl ?_); refine R_lit (Kd.int .u8) _ 5 ?hg (N := 7) ?hd (xs := ([] : List Int)) (inner := []) (ok := fun _ => True) (okp := fun _ => True) ?hr ?hp (fun _ hk => hk) trivial (Below.refl _ _) (Nat.le_refl _) (by simp) ?_; (case hd => rfl); (case hg => rfl); (case hr => first | (go_simp; done) | (go_simp; rfl)); (case hp => exact (Reps.none _ _)); intro JB w3 Jt hb hg_ hnew_; clear hg_ hnew_; (first | rw [← Jp.out] at Jt | (simp only [Int.reduceToNat] at Jt; rw [← Jp.out] at Jt)); have n_ := aI (aM (R_lower Jt (keep_size (w := w) (g := g) (row := none) (bK HK)))) (aI (aM (IsS123.below (IsS123.iI HI0) hb)) (aI (aM (KeepBut.trans (bK HK) (KeepBut.of_below hb g none) (.inl rfl))) (sB HB hb))); clear HI0 HK HB; obtain ⟨Ju, HI0, HK, HB⟩ := n_; (try clear hb Jt)))
 go_loopg [5, 6] k (fun kq v5 v6 w' => ∃ (Jg : List Int) (Jh : Int) (Ja : Int) (Jb : Int), v6 = .int .i64 Jh ∧ Aside0 (spec_l1Bytes.l0 kq a1 Jg Jh Jc Ja Jb = some (r1, r2, r3)) ∧ Aside0 (kq ≤ k) ∧ Aside0 (Kd.R (Kd.int .u8) 5 w' w.heap.size (fun _ => True) v5 Jg) ∧ Aside0 (IsS123 w0 w' g Jc Ja Jb) ∧ Aside0 (KeepBut w w' g none) ∧ Aside0 (Below w0.heap.size w0 w'))
 case atStart => exact ⟨(Js), (0), (Je), (Jf), eV, H', ⟨Nat.le_refl _⟩, ⟨rP Ju.out⟩, ⟨IsS123.iI HI0⟩, ⟨bK HK⟩, ⟨bB⟩⟩
 case round =>
  clear H';obtain ⟨Jg, Jh, Ja, Jb, rfl, HA, HK1, Jd, HI0, HK, HB⟩ := hrel
  cases gk with
  | zero => exact absurd HA.out (by simp [spec_l1Bytes.l0])
  | succ k1 =>
   have H := HA.out;clear HA;simp only [spec_l1Bytes.l0] at H
   by_cases c5 : Jh < a1
   ·rw [if_pos c5] at H
    have Jy := decide_eq_true c5;clear c5;obtain ⟨⟨Jl, Jq, Jr⟩, A6, H⟩ := oB H;try dsimp only at H
    by_cases c7 : Jg.length < 140737488355328
    ·rw [if_pos c7] at H
     have Jz := aM c7;clear c7;obtain ⟨Jv, Jk⟩ : ∃ y_ : List Int, y_ = (Jg ++ [(Jl) % 256]) := ⟨_, rfl⟩;replace H : (spec_l1Bytes.l0 k1 a1 Jv (wrap64 (Jh + 1)) Jc Jq Jr) = some (r1, r2, r3) := bQ Jk H;have Jw := aM Jk;clear Jk;have H' := aM H;clear H
     go_wp2_with (first | ((with_reducible refine gate_callee (f := 121) rfl ?_); refine gL (some 15) Try.func121 #[.pointer (some ⟨g, 0, none⟩)] ?_; (with_reducible refine (spec_l1Byte.calls g Jc Ja Jb Jl Jq Jr w0 _ ?side1 ?side2 A6.out).mono ?_); (case side1 => exact IsS123.iI HI0); (case side2 => exact bB); rintro e w8 ⟨rfl, hi, hb, hk⟩; refine ⟨_, rfl, ?_⟩; have n_ := aI (aM (R_mono (R_keep (IsS123.apart (show IsS123 w0 _ g Jc Ja Jb from IsS123.iI HI0) (rP Jd.out) (by decide)) hk (fun _ h => h.2)) (fun _ h => h.1))) (aI (aM (KeepBut.trans (bK HK) hk (.inl rfl))) (aI (aM (hb)) (aM (hi)))); clear Jd HK HB HI0; obtain ⟨Jd, HK, HB, HI0⟩ := n_; (try clear hb hk hi)) | ((with_reducible refine gate_builtin (b := .append) (xs := #[.tmp 13, .tmp 17]) rfl ?_); at_builtin; refine R_append (Kd.int .u8) w.heap.size rfl (.tmp 13) (.tmp 17) 60 5 (.int .u8 0) 1 rfl Try.underlying60 info5 rfl (by decide) (by omega) u5 Jg ((Jl) % 256) [.int .u8 ((Jl) % 256)] (fun _ => True) (fun _ => False) rfl rfl ?aP (fun _ hk => hk.elim) ?aF ?aO (Below.refl _ _) ?aS ?aL ?_; (case aP => exact rfl); (case aF => exact (fun _ _ => trivial)); (case aO => exact (rP Jd.out)); (case aS => exact (keep_size (w := w) (g := g) (row := none) (bK HK))); (case aL => have := Jz.out; omega); intro JC w9 ho hb hg hat; rw [← Jw.out] at ho; have n_ := aI (aM (IsS123.grown (IsS123.iI HI0) hg (IsS123.own_ne HI0.out Jd.out (by decide)))) (aI (aM (below_weaken bB HL.out hb)) (aI (aM (KeepBut.trans (bK HK) (KeepBut.of_grown hg g) (R_base2 Jd.out))) (aM (ho)))); clear HI0 HB HK Jd; obtain ⟨HI0, HB, HK, Jx⟩ := n_; (try clear ho hb hg hat)))
     go_roundg k1
     case measure => have := HK1.out; omega
     case rel => exact ⟨(Jv), (wrap64 (Jh + 1)), (Jq), (Jr), eV, H', ⟨by have := HK1.out; omega⟩, ⟨rP Jx.out⟩, ⟨IsS123.iI HI0⟩, ⟨bK HK⟩, ⟨bB⟩⟩
    ·rw [if_neg c7] at H
     exact absurd H (by simp)
   ·rw [if_neg c5] at H
    have Jy := decide_eq_false c5;clear c5;simp only [Option.some.injEq, Prod.mk.injEq] at H;obtain ⟨rfl, rfl, rfl⟩ := H
    go_wp2
    go_ret
    exact ⟨_, eW, by (with_reducible repeat (first | apply R_alloc | apply R_drewN | apply R_drew)); exact Jd.out, IsS123.iI HI0, bB, bK HK⟩

def spec_l3Data.f (k : Nat) (Ja : List Int) (Jf : Int) (Jg : Int) : Option (ByteArray × Int × Int) := (spec_l1Bytes.f k Ja Jf Jg 5).bind fun Jh => ((spec_l1Pick.f Ja Jh.2.1 Jh.2.2 (([(⟨#[]⟩ : ByteArray), (⟨#[97]⟩ : ByteArray), (⟨#[98, 99]⟩ : ByteArray), (⟨#[100, 101, 102]⟩ : ByteArray), strOfNums Jh.1] : List ByteArray))).bind fun Jb => (some (Jb.1, Jb.2.1, Jb.2.2)))
theorem spec_l3Data.mono : ∀ a0 a1 a2 k, LeO (spec_l3Data.f k a0 a1 a2) (spec_l3Data.f (k + 1) a0 a1 a2) := by
 intro a0 a1 a2 k;unfold spec_l3Data.f;have m0_ := @spec_l1Bytes.mono;exact mM
theorem spec_l3Data.calls (k : Nat) (g : Nat) (Ja : List Int) (Jf : Int) (Jg : Int) (r1 : ByteArray) (r2 : Int) (r3 : Int) (w0 w : World) (hI : IsS123 w0 w g Ja Jf Jg) (hB : Below w0.heap.size w0 w) (h : spec_l3Data.f k Ja Jf Jg = some (r1, r2, r3)) :
  Calls Try.prog 96 #[.pointer (some ⟨g, 0, none⟩)] w fun e w' => e = .returned (.string r1) ∧ IsS123 w0 w' g Ja r2 r3 ∧ Below w0.heap.size w0 w' ∧ KeepBut w w' g none := by
 have HI0 := aM hI;have GEg_ := aM (IsS123.ge hI);have HK := aM (KeepBut.refl w g none);have HL := aM hB.size;clear hI;have HW0 := aM hB.size;have HB := aM hB;clear hB;unfold spec_l3Data.f at h;have H := h;clear h;obtain ⟨⟨Je, Ji, Jj⟩, A2, H⟩ := oB H;try dsimp only at H
 obtain ⟨Jm, Jk⟩ : ∃ y_ : List ByteArray, y_ = (([(⟨#[]⟩ : ByteArray), (⟨#[97]⟩ : ByteArray), (⟨#[98, 99]⟩ : ByteArray), (⟨#[100, 101, 102]⟩ : ByteArray), strOfNums Je] : List ByteArray)) := ⟨_, rfl⟩;replace H : ((spec_l1Pick.f Ja Ji Jj Jm).bind fun Jb => (some (Jb.1, Jb.2.1, Jb.2.2))) = some (r1, r2, r3) := bQ Jk H;have Jl := aM Jk;clear Jk;obtain ⟨⟨Jo, Jp, Jq⟩, A3, H⟩ := oB H;try dsimp only at H
 simp only [Option.some.injEq, Prod.mk.injEq] at H;obtain ⟨rfl, rfl, rfl⟩ := H
 go_enter Try.func96, Try.ntmps96
 go_wp2_with (first | ((with_reducible refine gate_callee (f := 123) rfl ?_); refine gL (some 5) Try.func123 #[.pointer (some ⟨g, 0, none⟩), .int .i64 5] ?_; (with_reducible refine (spec_l1Bytes.calls k g Ja Jf Jg 5 Je Ji Jj w0 _ ?side1 ?side2 A2.out).mono ?_); (case side1 => exact IsS123.iI HI0); (case side2 => exact bB); rintro e w4 ⟨Js, rfl, Jr, hi, hb, hk⟩; refine ⟨_, rfl, ?_⟩; have n_ := aI (aM (R_lower Jr (keep_size (w := w) (g := g) (row := none) (bK HK)))) (aI (aM (KeepBut.trans (bK HK) hk (.inl rfl))) (aI (aM (hb)) (aM (hi)))); clear HK HB HI0; obtain ⟨Jc, HK, HB, HI0⟩ := n_; (try clear hb hk hi Jr); have hcv5 := own_string (P := Try.prog) Try.underlying60 Try.underlying5 Try.underlying9 (Kd.own_of_R Jc.out)) | ((with_reducible refine gate_dst (N := 7) rfl ?_); refine R_lit Kd.string _ 9 ?hg (N := 7) ?hd (xs := ([(⟨#[]⟩ : ByteArray), (⟨#[97]⟩ : ByteArray), (⟨#[98, 99]⟩ : ByteArray), (⟨#[100, 101, 102]⟩ : ByteArray), strOfNums Je] : List ByteArray)) (inner := [.string (⟨#[]⟩ : ByteArray), .string (⟨#[97]⟩ : ByteArray), .string (⟨#[98, 99]⟩ : ByteArray), .string (⟨#[100, 101, 102]⟩ : ByteArray), .string (strOfNums Je)]) (ok := fun _ => True) (okp := fun _ => True) ?hr ?hp (fun _ hk => hk) trivial (Below.refl _ _) (Nat.le_refl _) (by simp) ?_; (case hd => rfl); (case hg => rfl); (case hr => first | (go_simp; done) | (go_simp; rfl)); (case hp => exact (Reps.one (show Kd.M Kd.string _ _ _ (⟨#[]⟩ : ByteArray) [.string (⟨#[]⟩ : ByteArray)] from rfl) (Reps.one (show Kd.M Kd.string _ _ _ (⟨#[97]⟩ : ByteArray) [.string (⟨#[97]⟩ : ByteArray)] from rfl) (Reps.one (show Kd.M Kd.string _ _ _ (⟨#[98, 99]⟩ : ByteArray) [.string (⟨#[98, 99]⟩ : ByteArray)] from rfl) (Reps.one (show Kd.M Kd.string _ _ _ (⟨#[100, 101, 102]⟩ : ByteArray) [.string (⟨#[100, 101, 102]⟩ : ByteArray)] from rfl) (Reps.one (show Kd.M Kd.string _ _ _ (strOfNums Je) [.string (strOfNums Je)] from rfl) (Reps.none _ _))))))); intro Jt w6 Jn hb hg_ hnew_; clear hg_ hnew_; (first | rw [← Jl.out] at Jn | (simp only [Int.reduceToNat] at Jn; rw [← Jl.out] at Jn)); have n_ := aI (rB Jc hb) (aI (aM (R_lower Jn (keep_size (w := w) (g := g) (row := none) (bK HK)))) (aI (aM (IsS123.below (IsS123.iI HI0) hb)) (aI (aM (KeepBut.trans (bK HK) (KeepBut.of_below hb g none) (.inl rfl))) (sB HB hb)))); clear Jc HI0 HK HB; obtain ⟨Jc, Jd, HI0, HK, HB⟩ := n_; (try clear hb Jn); obtain ⟨Ju, Jv, Jw⟩ := R_slice Jd.out; subst Jw) | ((with_reducible refine gate_callee (f := 122) rfl ?_); refine gL (some 8) Try.func122 #[.pointer (some ⟨g, 0, none⟩), .slice Ju Jm.length Jv] ?_; (with_reducible refine (spec_l1Pick.calls g Ja Ji Jj _ _ Jm Jo Jp Jq w0 _ ?side1 ?side2 ?side3 ?side4 ?side5 A3.out).mono ?_); (case side1 => exact IsS123.iI HI0); (case side2 => exact bB); (case side3 => exact cR Jd); (case side4 => exact (R_reads' Jd.out).2.1); (case side5 => exact far_slice (IsS123.own_ne HI0.out Jd.out (by decide))); rintro e w9 ⟨rfl, hi, hb, hk⟩; refine ⟨_, rfl, ?_⟩; have n_ := aI (aM (R_mono (R_keep (IsS123.apart (show IsS123 w0 _ g Ja Ji Jj from IsS123.iI HI0) (rP Jc.out) (by decide)) hk (fun _ h => h.2)) (fun _ h => h.1))) (aI (aM (R_mono (R_keep (IsS123.apart (show IsS123 w0 _ g Ja Ji Jj from IsS123.iI HI0) (rP Jd.out) (by decide)) hk (fun _ h => h.2)) (fun _ h => h.1))) (aI (aM (KeepBut.trans (bK HK) hk (.inl rfl))) (aI (aM (hb)) (aM (hi))))); clear Jc Jd HK HB HI0; obtain ⟨Jc, Jd, HK, HB, HI0⟩ := n_; (try clear hb hk hi)))
 go_ret
 exact ⟨eW, IsS123.iI HI0, bB, bK HK⟩

def spec_DiskNew.f (a0 : Int) : Option (List ByteArray × (List (S65)) × Bool) := (spec_l1In.f a0 1 120).bind fun Jf => (if Jf = true then (if 0 ≤ a0 then (if (a0 : Int).toNat ≤ 17592186044416 then (some ((List.replicate (a0 : Int).toNat (⟨#[]⟩ : ByteArray)), ([] : List (S65)), true)) else (none)) else (none)) else (some (([] : List ByteArray), ([] : List (S65)), false)))
theorem spec_DiskNew.calls (a0 : Int) (r1 : List ByteArray) (r2 : List (S65)) (r3 : Bool) (w : World) (h : spec_DiskNew.f a0 = some (r1, r2, r3)) :
  Calls Try.prog 124 #[.int .i64 a0] w fun e w' => ∃ Jn Jo : Value, e = .returned (.tuple #[.agg #[Jn, Jo], .bool r3]) ∧ Kd.R Kd.string 9 w' w.heap.size (fun _ => True) Jn r1 ∧ Kd.R k65 65 w' w.heap.size (fun _ => True) Jo r2 ∧ Below w.heap.size w w' := by
 have hu30 := Try.underlying30;have HB := aM (Below.refl w.heap.size w);unfold spec_DiskNew.f at h;have H := h;clear h;obtain ⟨Jf, A2, H⟩ := oB H;try dsimp only at H
 by_cases c3 : Jf = true
 ·subst c3
  rw [if_pos rfl] at H
  by_cases c4 : 0 ≤ a0
  ·rw [if_pos c4] at H
   have Jr := eq_true c4;have Js := decide_eq_true c4;clear c4
   by_cases c5 : (a0 : Int).toNat ≤ 17592186044416
   ·rw [if_pos c5] at H
    have Jt := eq_true c5;have Ju := decide_eq_true c5;clear c5;obtain ⟨Jg, Jc⟩ : ∃ y_ : List ByteArray, y_ = (List.replicate (a0 : Int).toNat (⟨#[]⟩ : ByteArray)) := ⟨_, rfl⟩;replace H : (some (Jg, ([] : List (S65)), true)) = some (r1, r2, r3) := bQ Jc H;have Jd := aM Jc;clear Jc;simp only [Option.some.injEq, Prod.mk.injEq] at H;obtain ⟨rfl, rfl, rfl⟩ := H
    go_enter Try.func124, Try.ntmps124
    go_wp2_with (first | ((with_reducible refine gate_dst (N := 2) rfl ?_); refine bE 2 #[.slice none 0 0, .slice none 0 0] 30 ?_; intro Jb hg w6 hbox hb; have n_ := aI (sB HB hb) (aI (aM hbox) (aI (gE HB hg) (gE HB hg))); clear HB; obtain ⟨HB, Ja, Jh, Ji⟩ := n_; (try clear hb hbox hg)) | ((with_reducible refine gate_callee (f := 69) rfl ?_); refine gL (some 5) Try.func69 #[.int .i64 a0, .int .i64 1, .int .i64 120] ?_; (with_reducible refine (spec_l1In.calls a0 1 120 true _ A2.out).mono ?_); rintro e w' ⟨rfl, ⟨nd, rfl⟩⟩; refine ⟨_, rfl, ?_⟩; (try (rw [drewN_self w6]; generalize hq_ : World.drewN w6 _ = w6; have Jj : Aside0 (w6.heap[Jb]? = some (.cells #[.slice none 0 0, .slice none 0 0] 30 (0, 0))) := ⟨by rw [← hq_]; exact (kP Ja)⟩; have Jk : Aside0 (Below w.heap.size w w6) := ⟨by rw [← hq_]; exact bB⟩; clear Ja HB hq_; have Ja := Jj; have HB := Jk; clear Jj Jk))) | ((with_reducible refine gate_dst (N := 9) rfl ?_); refine R_make Kd.string _ 9 rfl (N := 9) rfl 22 _ _ rfl a0 rfl rfl Try.underlying22 (.string ⟨#[]⟩) 16 info9 rfl (by decide) (by omega) (⟨#[]⟩ : ByteArray) (ok := fun _ => True) (okp := fun _ => True) rfl (fun _ hk => hk) trivial (dT) (Nat.le_trans (Nat.mul_le_mul_right _ (dT : a0.toNat ≤ 17592186044416)) (by omega)) (Below.refl _ _) (Nat.le_refl _) ?_; intro Jv w7 Jl hb hg_ hnew_; clear hg_ hnew_; (first | rw [← Jd.out] at Jl | (simp only [Int.reduceToNat] at Jl; rw [← Jd.out] at Jl)); have n_ := aI (lR HB Jl) (aI (kB Ja hb) (sB HB hb)); clear Ja HB; obtain ⟨Je, Ja, HB⟩ := n_; (try clear hb Jl); obtain ⟨Jp, Jq, Jw⟩ := R_slice Je.out; subst Jw; obtain ⟨_, _, _, _⟩ := z2 Ja))
    refine bodyPost_ret (results_ct rfl _ _ Jb 30 #[.slice Jp Jg.length Jq, .slice none 0 0] (0, 0) _ rfl (pU Ja) Try.underlying30 rfl (by kernel_rfl)) rfl ?_;exact ⟨_, _, eW, by (with_reducible repeat (first | apply R_alloc | apply R_drewN | apply R_drew)); exact R_mono (fR Jb 1 (fR Jb 0 (R_types Je.out Ja.out (by decide)) s2 (.slice Jp Jg.length Jq)) s2 (.slice none 0 0)) sT, by first | exact R_nil _ _ _ _ _ | exact Kd.N_nil _ _ _ _ _ | exact Kd.V_nil _ _ _ _ _ | exact Q_nil _ _ _ _ _ | exact Kd.S_nil _ _ _ _ _, bB⟩
   rw [if_neg c5] at H;exact absurd H (by simp)
  rw [if_neg c4] at H;exact absurd H (by simp)
 replace c3 := Bool.eq_false_iff.mpr c3;subst c3;rw [if_neg (show ¬ (false = true) by decide)] at H;simp only [Option.some.injEq, Prod.mk.injEq] at H;obtain ⟨rfl, rfl, rfl⟩ := H
 go_enter Try.func124, Try.ntmps124
 go_wp2_with (first | ((with_reducible refine gate_dst (N := 2) rfl ?_); refine bE 2 #[.slice none 0 0, .slice none 0 0] 30 ?_; intro Jb hg Jm hbox hb; have n_ := aI (sB HB hb) (aI (aM hbox) (aI (gE HB hg) (gE HB hg))); clear HB; obtain ⟨HB, Ja, Jh, Ji⟩ := n_; (try clear hb hbox hg)) | ((with_reducible refine gate_callee (f := 69) rfl ?_); refine gL (some 5) Try.func69 #[.int .i64 a0, .int .i64 1, .int .i64 120] ?_; (with_reducible refine (spec_l1In.calls a0 1 120 false _ A2.out).mono ?_); rintro e w' ⟨rfl, ⟨nd, rfl⟩⟩; refine ⟨_, rfl, ?_⟩; (try (rw [drewN_self Jm]; generalize hq_ : World.drewN Jm _ = Jm; have Jj : Aside0 (Jm.heap[Jb]? = some (.cells #[.slice none 0 0, .slice none 0 0] 30 (0, 0))) := ⟨by rw [← hq_]; exact (kP Ja)⟩; have Jk : Aside0 (Below w.heap.size w Jm) := ⟨by rw [← hq_]; exact bB⟩; clear Ja HB hq_; have Ja := Jj; have HB := Jk; clear Jj Jk)); obtain ⟨_, _, _, _⟩ := z2 Ja))
 refine bodyPost_ret (results_ct rfl _ _ Jb 30 #[.slice none 0 0, .slice none 0 0] (0, 0) _ rfl (pU Ja) Try.underlying30 rfl (by kernel_rfl)) rfl ?_;exact ⟨_, _, eW, by first | exact R_nil _ _ _ _ _ | exact Kd.N_nil _ _ _ _ _ | exact Kd.V_nil _ _ _ _ _ | exact Q_nil _ _ _ _ _ | exact Kd.S_nil _ _ _ _ _, by first | exact R_nil _ _ _ _ _ | exact Kd.N_nil _ _ _ _ _ | exact Kd.V_nil _ _ _ _ _ | exact Q_nil _ _ _ _ _ | exact Kd.S_nil _ _ _ _ _, bB⟩

mutual
def spec_l3Right.l0 : Nat → Int → List Int → Int → Int → List ByteArray → List (S65) → Option (List ByteArray × (List (S65)) × Int × Int)
 | 0, _, _, _, _, _, _ => none
 | k + 1, x5, Jy, JF, JG, Jq, Jr => if x5 < (Jq.length : Int) then ((spec_l3Data.f k Jy JF JG).bind fun JO => (if 0 ≤ x5 then (spec_l3Right.l0 k (wrap64 (x5 + 1)) Jy JO.2.1 JO.2.2 (Jq.set (x5 : Int).toNat JO.1) Jr) else (none))) else ((spec_l1Below.f Jy JF JG 6).bind fun JP => (spec_l3Right.l1 k JP.1 0 Jy JP.2.1 JP.2.2 Jq Jr))
def spec_l3Right.l1 : Nat → Int → Int → List Int → Int → Int → List ByteArray → List (S65) → Option (List ByteArray × (List (S65)) × Int × Int)
 | 0, _, _, _, _, _, _, _ => none
 | k + 1, x6, x7, Jy, JF, JG, Jq, Jr => if x7 < x6 then ((spec_l1Below.f Jy JF JG (Jq.length : Int)).bind fun JQ => ((spec_l3Data.f k Jy JQ.2.1 JQ.2.2).bind fun JR => (if Jr.length < 5864062014805 then (spec_l3Right.l1 k x6 (wrap64 (x7 + 1)) Jy JR.2.1 JR.2.2 Jq (Jr ++ [(⟨JQ.1, JR.1⟩ : S65)])) else (none)))) else (some (Jq, Jr, JF, JG))
end
def spec_l3Right.f (k : Nat) (Jh : List Int) (JC : Int) (JD : Int) : Option (List ByteArray × (List (S65)) × Int × Int) := (spec_l1PickInt.f Jh JC JD (([1, 2, 5, 9] : List Int))).bind fun Jz => ((spec_DiskNew.f Jz.1).bind fun JH => (spec_l3Right.l0 k 0 Jh Jz.2.1 Jz.2.2 JH.1 JH.2.1))
theorem spec_l3Right.mono_l : ∀ k, (∀ y0 y1 y2 y3 y4 y5, LeO (spec_l3Right.l0 k y0 y1 y2 y3 y4 y5) (spec_l3Right.l0 (k + 1) y0 y1 y2 y3 y4 y5)) ∧ (∀ y0 y1 y2 y3 y4 y5 y6, LeO (spec_l3Right.l1 k y0 y1 y2 y3 y4 y5 y6) (spec_l3Right.l1 (k + 1) y0 y1 y2 y3 y4 y5 y6))
 | 0 => ⟨fun _ _ _ _ _ _ r h => by simp [spec_l3Right.l0] at h, fun _ _ _ _ _ _ _ r h => by simp [spec_l3Right.l1] at h⟩
 | k + 1 => by
  obtain ⟨ih0, ih1⟩ := spec_l3Right.mono_l k;refine ⟨?_, ?_⟩
  ·intro y0 y1 y2 y3 y4 y5
   unfold spec_l3Right.l0;have m0_ := @spec_l3Data.mono;exact mM
  ·intro y0 y1 y2 y3 y4 y5 y6
   unfold spec_l3Right.l1;have m0_ := @spec_l3Data.mono;exact mM
theorem spec_l3Right.mono : ∀ a0 a1 a2 k, LeO (spec_l3Right.f k a0 a1 a2) (spec_l3Right.f (k + 1) a0 a1 a2) := by
 intro a0 a1 a2 k;obtain ⟨ih0, ih1⟩ := spec_l3Right.mono_l k;unfold spec_l3Right.f;have m0_ := @spec_l3Data.mono;exact mM
def spec_l3Right.T10 : Bool × List (List Nat × List Nat) := (true, [([], []), ([0], [0]), ([], []), ([], []), ([3], [3]), ([4], [4]), ([2, 5], [2, 5]), ([], []), ([7, 6], [7]), ([6, 8], [6, 8]), ([9], [9]), ([1, 10, 8], [1, 10]), ([0, 1, 2, 3, 4, 5, 6, 7, 8, 9, 10, 11], []), ([12, 11, 11, 0, 1, 2, 3, 4, 5, 6, 7, 8, 9, 10, 11], [11, 12])])
def spec_l3Right.B10 : List Nat := [0, 1, 0, 0, 8, 24, 60, 0, 252, 508, 1020, 2047, 4095, 8191]
theorem spec_l3Right.tab10 : rtab .any (opsOf Try.f119 10) = spec_l3Right.T10 := by kernel_rfl
theorem spec_l3Right.bits10 : waitsOk spec_l3Right.T10.2 spec_l3Right.B10 = true := by kernel_rfl
theorem spec_l3Right.calls (k : Nat) (g : Nat) (Jh : List Int) (JC : Int) (JD : Int) (r1 : List ByteArray) (r2 : List (S65)) (r3 : Int) (r4 : Int) (w0 w : World) (hI : IsS123 w0 w g Jh JC JD) (hB : Below w0.heap.size w0 w) (h : spec_l3Right.f k Jh JC JD = some (r1, r2, r3, r4)) :
  Calls Try.prog 119 #[.pointer (some ⟨g, 0, none⟩)] w fun e w' => ∃ UR US : Value, e = .returned (.agg #[UR, US]) ∧ Kd.R Kd.string 9 w' w.heap.size (fun _ => True) UR r1 ∧ Kd.R k65 65 w' w.heap.size (fun _ => True) US r2 ∧ IsS123 w0 w' g Jh r3 r4 ∧ Below w0.heap.size w0 w' ∧ KeepBut w w' g none := by
 have hu30 := Try.underlying30;have hu65 := Try.underlying65;have HI0 := aM hI;have GEg_ := aM (IsS123.ge hI);have HK := aM (KeepBut.refl w g none);have HL := aM hB.size;clear hI;have HW0 := aM hB.size;have HB := aM hB;clear hB;unfold spec_l3Right.f at h;have H := h;clear h;obtain ⟨J7, JS⟩ : ∃ y_ : List Int, y_ = (([1, 2, 5, 9] : List Int)) := ⟨_, rfl⟩;replace H : ((spec_l1PickInt.f Jh JC JD J7).bind fun Jz => ((spec_DiskNew.f Jz.1).bind fun JH => (spec_l3Right.l0 k 0 Jh Jz.2.1 Jz.2.2 JH.1 JH.2.1))) = some (r1, r2, r3, r4) := bQ JS H;have J5 := aM JS;clear JS;obtain ⟨⟨J8, JZ, J0⟩, A2, H⟩ := oB H;try dsimp only at H
 obtain ⟨⟨JT, Jw, UE⟩, A3, H⟩ := oB H;try dsimp only at H
 have H' := aM H;clear H
 go_enter Try.func119, Try.ntmps119
 go_wp2_with (first | ((with_reducible refine gate_dst (N := 2) rfl ?_); refine bE 2 #[.slice none 0 0, .slice none 0 0] 30 ?_; intro Ji hg w4 hbox hb; have n_ := aI (aM (IsS123.below (IsS123.iI HI0) hb)) (aI (aM (KeepBut.trans (bK HK) (KeepBut.of_below hb g none) (.inl rfl))) (aI (sB HB hb) (aI (aM hbox) (aI (aM ((by rw [hg]; exact (keep_size (w := w) (g := g) (row := none) (bK HK)) : w.heap.size ≤ Ji))) (aI (aM ((Nat.le_trans HW0.out (by rw [hg]; exact (keep_size (w := w) (g := g) (row := none) (bK HK)) : w.heap.size ≤ Ji) : w0.heap.size ≤ Ji))) (aI (aM ((by rw [hg]; exact Nat.ne_of_lt (IsS123.lt (show IsS123 w0 _ g Jh JC JD from IsS123.iI HI0)) : g ≠ Ji))) (aM ((by rw [hg]; exact Nat.ne_of_gt (IsS123.lt (show IsS123 w0 _ g Jh JC JD from IsS123.iI HI0)) : Ji ≠ g))))))))); clear HI0 HK HB; obtain ⟨HI0, HK, HB, Je, UT, Un, JM, Js⟩ := n_; (try clear hb hbox hg)) | ((with_reducible refine gate_dst (N := 10) rfl ?_); refine R_lit (Kd.int .i64) _ 3 ?hg (N := 10) ?hd (xs := ([1, 2, 5, 9] : List Int)) (inner := [.int .i64 1, .int .i64 2, .int .i64 5, .int .i64 9]) (ok := fun _ => True) (okp := fun _ => True) ?hr ?hp (fun _ hk => hk) trivial (Below.refl _ _) (Nat.le_refl _) (by simp) ?_; (case hd => rfl); (case hg => rfl); (case hr => first | (go_simp; done) | (go_simp; rfl)); (case hp => exact (Reps.one (show Kd.M (Kd.int .i64) _ _ _ 1 [.int .i64 1] from rfl) (Reps.one (show Kd.M (Kd.int .i64) _ _ _ 2 [.int .i64 2] from rfl) (Reps.one (show Kd.M (Kd.int .i64) _ _ _ 5 [.int .i64 5] from rfl) (Reps.one (show Kd.M (Kd.int .i64) _ _ _ 9 [.int .i64 9] from rfl) (Reps.none _ _)))))); intro Vg w5 Uo hb hg_ hnew_; clear hg_ hnew_; (first | rw [← J5.out] at Uo | (simp only [Int.reduceToNat] at Uo; rw [← J5.out] at Uo)); have n_ := aI (aM (R_lower Uo (keep_size (w := w) (g := g) (row := none) (bK HK)))) (aI (aM (IsS123.below (IsS123.iI HI0) hb)) (aI (kB Je hb) (aI (aM (KeepBut.trans (bK HK) (KeepBut.of_below hb g none) (.inl rfl))) (sB HB hb)))); clear HI0 Je HK HB; obtain ⟨Jn, HI0, Je, HK, HB⟩ := n_; (try clear hb Uo); obtain ⟨Vh, Vi, Vj⟩ := R_slice Jn.out; subst Vj) | ((with_reducible refine gate_callee (f := 98) rfl ?_); refine gL (some 11) Try.func98 #[.pointer (some ⟨g, 0, none⟩), .slice Vh J7.length Vi] ?_; (with_reducible refine (spec_l1PickInt.calls g Jh JC JD _ _ J7 J8 JZ J0 w0 _ ?side1 ?side2 ?side3 ?side4 ?side5 A2.out).mono ?_); (case side1 => exact IsS123.iI HI0); (case side2 => exact bB); (case side3 => exact cR Jn); (case side4 => exact (R_reads' Jn.out).2.1); (case side5 => exact far_slice (IsS123.own_ne HI0.out Jn.out (by decide))); rintro e w8 ⟨rfl, hi, hb, hk⟩; refine ⟨_, rfl, ?_⟩; have n_ := aI (aM (KeepBut.blk hk (g' := Ji) (o := .cells #[.slice none 0 0, .slice none 0 0] 30 (0, 0)) (kP Je) Js.out (by simp))) (aI (aM (R_mono (R_keep (IsS123.apart (show IsS123 w0 _ g Jh JC JD from IsS123.iI HI0) (rP Jn.out) (by decide)) hk (fun _ h => h.2)) (fun _ h => h.1))) (aI (aM (KeepBut.trans (bK HK) hk (.inl rfl))) (aI (aM (hb)) (aM (hi))))); clear Je Jn HK HB HI0; obtain ⟨Je, Jn, HK, HB, HI0⟩ := n_; (try clear hb hk hi)) | ((with_reducible refine gate_callee (f := 124) rfl ?_); refine gL (some 12) Try.func124 #[.int .i64 J8] ?_; (with_reducible refine (spec_DiskNew.calls J8 JT Jw UE _ A3.out).mono ?_); rintro e w9 ⟨Vk, Vl, rfl, UU, UV, hb⟩; refine ⟨_, rfl, ?_⟩; have n_ := aI (rB Jn hb) (aI (aM (R_lower UU (keep_size (w := w) (g := g) (row := none) (bK HK)))) (aI (aM (R_lower UV (keep_size (w := w) (g := g) (row := none) (bK HK)))) (aI (aM (IsS123.below (IsS123.iI HI0) hb)) (aI (kB Je hb) (aI (aM (KeepBut.trans (bK HK) (KeepBut.of_below hb g none) (.inl rfl))) (sB HB hb)))))); clear Jn HI0 Je HK HB; obtain ⟨Jn, JI, JJ, HI0, Je, HK, HB⟩ := n_; (try clear hb UU UV)) | ((with_reducible refine gate_dst (N := 3) rfl ?_); refine bE 3 #[.slice none 0 0, .slice none 0 0] 30 ?_; intro Jf hg Vu hbox hb; have n_ := aI (rB Jn hb) (aI (rB JI hb) (aI (rB JJ hb) (aI (aM (IsS123.below (IsS123.iI HI0) hb)) (aI (kB Je hb) (aI (aM (KeepBut.trans (bK HK) (KeepBut.of_below hb g none) (.inl rfl))) (aI (sB HB hb) (aI (aM hbox) (aI (aM ((by rw [hg]; exact (keep_size (w := w) (g := g) (row := none) (bK HK)) : w.heap.size ≤ Jf))) (aI (aM ((Nat.le_trans HW0.out (by rw [hg]; exact (keep_size (w := w) (g := g) (row := none) (bK HK)) : w.heap.size ≤ Jf) : w0.heap.size ≤ Jf))) (aI (nL Je hg) (aI (nG Je hg) (aI (aM ((by rw [hg]; exact Nat.ne_of_lt (IsS123.lt (show IsS123 w0 _ g Jh JZ J0 from IsS123.iI HI0)) : g ≠ Jf))) (aM ((by rw [hg]; exact Nat.ne_of_gt (IsS123.lt (show IsS123 w0 _ g Jh JZ J0 from IsS123.iI HI0)) : Jf ≠ g))))))))))))))); clear Jn JI JJ HI0 Je HK HB; obtain ⟨Jn, JI, JJ, HI0, Je, HK, HB, Jd, UW, Up, Jo, Jp, Jv, Jm⟩ := n_; (try clear hb hbox hg); obtain ⟨J9, Ua, UF⟩ := R_slice JI.out; subst UF; have UX := Jp.out; have UY := Jo.out; have UZ := Jm.out; have U0 := Jv.out; obtain ⟨_, _, _, _⟩ := z2 Jd; obtain ⟨JK, JL, UG⟩ := R_slice JJ.out; subst UG))
 go_loopg [5] k (fun kq v5 w' => ∃ (Jx : Int) (Jj : Int) (Jk : Int) (Jc : List ByteArray) (JE : Value), v5 = .int .i64 Jx ∧ Aside0 (spec_l3Right.l0 kq Jx Jh Jj Jk Jc Jw = some (r1, r2, r3, r4)) ∧ Aside0 (kq ≤ k) ∧ Aside0 (Kd.R Kd.string 9 w' w.heap.size (fun _ => True) JE Jc) ∧ Aside0 (Kd.R k65 65 w' w.heap.size (fun _ => True) (.slice JK Jw.length JL) Jw) ∧ Aside0 (w'.heap[Ji]? = some (.cells #[(.slice none 0 0), (.slice none 0 0)] 30 (0, 0))) ∧ Aside0 (w'.heap[Jf]? = some (.cells #[JE, (.slice JK Jw.length JL)] 30 (0, 0))) ∧ Aside0 (IsS123 w0 w' g Jh Jj Jk) ∧ Aside0 (KeepBut w w' g none) ∧ Aside0 (Below w0.heap.size w0 w'))
 case atStart => exact ⟨(0), (JZ), (J0), (JT), (.slice J9 JT.length Ua), eV, H', ⟨Nat.le_refl _⟩, ⟨rP (R_mono (fR Jf 1 (fR Jf 0 (R_types JI.out Jd.out (by decide)) s2 (.slice J9 JT.length Ua)) s2 (.slice JK Jw.length JL)) sT)⟩, ⟨rP (R_mono (fR Jf 1 (fR Jf 0 (R_types JJ.out Jd.out (by decide)) s2 (.slice J9 JT.length Ua)) s2 (.slice JK Jw.length JL)) sT)⟩, ⟨kP Je⟩, ⟨pU Jd⟩, ⟨IsS123.iI HI0⟩, ⟨bK HK⟩, ⟨bB⟩⟩
 case round =>
  clear H';obtain ⟨Jx, Jj, Jk, Jc, JE, rfl, HA, HK1, Ja, Jb, Je, Jd, HI0, HK, HB⟩ := hrel
  cases gk with
  | zero => exact absurd HA.out (by simp [spec_l3Right.l0])
  | succ k1 =>
   have H := HA.out;clear HA;simp only [spec_l3Right.l0] at H
   by_cases Ul : Jx < (Jc.length : Int)
   ·rw [if_pos Ul] at H
    have Uq := decide_eq_true Ul;clear Ul;obtain ⟨⟨J1, Ub, Uc⟩, Vm, H⟩ := oB H;try dsimp only at H
    by_cases UC : 0 ≤ Jx
    ·rw [if_pos UC] at H
     have U1 := decide_eq_true UC;clear UC;obtain ⟨Ur, JU⟩ : ∃ y_ : List ByteArray, y_ = (Jc.set (Jx : Int).toNat J1) := ⟨_, rfl⟩;replace H : (spec_l3Right.l0 k1 (wrap64 (Jx + 1)) Jh Ub Uc Ur Jw) = some (r1, r2, r3, r4) := bQ JU H;have Us := aM JU;clear JU;have H' := aM H;clear H;have U2 := Jp.out;have U3 := Jo.out;have U4 := Jm.out;have U5 := Jv.out;obtain ⟨_, _, _, _⟩ := z2 Jd;obtain ⟨Ut, Ud, UH⟩ := R_slice Ja.out;subst UH;try go_wp2
     have n_ := aI (aM (R_drew Ja.out)) (aI (aM (R_drew Jb.out)) (aI (aM (blk_drew Je.out)) (aI (aM (blk_drew Jd.out)) (aI (aM (IsS123.drew HI0.out)) (aI (aM (keep_drew HK.out)) (aM (below_drew1 HB.out)))))));clear Ja Jb Je Jd HI0 HK HB;obtain ⟨Ja, Jb, Je, Jd, HI0, HK, HB⟩ := n_;refine start_ (n := 7) (S := fun w' => w'.cell? ⟨Jf, 0, none⟩ = some (.slice Ut Jc.length Ud) ∧ w'.cell? ⟨Jf, 1, none⟩ = some (.slice JK Jw.length JL)) (ds := [6]) #[tF, tF, tF, tF, tF, tF, tF] (by kernel_rfl) rfl rfl ⟨(blk_cell Jd.out 0).trans rfl, (blk_cell Jd.out 1).trans rfl⟩ (fun hHeld => ?_);generalize wr.drew = Vv at Ja Jb Je Jd HI0 HK HB hHeld ⊢;refine pure_ (i := 0) (N := some 22) (v := ?_) (a' := ?_) #[tT, tF, tF, tF, tF, tF, tF] rfl rfl (by kernel_rfl) (fun _ _ _ h => h) (Or.inl ⟨by rfl, ?_⟩) ?_ ?_
     rotate_left
     ·intro w'
      go_simp
      (with_reducible rfl)
     rotate_left
     ·simp only [Act.put, List.setIfInBounds_toArray, List.set_cons_zero, List.set_cons_succ, i64_w, i32_w]
      rfl
     refine pure_ (i := 2) (N := some 24) (v := ?_) (a' := ?_) #[tT, tF, tT, tF, tF, tF, tF] rfl rfl (by kernel_rfl) (fun _ _ _ h => h) (Or.inl ⟨by rfl, ?_⟩) ?_ ?_
     rotate_left
     ·intro w'
      go_simp
      (with_reducible rfl)
     rotate_left
     ·simp only [Act.put, List.setIfInBounds_toArray, List.set_cons_zero, List.set_cons_succ, i64_w, i32_w]
      rfl
     refine pure_ (i := 3) (N := some 25) (v := ?_) (a' := ?_) #[tT, tF, tT, tT, tF, tF, tF] rfl rfl (by kernel_rfl) (fun _ _ _ h => h) (Or.inl ⟨by rfl, ?_⟩) ?_ ?_
     rotate_left
     ·intro w'
      go_simp
      (with_reducible rfl)
     rotate_left
     ·simp only [Act.put, List.setIfInBounds_toArray, List.set_cons_zero, List.set_cons_succ, i64_w, i32_w]
      rfl
     refine take_ (i := 1) (N := some 23) (v := ?_) (a' := ?_) #[tT, tT, tT, tT, tF, tF, tF] rfl rfl (by kernel_rfl) (fun _ _ _ h => h) (Or.inl ⟨by rfl, ?_⟩) hHeld ?_ ?_
     rotate_left
     ·rintro w' ⟨s0, s1⟩
      go_simp
      (with_reducible rfl)
     rotate_left
     ·simp only [Act.put, List.setIfInBounds_toArray, List.set_cons_zero, List.set_cons_succ, i64_w, i32_w]
      rfl
     refine one_ (i := 4) (N := some 26) #[tT, tT, tT, tT, tT, tF, tF] rfl rfl (by kernel_rfl) (by decide) (fun K hK => ?_);refine goes_ Try.func96 (by kernel_rfl) rfl #[.pointer (some ⟨g, 0, none⟩)] (by rfl) rfl rfl (by (try simp only [List.map_toArray, List.map_cons, List.map_nil]); first | done | rfl | (simp only [List.length_drop, List.length_take]; rfl)) ?_;(with_reducible refine (spec_l3Data.calls k1 g Jh Jj Jk J1 Ub Uc w0 _ ?side1 ?side2 Vm.out).mono ?_);(case side1 => exact IsS123.iI HI0);(case side2 => exact bB);rintro e Vw ⟨rfl, hi, hb, hk⟩;refine ⟨_, rfl, ?_⟩;have n_ := aI (aM (R_mono (R_keep (IsS123.apart (show IsS123 w0 _ g Jh Jj Jk from IsS123.iI HI0) (rP Ja.out) (by decide)) hk (fun _ h => h.2)) (fun _ h => h.1))) (aI (aM (R_mono (R_keep (IsS123.apart (show IsS123 w0 _ g Jh Jj Jk from IsS123.iI HI0) (rP Jb.out) (by decide)) hk (fun _ h => h.2)) (fun _ h => h.1))) (aI (aM (KeepBut.blk hk (g' := Ji) (o := .cells #[.slice none 0 0, .slice none 0 0] 30 (0, 0)) (kP Je) Js.out (by simp))) (aI (aM (KeepBut.blk hk (g' := Jf) (o := .cells #[.slice Ut Jc.length Ud, .slice JK Jw.length JL] 30 (0, 0)) (kP Jd) Jm.out (by simp))) (aI (aM (KeepBut.trans (bK HK) hk (.inl rfl))) (aI (aM (hb)) (aM (hi)))))));clear Ja Jb Je Jd HK HB HI0;obtain ⟨Ja, Jb, Je, Jd, HK, HB, HI0⟩ := n_;(try clear hb);(try clear hb2);(try clear hk);(try clear hi);have UI : 0 ≤ (Jx : Int) := dT;have UJ : (Jx : Int) < ((Jc.length : Int) : Int) := dT;obtain ⟨Ue, Vn, Uu, Uv, UK, Vo, HG19⟩ := R_form Ja.out (by omega);(first | cases Uu | (injection Uu with ea_ en_ ec_; (first | subst ea_ | (injection ea_ with ea_; subst ea_)); subst ec_; clear en_));have UL := aM Uv;have UM := aM HG19;clear Uv UK HG19;obtain ⟨UN, UO⟩ := R_celln (⟨#[]⟩ : ByteArray) Ja.out (Jx : Int) UI UJ;replace UI := eq_true UI;replace UJ := eq_true UJ;have HN0_go19 := aM (show g ≠ Ue from by have h_ := IsS123.own_ne HI0.out Ja.out (by decide); intro e_; exact h_ (by rw [e_]; rfl));have HP26 := R_putn Ja.out (Jx : Int) J1;rw [← Us.out] at HP26;have HQ26 := aM HP26;clear HP26;refine hK.out _ _ ⟨(blk_cell Jd.out 0).trans rfl, (blk_cell Jd.out 1).trans rfl⟩ (fun hHeld => ?_);clear hK K;refine norm_ (a' := ?_) ?_ ?_
     rotate_left
     ·show Act.put _ (some 26) _ = _
      simp only [Act.put, List.setIfInBounds_toArray, List.set_cons_zero, List.set_cons_succ, i64_w, i32_w]
      rfl
     refine pure_ (i := 5) (N := some 27) (v := ?_) (a' := ?_) #[tT, tT, tT, tT, tT, tT, tF] rfl rfl (by kernel_rfl) (fun _ _ _ h => h) (Or.inl ⟨by rfl, ?_⟩) ?_ ?_
     rotate_left
     ·intro w'
      go_simp
      (with_reducible rfl)
     rotate_left
     ·simp only [Act.put, List.setIfInBounds_toArray, List.set_cons_zero, List.set_cons_succ, i64_w, i32_w]
      rfl
     refine last_ (i := 6) (N := none) #[tT, tT, tT, tT, tT, tT, tT] rfl rfl (by kernel_rfl) (by decide) (fun K hK => ?_);refine skip_ (w1 := ?_) (by rfl) rfl ?_ ?_
     rotate_left
     ·go_simp
      rfl
     refine hK.out _ _ ?_;clear hK K;refine done_ (by kernel_rfl) ?_;try go_wp2
     go_roundg k1
     case measure => have := HK1.out; omega
     case rel => exact ⟨(wrap64 (Jx + 1)), (Ub), (Uc), (Ur), (.slice (some ⟨Ue, 0, none⟩) Jc.length Ud), eV, H', ⟨by have := HK1.out; omega⟩, ⟨rP HQ26.out⟩, ⟨rP (R_mono (R_far (p := ⟨Ue, (Jx : Int).toNat, none⟩) (R_types Jb.out UM.out (by decide)) s2 (.string J1)) sT)⟩, ⟨by (with_reducible repeat (first | apply bN | apply bD | apply bA)); refine blk_far ?_ (by have h_ := R_ne Ja.out Je.out (by decide); intro e_; exact h_ (by rw [e_]; rfl)) _; (with_reducible repeat (first | apply bN | apply bD | apply bA)); exact Je.out⟩, ⟨by (with_reducible repeat (first | apply bN | apply bD | apply bA)); refine blk_far ?_ (by have h_ := R_ne Ja.out Jd.out (by decide); intro e_; exact h_ (by rw [e_]; rfl)) _; (with_reducible repeat (first | apply bN | apply bD | apply bA)); exact Jd.out⟩, ⟨by repeat (first | (with_reducible first | exact HI0.out | apply IsS123.alloc | apply IsS123.drewN | apply IsS123.drew | apply IsS123.set_1 | apply IsS123.set_2 | refine IsS123.far ?_ HN0_go19.out _ | refine IsS123.far ?_ JM.out _ | refine IsS123.far ?_ Jv.out _) | exact HI0.out)⟩, ⟨bK HK⟩, ⟨by repeat (first | (with_reducible first | exact HB.out | apply below_alloc | apply pw_below_drewN | apply below_drew1 | refine below_set ?_ (Nat.le_trans HL.out UL.out) | refine below_set ?_ (IsS123.ge HI0.out) | refine below_set ?_ Un.out | refine below_set ?_ Up.out) | exact HB.out)⟩⟩
    ·rw [if_neg UC] at H
     exact absurd H (by simp)
   ·rw [if_neg Ul] at H
    have Uq := decide_eq_false Ul;clear Ul;obtain ⟨⟨J2, Uw, Ux⟩, Vp, H⟩ := oB H;try dsimp only at H
    have H' := aM H;clear H;have U6 := Jp.out;have U7 := Jo.out;have U8 := Jm.out;have U9 := Jv.out;obtain ⟨_, _, _, _⟩ := z2 Jd;obtain ⟨JA, JB, UP⟩ := R_slice Ja.out;subst UP
    go_wp2_with (first | ((with_reducible refine gate_callee (f := 95) rfl ?_); refine gL (some 29) Try.func95 #[.pointer (some ⟨g, 0, none⟩), .int .i64 6] ?_; (with_reducible refine (spec_l1Below.calls g Jh Jj Jk 6 J2 Uw Ux w0 _ ?side1 ?side2 Vp.out).mono ?_); (case side1 => exact IsS123.iI HI0); (case side2 => exact bB); rintro e Vx ⟨rfl, hi, hb, hk⟩; refine ⟨_, rfl, ?_⟩; have n_ := aI (aM (R_mono (R_keep (IsS123.apart (show IsS123 w0 _ g Jh Jj Jk from IsS123.iI HI0) (rP Ja.out) (by decide)) hk (fun _ h => h.2)) (fun _ h => h.1))) (aI (aM (R_mono (R_keep (IsS123.apart (show IsS123 w0 _ g Jh Jj Jk from IsS123.iI HI0) (rP Jb.out) (by decide)) hk (fun _ h => h.2)) (fun _ h => h.1))) (aI (aM (KeepBut.blk hk (g' := Ji) (o := .cells #[.slice none 0 0, .slice none 0 0] 30 (0, 0)) (kP Je) Js.out (by simp))) (aI (aM (KeepBut.blk hk (g' := Jf) (o := .cells #[.slice JA Jc.length JB, .slice JK Jw.length JL] 30 (0, 0)) (kP Jd) Jm.out (by simp))) (aI (aM (KeepBut.trans (bK HK) hk (.inl rfl))) (aI (aM (hb)) (aM (hi))))))); clear Ja Jb Je Jd HK HB HI0; obtain ⟨Ja, Jb, Je, Jd, HK, HB, HI0⟩ := n_; (try clear hb hk hi)))
    go_loopg [7] k1 (fun kq v7 w' => ∃ (JN : Int) (Jt : Int) (Ju : Int) (Jg : List (S65)) (Jl : Value), v7 = .int .i64 JN ∧ Aside0 (spec_l3Right.l1 kq J2 JN Jh Jt Ju Jc Jg = some (r1, r2, r3, r4)) ∧ Aside0 (kq ≤ k1) ∧ Aside0 (Kd.R Kd.string 9 w' w.heap.size (fun _ => True) (.slice JA Jc.length JB) Jc) ∧ Aside0 (Kd.R k65 65 w' w.heap.size (fun _ => True) Jl Jg) ∧ Aside0 (w'.heap[Ji]? = some (.cells #[(.slice none 0 0), (.slice none 0 0)] 30 (0, 0))) ∧ Aside0 (w'.heap[Jf]? = some (.cells #[(.slice JA Jc.length JB), Jl] 30 (0, 0))) ∧ Aside0 (IsS123 w0 w' g Jh Jt Ju) ∧ Aside0 (KeepBut w w' g none) ∧ Aside0 (Below w0.heap.size w0 w'))
    case atStart => exact ⟨(0), (Uw), (Ux), (Jw), (.slice JK Jw.length JL), eV, H', ⟨Nat.le_refl _⟩, ⟨rP Ja.out⟩, ⟨rP Jb.out⟩, ⟨kP Je⟩, ⟨kP Jd⟩, ⟨IsS123.iI HI0⟩, ⟨bK HK⟩, ⟨bB⟩⟩
    case round =>
     clear H';obtain ⟨JN, Jt, Ju, Jg, Jl, rfl, HA, HK2, Ja, Jb, Je, Jd, HI0, HK, HB⟩ := hrel
     cases gk with
     | zero => exact absurd HA.out (by simp [spec_l3Right.l1])
     | succ k2 =>
      have H := HA.out;clear HA;simp only [spec_l3Right.l1] at H
      by_cases Um : JN < J2
      ·rw [if_pos Um] at H
       have Uy := decide_eq_true Um;clear Um;obtain ⟨⟨JV, J3, J4⟩, Vq, H⟩ := oB H;try dsimp only at H
       obtain ⟨⟨JW, Uf, Ug⟩, Vr, H⟩ := oB H;try dsimp only at H
       by_cases UD : Jg.length < 5864062014805
       ·rw [if_pos UD] at H
        have Uz := aM UD;clear UD;obtain ⟨JX, JY⟩ : ∃ y_ : List (S65), y_ = (Jg ++ [(⟨JV, JW⟩ : S65)]) := ⟨_, rfl⟩;replace H : (spec_l3Right.l1 k2 J2 (wrap64 (JN + 1)) Jh Uf Ug Jc JX) = some (r1, r2, r3, r4) := bQ JY H;have UA := aM JY;clear JY;have H' := aM H;clear H;try go_wp2
        have n_ := aI (aM (R_drew Ja.out)) (aI (aM (R_drew Jb.out)) (aI (aM (blk_drew Je.out)) (aI (aM (blk_drew Jd.out)) (aI (aM (IsS123.drew HI0.out)) (aI (aM (keep_drew HK.out)) (aM (below_drew1 HB.out)))))));clear Ja Jb Je Jd HI0 HK HB;obtain ⟨Ja, Jb, Je, Jd, HI0, HK, HB⟩ := n_;refine start_ (n := 14) (S := fun w' => w'.cell? ⟨Jf, 0, none⟩ = some (.slice JA Jc.length JB) ∧ w'.cell? ⟨Jf, 1, none⟩ = some (Jl)) (ds := [13]) #[tF, tF, tF, tF, tF, tF, tF, tF, tF, tF, tF, tF, tF, tF] (by kernel_rfl) rfl rfl ⟨(blk_cell Jd.out 0).trans rfl, (blk_cell Jd.out 1).trans rfl⟩ (fun hHeld => ?_); refine with_tabW spec_l3Right.tab10 spec_l3Right.bits10 (fun HT_ HW_ => ?_);generalize wr.drew = Vy at Ja Jb Je Jd HI0 HK HB hHeld ⊢;refine pY 0 35 #[tT, tF, tF, tF, tF, tF, tF, tF, tF, tF, tF, tF, tF, tF] ?_;refine pY 2 37 #[tT, tF, tT, tF, tF, tF, tF, tF, tF, tF, tF, tF, tF, tF] ?_;refine pY 3 38 #[tT, tF, tT, tT, tF, tF, tF, tF, tF, tF, tF, tF, tF, tF] ?_;refine pY 7 42 #[tT, tF, tT, tT, tF, tF, tF, tT, tF, tF, tF, tF, tF, tF] ?_;refine take_ (i := 1) (N := some 36) (v := ?_) (a' := ?_) #[tT, tT, tT, tT, tF, tF, tF, tT, tF, tF, tF, tF, tF, tF] rfl rfl (take_ofW HT_.out HW_.out (by kernel_rfl)) (fun _ _ _ h => h) (Or.inl ⟨by rfl, ?_⟩) hHeld ?_ ?_
        rotate_left
        ·rintro w' ⟨s0, s1⟩
         go_simp
         (with_reducible rfl)
        rotate_left
        ·simp only [Act.put, List.setIfInBounds_toArray, List.set_cons_zero, List.set_cons_succ, i64_w, i32_w]
         rfl
        refine take_ (i := 4) (N := some 39) (v := ?_) (a' := ?_) #[tT, tT, tT, tT, tT, tF, tF, tT, tF, tF, tF, tF, tF, tF] rfl rfl (take_ofW HT_.out HW_.out (by kernel_rfl)) (fun _ _ _ h => h) (Or.inl ⟨by rfl, ?_⟩) hHeld ?_ ?_
        rotate_left
        ·rintro w' ⟨s0, s1⟩
         go_simp
         (with_reducible rfl)
        rotate_left
        ·simp only [Act.put, List.setIfInBounds_toArray, List.set_cons_zero, List.set_cons_succ, i64_w, i32_w]
         rfl
        refine pY 5 40 #[tT, tT, tT, tT, tT, tT, tF, tT, tF, tF, tF, tF, tF, tF] ?_;refine one_ (i := 6) (N := some 41) #[tT, tT, tT, tT, tT, tT, tT, tT, tF, tF, tF, tF, tF, tF] rfl rfl (one_of HT_.out (by kernel_rfl)) (by decide) (fun K hK => ?_);refine goes_ Try.func95 (by kernel_rfl) rfl #[.pointer (some ⟨g, 0, none⟩), .int .i64 (Jc.length : Int)] (by rfl) rfl rfl (by (try simp only [List.map_toArray, List.map_cons, List.map_nil]); first | done | rfl | (simp only [List.length_drop, List.length_take]; rfl)) ?_;(with_reducible refine (spec_l1Below.calls g Jh Jt Ju (Jc.length : Int) JV J3 J4 w0 _ ?side1 ?side2 Vq.out).mono ?_);(case side1 => exact IsS123.iI HI0);(case side2 => exact bB);rintro e Vz ⟨rfl, hi, hb, hk⟩;refine ⟨_, rfl, ?_⟩;have n_ := aI (aM (R_mono (R_keep (IsS123.apart (show IsS123 w0 _ g Jh Jt Ju from IsS123.iI HI0) (rP Ja.out) (by decide)) hk (fun _ h => h.2)) (fun _ h => h.1))) (aI (aM (R_mono (R_keep (IsS123.apart (show IsS123 w0 _ g Jh Jt Ju from IsS123.iI HI0) (rP Jb.out) (by decide)) hk (fun _ h => h.2)) (fun _ h => h.1))) (aI (aM (KeepBut.blk hk (g' := Ji) (o := .cells #[.slice none 0 0, .slice none 0 0] 30 (0, 0)) (kP Je) Js.out (by simp))) (aI (aM (KeepBut.blk hk (g' := Jf) (o := .cells #[.slice JA Jc.length JB, Jl] 30 (0, 0)) (kP Jd) Jm.out (by simp))) (aI (aM (KeepBut.trans (bK HK) hk (.inl rfl))) (aI (aM (hb)) (aM (hi)))))));clear Ja Jb Je Jd HK HB HI0;obtain ⟨Ja, Jb, Je, Jd, HK, HB, HI0⟩ := n_;(try clear hb);(try clear hb2);(try clear hk);(try clear hi);refine hK.out _ _ ⟨(blk_cell Jd.out 0).trans rfl, (blk_cell Jd.out 1).trans rfl⟩ (fun hHeld => ?_);clear hK K;refine norm_ (a' := ?_) ?_ ?_
        rotate_left
        ·show Act.put _ (some 41) _ = _
         simp only [Act.put, List.setIfInBounds_toArray, List.set_cons_zero, List.set_cons_succ, i64_w, i32_w]
         rfl
        refine one_ (i := 8) (N := some 43) #[tT, tT, tT, tT, tT, tT, tT, tT, tT, tF, tF, tF, tF, tF] rfl rfl (one_of HT_.out (by kernel_rfl)) (by decide) (fun K hK => ?_);refine goes_ Try.func96 (by kernel_rfl) rfl #[.pointer (some ⟨g, 0, none⟩)] (by rfl) rfl rfl (by (try simp only [List.map_toArray, List.map_cons, List.map_nil]); first | done | rfl | (simp only [List.length_drop, List.length_take]; rfl)) ?_;(with_reducible refine (spec_l3Data.calls k2 g Jh J3 J4 JW Uf Ug w0 _ ?side1 ?side2 Vr.out).mono ?_);(case side1 => exact IsS123.iI HI0);(case side2 => exact bB);rintro e VA ⟨rfl, hi, hb, hk⟩;refine ⟨_, rfl, ?_⟩;have n_ := aI (aM (R_mono (R_keep (IsS123.apart (show IsS123 w0 _ g Jh J3 J4 from IsS123.iI HI0) (rP Ja.out) (by decide)) hk (fun _ h => h.2)) (fun _ h => h.1))) (aI (aM (R_mono (R_keep (IsS123.apart (show IsS123 w0 _ g Jh J3 J4 from IsS123.iI HI0) (rP Jb.out) (by decide)) hk (fun _ h => h.2)) (fun _ h => h.1))) (aI (aM (KeepBut.blk hk (g' := Ji) (o := .cells #[.slice none 0 0, .slice none 0 0] 30 (0, 0)) (kP Je) Js.out (by simp))) (aI (aM (KeepBut.blk hk (g' := Jf) (o := .cells #[.slice JA Jc.length JB, Jl] 30 (0, 0)) (kP Jd) Jm.out (by simp))) (aI (aM (KeepBut.trans (bK HK) hk (.inl rfl))) (aI (aM (hb)) (aM (hi)))))));clear Ja Jb Je Jd HK HB HI0;obtain ⟨Ja, Jb, Je, Jd, HK, HB, HI0⟩ := n_;(try clear hb);(try clear hb2);(try clear hk);(try clear hi);refine hK.out _ _ ⟨(blk_cell Jd.out 0).trans rfl, (blk_cell Jd.out 1).trans rfl⟩ (fun hHeld => ?_);clear hK K;refine norm_ (a' := ?_) ?_ ?_
        rotate_left
        ·show Act.put _ (some 43) _ = _
         simp only [Act.put, List.setIfInBounds_toArray, List.set_cons_zero, List.set_cons_succ, i64_w, i32_w]
         rfl
        refine pY 9 44 #[tT, tT, tT, tT, tT, tT, tT, tT, tT, tT, tF, tF, tF, tF] ?_;refine one_ (i := 10) (N := some 45) #[tT, tT, tT, tT, tT, tT, tT, tT, tT, tT, tT, tF, tF, tF] rfl rfl (one_of HT_.out (by kernel_rfl)) (by decide) (fun K hK => ?_);refine value_ (w1 := ?_) (v := ?_) (by rfl) rfl ?_ ?_
        rotate_left 2
        ·go_simp
         constructor
         ·rfl
         ·rfl
        refine hK.out _ _ ⟨(blk_cell (blk_alloc Jd.out _) 0).trans rfl, (blk_cell (blk_alloc Jd.out _) 1).trans rfl⟩ (fun hHeld => ?_);clear hK K;refine norm_ (a' := ?_) ?_ ?_
        rotate_left
        ·show Act.put _ (some 45) _ = _
         simp only [Act.put, List.setIfInBounds_toArray, List.set_cons_zero, List.set_cons_succ, i64_w, i32_w]
         rfl
        refine one_ (i := 11) (N := some 46) #[tT, tT, tT, tT, tT, tT, tT, tT, tT, tT, tT, tT, tF, tF] rfl rfl (one_of HT_.out (by kernel_rfl)) (by decide) (fun K hK => ?_);refine R_append_step k65 w.heap.size (by rfl) (.tmp 36) (.tmp 45) 28 65 (.agg #[(.int .i64 0), (.string ⟨#[]⟩)]) 24 rfl Try.underlying28 info65 rfl (by decide) (by omega) Jl Jg (⟨JV, JW⟩ : S65) [.int .i64 JV, .string JW] (fun _ => True) (fun _ => False) rfl rfl ?aP (fun _ hk => hk.elim) ?aF ?aO (Below.refl _ _) ?aS ?aL ?_;(case aP => exact k65_mkM _ _ _ (⟨JV, JW⟩ : S65));(case aF => exact (fun _ _ => trivial));(case aO => exact (rP Jb.out));(case aS => exact (keep_size (w := w) (g := g) (row := none) (bK HK)));(case aL => have := Uz.out; omega);intro Vs Vt ho hb hg hat;rw [← UA.out] at ho;have n_ := aI (aM (R_over' (rP Ja.out) (R_typed (rP Jb.out)) (by decide) hg)) (aI (aM (blk_grown (g := Ji) (o := .cells #[.slice none 0 0, .slice none 0 0] 30 (0, 0)) (kP Je) hg (R_ne Jb.out Je.out (by decide)))) (aI (aM (blk_grown (g := Jf) (o := .cells #[.slice JA Jc.length JB, Jl] 30 (0, 0)) (kP Jd) hg (R_ne Jb.out Jd.out (by decide)))) (aI (aM (IsS123.grown (IsS123.iI HI0) hg (IsS123.own_ne HI0.out Jb.out (by decide)))) (aI (aM (below_weaken bB HL.out hb)) (aI (aM (KeepBut.trans (bK HK) (KeepBut.of_grown hg g) (R_base2 Jb.out))) (aM (ho)))))));clear Ja Je Jd HI0 HB HK Jb;obtain ⟨Ja, Je, Jd, HI0, HB, HK, J6⟩ := n_;clear ho hb hg hat;obtain ⟨Uh, Ui, UB⟩ := R_slice J6.out;(first | subst UB | (injection UB with f1_ f2_ f3_; have f4_ := f1_.symm; have f5_ := f3_.symm; clear f1_ f2_ f3_; subst f4_; subst f5_));refine hK.out _ _ ⟨(blk_cell Jd.out 0).trans rfl, (blk_cell Jd.out 1).trans rfl⟩ (fun hHeld => ?_);clear hK K;refine norm_ (a' := ?_) ?_ ?_
        rotate_left
        ·show Act.put _ (some 46) _ = _
         simp only [Act.put, List.setIfInBounds_toArray, List.set_cons_zero, List.set_cons_succ, i64_w, i32_w]
         rfl
        refine pY 12 47 #[tT, tT, tT, tT, tT, tT, tT, tT, tT, tT, tT, tT, tT, tF] ?_;refine last_ (i := 13) (N := none) #[tT, tT, tT, tT, tT, tT, tT, tT, tT, tT, tT, tT, tT, tT] rfl rfl (one_of HT_.out (by kernel_rfl)) (by decide) (fun K hK => ?_);have hs42 : Vt.cell? ⟨Jf, 1, none⟩ = some (Jl) := (blk_cell Jd.out 1).trans rfl;have hfs42 := blk_frozen Jd.out 1;have hns42_0 := Jo.out;have hms42_0 := Jp.out;refine skip_ (w1 := ?_) (by rfl) rfl ?_ ?_
        rotate_left
        ·go_simp
         rfl
        refine hK.out _ _ ?_;clear hK K;refine done_ (done_of HT_.out (by kernel_rfl)) ?_;try go_wp2
        go_roundg k2
        case measure => have := HK1.out; have := HK2.out; omega
        case rel => exact ⟨(wrap64 (JN + 1)), (Uf), (Ug), (JX), (.slice Uh JX.length Ui), eV, H', ⟨by have := HK1.out; have := HK2.out; omega⟩, ⟨rP (R_mono (fR Jf 1 (R_types Ja.out Jd.out (by decide)) s2 (.slice Uh JX.length Ui)) sT)⟩, ⟨rP (R_mono (fR Jf 1 (R_types J6.out Jd.out (by decide)) s2 (.slice Uh JX.length Ui)) sT)⟩, ⟨kP Je⟩, ⟨pU Jd⟩, ⟨IsS123.iI HI0⟩, ⟨bK HK⟩, ⟨bB⟩⟩
       ·rw [if_neg UD] at H
        exact absurd H (by simp)
      ·rw [if_neg Um] at H
       have Uy := decide_eq_false Um;clear Um;simp only [Option.some.injEq, Prod.mk.injEq] at H;obtain ⟨rfl, rfl, rfl, rfl⟩ := H;have Va := Jp.out;have Vb := Jo.out;have Vc := Jm.out;have Vd := Jv.out;obtain ⟨_, _, _, _⟩ := z2 Jd;have Ve := Js.out;have Vf := JM.out;obtain ⟨_, _, _, _⟩ := z2 Je;obtain ⟨Uj, Uk, UQ⟩ := R_slice Jb.out;subst UQ
       go_wp2
       refine bodyPost_ret (results_cell_row rfl _ _ Ji 30 #[.slice JA Jc.length JB, .slice Uj Jg.length Uk] (0, 0) _ rfl (pU Je) Try.underlying30 rfl (by kernel_rfl)) rfl ?_;exact ⟨_, _, eW, by (with_reducible repeat (first | apply R_alloc | apply R_drewN | apply R_drew)); exact R_mono (fR Ji 1 (fR Ji 0 (R_types Ja.out Je.out (by decide)) s2 (.slice JA Jc.length JB)) s2 (.slice Uj Jg.length Uk)) sT, by (with_reducible repeat (first | apply R_alloc | apply R_drewN | apply R_drew)); exact R_mono (fR Ji 1 (fR Ji 0 (R_types Jb.out Je.out (by decide)) s2 (.slice JA Jc.length JB)) s2 (.slice Uj Jg.length Uk)) sT, IsS123.iI HI0, bB, bK HK⟩

end Go.Proofs.Ytgmpdkefegofhaa.PFnAtomic
