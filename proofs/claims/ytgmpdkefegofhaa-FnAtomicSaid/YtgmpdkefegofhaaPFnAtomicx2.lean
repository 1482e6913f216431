-- printed
import Derived.Test.YtgmpdkefegofhaaPFnAtomicx0
namespace Go.Proofs.Ytgmpdkefegofhaa.PFnAtomic
open Go.RowKit Go.Proofs.YtgmpdkefegofhaaW.PrintWords Go.Proofs.YtgmpdkefegofhaaW.PrintLast Go.Proofs.YtgmpdkefegofhaaW.PrintMore Go.Proofs.YtgmpdkefegofhaaW.Cr
open Go.Proofs.YtgmpdkefegofhaaW.PrintWords.Kd (R_alloc R_append R_drew R_drewN R_lit R_ne)
attribute [local go_sem] max2_int min2_int max_two min_two max_three min_three max_four min_four
set_option maxHeartbeats 8000000
set_option maxRecDepth 100000
set_option linter.unusedVariables false
set_option linter.unusedSimpArgs false

def spec_l1In.f (a0 : Int) (a1 : Int) (a2 : Int) : Option (Bool) := if a0 ≥ a1 then (some (decide (a0 ≤ a2))) else (some false)
theorem spec_l1In.calls (a0 : Int) (a1 : Int) (a2 : Int) (r : Bool) (w : World) (h : spec_l1In.f a0 a1 a2 = some r) :
  Calls Try.prog 69 #[.int .i64 a0, .int .i64 a1, .int .i64 a2] w fun e w' => e = .returned (.bool r) ∧ Drawn0 w w' := by
 unfold spec_l1In.f at h;have H := h;clear h
 by_cases c4 : a0 ≥ a1
 ·rw [if_pos c4] at H
  have Ja := decide_eq_true c4;clear c4;obtain rfl := Option.some.inj H
  go_enter Try.func69, Try.ntmps69
  go_wp2
  go_ret
  exact ⟨by first | rfl | (simp; done) | (simp [*]; done), by repeat (first | exact Drawn0.refl _ | apply Drawn0.step)⟩
 rw [if_neg c4] at H;have Ja := decide_eq_false c4;clear c4;obtain rfl := Option.some.inj H
 go_enter Try.func69, Try.ntmps69
 go_wp2
 go_ret
 exact ⟨by first | rfl | (simp; done) | (simp [*]; done), by repeat (first | exact Drawn0.refl _ | apply Drawn0.step)⟩

def spec_l3PutsOk.l0 : Nat → List (S65) → Int → Int → Option (Bool)
 | 0, _, _, _ => none
 | k + 1, x0, x1, x5 => if x5 < (x0.length : Int) then (if 0 ≤ x5 then ((spec_l1In.f ((rd_T65 x0 x5).f0) 0 (wrap64 (x1 - 1))).bind fun Jm => (if Jm = true then (if (((rd_T65 x0 x5).f1).size : Int) > 90 then (some false) else (spec_l3PutsOk.l0 k x0 x1 (wrap64 (x5 + 1)))) else (some false))) else (none)) else (some true)
def spec_l3PutsOk.f (k : Nat) (l0 : List (S65)) (a1 : Int) : Option (Bool) := spec_l3PutsOk.l0 k l0 a1 0
theorem spec_l3PutsOk.mono_l : ∀ k, (∀ y0 y1 y2, LeO (spec_l3PutsOk.l0 k y0 y1 y2) (spec_l3PutsOk.l0 (k + 1) y0 y1 y2))
 | 0 => fun _ _ _ r h => by simp [spec_l3PutsOk.l0] at h
 | k + 1 => by
  have ih0 := spec_l3PutsOk.mono_l k
  ·intro y0 y1 y2
   unfold spec_l3PutsOk.l0;exact mM
theorem spec_l3PutsOk.mono : ∀ a0 a1 k, LeO (spec_l3PutsOk.f k a0 a1) (spec_l3PutsOk.f (k + 1) a0 a1) := by
 intro a0 a1 k;have ih0 := spec_l3PutsOk.mono_l k;unfold spec_l3PutsOk.f;exact mM
theorem spec_l3PutsOk.calls (k : Nat) (A0 : Option Addr) (c0 : Nat) (l0 : List (S65)) (a1 : Int) (r : Bool) (w : World) (hr0 : Kd.C k65 w A0 l0.length l0) (Js : l0.length ≤ c0) (h : spec_l3PutsOk.f k l0 a1 = some r) :
  Calls Try.prog 59 #[.slice A0 l0.length c0, .int .i64 a1] w fun e w' => e = .returned (.bool r) ∧ Drawn0 w w' := by
 have Jo := aM hr0;have Ju := aM Js;clear hr0 Js;unfold spec_l3PutsOk.f at h;have H := h;clear h;have H' := aM H;clear H
 go_enter Try.func59, Try.ntmps59
 go_wp2
 go_loopg [5] k (fun kq v5 w' => ∃ (Ja : Int), v5 = .int .i64 Ja ∧ Aside0 (spec_l3PutsOk.l0 kq l0 a1 Ja = some r) ∧ Aside0 (kq ≤ k) ∧ Drawn0 w w')
 case atStart => exact ⟨(0), eV, H', ⟨Nat.le_refl _⟩, by repeat (first | exact Drawn0.refl _ | apply Drawn0.step)⟩
 case round =>
  clear H';obtain ⟨Ja, rfl, HA, HK1, ⟨m1, rfl⟩⟩ := hrel
  cases gk with
  | zero => exact absurd HA.out (by simp [spec_l3PutsOk.l0])
  | succ k1 =>
   have H := HA.out;clear HA;simp only [spec_l3PutsOk.l0] at H
   by_cases c3 : Ja < (l0.length : Int)
   ·rw [if_pos c3] at H
    have Jp := decide_eq_true c3;clear c3
    by_cases c4 : 0 ≤ Ja
    ·rw [if_pos c4] at H
     have Jt := decide_eq_true c4;clear c4;obtain ⟨Jm, A5, H⟩ := oB H;try dsimp only at H
     by_cases c6 : Jm = true
     ·subst c6
      rw [if_pos rfl] at H
      by_cases c7 : (((rd_T65 l0 Ja).f1).size : Int) > 90
      ·rw [if_pos c7] at H
       have Jq := decide_eq_true c7;have Jr : decide (90 < ((rd_T65 l0 Ja).f1).size) = true := decide_eq_true (by omega);clear c7;obtain rfl := Option.some.inj H;have Jb : 0 ≤ (Ja : Int) := dT;have Jc : Ja < (l0.length : Int) := dT;obtain ⟨Jf, Ji, Jg, Jh⟩ := at_T65 Jo.out Ja Jb Jc;cases Ji
       replace Jb := eq_true Jb;replace Jc := eq_true Jc
       go_wp2_with (first | ((with_reducible refine gate_callee (f := 69) rfl ?_); refine gL (some 19) Try.func69 #[.int .i64 ((rd_T65 l0 Ja).f0), .int .i64 0, .int .i64 (wrap64 (a1 - 1))] ?_; (with_reducible refine (spec_l1In.calls ((rd_T65 l0 Ja).f0) 0 (wrap64 (a1 - 1)) true _ A5.out).mono ?_); rintro e w' ⟨rfl, ⟨nd, rfl⟩⟩; refine ⟨_, rfl, ?_⟩; have Jd : 0 ≤ (Ja : Int) := dT; have Je : Ja < (l0.length : Int) := dT; obtain ⟨Jj, Jn, Jk, Jl⟩ := at_T65 Jo.out Ja Jd Je; obtain rfl : Jf = Jj := (by injection Jn); replace Jd := eq_true Jd; replace Je := eq_true Je))
       go_ret
       exact ⟨by first | rfl | (simp; done) | (simp [*]; done), by repeat (first | exact Drawn0.refl _ | apply Drawn0.step)⟩
      ·rw [if_neg c7] at H
       have Jq := decide_eq_false c7;have Jr : decide (90 < ((rd_T65 l0 Ja).f1).size) = false := decide_eq_false (by omega);clear c7;have H' := aM H;clear H;have Jb : 0 ≤ (Ja : Int) := dT;have Jc : Ja < (l0.length : Int) := dT;obtain ⟨Jf, Ji, Jg, Jh⟩ := at_T65 Jo.out Ja Jb Jc;cases Ji
       replace Jb := eq_true Jb;replace Jc := eq_true Jc
       go_wp2_with (first | ((with_reducible refine gate_callee (f := 69) rfl ?_); refine gL (some 19) Try.func69 #[.int .i64 ((rd_T65 l0 Ja).f0), .int .i64 0, .int .i64 (wrap64 (a1 - 1))] ?_; (with_reducible refine (spec_l1In.calls ((rd_T65 l0 Ja).f0) 0 (wrap64 (a1 - 1)) true _ A5.out).mono ?_); rintro e w' ⟨rfl, ⟨nd, rfl⟩⟩; refine ⟨_, rfl, ?_⟩; have Jd : 0 ≤ (Ja : Int) := dT; have Je : Ja < (l0.length : Int) := dT; obtain ⟨Jj, Jn, Jk, Jl⟩ := at_T65 Jo.out Ja Jd Je; obtain rfl : Jf = Jj := (by injection Jn); replace Jd := eq_true Jd; replace Je := eq_true Je))
       go_roundg k1
       case measure => have := HK1.out; omega
       case rel => exact ⟨(wrap64 (Ja + 1)), eV, H', ⟨by have := HK1.out; omega⟩, by repeat (first | exact Drawn0.refl _ | apply Drawn0.step)⟩
     ·replace c6 := Bool.eq_false_iff.mpr c6
      subst c6;rw [if_neg (show ¬ (false = true) by decide)] at H;obtain rfl := Option.some.inj H;have Jb : 0 ≤ (Ja : Int) := dT;have Jc : Ja < (l0.length : Int) := dT;obtain ⟨Jf, Ji, Jg, Jh⟩ := at_T65 Jo.out Ja Jb Jc;cases Ji
      replace Jb := eq_true Jb;replace Jc := eq_true Jc
      go_wp2_with (first | ((with_reducible refine gate_callee (f := 69) rfl ?_); refine gL (some 19) Try.func69 #[.int .i64 ((rd_T65 l0 Ja).f0), .int .i64 0, .int .i64 (wrap64 (a1 - 1))] ?_; (with_reducible refine (spec_l1In.calls ((rd_T65 l0 Ja).f0) 0 (wrap64 (a1 - 1)) false _ A5.out).mono ?_); rintro e w' ⟨rfl, ⟨nd, rfl⟩⟩; refine ⟨_, rfl, ?_⟩))
      go_ret
      exact ⟨by first | rfl | (simp; done) | (simp [*]; done), by repeat (first | exact Drawn0.refl _ | apply Drawn0.step)⟩
    ·rw [if_neg c4] at H
     exact absurd H (by simp)
   ·rw [if_neg c3] at H
    have Jp := decide_eq_false c3;clear c3;obtain rfl := Option.some.inj H
    go_wp2
    go_ret
    exact ⟨by first | rfl | (simp; done) | (simp [*]; done), by repeat (first | exact Drawn0.refl _ | apply Drawn0.step)⟩

mutual
def spec_DiskOk.j0 : Nat → Bool → List ByteArray → List (S65) → Option (Bool)
 | 0, _, _, _ => none
 | k + 1, JJ, Je, Jg => if JJ = true then (some false) else (spec_DiskOk.l0 k 0 Je Jg)
def spec_DiskOk.l0 : Nat → Int → List ByteArray → List (S65) → Option (Bool)
 | 0, _, _, _ => none
 | k + 1, x3, Je, Jg => if x3 < (Je.length : Int) then (if 0 ≤ x3 then (if ((rdOf ByteArray.empty Je x3).size : Int) > 90 then (some false) else (spec_DiskOk.l0 k (wrap64 (x3 + 1)) Je Jg)) else (none)) else ((spec_l3PutsOk.f k Jg (Je.length : Int)).bind fun Jt => (some Jt))
end
def spec_DiskOk.f (k : Nat) (Ja : List ByteArray) (Jc : List (S65)) : Option (Bool) := if (Ja.length : Int) > 120 then (spec_DiskOk.j0 k true Ja Jc) else (spec_DiskOk.j0 k (decide ((Jc.length : Int) > 400)) Ja Jc)
theorem spec_DiskOk.mono_l : ∀ k, (∀ y0 y1 y2, LeO (spec_DiskOk.j0 k y0 y1 y2) (spec_DiskOk.j0 (k + 1) y0 y1 y2)) ∧ (∀ y0 y1 y2, LeO (spec_DiskOk.l0 k y0 y1 y2) (spec_DiskOk.l0 (k + 1) y0 y1 y2))
 | 0 => ⟨fun _ _ _ r h => by simp [spec_DiskOk.j0] at h, fun _ _ _ r h => by simp [spec_DiskOk.l0] at h⟩
 | k + 1 => by
  obtain ⟨ih0, ih1⟩ := spec_DiskOk.mono_l k;refine ⟨?_, ?_⟩
  ·intro y0 y1 y2
   unfold spec_DiskOk.j0;have m0_ := @spec_l3PutsOk.mono;exact mM
  ·intro y0 y1 y2
   unfold spec_DiskOk.l0;have m0_ := @spec_l3PutsOk.mono;exact mM
theorem spec_DiskOk.mono : ∀ a0 a1 k, LeO (spec_DiskOk.f k a0 a1) (spec_DiskOk.f (k + 1) a0 a1) := by
 intro a0 a1 k;obtain ⟨ih0, ih1⟩ := spec_DiskOk.mono_l k;unfold spec_DiskOk.f;have m0_ := @spec_l3PutsOk.mono;exact mM
theorem spec_DiskOk.calls (k : Nat) (Jm : Option Addr) (Jn : Nat) (Ja : List ByteArray) (Jk : Option Addr) (Jl : Nat) (Jc : List (S65)) (r : Bool) (w : World) (hr0_0 : Kd.C Kd.string w Jm Ja.length Ja) (Jp : Ja.length ≤ Jn) (hr0_1 : Kd.C k65 w Jk Jc.length Jc) (Jq : Jc.length ≤ Jl) (h : spec_DiskOk.f k Ja Jc = some r) :
  Calls Try.prog 16 #[.agg #[.slice Jm Ja.length Jn, .slice Jk Jc.length Jl]] w fun e w' => e = .returned (.bool r) ∧ Below w.heap.size w w' := by
 have hu30 := Try.underlying30;have Jr := aM hr0_0;have JF := aM Jp;clear hr0_0 Jp;have Jx := aM hr0_1;have Jy := aM Jq;clear hr0_1 Jq;have HB := aM (Below.refl w.heap.size w);unfold spec_DiskOk.f at h;have H := h;clear h;have JC := aM H;clear H
 go_enter Try.func16, Try.ntmps16
 go_upto_region 1 with (first | ((with_reducible refine gate_dst (N := 1) rfl ?_); (try (refine gate_guard (by rfl) ?_; dsimp only)); refine box_event ?hg (N := 1) ?hd (cs := #[.slice Jm Ja.length Jn, .slice Jk Jc.length Jl]) (t := 30) ?hr ?_; (case hd => rfl); (case hg => rfl); (case hr => first | (go_simp; done) | (go_simp; rfl)); intro Js hg w3 hbox hb; have n_ := aI (sB HB hb) (aI (aM hbox) (aI (gE HB hg) (gE HB hg))); clear HB; obtain ⟨HB, Jd, JG, JH⟩ := n_; (try clear hb hbox hg)))
 (try simp only [Act.put, List.setIfInBounds_toArray, List.set_cons_zero, List.set_cons_succ])
 go_cut [13] (fun JK wc => ∃ (kq : Nat) (Jj : Bool), JK = .bool Jj ∧ Aside0 (spec_DiskOk.j0 kq Jj Ja Jc = some r) ∧ Aside0 (kq ≤ k) ∧ Aside0 (wc.heap[Js]? = some (.cells #[(.slice Jm Ja.length Jn), (.slice Jk Jc.length Jl)] 30 (0, 0))) ∧ Aside0 (Below w.heap.size w wc))
 case first =>
  have H := JC.out;clear JC
  by_cases c4 : (Ja.length : Int) > 120
  ·rw [if_pos c4] at H
   have Jo := decide_eq_true c4;have Ju : decide (120 < Ja.length) = true := decide_eq_true (by omega);clear c4;(first | rw [Jo] | (simp only [i64_w, i32_w]; rw [Jo]) | rw [Ju] | rw [JD] | skip);have H' := aM H;clear H;obtain ⟨_, _, _, _⟩ := z2 Jd
   go_wp2
   go_meet
   case rel => exact ⟨_, (true), eV, H', ⟨by first | omega | exact Nat.le_refl _⟩, ⟨kP Jd⟩, ⟨bB⟩⟩
  rw [if_neg c4] at H;have Jo := decide_eq_false c4;have Ju : decide (120 < Ja.length) = false := decide_eq_false (by omega);clear c4;(first | rw [Jo] | (simp only [i64_w, i32_w]; rw [Jo]) | rw [Ju] | rw [JD] | skip);have H' := aM H;clear H;obtain ⟨_, _, _, _⟩ := z2 Jd
  go_wp2
  go_meet
  case rel => exact ⟨_, (decide ((Jc.length : Int) > 400)), eV, H', ⟨by first | omega | exact Nat.le_refl _⟩, ⟨kP Jd⟩, ⟨bB⟩⟩
 case rest =>
  clear JC;obtain ⟨kq, Jj, rfl, HA, HJ1, Jd, HB⟩ := hcut
  cases kq with
  | zero => exact absurd HA.out (by simp [spec_DiskOk.j0])
  | succ JI =>
   have H := HA.out;clear HA;simp only [spec_DiskOk.j0] at H
   by_cases c7 : Jj = true
   ·subst c7
    rw [if_pos rfl] at H;obtain rfl := Option.some.inj H
    go_wp2
    go_ret
    exact ⟨eW, bB⟩
   ·replace c7 := Bool.eq_false_iff.mpr c7
    subst c7;rw [if_neg (show ¬ (false = true) by decide)] at H;have H' := aM H;clear H
    go_wp2
    go_loopg [3] JI (fun kq v3 w' => ∃ (Jf : Int), v3 = .int .i64 Jf ∧ Aside0 (spec_DiskOk.l0 kq Jf Ja Jc = some r) ∧ Aside0 (kq ≤ JI) ∧ Aside0 (w'.heap[Js]? = some (.cells #[(.slice Jm Ja.length Jn), (.slice Jk Jc.length Jl)] 30 (0, 0))) ∧ Aside0 (Below w.heap.size w w'))
    case atStart => exact ⟨(0), eV, H', ⟨Nat.le_refl _⟩, ⟨kP Jd⟩, ⟨bB⟩⟩
    case round =>
     clear H';obtain ⟨Jf, rfl, HA, HK2, Jd, HB⟩ := hrel
     cases gk with
     | zero => exact absurd HA.out (by simp [spec_DiskOk.l0])
     | succ k2 =>
      have H := HA.out;clear HA;simp only [spec_DiskOk.l0] at H
      by_cases c8 : Jf < (Ja.length : Int)
      ·rw [if_pos c8] at H
       have JE := decide_eq_true c8;clear c8
       by_cases c9 : 0 ≤ Jf
       ·rw [if_pos c9] at H
        have JL := decide_eq_true c9;clear c9
        by_cases Jw : ((rdOf ByteArray.empty Ja Jf).size : Int) > 90
        ·rw [if_pos Jw] at H
         have Jz := decide_eq_true Jw;have JA : decide (90 < (rdOf ByteArray.empty Ja Jf).size) = true := decide_eq_true (by omega);clear Jw;obtain rfl := Option.some.inj H;obtain ⟨_, _, _, _⟩ := z2 Jd;have Jh : 0 ≤ (Jf : Int) := dT;have Ji : Jf < (Ja.length : Int) := dT;obtain ⟨JB, Jv, Jb⟩ := Kd.at_string Jr.out Jf Jh Ji;cases Jv
         replace Jb := (HB.out.cell (World.block_lt_of_cell? w _ Jb)).trans Jb;replace Jh := eq_true Jh;replace Ji := eq_true Ji
         go_wp2
         go_ret
         exact ⟨eW, bB⟩
        ·rw [if_neg Jw] at H
         have Jz := decide_eq_false Jw;have JA : decide (90 < (rdOf ByteArray.empty Ja Jf).size) = false := decide_eq_false (by omega);clear Jw;have H' := aM H;clear H;obtain ⟨_, _, _, _⟩ := z2 Jd;have Jh : 0 ≤ (Jf : Int) := dT;have Ji : Jf < (Ja.length : Int) := dT;obtain ⟨JB, Jv, Jb⟩ := Kd.at_string Jr.out Jf Jh Ji;cases Jv
         replace Jb := (HB.out.cell (World.block_lt_of_cell? w _ Jb)).trans Jb;replace Jh := eq_true Jh;replace Ji := eq_true Ji
         go_wp2
         go_roundg k2
         case measure => have := HJ1.out; have := HK2.out; omega
         case rel => exact ⟨(wrap64 (Jf + 1)), eV, H', ⟨by have := HJ1.out; have := HK2.out; omega⟩, ⟨kP Jd⟩, ⟨bB⟩⟩
       ·rw [if_neg c9] at H
        exact absurd H (by simp)
      ·rw [if_neg c8] at H
       have JE := decide_eq_false c8;clear c8;obtain ⟨Jt, JM, H⟩ := oB H;try dsimp only at H
       obtain rfl := Option.some.inj H;obtain ⟨_, _, _, _⟩ := z2 Jd
       go_wp2_with (first | ((with_reducible refine gate_callee (f := 59) rfl ?_); refine gL (some 33) Try.func59 #[.slice Jk Jc.length Jl, .int .i64 (Ja.length : Int)] ?_; (with_reducible refine (spec_l3PutsOk.calls k2 _ _ Jc (Ja.length : Int) Jt _ ?side1 ?side2 JM.out).mono ?_); (case side1 => exact cS Jx HB); (case side2 => exact Jy.out); rintro e w' ⟨rfl, ⟨nd, rfl⟩⟩; refine ⟨_, rfl, ?_⟩))
       go_ret
       exact ⟨eW, bB⟩

mutual
def spec_SectorRead.j0 : Nat → Int → Bool → List ByteArray → List (S65) → Option (ByteArray × Bool)
 | 0, _, _, _, _ => none
 | k + 1, x1, J3, Jh, Jd => if J3 = true then (some ((⟨#[]⟩ : ByteArray), false)) else (spec_SectorRead.l0 k x1 (wrap64 ((Jd.length : Int) - 1)) Jh Jd)
def spec_SectorRead.l0 : Nat → Int → Int → List ByteArray → List (S65) → Option (ByteArray × Bool)
 | 0, _, _, _, _ => none
 | k + 1, x1, x6, Jh, Jd => if x6 ≥ 0 then (if 0 ≤ x6 then (if x6 < (Jd.length : Int) then (if ((rd_T65 Jd x6).f0) = x1 then (some ((rd_T65 Jd x6).f1, true)) else (spec_SectorRead.l0 k x1 (wrap64 (x6 - 1)) Jh Jd)) else (none)) else (none)) else (if 0 ≤ x1 then (if x1 < (Jh.length : Int) then (some (rdOf ByteArray.empty Jh x1, true)) else (none)) else (none))
end
def spec_SectorRead.f (k : Nat) (Jc : List ByteArray) (Jb : List (S65)) (a1 : Int) : Option (ByteArray × Bool) := (spec_DiskOk.f k Jc Jb).bind fun JB => (if JB = true then ((spec_l1In.f a1 0 (wrap64 ((Jc.length : Int) - 1))).bind fun Ju => (spec_SectorRead.j0 k a1 (!Ju) Jc Jb)) else (spec_SectorRead.j0 k a1 true Jc Jb))
theorem spec_SectorRead.mono_l : ∀ k, (∀ y0 y1 y2 y3, LeO (spec_SectorRead.j0 k y0 y1 y2 y3) (spec_SectorRead.j0 (k + 1) y0 y1 y2 y3)) ∧ (∀ y0 y1 y2 y3, LeO (spec_SectorRead.l0 k y0 y1 y2 y3) (spec_SectorRead.l0 (k + 1) y0 y1 y2 y3))
 | 0 => ⟨fun _ _ _ _ r h => by simp [spec_SectorRead.j0] at h, fun _ _ _ _ r h => by simp [spec_SectorRead.l0] at h⟩
 | k + 1 => by
  obtain ⟨ih0, ih1⟩ := spec_SectorRead.mono_l k;refine ⟨?_, ?_⟩
  ·intro y0 y1 y2 y3
   unfold spec_SectorRead.j0;have m0_ := @spec_DiskOk.mono;exact mM
  ·intro y0 y1 y2 y3
   unfold spec_SectorRead.l0;have m0_ := @spec_DiskOk.mono;exact mM
theorem spec_SectorRead.mono : ∀ a0 a1 a2 k, LeO (spec_SectorRead.f k a0 a1 a2) (spec_SectorRead.f (k + 1) a0 a1 a2) := by
 intro a0 a1 a2 k;obtain ⟨ih0, ih1⟩ := spec_SectorRead.mono_l k;unfold spec_SectorRead.f;have m0_ := @spec_DiskOk.mono;exact mM
theorem spec_SectorRead.calls (k : Nat) (Jm : Option Addr) (Jn : Nat) (Jc : List ByteArray) (Jo : Option Addr) (Jp : Nat) (Jb : List (S65)) (a1 : Int) (r1 : ByteArray) (r2 : Bool) (w : World) (hr0_0 : Kd.C Kd.string w Jm Jc.length Jc) (Jv : Jc.length ≤ Jn) (hr0_1 : Kd.C k65 w Jo Jb.length Jb) (Jw : Jb.length ≤ Jp) (h : spec_SectorRead.f k Jc Jb a1 = some (r1, r2)) :
  Calls Try.prog 20 #[.agg #[.slice Jm Jc.length Jn, .slice Jo Jb.length Jp], .int .i64 a1] w fun e w' => e = .returned (.tuple #[.string r1, .bool r2]) ∧ Below w.heap.size w w' := by
 have hu30 := Try.underlying30;have Jt := aM hr0_0;have Jx := aM Jv;clear hr0_0 Jv;have Jl := aM hr0_1;have Jy := aM Jw;clear hr0_1 Jw;have HB := aM (Below.refl w.heap.size w);unfold spec_SectorRead.f at h;have H := h;clear h;have JS := aM H;clear H
 go_enter Try.func20, Try.ntmps20
 go_upto_region 1 with (first | ((with_reducible refine gate_dst (N := 2) rfl ?_); (try (refine gate_guard (by rfl) ?_; dsimp only)); refine box_event ?hg (N := 2) ?hd (cs := #[.slice Jm Jc.length Jn, .slice Jo Jb.length Jp]) (t := 30) ?hr ?_; (case hd => rfl); (case hg => rfl); (case hr => first | (go_simp; done) | (go_simp; rfl)); intro Jz hg w4 hbox hb; have n_ := aI (sB HB hb) (aI (aM hbox) (aI (gE HB hg) (gE HB hg))); clear HB; obtain ⟨HB, Ja, JV, JW⟩ := n_; (try clear hb hbox hg)))
 (try simp only [Act.put, List.setIfInBounds_toArray, List.set_cons_zero, List.set_cons_succ])
 go_cut [18] (fun J4 wc => ∃ (kq : Nat) (Js : Bool), J4 = .bool Js ∧ Aside0 (spec_SectorRead.j0 kq a1 Js Jc Jb = some (r1, r2)) ∧ Aside0 (kq ≤ k) ∧ Aside0 (wc.heap[Jz]? = some (.cells #[(.slice Jm Jc.length Jn), (.slice Jo Jb.length Jp)] 30 (0, 0))) ∧ Aside0 (Below w.heap.size w wc))
 case first =>
  have H := JS.out;clear JS;obtain ⟨JB, A5, H⟩ := oB H;try dsimp only at H
  by_cases c6 : JB = true
  ·subst c6
   rw [if_pos rfl] at H;obtain ⟨Ju, A7, H⟩ := oB H;try dsimp only at H
   have H' := aM H;clear H;obtain ⟨_, _, _, _⟩ := z2 Ja
   go_wp2_with (first | ((with_reducible refine gate_callee (f := 16) rfl ?_); refine gL (some 8) Try.func16 #[.agg #[.slice Jm Jc.length Jn, .slice Jo Jb.length Jp]] ?_; (with_reducible refine (spec_DiskOk.calls k _ _ Jc _ _ Jb true _ ?side1 ?side2 ?side3 ?side4 A5.out).mono ?_); (case side1 => exact cS Jt HB); (case side2 => exact Jx.out); (case side3 => exact cS Jl HB); (case side4 => exact Jy.out); rintro e w9 ⟨rfl, hb⟩; refine ⟨_, rfl, ?_⟩; have n_ := aI (kB Ja hb) (sB HB hb); clear Ja HB; obtain ⟨Ja, HB⟩ := n_; (try clear hb); obtain ⟨_, _, _, _⟩ := z2 Ja) | (go_at_call 69; (with_reducible refine (spec_l1In.calls a1 0 (wrap64 ((Jc.length : Int) - 1)) Ju _ A7.out).mono ?_); rintro e w' ⟨rfl, ⟨nd, rfl⟩⟩))
   go_meet
   case rel => exact ⟨_, (!Ju), eV, H', ⟨by first | omega | exact Nat.le_refl _⟩, ⟨kP Ja⟩, ⟨bB⟩⟩
  replace c6 := Bool.eq_false_iff.mpr c6;subst c6;rw [if_neg (show ¬ (false = true) by decide)] at H;have H' := aM H;clear H;obtain ⟨_, _, _, _⟩ := z2 Ja
  go_wp2_with (first | ((with_reducible refine gate_callee (f := 16) rfl ?_); refine gL (some 8) Try.func16 #[.agg #[.slice Jm Jc.length Jn, .slice Jo Jb.length Jp]] ?_; (with_reducible refine (spec_DiskOk.calls k _ _ Jc _ _ Jb false _ ?side1 ?side2 ?side3 ?side4 A5.out).mono ?_); (case side1 => exact cS Jt HB); (case side2 => exact Jx.out); (case side3 => exact cS Jl HB); (case side4 => exact Jy.out); rintro e J5 ⟨rfl, hb⟩; refine ⟨_, rfl, ?_⟩; have n_ := aI (kB Ja hb) (sB HB hb); clear Ja HB; obtain ⟨Ja, HB⟩ := n_; (try clear hb)))
  go_meet
  case rel => exact ⟨_, (true), eV, H', ⟨by first | omega | exact Nat.le_refl _⟩, ⟨kP Ja⟩, ⟨bB⟩⟩
 case rest =>
  clear JS;obtain ⟨kq, Js, rfl, HA, HJ2, Ja, HB⟩ := hcut
  cases kq with
  | zero => exact absurd HA.out (by simp [spec_SectorRead.j0])
  | succ JX =>
   have H := HA.out;clear HA;simp only [spec_SectorRead.j0] at H
   by_cases JN : Js = true
   ·subst JN
    rw [if_pos rfl] at H;simp only [Option.some.injEq, Prod.mk.injEq] at H;obtain ⟨rfl, rfl⟩ := H
    go_wp2
    go_ret2
    exact ⟨eW, bB⟩
   ·replace JN := Bool.eq_false_iff.mpr JN
    subst JN;rw [if_neg (show ¬ (false = true) by decide)] at H;have H' := aM H;clear H;obtain ⟨_, _, _, _⟩ := z2 Ja
    go_wp2
    go_loopg [6] JX (fun kq v6 w' => ∃ (Jg : Int), v6 = .int .i64 Jg ∧ Aside0 (spec_SectorRead.l0 kq a1 Jg Jc Jb = some (r1, r2)) ∧ Aside0 (kq ≤ JX) ∧ Aside0 (w'.heap[Jz]? = some (.cells #[(.slice Jm Jc.length Jn), (.slice Jo Jb.length Jp)] 30 (0, 0))) ∧ Aside0 (Below w.heap.size w w'))
    case atStart => exact ⟨(wrap64 ((Jb.length : Int) - 1)), eV, H', ⟨Nat.le_refl _⟩, ⟨kP Ja⟩, ⟨bB⟩⟩
    case round =>
     clear H';obtain ⟨Jg, rfl, HA, HK2, Ja, HB⟩ := hrel
     cases gk with
     | zero => exact absurd HA.out (by simp [spec_SectorRead.l0])
     | succ k2 =>
      have H := HA.out;clear HA;simp only [spec_SectorRead.l0] at H
      by_cases JI : Jg ≥ 0
      ·rw [if_pos JI] at H
       have JJ := decide_eq_true JI;clear JI
       by_cases JO : 0 ≤ Jg
       ·rw [if_pos JO] at H
        have JY := decide_eq_true JO;clear JO
        by_cases JP : Jg < (Jb.length : Int)
        ·rw [if_pos JP] at H
         have JZ := decide_eq_true JP;clear JP
         by_cases JC : ((rd_T65 Jb Jg).f0) = a1
         ·rw [if_pos JC] at H
          have JK := beq_iff_eq.mpr JC;have JL := bne_eq_false_iff_eq.mpr JC;clear JC;simp only [Option.some.injEq, Prod.mk.injEq] at H;obtain ⟨rfl, rfl⟩ := H;obtain ⟨_, _, _, _⟩ := z2 Ja;have Jq : 0 ≤ (Jg : Int) := dT;have Jr : Jg < (Jb.length : Int) := dT;obtain ⟨JA, JD, Je, Jf⟩ := at_T65 Jl.out Jg Jq Jr;cases JD
          replace Je := (HB.out.cell (World.block_lt_of_cell? w _ Je)).trans Je;replace Jf := (HB.out.cell (World.block_lt_of_cell? w _ Jf)).trans Jf;replace Jq := eq_true Jq;replace Jr := eq_true Jr;have JE : 0 ≤ (Jg : Int) := dT;have JF : Jg < (Jb.length : Int) := dT;obtain ⟨JM, JT, Ji, Jj⟩ := at_T65 Jl.out Jg JE JF;obtain rfl : JA = JM := (by injection JT);replace Ji := (HB.out.cell (World.block_lt_of_cell? w _ Ji)).trans Ji;replace Jj := (HB.out.cell (World.block_lt_of_cell? w _ Jj)).trans Jj;replace JE := eq_true JE;replace JF := eq_true JF
          go_wp2
          go_ret2
          exact ⟨eW, bB⟩
         ·rw [if_neg JC] at H
          have JK := beq_eq_false_iff_ne.mpr JC;have JL := bne_iff_ne.mpr JC;have H' := aM H;clear H;obtain ⟨_, _, _, _⟩ := z2 Ja;have Jq : 0 ≤ (Jg : Int) := dT;have Jr : Jg < (Jb.length : Int) := dT;obtain ⟨JA, JD, Je, Jf⟩ := at_T65 Jl.out Jg Jq Jr;cases JD
          replace Je := (HB.out.cell (World.block_lt_of_cell? w _ Je)).trans Je;replace Jf := (HB.out.cell (World.block_lt_of_cell? w _ Jf)).trans Jf;replace Jq := eq_true Jq;replace Jr := eq_true Jr
          go_wp2
          go_roundg k2
          case measure => have := HJ2.out; have := HK2.out; omega
          case rel => exact ⟨(wrap64 (Jg - 1)), eV, H', ⟨by have := HJ2.out; have := HK2.out; omega⟩, ⟨kP Ja⟩, ⟨bB⟩⟩
        ·rw [if_neg JP] at H
         exact absurd H (by simp)
       ·rw [if_neg JO] at H
        exact absurd H (by simp)
      ·rw [if_neg JI] at H
       have JJ := decide_eq_false JI;clear JI
       by_cases JQ : 0 ≤ a1
       ·rw [if_pos JQ] at H
        have J0 := decide_eq_true JQ;clear JQ
        by_cases JR : a1 < (Jc.length : Int)
        ·rw [if_pos JR] at H
         have J1 := decide_eq_true JR;clear JR;simp only [Option.some.injEq, Prod.mk.injEq] at H;obtain ⟨rfl, rfl⟩ := H;obtain ⟨_, _, _, _⟩ := z2 Ja;have JG : 0 ≤ (a1 : Int) := dT;have JH : a1 < (Jc.length : Int) := dT;obtain ⟨J2, JU, Jk⟩ := Kd.at_string Jt.out a1 JG JH;cases JU
         replace Jk := (HB.out.cell (World.block_lt_of_cell? w _ Jk)).trans Jk;replace JG := eq_true JG;replace JH := eq_true JH
         go_wp2
         go_ret2
         exact ⟨eW, bB⟩
        ·rw [if_neg JR] at H
         exact absurd H (by simp)
       ·rw [if_neg JQ] at H
        exact absurd H (by simp)

def spec_l4Ok.f (k : Nat) (Jb : List ByteArray) (Jc : List (S65)) (a1 : Int) : Option (Bool) := (spec_DiskOk.f k Jb Jc).bind fun Jq => (if Jq = true then ((spec_l1In.f a1 1 48).bind fun Jr => (if Jr = true then (some ((Jb.length : Int) == (wrap64 ((wrap64 (2 * a1)) + 1)))) else (some false))) else (some false))
theorem spec_l4Ok.mono : ∀ a0 a1 a2 k, LeO (spec_l4Ok.f k a0 a1 a2) (spec_l4Ok.f (k + 1) a0 a1 a2) := by
 intro a0 a1 a2 k;unfold spec_l4Ok.f;have m0_ := @spec_DiskOk.mono;exact mM
theorem spec_l4Ok.calls (k : Nat) (Jd : Option Addr) (Je : Nat) (Jb : List ByteArray) (Jf : Option Addr) (Jg : Nat) (Jc : List (S65)) (a1 : Int) (r : Bool) (w : World) (hr0_0 : Kd.C Kd.string w Jd Jb.length Jb) (Jl : Jb.length ≤ Je) (hr0_1 : Kd.C k65 w Jf Jc.length Jc) (Jm : Jc.length ≤ Jg) (h : spec_l4Ok.f k Jb Jc a1 = some r) :
  Calls Try.prog 70 #[.agg #[.slice Jd Jb.length Je, .slice Jf Jc.length Jg], .int .i64 a1] w fun e w' => e = .returned (.bool r) ∧ Below w.heap.size w w' := by
 have hu30 := Try.underlying30;have Jh := aM hr0_0;have Ji := aM Jl;clear hr0_0 Jl;have Jj := aM hr0_1;have Jk := aM Jm;clear hr0_1 Jm;have HB := aM (Below.refl w.heap.size w);unfold spec_l4Ok.f at h;have H := h;clear h;obtain ⟨Jq, A3, H⟩ := oB H;try dsimp only at H
 by_cases c4 : Jq = true
 ·subst c4
  rw [if_pos rfl] at H;obtain ⟨Jr, A5, H⟩ := oB H;try dsimp only at H
  by_cases c6 : Jr = true
  ·subst c6
   rw [if_pos rfl] at H;obtain rfl := Option.some.inj H
   go_enter Try.func70, Try.ntmps70
   go_wp2_with (first | ((with_reducible refine gate_dst (N := 2) rfl ?_); (try (refine gate_guard (by rfl) ?_; dsimp only)); refine box_event ?hg (N := 2) ?hd (cs := #[.slice Jd Jb.length Je, .slice Jf Jc.length Jg]) (t := 30) ?hr ?_; (case hd => rfl); (case hg => rfl); (case hr => first | (go_simp; done) | (go_simp; rfl)); intro Jn hg w7 hbox hb; have n_ := aI (sB HB hb) (aI (aM hbox) (aI (gE HB hg) (gE HB hg))); clear HB; obtain ⟨HB, Ja, Jo, Jp⟩ := n_; (try clear hb hbox hg); obtain ⟨_, _, _, _⟩ := z2 Ja) | ((with_reducible refine gate_callee (f := 16) rfl ?_); refine gL (some 6) Try.func16 #[.agg #[.slice Jd Jb.length Je, .slice Jf Jc.length Jg]] ?_; (with_reducible refine (spec_DiskOk.calls k _ _ Jb _ _ Jc true _ ?side1 ?side2 ?side3 ?side4 A3.out).mono ?_); (case side1 => exact cS Jh HB); (case side2 => exact Ji.out); (case side3 => exact cS Jj HB); (case side4 => exact Jk.out); rintro e w9 ⟨rfl, hb⟩; refine ⟨_, rfl, ?_⟩; have n_ := aI (kB Ja hb) (sB HB hb); clear Ja HB; obtain ⟨Ja, HB⟩ := n_; (try clear hb)) | (go_at_call 69; (with_reducible refine (spec_l1In.calls a1 1 48 true _ A5.out).mono ?_); rintro e w' ⟨rfl, ⟨nd, rfl⟩⟩; obtain ⟨_, _, _, _⟩ := z2 Ja))
   go_ret
   exact ⟨eW, bB⟩
  replace c6 := Bool.eq_false_iff.mpr c6;subst c6;rw [if_neg (show ¬ (false = true) by decide)] at H;obtain rfl := Option.some.inj H
  go_enter Try.func70, Try.ntmps70
  go_wp2_with (first | ((with_reducible refine gate_dst (N := 2) rfl ?_); (try (refine gate_guard (by rfl) ?_; dsimp only)); refine box_event ?hg (N := 2) ?hd (cs := #[.slice Jd Jb.length Je, .slice Jf Jc.length Jg]) (t := 30) ?hr ?_; (case hd => rfl); (case hg => rfl); (case hr => first | (go_simp; done) | (go_simp; rfl)); intro Jn hg Js hbox hb; have n_ := aI (sB HB hb) (aI (aM hbox) (aI (gE HB hg) (gE HB hg))); clear HB; obtain ⟨HB, Ja, Jo, Jp⟩ := n_; (try clear hb hbox hg); obtain ⟨_, _, _, _⟩ := z2 Ja) | ((with_reducible refine gate_callee (f := 16) rfl ?_); refine gL (some 6) Try.func16 #[.agg #[.slice Jd Jb.length Je, .slice Jf Jc.length Jg]] ?_; (with_reducible refine (spec_DiskOk.calls k _ _ Jb _ _ Jc true _ ?side1 ?side2 ?side3 ?side4 A3.out).mono ?_); (case side1 => exact cS Jh HB); (case side2 => exact Ji.out); (case side3 => exact cS Jj HB); (case side4 => exact Jk.out); rintro e Jt ⟨rfl, hb⟩; refine ⟨_, rfl, ?_⟩; have n_ := aI (kB Ja hb) (sB HB hb); clear Ja HB; obtain ⟨Ja, HB⟩ := n_; (try clear hb)) | (go_at_call 69; (with_reducible refine (spec_l1In.calls a1 1 48 false _ A5.out).mono ?_); rintro e w' ⟨rfl, ⟨nd, rfl⟩⟩))
  go_ret
  exact ⟨eW, bB⟩
 replace c4 := Bool.eq_false_iff.mpr c4;subst c4;rw [if_neg (show ¬ (false = true) by decide)] at H;obtain rfl := Option.some.inj H
 go_enter Try.func70, Try.ntmps70
 go_wp2_with (first | ((with_reducible refine gate_dst (N := 2) rfl ?_); (try (refine gate_guard (by rfl) ?_; dsimp only)); refine box_event ?hg (N := 2) ?hd (cs := #[.slice Jd Jb.length Je, .slice Jf Jc.length Jg]) (t := 30) ?hr ?_; (case hd => rfl); (case hg => rfl); (case hr => first | (go_simp; done) | (go_simp; rfl)); intro Jn hg Ju hbox hb; have n_ := aI (sB HB hb) (aI (aM hbox) (aI (gE HB hg) (gE HB hg))); clear HB; obtain ⟨HB, Ja, Jo, Jp⟩ := n_; (try clear hb hbox hg); obtain ⟨_, _, _, _⟩ := z2 Ja) | ((with_reducible refine gate_callee (f := 16) rfl ?_); refine gL (some 6) Try.func16 #[.agg #[.slice Jd Jb.length Je, .slice Jf Jc.length Jg]] ?_; (with_reducible refine (spec_DiskOk.calls k _ _ Jb _ _ Jc false _ ?side1 ?side2 ?side3 ?side4 A3.out).mono ?_); (case side1 => exact cS Jh HB); (case side2 => exact Ji.out); (case side3 => exact cS Jj HB); (case side4 => exact Jk.out); rintro e Jv ⟨rfl, hb⟩; refine ⟨_, rfl, ?_⟩; have n_ := aI (kB Ja hb) (sB HB hb); clear Ja HB; obtain ⟨Ja, HB⟩ := n_; (try clear hb)))
 go_ret
 exact ⟨eW, bB⟩

def spec_HomeOf.l0 : Nat → Int → List ByteArray → Int → List ByteArray → List (S65) → Option (List ByteArray)
 | 0, _, _, _, _, _ => none
 | k + 1, x1, x5, x6, Jk, Jl => if x6 < x1 then ((spec_SectorRead.f k Jk Jl (wrap64 ((wrap64 (x1 + 1)) + x6))).bind fun JC => (if x5.length < 8796093022208 then (spec_HomeOf.l0 k x1 (x5 ++ [JC.1]) (wrap64 (x6 + 1)) Jk Jl) else (none))) else (some x5)
def spec_HomeOf.f (k : Nat) (Jb : List ByteArray) (Jc : List (S65)) (a1 : Int) : Option (List ByteArray) := (some (([] : List ByteArray) : List ByteArray)).bind fun Jn => ((spec_l4Ok.f k Jb Jc a1).bind fun Jp => (if Jp = true then (spec_HomeOf.l0 k a1 Jn 0 Jb Jc) else (some Jn)))
theorem spec_HomeOf.mono_l : ∀ k, (∀ y0 y1 y2 y3 y4, LeO (spec_HomeOf.l0 k y0 y1 y2 y3 y4) (spec_HomeOf.l0 (k + 1) y0 y1 y2 y3 y4))
 | 0 => fun _ _ _ _ _ r h => by simp [spec_HomeOf.l0] at h
 | k + 1 => by
  have ih0 := spec_HomeOf.mono_l k
  ·intro y0 y1 y2 y3 y4
   unfold spec_HomeOf.l0;have m0_ := @spec_SectorRead.mono;have m1_ := @spec_l4Ok.mono;exact mM
theorem spec_HomeOf.mono : ∀ a0 a1 a2 k, LeO (spec_HomeOf.f k a0 a1 a2) (spec_HomeOf.f (k + 1) a0 a1 a2) := by
 intro a0 a1 a2 k;have ih0 := spec_HomeOf.mono_l k;unfold spec_HomeOf.f;have m0_ := @spec_SectorRead.mono;have m1_ := @spec_l4Ok.mono;exact mM
theorem spec_HomeOf.calls (k : Nat) (Je : Option Addr) (Jf : Nat) (Jb : List ByteArray) (Jg : Option Addr) (Jh : Nat) (Jc : List (S65)) (a1 : Int) (r : List ByteArray) (w : World) (hr0_0 : Kd.C Kd.string w Je Jb.length Jb) (Jz : Jb.length ≤ Jf) (hr0_1 : Kd.C k65 w Jg Jc.length Jc) (JA : Jc.length ≤ Jh) (h : spec_HomeOf.f k Jb Jc a1 = some r) :
  Calls Try.prog 22 #[.agg #[.slice Je Jb.length Jf, .slice Jg Jc.length Jh], .int .i64 a1] w fun e w' => ∃ JO : Value, e = .returned (JO) ∧ Kd.R Kd.string 9 w' w.heap.size (fun _ => True) JO r ∧ Below w.heap.size w w' := by
 have hu30 := Try.underlying30;have Jq := aM hr0_0;have Jr := aM Jz;clear hr0_0 Jz;have Js := aM hr0_1;have Jt := aM JA;clear hr0_1 JA;have HB := aM (Below.refl w.heap.size w);unfold spec_HomeOf.f at h;have H := h;clear h;obtain ⟨Jn, Ju⟩ : ∃ y_ : List ByteArray, y_ = (([] : List ByteArray)) := ⟨_, rfl⟩;replace H : ((spec_l4Ok.f k Jb Jc a1).bind fun Jp => (if Jp = true then (spec_HomeOf.l0 k a1 Jn 0 Jb Jc) else (some Jn))) = some r := bQ Ju H;have Jm := aM Ju;clear Ju;obtain ⟨Jp, A3, H⟩ := oB H;try dsimp only at H
 by_cases c4 : Jp = true
 ·subst c4
  rw [if_pos rfl] at H;have H' := aM H;clear H
  go_enter Try.func22, Try.ntmps22
  go_wp2_with (first | ((with_reducible refine gate_dst (N := 2) rfl ?_); refine bE 2 #[.slice Je Jb.length Jf, .slice Jg Jc.length Jh] 30 ?_; intro Jv hg w5 hbox hb; have n_ := aI (sB HB hb) (aI (aM hbox) (aI (gE HB hg) (gE HB hg))); clear HB; obtain ⟨HB, Ja, JD, JE⟩ := n_; (try clear hb hbox hg)) | ((with_reducible refine gate_dst (N := 9) rfl ?_); refine R_lit Kd.string _ 9 ?hg (N := 9) ?hd (xs := ([] : List ByteArray)) (inner := []) (ok := fun _ => True) (okp := fun _ => True) ?hr ?hp (fun _ hk => hk) trivial (Below.refl _ _) (Nat.le_refl _) (by simp) ?_; (case hd => rfl); (case hg => rfl); (case hr => first | (go_simp; done) | (go_simp; rfl)); (case hp => exact (Reps.none _ _)); intro JM w6 JF hb hg_ hnew_; clear hg_ hnew_; (first | rw [← Jm.out] at JF | (simp only [Int.reduceToNat] at JF; rw [← Jm.out] at JF)); have n_ := aI (lR HB JF) (aI (kB Ja hb) (sB HB hb)); clear Ja HB; obtain ⟨Jd, Ja, HB⟩ := n_; (try clear hb JF); obtain ⟨_, _, _, _⟩ := z2 Ja) | ((with_reducible refine gate_callee (f := 70) rfl ?_); refine gL (some 12) Try.func70 #[.agg #[.slice Je Jb.length Jf, .slice Jg Jc.length Jh], .int .i64 a1] ?_; (with_reducible refine (spec_l4Ok.calls k _ _ Jb _ _ Jc a1 true _ ?side1 ?side2 ?side3 ?side4 A3.out).mono ?_); (case side1 => exact cS Jq HB); (case side2 => exact Jr.out); (case side3 => exact cS Js HB); (case side4 => exact Jt.out); rintro e w9 ⟨rfl, hb⟩; refine ⟨_, rfl, ?_⟩; have n_ := aI (rB Jd hb) (aI (kB Ja hb) (sB HB hb)); clear Jd Ja HB; obtain ⟨Jd, Ja, HB⟩ := n_; (try clear hb)))
  go_loopg [5, 6] k (fun kq v5 v6 w' => ∃ (Jo : List ByteArray) (Ji : Int), v6 = .int .i64 Ji ∧ Aside0 (spec_HomeOf.l0 kq a1 Jo Ji Jb Jc = some r) ∧ Aside0 (kq ≤ k) ∧ Aside0 (Kd.R Kd.string 9 w' w.heap.size (fun _ => True) v5 Jo) ∧ Aside0 (w'.heap[Jv]? = some (.cells #[(.slice Je Jb.length Jf), (.slice Jg Jc.length Jh)] 30 (0, 0))) ∧ Aside0 (Below w.heap.size w w'))
  case atStart => exact ⟨(Jn), (0), eV, H', ⟨Nat.le_refl _⟩, ⟨rP Jd.out⟩, ⟨kP Ja⟩, ⟨bB⟩⟩
  case round =>
   clear H';obtain ⟨Jo, Ji, rfl, HA, HK1, Jj, Ja, HB⟩ := hrel
   cases gk with
   | zero => exact absurd HA.out (by simp [spec_HomeOf.l0])
   | succ k1 =>
    have H := HA.out;clear HA;simp only [spec_HomeOf.l0] at H
    by_cases JB : Ji < a1
    ·rw [if_pos JB] at H
     have JG := decide_eq_true JB;clear JB;obtain ⟨⟨Jy, JN⟩, JP, H⟩ := oB H;try dsimp only at H
     by_cases JL : Jo.length < 8796093022208
     ·rw [if_pos JL] at H
      have JH := aM JL;clear JL;obtain ⟨JI, Jw⟩ : ∃ y_ : List ByteArray, y_ = (Jo ++ [Jy]) := ⟨_, rfl⟩;replace H : (spec_HomeOf.l0 k1 a1 JI (wrap64 (Ji + 1)) Jb Jc) = some r := bQ Jw H;have JJ := aM Jw;clear Jw;have H' := aM H;clear H;obtain ⟨_, _, _, _⟩ := z2 Ja
      go_wp2_with (first | ((with_reducible refine gate_callee (f := 20) rfl ?_); refine gL (some 26) Try.func20 #[.agg #[.slice Je Jb.length Jf, .slice Jg Jc.length Jh], .int .i64 (wrap64 ((wrap64 (a1 + 1)) + Ji))] ?_; (with_reducible refine (spec_SectorRead.calls k1 _ _ Jb _ _ Jc (wrap64 ((wrap64 (a1 + 1)) + Ji)) Jy JN _ ?side1 ?side2 ?side3 ?side4 JP.out).mono ?_); (case side1 => exact cS Jq HB); (case side2 => exact Jr.out); (case side3 => exact cS Js HB); (case side4 => exact Jt.out); rintro e JR ⟨rfl, hb⟩; refine ⟨_, rfl, ?_⟩; have n_ := aI (rB Jj hb) (aI (kB Ja hb) (sB HB hb)); clear Jj Ja HB; obtain ⟨Jj, Ja, HB⟩ := n_; (try clear hb)) | ((with_reducible refine gate_builtin (b := .append) (xs := #[.tmp 29, .tmp 31]) rfl ?_); at_builtin; refine R_append Kd.string (w0 := w) w.heap.size rfl (.tmp 29) (.tmp 31) 22 9 (.string ⟨#[]⟩) 16 rfl Try.underlying22 info9 rfl (by decide) (by omega) u5 Jo Jy [.string Jy] (fun _ => True) (fun _ => False) rfl rfl ?aP (fun _ hk => hk.elim) ?aF ?aO ?aB ?aS ?aL ?_; (case aP => exact rfl); (case aB => exact bB); (case aF => exact (fun _ _ => trivial)); (case aO => exact (rP Jj.out)); (case aS => exact (zB HB)); (case aL => have := JH.out; omega); intro JQ JS ho hb hg hat; rw [← JJ.out] at ho; have n_ := aI (aM (blk_grown (g := Jv) (o := .cells #[.slice Je Jb.length Jf, .slice Jg Jc.length Jh] 30 (0, 0)) (kP Ja) hg (R_ne Jj.out Ja.out (by decide)))) (aI (aM (hb)) (aM (ho))); clear Ja HB Jj; obtain ⟨Ja, HB, JK⟩ := n_; (try clear ho hb hg hat)))
      go_roundg k1
      case measure => have := HK1.out; omega
      case rel => exact ⟨(JI), (wrap64 (Ji + 1)), eV, H', ⟨by have := HK1.out; omega⟩, ⟨rP JK.out⟩, ⟨kP Ja⟩, ⟨bB⟩⟩
     ·rw [if_neg JL] at H
      exact absurd H (by simp)
    ·rw [if_neg JB] at H
     have JG := decide_eq_false JB;clear JB;obtain rfl := Option.some.inj H
     go_wp2
     go_ret
     exact ⟨_, eW, by (with_reducible repeat (first | apply R_alloc | apply R_drewN | apply R_drew)); exact Jj.out, bB⟩
 replace c4 := Bool.eq_false_iff.mpr c4;subst c4;rw [if_neg (show ¬ (false = true) by decide)] at H;obtain rfl := Option.some.inj H
 go_enter Try.func22, Try.ntmps22
 go_wp2_with (first | ((with_reducible refine gate_dst (N := 2) rfl ?_); refine bE 2 #[.slice Je Jb.length Jf, .slice Jg Jc.length Jh] 30 ?_; intro Jv hg JT hbox hb; have n_ := aI (sB HB hb) (aI (aM hbox) (aI (gE HB hg) (gE HB hg))); clear HB; obtain ⟨HB, Ja, JD, JE⟩ := n_; (try clear hb hbox hg)) | ((with_reducible refine gate_dst (N := 9) rfl ?_); refine R_lit Kd.string _ 9 ?hg (N := 9) ?hd (xs := ([] : List ByteArray)) (inner := []) (ok := fun _ => True) (okp := fun _ => True) ?hr ?hp (fun _ hk => hk) trivial (Below.refl _ _) (Nat.le_refl _) (by simp) ?_; (case hd => rfl); (case hg => rfl); (case hr => first | (go_simp; done) | (go_simp; rfl)); (case hp => exact (Reps.none _ _)); intro JM JU Jx hb hg_ hnew_; clear hg_ hnew_; (first | rw [← Jm.out] at Jx | (simp only [Int.reduceToNat] at Jx; rw [← Jm.out] at Jx)); have n_ := aI (lR HB Jx) (aI (kB Ja hb) (sB HB hb)); clear Ja HB; obtain ⟨Jd, Ja, HB⟩ := n_; (try clear hb Jx); obtain ⟨_, _, _, _⟩ := z2 Ja) | ((with_reducible refine gate_callee (f := 70) rfl ?_); refine gL (some 12) Try.func70 #[.agg #[.slice Je Jb.length Jf, .slice Jg Jc.length Jh], .int .i64 a1] ?_; (with_reducible refine (spec_l4Ok.calls k _ _ Jb _ _ Jc a1 false _ ?side1 ?side2 ?side3 ?side4 A3.out).mono ?_); (case side1 => exact cS Jq HB); (case side2 => exact Jr.out); (case side3 => exact cS Js HB); (case side4 => exact Jt.out); rintro e JV ⟨rfl, hb⟩; refine ⟨_, rfl, ?_⟩; have n_ := aI (rB Jd hb) (aI (kB Ja hb) (sB HB hb)); clear Jd Ja HB; obtain ⟨Jd, Ja, HB⟩ := n_; (try clear hb)))
 go_ret
 exact ⟨_, eW, by (with_reducible repeat (first | apply R_alloc | apply R_drewN | apply R_drew)); exact Jd.out, bB⟩

-- NOT PRINTED: function 107 (slices_IndexFunc_string_string)

-- NOT PRINTED: function 62 (slices_ContainsFunc_string_string)

def impl_short.f (a0 : ByteArray) : Option (Bool) := some (decide ((a0.size : Int) ≤ 90))
theorem impl_short.calls (a0 : ByteArray) (r : Bool) (w : World) (h : impl_short.f a0 = some r) :
  Calls Try.prog 64 #[.string a0] w fun e w' => e = .returned (.bool r) ∧ Drawn0 w w' := by
 unfold impl_short.f at h;have H := h;clear h;obtain rfl := Option.some.inj H
 go_enter Try.func64, Try.ntmps64
 go_wp2
 go_ret
 exact ⟨by first | rfl | (simp; done) | (simp [*]; done), by repeat (first | exact Drawn0.refl _ | apply Drawn0.step)⟩

def impl_DiskOk_1.f (a0 : ByteArray) : Option (Bool) := (impl_short.f a0).bind fun Ja => (some (!Ja))
theorem impl_DiskOk_1.calls (a0 : ByteArray) (r : Bool) (w : World) (h : impl_DiskOk_1.f a0 = some r) :
  Calls Try.prog 63 #[.string a0] w fun e w' => e = .returned (.bool r) ∧ Drawn0 w w' := by
 unfold impl_DiskOk_1.f at h;have H := h;clear h;obtain ⟨Ja, A2, H⟩ := oB H;try dsimp only at H
 obtain rfl := Option.some.inj H
 go_enter Try.func63, Try.ntmps63
 go_wp2_with (first | ((with_reducible refine gate_callee (f := 64) rfl ?_); refine gL (some 4) Try.func64 #[.string a0] ?_; (with_reducible refine (impl_short.calls a0 Ja _ A2.out).mono ?_); rintro e w' ⟨rfl, ⟨nd, rfl⟩⟩; refine ⟨_, rfl, ?_⟩))
 go_ret
 exact ⟨by first | rfl | (simp; done) | (simp [*]; done), by repeat (first | exact Drawn0.refl _ | apply Drawn0.step)⟩

-- NOT PRINTED: function 108 (slices_IndexFunc_Put)

-- NOT PRINTED: function 65 (slices_ContainsFunc_Put)

def impl_within.f (a0 : Int) (a1 : Int) (a2 : Int) : Option (Bool) := if a0 ≥ a1 then (some (decide (a0 ≤ a2))) else (some false)
theorem impl_within.calls (a0 : Int) (a1 : Int) (a2 : Int) (r : Bool) (w : World) (h : impl_within.f a0 a1 a2 = some r) :
  Calls Try.prog 67 #[.int .i64 a0, .int .i64 a1, .int .i64 a2] w fun e w' => e = .returned (.bool r) ∧ Drawn0 w w' := by
 unfold impl_within.f at h;have H := h;clear h
 by_cases c4 : a0 ≥ a1
 ·rw [if_pos c4] at H
  have Ja := decide_eq_true c4;clear c4;obtain rfl := Option.some.inj H
  go_enter Try.func67, Try.ntmps67
  go_wp2
  go_ret
  exact ⟨by first | rfl | (simp; done) | (simp [*]; done), by repeat (first | exact Drawn0.refl _ | apply Drawn0.step)⟩
 rw [if_neg c4] at H;have Ja := decide_eq_false c4;clear c4;obtain rfl := Option.some.inj H
 go_enter Try.func67, Try.ntmps67
 go_wp2
 go_ret
 exact ⟨by first | rfl | (simp; done) | (simp [*]; done), by repeat (first | exact Drawn0.refl _ | apply Drawn0.step)⟩

def impl_DiskOk_2.f (n : Nat) (p : S65) : Bool := !(decide (0 ≤ p.f0 ∧ p.f0 ≤ wrap64 ((n : Int) - 1)) && decide ((p.f1.size : Int) ≤ 90))
theorem impl_DiskOk_2.within (a b c : Int) : impl_within.f a b c = some (decide (b ≤ a ∧ a ≤ c)) := by
 unfold impl_within.f
 by_cases h : a ≥ b
 ·rw [if_pos h]
  congr 1
  rw [decide_eq_decide]
  omega
 rw [if_neg h]
 congr 1
 symm
 rw [decide_eq_false_iff_not]
 omega
theorem impl_DiskOk_2.calls (p : S65) (g : Nat) (A : Option Addr) (n c : Nat) (v1 : Value) (w : World) (hg0 : w.heap[g]? = some (.cells #[.slice A n c, v1] 30 (0, 0))) :
  Calls Try.prog 66 #[.agg #[.int .i64 p.f0, .string p.f1], .pointer (some ⟨g, 0, none⟩)] w fun e w' => e = .returned (.bool (impl_DiskOk_2.f n p)) ∧ Below w.heap.size w w' := by
 have hu65 := Try.underlying65;have hu30 := Try.underlying30;have HB := aM (Below.refl w.heap.size w);have hw := impl_DiskOk_2.within p.f0 0 (wrap64 ((n : Int) - 1));unfold impl_DiskOk_2.f
 cases hd : decide (0 ≤ p.f0 ∧ p.f0 ≤ wrap64 ((n : Int) - 1)) with
 | true =>
  rw [hd] at hw
  go_enter Try.func66, Try.ntmps66
  go_wp2_with (first
   | ((with_reducible refine gate_dst (N := 2) rfl ?_); refine bE 2 #[.int .i64 p.f0, .string p.f1] 65 ?_; intro gb hg w4 hbox hb; have Ja : w4.cell? ⟨gb, 0, none⟩ = some (.int .i64 p.f0) := (blk_cell hbox 0).trans rfl; have Jb : w4.cell? ⟨gb, 1, none⟩ = some (.string p.f1) := (blk_cell hbox 1).trans rfl; have Jc : w4.cell? ⟨g, 0, none⟩ = some (.slice A n c) := (blk_cell (blk_below hg0 hb) 0).trans rfl; have HB2 := aM (below_step HB.out hb); clear HB; have HB := HB2; clear HB2; clear hbox hb hg)
   | (go_at_call 67; (with_reducible refine (impl_within.calls p.f0 0 (wrap64 ((n : Int) - 1)) true _ hw).mono ?_); rintro e w' ⟨rfl, ⟨nd, rfl⟩⟩)
   | (go_at_call 64; (with_reducible refine (impl_short.calls p.f1 (decide ((p.f1.size : Int) ≤ 90)) _ rfl).mono ?_); rintro e w' ⟨rfl, ⟨nd, rfl⟩⟩))
  go_ret
  exact ⟨by first | rfl | (simp; done), bB⟩
 | false =>
  rw [hd] at hw
  go_enter Try.func66, Try.ntmps66
  go_wp2_with (first
   | ((with_reducible refine gate_dst (N := 2) rfl ?_); refine bE 2 #[.int .i64 p.f0, .string p.f1] 65 ?_; intro gb hg w4 hbox hb; have Ja : w4.cell? ⟨gb, 0, none⟩ = some (.int .i64 p.f0) := (blk_cell hbox 0).trans rfl; have Jb : w4.cell? ⟨gb, 1, none⟩ = some (.string p.f1) := (blk_cell hbox 1).trans rfl; have Jc : w4.cell? ⟨g, 0, none⟩ = some (.slice A n c) := (blk_cell (blk_below hg0 hb) 0).trans rfl; have HB2 := aM (below_step HB.out hb); clear HB; have HB := HB2; clear HB2; clear hbox hb hg)
   | (go_at_call 67; (with_reducible refine (impl_within.calls p.f0 0 (wrap64 ((n : Int) - 1)) false _ hw).mono ?_); rintro e w' ⟨rfl, ⟨nd, rfl⟩⟩))
  go_ret
  exact ⟨by first | rfl | (simp; done), bB⟩


end Go.Proofs.Ytgmpdkefegofhaa.PFnAtomic
