-- printed
import Derived.Test.YtgmpdkefegofhaaPFnAtomicx0
import Derived.Test.YtgmpdkefegofhaaPFnAtomicx2
import Derived.Test.YtgmpdkefegofhaaPFnAtomicx11
namespace Go.Proofs.Ytgmpdkefegofhaa.PFnAtomic
open Go.RowKit Go.Proofs.YtgmpdkefegofhaaW.PrintWords Go.Proofs.YtgmpdkefegofhaaW.PrintLast Go.Proofs.YtgmpdkefegofhaaW.PrintMore Go.Proofs.YtgmpdkefegofhaaW.Cr
open Go.Proofs.YtgmpdkefegofhaaW.PrintWords.Kd (R_after R_alloc R_append R_append_rows R_drew R_drewN R_lit R_lower R_mono R_new' R_over' R_reads' R_slice R_typed)
attribute [local go_sem] max2_int min2_int max_two min_two max_three min_three max_four min_four
set_option maxHeartbeats 8000000
set_option maxRecDepth 100000
set_option linter.unusedVariables false
set_option linter.unusedSimpArgs false

def spec_PutNum.l0 : Nat → Int → List Int → Option (List Int)
 | 0, _, _ => none
 | k + 1, x0, x3 => if x0 > 127 then (if x3.length < 140737488355328 then (spec_PutNum.l0 k (wrap64 (Int.tdiv x0 128)) (x3 ++ [(wrap64 ((Int.tmod x0 128) + 128)) % 256])) else (none)) else (if x3.length < 140737488355328 then (some (x3 ++ [(x0) % 256])) else (none))
def spec_PutNum.f (k : Nat) (a0 : Int) : Option (List Int) := (some (([] : List Int) : List Int)).bind fun Jd => ((spec_l1In.f a0 0 2147483647).bind fun Je => (if Je = true then (spec_PutNum.l0 k a0 Jd) else (some Jd)))
theorem spec_PutNum.mono_l : ∀ k, (∀ y0 y1, LeO (spec_PutNum.l0 k y0 y1) (spec_PutNum.l0 (k + 1) y0 y1))
 | 0 => fun _ _ r h => by simp [spec_PutNum.l0] at h
 | k + 1 => by
  have ih0 := spec_PutNum.mono_l k
  ·intro y0 y1
   unfold spec_PutNum.l0;exact mM
theorem spec_PutNum.mono : ∀ a0 k, LeO (spec_PutNum.f k a0) (spec_PutNum.f (k + 1) a0) := by
 intro a0 k;have ih0 := spec_PutNum.mono_l k;unfold spec_PutNum.f;exact mM
theorem spec_PutNum.calls (k : Nat) (a0 : Int) (r : List Int) (w : World) (h : spec_PutNum.f k a0 = some r) :
  Calls Try.prog 129 #[.int .i64 a0] w fun e w' => ∃ Jw : Value, e = .returned (Jw) ∧ Kd.R (Kd.int .u8) 5 w' w.heap.size (fun _ => True) Jw r ∧ Below w.heap.size w w' := by
 have HB := aM (Below.refl w.heap.size w);unfold spec_PutNum.f at h;have H := h;clear h;obtain ⟨Jd, Jf⟩ : ∃ y_ : List Int, y_ = (([] : List Int)) := ⟨_, rfl⟩;replace H : ((spec_l1In.f a0 0 2147483647).bind fun Je => (if Je = true then (spec_PutNum.l0 k a0 Jd) else (some Jd))) = some r := bQ Jf H;have Jc := aM Jf;clear Jf;obtain ⟨Je, A2, H⟩ := oB H;try dsimp only at H
 by_cases c3 : Je = true
 ·subst c3
  rw [if_pos rfl] at H;have H' := aM H;clear H
  go_enter Try.func129, Try.ntmps129
  go_wp2_with (first | ((with_reducible refine gate_dst (N := 4) rfl ?_); refine R_lit (Kd.int .u8) _ 5 ?hg (N := 4) ?hd (xs := ([] : List Int)) (inner := []) (ok := fun _ => True) (okp := fun _ => True) ?hr ?hp (fun _ hk => hk) trivial (Below.refl _ _) (Nat.le_refl _) (by simp) ?_; (case hd => rfl); (case hg => rfl); (case hr => first | (go_simp; done) | (go_simp; rfl)); (case hp => exact (Reps.none _ _)); intro Jr w4 Jl hb hg_ hnew_; clear hg_ hnew_; (first | rw [← Jc.out] at Jl | (simp only [Int.reduceToNat] at Jl; rw [← Jc.out] at Jl)); have n_ := aI (lR HB Jl) (sB HB hb); clear HB; obtain ⟨Jg, HB⟩ := n_; (try clear hb Jl)) | ((with_reducible refine gate_callee (f := 69) rfl ?_); refine gL (some 6) Try.func69 #[.int .i64 a0, .int .i64 0, .int .i64 2147483647] ?_; (with_reducible refine (spec_l1In.calls a0 0 2147483647 true _ A2.out).mono ?_); rintro e w' ⟨rfl, ⟨nd, rfl⟩⟩; refine ⟨_, rfl, ?_⟩))
  go_loopg [0, 3] k (fun kq v0 v3 w' => ∃ (Ja : Int) (Jb : List Int), v0 = .int .i64 Ja ∧ Aside0 (spec_PutNum.l0 kq Ja Jb = some r) ∧ Aside0 (kq ≤ k) ∧ Aside0 (Kd.R (Kd.int .u8) 5 w' w.heap.size (fun _ => True) v3 Jb) ∧ Aside0 (Below w.heap.size w w'))
  case atStart => exact ⟨(a0), (Jd), eV, H', ⟨Nat.le_refl _⟩, ⟨rP Jg.out⟩, ⟨bB⟩⟩
  case round =>
   clear H';obtain ⟨Ja, Jb, rfl, HA, HK1, Jk, HB⟩ := hrel
   cases gk with
   | zero => exact absurd HA.out (by simp [spec_PutNum.l0])
   | succ k1 =>
    have H := HA.out;clear HA;simp only [spec_PutNum.l0] at H
    by_cases c6 : Ja > 127
    ·rw [if_pos c6] at H
     have Js := decide_eq_true c6;clear c6
     by_cases c7 : Jb.length < 140737488355328
     ·rw [if_pos c7] at H
      have Jt := aM c7;clear c7;obtain ⟨Jm, Jh⟩ : ∃ y_ : List Int, y_ = (Jb ++ [(wrap64 ((Int.tmod Ja 128) + 128)) % 256]) := ⟨_, rfl⟩;replace H : (spec_PutNum.l0 k1 (wrap64 (Int.tdiv Ja 128)) Jm) = some r := bQ Jh H;have Jn := aM Jh;clear Jh;have H' := aM H;clear H
      go_wp2_with (first | ((with_reducible refine gate_builtin (b := .append) (xs := #[.tmp 11, .tmp 16]) rfl ?_); at_builtin; refine R_append (Kd.int .u8) (w0 := w) w.heap.size rfl (.tmp 11) (.tmp 16) 60 5 (.int .u8 0) 1 rfl Try.underlying60 info5 rfl (by decide) (by omega) u3 Jb ((wrap64 ((Int.tmod Ja 128) + 128)) % 256) [.int .u8 ((wrap64 ((Int.tmod Ja 128) + 128)) % 256)] (fun _ => True) (fun _ => False) rfl rfl ?aP (fun _ hk => hk.elim) ?aF ?aO ?aB ?aS ?aL ?_; (case aP => exact rfl); (case aB => exact bB); (case aF => exact (fun _ _ => trivial)); (case aO => exact (rP Jk.out)); (case aS => exact (zB HB)); (case aL => have := Jt.out; omega); intro Jx w8 ho hb hg hat; rw [← Jn.out] at ho; have n_ := aI (aM (hb)) (aM (ho)); clear HB Jk; obtain ⟨HB, Jo⟩ := n_; (try clear ho hb hg hat)))
      go_roundg k1
      case measure => have := HK1.out; omega
      case rel => exact ⟨(wrap64 (Int.tdiv Ja 128)), (Jm), eV, H', ⟨by have := HK1.out; omega⟩, ⟨rP Jo.out⟩, ⟨bB⟩⟩
     ·rw [if_neg c7] at H
      exact absurd H (by simp)
    ·rw [if_neg c6] at H
     have Js := decide_eq_false c6;clear c6
     by_cases c9 : Jb.length < 140737488355328
     ·rw [if_pos c9] at H
      have Ju := aM c9;clear c9;obtain ⟨Jv, Ji⟩ : ∃ y_ : List Int, y_ = (Jb ++ [(Ja) % 256]) := ⟨_, rfl⟩;replace H : (some Jv) = some r := bQ Ji H;have Jp := aM Ji;clear Ji;obtain rfl := Option.some.inj H
      go_wp2_with (first | ((with_reducible refine gate_builtin (b := .append) (xs := #[.tmp 20, .tmp 23]) rfl ?_); at_builtin; refine R_append (Kd.int .u8) (w0 := w) w.heap.size rfl (.tmp 20) (.tmp 23) 60 5 (.int .u8 0) 1 rfl Try.underlying60 info5 rfl (by decide) (by omega) u3 Jb ((Ja) % 256) [.int .u8 ((Ja) % 256)] (fun _ => True) (fun _ => False) rfl rfl ?aP (fun _ hk => hk.elim) ?aF ?aO ?aB ?aS ?aL ?_; (case aP => exact rfl); (case aB => exact bB); (case aF => exact (fun _ _ => trivial)); (case aO => exact (rP Jk.out)); (case aS => exact (zB HB)); (case aL => have := Ju.out; omega); intro Jy Jz ho hb hg hat; rw [← Jp.out] at ho; have n_ := aI (aM (hb)) (aM (ho)); clear HB Jk; obtain ⟨HB, Jq⟩ := n_; (try clear ho hb hg hat)))
      go_ret
      exact ⟨_, eW, by (with_reducible repeat (first | apply R_alloc | apply R_drewN | apply R_drew)); exact Jq.out, bB⟩
     ·rw [if_neg c9] at H
      exact absurd H (by simp)
 replace c3 := Bool.eq_false_iff.mpr c3;subst c3;rw [if_neg (show ¬ (false = true) by decide)] at H;obtain rfl := Option.some.inj H
 go_enter Try.func129, Try.ntmps129
 go_wp2_with (first | ((with_reducible refine gate_dst (N := 4) rfl ?_); refine R_lit (Kd.int .u8) _ 5 ?hg (N := 4) ?hd (xs := ([] : List Int)) (inner := []) (ok := fun _ => True) (okp := fun _ => True) ?hr ?hp (fun _ hk => hk) trivial (Below.refl _ _) (Nat.le_refl _) (by simp) ?_; (case hd => rfl); (case hg => rfl); (case hr => first | (go_simp; done) | (go_simp; rfl)); (case hp => exact (Reps.none _ _)); intro Jr JA Jj hb hg_ hnew_; clear hg_ hnew_; (first | rw [← Jc.out] at Jj | (simp only [Int.reduceToNat] at Jj; rw [← Jc.out] at Jj)); have n_ := aI (lR HB Jj) (sB HB hb); clear HB; obtain ⟨Jg, HB⟩ := n_; (try clear hb Jj)) | ((with_reducible refine gate_callee (f := 69) rfl ?_); refine gL (some 6) Try.func69 #[.int .i64 a0, .int .i64 0, .int .i64 2147483647] ?_; (with_reducible refine (spec_l1In.calls a0 0 2147483647 false _ A2.out).mono ?_); rintro e w' ⟨rfl, ⟨nd, rfl⟩⟩; refine ⟨_, rfl, ?_⟩))
 go_ret
 exact ⟨_, eW, by (with_reducible repeat (first | apply R_alloc | apply R_drewN | apply R_drew)); exact Jg.out, bB⟩

def spec_PutText.f (k : Nat) (a0 : ByteArray) : Option (List Int) := (spec_PutNum.f k (a0.size : Int)).bind fun Jb => (if a0.size ≤ 9223372036854775807 then ((some (bytesOf a0 : List Int)).bind fun Jc => (if Jb.length + Jc.length < 140737488355328 then (some (Jb ++ Jc)) else (none))) else (none))
theorem spec_PutText.mono : ∀ a0 k, LeO (spec_PutText.f k a0) (spec_PutText.f (k + 1) a0) := by
 intro a0 k;unfold spec_PutText.f;have m0_ := @spec_PutNum.mono;exact mM
theorem spec_PutText.calls (k : Nat) (a0 : ByteArray) (r : List Int) (w : World) (h : spec_PutText.f k a0 = some r) :
  Calls Try.prog 114 #[.string a0] w fun e w' => ∃ Jn : Value, e = .returned (Jn) ∧ Kd.R (Kd.int .u8) 5 w' w.heap.size (fun _ => True) Jn r ∧ Below w.heap.size w w' := by
 have HB := aM (Below.refl w.heap.size w);unfold spec_PutText.f at h;have H := h;clear h;obtain ⟨Jb, A2, H⟩ := oB H;try dsimp only at H
 by_cases c3 : a0.size ≤ 9223372036854775807
 ·rw [if_pos c3] at H
  have Jp := eq_true c3;have Jq := decide_eq_true c3;try have Jr : (9223372036854775807 < a0.size) = False := eq_false (Nat.not_lt.2 c3)
  clear c3;obtain ⟨Jc, Je⟩ : ∃ y_ : List Int, y_ = (bytesOf a0) := ⟨_, rfl⟩;replace H : (if Jb.length + Jc.length < 140737488355328 then (some (Jb ++ Jc)) else (none)) = some r := bQ Je H;have Jg := aM Je;clear Je
  by_cases c4 : Jb.length + Jc.length < 140737488355328
  ·rw [if_pos c4] at H
   have Jl := aM c4;clear c4;obtain ⟨Jm, Jf⟩ : ∃ y_ : List Int, y_ = (Jb ++ Jc) := ⟨_, rfl⟩;replace H : (some Jm) = some r := bQ Jf H;have Jh := aM Jf;clear Jf;obtain rfl := Option.some.inj H
   go_enter Try.func114, Try.ntmps114
   go_wp2_with (first | ((with_reducible refine gate_callee (f := 129) rfl ?_); refine gL (some 5) Try.func129 #[.int .i64 (a0.size : Int)] ?_; (with_reducible refine (spec_PutNum.calls k (a0.size : Int) Jb _ A2.out).mono ?_); rintro e w5 ⟨Ji, rfl, Jo, hb⟩; refine ⟨_, rfl, ?_⟩; have n_ := aI (lR HB Jo) (sB HB hb); clear HB; obtain ⟨Ja, HB⟩ := n_; (try clear hb Jo)) | ((with_reducible refine gate_dst (N := 7) rfl ?_); refine V_bytes 5 rfl (N' := 7) rfl 9 60 _ rfl a0 rfl Try.underlying9 Try.underlying60 Try.underlying5 (by first | (with_reducible assumption) | assumption | exact dT) ?_; intro Js w6 Jj hb hg_ hnew_; clear hg_ hnew_; (first | rw [← Jg.out] at Jj | (simp only [Int.reduceToNat] at Jj; rw [← Jg.out] at Jj)); have n_ := aI (rB Ja hb) (aI (aM (Kd.V_lower (Kd.V_mono (ok' := fun k_ => some k_ ≠ (Ji : Value).ownBlock) Jj (fun k_ hk_ => (Kd.fresh' (rL Ja) k_ hk_))) (zB HB))) (sB HB hb)); clear Ja HB; obtain ⟨Ja, Jd, HB⟩ := n_; (try clear hb Jj); obtain ⟨Jv, Jw, Jt⟩ := Kd.V_slice Jd.out; subst Jt) | ((with_reducible refine gate_builtin (b := .append) (xs := #[.tmp 5, .tmp 7]) rfl ?_); at_builtin; refine R_append_rows (Kd.int .u8) (w0 := w) w.heap.size rfl (.tmp 5) (.tmp 7) 60 5 (.int .u8 0) 1 rfl Try.underlying60 info5 rfl (by decide) (by omega) Ji Jb Jc _ _ _ (fun _ => True) (fun _ => False) rfl rfl ?aO ?aR (fun _ _ h => h) (fun _ h => h.elim) ?aF ?aB ?aS ?aL ?_; (case aR => repeat (first | exact (Kd.V_reads' Jd.out).2.2 | (with_reducible refine Kd.C_alloc ?_ _) | (with_reducible refine Kd.C_drewN ?_ _) | (with_reducible refine Kd.C_drew ?_))); (case aB => exact bB); (case aF => exact (fun _ _ => trivial)); (case aO => exact (rP Ja.out)); (case aS => exact (zB HB)); (case aL => have := Jl.out; omega); intro Ju w8 ho hb hg hat; rw [← Jh.out] at ho; have n_ := aI (aM (Kd.V_afterv (ok := (fun _ => True)) (by (with_reducible repeat (first | apply Kd.V_alloc | apply Kd.V_drewN | apply Kd.V_drew)); exact Kd.V_mono Jd.out (fun _ hk => ⟨trivial, hk⟩)) hg hat)) (aI (aM (hb)) (aM (ho))); clear Jd HB Ja; obtain ⟨Jd, HB, Jk⟩ := n_; (try clear ho hb hg hat)))
   go_ret
   exact ⟨_, eW, by (with_reducible repeat (first | apply R_alloc | apply R_drewN | apply R_drew)); exact Jk.out, bB⟩
  rw [if_neg c4] at H;exact absurd H (by simp)
 rw [if_neg c3] at H;exact absurd H (by simp)

mutual
def spec_Crc.l0 : Nat → List Int → Int → Int → Option (Int)
 | 0, _, _, _ => none
 | k + 1, x0, x3, x4 => if x4 < (x0.length : Int) then (if 0 ≤ x4 then (spec_Crc.l1 k x0 (Go.bits .xor .i64 x3 (wrap64 (rd x0 x4))) x4 0) else (none)) else (some (Go.bits .xor .i64 x3 4294967295))
def spec_Crc.l1 : Nat → List Int → Int → Int → Int → Option (Int)
 | 0, _, _, _, _ => none
 | k + 1, x0, x3, x4, x5 => if x5 < 8 then (if (Int.tmod x3 2) = 1 then (spec_Crc.l1 k x0 (Go.bits .xor .i64 (wrap64 (Int.tdiv x3 2)) 3988292384) x4 (wrap64 (x5 + 1))) else (spec_Crc.l1 k x0 (wrap64 (Int.tdiv x3 2)) x4 (wrap64 (x5 + 1)))) else (spec_Crc.l0 k x0 x3 (wrap64 (x4 + 1)))
end
def spec_Crc.f (k : Nat) (l0 : List Int) : Option (Int) := spec_Crc.l0 k l0 4294967295 0
theorem spec_Crc.mono_l : ∀ k, (∀ y0 y1 y2, LeO (spec_Crc.l0 k y0 y1 y2) (spec_Crc.l0 (k + 1) y0 y1 y2)) ∧ (∀ y0 y1 y2 y3, LeO (spec_Crc.l1 k y0 y1 y2 y3) (spec_Crc.l1 (k + 1) y0 y1 y2 y3))
 | 0 => ⟨fun _ _ _ r h => by simp [spec_Crc.l0] at h, fun _ _ _ _ r h => by simp [spec_Crc.l1] at h⟩
 | k + 1 => by
  obtain ⟨ih0, ih1⟩ := spec_Crc.mono_l k;refine ⟨?_, ?_⟩
  ·intro y0 y1 y2
   unfold spec_Crc.l0;exact mM
  ·intro y0 y1 y2 y3
   unfold spec_Crc.l1;exact mM
theorem spec_Crc.mono : ∀ a0 k, LeO (spec_Crc.f k a0) (spec_Crc.f (k + 1) a0) := by
 intro a0 k;obtain ⟨ih0, ih1⟩ := spec_Crc.mono_l k;unfold spec_Crc.f;exact mM
theorem spec_Crc.calls (k : Nat) (A0 : Option Addr) (c0 : Nat) (l0 : List Int) (r : Int) (w : World) (hr0 : Kd.C (Kd.int .u8) w A0 l0.length l0) (Jm : l0.length ≤ c0) (h : spec_Crc.f k l0 = some r) :
  Calls Try.prog 115 #[.slice A0 l0.length c0] w fun e w' => e = .returned (.int .i64 r) ∧ Drawn0 w w' := by
 have Jo := aM hr0;have Jq := aM Jm;clear hr0 Jm;unfold spec_Crc.f at h;have H := h;clear h;have H' := aM H;clear H
 go_enter Try.func115, Try.ntmps115
 go_wp2
 go_loopg [3, 4] k (fun kq v3 v4 w' => ∃ (Jd : Int) (Ja : Int), v3 = .int .i64 Jd ∧ v4 = .int .i64 Ja ∧ Aside0 (spec_Crc.l0 kq l0 Jd Ja = some r) ∧ Aside0 (kq ≤ k) ∧ Drawn0 w w')
 case atStart => exact ⟨(4294967295), (0), eV, eV, H', ⟨Nat.le_refl _⟩, by repeat (first | exact Drawn0.refl _ | apply Drawn0.step)⟩
 case round =>
  clear H';obtain ⟨Jd, Ja, rfl, rfl, HA, HK1, ⟨m1, rfl⟩⟩ := hrel
  cases gk with
  | zero => exact absurd HA.out (by simp [spec_Crc.l0])
  | succ k1 =>
   have H := HA.out;clear HA;simp only [spec_Crc.l0] at H
   by_cases c2 : Ja < (l0.length : Int)
   ·rw [if_pos c2] at H
    have Jh := decide_eq_true c2;clear c2
    by_cases c3 : 0 ≤ Ja
    ·rw [if_pos c3] at H
     have Jp := decide_eq_true c3;clear c3;have H' := aM H;clear H;have Je : 0 ≤ (Ja : Int) := dT;have Jf : Ja < (l0.length : Int) := dT;obtain ⟨Jn, Ji, Jg⟩ := Kd.at_int Jo.out Ja Je Jf;cases Ji
     replace Je := eq_true Je;replace Jf := eq_true Jf
     go_wp2
     go_loopg [3, 5] k1 (fun kq v3 v5 w' => ∃ (Jb : Int) (Jc : Int), v3 = .int .i64 Jb ∧ v5 = .int .i64 Jc ∧ Aside0 (spec_Crc.l1 kq l0 Jb Ja Jc = some r) ∧ Aside0 (kq ≤ k1) ∧ Drawn0 w w')
     case atStart => exact ⟨(Go.bits .xor .i64 Jd (wrap64 (rd l0 Ja))), (0), eV, eV, H', ⟨Nat.le_refl _⟩, by repeat (first | exact Drawn0.refl _ | apply Drawn0.step)⟩
     case round =>
      clear H';obtain ⟨Jb, Jc, rfl, rfl, HA, HK2, ⟨m2, rfl⟩⟩ := hrel
      cases gk with
      | zero => exact absurd HA.out (by simp [spec_Crc.l1])
      | succ k2 =>
       have H := HA.out;clear HA;simp only [spec_Crc.l1] at H
       by_cases c4 : Jc < 8
       ·rw [if_pos c4] at H
        have Jj := decide_eq_true c4;clear c4
        by_cases c5 : (Int.tmod Jb 2) = 1
        ·rw [if_pos c5] at H
         have Jk := beq_iff_eq.mpr c5;have Jl := bne_eq_false_iff_eq.mpr c5;clear c5;have H' := aM H;clear H
         go_wp2
         go_roundg k2
         case measure => have := HK1.out; have := HK2.out; omega
         case rel => exact ⟨(Go.bits .xor .i64 (wrap64 (Int.tdiv Jb 2)) 3988292384), (wrap64 (Jc + 1)), eV, eV, H', ⟨by have := HK1.out; have := HK2.out; omega⟩, by repeat (first | exact Drawn0.refl _ | apply Drawn0.step)⟩
        ·rw [if_neg c5] at H
         have Jk := beq_eq_false_iff_ne.mpr c5;have Jl := bne_iff_ne.mpr c5;have H' := aM H;clear H
         go_wp2
         go_roundg k2
         case measure => have := HK1.out; have := HK2.out; omega
         case rel => exact ⟨(wrap64 (Int.tdiv Jb 2)), (wrap64 (Jc + 1)), eV, eV, H', ⟨by have := HK1.out; have := HK2.out; omega⟩, by repeat (first | exact Drawn0.refl _ | apply Drawn0.step)⟩
       ·rw [if_neg c4] at H
        have Jj := decide_eq_false c4;clear c4;have H' := aM H;clear H
        go_wp2
        go_roundg k2
        case measure => have := HK1.out; have := HK2.out; omega
        case rel => exact ⟨(Jb), (wrap64 (Ja + 1)), eV, eV, H', ⟨by have := HK1.out; have := HK2.out; omega⟩, by repeat (first | exact Drawn0.refl _ | apply Drawn0.step)⟩
    ·rw [if_neg c3] at H
     exact absurd H (by simp)
   ·rw [if_neg c2] at H
    have Jh := decide_eq_false c2;clear c2;obtain rfl := Option.some.inj H
    go_wp2
    go_ret
    exact ⟨by first | rfl | (simp; done) | (simp [*]; done), by repeat (first | exact Drawn0.refl _ | apply Drawn0.step)⟩

def spec_l4Sum.l0 : Nat → List ByteArray → List Int → Int → Option (Int)
 | 0, _, _, _ => none
 | k + 1, x0, x3, x4 => if x4 < (x0.length : Int) then (if 0 ≤ x4 then ((spec_PutText.f k (rdOf ByteArray.empty x0 x4)).bind fun Je => (if x3.length + Je.length < 140737488355328 then (spec_l4Sum.l0 k x0 (x3 ++ Je) (wrap64 (x4 + 1))) else (none))) else (none)) else ((spec_Crc.f k x3).bind fun Jj => (some Jj))
def spec_l4Sum.f (k : Nat) (l0 : List ByteArray) : Option (Int) := spec_l4Sum.l0 k l0 (([] : List Int)) 0
theorem spec_l4Sum.mono_l : ∀ k, (∀ y0 y1 y2, LeO (spec_l4Sum.l0 k y0 y1 y2) (spec_l4Sum.l0 (k + 1) y0 y1 y2))
 | 0 => fun _ _ _ r h => by simp [spec_l4Sum.l0] at h
 | k + 1 => by
  have ih0 := spec_l4Sum.mono_l k
  ·intro y0 y1 y2
   unfold spec_l4Sum.l0;have m0_ := @spec_Crc.mono;have m1_ := @spec_PutText.mono;exact mM
theorem spec_l4Sum.mono : ∀ a0 k, LeO (spec_l4Sum.f k a0) (spec_l4Sum.f (k + 1) a0) := by
 intro a0 k;have ih0 := spec_l4Sum.mono_l k;unfold spec_l4Sum.f;have m0_ := @spec_Crc.mono;have m1_ := @spec_PutText.mono;exact mM
theorem spec_l4Sum.calls (k : Nat) (A0 : Option Addr) (c0 : Nat) (l0 : List ByteArray) (r : Int) (w : World) (hr0 : Kd.C Kd.string w A0 l0.length l0) (JC : l0.length ≤ c0) (h : spec_l4Sum.f k l0 = some r) :
  Calls Try.prog 85 #[.slice A0 l0.length c0] w fun e w' => e = .returned (.int .i64 r) ∧ Below w.heap.size w w' := by
 have JE := aM hr0;have JK := aM JC;clear hr0 JC;have HB := aM (Below.refl w.heap.size w);unfold spec_l4Sum.f at h;have H := h;clear h;obtain ⟨Jm, Jg⟩ : ∃ y_ : List Int, y_ = (([] : List Int)) := ⟨_, rfl⟩;replace H : (spec_l4Sum.l0 k l0 Jm 0) = some r := bQ Jg H;have Ji := aM Jg;clear Jg;have H' := aM H;clear H
 go_enter Try.func85, Try.ntmps85
 go_wp2_with (first | ((with_reducible refine gate_dst (N := 5) rfl ?_); refine R_lit (Kd.int .u8) _ 5 ?hg (N := 5) ?hd (xs := ([] : List Int)) (inner := []) (ok := fun _ => True) (okp := fun _ => True) ?hr ?hp (fun _ hk => hk) trivial (Below.refl _ _) (Nat.le_refl _) (by simp) ?_; (case hd => rfl); (case hg => rfl); (case hr => first | (go_simp; done) | (go_simp; rfl)); (case hp => exact (Reps.none _ _)); intro JF w2 Jn hb hg_ hnew_; clear hg_ hnew_; (first | rw [← Ji.out] at Jn | (simp only [Int.reduceToNat] at Jn; rw [← Ji.out] at Jn)); have n_ := aI (lR HB Jn) (sB HB hb); clear HB; obtain ⟨Jo, HB⟩ := n_; (try clear hb Jn)))
 go_loopg [3, 4] k (fun kq v3 v4 w' => ∃ (Jf : List Int) (Ja : Int), v4 = .int .i64 Ja ∧ Aside0 (spec_l4Sum.l0 kq l0 Jf Ja = some r) ∧ Aside0 (kq ≤ k) ∧ Aside0 (Kd.R (Kd.int .u8) 5 w' w.heap.size (fun _ => True) v3 Jf) ∧ Aside0 (Below w.heap.size w w'))
 case atStart => exact ⟨(Jm), (0), eV, H', ⟨Nat.le_refl _⟩, ⟨rP Jo.out⟩, ⟨bB⟩⟩
 case round =>
  clear H';obtain ⟨Jf, Ja, rfl, HA, HK1, Jc, HB⟩ := hrel
  cases gk with
  | zero => exact absurd HA.out (by simp [spec_l4Sum.l0])
  | succ k1 =>
   have H := HA.out;clear HA;simp only [spec_l4Sum.l0] at H
   by_cases c4 : Ja < (l0.length : Int)
   ·rw [if_pos c4] at H
    have Js := decide_eq_true c4;clear c4
    by_cases c5 : 0 ≤ Ja
    ·rw [if_pos c5] at H
     have JG := decide_eq_true c5;clear c5;obtain ⟨Je, A6, H⟩ := oB H;try dsimp only at H
     by_cases c7 : Jf.length + Je.length < 140737488355328
     ·rw [if_pos c7] at H
      have Jt := aM c7;clear c7;obtain ⟨Jp, Jh⟩ : ∃ y_ : List Int, y_ = (Jf ++ Je) := ⟨_, rfl⟩;replace H : (spec_l4Sum.l0 k1 l0 Jp (wrap64 (Ja + 1))) = some r := bQ Jh H;have Jq := aM Jh;clear Jh;have H' := aM H;clear H;have Jk : 0 ≤ (Ja : Int) := dT;have Jl : Ja < (l0.length : Int) := dT;obtain ⟨JD, Ju, Jd⟩ := Kd.at_string JE.out Ja Jk Jl;cases Ju
      replace Jd := (HB.out.cell (World.block_lt_of_cell? w _ Jd)).trans Jd;replace Jk := eq_true Jk;replace Jl := eq_true Jl
      go_wp2_with (first | ((with_reducible refine gate_callee (f := 114) rfl ?_); refine gL (some 17) Try.func114 #[.string (rdOf ByteArray.empty l0 Ja)] ?_; (with_reducible refine (spec_PutText.calls k1 (rdOf ByteArray.empty l0 Ja) Je _ A6.out).mono ?_); rintro e w8 ⟨JH, rfl, Jv, hb⟩; refine ⟨_, rfl, ?_⟩; have n_ := aI (eR Jc Jv hb) (aI (aM (R_lower (R_new' Jv (rL Jc)) (zB HB))) (sB HB hb)); clear Jc HB; obtain ⟨Jc, Jb, HB⟩ := n_; (try clear hb Jv); obtain ⟨Jw, Jx, Jy⟩ := R_slice Jb.out; subst Jy) | ((with_reducible refine gate_builtin (b := .append) (xs := #[.tmp 12, .tmp 17]) rfl ?_); at_builtin; refine R_append_rows (Kd.int .u8) (w0 := w) w.heap.size rfl (.tmp 12) (.tmp 17) 60 5 (.int .u8 0) 1 rfl Try.underlying60 info5 rfl (by decide) (by omega) u3 Jf Je _ _ _ (fun k_ => some k_ ≠ (.slice Jw Je.length Jx : Value).ownBlock) (fun _ => False) rfl rfl ?aO ?aR (fun _ _ h => h) (fun _ h => h.elim) ?aF ?aB ?aS ?aL ?_; (case aR => exact cR Jb); (case aB => exact bB); (case aF => exact (fun k_ hk => Kd.fresh' (rL Jb) k_ hk)); (case aO => exact (rP (R_mono Jc.out s2))); (case aS => exact (zB HB)); (case aL => have := Jt.out; omega); intro JI w9 ho hb hg hat; rw [← Jq.out] at ho; have n_ := aI (aM (R_after (ok := (fun _ => True)) (rP Jb.out) hg hat)) (aI (aM (hb)) (aM (ho))); clear Jb HB Jc; obtain ⟨Jb, HB, Jr⟩ := n_; (try clear ho hb hg hat)))
      go_roundg k1
      case measure => have := HK1.out; omega
      case rel => exact ⟨(Jp), (wrap64 (Ja + 1)), eV, H', ⟨by have := HK1.out; omega⟩, ⟨rP (R_mono Jr.out sT)⟩, ⟨bB⟩⟩
     ·rw [if_neg c7] at H
      exact absurd H (by simp)
    ·rw [if_neg c5] at H
     exact absurd H (by simp)
   ·rw [if_neg c4] at H
    have Js := decide_eq_false c4;clear c4;obtain ⟨Jj, JJ, H⟩ := oB H;try dsimp only at H
    obtain rfl := Option.some.inj H;obtain ⟨Jz, JA, JB⟩ := R_slice Jc.out;subst JB
    go_wp2_with (first | ((with_reducible refine gate_callee (f := 115) rfl ?_); refine gL (some 20) Try.func115 #[.slice Jz Jf.length JA] ?_; (with_reducible refine (spec_Crc.calls k1 _ _ Jf Jj _ ?side1 ?side2 JJ.out).mono ?_); (case side1 => exact cR Jc); (case side2 => exact (R_reads' Jc.out).2.1); rintro e w' ⟨rfl, ⟨nd, rfl⟩⟩; refine ⟨_, rfl, ?_⟩))
    go_ret
    exact ⟨eW, bB⟩

def spec_l4Four.f (a0 : Int) : Option (ByteArray) := some (strOfNums (([(wrap64 (Int.tdiv a0 16777216)) % 256, (Int.tmod (wrap64 (Int.tdiv a0 65536)) 256) % 256, (Int.tmod (wrap64 (Int.tdiv a0 256)) 256) % 256, (Int.tmod a0 256) % 256] : List Int)))
theorem spec_l4Four.calls (a0 : Int) (r : ByteArray) (w : World) (h : spec_l4Four.f a0 = some r) :
  Calls Try.prog 131 #[.int .i64 a0] w fun e w' => e = .returned (.string r) ∧ Below w.heap.size w w' := by
 have HB := aM (Below.refl w.heap.size w);unfold spec_l4Four.f at h;have H := h;clear h;obtain ⟨Je, Ja⟩ : ∃ y_ : List Int, y_ = (([(wrap64 (Int.tdiv a0 16777216)) % 256, (Int.tmod (wrap64 (Int.tdiv a0 65536)) 256) % 256, (Int.tmod (wrap64 (Int.tdiv a0 256)) 256) % 256, (Int.tmod a0 256) % 256] : List Int)) := ⟨_, rfl⟩;replace H : (some (strOfNums Je)) = some r := bQ Ja H;have Jb := aM Ja;clear Ja;obtain rfl := Option.some.inj H
 go_enter Try.func131, Try.ntmps131
 go_wp2_with (first | ((with_reducible refine gate_dst (N := 17) rfl ?_); refine R_lit (Kd.int .u8) _ 5 ?hg (N := 17) ?hd (xs := ([(wrap64 (Int.tdiv a0 16777216)) % 256, (Int.tmod (wrap64 (Int.tdiv a0 65536)) 256) % 256, (Int.tmod (wrap64 (Int.tdiv a0 256)) 256) % 256, (Int.tmod a0 256) % 256] : List Int)) (inner := [.int .u8 ((wrap64 (Int.tdiv a0 16777216)) % 256), .int .u8 ((Int.tmod (wrap64 (Int.tdiv a0 65536)) 256) % 256), .int .u8 ((Int.tmod (wrap64 (Int.tdiv a0 256)) 256) % 256), .int .u8 ((Int.tmod a0 256) % 256)]) (ok := fun _ => True) (okp := fun _ => True) ?hr ?hp (fun _ hk => hk) trivial (Below.refl _ _) (Nat.le_refl _) (by simp) ?_; (case hd => rfl); (case hg => rfl); (case hr => first | (go_simp; done) | (go_simp; rfl)); (case hp => exact (Reps.one (show Kd.M (Kd.int .u8) _ _ _ ((wrap64 (Int.tdiv a0 16777216)) % 256) [.int .u8 ((wrap64 (Int.tdiv a0 16777216)) % 256)] from rfl) (Reps.one (show Kd.M (Kd.int .u8) _ _ _ ((Int.tmod (wrap64 (Int.tdiv a0 65536)) 256) % 256) [.int .u8 ((Int.tmod (wrap64 (Int.tdiv a0 65536)) 256) % 256)] from rfl) (Reps.one (show Kd.M (Kd.int .u8) _ _ _ ((Int.tmod (wrap64 (Int.tdiv a0 256)) 256) % 256) [.int .u8 ((Int.tmod (wrap64 (Int.tdiv a0 256)) 256) % 256)] from rfl) (Reps.one (show Kd.M (Kd.int .u8) _ _ _ ((Int.tmod a0 256) % 256) [.int .u8 ((Int.tmod a0 256) % 256)] from rfl) (Reps.none _ _)))))); intro Jf w2 Jc hb hg_ hnew_; clear hg_ hnew_; (first | rw [← Jb.out] at Jc | (simp only [Int.reduceToNat] at Jc; rw [← Jb.out] at Jc)); have n_ := aI (lR HB Jc) (sB HB hb); clear HB; obtain ⟨Jd, HB⟩ := n_; (try clear hb Jc); have hcv4 := own_string (P := Try.prog) Try.underlying60 Try.underlying5 Try.underlying9 (Kd.own_of_R Jd.out)))
 go_ret
 exact ⟨eW, bB⟩

def spec_l4Head.l0 : Nat → List Int → Int → List Int → Int → Option (ByteArray)
 | 0, _, _, _, _ => none
 | k + 1, x0, x1, x5, x6 => if x6 < (x0.length : Int) then (if 0 ≤ x6 then ((spec_PutNum.f k (rd x0 x6)).bind fun Ji => (if x5.length + Ji.length < 140737488355328 then (spec_l4Head.l0 k x0 x1 (x5 ++ Ji) (wrap64 (x6 + 1))) else (none))) else (none)) else ((spec_l4Four.f x1).bind fun Jj => (if (strOfNums x5).size + Jj.size ≤ 9223372036854775807 then (some ((strOfNums x5) ++ Jj)) else (none)))
def spec_l4Head.f (k : Nat) (l0 : List Int) (a1 : Int) : Option (ByteArray) := (some (([74] : List Int) : List Int)).bind fun Jk => ((spec_PutNum.f k (l0.length : Int)).bind fun Jc => (if Jk.length + Jc.length < 140737488355328 then (spec_l4Head.l0 k l0 a1 (Jk ++ Jc) 0) else (none)))
theorem spec_l4Head.mono_l : ∀ k, (∀ y0 y1 y2 y3, LeO (spec_l4Head.l0 k y0 y1 y2 y3) (spec_l4Head.l0 (k + 1) y0 y1 y2 y3))
 | 0 => fun _ _ _ _ r h => by simp [spec_l4Head.l0] at h
 | k + 1 => by
  have ih0 := spec_l4Head.mono_l k
  ·intro y0 y1 y2 y3
   unfold spec_l4Head.l0;have m0_ := @spec_PutNum.mono;exact mM
theorem spec_l4Head.mono : ∀ a0 a1 k, LeO (spec_l4Head.f k a0 a1) (spec_l4Head.f (k + 1) a0 a1) := by
 intro a0 a1 k;have ih0 := spec_l4Head.mono_l k;unfold spec_l4Head.f;have m0_ := @spec_PutNum.mono;exact mM
theorem spec_l4Head.calls (k : Nat) (A0 : Option Addr) (c0 : Nat) (l0 : List Int) (a1 : Int) (r : ByteArray) (w : World) (hr0 : Kd.C (Kd.int .i64) w A0 l0.length l0) (JL : l0.length ≤ c0) (h : spec_l4Head.f k l0 a1 = some r) :
  Calls Try.prog 128 #[.slice A0 l0.length c0, .int .i64 a1] w fun e w' => e = .returned (.string r) ∧ Below w.heap.size w w' := by
 have JV := aM hr0;have J4 := aM JL;clear hr0 JL;have HB := aM (Below.refl w.heap.size w);unfold spec_l4Head.f at h;have H := h;clear h;obtain ⟨Jk, Jl⟩ : ∃ y_ : List Int, y_ = (([74] : List Int)) := ⟨_, rfl⟩;replace H : ((spec_PutNum.f k (l0.length : Int)).bind fun Jc => (if Jk.length + Jc.length < 140737488355328 then (spec_l4Head.l0 k l0 a1 (Jk ++ Jc) 0) else (none))) = some r := bQ Jl H;have Jo := aM Jl;clear Jl;obtain ⟨Jc, A3, H⟩ := oB H;try dsimp only at H
 by_cases c4 : Jk.length + Jc.length < 140737488355328
 ·rw [if_pos c4] at H
  have JF := aM c4;clear c4;obtain ⟨Jt, Jm⟩ : ∃ y_ : List Int, y_ = (Jk ++ Jc) := ⟨_, rfl⟩;replace H : (spec_l4Head.l0 k l0 a1 Jt 0) = some r := bQ Jm H;have Ju := aM Jm;clear Jm;have H' := aM H;clear H
  go_enter Try.func128, Try.ntmps128
  go_wp2_with (first | ((with_reducible refine gate_dst (N := 7) rfl ?_); refine R_lit (Kd.int .u8) _ 5 ?hg (N := 7) ?hd (xs := ([74] : List Int)) (inner := [.int .u8 74]) (ok := fun _ => True) (okp := fun _ => True) ?hr ?hp (fun _ hk => hk) trivial (Below.refl _ _) (Nat.le_refl _) (by simp) ?_; (case hd => rfl); (case hg => rfl); (case hr => first | (go_simp; done) | (go_simp; rfl)); (case hp => exact (Reps.one (show Kd.M (Kd.int .u8) _ _ _ 74 [.int .u8 74] from rfl) (Reps.none _ _))); intro JG w5 Jv hb hg_ hnew_; clear hg_ hnew_; (first | rw [← Jo.out] at Jv | (simp only [Int.reduceToNat] at Jv; rw [← Jo.out] at Jv)); have n_ := aI (lR HB Jv) (sB HB hb); clear HB; obtain ⟨Je, HB⟩ := n_; (try clear hb Jv)) | ((with_reducible refine gate_callee (f := 129) rfl ?_); refine gL (some 10) Try.func129 #[.int .i64 (l0.length : Int)] ?_; (with_reducible refine (spec_PutNum.calls k (l0.length : Int) Jc _ A3.out).mono ?_); rintro e w7 ⟨JW, rfl, Jp, hb⟩; refine ⟨_, rfl, ?_⟩; have n_ := aI (eR Je Jp hb) (aI (aM (R_lower (R_new' Jp (rL Je)) (zB HB))) (sB HB hb)); clear Je HB; obtain ⟨Je, Jf, HB⟩ := n_; (try clear hb Jp); obtain ⟨JX, JY, JZ⟩ := R_slice Jf.out; subst JZ) | ((with_reducible refine gate_builtin (b := .append) (xs := #[.tmp 7, .tmp 10]) rfl ?_); at_builtin; refine R_append_rows (Kd.int .u8) (w0 := w) w.heap.size rfl (.tmp 7) (.tmp 10) 60 5 (.int .u8 0) 1 rfl Try.underlying60 info5 rfl (by decide) (by omega) JG Jk Jc _ _ _ (fun k_ => some k_ ≠ (.slice JX Jc.length JY : Value).ownBlock) (fun _ => False) rfl rfl ?aO ?aR (fun _ _ h => h) (fun _ h => h.elim) ?aF ?aB ?aS ?aL ?_; (case aR => exact cR Jf); (case aB => exact bB); (case aF => exact (fun k_ hk => Kd.fresh' (rL Jf) k_ hk)); (case aO => exact (rP (R_mono Je.out s2))); (case aS => exact (zB HB)); (case aL => have := JF.out; omega); intro J0 w8 ho hb hg hat; rw [← Ju.out] at ho; have n_ := aI (aM (R_after (ok := (fun _ => True)) (rP Jf.out) hg hat)) (aI (aM (hb)) (aM (ho))); clear Jf HB Je; obtain ⟨Jf, HB, Jw⟩ := n_; (try clear ho hb hg hat)))
  go_loopg [5, 6] k (fun kq v5 v6 w' => ∃ (Jd : List Int) (Jb : Int), v6 = .int .i64 Jb ∧ Aside0 (spec_l4Head.l0 kq l0 a1 Jd Jb = some r) ∧ Aside0 (kq ≤ k) ∧ Aside0 (Kd.R (Kd.int .u8) 5 w' w.heap.size (fun _ => True) v5 Jd) ∧ Aside0 (Below w.heap.size w w'))
  case atStart => exact ⟨(Jt), (0), eV, H', ⟨Nat.le_refl _⟩, ⟨rP (R_mono Jw.out sT)⟩, ⟨bB⟩⟩
  case round =>
   clear H';obtain ⟨Jd, Jb, rfl, HA, HK1, Ja, HB⟩ := hrel
   cases gk with
   | zero => exact absurd HA.out (by simp [spec_l4Head.l0])
   | succ k1 =>
    have H := HA.out;clear HA;simp only [spec_l4Head.l0] at H
    by_cases Js : Jb < (l0.length : Int)
    ·rw [if_pos Js] at H
     have Jx := decide_eq_true Js;clear Js
     by_cases JD : 0 ≤ Jb
     ·rw [if_pos JD] at H
      have JM := decide_eq_true JD;clear JD;obtain ⟨Ji, J1, H⟩ := oB H;try dsimp only at H
      by_cases JE : Jd.length + Ji.length < 140737488355328
      ·rw [if_pos JE] at H
       have Jy := aM JE;clear JE;obtain ⟨Jz, Jn⟩ : ∃ y_ : List Int, y_ = (Jd ++ Ji) := ⟨_, rfl⟩;replace H : (spec_l4Head.l0 k1 l0 a1 Jz (wrap64 (Jb + 1))) = some r := bQ Jn H;have JA := aM Jn;clear Jn;have H' := aM H;clear H;have Jq : 0 ≤ (Jb : Int) := dT;have Jr : Jb < (l0.length : Int) := dT;obtain ⟨JN, JH, Jh⟩ := Kd.at_int JV.out Jb Jq Jr;cases JH
       replace Jh := (HB.out.cell (World.block_lt_of_cell? w _ Jh)).trans Jh;replace Jq := eq_true Jq;replace Jr := eq_true Jr
       go_wp2_with (first | ((with_reducible refine gate_callee (f := 129) rfl ?_); refine gL (some 23) Try.func129 #[.int .i64 (rd l0 Jb)] ?_; (with_reducible refine (spec_PutNum.calls k1 (rd l0 Jb) Ji _ J1.out).mono ?_); rintro e J5 ⟨J2, rfl, Jp, hb⟩; refine ⟨_, rfl, ?_⟩; have n_ := aI (eR Ja Jp hb) (aI (aM (R_lower (R_new' Jp (rL Ja)) (zB HB))) (sB HB hb)); clear Ja HB; obtain ⟨Ja, Jg, HB⟩ := n_; (try clear hb Jp); obtain ⟨JI, JJ, JK⟩ := R_slice Jg.out; subst JK) | ((with_reducible refine gate_builtin (b := .append) (xs := #[.tmp 18, .tmp 23]) rfl ?_); at_builtin; refine R_append_rows (Kd.int .u8) (w0 := w) w.heap.size rfl (.tmp 18) (.tmp 23) 60 5 (.int .u8 0) 1 rfl Try.underlying60 info5 rfl (by decide) (by omega) u5 Jd Ji _ _ _ (fun k_ => some k_ ≠ (.slice JI Ji.length JJ : Value).ownBlock) (fun _ => False) rfl rfl ?aO ?aR (fun _ _ h => h) (fun _ h => h.elim) ?aF ?aB ?aS ?aL ?_; (case aR => exact cR Jg); (case aB => exact bB); (case aF => exact (fun k_ hk => Kd.fresh' (rL Jg) k_ hk)); (case aO => exact (rP (R_mono Ja.out s2))); (case aS => exact (zB HB)); (case aL => have := Jy.out; omega); intro J3 J6 ho hb hg hat; rw [← JA.out] at ho; have n_ := aI (aM (R_after (ok := (fun _ => True)) (rP Jg.out) hg hat)) (aI (aM (hb)) (aM (ho))); clear Jg HB Ja; obtain ⟨Jg, HB, JB⟩ := n_; (try clear ho hb hg hat)))
       go_roundg k1
       case measure => have := HK1.out; omega
       case rel => exact ⟨(Jz), (wrap64 (Jb + 1)), eV, H', ⟨by have := HK1.out; omega⟩, ⟨rP (R_mono JB.out sT)⟩, ⟨bB⟩⟩
      ·rw [if_neg JE] at H
       exact absurd H (by simp)
     ·rw [if_neg JD] at H
      exact absurd H (by simp)
    ·rw [if_neg Js] at H
     have Jx := decide_eq_false Js;clear Js;obtain ⟨Jj, JO, H⟩ := oB H;try dsimp only at H
     by_cases JC : (strOfNums Jd).size + Jj.size ≤ 9223372036854775807
     ·rw [if_pos JC] at H
      have JP := eq_true JC;have JQ := decide_eq_true JC;try have JR : (9223372036854775807 < (strOfNums Jd).size + Jj.size) = False := eq_false (Nat.not_lt.2 JC)
      obtain rfl := Option.some.inj H;try go_wp2
      have n_ := aI (aM (R_drew Ja.out)) (aM (below_drew1 HB.out));clear Ja HB;obtain ⟨Ja, HB⟩ := n_;refine start_ (n := 6) (S := fun w' => True) (ds := []) #[tF, tF, tF, tF, tF, tF] (by kernel_rfl) rfl rfl trivial (fun hHeld => ?_);generalize wr.drew = J7 at Ja HB hHeld ⊢;refine pure_ (i := 0) (N := some 25) (v := ?_) (a' := ?_) #[tT, tF, tF, tF, tF, tF] rfl rfl (by kernel_rfl) (fun _ _ _ h => h) (Or.inl ⟨by rfl, ?_⟩) ?_ ?_
      rotate_left
      ·intro w'
       go_simp
       (with_reducible rfl)
      rotate_left
      ·simp only [Act.put, List.setIfInBounds_toArray, List.set_cons_zero, List.set_cons_succ, i64_w, i32_w]
       rfl
      refine pure_ (i := 2) (N := some 27) (v := ?_) (a' := ?_) #[tT, tF, tT, tF, tF, tF] rfl rfl (by kernel_rfl) (fun _ _ _ h => h) (Or.inl ⟨by rfl, ?_⟩) ?_ ?_
      rotate_left
      ·intro w'
       go_simp
       (with_reducible rfl)
      rotate_left
      ·simp only [Act.put, List.setIfInBounds_toArray, List.set_cons_zero, List.set_cons_succ, i64_w, i32_w]
       rfl
      refine join_ (σ := Unit) 2 #[true, true, true, true, false, false] (fun s_ => [(26, .string (strOfNums Jd)), (28, .string Jj)]) (fun s_ w' => (Kd.R (Kd.int .u8) 5 w' w.heap.size (fun _ => True) u5 Jd) ∧ (Below w.heap.size w w')) ?_ ?_
      rotate_left
      ·intro hCont
       refine two_ (i := 1) (j := 3) (Ni := some 26) (Nj := some 28) #[true, true, true, false, false, false] #[true, false, true, true, false, false] rfl rfl rfl rfl (by kernel_rfl) (by decide) (by decide) (fun K hK => ?_) (fun K hK => ?_)
       ·skip
        have hcv20 := own_string (P := Try.prog) Try.underlying60 Try.underlying5 Try.underlying9 (Kd.own_of_R Ja.out);refine value_ (w1 := ?_) (v := ?_) (by rfl) rfl ?_ ?_
        rotate_left 2
        ·go_simp
         constructor
         ·rfl
         ·rfl
        clear hcv20;refine hK.out _ _ trivial (fun hHeld => ?_);clear hK K;refine norm_ (a' := ?_) ?_ ?_
        rotate_left
        ·show Act.put _ (some 26) _ = _
         simp only [Act.put, List.setIfInBounds_toArray, List.set_cons_zero, List.set_cons_succ, i64_w, i32_w]
         rfl
        refine one_ (i := 3) (N := some 28) #[tT, tT, tT, tT, tF, tF] rfl rfl (by kernel_rfl) (by decide) (fun K hK => ?_);refine goes_ Try.func131 (by kernel_rfl) rfl #[.int .i64 a1] (by rfl) rfl rfl (by (try simp only [List.map_toArray, List.map_cons, List.map_nil]); first | done | rfl | (simp only [List.length_drop, List.length_take]; rfl)) ?_;(with_reducible refine (spec_l4Four.calls a1 Jj _ JO.out).mono ?_);rintro e J8 ⟨rfl, hb⟩;refine ⟨_, rfl, ?_⟩;have n_ := aI (rB Ja hb) (sB HB hb);clear Ja HB;obtain ⟨Ja, HB⟩ := n_;(try clear hb);(try clear hb2);(try clear hk);(try clear hi);refine hK.out _ _ trivial (fun hHeld => ?_);clear hK K;refine norm_ (a' := ?_) ?_ ?_
        rotate_left
        ·show Act.put _ (some 28) _ = _
         simp only [Act.put, List.setIfInBounds_toArray, List.set_cons_zero, List.set_cons_succ, i64_w, i32_w]
         rfl
        exact norm_ (by simp only [putAll, Act.put, List.setIfInBounds_toArray, List.set_cons_zero, List.set_cons_succ]) (hCont () _ ⟨(rP Ja.out), bB⟩)
       ·skip
        refine goes_ Try.func131 (by kernel_rfl) rfl #[.int .i64 a1] (by rfl) rfl rfl (by (try simp only [List.map_toArray, List.map_cons, List.map_nil]); first | done | rfl | (simp only [List.length_drop, List.length_take]; rfl)) ?_;(with_reducible refine (spec_l4Four.calls a1 Jj _ JO.out).mono ?_);rintro e J9 ⟨rfl, hb⟩;refine ⟨_, rfl, ?_⟩;have n_ := aI (rB Ja hb) (sB HB hb);clear Ja HB;obtain ⟨Ja, HB⟩ := n_;(try clear hb);(try clear hb2);(try clear hk);(try clear hi);refine hK.out _ _ trivial (fun hHeld => ?_);clear hK K;refine norm_ (a' := ?_) ?_ ?_
        rotate_left
        ·show Act.put _ (some 28) _ = _
         simp only [Act.put, List.setIfInBounds_toArray, List.set_cons_zero, List.set_cons_succ, i64_w, i32_w]
         rfl
        refine one_ (i := 1) (N := some 26) #[tT, tT, tT, tT, tF, tF] rfl rfl (by kernel_rfl) (by decide) (fun K hK => ?_);have hcv21 := own_string (P := Try.prog) Try.underlying60 Try.underlying5 Try.underlying9 (Kd.own_of_R Ja.out);refine value_ (w1 := ?_) (v := ?_) (by rfl) rfl ?_ ?_
        rotate_left 2
        ·go_simp
         constructor
         ·rfl
         ·rfl
        clear hcv21;refine hK.out _ _ trivial (fun hHeld => ?_);clear hK K;refine norm_ (a' := ?_) ?_ ?_
        rotate_left
        ·show Act.put _ (some 26) _ = _
         simp only [Act.put, List.setIfInBounds_toArray, List.set_cons_zero, List.set_cons_succ, i64_w, i32_w]
         rfl
        exact norm_ (by simp only [putAll, Act.put, List.setIfInBounds_toArray, List.set_cons_zero, List.set_cons_succ]) (hCont () _ ⟨(rP Ja.out), bB⟩)
      rintro _ JS ⟨h0_, h1_⟩;have JT : Aside0 (Kd.R (Kd.int .u8) 5 JS w.heap.size (fun _ => True) u5 Jd) := ⟨h0_⟩;have JU : Aside0 (Below w.heap.size w JS) := ⟨h1_⟩;clear Ja;clear HB;clear h0_ h1_;have Ja := JT;have HB := JU;clear JT JU;have hHeld := trivial;refine norm_ (a' := ?_) ?_ ?_
      rotate_left
      ·simp only [putAll, Act.put, List.setIfInBounds_toArray, List.set_cons_zero, List.set_cons_succ]
       rfl
      refine pure_ (i := 4) (N := some 29) (v := ?_) (a' := ?_) #[tT, tT, tT, tT, tT, tF] rfl rfl (by kernel_rfl) (fun _ _ _ h => h) (Or.inl ⟨by rfl, ?_⟩) ?_ ?_
      rotate_left
      ·intro w'
       go_simp
       (with_reducible rfl)
      rotate_left
      ·simp only [Act.put, List.setIfInBounds_toArray, List.set_cons_zero, List.set_cons_succ, i64_w, i32_w]
       rfl
      refine pure_ (i := 5) (N := some 4) (v := ?_) (a' := ?_) #[tT, tT, tT, tT, tT, tT] rfl rfl (by kernel_rfl) (fun _ _ _ h => h) (Or.inl ⟨by rfl, ?_⟩) ?_ ?_
      rotate_left
      ·intro w'
       go_simp
       (with_reducible rfl)
      rotate_left
      ·simp only [Act.put, List.setIfInBounds_toArray, List.set_cons_zero, List.set_cons_succ, i64_w, i32_w]
       rfl
      refine done_ (by kernel_rfl) ?_;try go_wp2
      go_ret
      exact ⟨eW, bB⟩
     ·rw [if_neg JC] at H
      exact absurd H (by simp)
 rw [if_neg c4] at H;exact absurd H (by simp)

def spec_HeadText.l0 : Nat → List (S65) → List Int → List ByteArray → Int → Option (ByteArray)
 | 0, _, _, _, _ => none
 | k + 1, x0, x3, x4, x5 => if x5 < (x0.length : Int) then (if 0 ≤ x5 then (if x3.length < 17592186044416 then (if x4.length < 8796093022208 then (spec_HeadText.l0 k x0 (x3 ++ [(rd_T65 x0 x5).f0]) (x4 ++ [(rd_T65 x0 x5).f1]) (wrap64 (x5 + 1))) else (none)) else (none)) else (none)) else ((spec_l4Sum.f k x4).bind fun Jl => ((spec_l4Head.f k x3 Jl).bind fun Js => (some Js)))
def spec_HeadText.f (k : Nat) (l0 : List (S65)) : Option (ByteArray) := (spec_TxOk.f k 48 l0).bind fun Jt => (if Jt = true then (spec_HeadText.l0 k l0 (([] : List Int)) (([] : List ByteArray)) 0) else (some (⟨#[]⟩ : ByteArray)))
theorem spec_HeadText.mono_l : ∀ k, (∀ y0 y1 y2 y3, LeO (spec_HeadText.l0 k y0 y1 y2 y3) (spec_HeadText.l0 (k + 1) y0 y1 y2 y3))
 | 0 => fun _ _ _ _ r h => by simp [spec_HeadText.l0] at h
 | k + 1 => by
  have ih0 := spec_HeadText.mono_l k
  ·intro y0 y1 y2 y3
   unfold spec_HeadText.l0;have m0_ := @spec_TxOk.mono;have m1_ := @spec_l4Head.mono;have m2_ := @spec_l4Sum.mono;exact mM
theorem spec_HeadText.mono : ∀ a0 k, LeO (spec_HeadText.f k a0) (spec_HeadText.f (k + 1) a0) := by
 intro a0 k;have ih0 := spec_HeadText.mono_l k;unfold spec_HeadText.f;have m0_ := @spec_TxOk.mono;have m1_ := @spec_l4Head.mono;have m2_ := @spec_l4Sum.mono;exact mM
theorem spec_HeadText.calls (k : Nat) (A0 : Option Addr) (c0 : Nat) (l0 : List (S65)) (r : ByteArray) (w : World) (hr0 : Kd.C k65 w A0 l0.length l0) (JY : l0.length ≤ c0) (h : spec_HeadText.f k l0 = some r) :
  Calls Try.prog 104 #[.slice A0 l0.length c0] w fun e w' => e = .returned (.string r) ∧ Below w.heap.size w w' := by
 have JM := aM hr0;have JZ := aM JY;clear hr0 JY;have HB := aM (Below.refl w.heap.size w);unfold spec_HeadText.f at h;have H := h;clear h;obtain ⟨Jt, A2, H⟩ := oB H;try dsimp only at H
 by_cases c3 : Jt = true
 ·subst c3
  rw [if_pos rfl] at H;obtain ⟨Ju, Jm⟩ : ∃ y_ : List Int, y_ = (([] : List Int)) := ⟨_, rfl⟩;replace H : (spec_HeadText.l0 k l0 Ju (([] : List ByteArray)) 0) = some r := bQ Jm H;have Jq := aM Jm;clear Jm;obtain ⟨JA, Jn⟩ : ∃ y_ : List ByteArray, y_ = (([] : List ByteArray)) := ⟨_, rfl⟩;replace H : (spec_HeadText.l0 k l0 Ju JA 0) = some r := bQ Jn H;have Jr := aM Jn;clear Jn;have H' := aM H;clear H
  go_enter Try.func104, Try.ntmps104
  go_wp2_with (first | ((with_reducible refine gate_callee (f := 102) rfl ?_); refine gL (some 7) Try.func102 #[.int .i64 48, .slice A0 l0.length c0] ?_; (with_reducible refine (spec_TxOk.calls k 48 _ _ l0 true _ ?side1 ?side2 A2.out).mono ?_); (case side1 => repeat (first | exact JM.out | (with_reducible refine Kd.C_alloc ?_ _) | (with_reducible refine Kd.C_drewN ?_ _) | (with_reducible refine Kd.C_drew ?_))); (case side2 => exact JZ.out); rintro e w' ⟨rfl, ⟨nd, rfl⟩⟩; refine ⟨_, rfl, ?_⟩) | ((with_reducible refine gate_dst (N := 9) rfl ?_); refine R_lit (Kd.int .i64) _ 3 ?hg (N := 9) ?hd (xs := ([] : List Int)) (inner := []) (ok := fun _ => True) (okp := fun _ => True) ?hr ?hp (fun _ hk => hk) trivial (Below.refl _ _) (Nat.le_refl _) (by simp) ?_; (case hd => rfl); (case hg => rfl); (case hr => first | (go_simp; done) | (go_simp; rfl)); (case hp => exact (Reps.none _ _)); intro J0 w4 JB hb hg_ hnew_; clear hg_ hnew_; (first | rw [← Jq.out] at JB | (simp only [Int.reduceToNat] at JB; rw [← Jq.out] at JB)); have n_ := aI (lR HB JB) (sB HB hb); clear HB; obtain ⟨Jj, HB⟩ := n_; (try clear hb JB)) | ((with_reducible refine gate_dst (N := 10) rfl ?_); refine R_lit Kd.string _ 9 ?hg (N := 10) ?hd (xs := ([] : List ByteArray)) (inner := []) (ok := fun _ => True) (okp := fun _ => True) ?hr ?hp (fun _ hk => hk) trivial (Below.refl _ _) (Nat.le_refl _) (by simp) ?_; (case hd => rfl); (case hg => rfl); (case hr => first | (go_simp; done) | (go_simp; rfl)); (case hp => exact (Reps.none _ _)); intro J1 w6 JC hb hg_ hnew_; clear hg_ hnew_; (first | rw [← Jr.out] at JC | (simp only [Int.reduceToNat] at JC; rw [← Jr.out] at JC)); have n_ := aI (rB Jj hb) (aI (lR HB JC) (sB HB hb)); clear Jj HB; obtain ⟨Jj, JD, HB⟩ := n_; (try clear hb JC)))
  go_loopg [3, 4, 5] k (fun kq v3 v4 v5 w' => ∃ (Ji : List Int) (Jd : List ByteArray) (Ja : Int), v5 = .int .i64 Ja ∧ Aside0 (spec_HeadText.l0 kq l0 Ji Jd Ja = some r) ∧ Aside0 (kq ≤ k) ∧ Aside0 (Kd.R (Kd.int .i64) 3 w' w.heap.size (fun _ => True) v3 Ji) ∧ Aside0 (Kd.R Kd.string 9 w' w.heap.size (fun _ => True) v4 Jd) ∧ Aside0 (Below w.heap.size w w'))
  case atStart => exact ⟨(Ju), (JA), (0), eV, H', ⟨Nat.le_refl _⟩, ⟨rP Jj.out⟩, ⟨rP JD.out⟩, ⟨bB⟩⟩
  case round =>
   clear H';obtain ⟨Ji, Jd, Ja, rfl, HA, HK1, Jc, Jb, HB⟩ := hrel
   cases gk with
   | zero => exact absurd HA.out (by simp [spec_HeadText.l0])
   | succ k1 =>
    have H := HA.out;clear HA;simp only [spec_HeadText.l0] at H
    by_cases c8 : Ja < (l0.length : Int)
    ·rw [if_pos c8] at H
     have JP := decide_eq_true c8;clear c8
     by_cases c9 : 0 ≤ Ja
     ·rw [if_pos c9] at H
      have J2 := decide_eq_true c9;clear c9
      by_cases JN : Ji.length < 17592186044416
      ·rw [if_pos JN] at H
       have JE := aM JN;clear JN;obtain ⟨Jv, Jo⟩ : ∃ y_ : List Int, y_ = (Ji ++ [(rd_T65 l0 Ja).f0]) := ⟨_, rfl⟩;replace H : (if Jd.length < 8796093022208 then (spec_HeadText.l0 k1 l0 Jv (Jd ++ [(rd_T65 l0 Ja).f1]) (wrap64 (Ja + 1))) else (none)) = some r := bQ Jo H;have JF := aM Jo;clear Jo
       by_cases JO : Jd.length < 8796093022208
       ·rw [if_pos JO] at H
        have JG := aM JO;clear JO;obtain ⟨JH, Jp⟩ : ∃ y_ : List ByteArray, y_ = (Jd ++ [(rd_T65 l0 Ja).f1]) := ⟨_, rfl⟩;replace H : (spec_HeadText.l0 k1 l0 Jv JH (wrap64 (Ja + 1))) = some r := bQ Jp H;have JI := aM Jp;clear Jp;have H' := aM H;clear H;have Jw : 0 ≤ (Ja : Int) := dT;have Jx : Ja < (l0.length : Int) := dT;obtain ⟨JJ, JQ, Je, Jf⟩ := at_T65 JM.out Ja Jw Jx;cases JQ
        replace Je := (HB.out.cell (World.block_lt_of_cell? w _ Je)).trans Je;replace Jf := (HB.out.cell (World.block_lt_of_cell? w _ Jf)).trans Jf;replace Jw := eq_true Jw;replace Jx := eq_true Jx
        go_wp2_with (first | ((with_reducible refine gate_builtin (b := .append) (xs := #[.tmp 17, .tmp 23]) rfl ?_); at_builtin; refine R_append (Kd.int .i64) (w0 := w) w.heap.size rfl (.tmp 17) (.tmp 23) 95 3 (.int .i64 0) 8 rfl Try.underlying95 info3 rfl (by decide) (by omega) u3 Ji ((rd_T65 l0 Ja).f0) [.int .i64 ((rd_T65 l0 Ja).f0)] (fun _ => True) (fun _ => False) rfl rfl ?aP (fun _ hk => hk.elim) ?aF ?aO ?aB ?aS ?aL ?_; (case aP => exact rfl); (case aB => exact bB); (case aF => exact (fun _ _ => trivial)); (case aO => exact (rP Jc.out)); (case aS => exact (zB HB)); (case aL => have := JE.out; omega); intro J3 J7 ho hb hg hat; rw [← JF.out] at ho; have n_ := aI (aM (R_over' (rP Jb.out) (R_typed (rP Jc.out)) (by decide) hg)) (aI (aM (hb)) (aM (ho))); clear Jb HB Jc; obtain ⟨Jb, HB, Jk⟩ := n_; (try clear ho hb hg hat); have Jy : 0 ≤ (Ja : Int) := dT; have Jz : Ja < (l0.length : Int) := dT; obtain ⟨JK, JR, Jg, Jh⟩ := at_T65 JM.out Ja Jy Jz; obtain rfl : JJ = JK := (by injection JR); replace Jg := (HB.out.cell (World.block_lt_of_cell? w _ Jg)).trans Jg; replace Jh := (HB.out.cell (World.block_lt_of_cell? w _ Jh)).trans Jh; replace Jy := eq_true Jy; replace Jz := eq_true Jz) | ((with_reducible refine gate_builtin (b := .append) (xs := #[.tmp 25, .tmp 31]) rfl ?_); at_builtin; refine R_append Kd.string (w0 := w) w.heap.size rfl (.tmp 25) (.tmp 31) 22 9 (.string ⟨#[]⟩) 16 rfl Try.underlying22 info9 rfl (by decide) (by omega) u4 Jd ((rd_T65 l0 Ja).f1) [.string ((rd_T65 l0 Ja).f1)] (fun _ => True) (fun _ => False) rfl rfl ?aP (fun _ hk => hk.elim) ?aF ?aO ?aB ?aS ?aL ?_; (case aP => exact rfl); (case aB => exact bB); (case aF => exact (fun _ _ => trivial)); (case aO => exact (rP Jb.out)); (case aS => exact (zB HB)); (case aL => have := JG.out; omega); intro J4 J8 ho hb hg hat; rw [← JI.out] at ho; have n_ := aI (aM (R_over' (rP Jk.out) (R_typed (rP Jb.out)) (by decide) hg)) (aI (aM (hb)) (aM (ho))); clear Jk HB Jb; obtain ⟨Jk, HB, JL⟩ := n_; (try clear ho hb hg hat)))
        go_roundg k1
        case measure => have := HK1.out; omega
        case rel => exact ⟨(Jv), (JH), (wrap64 (Ja + 1)), eV, H', ⟨by have := HK1.out; omega⟩, ⟨rP Jk.out⟩, ⟨rP JL.out⟩, ⟨bB⟩⟩
       ·rw [if_neg JO] at H
        exact absurd H (by simp)
      ·rw [if_neg JN] at H
       exact absurd H (by simp)
     ·rw [if_neg c9] at H
      exact absurd H (by simp)
    ·rw [if_neg c8] at H
     have JP := decide_eq_false c8;clear c8;obtain ⟨Jl, J5, H⟩ := oB H;try dsimp only at H
     obtain ⟨Js, J6, H⟩ := oB H;try dsimp only at H
     obtain rfl := Option.some.inj H;obtain ⟨JS, JT, JU⟩ := R_slice Jb.out;subst JU
     go_wp2_with (first | ((with_reducible refine gate_callee (f := 85) rfl ?_); refine gL (some 35) Try.func85 #[.slice JS Jd.length JT] ?_; (with_reducible refine (spec_l4Sum.calls k1 _ _ Jd Jl _ ?side1 ?side2 J5.out).mono ?_); (case side1 => exact cR Jb); (case side2 => exact (R_reads' Jb.out).2.1); rintro e J9 ⟨rfl, hb⟩; refine ⟨_, rfl, ?_⟩; have n_ := aI (rB Jc hb) (aI (rB Jb hb) (sB HB hb)); clear Jc Jb HB; obtain ⟨Jc, Jb, HB⟩ := n_; (try clear hb); obtain ⟨JV, JW, JX⟩ := R_slice Jc.out; subst JX) | ((with_reducible refine gate_callee (f := 128) rfl ?_); refine gL (some 36) Try.func128 #[.slice JV Ji.length JW, .int .i64 Jl] ?_; (with_reducible refine (spec_l4Head.calls k1 _ _ Ji Jl Js _ ?side1 ?side2 J6.out).mono ?_); (case side1 => exact cR Jc); (case side2 => exact (R_reads' Jc.out).2.1); rintro e Ua ⟨rfl, hb⟩; refine ⟨_, rfl, ?_⟩; have n_ := aI (rB Jc hb) (aI (rB Jb hb) (sB HB hb)); clear Jc Jb HB; obtain ⟨Jc, Jb, HB⟩ := n_; (try clear hb)))
     go_ret
     exact ⟨eW, bB⟩
 replace c3 := Bool.eq_false_iff.mpr c3;subst c3;rw [if_neg (show ¬ (false = true) by decide)] at H;obtain rfl := Option.some.inj H
 go_enter Try.func104, Try.ntmps104
 go_wp2_with (first | ((with_reducible refine gate_callee (f := 102) rfl ?_); refine gL (some 7) Try.func102 #[.int .i64 48, .slice A0 l0.length c0] ?_; (with_reducible refine (spec_TxOk.calls k 48 _ _ l0 false _ ?side1 ?side2 A2.out).mono ?_); (case side1 => repeat (first | exact JM.out | (with_reducible refine Kd.C_alloc ?_ _) | (with_reducible refine Kd.C_drewN ?_ _) | (with_reducible refine Kd.C_drew ?_))); (case side2 => exact JZ.out); rintro e w' ⟨rfl, ⟨nd, rfl⟩⟩; refine ⟨_, rfl, ?_⟩))
 go_ret
 exact ⟨eW, bB⟩

end Go.Proofs.Ytgmpdkefegofhaa.PFnAtomic
