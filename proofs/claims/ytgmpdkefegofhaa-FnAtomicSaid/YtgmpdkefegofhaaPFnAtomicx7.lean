-- printed
import Derived.Test.YtgmpdkefegofhaaPFnAtomicx0
import Derived.Test.YtgmpdkefegofhaaPFnAtomicx3
import Derived.Test.YtgmpdkefegofhaaPFnAtomicx4
import Derived.Test.YtgmpdkefegofhaaPFnAtomicx6
namespace Go.Proofs.Ytgmpdkefegofhaa.PFnAtomic
open Go.RowKit Go.Proofs.YtgmpdkefegofhaaW.PrintWords Go.Proofs.YtgmpdkefegofhaaW.PrintLast Go.Proofs.YtgmpdkefegofhaaW.PrintMore Go.Proofs.YtgmpdkefegofhaaW.Cr
open Go.Proofs.YtgmpdkefegofhaaW.PrintWords.Kd (Q_ne Q_types R_after R_alloc R_append_rows R_below R_celln R_drew R_drewN R_far R_form R_lit R_lower R_mono R_ne R_new' R_over' R_putg R_putn R_reads' R_slice R_typed R_types)
attribute [local go_sem] max2_int min2_int max_two min_two max_three min_three max_four min_four
set_option maxHeartbeats 8000000
set_option maxRecDepth 100000
set_option linter.unusedVariables false
set_option linter.unusedSimpArgs false

def impl_dataSum.l0 : Nat → List Int → List ByteArray → Int → Int → Option (Int)
 | 0, _, _, _, _ => none
 | k + 1, x3, x7, x8, x9 => if x9 < x8 then (if 0 ≤ x9 then (if x9 < (x7.length : Int) then ((impl_PutText.f k (rdOf ByteArray.empty x7 x9)).bind fun Je => (if x3.length + Je.length < 140737488355328 then (impl_dataSum.l0 k (x3 ++ Je) x7 x8 (wrap64 (x9 + 1))) else (none))) else (none)) else (none)) else ((impl_Crc.f k x3).bind fun Jj => (some Jj))
def impl_dataSum.f (k : Nat) (l0 : List ByteArray) : Option (Int) := impl_dataSum.l0 k (([] : List Int)) l0 (l0.length : Int) 0
theorem impl_dataSum.mono_l : ∀ k, (∀ y0 y1 y2 y3, LeO (impl_dataSum.l0 k y0 y1 y2 y3) (impl_dataSum.l0 (k + 1) y0 y1 y2 y3))
 | 0 => fun _ _ _ _ r h => by simp [impl_dataSum.l0] at h
 | k + 1 => by
  have ih0 := impl_dataSum.mono_l k
  ·intro y0 y1 y2 y3
   unfold impl_dataSum.l0;have m0_ := @impl_Crc.mono;have m1_ := @impl_PutText.mono;exact mM
theorem impl_dataSum.mono : ∀ a0 k, LeO (impl_dataSum.f k a0) (impl_dataSum.f (k + 1) a0) := by
 intro a0 k;have ih0 := impl_dataSum.mono_l k;unfold impl_dataSum.f;have m0_ := @impl_Crc.mono;have m1_ := @impl_PutText.mono;exact mM
theorem impl_dataSum.calls (k : Nat) (A0 : Option Addr) (c0 : Nat) (l0 : List ByteArray) (r : Int) (w : World) (hr0 : Kd.C Kd.string w A0 l0.length l0) (JC : l0.length ≤ c0) (h : impl_dataSum.f k l0 = some r) :
  Calls Try.prog 87 #[.slice A0 l0.length c0] w fun e w' => e = .returned (.int .i64 r) ∧ Below w.heap.size w w' := by
 have JE := aM hr0;have JL := aM JC;clear hr0 JC;have HB := aM (Below.refl w.heap.size w);unfold impl_dataSum.f at h;have H := h;clear h;obtain ⟨Jm, Jg⟩ : ∃ y_ : List Int, y_ = (([] : List Int)) := ⟨_, rfl⟩;replace H : (impl_dataSum.l0 k Jm l0 (l0.length : Int) 0) = some r := bQ Jg H;have Ji := aM Jg;clear Jg;have H' := aM H;clear H
 go_enter Try.func87, Try.ntmps87
 go_wp2_with (first | ((with_reducible refine gate_dst (N := 6) rfl ?_); refine R_lit (Kd.int .u8) _ 5 ?hg (N := 6) ?hd (xs := ([] : List Int)) (inner := []) (ok := fun _ => True) (okp := fun _ => True) ?hr ?hp (fun _ hk => hk) trivial (Below.refl _ _) (Nat.le_refl _) (by simp) ?_; (case hd => rfl); (case hg => rfl); (case hr => first | (go_simp; done) | (go_simp; rfl)); (case hp => exact (Reps.none _ _)); intro JF w2 Jn hb hg_ hnew_; clear hg_ hnew_; (first | rw [← Ji.out] at Jn | (simp only [Int.reduceToNat] at Jn; rw [← Ji.out] at Jn)); have n_ := aI (lR HB Jn) (sB HB hb); clear HB; obtain ⟨Jo, HB⟩ := n_; (try clear hb Jn)))
 go_loopg [3, 9] k (fun kq v3 v9 w' => ∃ (Jf : List Int) (Ja : Int), v9 = .int .i64 Ja ∧ Aside0 (impl_dataSum.l0 kq Jf l0 (l0.length : Int) Ja = some r) ∧ Aside0 (kq ≤ k) ∧ Aside0 (Kd.R (Kd.int .u8) 5 w' w.heap.size (fun _ => True) v3 Jf) ∧ Aside0 (Below w.heap.size w w'))
 case atStart => exact ⟨(Jm), (0), eV, H', ⟨Nat.le_refl _⟩, ⟨rP Jo.out⟩, ⟨bB⟩⟩
 case round =>
  clear H';obtain ⟨Jf, Ja, rfl, HA, HK1, Jc, HB⟩ := hrel
  cases gk with
  | zero => exact absurd HA.out (by simp [impl_dataSum.l0])
  | succ k1 =>
   have H := HA.out;clear HA;simp only [impl_dataSum.l0] at H
   by_cases c4 : Ja < (l0.length : Int)
   ·rw [if_pos c4] at H
    have Js := decide_eq_true c4;clear c4
    by_cases c5 : 0 ≤ Ja
    ·rw [if_pos c5] at H
     have JG := decide_eq_true c5;clear c5
     by_cases c6 : Ja < (l0.length : Int)
     ·rw [if_pos c6] at H
      have JH := decide_eq_true c6;clear c6;obtain ⟨Je, A7, H⟩ := oB H;try dsimp only at H
      by_cases c8 : Jf.length + Je.length < 140737488355328
      ·rw [if_pos c8] at H
       have Jt := aM c8;clear c8;obtain ⟨Jp, Jh⟩ : ∃ y_ : List Int, y_ = (Jf ++ Je) := ⟨_, rfl⟩;replace H : (impl_dataSum.l0 k1 Jp l0 (l0.length : Int) (wrap64 (Ja + 1))) = some r := bQ Jh H;have Jq := aM Jh;clear Jh;have H' := aM H;clear H;have Jk : 0 ≤ (Ja : Int) := dT;have Jl : Ja < (l0.length : Int) := dT;obtain ⟨JD, Ju, Jd⟩ := Kd.at_string JE.out Ja Jk Jl;cases Ju
       replace Jd := (HB.out.cell (World.block_lt_of_cell? w _ Jd)).trans Jd;replace Jk := eq_true Jk;replace Jl := eq_true Jl
       go_wp2_with (first | ((with_reducible refine gate_callee (f := 117) rfl ?_); refine gL (some 15) Try.func117 #[.string (rdOf ByteArray.empty l0 Ja)] ?_; (with_reducible refine (impl_PutText.calls k1 (rdOf ByteArray.empty l0 Ja) Je _ A7.out).mono ?_); rintro e w9 ⟨JI, rfl, Jv, hb⟩; refine ⟨_, rfl, ?_⟩; have n_ := aI (eR Jc Jv hb) (aI (aM (R_lower (R_new' Jv (rL Jc)) (zB HB))) (sB HB hb)); clear Jc HB; obtain ⟨Jc, Jb, HB⟩ := n_; (try clear hb Jv); obtain ⟨Jw, Jx, Jy⟩ := R_slice Jb.out; subst Jy) | ((with_reducible refine gate_builtin (b := .append) (xs := #[.tmp 13, .tmp 15]) rfl ?_); at_builtin; refine R_append_rows (Kd.int .u8) (w0 := w) w.heap.size rfl (.tmp 13) (.tmp 15) 60 5 (.int .u8 0) 1 rfl Try.underlying60 info5 rfl (by decide) (by omega) u3 Jf Je _ _ _ (fun k_ => some k_ ≠ (.slice Jw Je.length Jx : Value).ownBlock) (fun _ => False) rfl rfl ?aO ?aR (fun _ _ h => h) (fun _ h => h.elim) ?aF ?aB ?aS ?aL ?_; (case aR => exact cR Jb); (case aB => exact bB); (case aF => exact (fun k_ hk => Kd.fresh' (rL Jb) k_ hk)); (case aO => exact (rP (R_mono Jc.out s2))); (case aS => exact (zB HB)); (case aL => have := Jt.out; omega); intro JJ JM ho hb hg hat; rw [← Jq.out] at ho; have n_ := aI (aM (R_after (ok := (fun _ => True)) (rP Jb.out) hg hat)) (aI (aM (hb)) (aM (ho))); clear Jb HB Jc; obtain ⟨Jb, HB, Jr⟩ := n_; (try clear ho hb hg hat)))
       go_roundg k1
       case measure => have := HK1.out; omega
       case rel => exact ⟨(Jp), (wrap64 (Ja + 1)), eV, H', ⟨by have := HK1.out; omega⟩, ⟨rP (R_mono Jr.out sT)⟩, ⟨bB⟩⟩
      ·rw [if_neg c8] at H
       exact absurd H (by simp)
     ·rw [if_neg c6] at H
      exact absurd H (by simp)
    ·rw [if_neg c5] at H
     exact absurd H (by simp)
   ·rw [if_neg c4] at H
    have Js := decide_eq_false c4;clear c4;obtain ⟨Jj, JK, H⟩ := oB H;try dsimp only at H
    obtain rfl := Option.some.inj H;obtain ⟨Jz, JA, JB⟩ := R_slice Jc.out;subst JB
    go_wp2_with (first | ((with_reducible refine gate_callee (f := 118) rfl ?_); refine gL (some 19) Try.func118 #[.slice Jz Jf.length JA] ?_; (with_reducible refine (impl_Crc.calls k1 _ _ Jf Jj _ ?side1 ?side2 JK.out).mono ?_); (case side1 => exact cR Jc); (case side2 => exact (R_reads' Jc.out).2.1); rintro e w' ⟨rfl, ⟨nd, rfl⟩⟩; refine ⟨_, rfl, ?_⟩))
    go_ret
    exact ⟨eW, bB⟩

mutual
def impl_Recover.j0 : Nat → Int → List Int → Bool → List ByteArray → List (S65) → Option (List ByteArray × (List (S65)))
 | 0, _, _, _, _, _ => none
 | k + 1, x1, x6, Xm, Jl, JC => if Xm = true then (impl_Recover.l0 k x1 x6 (x6.length : Int) 0 Jl JC) else (if 0 < (Jl.length : Int) then (some ((Jl.set (0 : Int).toNat (⟨#[]⟩ : ByteArray)), JC)) else (none))
def impl_Recover.l0 : Nat → Int → List Int → Int → Int → List ByteArray → List (S65) → Option (List ByteArray × (List (S65)))
 | 0, _, _, _, _, _, _ => none
 | k + 1, x1, UB, VC, J9, Jl, JC => if J9 < VC then (if 0 ≤ J9 then (if J9 < (UB.length : Int) then (if 0 ≤ (wrap64 (1 + J9)) then (if (wrap64 (1 + J9)) < (Jl.length : Int) then (if 0 ≤ (wrap64 ((wrap64 (x1 + 1)) + (rd UB J9))) then (if (wrap64 ((wrap64 (x1 + 1)) + (rd UB J9))) < (Jl.length : Int) then (impl_Recover.l0 k x1 UB VC (wrap64 (J9 + 1)) (Jl.set ((wrap64 ((wrap64 (x1 + 1)) + (rd UB J9))) : Int).toNat (rdOf ByteArray.empty Jl (wrap64 (1 + J9)))) JC) else (none)) else (none)) else (none)) else (none)) else (none)) else (none)) else (if 0 < (Jl.length : Int) then (some ((Jl.set (0 : Int).toNat (⟨#[]⟩ : ByteArray)), JC)) else (none))
end
def impl_Recover.f (k : Nat) (Jn : List ByteArray) (Jo : List (S65)) (a1 : Int) : Option (List ByteArray × (List (S65))) := (impl_homed.f Jn Jo a1).bind fun Uk => (if Uk = true then ((impl_Fall.f k Jn Jo ([] : List Bool)).bind fun JE => (if 0 < (JE.1.length : Int) then ((impl_HeadOf.f k (rdOf ByteArray.empty JE.1 0) a1).bind fun JJ => (if JJ.2.2 = true then (if 1 ≤ (wrap64 (1 + (JJ.1.length : Int))) then (if (wrap64 (1 + (JJ.1.length : Int))) ≤ (JE.1.length : Int) then ((impl_dataSum.f k ((JE.1.take ((wrap64 (1 + (JJ.1.length : Int))) : Int).toNat).drop 1)).bind fun JY => (impl_Recover.j0 k a1 JJ.1 (JY == JJ.2.1) JE.1 JE.2)) else (none)) else (none)) else (impl_Recover.j0 k a1 JJ.1 false JE.1 JE.2))) else (none))) else ((impl_cloneDisk.f Jn Jo).bind fun Ud => (some (Ud.1, Ud.2))))
theorem impl_Recover.mono_l : ∀ k, (∀ y0 y1 y2 y3 y4, LeO (impl_Recover.j0 k y0 y1 y2 y3 y4) (impl_Recover.j0 (k + 1) y0 y1 y2 y3 y4)) ∧ (∀ y0 y1 y2 y3 y4 y5, LeO (impl_Recover.l0 k y0 y1 y2 y3 y4 y5) (impl_Recover.l0 (k + 1) y0 y1 y2 y3 y4 y5))
 | 0 => ⟨fun _ _ _ _ _ r h => by simp [impl_Recover.j0] at h, fun _ _ _ _ _ _ r h => by simp [impl_Recover.l0] at h⟩
 | k + 1 => by
  obtain ⟨ih0, ih1⟩ := impl_Recover.mono_l k;refine ⟨?_, ?_⟩
  ·intro y0 y1 y2 y3 y4
   unfold impl_Recover.j0;have m0_ := @impl_Fall.mono;have m1_ := @impl_HeadOf.mono;have m2_ := @impl_dataSum.mono;exact mM
  ·intro y0 y1 y2 y3 y4 y5
   unfold impl_Recover.l0;have m0_ := @impl_Fall.mono;have m1_ := @impl_HeadOf.mono;have m2_ := @impl_dataSum.mono;exact mM
theorem impl_Recover.mono : ∀ a0 a1 a2 k, LeO (impl_Recover.f k a0 a1 a2) (impl_Recover.f (k + 1) a0 a1 a2) := by
 intro a0 a1 a2 k;obtain ⟨ih0, ih1⟩ := impl_Recover.mono_l k;unfold impl_Recover.f;have m0_ := @impl_Fall.mono;have m1_ := @impl_HeadOf.mono;have m2_ := @impl_dataSum.mono;exact mM
def impl_Recover.T9 : Bool × List (List Nat × List Nat) := (true, [([], []), ([0], [0]), ([], []), ([2], [2]), ([], []), ([3, 4], [3, 4]), ([], []), ([6], [6]), ([], []), ([8], [8]), ([7, 9], [7, 9]), ([10], [10]), ([1, 5, 0, 1, 2, 3, 4, 5, 6, 7, 8, 9, 10, 11], [1, 5]), ([12, 11, 0, 1, 2, 3, 4, 5, 6, 7, 8, 9, 10, 11], [11, 12])])
def impl_Recover.B9 : List Nat := [0, 1, 0, 4, 0, 28, 0, 64, 0, 256, 960, 1984, 4095, 8191]
theorem impl_Recover.tab9 : rtab .any (opsOf Try.f45 9) = impl_Recover.T9 := by kernel_rfl
theorem impl_Recover.bits9 : waitsOk impl_Recover.T9.2 impl_Recover.B9 = true := by kernel_rfl
theorem impl_Recover.calls (k : Nat) (JF : Option Addr) (JG : Nat) (Jn : List ByteArray) (JH : Option Addr) (JI : Nat) (Jo : List (S65)) (a1 : Int) (r1 : List ByteArray) (r2 : List (S65)) (w : World) (hr0_0 : Kd.C Kd.string w JF Jn.length Jn) (Ue : Jn.length ≤ JG) (hr0_1 : Kd.C k65 w JH Jo.length Jo) (Uf : Jo.length ≤ JI) (h : impl_Recover.f k Jn Jo a1 = some (r1, r2)) :
  Calls Try.prog 45 #[.agg #[.slice JF Jn.length JG, .slice JH Jo.length JI], .int .i64 a1] w fun e w' => ∃ VD VE : Value, e = .returned (.agg #[VD, VE]) ∧ Kd.R Kd.string 9 w' w.heap.size (fun _ => True) VD r1 ∧ Kd.R k65 65 w' w.heap.size (fun _ => True) VE r2 ∧ Below w.heap.size w w' := by
 have hu30 := Try.underlying30;have JT := aM hr0_0;have JU := aM Ue;clear hr0_0 Ue;have JV := aM hr0_1;have JW := aM Uf;clear hr0_1 Uf;have HB := aM (Below.refl w.heap.size w);unfold impl_Recover.f at h;have H := h;clear h;obtain ⟨Uk, A3, H⟩ := oB H;try dsimp only at H
 by_cases c4 : Uk = true
 ·subst c4
  rw [if_pos rfl] at H;obtain ⟨⟨Jg, Jk⟩, A5, H⟩ := oB H;try dsimp only at H
  by_cases c6 : 0 < (Jg.length : Int)
  ·rw [if_pos c6] at H
   have Xn := decide_eq_true c6;have Xo : decide (0 < Jg.length) = true := decide_eq_true (by omega);clear c6;obtain ⟨⟨Jh, Ul, UC⟩, A7, H⟩ := oB H;try dsimp only at H
   have Vb := aM H;clear H
   go_enter Try.func45, Try.ntmps45
   go_upto_region 5 with (first | ((with_reducible refine gate_dst (N := 2) rfl ?_); (try (refine gate_guard (by rfl) ?_; dsimp only)); refine box_event ?hg (N := 2) ?hd (cs := #[.slice JF Jn.length JG, .slice JH Jo.length JI]) (t := 30) ?hr ?_; (case hd => rfl); (case hg => rfl); (case hr => first | (go_simp; done) | (go_simp; rfl)); intro JQ hg w9 hbox hb; have n_ := aI (sB HB hb) (aI (aM hbox) (aI (gE HB hg) (gE HB hg))); clear HB; obtain ⟨HB, Jc, UD, UE⟩ := n_; (try clear hb hbox hg)) | ((with_reducible refine gate_dst (N := 4) rfl ?_); (try (refine gate_guard (by rfl) ?_; dsimp only)); refine box_event ?hg (N := 4) ?hd (cs := #[.slice none 0 0, .slice none 0 0]) (t := 30) ?hr ?_; (case hd => rfl); (case hg => rfl); (case hr => first | (go_simp; done) | (go_simp; rfl)); intro Ji hg XL hbox hb; have n_ := aI (kB Jc hb) (aI (sB HB hb) (aI (aM hbox) (aI (gE HB hg) (aI (gE HB hg) (aI (nL Jc hg) (nG Jc hg)))))); clear Jc HB; obtain ⟨Jc, HB, Jd, UF, UG, Jq, Jr⟩ := n_; (try clear hb hbox hg); have VF := Jq.out; have VG := Jr.out; obtain ⟨_, _, _, _⟩ := z2 Jc) | ((with_reducible refine gate_callee (f := 71) rfl ?_); refine gL (some 13) Try.func71 #[.agg #[.slice JF Jn.length JG, .slice JH Jo.length JI], .int .i64 a1] ?_; (with_reducible refine (impl_homed.calls _ _ Jn _ _ Jo a1 true _ ?side1 ?side2 ?side3 ?side4 A3.out).mono ?_); (case side1 => exact cS JT HB); (case side2 => exact JU.out); (case side3 => exact cS JV HB); (case side4 => exact JW.out); rintro e XM ⟨rfl, hb⟩; refine ⟨_, rfl, ?_⟩; have n_ := aI (kB Jc hb) (aI (kB Jd hb) (sB HB hb)); clear Jc Jd HB; obtain ⟨Jc, Jd, HB⟩ := n_; (try clear hb); obtain ⟨_, _, _, _⟩ := z2 Jc) | ((with_reducible refine gate_callee (f := 35) rfl ?_); refine gL (some 18) Try.func35 #[.agg #[.slice JF Jn.length JG, .slice JH Jo.length JI], .slice none 0 0] ?_; (refine (impl_Fall.calls k _ _ Jn _ _ Jo _ _ ([] : List Bool) Jg Jk _ ?side1 ?side2 ?side3 ?side4 ?side5 ?side6 A5.out).mono ?_); (case side1 => exact cS JT HB); (case side2 => exact JU.out); (case side3 => exact cS JV HB); (case side4 => exact JW.out); (case side5 => exact Kd.C_nil _ _); (case side6 => exact Nat.le_refl _); rintro e XN ⟨Xp, Xq, rfl, Ug, UH, hb⟩; refine ⟨_, rfl, ?_⟩; have n_ := aI (lR HB Ug) (aI (lR HB UH) (aI (kB Jc hb) (aI (kB Jd hb) (sB HB hb)))); clear Jc Jd HB; obtain ⟨Jm, Jv, Jc, Jd, HB⟩ := n_; (try clear hb Ug UH)) | ((with_reducible refine gate_dst (N := 5) rfl ?_); (try (refine gate_guard (by rfl) ?_; dsimp only)); refine box_event ?hg (N := 5) ?hd (cs := #[.slice none 0 0, .slice none 0 0]) (t := 30) ?hr ?_; (case hd => rfl); (case hg => rfl); (case hr => first | (go_simp; done) | (go_simp; rfl)); intro Jp hg XO hbox hb; have n_ := aI (rB Jm hb) (aI (rB Jv hb) (aI (kB Jc hb) (aI (kB Jd hb) (aI (sB HB hb) (aI (aM hbox) (aI (gE HB hg) (aI (gE HB hg) (aI (nL Jc hg) (aI (nG Jc hg) (aI (nL Jd hg) (nG Jd hg))))))))))); clear Jm Jv Jc Jd HB; obtain ⟨Jm, Jv, Jc, Jd, HB, Je, VH, VI, Jy, Jz, JA, JB⟩ := n_; (try clear hb hbox hg); obtain ⟨Xr, Jt, Vc⟩ := R_slice Jm.out; subst Vc; have VJ := Jz.out; have VK := Jy.out; have VL := JB.out; have VM := JA.out; obtain ⟨_, _, _, _⟩ := z2 Je; obtain ⟨Jw, Jx, Vd⟩ := R_slice Jv.out; subst Vd; have Um : 0 ≤ (0 : Int) := (by omega); have Un : 0 < (Jg.length : Int) := dT; obtain ⟨Js, Ve, Ju⟩ := Kd.at_string (R_reads' Jm.out).2.2 0 Um Un; cases Ve; have qi297 : (0 < Jg.length) = True := eq_true (by omega); (try rw [show ((0 : Int)).toNat = 0 from rfl] at Ju); (try rw [Addr.add_zero'] at Ju); have hn297_0 : Js.block ≠ Jp := Kd.own_blk (R_ne Jm.out Je.out (by decide)); have hn297_1 : Js.block ≠ Jp := Kd.own_blk (R_ne Jm.out Je.out (by decide)); replace Ju := (cell_far (p := ⟨Jp, 0, none⟩) (by first | (rw [add_block]; exact hn297_0) | (show (Addr.add _ _).block ≠ _; rw [add_block]; exact hn297_0) | exact hn297_0) (.slice (some Js) Jg.length Jt)).trans Ju; replace Ju := (cell_far (p := ⟨Jp, 1, none⟩) (by first | (rw [add_block]; exact hn297_1) | (show (Addr.add _ _).block ≠ _; rw [add_block]; exact hn297_1) | exact hn297_1) (.slice Jw Jk.length Jx)).trans Ju; clear hn297_0; clear hn297_1; replace Um := eq_true Um; replace Un := eq_true Un) | ((with_reducible refine gate_callee (f := 86) rfl ?_); refine gL (some 25) Try.func86 #[.string (rdOf ByteArray.empty Jg 0), .int .i64 a1] ?_; (with_reducible refine (impl_HeadOf.calls k (rdOf ByteArray.empty Jg 0) a1 Jh Ul UC _ A7.out).mono ?_); rintro e XP ⟨Vf, rfl, Ug, hb⟩; refine ⟨_, rfl, ?_⟩; have n_ := aI (aM (R_below (rP (R_mono (fR Jp 1 (fR Jp 0 (R_types Jm.out Je.out (by decide)) s2 (.slice (some Js) Jg.length Jt)) s2 (.slice Jw Jk.length Jx)) s1)) hb)) (aI (aM (R_below (rP (R_mono (fR Jp 1 (fR Jp 0 (R_types Jv.out Je.out (by decide)) s2 (.slice (some Js) Jg.length Jt)) s2 (.slice Jw Jk.length Jx)) s1)) hb)) (aI (lR HB Ug) (aI (kB Jc hb) (aI (kB Jd hb) (aI (aM (blk_below (g := Jp) (o := .cells #[.slice (some Js) Jg.length Jt, .slice Jw Jk.length Jx] 30 (0, 0)) (pU Je) hb)) (sB HB hb)))))); clear Jm Jv Jc Jd Je HB; obtain ⟨Jm, Jv, JK, Jc, Jd, Je, HB⟩ := n_; (try clear hb Ug)))
   (try simp only [Act.put, List.setIfInBounds_toArray, List.set_cons_zero, List.set_cons_succ])
   go_cut [40] (fun Xs wc => ∃ (kq : Nat) (JX : Bool), Xs = .bool JX ∧ Aside0 (impl_Recover.j0 kq a1 Jh JX Jg Jk = some (r1, r2)) ∧ Aside0 (kq ≤ k) ∧ Aside0 (Kd.R (Kd.int .i64) 3 wc w.heap.size (fun _ => True) Vf Jh) ∧ Aside0 (Kd.R Kd.string 9 wc w.heap.size (fun _ => True) (.slice (some Js) Jg.length Jt) Jg) ∧ Aside0 (Kd.R k65 65 wc w.heap.size (fun _ => True) (.slice Jw Jk.length Jx) Jk) ∧ Aside0 (wc.heap[JQ]? = some (.cells #[(.slice JF Jn.length JG), (.slice JH Jo.length JI)] 30 (0, 0))) ∧ Aside0 (wc.heap[Ji]? = some (.cells #[(.slice none 0 0), (.slice none 0 0)] 30 (0, 0))) ∧ Aside0 (wc.heap[Jp]? = some (.cells #[(.slice (some Js) Jg.length Jt), (.slice Jw Jk.length Jx)] 30 (0, 0))) ∧ Aside0 (Below w.heap.size w wc))
   case first =>
    have H := Vb.out;clear Vb
    by_cases UY : UC = true
    ·subst UY
     rw [if_pos rfl] at H
     by_cases UZ : 1 ≤ (wrap64 (1 + (Jh.length : Int)))
     ·rw [if_pos UZ] at H
      have VN := eq_true UZ;have VO := decide_eq_true UZ
      by_cases U0 : (wrap64 (1 + (Jh.length : Int))) ≤ (Jg.length : Int)
      ·rw [if_pos U0] at H
       have VP := eq_true U0;have VQ := decide_eq_true U0;obtain ⟨JR, JZ⟩ : ∃ y_ : List ByteArray, y_ = ((Jg.take ((wrap64 (1 + (Jh.length : Int))) : Int).toNat).drop 1) := ⟨_, rfl⟩;replace H : ((impl_dataSum.f k JR).bind fun JY => (impl_Recover.j0 k a1 Jh (JY == Ul) Jg Jk)) = some (r1, r2) := bQ JZ H;have Uh := aM JZ;clear JZ;obtain ⟨JY, Xt, H⟩ := oB H;try dsimp only at H
       have H' := aM H;clear H;have VR := Jz.out;have VS := Jy.out;have VT := JB.out;have VU := JA.out;obtain ⟨_, _, _, _⟩ := z2 Je;obtain ⟨Xu, Xv, Vg⟩ := R_slice JK.out;subst Vg;have Vh : ((wrap64 (1 + (Jh.length : Int))) : Int) ≤ ((Jg.length : Int) : Int) := dT;obtain ⟨i031, hi031, _, hsz31, _⟩ := info_parts info9;have hroom31 : Jg.length ≤ Jt := (R_reads' Jm.out).2.1;have hC31 : Kd.C Kd.string _ (some Js) Jg.length Jg := (R_reads' Jm.out).2.2;have ql31 : (1 : Int) ≤ ((wrap64 (1 + (Jh.length : Int))) : Int) := dT;have hcut31 := cut_mid (P := Try.prog) 22 9 .i64 .i64 Try.underlying22 hi031 1 hsz31 (some Js) Jg.length Jt 1 (wrap64 (1 + (Jh.length : Int))) (by omega) ql31 Vh hroom31;have hr31 := Kd.C_mid (lo := (1 : Int).toNat) (hi := ((wrap64 (1 + (Jh.length : Int))) : Int).toNat) (c := Jt) hC31 (by omega) (by omega) hroom31;obtain ⟨Xw, hA31⟩ : ∃ A1, A1 = (if Jt = (1 : Int).toNat then (some Js) else ((some Js) : Option Addr).map (·.add ((1 : Int).toNat * 1))) := ⟨_, rfl⟩;obtain ⟨Xx, Uo⟩ : ∃ c1, c1 = Jt - (1 : Int).toNat := ⟨_, rfl⟩;have Ua : JR.length = ((wrap64 (1 + (Jh.length : Int))) : Int).toNat - (1 : Int).toNat := (by rw [Uh.out, List.length_drop, List.length_take]; exact congrArg (fun z_ => z_ - _) (Nat.min_eq_left (by omega)));rw [show ((Jg).take ((wrap64 (1 + (Jh.length : Int))) : Int).toNat).drop (1 : Int).toNat = JR from Uh.out.symm] at hr31;replace hr31 : Kd.C Kd.string _ Xw JR.length JR := (by rw [hA31]; exact hr31);rw [← Ua, ← hA31, ← Uo] at hcut31;have JL := aM hr31;have UI := aM (show JR.length ≤ Xx from by rw [Ua, Uo]; exact Nat.sub_le_sub_right (Nat.le_trans (by omega) hroom31) _);clear hr31 hC31 hroom31 hi031 hsz31 Uo;have KY31 := aM Ua;have KA31 := aM hA31;clear Ua hA31;have KL31 := aM (show ((wrap64 (1 + (Jh.length : Int))) : Int).toNat ≤ Jg.length from by omega);have KM31 := aM (show 1 ≤ ((wrap64 (1 + (Jh.length : Int))) : Int).toNat from by omega);replace Vh := eq_true Vh
       go_wp2_with (first | (go_at_call 87; (with_reducible refine (impl_dataSum.calls k _ _ JR JY _ ?side1 ?side2 Xt.out).mono ?_); (case side1 => repeat (first | exact (by repeat (first | (with_reducible exact JL.out) | (with_reducible refine Kd.C_alloc ?_ _) | (with_reducible refine Kd.C_drewN ?_ _) | (with_reducible refine Kd.C_drew ?_) | exact JL.out)) | (with_reducible refine Kd.C_alloc ?_ _) | (with_reducible refine Kd.C_drewN ?_ _) | (with_reducible refine Kd.C_drew ?_))); (case side2 => exact UI.out); rintro e XQ ⟨rfl, hb⟩; have n_ := aI (rB Jm hb) (aI (rB Jv hb) (aI (rB JK hb) (aI (kB Jc hb) (aI (kB Jd hb) (aI (kB Je hb) (aI (aM (Kd.C_below (by repeat (first | (with_reducible exact JL.out) | (with_reducible refine Kd.C_alloc ?_ _) | (with_reducible refine Kd.C_drewN ?_ _) | (with_reducible refine Kd.C_drew ?_) | exact JL.out)) hb)) (sB HB hb))))))); clear Jm Jv JK Jc Jd Je JL HB; obtain ⟨Jm, Jv, JK, Jc, Jd, Je, JL, HB⟩ := n_; (try clear hb)))
       go_meet
       case rel => exact ⟨_, ((JY == Ul)), eV, H', ⟨by first | omega | exact Nat.le_refl _⟩, ⟨rP JK.out⟩, ⟨rP Jm.out⟩, ⟨rP Jv.out⟩, ⟨kP Jc⟩, ⟨kP Jd⟩, ⟨kP Je⟩, ⟨bB⟩⟩
      rw [if_neg U0] at H;exact absurd H (by simp)
     rw [if_neg UZ] at H;exact absurd H (by simp)
    replace UY := Bool.eq_false_iff.mpr UY;subst UY;rw [if_neg (show ¬ (false = true) by decide)] at H;have H' := aM H;clear H
    go_wp2
    go_meet
    case rel => exact ⟨_, (false), eV, H', ⟨by first | omega | exact Nat.le_refl _⟩, ⟨rP JK.out⟩, ⟨rP Jm.out⟩, ⟨rP Jv.out⟩, ⟨kP Jc⟩, ⟨kP Jd⟩, ⟨kP Je⟩, ⟨bB⟩⟩
   case rest =>
    clear Vb;obtain ⟨kq, JX, rfl, HA, HJ7, J0, Ja, Jf, Jc, Jd, Je, HB⟩ := hcut
    cases kq with
    | zero => exact absurd HA.out (by simp [impl_Recover.j0])
    | succ VV =>
     have H := HA.out;clear HA;simp only [impl_Recover.j0] at H
     by_cases U1 : JX = true
     ·subst U1
      rw [if_pos rfl] at H;have H' := aM H;clear H;obtain ⟨Vi, Vj, Vk⟩ := R_slice J0.out;subst Vk
      go_wp2
      go_loopg [43] VV (fun kq Xy w' => ∃ (Jj : Int) (Jb : List ByteArray) (JM : Value), Xy = .int .i64 Jj ∧ Aside0 (impl_Recover.l0 kq a1 Jh (Jh.length : Int) Jj Jb Jk = some (r1, r2)) ∧ Aside0 (kq ≤ VV) ∧ Aside0 (Kd.R (Kd.int .i64) 3 w' w.heap.size (fun _ => True) (.slice Vi Jh.length Vj) Jh) ∧ Aside0 (Kd.R Kd.string 9 w' w.heap.size (fun _ => True) JM Jb) ∧ Aside0 (Kd.R k65 65 w' w.heap.size (fun _ => True) (.slice Jw Jk.length Jx) Jk) ∧ Aside0 (w'.heap[JQ]? = some (.cells #[(.slice JF Jn.length JG), (.slice JH Jo.length JI)] 30 (0, 0))) ∧ Aside0 (w'.heap[Ji]? = some (.cells #[(.slice none 0 0), (.slice none 0 0)] 30 (0, 0))) ∧ Aside0 (w'.heap[Jp]? = some (.cells #[JM, (.slice Jw Jk.length Jx)] 30 (0, 0))) ∧ Aside0 (Below w.heap.size w w'))
      case atStart => exact ⟨(0), (Jg), (.slice (some Js) Jg.length Jt), eV, H', ⟨Nat.le_refl _⟩, ⟨rP J0.out⟩, ⟨rP Ja.out⟩, ⟨rP Jf.out⟩, ⟨kP Jc⟩, ⟨kP Jd⟩, ⟨kP Je⟩, ⟨bB⟩⟩
      case round =>
       clear H';obtain ⟨Jj, Jb, JM, rfl, HA, HK2, JD, Ja, Jf, Jc, Jd, Je, HB⟩ := hrel
       cases gk with
       | zero => exact absurd HA.out (by simp [impl_Recover.l0])
       | succ k2 =>
        have H := HA.out;clear HA;simp only [impl_Recover.l0] at H
        by_cases UA : Jj < (Jh.length : Int)
        ·rw [if_pos UA] at H
         have UJ := decide_eq_true UA;clear UA
         by_cases U2 : 0 ≤ Jj
         ·rw [if_pos U2] at H
          have VW := decide_eq_true U2;clear U2
          by_cases U3 : Jj < (Jh.length : Int)
          ·rw [if_pos U3] at H
           have VX := decide_eq_true U3;clear U3;obtain ⟨ji38, hji38⟩ : ∃ j_ : Int, (wrap64 (1 + Jj)) = j_ := ⟨_, rfl⟩;replace H : (if 0 ≤ (ji38) then (if (ji38) < (Jb.length : Int) then (if 0 ≤ (wrap64 ((wrap64 (a1 + 1)) + (rd Jh Jj))) then (if (wrap64 ((wrap64 (a1 + 1)) + (rd Jh Jj))) < (Jb.length : Int) then (impl_Recover.l0 k2 a1 Jh (Jh.length : Int) (wrap64 (Jj + 1)) (Jb.set ((wrap64 ((wrap64 (a1 + 1)) + (rd Jh Jj))) : Int).toNat (rdOf ByteArray.empty Jb (ji38))) Jk) else (none)) else (none)) else (none)) else (none)) = some (r1, r2) := by first | (rw [hji38] at H; exact H) | (simp only [hji38] at H ⊢; exact H)
           have hji38w : (IntKind.i64.wrap (1 + Jj)) = ji38 := (i64_w _).trans hji38
           by_cases U4 : 0 ≤ (ji38)
           ·rw [if_pos U4] at H
            have VY := decide_eq_true U4;clear U4
            by_cases U5 : (ji38) < (Jb.length : Int)
            ·rw [if_pos U5] at H
             have VZ := decide_eq_true U5;clear U5;obtain ⟨ji41, hji41⟩ : ∃ j_ : Int, (wrap64 ((wrap64 (a1 + 1)) + (rd Jh Jj))) = j_ := ⟨_, rfl⟩;replace H : (if 0 ≤ (ji41) then (if (ji41) < (Jb.length : Int) then (impl_Recover.l0 k2 a1 Jh (Jh.length : Int) (wrap64 (Jj + 1)) (Jb.set ((ji41) : Int).toNat (rdOf ByteArray.empty Jb (ji38))) Jk) else (none)) else (none)) = some (r1, r2) := by first | (rw [hji41] at H; exact H) | (simp only [hji41] at H ⊢; exact H)
             have hji41w : (IntKind.i64.wrap ((wrap64 (a1 + 1)) + (rd Jh Jj))) = ji41 := (i64_w _).trans hji41
             by_cases U6 : 0 ≤ (ji41)
             ·rw [if_pos U6] at H
              have V0 := decide_eq_true U6;clear U6
              by_cases U7 : (ji41) < (Jb.length : Int)
              ·rw [if_pos U7] at H
               have V1 := decide_eq_true U7;clear U7;obtain ⟨UK, J1⟩ : ∃ y_ : List ByteArray, y_ = (Jb.set ((ji41) : Int).toNat (rdOf ByteArray.empty Jb (ji38))) := ⟨_, rfl⟩;replace H : (impl_Recover.l0 k2 a1 Jh (Jh.length : Int) (wrap64 (Jj + 1)) UK Jk) = some (r1, r2) := bQ J1 H;have UL := aM J1;clear J1;have H' := aM H;clear H;have Up : 0 ≤ (Jj : Int) := dT;have Uq : Jj < (Jh.length : Int) := dT;obtain ⟨V2, Vl, U8⟩ := Kd.at_int (R_reads' JD.out).2.2 Jj Up Uq;cases Vl
               replace Up := eq_true Up;replace Uq := eq_true Uq;try go_wp2
               have n_ := aI (aM (R_drew JD.out)) (aI (aM (R_drew Ja.out)) (aI (aM (R_drew Jf.out)) (aI (aM (blk_drew Jc.out)) (aI (aM (blk_drew Jd.out)) (aI (aM (blk_drew Je.out)) (aM (below_drew1 HB.out)))))));clear JD Ja Jf Jc Jd Je HB;obtain ⟨JD, Ja, Jf, Jc, Jd, Je, HB⟩ := n_;obtain ⟨Xz, UM, UN⟩ := R_slice Ja.out;(first | subst UN | (injection UN with f1_ f2_ f3_; have f4_ := f1_.symm; have f5_ := f3_.symm; clear f1_ f2_ f3_; subst f4_; subst f5_));have Ur : 0 ≤ ((ji38) : Int) := dT;have Us : (ji38) < (Jb.length : Int) := dT;obtain ⟨V3, Vm, JN⟩ := Kd.at_string (R_reads' Ja.out).2.2 (ji38) Ur Us;cases Vm
               replace Ur := eq_true Ur;replace Us := eq_true Us;have Vn : 0 ≤ ((ji41) : Int) := dT;have Vo : ((ji41) : Int) < ((Jb.length : Int) : Int) := dT;obtain ⟨J2, XA, UO, UP, Vp, XB, HG44⟩ := R_form Ja.out (by omega);(first | cases UO | (injection UO with ea_ en_ ec_; (first | subst ea_ | (injection ea_ with ea_; subst ea_)); subst ec_; clear en_));have XC := aM UP;have Ut := aM HG44;clear UP Vp HG44;(first | simp only [add_plain] at JN | skip);obtain ⟨Uu, Uv⟩ := R_celln (⟨#[]⟩ : ByteArray) Ja.out ((ji41) : Int) Vn Vo;replace Vn := eq_true Vn;replace Vo := eq_true Vo;have HP47 := R_putn Ja.out ((ji41) : Int) (rdOf ByteArray.empty Jb (ji38));rw [← UL.out] at HP47;have HQ47 := aM HP47;clear HP47;refine start_ (n := 14) (S := fun w' => w'.cell? ⟨Jp, 0, none⟩ = some (.slice (some ⟨J2, 0, none⟩) Jb.length UM) ∧ w'.cell? ⟨Jp, 1, none⟩ = some (.slice Jw Jk.length Jx) ∧ w'.cell? ⟨J2, ((ji38)).toNat, none⟩ = some (.string (rdOf ByteArray.empty Jb (ji38)))) (ds := [13]) #[tF, tF, tF, tF, tF, tF, tF, tF, tF, tF, tF, tF, tF, tF] (by kernel_rfl) rfl rfl ⟨(blk_cell Je.out 0).trans rfl, (blk_cell Je.out 1).trans rfl, JN⟩ (fun hHeld => ?_); refine with_tabW impl_Recover.tab9 impl_Recover.bits9 (fun HT_ HW_ => ?_);generalize wr.drew = XR at JD Ja Jf Jc Jd Je HB Ut HQ47 Uv JN Uu hHeld ⊢;refine pY 0 48 #[tT, tF, tF, tF, tF, tF, tF, tF, tF, tF, tF, tF, tF, tF] ?_;refine pY 2 50 #[tT, tF, tT, tF, tF, tF, tF, tF, tF, tF, tF, tF, tF, tF] ?_;refine pY 3 51 #[tT, tF, tT, tT, tF, tF, tF, tF, tF, tF, tF, tF, tF, tF] ?_;refine pY 4 52 #[tT, tF, tT, tT, tT, tF, tF, tF, tF, tF, tF, tF, tF, tF] ?_;refine pY 5 53 #[tT, tF, tT, tT, tT, tT, tF, tF, tF, tF, tF, tF, tF, tF] ?_;refine pY 6 54 #[tT, tF, tT, tT, tT, tT, tT, tF, tF, tF, tF, tF, tF, tF] ?_;refine pY 8 56 #[tT, tF, tT, tT, tT, tT, tT, tF, tT, tF, tF, tF, tF, tF] ?_;refine pY 9 57 #[tT, tF, tT, tT, tT, tT, tT, tF, tT, tT, tF, tF, tF, tF] ?_;refine take_ (i := 1) (N := some 49) (v := ?_) (a' := ?_) #[tT, tT, tT, tT, tT, tT, tT, tF, tT, tT, tF, tF, tF, tF] rfl rfl (take_ofW HT_.out HW_.out (by kernel_rfl)) (fun _ _ _ h => h) (Or.inl ⟨by rfl, ?_⟩) hHeld ?_ ?_
               rotate_left
               ·rintro w' ⟨s0, s1, s2⟩
                go_simp
                (with_reducible rfl)
               rotate_left
               ·simp only [Act.put, List.setIfInBounds_toArray, List.set_cons_zero, List.set_cons_succ, i64_w, i32_w]
                rfl
               refine take_ (i := 7) (N := some 55) (v := ?_) (a' := ?_) #[tT, tT, tT, tT, tT, tT, tT, tT, tT, tT, tF, tF, tF, tF] rfl rfl (take_ofW HT_.out HW_.out (by kernel_rfl)) (fun _ _ _ h => h) (Or.inl ⟨by rfl, ?_⟩) hHeld ?_ ?_
               rotate_left
               ·rintro w' ⟨s0, s1, s2⟩
                go_simp
                (with_reducible rfl)
               rotate_left
               ·simp only [Act.put, List.setIfInBounds_toArray, List.set_cons_zero, List.set_cons_succ, i64_w, i32_w]
                rfl
               refine pY 10 58 #[tT, tT, tT, tT, tT, tT, tT, tT, tT, tT, tT, tF, tF, tF] ?_;refine take_ (i := 11) (N := some 59) (v := ?_) (a' := ?_) #[tT, tT, tT, tT, tT, tT, tT, tT, tT, tT, tT, tT, tF, tF] rfl rfl (take_ofW HT_.out HW_.out (by kernel_rfl)) (fun _ _ _ h => h) (Or.inl ⟨by rfl, ?_⟩) hHeld ?_ ?_
               rotate_left
               ·rintro w' ⟨s0, s1, s2⟩
                go_simp
                (with_reducible rfl)
               rotate_left
               ·simp only [Act.put, List.setIfInBounds_toArray, List.set_cons_zero, List.set_cons_succ, i64_w, i32_w]
                rfl
               refine pY 12 60 #[tT, tT, tT, tT, tT, tT, tT, tT, tT, tT, tT, tT, tT, tF] ?_;refine last_ (i := 13) (N := none) #[tT, tT, tT, tT, tT, tT, tT, tT, tT, tT, tT, tT, tT, tT] rfl rfl (one_of HT_.out (by kernel_rfl)) (by decide) (fun K hK => ?_);refine skip_ (w1 := ?_) (by rfl) rfl ?_ ?_
               rotate_left
               ·go_simp
                rfl
               refine hK.out _ _ ?_;clear hK K;refine done_ (done_of HT_.out (by kernel_rfl)) ?_;try go_wp2
               go_roundg k2
               case measure => have := HJ7.out; have := HK2.out; omega
               case rel => exact ⟨(wrap64 (Jj + 1)), (UK), (.slice (some ⟨J2, 0, none⟩) Jb.length UM), eV, H', ⟨by have := HJ7.out; have := HK2.out; omega⟩, ⟨rP (R_mono (R_far (p := ⟨J2, ((ji41) : Int).toNat, none⟩) (R_types JD.out Ut.out (by decide)) s2 (.string (rdOf ByteArray.empty Jb (ji38)))) sT)⟩, ⟨rP HQ47.out⟩, ⟨rP (R_mono (R_far (p := ⟨J2, ((ji41) : Int).toNat, none⟩) (R_types Jf.out Ut.out (by decide)) s2 (.string (rdOf ByteArray.empty Jb (ji38)))) sT)⟩, ⟨by (with_reducible repeat (first | apply bN | apply bD | apply bA)); refine blk_far ?_ (by have h_ := R_ne Ja.out Jc.out (by decide); intro e_; exact h_ (by rw [e_]; rfl)) _; (with_reducible repeat (first | apply bN | apply bD | apply bA)); exact Jc.out⟩, ⟨by (with_reducible repeat (first | apply bN | apply bD | apply bA)); refine blk_far ?_ (by have h_ := R_ne Ja.out Jd.out (by decide); intro e_; exact h_ (by rw [e_]; rfl)) _; (with_reducible repeat (first | apply bN | apply bD | apply bA)); exact Jd.out⟩, ⟨by (with_reducible repeat (first | apply bN | apply bD | apply bA)); refine blk_far ?_ (by have h_ := R_ne Ja.out Je.out (by decide); intro e_; exact h_ (by rw [e_]; rfl)) _; (with_reducible repeat (first | apply bN | apply bD | apply bA)); exact Je.out⟩, ⟨bB⟩⟩
              ·rw [if_neg U7] at H
               exact absurd H (by simp)
             ·rw [if_neg U6] at H
              exact absurd H (by simp)
            ·rw [if_neg U5] at H
             exact absurd H (by simp)
           ·rw [if_neg U4] at H
            exact absurd H (by simp)
          ·rw [if_neg U3] at H
           exact absurd H (by simp)
         ·rw [if_neg U2] at H
          exact absurd H (by simp)
        ·rw [if_neg UA] at H
         have UJ := decide_eq_false UA;clear UA
         by_cases U9 : 0 < (Jb.length : Int)
         ·rw [if_pos U9] at H
          have V4 := decide_eq_true U9;have V5 : decide (0 < Jb.length) = true := decide_eq_true (by omega);clear U9;obtain ⟨UQ, J3⟩ : ∃ y_ : List ByteArray, y_ = (Jb.set (0 : Int).toNat (⟨#[]⟩ : ByteArray)) := ⟨_, rfl⟩;replace H : (some (UQ, Jk)) = some (r1, r2) := bQ J3 H;have UR := aM J3;clear J3;simp only [Option.some.injEq, Prod.mk.injEq] at H;obtain ⟨rfl, rfl⟩ := H;have V6 := Jz.out;have V7 := Jy.out;have V8 := JB.out;have V9 := JA.out;obtain ⟨_, _, _, _⟩ := z2 Je;have Vq : 0 ≤ (0 : Int) := (by omega);have Vr : (0 : Int) < ((Jb.length : Int) : Int) := dT;have qi49 : (0 < Jb.length) = True := eq_true (by omega);obtain ⟨JO, JS, US, UT, Vs, XD, HG49⟩ := R_form Ja.out (by omega);(first | cases US | (injection US with ea_ en_ ec_; (first | subst ea_ | (injection ea_ with ea_; subst ea_)); subst ec_; clear en_));have Vt := aM UT;have XE := aM HG49;clear UT Vs HG49;obtain ⟨J4, J5⟩ := R_celln (⟨#[]⟩ : ByteArray) Ja.out (0 : Int) Vq Vr;(try rw [show ((0 : Int)).toNat = 0 from rfl] at J4);(try simp only [Nat.reduceMul, Nat.zero_mul, Nat.zero_add, Nat.reduceAdd] at J4);(try rw [show ((0 : Int)).toNat = 0 from rfl] at J5);(try simp only [Nat.reduceMul, Nat.zero_mul, Nat.zero_add, Nat.reduceAdd] at J5);replace Vq := eq_true Vq;replace Vr := eq_true Vr;have HP53 := R_putg Ja.out (0 : Int) (⟨#[]⟩ : ByteArray)
          go_wp2_with (first | ((with_reducible refine gate_store (t := 9) (p := 64) rfl ?_); refine store_event (t := 9) (p := 64) (v := ?vo_w54) (w1 := (wr.setCell ⟨JO, (0 : Int).toNat, none⟩ (.string (⟨#[]⟩ : ByteArray)))) ?hg ?ho ?hn ?hr ?_; (case ho => rfl); (case hg => rfl); (case hn => rfl); (case hr => first | (go_simp; done) | (go_simp; rfl)); intro Vu hw; have hg : wr.grownBy Vu (some JO) := (by rw [hw]; exact HP53.2); have hp_ : Kd.R Kd.string 9 Vu w.heap.size (fun _ => True) (.slice (some ⟨JO, 0, none⟩) Jb.length JS) UQ := (by rw [hw, UR.out]; exact HP53.1); clear HP53; have n_ := aI (aM (R_over' (v := (.slice (some ⟨JO, 0, none⟩) Jb.length JS)) (rP JD.out) (R_typed Ja.out) (by decide) hg)) (aI (aM (hp_)) (aI (aM (R_over' (v := (.slice (some ⟨JO, 0, none⟩) Jb.length JS)) (rP Jf.out) (R_typed Ja.out) (by decide) hg)) (aI (aM (blk_grown (g := JQ) (o := .cells #[.slice JF Jn.length JG, .slice JH Jo.length JI] 30 (0, 0)) (kP Jc) hg (R_ne Ja.out Jc.out (by decide)))) (aI (aM (blk_grown (g := Ji) (o := .cells #[.slice none 0 0, .slice none 0 0] 30 (0, 0)) (kP Jd) hg (R_ne Ja.out Jd.out (by decide)))) (aI (aM (blk_grown (g := Jp) (o := .cells #[.slice (some ⟨JO, 0, none⟩) Jb.length JS, .slice Jw Jk.length Jx] 30 (0, 0)) (kP Je) hg (R_ne Ja.out Je.out (by decide)))) (aM ((by rw [hw]; exact below_set (HB.out) Vt.out : Below w.heap.size w Vu)))))))); clear JD Ja Jf Jc Jd Je HB; obtain ⟨JD, Ja, Jf, Jc, Jd, Je, HB⟩ := n_; (try clear hw); obtain ⟨_, _, _, _⟩ := z2 Je; have Xa := Jr.out; have Xb := Jq.out; obtain ⟨_, _, _, _⟩ := z2 Jd))
          refine bodyPost_ret (results_cell_row rfl _ _ Ji 30 #[.slice (some ⟨JO, 0, none⟩) Jb.length JS, .slice Jw Jk.length Jx] (0, 0) _ rfl (pU Jd) Try.underlying30 rfl (by kernel_rfl)) rfl ?_;exact ⟨_, _, eW, by (with_reducible repeat (first | apply R_alloc | apply R_drewN | apply R_drew)); exact R_mono (fR Ji 1 (fR Ji 0 (R_types Ja.out Jd.out (by decide)) s2 (.slice (some ⟨JO, 0, none⟩) Jb.length JS)) s2 (.slice Jw Jk.length Jx)) sT, by (with_reducible repeat (first | apply R_alloc | apply R_drewN | apply R_drew)); exact R_mono (fR Ji 1 (fR Ji 0 (R_types Jf.out Jd.out (by decide)) s2 (.slice (some ⟨JO, 0, none⟩) Jb.length JS)) s2 (.slice Jw Jk.length Jx)) sT, bB⟩
         ·rw [if_neg U9] at H
          exact absurd H (by simp)
     ·replace U1 := Bool.eq_false_iff.mpr U1
      subst U1;rw [if_neg (show ¬ (false = true) by decide)] at H
      by_cases Va : 0 < (Jg.length : Int)
      ·rw [if_pos Va] at H
       have Xc := decide_eq_true Va;have Xd : decide (0 < Jg.length) = true := decide_eq_true (by omega);clear Va;obtain ⟨UU, J6⟩ : ∃ y_ : List ByteArray, y_ = (Jg.set (0 : Int).toNat (⟨#[]⟩ : ByteArray)) := ⟨_, rfl⟩;replace H : (some (UU, Jk)) = some (r1, r2) := bQ J6 H;have UV := aM J6;clear J6;simp only [Option.some.injEq, Prod.mk.injEq] at H;obtain ⟨rfl, rfl⟩ := H;have Xe := Jz.out;have Xf := Jy.out;have Xg := JB.out;have Xh := JA.out;obtain ⟨_, _, _, _⟩ := z2 Je;have Vv : 0 ≤ (0 : Int) := (by omega);have Vw : (0 : Int) < ((Jg.length : Int) : Int) := dT;have qi59 : (0 < Jg.length) = True := eq_true (by omega);obtain ⟨JP, XF, UW, UX, Vx, XG, HG59⟩ := R_form Ja.out (by omega);(first | cases UW | (injection UW with ea_ en_ ec_; (first | subst ea_ | (injection ea_ with ea_; subst ea_)); subst ec_; clear en_));have Vy := aM UX;have XH := aM HG59;clear UX Vx HG59;(first | simp only [add_plain] at Ju | skip);obtain ⟨J7, J8⟩ := R_celln (⟨#[]⟩ : ByteArray) Ja.out (0 : Int) Vv Vw;(try rw [show ((0 : Int)).toNat = 0 from rfl] at J7);(try simp only [Nat.reduceMul, Nat.zero_mul, Nat.zero_add, Nat.reduceAdd] at J7);(try rw [show ((0 : Int)).toNat = 0 from rfl] at J8);(try simp only [Nat.reduceMul, Nat.zero_mul, Nat.zero_add, Nat.reduceAdd] at J8);replace Vv := eq_true Vv;replace Vw := eq_true Vw;have HP63 := R_putg Ja.out (0 : Int) (⟨#[]⟩ : ByteArray)
       go_wp2_with (first | ((with_reducible refine gate_store (t := 9) (p := 64) rfl ?_); refine store_event (t := 9) (p := 64) (v := ?vo_w64) (w1 := (wc.setCell ⟨JP, (0 : Int).toNat, none⟩ (.string (⟨#[]⟩ : ByteArray)))) ?hg ?ho ?hn ?hr ?_; (case ho => rfl); (case hg => rfl); (case hn => rfl); (case hr => first | (go_simp; done) | (go_simp; rfl)); intro Vz hw; have hg : wc.grownBy Vz (some JP) := (by rw [hw]; exact HP63.2); have hp_ : Kd.R Kd.string 9 Vz w.heap.size (fun _ => True) (.slice (some ⟨JP, 0, none⟩) Jg.length Jt) UU := (by rw [hw, UV.out]; exact HP63.1); clear HP63; have n_ := aI (aM (R_over' (v := (.slice (some ⟨JP, 0, none⟩) Jg.length Jt)) (rP J0.out) (R_typed Ja.out) (by decide) hg)) (aI (aM (hp_)) (aI (aM (R_over' (v := (.slice (some ⟨JP, 0, none⟩) Jg.length Jt)) (rP Jf.out) (R_typed Ja.out) (by decide) hg)) (aI (aM (blk_grown (g := JQ) (o := .cells #[.slice JF Jn.length JG, .slice JH Jo.length JI] 30 (0, 0)) (kP Jc) hg (R_ne Ja.out Jc.out (by decide)))) (aI (aM (blk_grown (g := Ji) (o := .cells #[.slice none 0 0, .slice none 0 0] 30 (0, 0)) (kP Jd) hg (R_ne Ja.out Jd.out (by decide)))) (aI (aM (blk_grown (g := Jp) (o := .cells #[.slice (some ⟨JP, 0, none⟩) Jg.length Jt, .slice Jw Jk.length Jx] 30 (0, 0)) (kP Je) hg (R_ne Ja.out Je.out (by decide)))) (aM ((by rw [hw]; exact below_set (HB.out) Vy.out : Below w.heap.size w Vz)))))))); clear J0 Ja Jf Jc Jd Je HB; obtain ⟨J0, Ja, Jf, Jc, Jd, Je, HB⟩ := n_; (try clear hw); obtain ⟨_, _, _, _⟩ := z2 Je; have Xi := Jr.out; have Xj := Jq.out; obtain ⟨_, _, _, _⟩ := z2 Jd))
       refine bodyPost_ret (results_cell_row rfl _ _ Ji 30 #[.slice (some ⟨JP, 0, none⟩) Jg.length Jt, .slice Jw Jk.length Jx] (0, 0) _ rfl (pU Jd) Try.underlying30 rfl (by kernel_rfl)) rfl ?_;exact ⟨_, _, eW, by (with_reducible repeat (first | apply R_alloc | apply R_drewN | apply R_drew)); exact R_mono (fR Ji 1 (fR Ji 0 (R_types Ja.out Jd.out (by decide)) s2 (.slice (some ⟨JP, 0, none⟩) Jg.length Jt)) s2 (.slice Jw Jk.length Jx)) sT, by (with_reducible repeat (first | apply R_alloc | apply R_drewN | apply R_drew)); exact R_mono (fR Ji 1 (fR Ji 0 (R_types Jf.out Jd.out (by decide)) s2 (.slice (some ⟨JP, 0, none⟩) Jg.length Jt)) s2 (.slice Jw Jk.length Jx)) sT, bB⟩
      ·rw [if_neg Va] at H
       exact absurd H (by simp)
  rw [if_neg c6] at H;exact absurd H (by simp)
 replace c4 := Bool.eq_false_iff.mpr c4;subst c4;rw [if_neg (show ¬ (false = true) by decide)] at H;obtain ⟨⟨Ub, Uc⟩, XI, H⟩ := oB H;try dsimp only at H
 simp only [Option.some.injEq, Prod.mk.injEq] at H;obtain ⟨rfl, rfl⟩ := H
 go_enter Try.func45, Try.ntmps45
 go_wp2_with (first | ((with_reducible refine gate_dst (N := 2) rfl ?_); (try (refine gate_guard (by rfl) ?_; dsimp only)); refine box_event ?hg (N := 2) ?hd (cs := #[.slice JF Jn.length JG, .slice JH Jo.length JI]) (t := 30) ?hr ?_; (case hd => rfl); (case hg => rfl); (case hr => first | (go_simp; done) | (go_simp; rfl)); intro JQ hg XS hbox hb; have n_ := aI (sB HB hb) (aI (aM hbox) (aI (gE HB hg) (gE HB hg))); clear HB; obtain ⟨HB, Jc, UD, UE⟩ := n_; (try clear hb hbox hg)) | ((with_reducible refine gate_dst (N := 4) rfl ?_); (try (refine gate_guard (by rfl) ?_; dsimp only)); refine box_event ?hg (N := 4) ?hd (cs := #[.slice none 0 0, .slice none 0 0]) (t := 30) ?hr ?_; (case hd => rfl); (case hg => rfl); (case hr => first | (go_simp; done) | (go_simp; rfl)); intro Ji hg XT hbox hb; have n_ := aI (kB Jc hb) (aI (sB HB hb) (aI (aM hbox) (aI (gE HB hg) (aI (gE HB hg) (aI (nL Jc hg) (nG Jc hg)))))); clear Jc HB; obtain ⟨Jc, HB, Jd, UF, UG, Jq, Jr⟩ := n_; (try clear hb hbox hg); have Xk := Jq.out; have Xl := Jr.out; obtain ⟨_, _, _, _⟩ := z2 Jc) | ((with_reducible refine gate_callee (f := 71) rfl ?_); refine gL (some 13) Try.func71 #[.agg #[.slice JF Jn.length JG, .slice JH Jo.length JI], .int .i64 a1] ?_; (with_reducible refine (impl_homed.calls _ _ Jn _ _ Jo a1 false _ ?side1 ?side2 ?side3 ?side4 A3.out).mono ?_); (case side1 => exact cS JT HB); (case side2 => exact JU.out); (case side3 => exact cS JV HB); (case side4 => exact JW.out); rintro e XU ⟨rfl, hb⟩; refine ⟨_, rfl, ?_⟩; have n_ := aI (kB Jc hb) (aI (kB Jd hb) (sB HB hb)); clear Jc Jd HB; obtain ⟨Jc, Jd, HB⟩ := n_; (try clear hb); obtain ⟨_, _, _, _⟩ := z2 Jc) | ((with_reducible refine gate_callee (f := 76) rfl ?_); refine gL (some 16) Try.func76 #[.agg #[.slice JF Jn.length JG, .slice JH Jo.length JI]] ?_; (with_reducible refine (impl_cloneDisk.calls _ _ Jn _ _ Jo Ub Uc _ ?side1 ?side2 ?side3 ?side4 XI.out).mono ?_); (case side1 => exact cS JT HB); (case side2 => exact JU.out); (case side3 => exact cS JV HB); (case side4 => exact JW.out); rintro e XV ⟨XJ, XK, rfl, Ug, UH, hb⟩; refine ⟨_, rfl, ?_⟩; have n_ := aI (lR HB Ug) (aI (lR HB UH) (aI (kB Jc hb) (aI (kB Jd hb) (sB HB hb)))); clear Jc Jd HB; obtain ⟨Ui, Uj, Jc, Jd, HB⟩ := n_; (try clear hb Ug UH); obtain ⟨Uw, Ux, VA⟩ := R_slice Ui.out; subst VA; obtain ⟨_, _, _, _⟩ := z2 Jd; obtain ⟨Uy, Uz, VB⟩ := R_slice Uj.out; subst VB))
 refine bodyPost_ret (results_cell_row rfl _ _ Ji 30 #[.slice Uw Ub.length Ux, .slice Uy Uc.length Uz] (0, 0) _ rfl (pU Jd) Try.underlying30 rfl (by kernel_rfl)) rfl ?_;exact ⟨_, _, eW, by (with_reducible repeat (first | apply R_alloc | apply R_drewN | apply R_drew)); exact R_mono (fR Ji 1 (fR Ji 0 (R_types Ui.out Jd.out (by decide)) s2 (.slice Uw Ub.length Ux)) s2 (.slice Uy Uc.length Uz)) sT, by (with_reducible repeat (first | apply R_alloc | apply R_drewN | apply R_drew)); exact R_mono (fR Ji 1 (fR Ji 0 (R_types Uj.out Jd.out (by decide)) s2 (.slice Uw Ub.length Ux)) s2 (.slice Uy Uc.length Uz)) sT, bB⟩

def laws_big.f (l0 : List Int) : Option (Bool) := some (decide ((l0.length : Int) > 1048576))
theorem laws_big.calls (A0 : Option Addr) (c0 : Nat) (l0 : List Int) (r : Bool) (w : World) (hr0 : Kd.C (Kd.int .u8) w A0 l0.length l0) (Ja : l0.length ≤ c0) (h : laws_big.f l0 = some r) :
  Calls Try.prog 46 #[.slice A0 l0.length c0] w fun e w' => e = .returned (.bool r) ∧ Drawn0 w w' := by
 have Jb := aM hr0;have Jc := aM Ja;clear hr0 Ja;unfold laws_big.f at h;have H := h;clear h;obtain rfl := Option.some.inj H
 go_enter Try.func46, Try.ntmps46
 go_wp2
 go_ret
 exact ⟨by first | rfl | (simp; done) | (simp [*]; done), by repeat (first | exact Drawn0.refl _ | apply Drawn0.step)⟩

/-- A state of type 123 at block g of W; what its slices lead to came in by w0. -/
def IsS123 (w0 W : World) (g : Nat) (f0 : List Int) (f1 : Int) (f2 : Int) : Prop := ∃ A0 c0, W.heap[g]? = some (.cells #[.slice A0 f0.length c0, .int .i64 f1, .int .i64 f2] 123 (0, 0)) ∧ w0.heap.size ≤ g ∧ Kd.C (Kd.int .u8) w0 A0 f0.length f0
theorem IsS123.grown {w0 W : World} {g : Nat} {f0 : List Int} {f1 : Int} {f2 : Int} {W1 : World} {row : Option Nat} (h : IsS123 w0 W g f0 f1 f2) (hw : W.grownBy W1 row) (hne : some g ≠ row) : IsS123 w0 W1 g f0 f1 f2 := by
 obtain ⟨A0, c0, hb, hg, hr0⟩ := h;exact ⟨A0, c0, blk_grown hb hw hne, hg, hr0⟩
theorem IsS123.own_neN {w0 W : World} {g : Nat} {f0 : List Int} {f1 : Int} {f2 : Int} {α : Type} {d : Kd α} {e : Nat} {base : Nat} {ok : Nat → Prop} {v : Value} {xs : List α} (h : IsS123 w0 W g f0 f1 f2) (ho : Kd.N d e W base ok v xs) (ht : e ≠ 123) : some g ≠ v.ownBlock := by
 obtain ⟨A0, c0, hb, hg, hr0⟩ := h;exact Kd.N_ne ho hb ht
theorem IsS123.fresh {w0 W : World} {g : Nat} {f0 : List Int} {f1 : Int} {f2 : Int} (h : IsS123 w0 W g f0 f1 f2) : ∀ k, W.heap.size ≤ k → k ≠ g := by
 obtain ⟨A0, c0, hb, hg, hr0⟩ := h;exact Kd.freshB hb
theorem IsS123.kept {w0 W : World} {g : Nat} {f0 : List Int} {f1 : Int} {f2 : Int} {W1 : World} {S : Nat → Prop} (h : IsS123 w0 W g f0 f1 f2) (hk : Kept W W1 S) (hne : ¬ S g) : IsS123 w0 W1 g f0 f1 f2 := by
 obtain ⟨A0, c0, hb, hg, hr0⟩ := h;exact ⟨A0, c0, blk_kept hb hk hne, hg, hr0⟩
theorem IsS123.below {w0 W : World} {g : Nat} {f0 : List Int} {f1 : Int} {f2 : Int} {W1 : World} (h : IsS123 w0 W g f0 f1 f2) (hw : Below W.heap.size W W1) : IsS123 w0 W1 g f0 f1 f2 := h.grown (grown_of_below hw none) (by simp)
theorem IsS123.alloc {w0 W : World} {g : Nat} {f0 : List Int} {f1 : Int} {f2 : Int} (h : IsS123 w0 W g f0 f1 f2) (o : Obj) : IsS123 w0 (W.alloc o) g f0 f1 f2 := h.below (below_alloc (Below.refl _ _) o)
theorem IsS123.drewN {w0 W : World} {g : Nat} {f0 : List Int} {f1 : Int} {f2 : Int} (h : IsS123 w0 W g f0 f1 f2) (m : Nat) : IsS123 w0 (W.drewN m) g f0 f1 f2 := h
theorem IsS123.drew {w0 W : World} {g : Nat} {f0 : List Int} {f1 : Int} {f2 : Int} (h : IsS123 w0 W g f0 f1 f2) : IsS123 w0 W.drew g f0 f1 f2 := h
theorem IsS123.at_ {w0 W : World} {g : Nat} {f0 : List Int} {f1 : Int} {f2 : Int} {w' : World} {m : Nat} (hq : W.drewN m = w') (h : IsS123 w0 W g f0 f1 f2) : IsS123 w0 w' g f0 f1 f2 := by subst hq; exact IsS123.drewN h m
theorem IsS123.apart {w0 W : World} {g : Nat} {f0 : List Int} {f1 : Int} {f2 : Int} {α : Type} {d : Kd α} {e : Nat} {base : Nat} {ok : Nat → Prop} {v : Value} {xs : List α} (h : IsS123 w0 W g f0 f1 f2) (ho : d.R e W base ok v xs) (ht : ∀ q, q ∈ e :: d.E → q ≠ 123) : d.R e W base (fun k => ok k ∧ k ≠ g) v xs := by
 obtain ⟨A0, c0, hb, hg, hr0⟩ := h;exact R_types ho hb ht
theorem IsS123.own_ne {w0 W : World} {g : Nat} {f0 : List Int} {f1 : Int} {f2 : Int} {α : Type} {d : Kd α} {e : Nat} {base : Nat} {ok : Nat → Prop} {v : Value} {xs : List α} (h : IsS123 w0 W g f0 f1 f2) (ho : d.R e W base ok v xs) (ht : e ≠ 123) : some g ≠ v.ownBlock := by
 obtain ⟨A0, c0, hb, hg, hr0⟩ := h;exact R_ne ho hb ht
theorem IsS123.apartQ {w0 W : World} {g : Nat} {f0 : List Int} {f1 : Int} {f2 : Int} {α : Type} {d : Kd α} {e : Nat} {base : Nat} {ok : Nat → Prop} {v : Value} {xs : List α} (h : IsS123 w0 W g f0 f1 f2) (ho : d.Q e W base ok v xs) (ht : ∀ q, q ∈ e :: d.E → q ≠ 123) : d.Q e W base (fun k => ok k ∧ k ≠ g) v xs := by
 obtain ⟨A0, c0, hb, hg, hr0⟩ := h;exact Q_types ho hb ht
theorem IsS123.own_neQ {w0 W : World} {g : Nat} {f0 : List Int} {f1 : Int} {f2 : Int} {α : Type} {d : Kd α} {e : Nat} {base : Nat} {ok : Nat → Prop} {v : Value} {xs : List α} (h : IsS123 w0 W g f0 f1 f2) (ho : d.Q e W base ok v xs) (ht : e ≠ 123) : some g ≠ v.ownBlock := by
 obtain ⟨A0, c0, hb, hg, hr0⟩ := h;exact Q_ne ho hb ht
theorem IsS123.apartS {w0 W : World} {g : Nat} {f0 : List Int} {f1 : Int} {f2 : Int} {α : Type} {d : Kd α} {e : Nat} {base : Nat} {ok : Nat → Prop} {v : Value} {xs : List α} (h : IsS123 w0 W g f0 f1 f2) (ho : d.S e W base ok v xs) (ht : ∀ q, q ∈ e :: d.E → q ≠ 123) : d.S e W base (fun k => ok k ∧ k ≠ g) v xs := by
 obtain ⟨A0, c0, hb, hg, hr0⟩ := h;exact Kd.S_types ho hb ht
theorem IsS123.own_neS {w0 W : World} {g : Nat} {f0 : List Int} {f1 : Int} {f2 : Int} {α : Type} {d : Kd α} {e : Nat} {base : Nat} {ok : Nat → Prop} {v : Value} {xs : List α} (h : IsS123 w0 W g f0 f1 f2) (ho : d.S e W base ok v xs) (ht : e ≠ 123) : some g ≠ v.ownBlock := by
 obtain ⟨A0, c0, hb, hg, hr0⟩ := h;exact Kd.S_ne ho hb ht
theorem IsS123.lt {w0 W : World} {g : Nat} {f0 : List Int} {f1 : Int} {f2 : Int} (h : IsS123 w0 W g f0 f1 f2) : g < W.heap.size := by
 obtain ⟨A0, c0, hb, hg, hr0⟩ := h;exact blk_lt hb
theorem IsS123.ge {w0 W : World} {g : Nat} {f0 : List Int} {f1 : Int} {f2 : Int} (h : IsS123 w0 W g f0 f1 f2) : w0.heap.size ≤ g := by
 obtain ⟨A0, c0, hb, hg, hr0⟩ := h;exact hg
theorem IsS123.ne_blk {w0 W : World} {g : Nat} {f0 : List Int} {f1 : Int} {f2 : Int} {a : Nat} {cs : Array Value} {t : TypeId} {fr : Nat × Nat} (h : IsS123 w0 W g f0 f1 f2) (hb2 : W.heap[a]? = some (.cells cs t fr)) (ht : t ≠ 123) : g ≠ a := by
 obtain ⟨A0, c0, hb, hg, hr0⟩ := h;rintro rfl;rw [hb] at hb2;injection hb2 with hb2
 injection hb2 with _ ht2
 exact ht ht2.symm
theorem IsS123.far {w0 W : World} {g : Nat} {f0 : List Int} {f1 : Int} {f2 : Int} {p : Addr} (h : IsS123 w0 W g f0 f1 f2) (hne : g ≠ p.block) (u : Value) : IsS123 w0 (W.setCell p u) g f0 f1 f2 := by
 obtain ⟨A0, c0, hb, hg, hr0⟩ := h;exact ⟨A0, c0, blk_far hb hne u, hg, hr0⟩
theorem cellS123_0 {W : World} {g : Nat} {A0 : Option Addr} {c0 : Nat} {f0 : List Int} {f1 : Int} {f2 : Int} (h : W.heap[g]? = some (.cells #[.slice A0 f0.length c0, .int .i64 f1, .int .i64 f2] 123 (0, 0))) : W.cell? ⟨g, 0, none⟩ = some (.slice A0 f0.length c0) := (blk_cell h 0).trans rfl
theorem cellS123_1 {W : World} {g : Nat} {A0 : Option Addr} {c0 : Nat} {f0 : List Int} {f1 : Int} {f2 : Int} (h : W.heap[g]? = some (.cells #[.slice A0 f0.length c0, .int .i64 f1, .int .i64 f2] 123 (0, 0))) : W.cell? ⟨g, 1, none⟩ = some (.int .i64 f1) := (blk_cell h 1).trans rfl
theorem IsS123.set_1 {w0 W : World} {g : Nat} {f0 : List Int} {f1 : Int} {f2 : Int} (h : IsS123 w0 W g f0 f1 f2) (x : Int) : IsS123 w0 (W.setCell ⟨g, 1, none⟩ (.int .i64 x)) g f0 x f2 := by
 obtain ⟨A0, c0, hb, hg, hr0⟩ := h;exact ⟨A0, c0, by simpa using blk_set hb 1 (.int .i64 x), hg, hr0⟩
theorem cellS123_2 {W : World} {g : Nat} {A0 : Option Addr} {c0 : Nat} {f0 : List Int} {f1 : Int} {f2 : Int} (h : W.heap[g]? = some (.cells #[.slice A0 f0.length c0, .int .i64 f1, .int .i64 f2] 123 (0, 0))) : W.cell? ⟨g, 2, none⟩ = some (.int .i64 f2) := (blk_cell h 2).trans rfl
theorem IsS123.set_2 {w0 W : World} {g : Nat} {f0 : List Int} {f1 : Int} {f2 : Int} (h : IsS123 w0 W g f0 f1 f2) (x : Int) : IsS123 w0 (W.setCell ⟨g, 2, none⟩ (.int .i64 x)) g f0 f1 x := by
 obtain ⟨A0, c0, hb, hg, hr0⟩ := h;exact ⟨A0, c0, by simpa using blk_set hb 2 (.int .i64 x), hg, hr0⟩
theorem IsS123.iI {w0 w1 W : World} {g : Nat} {f0 f0' : List Int} {f1 f1' : Int} {f2 f2' : Int} (b : Aside0 (IsS123 w0 w1 g f0 f1 f2)) (h : IsS123 w0 w1 g f0 f1 f2 → IsS123 w0 W g f0' f1' f2' := by intro h_; repeat (first | (with_reducible first | exact h_ | apply IsS123.alloc | apply IsS123.drewN | apply IsS123.drew | apply IsS123.set_1 | apply IsS123.set_2 | refine IsS123.far ?_ (Aside0.out (by assumption)) _) | exact h_)) : IsS123 w0 W g f0' f1' f2' := h b.out
theorem IsS123.new (w0 W : World) (A0 : Option Addr) (c0 : Nat) (f0 : List Int) (f1 : Int) (f2 : Int) (hB : Below w0.heap.size w0 W) (hr0 : Kd.C (Kd.int .u8) w0 A0 f0.length f0) : IsS123 w0 (W.alloc (.cells #[.slice A0 f0.length c0, .int .i64 f1, .int .i64 f2] 123)) W.heap.size f0 f1 f2 := ⟨A0, c0, by simpa using heap_alloc_new W _, hB.size, hr0⟩

def spec_l1New.l0 : Nat → List Int → Int → Int → Option (List Int × Int × Int)
 | 0, _, _, _ => none
 | k + 1, x0, x3, x4 => if x4 < (x0.length : Int) then (if x4 < 4000 then (if 0 ≤ x4 then (spec_l1New.l0 k x0 (Go.bits .and .i64 (wrap64 ((wrap64 ((wrap64 (x3 * 131)) + (wrap64 (rd x0 x4)))) + 7)) 1073741823) (wrap64 (x4 + 1))) else (none)) else (some (x0, 0, x3))) else (some (x0, 0, x3))
def spec_l1New.f (k : Nat) (l0 : List Int) : Option (List Int × Int × Int) := spec_l1New.l0 k l0 (wrap64 (26583 + (l0.length : Int))) 0
theorem spec_l1New.mono_l : ∀ k, (∀ y0 y1 y2, LeO (spec_l1New.l0 k y0 y1 y2) (spec_l1New.l0 (k + 1) y0 y1 y2))
 | 0 => fun _ _ _ r h => by simp [spec_l1New.l0] at h
 | k + 1 => by
  have ih0 := spec_l1New.mono_l k
  ·intro y0 y1 y2
   unfold spec_l1New.l0;exact mM
theorem spec_l1New.mono : ∀ a0 k, LeO (spec_l1New.f k a0) (spec_l1New.f (k + 1) a0) := by
 intro a0 k;have ih0 := spec_l1New.mono_l k;unfold spec_l1New.f;exact mM
theorem spec_l1New.calls (k : Nat) (A0 : Option Addr) (c0 : Nat) (l0 : List Int) (r1 : List Int) (r2 : Int) (r3 : Int) (w0 w : World) (hB : Below w0.heap.size w0 w) (hr0 : Kd.C (Kd.int .u8) w0 A0 l0.length l0) (Jr : l0.length ≤ c0) (h : spec_l1New.f k l0 = some (r1, r2, r3)) :
  Calls Try.prog 88 #[.slice A0 l0.length c0] w fun e w' => ∃ g_ : Nat, e = .returned (.pointer (some ⟨g_, 0, none⟩)) ∧ IsS123 w0 w' g_ r1 r2 r3 ∧ Below w0.heap.size w0 w' ∧ Below w.heap.size w w' := by
 have hu123 := Try.underlying123;have Jn := aM hr0;have Ju := aM Jr;clear hr0 Jr;have HBW := aM (Below.refl w.heap.size w);have HW0 := aM hB.size;have HB := aM hB;clear hB;unfold spec_l1New.f at h;have H := h;clear h;have H' := aM H;clear H
 go_enter Try.func88, Try.ntmps88
 go_wp2
 go_loopg [3, 4] k (fun kq v3 v4 w' => ∃ (Jb : Int) (Ja : Int), v3 = .int .i64 Jb ∧ v4 = .int .i64 Ja ∧ Aside0 (spec_l1New.l0 kq l0 Jb Ja = some (r1, r2, r3)) ∧ Aside0 (kq ≤ k) ∧ Aside0 (Below w.heap.size w w') ∧ Aside0 (Below w0.heap.size w0 w'))
 case atStart => exact ⟨(wrap64 (26583 + (l0.length : Int))), (0), eV, eV, H', ⟨Nat.le_refl _⟩, ⟨by repeat (first | (with_reducible first | exact HBW.out | apply below_alloc | apply pw_below_drewN | apply below_drew1) | exact HBW.out)⟩, ⟨bB⟩⟩
 case round =>
  clear H';obtain ⟨Jb, Ja, rfl, rfl, HA, HK1, HBW, HB⟩ := hrel
  cases gk with
  | zero => exact absurd HA.out (by simp [spec_l1New.l0])
  | succ k1 =>
   have H := HA.out;clear HA;simp only [spec_l1New.l0] at H
   by_cases c2 : Ja < (l0.length : Int)
   ·rw [if_pos c2] at H
    have Jo := decide_eq_true c2;clear c2
    by_cases c3 : Ja < 4000
    ·rw [if_pos c3] at H
     have Jp := decide_eq_true c3;clear c3
     by_cases c4 : 0 ≤ Ja
     ·rw [if_pos c4] at H
      have Jt := decide_eq_true c4;clear c4;have H' := aM H;clear H;have Jf : 0 ≤ (Ja : Int) := dT;have Jg : Ja < (l0.length : Int) := dT;obtain ⟨Js, Jq, Jc⟩ := Kd.at_int Jn.out Ja Jf Jg;cases Jq
      replace Jc := pw_cell_below HB.out Jc;replace Jf := eq_true Jf;replace Jg := eq_true Jg
      go_wp2
      go_roundg k1
      case measure => have := HK1.out; omega
      case rel => exact ⟨(Go.bits .and .i64 (wrap64 ((wrap64 ((wrap64 (Jb * 131)) + (wrap64 (rd l0 Ja)))) + 7)) 1073741823), (wrap64 (Ja + 1)), eV, eV, H', ⟨by have := HK1.out; omega⟩, ⟨by repeat (first | (with_reducible first | exact HBW.out | apply below_alloc | apply pw_below_drewN | apply below_drew1) | exact HBW.out)⟩, ⟨bB⟩⟩
     ·rw [if_neg c4] at H
      exact absurd H (by simp)
    ·rw [if_neg c3] at H
     have Jp := decide_eq_false c3;clear c3;simp only [Option.some.injEq, Prod.mk.injEq] at H;obtain ⟨rfl, rfl, rfl⟩ := H
     go_wp2_with (first | ((with_reducible refine gate_dst (N := 31) rfl ?_); refine bE 31 #[.slice A0 l0.length c0, .int .i64 0, .int .i64 Jb] 123 ?_; intro Jd hg w5 hbox hb; have n_ := aI (aM (below_step HBW.out hb)) (aI (sB HB hb) (aI (aM hbox) (aI (aM ((by rw [hg]; exact (below_size (by repeat (first | (with_reducible first | exact HBW.out | apply below_alloc | apply pw_below_drewN | apply below_drew1) | exact HBW.out))) : w.heap.size ≤ Jd))) (aM ((Nat.le_trans HW0.out (by rw [hg]; exact (below_size (by repeat (first | (with_reducible first | exact HBW.out | apply below_alloc | apply pw_below_drewN | apply below_drew1) | exact HBW.out))) : w.heap.size ≤ Jd) : w0.heap.size ≤ Jd)))))); clear HBW HB; obtain ⟨HBW, HB, Jh, Ji, Jj⟩ := n_; (try clear hb hbox hg)))
     go_ret
     exact ⟨_, rfl, (show IsS123 w0 _ Jd l0 0 Jb from ⟨_, _, pU Jh, Jj.out, Jn.out⟩), bB, by repeat (first | (with_reducible first | exact HBW.out | apply below_alloc | apply pw_below_drewN | apply below_drew1 | refine below_set ?_ Ji.out) | exact HBW.out)⟩
   ·rw [if_neg c2] at H
    have Jo := decide_eq_false c2;clear c2;simp only [Option.some.injEq, Prod.mk.injEq] at H;obtain ⟨rfl, rfl, rfl⟩ := H
    go_wp2_with (first | ((with_reducible refine gate_dst (N := 31) rfl ?_); refine bE 31 #[.slice A0 l0.length c0, .int .i64 0, .int .i64 Jb] 123 ?_; intro Je hg w6 hbox hb; have n_ := aI (aM (below_step HBW.out hb)) (aI (sB HB hb) (aI (aM hbox) (aI (aM ((by rw [hg]; exact (below_size (by repeat (first | (with_reducible first | exact HBW.out | apply below_alloc | apply pw_below_drewN | apply below_drew1) | exact HBW.out))) : w.heap.size ≤ Je))) (aM ((Nat.le_trans HW0.out (by rw [hg]; exact (below_size (by repeat (first | (with_reducible first | exact HBW.out | apply below_alloc | apply pw_below_drewN | apply below_drew1) | exact HBW.out))) : w.heap.size ≤ Je) : w0.heap.size ≤ Je)))))); clear HBW HB; obtain ⟨HBW, HB, Jk, Jl, Jm⟩ := n_; (try clear hb hbox hg)))
    go_ret
    exact ⟨_, rfl, (show IsS123 w0 _ Je l0 0 Jb from ⟨_, _, pU Jk, Jm.out, Jn.out⟩), bB, by repeat (first | (with_reducible first | exact HBW.out | apply below_alloc | apply pw_below_drewN | apply below_drew1 | refine below_set ?_ Jl.out) | exact HBW.out)⟩

def spec_l1Byte.f (Jd : List Int) (Jb : Int) (Jc : Int) : Option (Int × Int × Int) := if Jb < (Jd.length : Int) then (if 0 ≤ Jb then (some (Go.bits .and .i64 (wrap64 ((Go.bits .and .i64 (Go.bits .xor .i64 ((wrap64 ((wrap64 (Jc * 6364136223846793005)) + 1442695040888963407)) / 8589934592) ((wrap64 ((wrap64 (Jc * 6364136223846793005)) + 1442695040888963407)) / 35184372088832)) 255) + (wrap64 (rd Jd Jb)))) 255, wrap64 (Jb + 1), wrap64 ((wrap64 (Jc * 6364136223846793005)) + 1442695040888963407))) else (none)) else (some (Go.bits .and .i64 (Go.bits .xor .i64 ((wrap64 ((wrap64 (Jc * 6364136223846793005)) + 1442695040888963407)) / 8589934592) ((wrap64 ((wrap64 (Jc * 6364136223846793005)) + 1442695040888963407)) / 35184372088832)) 255, Jb, wrap64 ((wrap64 (Jc * 6364136223846793005)) + 1442695040888963407)))
theorem spec_l1Byte.calls (g : Nat) (Jd : List Int) (Jb : Int) (Jc : Int) (r1 : Int) (r2 : Int) (r3 : Int) (w0 w : World) (hI : IsS123 w0 w g Jd Jb Jc) (hB : Below w0.heap.size w0 w) (h : spec_l1Byte.f Jd Jb Jc = some (r1, r2, r3)) :
  Calls Try.prog 121 #[.pointer (some ⟨g, 0, none⟩)] w fun e w' => e = .returned (.int .i64 r1) ∧ IsS123 w0 w' g Jd r2 r3 ∧ Below w0.heap.size w0 w' ∧ KeepBut w w' g none := by
 have HI0 := aM hI;have GEg_ := aM (IsS123.ge hI);have HK := aM (KeepBut.refl w g none);have HL := aM hB.size;clear hI;have HW0 := aM hB.size;have HB := aM hB;clear hB;unfold spec_l1Byte.f at h;have H := h;clear h
 by_cases c2 : Jb < (Jd.length : Int)
 ·rw [if_pos c2] at H
  have Ji := decide_eq_true c2;clear c2
  by_cases c3 : 0 ≤ Jb
  ·rw [if_pos c3] at H
   have Ju := decide_eq_true c3;clear c3;simp only [Option.some.injEq, Prod.mk.injEq] at H;obtain ⟨rfl, rfl, rfl⟩ := H;obtain ⟨ASz4_0, cSz4_0, HGz4, hgz4, HSz4_0⟩ := HI0.out;have Jj := cellS123_0 HGz4;have Jk := cellS123_1 HGz4;have Jl := cellS123_2 HGz4;have Jm := blk_frozen HGz4 1;have Jn := blk_frozen HGz4 2;clear HGz4 hgz4;have Je : 0 ≤ (Jb : Int) := dT;have Jf : Jb < (Jd.length : Int) := dT;obtain ⟨Jg, Jo, Ja⟩ := Kd.at_int HSz4_0 Jb Je Jf;cases Jo
   have hn316_0 : Jg.block ≠ g := Nat.ne_of_lt (Nat.lt_of_lt_of_le (by have := World.block_lt_of_cell? _ _ Ja; first | rwa [add_block] at this | exact this) (IsS123.ge HI0.out));replace Ja := pw_cell_below HB.out Ja;replace Ja := (cell_far (p := ⟨g, 2, none⟩) (by first | (rw [add_block]; exact hn316_0) | (show (Addr.add _ _).block ≠ _; rw [add_block]; exact hn316_0) | exact hn316_0) (.int .i64 (wrap64 ((wrap64 (Jc * 6364136223846793005)) + 1442695040888963407)))).trans Ja;(try have Jh := fun (n_ : Nat) => (show (((w.drewN n_).setCell ⟨g, 2, none⟩ (.int .i64 (wrap64 ((wrap64 (Jc * 6364136223846793005)) + 1442695040888963407))))).cell? _ = some _ from Ja));clear hn316_0;replace Je := eq_true Je;replace Jf := eq_true Jf
   go_enter Try.func121, Try.ntmps121
   go_wp2
   repeat (go_quiet (fail); try go_wp2)
   go_ret
   exact ⟨eW, IsS123.iI HI0, bB, bK HK⟩
  rw [if_neg c3] at H;exact absurd H (by simp)
 rw [if_neg c2] at H;have Ji := decide_eq_false c2;clear c2;simp only [Option.some.injEq, Prod.mk.injEq] at H;obtain ⟨rfl, rfl, rfl⟩ := H;obtain ⟨ASz5_0, cSz5_0, HGz5, hgz5, HSz5_0⟩ := HI0.out;have Jp := cellS123_0 HGz5;have Jq := cellS123_1 HGz5;have Jr := cellS123_2 HGz5;have Js := blk_frozen HGz5 1;have Jt := blk_frozen HGz5 2;clear HGz5 hgz5
 go_enter Try.func121, Try.ntmps121
 go_wp2
 repeat (go_quiet (fail); try go_wp2)
 go_ret
 exact ⟨eW, IsS123.iI HI0, bB, bK HK⟩

end Go.Proofs.Ytgmpdkefegofhaa.PFnAtomic
