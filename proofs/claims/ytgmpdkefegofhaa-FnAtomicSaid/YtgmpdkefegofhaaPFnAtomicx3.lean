-- printed
import Derived.Test.YtgmpdkefegofhaaPFnAtomicx0
import Derived.Test.YtgmpdkefegofhaaPFnAtomicx2
namespace Go.Proofs.Ytgmpdkefegofhaa.PFnAtomic
open Go.RowKit Go.Proofs.YtgmpdkefegofhaaW.PrintWords Go.Proofs.YtgmpdkefegofhaaW.PrintLast Go.Proofs.YtgmpdkefegofhaaW.PrintMore Go.Proofs.YtgmpdkefegofhaaW.Cr
open Go.Proofs.YtgmpdkefegofhaaW.PrintWords.Kd (Q_nil R_alloc R_append R_append_rows R_drew R_drewN R_lit R_mono R_ne R_nil R_reads' R_slice R_types)
attribute [local go_sem] max2_int min2_int max_two min_two max_three min_three max_four min_four
set_option maxHeartbeats 8000000
set_option maxRecDepth 100000
set_option linter.unusedVariables false
set_option linter.unusedSimpArgs false

theorem slices_IndexFunc_Put_DiskOk_2.calls (g : Nat) (A : Option Addr) (n c : Nat) (v1 : Value) (A0 : Option Addr) (c0 : Nat) (l0 : List S65) (w : World) (hg0 : w.heap[g]? = some (.cells #[.slice A n c, v1] 30 (0, 0))) (hr0 : Kd.C k65 w A0 l0.length l0) :
  Calls Try.prog 108 #[.slice A0 l0.length c0, .func (.func 66) #[] #[.pointer (some ⟨g, 0, none⟩)]] w fun e w' => ∃ r : Int, e = .returned (.int .i64 r) ∧ decide (r ≥ 0) = l0.any (impl_DiskOk_2.f n) ∧ Below w.heap.size w w' := by
 have hu65 := Try.underlying65;have Jo := aM hr0;have HG := aM hg0;have HL := aM hr0.2.1;clear hr0 hg0
 go_enter Try.func108, Try.ntmps108
 go_wp2
 go_loopg [8] l0.length (fun gg v8 w' => ∃ kk : Nat, v8 = .int .i64 (kk : Int) ∧ Aside0 (kk ≤ l0.length) ∧ Aside0 (l0.length - kk ≤ gg) ∧ Aside0 (∀ j, j < kk → impl_DiskOk_2.f n (l0.getD j z65) = false) ∧ Aside0 (Below w.heap.size w w'))
 case atStart => exact ⟨0, rfl, ⟨Nat.zero_le _⟩, ⟨by omega⟩, ⟨fun j hj => absurd hj (Nat.not_lt_zero _)⟩, ⟨Below.refl _ _⟩⟩
 case round =>
  obtain ⟨kk, rfl, H1, H2, H3, HB⟩ := hrel
  by_cases hlt : (kk : Int) < (l0.length : Int)
  ·have hb0 : decide ((kk : Int) < (l0.length : Int)) = true := decide_eq_true hlt
   have hk0 : 0 ≤ (kk : Int) := Int.natCast_nonneg _;obtain ⟨ad, e, Jg, Jk⟩ := at_T65 Jo.out (kk : Int) hk0 hlt;cases e
   replace Jg := (HB.out.cell (World.block_lt_of_cell? w _ Jg)).trans Jg;replace Jk := (HB.out.cell (World.block_lt_of_cell? w _ Jk)).trans Jk;have hcal := impl_DiskOk_2.calls (rd_T65 l0 (kk : Int)) g A n c v1 wr (blk_below HG.out HB.out);simp only [Int.toNat_natCast] at Jg Jk;have hE : rd_T65 l0 (kk : Int) = l0.getD kk z65 := by simp [rd_T65]
   generalize rd_T65 l0 (kk : Int) = x at Jg Jk hcal hE;have HE := aM hE;clear hE;have Jp := eq_true hk0;have Jq := eq_true hlt;clear hk0
   cases hq : impl_DiskOk_2.f n x with
   | true =>
    rw [hq] at hcal
    go_wp2_with (first | (go_at_call 66; (with_reducible refine hcal.mono ?_); rintro e w' ⟨rfl, hb⟩))
    go_ret
    refine ⟨(kk : Int), by first | rfl | (simp; done), ?_, below_step HB.out hb⟩;rw [decide_eq_true (by omega)]
    symm
    rw [List.any_eq_true];refine ⟨x, ?_, hq⟩;rw [HE.out, List.getD_eq_getElem?_getD, List.getElem?_eq_getElem (by omega)];exact List.getElem_mem _
   | false =>
    rw [hq] at hcal
    go_wp2_with (first | (go_at_call 66; (with_reducible refine hcal.mono ?_); rintro e w' ⟨rfl, hb⟩))
    go_roundg (l0.length - (kk + 1))
    case measure => have := H2.out; omega
    case rel =>
     refine ⟨kk + 1, ?_, ⟨by omega⟩, ⟨Nat.le_refl _⟩, ⟨fun j hj => ?_⟩, ⟨below_step HB.out hb⟩⟩
     ·have := HL.out
      rw [show wrap64 ((kk : Int) + 1) = ((kk + 1 : Nat) : Int) by unfold wrap64; omega]
     ·by_cases e : j = kk
      ·rw [e, ← HE.out]; exact hq
      ·exact H3.out j (by omega)
  have hb0 : decide ((kk : Int) < (l0.length : Int)) = false := decide_eq_false hlt
  go_wp2
  go_ret
  refine ⟨-1, by first | rfl | (simp; done), ?_, HB.out⟩;rw [decide_eq_false (by omega)]
  symm
  rw [List.any_eq_false];intro x hx;obtain ⟨j, hj, rfl⟩ := List.mem_iff_getElem.1 hx;have h1 := H1.out;have := H3.out j (by omega);rw [List.getD_eq_getElem?_getD, List.getElem?_eq_getElem hj] at this
  simpa using this
def longText (s : ByteArray) : Bool := !(decide ((s.size : Int) ≤ 90))
theorem slices_IndexFunc_string_DiskOk_1.calls (A0 : Option Addr) (c0 : Nat) (l0 : List ByteArray) (w : World) (hr0 : Kd.C Kd.string w A0 l0.length l0) :
  Calls Try.prog 107 #[.slice A0 l0.length c0, .func (.func 63) #[] #[]] w fun e w' => ∃ r : Int, e = .returned (.int .i64 r) ∧ decide (r ≥ 0) = l0.any (longText) ∧ Below w.heap.size w w' := by
 have Jo := aM hr0;have HL := aM hr0.2.1;clear hr0
 go_enter Try.func107, Try.ntmps107
 go_wp2
 go_loopg [8] l0.length (fun gg v8 w' => ∃ kk : Nat, v8 = .int .i64 (kk : Int) ∧ Aside0 (kk ≤ l0.length) ∧ Aside0 (l0.length - kk ≤ gg) ∧ Aside0 (∀ j, j < kk → longText (l0.getD j ByteArray.empty) = false) ∧ Aside0 (Below w.heap.size w w'))
 case atStart => exact ⟨0, rfl, ⟨Nat.zero_le _⟩, ⟨by omega⟩, ⟨fun j hj => absurd hj (Nat.not_lt_zero _)⟩, ⟨Below.refl _ _⟩⟩
 case round =>
  obtain ⟨kk, rfl, H1, H2, H3, HB⟩ := hrel
  by_cases hlt : (kk : Int) < (l0.length : Int)
  ·have hb0 : decide ((kk : Int) < (l0.length : Int)) = true := decide_eq_true hlt
   have hk0 : 0 ≤ (kk : Int) := Int.natCast_nonneg _;obtain ⟨ad, e, Jg⟩ := Kd.at_string Jo.out (kk : Int) hk0 hlt;cases e
   replace Jg := (HB.out.cell (World.block_lt_of_cell? w _ Jg)).trans Jg;have hcal := impl_DiskOk_1.calls (rdOf ByteArray.empty l0 (kk : Int)) (longText (rdOf ByteArray.empty l0 (kk : Int))) wr rfl;simp only [Int.toNat_natCast] at Jg;have hE : rdOf ByteArray.empty l0 (kk : Int) = l0.getD kk ByteArray.empty := by simp [rdOf]
   generalize rdOf ByteArray.empty l0 (kk : Int) = x at Jg hcal hE;have HE := aM hE;clear hE;have Jp := eq_true hk0;have Jq := eq_true hlt;clear hk0
   cases hq : longText x with
   | true =>
    rw [hq] at hcal
    go_wp2_with (first | (go_at_call 63; (with_reducible refine hcal.mono ?_); rintro e w' ⟨rfl, hd⟩; have hb := hd.below; clear hd))
    go_ret
    refine ⟨(kk : Int), by first | rfl | (simp; done), ?_, below_step HB.out hb⟩;rw [decide_eq_true (by omega)]
    symm
    rw [List.any_eq_true];refine ⟨x, ?_, hq⟩;rw [HE.out, List.getD_eq_getElem?_getD, List.getElem?_eq_getElem (by omega)];exact List.getElem_mem _
   | false =>
    rw [hq] at hcal
    go_wp2_with (first | (go_at_call 63; (with_reducible refine hcal.mono ?_); rintro e w' ⟨rfl, hd⟩; have hb := hd.below; clear hd))
    go_roundg (l0.length - (kk + 1))
    case measure => have := H2.out; omega
    case rel =>
     refine ⟨kk + 1, ?_, ⟨by omega⟩, ⟨Nat.le_refl _⟩, ⟨fun j hj => ?_⟩, ⟨below_step HB.out hb⟩⟩
     ·have := HL.out
      rw [show wrap64 ((kk : Int) + 1) = ((kk + 1 : Nat) : Int) by unfold wrap64; omega]
     ·by_cases e : j = kk
      ·rw [e, ← HE.out]; exact hq
      ·exact H3.out j (by omega)
  have hb0 : decide ((kk : Int) < (l0.length : Int)) = false := decide_eq_false hlt
  go_wp2
  go_ret
  refine ⟨-1, by first | rfl | (simp; done), ?_, HB.out⟩;rw [decide_eq_false (by omega)]
  symm
  rw [List.any_eq_false];intro x hx;obtain ⟨j, hj, rfl⟩ := List.mem_iff_getElem.1 hx;have h1 := H1.out;have := H3.out j (by omega);rw [List.getD_eq_getElem?_getD, List.getElem?_eq_getElem hj] at this
  simpa using this

theorem slices_ContainsFunc_Put_DiskOk_2.calls (g : Nat) (A : Option Addr) (n c : Nat) (v1 : Value) (A0 : Option Addr) (c0 : Nat) (l0 : List S65) (w : World) (hg0 : w.heap[g]? = some (.cells #[.slice A n c, v1] 30 (0, 0))) (hr0 : Kd.C k65 w A0 l0.length l0) :
  Calls Try.prog 65 #[.slice A0 l0.length c0, .func (.func 66) #[] #[.pointer (some ⟨g, 0, none⟩)]] w fun e w' => e = .returned (.bool (l0.any (impl_DiskOk_2.f n))) ∧ Below w.heap.size w w' := by
 have hcal := slices_IndexFunc_Put_DiskOk_2.calls g A n c v1 A0 c0 l0 w hg0 hr0;clear hg0 hr0
 go_enter Try.func65, Try.ntmps65
 go_wp2_with (first | (go_at_call 108; (with_reducible refine hcal.mono ?_); rintro e w' ⟨r, rfl, hr, hb⟩))
 go_ret
 exact ⟨by rw [← hr]; rfl, hb⟩
theorem slices_ContainsFunc_string_DiskOk_1.calls (A0 : Option Addr) (c0 : Nat) (l0 : List ByteArray) (w : World) (hr0 : Kd.C Kd.string w A0 l0.length l0) :
  Calls Try.prog 62 #[.slice A0 l0.length c0, .func (.func 63) #[] #[]] w fun e w' => e = .returned (.bool (l0.any longText)) ∧ Below w.heap.size w w' := by
 have hcal := slices_IndexFunc_string_DiskOk_1.calls A0 c0 l0 w hr0;clear hr0
 go_enter Try.func62, Try.ntmps62
 go_wp2_with (first | (go_at_call 107; (with_reducible refine hcal.mono ?_); rintro e w' ⟨r, rfl, hr, hb⟩))
 go_ret
 exact ⟨by rw [← hr]; rfl, hb⟩
def diskOk (l0 : List ByteArray) (l1 : List S65) : Bool := decide (l0.length ≤ 120) && (decide (l1.length ≤ 400) && (!(l0.any longText) && !(l1.any (impl_DiskOk_2.f l0.length))))
def impl_DiskOk.f (Ja : List ByteArray) (Jb : List S65) : Option Bool := some (diskOk Ja Jb)
theorem impl_DiskOk.calls (Jc : Option Addr) (Jd : Nat) (Ja : List ByteArray) (Je : Option Addr) (Jf : Nat) (Jb : List S65) (r : Bool) (w : World) (hr0_0 : Kd.C Kd.string w Jc Ja.length Ja) (Jl : Ja.length ≤ Jd) (hr0_1 : Kd.C k65 w Je Jb.length Jb) (Jm : Jb.length ≤ Jf) (h : impl_DiskOk.f Ja Jb = some r) :
  Calls Try.prog 18 #[.agg #[.slice Jc Ja.length Jd, .slice Je Jb.length Jf]] w fun e w' => e = .returned (.bool r) ∧ Below w.heap.size w w' := by
 have hu30 := Try.underlying30;have Jj := aM hr0_0;have Jn := aM hr0_1;clear hr0_0 Jl hr0_1 Jm;obtain rfl := Option.some.inj h;clear h;unfold diskOk
 by_cases c1 : Ja.length ≤ 120
 ·rw [decide_eq_true c1]
  have f1a : decide (120 < (Ja.length : Int)) = false := decide_eq_false (by omega);have f1b : decide (120 < Ja.length) = false := decide_eq_false (by omega);have f1c : decide ((Ja.length : Int) > 120) = false := decide_eq_false (by omega);clear c1
  by_cases c2 : Jb.length ≤ 400
  ·rw [decide_eq_true c2]
   have f2a : decide (400 < (Jb.length : Int)) = false := decide_eq_false (by omega);have f2b : decide (400 < Jb.length) = false := decide_eq_false (by omega);have f2c : decide ((Jb.length : Int) > 400) = false := decide_eq_false (by omega);clear c2
   cases c3 : Ja.any longText with
   | true =>
    go_enter Try.func18, Try.ntmps18
    go_wp2_with (first | ((with_reducible refine gate_dst (N := 1) rfl ?_); refine bE 1 #[.slice Jc Ja.length Jd, .slice Je Jb.length Jf] 30 ?_; intro gb hg w4 hbox hb; have Jh : w4.cell? ⟨gb, 0, none⟩ = some (.slice Jc Ja.length Jd) := (blk_cell hbox 0).trans rfl; have Ji : w4.cell? ⟨gb, 1, none⟩ = some (.slice Je Jb.length Jf) := (blk_cell hbox 1).trans rfl; have HG := aM hbox; have HB := aM hb; clear hbox hb hg) | (go_at_call 62; (with_reducible refine (slices_ContainsFunc_string_DiskOk_1.calls Jc Jd Ja _ (Kd.C_below Jj.out HB.out)).mono ?_); rintro e w' ⟨rfl, hb⟩; rw [c3]; replace Jh := (hb.cell (World.block_lt_of_cell? _ _ Jh)).trans Jh; replace Ji := (hb.cell (World.block_lt_of_cell? _ _ Ji)).trans Ji; have n1 := aM (blk_below HG.out hb); have n2 := aM (below_step HB.out hb); clear HG HB; have HG := n1; have HB := n2; clear n1 n2 hb))
    go_ret
    exact ⟨by first | rfl | (simp; done), bB⟩

   | false =>
    go_enter Try.func18, Try.ntmps18
    go_wp2_with (first | ((with_reducible refine gate_dst (N := 1) rfl ?_); refine bE 1 #[.slice Jc Ja.length Jd, .slice Je Jb.length Jf] 30 ?_; intro gb hg w4 hbox hb; have Jh : w4.cell? ⟨gb, 0, none⟩ = some (.slice Jc Ja.length Jd) := (blk_cell hbox 0).trans rfl; have Ji : w4.cell? ⟨gb, 1, none⟩ = some (.slice Je Jb.length Jf) := (blk_cell hbox 1).trans rfl; have HG := aM hbox; have HB := aM hb; clear hbox hb hg) | (go_at_call 62; (with_reducible refine (slices_ContainsFunc_string_DiskOk_1.calls Jc Jd Ja _ (Kd.C_below Jj.out HB.out)).mono ?_); rintro e w' ⟨rfl, hb⟩; rw [c3]; replace Jh := (hb.cell (World.block_lt_of_cell? _ _ Jh)).trans Jh; replace Ji := (hb.cell (World.block_lt_of_cell? _ _ Ji)).trans Ji; have n1 := aM (blk_below HG.out hb); have n2 := aM (below_step HB.out hb); clear HG HB; have HG := n1; have HB := n2; clear n1 n2 hb) | (go_at_call 65; (with_reducible refine (slices_ContainsFunc_Put_DiskOk_2.calls _ Jc Ja.length Jd _ Je Jf Jb _ HG.out (Kd.C_below Jn.out HB.out)).mono ?_); rintro e w' ⟨rfl, hb⟩; have n2 := aM (below_step HB.out hb); clear HB; have HB := n2; clear n2 hb))
    go_ret
    exact ⟨by first | rfl | (simp; done), bB⟩

  rw [decide_eq_false c2];have f2a : decide (400 < (Jb.length : Int)) = true := decide_eq_true (by omega);have f2b : decide (400 < Jb.length) = true := decide_eq_true (by omega);have f2c : decide ((Jb.length : Int) > 400) = true := decide_eq_true (by omega);clear c2
  go_enter Try.func18, Try.ntmps18
  go_wp2_with (first | ((with_reducible refine gate_dst (N := 1) rfl ?_); refine bE 1 #[.slice Jc Ja.length Jd, .slice Je Jb.length Jf] 30 ?_; intro gb hg w4 hbox hb; have Jh : w4.cell? ⟨gb, 0, none⟩ = some (.slice Jc Ja.length Jd) := (blk_cell hbox 0).trans rfl; have Ji : w4.cell? ⟨gb, 1, none⟩ = some (.slice Je Jb.length Jf) := (blk_cell hbox 1).trans rfl; have HG := aM hbox; have HB := aM hb; clear hbox hb hg))
  go_ret
  exact ⟨by first | rfl | (simp; done), bB⟩

 rw [decide_eq_false c1];have f1a : decide (120 < (Ja.length : Int)) = true := decide_eq_true (by omega);have f1b : decide (120 < Ja.length) = true := decide_eq_true (by omega);have f1c : decide ((Ja.length : Int) > 120) = true := decide_eq_true (by omega);clear c1
 go_enter Try.func18, Try.ntmps18
 go_wp2_with (first | ((with_reducible refine gate_dst (N := 1) rfl ?_); refine bE 1 #[.slice Jc Ja.length Jd, .slice Je Jb.length Jf] 30 ?_; intro gb hg w4 hbox hb; have Jh : w4.cell? ⟨gb, 0, none⟩ = some (.slice Jc Ja.length Jd) := (blk_cell hbox 0).trans rfl; have Ji : w4.cell? ⟨gb, 1, none⟩ = some (.slice Je Jb.length Jf) := (blk_cell hbox 1).trans rfl; have HG := aM hbox; have HB := aM hb; clear hbox hb hg))
 go_ret
 exact ⟨by first | rfl | (simp; done), bB⟩


mutual
def impl_SectorRead.j0 : Nat → Int → Bool → List ByteArray → List (S65) → Option (ByteArray × Bool)
 | 0, _, _, _, _ => none
 | k + 1, x1, Ub, Jo, Jp => if Ub = true then (some ((⟨#[]⟩ : ByteArray), false)) else (if 0 ≤ x1 then (if x1 < (Jo.length : Int) then (impl_SectorRead.l0 k x1 (rdOf ByteArray.empty Jo x1) Jp (Jp.length : Int) 0) else (none)) else (none))
def impl_SectorRead.l0 : Nat → Int → ByteArray → List (S65) → Int → Int → Option (ByteArray × Bool)
 | 0, _, _, _, _, _ => none
 | k + 1, x1, x6, JJ, JX, JC => if JC < JX then (if 0 ≤ JC then (if JC < (JJ.length : Int) then (if ((rd_T65 JJ JC).f0) = x1 then (impl_SectorRead.l0 k x1 ((rd_T65 JJ JC).f1) JJ JX (wrap64 (JC + 1))) else (impl_SectorRead.l0 k x1 x6 JJ JX (wrap64 (JC + 1)))) else (none)) else (none)) else (some (x6, true))
end
def impl_SectorRead.f (k : Nat) (Jd : List ByteArray) (Jb : List (S65)) (a1 : Int) : Option (ByteArray × Bool) := (impl_DiskOk.f Jd Jb).bind fun JD => (if JD = true then ((impl_within.f a1 0 (wrap64 ((Jd.length : Int) - 1))).bind fun Jv => (impl_SectorRead.j0 k a1 (!Jv) Jd Jb)) else (impl_SectorRead.j0 k a1 true Jd Jb))
theorem impl_SectorRead.mono_l : ∀ k, (∀ y0 y1 y2 y3, LeO (impl_SectorRead.j0 k y0 y1 y2 y3) (impl_SectorRead.j0 (k + 1) y0 y1 y2 y3)) ∧ (∀ y0 y1 y2 y3 y4, LeO (impl_SectorRead.l0 k y0 y1 y2 y3 y4) (impl_SectorRead.l0 (k + 1) y0 y1 y2 y3 y4))
 | 0 => ⟨fun _ _ _ _ r h => by simp [impl_SectorRead.j0] at h, fun _ _ _ _ _ r h => by simp [impl_SectorRead.l0] at h⟩
 | k + 1 => by
  obtain ⟨ih0, ih1⟩ := impl_SectorRead.mono_l k;refine ⟨?_, ?_⟩
  ·intro y0 y1 y2 y3
   unfold impl_SectorRead.j0;exact mM
  ·intro y0 y1 y2 y3 y4
   unfold impl_SectorRead.l0;exact mM
theorem impl_SectorRead.mono : ∀ a0 a1 a2 k, LeO (impl_SectorRead.f k a0 a1 a2) (impl_SectorRead.f (k + 1) a0 a1 a2) := by
 intro a0 a1 a2 k;obtain ⟨ih0, ih1⟩ := impl_SectorRead.mono_l k;unfold impl_SectorRead.f;exact mM
theorem impl_SectorRead.calls (k : Nat) (Js : Option Addr) (Jj : Nat) (Jd : List ByteArray) (Jk : Option Addr) (Jl : Nat) (Jb : List (S65)) (a1 : Int) (r1 : ByteArray) (r2 : Bool) (w : World) (hr0_0 : Kd.C Kd.string w Js Jd.length Jd) (Jx : Jd.length ≤ Jj) (hr0_1 : Kd.C k65 w Jk Jb.length Jb) (Jy : Jb.length ≤ Jl) (h : impl_SectorRead.f k Jd Jb a1 = some (r1, r2)) :
  Calls Try.prog 21 #[.agg #[.slice Js Jd.length Jj, .slice Jk Jb.length Jl], .int .i64 a1] w fun e w' => e = .returned (.tuple #[.string r1, .bool r2]) ∧ Below w.heap.size w w' := by
 have hu30 := Try.underlying30;have hu65 := Try.underlying65;have Jt := aM hr0_0;have Jz := aM Jx;clear hr0_0 Jx;have Jq := aM hr0_1;have JA := aM Jy;clear hr0_1 Jy;have HB := aM (Below.refl w.heap.size w);unfold impl_SectorRead.f at h;have H := h;clear h;have JY := aM H;clear H
 go_enter Try.func21, Try.ntmps21
 go_upto_region 1 with (first | ((with_reducible refine gate_dst (N := 2) rfl ?_); (try (refine gate_guard (by rfl) ?_; dsimp only)); refine box_event ?hg (N := 2) ?hd (cs := #[.slice Js Jd.length Jj, .slice Jk Jb.length Jl]) (t := 30) ?hr ?_; (case hd => rfl); (case hg => rfl); (case hr => first | (go_simp; done) | (go_simp; rfl)); intro JB hg w4 hbox hb; have n_ := aI (sB HB hb) (aI (aM hbox) (aI (gE HB hg) (gE HB hg))); clear HB; obtain ⟨HB, Ja, J0, J1⟩ := n_; (try clear hb hbox hg)))
 (try simp only [Act.put, List.setIfInBounds_toArray, List.set_cons_zero, List.set_cons_succ])
 go_cut [20] (fun Uc wc => ∃ (kq : Nat) (Jr : Bool), Uc = .bool Jr ∧ Aside0 (impl_SectorRead.j0 kq a1 Jr Jd Jb = some (r1, r2)) ∧ Aside0 (kq ≤ k) ∧ Aside0 (wc.heap[JB]? = some (.cells #[(.slice Js Jd.length Jj), (.slice Jk Jb.length Jl)] 30 (0, 0))) ∧ Aside0 (Below w.heap.size w wc))
 case first =>
  have H := JY.out;clear JY;obtain ⟨JD, A5, H⟩ := oB H;try dsimp only at H
  by_cases c6 : JD = true
  ·subst c6
   rw [if_pos rfl] at H;obtain ⟨Jv, A7, H⟩ := oB H;try dsimp only at H
   have H' := aM H;clear H;obtain ⟨_, _, _, _⟩ := z2 Ja
   go_wp2_with (first | ((with_reducible refine gate_callee (f := 18) rfl ?_); refine gL (some 10) Try.func18 #[.agg #[.slice Js Jd.length Jj, .slice Jk Jb.length Jl]] ?_; (with_reducible refine (impl_DiskOk.calls _ _ Jd _ _ Jb true _ ?side1 ?side2 ?side3 ?side4 A5.out).mono ?_); (case side1 => exact cS Jt HB); (case side2 => exact Jz.out); (case side3 => exact cS Jq HB); (case side4 => exact JA.out); rintro e w9 ⟨rfl, hb⟩; refine ⟨_, rfl, ?_⟩; have n_ := aI (kB Ja hb) (sB HB hb); clear Ja HB; obtain ⟨Ja, HB⟩ := n_; (try clear hb); obtain ⟨_, _, _, _⟩ := z2 Ja) | (go_at_call 67; (with_reducible refine (impl_within.calls a1 0 (wrap64 ((Jd.length : Int) - 1)) Jv _ A7.out).mono ?_); rintro e w' ⟨rfl, ⟨nd, rfl⟩⟩))
   go_meet
   case rel => exact ⟨_, (!Jv), eV, H', ⟨by first | omega | exact Nat.le_refl _⟩, ⟨kP Ja⟩, ⟨bB⟩⟩
  replace c6 := Bool.eq_false_iff.mpr c6;subst c6;rw [if_neg (show ¬ (false = true) by decide)] at H;have H' := aM H;clear H;obtain ⟨_, _, _, _⟩ := z2 Ja
  go_wp2_with (first | ((with_reducible refine gate_callee (f := 18) rfl ?_); refine gL (some 10) Try.func18 #[.agg #[.slice Js Jd.length Jj, .slice Jk Jb.length Jl]] ?_; (with_reducible refine (impl_DiskOk.calls _ _ Jd _ _ Jb false _ ?side1 ?side2 ?side3 ?side4 A5.out).mono ?_); (case side1 => exact cS Jt HB); (case side2 => exact Jz.out); (case side3 => exact cS Jq HB); (case side4 => exact JA.out); rintro e Ue ⟨rfl, hb⟩; refine ⟨_, rfl, ?_⟩; have n_ := aI (kB Ja hb) (sB HB hb); clear Ja HB; obtain ⟨Ja, HB⟩ := n_; (try clear hb)))
  go_meet
  case rel => exact ⟨_, (true), eV, H', ⟨by first | omega | exact Nat.le_refl _⟩, ⟨kP Ja⟩, ⟨bB⟩⟩
 case rest =>
  clear JY;obtain ⟨kq, Jr, rfl, HA, HJ2, Ja, HB⟩ := hcut
  cases kq with
  | zero => exact absurd HA.out (by simp [impl_SectorRead.j0])
  | succ J2 =>
   have H := HA.out;clear HA;simp only [impl_SectorRead.j0] at H
   by_cases JS : Jr = true
   ·subst JS
    rw [if_pos rfl] at H;simp only [Option.some.injEq, Prod.mk.injEq] at H;obtain ⟨rfl, rfl⟩ := H
    go_wp2
    go_ret2
    exact ⟨eW, bB⟩
   ·replace JS := Bool.eq_false_iff.mpr JS
    subst JS;rw [if_neg (show ¬ (false = true) by decide)] at H
    by_cases JT : 0 ≤ a1
    ·rw [if_pos JT] at H
     have J3 := decide_eq_true JT;clear JT
     by_cases JU : a1 < (Jd.length : Int)
     ·rw [if_pos JU] at H
      have J4 := decide_eq_true JU;clear JU;have H' := aM H;clear H;obtain ⟨_, _, _, _⟩ := z2 Ja;have JE : 0 ≤ (a1 : Int) := dT;have JF : a1 < (Jd.length : Int) := dT;obtain ⟨JK, JZ, Ji⟩ := Kd.at_string Jt.out a1 JE JF;cases JZ
      replace Ji := (HB.out.cell (World.block_lt_of_cell? w _ Ji)).trans Ji;replace JE := eq_true JE;replace JF := eq_true JF
      go_wp2
      go_loopg [6, 29] J2 (fun kq v6 Ud w' => ∃ (Jw : ByteArray) (Jc : Int), v6 = .string Jw ∧ Ud = .int .i64 Jc ∧ Aside0 (impl_SectorRead.l0 kq a1 Jw Jb (Jb.length : Int) Jc = some (r1, r2)) ∧ Aside0 (kq ≤ J2) ∧ Aside0 (w'.heap[JB]? = some (.cells #[(.slice (some JK) Jd.length Jj), (.slice Jk Jb.length Jl)] 30 (0, 0))) ∧ Aside0 (Below w.heap.size w w'))
      case atStart => exact ⟨(rdOf ByteArray.empty Jd a1), (0), eV, eV, H', ⟨Nat.le_refl _⟩, ⟨kP Ja⟩, ⟨bB⟩⟩
      case round =>
       clear H';obtain ⟨Jw, Jc, rfl, rfl, HA, HK2, Ja, HB⟩ := hrel
       cases gk with
       | zero => exact absurd HA.out (by simp [impl_SectorRead.l0])
       | succ k2 =>
        have H := HA.out;clear HA;simp only [impl_SectorRead.l0] at H
        by_cases JI : Jc < (Jb.length : Int)
        ·rw [if_pos JI] at H
         have JL := decide_eq_true JI;clear JI
         by_cases JV : 0 ≤ Jc
         ·rw [if_pos JV] at H
          have J5 := decide_eq_true JV;clear JV
          by_cases JW : Jc < (Jb.length : Int)
          ·rw [if_pos JW] at H
           have J6 := decide_eq_true JW;clear JW
           by_cases JG : ((rd_T65 Jb Jc).f0) = a1
           ·rw [if_pos JG] at H
            have JM := beq_iff_eq.mpr JG;have JN := bne_eq_false_iff_eq.mpr JG;clear JG;have H' := aM H;clear H;have Jm : 0 ≤ (Jc : Int) := dT;have Jn : Jc < (Jb.length : Int) := dT;obtain ⟨JO, JH, Je, Jf⟩ := at_T65 Jq.out Jc Jm Jn;cases JH
            replace Je := (HB.out.cell (World.block_lt_of_cell? w _ Je)).trans Je;replace Jf := (HB.out.cell (World.block_lt_of_cell? w _ Jf)).trans Jf;replace Jm := eq_true Jm;replace Jn := eq_true Jn
            go_wp2_with (first | ((with_reducible refine gate_dst (N := 8) rfl ?_); (try (refine gate_guard (by rfl) ?_; dsimp only)); refine box_event ?hg (N := 8) ?hd (cs := #[.int .i64 0, .string (⟨#[]⟩ : ByteArray)]) (t := 65) ?hr ?_; (case hd => rfl); (case hg => rfl); (case hr => first | (go_simp; done) | (go_simp; rfl)); intro JP hg Uf hbox hb; have n_ := aI (kB Ja hb) (aI (sB HB hb) (aI (aM hbox) (aI (gE HB hg) (aI (gE HB hg) (aI (nL Ja hg) (nG Ja hg)))))); clear Ja HB; obtain ⟨Ja, HB, Ju, JQ, JR, Jg, Jh⟩ := n_; (try clear hb hbox hg); have J7 := Jh.out; have J8 := Jg.out; obtain ⟨_, _, _, _⟩ := z2 Ju))
            go_roundg k2
            case measure => have := HJ2.out; have := HK2.out; omega
            case rel => exact ⟨((rd_T65 Jb Jc).f1), (wrap64 (Jc + 1)), eV, eV, H', ⟨by have := HJ2.out; have := HK2.out; omega⟩, ⟨kP Ja⟩, ⟨bB⟩⟩
           ·rw [if_neg JG] at H
            have JM := beq_eq_false_iff_ne.mpr JG;have JN := bne_iff_ne.mpr JG;have H' := aM H;clear H;have Jm : 0 ≤ (Jc : Int) := dT;have Jn : Jc < (Jb.length : Int) := dT;obtain ⟨JO, JH, Je, Jf⟩ := at_T65 Jq.out Jc Jm Jn;cases JH
            replace Je := (HB.out.cell (World.block_lt_of_cell? w _ Je)).trans Je;replace Jf := (HB.out.cell (World.block_lt_of_cell? w _ Jf)).trans Jf;replace Jm := eq_true Jm;replace Jn := eq_true Jn
            go_wp2_with (first | ((with_reducible refine gate_dst (N := 8) rfl ?_); (try (refine gate_guard (by rfl) ?_; dsimp only)); refine box_event ?hg (N := 8) ?hd (cs := #[.int .i64 0, .string (⟨#[]⟩ : ByteArray)]) (t := 65) ?hr ?_; (case hd => rfl); (case hg => rfl); (case hr => first | (go_simp; done) | (go_simp; rfl)); intro JP hg Ug hbox hb; have n_ := aI (kB Ja hb) (aI (sB HB hb) (aI (aM hbox) (aI (gE HB hg) (aI (gE HB hg) (aI (nL Ja hg) (nG Ja hg)))))); clear Ja HB; obtain ⟨Ja, HB, Ju, JQ, JR, Jg, Jh⟩ := n_; (try clear hb hbox hg); have J9 := Jh.out; have Ua := Jg.out; obtain ⟨_, _, _, _⟩ := z2 Ju))
            go_roundg k2
            case measure => have := HJ2.out; have := HK2.out; omega
            case rel => exact ⟨(Jw), (wrap64 (Jc + 1)), eV, eV, H', ⟨by have := HJ2.out; have := HK2.out; omega⟩, ⟨kP Ja⟩, ⟨bB⟩⟩
          ·rw [if_neg JW] at H
           exact absurd H (by simp)
         ·rw [if_neg JV] at H
          exact absurd H (by simp)
        ·rw [if_neg JI] at H
         have JL := decide_eq_false JI;clear JI;simp only [Option.some.injEq, Prod.mk.injEq] at H;obtain ⟨rfl, rfl⟩ := H
         go_wp2
         go_ret2
         exact ⟨eW, bB⟩
     ·rw [if_neg JU] at H
      exact absurd H (by simp)
    ·rw [if_neg JT] at H
     exact absurd H (by simp)

def impl_homed.f (Jb : List ByteArray) (Jc : List (S65)) (a1 : Int) : Option (Bool) := (impl_DiskOk.f Jb Jc).bind fun Jq => (if Jq = true then ((impl_within.f a1 1 48).bind fun Jr => (if Jr = true then (some ((Jb.length : Int) == (wrap64 ((wrap64 (2 * a1)) + 1)))) else (some false))) else (some false))
theorem impl_homed.calls (Jd : Option Addr) (Je : Nat) (Jb : List ByteArray) (Jf : Option Addr) (Jg : Nat) (Jc : List (S65)) (a1 : Int) (r : Bool) (w : World) (hr0_0 : Kd.C Kd.string w Jd Jb.length Jb) (Jl : Jb.length ≤ Je) (hr0_1 : Kd.C k65 w Jf Jc.length Jc) (Jm : Jc.length ≤ Jg) (h : impl_homed.f Jb Jc a1 = some r) :
  Calls Try.prog 71 #[.agg #[.slice Jd Jb.length Je, .slice Jf Jc.length Jg], .int .i64 a1] w fun e w' => e = .returned (.bool r) ∧ Below w.heap.size w w' := by
 have hu30 := Try.underlying30;have Jh := aM hr0_0;have Ji := aM Jl;clear hr0_0 Jl;have Jj := aM hr0_1;have Jk := aM Jm;clear hr0_1 Jm;have HB := aM (Below.refl w.heap.size w);unfold impl_homed.f at h;have H := h;clear h;obtain ⟨Jq, A3, H⟩ := oB H;try dsimp only at H
 by_cases c4 : Jq = true
 ·subst c4
  rw [if_pos rfl] at H;obtain ⟨Jr, A5, H⟩ := oB H;try dsimp only at H
  by_cases c6 : Jr = true
  ·subst c6
   rw [if_pos rfl] at H;obtain rfl := Option.some.inj H
   go_enter Try.func71, Try.ntmps71
   go_wp2_with (first | ((with_reducible refine gate_dst (N := 2) rfl ?_); (try (refine gate_guard (by rfl) ?_; dsimp only)); refine box_event ?hg (N := 2) ?hd (cs := #[.slice Jd Jb.length Je, .slice Jf Jc.length Jg]) (t := 30) ?hr ?_; (case hd => rfl); (case hg => rfl); (case hr => first | (go_simp; done) | (go_simp; rfl)); intro Jn hg w7 hbox hb; have n_ := aI (sB HB hb) (aI (aM hbox) (aI (gE HB hg) (gE HB hg))); clear HB; obtain ⟨HB, Ja, Jo, Jp⟩ := n_; (try clear hb hbox hg); obtain ⟨_, _, _, _⟩ := z2 Ja) | ((with_reducible refine gate_callee (f := 18) rfl ?_); refine gL (some 6) Try.func18 #[.agg #[.slice Jd Jb.length Je, .slice Jf Jc.length Jg]] ?_; (with_reducible refine (impl_DiskOk.calls _ _ Jb _ _ Jc true _ ?side1 ?side2 ?side3 ?side4 A3.out).mono ?_); (case side1 => exact cS Jh HB); (case side2 => exact Ji.out); (case side3 => exact cS Jj HB); (case side4 => exact Jk.out); rintro e w9 ⟨rfl, hb⟩; refine ⟨_, rfl, ?_⟩; have n_ := aI (kB Ja hb) (sB HB hb); clear Ja HB; obtain ⟨Ja, HB⟩ := n_; (try clear hb)) | (go_at_call 67; (with_reducible refine (impl_within.calls a1 1 48 true _ A5.out).mono ?_); rintro e w' ⟨rfl, ⟨nd, rfl⟩⟩; obtain ⟨_, _, _, _⟩ := z2 Ja))
   go_ret
   exact ⟨eW, bB⟩
  replace c6 := Bool.eq_false_iff.mpr c6;subst c6;rw [if_neg (show ¬ (false = true) by decide)] at H;obtain rfl := Option.some.inj H
  go_enter Try.func71, Try.ntmps71
  go_wp2_with (first | ((with_reducible refine gate_dst (N := 2) rfl ?_); (try (refine gate_guard (by rfl) ?_; dsimp only)); refine box_event ?hg (N := 2) ?hd (cs := #[.slice Jd Jb.length Je, .slice Jf Jc.length Jg]) (t := 30) ?hr ?_; (case hd => rfl); (case hg => rfl); (case hr => first | (go_simp; done) | (go_simp; rfl)); intro Jn hg Js hbox hb; have n_ := aI (sB HB hb) (aI (aM hbox) (aI (gE HB hg) (gE HB hg))); clear HB; obtain ⟨HB, Ja, Jo, Jp⟩ := n_; (try clear hb hbox hg); obtain ⟨_, _, _, _⟩ := z2 Ja) | ((with_reducible refine gate_callee (f := 18) rfl ?_); refine gL (some 6) Try.func18 #[.agg #[.slice Jd Jb.length Je, .slice Jf Jc.length Jg]] ?_; (with_reducible refine (impl_DiskOk.calls _ _ Jb _ _ Jc true _ ?side1 ?side2 ?side3 ?side4 A3.out).mono ?_); (case side1 => exact cS Jh HB); (case side2 => exact Ji.out); (case side3 => exact cS Jj HB); (case side4 => exact Jk.out); rintro e Jt ⟨rfl, hb⟩; refine ⟨_, rfl, ?_⟩; have n_ := aI (kB Ja hb) (sB HB hb); clear Ja HB; obtain ⟨Ja, HB⟩ := n_; (try clear hb)) | (go_at_call 67; (with_reducible refine (impl_within.calls a1 1 48 false _ A5.out).mono ?_); rintro e w' ⟨rfl, ⟨nd, rfl⟩⟩))
  go_ret
  exact ⟨eW, bB⟩
 replace c4 := Bool.eq_false_iff.mpr c4;subst c4;rw [if_neg (show ¬ (false = true) by decide)] at H;obtain rfl := Option.some.inj H
 go_enter Try.func71, Try.ntmps71
 go_wp2_with (first | ((with_reducible refine gate_dst (N := 2) rfl ?_); (try (refine gate_guard (by rfl) ?_; dsimp only)); refine box_event ?hg (N := 2) ?hd (cs := #[.slice Jd Jb.length Je, .slice Jf Jc.length Jg]) (t := 30) ?hr ?_; (case hd => rfl); (case hg => rfl); (case hr => first | (go_simp; done) | (go_simp; rfl)); intro Jn hg Ju hbox hb; have n_ := aI (sB HB hb) (aI (aM hbox) (aI (gE HB hg) (gE HB hg))); clear HB; obtain ⟨HB, Ja, Jo, Jp⟩ := n_; (try clear hb hbox hg); obtain ⟨_, _, _, _⟩ := z2 Ja) | ((with_reducible refine gate_callee (f := 18) rfl ?_); refine gL (some 6) Try.func18 #[.agg #[.slice Jd Jb.length Je, .slice Jf Jc.length Jg]] ?_; (with_reducible refine (impl_DiskOk.calls _ _ Jb _ _ Jc false _ ?side1 ?side2 ?side3 ?side4 A3.out).mono ?_); (case side1 => exact cS Jh HB); (case side2 => exact Ji.out); (case side3 => exact cS Jj HB); (case side4 => exact Jk.out); rintro e Jv ⟨rfl, hb⟩; refine ⟨_, rfl, ?_⟩; have n_ := aI (kB Ja hb) (sB HB hb); clear Ja HB; obtain ⟨Ja, HB⟩ := n_; (try clear hb)))
 go_ret
 exact ⟨eW, bB⟩

-- NOT PRINTED: function 72 (slices_Clip_string_string)

def impl_HomeOf.l0 : Nat → Int → List ByteArray → Int → Int → List ByteArray → List (S65) → Option (List ByteArray)
 | 0, _, _, _, _, _, _ => none
 | k + 1, x1, x5, JN, JL, Jk, Jl => if JL < JN then ((impl_SectorRead.f k Jk Jl (wrap64 ((wrap64 (x1 + 1)) + JL))).bind fun Jz => (if x5.length < 8796093022208 then (impl_HomeOf.l0 k x1 (x5 ++ [Jz.1]) JN (wrap64 (JL + 1)) Jk Jl) else (none))) else (some x5)
def impl_HomeOf.f (k : Nat) (Jb : List ByteArray) (Jc : List (S65)) (a1 : Int) : Option (List ByteArray) := (impl_homed.f Jb Jc a1).bind fun Jx => (if Jx = true then (impl_HomeOf.l0 k a1 (([] : List ByteArray)) a1 0 Jb Jc) else (some ([] : List ByteArray)))
theorem impl_HomeOf.mono_l : ∀ k, (∀ y0 y1 y2 y3 y4 y5, LeO (impl_HomeOf.l0 k y0 y1 y2 y3 y4 y5) (impl_HomeOf.l0 (k + 1) y0 y1 y2 y3 y4 y5))
 | 0 => fun _ _ _ _ _ _ r h => by simp [impl_HomeOf.l0] at h
 | k + 1 => by
  have ih0 := impl_HomeOf.mono_l k
  ·intro y0 y1 y2 y3 y4 y5
   unfold impl_HomeOf.l0;have m0_ := @impl_SectorRead.mono;exact mM
theorem impl_HomeOf.mono : ∀ a0 a1 a2 k, LeO (impl_HomeOf.f k a0 a1 a2) (impl_HomeOf.f (k + 1) a0 a1 a2) := by
 intro a0 a1 a2 k;have ih0 := impl_HomeOf.mono_l k;unfold impl_HomeOf.f;have m0_ := @impl_SectorRead.mono;exact mM
theorem impl_HomeOf.cut {P : Program} (t e : TypeId) {i : TypeInfo} (ht : P.underlying t = some (.slice e)) (hi : P.info? e = some i) (A : Option Addr) (n c : Nat) (hc : n ≤ c) :
  ∀ W : World, (Instr.slice t (.slice A n c) none (some (.int .i64 (n : Int))) (some (.int .i64 (n : Int)))).run P W = .ok (.slice A n n) W := by
 intro W;have ha : (A.map fun x => x.add 0) = A := by cases A <;> simp [Addr.add]
 have h0 : (0 : Int) ≤ (n : Int) := by omega
 have h1 : (n : Int) ≤ (c : Int) := by omega
 simp [Instr.slice, run_underlying ht, Instr.sliceBounds, run_sliceBound, sizeOf, typeInfo, hi, sliced, Result.andThen, *]
theorem impl_HomeOf.clip (A : Option Addr) (n c : Nat) (hc : n ≤ c) (w : World) : Calls Try.prog 72 #[.slice A n c] w fun e w' => e = .returned (.slice A n n) ∧ w' = w := by
 obtain ⟨i9, hi9, _⟩ := info_parts info9;have hk := impl_HomeOf.cut (P := Try.prog) 22 9 Try.underlying22 hi9 A n c hc
 go_enter Try.func72, Try.ntmps72
 go_wp2
 go_ret
 exact ⟨rfl, rfl⟩
/-- A row that is clipped: its capacity ends at its length, its block may hold more. -/
theorem impl_HomeOf.clipQ {α : Type} {d : Kd α} {e c : Nat} {w : World} {base : Nat} {ok : Nat → Prop} {A : Option Addr} {xs : List α} (h : d.R e w base ok (.slice A xs.length c) xs) : d.Q e w base ok (.slice A xs.length xs.length) xs := by
 obtain ⟨h0, inner, ho, hr⟩ := h;have hb : (Value.slice A xs.length c).ownBlock = (Value.slice A xs.length xs.length).ownBlock := by cases A <;> rfl
 rw [hb] at hr;refine ⟨fun k hk => h0 k (hb.trans hk), inner, ⟨ho.1, ?_⟩, hr⟩
 rcases ho.2 with ⟨he, hn⟩ | ⟨g, cap, cur, he, hbg, hg, hnc, hcm, hcs, ht⟩
 ·injection he with ha _ _
  subst ha;exact .inl ⟨hn, none, by rw [hn], fun a ha => by cases ha⟩
 injection he with ha _ hc
 subst ha;subst hc;exact .inr ⟨g, 0, xs.length, cur, by rw [Nat.zero_mul], hbg, hg, Nat.le_refl _, by omega, by rw [Nat.zero_add, hcs]; exact Nat.mul_le_mul_right _ hnc, by rw [Nat.zero_mul, List.drop_zero]; exact ht⟩
theorem impl_HomeOf.calls (k : Nat) (Je : Option Addr) (Jf : Nat) (Jb : List ByteArray) (Jg : Option Addr) (Jh : Nat) (Jc : List (S65)) (a1 : Int) (r : List ByteArray) (w : World) (hr0_0 : Kd.C Kd.string w Je Jb.length Jb) (Ju : Jb.length ≤ Jf) (hr0_1 : Kd.C k65 w Jg Jc.length Jc) (Jv : Jc.length ≤ Jh) (h : impl_HomeOf.f k Jb Jc a1 = some r) :
  Calls Try.prog 23 #[.agg #[.slice Je Jb.length Jf, .slice Jg Jc.length Jh], .int .i64 a1] w fun e w' => ∃ JO : Value, e = .returned (JO) ∧ Kd.Q Kd.string 9 w' w.heap.size (fun _ => True) JO r ∧ Below w.heap.size w w' := by
 have hu30 := Try.underlying30;have Jm := aM hr0_0;have Jn := aM Ju;clear hr0_0 Ju;have Jo := aM hr0_1;have Jp := aM Jv;clear hr0_1 Jv;have HB := aM (Below.refl w.heap.size w);unfold impl_HomeOf.f at h;have H := h;clear h;obtain ⟨Jx, A3, H⟩ := oB H;try dsimp only at H
 by_cases c4 : Jx = true
 ·subst c4
  rw [if_pos rfl] at H;obtain ⟨JA, Jq⟩ : ∃ y_ : List ByteArray, y_ = (([] : List ByteArray)) := ⟨_, rfl⟩;replace H : (impl_HomeOf.l0 k a1 JA a1 0 Jb Jc) = some r := bQ Jq H;have Jw := aM Jq;clear Jq;have H' := aM H;clear H
  go_enter Try.func23, Try.ntmps23
  go_wp2_with (first | ((with_reducible refine gate_dst (N := 2) rfl ?_); refine bE 2 #[.slice Je Jb.length Jf, .slice Jg Jc.length Jh] 30 ?_; intro Jr hg w5 hbox hb; have n_ := aI (sB HB hb) (aI (aM hbox) (aI (gE HB hg) (gE HB hg))); clear HB; obtain ⟨HB, Ja, JB, JC⟩ := n_; (try clear hb hbox hg); obtain ⟨_, _, _, _⟩ := z2 Ja) | ((with_reducible refine gate_callee (f := 71) rfl ?_); refine gL (some 11) Try.func71 #[.agg #[.slice Je Jb.length Jf, .slice Jg Jc.length Jh], .int .i64 a1] ?_; (with_reducible refine (impl_homed.calls _ _ Jb _ _ Jc a1 true _ ?side1 ?side2 ?side3 ?side4 A3.out).mono ?_); (case side1 => exact cS Jm HB); (case side2 => exact Jn.out); (case side3 => exact cS Jo HB); (case side4 => exact Jp.out); rintro e w7 ⟨rfl, hb⟩; refine ⟨_, rfl, ?_⟩; have n_ := aI (kB Ja hb) (sB HB hb); clear Ja HB; obtain ⟨Ja, HB⟩ := n_; (try clear hb)) | ((with_reducible refine gate_dst (N := 13) rfl ?_); refine R_lit Kd.string _ 9 ?hg (N := 13) ?hd (xs := ([] : List ByteArray)) (inner := []) (ok := fun _ => True) (okp := fun _ => True) ?hr ?hp (fun _ hk => hk) trivial (Below.refl _ _) (Nat.le_refl _) (by simp) ?_; (case hd => rfl); (case hg => rfl); (case hr => first | (go_simp; done) | (go_simp; rfl)); (case hp => exact (Reps.none _ _)); intro JP w8 JD hb hg_ hnew_; clear hg_ hnew_; (first | rw [← Jw.out] at JD | (simp only [Int.reduceToNat] at JD; rw [← Jw.out] at JD)); have n_ := aI (lR HB JD) (aI (kB Ja hb) (sB HB hb)); clear Ja HB; obtain ⟨JE, Ja, HB⟩ := n_; (try clear hb JD)))
  go_loopg [5, 15] k (fun kq v5 JQ w' => ∃ (Jj : List ByteArray) (Jd : Int), JQ = .int .i64 Jd ∧ Aside0 (impl_HomeOf.l0 kq a1 Jj a1 Jd Jb Jc = some r) ∧ Aside0 (kq ≤ k) ∧ Aside0 (Kd.R Kd.string 9 w' w.heap.size (fun _ => True) v5 Jj) ∧ Aside0 (w'.heap[Jr]? = some (.cells #[(.slice Je Jb.length Jf), (.slice Jg Jc.length Jh)] 30 (0, 0))) ∧ Aside0 (Below w.heap.size w w'))
  case atStart => exact ⟨(JA), (0), eV, H', ⟨Nat.le_refl _⟩, ⟨rP JE.out⟩, ⟨kP Ja⟩, ⟨bB⟩⟩
  case round =>
   clear H';obtain ⟨Jj, Jd, rfl, HA, HK1, Ji, Ja, HB⟩ := hrel
   cases gk with
   | zero => exact absurd HA.out (by simp [impl_HomeOf.l0])
   | succ k1 =>
    have H := HA.out;clear HA;simp only [impl_HomeOf.l0] at H
    by_cases Jy : Jd < a1
    ·rw [if_pos Jy] at H
     have JF := decide_eq_true Jy;clear Jy;obtain ⟨⟨Jt, JM⟩, JR, H⟩ := oB H;try dsimp only at H
     by_cases JK : Jj.length < 8796093022208
     ·rw [if_pos JK] at H
      have JG := aM JK;clear JK;obtain ⟨JH, Js⟩ : ∃ y_ : List ByteArray, y_ = (Jj ++ [Jt]) := ⟨_, rfl⟩;replace H : (impl_HomeOf.l0 k1 a1 JH a1 (wrap64 (Jd + 1)) Jb Jc) = some r := bQ Js H;have JI := aM Js;clear Js;have H' := aM H;clear H;obtain ⟨_, _, _, _⟩ := z2 Ja
      go_wp2_with (first | ((with_reducible refine gate_callee (f := 21) rfl ?_); refine gL (some 24) Try.func21 #[.agg #[.slice Je Jb.length Jf, .slice Jg Jc.length Jh], .int .i64 (wrap64 ((wrap64 (a1 + 1)) + Jd))] ?_; (with_reducible refine (impl_SectorRead.calls k1 _ _ Jb _ _ Jc (wrap64 ((wrap64 (a1 + 1)) + Jd)) Jt JM _ ?side1 ?side2 ?side3 ?side4 JR.out).mono ?_); (case side1 => exact cS Jm HB); (case side2 => exact Jn.out); (case side3 => exact cS Jo HB); (case side4 => exact Jp.out); rintro e JT ⟨rfl, hb⟩; refine ⟨_, rfl, ?_⟩; have n_ := aI (rB Ji hb) (aI (kB Ja hb) (sB HB hb)); clear Ji Ja HB; obtain ⟨Ji, Ja, HB⟩ := n_; (try clear hb)) | ((with_reducible refine gate_builtin (b := .append) (xs := #[.tmp 27, .tmp 29]) rfl ?_); at_builtin; refine R_append Kd.string (w0 := w) w.heap.size rfl (.tmp 27) (.tmp 29) 22 9 (.string ⟨#[]⟩) 16 rfl Try.underlying22 info9 rfl (by decide) (by omega) u5 Jj Jt [.string Jt] (fun _ => True) (fun _ => False) rfl rfl ?aP (fun _ hk => hk.elim) ?aF ?aO ?aB ?aS ?aL ?_; (case aP => exact rfl); (case aB => exact bB); (case aF => exact (fun _ _ => trivial)); (case aO => exact (rP Ji.out)); (case aS => exact (zB HB)); (case aL => have := JG.out; omega); intro JS JU ho hb hg hat; rw [← JI.out] at ho; have n_ := aI (aM (blk_grown (g := Jr) (o := .cells #[.slice Je Jb.length Jf, .slice Jg Jc.length Jh] 30 (0, 0)) (kP Ja) hg (R_ne Ji.out Ja.out (by decide)))) (aI (aM (hb)) (aM (ho))); clear Ja HB Ji; obtain ⟨Ja, HB, JJ⟩ := n_; (try clear ho hb hg hat)))
      go_roundg k1
      case measure => have := HK1.out; omega
      case rel => exact ⟨(JH), (wrap64 (Jd + 1)), eV, H', ⟨by have := HK1.out; omega⟩, ⟨rP JJ.out⟩, ⟨kP Ja⟩, ⟨bB⟩⟩
     ·rw [if_neg JK] at H
      exact absurd H (by simp)
    ·rw [if_neg Jy] at H
     have JF := decide_eq_false Jy;clear Jy;obtain rfl := Option.some.inj H;obtain ⟨Ao, co, eo⟩ := R_slice Ji.out;subst eo;have hroom := (R_reads' Ji.out).2.1
     go_wp2_with ((with_reducible refine gate_callee (f := 72) rfl ?_); refine goesL_ (some 33) rfl rfl Try.func72 (by kernel_rfl) rfl #[.slice Ao Jj.length co] rfl (by (try simp only [List.map_toArray, List.map_cons, List.map_nil]); first | done | rfl) ?_; (with_reducible refine (impl_HomeOf.clip Ao Jj.length co hroom _).mono ?_); rintro e w' ⟨rfl, rfl⟩; refine ⟨_, rfl, ?_⟩)
     go_ret
     exact ⟨_, rfl, impl_HomeOf.clipQ (rP Ji.out), bB⟩
 replace c4 := Bool.eq_false_iff.mpr c4;subst c4;rw [if_neg (show ¬ (false = true) by decide)] at H;obtain rfl := Option.some.inj H
 go_enter Try.func23, Try.ntmps23
 go_wp2_with (first | ((with_reducible refine gate_dst (N := 2) rfl ?_); refine bE 2 #[.slice Je Jb.length Jf, .slice Jg Jc.length Jh] 30 ?_; intro Jr hg JV hbox hb; have n_ := aI (sB HB hb) (aI (aM hbox) (aI (gE HB hg) (gE HB hg))); clear HB; obtain ⟨HB, Ja, JB, JC⟩ := n_; (try clear hb hbox hg); obtain ⟨_, _, _, _⟩ := z2 Ja) | ((with_reducible refine gate_callee (f := 71) rfl ?_); refine gL (some 11) Try.func71 #[.agg #[.slice Je Jb.length Jf, .slice Jg Jc.length Jh], .int .i64 a1] ?_; (with_reducible refine (impl_homed.calls _ _ Jb _ _ Jc a1 false _ ?side1 ?side2 ?side3 ?side4 A3.out).mono ?_); (case side1 => exact cS Jm HB); (case side2 => exact Jn.out); (case side3 => exact cS Jo HB); (case side4 => exact Jp.out); rintro e JW ⟨rfl, hb⟩; refine ⟨_, rfl, ?_⟩; have n_ := aI (kB Ja hb) (sB HB hb); clear Ja HB; obtain ⟨Ja, HB⟩ := n_; (try clear hb)))
 go_ret
 exact ⟨_, eW, by first | exact R_nil _ _ _ _ _ | exact Kd.N_nil _ _ _ _ _ | exact Kd.V_nil _ _ _ _ _ | exact Q_nil _ _ _ _ _ | exact Kd.S_nil _ _ _ _ _, bB⟩


def slices_Clone_string_string.f (l0 : List ByteArray) : Option (List ByteArray) := if l0.length < 8796093022208 then some l0 else none
theorem slices_Clone_string_string.calls (A0 : Option Addr) (c0 : Nat) (l0 : List ByteArray) (r : List ByteArray) (w : World) (hr0 : Kd.C Kd.string w A0 l0.length l0) (Jf : l0.length ≤ c0) (h : slices_Clone_string_string.f l0 = some r) :
  Calls Try.prog 111 #[.slice A0 l0.length c0] w fun e w' => ∃ Jd : Value, e = .returned (Jd) ∧ Kd.R Kd.string 9 w' w.heap.size (fun _ => True) Jd r ∧ Below w.heap.size w w' := by
 unfold slices_Clone_string_string.f at h
 split at h
 ·rename_i hlim
  obtain rfl := Option.some.inj h;clear h;have HB := aM (Below.refl w.heap.size w);have qs : ∀ (w : World) (a : Option Addr) (n c n' c' : Nat), (binOp .eql 22 (.slice a n c) (.slice none n' c')).run Try.prog w = .ok (.bool a.isNone) w := fun w a n c n' c' => Go.Lib.run_eql_slice_nil w _ _ a n c n' c' Try.underlying22
  cases A0 with
  | none =>
   have h0 : l0 = [] := by
    cases l0 with
    | nil => rfl
    | cons x l =>
     obtain ⟨ad, e, _⟩ := hr0.2.2 (by simp);cases e
   subst h0;clear hr0
   go_enter Try.func111, Try.ntmps111
   go_wp2
   go_ret
   exact ⟨_, by first | rfl | (simp; done), R_nil _ _ _ _ _, bB⟩
  | some ad =>
   have Jg := aM hr0;have LM := aM hlim;clear hr0 Jf hlim
   go_enter Try.func111, Try.ntmps111
   go_wp2_with (first | ((with_reducible refine gate_dst (N := 5) rfl ?_); refine R_lit Kd.string _ 9 ?hg (N := 5) ?hd (xs := ([] : List ByteArray)) (inner := []) (ok := fun _ => True) (okp := fun _ => True) ?hr ?hp (fun _ hk => hk) trivial (Below.refl _ _) (Nat.le_refl _) (by simp) ?_; (case hd => rfl); (case hg => rfl); (case hr => first | (go_simp; done) | (go_simp; rfl)); (case hp => exact (Reps.none _ _)); intro Jc w3 Je hb hg_ hnew_; clear hg_ hnew_; have n_ := aI (lR HB Je) (sB HB hb); clear HB; obtain ⟨Ja, HB⟩ := n_; (try clear hb Je)) | ((with_reducible refine gate_builtin (b := .append) (xs := #[.tmp 5, .tmp 6]) rfl ?_); at_builtin; refine R_append_rows Kd.string (w0 := w) w.heap.size rfl (.tmp 5) (.tmp 6) 22 9 (.string ⟨#[]⟩) 16 rfl Try.underlying22 info9 rfl (by decide) (by omega) Jc [] l0 _ _ _ (fun _ => True) (fun _ => False) rfl rfl ?aO ?aR (fun _ _ h => h) (fun _ h => h.elim) ?aF ?aB ?aS ?aL ?_; (case aR => exact cS Jg HB); (case aB => exact bB); (case aF => exact (fun _ _ => trivial)); (case aO => exact (rP Ja.out)); (case aS => exact (zB HB)); (case aL => have := LM.out; simp only [List.length_nil]; omega); intro Jh w5 ho hb hg hat; rw [List.nil_append] at ho; have n_ := aI (aM (hb)) (aM (ho)); clear HB Ja; obtain ⟨HB, Jb⟩ := n_; (try clear ho hb hg hat)))
   go_ret
   exact ⟨_, by first | rfl | (simp; done), by (with_reducible repeat (first | apply R_alloc | apply R_drewN | apply R_drew)); exact Jb.out, bB⟩
 cases h

def slices_Clone_Put.f (l0 : List S65) : Option (List S65) := if l0.length < 5864062014805 then some l0 else none
theorem slices_Clone_Put.calls (A0 : Option Addr) (c0 : Nat) (l0 : List S65) (r : List S65) (w : World) (hr0 : Kd.C k65 w A0 l0.length l0) (Jf : l0.length ≤ c0) (h : slices_Clone_Put.f l0 = some r) :
  Calls Try.prog 112 #[.slice A0 l0.length c0] w fun e w' => ∃ Jd : Value, e = .returned (Jd) ∧ Kd.R k65 65 w' w.heap.size (fun _ => True) Jd r ∧ Below w.heap.size w w' := by
 unfold slices_Clone_Put.f at h
 split at h
 ·rename_i hlim
  obtain rfl := Option.some.inj h;clear h;have HB := aM (Below.refl w.heap.size w);have qs : ∀ (w : World) (a : Option Addr) (n c n' c' : Nat), (binOp .eql 28 (.slice a n c) (.slice none n' c')).run Try.prog w = .ok (.bool a.isNone) w := fun w a n c n' c' => Go.Lib.run_eql_slice_nil w _ _ a n c n' c' Try.underlying28
  cases A0 with
  | none =>
   have h0 : l0 = [] := by
    cases l0 with
    | nil => rfl
    | cons x l =>
     obtain ⟨ad, e, _⟩ := hr0.2.2 (by simp);cases e
   subst h0;clear hr0
   go_enter Try.func112, Try.ntmps112
   go_wp2
   go_ret
   exact ⟨_, by first | rfl | (simp; done), R_nil _ _ _ _ _, bB⟩
  | some ad =>
   have Jg := aM hr0;have LM := aM hlim;clear hr0 Jf hlim
   go_enter Try.func112, Try.ntmps112
   go_wp2_with (first | ((with_reducible refine gate_dst (N := 5) rfl ?_); refine R_lit k65 _ 65 ?hg (N := 5) ?hd (xs := ([] : List S65)) (inner := []) (ok := fun _ => True) (okp := fun _ => True) ?hr ?hp (fun _ hk => hk) trivial (Below.refl _ _) (Nat.le_refl _) (by simp) ?_; (case hd => rfl); (case hg => rfl); (case hr => first | (go_simp; done) | (go_simp; rfl)); (case hp => exact (Reps.none _ _)); intro Jc w3 Je hb hg_ hnew_; clear hg_ hnew_; have n_ := aI (lR HB Je) (sB HB hb); clear HB; obtain ⟨Ja, HB⟩ := n_; (try clear hb Je)) | ((with_reducible refine gate_builtin (b := .append) (xs := #[.tmp 5, .tmp 6]) rfl ?_); at_builtin; refine R_append_rows k65 (w0 := w) w.heap.size rfl (.tmp 5) (.tmp 6) 28 65 (.agg #[(.int .i64 0), (.string ⟨#[]⟩)]) 24 rfl Try.underlying28 info65 rfl (by decide) (by omega) Jc [] l0 _ _ _ (fun _ => True) (fun _ => False) rfl rfl ?aO ?aR (fun _ _ h => h) (fun _ h => h.elim) ?aF ?aB ?aS ?aL ?_; (case aR => exact cS Jg HB); (case aB => exact bB); (case aF => exact (fun _ _ => trivial)); (case aO => exact (rP Ja.out)); (case aS => exact (zB HB)); (case aL => have := LM.out; simp only [List.length_nil]; omega); intro Jh w5 ho hb hg hat; rw [List.nil_append] at ho; have n_ := aI (aM (hb)) (aM (ho)); clear HB Ja; obtain ⟨HB, Jb⟩ := n_; (try clear ho hb hg hat)))
   go_ret
   exact ⟨_, by first | rfl | (simp; done), by (with_reducible repeat (first | apply R_alloc | apply R_drewN | apply R_drew)); exact Jb.out, bB⟩
 cases h

def impl_cloneDisk.f (Je : List ByteArray) (Jf : List (S65)) : Option (List ByteArray × (List (S65))) := (slices_Clone_string_string.f Je).bind fun Ji => ((slices_Clone_Put.f Jf).bind fun Jj => (some (Ji, Jj)))
def impl_cloneDisk.T1 : Bool × List (List Nat × List Nat) := (true, [([], []), ([0], [0]), ([1], [1]), ([], []), ([3], [3]), ([4, 2], [4]), ([2, 5], [2, 5]), ([6, 5, 0, 1, 2, 3, 4, 5, 6], [6])])
def impl_cloneDisk.B1 : List Nat := [0, 1, 3, 0, 8, 31, 63, 127]
theorem impl_cloneDisk.tab1 : rtab .any (opsOf Try.f76 1) = impl_cloneDisk.T1 := by kernel_rfl
theorem impl_cloneDisk.bits1 : waitsOk impl_cloneDisk.T1.2 impl_cloneDisk.B1 = true := by kernel_rfl
theorem impl_cloneDisk.calls (Jk : Option Addr) (Jl : Nat) (Je : List ByteArray) (Jm : Option Addr) (Jn : Nat) (Jf : List (S65)) (r1 : List ByteArray) (r2 : List (S65)) (w : World) (hr0_0 : Kd.C Kd.string w Jk Je.length Je) (Jo : Je.length ≤ Jl) (hr0_1 : Kd.C k65 w Jm Jf.length Jf) (Jp : Jf.length ≤ Jn) (h : impl_cloneDisk.f Je Jf = some (r1, r2)) :
  Calls Try.prog 76 #[.agg #[.slice Jk Je.length Jl, .slice Jm Jf.length Jn]] w fun e w' => ∃ JC JD : Value, e = .returned (.agg #[JC, JD]) ∧ Kd.R Kd.string 9 w' w.heap.size (fun _ => True) JC r1 ∧ Kd.R k65 65 w' w.heap.size (fun _ => True) JD r2 ∧ Below w.heap.size w w' := by
 have hu30 := Try.underlying30;have Ju := aM hr0_0;have Jv := aM Jo;clear hr0_0 Jo;have Jw := aM hr0_1;have Jx := aM Jp;clear hr0_1 Jp;have HB := aM (Below.refl w.heap.size w);unfold impl_cloneDisk.f at h;have H := h;clear h;obtain ⟨Ji, A2, H⟩ := oB H;try dsimp only at H
 obtain ⟨Jj, A3, H⟩ := oB H;try dsimp only at H
 simp only [Option.some.injEq, Prod.mk.injEq] at H;obtain ⟨rfl, rfl⟩ := H
 go_enter Try.func76, Try.ntmps76
 try go_wp2_with (first | ((with_reducible refine gate_dst (N := 1) rfl ?_); refine bE 1 #[.slice Jk Je.length Jl, .slice Jm Jf.length Jn] 30 ?_; intro Jq hg w4 hbox hb; have n_ := aI (sB HB hb) (aI (aM hbox) (aI (gE HB hg) (gE HB hg))); clear HB; obtain ⟨HB, Ja, JE, JF⟩ := n_; (try clear hb hbox hg)) | ((with_reducible refine gate_dst (N := 2) rfl ?_); refine bE 2 #[.slice none 0 0, .slice none 0 0] 30 ?_; intro Jd hg w5 hbox hb; have n_ := aI (kB Ja hb) (aI (sB HB hb) (aI (aM hbox) (aI (gE HB hg) (aI (gE HB hg) (aI (nL Ja hg) (nG Ja hg)))))); clear Ja HB; obtain ⟨Ja, HB, Jb, JG, JH, Jc, Jg⟩ := n_; (try clear hb hbox hg)))
 have n_ := aI (aM (blk_drew Ja.out)) (aI (aM (blk_drew Jb.out)) (aM (below_drew1 HB.out)));clear Ja Jb HB;obtain ⟨Ja, Jb, HB⟩ := n_;refine start_ (n := 8) (S := fun w' => w'.cell? ⟨Jq, 0, none⟩ = some (.slice Jk Je.length Jl) ∧ w'.cell? ⟨Jq, 1, none⟩ = some (.slice Jm Jf.length Jn)) (ds := []) #[tF, tF, tF, tF, tF, tF, tF, tF] (by kernel_rfl) rfl rfl ⟨(blk_cell Ja.out 0).trans rfl, (blk_cell Ja.out 1).trans rfl⟩ (fun hHeld => ?_); refine with_tabW impl_cloneDisk.tab1 impl_cloneDisk.bits1 (fun HT_ HW_ => ?_);generalize w5.drew = w6 at Ja Jb HB hHeld ⊢;refine pY 0 3 #[tT, tF, tF, tF, tF, tF, tF, tF] ?_;refine pY 3 6 #[tT, tF, tF, tT, tF, tF, tF, tF] ?_;refine take_ (i := 1) (N := some 4) (v := ?_) (a' := ?_) #[tT, tT, tF, tT, tF, tF, tF, tF] rfl rfl (take_ofW HT_.out HW_.out (by kernel_rfl)) (fun _ _ _ h => h) (Or.inl ⟨by rfl, ?_⟩) hHeld ?_ ?_
 rotate_left
 ·rintro w' ⟨s0, s1⟩
  go_simp
  (with_reducible rfl)
 rotate_left
 ·simp only [Act.put, List.setIfInBounds_toArray, List.set_cons_zero, List.set_cons_succ, i64_w, i32_w]
  rfl
 refine take_ (i := 4) (N := some 7) (v := ?_) (a' := ?_) #[tT, tT, tF, tT, tT, tF, tF, tF] rfl rfl (take_ofW HT_.out HW_.out (by kernel_rfl)) (fun _ _ _ h => h) (Or.inl ⟨by rfl, ?_⟩) hHeld ?_ ?_
 rotate_left
 ·rintro w' ⟨s0, s1⟩
  go_simp
  (with_reducible rfl)
 rotate_left
 ·simp only [Act.put, List.setIfInBounds_toArray, List.set_cons_zero, List.set_cons_succ, i64_w, i32_w]
  rfl
 refine one_ (i := 2) (N := some 5) #[tT, tT, tT, tT, tT, tF, tF, tF] rfl rfl (one_of HT_.out (by kernel_rfl)) (by decide) (fun K hK => ?_);refine goes_ Try.func111 (by kernel_rfl) rfl #[.slice Jk Je.length Jl] (by rfl) rfl rfl (by (try simp only [List.map_toArray, List.map_cons, List.map_nil]); first | done | rfl | (simp only [List.length_drop, List.length_take]; rfl)) ?_;(with_reducible refine (slices_Clone_string_string.calls _ _ Je Ji _ ?side1 ?side2 A2.out).mono ?_);(case side1 => exact cS Ju HB);(case side2 => exact Jv.out);rintro e w7 ⟨JJ, rfl, Jy, hb⟩;refine ⟨_, rfl, ?_⟩;have n_ := aI (lR HB Jy) (aI (kB Ja hb) (aI (kB Jb hb) (sB HB hb)));clear Ja Jb HB;obtain ⟨Jh, Ja, Jb, HB⟩ := n_;(try clear hb);(try clear hb2);(try clear hk);(try clear hi);(try clear Jy);refine hK.out _ _ ⟨(blk_cell Ja.out 0).trans rfl, (blk_cell Ja.out 1).trans rfl⟩ (fun hHeld => ?_);clear hK K;refine norm_ (a' := ?_) ?_ ?_
 rotate_left
 ·show Act.put _ (some 5) _ = _
  simp only [Act.put, List.setIfInBounds_toArray, List.set_cons_zero, List.set_cons_succ, i64_w, i32_w]
  rfl
 refine one_ (i := 5) (N := some 8) #[tT, tT, tT, tT, tT, tT, tF, tF] rfl rfl (one_of HT_.out (by kernel_rfl)) (by decide) (fun K hK => ?_);refine goes_ Try.func112 (by kernel_rfl) rfl #[.slice Jm Jf.length Jn] (by rfl) rfl rfl (by (try simp only [List.map_toArray, List.map_cons, List.map_nil]); first | done | rfl | (simp only [List.length_drop, List.length_take]; rfl)) ?_;(with_reducible refine (slices_Clone_Put.calls _ _ Jf Jj _ ?side1 ?side2 A3.out).mono ?_);(case side1 => exact cS Jw HB);(case side2 => exact Jx.out);rintro e w8 ⟨JK, rfl, Jy, hb⟩;refine ⟨_, rfl, ?_⟩;have n_ := aI (rB Jh hb) (aI (lR HB Jy) (aI (kB Ja hb) (aI (kB Jb hb) (sB HB hb))));clear Jh Ja Jb HB;obtain ⟨Jh, Jr, Ja, Jb, HB⟩ := n_;(try clear hb);(try clear hb2);(try clear hk);(try clear hi);(try clear Jy);obtain ⟨JA, JB, JI⟩ := R_slice Jr.out;(first | subst JI | (injection JI with f1_ f2_ f3_; have f4_ := f1_.symm; have f5_ := f3_.symm; clear f1_ f2_ f3_; subst f4_; subst f5_));obtain ⟨Js, Jt, Jz⟩ := R_slice Jh.out;(first | subst Jz | (injection Jz with f1_ f2_ f3_; have f4_ := f1_.symm; have f5_ := f3_.symm; clear f1_ f2_ f3_; subst f4_; subst f5_));refine hK.out _ _ ⟨(blk_cell Ja.out 0).trans rfl, (blk_cell Ja.out 1).trans rfl⟩ (fun hHeld => ?_);clear hK K;refine norm_ (a' := ?_) ?_ ?_
 rotate_left
 ·show Act.put _ (some 8) _ = _
  simp only [Act.put, List.setIfInBounds_toArray, List.set_cons_zero, List.set_cons_succ, i64_w, i32_w]
  rfl
 refine pY 6 9 #[tT, tT, tT, tT, tT, tT, tT, tF] ?_;refine one_ (i := 7) (N := none) #[tT, tT, tT, tT, tT, tT, tT, tT] rfl rfl (one_of HT_.out (by kernel_rfl)) (by decide) (fun K hK => ?_);have hs11 : w8.cell? ⟨Jd, 0, none⟩ = some (.slice none 0 0) := (blk_cell Jb.out 0).trans rfl;have hfs11 := blk_frozen Jb.out 0;have hns11_0 := Jc.out;have hms11_0 := Jg.out;have hs12 : w8.cell? ⟨Jd, 1, none⟩ = some (.slice none 0 0) := (blk_cell Jb.out 1).trans rfl;have hfs12 := blk_frozen Jb.out 1;have hns12_0 := Jc.out;have hms12_0 := Jg.out;refine skip_ (w1 := ?_) (by rfl) rfl ?_ ?_
 rotate_left
 ·go_simp
  rfl
 refine hK.out _ _ ⟨((cell_far (p := ⟨Jd, _, none⟩) Jc.out _).trans (((cell_far (p := ⟨Jd, _, none⟩) Jc.out _).trans (hHeld.1)))), ((cell_far (p := ⟨Jd, _, none⟩) Jc.out _).trans (((cell_far (p := ⟨Jd, _, none⟩) Jc.out _).trans (hHeld.2))))⟩ (fun hHeld => ?_);clear hK K;refine done_ (done_of HT_.out (by kernel_rfl)) ?_;try go_wp2
 refine bodyPost_ret (results_cell_row rfl _ _ Jd 30 #[.slice Js Ji.length Jt, .slice JA Jj.length JB] (0, 0) _ rfl (pU Jb) Try.underlying30 rfl (by kernel_rfl)) rfl ?_;exact ⟨_, _, eW, by (with_reducible repeat (first | apply R_alloc | apply R_drewN | apply R_drew)); exact R_mono (fR Jd 1 (fR Jd 0 (R_types Jh.out Jb.out (by decide)) s2 (.slice Js Ji.length Jt)) s2 (.slice JA Jj.length JB)) sT, by (with_reducible repeat (first | apply R_alloc | apply R_drewN | apply R_drew)); exact R_mono (fR Jd 1 (fR Jd 0 (R_types Jr.out Jb.out (by decide)) s2 (.slice Js Ji.length Jt)) s2 (.slice JA Jj.length JB)) sT, bB⟩

-- NOT PRINTED: function 80 (impl_Fall_1)

end Go.Proofs.Ytgmpdkefegofhaa.PFnAtomic
