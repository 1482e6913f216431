/- FnExactDigits: the law's function of the print answers true for every input within the row's bounds. Conditions: none but the bounds that the row itself gives. -/
import Derived.Test.YtapliilimfgdjaaDoorDig
import Derived.Lib.ItoaLen
import Derived.Lib.ItoaMem
import Derived.OpenShut
import Derived.Laws.BitsLemmas
namespace Go.Proofs.YtapliilimfgdjaaDoor.Pure
open Go Go.RowKit Go.Proofs.YtapliilimfgdjaaDoor.PFnExactDigits Go.Proofs.YtapliilimfgdjaaDoorW.PrintWords Go.Proofs.YtapliilimfgdjaaDoorW.PrintLast Go.Proofs.YtapliilimfgdjaaDoorW.PrintMore Go.Proofs.YtapliilimfgdjaaDoorW.PrintMore
set_option linter.unusedVariables false
set_option linter.unusedSimpArgs false

theorem bs_append (a b : List UInt8) : (⟨a.toArray⟩ : ByteArray) ++ (⟨b.toArray⟩ : ByteArray) = ⟨(a ++ b).toArray⟩ := by
  apply ByteArray.ext
  rw [ByteArray.data_append]
  simp
theorem bs_size (a : List UInt8) : (⟨a.toArray⟩ : ByteArray).size = a.length := rfl
theorem nums_one (d : Nat) (h : d < 10) : strOfNums [(48 + (d : Int)) % 256] = ⟨[UInt8.ofNat (48 + d)].toArray⟩ := by
  rw [show (48 + (d : Int)) % 256 = ((48 + d : Nat) : Int) by omega]
  rfl
theorem ev_cast {α : Type} {g : Nat → Option α} {r r' : α} (h : Ev g r) (e : r = r') : Ev g r' := e ▸ h
theorem ev_neg {α : Type} {c : Prop} [Decidable c] {f g : Nat → Option α} {r : α} (h : ¬ c) (e : Ev g r) : Ev (fun k => if c then f k else g k) r := by
  simpa only [if_neg h] using e
theorem ev_pos {α : Type} {c : Prop} [Decidable c] {f g : Nat → Option α} {r : α} (h : c) (e : Ev f r) : Ev (fun k => if c then f k else g k) r := by
  simpa only [if_pos h] using e
theorem ev_shift {α : Type} {g : Nat → Option α} {r : α} (h : Ev (fun k => g (k + 1)) r) : Ev g r := Ev.step (f := fun k => g (k + 1)) (fun _ => rfl) h
theorem dig_end (b : Bool) (l : List UInt8) (hl : l.length ≤ 1000) : Ev (fun k => spec_Digits.l0 k 0 b ⟨l.toArray⟩) ⟨((if b = true then [45] else []) ++ l).toArray⟩ := by
  apply ev_shift
  simp only [spec_Digits.l0]
  refine ev_pos trivial ?_
  cases b with
  | true =>
    refine ev_pos rfl (ev_pos (by rw [bs_size]; omega) (ev_cast (Ev.now _) ?_))
    rw [if_pos rfl]
    exact bs_append [45] l
  | false => exact ev_neg (by simp) (ev_cast (Ev.now _) (by simp))
theorem ev_some {α β : Type} {a : α} {f : Nat → α → Option β} {r : β} (e : Ev (fun k => f k a) r) : Ev (fun k => (some a).bind (f k)) r := e
theorem wrap_in {x : Int} (h0 : -9223372036854775808 ≤ x) (h1 : x ≤ 9223372036854775807) : wrap64 x = x := by
  unfold wrap64
  omega
theorem dig_step (m : Nat) (x : Int) (b : Bool) (l : List UInt8) (hm : 0 < m) (hx : x = (m : Int) ∨ x = -(m : Int)) (hb : m ≤ 9223372036854775808) (hx1 : x ≤ 9223372036854775807) (hl : l.length ≤ 1000) (R : ByteArray)
    (e : ∀ y : Int, y = ((m / 10 : Nat) : Int) ∨ y = -((m / 10 : Nat) : Int) → Ev (fun k => spec_Digits.l0 k y b ⟨(UInt8.ofNat (48 + m % 10) :: l).toArray⟩) R) : Ev (fun k => spec_Digits.l0 k x b ⟨l.toArray⟩) R := by
  apply ev_shift
  simp only [spec_Digits.l0]
  refine ev_neg (by omega) ?_
  have hs : (⟨[UInt8.ofNat (48 + m % 10)].toArray⟩ : ByteArray) ++ (⟨l.toArray⟩ : ByteArray) = ⟨(UInt8.ofNat (48 + m % 10) :: l).toArray⟩ := bs_append _ _
  have ht : Int.tmod (m : Int) 10 = ((m % 10 : Nat) : Int) := by rw [Int.tmod_eq_emod_of_nonneg (by omega)]; omega
  have hd : Int.tdiv (m : Int) 10 = ((m / 10 : Nat) : Int) := by rw [Int.tdiv_eq_ediv_of_nonneg (by omega)]; omega
  have hn := nums_one (m % 10) (by omega)
  rcases hx with rfl | rfl
  · rw [ht, hd, wrap_in (x := ((m / 10 : Nat) : Int)) (by omega) (by omega)]
    refine ev_neg (by omega) (ev_some ?_)
    rw [wrap_in (x := 48 + ((m % 10 : Nat) : Int)) (by omega) (by omega), hn, hs]
    exact ev_pos (by rw [bs_size, bs_size]; simp; omega) (e _ (.inl rfl))
  · rw [Int.neg_tmod, Int.neg_tdiv, ht, hd, wrap_in (x := -((m / 10 : Nat) : Int)) (by omega) (by omega)]
    by_cases c : m % 10 = 0
    · refine ev_neg (by omega) (ev_some ?_)
      rw [wrap_in (x := 48 + -((m % 10 : Nat) : Int)) (by omega) (by omega), show (48 + -((m % 10 : Nat) : Int)) = 48 + ((m % 10 : Nat) : Int) by omega, hn, hs]
      exact ev_pos (by rw [bs_size, bs_size]; simp; omega) (e _ (.inr rfl))
    · refine ev_pos (by omega) (ev_some ?_)
      rw [Int.neg_neg, wrap_in (x := ((m % 10 : Nat) : Int)) (by omega) (by omega), wrap_in (x := 48 + ((m % 10 : Nat) : Int)) (by omega) (by omega), hn, hs]
      exact ev_pos (by rw [bs_size, bs_size]; simp; omega) (e _ (.inr rfl))
theorem dig_all (b : Bool) : ∀ (n m : Nat) (x : Int) (l : List UInt8), m ≤ n → 0 < m → x = (m : Int) ∨ x = -(m : Int) → m ≤ 9223372036854775808 → x ≤ 9223372036854775807 → l.length + (Lib.decDigits m).length ≤ 1000 →
    Ev (fun k => spec_Digits.l0 k x b ⟨l.toArray⟩) ⟨((if b = true then [45] else []) ++ (Lib.decDigits m ++ l)).toArray⟩ := by
  intro n
  induction n with
  | zero =>
    intro m x l h1 h2
    omega
  | succ n ih =>
    intro m x l h1 h2 hx hb hx1 hl
    have hd : Lib.decDigits m = if m < 10 then [UInt8.ofNat (48 + m)] else Lib.decDigits (m / 10) ++ [UInt8.ofNat (48 + m % 10)] := by
      rw [Lib.decDigits]
      split <;> rfl
    refine dig_step m x b l h2 hx hb hx1 (by omega) _ (fun y hy => ?_)
    by_cases c : m < 10
    · rw [if_pos c] at hd
      have hy0 : y = 0 := by
        rw [Nat.div_eq_of_lt c] at hy
        simpa using hy
      rw [hy0, Nat.mod_eq_of_lt c, hd]
      rw [hd, List.length_singleton] at hl
      exact dig_end b _ (by rw [List.length_cons]; omega)
    · rw [if_neg c] at hd
      rw [hd, List.length_append, List.length_singleton] at hl
      have := ih (m / 10) y (UInt8.ofNat (48 + m % 10) :: l) (by omega) (by omega) hy (by omega) (by omega) (by rw [List.length_cons]; omega)
      rw [hd, List.append_assoc]
      exact this
theorem Digits_ev (n : Int) (h0 : -9223372036854775808 ≤ n) (h1 : n ≤ 9223372036854775807) : Ev (fun k => spec_Digits.f k n) ⟨(Lib.itoa n).toArray⟩ := by
  have hlen := Lib.itoa_length_le n h0 h1
  unfold spec_Digits.f
  by_cases c : n = 0
  · refine ev_pos c (ev_cast (Ev.now _) ?_)
    rw [c]
    have h2 : Lib.itoa 0 = [48] := by
      rw [Lib.itoa, if_neg (by omega)]
      exact Lib.decDigits_one (by decide)
    rw [h2]
  · refine ev_neg c ?_
    unfold Lib.itoa at hlen ⊢
    by_cases c2 : n < 0
    · rw [if_pos c2] at hlen ⊢
      rw [List.length_cons] at hlen
      have := dig_all true n.natAbs n.natAbs n [] (Nat.le_refl _) (by omega) (.inr (by omega)) (by omega) h1 (by rw [List.length_nil]; omega)
      rw [decide_eq_true c2]
      simpa using this
    · rw [if_neg c2] at hlen ⊢
      have := dig_all false n.toNat n.toNat n [] (Nat.le_refl _) (by omega) (.inl (by omega)) (by omega) h1 (by rw [List.length_nil]; omega)
      rw [decide_eq_false c2]
      simpa using this
end Go.Proofs.YtapliilimfgdjaaDoor.Pure
