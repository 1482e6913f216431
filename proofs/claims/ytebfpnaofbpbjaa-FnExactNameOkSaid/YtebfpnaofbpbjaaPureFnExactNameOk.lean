/- The pure law FnExactNameOk of the print: for every input within the row's bounds the law's function answers true. Conditions: none but the bounds that the row itself gives. -/
import Derived.Test.YtebfpnaofbpbjaaPFnExactNameOkx1
import Derived.OpenShut
import Derived.Laws.BitsLemmas
namespace Go.Proofs.Ytebfpnaofbpbjaa.Pure
open Go Go.RowKit Go.Proofs.Ytebfpnaofbpbjaa.PFnExactNameOk Go.Proofs.YtebfpnaofbpbjaaW.PrintWords Go.Proofs.YtebfpnaofbpbjaaW.PrintLast
set_option linter.unusedVariables false
set_option linter.unusedSimpArgs false

theorem ev_shift {α : Type} {g : Nat → Option α} {r : α} (h : Ev (fun k => g (k + 1)) r) : Ev g r := Ev.step (f := fun k => g (k + 1)) (fun _ => rfl) h
theorem ev_unshift {α : Type} {g : Nat → Option α} {r : α} (h : Ev g r) : Ev (fun k => g (k + 1)) r := by
  obtain ⟨K, h⟩ := h
  exact ⟨K, fun k hk => h (k + 1) (by omega)⟩
theorem ev_pos {α : Type} {c : Prop} [Decidable c] {f g : Nat → Option α} {r : α} (h : c) (e : Ev f r) : Ev (fun k => if c then f k else g k) r := by
  simpa only [if_pos h] using e
theorem ev_neg {α : Type} {c : Prop} [Decidable c] {f g : Nat → Option α} {r : α} (h : ¬ c) (e : Ev g r) : Ev (fun k => if c then f k else g k) r := by
  simpa only [if_neg h] using e
theorem ev_eq {α β : Type} {o : Option α} {a : α} {f : Nat → α → Option β} {r : β} (h : o = some a) (e : Ev (fun k => f k a) r) : Ev (fun k => o.bind (f k)) r := by
  subst h
  exact e
theorem ev_some {α β : Type} {a : α} {f : Nat → α → Option β} {r : β} (e : Ev (fun k => f k a) r) : Ev (fun k => (some a).bind (f k)) r := e
theorem ev_cast {α : Type} {g : Nat → Option α} {r r' : α} (h : Ev g r) (e : r = r') : Ev g r' := e ▸ h
theorem ev_loop {ρ : Type} (L : Nat → Nat → Option ρ) (res : Nat → ρ) (n : Nat) (he : Ev (fun k => L (k + 1) n) (res n))
    (hs : ∀ i, i < n → Ev (fun k => L k (i + 1)) (res (i + 1)) → Ev (fun k => L (k + 1) i) (res i)) : ∀ i, i ≤ n → Ev (fun k => L k i) (res i) := by
  have key : ∀ d i, i + d = n → Ev (fun k => L k i) (res i) := by
    intro d
    induction d with
    | zero =>
      intro i h
      obtain rfl : i = n := by omega
      exact ev_shift he
    | succ d ih =>
      intro i h
      exact ev_shift (hs i (by omega) (ih (i + 1) (by omega)))
  intro i h
  exact key (n - i) i (by omega)
theorem wrap_in {x : Int} (h0 : -9223372036854775808 ≤ x) (h1 : x ≤ 9223372036854775807) : wrap64 x = x := by
  unfold wrap64
  omega
theorem wrap_nat {i : Nat} (h : i < 9223372036854775807) : wrap64 ((i : Int) + 1) = ((i + 1 : Nat) : Int) := by
  unfold wrap64
  omega
theorem wrap_up {i : Int} (h0 : 0 ≤ i) (h : i < 9223372036854775807) : wrap64 (i + 1) = i + 1 := by
  unfold wrap64
  omega
theorem rd_nat (xs : List Int) (i : Nat) : rd xs (i : Int) = xs.getD i 0 := by simp [rd]
theorem rdOf_nat {α : Type} (d : α) (xs : List α) (i : Nat) : rdOf d xs (i : Int) = xs.getD i d := by simp [rdOf]
theorem bt_nat (s : ByteArray) (i : Nat) : bt s (i : Int) = (bytesOf s).getD i 0 := by rw [← rd_bytesOf, rd_nat]
theorem drop_cons {α : Type} (d : α) (l : List α) (i : Nat) (h : i < l.length) : l.drop i = l.getD i d :: l.drop (i + 1) := by
  rw [List.drop_eq_getElem_cons h]
  simp [List.getD, h]
theorem getD_mem {α : Type} (d : α) (l : List α) (i : Nat) (h : i < l.length) : l.getD i d ∈ l := by
  simp [List.getD, h]
theorem bytesOf_range (s : ByteArray) : ∀ x ∈ bytesOf s, 0 ≤ x ∧ x ≤ 255 := by
  intro x hx
  simp only [bytesOf, List.mem_map] at hx
  obtain ⟨b, _, rfl⟩ := hx
  have := b.toNat_lt
  omega
theorem bt_lo (s : ByteArray) (i : Int) : 0 ≤ bt s i := (bt_range s i).1
theorem bt_hi (s : ByteArray) (i : Int) : bt s i ≤ 255 := (bt_range s i).2

def nameCh (c : Int) : Bool := decide (97 ≤ c ∧ c ≤ 122 ∨ 48 ≤ c ∧ c ≤ 57)
def nameOk (s : ByteArray) : Bool := decide (1 ≤ s.size ∧ s.size ≤ 6) && (bytesOf s).all nameCh
theorem all_drop (s : ByteArray) (i : Nat) (h : i < s.size) : ((bytesOf s).drop i).all nameCh = (nameCh (bt s i) && ((bytesOf s).drop (i + 1)).all nameCh) := by
  rw [drop_cons 0 (bytesOf s) i (by rw [bytesOf_length]; exact h), bt_nat]
  rfl
theorem spec_nameOk_l (s : ByteArray) (h : s.size ≤ 140737488351232) : Ev (fun k => spec_NameOk.l0 k s 0) ((bytesOf s).all nameCh) := by
  have := ev_loop (fun k i => spec_NameOk.l0 k s (i : Int)) (fun i => ((bytesOf s).drop i).all nameCh) s.size ?_ ?_ 0 (Nat.zero_le _)
  · exact this
  · simp only [spec_NameOk.l0]
    refine ev_neg (by omega) (ev_cast (Ev.now _) ?_)
    rw [List.drop_eq_nil_of_le (by rw [bytesOf_length]; omega)]
    rfl
  · intro i hi e
    simp only [spec_NameOk.l0]
    rw [wrap_nat (by omega), all_drop s i hi]
    refine ev_pos (by omega) (ev_pos (by omega) ?_)
    by_cases hc : nameCh (bt s i) = true
    · simp only [hc, Bool.true_and]
      have hc' : 97 ≤ bt s i ∧ bt s i ≤ 122 ∨ 48 ≤ bt s i ∧ bt s i ≤ 57 := by simpa [nameCh] using hc
      by_cases h1 : 97 ≤ bt s i
      · exact ev_pos h1 (ev_pos (by omega) e)
      · exact ev_neg h1 (ev_pos (by omega) (ev_pos (by omega) e))
    · have hc' : ¬ (97 ≤ bt s i ∧ bt s i ≤ 122 ∨ 48 ≤ bt s i ∧ bt s i ≤ 57) := by simpa [nameCh] using hc
      simp only [Bool.eq_false_iff.mpr hc, Bool.false_and]
      by_cases h1 : 97 ≤ bt s i
      · refine ev_pos h1 (ev_neg (by omega) (ev_pos (by omega) (ev_neg (by omega) (Ev.now _))))
      · refine ev_neg h1 ?_
        by_cases h2 : 48 ≤ bt s i
        · exact ev_pos h2 (ev_neg (by omega) (Ev.now _))
        · exact ev_neg h2 (Ev.now _)
theorem impl_nameOk_l (s : ByteArray) (h : s.size ≤ 140737488351232) : Ev (fun k => impl_NameOk.l0 k s (s.size : Int) 0) ((bytesOf s).all nameCh) := by
  have := ev_loop (fun k i => impl_NameOk.l0 k s (s.size : Int) (i : Int)) (fun i => ((bytesOf s).drop i).all nameCh) s.size ?_ ?_ 0 (Nat.zero_le _)
  · exact this
  · simp only [impl_NameOk.l0]
    refine ev_neg (by omega) (ev_cast (Ev.now _) ?_)
    rw [List.drop_eq_nil_of_le (by rw [bytesOf_length]; omega)]
    rfl
  · intro i hi e
    simp only [impl_NameOk.l0]
    rw [wrap_nat (by omega), all_drop s i hi]
    refine ev_pos (by omega) (ev_pos (by omega) (ev_pos (by omega) ?_))
    by_cases hc : nameCh (bt s i) = true
    · simp only [hc, Bool.true_and]
      have hc' : 97 ≤ bt s i ∧ bt s i ≤ 122 ∨ 48 ≤ bt s i ∧ bt s i ≤ 57 := by simpa [nameCh] using hc
      by_cases h1 : bt s i < 97
      · exact ev_pos h1 (ev_neg (by omega) (ev_neg (by omega) e))
      · exact ev_neg h1 (ev_neg (by omega) e)
    · have hc' : ¬ (97 ≤ bt s i ∧ bt s i ≤ 122 ∨ 48 ≤ bt s i ∧ bt s i ≤ 57) := by simpa [nameCh] using hc
      simp only [Bool.eq_false_iff.mpr hc, Bool.false_and]
      by_cases h1 : bt s i < 97
      · refine ev_pos h1 ?_
        by_cases h2 : bt s i < 48
        · exact ev_pos h2 (Ev.now _)
        · exact ev_neg h2 (ev_pos (by omega) (Ev.now _))
      · exact ev_neg h1 (ev_pos (by omega) (ev_neg (by omega) (ev_pos (by omega) (Ev.now _))))
theorem spec_NameOk_ev (s : ByteArray) (h : s.size ≤ 140737488351232) : Ev (fun k => spec_NameOk.f k s) (nameOk s) := by
  unfold spec_NameOk.f
  by_cases hs : 1 ≤ s.size ∧ s.size ≤ 6
  · refine ev_eq (a := true) (by unfold spec_l1In.f; rw [if_pos (by omega)]; simp; omega) (ev_pos rfl ?_)
    refine ev_cast (spec_nameOk_l s h) ?_
    simp [nameOk, hs]
  · refine ev_eq (a := false) (by unfold spec_l1In.f; split <;> simp <;> omega) (ev_neg (by simp) (ev_cast (Ev.now _) ?_))
    simp only [nameOk, decide_eq_false hs, Bool.false_and]
theorem impl_NameOk_ev (s : ByteArray) (h : s.size ≤ 140737488351232) : Ev (fun k => impl_NameOk.f k s) (nameOk s) := by
  unfold impl_NameOk.f
  by_cases hs : 1 ≤ s.size ∧ s.size ≤ 6
  · refine ev_eq (a := true) (by unfold impl_within.f; rw [if_pos (by omega)]; simp; omega) (ev_pos rfl ?_)
    refine ev_cast (impl_nameOk_l s h) ?_
    simp [nameOk, hs]
  · refine ev_eq (a := false) (by unfold impl_within.f; split <;> simp <;> omega) (ev_neg (by simp) (ev_cast (Ev.now _) ?_))
    simp only [nameOk, decide_eq_false hs, Bool.false_and]

theorem FnExactNameOk : laws_FnExactNameOk.Pure := by
  intro s hs
  apply Ev.rounds (g := fun k => laws_FnExactNameOk.f k s)
  unfold laws_FnExactNameOk.f
  by_cases h : (s.size : Int) > 1048576
  · exact ev_pos h (Ev.now _)
  · refine ev_neg h (Ev.bind (spec_NameOk_ev s hs) (Ev.bind (impl_NameOk_ev s hs) (ev_neg (by simp) (Ev.now _))))

end Go.Proofs.Ytebfpnaofbpbjaa.Pure
