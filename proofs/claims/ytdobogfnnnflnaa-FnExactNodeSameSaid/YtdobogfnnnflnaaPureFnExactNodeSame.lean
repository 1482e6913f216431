/- FnExactNodeSame: the law's function of the print answers true for every input within the row's bounds. Conditions: none but the bounds that the row itself gives. -/
import Derived.Test.YtdobogfnnnflnaaPFnExactNodeSamex3
import Derived.OpenShut
import Derived.Laws.BitsLemmas
namespace Go.Proofs.Ytdobogfnnnflnaa.Pure
open Go Go.RowKit Go.Proofs.Ytdobogfnnnflnaa.PFnExactNodeSame Go.Proofs.YtdobogfnnnflnaaW.PrintWords Go.Proofs.YtdobogfnnnflnaaW.PrintLast Go.Proofs.YtdobogfnnnflnaaW.PrintMore Go.Proofs.YtdobogfnnnflnaaW.PrintMore
set_option linter.unusedVariables false
set_option linter.unusedSimpArgs false

theorem drop_cons {α : Type} (d : α) (l : List α) (i : Nat) (h : i < l.length) : l.drop i = l.getD i d :: l.drop (i + 1) := by
  rw [List.drop_eq_getElem_cons h]
  simp [List.getD, h]
theorem drop_eq {α : Type} [DecidableEq α] (d : α) (a b : List α) (i : Nat) (ha : i < a.length) (hb : i < b.length) : (a.drop i = b.drop i) ↔ (a.getD i d = b.getD i d ∧ a.drop (i + 1) = b.drop (i + 1)) := by
  rw [drop_cons d a i ha, drop_cons d b i hb]
  simp
theorem ev_cast {α : Type} {g : Nat → Option α} {r r' : α} (h : Ev g r) (e : r = r') : Ev g r' := e ▸ h
theorem ev_shift {α : Type} {g : Nat → Option α} {r : α} (h : Ev (fun k => g (k + 1)) r) : Ev g r := Ev.step (f := fun k => g (k + 1)) (fun _ => rfl) h
theorem ev_loop {ρ : Type} (L : Nat → Nat → Option ρ) (res : Nat → ρ) (n : Nat) (he : Ev (fun k => L (k + 1) n) (res n))
    (hs : ∀ i, i < n → Ev (fun k => L k (i + 1)) (res (i + 1)) → Ev (fun k => L (k + 1) i) (res i)) : ∀ i, i ≤ n → Ev (fun k => L k i) (res i) := by
  have key : ∀ d i, i + d = n → Ev (fun k => L k i) (res i) := by
    intro d
    induction d with
    | zero =>
      intro i h
      obtain rfl : i = n := by omega
      exact ev_shift he
    | succ d ih =>
      intro i h
      exact ev_shift (hs i (by omega) (ih (i + 1) (by omega)))
  intro i h
  exact key (n - i) i (by omega)
theorem ev_neg {α : Type} {c : Prop} [Decidable c] {f g : Nat → Option α} {r : α} (h : ¬ c) (e : Ev g r) : Ev (fun k => if c then f k else g k) r := by
  simpa only [if_neg h] using e
theorem ev_pos {α : Type} {c : Prop} [Decidable c] {f g : Nat → Option α} {r : α} (h : c) (e : Ev f r) : Ev (fun k => if c then f k else g k) r := by
  simpa only [if_pos h] using e
theorem rd_nat (xs : List Int) (i : Nat) : rd xs (i : Int) = xs.getD i 0 := by simp [rd]
theorem wrap_nat {i : Nat} (h : i < 9223372036854775807) : wrap64 ((i : Int) + 1) = ((i + 1 : Nat) : Int) := by
  unfold wrap64
  omega
theorem eqIntS_ev (a b : List Int) (h : a.length ≤ 1099511627776) : Ev (fun k => laws_eqIntS.f k a b) (decide (a = b)) := by
  unfold laws_eqIntS.f
  by_cases hl : a.length = b.length
  · refine ev_pos (by omega) ?_
    have := ev_loop (fun k i => laws_eqIntS.l0 k a b (i : Int)) (fun i => decide (a.drop i = b.drop i)) a.length ?_ ?_ 0 (Nat.zero_le _)
    · exact this
    · simp only [laws_eqIntS.l0]
      refine ev_neg (by omega) ?_
      refine ev_cast (Ev.now _) ?_
      rw [List.drop_length, hl, List.drop_length]
      simp
    · intro i hi e
      simp only [laws_eqIntS.l0]
      refine ev_pos (by omega) (ev_pos (by omega) (ev_pos (by omega) ?_))
      rw [wrap_nat (by omega), rd_nat, rd_nat]
      by_cases hc : a.getD i 0 = b.getD i 0
      · refine ev_pos hc (ev_cast e ?_)
        rw [decide_eq_decide, drop_eq 0 a b i hi (by omega)]
        exact ⟨fun z => ⟨hc, z⟩, fun z => z.2⟩
      · refine ev_neg hc (ev_cast (Ev.now _) ?_)
        symm
        rw [decide_eq_false_iff_not, drop_eq 0 a b i hi (by omega)]
        exact fun z => hc z.1
  · refine ev_neg (by omega) (ev_cast (Ev.now _) ?_)
    symm
    rw [decide_eq_false_iff_not]
    exact fun z => hl (by rw [z])
theorem eqNode_self (a b c d : Int) (l : List Int) (h : l.length ≤ 1099511627776) : Ev (fun k => laws_eqNode.f k a b c d l a b c d l) true := by
  unfold laws_eqNode.f
  exact ev_pos rfl (ev_pos rfl (ev_pos rfl (ev_pos rfl (Ev.bind (eqIntS_ev l l (by omega)) (ev_pos (by simp) (Ev.now _))))))
theorem ev_eq {α β : Type} {o : Option α} {a : α} {f : Nat → α → Option β} {r : β} (h : o = some a) (e : Ev (fun k => f k a) r) : Ev (fun k => o.bind (f k)) r := by
  subst h
  exact e
theorem equalInt_ev (a b : List Int) (h : a.length ≤ 1099511627776) : Ev (fun k => slices_Equal_int_int.f k a b) (decide (a = b)) := by
  unfold slices_Equal_int_int.f
  by_cases hl : a.length = b.length
  · refine ev_pos (by omega) ?_
    have := ev_loop (fun k i => slices_Equal_int_int.l0 k a b (a.length : Int) (i : Int)) (fun i => decide (a.drop i = b.drop i)) a.length ?_ ?_ 0 (Nat.zero_le _)
    · exact this
    · simp only [slices_Equal_int_int.l0]
      refine ev_neg (by omega) ?_
      refine ev_cast (Ev.now _) ?_
      rw [List.drop_length, hl, List.drop_length]
      simp
    · intro i hi e
      simp only [slices_Equal_int_int.l0]
      refine ev_pos (by omega) (ev_pos (by omega) (ev_pos (by omega) (ev_pos (by omega) ?_)))
      rw [wrap_nat (by omega), rd_nat, rd_nat]
      by_cases hc : a.getD i 0 = b.getD i 0
      · refine ev_pos hc (ev_cast e ?_)
        rw [decide_eq_decide, drop_eq 0 a b i hi (by omega)]
        exact ⟨fun z => ⟨hc, z⟩, fun z => z.2⟩
      · refine ev_neg hc (ev_cast (Ev.now _) ?_)
        symm
        rw [decide_eq_false_iff_not, drop_eq 0 a b i hi (by omega)]
        exact fun z => hc z.1
  · refine ev_neg (by omega) (ev_cast (Ev.now _) ?_)
    symm
    rw [decide_eq_false_iff_not]
    exact fun z => hl (by rw [z])
theorem impl_NodeSame_ev (a b c d : Int) (l : List Int) (a' b' c' d' : Int) (l' : List Int) (h : l.length ≤ 1099511627776) : Ev (fun k => impl_NodeSame.f k a b c d l a' b' c' d' l') (decide (a = a' ∧ b = b' ∧ c = c' ∧ d = d' ∧ l = l')) := by
  unfold impl_NodeSame.f
  by_cases h1 : a = a'
  · refine ev_pos h1 ?_
    by_cases h2 : b = b'
    · refine ev_pos h2 ?_
      by_cases h3 : c = c'
      · refine ev_pos h3 ?_
        by_cases h4 : d = d'
        · refine ev_pos h4 (Ev.bind (equalInt_ev l l' (by omega)) (ev_cast (Ev.now _) ?_))
          rw [decide_eq_decide]
          exact ⟨fun e => ⟨h1, h2, h3, h4, e⟩, fun e => e.2.2.2.2⟩
        · exact ev_neg h4 (ev_cast (Ev.now _) (by symm; rw [decide_eq_false_iff_not]; exact fun e => h4 e.2.2.2.1))
      · exact ev_neg h3 (ev_cast (Ev.now _) (by symm; rw [decide_eq_false_iff_not]; exact fun e => h3 e.2.2.1))
    · exact ev_neg h2 (ev_cast (Ev.now _) (by symm; rw [decide_eq_false_iff_not]; exact fun e => h2 e.2.1))
  · exact ev_neg h1 (ev_cast (Ev.now _) (by symm; rw [decide_eq_false_iff_not]; exact fun e => h1 e.1))
theorem spec_l1Same_ev (a b : List Int) (h : a.length ≤ 1099511627776) : Ev (fun k => spec_l1Same.f k a b) (decide (a = b)) := by
  unfold spec_l1Same.f
  by_cases hl : a.length = b.length
  · refine ev_pos (by omega) ?_
    have := ev_loop (fun k i => spec_l1Same.l0 k a b (i : Int)) (fun i => decide (a.drop i = b.drop i)) a.length ?_ ?_ 0 (Nat.zero_le _)
    · exact this
    · simp only [spec_l1Same.l0]
      refine ev_neg (by omega) ?_
      refine ev_cast (Ev.now _) ?_
      rw [List.drop_length, hl, List.drop_length]
      simp
    · intro i hi e
      simp only [spec_l1Same.l0]
      refine ev_pos (by omega) (ev_pos (by omega) (ev_pos (by omega) ?_))
      rw [wrap_nat (by omega), rd_nat, rd_nat]
      by_cases hc : a.getD i 0 = b.getD i 0
      · refine ev_pos hc (ev_cast e ?_)
        rw [decide_eq_decide, drop_eq 0 a b i hi (by omega)]
        exact ⟨fun z => ⟨hc, z⟩, fun z => z.2⟩
      · refine ev_neg hc (ev_cast (Ev.now _) ?_)
        symm
        rw [decide_eq_false_iff_not, drop_eq 0 a b i hi (by omega)]
        exact fun z => hc z.1
  · refine ev_neg (by omega) (ev_cast (Ev.now _) ?_)
    symm
    rw [decide_eq_false_iff_not]
    exact fun z => hl (by rw [z])
theorem spec_NodeSame_ev (a b c d : Int) (l : List Int) (a' b' c' d' : Int) (l' : List Int) (h : l.length ≤ 1099511627776) : Ev (fun k => spec_NodeSame.f k a b c d l a' b' c' d' l') (decide (a = a' ∧ b = b' ∧ c = c' ∧ d = d' ∧ l = l')) := by
  unfold spec_NodeSame.f
  by_cases h1 : a = a'
  · refine ev_pos h1 ?_
    by_cases h2 : b = b'
    · refine ev_pos h2 ?_
      by_cases h3 : c = c'
      · refine ev_pos h3 ?_
        by_cases h4 : d = d'
        · refine ev_pos h4 (Ev.bind (spec_l1Same_ev l l' (by omega)) (ev_cast (Ev.now _) ?_))
          rw [decide_eq_decide]
          exact ⟨fun e => ⟨h1, h2, h3, h4, e⟩, fun e => e.2.2.2.2⟩
        · exact ev_neg h4 (ev_cast (Ev.now _) (by symm; rw [decide_eq_false_iff_not]; exact fun e => h4 e.2.2.2.1))
      · exact ev_neg h3 (ev_cast (Ev.now _) (by symm; rw [decide_eq_false_iff_not]; exact fun e => h3 e.2.2.1))
    · exact ev_neg h2 (ev_cast (Ev.now _) (by symm; rw [decide_eq_false_iff_not]; exact fun e => h2 e.2.1))
  · exact ev_neg h1 (ev_cast (Ev.now _) (by symm; rw [decide_eq_false_iff_not]; exact fun e => h1 e.1))
theorem wrap_in {x : Int} (h0 : -9223372036854775808 ≤ x) (h1 : x ≤ 9223372036854775807) : wrap64 x = x := by
  unfold wrap64
  omega
theorem szNode_eq (f0 f1 f2 f3 : Int) (bl : List Int) (m : Int) (h0 : 0 ≤ m) (h1 : m ≤ 1048576) (hl : bl.length ≤ maxLen) : laws_szNode.f f0 f1 f2 f3 bl m = some (if m - (bl.length : Int) < 0 then -1 else m - (bl.length : Int)) := by
  have hl' : bl.length ≤ 9223372036854775807 := hl
  unfold laws_szNode.f laws_szIntS.f
  rw [wrap_in (by omega) (by omega)]
  by_cases c : m - (bl.length : Int) < 0
  · rw [if_pos c, if_pos c]
    rfl
  · rw [if_neg c, if_neg c]
    simp only [Option.bind_some]
    rw [if_neg c]
theorem copy_step {α : Type} (d : α) (l : List α) (i : Nat) (h : i < l.length) : (l.take i ++ List.replicate (l.length - i) d).set i (l.getD i d) = l.take (i + 1) ++ List.replicate (l.length - (i + 1)) d := by
  have hlen : (l.take i).length = i := by simp; omega
  rw [List.set_append_right _ _ (by omega), hlen, Nat.sub_self]
  obtain ⟨m, hm⟩ : ∃ m, l.length - i = m + 1 := ⟨l.length - i - 1, by omega⟩
  rw [hm, List.replicate_succ, List.set_cons_zero, List.take_succ_eq_append_getElem h, List.append_assoc]
  have : l.length - (i + 1) = m := by omega
  rw [this]
  simp [List.getD, h]
theorem toIntS_ev (l : List Int) (h : l.length ≤ 1099511627776) : Ev (fun k => laws_toIntS.f k l) l := by
  unfold laws_toIntS.f
  refine ev_pos (by omega) (ev_pos (by omega) ?_)
  have := ev_loop (fun k i => laws_toIntS.l0 k l (l.take i ++ List.replicate (l.length - i) 0) (i : Int)) (fun _ => l) l.length ?_ ?_ 0 (Nat.zero_le _)
  · simpa using this
  · simp only [laws_toIntS.l0]
    refine ev_neg (by omega) ?_
    simp only [List.take_length, Nat.sub_self, List.replicate_zero, List.append_nil]
    exact Ev.now _
  · intro i hi e
    simp only [laws_toIntS.l0]
    refine ev_pos (by omega) (ev_pos (by omega) (ev_pos (by simp; omega) ?_))
    rw [wrap_nat (by omega), rd_nat, Int.toNat_natCast, copy_step 0 l i hi]
    exact e
theorem toNode_ev (f0 f1 f2 f3 : Int) (bl : List Int) (h : bl.length ≤ 1048576) : Ev (fun k => laws_toNode.f k f0 f1 f2 f3 bl) (f0, f1, f2, f3, bl) := by
  unfold laws_toNode.f
  exact Ev.bind (toIntS_ev bl (by omega)) (Ev.now _)
theorem FnExactNodeSame : laws_FnExactNodeSame.Pure := by
  rintro a b c d l a' b' c' d' l' _ _ _ _ ⟨hl, _⟩ _ _ _ _ ⟨hl', _⟩
  have hm : maxLen = 9223372036854775807 := by decide
  apply Ev.rounds (g := fun k => laws_FnExactNodeSame.f k a b c d l a' b' c' d' l')
  unfold laws_FnExactNodeSame.f
  refine ev_eq (szNode_eq a b c d l 1048576 (by omega) (by omega) (by omega)) ?_
  by_cases h1 : 1048576 - (l.length : Int) < 0
  · rw [if_pos h1]
    exact ev_pos (by omega) (Ev.now _)
  · rw [if_neg h1]
    refine ev_neg h1 (ev_shift ?_)
    simp only [laws_FnExactNodeSame.j0]
    refine ev_eq (szNode_eq a' b' c' d' l' _ (by omega) (by omega) (by omega)) ?_
    by_cases h2 : 1048576 - (l.length : Int) - (l'.length : Int) < 0
    · rw [if_pos h2]
      exact ev_pos (by omega) (Ev.now _)
    · rw [if_neg h2]
      have ht := toNode_ev a b c d l (by omega)
      have ht' := toNode_ev a' b' c' d' l' (by omega)
      refine ev_neg h2 (ev_shift ?_)
      simp only [laws_FnExactNodeSame.j1]
      refine Ev.bind ht (Ev.bind ht' (Ev.bind (spec_NodeSame_ev a b c d l a' b' c' d' l' (by omega)) (Ev.bind ht (Ev.bind ht' (Ev.bind (impl_NodeSame_ev a b c d l a' b' c' d' l' (by omega)) (ev_neg (by simp) (ev_shift ?_)))))))
      simp only [laws_FnExactNodeSame.j2]
      refine Ev.bind ht (Ev.bind (eqNode_self a b c d l (by omega)) (ev_pos rfl (ev_shift ?_)))
      simp only [laws_FnExactNodeSame.j3]
      exact Ev.bind ht' (Ev.bind (eqNode_self a' b' c' d' l' (by omega)) (ev_pos rfl (Ev.now _)))
end Go.Proofs.Ytdobogfnnnflnaa.Pure
