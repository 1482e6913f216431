/- FnExactFsSame: the law's function of the print answers true for every input within the row's bounds. Conditions: none but the bounds that the row itself gives. -/
import Derived.Test.YtdobogfnnnflnaaPFnExactFsSamex6
import Derived.OpenShut
import Derived.Laws.BitsLemmas
namespace Go.Proofs.Ytdobogfnnnflnaa.Pure
open Go Go.RowKit Go.Proofs.Ytdobogfnnnflnaa.PFnExactFsSame Go.Proofs.YtdobogfnnnflnaaW.PrintWords Go.Proofs.YtdobogfnnnflnaaW.PrintLast Go.Proofs.YtdobogfnnnflnaaW.PrintMore
set_option linter.unusedVariables false
set_option linter.unusedSimpArgs false

theorem drop_cons {α : Type} (d : α) (l : List α) (i : Nat) (h : i < l.length) : l.drop i = l.getD i d :: l.drop (i + 1) := by
  rw [List.drop_eq_getElem_cons h]
  simp [List.getD, h]
theorem drop_eq {α : Type} [DecidableEq α] (d : α) (a b : List α) (i : Nat) (ha : i < a.length) (hb : i < b.length) : (a.drop i = b.drop i) ↔ (a.getD i d = b.getD i d ∧ a.drop (i + 1) = b.drop (i + 1)) := by
  rw [drop_cons d a i ha, drop_cons d b i hb]
  simp
theorem ev_cast {α : Type} {g : Nat → Option α} {r r' : α} (h : Ev g r) (e : r = r') : Ev g r' := e ▸ h
theorem ev_shift {α : Type} {g : Nat → Option α} {r : α} (h : Ev (fun k => g (k + 1)) r) : Ev g r := Ev.step (f := fun k => g (k + 1)) (fun _ => rfl) h
theorem ev_loop {ρ : Type} (L : Nat → Nat → Option ρ) (res : Nat → ρ) (n : Nat) (he : Ev (fun k => L (k + 1) n) (res n))
    (hs : ∀ i, i < n → Ev (fun k => L k (i + 1)) (res (i + 1)) → Ev (fun k => L (k + 1) i) (res i)) : ∀ i, i ≤ n → Ev (fun k => L k i) (res i) := by
  have key : ∀ d i, i + d = n → Ev (fun k => L k i) (res i) := by
    intro d
    induction d with
    | zero =>
      intro i h
      obtain rfl : i = n := by omega
      exact ev_shift he
    | succ d ih =>
      intro i h
      exact ev_shift (hs i (by omega) (ih (i + 1) (by omega)))
  intro i h
  exact key (n - i) i (by omega)
theorem ev_neg {α : Type} {c : Prop} [Decidable c] {f g : Nat → Option α} {r : α} (h : ¬ c) (e : Ev g r) : Ev (fun k => if c then f k else g k) r := by
  simpa only [if_neg h] using e
theorem ev_pos {α : Type} {c : Prop} [Decidable c] {f g : Nat → Option α} {r : α} (h : c) (e : Ev f r) : Ev (fun k => if c then f k else g k) r := by
  simpa only [if_pos h] using e
theorem rd_nat (xs : List Int) (i : Nat) : rd xs (i : Int) = xs.getD i 0 := by simp [rd]
theorem wrap_nat {i : Nat} (h : i < 9223372036854775807) : wrap64 ((i : Int) + 1) = ((i + 1 : Nat) : Int) := by
  unfold wrap64
  omega
theorem eqIntS_ev (a b : List Int) (h : a.length ≤ 1099511627776) : Ev (fun k => laws_eqIntS.f k a b) (decide (a = b)) := by
  unfold laws_eqIntS.f
  by_cases hl : a.length = b.length
  · refine ev_pos (by omega) ?_
    have := ev_loop (fun k i => laws_eqIntS.l0 k a b (i : Int)) (fun i => decide (a.drop i = b.drop i)) a.length ?_ ?_ 0 (Nat.zero_le _)
    · exact this
    · simp only [laws_eqIntS.l0]
      refine ev_neg (by omega) ?_
      refine ev_cast (Ev.now _) ?_
      rw [List.drop_length, hl, List.drop_length]
      simp
    · intro i hi e
      simp only [laws_eqIntS.l0]
      refine ev_pos (by omega) (ev_pos (by omega) (ev_pos (by omega) ?_))
      rw [wrap_nat (by omega), rd_nat, rd_nat]
      by_cases hc : a.getD i 0 = b.getD i 0
      · refine ev_pos hc (ev_cast e ?_)
        rw [decide_eq_decide, drop_eq 0 a b i hi (by omega)]
        exact ⟨fun z => ⟨hc, z⟩, fun z => z.2⟩
      · refine ev_neg hc (ev_cast (Ev.now _) ?_)
        symm
        rw [decide_eq_false_iff_not, drop_eq 0 a b i hi (by omega)]
        exact fun z => hc z.1
  · refine ev_neg (by omega) (ev_cast (Ev.now _) ?_)
    symm
    rw [decide_eq_false_iff_not]
    exact fun z => hl (by rw [z])
theorem eqNode_self (a b c d : Int) (l : List Int) (h : l.length ≤ 1099511627776) : Ev (fun k => laws_eqNode.f k a b c d l a b c d l) true := by
  unfold laws_eqNode.f
  exact ev_pos rfl (ev_pos rfl (ev_pos rfl (ev_pos rfl (Ev.bind (eqIntS_ev l l (by omega)) (ev_pos (by simp) (Ev.now _))))))
theorem getD_mem {α : Type} (d : α) (l : List α) (i : Nat) (h : i < l.length) : l.getD i d ∈ l := by
  simp [List.getD, h]
theorem rdNode_nat (xs : List S27) (i : Nat) : rd_T27 xs (i : Int) = xs.getD i z27 := by simp [rd_T27]
theorem eqNodeS_refl (a : List S27) (ha : a.length ≤ 140737488351232) (hx : ∀ x ∈ a, x.f4.length ≤ 1048576) : Ev (fun k => laws_eqNodeS.f k a a) true := by
  unfold laws_eqNodeS.f
  refine ev_pos rfl ?_
  have := ev_loop (fun k i => laws_eqNodeS.l0 k a a (i : Int)) (fun _ => true) a.length ?_ ?_ 0 (Nat.zero_le _)
  · exact this
  · simp only [laws_eqNodeS.l0]
    exact ev_neg (by omega) (Ev.now _)
  · intro i hi e
    simp only [laws_eqNodeS.l0, rdNode_nat]
    have := hx _ (getD_mem z27 a i hi)
    refine ev_pos (by omega) (ev_pos (by omega) (ev_pos (by omega) (Ev.bind (eqNode_self _ _ _ _ _ (by omega)) (ev_pos rfl ?_))))
    rw [wrap_nat (by omega)]
    exact e
theorem rdOf_nat {α : Type} (d : α) (xs : List α) (i : Nat) : rdOf d xs (i : Int) = xs.getD i d := by simp [rdOf]
theorem toList_inj {a b : ByteArray} : a.toList = b.toList ↔ a = b := by
  constructor
  · intro h
    have h' := h
    rw [ByteArray.toList_eq, ByteArray.toList_eq] at h'
    cases a
    cases b
    simp only [ByteArray.mk.injEq]
    exact Array.toList_inj.mp h'
  · intro h
    rw [h]
theorem eqStringS_ev (a b : List ByteArray) (h : a.length ≤ 140737488351232) : Ev (fun k => laws_eqStringS.f k a b) (decide (a = b)) := by
  unfold laws_eqStringS.f
  by_cases hl : a.length = b.length
  · refine ev_pos (by omega) ?_
    have := ev_loop (fun k i => laws_eqStringS.l0 k a b (i : Int)) (fun i => decide (a.drop i = b.drop i)) a.length ?_ ?_ 0 (Nat.zero_le _)
    · exact this
    · simp only [laws_eqStringS.l0]
      refine ev_neg (by omega) ?_
      refine ev_cast (Ev.now _) ?_
      rw [List.drop_length, hl, List.drop_length]
      simp
    · intro i hi e
      simp only [laws_eqStringS.l0]
      refine ev_pos (by omega) (ev_pos (by omega) (ev_pos (by omega) ?_))
      rw [wrap_nat (by omega), rdOf_nat, rdOf_nat]
      by_cases hc : a.getD i ByteArray.empty = b.getD i ByteArray.empty
      · refine ev_pos (toList_inj.mpr hc) (ev_cast e ?_)
        rw [decide_eq_decide, drop_eq ByteArray.empty a b i hi (by omega)]
        exact ⟨fun z => ⟨hc, z⟩, fun z => z.2⟩
      · refine ev_neg (fun z => hc (toList_inj.mp z)) (ev_cast (Ev.now _) ?_)
        symm
        rw [decide_eq_false_iff_not, drop_eq ByteArray.empty a b i hi (by omega)]
        exact fun z => hc z.1
  · refine ev_neg (by omega) (ev_cast (Ev.now _) ?_)
    symm
    rw [decide_eq_false_iff_not]
    exact fun z => hl (by rw [z])
theorem eqFs_refl (a : List S27) (b : List ByteArray) (ha : a.length ≤ 140737488351232) (hx : ∀ x ∈ a, x.f4.length ≤ 1048576) (hb : b.length ≤ 140737488351232) : Ev (fun k => laws_eqFs.f k a b a b) true := by
  unfold laws_eqFs.f
  exact Ev.bind (eqNodeS_refl a ha hx) (ev_pos rfl (Ev.bind (eqStringS_ev b b hb) (ev_pos (by simp) (Ev.now _))))
theorem and_dec (p q : Prop) [Decidable p] [Decidable q] (h : p) : decide q = decide (p ∧ q) := by
  rw [decide_eq_decide]
  exact ⟨fun z => ⟨h, z⟩, fun z => z.2⟩
theorem node_iff (p q : S27) : (p.f0 = q.f0 ∧ p.f1 = q.f1 ∧ p.f2 = q.f2 ∧ p.f3 = q.f3 ∧ p.f4 = q.f4) ↔ p = q := by
  constructor
  · rintro ⟨h0, h1, h2, h3, h4⟩
    cases p
    cases q
    simp only [S27.mk.injEq]
    exact ⟨h0, h1, h2, h3, h4⟩
  · intro h
    rw [h]
    exact ⟨rfl, rfl, rfl, rfl, rfl⟩
instance decNode : DecidableEq S27 := fun p q => decidable_of_iff _ (node_iff p q)
theorem equalInt_ev (a b : List Int) (h : a.length ≤ 1099511627776) : Ev (fun k => slices_Equal_int_int.f k a b) (decide (a = b)) := by
  unfold slices_Equal_int_int.f
  by_cases hl : a.length = b.length
  · refine ev_pos (by omega) ?_
    have := ev_loop (fun k i => slices_Equal_int_int.l0 k a b (a.length : Int) (i : Int)) (fun i => decide (a.drop i = b.drop i)) a.length ?_ ?_ 0 (Nat.zero_le _)
    · exact this
    · simp only [slices_Equal_int_int.l0]
      refine ev_neg (by omega) ?_
      refine ev_cast (Ev.now _) ?_
      rw [List.drop_length, hl, List.drop_length]
      simp
    · intro i hi e
      simp only [slices_Equal_int_int.l0]
      refine ev_pos (by omega) (ev_pos (by omega) (ev_pos (by omega) (ev_pos (by omega) ?_)))
      rw [wrap_nat (by omega), rd_nat, rd_nat]
      by_cases hc : a.getD i 0 = b.getD i 0
      · refine ev_pos hc (ev_cast e ?_)
        rw [decide_eq_decide, drop_eq 0 a b i hi (by omega)]
        exact ⟨fun z => ⟨hc, z⟩, fun z => z.2⟩
      · refine ev_neg hc (ev_cast (Ev.now _) ?_)
        symm
        rw [decide_eq_false_iff_not, drop_eq 0 a b i hi (by omega)]
        exact fun z => hc z.1
  · refine ev_neg (by omega) (ev_cast (Ev.now _) ?_)
    symm
    rw [decide_eq_false_iff_not]
    exact fun z => hl (by rw [z])
theorem impl_NodeSame_ev (a b c d : Int) (l : List Int) (a' b' c' d' : Int) (l' : List Int) (h : l.length ≤ 1099511627776) : Ev (fun k => impl_NodeSame.f k a b c d l a' b' c' d' l') (decide (a = a' ∧ b = b' ∧ c = c' ∧ d = d' ∧ l = l')) := by
  unfold impl_NodeSame.f
  by_cases h1 : a = a'
  · refine ev_pos h1 ?_
    by_cases h2 : b = b'
    · refine ev_pos h2 ?_
      by_cases h3 : c = c'
      · refine ev_pos h3 ?_
        by_cases h4 : d = d'
        · refine ev_pos h4 (Ev.bind (equalInt_ev l l' (by omega)) (ev_cast (Ev.now _) ?_))
          rw [decide_eq_decide]
          exact ⟨fun e => ⟨h1, h2, h3, h4, e⟩, fun e => e.2.2.2.2⟩
        · exact ev_neg h4 (ev_cast (Ev.now _) (by symm; rw [decide_eq_false_iff_not]; exact fun e => h4 e.2.2.2.1))
      · exact ev_neg h3 (ev_cast (Ev.now _) (by symm; rw [decide_eq_false_iff_not]; exact fun e => h3 e.2.2.1))
    · exact ev_neg h2 (ev_cast (Ev.now _) (by symm; rw [decide_eq_false_iff_not]; exact fun e => h2 e.2.1))
  · exact ev_neg h1 (ev_cast (Ev.now _) (by symm; rw [decide_eq_false_iff_not]; exact fun e => h1 e.1))
theorem equalFunc_ev (a b : List S27) (h : a.length ≤ 140737488351232) (hx : ∀ x ∈ a, x.f4.length ≤ 1048576) : Ev (fun k => slices_EqualFunc_NodeSame.f k a b) (decide (a = b)) := by /- decNode -/
  unfold slices_EqualFunc_NodeSame.f
  by_cases hl : a.length = b.length
  · refine ev_pos (by omega) ?_
    have := ev_loop (fun k i => slices_EqualFunc_NodeSame.l0 k b a (a.length : Int) (i : Int)) (fun i => decide (a.drop i = b.drop i)) a.length ?_ ?_ 0 (Nat.zero_le _)
    · exact this
    · simp only [slices_EqualFunc_NodeSame.l0]
      refine ev_neg (by omega) (ev_cast (Ev.now _) ?_)
      rw [List.drop_length, hl, List.drop_length]
      simp
    · intro i hi e
      simp only [slices_EqualFunc_NodeSame.l0, rdNode_nat]
      have hm := hx _ (getD_mem z27 a i hi)
      have hn := impl_NodeSame_ev (a.getD i z27).f0 (a.getD i z27).f1 (a.getD i z27).f2 (a.getD i z27).f3 (a.getD i z27).f4 (b.getD i z27).f0 (b.getD i z27).f1 (b.getD i z27).f2 (b.getD i z27).f3 (b.getD i z27).f4 (by omega)
      refine ev_pos (by omega) (ev_pos (by omega) (ev_pos (by omega) (ev_pos (by omega) (Ev.bind hn ?_))))
      rw [wrap_nat (by omega)]
      by_cases hc : a.getD i z27 = b.getD i z27
      · rw [decide_eq_true ((node_iff _ _).2 hc)]
        refine ev_pos rfl (ev_cast e ?_)
        rw [decide_eq_decide, drop_eq z27 a b i hi (by omega)]
        exact ⟨fun z => ⟨hc, z⟩, fun z => z.2⟩
      · rw [decide_eq_false (fun z => hc ((node_iff _ _).1 z))]
        refine ev_neg (by simp) (ev_cast (Ev.now _) ?_)
        symm
        rw [decide_eq_false_iff_not, drop_eq z27 a b i hi (by omega)]
        exact fun z => hc z.1
  · refine ev_neg (by omega) (ev_cast (Ev.now _) ?_)
    symm
    rw [decide_eq_false_iff_not]
    exact fun z => hl (by rw [z])
theorem equalString_ev (a b : List ByteArray) (h : a.length ≤ 140737488351232) : Ev (fun k => slices_Equal_string_string.f k a b) (decide (a = b)) := by
  unfold slices_Equal_string_string.f
  by_cases hl : a.length = b.length
  · refine ev_pos (by omega) ?_
    have := ev_loop (fun k i => slices_Equal_string_string.l0 k a b (a.length : Int) (i : Int)) (fun i => decide (a.drop i = b.drop i)) a.length ?_ ?_ 0 (Nat.zero_le _)
    · exact this
    · simp only [slices_Equal_string_string.l0]
      refine ev_neg (by omega) ?_
      refine ev_cast (Ev.now _) ?_
      rw [List.drop_length, hl, List.drop_length]
      simp
    · intro i hi e
      simp only [slices_Equal_string_string.l0]
      refine ev_pos (by omega) (ev_pos (by omega) (ev_pos (by omega) (ev_pos (by omega) ?_)))
      rw [wrap_nat (by omega), rdOf_nat, rdOf_nat]
      by_cases hc : a.getD i ByteArray.empty = b.getD i ByteArray.empty
      · refine ev_pos (toList_inj.mpr hc) (ev_cast e ?_)
        rw [decide_eq_decide, drop_eq ByteArray.empty a b i hi (by omega)]
        exact ⟨fun z => ⟨hc, z⟩, fun z => z.2⟩
      · refine ev_neg (fun z => hc (toList_inj.mp z)) (ev_cast (Ev.now _) ?_)
        symm
        rw [decide_eq_false_iff_not, drop_eq ByteArray.empty a b i hi (by omega)]
        exact fun z => hc z.1
  · refine ev_neg (by omega) (ev_cast (Ev.now _) ?_)
    symm
    rw [decide_eq_false_iff_not]
    exact fun z => hl (by rw [z])
theorem impl_FsSame_ev (a : List S27) (b : List ByteArray) (a' : List S27) (b' : List ByteArray) (h : a.length ≤ 140737488351232) (hx : ∀ x ∈ a, x.f4.length ≤ 1048576) (hb : b.length ≤ 140737488351232) : Ev (fun k => impl_FsSame.f k a b a' b') (decide (a = a' ∧ b = b')) := by /- decNode -/
  unfold impl_FsSame.f
  refine Ev.bind (equalFunc_ev a a' h hx) ?_
  by_cases c : a = a'
  · rw [decide_eq_true c]
    exact ev_pos rfl (Ev.bind (equalString_ev b b' hb) (ev_cast (Ev.now _) (and_dec _ _ c)))
  · rw [decide_eq_false c]
    refine ev_neg (by simp) (ev_cast (Ev.now _) ?_)
    symm
    rw [decide_eq_false_iff_not]
    exact fun z => c z.1
def ofLNode (x : S24) : S27 := ⟨x.f0, x.f1, x.f2, x.f3, x.f4⟩
theorem spec_l1Same_ev (a b : List Int) (h : a.length ≤ 1099511627776) : Ev (fun k => spec_l1Same.f k a b) (decide (a = b)) := by
  unfold spec_l1Same.f
  by_cases hl : a.length = b.length
  · refine ev_pos (by omega) ?_
    have := ev_loop (fun k i => spec_l1Same.l0 k a b (i : Int)) (fun i => decide (a.drop i = b.drop i)) a.length ?_ ?_ 0 (Nat.zero_le _)
    · exact this
    · simp only [spec_l1Same.l0]
      refine ev_neg (by omega) ?_
      refine ev_cast (Ev.now _) ?_
      rw [List.drop_length, hl, List.drop_length]
      simp
    · intro i hi e
      simp only [spec_l1Same.l0]
      refine ev_pos (by omega) (ev_pos (by omega) (ev_pos (by omega) ?_))
      rw [wrap_nat (by omega), rd_nat, rd_nat]
      by_cases hc : a.getD i 0 = b.getD i 0
      · refine ev_pos hc (ev_cast e ?_)
        rw [decide_eq_decide, drop_eq 0 a b i hi (by omega)]
        exact ⟨fun z => ⟨hc, z⟩, fun z => z.2⟩
      · refine ev_neg hc (ev_cast (Ev.now _) ?_)
        symm
        rw [decide_eq_false_iff_not, drop_eq 0 a b i hi (by omega)]
        exact fun z => hc z.1
  · refine ev_neg (by omega) (ev_cast (Ev.now _) ?_)
    symm
    rw [decide_eq_false_iff_not]
    exact fun z => hl (by rw [z])
theorem spec_NodeSame_ev (a b c d : Int) (l : List Int) (a' b' c' d' : Int) (l' : List Int) (h : l.length ≤ 1099511627776) : Ev (fun k => spec_NodeSame.f k a b c d l a' b' c' d' l') (decide (a = a' ∧ b = b' ∧ c = c' ∧ d = d' ∧ l = l')) := by
  unfold spec_NodeSame.f
  by_cases h1 : a = a'
  · refine ev_pos h1 ?_
    by_cases h2 : b = b'
    · refine ev_pos h2 ?_
      by_cases h3 : c = c'
      · refine ev_pos h3 ?_
        by_cases h4 : d = d'
        · refine ev_pos h4 (Ev.bind (spec_l1Same_ev l l' (by omega)) (ev_cast (Ev.now _) ?_))
          rw [decide_eq_decide]
          exact ⟨fun e => ⟨h1, h2, h3, h4, e⟩, fun e => e.2.2.2.2⟩
        · exact ev_neg h4 (ev_cast (Ev.now _) (by symm; rw [decide_eq_false_iff_not]; exact fun e => h4 e.2.2.2.1))
      · exact ev_neg h3 (ev_cast (Ev.now _) (by symm; rw [decide_eq_false_iff_not]; exact fun e => h3 e.2.2.1))
    · exact ev_neg h2 (ev_cast (Ev.now _) (by symm; rw [decide_eq_false_iff_not]; exact fun e => h2 e.2.1))
  · exact ev_neg h1 (ev_cast (Ev.now _) (by symm; rw [decide_eq_false_iff_not]; exact fun e => h1 e.1))
theorem spec_FsNodes_ev (a a' : List S27) (b b' : List ByteArray) (h : a.length ≤ 140737488351232) (hl : a.length = a'.length) (hx : ∀ x ∈ a, x.f4.length ≤ 1048576) : Ev (fun k => spec_FsSame.l0 k 0 a b a' b') (decide (a = a')) := by /- decNode -/
  have := ev_loop (fun k i => spec_FsSame.l0 k (i : Int) a b a' b') (fun i => decide (a.drop i = a'.drop i)) a.length ?_ ?_ 0 (Nat.zero_le _)
  · exact this
  · simp only [spec_FsSame.l0]
    refine ev_neg (by omega) (ev_cast (Ev.now _) ?_)
    rw [List.drop_length, hl, List.drop_length]
    simp
  · intro i hi e
    simp only [spec_FsSame.l0, rdNode_nat]
    have hm := hx _ (getD_mem z27 a i hi)
    have hn := spec_NodeSame_ev (a.getD i z27).f0 (a.getD i z27).f1 (a.getD i z27).f2 (a.getD i z27).f3 (a.getD i z27).f4 (a'.getD i z27).f0 (a'.getD i z27).f1 (a'.getD i z27).f2 (a'.getD i z27).f3 (a'.getD i z27).f4 (by omega)
    refine ev_pos (by omega) (ev_pos (by omega) (ev_pos (by omega) (Ev.bind hn ?_)))
    rw [wrap_nat (by omega)]
    by_cases hc : a.getD i z27 = a'.getD i z27
    · rw [decide_eq_true ((node_iff _ _).2 hc)]
      refine ev_pos rfl (ev_cast e ?_)
      rw [decide_eq_decide, drop_eq z27 a a' i hi (by omega)]
      exact ⟨fun z => ⟨hc, z⟩, fun z => z.2⟩
    · rw [decide_eq_false (fun z => hc ((node_iff _ _).1 z))]
      refine ev_neg (by simp) (ev_cast (Ev.now _) ?_)
      symm
      rw [decide_eq_false_iff_not, drop_eq z27 a a' i hi (by omega)]
      exact fun z => hc z.1
theorem spec_texts_ev (a b : List ByteArray) (h : a.length ≤ 140737488351232) : Ev (fun k => spec_l1Texts.f k a b) (decide (a = b)) := by
  unfold spec_l1Texts.f
  by_cases hl : a.length = b.length
  · refine ev_pos (by omega) ?_
    have := ev_loop (fun k i => spec_l1Texts.l0 k a b (i : Int)) (fun i => decide (a.drop i = b.drop i)) a.length ?_ ?_ 0 (Nat.zero_le _)
    · exact this
    · simp only [spec_l1Texts.l0]
      refine ev_neg (by omega) ?_
      refine ev_cast (Ev.now _) ?_
      rw [List.drop_length, hl, List.drop_length]
      simp
    · intro i hi e
      simp only [spec_l1Texts.l0]
      refine ev_pos (by omega) (ev_pos (by omega) (ev_pos (by omega) ?_))
      rw [wrap_nat (by omega), rdOf_nat, rdOf_nat]
      by_cases hc : a.getD i ByteArray.empty = b.getD i ByteArray.empty
      · refine ev_pos (toList_inj.mpr hc) (ev_cast e ?_)
        rw [decide_eq_decide, drop_eq ByteArray.empty a b i hi (by omega)]
        exact ⟨fun z => ⟨hc, z⟩, fun z => z.2⟩
      · refine ev_neg (fun z => hc (toList_inj.mp z)) (ev_cast (Ev.now _) ?_)
        symm
        rw [decide_eq_false_iff_not, drop_eq ByteArray.empty a b i hi (by omega)]
        exact fun z => hc z.1
  · refine ev_neg (by omega) (ev_cast (Ev.now _) ?_)
    symm
    rw [decide_eq_false_iff_not]
    exact fun z => hl (by rw [z])
theorem spec_FsSame_ev (a : List S27) (b : List ByteArray) (a' : List S27) (b' : List ByteArray) (h : a.length ≤ 140737488351232) (hx : ∀ x ∈ a, x.f4.length ≤ 1048576) (hb : b.length ≤ 140737488351232) : Ev (fun k => spec_FsSame.f k a b a' b') (decide (a = a' ∧ b = b')) := by /- decNode -/
  have no : ¬ (a = a' ∧ b = b') → Ev (fun k => spec_FsSame.j0 k true a b a' b') (decide (a = a' ∧ b = b')) := fun hn => by
    apply ev_shift
    simp only [spec_FsSame.j0]
    refine ev_pos trivial (ev_cast (Ev.now _) ?_)
    symm
    rw [decide_eq_false_iff_not]
    exact hn
  unfold spec_FsSame.f
  by_cases hl : a.length = a'.length
  · refine ev_pos (by omega) (Ev.bind (spec_texts_ev b b' hb) ?_)
    by_cases c : b = b'
    · rw [decide_eq_true c]
      apply ev_shift
      simp only [spec_FsSame.j0]
      refine ev_neg (by simp) (ev_cast (spec_FsNodes_ev a a' b b' h hl hx) ?_)
      rw [decide_eq_decide]
      exact ⟨fun z => ⟨z, c⟩, fun z => z.1⟩
    · rw [decide_eq_false c]
      exact no (fun z => c z.2)
  · exact ev_neg (by omega) (no (fun z => hl (by rw [z.1])))
/-- The letters of all texts. -/
def letters (l : List ByteArray) : Nat := (l.map ByteArray.size).sum
/-- What is left of a measure, behind a row of texts: below zero, or the row is that short. -/
def leftS (l : List ByteArray) (left : Int) : Int := if (l.length : Int) + letters l ≤ left then left - l.length - letters l else -1
theorem rdLNode_nat (xs : List S24) (i : Nat) : rd_T24 xs (i : Int) = xs.getD i z24 := by simp [rd_T24]
theorem wrap_in {x : Int} (h0 : -9223372036854775808 ≤ x) (h1 : x ≤ 9223372036854775807) : wrap64 x = x := by
  unfold wrap64
  omega
theorem szNode_eq (f0 f1 f2 f3 : Int) (bl : List Int) (m : Int) (h0 : 0 ≤ m) (h1 : m ≤ 1048576) (hl : bl.length ≤ maxLen) : laws_szNode.f f0 f1 f2 f3 bl m = some (if m - (bl.length : Int) < 0 then -1 else m - (bl.length : Int)) := by
  have hl' : bl.length ≤ 9223372036854775807 := hl
  unfold laws_szNode.f laws_szIntS.f
  rw [wrap_in (by omega) (by omega)]
  by_cases c : m - (bl.length : Int) < 0
  · rw [if_pos c, if_pos c]
    rfl
  · rw [if_neg c, if_neg c]
    simp only [Option.bind_some]
    rw [if_neg c]
theorem szNodeS_ev (l : List S24) (m : Int) (h0 : 0 ≤ m) (h1 : m ≤ 1048576) (hl : l.length ≤ maxLen) (hx : ∀ x ∈ l, x.f4.length ≤ maxLen) :
    ∃ r : Int, Ev (fun k => laws_szNodeS.f k l m) r ∧ r ≤ m ∧ (0 ≤ r → (l.length : Int) ≤ m ∧ ∀ x ∈ l, (x.f4.length : Int) ≤ m) := by
  have hl' : l.length ≤ 9223372036854775807 := hl
  unfold laws_szNodeS.f
  by_cases c : m - (l.length : Int) < 0
  · refine ⟨-1, ?_, by omega, by omega⟩
    rw [wrap_in (by omega) (by omega)]
    exact ev_pos c (Ev.now _)
  · rw [wrap_in (by omega) (by omega)]
    have key : ∀ (d i : Nat) (x : Int), i + d = l.length → 0 ≤ x → x ≤ m → (∀ j, j < i → ((l.getD j z24).f4.length : Int) ≤ m) →
        ∃ r : Int, Ev (fun k => laws_szNodeS.l0 k l x (i : Int)) r ∧ r ≤ m ∧ (0 ≤ r → ∀ j, j < l.length → ((l.getD j z24).f4.length : Int) ≤ m) := by
      intro d
      induction d with
      | zero =>
        intro i x hi hx0 hx1 hj
        refine ⟨x, ev_shift ?_, hx1, fun _ => by rw [show l.length = i from by omega]; exact hj⟩
        simp only [laws_szNodeS.l0]
        exact ev_neg (by omega) (Ev.now _)
      | succ d ih =>
        intro i x hi hx0 hx1 hj
        have hm := hx _ (getD_mem z24 l i (by omega))
        have hs := szNode_eq (l.getD i z24).f0 (l.getD i z24).f1 (l.getD i z24).f2 (l.getD i z24).f3 (l.getD i z24).f4 x hx0 (by omega) hm
        by_cases c2 : x - ((l.getD i z24).f4.length : Int) < 0
        · rw [if_pos c2] at hs
          refine ⟨-1, ev_shift ?_, by omega, by omega⟩
          simp only [laws_szNodeS.l0]
          refine ev_pos (by omega) (ev_pos (by omega) ?_)
          simp only [rdLNode_nat, hs, Option.bind_some]
          exact ev_pos (by omega) (Ev.now _)
        · rw [if_neg c2] at hs
          obtain ⟨r, e, hr1, hr2⟩ := ih (i + 1) (x - ((l.getD i z24).f4.length : Int)) (by omega) (by omega) (by omega) (fun j hji => by
            by_cases e : j = i
            · subst e
              omega
            · exact hj j (by omega))
          refine ⟨r, ev_shift ?_, hr1, hr2⟩
          simp only [laws_szNodeS.l0]
          refine ev_pos (by omega) (ev_pos (by omega) ?_)
          simp only [rdLNode_nat, hs, Option.bind_some]
          rw [wrap_nat (by omega)]
          exact ev_neg (by omega) e
    obtain ⟨r, e, hr1, hr2⟩ := key l.length 0 (m - (l.length : Int)) (by omega) (by omega) (by omega) (fun j hj => by omega)
    refine ⟨r, ev_neg c e, hr1, fun hr => ⟨by omega, fun x hx2 => ?_⟩⟩
    obtain ⟨j, hj, rfl⟩ := List.mem_iff_getElem.1 hx2
    have := hr2 hr j hj
    simpa [List.getD, hj] using this
theorem letters_cons (x : ByteArray) (l : List ByteArray) : letters (x :: l) = x.size + letters l := rfl
theorem szStringS_l (l : List ByteArray) (hl : l.length ≤ 9223372036854775807) (hx : ∀ x ∈ l, x.size ≤ 9223372036854775807) (d : Nat) : ∀ (i : Nat) (left : Int), i + d = l.length → 0 ≤ left → left ≤ 9223372036854775807 →
    Ev (fun k => laws_szStringS.l0 k l left (i : Int)) (if (letters (l.drop i) : Int) ≤ left then left - letters (l.drop i) else -1) := by
  induction d with
  | zero =>
    intro i left hi h0 h1
    apply ev_shift
    simp only [laws_szStringS.l0]
    refine ev_neg (by omega) (ev_cast (Ev.now _) ?_)
    rw [List.drop_eq_nil_of_le (by omega), show letters [] = 0 from rfl, if_pos (by omega)]
    omega
  | succ d ih =>
    intro i left hi h0 h1
    have hs := hx _ (getD_mem ByteArray.empty l i (by omega))
    apply ev_shift
    simp only [laws_szStringS.l0]
    rw [rdOf_nat, drop_cons ByteArray.empty l i (by omega), letters_cons]
    generalize hz : (l.getD i ByteArray.empty).size = z at hs
    rw [wrap_in (by omega) (by omega)]
    refine ev_pos (by omega) (ev_pos (by omega) ?_)
    by_cases c : left - (z : Int) < 0
    · refine ev_pos c (ev_cast (Ev.now _) ?_)
      rw [if_neg (by omega)]
    · rw [wrap_nat (by omega)]
      refine ev_neg c (ev_cast (ih (i + 1) _ (by omega) (by omega) (by omega)) ?_)
      by_cases c2 : (letters (l.drop (i + 1)) : Int) ≤ left - z
      · rw [if_pos c2, if_pos (by omega)]
        omega
      · rw [if_neg c2, if_neg (by omega)]
theorem szStringS_ev (l : List ByteArray) (hl : l.length ≤ 9223372036854775807) (hx : ∀ x ∈ l, x.size ≤ 9223372036854775807) (left : Int) (h0 : 0 ≤ left) (h1 : left ≤ 9223372036854775807) :
    Ev (fun k => laws_szStringS.f k l left) (leftS l left) := by
  unfold laws_szStringS.f leftS
  rw [wrap_in (by omega) (by omega)]
  by_cases c : left - (l.length : Int) < 0
  · refine ev_pos c (ev_cast (Ev.now _) ?_)
    rw [if_neg (by omega)]
  · refine ev_neg c (ev_cast (szStringS_l l hl hx l.length 0 _ (by omega) (by omega) (by omega)) ?_)
    rw [List.drop_zero]
    by_cases c2 : (l.length : Int) + letters l ≤ left
    · rw [if_pos c2, if_pos (by omega)]
    · rw [if_neg c2, if_neg (by omega)]
theorem szFs_m (a : List S24) (b : List ByteArray) (m : Int) (h0 : 0 ≤ m) (h1 : m ≤ 1048576) (ha : a.length ≤ maxLen) (hx : ∀ x ∈ a, x.f4.length ≤ maxLen) (hb : b.length ≤ maxLen) (hy : ∀ x ∈ b, x.size ≤ maxLen) :
    ∃ r : Int, Ev (fun k => laws_szFs.f k a b m) r ∧ r ≤ m ∧ (0 ≤ r → a.length ≤ 1048576 ∧ (∀ x ∈ a, x.f4.length ≤ 1048576) ∧ b.length + letters b ≤ 1048576) := by
  have hm : maxLen ≤ 9223372036854775807 := by decide
  obtain ⟨r, er, hr1, hr2⟩ := szNodeS_ev a m h0 h1 ha hx
  unfold laws_szFs.f
  by_cases c : r < 0
  · exact ⟨-1, Ev.bind er (ev_pos c (Ev.now _)), by omega, by omega⟩
  · obtain ⟨h3, h4⟩ := hr2 (by omega)
    have h5 := szStringS_ev b (by omega) (fun x h => by have := hy x h; omega) r (by omega) (by omega)
    unfold leftS at h5
    by_cases c2 : (b.length : Int) + letters b ≤ r
    · rw [if_pos c2] at h5
      refine ⟨_, Ev.bind er (ev_neg c (Ev.bind h5 (ev_neg (by omega) (Ev.now _)))), by omega, fun _ => ⟨by omega, fun x hx2 => ?_, by omega⟩⟩
      have := h4 x hx2
      omega
    · rw [if_neg c2] at h5
      exact ⟨-1, Ev.bind er (ev_neg c (Ev.bind h5 (ev_pos (by omega) (Ev.now _)))), by omega, by omega⟩
theorem copy_step {α : Type} (d : α) (l : List α) (i : Nat) (h : i < l.length) : (l.take i ++ List.replicate (l.length - i) d).set i (l.getD i d) = l.take (i + 1) ++ List.replicate (l.length - (i + 1)) d := by
  have hlen : (l.take i).length = i := by simp; omega
  rw [List.set_append_right _ _ (by omega), hlen, Nat.sub_self]
  obtain ⟨m, hm⟩ : ∃ m, l.length - i = m + 1 := ⟨l.length - i - 1, by omega⟩
  rw [hm, List.replicate_succ, List.set_cons_zero, List.take_succ_eq_append_getElem h, List.append_assoc]
  have : l.length - (i + 1) = m := by omega
  rw [this]
  simp [List.getD, h]
theorem toIntS_ev (l : List Int) (h : l.length ≤ 1099511627776) : Ev (fun k => laws_toIntS.f k l) l := by
  unfold laws_toIntS.f
  refine ev_pos (by omega) (ev_pos (by omega) ?_)
  have := ev_loop (fun k i => laws_toIntS.l0 k l (l.take i ++ List.replicate (l.length - i) 0) (i : Int)) (fun _ => l) l.length ?_ ?_ 0 (Nat.zero_le _)
  · simpa using this
  · simp only [laws_toIntS.l0]
    refine ev_neg (by omega) ?_
    simp only [List.take_length, Nat.sub_self, List.replicate_zero, List.append_nil]
    exact Ev.now _
  · intro i hi e
    simp only [laws_toIntS.l0]
    refine ev_pos (by omega) (ev_pos (by omega) (ev_pos (by simp; omega) ?_))
    rw [wrap_nat (by omega), rd_nat, Int.toNat_natCast, copy_step 0 l i hi]
    exact e
theorem toNode_ev (f0 f1 f2 f3 : Int) (bl : List Int) (h : bl.length ≤ 1048576) : Ev (fun k => laws_toNode.f k f0 f1 f2 f3 bl) (f0, f1, f2, f3, bl) := by
  unfold laws_toNode.f
  exact Ev.bind (toIntS_ev bl (by omega)) (Ev.now _)
theorem toNodeS_ev (l : List S24) (h : l.length ≤ 1048576) (hx : ∀ x ∈ l, x.f4.length ≤ 1048576) : Ev (fun k => laws_toNodeS.f k l) (l.map ofLNode) := by
  unfold laws_toNodeS.f
  refine ev_pos (by omega) (ev_pos (by omega) ?_)
  have := ev_loop (fun k i => laws_toNodeS.l0 k l ((l.map ofLNode).take i ++ List.replicate ((l.map ofLNode).length - i) z27) (i : Int)) (fun _ => l.map ofLNode) l.length ?_ ?_ 0 (Nat.zero_le _)
  · simpa using this
  · simp only [laws_toNodeS.l0]
    refine ev_neg (by omega) ?_
    have e1 : (l.map ofLNode).length - l.length = 0 := by rw [List.length_map]; omega
    have e2 : (l.map ofLNode).take l.length = l.map ofLNode := List.take_of_length_le (by rw [List.length_map]; omega)
    rw [e1, e2, List.replicate_zero, List.append_nil]
    exact Ev.now _
  · intro i hi e
    simp only [laws_toNodeS.l0, rdLNode_nat]
    refine ev_pos (by omega) (ev_pos (by omega) (Ev.bind (toNode_ev _ _ _ _ _ (hx _ (getD_mem z24 l i hi))) (ev_pos (by simp; omega) ?_)))
    have hi2 : i < (l.map ofLNode).length := by rw [List.length_map]; exact hi
    have hs := copy_step z27 (l.map ofLNode) i hi2
    have hg : (l.map ofLNode).getD i z27 = ⟨(l.getD i z24).f0, (l.getD i z24).f1, (l.getD i z24).f2, (l.getD i z24).f3, (l.getD i z24).f4⟩ := by simp [List.getD, hi, ofLNode]
    rw [hg] at hs
    dsimp only
    rw [wrap_nat (by omega), Int.toNat_natCast, hs]
    exact e
theorem toStringS_ev (l : List ByteArray) (h : l.length ≤ 1099511627776) : Ev (fun k => laws_toStringS.f k l) l := by
  unfold laws_toStringS.f
  refine ev_pos (by omega) (ev_pos (by omega) ?_)
  have := ev_loop (fun k i => laws_toStringS.l0 k l (l.take i ++ List.replicate (l.length - i) (⟨#[]⟩ : ByteArray)) (i : Int)) (fun _ => l) l.length ?_ ?_ 0 (Nat.zero_le _)
  · simpa using this
  · simp only [laws_toStringS.l0]
    refine ev_neg (by omega) (ev_cast (Ev.now _) ?_)
    simp
  · intro i hi e
    simp only [laws_toStringS.l0]
    refine ev_pos (by omega) (ev_pos (by omega) (ev_pos (by simp; omega) ?_))
    rw [wrap_nat (by omega), rdOf_nat, Int.toNat_natCast]
    rw [show (⟨#[]⟩ : ByteArray) = ByteArray.empty from rfl] at e ⊢
    rw [copy_step ByteArray.empty l i hi]
    exact e
theorem toFs_ev (a : List S24) (b : List ByteArray) (ha : a.length ≤ 1048576) (hx : ∀ x ∈ a, x.f4.length ≤ 1048576) (hb : b.length ≤ 1048576) : Ev (fun k => laws_toFs.f k a b) (a.map ofLNode, b) := by
  unfold laws_toFs.f
  exact Ev.bind (toNodeS_ev a ha hx) (Ev.bind (toStringS_ev b (by omega)) (Ev.now _))
theorem FnExactFsSame : laws_FnExactFsSame.Pure := by
  rintro a b a' b' ⟨ha, hx⟩ ⟨hb, hy⟩ ⟨ha', hx'⟩ ⟨hb', hy'⟩
  apply Ev.rounds (g := fun k => laws_FnExactFsSame.f k a b a' b')
  unfold laws_FnExactFsSame.f
  obtain ⟨r, er, hr1, hr⟩ := szFs_m a b 1048576 (by omega) (by omega) ha (fun x h => (hx x h).2.2.2.2.1) hb hy
  refine Ev.bind er ?_
  by_cases c : r < 0
  · exact ev_pos c (Ev.now _)
  · obtain ⟨h1, h2, h3⟩ := hr (by omega)
    refine ev_neg c (ev_shift ?_)
    simp only [laws_FnExactFsSame.j0]
    obtain ⟨r', er', hr1', hr'⟩ := szFs_m a' b' r (by omega) (by omega) ha' (fun x h => (hx' x h).2.2.2.2.1) hb' hy'
    refine Ev.bind er' ?_
    by_cases c' : r' < 0
    · exact ev_pos c' (Ev.now _)
    · obtain ⟨h1', h2', h3'⟩ := hr' (by omega)
      have ht := toFs_ev a b h1 h2 (by omega)
      have ht' := toFs_ev a' b' h1' h2' (by omega)
      have hlm : (a.map ofLNode).length ≤ 1048576 := by rw [List.length_map]; omega
      have hlm' : (a'.map ofLNode).length ≤ 1048576 := by rw [List.length_map]; omega
      have hlx : ∀ x ∈ a.map ofLNode, x.f4.length ≤ 1048576 := fun x h => by
        obtain ⟨y, hy2, rfl⟩ := List.mem_map.1 h
        exact h2 y hy2
      have hlx' : ∀ x ∈ a'.map ofLNode, x.f4.length ≤ 1048576 := fun x h => by
        obtain ⟨y, hy2, rfl⟩ := List.mem_map.1 h
        exact h2' y hy2
      generalize a.map ofLNode = d at ht hlm hlx
      generalize a'.map ofLNode = d' at ht' hlm' hlx'
      refine ev_neg c' (ev_shift ?_)
      simp only [laws_FnExactFsSame.j1]
      refine Ev.bind ht (Ev.bind ht' (Ev.bind (spec_FsSame_ev d b d' b' (by omega) hlx (by omega)) (Ev.bind ht (Ev.bind ht' (Ev.bind (impl_FsSame_ev d b d' b' (by omega) hlx (by omega)) (ev_neg (by simp) (ev_shift ?_)))))))
      simp only [laws_FnExactFsSame.j2]
      refine Ev.bind ht (Ev.bind (eqFs_refl d b (by omega) hlx (by omega)) (ev_pos rfl (ev_shift ?_)))
      simp only [laws_FnExactFsSame.j3]
      exact Ev.bind ht' (Ev.bind (eqFs_refl d' b' (by omega) hlx' (by omega)) (ev_pos rfl (Ev.now _)))
end Go.Proofs.Ytdobogfnnnflnaa.Pure
