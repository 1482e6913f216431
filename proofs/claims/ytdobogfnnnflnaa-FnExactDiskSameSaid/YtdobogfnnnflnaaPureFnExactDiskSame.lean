/- FnExactDiskSame: the law's function of the print answers true for every input within the row's bounds. Conditions: none but the bounds that the row itself gives. -/
import Derived.Test.YtdobogfnnnflnaaPFnExactDiskSamex5
import Derived.OpenShut
import Derived.Laws.BitsLemmas
namespace Go.Proofs.Ytdobogfnnnflnaa.Pure
open Go Go.RowKit Go.Proofs.Ytdobogfnnnflnaa.PFnExactDiskSame Go.Proofs.YtdobogfnnnflnaaW.PrintWords Go.Proofs.YtdobogfnnnflnaaW.PrintLast Go.Proofs.YtdobogfnnnflnaaW.PrintMore Go.Proofs.YtdobogfnnnflnaaW.PrintMore
set_option linter.unusedVariables false
set_option linter.unusedSimpArgs false

theorem eqPut_refl (a : Int) (s : ByteArray) : laws_eqPut.f a s a s = some true := by
  unfold laws_eqPut.f
  rw [if_pos rfl, if_pos rfl]
theorem ev_eq {α β : Type} {o : Option α} {a : α} {f : Nat → α → Option β} {r : β} (h : o = some a) (e : Ev (fun k => f k a) r) : Ev (fun k => o.bind (f k)) r := by
  subst h
  exact e
theorem ev_shift {α : Type} {g : Nat → Option α} {r : α} (h : Ev (fun k => g (k + 1)) r) : Ev g r := Ev.step (f := fun k => g (k + 1)) (fun _ => rfl) h
theorem ev_loop {ρ : Type} (L : Nat → Nat → Option ρ) (res : Nat → ρ) (n : Nat) (he : Ev (fun k => L (k + 1) n) (res n))
    (hs : ∀ i, i < n → Ev (fun k => L k (i + 1)) (res (i + 1)) → Ev (fun k => L (k + 1) i) (res i)) : ∀ i, i ≤ n → Ev (fun k => L k i) (res i) := by
  have key : ∀ d i, i + d = n → Ev (fun k => L k i) (res i) := by
    intro d
    induction d with
    | zero =>
      intro i h
      obtain rfl : i = n := by omega
      exact ev_shift he
    | succ d ih =>
      intro i h
      exact ev_shift (hs i (by omega) (ih (i + 1) (by omega)))
  intro i h
  exact key (n - i) i (by omega)
theorem ev_neg {α : Type} {c : Prop} [Decidable c] {f g : Nat → Option α} {r : α} (h : ¬ c) (e : Ev g r) : Ev (fun k => if c then f k else g k) r := by
  simpa only [if_neg h] using e
theorem ev_pos {α : Type} {c : Prop} [Decidable c] {f g : Nat → Option α} {r : α} (h : c) (e : Ev f r) : Ev (fun k => if c then f k else g k) r := by
  simpa only [if_pos h] using e
theorem wrap_nat {i : Nat} (h : i < 9223372036854775807) : wrap64 ((i : Int) + 1) = ((i + 1 : Nat) : Int) := by
  unfold wrap64
  omega
theorem eqPutS_refl (a : List S75) (h : a.length ≤ 140737488351232) : Ev (fun k => laws_eqPutS.f k a a) true := by
  unfold laws_eqPutS.f
  refine ev_pos rfl ?_
  have := ev_loop (fun k i => laws_eqPutS.l0 k a a (i : Int)) (fun _ => true) a.length ?_ ?_ 0 (Nat.zero_le _)
  · exact this
  · simp only [laws_eqPutS.l0]
    exact ev_neg (by omega) (Ev.now _)
  · intro i hi e
    simp only [laws_eqPutS.l0]
    refine ev_pos (by omega) (ev_pos (by omega) (ev_pos (by omega) (ev_eq (eqPut_refl _ _) (ev_pos rfl ?_))))
    rw [wrap_nat (by omega)]
    exact e
theorem drop_cons {α : Type} (d : α) (l : List α) (i : Nat) (h : i < l.length) : l.drop i = l.getD i d :: l.drop (i + 1) := by
  rw [List.drop_eq_getElem_cons h]
  simp [List.getD, h]
theorem drop_eq {α : Type} [DecidableEq α] (d : α) (a b : List α) (i : Nat) (ha : i < a.length) (hb : i < b.length) : (a.drop i = b.drop i) ↔ (a.getD i d = b.getD i d ∧ a.drop (i + 1) = b.drop (i + 1)) := by
  rw [drop_cons d a i ha, drop_cons d b i hb]
  simp
theorem ev_cast {α : Type} {g : Nat → Option α} {r r' : α} (h : Ev g r) (e : r = r') : Ev g r' := e ▸ h
theorem rdOf_nat {α : Type} (d : α) (xs : List α) (i : Nat) : rdOf d xs (i : Int) = xs.getD i d := by simp [rdOf]
theorem toList_inj {a b : ByteArray} : a.toList = b.toList ↔ a = b := by
  constructor
  · intro h
    have h' := h
    rw [ByteArray.toList_eq, ByteArray.toList_eq] at h'
    cases a
    cases b
    simp only [ByteArray.mk.injEq]
    exact Array.toList_inj.mp h'
  · intro h
    rw [h]
theorem eqStringS_ev (a b : List ByteArray) (h : a.length ≤ 140737488351232) : Ev (fun k => laws_eqStringS.f k a b) (decide (a = b)) := by
  unfold laws_eqStringS.f
  by_cases hl : a.length = b.length
  · refine ev_pos (by omega) ?_
    have := ev_loop (fun k i => laws_eqStringS.l0 k a b (i : Int)) (fun i => decide (a.drop i = b.drop i)) a.length ?_ ?_ 0 (Nat.zero_le _)
    · exact this
    · simp only [laws_eqStringS.l0]
      refine ev_neg (by omega) ?_
      refine ev_cast (Ev.now _) ?_
      rw [List.drop_length, hl, List.drop_length]
      simp
    · intro i hi e
      simp only [laws_eqStringS.l0]
      refine ev_pos (by omega) (ev_pos (by omega) (ev_pos (by omega) ?_))
      rw [wrap_nat (by omega), rdOf_nat, rdOf_nat]
      by_cases hc : a.getD i ByteArray.empty = b.getD i ByteArray.empty
      · refine ev_pos (toList_inj.mpr hc) (ev_cast e ?_)
        rw [decide_eq_decide, drop_eq ByteArray.empty a b i hi (by omega)]
        exact ⟨fun z => ⟨hc, z⟩, fun z => z.2⟩
      · refine ev_neg (fun z => hc (toList_inj.mp z)) (ev_cast (Ev.now _) ?_)
        symm
        rw [decide_eq_false_iff_not, drop_eq ByteArray.empty a b i hi (by omega)]
        exact fun z => hc z.1
  · refine ev_neg (by omega) (ev_cast (Ev.now _) ?_)
    symm
    rw [decide_eq_false_iff_not]
    exact fun z => hl (by rw [z])
theorem eqDisk_refl (a : List ByteArray) (b : List S75) (ha : a.length ≤ 140737488351232) (hb : b.length ≤ 140737488351232) : Ev (fun k => laws_eqDisk.f k a b a b) true := by
  unfold laws_eqDisk.f
  exact Ev.bind (eqStringS_ev a a ha) (ev_pos (by simp) (Ev.bind (eqPutS_refl b hb) (ev_pos rfl (Ev.now _))))
theorem and_dec (p q : Prop) [Decidable p] [Decidable q] (h : p) : decide q = decide (p ∧ q) := by
  rw [decide_eq_decide]
  exact ⟨fun z => ⟨h, z⟩, fun z => z.2⟩
theorem put_ext {p q : S75} (h0 : p.f0 = q.f0) (h1 : p.f1 = q.f1) : p = q := by
  cases p
  cases q
  simp only [S75.mk.injEq]
  exact ⟨h0, h1⟩
instance decPut : DecidableEq S75 := fun p q =>
  if h0 : p.f0 = q.f0 then (if h1 : p.f1 = q.f1 then isTrue (put_ext h0 h1) else isFalse (fun e => h1 (by rw [e]))) else isFalse (fun e => h0 (by rw [e]))
theorem put_ne (p q : S75) : (!(p.f0 == q.f0) || (!(p.f1.toList == q.f1.toList))) = !decide (p = q) := by /- decPut -/
  by_cases h : p = q
  · subst h
    simp
  · rw [decide_eq_false h]
    by_cases h0 : p.f0 = q.f0
    · have h1 : ¬ p.f1.toList = q.f1.toList := fun e => h (put_ext h0 (toList_inj.mp e))
      simp [h0, h1]
    · simp [h0]
theorem rdPut_nat (xs : List S75) (i : Nat) : rd_T75 xs (i : Int) = xs.getD i z75 := by simp [rd_T75]
theorem equalPut_ev (a b : List S75) (h : a.length ≤ 140737488351232) : Ev (fun k => slices_Equal_Put.f k a b) (decide (a = b)) := by /- decPut -/
  unfold slices_Equal_Put.f
  by_cases hl : a.length = b.length
  · refine ev_pos (by omega) ?_
    have := ev_loop (fun k i => slices_Equal_Put.l0 k a b (a.length : Int) (i : Int)) (fun i => decide (a.drop i = b.drop i)) a.length ?_ ?_ 0 (Nat.zero_le _)
    · exact this
    · simp only [slices_Equal_Put.l0]
      refine ev_neg (by omega) (ev_cast (Ev.now _) ?_)
      rw [List.drop_length, hl, List.drop_length]
      simp
    · intro i hi e
      simp only [slices_Equal_Put.l0]
      refine ev_pos (by omega) (ev_pos (by omega) (ev_pos (by omega) (ev_pos (by omega) ?_)))
      rw [wrap_nat (by omega), rdPut_nat, rdPut_nat, put_ne]
      rw [drop_cons z75 a i hi, drop_cons z75 b i (by omega)]
      by_cases hc : a.getD i z75 = b.getD i z75
      · rw [decide_eq_true hc]
        refine ev_neg (by simp) (ev_cast e ?_)
        rw [hc, decide_eq_decide]
        simp
      · rw [decide_eq_false hc]
        refine ev_pos (by simp) (ev_cast (Ev.now _) ?_)
        symm
        rw [decide_eq_false_iff_not]
        exact fun z => hc (List.cons.inj z).1
  · refine ev_neg (by omega) (ev_cast (Ev.now _) ?_)
    symm
    rw [decide_eq_false_iff_not]
    exact fun z => hl (by rw [z])
theorem equalString_ev (a b : List ByteArray) (h : a.length ≤ 140737488351232) : Ev (fun k => slices_Equal_string_string.f k a b) (decide (a = b)) := by
  unfold slices_Equal_string_string.f
  by_cases hl : a.length = b.length
  · refine ev_pos (by omega) ?_
    have := ev_loop (fun k i => slices_Equal_string_string.l0 k a b (a.length : Int) (i : Int)) (fun i => decide (a.drop i = b.drop i)) a.length ?_ ?_ 0 (Nat.zero_le _)
    · exact this
    · simp only [slices_Equal_string_string.l0]
      refine ev_neg (by omega) ?_
      refine ev_cast (Ev.now _) ?_
      rw [List.drop_length, hl, List.drop_length]
      simp
    · intro i hi e
      simp only [slices_Equal_string_string.l0]
      refine ev_pos (by omega) (ev_pos (by omega) (ev_pos (by omega) (ev_pos (by omega) ?_)))
      rw [wrap_nat (by omega), rdOf_nat, rdOf_nat]
      by_cases hc : a.getD i ByteArray.empty = b.getD i ByteArray.empty
      · refine ev_pos (toList_inj.mpr hc) (ev_cast e ?_)
        rw [decide_eq_decide, drop_eq ByteArray.empty a b i hi (by omega)]
        exact ⟨fun z => ⟨hc, z⟩, fun z => z.2⟩
      · refine ev_neg (fun z => hc (toList_inj.mp z)) (ev_cast (Ev.now _) ?_)
        symm
        rw [decide_eq_false_iff_not, drop_eq ByteArray.empty a b i hi (by omega)]
        exact fun z => hc z.1
  · refine ev_neg (by omega) (ev_cast (Ev.now _) ?_)
    symm
    rw [decide_eq_false_iff_not]
    exact fun z => hl (by rw [z])
theorem impl_DiskSame_ev (a : List ByteArray) (b : List S75) (a' : List ByteArray) (b' : List S75) (ha : a.length ≤ 140737488351232) (hb : b.length ≤ 140737488351232) : Ev (fun k => impl_DiskSame.f k a b a' b') (decide (a = a' ∧ b = b')) := by /- decPut -/
  unfold impl_DiskSame.f
  refine Ev.bind (equalString_ev a a' ha) ?_
  by_cases h : a = a'
  · rw [decide_eq_true h]
    exact ev_pos rfl (Ev.bind (equalPut_ev b b' hb) (ev_cast (Ev.now _) (and_dec _ _ h)))
  · rw [decide_eq_false h]
    refine ev_neg (by simp) (ev_cast (Ev.now _) ?_)
    symm
    rw [decide_eq_false_iff_not]
    exact fun z => h z.1
def ofLPut (x : S93) : S75 := ⟨x.f0, x.f1⟩
theorem spec_l3Puts_ev (a b : List S75) (h : a.length ≤ 140737488351232) : Ev (fun k => spec_l3Puts.f k a b) (decide (a = b)) := by /- decPut -/
  unfold spec_l3Puts.f
  by_cases hl : a.length = b.length
  · refine ev_pos (by omega) ?_
    have := ev_loop (fun k i => spec_l3Puts.l0 k a b (i : Int)) (fun i => decide (a.drop i = b.drop i)) a.length ?_ ?_ 0 (Nat.zero_le _)
    · exact this
    · simp only [spec_l3Puts.l0]
      refine ev_neg (by omega) (ev_cast (Ev.now _) ?_)
      rw [List.drop_length, hl, List.drop_length]
      simp
    · intro i hi e
      simp only [spec_l3Puts.l0]
      refine ev_pos (by omega) (ev_pos (by omega) (ev_pos (by omega) ?_))
      rw [wrap_nat (by omega), rdPut_nat, rdPut_nat, put_ne]
      rw [drop_cons z75 a i hi, drop_cons z75 b i (by omega)]
      by_cases hc : a.getD i z75 = b.getD i z75
      · rw [decide_eq_true hc]
        refine ev_neg (by simp) (ev_cast e ?_)
        rw [hc, decide_eq_decide]
        simp
      · rw [decide_eq_false hc]
        refine ev_pos (by simp) (ev_cast (Ev.now _) ?_)
        symm
        rw [decide_eq_false_iff_not]
        exact fun z => hc (List.cons.inj z).1
  · refine ev_neg (by omega) (ev_cast (Ev.now _) ?_)
    symm
    rw [decide_eq_false_iff_not]
    exact fun z => hl (by rw [z])
theorem spec_texts_ev (a b : List ByteArray) (h : a.length ≤ 140737488351232) : Ev (fun k => spec_l1Texts.f k a b) (decide (a = b)) := by
  unfold spec_l1Texts.f
  by_cases hl : a.length = b.length
  · refine ev_pos (by omega) ?_
    have := ev_loop (fun k i => spec_l1Texts.l0 k a b (i : Int)) (fun i => decide (a.drop i = b.drop i)) a.length ?_ ?_ 0 (Nat.zero_le _)
    · exact this
    · simp only [spec_l1Texts.l0]
      refine ev_neg (by omega) ?_
      refine ev_cast (Ev.now _) ?_
      rw [List.drop_length, hl, List.drop_length]
      simp
    · intro i hi e
      simp only [spec_l1Texts.l0]
      refine ev_pos (by omega) (ev_pos (by omega) (ev_pos (by omega) ?_))
      rw [wrap_nat (by omega), rdOf_nat, rdOf_nat]
      by_cases hc : a.getD i ByteArray.empty = b.getD i ByteArray.empty
      · refine ev_pos (toList_inj.mpr hc) (ev_cast e ?_)
        rw [decide_eq_decide, drop_eq ByteArray.empty a b i hi (by omega)]
        exact ⟨fun z => ⟨hc, z⟩, fun z => z.2⟩
      · refine ev_neg (fun z => hc (toList_inj.mp z)) (ev_cast (Ev.now _) ?_)
        symm
        rw [decide_eq_false_iff_not, drop_eq ByteArray.empty a b i hi (by omega)]
        exact fun z => hc z.1
  · refine ev_neg (by omega) (ev_cast (Ev.now _) ?_)
    symm
    rw [decide_eq_false_iff_not]
    exact fun z => hl (by rw [z])
theorem spec_DiskSame_ev (a : List ByteArray) (b : List S75) (a' : List ByteArray) (b' : List S75) (ha : a.length ≤ 140737488351232) (hb : b.length ≤ 140737488351232) : Ev (fun k => spec_DiskSame.f k a b a' b') (decide (a = a' ∧ b = b')) := by /- decPut -/
  unfold spec_DiskSame.f
  refine Ev.bind (spec_texts_ev a a' ha) ?_
  by_cases h : a = a'
  · rw [decide_eq_true h]
    exact ev_pos rfl (Ev.bind (spec_l3Puts_ev b b' hb) (ev_cast (Ev.now _) (and_dec _ _ h)))
  · rw [decide_eq_false h]
    refine ev_neg (by simp) (ev_cast (Ev.now _) ?_)
    symm
    rw [decide_eq_false_iff_not]
    exact fun z => h z.1
/-- The letters of all texts. -/
def letters (l : List ByteArray) : Nat := (l.map ByteArray.size).sum
/-- What is left of a measure, behind a row of texts: below zero, or the row is that short. -/
def leftS (l : List ByteArray) (left : Int) : Int := if (l.length : Int) + letters l ≤ left then left - l.length - letters l else -1
theorem getD_mem {α : Type} (d : α) (l : List α) (i : Nat) (h : i < l.length) : l.getD i d ∈ l := by
  simp [List.getD, h]
theorem rdLPut_nat (xs : List S93) (i : Nat) : rd_T93 xs (i : Int) = xs.getD i z93 := by simp [rd_T93]
theorem wrap_in {x : Int} (h0 : -9223372036854775808 ≤ x) (h1 : x ≤ 9223372036854775807) : wrap64 x = x := by
  unfold wrap64
  omega
theorem szPut_eq (a : Int) (s : ByteArray) (m : Int) (h0 : 0 ≤ m) (h1 : m ≤ 1048576) (hs : s.size ≤ maxLen) : laws_szPut.f a s m = some (if m - (s.size : Int) < 0 then -1 else m - (s.size : Int)) := by
  unfold maxLen at hs
  unfold laws_szPut.f
  rw [wrap_in (by omega) (by omega)]
  split <;> rfl
theorem szPutS_ev (l : List S93) (m : Int) (h0 : 0 ≤ m) (h1 : m ≤ 1048576) (hl : l.length ≤ maxLen) (hx : ∀ x ∈ l, x.f1.size ≤ maxLen) :
    ∃ r : Int, Ev (fun k => laws_szPutS.f k l m) r ∧ r ≤ m ∧ (0 ≤ r → (l.length : Int) ≤ m ∧ ∀ x ∈ l, (x.f1.size : Int) ≤ m) := by
  have hl' : l.length ≤ 9223372036854775807 := hl
  unfold laws_szPutS.f
  by_cases c : m - (l.length : Int) < 0
  · refine ⟨-1, ?_, by omega, by omega⟩
    rw [wrap_in (by omega) (by omega)]
    exact ev_pos c (Ev.now _)
  · rw [wrap_in (by omega) (by omega)]
    have key : ∀ (d i : Nat) (x : Int), i + d = l.length → 0 ≤ x → x ≤ m → (∀ j, j < i → ((l.getD j z93).f1.size : Int) ≤ m) →
        ∃ r : Int, Ev (fun k => laws_szPutS.l0 k l x (i : Int)) r ∧ r ≤ m ∧ (0 ≤ r → ∀ j, j < l.length → ((l.getD j z93).f1.size : Int) ≤ m) := by
      intro d
      induction d with
      | zero =>
        intro i x hi hx0 hx1 hj
        refine ⟨x, ev_shift ?_, hx1, fun _ => by rw [show l.length = i from by omega]; exact hj⟩
        simp only [laws_szPutS.l0]
        exact ev_neg (by omega) (Ev.now _)
      | succ d ih =>
        intro i x hi hx0 hx1 hj
        have hm := hx _ (getD_mem z93 l i (by omega))
        have hs := szPut_eq (l.getD i z93).f0 (l.getD i z93).f1 x hx0 (by omega) hm
        by_cases c2 : x - ((l.getD i z93).f1.size : Int) < 0
        · rw [if_pos c2] at hs
          refine ⟨-1, ev_shift ?_, by omega, by omega⟩
          simp only [laws_szPutS.l0]
          refine ev_pos (by omega) (ev_pos (by omega) ?_)
          simp only [rdLPut_nat, hs, Option.bind_some]
          exact ev_pos (by omega) (Ev.now _)
        · rw [if_neg c2] at hs
          obtain ⟨r, e, hr1, hr2⟩ := ih (i + 1) (x - ((l.getD i z93).f1.size : Int)) (by omega) (by omega) (by omega) (fun j hji => by
            by_cases e : j = i
            · subst e
              omega
            · exact hj j (by omega))
          refine ⟨r, ev_shift ?_, hr1, hr2⟩
          simp only [laws_szPutS.l0]
          refine ev_pos (by omega) (ev_pos (by omega) ?_)
          simp only [rdLPut_nat, hs, Option.bind_some]
          rw [wrap_nat (by omega)]
          exact ev_neg (by omega) e
    obtain ⟨r, e, hr1, hr2⟩ := key l.length 0 (m - (l.length : Int)) (by omega) (by omega) (by omega) (fun j hj => by omega)
    refine ⟨r, ev_neg c e, hr1, fun hr => ⟨by omega, fun x hx2 => ?_⟩⟩
    obtain ⟨j, hj, rfl⟩ := List.mem_iff_getElem.1 hx2
    have := hr2 hr j hj
    simpa [List.getD, hj] using this
theorem letters_cons (x : ByteArray) (l : List ByteArray) : letters (x :: l) = x.size + letters l := rfl
theorem szStringS_l (l : List ByteArray) (hl : l.length ≤ 9223372036854775807) (hx : ∀ x ∈ l, x.size ≤ 9223372036854775807) (d : Nat) : ∀ (i : Nat) (left : Int), i + d = l.length → 0 ≤ left → left ≤ 9223372036854775807 →
    Ev (fun k => laws_szStringS.l0 k l left (i : Int)) (if (letters (l.drop i) : Int) ≤ left then left - letters (l.drop i) else -1) := by
  induction d with
  | zero =>
    intro i left hi h0 h1
    apply ev_shift
    simp only [laws_szStringS.l0]
    refine ev_neg (by omega) (ev_cast (Ev.now _) ?_)
    rw [List.drop_eq_nil_of_le (by omega), show letters [] = 0 from rfl, if_pos (by omega)]
    omega
  | succ d ih =>
    intro i left hi h0 h1
    have hs := hx _ (getD_mem ByteArray.empty l i (by omega))
    apply ev_shift
    simp only [laws_szStringS.l0]
    rw [rdOf_nat, drop_cons ByteArray.empty l i (by omega), letters_cons]
    generalize hz : (l.getD i ByteArray.empty).size = z at hs
    rw [wrap_in (by omega) (by omega)]
    refine ev_pos (by omega) (ev_pos (by omega) ?_)
    by_cases c : left - (z : Int) < 0
    · refine ev_pos c (ev_cast (Ev.now _) ?_)
      rw [if_neg (by omega)]
    · rw [wrap_nat (by omega)]
      refine ev_neg c (ev_cast (ih (i + 1) _ (by omega) (by omega) (by omega)) ?_)
      by_cases c2 : (letters (l.drop (i + 1)) : Int) ≤ left - z
      · rw [if_pos c2, if_pos (by omega)]
        omega
      · rw [if_neg c2, if_neg (by omega)]
theorem szStringS_ev (l : List ByteArray) (hl : l.length ≤ 9223372036854775807) (hx : ∀ x ∈ l, x.size ≤ 9223372036854775807) (left : Int) (h0 : 0 ≤ left) (h1 : left ≤ 9223372036854775807) :
    Ev (fun k => laws_szStringS.f k l left) (leftS l left) := by
  unfold laws_szStringS.f leftS
  rw [wrap_in (by omega) (by omega)]
  by_cases c : left - (l.length : Int) < 0
  · refine ev_pos c (ev_cast (Ev.now _) ?_)
    rw [if_neg (by omega)]
  · refine ev_neg c (ev_cast (szStringS_l l hl hx l.length 0 _ (by omega) (by omega) (by omega)) ?_)
    rw [List.drop_zero]
    by_cases c2 : (l.length : Int) + letters l ≤ left
    · rw [if_pos c2, if_pos (by omega)]
    · rw [if_neg c2, if_neg (by omega)]
theorem szDisk_m (a : List ByteArray) (b : List S93) (m : Int) (h0 : 0 ≤ m) (h1 : m ≤ 1048576) (ha : a.length ≤ maxLen) (hx : ∀ x ∈ a, x.size ≤ maxLen) (hb : b.length ≤ maxLen) (hy : ∀ x ∈ b, x.f1.size ≤ maxLen) :
    ∃ r : Int, Ev (fun k => laws_szDisk.f k a b m) r ∧ r ≤ m ∧ (0 ≤ r → a.length + letters a ≤ 1048576 ∧ b.length ≤ 1048576 ∧ ∀ x ∈ b, x.f1.size ≤ 1048576) := by
  have hm : maxLen ≤ 9223372036854775807 := by decide
  have h1 := szStringS_ev a (by omega) (fun x h => by have := hx x h; omega) m (by omega) (by omega)
  unfold laws_szDisk.f
  unfold leftS at h1
  by_cases c : (a.length : Int) + letters a ≤ m
  · rw [if_pos c] at h1
    obtain ⟨r, er, hr1, hr2⟩ := szPutS_ev b (m - (a.length : Int) - (letters a : Int)) (by omega) (by omega) hb hy
    by_cases c2 : r < 0
    · exact ⟨-1, Ev.bind h1 (ev_neg (by omega) (Ev.bind er (ev_pos c2 (Ev.now _)))), by omega, by omega⟩
    · obtain ⟨h3, h4⟩ := hr2 (by omega)
      refine ⟨r, Ev.bind h1 (ev_neg (by omega) (Ev.bind er (ev_neg c2 (Ev.now _)))), by omega, fun _ => ⟨by omega, by omega, fun x hx2 => ?_⟩⟩
      have := h4 x hx2
      omega
  · rw [if_neg c] at h1
    exact ⟨-1, Ev.bind h1 (ev_pos (by omega) (Ev.now _)), by omega, by omega⟩
theorem copy_step {α : Type} (d : α) (l : List α) (i : Nat) (h : i < l.length) : (l.take i ++ List.replicate (l.length - i) d).set i (l.getD i d) = l.take (i + 1) ++ List.replicate (l.length - (i + 1)) d := by
  have hlen : (l.take i).length = i := by simp; omega
  rw [List.set_append_right _ _ (by omega), hlen, Nat.sub_self]
  obtain ⟨m, hm⟩ : ∃ m, l.length - i = m + 1 := ⟨l.length - i - 1, by omega⟩
  rw [hm, List.replicate_succ, List.set_cons_zero, List.take_succ_eq_append_getElem h, List.append_assoc]
  have : l.length - (i + 1) = m := by omega
  rw [this]
  simp [List.getD, h]
theorem ev_some {α β : Type} {a : α} {f : Nat → α → Option β} {r : β} (e : Ev (fun k => f k a) r) : Ev (fun k => (some a).bind (f k)) r := e
theorem toPutS_ev (l : List S93) (h : l.length ≤ 1048576) : Ev (fun k => laws_toPutS.f k l) (l.map ofLPut) := by
  unfold laws_toPutS.f
  refine ev_pos (by omega) (ev_pos (by omega) ?_)
  have := ev_loop (fun k i => laws_toPutS.l0 k l ((l.map ofLPut).take i ++ List.replicate ((l.map ofLPut).length - i) z75) (i : Int)) (fun _ => l.map ofLPut) l.length ?_ ?_ 0 (Nat.zero_le _)
  · simpa using this
  · simp only [laws_toPutS.l0]
    refine ev_neg (by omega) ?_
    have e1 : (l.map ofLPut).length - l.length = 0 := by rw [List.length_map]; omega
    have e2 : (l.map ofLPut).take l.length = l.map ofLPut := List.take_of_length_le (by rw [List.length_map]; omega)
    rw [e1, e2, List.replicate_zero, List.append_nil]
    exact Ev.now _
  · intro i hi e
    simp only [laws_toPutS.l0, laws_toPut.f]
    refine ev_pos (by omega) (ev_pos (by omega) (ev_some (ev_pos (by simp; omega) ?_)))
    have hi2 : i < (l.map ofLPut).length := by rw [List.length_map]; exact hi
    have hs := copy_step z75 (l.map ofLPut) i hi2
    have hg : (l.map ofLPut).getD i z75 = ⟨(l.getD i z93).f0, (l.getD i z93).f1⟩ := by simp [List.getD, hi, ofLPut]
    rw [hg] at hs
    dsimp only
    simp only [rdLPut_nat]
    rw [wrap_nat (by omega), Int.toNat_natCast, hs]
    exact e
theorem toStringS_ev (l : List ByteArray) (h : l.length ≤ 1099511627776) : Ev (fun k => laws_toStringS.f k l) l := by
  unfold laws_toStringS.f
  refine ev_pos (by omega) (ev_pos (by omega) ?_)
  have := ev_loop (fun k i => laws_toStringS.l0 k l (l.take i ++ List.replicate (l.length - i) (⟨#[]⟩ : ByteArray)) (i : Int)) (fun _ => l) l.length ?_ ?_ 0 (Nat.zero_le _)
  · simpa using this
  · simp only [laws_toStringS.l0]
    refine ev_neg (by omega) (ev_cast (Ev.now _) ?_)
    simp
  · intro i hi e
    simp only [laws_toStringS.l0]
    refine ev_pos (by omega) (ev_pos (by omega) (ev_pos (by simp; omega) ?_))
    rw [wrap_nat (by omega), rdOf_nat, Int.toNat_natCast]
    rw [show (⟨#[]⟩ : ByteArray) = ByteArray.empty from rfl] at e ⊢
    rw [copy_step ByteArray.empty l i hi]
    exact e
theorem toDisk_ev (a : List ByteArray) (b : List S93) (ha : a.length ≤ 1048576) (hb : b.length ≤ 1048576) : Ev (fun k => laws_toDisk.f k a b) (a, b.map ofLPut) := by
  unfold laws_toDisk.f
  exact Ev.bind (toStringS_ev a (by omega)) (Ev.bind (toPutS_ev b hb) (Ev.now _))
theorem FnExactDiskSame : laws_FnExactDiskSame.Pure := by
  rintro a b a' b' ⟨ha, hx⟩ ⟨hb, hy⟩ ⟨ha', hx'⟩ ⟨hb', hy'⟩
  apply Ev.rounds (g := fun k => laws_FnExactDiskSame.f k a b a' b')
  unfold laws_FnExactDiskSame.f
  obtain ⟨r, er, hr1, hr⟩ := szDisk_m a b 1048576 (by omega) (by omega) ha hx hb (fun x h => (hy x h).2)
  refine Ev.bind er ?_
  by_cases c : r < 0
  · exact ev_pos c (Ev.now _)
  · obtain ⟨h1, h2, h3⟩ := hr (by omega)
    refine ev_neg c (ev_shift ?_)
    simp only [laws_FnExactDiskSame.j0]
    obtain ⟨r', er', hr1', hr'⟩ := szDisk_m a' b' r (by omega) (by omega) ha' hx' hb' (fun x h => (hy' x h).2)
    refine Ev.bind er' ?_
    by_cases c' : r' < 0
    · exact ev_pos c' (Ev.now _)
    · obtain ⟨h1', h2', h3'⟩ := hr' (by omega)
      have ht := toDisk_ev a b (by omega) h2
      have ht' := toDisk_ev a' b' (by omega) h2'
      have hlm : (b.map ofLPut).length ≤ 1048576 := by rw [List.length_map]; omega
      have hlm' : (b'.map ofLPut).length ≤ 1048576 := by rw [List.length_map]; omega
      generalize b.map ofLPut = d at ht hlm
      generalize b'.map ofLPut = d' at ht' hlm'
      refine ev_neg c' (ev_shift ?_)
      simp only [laws_FnExactDiskSame.j1]
      refine Ev.bind ht (Ev.bind ht' (Ev.bind (spec_DiskSame_ev a d a' d' (by omega) (by omega)) (Ev.bind ht (Ev.bind ht' (Ev.bind (impl_DiskSame_ev a d a' d' (by omega) (by omega)) (ev_neg (by simp) (ev_shift ?_)))))))
      simp only [laws_FnExactDiskSame.j2]
      refine Ev.bind ht (Ev.bind (eqDisk_refl a d (by omega) (by omega)) (ev_pos rfl (ev_shift ?_)))
      simp only [laws_FnExactDiskSame.j3]
      exact Ev.bind ht' (Ev.bind (eqDisk_refl a' d' (by omega) (by omega)) (ev_pos rfl (Ev.now _)))
end Go.Proofs.Ytdobogfnnnflnaa.Pure
