/- FnFlushed: the law's function of the print answers true for every input within the row's bounds. Conditions: none but the bounds that the row itself gives. -/
import Derived.Test.YtgmpdkefegofhaaJFnFlushed
import Derived.Test.YtgmpdkefegofhaaPFnFlushedx9
import Derived.OpenShut
import Derived.Laws.BitsLemmas
import Derived.Test.YtgmpdkefegofhaaWSized
import Derived.Test.YtgmpdkefegofhaaWSized
namespace Go.Proofs.Ytgmpdkefegofhaa.Pure
open Go Go.RowKit Go.Proofs.Ytgmpdkefegofhaa.PFnFlushed Go.Proofs.YtgmpdkefegofhaaW.PrintWords Go.Proofs.YtgmpdkefegofhaaW.PrintLast Go.Proofs.YtgmpdkefegofhaaW.PrintMore Go.Proofs.YtgmpdkefegofhaaW.PrintMore Go.Proofs.YtgmpdkefegofhaaW.PrintMore
set_option linter.unusedVariables false
set_option linter.unusedSimpArgs false

/-- A write that a disk of n sectors can bear. -/
def putGood (n : Nat) (p : S65) : Bool := decide (0 ≤ p.f0 ∧ p.f0 ≤ (n : Int) - 1) && decide (p.f1.size ≤ 90)
def diskGood (a : List ByteArray) (b : List S65) : Bool := decide (a.length ≤ 120) && (decide (b.length ≤ 400) && (a.all (fun s => decide (s.size ≤ 90)) && b.all (putGood a.length)))
theorem diskGood_split {a : List ByteArray} {b : List S65} (h : diskGood a b = true) : a.length ≤ 120 ∧ b.length ≤ 400 ∧ (∀ s ∈ a, s.size ≤ 90) ∧ ∀ p ∈ b, 0 ≤ p.f0 ∧ p.f0 ≤ (a.length : Int) - 1 ∧ p.f1.size ≤ 90 := by
  unfold diskGood at h
  rw [Bool.and_eq_true, Bool.and_eq_true, Bool.and_eq_true] at h
  obtain ⟨h1, h2, h3, h4⟩ := h
  refine ⟨of_decide_eq_true h1, of_decide_eq_true h2, fun s hs => of_decide_eq_true (List.all_eq_true.mp h3 s hs), fun p hp => ?_⟩
  have := List.all_eq_true.mp h4 p hp
  unfold putGood at this
  rw [Bool.and_eq_true] at this
  exact ⟨(of_decide_eq_true this.1).1, (of_decide_eq_true this.1).2, of_decide_eq_true this.2⟩
/-- Writes, one behind the other. -/
def writes (b : List S65) (a : List ByteArray) : List ByteArray := b.foldl (fun s p => s.set p.f0.toNat p.f1) a
theorem writes_length (b : List S65) : ∀ a, (writes b a).length = a.length := by
  induction b with
  | nil => intro a; rfl
  | cons p b ih =>
    intro a
    show (writes b (a.set p.f0.toNat p.f1)).length = a.length
    rw [ih, List.length_set]
theorem writes_small (b : List S65) : ∀ a : List ByteArray, (∀ s ∈ a, s.size ≤ 90) → (∀ p ∈ b, p.f1.size ≤ 90) → ∀ s ∈ writes b a, s.size ≤ 90 := by
  induction b with
  | nil => intro a ha _; exact ha
  | cons p b ih =>
    intro a ha hb
    show ∀ s ∈ writes b (a.set p.f0.toNat p.f1), s.size ≤ 90
    refine ih _ (fun s hs => ?_) (fun q hq => hb q (List.mem_cons_of_mem _ hq))
    rcases List.mem_or_eq_of_mem_set hs with h | h
    · exact ha s h
    · rw [h]
      exact hb p (List.mem_cons_self ..)
theorem diskGood_writes {a : List ByteArray} {b : List S65} (h : diskGood a b = true) : diskGood (writes b a) [] = true := by
  obtain ⟨h1, h2, h3, h4⟩ := diskGood_split h
  have hs := writes_small b a h3 (fun p hp => (h4 p hp).2.2)
  unfold diskGood
  rw [Bool.and_eq_true, Bool.and_eq_true, Bool.and_eq_true]
  refine ⟨decide_eq_true (by rw [writes_length]; exact h1), by simp, ?_, by simp⟩
  rw [List.all_eq_true]
  exact fun s hm => decide_eq_true (hs s hm)
theorem ev_cast {α : Type} {g : Nat → Option α} {r r' : α} (h : Ev g r) (e : r = r') : Ev g r' := e ▸ h
theorem ev_pos {α : Type} {c : Prop} [Decidable c] {f g : Nat → Option α} {r : α} (h : c) (e : Ev f r) : Ev (fun k => if c then f k else g k) r := by
  simpa only [if_pos h] using e
theorem ev_shift {α : Type} {g : Nat → Option α} {r : α} (h : Ev (fun k => g (k + 1)) r) : Ev g r := Ev.step (f := fun k => g (k + 1)) (fun _ => rfl) h
/-- Writes of which some are kept. -/
def fallGo : List S65 → List Bool → List ByteArray → List ByteArray
  | [], _, a => a
  | _ :: _, [], a => a
  | p :: b, c :: k, a => fallGo b k (if c = true then a.set p.f0.toNat p.f1 else a)
def fallen (a : List ByteArray) (b : List S65) (k : List Bool) : List ByteArray × List S65 := if diskGood a b = true then (fallGo b k a, []) else (a, b)
def flushed (a : List ByteArray) (b : List S65) : List ByteArray × List S65 := if diskGood a b = true then (writes b a, []) else (a, b)
theorem and_dec (p q : Prop) [Decidable p] [Decidable q] (h : p) : decide q = decide (p ∧ q) := by
  rw [decide_eq_decide]
  exact ⟨fun z => ⟨h, z⟩, fun z => z.2⟩
theorem put_ext {p q : S65} (h0 : p.f0 = q.f0) (h1 : p.f1 = q.f1) : p = q := by
  cases p
  cases q
  simp only [S65.mk.injEq]
  exact ⟨h0, h1⟩
instance decPut : DecidableEq S65 := fun p q =>
  if h0 : p.f0 = q.f0 then (if h1 : p.f1 = q.f1 then isTrue (put_ext h0 h1) else isFalse (fun e => h1 (by rw [e]))) else isFalse (fun e => h0 (by rw [e]))
theorem drop_cons {α : Type} (d : α) (l : List α) (i : Nat) (h : i < l.length) : l.drop i = l.getD i d :: l.drop (i + 1) := by
  rw [List.drop_eq_getElem_cons h]
  simp [List.getD, h]
theorem ev_loop {ρ : Type} (L : Nat → Nat → Option ρ) (res : Nat → ρ) (n : Nat) (he : Ev (fun k => L (k + 1) n) (res n))
    (hs : ∀ i, i < n → Ev (fun k => L k (i + 1)) (res (i + 1)) → Ev (fun k => L (k + 1) i) (res i)) : ∀ i, i ≤ n → Ev (fun k => L k i) (res i) := by
  have key : ∀ d i, i + d = n → Ev (fun k => L k i) (res i) := by
    intro d
    induction d with
    | zero =>
      intro i h
      obtain rfl : i = n := by omega
      exact ev_shift he
    | succ d ih =>
      intro i h
      exact ev_shift (hs i (by omega) (ih (i + 1) (by omega)))
  intro i h
  exact key (n - i) i (by omega)
theorem ev_neg {α : Type} {c : Prop} [Decidable c] {f g : Nat → Option α} {r : α} (h : ¬ c) (e : Ev g r) : Ev (fun k => if c then f k else g k) r := by
  simpa only [if_neg h] using e
theorem toList_inj {a b : ByteArray} : a.toList = b.toList ↔ a = b := by
  constructor
  · intro h
    have h' := h
    rw [ByteArray.toList_eq, ByteArray.toList_eq] at h'
    cases a
    cases b
    simp only [ByteArray.mk.injEq]
    exact Array.toList_inj.mp h'
  · intro h
    rw [h]
theorem put_ne (p q : S65) : (!(p.f0 == q.f0) || (!(p.f1.toList == q.f1.toList))) = !decide (p = q) := by /- decPut -/
  by_cases h : p = q
  · subst h
    simp
  · rw [decide_eq_false h]
    by_cases h0 : p.f0 = q.f0
    · have h1 : ¬ p.f1.toList = q.f1.toList := fun e => h (put_ext h0 (toList_inj.mp e))
      simp [h0, h1]
    · simp [h0]
theorem rdPut_nat (xs : List S65) (i : Nat) : rd_T65 xs (i : Int) = xs.getD i z65 := by simp [rd_T65]
theorem wrap_nat {i : Nat} (h : i < 9223372036854775807) : wrap64 ((i : Int) + 1) = ((i + 1 : Nat) : Int) := by
  unfold wrap64
  omega
theorem equalPut_ev (a b : List S65) (h : a.length ≤ 140737488351232) : Ev (fun k => slices_Equal_Put.f k a b) (decide (a = b)) := by /- decPut -/
  unfold slices_Equal_Put.f
  by_cases hl : a.length = b.length
  · refine ev_pos (by omega) ?_
    have := ev_loop (fun k i => slices_Equal_Put.l0 k a b (a.length : Int) (i : Int)) (fun i => decide (a.drop i = b.drop i)) a.length ?_ ?_ 0 (Nat.zero_le _)
    · exact this
    · simp only [slices_Equal_Put.l0]
      refine ev_neg (by omega) (ev_cast (Ev.now _) ?_)
      rw [List.drop_length, hl, List.drop_length]
      simp
    · intro i hi e
      simp only [slices_Equal_Put.l0]
      refine ev_pos (by omega) (ev_pos (by omega) (ev_pos (by omega) (ev_pos (by omega) ?_)))
      rw [wrap_nat (by omega), rdPut_nat, rdPut_nat, put_ne]
      rw [drop_cons z65 a i hi, drop_cons z65 b i (by omega)]
      by_cases hc : a.getD i z65 = b.getD i z65
      · rw [decide_eq_true hc]
        refine ev_neg (by simp) (ev_cast e ?_)
        rw [hc, decide_eq_decide]
        simp
      · rw [decide_eq_false hc]
        refine ev_pos (by simp) (ev_cast (Ev.now _) ?_)
        symm
        rw [decide_eq_false_iff_not]
        exact fun z => hc (List.cons.inj z).1
  · refine ev_neg (by omega) (ev_cast (Ev.now _) ?_)
    symm
    rw [decide_eq_false_iff_not]
    exact fun z => hl (by rw [z])
theorem drop_eq {α : Type} [DecidableEq α] (d : α) (a b : List α) (i : Nat) (ha : i < a.length) (hb : i < b.length) : (a.drop i = b.drop i) ↔ (a.getD i d = b.getD i d ∧ a.drop (i + 1) = b.drop (i + 1)) := by
  rw [drop_cons d a i ha, drop_cons d b i hb]
  simp
theorem rdOf_nat {α : Type} (d : α) (xs : List α) (i : Nat) : rdOf d xs (i : Int) = xs.getD i d := by simp [rdOf]
theorem equalString_ev (a b : List ByteArray) (h : a.length ≤ 140737488351232) : Ev (fun k => slices_Equal_string_string.f k a b) (decide (a = b)) := by
  unfold slices_Equal_string_string.f
  by_cases hl : a.length = b.length
  · refine ev_pos (by omega) ?_
    have := ev_loop (fun k i => slices_Equal_string_string.l0 k a b (a.length : Int) (i : Int)) (fun i => decide (a.drop i = b.drop i)) a.length ?_ ?_ 0 (Nat.zero_le _)
    · exact this
    · simp only [slices_Equal_string_string.l0]
      refine ev_neg (by omega) ?_
      refine ev_cast (Ev.now _) ?_
      rw [List.drop_length, hl, List.drop_length]
      simp
    · intro i hi e
      simp only [slices_Equal_string_string.l0]
      refine ev_pos (by omega) (ev_pos (by omega) (ev_pos (by omega) (ev_pos (by omega) ?_)))
      rw [wrap_nat (by omega), rdOf_nat, rdOf_nat]
      by_cases hc : a.getD i ByteArray.empty = b.getD i ByteArray.empty
      · refine ev_pos (toList_inj.mpr hc) (ev_cast e ?_)
        rw [decide_eq_decide, drop_eq ByteArray.empty a b i hi (by omega)]
        exact ⟨fun z => ⟨hc, z⟩, fun z => z.2⟩
      · refine ev_neg (fun z => hc (toList_inj.mp z)) (ev_cast (Ev.now _) ?_)
        symm
        rw [decide_eq_false_iff_not, drop_eq ByteArray.empty a b i hi (by omega)]
        exact fun z => hc z.1
  · refine ev_neg (by omega) (ev_cast (Ev.now _) ?_)
    symm
    rw [decide_eq_false_iff_not]
    exact fun z => hl (by rw [z])
theorem impl_DiskSame_ev (a : List ByteArray) (b : List S65) (a' : List ByteArray) (b' : List S65) (ha : a.length ≤ 140737488351232) (hb : b.length ≤ 140737488351232) : Ev (fun k => impl_DiskSame.f k a b a' b') (decide (a = a' ∧ b = b')) := by /- decPut -/
  unfold impl_DiskSame.f
  refine Ev.bind (equalString_ev a a' ha) ?_
  by_cases h : a = a'
  · rw [decide_eq_true h]
    exact ev_pos rfl (Ev.bind (equalPut_ev b b' hb) (ev_cast (Ev.now _) (and_dec _ _ h)))
  · rw [decide_eq_false h]
    refine ev_neg (by simp) (ev_cast (Ev.now _) ?_)
    symm
    rw [decide_eq_false_iff_not]
    exact fun z => h z.1
theorem ev_eq {α β : Type} {o : Option α} {a : α} {f : Nat → α → Option β} {r : β} (h : o = some a) (e : Ev (fun k => f k a) r) : Ev (fun k => o.bind (f k)) r := by
  subst h
  exact e
theorem wrap_in {x : Int} (h0 : -9223372036854775808 ≤ x) (h1 : x ≤ 9223372036854775807) : wrap64 x = x := by
  unfold wrap64
  omega
theorem diskOk_good (a : List ByteArray) (b : List S65) (ha : a.length ≤ 140737488351232) : diskOk a b = diskGood a b := by
  unfold diskOk diskGood
  congr 3
  · rw [List.not_any_eq_all_not]
    congr 1
    funext s
    unfold longText
    rw [Bool.not_not, decide_eq_decide]
    omega
  · rw [List.not_any_eq_all_not]
    congr 1
    funext p
    unfold impl_DiskOk_2.f putGood
    rw [Bool.not_not, wrap_in (by omega) (by omega)]
    congr 1
    rw [decide_eq_decide]
    omega
theorem impl_DiskOk_eq (a : List ByteArray) (b : List S65) (ha : a.length ≤ 140737488351232) : impl_DiskOk.f a b = some (diskGood a b) := by
  rw [← diskOk_good a b ha]
  rfl
theorem fallGo_drop (b : List S65) (k : List Bool) (a : List ByteArray) (i : Nat) (hb : i < b.length) (hk : i < k.length) : fallGo (b.drop i) (k.drop i) a = fallGo (b.drop (i + 1)) (k.drop (i + 1)) (if k.getD i false = true then a.set (b.getD i z65).f0.toNat (b.getD i z65).f1 else a) := by
  rw [drop_cons z65 b i hb, drop_cons false k i hk]
  rfl
theorem fallGo_nil (b : List S65) (a : List ByteArray) : fallGo b [] a = a := by
  cases b <;> rfl
theorem getD_mem {α : Type} (d : α) (l : List α) (i : Nat) (h : i < l.length) : l.getD i d ∈ l := by
  simp [List.getD, h]
theorem impl_Fall_l (b c : List S65) (ks : List Bool) (hb : b.length ≤ 140737488351232) (n : Nat) (hp : ∀ p ∈ b, 0 ≤ p.f0 ∧ p.f0 ≤ (n : Int) - 1) (d : Nat) : ∀ (i : Nat) (a : List ByteArray), i + d = b.length → a.length = n →
    Ev (fun k => impl_settle_Fall_1.l0 ks k b (b.length : Int) (i : Int) a c) (fallGo (b.drop i) (ks.drop i) a, []) := by
  induction d with
  | zero =>
    intro i a hi ha
    apply ev_shift
    simp only [impl_settle_Fall_1.l0]
    rw [List.drop_eq_nil_of_le (by omega)]
    exact ev_neg (by omega) (Ev.now _)
  | succ d ih =>
    intro i a hi ha
    obtain ⟨h0, h1⟩ := hp _ (getD_mem z65 b i (by omega))
    apply ev_shift
    simp only [impl_settle_Fall_1.l0]
    simp only [rdPut_nat]
    refine ev_pos (by omega) (ev_pos (by omega) (ev_pos (by omega) ?_))
    rw [wrap_nat (by omega)]
    by_cases hk : i < ks.length
    · rw [fallGo_drop b ks a i (by omega) hk]
      refine ev_eq (show impl_Fall_1.f ks (i : Int) = some (ks.getD i false) by unfold impl_Fall_1.f; rw [if_pos (by omega), if_pos (by omega), rdOf_nat]) ?_
      cases hc : ks.getD i false
      · exact ev_neg (by simp) (ih (i + 1) a (by omega) ha)
      · rw [if_pos rfl]
        exact ev_pos rfl (ev_pos h0 (ev_pos (by omega) (ih (i + 1) _ (by omega) (by rw [List.length_set]; exact ha))))
    · refine ev_eq (show impl_Fall_1.f ks (i : Int) = some false by unfold impl_Fall_1.f; rw [if_neg (by omega)]) (ev_neg (by simp) (ev_cast (ih (i + 1) a (by omega) ha) ?_))
      have e0 : ks.drop i = [] := List.drop_eq_nil_of_le (by omega)
      have e1 : ks.drop (i + 1) = [] := List.drop_eq_nil_of_le (by omega)
      rw [e0, e1, fallGo_nil, fallGo_nil]
theorem impl_cloneDisk_eq (a : List ByteArray) (b : List S65) (ha : a.length ≤ 1099511627776) (hb : b.length ≤ 1099511627776) : impl_cloneDisk.f a b = some (a, b) := by
  unfold impl_cloneDisk.f slices_Clone_string_string.f slices_Clone_Put.f
  rw [if_pos (by omega), if_pos (by omega)]
  rfl
theorem impl_Fall_ev (a : List ByteArray) (b : List S65) (ks : List Bool) (ha : a.length ≤ 1099511627776) (hb : b.length ≤ 1099511627776) : Ev (fun k => impl_Fall.f k a b ks) (fallen a b ks) := by
  unfold impl_Fall.f impl_settle_Fall_1.f fallen
  refine ev_eq (impl_cloneDisk_eq a b ha hb) (ev_eq (impl_DiskOk_eq a b (by omega)) ?_)
  cases h : diskGood a b
  · exact ev_neg (by simp) (Ev.now _)
  · obtain ⟨_, _, _, h4⟩ := diskGood_split h
    refine ev_pos rfl ?_
    exact impl_Fall_l b b ks (by omega) a.length (fun p hp => ⟨(h4 p hp).1, (h4 p hp).2.1⟩) b.length 0 a (Nat.zero_add _) rfl
theorem impl_Flush_l (b c : List S65) (hb : b.length ≤ 140737488351232) (n : Nat) (hp : ∀ p ∈ b, 0 ≤ p.f0 ∧ p.f0 ≤ (n : Int) - 1) (d : Nat) : ∀ (i : Nat) (a : List ByteArray), i + d = b.length → a.length = n →
    Ev (fun k => impl_settle_Flush_1.l0 k b (b.length : Int) (i : Int) a c) (writes (b.drop i) a, []) := by
  induction d with
  | zero =>
    intro i a hi ha
    apply ev_shift
    simp only [impl_settle_Flush_1.l0]
    rw [List.drop_eq_nil_of_le (by omega)]
    exact ev_neg (by omega) (Ev.now _)
  | succ d ih =>
    intro i a hi ha
    obtain ⟨h0, h1⟩ := hp _ (getD_mem z65 b i (by omega))
    apply ev_shift
    simp only [impl_settle_Flush_1.l0]
    simp only [rdPut_nat]
    rw [wrap_nat (by omega), drop_cons z65 b i (by omega)]
    exact ev_pos (by omega) (ev_pos (by omega) (ev_pos (by omega) (ev_eq (show impl_Flush_1.f (i : Int) = some true from rfl) (ev_pos rfl (ev_pos h0 (ev_pos (by omega) (ih (i + 1) _ (by omega) (by rw [List.length_set]; exact ha))))))))
theorem impl_settle_Flush_ev (a : List ByteArray) (b : List S65) (ha : a.length ≤ 1099511627776) (hb : b.length ≤ 1099511627776) : Ev (fun k => impl_settle_Flush_1.f k a b) (flushed a b) := by
  unfold impl_settle_Flush_1.f flushed
  refine ev_eq (impl_cloneDisk_eq a b ha hb) (ev_eq (impl_DiskOk_eq a b (by omega)) ?_)
  cases h : diskGood a b
  · exact ev_neg (by simp) (Ev.now _)
  · obtain ⟨_, _, _, h4⟩ := diskGood_split h
    refine ev_pos rfl ?_
    exact impl_Flush_l b b (by omega) a.length (fun p hp => ⟨(h4 p hp).1, (h4 p hp).2.1⟩) b.length 0 a (Nat.zero_add _) rfl
theorem impl_Flush_ev (a : List ByteArray) (b : List S65) (ha : a.length ≤ 1099511627776) (hb : b.length ≤ 1099511627776) : Ev (fun k => impl_Flush.f k a b) (flushed a b) := by
  unfold impl_Flush.f
  exact Ev.bind (impl_settle_Flush_ev a b ha hb) (Ev.now _)
theorem decide_within (a lo hi : Int) : impl_within.f a lo hi = some (decide (lo ≤ a ∧ a ≤ hi)) := by
  unfold impl_within.f
  by_cases h : a ≥ lo
  · rw [if_pos h]
    congr 1
    rw [decide_eq_decide]
    omega
  · rw [if_neg h]
    congr 1
    symm
    rw [decide_eq_false_iff_not]
    omega
/-- What a sector reads as, behind writes. -/
def readAt (t : Int) (b : List S65) (d : ByteArray) : ByteArray := b.foldl (fun acc p => if p.f0 = t then p.f1 else acc) d
theorem impl_sectorRead_l (b : List S65) (t : Int) (hb : b.length ≤ 140737488351232) (d : Nat) : ∀ (i : Nat) (cur : ByteArray), i + d = b.length →
    Ev (fun k => impl_SectorRead.l0 k t cur b (b.length : Int) (i : Int)) (readAt t (b.drop i) cur, true) := by
  induction d with
  | zero =>
    intro i cur hi
    apply ev_shift
    simp only [impl_SectorRead.l0]
    rw [List.drop_eq_nil_of_le (by omega)]
    exact ev_neg (by omega) (Ev.now _)
  | succ d ih =>
    intro i cur hi
    apply ev_shift
    simp only [impl_SectorRead.l0]
    refine ev_pos (by omega) (ev_pos (by omega) (ev_pos (by omega) ?_))
    rw [rdPut_nat, wrap_nat (by omega), drop_cons z65 b i (by omega)]
    have e : ∀ x l, readAt t (x :: l) cur = readAt t l (if x.f0 = t then x.f1 else cur) := fun _ _ => rfl
    rw [e]
    by_cases c : (b.getD i z65).f0 = t
    · rw [if_pos c]
      exact ev_pos c (ih (i + 1) _ (by omega))
    · rw [if_neg c]
      exact ev_neg c (ih (i + 1) _ (by omega))
theorem rdOf_toNat {α : Type} (d : α) (xs : List α) (t : Int) : rdOf d xs t = xs.getD t.toNat d := rfl
def sectorRead (a : List ByteArray) (b : List S65) (t : Int) : ByteArray × Bool :=
  if diskGood a b = true ∧ 0 ≤ t ∧ t ≤ (a.length : Int) - 1 then (readAt t b (a.getD t.toNat ByteArray.empty), true) else (⟨#[]⟩, false)
theorem impl_SectorRead_ev (a : List ByteArray) (b : List S65) (t : Int) (ha : a.length ≤ 140737488351232) (hb : b.length ≤ 140737488351232) : Ev (fun k => impl_SectorRead.f k a b t) (sectorRead a b t) := by
  have hj : Ev (fun k => impl_SectorRead.j0 k t true a b) (⟨#[]⟩, false) := by
    apply ev_shift
    simp only [impl_SectorRead.j0]
    exact ev_pos trivial (Ev.now _)
  unfold impl_SectorRead.f sectorRead
  refine ev_eq (impl_DiskOk_eq a b ha) ?_
  cases hd : diskGood a b
  · rw [if_neg (by simp)]
    exact ev_neg (by simp) hj
  · refine ev_pos rfl (ev_eq (decide_within _ _ _) ?_)
    rw [wrap_in (x := (a.length : Int) - 1) (by omega) (by omega)]
    by_cases c : 0 ≤ t ∧ t ≤ (a.length : Int) - 1
    · rw [decide_eq_true c, if_pos ⟨rfl, c⟩]
      apply ev_shift
      simp only [impl_SectorRead.j0]
      refine ev_neg (by simp) (ev_pos c.1 (ev_pos (by omega) ?_))
      rw [rdOf_toNat]
      exact impl_sectorRead_l b t hb b.length 0 _ (Nat.zero_add _)
    · rw [decide_eq_false c, if_neg (fun z => c z.2)]
      exact hj
theorem readAt_snoc (t : Int) (b : List S65) (p : S65) (d : ByteArray) (h : p.f0 = t) : readAt t (b ++ [p]) d = p.f1 := by
  unfold readAt
  rw [List.foldl_append]
  show (if p.f0 = t then p.f1 else _) = p.f1
  rw [if_pos h]
theorem writes_snoc (b : List S65) (p : S65) (a : List ByteArray) : writes (b ++ [p]) a = (writes b a).set p.f0.toNat p.f1 := by
  unfold writes
  rw [List.foldl_append]
  rfl
theorem FnFlushed_j2 (ks : List Bool) (a : List ByteArray) (b : List S65) (t : Int) (s : ByteArray) (ha : a.length ≤ 1000) (hb : b.length ≤ 1000) (hd : diskGood a (b ++ [⟨t, s⟩]) = true) : Ev (fun k => laws_FnFlushed.j2 k t s ks a (b ++ [⟨t, s⟩])) true := by
  obtain ⟨g1, g2, g3, g4⟩ := diskGood_split hd
  have hp := g4 ⟨t, s⟩ (List.mem_append_right _ (List.mem_singleton.2 rfl))
  have ht0 : 0 ≤ t := hp.1
  have ht1 : t ≤ (a.length : Int) - 1 := hp.2.1
  have hl2 : (b ++ [(⟨t, s⟩ : S65)]).length ≤ 1001 := by rw [List.length_append, List.length_singleton]; omega
  have hdw := diskGood_writes hd
  have hlen := writes_length (b ++ [(⟨t, s⟩ : S65)]) a
  have r1 := impl_SectorRead_ev a (b ++ [(⟨t, s⟩ : S65)]) t (by omega) (by omega)
  have v1 : sectorRead a (b ++ [(⟨t, s⟩ : S65)]) t = (s, true) := by
    unfold sectorRead
    rw [if_pos ⟨hd, ht0, ht1⟩, readAt_snoc t b ⟨t, s⟩ _ rfl]
  rw [v1] at r1
  have f1 := impl_Flush_ev a (b ++ [(⟨t, s⟩ : S65)]) (by omega) (by omega)
  unfold flushed at f1
  rw [if_pos hd] at f1
  have r2 := impl_SectorRead_ev (writes (b ++ [(⟨t, s⟩ : S65)]) a) [] t (by omega) (by simp)
  have v2 : sectorRead (writes (b ++ [(⟨t, s⟩ : S65)]) a) [] t = (s, true) := by
    unfold sectorRead
    rw [if_pos ⟨hdw, ht0, by omega⟩]
    have hl0 := writes_length b a
    have : (writes (b ++ [(⟨t, s⟩ : S65)]) a).getD t.toNat ByteArray.empty = s := by
      rw [writes_snoc]
      have hi : t.toNat < (writes b a).length := by omega
      simp [List.getD, hi]
    rw [this]
    rfl
  rw [v2] at r2
  have f2 := impl_Fall_ev (writes (b ++ [(⟨t, s⟩ : S65)]) a) [] ks (by omega) (by simp)
  unfold fallen at f2
  rw [if_pos hdw] at f2
  have f3 := impl_Flush_ev (writes (b ++ [(⟨t, s⟩ : S65)]) a) [] (by omega) (by simp)
  unfold flushed at f3
  rw [if_pos hdw] at f3
  have e2 : fallGo [] ks (writes (b ++ [(⟨t, s⟩ : S65)]) a) = writes (b ++ [(⟨t, s⟩ : S65)]) a := rfl
  have e3 : writes [] (writes (b ++ [(⟨t, s⟩ : S65)]) a) = writes (b ++ [(⟨t, s⟩ : S65)]) a := rfl
  rw [e2] at f2
  rw [e3] at f3
  have q := impl_DiskSame_ev (writes (b ++ [(⟨t, s⟩ : S65)]) a) [] (writes (b ++ [(⟨t, s⟩ : S65)]) a) [] (by omega) (by simp)
  generalize writes (b ++ [(⟨t, s⟩ : S65)]) a = w at *
  apply ev_shift
  simp only [laws_FnFlushed.j2]
  refine Ev.bind r1 (Ev.bind f1 (Ev.bind r2 (ev_pos (by first | rfl | trivial) (ev_pos (by first | rfl | trivial) (ev_pos (by first | rfl | trivial) (ev_pos (by first | rfl | trivial) (Ev.bind f2 (Ev.bind q (ev_pos (by simp) (ev_pos (by simp) (Ev.bind f3 (Ev.bind q (ev_cast (Ev.now _) ?_)))))))))))))
  simp
theorem l1New_ev (l : List Int) (hl : l.length ≤ 140737488351232) : ∃ h, Ev (fun k => spec_l1New.f k l) (l, 0, h) := by
  unfold spec_l1New.f
  have key : ∀ (d : Nat) (i : Nat) (x : Int), i + d = l.length → ∃ h, Ev (fun k => spec_l1New.l0 k l x (i : Int)) (l, 0, h) := by
    intro d
    induction d with
    | zero =>
      intro i x hi
      refine ⟨x, ev_shift ?_⟩
      simp only [spec_l1New.l0]
      exact ev_neg (by omega) (Ev.now _)
    | succ d ih =>
      intro i x hi
      by_cases c : (i : Int) < 4000
      · obtain ⟨h, e⟩ := ih (i + 1) (Go.bits .and .i64 (wrap64 ((wrap64 ((wrap64 (x * 131)) + (wrap64 (rd l (i : Int))))) + 7)) 1073741823) (by omega)
        refine ⟨h, ev_shift ?_⟩
        simp only [spec_l1New.l0]
        refine ev_pos (by omega) (ev_pos c (ev_pos (by omega) ?_))
        rw [wrap_nat (by omega)]
        exact e
      · refine ⟨x, ev_shift ?_⟩
        simp only [spec_l1New.l0]
        exact ev_pos (by omega) (ev_neg c (Ev.now _))
  exact key l.length 0 _ (by omega)
theorem drawJ0 (l : List Int) (i h : Int) (a : List ByteArray) (b : List S65) : Ev (fun k => spec_l3Draw.j0 k l i h a b) (a, b, i, h) := by
  apply ev_shift
  simp only [spec_l3Draw.j0]
  exact Ev.now _
theorem ev_some {α β : Type} {a : α} {f : Nat → α → Option β} {r : β} (e : Ev (fun k => f k a) r) : Ev (fun k => (some a).bind (f k)) r := e
theorem wraps_i64 (n : Int) (h0 : 0 ≤ n) (h1 : n < 2 ^ 63) : IntKind.i64.wrap n = n := by
  rw [IntKind.wrap_i64]
  omega
theorem and255_any (x : Int) : 0 ≤ Go.bits .and .i64 x 255 ∧ Go.bits .and .i64 x 255 ≤ 255 := by
  have h : (BitVec.ofInt 64 x &&& BitVec.ofInt 64 255).toNat ≤ 255 := by
    rw [BitVec.toNat_and]
    exact Nat.le_trans Nat.and_le_right (by decide)
  have e : Go.bits .and .i64 x 255 = IntKind.i64.wrap ((BitVec.ofInt 64 x &&& BitVec.ofInt 64 255).toNat : Int) := rfl
  rw [e, wraps_i64 _ (by omega) (by omega)]
  omega
theorem wrap_up {i : Int} (h0 : 0 ≤ i) (h : i < 9223372036854775807) : wrap64 (i + 1) = i + 1 := by
  unfold wrap64
  omega
theorem l1Byte_some (l : List Int) (i h : Int) (hl : l.length ≤ 140737488351232) (h0 : 0 ≤ i) (h1 : i ≤ l.length) :
    ∃ b j h', spec_l1Byte.f l i h = some (b, j, h') ∧ 0 ≤ b ∧ b ≤ 255 ∧ 0 ≤ j ∧ j ≤ l.length := by
  unfold spec_l1Byte.f
  by_cases c : i < (l.length : Int)
  · rw [if_pos c, if_pos h0]
    refine ⟨_, _, _, rfl, (and255_any _).1, (and255_any _).2, ?_, ?_⟩ <;> rw [wrap_up h0 (by omega)] <;> omega
  · rw [if_neg c]
    exact ⟨_, _, _, rfl, (and255_any _).1, (and255_any _).2, h0, h1⟩
theorem tmod_range (x n : Int) (hx : 0 ≤ x) (hn : 0 < n) : 0 ≤ Int.tmod x n ∧ Int.tmod x n < n := by
  rw [Int.tmod_eq_emod_of_nonneg hx]
  exact ⟨Int.emod_nonneg _ (by omega), Int.emod_lt_of_pos _ hn⟩
theorem l1Below_some (l : List Int) (i h n : Int) (hl : l.length ≤ 140737488351232) (h0 : 0 ≤ i) (h1 : i ≤ l.length) :
    ∃ v j h', spec_l1Below.f l i h n = some (v, j, h') ∧ 0 ≤ v ∧ (0 < n → v < n) ∧ (n ≤ 0 → v = 0) ∧ 0 ≤ j ∧ j ≤ l.length := by
  unfold spec_l1Below.f
  by_cases c : n ≤ 0
  · rw [if_pos c]
    exact ⟨_, _, _, rfl, by omega, by omega, fun _ => rfl, h0, h1⟩
  · rw [if_neg c]
    by_cases c2 : n ≤ 256
    · rw [if_pos c2]
      obtain ⟨b, j, h', e, hb0, hb1, hj0, hj1⟩ := l1Byte_some l i h hl h0 h1
      rw [e]
      simp only [Option.bind_some]
      rw [if_neg (by omega)]
      have := tmod_range b n hb0 (by omega)
      exact ⟨_, _, _, rfl, this.1, fun _ => this.2, by omega, hj0, hj1⟩
    · rw [if_neg c2]
      obtain ⟨b1, j1, g1, e1, hb1, hb1', hj1, hj1'⟩ := l1Byte_some l i h hl h0 h1
      obtain ⟨b2, j2, g2, e2, hb2, hb2', hj2, hj2'⟩ := l1Byte_some l j1 g1 hl hj1 hj1'
      obtain ⟨b3, j3, g3, e3, hb3, hb3', hj3, hj3'⟩ := l1Byte_some l j2 g2 hl hj2 hj2'
      obtain ⟨b4, j4, g4, e4, hb4, hb4', hj4, hj4'⟩ := l1Byte_some l j3 g3 hl hj3 hj3'
      simp only [e1, e2, e3, e4, Option.bind_some]
      rw [if_neg (by omega)]
      rw [wrap_in (x := b1 * 16777216) (by omega) (by omega), wrap_in (x := b2 * 65536) (by omega) (by omega), wrap_in (x := b3 * 256) (by omega) (by omega), wrap_in (x := b1 * 16777216 + b2 * 65536) (by omega) (by omega), wrap_in (x := b1 * 16777216 + b2 * 65536 + b3 * 256) (by omega) (by omega), wrap_in (x := b1 * 16777216 + b2 * 65536 + b3 * 256 + b4) (by omega) (by omega)]
      have := tmod_range (b1 * 16777216 + b2 * 65536 + b3 * 256 + b4) n (by omega) (by omega)
      exact ⟨_, _, _, rfl, this.1, fun _ => this.2, by omega, hj4, hj4'⟩
theorem l1PickInt_some (l : List Int) (i h : Int) (xs : List Int) (hl : l.length ≤ 140737488351232) (h0 : 0 ≤ i) (h1 : i ≤ l.length) (hx : 0 < xs.length) :
    ∃ v j h', spec_l1PickInt.f l i h xs = some (v, j, h') ∧ v ∈ xs ∧ 0 ≤ j ∧ j ≤ l.length := by
  unfold spec_l1PickInt.f
  obtain ⟨v, j, h', e, hv0, hv1, _, hj0, hj1⟩ := l1Below_some l i h xs.length hl h0 h1
  rw [e]
  simp only [Option.bind_some]
  have hv := hv1 (by omega)
  rw [if_pos hv0, if_pos hv]
  refine ⟨_, _, _, rfl, ?_, hj0, hj1⟩
  exact getD_mem 0 xs v.toNat (by omega)
theorem decide_l1In (a lo hi : Int) : spec_l1In.f a lo hi = some (decide (lo ≤ a ∧ a ≤ hi)) := by
  unfold spec_l1In.f
  by_cases h : a ≥ lo
  · rw [if_pos h]
    congr 1
    rw [decide_eq_decide]
    omega
  · rw [if_neg h]
    congr 1
    symm
    rw [decide_eq_false_iff_not]
    omega
theorem l3New_eq (n : Int) (h : 1 ≤ n ∧ n ≤ 120) : spec_DiskNew.f n = some (List.replicate n.toNat (⟨#[]⟩ : ByteArray), [], true) := by
  unfold spec_DiskNew.f
  rw [decide_l1In, decide_eq_true h]
  simp only [Option.bind_some]
  rw [if_pos trivial, if_pos (by omega), if_pos (by omega)]
theorem l1Bytes_ev (l : List Int) (n : Nat) (hn : n ≤ 1000000) (hl : l.length ≤ 140737488351232) (d : Nat) : ∀ (q : Nat) (acc : List Int) (i h : Int), q + d = n → acc.length ≤ q → 0 ≤ i → i ≤ l.length →
    ∃ ys j h', Ev (fun k => spec_l1Bytes.l0 k (n : Int) acc (q : Int) l i h) (ys, j, h') ∧ 0 ≤ j ∧ j ≤ l.length ∧ ys.length ≤ n := by
  induction d with
  | zero =>
    intro q acc i h hq ha h0 h1
    refine ⟨acc, i, h, ev_shift ?_, h0, h1, by omega⟩
    simp only [spec_l1Bytes.l0]
    exact ev_neg (by omega) (Ev.now _)
  | succ d ih =>
    intro q acc i h hq ha h0 h1
    obtain ⟨b, j, g, e, _, _, hj0, hj1⟩ := l1Byte_some l i h hl h0 h1
    obtain ⟨ys, j2, g2, e2, r⟩ := ih (q + 1) (acc ++ [b % 256]) j g (by omega) (by rw [List.length_append, List.length_singleton]; omega) hj0 hj1
    refine ⟨ys, j2, g2, ev_shift ?_, r⟩
    simp only [spec_l1Bytes.l0]
    refine ev_pos (by omega) (ev_eq e (ev_pos (by omega) ?_))
    rw [wrap_nat (by omega)]
    exact e2
theorem l1Pick_some (l : List Int) (i h : Int) (xs : List ByteArray) (hl : l.length ≤ 140737488351232) (h0 : 0 ≤ i) (h1 : i ≤ l.length) (hx : 0 < xs.length) :
    ∃ v j h', spec_l1Pick.f l i h xs = some (v, j, h') ∧ v ∈ xs ∧ 0 ≤ j ∧ j ≤ l.length := by
  unfold spec_l1Pick.f
  obtain ⟨v, j, h', e, hv0, hv1, _, hj0, hj1⟩ := l1Below_some l i h xs.length hl h0 h1
  rw [e]
  simp only [Option.bind_some]
  have hv := hv1 (by omega)
  rw [if_pos hv0, if_pos hv]
  refine ⟨_, _, _, rfl, ?_, hj0, hj1⟩
  exact getD_mem ByteArray.empty xs v.toNat (by omega)
theorem l3Data_ev (l : List Int) (i h : Int) (hl : l.length ≤ 140737488351232) (h0 : 0 ≤ i) (h1 : i ≤ l.length) : ∃ d j h', Ev (fun k => spec_l3Data.f k l i h) (d, j, h') ∧ 0 ≤ j ∧ j ≤ l.length := by
  unfold spec_l3Data.f spec_l1Bytes.f
  obtain ⟨ys, j, g, e, hj0, hj1, _⟩ := l1Bytes_ev l 5 (by omega) hl 5 0 [] i h (by omega) (by simp) h0 h1
  obtain ⟨v, j2, g2, e2, _, hk0, hk1⟩ := l1Pick_some l j g [(⟨#[]⟩ : ByteArray), (⟨#[97]⟩ : ByteArray), (⟨#[98, 99]⟩ : ByteArray), (⟨#[100, 101, 102]⟩ : ByteArray), strOfNums ys] hl hj0 hj1 (by simp)
  exact ⟨v, j2, g2, Ev.bind e (ev_eq e2 (Ev.now _)), hk0, hk1⟩
theorem l3Right_l1 (l : List Int) (hl : l.length ≤ 140737488351232) (a : List ByteArray) (m : Nat) (hm : m ≤ 100) (d : Nat) : ∀ (q : Nat) (b : List S65) (i h : Int), q + d = m → b.length ≤ q → 0 ≤ i → i ≤ l.length →
    ∃ b' j h', Ev (fun k => spec_l3Right.l1 k (m : Int) (q : Int) l i h a b) (a, b', j, h') ∧ 0 ≤ j ∧ j ≤ l.length ∧ b'.length ≤ m := by
  induction d with
  | zero =>
    intro q b i h hq hb h0 h1
    refine ⟨b, i, h, ev_shift ?_, h0, h1, by omega⟩
    simp only [spec_l3Right.l1]
    exact ev_neg (by omega) (Ev.now _)
  | succ d ih =>
    intro q b i h hq hb h0 h1
    obtain ⟨v, j, g, e, _, _, _, hj0, hj1⟩ := l1Below_some l i h (a.length : Int) hl h0 h1
    obtain ⟨s, j2, g2, e2, hk0, hk1⟩ := l3Data_ev l j g hl hj0 hj1
    obtain ⟨b', j3, g3, e3, r⟩ := ih (q + 1) (b ++ [(⟨v, s⟩ : S65)]) j2 g2 (by omega) (by rw [List.length_append, List.length_singleton]; omega) hk0 hk1
    refine ⟨b', j3, g3, ev_shift ?_, r⟩
    simp only [spec_l3Right.l1]
    refine ev_pos (by omega) (ev_eq e (Ev.bind e2 (ev_pos (by omega) ?_)))
    rw [wrap_nat (by omega)]
    exact e3
theorem l3Right_l0 (l : List Int) (hl : l.length ≤ 140737488351232) (b : List S65) (hb : b.length = 0) (n : Nat) (hn : n ≤ 1000) (d : Nat) : ∀ (q : Nat) (a : List ByteArray) (i h : Int), q + d = n → a.length = n → 0 ≤ i → i ≤ l.length →
    ∃ a' b' j h', Ev (fun k => spec_l3Right.l0 k (q : Int) l i h a b) (a', b', j, h') ∧ 0 ≤ j ∧ j ≤ l.length ∧ a'.length = n ∧ b'.length ≤ 100 := by
  induction d with
  | zero =>
    intro q a i h hq ha h0 h1
    obtain ⟨v, j, g, e, hv0, hv1, _, hj0, hj1⟩ := l1Below_some l i h 6 hl h0 h1
    have hv := hv1 (by omega)
    obtain ⟨b', j2, g2, e2, hk0, hk1, hlen⟩ := l3Right_l1 l hl a v.toNat (by omega) v.toNat 0 b j g (Nat.zero_add _) (by omega) hj0 hj1
    rw [show ((v.toNat : Nat) : Int) = v by omega] at e2
    refine ⟨a, b', j2, g2, ev_shift ?_, hk0, hk1, ha, by omega⟩
    simp only [spec_l3Right.l0]
    exact ev_neg (by omega) (ev_eq e e2)
  | succ d ih =>
    intro q a i h hq ha h0 h1
    obtain ⟨s, j, g, e, hj0, hj1⟩ := l3Data_ev l i h hl h0 h1
    obtain ⟨a', b', j2, g2, e2, r⟩ := ih (q + 1) (a.set q s) j g (by omega) (by rw [List.length_set]; exact ha) hj0 hj1
    refine ⟨a', b', j2, g2, ev_shift ?_, r⟩
    simp only [spec_l3Right.l0]
    refine ev_pos (by omega) (Ev.bind e (ev_pos (by omega) ?_))
    rw [wrap_nat (by omega), Int.toNat_natCast]
    exact e2
theorem l3Right_ev (l : List Int) (i h : Int) (hl : l.length ≤ 140737488351232) (h0 : 0 ≤ i) (h1 : i ≤ l.length) :
    ∃ a b j h', Ev (fun k => spec_l3Right.f k l i h) (a, b, j, h') ∧ 0 ≤ j ∧ j ≤ l.length ∧ 0 < a.length ∧ a.length ≤ 100 ∧ b.length ≤ 100 := by
  unfold spec_l3Right.f
  obtain ⟨v, j, g, e, hv, hj0, hj1⟩ := l1PickInt_some l i h [1, 2, 5, 9] hl h0 h1 (by simp)
  simp only [List.mem_cons, List.not_mem_nil, or_false] at hv
  obtain ⟨a', b', j2, g2, e2, hk0, hk1, ha, hb⟩ := l3Right_l0 l hl [] rfl v.toNat (by omega) v.toNat 0 (List.replicate v.toNat (⟨#[]⟩ : ByteArray)) j g (Nat.zero_add _) (by simp) hj0 hj1
  exact ⟨a', b', j2, g2, ev_eq e (ev_eq (l3New_eq v (by omega)) e2), hk0, hk1, by omega, by omega, hb⟩
theorem l3Draw_evJ (l : List Int) (i h : Int) (hl : l.length ≤ 140737488351232) (h0 : 0 ≤ i) (h1 : i ≤ l.length) :
    ∃ a b j h', Ev (fun k => spec_l3Draw.f k l i h) (a, b, j, h') ∧ 0 ≤ j ∧ j ≤ l.length ∧ a.length ≤ 1000 ∧ b.length ≤ 1000 := by
  unfold spec_l3Draw.f
  obtain ⟨a, b, j, g, e, hj0, hj1, ha0, ha1, hb⟩ := l3Right_ev l i h hl h0 h1
  obtain ⟨v, j2, g2, e2, hv, hk0, hk1⟩ := l1PickInt_some l j g [90, 91] hl hj0 hj1 (by simp)
  simp only [List.mem_cons, List.not_mem_nil, or_false] at hv
  obtain ⟨t, j3, g3, e3, _, _, _, hm0, hm1⟩ := l1Below_some l j2 g2 12 hl hk0 hk1
  by_cases t0 : t = 0
  · exact ⟨_, _, _, _, Ev.bind e (ev_eq e2 (ev_pos (show (0 : Int) ≤ v by omega) (ev_pos (show v.toNat ≤ 281474976710656 by omega) (ev_some (ev_eq e3 (ev_pos t0 (ev_pos (show (0 : Int) < (a.length : Int) by omega) (drawJ0 _ _ _ _ _)))))))), hm0, hm1, (by rw [List.length_set]; exact Nat.le_trans ha1 (by omega)), Nat.le_trans hb (by omega)⟩
  by_cases t1 : t = 1
  · obtain ⟨x, j4, g4, e4, _, hn0, hn1⟩ := l1PickInt_some l j3 g3 [(-1), (a.length : Int), 9223372036854775807] hl hm0 hm1 (by simp)
    exact ⟨_, _, _, _, Ev.bind e (ev_eq e2 (ev_pos (show (0 : Int) ≤ v by omega) (ev_pos (show v.toNat ≤ 281474976710656 by omega) (ev_some (ev_eq e3 (ev_neg t0 (ev_pos t1 (ev_eq e4 (ev_pos (show b.length < 5864062014805 by omega) (drawJ0 _ _ _ _ _)))))))))), hn0, hn1, Nat.le_trans ha1 (by omega), (by rw [List.length_append, List.length_singleton]; exact Nat.le_trans (Nat.succ_le_succ hb) (by omega))⟩
  by_cases t2 : t = 2
  · exact ⟨_, _, _, _, Ev.bind e (ev_eq e2 (ev_pos (show (0 : Int) ≤ v by omega) (ev_pos (show v.toNat ≤ 281474976710656 by omega) (ev_some (ev_eq e3 (ev_neg t0 (ev_neg t1 (ev_pos t2 (ev_pos (show b.length < 5864062014805 by omega) (drawJ0 _ _ _ _ _)))))))))), hm0, hm1, Nat.le_trans ha1 (by omega), (by rw [List.length_append, List.length_singleton]; exact Nat.le_trans (Nat.succ_le_succ hb) (by omega))⟩
  by_cases t3 : t = 3
  · obtain ⟨x, j4, g4, e4, hx, hn0, hn1⟩ := l1PickInt_some l j3 g3 [120, 121] hl hm0 hm1 (by simp)
    simp only [List.mem_cons, List.not_mem_nil, or_false] at hx
    exact ⟨_, _, _, _, Ev.bind e (ev_eq e2 (ev_pos (show (0 : Int) ≤ v by omega) (ev_pos (show v.toNat ≤ 281474976710656 by omega) (ev_some (ev_eq e3 (ev_neg t0 (ev_neg t1 (ev_neg t2 (ev_pos t3 (ev_eq e4 (ev_pos (show (0 : Int) ≤ x by omega) (ev_pos (show x.toNat ≤ 17592186044416 by omega) (drawJ0 _ _ _ _ _))))))))))))), hn0, hn1, (by rw [List.length_replicate]; exact show x.toNat ≤ 1000 by omega), Nat.le_trans hb (by omega)⟩
  by_cases t4 : t = 4
  · obtain ⟨x, j4, g4, e4, hx, hn0, hn1⟩ := l1PickInt_some l j3 g3 [399, 400, 401] hl hm0 hm1 (by simp)
    simp only [List.mem_cons, List.not_mem_nil, or_false] at hx
    exact ⟨_, _, _, _, Ev.bind e (ev_eq e2 (ev_pos (show (0 : Int) ≤ v by omega) (ev_pos (show v.toNat ≤ 281474976710656 by omega) (ev_some (ev_eq e3 (ev_neg t0 (ev_neg t1 (ev_neg t2 (ev_neg t3 (ev_pos t4 (ev_eq e4 (ev_pos (show (0 : Int) ≤ x by omega) (ev_pos (show x.toNat ≤ 11728124029610 by omega) (drawJ0 _ _ _ _ _)))))))))))))), hn0, hn1, Nat.le_trans ha1 (by omega), (by rw [List.length_replicate]; exact show x.toNat ≤ 1000 by omega)⟩
  · exact ⟨_, _, _, _, Ev.bind e (ev_eq e2 (ev_pos (show (0 : Int) ≤ v by omega) (ev_pos (show v.toNat ≤ 281474976710656 by omega) (ev_some (ev_eq e3 (ev_neg t0 (ev_neg t1 (ev_neg t2 (ev_neg t3 (ev_neg t4 (drawJ0 _ _ _ _ _))))))))))), hm0, hm1, Nat.le_trans ha1 (by omega), Nat.le_trans hb (by omega)⟩
theorem l1Once_some (l : List Int) (i h n : Int) (hl : l.length ≤ 140737488351232) (h0 : 0 ≤ i) (h1 : i ≤ l.length) : ∃ b j h', spec_l1Once.f l i h n = some (b, j, h') ∧ 0 ≤ j ∧ j ≤ l.length := by
  unfold spec_l1Once.f
  obtain ⟨v, j, h', e, _, _, _, hj0, hj1⟩ := l1Below_some l i h n hl h0 h1
  rw [e]
  exact ⟨_, _, _, rfl, hj0, hj1⟩
theorem l3Keep_l (l : List Int) (hl : l.length ≤ 140737488351232) (m : Nat) (hm : m ≤ 100) (d : Nat) : ∀ (q : Nat) (b : List Bool) (i h : Int), q + d = m → b.length ≤ q → 0 ≤ i → i ≤ l.length →
    ∃ b' j h', Ev (fun k => spec_l3Keep.l0 k b (m : Int) (q : Int) l i h) (b', j, h') ∧ 0 ≤ j ∧ j ≤ l.length ∧ b'.length ≤ m := by
  induction d with
  | zero =>
    intro q b i h hq hb h0 h1
    refine ⟨b, i, h, ev_shift ?_, h0, h1, by omega⟩
    simp only [spec_l3Keep.l0]
    exact ev_neg (by omega) (Ev.now _)
  | succ d ih =>
    intro q b i h hq hb h0 h1
    obtain ⟨v, j, g, e, hj0, hj1⟩ := l1Once_some l i h 2 hl h0 h1
    obtain ⟨b', j3, g3, e3, r⟩ := ih (q + 1) (b ++ [v]) j g (by omega) (by rw [List.length_append, List.length_singleton]; omega) hj0 hj1
    refine ⟨b', j3, g3, ev_shift ?_, r⟩
    simp only [spec_l3Keep.l0]
    refine ev_pos (by omega) (ev_eq e (ev_pos (by omega) ?_))
    rw [wrap_nat (by omega)]
    exact e3
theorem l3Keep_ev (l : List Int) (i h : Int) (hl : l.length ≤ 140737488351232) (h0 : 0 ≤ i) (h1 : i ≤ l.length) :
    ∃ b j h', Ev (fun k => spec_l3Keep.f k l i h) (b, j, h') ∧ 0 ≤ j ∧ j ≤ l.length ∧ b.length ≤ 100 := by
  unfold spec_l3Keep.f
  obtain ⟨v, j, g, e, hv0, hv1, _, hj0, hj1⟩ := l1Below_some l i h 9 hl h0 h1
  have hv := hv1 (by omega)
  obtain ⟨b', j2, g2, e2, hk0, hk1, hlen⟩ := l3Keep_l l hl v.toNat (by omega) v.toNat 0 [] j g (Nat.zero_add _) (by simp) hj0 hj1
  rw [show ((v.toNat : Nat) : Int) = v by omega] at e2
  exact ⟨b', j2, g2, ev_eq e e2, hk0, hk1, by omega⟩
theorem DrawFall_evJ (l : List Int) (hl : l.length ≤ 140737488351232) : ∃ a b ks, Ev (fun k => spec_DrawFall.f k l) (a, b, ks) ∧ a.length ≤ 1000 ∧ b.length ≤ 1000 ∧ ks.length ≤ 100 := by
  unfold spec_DrawFall.f
  obtain ⟨g0, e0⟩ := l1New_ev l hl
  obtain ⟨a, b, j, g, e, hj0, hj1, ha, hb⟩ := l3Draw_evJ l 0 g0 hl (by omega) (by omega)
  obtain ⟨ks, j2, g2, e2, _, _, hk⟩ := l3Keep_ev l j g hl hj0 hj1
  exact ⟨a, b, ks, Ev.bind e0 (Ev.bind e (Ev.bind e2 (Ev.now _))), ha, hb, hk⟩
theorem DrawSectorWrite_evJ (l : List Int) (hl : l.length ≤ 140737488351232) : ∃ a b t s, Ev (fun k => spec_DrawSectorWrite.f k l) (a, b, t, s) ∧ a.length ≤ 1000 ∧ b.length ≤ 1000 := by
  unfold spec_DrawSectorWrite.f
  obtain ⟨g0, e0⟩ := l1New_ev l hl
  obtain ⟨a, b, j, g, e, hj0, hj1, ha, hb⟩ := l3Draw_evJ l 0 g0 hl (by omega) (by omega)
  obtain ⟨v, j2, g2, e2, _, _, _, hk0, hk1⟩ := l1Below_some l j g (wrap64 ((a.length : Int) + 2)) hl hj0 hj1
  obtain ⟨s, j3, g3, e3, _, _⟩ := l3Data_ev l j2 g2 hl hk0 hk1
  exact ⟨a, b, _, s, Ev.bind e0 (Ev.bind e (ev_eq e2 (Ev.bind e3 (Ev.now _)))), ha, hb⟩
def sectorWrite (a : List ByteArray) (b : List S65) (t : Int) (s : ByteArray) : List ByteArray × List S65 × Bool :=
  if diskGood a b = true ∧ diskGood a (b ++ [⟨t, s⟩]) = true then (a, b ++ [⟨t, s⟩], true) else (a, b, false)
theorem impl_SectorWrite_eq (a : List ByteArray) (b : List S65) (t : Int) (s : ByteArray) (ha : a.length ≤ 1099511627776) (hb : b.length ≤ 1099511627775) : impl_SectorWrite.f a b t s = some (sectorWrite a b t s) := by
  have hc := impl_cloneDisk_eq a b ha (by omega)
  unfold impl_SectorWrite.f sectorWrite
  rw [hc]
  simp only [Option.bind_some]
  rw [if_pos (show b.length < 5864062014805 by omega), impl_DiskOk_eq a b (by omega)]
  simp only [Option.bind_some]
  cases h1 : diskGood a b
  · rw [if_neg (by simp), if_neg (by simp)]
  · rw [if_pos rfl, impl_DiskOk_eq a _ (by omega)]
    simp only [Option.bind_some]
    cases h2 : diskGood a (b ++ [⟨t, s⟩])
    · rw [if_neg (by simp), if_neg (by simp)]
    · rw [if_pos rfl, if_pos ⟨trivial, rfl⟩]
theorem spec_l3Puts_ev (a b : List S65) (h : a.length ≤ 140737488351232) : Ev (fun k => spec_l3Puts.f k a b) (decide (a = b)) := by /- decPut -/
  unfold spec_l3Puts.f
  by_cases hl : a.length = b.length
  · refine ev_pos (by omega) ?_
    have := ev_loop (fun k i => spec_l3Puts.l0 k a b (i : Int)) (fun i => decide (a.drop i = b.drop i)) a.length ?_ ?_ 0 (Nat.zero_le _)
    · exact this
    · simp only [spec_l3Puts.l0]
      refine ev_neg (by omega) (ev_cast (Ev.now _) ?_)
      rw [List.drop_length, hl, List.drop_length]
      simp
    · intro i hi e
      simp only [spec_l3Puts.l0]
      refine ev_pos (by omega) (ev_pos (by omega) (ev_pos (by omega) ?_))
      rw [wrap_nat (by omega), rdPut_nat, rdPut_nat, put_ne]
      rw [drop_cons z65 a i hi, drop_cons z65 b i (by omega)]
      by_cases hc : a.getD i z65 = b.getD i z65
      · rw [decide_eq_true hc]
        refine ev_neg (by simp) (ev_cast e ?_)
        rw [hc, decide_eq_decide]
        simp
      · rw [decide_eq_false hc]
        refine ev_pos (by simp) (ev_cast (Ev.now _) ?_)
        symm
        rw [decide_eq_false_iff_not]
        exact fun z => hc (List.cons.inj z).1
  · refine ev_neg (by omega) (ev_cast (Ev.now _) ?_)
    symm
    rw [decide_eq_false_iff_not]
    exact fun z => hl (by rw [z])
theorem spec_texts_ev (a b : List ByteArray) (h : a.length ≤ 140737488351232) : Ev (fun k => spec_l1Texts.f k a b) (decide (a = b)) := by
  unfold spec_l1Texts.f
  by_cases hl : a.length = b.length
  · refine ev_pos (by omega) ?_
    have := ev_loop (fun k i => spec_l1Texts.l0 k a b (i : Int)) (fun i => decide (a.drop i = b.drop i)) a.length ?_ ?_ 0 (Nat.zero_le _)
    · exact this
    · simp only [spec_l1Texts.l0]
      refine ev_neg (by omega) ?_
      refine ev_cast (Ev.now _) ?_
      rw [List.drop_length, hl, List.drop_length]
      simp
    · intro i hi e
      simp only [spec_l1Texts.l0]
      refine ev_pos (by omega) (ev_pos (by omega) (ev_pos (by omega) ?_))
      rw [wrap_nat (by omega), rdOf_nat, rdOf_nat]
      by_cases hc : a.getD i ByteArray.empty = b.getD i ByteArray.empty
      · refine ev_pos (toList_inj.mpr hc) (ev_cast e ?_)
        rw [decide_eq_decide, drop_eq ByteArray.empty a b i hi (by omega)]
        exact ⟨fun z => ⟨hc, z⟩, fun z => z.2⟩
      · refine ev_neg (fun z => hc (toList_inj.mp z)) (ev_cast (Ev.now _) ?_)
        symm
        rw [decide_eq_false_iff_not, drop_eq ByteArray.empty a b i hi (by omega)]
        exact fun z => hc z.1
  · refine ev_neg (by omega) (ev_cast (Ev.now _) ?_)
    symm
    rw [decide_eq_false_iff_not]
    exact fun z => hl (by rw [z])
theorem spec_DiskSame_ev (a : List ByteArray) (b : List S65) (a' : List ByteArray) (b' : List S65) (ha : a.length ≤ 140737488351232) (hb : b.length ≤ 140737488351232) : Ev (fun k => spec_DiskSame.f k a b a' b') (decide (a = a' ∧ b = b')) := by /- decPut -/
  unfold spec_DiskSame.f
  refine Ev.bind (spec_texts_ev a a' ha) ?_
  by_cases h : a = a'
  · rw [decide_eq_true h]
    exact ev_pos rfl (Ev.bind (spec_l3Puts_ev b b' hb) (ev_cast (Ev.now _) (and_dec _ _ h)))
  · rw [decide_eq_false h]
    refine ev_neg (by simp) (ev_cast (Ev.now _) ?_)
    symm
    rw [decide_eq_false_iff_not]
    exact fun z => h z.1
theorem l3PutsOk_ev (b : List S65) (n : Nat) (hb : b.length ≤ 140737488351232) (hn : n ≤ 140737488351232) : Ev (fun k => spec_l3PutsOk.f k b (n : Int)) (b.all (putGood n)) := by
  unfold spec_l3PutsOk.f
  have := ev_loop (fun k i => spec_l3PutsOk.l0 k b (n : Int) (i : Int)) (fun i => (b.drop i).all (putGood n)) b.length ?_ ?_ 0 (Nat.zero_le _)
  · exact this
  · simp only [spec_l3PutsOk.l0]
    refine ev_neg (by omega) (ev_cast (Ev.now _) ?_)
    rw [List.drop_length]
    rfl
  · intro i hi e
    simp only [spec_l3PutsOk.l0]
    refine ev_pos (by omega) (ev_pos (by omega) ?_)
    simp only [rdPut_nat]
    rw [wrap_in (x := (n : Int) - 1) (by omega) (by omega), wrap_nat (by omega), drop_cons z65 b i hi]
    refine ev_eq (decide_l1In _ _ _) ?_
    rw [List.all_cons]
    unfold putGood
    by_cases c : 0 ≤ (b.getD i z65).f0 ∧ (b.getD i z65).f0 ≤ (n : Int) - 1
    · rw [decide_eq_true c]
      refine ev_pos rfl ?_
      by_cases c2 : ((b.getD i z65).f1.size : Int) > 90
      · refine ev_pos c2 (ev_cast (Ev.now _) ?_)
        rw [decide_eq_false (show ¬ (b.getD i z65).f1.size ≤ 90 by omega)]
        rfl
      · refine ev_neg c2 (ev_cast e ?_)
        rw [decide_eq_true (show (b.getD i z65).f1.size ≤ 90 by omega)]
        rfl
    · rw [decide_eq_false c]
      exact ev_neg (by simp) (ev_cast (Ev.now _) (by simp))
theorem spec_DiskOk_ev (a : List ByteArray) (b : List S65) (ha : a.length ≤ 140737488351232) (hb : b.length ≤ 140737488351232) : Ev (fun k => spec_DiskOk.f k a b) (diskGood a b) := by
  have hj : Ev (fun k => spec_DiskOk.j0 k true a b) false := by
    apply ev_shift
    simp only [spec_DiskOk.j0]
    exact ev_pos trivial (Ev.now _)
  unfold spec_DiskOk.f diskGood
  by_cases c1 : (a.length : Int) > 120
  · rw [decide_eq_false (show ¬ a.length ≤ 120 by omega)]
    exact ev_pos c1 hj
  · rw [decide_eq_true (show a.length ≤ 120 by omega)]
    refine ev_neg c1 ?_
    by_cases c2 : (b.length : Int) > 400
    · rw [decide_eq_true c2, decide_eq_false (show ¬ b.length ≤ 400 by omega)]
      exact hj
    · rw [decide_eq_false c2, decide_eq_true (show b.length ≤ 400 by omega)]
      apply ev_shift
      simp only [spec_DiskOk.j0]
      refine ev_neg (by simp) ?_
      rw [Bool.true_and, Bool.true_and]
      have := ev_loop (fun k i => spec_DiskOk.l0 k (i : Int) a b) (fun i => (a.drop i).all (fun s => decide (s.size ≤ 90)) && b.all (putGood a.length)) a.length ?_ ?_ 0 (Nat.zero_le _)
      · exact this
      · simp only [spec_DiskOk.l0]
        refine ev_neg (by omega) (Ev.bind (l3PutsOk_ev b a.length hb ha) (ev_cast (Ev.now _) ?_))
        rw [List.drop_length]
        rfl
      · intro i hi e
        simp only [spec_DiskOk.l0]
        refine ev_pos (by omega) (ev_pos (by omega) ?_)
        rw [rdOf_nat, wrap_nat (by omega), drop_cons ByteArray.empty a i hi, List.all_cons]
        by_cases c3 : ((a.getD i ByteArray.empty).size : Int) > 90
        · refine ev_pos c3 (ev_cast (Ev.now _) ?_)
          rw [decide_eq_false (show ¬ (a.getD i ByteArray.empty).size ≤ 90 by omega)]
          rfl
        · refine ev_neg c3 (ev_cast e ?_)
          rw [decide_eq_true (show (a.getD i ByteArray.empty).size ≤ 90 by omega), Bool.true_and]
theorem spec_l1Copy_eq (l : List ByteArray) (h : l.length < 8796093022208) : spec_l1Copy.f l = some l := by
  unfold spec_l1Copy.f
  simp only [Option.bind_some, List.length_nil, Nat.zero_add, List.nil_append]
  rw [if_pos h]
theorem spec_l3Copy_eq (a : List ByteArray) (b : List S65) (ha : a.length ≤ 1099511627776) (hb : b.length ≤ 1099511627776) : spec_l3Copy.f a b = some (a, b) := by
  unfold spec_l3Copy.f
  rw [spec_l1Copy_eq a (by omega)]
  simp only [Option.bind_some, List.length_nil, Nat.zero_add, List.nil_append]
  rw [if_pos (by omega)]
theorem spec_SectorWrite_ev (a : List ByteArray) (b : List S65) (t : Int) (s : ByteArray) (ha : a.length ≤ 1099511627776) (hb : b.length ≤ 1099511627775) : Ev (fun k => spec_SectorWrite.f k a b t s) (sectorWrite a b t s) := by
  have hc := spec_l3Copy_eq a b ha (by omega)
  unfold spec_SectorWrite.f sectorWrite
  refine ev_eq hc (ev_pos (show b.length < 5864062014805 by omega) (ev_some (Ev.bind (spec_DiskOk_ev a b (by omega) (by omega)) ?_)))
  cases h1 : diskGood a b
  · rw [if_neg (by simp)]
    exact ev_neg (by simp) (ev_eq hc (Ev.now _))
  · refine ev_pos rfl (Ev.bind (spec_DiskOk_ev a (b ++ [⟨t, s⟩]) (by omega) (by rw [List.length_append, List.length_singleton]; omega)) ?_)
    cases h2 : diskGood a (b ++ [⟨t, s⟩])
    · rw [if_neg (by decide : ¬ (true = true ∧ false = true))]
      exact ev_neg (by decide) (ev_eq hc (Ev.now _))
    · rw [if_pos (⟨rfl, rfl⟩ : true = true ∧ true = true)]
      first | exact Ev.now _ | exact ev_pos rfl (Ev.now _)
theorem FnFlushed : laws_FnFlushed.Pure := by
  intro l hl _ _
  apply Ev.rounds (g := fun k => laws_FnFlushed.f k l)
  unfold laws_FnFlushed.f
  by_cases hbig : (l.length : Int) > 1048576
  · exact ev_eq (show laws_big.f l = some true by unfold laws_big.f; rw [decide_eq_true hbig]) (ev_pos rfl (Ev.now _))
  refine ev_eq (show laws_big.f l = some false by unfold laws_big.f; rw [decide_eq_false hbig]) (ev_neg (by simp) (ev_shift ?_))
  simp only [laws_FnFlushed.j0]
  obtain ⟨a, b, t, s, e, ha, hb⟩ := DrawSectorWrite_evJ l (by omega)
  obtain ⟨a2, b2, ks, e2, _, _, hk⟩ := DrawFall_evJ l (by omega)
  refine Ev.bind e (Ev.bind e2 (ev_eq (impl_SectorWrite_eq a b t s (by omega) (by omega)) (Ev.bind (spec_SectorWrite_ev a b t s (by omega) (by omega)) (ev_neg (by simp) (ev_shift ?_)))))
  simp only [laws_FnFlushed.j1]
  unfold sectorWrite
  by_cases c : diskGood a b = true ∧ diskGood a (b ++ [⟨t, s⟩]) = true
  · rw [if_pos c]
    exact ev_pos (by first | rfl | trivial) (FnFlushed_j2 ks a b t s ha hb c.2)
  · rw [if_neg c]
    exact ev_neg (by simp) (Ev.bind (spec_DiskSame_ev a b a b (by omega) (by omega)) (ev_cast (Ev.now _) (by simp)))
end Go.Proofs.Ytgmpdkefegofhaa.Pure
namespace Go.Proofs.Ytgmpdkefegofhaa
open Go.ChangeShapes Go.WideShapes
/-- The printed row names it so. -/
theorem PrintWords.sized_ints {H : Type} {enc : TypeId × Value → H} {P : Program} {W : World} {base : Nat} {spare : Nat → Bool} {held : Bool} {t e : TypeId} {k : IntKind} {a : Option Addr} {len cap : Nat} {d : DataW H} {ps : List MemPlace} {ts : List TypeId} {ds : List (DataW H)} {j : Nat}
    (hsz : (DataW.weightsEach P ts ds).all (· ≤ reachBytes) = true) (ht : ts[j]? = some t) (hd : ds[j]? = some d) (hu : P.underlying t = some (.slice e)) (he : P.underlying e = some (.int k)) (hc : P.cellsOf e = 1) {B : Nat} (hB : P.bytesOf e = B)
    (h : DataW.Trod enc P W base spare held t (.slice a len cap) d ps) : len * B ≤ 140737488351232 :=
  Go.Proofs.YtgmpdkefegofhaaW.PrintWords.sized_ints hsz ht hd hu he hc hB h
end Go.Proofs.Ytgmpdkefegofhaa
