/- FnExactHomeOf: the law's function of the print answers true for every input within the row's bounds. Conditions: none but the bounds that the row itself gives. -/
import Derived.Test.YtgmpdkefegofhaaJFnExactHomeOf
import Derived.Test.YtgmpdkefegofhaaPFnExactHomeOfx6
import Derived.OpenShut
import Derived.Laws.BitsLemmas
namespace Go.Proofs.Ytgmpdkefegofhaa.Pure
open Go Go.RowKit Go.Proofs.Ytgmpdkefegofhaa.PFnExactHomeOf Go.Proofs.YtgmpdkefegofhaaW.PrintWords Go.Proofs.YtgmpdkefegofhaaW.PrintLast Go.Proofs.YtgmpdkefegofhaaW.PrintMore
set_option linter.unusedVariables false
set_option linter.unusedSimpArgs false

theorem eqPut_refl (a : Int) (s : ByteArray) : laws_eqPut.f a s a s = some true := by
  unfold laws_eqPut.f
  rw [if_pos rfl, if_pos rfl]
theorem ev_eq {α β : Type} {o : Option α} {a : α} {f : Nat → α → Option β} {r : β} (h : o = some a) (e : Ev (fun k => f k a) r) : Ev (fun k => o.bind (f k)) r := by
  subst h
  exact e
theorem ev_shift {α : Type} {g : Nat → Option α} {r : α} (h : Ev (fun k => g (k + 1)) r) : Ev g r := Ev.step (f := fun k => g (k + 1)) (fun _ => rfl) h
theorem ev_loop {ρ : Type} (L : Nat → Nat → Option ρ) (res : Nat → ρ) (n : Nat) (he : Ev (fun k => L (k + 1) n) (res n))
    (hs : ∀ i, i < n → Ev (fun k => L k (i + 1)) (res (i + 1)) → Ev (fun k => L (k + 1) i) (res i)) : ∀ i, i ≤ n → Ev (fun k => L k i) (res i) := by
  have key : ∀ d i, i + d = n → Ev (fun k => L k i) (res i) := by
    intro d
    induction d with
    | zero =>
      intro i h
      obtain rfl : i = n := by omega
      exact ev_shift he
    | succ d ih =>
      intro i h
      exact ev_shift (hs i (by omega) (ih (i + 1) (by omega)))
  intro i h
  exact key (n - i) i (by omega)
theorem ev_neg {α : Type} {c : Prop} [Decidable c] {f g : Nat → Option α} {r : α} (h : ¬ c) (e : Ev g r) : Ev (fun k => if c then f k else g k) r := by
  simpa only [if_neg h] using e
theorem ev_pos {α : Type} {c : Prop} [Decidable c] {f g : Nat → Option α} {r : α} (h : c) (e : Ev f r) : Ev (fun k => if c then f k else g k) r := by
  simpa only [if_pos h] using e
theorem wrap_nat {i : Nat} (h : i < 9223372036854775807) : wrap64 ((i : Int) + 1) = ((i + 1 : Nat) : Int) := by
  unfold wrap64
  omega
theorem eqPutS_refl (a : List S65) (h : a.length ≤ 140737488351232) : Ev (fun k => laws_eqPutS.f k a a) true := by
  unfold laws_eqPutS.f
  refine ev_pos rfl ?_
  have := ev_loop (fun k i => laws_eqPutS.l0 k a a (i : Int)) (fun _ => true) a.length ?_ ?_ 0 (Nat.zero_le _)
  · exact this
  · simp only [laws_eqPutS.l0]
    exact ev_neg (by omega) (Ev.now _)
  · intro i hi e
    simp only [laws_eqPutS.l0]
    refine ev_pos (by omega) (ev_pos (by omega) (ev_pos (by omega) (ev_eq (eqPut_refl _ _) (ev_pos rfl ?_))))
    rw [wrap_nat (by omega)]
    exact e
theorem drop_cons {α : Type} (d : α) (l : List α) (i : Nat) (h : i < l.length) : l.drop i = l.getD i d :: l.drop (i + 1) := by
  rw [List.drop_eq_getElem_cons h]
  simp [List.getD, h]
theorem drop_eq {α : Type} [DecidableEq α] (d : α) (a b : List α) (i : Nat) (ha : i < a.length) (hb : i < b.length) : (a.drop i = b.drop i) ↔ (a.getD i d = b.getD i d ∧ a.drop (i + 1) = b.drop (i + 1)) := by
  rw [drop_cons d a i ha, drop_cons d b i hb]
  simp
theorem ev_cast {α : Type} {g : Nat → Option α} {r r' : α} (h : Ev g r) (e : r = r') : Ev g r' := e ▸ h
theorem rdOf_nat {α : Type} (d : α) (xs : List α) (i : Nat) : rdOf d xs (i : Int) = xs.getD i d := by simp [rdOf]
theorem toList_inj {a b : ByteArray} : a.toList = b.toList ↔ a = b := by
  constructor
  · intro h
    have h' := h
    rw [ByteArray.toList_eq, ByteArray.toList_eq] at h'
    cases a
    cases b
    simp only [ByteArray.mk.injEq]
    exact Array.toList_inj.mp h'
  · intro h
    rw [h]
theorem eqStringS_ev (a b : List ByteArray) (h : a.length ≤ 140737488351232) : Ev (fun k => laws_eqStringS.f k a b) (decide (a = b)) := by
  unfold laws_eqStringS.f
  by_cases hl : a.length = b.length
  · refine ev_pos (by omega) ?_
    have := ev_loop (fun k i => laws_eqStringS.l0 k a b (i : Int)) (fun i => decide (a.drop i = b.drop i)) a.length ?_ ?_ 0 (Nat.zero_le _)
    · exact this
    · simp only [laws_eqStringS.l0]
      refine ev_neg (by omega) ?_
      refine ev_cast (Ev.now _) ?_
      rw [List.drop_length, hl, List.drop_length]
      simp
    · intro i hi e
      simp only [laws_eqStringS.l0]
      refine ev_pos (by omega) (ev_pos (by omega) (ev_pos (by omega) ?_))
      rw [wrap_nat (by omega), rdOf_nat, rdOf_nat]
      by_cases hc : a.getD i ByteArray.empty = b.getD i ByteArray.empty
      · refine ev_pos (toList_inj.mpr hc) (ev_cast e ?_)
        rw [decide_eq_decide, drop_eq ByteArray.empty a b i hi (by omega)]
        exact ⟨fun z => ⟨hc, z⟩, fun z => z.2⟩
      · refine ev_neg (fun z => hc (toList_inj.mp z)) (ev_cast (Ev.now _) ?_)
        symm
        rw [decide_eq_false_iff_not, drop_eq ByteArray.empty a b i hi (by omega)]
        exact fun z => hc z.1
  · refine ev_neg (by omega) (ev_cast (Ev.now _) ?_)
    symm
    rw [decide_eq_false_iff_not]
    exact fun z => hl (by rw [z])
theorem eqDisk_refl (a : List ByteArray) (b : List S65) (ha : a.length ≤ 140737488351232) (hb : b.length ≤ 140737488351232) : Ev (fun k => laws_eqDisk.f k a b a b) true := by
  unfold laws_eqDisk.f
  exact Ev.bind (eqStringS_ev a a ha) (ev_pos (by simp) (Ev.bind (eqPutS_refl b hb) (ev_pos rfl (Ev.now _))))
theorem ev_some {α β : Type} {a : α} {f : Nat → α → Option β} {r : β} (e : Ev (fun k => f k a) r) : Ev (fun k => (some a).bind (f k)) r := e
theorem strOfNums_size (l : List Int) : (strOfNums l).size = l.length := by
  simp [strOfNums, ByteArray.size]
theorem wrap_in {x : Int} (h0 : -9223372036854775808 ≤ x) (h1 : x ≤ 9223372036854775807) : wrap64 x = x := by
  unfold wrap64
  omega
theorem markText_l (n : Nat) : ∀ acc : ByteArray, acc.size + n ≤ 4000000000000000000 → ∃ t, Ev (fun k => laws_markText.l0 k (n : Int) acc) t := by
  induction n using Nat.strongRecOn with
  | _ n ih =>
    intro acc ha
    by_cases h : 0 < n
    · have e1 : wrap64 (Int.tdiv (n : Int) 10) = ((n / 10 : Nat) : Int) := by rw [Int.tdiv_eq_ediv_of_nonneg (by omega), wrap_in (by omega) (by omega)]; omega
      obtain ⟨t, ht⟩ := ih (n / 10) (by omega) (strOfNums [(wrap64 (48 + (Int.tmod (n : Int) 10))) % 256] ++ acc) (by rw [ByteArray.size_append, strOfNums_size]; simp only [List.length_cons, List.length_nil]; omega)
      refine ⟨t, ?_⟩
      apply ev_shift
      simp only [laws_markText.l0]
      refine ev_pos (by omega) (ev_some (ev_pos (by rw [strOfNums_size]; simp only [List.length_cons, List.length_nil]; omega) ?_))
      rw [e1]
      exact ht
    · refine ⟨(⟨#[109]⟩ : ByteArray) ++ acc, ?_⟩
      apply ev_shift
      simp only [laws_markText.l0]
      exact ev_neg (by omega) (ev_pos (by omega) (Ev.now _))
theorem markText_any (m : Int) (h : m ≤ 1000000000000000000) : ∃ t, Ev (fun k => laws_markText.f k m) t := by
  unfold laws_markText.f
  by_cases h0 : m ≤ 0
  · exact ⟨_, ev_pos h0 (Ev.now _)⟩
  · obtain ⟨n, rfl⟩ := Int.eq_ofNat_of_zero_le (show 0 ≤ m by omega)
    obtain ⟨t, ht⟩ := markText_l n (⟨#[]⟩ : ByteArray) (by simp only [ByteArray.size, List.size_toArray, List.length_nil]; omega)
    exact ⟨t, ev_neg h0 ht⟩
noncomputable def markText (m : Int) : ByteArray := if h : m ≤ 1000000000000000000 then Classical.choose (markText_any m h) else ByteArray.empty
theorem markText_ev (m : Int) (h : m ≤ 1000000000000000000) : Ev (fun k => laws_markText.f k m) (markText m) := by
  unfold markText
  rw [dif_pos h]
  exact Classical.choose_spec (markText_any m h)
theorem range_getD {α : Type} (d : α) (g : Nat → α) (n i : Nat) (h : i < n) : ((List.range n).map g).getD i d = g i := by
  simp [List.getD, h]
theorem wrap_up {i : Int} (h0 : 0 ≤ i) (h : i < 9223372036854775807) : wrap64 (i + 1) = i + 1 := by
  unfold wrap64
  omega
theorem heldStringS_ev (n : Nat) (m : Int) (h : n ≤ 140737488351232) (h0 : 0 ≤ m) (h1 : m ≤ 100000000000000000) :
    Ev (fun k => laws_heldStringS.f k ((List.range n).map fun j : Nat => markText (m + (j : Int))) m) (m + n) := by
  unfold laws_heldStringS.f
  have := ev_loop (fun k i => laws_heldStringS.l0 k ((List.range n).map fun j : Nat => markText (m + (j : Int))) (m + (i : Int)) (i : Int)) (fun _ => m + n) n ?_ ?_ 0 (Nat.zero_le _)
  · simpa using this
  · simp only [laws_heldStringS.l0]
    refine ev_neg (by simp) ?_
    exact Ev.now _
  · intro i hi e
    simp only [laws_heldStringS.l0]
    refine ev_pos (by simp; omega) (ev_pos (by omega) (Ev.bind (markText_ev _ (by omega)) (ev_pos ?_ ?_)))
    · rw [rdOf_nat, range_getD ByteArray.empty _ n i hi]
    · rw [wrap_nat (by omega), wrap_up (by omega) (by omega)]
      have e1 : m + (i : Int) + 1 = m + ((i + 1 : Nat) : Int) := by omega
      rw [e1]
      exact e
/-- A write that a disk of n sectors can bear. -/
def putGood (n : Nat) (p : S65) : Bool := decide (0 ≤ p.f0 ∧ p.f0 ≤ (n : Int) - 1) && decide (p.f1.size ≤ 90)
def diskGood (a : List ByteArray) (b : List S65) : Bool := decide (a.length ≤ 120) && (decide (b.length ≤ 400) && (a.all (fun s => decide (s.size ≤ 90)) && b.all (putGood a.length)))
def homed (a : List ByteArray) (b : List S65) (n : Int) : Bool := diskGood a b && (decide (1 ≤ n ∧ n ≤ 48) && ((a.length : Int) == 2 * n + 1))
/-- What a sector reads as, behind writes. -/
def readAt (t : Int) (b : List S65) (d : ByteArray) : ByteArray := b.foldl (fun acc p => if p.f0 = t then p.f1 else acc) d
def sectorRead (a : List ByteArray) (b : List S65) (t : Int) : ByteArray × Bool :=
  if diskGood a b = true ∧ 0 ≤ t ∧ t ≤ (a.length : Int) - 1 then (readAt t b (a.getD t.toNat ByteArray.empty), true) else (⟨#[]⟩, false)
/-- The contents of the home sectors, from the ith on. -/
def homesFrom (a : List ByteArray) (b : List S65) (n : Nat) : Nat → Nat → List ByteArray
  | 0, _ => []
  | d + 1, i => (sectorRead a b ((n + 1 + i : Nat) : Int)).1 :: homesFrom a b n d (i + 1)
def homeOf (a : List ByteArray) (b : List S65) (n : Int) : List ByteArray := if homed a b n = true then homesFrom a b n.toNat n.toNat 0 else []
theorem homed_split {a : List ByteArray} {b : List S65} {n : Int} (h : homed a b n = true) : diskGood a b = true ∧ (1 ≤ n ∧ n ≤ 48) ∧ (a.length : Int) = 2 * n + 1 := by
  unfold homed at h
  rw [Bool.and_eq_true, Bool.and_eq_true] at h
  exact ⟨h.1, of_decide_eq_true h.2.1, by simpa using h.2.2⟩
theorem homesFrom_length (a : List ByteArray) (b : List S65) (n : Nat) : ∀ (d i : Nat), (homesFrom a b n d i).length = d := by
  intro d
  induction d with
  | zero =>
    intro i
    rfl
  | succ d ih =>
    intro i
    rw [homesFrom, List.length_cons, ih]
theorem homeOf_length (a : List ByteArray) (b : List S65) (n : Int) : (homeOf a b n).length ≤ 48 := by
  unfold homeOf
  split
  · rename_i h
    obtain ⟨_, hn, _⟩ := homed_split h
    rw [homesFrom_length]
    omega
  · simp
theorem decide_within (a lo hi : Int) : impl_within.f a lo hi = some (decide (lo ≤ a ∧ a ≤ hi)) := by
  unfold impl_within.f
  by_cases h : a ≥ lo
  · rw [if_pos h]
    congr 1
    rw [decide_eq_decide]
    omega
  · rw [if_neg h]
    congr 1
    symm
    rw [decide_eq_false_iff_not]
    omega
theorem diskOk_good (a : List ByteArray) (b : List S65) (ha : a.length ≤ 140737488351232) : diskOk a b = diskGood a b := by
  unfold diskOk diskGood
  congr 3
  · rw [List.not_any_eq_all_not]
    congr 1
    funext s
    unfold longText
    rw [Bool.not_not, decide_eq_decide]
    omega
  · rw [List.not_any_eq_all_not]
    congr 1
    funext p
    unfold impl_DiskOk_2.f putGood
    rw [Bool.not_not, wrap_in (by omega) (by omega)]
    congr 1
    rw [decide_eq_decide]
    omega
theorem impl_DiskOk_eq (a : List ByteArray) (b : List S65) (ha : a.length ≤ 140737488351232) : impl_DiskOk.f a b = some (diskGood a b) := by
  rw [← diskOk_good a b ha]
  rfl
theorem rdPut_nat (xs : List S65) (i : Nat) : rd_T65 xs (i : Int) = xs.getD i z65 := by simp [rd_T65]
theorem impl_sectorRead_l (b : List S65) (t : Int) (hb : b.length ≤ 140737488351232) (d : Nat) : ∀ (i : Nat) (cur : ByteArray), i + d = b.length →
    Ev (fun k => impl_SectorRead.l0 k t cur b (b.length : Int) (i : Int)) (readAt t (b.drop i) cur, true) := by
  induction d with
  | zero =>
    intro i cur hi
    apply ev_shift
    simp only [impl_SectorRead.l0]
    rw [List.drop_eq_nil_of_le (by omega)]
    exact ev_neg (by omega) (Ev.now _)
  | succ d ih =>
    intro i cur hi
    apply ev_shift
    simp only [impl_SectorRead.l0]
    refine ev_pos (by omega) (ev_pos (by omega) (ev_pos (by omega) ?_))
    rw [rdPut_nat, wrap_nat (by omega), drop_cons z65 b i (by omega)]
    have e : ∀ x l, readAt t (x :: l) cur = readAt t l (if x.f0 = t then x.f1 else cur) := fun _ _ => rfl
    rw [e]
    by_cases c : (b.getD i z65).f0 = t
    · rw [if_pos c]
      exact ev_pos c (ih (i + 1) _ (by omega))
    · rw [if_neg c]
      exact ev_neg c (ih (i + 1) _ (by omega))
theorem rdOf_toNat {α : Type} (d : α) (xs : List α) (t : Int) : rdOf d xs t = xs.getD t.toNat d := rfl
theorem impl_SectorRead_ev (a : List ByteArray) (b : List S65) (t : Int) (ha : a.length ≤ 140737488351232) (hb : b.length ≤ 140737488351232) : Ev (fun k => impl_SectorRead.f k a b t) (sectorRead a b t) := by
  have hj : Ev (fun k => impl_SectorRead.j0 k t true a b) (⟨#[]⟩, false) := by
    apply ev_shift
    simp only [impl_SectorRead.j0]
    exact ev_pos trivial (Ev.now _)
  unfold impl_SectorRead.f sectorRead
  refine ev_eq (impl_DiskOk_eq a b ha) ?_
  cases hd : diskGood a b
  · rw [if_neg (by simp)]
    exact ev_neg (by simp) hj
  · refine ev_pos rfl (ev_eq (decide_within _ _ _) ?_)
    rw [wrap_in (x := (a.length : Int) - 1) (by omega) (by omega)]
    by_cases c : 0 ≤ t ∧ t ≤ (a.length : Int) - 1
    · rw [decide_eq_true c, if_pos ⟨rfl, c⟩]
      apply ev_shift
      simp only [impl_SectorRead.j0]
      refine ev_neg (by simp) (ev_pos c.1 (ev_pos (by omega) ?_))
      rw [rdOf_toNat]
      exact impl_sectorRead_l b t hb b.length 0 _ (Nat.zero_add _)
    · rw [decide_eq_false c, if_neg (fun z => c z.2)]
      exact hj
theorem impl_HomeOf_l (a : List ByteArray) (b : List S65) (n : Nat) (hn : n ≤ 48) (ha : a.length ≤ 140737488351232) (hb : b.length ≤ 140737488351232) : ∀ (d i : Nat) (acc : List ByteArray), i + d = n → acc.length ≤ i → Ev (fun k => impl_HomeOf.l0 k (n : Int) acc (n : Int) (i : Int) a b) (acc ++ homesFrom a b n d i) := by
  intro d
  induction d with
  | zero =>
    intro i acc hi _
    apply ev_shift
    simp only [impl_HomeOf.l0]
    exact ev_neg (by omega) (ev_cast (Ev.now _) (by rw [homesFrom, List.append_nil]))
  | succ d ih =>
    intro i acc hi hl
    apply ev_shift
    simp only [impl_HomeOf.l0]
    have hw : wrap64 (wrap64 ((n : Int) + 1) + (i : Int)) = ((n + 1 + i : Nat) : Int) := by
      rw [wrap_in (x := (n : Int) + 1) (by omega) (by omega), wrap_in (by omega) (by omega)]
      omega
    rw [hw, wrap_nat (i := i) (by omega)]
    refine ev_pos (by omega) (Ev.bind (impl_SectorRead_ev a b _ ha hb) (ev_pos (by omega) (ev_cast (ih (i + 1) _ (by omega) (by rw [List.length_append, List.length_singleton]; omega)) ?_)))
    rw [homesFrom, List.append_assoc]
    rfl
theorem impl_homed_eq (a : List ByteArray) (b : List S65) (n : Int) (ha : a.length ≤ 140737488351232) : impl_homed.f a b n = some (homed a b n) := by
  unfold impl_homed.f homed
  rw [impl_DiskOk_eq a b ha]
  simp only [Option.bind_some]
  cases diskGood a b
  · rw [if_neg (by simp)]
    rfl
  · rw [if_pos rfl, decide_within]
    simp only [Option.bind_some]
    by_cases c : 1 ≤ n ∧ n ≤ 48
    · rw [decide_eq_true c, if_pos rfl, wrap_in (x := 2 * n) (by omega) (by omega), wrap_in (by omega) (by omega)]
      rfl
    · rw [decide_eq_false c, if_neg (by simp)]
      rfl
theorem impl_HomeOf_ev (a : List ByteArray) (b : List S65) (n : Int) (ha : a.length ≤ 140737488351232) (hb : b.length ≤ 140737488351232) : Ev (fun k => impl_HomeOf.f k a b n) (homeOf a b n) := by
  unfold impl_HomeOf.f homeOf
  refine ev_eq (impl_homed_eq a b n ha) ?_
  by_cases h : homed a b n = true
  · obtain ⟨_, hn, _⟩ := homed_split h
    rw [if_pos h]
    obtain ⟨m, rfl⟩ : ∃ m : Nat, n = (m : Int) := ⟨n.toNat, by omega⟩
    rw [Int.toNat_natCast]
    exact ev_pos h (impl_HomeOf_l a b m (by omega) ha hb m 0 [] (by omega) (by simp))
  · rw [if_neg h]
    exact ev_neg h (Ev.now _)
theorem getD_set_self {α : Type} (d : α) (l : List α) (i : Nat) (v : α) (h : i < l.length) : (l.set i v).getD i d = v := by
  simp [List.getD, h]
noncomputable def markPut (m : Int) (j : Nat) : S65 := ⟨m + 2 * (j : Int), markText (m + 2 * (j : Int) + 1)⟩
theorem mark_step {α : Type} (d : α) (g : Nat → α) (l : List α) (i : Nat) (h : i < l.length) : ((List.range i).map g ++ l.drop i).set i (g i) = (List.range (i + 1)).map g ++ l.drop (i + 1) := by
  have hlen : ((List.range i).map g).length = i := by simp
  rw [List.set_append_right _ _ (by omega), hlen, Nat.sub_self, drop_cons d l i h, List.set_cons_zero, List.range_succ, List.map_append, List.append_assoc]
  rfl
theorem markPutS_ev (l : List S65) (m : Int) (h : l.length ≤ 140737488351232) (h0 : 0 ≤ m) (h1 : m ≤ 100000000000000000) :
    Ev (fun k => laws_markPutS.f k l m) (m + 2 * l.length, (List.range l.length).map (markPut m)) := by
  unfold laws_markPutS.f
  have := ev_loop (fun k i => laws_markPutS.l0 k ((List.range i).map (markPut m) ++ l.drop i) (m + 2 * (i : Int)) (i : Int)) (fun _ => (m + 2 * (l.length : Int), (List.range l.length).map (markPut m))) l.length ?_ ?_ 0 (Nat.zero_le _)
  · simpa using this
  · simp only [laws_markPutS.l0]
    refine ev_neg (by simp) ?_
    simp only [List.drop_length, List.append_nil]
    exact Ev.now _
  · intro i hi e
    simp only [laws_markPutS.l0]
    have hlen : i < ((List.range i).map (markPut m) ++ l.drop i).length := by simp; omega
    refine ev_pos (by simp; omega) (ev_pos (by omega) (ev_some ?_))
    rw [wrap_up (i := m + 2 * (i : Int)) (by omega) (by omega)]
    refine Ev.bind (markText_ev _ (by omega)) ?_
    simp only [rdPut_nat, Int.toNat_natCast]
    rw [wrap_nat (by omega), getD_set_self _ _ _ _ hlen, List.set_set, wrap_up (i := m + 2 * (i : Int) + 1) (by omega) (by omega)]
    have hs := mark_step z65 (markPut m) l i hi
    simp only [markPut] at hs
    have e1 : m + 2 * (i : Int) + 1 + 1 = m + 2 * ((i + 1 : Nat) : Int) := by omega
    dsimp only [markPut]
    rw [hs, e1]
    exact e
theorem markStringS_ev (l : List ByteArray) (m : Int) (h : l.length ≤ 140737488351232) (h0 : 0 ≤ m) (h1 : m ≤ 100000000000000000) :
    Ev (fun k => laws_markStringS.f k l m) (m + l.length, (List.range l.length).map fun j : Nat => markText (m + (j : Int))) := by
  unfold laws_markStringS.f
  have := ev_loop (fun k i => laws_markStringS.l0 k ((List.range i).map (fun j : Nat => markText (m + (j : Int))) ++ l.drop i) (m + (i : Int)) (i : Int)) (fun _ => (m + l.length, (List.range l.length).map fun j : Nat => markText (m + (j : Int)))) l.length ?_ ?_ 0 (Nat.zero_le _)
  · simpa using this
  · simp only [laws_markStringS.l0]
    refine ev_neg (by simp) ?_
    simp only [List.drop_length, List.append_nil]
    exact Ev.now _
  · intro i hi e
    simp only [laws_markStringS.l0]
    refine ev_pos (by simp; omega) (Ev.bind (markText_ev _ (by omega)) (ev_pos (by omega) ?_))
    rw [wrap_nat (by omega), Int.toNat_natCast, mark_step ByteArray.empty (fun j : Nat => markText (m + (j : Int))) l i hi, wrap_up (by omega) (by omega)]
    have e1 : m + (i : Int) + 1 = m + ((i + 1 : Nat) : Int) := by omega
    rw [e1]
    exact e
noncomputable def markedP (n : Nat) (m : Int) : List S65 := (List.range n).map (markPut m)
noncomputable def markedS (n : Nat) (m : Int) : List ByteArray := (List.range n).map fun j : Nat => markText (m + (j : Int))
theorem markDisk_ev (a : List ByteArray) (b : List S65) (m : Int) (ha : a.length ≤ 10000000000) (hb : b.length ≤ 10000000000) (h0 : 0 ≤ m) (h1 : m ≤ 10000000000000000) :
    Ev (fun k => laws_markDisk.f k a b m) (m + a.length + 2 * b.length, markedS a.length m, markedP b.length (m + a.length)) := by
  unfold laws_markDisk.f
  exact Ev.bind (markStringS_ev a m (by omega) h0 (by omega)) (Ev.bind (markPutS_ev b (m + a.length) (by omega) (by omega) (by omega)) (Ev.now _))
def ofLPut (x : S111) : S65 := ⟨x.f0, x.f1⟩
theorem decide_l1In (a lo hi : Int) : spec_l1In.f a lo hi = some (decide (lo ≤ a ∧ a ≤ hi)) := by
  unfold spec_l1In.f
  by_cases h : a ≥ lo
  · rw [if_pos h]
    congr 1
    rw [decide_eq_decide]
    omega
  · rw [if_neg h]
    congr 1
    symm
    rw [decide_eq_false_iff_not]
    omega
theorem l3PutsOk_ev (b : List S65) (n : Nat) (hb : b.length ≤ 140737488351232) (hn : n ≤ 140737488351232) : Ev (fun k => spec_l3PutsOk.f k b (n : Int)) (b.all (putGood n)) := by
  unfold spec_l3PutsOk.f
  have := ev_loop (fun k i => spec_l3PutsOk.l0 k b (n : Int) (i : Int)) (fun i => (b.drop i).all (putGood n)) b.length ?_ ?_ 0 (Nat.zero_le _)
  · exact this
  · simp only [spec_l3PutsOk.l0]
    refine ev_neg (by omega) (ev_cast (Ev.now _) ?_)
    rw [List.drop_length]
    rfl
  · intro i hi e
    simp only [spec_l3PutsOk.l0]
    refine ev_pos (by omega) (ev_pos (by omega) ?_)
    simp only [rdPut_nat]
    rw [wrap_in (x := (n : Int) - 1) (by omega) (by omega), wrap_nat (by omega), drop_cons z65 b i hi]
    refine ev_eq (decide_l1In _ _ _) ?_
    rw [List.all_cons]
    unfold putGood
    by_cases c : 0 ≤ (b.getD i z65).f0 ∧ (b.getD i z65).f0 ≤ (n : Int) - 1
    · rw [decide_eq_true c]
      refine ev_pos rfl ?_
      by_cases c2 : ((b.getD i z65).f1.size : Int) > 90
      · refine ev_pos c2 (ev_cast (Ev.now _) ?_)
        rw [decide_eq_false (show ¬ (b.getD i z65).f1.size ≤ 90 by omega)]
        rfl
      · refine ev_neg c2 (ev_cast e ?_)
        rw [decide_eq_true (show (b.getD i z65).f1.size ≤ 90 by omega)]
        rfl
    · rw [decide_eq_false c]
      exact ev_neg (by simp) (ev_cast (Ev.now _) (by simp))
theorem spec_DiskOk_ev (a : List ByteArray) (b : List S65) (ha : a.length ≤ 140737488351232) (hb : b.length ≤ 140737488351232) : Ev (fun k => spec_DiskOk.f k a b) (diskGood a b) := by
  have hj : Ev (fun k => spec_DiskOk.j0 k true a b) false := by
    apply ev_shift
    simp only [spec_DiskOk.j0]
    exact ev_pos trivial (Ev.now _)
  unfold spec_DiskOk.f diskGood
  by_cases c1 : (a.length : Int) > 120
  · rw [decide_eq_false (show ¬ a.length ≤ 120 by omega)]
    exact ev_pos c1 hj
  · rw [decide_eq_true (show a.length ≤ 120 by omega)]
    refine ev_neg c1 ?_
    by_cases c2 : (b.length : Int) > 400
    · rw [decide_eq_true c2, decide_eq_false (show ¬ b.length ≤ 400 by omega)]
      exact hj
    · rw [decide_eq_false c2, decide_eq_true (show b.length ≤ 400 by omega)]
      apply ev_shift
      simp only [spec_DiskOk.j0]
      refine ev_neg (by simp) ?_
      rw [Bool.true_and, Bool.true_and]
      have := ev_loop (fun k i => spec_DiskOk.l0 k (i : Int) a b) (fun i => (a.drop i).all (fun s => decide (s.size ≤ 90)) && b.all (putGood a.length)) a.length ?_ ?_ 0 (Nat.zero_le _)
      · exact this
      · simp only [spec_DiskOk.l0]
        refine ev_neg (by omega) (Ev.bind (l3PutsOk_ev b a.length hb ha) (ev_cast (Ev.now _) ?_))
        rw [List.drop_length]
        rfl
      · intro i hi e
        simp only [spec_DiskOk.l0]
        refine ev_pos (by omega) (ev_pos (by omega) ?_)
        rw [rdOf_nat, wrap_nat (by omega), drop_cons ByteArray.empty a i hi, List.all_cons]
        by_cases c3 : ((a.getD i ByteArray.empty).size : Int) > 90
        · refine ev_pos c3 (ev_cast (Ev.now _) ?_)
          rw [decide_eq_false (show ¬ (a.getD i ByteArray.empty).size ≤ 90 by omega)]
          rfl
        · refine ev_neg c3 (ev_cast e ?_)
          rw [decide_eq_true (show (a.getD i ByteArray.empty).size ≤ 90 by omega), Bool.true_and]
theorem spec_sectorRead_l (a : List ByteArray) (b : List S65) (t : Int) (hb : b.length ≤ 140737488351232) (h0 : 0 ≤ t) (h1 : t ≤ (a.length : Int) - 1) (n : Nat) : n ≤ b.length →
    Ev (fun k => spec_SectorRead.l0 k t ((n : Int) - 1) a b) (readAt t (b.take n) (a.getD t.toNat ByteArray.empty), true) := by
  induction n with
  | zero =>
    intro hn
    apply ev_shift
    simp only [spec_SectorRead.l0]
    exact ev_neg (by omega) (ev_pos h0 (ev_pos (by omega) (Ev.now _)))
  | succ n ih =>
    intro hn
    apply ev_shift
    simp only [spec_SectorRead.l0]
    rw [show ((n + 1 : Nat) : Int) - 1 = (n : Int) from by omega, wrap_in (x := (n : Int) - 1) (by omega) (by omega)]
    refine ev_pos (by omega) (ev_pos (by omega) (ev_pos (by omega) ?_))
    rw [rdPut_nat]
    have e : b.take (n + 1) = b.take n ++ [b.getD n z65] := by
      rw [List.take_succ_eq_append_getElem (by omega)]
      simp [List.getD, show n < b.length by omega]
    have e2 : readAt t (b.take (n + 1)) (a.getD t.toNat ByteArray.empty) = if (b.getD n z65).f0 = t then (b.getD n z65).f1 else readAt t (b.take n) (a.getD t.toNat ByteArray.empty) := by
      rw [e]
      unfold readAt
      rw [List.foldl_append]
      rfl
    rw [e2]
    by_cases c : (b.getD n z65).f0 = t
    · rw [if_pos c]
      exact ev_pos c (Ev.now _)
    · rw [if_neg c]
      exact ev_neg c (ih (by omega))
theorem spec_SectorRead_ev (a : List ByteArray) (b : List S65) (t : Int) (ha : a.length ≤ 140737488351232) (hb : b.length ≤ 140737488351232) : Ev (fun k => spec_SectorRead.f k a b t) (sectorRead a b t) := by
  have hj : Ev (fun k => spec_SectorRead.j0 k t true a b) (⟨#[]⟩, false) := by
    apply ev_shift
    simp only [spec_SectorRead.j0]
    exact ev_pos trivial (Ev.now _)
  unfold spec_SectorRead.f sectorRead
  refine Ev.bind (spec_DiskOk_ev a b ha hb) ?_
  cases hd : diskGood a b
  · rw [if_neg (by simp)]
    exact ev_neg (by simp) hj
  · refine ev_pos rfl (ev_eq (decide_l1In _ _ _) ?_)
    rw [wrap_in (x := (a.length : Int) - 1) (by omega) (by omega)]
    by_cases c : 0 ≤ t ∧ t ≤ (a.length : Int) - 1
    · rw [decide_eq_true c, if_pos ⟨rfl, c⟩]
      apply ev_shift
      simp only [spec_SectorRead.j0]
      refine ev_neg (by simp) ?_
      rw [wrap_in (x := (b.length : Int) - 1) (by omega) (by omega)]
      have := spec_sectorRead_l a b t hb c.1 c.2 b.length (Nat.le_refl _)
      rw [List.take_length] at this
      exact this
    · rw [decide_eq_false c, if_neg (fun z => c z.2)]
      exact hj
theorem spec_HomeOf_l (a : List ByteArray) (b : List S65) (n : Nat) (hn : n ≤ 48) (ha : a.length ≤ 140737488351232) (hb : b.length ≤ 140737488351232) : ∀ (d i : Nat) (acc : List ByteArray), i + d = n → acc.length ≤ i → Ev (fun k => spec_HomeOf.l0 k (n : Int) acc (i : Int) a b) (acc ++ homesFrom a b n d i) := by
  intro d
  induction d with
  | zero =>
    intro i acc hi _
    apply ev_shift
    simp only [spec_HomeOf.l0]
    exact ev_neg (by omega) (ev_cast (Ev.now _) (by rw [homesFrom, List.append_nil]))
  | succ d ih =>
    intro i acc hi hl
    apply ev_shift
    simp only [spec_HomeOf.l0]
    have hw : wrap64 (wrap64 ((n : Int) + 1) + (i : Int)) = ((n + 1 + i : Nat) : Int) := by
      rw [wrap_in (x := (n : Int) + 1) (by omega) (by omega), wrap_in (by omega) (by omega)]
      omega
    rw [hw, wrap_nat (i := i) (by omega)]
    refine ev_pos (by omega) (Ev.bind (spec_SectorRead_ev a b _ ha hb) (ev_pos (by omega) (ev_cast (ih (i + 1) _ (by omega) (by rw [List.length_append, List.length_singleton]; omega)) ?_)))
    rw [homesFrom, List.append_assoc]
    rfl
theorem spec_l4Ok_ev (a : List ByteArray) (b : List S65) (n : Int) (ha : a.length ≤ 140737488351232) (hb : b.length ≤ 140737488351232) : Ev (fun k => spec_l4Ok.f k a b n) (homed a b n) := by
  unfold spec_l4Ok.f homed
  refine Ev.bind (spec_DiskOk_ev a b ha hb) ?_
  cases diskGood a b
  · exact ev_neg (by simp) (Ev.now _)
  · refine ev_pos rfl (ev_eq (decide_l1In n 1 48) ?_)
    by_cases c : 1 ≤ n ∧ n ≤ 48
    · rw [decide_eq_true c, wrap_in (x := 2 * n) (by omega) (by omega), wrap_in (by omega) (by omega)]
      exact ev_pos rfl (Ev.now _)
    · rw [decide_eq_false c]
      exact ev_neg (by simp) (Ev.now _)
theorem spec_HomeOf_ev (a : List ByteArray) (b : List S65) (n : Int) (ha : a.length ≤ 140737488351232) (hb : b.length ≤ 140737488351232) : Ev (fun k => spec_HomeOf.f k a b n) (homeOf a b n) := by
  unfold spec_HomeOf.f homeOf
  refine ev_some (Ev.bind (spec_l4Ok_ev a b n ha hb) ?_)
  by_cases h : homed a b n = true
  · obtain ⟨_, hn, _⟩ := homed_split h
    rw [if_pos h]
    obtain ⟨m, rfl⟩ : ∃ m : Nat, n = (m : Int) := ⟨n.toNat, by omega⟩
    rw [Int.toNat_natCast]
    exact ev_pos h (spec_HomeOf_l a b m (by omega) ha hb m 0 [] (by omega) (by simp))
  · rw [if_neg h]
    exact ev_neg h (Ev.now _)
/-- The letters of all texts. -/
def letters (l : List ByteArray) : Nat := (l.map ByteArray.size).sum
/-- What is left of a measure, behind a row of texts: below zero, or the row is that short. -/
def leftS (l : List ByteArray) (left : Int) : Int := if (l.length : Int) + letters l ≤ left then left - l.length - letters l else -1
theorem getD_mem {α : Type} (d : α) (l : List α) (i : Nat) (h : i < l.length) : l.getD i d ∈ l := by
  simp [List.getD, h]
theorem rdLPut_nat (xs : List S111) (i : Nat) : rd_T111 xs (i : Int) = xs.getD i z111 := by simp [rd_T111]
theorem szPut_eq (a : Int) (s : ByteArray) (m : Int) (h0 : 0 ≤ m) (h1 : m ≤ 1048576) (hs : s.size ≤ maxLen) : laws_szPut.f a s m = some (if m - (s.size : Int) < 0 then -1 else m - (s.size : Int)) := by
  unfold maxLen at hs
  unfold laws_szPut.f
  rw [wrap_in (by omega) (by omega)]
  split <;> rfl
theorem szPutS_ev (l : List S111) (m : Int) (h0 : 0 ≤ m) (h1 : m ≤ 1048576) (hl : l.length ≤ maxLen) (hx : ∀ x ∈ l, x.f1.size ≤ maxLen) :
    ∃ r : Int, Ev (fun k => laws_szPutS.f k l m) r ∧ r ≤ m ∧ (0 ≤ r → (l.length : Int) ≤ m ∧ ∀ x ∈ l, (x.f1.size : Int) ≤ m) := by
  have hl' : l.length ≤ 9223372036854775807 := hl
  unfold laws_szPutS.f
  by_cases c : m - (l.length : Int) < 0
  · refine ⟨-1, ?_, by omega, by omega⟩
    rw [wrap_in (by omega) (by omega)]
    exact ev_pos c (Ev.now _)
  · rw [wrap_in (by omega) (by omega)]
    have key : ∀ (d i : Nat) (x : Int), i + d = l.length → 0 ≤ x → x ≤ m → (∀ j, j < i → ((l.getD j z111).f1.size : Int) ≤ m) →
        ∃ r : Int, Ev (fun k => laws_szPutS.l0 k l x (i : Int)) r ∧ r ≤ m ∧ (0 ≤ r → ∀ j, j < l.length → ((l.getD j z111).f1.size : Int) ≤ m) := by
      intro d
      induction d with
      | zero =>
        intro i x hi hx0 hx1 hj
        refine ⟨x, ev_shift ?_, hx1, fun _ => by rw [show l.length = i from by omega]; exact hj⟩
        simp only [laws_szPutS.l0]
        exact ev_neg (by omega) (Ev.now _)
      | succ d ih =>
        intro i x hi hx0 hx1 hj
        have hm := hx _ (getD_mem z111 l i (by omega))
        have hs := szPut_eq (l.getD i z111).f0 (l.getD i z111).f1 x hx0 (by omega) hm
        by_cases c2 : x - ((l.getD i z111).f1.size : Int) < 0
        · rw [if_pos c2] at hs
          refine ⟨-1, ev_shift ?_, by omega, by omega⟩
          simp only [laws_szPutS.l0]
          refine ev_pos (by omega) (ev_pos (by omega) ?_)
          simp only [rdLPut_nat, hs, Option.bind_some]
          exact ev_pos (by omega) (Ev.now _)
        · rw [if_neg c2] at hs
          obtain ⟨r, e, hr1, hr2⟩ := ih (i + 1) (x - ((l.getD i z111).f1.size : Int)) (by omega) (by omega) (by omega) (fun j hji => by
            by_cases e : j = i
            · subst e
              omega
            · exact hj j (by omega))
          refine ⟨r, ev_shift ?_, hr1, hr2⟩
          simp only [laws_szPutS.l0]
          refine ev_pos (by omega) (ev_pos (by omega) ?_)
          simp only [rdLPut_nat, hs, Option.bind_some]
          rw [wrap_nat (by omega)]
          exact ev_neg (by omega) e
    obtain ⟨r, e, hr1, hr2⟩ := key l.length 0 (m - (l.length : Int)) (by omega) (by omega) (by omega) (fun j hj => by omega)
    refine ⟨r, ev_neg c e, hr1, fun hr => ⟨by omega, fun x hx2 => ?_⟩⟩
    obtain ⟨j, hj, rfl⟩ := List.mem_iff_getElem.1 hx2
    have := hr2 hr j hj
    simpa [List.getD, hj] using this
theorem letters_cons (x : ByteArray) (l : List ByteArray) : letters (x :: l) = x.size + letters l := rfl
theorem szStringS_l (l : List ByteArray) (hl : l.length ≤ 9223372036854775807) (hx : ∀ x ∈ l, x.size ≤ 9223372036854775807) (d : Nat) : ∀ (i : Nat) (left : Int), i + d = l.length → 0 ≤ left → left ≤ 9223372036854775807 →
    Ev (fun k => laws_szStringS.l0 k l left (i : Int)) (if (letters (l.drop i) : Int) ≤ left then left - letters (l.drop i) else -1) := by
  induction d with
  | zero =>
    intro i left hi h0 h1
    apply ev_shift
    simp only [laws_szStringS.l0]
    refine ev_neg (by omega) (ev_cast (Ev.now _) ?_)
    rw [List.drop_eq_nil_of_le (by omega), show letters [] = 0 from rfl, if_pos (by omega)]
    omega
  | succ d ih =>
    intro i left hi h0 h1
    have hs := hx _ (getD_mem ByteArray.empty l i (by omega))
    apply ev_shift
    simp only [laws_szStringS.l0]
    rw [rdOf_nat, drop_cons ByteArray.empty l i (by omega), letters_cons]
    generalize hz : (l.getD i ByteArray.empty).size = z at hs
    rw [wrap_in (by omega) (by omega)]
    refine ev_pos (by omega) (ev_pos (by omega) ?_)
    by_cases c : left - (z : Int) < 0
    · refine ev_pos c (ev_cast (Ev.now _) ?_)
      rw [if_neg (by omega)]
    · rw [wrap_nat (by omega)]
      refine ev_neg c (ev_cast (ih (i + 1) _ (by omega) (by omega) (by omega)) ?_)
      by_cases c2 : (letters (l.drop (i + 1)) : Int) ≤ left - z
      · rw [if_pos c2, if_pos (by omega)]
        omega
      · rw [if_neg c2, if_neg (by omega)]
theorem szStringS_ev (l : List ByteArray) (hl : l.length ≤ 9223372036854775807) (hx : ∀ x ∈ l, x.size ≤ 9223372036854775807) (left : Int) (h0 : 0 ≤ left) (h1 : left ≤ 9223372036854775807) :
    Ev (fun k => laws_szStringS.f k l left) (leftS l left) := by
  unfold laws_szStringS.f leftS
  rw [wrap_in (by omega) (by omega)]
  by_cases c : left - (l.length : Int) < 0
  · refine ev_pos c (ev_cast (Ev.now _) ?_)
    rw [if_neg (by omega)]
  · refine ev_neg c (ev_cast (szStringS_l l hl hx l.length 0 _ (by omega) (by omega) (by omega)) ?_)
    rw [List.drop_zero]
    by_cases c2 : (l.length : Int) + letters l ≤ left
    · rw [if_pos c2, if_pos (by omega)]
    · rw [if_neg c2, if_neg (by omega)]
theorem szDisk_m (a : List ByteArray) (b : List S111) (m : Int) (h0 : 0 ≤ m) (h1 : m ≤ 1048576) (ha : a.length ≤ maxLen) (hx : ∀ x ∈ a, x.size ≤ maxLen) (hb : b.length ≤ maxLen) (hy : ∀ x ∈ b, x.f1.size ≤ maxLen) :
    ∃ r : Int, Ev (fun k => laws_szDisk.f k a b m) r ∧ r ≤ m ∧ (0 ≤ r → a.length + letters a ≤ 1048576 ∧ b.length ≤ 1048576 ∧ ∀ x ∈ b, x.f1.size ≤ 1048576) := by
  have hm : maxLen ≤ 9223372036854775807 := by decide
  have h1 := szStringS_ev a (by omega) (fun x h => by have := hx x h; omega) m (by omega) (by omega)
  unfold laws_szDisk.f
  unfold leftS at h1
  by_cases c : (a.length : Int) + letters a ≤ m
  · rw [if_pos c] at h1
    obtain ⟨r, er, hr1, hr2⟩ := szPutS_ev b (m - (a.length : Int) - (letters a : Int)) (by omega) (by omega) hb hy
    by_cases c2 : r < 0
    · exact ⟨-1, Ev.bind h1 (ev_neg (by omega) (Ev.bind er (ev_pos c2 (Ev.now _)))), by omega, by omega⟩
    · obtain ⟨h3, h4⟩ := hr2 (by omega)
      refine ⟨r, Ev.bind h1 (ev_neg (by omega) (Ev.bind er (ev_neg c2 (Ev.now _)))), by omega, fun _ => ⟨by omega, by omega, fun x hx2 => ?_⟩⟩
      have := h4 x hx2
      omega
  · rw [if_neg c] at h1
    exact ⟨-1, Ev.bind h1 (ev_pos (by omega) (Ev.now _)), by omega, by omega⟩
theorem szDisk_ev (a : List ByteArray) (b : List S111) (ha : a.length ≤ maxLen) (hx : ∀ x ∈ a, x.size ≤ maxLen) (hb : b.length ≤ maxLen) (hy : ∀ x ∈ b, x.f1.size ≤ maxLen) :
    ∃ r : Int, Ev (fun k => laws_szDisk.f k a b 1048576) r ∧ (0 ≤ r → a.length + letters a ≤ 1048576 ∧ b.length ≤ 1048576 ∧ ∀ x ∈ b, x.f1.size ≤ 1048576) := by
  obtain ⟨r, e, _, h⟩ := szDisk_m a b 1048576 (by omega) (by omega) ha hx hb hy
  exact ⟨r, e, h⟩
theorem copy_step {α : Type} (d : α) (l : List α) (i : Nat) (h : i < l.length) : (l.take i ++ List.replicate (l.length - i) d).set i (l.getD i d) = l.take (i + 1) ++ List.replicate (l.length - (i + 1)) d := by
  have hlen : (l.take i).length = i := by simp; omega
  rw [List.set_append_right _ _ (by omega), hlen, Nat.sub_self]
  obtain ⟨m, hm⟩ : ∃ m, l.length - i = m + 1 := ⟨l.length - i - 1, by omega⟩
  rw [hm, List.replicate_succ, List.set_cons_zero, List.take_succ_eq_append_getElem h, List.append_assoc]
  have : l.length - (i + 1) = m := by omega
  rw [this]
  simp [List.getD, h]
theorem toPutS_ev (l : List S111) (h : l.length ≤ 1048576) : Ev (fun k => laws_toPutS.f k l) (l.map ofLPut) := by
  unfold laws_toPutS.f
  refine ev_pos (by omega) (ev_pos (by omega) ?_)
  have := ev_loop (fun k i => laws_toPutS.l0 k l ((l.map ofLPut).take i ++ List.replicate ((l.map ofLPut).length - i) z65) (i : Int)) (fun _ => l.map ofLPut) l.length ?_ ?_ 0 (Nat.zero_le _)
  · simpa using this
  · simp only [laws_toPutS.l0]
    refine ev_neg (by omega) ?_
    have e1 : (l.map ofLPut).length - l.length = 0 := by rw [List.length_map]; omega
    have e2 : (l.map ofLPut).take l.length = l.map ofLPut := List.take_of_length_le (by rw [List.length_map]; omega)
    rw [e1, e2, List.replicate_zero, List.append_nil]
    exact Ev.now _
  · intro i hi e
    simp only [laws_toPutS.l0, laws_toPut.f]
    refine ev_pos (by omega) (ev_pos (by omega) (ev_some (ev_pos (by simp; omega) ?_)))
    have hi2 : i < (l.map ofLPut).length := by rw [List.length_map]; exact hi
    have hs := copy_step z65 (l.map ofLPut) i hi2
    have hg : (l.map ofLPut).getD i z65 = ⟨(l.getD i z111).f0, (l.getD i z111).f1⟩ := by simp [List.getD, hi, ofLPut]
    rw [hg] at hs
    dsimp only
    simp only [rdLPut_nat]
    rw [wrap_nat (by omega), Int.toNat_natCast, hs]
    exact e
theorem toStringS_ev (l : List ByteArray) (h : l.length ≤ 1099511627776) : Ev (fun k => laws_toStringS.f k l) l := by
  unfold laws_toStringS.f
  refine ev_pos (by omega) (ev_pos (by omega) ?_)
  have := ev_loop (fun k i => laws_toStringS.l0 k l (l.take i ++ List.replicate (l.length - i) (⟨#[]⟩ : ByteArray)) (i : Int)) (fun _ => l) l.length ?_ ?_ 0 (Nat.zero_le _)
  · simpa using this
  · simp only [laws_toStringS.l0]
    refine ev_neg (by omega) (ev_cast (Ev.now _) ?_)
    simp
  · intro i hi e
    simp only [laws_toStringS.l0]
    refine ev_pos (by omega) (ev_pos (by omega) (ev_pos (by simp; omega) ?_))
    rw [wrap_nat (by omega), rdOf_nat, Int.toNat_natCast]
    rw [show (⟨#[]⟩ : ByteArray) = ByteArray.empty from rfl] at e ⊢
    rw [copy_step ByteArray.empty l i hi]
    exact e
theorem toDisk_ev (a : List ByteArray) (b : List S111) (ha : a.length ≤ 1048576) (hb : b.length ≤ 1048576) : Ev (fun k => laws_toDisk.f k a b) (a, b.map ofLPut) := by
  unfold laws_toDisk.f
  exact Ev.bind (toStringS_ev a (by omega)) (Ev.bind (toPutS_ev b hb) (Ev.now _))
theorem FnExactHomeOf : laws_FnExactHomeOf.Pure := by
  rintro a b n ⟨ha, hx⟩ ⟨hb, hy⟩ _
  apply Ev.rounds (g := fun k => laws_FnExactHomeOf.f k a b n)
  unfold laws_FnExactHomeOf.f
  obtain ⟨r, er, hr⟩ := szDisk_ev a b ha hx hb (fun x h => (hy x h).2)
  refine Ev.bind er ?_
  by_cases c : r < 0
  · exact ev_pos c (Ev.now _)
  obtain ⟨h1, h2, h3⟩ := hr (by omega)
  have ht := toDisk_ev a b (by omega) h2
  have hlm : (b.map ofLPut).length ≤ 1048576 := by rw [List.length_map]; omega
  generalize b.map ofLPut = b' at ht hlm
  have hi := impl_HomeOf_ev a b' n (by omega) (by omega)
  have hs := spec_HomeOf_ev a b' n (by omega) (by omega)
  have hl := homeOf_length a b' n
  have hq := eqStringS_ev (homeOf a b' n) (homeOf a b' n) (by omega)
  rw [decide_eq_true rfl] at hq
  have hq2 := eqDisk_refl a b' (by omega) (by omega)
  have hh := heldStringS_ev (homeOf a b' n).length 1 (by omega) (by omega) (by omega)
  refine ev_neg c (ev_shift ?_)
  simp only [laws_FnExactHomeOf.j0]
  refine Ev.bind ht (Ev.bind hs (Ev.bind ht (Ev.bind hi (Ev.bind hq (ev_pos rfl (ev_shift ?_))))))
  simp only [laws_FnExactHomeOf.j1]
  refine Ev.bind ht (Ev.bind hq2 (ev_pos rfl (ev_shift ?_)))
  simp only [laws_FnExactHomeOf.j2]
  refine Ev.bind (markDisk_ev a b' 1 (by omega) (by omega) (by omega) (by omega)) (ev_neg (by omega) (Ev.bind hq (ev_shift ?_)))
  simp only [laws_FnExactHomeOf.j3]
  refine ev_neg (by simp) (ev_shift ?_)
  simp only [laws_FnExactHomeOf.j4]
  refine Ev.bind (markStringS_ev _ 1 (by omega) (by omega) (by omega)) (Ev.bind hh (ev_neg (by omega) (ev_shift ?_)))
  simp only [laws_FnExactHomeOf.j5]
  refine ev_pos (by first | rfl | trivial) (ev_shift ?_)
  simp only [laws_FnExactHomeOf.j6]
  refine Ev.bind ht (Ev.bind hi (Ev.bind hq (ev_pos rfl (ev_shift ?_))))
  simp only [laws_FnExactHomeOf.j7]
  exact Ev.bind hh (ev_neg (by omega) (ev_pos rfl (Ev.now _)))
end Go.Proofs.Ytgmpdkefegofhaa.Pure
