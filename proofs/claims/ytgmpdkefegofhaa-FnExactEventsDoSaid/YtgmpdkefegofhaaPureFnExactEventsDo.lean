/- FnExactEventsDo: the law's function of the print answers true for every input within the row's bounds. Conditions: none but the bounds that the row itself gives. -/
import Derived.Test.YtgmpdkefegofhaaPFnExactEventsDox9
import Derived.OpenShut
import Derived.Laws.BitsLemmas
namespace Go.Proofs.Ytgmpdkefegofhaa.Pure
open Go Go.RowKit Go.Proofs.Ytgmpdkefegofhaa.PFnExactEventsDo Go.Proofs.YtgmpdkefegofhaaW.PrintWords Go.Proofs.YtgmpdkefegofhaaW.PrintLast Go.Proofs.YtgmpdkefegofhaaW.PrintMore Go.Proofs.YtgmpdkefegofhaaW.PrintMore
set_option linter.unusedVariables false
set_option linter.unusedSimpArgs false

theorem eqPut_refl (a : Int) (s : ByteArray) : laws_eqPut.f a s a s = some true := by
  unfold laws_eqPut.f
  rw [if_pos rfl, if_pos rfl]
theorem ev_eq {α β : Type} {o : Option α} {a : α} {f : Nat → α → Option β} {r : β} (h : o = some a) (e : Ev (fun k => f k a) r) : Ev (fun k => o.bind (f k)) r := by
  subst h
  exact e
theorem ev_shift {α : Type} {g : Nat → Option α} {r : α} (h : Ev (fun k => g (k + 1)) r) : Ev g r := Ev.step (f := fun k => g (k + 1)) (fun _ => rfl) h
theorem ev_loop {ρ : Type} (L : Nat → Nat → Option ρ) (res : Nat → ρ) (n : Nat) (he : Ev (fun k => L (k + 1) n) (res n))
    (hs : ∀ i, i < n → Ev (fun k => L k (i + 1)) (res (i + 1)) → Ev (fun k => L (k + 1) i) (res i)) : ∀ i, i ≤ n → Ev (fun k => L k i) (res i) := by
  have key : ∀ d i, i + d = n → Ev (fun k => L k i) (res i) := by
    intro d
    induction d with
    | zero =>
      intro i h
      obtain rfl : i = n := by omega
      exact ev_shift he
    | succ d ih =>
      intro i h
      exact ev_shift (hs i (by omega) (ih (i + 1) (by omega)))
  intro i h
  exact key (n - i) i (by omega)
theorem ev_neg {α : Type} {c : Prop} [Decidable c] {f g : Nat → Option α} {r : α} (h : ¬ c) (e : Ev g r) : Ev (fun k => if c then f k else g k) r := by
  simpa only [if_neg h] using e
theorem ev_pos {α : Type} {c : Prop} [Decidable c] {f g : Nat → Option α} {r : α} (h : c) (e : Ev f r) : Ev (fun k => if c then f k else g k) r := by
  simpa only [if_pos h] using e
theorem wrap_nat {i : Nat} (h : i < 9223372036854775807) : wrap64 ((i : Int) + 1) = ((i + 1 : Nat) : Int) := by
  unfold wrap64
  omega
theorem eqPutS_refl (a : List S65) (h : a.length ≤ 140737488351232) : Ev (fun k => laws_eqPutS.f k a a) true := by
  unfold laws_eqPutS.f
  refine ev_pos rfl ?_
  have := ev_loop (fun k i => laws_eqPutS.l0 k a a (i : Int)) (fun _ => true) a.length ?_ ?_ 0 (Nat.zero_le _)
  · exact this
  · simp only [laws_eqPutS.l0]
    exact ev_neg (by omega) (Ev.now _)
  · intro i hi e
    simp only [laws_eqPutS.l0]
    refine ev_pos (by omega) (ev_pos (by omega) (ev_pos (by omega) (ev_eq (eqPut_refl _ _) (ev_pos rfl ?_))))
    rw [wrap_nat (by omega)]
    exact e
theorem drop_cons {α : Type} (d : α) (l : List α) (i : Nat) (h : i < l.length) : l.drop i = l.getD i d :: l.drop (i + 1) := by
  rw [List.drop_eq_getElem_cons h]
  simp [List.getD, h]
theorem drop_eq {α : Type} [DecidableEq α] (d : α) (a b : List α) (i : Nat) (ha : i < a.length) (hb : i < b.length) : (a.drop i = b.drop i) ↔ (a.getD i d = b.getD i d ∧ a.drop (i + 1) = b.drop (i + 1)) := by
  rw [drop_cons d a i ha, drop_cons d b i hb]
  simp
theorem ev_cast {α : Type} {g : Nat → Option α} {r r' : α} (h : Ev g r) (e : r = r') : Ev g r' := e ▸ h
theorem rdOf_nat {α : Type} (d : α) (xs : List α) (i : Nat) : rdOf d xs (i : Int) = xs.getD i d := by simp [rdOf]
theorem toList_inj {a b : ByteArray} : a.toList = b.toList ↔ a = b := by
  constructor
  · intro h
    have h' := h
    rw [ByteArray.toList_eq, ByteArray.toList_eq] at h'
    cases a
    cases b
    simp only [ByteArray.mk.injEq]
    exact Array.toList_inj.mp h'
  · intro h
    rw [h]
theorem eqStringS_ev (a b : List ByteArray) (h : a.length ≤ 140737488351232) : Ev (fun k => laws_eqStringS.f k a b) (decide (a = b)) := by
  unfold laws_eqStringS.f
  by_cases hl : a.length = b.length
  · refine ev_pos (by omega) ?_
    have := ev_loop (fun k i => laws_eqStringS.l0 k a b (i : Int)) (fun i => decide (a.drop i = b.drop i)) a.length ?_ ?_ 0 (Nat.zero_le _)
    · exact this
    · simp only [laws_eqStringS.l0]
      refine ev_neg (by omega) ?_
      refine ev_cast (Ev.now _) ?_
      rw [List.drop_length, hl, List.drop_length]
      simp
    · intro i hi e
      simp only [laws_eqStringS.l0]
      refine ev_pos (by omega) (ev_pos (by omega) (ev_pos (by omega) ?_))
      rw [wrap_nat (by omega), rdOf_nat, rdOf_nat]
      by_cases hc : a.getD i ByteArray.empty = b.getD i ByteArray.empty
      · refine ev_pos (toList_inj.mpr hc) (ev_cast e ?_)
        rw [decide_eq_decide, drop_eq ByteArray.empty a b i hi (by omega)]
        exact ⟨fun z => ⟨hc, z⟩, fun z => z.2⟩
      · refine ev_neg (fun z => hc (toList_inj.mp z)) (ev_cast (Ev.now _) ?_)
        symm
        rw [decide_eq_false_iff_not, drop_eq ByteArray.empty a b i hi (by omega)]
        exact fun z => hc z.1
  · refine ev_neg (by omega) (ev_cast (Ev.now _) ?_)
    symm
    rw [decide_eq_false_iff_not]
    exact fun z => hl (by rw [z])
theorem eqDisk_refl (a : List ByteArray) (b : List S65) (ha : a.length ≤ 140737488351232) (hb : b.length ≤ 140737488351232) : Ev (fun k => laws_eqDisk.f k a b a b) true := by
  unfold laws_eqDisk.f
  exact Ev.bind (eqStringS_ev a a ha) (ev_pos (by simp) (Ev.bind (eqPutS_refl b hb) (ev_pos rfl (Ev.now _))))
theorem eqEvent_refl (a b : Int) (s : ByteArray) : laws_eqEvent.f a b s a b s = some true := by
  unfold laws_eqEvent.f
  rw [if_pos rfl, if_pos rfl, if_pos rfl]
theorem eqEventS_refl (a : List S92) (h : a.length ≤ 140737488351232) : Ev (fun k => laws_eqEventS.f k a a) true := by
  unfold laws_eqEventS.f
  refine ev_pos rfl ?_
  have := ev_loop (fun k i => laws_eqEventS.l0 k a a (i : Int)) (fun _ => true) a.length ?_ ?_ 0 (Nat.zero_le _)
  · exact this
  · simp only [laws_eqEventS.l0]
    exact ev_neg (by omega) (Ev.now _)
  · intro i hi e
    simp only [laws_eqEventS.l0]
    refine ev_pos (by omega) (ev_pos (by omega) (ev_pos (by omega) (ev_eq (eqEvent_refl _ _ _) (ev_pos rfl ?_))))
    rw [wrap_nat (by omega)]
    exact e
/-- A write that a disk of n sectors can bear. -/
def putGood (n : Nat) (p : S65) : Bool := decide (0 ≤ p.f0 ∧ p.f0 ≤ (n : Int) - 1) && decide (p.f1.size ≤ 90)
def diskGood (a : List ByteArray) (b : List S65) : Bool := decide (a.length ≤ 120) && (decide (b.length ≤ 400) && (a.all (fun s => decide (s.size ≤ 90)) && b.all (putGood a.length)))
/-- Writes, one behind the other. -/
def writes (b : List S65) (a : List ByteArray) : List ByteArray := b.foldl (fun s p => s.set p.f0.toNat p.f1) a
def flushed (a : List ByteArray) (b : List S65) : List ByteArray × List S65 := if diskGood a b = true then (writes b a, []) else (a, b)
def sectorWrite (a : List ByteArray) (b : List S65) (t : Int) (s : ByteArray) : List ByteArray × List S65 × Bool :=
  if diskGood a b = true ∧ diskGood a (b ++ [⟨t, s⟩]) = true then (a, b ++ [⟨t, s⟩], true) else (a, b, false)
/-- What one event does to a disk. -/
def evStep (d : List ByteArray × List S65) (e : S92) : List ByteArray × List S65 :=
  if e.f0 = 0 then ((sectorWrite d.1 d.2 e.f1 e.f2).1, (sectorWrite d.1 d.2 e.f1 e.f2).2.1) else if e.f0 = 1 then flushed d.1 d.2 else d
def evDo (l : List S92) (d : List ByteArray × List S65) : List ByteArray × List S65 := l.foldl evStep d
theorem writes_length (b : List S65) : ∀ a, (writes b a).length = a.length := by
  induction b with
  | nil => intro a; rfl
  | cons p b ih =>
    intro a
    show (writes b (a.set p.f0.toNat p.f1)).length = a.length
    rw [ih, List.length_set]
theorem flushed_len (a : List ByteArray) (b : List S65) : (flushed a b).1.length = a.length ∧ (flushed a b).2.length ≤ b.length := by
  unfold flushed
  split
  · exact ⟨writes_length b a, by simp⟩
  · exact ⟨rfl, Nat.le_refl _⟩
theorem sectorWrite_len (a : List ByteArray) (b : List S65) (t : Int) (s : ByteArray) : (sectorWrite a b t s).1 = a ∧ (sectorWrite a b t s).2.1.length ≤ b.length + 1 := by
  unfold sectorWrite
  split
  · exact ⟨rfl, by rw [List.length_append, List.length_singleton]; omega⟩
  · exact ⟨rfl, Nat.le_succ _⟩
theorem diskGood_split {a : List ByteArray} {b : List S65} (h : diskGood a b = true) : a.length ≤ 120 ∧ b.length ≤ 400 ∧ (∀ s ∈ a, s.size ≤ 90) ∧ ∀ p ∈ b, 0 ≤ p.f0 ∧ p.f0 ≤ (a.length : Int) - 1 ∧ p.f1.size ≤ 90 := by
  unfold diskGood at h
  rw [Bool.and_eq_true, Bool.and_eq_true, Bool.and_eq_true] at h
  obtain ⟨h1, h2, h3, h4⟩ := h
  refine ⟨of_decide_eq_true h1, of_decide_eq_true h2, fun s hs => of_decide_eq_true (List.all_eq_true.mp h3 s hs), fun p hp => ?_⟩
  have := List.all_eq_true.mp h4 p hp
  unfold putGood at this
  rw [Bool.and_eq_true] at this
  exact ⟨(of_decide_eq_true this.1).1, (of_decide_eq_true this.1).2, of_decide_eq_true this.2⟩
theorem sectorWrite_max (a : List ByteArray) (b : List S65) (t : Int) (s : ByteArray) (hb : b.length ≤ 1048576) : (sectorWrite a b t s).2.1.length ≤ 1048576 := by
  unfold sectorWrite
  split
  · rename_i h
    exact Nat.le_trans (diskGood_split h.2).2.1 (by omega)
  · exact hb
theorem evStep_len (a : List ByteArray) (b : List S65) (e : S92) (hb : b.length ≤ 1048576) : (evStep (a, b) e).1.length = a.length ∧ (evStep (a, b) e).2.length ≤ 1048576 := by
  unfold evStep
  split
  · exact ⟨by show (sectorWrite a b e.f1 e.f2).1.length = a.length; rw [(sectorWrite_len a b e.f1 e.f2).1], sectorWrite_max a b _ _ hb⟩
  · split
    · have := flushed_len a b
      exact ⟨this.1, Nat.le_trans this.2 hb⟩
    · exact ⟨rfl, hb⟩
theorem evDo_len (l : List S92) : ∀ (a : List ByteArray) (b : List S65), b.length ≤ 1048576 → (evDo l (a, b)).1.length = a.length ∧ (evDo l (a, b)).2.length ≤ 1048576 := by
  induction l with
  | nil => intro a b hb; exact ⟨rfl, hb⟩
  | cons e l ih =>
    intro a b hb
    obtain ⟨h1, h2⟩ := evStep_len a b e hb
    have := ih (evStep (a, b) e).1 (evStep (a, b) e).2 h2
    rw [h1] at this
    exact this
theorem ev_some {α β : Type} {a : α} {f : Nat → α → Option β} {r : β} (e : Ev (fun k => f k a) r) : Ev (fun k => (some a).bind (f k)) r := e
theorem strOfNums_size (l : List Int) : (strOfNums l).size = l.length := by
  simp [strOfNums, ByteArray.size]
theorem wrap_in {x : Int} (h0 : -9223372036854775808 ≤ x) (h1 : x ≤ 9223372036854775807) : wrap64 x = x := by
  unfold wrap64
  omega
theorem markText_l (n : Nat) : ∀ acc : ByteArray, acc.size + n ≤ 4000000000000000000 → ∃ t, Ev (fun k => laws_markText.l0 k (n : Int) acc) t := by
  induction n using Nat.strongRecOn with
  | _ n ih =>
    intro acc ha
    by_cases h : 0 < n
    · have e1 : wrap64 (Int.tdiv (n : Int) 10) = ((n / 10 : Nat) : Int) := by rw [Int.tdiv_eq_ediv_of_nonneg (by omega), wrap_in (by omega) (by omega)]; omega
      obtain ⟨t, ht⟩ := ih (n / 10) (by omega) (strOfNums [(wrap64 (48 + (Int.tmod (n : Int) 10))) % 256] ++ acc) (by rw [ByteArray.size_append, strOfNums_size]; simp only [List.length_cons, List.length_nil]; omega)
      refine ⟨t, ?_⟩
      apply ev_shift
      simp only [laws_markText.l0]
      refine ev_pos (by omega) (ev_some (ev_pos (by rw [strOfNums_size]; simp only [List.length_cons, List.length_nil]; omega) ?_))
      rw [e1]
      exact ht
    · refine ⟨(⟨#[109]⟩ : ByteArray) ++ acc, ?_⟩
      apply ev_shift
      simp only [laws_markText.l0]
      exact ev_neg (by omega) (ev_pos (by omega) (Ev.now _))
theorem markText_any (m : Int) (h : m ≤ 1000000000000000000) : ∃ t, Ev (fun k => laws_markText.f k m) t := by
  unfold laws_markText.f
  by_cases h0 : m ≤ 0
  · exact ⟨_, ev_pos h0 (Ev.now _)⟩
  · obtain ⟨n, rfl⟩ := Int.eq_ofNat_of_zero_le (show 0 ≤ m by omega)
    obtain ⟨t, ht⟩ := markText_l n (⟨#[]⟩ : ByteArray) (by simp only [ByteArray.size, List.size_toArray, List.length_nil]; omega)
    exact ⟨t, ev_neg h0 ht⟩
noncomputable def markText (m : Int) : ByteArray := if h : m ≤ 1000000000000000000 then Classical.choose (markText_any m h) else ByteArray.empty
noncomputable def markPut (m : Int) (j : Nat) : S65 := ⟨m + 2 * (j : Int), markText (m + 2 * (j : Int) + 1)⟩
theorem markText_ev (m : Int) (h : m ≤ 1000000000000000000) : Ev (fun k => laws_markText.f k m) (markText m) := by
  unfold markText
  rw [dif_pos h]
  exact Classical.choose_spec (markText_any m h)
theorem range_getD {α : Type} (d : α) (g : Nat → α) (n i : Nat) (h : i < n) : ((List.range n).map g).getD i d = g i := by
  simp [List.getD, h]
theorem rdPut_nat (xs : List S65) (i : Nat) : rd_T65 xs (i : Int) = xs.getD i z65 := by simp [rd_T65]
theorem wrap_up {i : Int} (h0 : 0 ≤ i) (h : i < 9223372036854775807) : wrap64 (i + 1) = i + 1 := by
  unfold wrap64
  omega
theorem heldPutS_ev (n : Nat) (m : Int) (h : n ≤ 140737488351232) (h0 : 0 ≤ m) (h1 : m ≤ 100000000000000000) :
    Ev (fun k => laws_heldPutS.f k ((List.range n).map (markPut m)) m) (m + 2 * n) := by
  unfold laws_heldPutS.f
  have := ev_loop (fun k i => laws_heldPutS.l0 k ((List.range n).map (markPut m)) (m + 2 * (i : Int)) (i : Int)) (fun _ => m + 2 * (n : Int)) n ?_ ?_ 0 (Nat.zero_le _)
  · simpa using this
  · simp only [laws_heldPutS.l0]
    refine ev_neg (by simp) ?_
    exact Ev.now _
  · intro i hi e
    simp only [laws_heldPutS.l0]
    rw [wrap_up (i := m + 2 * (i : Int)) (by omega) (by omega), rdPut_nat, range_getD z65 (markPut m) n i hi]
    refine ev_pos (by simp; omega) (ev_pos (by omega) (ev_pos rfl (Ev.bind (markText_ev _ (by omega)) (ev_pos rfl ?_))))
    rw [wrap_nat (by omega), wrap_up (i := m + 2 * (i : Int) + 1) (by omega) (by omega)]
    have e1 : m + 2 * (i : Int) + 1 + 1 = m + 2 * ((i + 1 : Nat) : Int) := by omega
    rw [e1]
    exact e
theorem heldStringS_ev (n : Nat) (m : Int) (h : n ≤ 140737488351232) (h0 : 0 ≤ m) (h1 : m ≤ 100000000000000000) :
    Ev (fun k => laws_heldStringS.f k ((List.range n).map fun j : Nat => markText (m + (j : Int))) m) (m + n) := by
  unfold laws_heldStringS.f
  have := ev_loop (fun k i => laws_heldStringS.l0 k ((List.range n).map fun j : Nat => markText (m + (j : Int))) (m + (i : Int)) (i : Int)) (fun _ => m + n) n ?_ ?_ 0 (Nat.zero_le _)
  · simpa using this
  · simp only [laws_heldStringS.l0]
    refine ev_neg (by simp) ?_
    exact Ev.now _
  · intro i hi e
    simp only [laws_heldStringS.l0]
    refine ev_pos (by simp; omega) (ev_pos (by omega) (Ev.bind (markText_ev _ (by omega)) (ev_pos ?_ ?_)))
    · rw [rdOf_nat, range_getD ByteArray.empty _ n i hi]
    · rw [wrap_nat (by omega), wrap_up (by omega) (by omega)]
      have e1 : m + (i : Int) + 1 = m + ((i + 1 : Nat) : Int) := by omega
      rw [e1]
      exact e
noncomputable def markedP (n : Nat) (m : Int) : List S65 := (List.range n).map (markPut m)
noncomputable def markedS (n : Nat) (m : Int) : List ByteArray := (List.range n).map fun j : Nat => markText (m + (j : Int))
theorem heldDisk_ev (n p : Nat) (m : Int) (ha : n ≤ 10000000000) (hb : p ≤ 10000000000) (h0 : 0 ≤ m) (h1 : m ≤ 10000000000000000) :
    Ev (fun k => laws_heldDisk.f k (markedS n m) (markedP p (m + n)) m) (m + n + 2 * p) := by
  unfold laws_heldDisk.f
  exact Ev.bind (heldStringS_ev n m (by omega) h0 (by omega)) (ev_neg (by omega) (Ev.bind (heldPutS_ev p (m + n) (by omega) (by omega) (by omega)) (ev_neg (by omega) (Ev.now _))))
theorem diskOk_good (a : List ByteArray) (b : List S65) (ha : a.length ≤ 140737488351232) : diskOk a b = diskGood a b := by
  unfold diskOk diskGood
  congr 3
  · rw [List.not_any_eq_all_not]
    congr 1
    funext s
    unfold longText
    rw [Bool.not_not, decide_eq_decide]
    omega
  · rw [List.not_any_eq_all_not]
    congr 1
    funext p
    unfold impl_DiskOk_2.f putGood
    rw [Bool.not_not, wrap_in (by omega) (by omega)]
    congr 1
    rw [decide_eq_decide]
    omega
theorem impl_DiskOk_eq (a : List ByteArray) (b : List S65) (ha : a.length ≤ 140737488351232) : impl_DiskOk.f a b = some (diskGood a b) := by
  rw [← diskOk_good a b ha]
  rfl
theorem getD_mem {α : Type} (d : α) (l : List α) (i : Nat) (h : i < l.length) : l.getD i d ∈ l := by
  simp [List.getD, h]
theorem impl_Flush_l (b c : List S65) (hb : b.length ≤ 140737488351232) (n : Nat) (hp : ∀ p ∈ b, 0 ≤ p.f0 ∧ p.f0 ≤ (n : Int) - 1) (d : Nat) : ∀ (i : Nat) (a : List ByteArray), i + d = b.length → a.length = n →
    Ev (fun k => impl_settle_Flush_1.l0 k b (b.length : Int) (i : Int) a c) (writes (b.drop i) a, []) := by
  induction d with
  | zero =>
    intro i a hi ha
    apply ev_shift
    simp only [impl_settle_Flush_1.l0]
    rw [List.drop_eq_nil_of_le (by omega)]
    exact ev_neg (by omega) (Ev.now _)
  | succ d ih =>
    intro i a hi ha
    obtain ⟨h0, h1⟩ := hp _ (getD_mem z65 b i (by omega))
    apply ev_shift
    simp only [impl_settle_Flush_1.l0]
    simp only [rdPut_nat]
    rw [wrap_nat (by omega), drop_cons z65 b i (by omega)]
    exact ev_pos (by omega) (ev_pos (by omega) (ev_pos (by omega) (ev_eq (show impl_Flush_1.f (i : Int) = some true from rfl) (ev_pos rfl (ev_pos h0 (ev_pos (by omega) (ih (i + 1) _ (by omega) (by rw [List.length_set]; exact ha))))))))
theorem impl_cloneDisk_eq (a : List ByteArray) (b : List S65) (ha : a.length ≤ 1099511627776) (hb : b.length ≤ 1099511627776) : impl_cloneDisk.f a b = some (a, b) := by
  unfold impl_cloneDisk.f slices_Clone_string_string.f slices_Clone_Put.f
  rw [if_pos (by omega), if_pos (by omega)]
  rfl
theorem impl_settle_Flush_ev (a : List ByteArray) (b : List S65) (ha : a.length ≤ 1099511627776) (hb : b.length ≤ 1099511627776) : Ev (fun k => impl_settle_Flush_1.f k a b) (flushed a b) := by
  unfold impl_settle_Flush_1.f flushed
  refine ev_eq (impl_cloneDisk_eq a b ha hb) (ev_eq (impl_DiskOk_eq a b (by omega)) ?_)
  cases h : diskGood a b
  · exact ev_neg (by simp) (Ev.now _)
  · obtain ⟨_, _, _, h4⟩ := diskGood_split h
    refine ev_pos rfl ?_
    exact impl_Flush_l b b (by omega) a.length (fun p hp => ⟨(h4 p hp).1, (h4 p hp).2.1⟩) b.length 0 a (Nat.zero_add _) rfl
theorem impl_Flush_ev (a : List ByteArray) (b : List S65) (ha : a.length ≤ 1099511627776) (hb : b.length ≤ 1099511627776) : Ev (fun k => impl_Flush.f k a b) (flushed a b) := by
  unfold impl_Flush.f
  exact Ev.bind (impl_settle_Flush_ev a b ha hb) (Ev.now _)
theorem impl_SectorWrite_eq (a : List ByteArray) (b : List S65) (t : Int) (s : ByteArray) (ha : a.length ≤ 1099511627776) (hb : b.length ≤ 1099511627775) : impl_SectorWrite.f a b t s = some (sectorWrite a b t s) := by
  have hc := impl_cloneDisk_eq a b ha (by omega)
  unfold impl_SectorWrite.f sectorWrite
  rw [hc]
  simp only [Option.bind_some]
  rw [if_pos (show b.length < 5864062014805 by omega), impl_DiskOk_eq a b (by omega)]
  simp only [Option.bind_some]
  cases h1 : diskGood a b
  · rw [if_neg (by simp), if_neg (by simp)]
  · rw [if_pos rfl, impl_DiskOk_eq a _ (by omega)]
    simp only [Option.bind_some]
    cases h2 : diskGood a (b ++ [⟨t, s⟩])
    · rw [if_neg (by simp), if_neg (by simp)]
    · rw [if_pos rfl, if_pos ⟨trivial, rfl⟩]
theorem rdEvent_nat (xs : List S92) (i : Nat) : rd_T92 xs (i : Int) = xs.getD i z92 := by simp [rd_T92]
theorem impl_EventsDo_l (l : List S92) (hl : l.length ≤ 140737488351232) (d : Nat) : ∀ (i : Nat) (a : List ByteArray) (b : List S65), i + d = l.length → a.length ≤ 1048576 → b.length ≤ 1048576 →
    Ev (fun k => impl_EventsDo.l0 k l (l.length : Int) (i : Int) a b) (evDo (l.drop i) (a, b)) := by
  induction d with
  | zero =>
    intro i a b hi ha hb
    apply ev_shift
    simp only [impl_EventsDo.l0]
    rw [List.drop_eq_nil_of_le (by omega)]
    exact ev_neg (by omega) (Ev.now _)
  | succ d ih =>
    intro i a b hi ha hb
    apply ev_shift
    simp only [impl_EventsDo.l0, rdEvent_nat]
    rw [wrap_nat (by omega), drop_cons z92 l i (by omega)]
    have hs := evStep_len a b (l.getD i z92) hb
    have hi2 := ih (i + 1) (evStep (a, b) (l.getD i z92)).1 (evStep (a, b) (l.getD i z92)).2 (by omega) (by omega) hs.2
    refine ev_pos (by omega) (ev_pos (by omega) (ev_pos (by omega) ?_))
    show Ev _ (evDo (l.drop (i + 1)) (evStep (a, b) (l.getD i z92)))
    by_cases c0 : (l.getD i z92).f0 = 0
    · have e : evStep (a, b) (l.getD i z92) = ((sectorWrite a b (l.getD i z92).f1 (l.getD i z92).f2).1, (sectorWrite a b (l.getD i z92).f1 (l.getD i z92).f2).2.1) := by unfold evStep; rw [if_pos c0]
      refine ev_pos c0 (ev_eq (impl_SectorWrite_eq a b _ _ (by omega) (by omega)) ?_)
      rw [e] at hi2 ⊢
      by_cases c : (sectorWrite a b (l.getD i z92).f1 (l.getD i z92).f2).2.2 = true
      · exact ev_pos c hi2
      · refine ev_neg c ?_
        have e2 : sectorWrite a b (l.getD i z92).f1 (l.getD i z92).f2 = (a, b, false) := by
          unfold sectorWrite at c ⊢
          split at c
          · exact absurd rfl c
          · rename_i h
            rw [if_neg h]
        rw [e2] at hi2 ⊢
        exact hi2
    · refine ev_neg c0 ?_
      by_cases c1 : (l.getD i z92).f0 = 1
      · have e : evStep (a, b) (l.getD i z92) = flushed a b := by unfold evStep; rw [if_neg c0, if_pos c1]
        refine ev_pos c1 (Ev.bind (impl_Flush_ev a b (by omega) (by omega)) ?_)
        rw [e] at hi2 ⊢
        exact hi2
      · have e : evStep (a, b) (l.getD i z92) = (a, b) := by unfold evStep; rw [if_neg c0, if_neg c1]
        refine ev_neg c1 ?_
        rw [e] at hi2 ⊢
        exact hi2
theorem impl_EventsDo_ev (a : List ByteArray) (b : List S65) (l : List S92) (ha : a.length ≤ 1048576) (hb : b.length ≤ 1048576) (hl : l.length ≤ 140737488351232) : Ev (fun k => impl_EventsDo.f k a b l) (evDo l (a, b)) := by
  unfold impl_EventsDo.f
  exact ev_eq (impl_cloneDisk_eq a b (by omega) (by omega)) (impl_EventsDo_l l hl l.length 0 a b (Nat.zero_add _) ha hb)
theorem getD_set_self {α : Type} (d : α) (l : List α) (i : Nat) (v : α) (h : i < l.length) : (l.set i v).getD i d = v := by
  simp [List.getD, h]
theorem mark_step {α : Type} (d : α) (g : Nat → α) (l : List α) (i : Nat) (h : i < l.length) : ((List.range i).map g ++ l.drop i).set i (g i) = (List.range (i + 1)).map g ++ l.drop (i + 1) := by
  have hlen : ((List.range i).map g).length = i := by simp
  rw [List.set_append_right _ _ (by omega), hlen, Nat.sub_self, drop_cons d l i h, List.set_cons_zero, List.range_succ, List.map_append, List.append_assoc]
  rfl
theorem markPutS_ev (l : List S65) (m : Int) (h : l.length ≤ 140737488351232) (h0 : 0 ≤ m) (h1 : m ≤ 100000000000000000) :
    Ev (fun k => laws_markPutS.f k l m) (m + 2 * l.length, (List.range l.length).map (markPut m)) := by
  unfold laws_markPutS.f
  have := ev_loop (fun k i => laws_markPutS.l0 k ((List.range i).map (markPut m) ++ l.drop i) (m + 2 * (i : Int)) (i : Int)) (fun _ => (m + 2 * (l.length : Int), (List.range l.length).map (markPut m))) l.length ?_ ?_ 0 (Nat.zero_le _)
  · simpa using this
  · simp only [laws_markPutS.l0]
    refine ev_neg (by simp) ?_
    simp only [List.drop_length, List.append_nil]
    exact Ev.now _
  · intro i hi e
    simp only [laws_markPutS.l0]
    have hlen : i < ((List.range i).map (markPut m) ++ l.drop i).length := by simp; omega
    refine ev_pos (by simp; omega) (ev_pos (by omega) (ev_some ?_))
    rw [wrap_up (i := m + 2 * (i : Int)) (by omega) (by omega)]
    refine Ev.bind (markText_ev _ (by omega)) ?_
    simp only [rdPut_nat, Int.toNat_natCast]
    rw [wrap_nat (by omega), getD_set_self _ _ _ _ hlen, List.set_set, wrap_up (i := m + 2 * (i : Int) + 1) (by omega) (by omega)]
    have hs := mark_step z65 (markPut m) l i hi
    simp only [markPut] at hs
    have e1 : m + 2 * (i : Int) + 1 + 1 = m + 2 * ((i + 1 : Nat) : Int) := by omega
    dsimp only [markPut]
    rw [hs, e1]
    exact e
theorem markStringS_ev (l : List ByteArray) (m : Int) (h : l.length ≤ 140737488351232) (h0 : 0 ≤ m) (h1 : m ≤ 100000000000000000) :
    Ev (fun k => laws_markStringS.f k l m) (m + l.length, (List.range l.length).map fun j : Nat => markText (m + (j : Int))) := by
  unfold laws_markStringS.f
  have := ev_loop (fun k i => laws_markStringS.l0 k ((List.range i).map (fun j : Nat => markText (m + (j : Int))) ++ l.drop i) (m + (i : Int)) (i : Int)) (fun _ => (m + l.length, (List.range l.length).map fun j : Nat => markText (m + (j : Int)))) l.length ?_ ?_ 0 (Nat.zero_le _)
  · simpa using this
  · simp only [laws_markStringS.l0]
    refine ev_neg (by simp) ?_
    simp only [List.drop_length, List.append_nil]
    exact Ev.now _
  · intro i hi e
    simp only [laws_markStringS.l0]
    refine ev_pos (by simp; omega) (Ev.bind (markText_ev _ (by omega)) (ev_pos (by omega) ?_))
    rw [wrap_nat (by omega), Int.toNat_natCast, mark_step ByteArray.empty (fun j : Nat => markText (m + (j : Int))) l i hi, wrap_up (by omega) (by omega)]
    have e1 : m + (i : Int) + 1 = m + ((i + 1 : Nat) : Int) := by omega
    rw [e1]
    exact e
theorem markDisk_ev (a : List ByteArray) (b : List S65) (m : Int) (ha : a.length ≤ 10000000000) (hb : b.length ≤ 10000000000) (h0 : 0 ≤ m) (h1 : m ≤ 10000000000000000) :
    Ev (fun k => laws_markDisk.f k a b m) (m + a.length + 2 * b.length, markedS a.length m, markedP b.length (m + a.length)) := by
  unfold laws_markDisk.f
  exact Ev.bind (markStringS_ev a m (by omega) h0 (by omega)) (Ev.bind (markPutS_ev b (m + a.length) (by omega) (by omega) (by omega)) (Ev.now _))
noncomputable def markEvent (m : Int) (j : Nat) : S92 := ⟨m + 3 * (j : Int), m + 3 * (j : Int) + 1, markText (m + 3 * (j : Int) + 2)⟩
theorem markEventS_ev (l : List S92) (m : Int) (h : l.length ≤ 140737488351232) (h0 : 0 ≤ m) (h1 : m ≤ 100000000000000000) :
    Ev (fun k => laws_markEventS.f k l m) (m + 3 * l.length, (List.range l.length).map (markEvent m)) := by
  unfold laws_markEventS.f
  have := ev_loop (fun k i => laws_markEventS.l0 k ((List.range i).map (markEvent m) ++ l.drop i) (m + 3 * (i : Int)) (i : Int)) (fun _ => (m + 3 * (l.length : Int), (List.range l.length).map (markEvent m))) l.length ?_ ?_ 0 (Nat.zero_le _)
  · simpa using this
  · simp only [laws_markEventS.l0]
    refine ev_neg (by simp) ?_
    simp only [List.drop_length, List.append_nil]
    exact Ev.now _
  · intro i hi e
    simp only [laws_markEventS.l0]
    have hlen : i < ((List.range i).map (markEvent m) ++ l.drop i).length := by simp; omega
    refine ev_pos (by simp; omega) (ev_pos (by omega) (ev_some (ev_some ?_)))
    rw [wrap_up (i := m + 3 * (i : Int)) (by omega) (by omega), wrap_up (i := m + 3 * (i : Int) + 1) (by omega) (by omega)]
    refine Ev.bind (markText_ev _ (by omega)) ?_
    simp only [rdEvent_nat, Int.toNat_natCast]
    simp only [List.set_set, getD_set_self, hlen]
    rw [wrap_nat (by omega), wrap_up (i := m + 3 * (i : Int) + 1 + 1) (by omega) (by omega)]
    have hs := mark_step z92 (markEvent m) l i hi
    simp only [markEvent] at hs
    have e1 : m + 3 * (i : Int) + 1 + 1 + 1 = m + 3 * ((i + 1 : Nat) : Int) := by omega
    have e2 : m + 3 * (i : Int) + 1 + 1 = m + 3 * (i : Int) + 2 := by omega
    rw [e1, e2, hs]
    exact e
def ofLEvent (x : S91) : S92 := ⟨x.f0, x.f1, x.f2⟩
def ofLPut (x : S111) : S65 := ⟨x.f0, x.f1⟩
theorem decide_l1In (a lo hi : Int) : spec_l1In.f a lo hi = some (decide (lo ≤ a ∧ a ≤ hi)) := by
  unfold spec_l1In.f
  by_cases h : a ≥ lo
  · rw [if_pos h]
    congr 1
    rw [decide_eq_decide]
    omega
  · rw [if_neg h]
    congr 1
    symm
    rw [decide_eq_false_iff_not]
    omega
theorem l3PutsOk_ev (b : List S65) (n : Nat) (hb : b.length ≤ 140737488351232) (hn : n ≤ 140737488351232) : Ev (fun k => spec_l3PutsOk.f k b (n : Int)) (b.all (putGood n)) := by
  unfold spec_l3PutsOk.f
  have := ev_loop (fun k i => spec_l3PutsOk.l0 k b (n : Int) (i : Int)) (fun i => (b.drop i).all (putGood n)) b.length ?_ ?_ 0 (Nat.zero_le _)
  · exact this
  · simp only [spec_l3PutsOk.l0]
    refine ev_neg (by omega) (ev_cast (Ev.now _) ?_)
    rw [List.drop_length]
    rfl
  · intro i hi e
    simp only [spec_l3PutsOk.l0]
    refine ev_pos (by omega) (ev_pos (by omega) ?_)
    simp only [rdPut_nat]
    rw [wrap_in (x := (n : Int) - 1) (by omega) (by omega), wrap_nat (by omega), drop_cons z65 b i hi]
    refine ev_eq (decide_l1In _ _ _) ?_
    rw [List.all_cons]
    unfold putGood
    by_cases c : 0 ≤ (b.getD i z65).f0 ∧ (b.getD i z65).f0 ≤ (n : Int) - 1
    · rw [decide_eq_true c]
      refine ev_pos rfl ?_
      by_cases c2 : ((b.getD i z65).f1.size : Int) > 90
      · refine ev_pos c2 (ev_cast (Ev.now _) ?_)
        rw [decide_eq_false (show ¬ (b.getD i z65).f1.size ≤ 90 by omega)]
        rfl
      · refine ev_neg c2 (ev_cast e ?_)
        rw [decide_eq_true (show (b.getD i z65).f1.size ≤ 90 by omega)]
        rfl
    · rw [decide_eq_false c]
      exact ev_neg (by simp) (ev_cast (Ev.now _) (by simp))
theorem spec_DiskOk_ev (a : List ByteArray) (b : List S65) (ha : a.length ≤ 140737488351232) (hb : b.length ≤ 140737488351232) : Ev (fun k => spec_DiskOk.f k a b) (diskGood a b) := by
  have hj : Ev (fun k => spec_DiskOk.j0 k true a b) false := by
    apply ev_shift
    simp only [spec_DiskOk.j0]
    exact ev_pos trivial (Ev.now _)
  unfold spec_DiskOk.f diskGood
  by_cases c1 : (a.length : Int) > 120
  · rw [decide_eq_false (show ¬ a.length ≤ 120 by omega)]
    exact ev_pos c1 hj
  · rw [decide_eq_true (show a.length ≤ 120 by omega)]
    refine ev_neg c1 ?_
    by_cases c2 : (b.length : Int) > 400
    · rw [decide_eq_true c2, decide_eq_false (show ¬ b.length ≤ 400 by omega)]
      exact hj
    · rw [decide_eq_false c2, decide_eq_true (show b.length ≤ 400 by omega)]
      apply ev_shift
      simp only [spec_DiskOk.j0]
      refine ev_neg (by simp) ?_
      rw [Bool.true_and, Bool.true_and]
      have := ev_loop (fun k i => spec_DiskOk.l0 k (i : Int) a b) (fun i => (a.drop i).all (fun s => decide (s.size ≤ 90)) && b.all (putGood a.length)) a.length ?_ ?_ 0 (Nat.zero_le _)
      · exact this
      · simp only [spec_DiskOk.l0]
        refine ev_neg (by omega) (Ev.bind (l3PutsOk_ev b a.length hb ha) (ev_cast (Ev.now _) ?_))
        rw [List.drop_length]
        rfl
      · intro i hi e
        simp only [spec_DiskOk.l0]
        refine ev_pos (by omega) (ev_pos (by omega) ?_)
        rw [rdOf_nat, wrap_nat (by omega), drop_cons ByteArray.empty a i hi, List.all_cons]
        by_cases c3 : ((a.getD i ByteArray.empty).size : Int) > 90
        · refine ev_pos c3 (ev_cast (Ev.now _) ?_)
          rw [decide_eq_false (show ¬ (a.getD i ByteArray.empty).size ≤ 90 by omega)]
          rfl
        · refine ev_neg c3 (ev_cast e ?_)
          rw [decide_eq_true (show (a.getD i ByteArray.empty).size ≤ 90 by omega), Bool.true_and]
theorem spec_Flush_l (a0 : List ByteArray) (b c : List S65) (hb : b.length ≤ 140737488351232) (n : Nat) (hp : ∀ p ∈ b, 0 ≤ p.f0 ∧ p.f0 ≤ (n : Int) - 1) (d : Nat) : ∀ (i : Nat) (a : List ByteArray), i + d = b.length → a.length = n →
    Ev (fun k => spec_Flush.l0 k (i : Int) a0 b a c) (writes (b.drop i) a, []) := by
  induction d with
  | zero =>
    intro i a hi ha
    apply ev_shift
    simp only [spec_Flush.l0]
    rw [List.drop_eq_nil_of_le (by omega)]
    exact ev_neg (by omega) (Ev.now _)
  | succ d ih =>
    intro i a hi ha
    obtain ⟨h0, h1⟩ := hp _ (getD_mem z65 b i (by omega))
    apply ev_shift
    simp only [spec_Flush.l0]
    simp only [rdPut_nat]
    rw [wrap_nat (by omega), drop_cons z65 b i (by omega)]
    exact ev_pos (by omega) (ev_pos (by omega) (ev_pos h0 (ev_pos (by omega) (ih (i + 1) _ (by omega) (by rw [List.length_set]; exact ha)))))
theorem spec_l1Copy_eq (l : List ByteArray) (h : l.length < 8796093022208) : spec_l1Copy.f l = some l := by
  unfold spec_l1Copy.f
  simp only [Option.bind_some, List.length_nil, Nat.zero_add, List.nil_append]
  rw [if_pos h]
theorem spec_l3Copy_eq (a : List ByteArray) (b : List S65) (ha : a.length ≤ 1099511627776) (hb : b.length ≤ 1099511627776) : spec_l3Copy.f a b = some (a, b) := by
  unfold spec_l3Copy.f
  rw [spec_l1Copy_eq a (by omega)]
  simp only [Option.bind_some, List.length_nil, Nat.zero_add, List.nil_append]
  rw [if_pos (by omega)]
theorem spec_Flush_ev (a : List ByteArray) (b : List S65) (ha : a.length ≤ 1099511627776) (hb : b.length ≤ 1099511627776) : Ev (fun k => spec_Flush.f k a b) (flushed a b) := by
  unfold spec_Flush.f flushed
  refine ev_eq (spec_l3Copy_eq a b ha hb) (Ev.bind (spec_DiskOk_ev a b (by omega) (by omega)) ?_)
  cases h : diskGood a b
  · exact ev_neg (by simp) (Ev.now _)
  · obtain ⟨_, _, _, h4⟩ := diskGood_split h
    refine ev_pos rfl ?_
    exact spec_Flush_l a b b (by omega) a.length (fun p hp => ⟨(h4 p hp).1, (h4 p hp).2.1⟩) b.length 0 a (Nat.zero_add _) rfl
theorem spec_SectorWrite_ev (a : List ByteArray) (b : List S65) (t : Int) (s : ByteArray) (ha : a.length ≤ 1099511627776) (hb : b.length ≤ 1099511627775) : Ev (fun k => spec_SectorWrite.f k a b t s) (sectorWrite a b t s) := by
  have hc := spec_l3Copy_eq a b ha (by omega)
  unfold spec_SectorWrite.f sectorWrite
  refine ev_eq hc (ev_pos (show b.length < 5864062014805 by omega) (ev_some (Ev.bind (spec_DiskOk_ev a b (by omega) (by omega)) ?_)))
  cases h1 : diskGood a b
  · rw [if_neg (by simp)]
    exact ev_neg (by simp) (ev_eq hc (Ev.now _))
  · refine ev_pos rfl (Ev.bind (spec_DiskOk_ev a (b ++ [⟨t, s⟩]) (by omega) (by rw [List.length_append, List.length_singleton]; omega)) ?_)
    cases h2 : diskGood a (b ++ [⟨t, s⟩])
    · rw [if_neg (by decide : ¬ (true = true ∧ false = true))]
      exact ev_neg (by decide) (ev_eq hc (Ev.now _))
    · rw [if_pos (⟨rfl, rfl⟩ : true = true ∧ true = true)]
      first | exact Ev.now _ | exact ev_pos rfl (Ev.now _)
theorem spec_EventsDo_l (l : List S92) (hl : l.length ≤ 140737488351232) (d : Nat) : ∀ (i : Nat) (a : List ByteArray) (b : List S65), i + d = l.length → a.length ≤ 1048576 → b.length ≤ 1048576 →
    Ev (fun k => spec_EventsDo.l0 k l (i : Int) a b) (evDo (l.drop i) (a, b)) := by
  induction d with
  | zero =>
    intro i a b hi ha hb
    apply ev_shift
    simp only [spec_EventsDo.l0]
    rw [List.drop_eq_nil_of_le (by omega)]
    exact ev_neg (by omega) (Ev.now _)
  | succ d ih =>
    intro i a b hi ha hb
    apply ev_shift
    simp only [spec_EventsDo.l0, rdEvent_nat]
    rw [wrap_nat (by omega), drop_cons z92 l i (by omega)]
    have hs := evStep_len a b (l.getD i z92) hb
    have hi2 := ih (i + 1) (evStep (a, b) (l.getD i z92)).1 (evStep (a, b) (l.getD i z92)).2 (by omega) (by omega) hs.2
    refine ev_pos (by omega) (ev_pos (by omega) ?_)
    by_cases c0 : (l.getD i z92).f0 = 0
    · have e : evStep (a, b) (l.getD i z92) = ((sectorWrite a b (l.getD i z92).f1 (l.getD i z92).f2).1, (sectorWrite a b (l.getD i z92).f1 (l.getD i z92).f2).2.1) := by unfold evStep; rw [if_pos c0]
      refine ev_pos c0 (Ev.bind (spec_SectorWrite_ev a b _ _ (by omega) (by omega)) ?_)
      show Ev _ (evDo (l.drop (i + 1)) (evStep (a, b) (l.getD i z92)))
      rw [e] at hi2 ⊢
      exact hi2
    · refine ev_neg c0 ?_
      by_cases c1 : (l.getD i z92).f0 = 1
      · have e : evStep (a, b) (l.getD i z92) = flushed a b := by unfold evStep; rw [if_neg c0, if_pos c1]
        refine ev_pos c1 (Ev.bind (spec_Flush_ev a b (by omega) (by omega)) ?_)
        show Ev _ (evDo (l.drop (i + 1)) (evStep (a, b) (l.getD i z92)))
        rw [e] at hi2 ⊢
        exact hi2
      · have e : evStep (a, b) (l.getD i z92) = (a, b) := by unfold evStep; rw [if_neg c0, if_neg c1]
        refine ev_neg c1 ?_
        show Ev _ (evDo (l.drop (i + 1)) (evStep (a, b) (l.getD i z92)))
        rw [e] at hi2 ⊢
        exact hi2
theorem spec_EventsDo_ev (a : List ByteArray) (b : List S65) (l : List S92) (ha : a.length ≤ 1048576) (hb : b.length ≤ 1048576) (hl : l.length ≤ 140737488351232) : Ev (fun k => spec_EventsDo.f k a b l) (evDo l (a, b)) := by
  unfold spec_EventsDo.f
  exact ev_eq (spec_l3Copy_eq a b (by omega) (by omega)) (spec_EventsDo_l l hl l.length 0 a b (Nat.zero_add _) ha hb)
/-- The letters of all texts. -/
def letters (l : List ByteArray) : Nat := (l.map ByteArray.size).sum
/-- What is left of a measure, behind a row of texts: below zero, or the row is that short. -/
def leftS (l : List ByteArray) (left : Int) : Int := if (l.length : Int) + letters l ≤ left then left - l.length - letters l else -1
theorem rdLPut_nat (xs : List S111) (i : Nat) : rd_T111 xs (i : Int) = xs.getD i z111 := by simp [rd_T111]
theorem szPut_eq (a : Int) (s : ByteArray) (m : Int) (h0 : 0 ≤ m) (h1 : m ≤ 1048576) (hs : s.size ≤ maxLen) : laws_szPut.f a s m = some (if m - (s.size : Int) < 0 then -1 else m - (s.size : Int)) := by
  unfold maxLen at hs
  unfold laws_szPut.f
  rw [wrap_in (by omega) (by omega)]
  split <;> rfl
theorem szPutS_ev (l : List S111) (m : Int) (h0 : 0 ≤ m) (h1 : m ≤ 1048576) (hl : l.length ≤ maxLen) (hx : ∀ x ∈ l, x.f1.size ≤ maxLen) :
    ∃ r : Int, Ev (fun k => laws_szPutS.f k l m) r ∧ r ≤ m ∧ (0 ≤ r → (l.length : Int) ≤ m ∧ ∀ x ∈ l, (x.f1.size : Int) ≤ m) := by
  have hl' : l.length ≤ 9223372036854775807 := hl
  unfold laws_szPutS.f
  by_cases c : m - (l.length : Int) < 0
  · refine ⟨-1, ?_, by omega, by omega⟩
    rw [wrap_in (by omega) (by omega)]
    exact ev_pos c (Ev.now _)
  · rw [wrap_in (by omega) (by omega)]
    have key : ∀ (d i : Nat) (x : Int), i + d = l.length → 0 ≤ x → x ≤ m → (∀ j, j < i → ((l.getD j z111).f1.size : Int) ≤ m) →
        ∃ r : Int, Ev (fun k => laws_szPutS.l0 k l x (i : Int)) r ∧ r ≤ m ∧ (0 ≤ r → ∀ j, j < l.length → ((l.getD j z111).f1.size : Int) ≤ m) := by
      intro d
      induction d with
      | zero =>
        intro i x hi hx0 hx1 hj
        refine ⟨x, ev_shift ?_, hx1, fun _ => by rw [show l.length = i from by omega]; exact hj⟩
        simp only [laws_szPutS.l0]
        exact ev_neg (by omega) (Ev.now _)
      | succ d ih =>
        intro i x hi hx0 hx1 hj
        have hm := hx _ (getD_mem z111 l i (by omega))
        have hs := szPut_eq (l.getD i z111).f0 (l.getD i z111).f1 x hx0 (by omega) hm
        by_cases c2 : x - ((l.getD i z111).f1.size : Int) < 0
        · rw [if_pos c2] at hs
          refine ⟨-1, ev_shift ?_, by omega, by omega⟩
          simp only [laws_szPutS.l0]
          refine ev_pos (by omega) (ev_pos (by omega) ?_)
          simp only [rdLPut_nat, hs, Option.bind_some]
          exact ev_pos (by omega) (Ev.now _)
        · rw [if_neg c2] at hs
          obtain ⟨r, e, hr1, hr2⟩ := ih (i + 1) (x - ((l.getD i z111).f1.size : Int)) (by omega) (by omega) (by omega) (fun j hji => by
            by_cases e : j = i
            · subst e
              omega
            · exact hj j (by omega))
          refine ⟨r, ev_shift ?_, hr1, hr2⟩
          simp only [laws_szPutS.l0]
          refine ev_pos (by omega) (ev_pos (by omega) ?_)
          simp only [rdLPut_nat, hs, Option.bind_some]
          rw [wrap_nat (by omega)]
          exact ev_neg (by omega) e
    obtain ⟨r, e, hr1, hr2⟩ := key l.length 0 (m - (l.length : Int)) (by omega) (by omega) (by omega) (fun j hj => by omega)
    refine ⟨r, ev_neg c e, hr1, fun hr => ⟨by omega, fun x hx2 => ?_⟩⟩
    obtain ⟨j, hj, rfl⟩ := List.mem_iff_getElem.1 hx2
    have := hr2 hr j hj
    simpa [List.getD, hj] using this
theorem letters_cons (x : ByteArray) (l : List ByteArray) : letters (x :: l) = x.size + letters l := rfl
theorem szStringS_l (l : List ByteArray) (hl : l.length ≤ 9223372036854775807) (hx : ∀ x ∈ l, x.size ≤ 9223372036854775807) (d : Nat) : ∀ (i : Nat) (left : Int), i + d = l.length → 0 ≤ left → left ≤ 9223372036854775807 →
    Ev (fun k => laws_szStringS.l0 k l left (i : Int)) (if (letters (l.drop i) : Int) ≤ left then left - letters (l.drop i) else -1) := by
  induction d with
  | zero =>
    intro i left hi h0 h1
    apply ev_shift
    simp only [laws_szStringS.l0]
    refine ev_neg (by omega) (ev_cast (Ev.now _) ?_)
    rw [List.drop_eq_nil_of_le (by omega), show letters [] = 0 from rfl, if_pos (by omega)]
    omega
  | succ d ih =>
    intro i left hi h0 h1
    have hs := hx _ (getD_mem ByteArray.empty l i (by omega))
    apply ev_shift
    simp only [laws_szStringS.l0]
    rw [rdOf_nat, drop_cons ByteArray.empty l i (by omega), letters_cons]
    generalize hz : (l.getD i ByteArray.empty).size = z at hs
    rw [wrap_in (by omega) (by omega)]
    refine ev_pos (by omega) (ev_pos (by omega) ?_)
    by_cases c : left - (z : Int) < 0
    · refine ev_pos c (ev_cast (Ev.now _) ?_)
      rw [if_neg (by omega)]
    · rw [wrap_nat (by omega)]
      refine ev_neg c (ev_cast (ih (i + 1) _ (by omega) (by omega) (by omega)) ?_)
      by_cases c2 : (letters (l.drop (i + 1)) : Int) ≤ left - z
      · rw [if_pos c2, if_pos (by omega)]
        omega
      · rw [if_neg c2, if_neg (by omega)]
theorem szStringS_ev (l : List ByteArray) (hl : l.length ≤ 9223372036854775807) (hx : ∀ x ∈ l, x.size ≤ 9223372036854775807) (left : Int) (h0 : 0 ≤ left) (h1 : left ≤ 9223372036854775807) :
    Ev (fun k => laws_szStringS.f k l left) (leftS l left) := by
  unfold laws_szStringS.f leftS
  rw [wrap_in (by omega) (by omega)]
  by_cases c : left - (l.length : Int) < 0
  · refine ev_pos c (ev_cast (Ev.now _) ?_)
    rw [if_neg (by omega)]
  · refine ev_neg c (ev_cast (szStringS_l l hl hx l.length 0 _ (by omega) (by omega) (by omega)) ?_)
    rw [List.drop_zero]
    by_cases c2 : (l.length : Int) + letters l ≤ left
    · rw [if_pos c2, if_pos (by omega)]
    · rw [if_neg c2, if_neg (by omega)]
theorem szDisk_m (a : List ByteArray) (b : List S111) (m : Int) (h0 : 0 ≤ m) (h1 : m ≤ 1048576) (ha : a.length ≤ maxLen) (hx : ∀ x ∈ a, x.size ≤ maxLen) (hb : b.length ≤ maxLen) (hy : ∀ x ∈ b, x.f1.size ≤ maxLen) :
    ∃ r : Int, Ev (fun k => laws_szDisk.f k a b m) r ∧ r ≤ m ∧ (0 ≤ r → a.length + letters a ≤ 1048576 ∧ b.length ≤ 1048576 ∧ ∀ x ∈ b, x.f1.size ≤ 1048576) := by
  have hm : maxLen ≤ 9223372036854775807 := by decide
  have h1 := szStringS_ev a (by omega) (fun x h => by have := hx x h; omega) m (by omega) (by omega)
  unfold laws_szDisk.f
  unfold leftS at h1
  by_cases c : (a.length : Int) + letters a ≤ m
  · rw [if_pos c] at h1
    obtain ⟨r, er, hr1, hr2⟩ := szPutS_ev b (m - (a.length : Int) - (letters a : Int)) (by omega) (by omega) hb hy
    by_cases c2 : r < 0
    · exact ⟨-1, Ev.bind h1 (ev_neg (by omega) (Ev.bind er (ev_pos c2 (Ev.now _)))), by omega, by omega⟩
    · obtain ⟨h3, h4⟩ := hr2 (by omega)
      refine ⟨r, Ev.bind h1 (ev_neg (by omega) (Ev.bind er (ev_neg c2 (Ev.now _)))), by omega, fun _ => ⟨by omega, by omega, fun x hx2 => ?_⟩⟩
      have := h4 x hx2
      omega
  · rw [if_neg c] at h1
    exact ⟨-1, Ev.bind h1 (ev_pos (by omega) (Ev.now _)), by omega, by omega⟩
theorem rdLEvent_nat (xs : List S91) (i : Nat) : rd_T91 xs (i : Int) = xs.getD i z91 := by simp [rd_T91]
theorem szEvent_eq (a b : Int) (s : ByteArray) (m : Int) (h0 : 0 ≤ m) (h1 : m ≤ 1048576) (hs : s.size ≤ maxLen) : laws_szEvent.f a b s m = some (if m - (s.size : Int) < 0 then -1 else m - (s.size : Int)) := by
  unfold maxLen at hs
  unfold laws_szEvent.f
  rw [wrap_in (by omega) (by omega)]
  split <;> rfl
theorem szEventS_ev (l : List S91) (m : Int) (h0 : 0 ≤ m) (h1 : m ≤ 1048576) (hl : l.length ≤ maxLen) (hx : ∀ x ∈ l, x.f2.size ≤ maxLen) :
    ∃ r : Int, Ev (fun k => laws_szEventS.f k l m) r ∧ r ≤ m ∧ (0 ≤ r → (l.length : Int) ≤ m ∧ ∀ x ∈ l, (x.f2.size : Int) ≤ m) := by
  have hl' : l.length ≤ 9223372036854775807 := hl
  unfold laws_szEventS.f
  by_cases c : m - (l.length : Int) < 0
  · refine ⟨-1, ?_, by omega, by omega⟩
    rw [wrap_in (by omega) (by omega)]
    exact ev_pos c (Ev.now _)
  · rw [wrap_in (by omega) (by omega)]
    have key : ∀ (d i : Nat) (x : Int), i + d = l.length → 0 ≤ x → x ≤ m → (∀ j, j < i → ((l.getD j z91).f2.size : Int) ≤ m) →
        ∃ r : Int, Ev (fun k => laws_szEventS.l0 k l x (i : Int)) r ∧ r ≤ m ∧ (0 ≤ r → ∀ j, j < l.length → ((l.getD j z91).f2.size : Int) ≤ m) := by
      intro d
      induction d with
      | zero =>
        intro i x hi hx0 hx1 hj
        refine ⟨x, ev_shift ?_, hx1, fun _ => by rw [show l.length = i from by omega]; exact hj⟩
        simp only [laws_szEventS.l0]
        exact ev_neg (by omega) (Ev.now _)
      | succ d ih =>
        intro i x hi hx0 hx1 hj
        have hm := hx _ (getD_mem z91 l i (by omega))
        have hs := szEvent_eq (l.getD i z91).f0 (l.getD i z91).f1 (l.getD i z91).f2 x hx0 (by omega) hm
        by_cases c2 : x - ((l.getD i z91).f2.size : Int) < 0
        · rw [if_pos c2] at hs
          refine ⟨-1, ev_shift ?_, by omega, by omega⟩
          simp only [laws_szEventS.l0]
          refine ev_pos (by omega) (ev_pos (by omega) ?_)
          simp only [rdLEvent_nat, hs, Option.bind_some]
          exact ev_pos (by omega) (Ev.now _)
        · rw [if_neg c2] at hs
          obtain ⟨r, e, hr1, hr2⟩ := ih (i + 1) (x - ((l.getD i z91).f2.size : Int)) (by omega) (by omega) (by omega) (fun j hji => by
            by_cases e : j = i
            · subst e
              omega
            · exact hj j (by omega))
          refine ⟨r, ev_shift ?_, hr1, hr2⟩
          simp only [laws_szEventS.l0]
          refine ev_pos (by omega) (ev_pos (by omega) ?_)
          simp only [rdLEvent_nat, hs, Option.bind_some]
          rw [wrap_nat (by omega)]
          exact ev_neg (by omega) e
    obtain ⟨r, e, hr1, hr2⟩ := key l.length 0 (m - (l.length : Int)) (by omega) (by omega) (by omega) (fun j hj => by omega)
    refine ⟨r, ev_neg c e, hr1, fun hr => ⟨by omega, fun x hx2 => ?_⟩⟩
    obtain ⟨j, hj, rfl⟩ := List.mem_iff_getElem.1 hx2
    have := hr2 hr j hj
    simpa [List.getD, hj] using this
theorem copy_step {α : Type} (d : α) (l : List α) (i : Nat) (h : i < l.length) : (l.take i ++ List.replicate (l.length - i) d).set i (l.getD i d) = l.take (i + 1) ++ List.replicate (l.length - (i + 1)) d := by
  have hlen : (l.take i).length = i := by simp; omega
  rw [List.set_append_right _ _ (by omega), hlen, Nat.sub_self]
  obtain ⟨m, hm⟩ : ∃ m, l.length - i = m + 1 := ⟨l.length - i - 1, by omega⟩
  rw [hm, List.replicate_succ, List.set_cons_zero, List.take_succ_eq_append_getElem h, List.append_assoc]
  have : l.length - (i + 1) = m := by omega
  rw [this]
  simp [List.getD, h]
theorem toPutS_ev (l : List S111) (h : l.length ≤ 1048576) : Ev (fun k => laws_toPutS.f k l) (l.map ofLPut) := by
  unfold laws_toPutS.f
  refine ev_pos (by omega) (ev_pos (by omega) ?_)
  have := ev_loop (fun k i => laws_toPutS.l0 k l ((l.map ofLPut).take i ++ List.replicate ((l.map ofLPut).length - i) z65) (i : Int)) (fun _ => l.map ofLPut) l.length ?_ ?_ 0 (Nat.zero_le _)
  · simpa using this
  · simp only [laws_toPutS.l0]
    refine ev_neg (by omega) ?_
    have e1 : (l.map ofLPut).length - l.length = 0 := by rw [List.length_map]; omega
    have e2 : (l.map ofLPut).take l.length = l.map ofLPut := List.take_of_length_le (by rw [List.length_map]; omega)
    rw [e1, e2, List.replicate_zero, List.append_nil]
    exact Ev.now _
  · intro i hi e
    simp only [laws_toPutS.l0, laws_toPut.f]
    refine ev_pos (by omega) (ev_pos (by omega) (ev_some (ev_pos (by simp; omega) ?_)))
    have hi2 : i < (l.map ofLPut).length := by rw [List.length_map]; exact hi
    have hs := copy_step z65 (l.map ofLPut) i hi2
    have hg : (l.map ofLPut).getD i z65 = ⟨(l.getD i z111).f0, (l.getD i z111).f1⟩ := by simp [List.getD, hi, ofLPut]
    rw [hg] at hs
    dsimp only
    simp only [rdLPut_nat]
    rw [wrap_nat (by omega), Int.toNat_natCast, hs]
    exact e
theorem toStringS_ev (l : List ByteArray) (h : l.length ≤ 1099511627776) : Ev (fun k => laws_toStringS.f k l) l := by
  unfold laws_toStringS.f
  refine ev_pos (by omega) (ev_pos (by omega) ?_)
  have := ev_loop (fun k i => laws_toStringS.l0 k l (l.take i ++ List.replicate (l.length - i) (⟨#[]⟩ : ByteArray)) (i : Int)) (fun _ => l) l.length ?_ ?_ 0 (Nat.zero_le _)
  · simpa using this
  · simp only [laws_toStringS.l0]
    refine ev_neg (by omega) (ev_cast (Ev.now _) ?_)
    simp
  · intro i hi e
    simp only [laws_toStringS.l0]
    refine ev_pos (by omega) (ev_pos (by omega) (ev_pos (by simp; omega) ?_))
    rw [wrap_nat (by omega), rdOf_nat, Int.toNat_natCast]
    rw [show (⟨#[]⟩ : ByteArray) = ByteArray.empty from rfl] at e ⊢
    rw [copy_step ByteArray.empty l i hi]
    exact e
theorem toDisk_ev (a : List ByteArray) (b : List S111) (ha : a.length ≤ 1048576) (hb : b.length ≤ 1048576) : Ev (fun k => laws_toDisk.f k a b) (a, b.map ofLPut) := by
  unfold laws_toDisk.f
  exact Ev.bind (toStringS_ev a (by omega)) (Ev.bind (toPutS_ev b hb) (Ev.now _))
theorem toEventS_ev (l : List S91) (h : l.length ≤ 1048576) : Ev (fun k => laws_toEventS.f k l) (l.map ofLEvent) := by
  unfold laws_toEventS.f
  refine ev_pos (by omega) (ev_pos (by omega) ?_)
  have := ev_loop (fun k i => laws_toEventS.l0 k l ((l.map ofLEvent).take i ++ List.replicate ((l.map ofLEvent).length - i) z92) (i : Int)) (fun _ => l.map ofLEvent) l.length ?_ ?_ 0 (Nat.zero_le _)
  · simpa using this
  · simp only [laws_toEventS.l0]
    refine ev_neg (by omega) ?_
    have e1 : (l.map ofLEvent).length - l.length = 0 := by rw [List.length_map]; omega
    have e2 : (l.map ofLEvent).take l.length = l.map ofLEvent := List.take_of_length_le (by rw [List.length_map]; omega)
    rw [e1, e2, List.replicate_zero, List.append_nil]
    exact Ev.now _
  · intro i hi e
    simp only [laws_toEventS.l0, laws_toEvent.f]
    refine ev_pos (by omega) (ev_pos (by omega) (ev_some (ev_pos (by simp; omega) ?_)))
    have hi2 : i < (l.map ofLEvent).length := by rw [List.length_map]; exact hi
    have hs := copy_step z92 (l.map ofLEvent) i hi2
    have hg : (l.map ofLEvent).getD i z92 = ⟨(l.getD i z91).f0, (l.getD i z91).f1, (l.getD i z91).f2⟩ := by simp [List.getD, hi, ofLEvent]
    rw [hg] at hs
    dsimp only
    simp only [rdLEvent_nat]
    rw [wrap_nat (by omega), Int.toNat_natCast, hs]
    exact e
theorem FnExactEventsDo : laws_FnExactEventsDo.Pure := by
  rintro a b es ⟨ha, hx⟩ ⟨hb, hy⟩ ⟨he, hz⟩
  apply Ev.rounds (g := fun k => laws_FnExactEventsDo.f k a b es)
  unfold laws_FnExactEventsDo.f
  obtain ⟨r, er, hr1, hr⟩ := szDisk_m a b 1048576 (by omega) (by omega) ha hx hb (fun x h => (hy x h).2)
  refine Ev.bind er ?_
  by_cases c : r < 0
  · exact ev_pos c (Ev.now _)
  obtain ⟨h1, h2, h3⟩ := hr (by omega)
  have ht := toDisk_ev a b (by omega) h2
  have hlm : (b.map ofLPut).length ≤ 1048576 := by rw [List.length_map]; omega
  generalize b.map ofLPut = b' at ht hlm
  refine ev_neg c (ev_shift ?_)
  simp only [laws_FnExactEventsDo.j0]
  obtain ⟨r', er', hr1', hr'⟩ := szEventS_ev es r (by omega) (by omega) he (fun x h => (hz x h).2.2)
  refine Ev.bind er' ?_
  by_cases c' : r' < 0
  · exact ev_pos c' (Ev.now _)
  obtain ⟨h4, h5⟩ := hr' (by omega)
  have hte := toEventS_ev es (by omega)
  have hle : (es.map ofLEvent).length ≤ 1048576 := by rw [List.length_map]; omega
  generalize es.map ofLEvent = es' at hte hle
  have hi := impl_EventsDo_ev a b' es' (by omega) hlm (by omega)
  have hs := spec_EventsDo_ev a b' es' (by omega) hlm (by omega)
  obtain ⟨e1, e2⟩ := evDo_len es' a b' hlm
  have hq := eqDisk_refl (evDo es' (a, b')).1 (evDo es' (a, b')).2 (by omega) (by omega)
  have hq2 := eqDisk_refl a b' (by omega) (by omega)
  have hh := heldDisk_ev (evDo es' (a, b')).1.length (evDo es' (a, b')).2.length 1 (by omega) (by omega) (by omega) (by omega)
  have hme := markEventS_ev es' (1 + a.length + 2 * b'.length) (by omega) (by omega) (by omega)
  refine ev_neg c' (ev_shift ?_)
  simp only [laws_FnExactEventsDo.j1]
  refine Ev.bind ht (Ev.bind hte (Ev.bind hs (Ev.bind ht (Ev.bind hte (Ev.bind hi (Ev.bind hq (ev_pos rfl (ev_shift ?_))))))))
  simp only [laws_FnExactEventsDo.j2]
  refine Ev.bind ht (Ev.bind hq2 (ev_pos rfl (ev_shift ?_)))
  simp only [laws_FnExactEventsDo.j3]
  refine Ev.bind hte (Ev.bind (eqEventS_refl es' (by omega)) (ev_pos rfl (ev_shift ?_)))
  simp only [laws_FnExactEventsDo.j4]
  refine Ev.bind (markDisk_ev a b' 1 (by omega) (by omega) (by omega) (by omega)) (Ev.bind hme (ev_neg (by omega) (Ev.bind hq (ev_shift ?_))))
  simp only [laws_FnExactEventsDo.j5]
  refine ev_neg (by simp) (ev_shift ?_)
  simp only [laws_FnExactEventsDo.j6]
  refine Ev.bind (markDisk_ev _ _ 1 (by omega) (by omega) (by omega) (by omega)) (Ev.bind hh (ev_neg (by omega) (ev_shift ?_)))
  simp only [laws_FnExactEventsDo.j7]
  refine ev_pos (by first | rfl | trivial) (ev_shift ?_)
  simp only [laws_FnExactEventsDo.j8]
  refine Ev.bind ht (Ev.bind hte (Ev.bind hi (Ev.bind hq (ev_pos rfl (ev_shift ?_)))))
  simp only [laws_FnExactEventsDo.j9]
  exact Ev.bind hh (ev_neg (by omega) (ev_pos rfl (Ev.now _)))
end Go.Proofs.Ytgmpdkefegofhaa.Pure
