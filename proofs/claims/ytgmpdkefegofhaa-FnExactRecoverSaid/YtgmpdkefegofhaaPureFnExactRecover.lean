/- FnExactRecover: the law's function of the print answers true for every input within the row's bounds. Conditions: none but the bounds that the row itself gives. -/
import Derived.Test.YtgmpdkefegofhaaJFnExactRecover
import Derived.Test.YtgmpdkefegofhaaPFnExactRecoverx12
import Derived.OpenShut
import Derived.Laws.BitsLemmas
namespace Go.Proofs.Ytgmpdkefegofhaa.Pure
open Go Go.RowKit Go.Proofs.Ytgmpdkefegofhaa.PFnExactRecover Go.Proofs.YtgmpdkefegofhaaW.PrintWords Go.Proofs.YtgmpdkefegofhaaW.PrintLast Go.Proofs.YtgmpdkefegofhaaW.PrintMore Go.Proofs.YtgmpdkefegofhaaW.PrintMore Go.Proofs.YtgmpdkefegofhaaW.PrintMore Go.Proofs.YtgmpdkefegofhaaW.PrintMore
set_option linter.unusedVariables false
set_option linter.unusedSimpArgs false

theorem eqPut_refl (a : Int) (s : ByteArray) : laws_eqPut.f a s a s = some true := by
  unfold laws_eqPut.f
  rw [if_pos rfl, if_pos rfl]
theorem ev_eq {α β : Type} {o : Option α} {a : α} {f : Nat → α → Option β} {r : β} (h : o = some a) (e : Ev (fun k => f k a) r) : Ev (fun k => o.bind (f k)) r := by
  subst h
  exact e
theorem ev_shift {α : Type} {g : Nat → Option α} {r : α} (h : Ev (fun k => g (k + 1)) r) : Ev g r := Ev.step (f := fun k => g (k + 1)) (fun _ => rfl) h
theorem ev_loop {ρ : Type} (L : Nat → Nat → Option ρ) (res : Nat → ρ) (n : Nat) (he : Ev (fun k => L (k + 1) n) (res n))
    (hs : ∀ i, i < n → Ev (fun k => L k (i + 1)) (res (i + 1)) → Ev (fun k => L (k + 1) i) (res i)) : ∀ i, i ≤ n → Ev (fun k => L k i) (res i) := by
  have key : ∀ d i, i + d = n → Ev (fun k => L k i) (res i) := by
    intro d
    induction d with
    | zero =>
      intro i h
      obtain rfl : i = n := by omega
      exact ev_shift he
    | succ d ih =>
      intro i h
      exact ev_shift (hs i (by omega) (ih (i + 1) (by omega)))
  intro i h
  exact key (n - i) i (by omega)
theorem ev_neg {α : Type} {c : Prop} [Decidable c] {f g : Nat → Option α} {r : α} (h : ¬ c) (e : Ev g r) : Ev (fun k => if c then f k else g k) r := by
  simpa only [if_neg h] using e
theorem ev_pos {α : Type} {c : Prop} [Decidable c] {f g : Nat → Option α} {r : α} (h : c) (e : Ev f r) : Ev (fun k => if c then f k else g k) r := by
  simpa only [if_pos h] using e
theorem wrap_nat {i : Nat} (h : i < 9223372036854775807) : wrap64 ((i : Int) + 1) = ((i + 1 : Nat) : Int) := by
  unfold wrap64
  omega
theorem eqPutS_refl (a : List S65) (h : a.length ≤ 140737488351232) : Ev (fun k => laws_eqPutS.f k a a) true := by
  unfold laws_eqPutS.f
  refine ev_pos rfl ?_
  have := ev_loop (fun k i => laws_eqPutS.l0 k a a (i : Int)) (fun _ => true) a.length ?_ ?_ 0 (Nat.zero_le _)
  · exact this
  · simp only [laws_eqPutS.l0]
    exact ev_neg (by omega) (Ev.now _)
  · intro i hi e
    simp only [laws_eqPutS.l0]
    refine ev_pos (by omega) (ev_pos (by omega) (ev_pos (by omega) (ev_eq (eqPut_refl _ _) (ev_pos rfl ?_))))
    rw [wrap_nat (by omega)]
    exact e
theorem drop_cons {α : Type} (d : α) (l : List α) (i : Nat) (h : i < l.length) : l.drop i = l.getD i d :: l.drop (i + 1) := by
  rw [List.drop_eq_getElem_cons h]
  simp [List.getD, h]
theorem drop_eq {α : Type} [DecidableEq α] (d : α) (a b : List α) (i : Nat) (ha : i < a.length) (hb : i < b.length) : (a.drop i = b.drop i) ↔ (a.getD i d = b.getD i d ∧ a.drop (i + 1) = b.drop (i + 1)) := by
  rw [drop_cons d a i ha, drop_cons d b i hb]
  simp
theorem ev_cast {α : Type} {g : Nat → Option α} {r r' : α} (h : Ev g r) (e : r = r') : Ev g r' := e ▸ h
theorem rdOf_nat {α : Type} (d : α) (xs : List α) (i : Nat) : rdOf d xs (i : Int) = xs.getD i d := by simp [rdOf]
theorem toList_inj {a b : ByteArray} : a.toList = b.toList ↔ a = b := by
  constructor
  · intro h
    have h' := h
    rw [ByteArray.toList_eq, ByteArray.toList_eq] at h'
    cases a
    cases b
    simp only [ByteArray.mk.injEq]
    exact Array.toList_inj.mp h'
  · intro h
    rw [h]
theorem eqStringS_ev (a b : List ByteArray) (h : a.length ≤ 140737488351232) : Ev (fun k => laws_eqStringS.f k a b) (decide (a = b)) := by
  unfold laws_eqStringS.f
  by_cases hl : a.length = b.length
  · refine ev_pos (by omega) ?_
    have := ev_loop (fun k i => laws_eqStringS.l0 k a b (i : Int)) (fun i => decide (a.drop i = b.drop i)) a.length ?_ ?_ 0 (Nat.zero_le _)
    · exact this
    · simp only [laws_eqStringS.l0]
      refine ev_neg (by omega) ?_
      refine ev_cast (Ev.now _) ?_
      rw [List.drop_length, hl, List.drop_length]
      simp
    · intro i hi e
      simp only [laws_eqStringS.l0]
      refine ev_pos (by omega) (ev_pos (by omega) (ev_pos (by omega) ?_))
      rw [wrap_nat (by omega), rdOf_nat, rdOf_nat]
      by_cases hc : a.getD i ByteArray.empty = b.getD i ByteArray.empty
      · refine ev_pos (toList_inj.mpr hc) (ev_cast e ?_)
        rw [decide_eq_decide, drop_eq ByteArray.empty a b i hi (by omega)]
        exact ⟨fun z => ⟨hc, z⟩, fun z => z.2⟩
      · refine ev_neg (fun z => hc (toList_inj.mp z)) (ev_cast (Ev.now _) ?_)
        symm
        rw [decide_eq_false_iff_not, drop_eq ByteArray.empty a b i hi (by omega)]
        exact fun z => hc z.1
  · refine ev_neg (by omega) (ev_cast (Ev.now _) ?_)
    symm
    rw [decide_eq_false_iff_not]
    exact fun z => hl (by rw [z])
theorem eqDisk_refl (a : List ByteArray) (b : List S65) (ha : a.length ≤ 140737488351232) (hb : b.length ≤ 140737488351232) : Ev (fun k => laws_eqDisk.f k a b a b) true := by
  unfold laws_eqDisk.f
  exact Ev.bind (eqStringS_ev a a ha) (ev_pos (by simp) (Ev.bind (eqPutS_refl b hb) (ev_pos rfl (Ev.now _))))
theorem ev_some {α β : Type} {a : α} {f : Nat → α → Option β} {r : β} (e : Ev (fun k => f k a) r) : Ev (fun k => (some a).bind (f k)) r := e
theorem strOfNums_size (l : List Int) : (strOfNums l).size = l.length := by
  simp [strOfNums, ByteArray.size]
theorem wrap_in {x : Int} (h0 : -9223372036854775808 ≤ x) (h1 : x ≤ 9223372036854775807) : wrap64 x = x := by
  unfold wrap64
  omega
theorem markText_l (n : Nat) : ∀ acc : ByteArray, acc.size + n ≤ 4000000000000000000 → ∃ t, Ev (fun k => laws_markText.l0 k (n : Int) acc) t := by
  induction n using Nat.strongRecOn with
  | _ n ih =>
    intro acc ha
    by_cases h : 0 < n
    · have e1 : wrap64 (Int.tdiv (n : Int) 10) = ((n / 10 : Nat) : Int) := by rw [Int.tdiv_eq_ediv_of_nonneg (by omega), wrap_in (by omega) (by omega)]; omega
      obtain ⟨t, ht⟩ := ih (n / 10) (by omega) (strOfNums [(wrap64 (48 + (Int.tmod (n : Int) 10))) % 256] ++ acc) (by rw [ByteArray.size_append, strOfNums_size]; simp only [List.length_cons, List.length_nil]; omega)
      refine ⟨t, ?_⟩
      apply ev_shift
      simp only [laws_markText.l0]
      refine ev_pos (by omega) (ev_some (ev_pos (by rw [strOfNums_size]; simp only [List.length_cons, List.length_nil]; omega) ?_))
      rw [e1]
      exact ht
    · refine ⟨(⟨#[109]⟩ : ByteArray) ++ acc, ?_⟩
      apply ev_shift
      simp only [laws_markText.l0]
      exact ev_neg (by omega) (ev_pos (by omega) (Ev.now _))
theorem markText_any (m : Int) (h : m ≤ 1000000000000000000) : ∃ t, Ev (fun k => laws_markText.f k m) t := by
  unfold laws_markText.f
  by_cases h0 : m ≤ 0
  · exact ⟨_, ev_pos h0 (Ev.now _)⟩
  · obtain ⟨n, rfl⟩ := Int.eq_ofNat_of_zero_le (show 0 ≤ m by omega)
    obtain ⟨t, ht⟩ := markText_l n (⟨#[]⟩ : ByteArray) (by simp only [ByteArray.size, List.size_toArray, List.length_nil]; omega)
    exact ⟨t, ev_neg h0 ht⟩
noncomputable def markText (m : Int) : ByteArray := if h : m ≤ 1000000000000000000 then Classical.choose (markText_any m h) else ByteArray.empty
noncomputable def markPut (m : Int) (j : Nat) : S65 := ⟨m + 2 * (j : Int), markText (m + 2 * (j : Int) + 1)⟩
theorem markText_ev (m : Int) (h : m ≤ 1000000000000000000) : Ev (fun k => laws_markText.f k m) (markText m) := by
  unfold markText
  rw [dif_pos h]
  exact Classical.choose_spec (markText_any m h)
theorem range_getD {α : Type} (d : α) (g : Nat → α) (n i : Nat) (h : i < n) : ((List.range n).map g).getD i d = g i := by
  simp [List.getD, h]
theorem rdPut_nat (xs : List S65) (i : Nat) : rd_T65 xs (i : Int) = xs.getD i z65 := by simp [rd_T65]
theorem wrap_up {i : Int} (h0 : 0 ≤ i) (h : i < 9223372036854775807) : wrap64 (i + 1) = i + 1 := by
  unfold wrap64
  omega
theorem heldPutS_ev (n : Nat) (m : Int) (h : n ≤ 140737488351232) (h0 : 0 ≤ m) (h1 : m ≤ 100000000000000000) :
    Ev (fun k => laws_heldPutS.f k ((List.range n).map (markPut m)) m) (m + 2 * n) := by
  unfold laws_heldPutS.f
  have := ev_loop (fun k i => laws_heldPutS.l0 k ((List.range n).map (markPut m)) (m + 2 * (i : Int)) (i : Int)) (fun _ => m + 2 * (n : Int)) n ?_ ?_ 0 (Nat.zero_le _)
  · simpa using this
  · simp only [laws_heldPutS.l0]
    refine ev_neg (by simp) ?_
    exact Ev.now _
  · intro i hi e
    simp only [laws_heldPutS.l0]
    rw [wrap_up (i := m + 2 * (i : Int)) (by omega) (by omega), rdPut_nat, range_getD z65 (markPut m) n i hi]
    refine ev_pos (by simp; omega) (ev_pos (by omega) (ev_pos rfl (Ev.bind (markText_ev _ (by omega)) (ev_pos rfl ?_))))
    rw [wrap_nat (by omega), wrap_up (i := m + 2 * (i : Int) + 1) (by omega) (by omega)]
    have e1 : m + 2 * (i : Int) + 1 + 1 = m + 2 * ((i + 1 : Nat) : Int) := by omega
    rw [e1]
    exact e
theorem heldStringS_ev (n : Nat) (m : Int) (h : n ≤ 140737488351232) (h0 : 0 ≤ m) (h1 : m ≤ 100000000000000000) :
    Ev (fun k => laws_heldStringS.f k ((List.range n).map fun j : Nat => markText (m + (j : Int))) m) (m + n) := by
  unfold laws_heldStringS.f
  have := ev_loop (fun k i => laws_heldStringS.l0 k ((List.range n).map fun j : Nat => markText (m + (j : Int))) (m + (i : Int)) (i : Int)) (fun _ => m + n) n ?_ ?_ 0 (Nat.zero_le _)
  · simpa using this
  · simp only [laws_heldStringS.l0]
    refine ev_neg (by simp) ?_
    exact Ev.now _
  · intro i hi e
    simp only [laws_heldStringS.l0]
    refine ev_pos (by simp; omega) (ev_pos (by omega) (Ev.bind (markText_ev _ (by omega)) (ev_pos ?_ ?_)))
    · rw [rdOf_nat, range_getD ByteArray.empty _ n i hi]
    · rw [wrap_nat (by omega), wrap_up (by omega) (by omega)]
      have e1 : m + (i : Int) + 1 = m + ((i + 1 : Nat) : Int) := by omega
      rw [e1]
      exact e
noncomputable def markedP (n : Nat) (m : Int) : List S65 := (List.range n).map (markPut m)
noncomputable def markedS (n : Nat) (m : Int) : List ByteArray := (List.range n).map fun j : Nat => markText (m + (j : Int))
theorem heldDisk_ev (n p : Nat) (m : Int) (ha : n ≤ 10000000000) (hb : p ≤ 10000000000) (h0 : 0 ≤ m) (h1 : m ≤ 10000000000000000) :
    Ev (fun k => laws_heldDisk.f k (markedS n m) (markedP p (m + n)) m) (m + n + 2 * p) := by
  unfold laws_heldDisk.f
  exact Ev.bind (heldStringS_ev n m (by omega) h0 (by omega)) (ev_neg (by omega) (Ev.bind (heldPutS_ev p (m + n) (by omega) (by omega) (by omega)) (ev_neg (by omega) (Ev.now _))))
/-- The writes carried home, one behind the other. -/
def homeGo (n : Int) : List Int → Nat → List ByteArray → List ByteArray
  | [], _, a => a
  | x :: l, i, a => homeGo n l (i + 1) (a.set (n + 1 + x).toNat (a.getD (1 + i) ByteArray.empty))
def crcBit (x : Nat) : Nat := if x % 2 = 1 then (x / 2) ^^^ 3988292384 else x / 2
def crcBits : Nat → Nat → Nat
  | 0, x => x
  | n + 1, x => crcBits n (crcBit x)
def crcFrom : List Int → Nat → Nat
  | [], x => x
  | b :: l, x => crcFrom l (crcBits 8 (x ^^^ b.toNat))
def crc (l : List Int) : Int := ((crcFrom l 4294967295 ^^^ 4294967295 : Nat) : Int)
def putNat (n : Nat) : List Int := if h : n < 128 then [(n : Int)] else ((n % 128 + 128 : Nat) : Int) :: putNat (n / 128)
termination_by n
decreasing_by omega
def putNum (n : Int) : List Int := if 0 ≤ n ∧ n ≤ 2147483647 then putNat n.toNat else []
def putText (s : ByteArray) : List Int := putNum (s.size : Int) ++ bytesOf s
def sumOf (l : List ByteArray) : Int := crc (l.flatMap putText)
def carried (a : List ByteArray) (n : Int) (h : List Int × Int × Bool) : List ByteArray :=
  if h.2.2 = true ∧ (sumOf ((a.take (1 + h.1.length)).drop 1) == h.2.1) = true then homeGo n h.1 0 a else a
/-- A write that a disk of n sectors can bear. -/
def putGood (n : Nat) (p : S65) : Bool := decide (0 ≤ p.f0 ∧ p.f0 ≤ (n : Int) - 1) && decide (p.f1.size ≤ 90)
def diskGood (a : List ByteArray) (b : List S65) : Bool := decide (a.length ≤ 120) && (decide (b.length ≤ 400) && (a.all (fun s => decide (s.size ≤ 90)) && b.all (putGood a.length)))
theorem diskGood_split {a : List ByteArray} {b : List S65} (h : diskGood a b = true) : a.length ≤ 120 ∧ b.length ≤ 400 ∧ (∀ s ∈ a, s.size ≤ 90) ∧ ∀ p ∈ b, 0 ≤ p.f0 ∧ p.f0 ≤ (a.length : Int) - 1 ∧ p.f1.size ≤ 90 := by
  unfold diskGood at h
  rw [Bool.and_eq_true, Bool.and_eq_true, Bool.and_eq_true] at h
  obtain ⟨h1, h2, h3, h4⟩ := h
  refine ⟨of_decide_eq_true h1, of_decide_eq_true h2, fun s hs => of_decide_eq_true (List.all_eq_true.mp h3 s hs), fun p hp => ?_⟩
  have := List.all_eq_true.mp h4 p hp
  unfold putGood at this
  rw [Bool.and_eq_true] at this
  exact ⟨(of_decide_eq_true this.1).1, (of_decide_eq_true this.1).2, of_decide_eq_true this.2⟩
/-- Writes of which some are kept. -/
def fallGo : List S65 → List Bool → List ByteArray → List ByteArray
  | [], _, a => a
  | _ :: _, [], a => a
  | p :: b, c :: k, a => fallGo b k (if c = true then a.set p.f0.toNat p.f1 else a)
theorem fallGo_nil (b : List S65) (a : List ByteArray) : fallGo b [] a = a := by
  cases b <;> rfl
def fallen (a : List ByteArray) (b : List S65) (k : List Bool) : List ByteArray × List S65 := if diskGood a b = true then (fallGo b k a, []) else (a, b)
theorem getD_mem {α : Type} (d : α) (l : List α) (i : Nat) (h : i < l.length) : l.getD i d ∈ l := by
  simp [List.getD, h]
def gAcc (n d k : Nat) : Nat := n + d % 128 * 2 ^ (7 * k)
def getGo (b : List Int) (a : Nat) : Nat → Nat → Nat → Int × Int × Bool
  | 0, _, _ => (0, 0, false)
  | f + 1, k, n => if a + k < b.length then
      (if (b.getD (a + k) 0).toNat < 128 then
        (if (0 < k ∧ (b.getD (a + k) 0).toNat = 0) ∨ gAcc n (b.getD (a + k) 0).toNat k > 2147483647 then (0, 0, false)
         else ((gAcc n (b.getD (a + k) 0).toNat k : Int), ((a + k + 1 : Nat) : Int), true))
       else getGo b a f (k + 1) (gAcc n (b.getD (a + k) 0).toNat k))
    else (0, 0, false)
def getNum (b : List Int) (a : Int) : Int × Int × Bool := if 0 ≤ a then getGo b a.toNat 5 0 0 else (0, 0, false)
def putsOf (ats : List Int) : List S65 := ats.map fun x => ⟨x, ⟨#[]⟩⟩
def sum4 (b : List Int) (i : Nat) : Int := ((b.getD i 0 * 256 + b.getD (i + 1) 0) * 256 + b.getD (i + 2) 0) * 256 + b.getD (i + 3) 0
def txGo (n : Int) : Int → List S65 → Bool
  | _, [] => true
  | last, w :: l => decide (last + 1 ≤ w.f0 ∧ w.f0 ≤ n - 1) && (decide (w.f1.size ≤ 90) && txGo n w.f0 l)
def txOk (n : Int) (l : List S65) : Bool := decide (1 ≤ n ∧ n ≤ 48) && (!l.isEmpty && txGo n (-1) l)
def headEnd (b : List Int) (n : Int) : Option (List Int × Int) → List Int × Int × Bool
  | none => ([], 0, false)
  | some (ats, at_) => if (b.length : Int) = at_ + 4 then (if txOk n (putsOf ats) = true then (ats, sum4 b at_.toNat, true) else ([], 0, false)) else ([], 0, false)
def headGo (b : List Int) : Nat → Int → List Int → Option (List Int × Int)
  | 0, at_, acc => some (acc, at_)
  | c + 1, at_, acc => if (getNum b at_).2.2 = true then headGo b c (getNum b at_).2.1 (acc ++ [(getNum b at_).1]) else none
def headOf (b : List Int) (n : Int) : List Int × Int × Bool :=
  if (getNum b 1).2.2 = true ∧ b.getD 0 0 = 74 ∧ 1 ≤ (getNum b 1).1 ∧ (getNum b 1).1 ≤ 48 then headEnd b n (headGo b (getNum b 1).1.toNat (getNum b 1).2.1 []) else ([], 0, false)
theorem headOf_good {b : List Int} {n : Int} (h : (headOf b n).2.2 = true) : txOk n (putsOf (headOf b n).1) = true := by
  unfold headOf at h ⊢
  split at h
  · rename_i hc
    rw [if_pos hc]
    cases hg : headGo b (getNum b 1).1.toNat (getNum b 1).2.1 [] with
    | none => rw [hg] at h; cases h
    | some r =>
      obtain ⟨ats, a2⟩ := r
      rw [hg] at h
      rw [headEnd] at h ⊢
      split at h
      · rename_i h1
        rw [if_pos h1]
        split at h
        · rename_i h2
          rw [if_pos h2]
          exact h2
        · cases h
      · cases h
  · cases h
theorem txGo_bounds (n : Int) (ats : List Int) : ∀ last : Int, last ≤ n - 1 → txGo n last (putsOf ats) = true → (ats.length : Int) + last ≤ n - 1 ∧ ∀ x ∈ ats, last < x ∧ x ≤ n - 1 := by
  induction ats with
  | nil =>
    intro last hl _
    exact ⟨by simpa using hl, by simp⟩
  | cons y l ih =>
    intro last hl h
    have h' : (decide (last + 1 ≤ y ∧ y ≤ n - 1) && (decide ((⟨#[]⟩ : ByteArray).size ≤ 90) && txGo n y (putsOf l))) = true := h
    rw [Bool.and_eq_true, Bool.and_eq_true] at h'
    have h1 := of_decide_eq_true h'.1
    obtain ⟨h2, h3⟩ := ih y h1.2 h'.2.2
    refine ⟨by rw [List.length_cons]; omega, fun x hx => ?_⟩
    rcases List.mem_cons.1 hx with rfl | hx
    · omega
    · have := h3 x hx
      omega
theorem headOf_homes {b : List Int} {n : Int} (h : (headOf b n).2.2 = true) : ((headOf b n).1.length : Int) ≤ n ∧ ∀ x ∈ (headOf b n).1, 0 ≤ x ∧ x ≤ n - 1 := by
  have h1 := headOf_good h
  unfold txOk at h1
  rw [Bool.and_eq_true, Bool.and_eq_true] at h1
  have h2 := of_decide_eq_true h1.1
  obtain ⟨h3, h4⟩ := txGo_bounds n _ (-1) (by omega) h1.2.2
  exact ⟨by omega, fun x hx => by have := h4 x hx; omega⟩
def homed (a : List ByteArray) (b : List S65) (n : Int) : Bool := diskGood a b && (decide (1 ≤ n ∧ n ≤ 48) && ((a.length : Int) == 2 * n + 1))
theorem homed_split {a : List ByteArray} {b : List S65} {n : Int} (h : homed a b n = true) : diskGood a b = true ∧ (1 ≤ n ∧ n ≤ 48) ∧ (a.length : Int) = 2 * n + 1 := by
  unfold homed at h
  rw [Bool.and_eq_true, Bool.and_eq_true] at h
  exact ⟨h.1, of_decide_eq_true h.2.1, by simpa using h.2.2⟩
theorem diskOk_good (a : List ByteArray) (b : List S65) (ha : a.length ≤ 140737488351232) : diskOk a b = diskGood a b := by
  unfold diskOk diskGood
  congr 3
  · rw [List.not_any_eq_all_not]
    congr 1
    funext s
    unfold longText
    rw [Bool.not_not, decide_eq_decide]
    omega
  · rw [List.not_any_eq_all_not]
    congr 1
    funext p
    unfold impl_DiskOk_2.f putGood
    rw [Bool.not_not, wrap_in (by omega) (by omega)]
    congr 1
    rw [decide_eq_decide]
    omega
theorem impl_DiskOk_eq (a : List ByteArray) (b : List S65) (ha : a.length ≤ 140737488351232) : impl_DiskOk.f a b = some (diskGood a b) := by
  rw [← diskOk_good a b ha]
  rfl
theorem fallGo_drop (b : List S65) (k : List Bool) (a : List ByteArray) (i : Nat) (hb : i < b.length) (hk : i < k.length) : fallGo (b.drop i) (k.drop i) a = fallGo (b.drop (i + 1)) (k.drop (i + 1)) (if k.getD i false = true then a.set (b.getD i z65).f0.toNat (b.getD i z65).f1 else a) := by
  rw [drop_cons z65 b i hb, drop_cons false k i hk]
  rfl
theorem impl_Fall_l (b c : List S65) (ks : List Bool) (hb : b.length ≤ 140737488351232) (n : Nat) (hp : ∀ p ∈ b, 0 ≤ p.f0 ∧ p.f0 ≤ (n : Int) - 1) (d : Nat) : ∀ (i : Nat) (a : List ByteArray), i + d = b.length → a.length = n →
    Ev (fun k => impl_settle_Fall_1.l0 ks k b (b.length : Int) (i : Int) a c) (fallGo (b.drop i) (ks.drop i) a, []) := by
  induction d with
  | zero =>
    intro i a hi ha
    apply ev_shift
    simp only [impl_settle_Fall_1.l0]
    rw [List.drop_eq_nil_of_le (by omega)]
    exact ev_neg (by omega) (Ev.now _)
  | succ d ih =>
    intro i a hi ha
    obtain ⟨h0, h1⟩ := hp _ (getD_mem z65 b i (by omega))
    apply ev_shift
    simp only [impl_settle_Fall_1.l0]
    simp only [rdPut_nat]
    refine ev_pos (by omega) (ev_pos (by omega) (ev_pos (by omega) ?_))
    rw [wrap_nat (by omega)]
    by_cases hk : i < ks.length
    · rw [fallGo_drop b ks a i (by omega) hk]
      refine ev_eq (show impl_Fall_1.f ks (i : Int) = some (ks.getD i false) by unfold impl_Fall_1.f; rw [if_pos (by omega), if_pos (by omega), rdOf_nat]) ?_
      cases hc : ks.getD i false
      · exact ev_neg (by simp) (ih (i + 1) a (by omega) ha)
      · rw [if_pos rfl]
        exact ev_pos rfl (ev_pos h0 (ev_pos (by omega) (ih (i + 1) _ (by omega) (by rw [List.length_set]; exact ha))))
    · refine ev_eq (show impl_Fall_1.f ks (i : Int) = some false by unfold impl_Fall_1.f; rw [if_neg (by omega)]) (ev_neg (by simp) (ev_cast (ih (i + 1) a (by omega) ha) ?_))
      have e0 : ks.drop i = [] := List.drop_eq_nil_of_le (by omega)
      have e1 : ks.drop (i + 1) = [] := List.drop_eq_nil_of_le (by omega)
      rw [e0, e1, fallGo_nil, fallGo_nil]
theorem impl_cloneDisk_eq (a : List ByteArray) (b : List S65) (ha : a.length ≤ 1099511627776) (hb : b.length ≤ 1099511627776) : impl_cloneDisk.f a b = some (a, b) := by
  unfold impl_cloneDisk.f slices_Clone_string_string.f slices_Clone_Put.f
  rw [if_pos (by omega), if_pos (by omega)]
  rfl
theorem impl_Fall_ev (a : List ByteArray) (b : List S65) (ks : List Bool) (ha : a.length ≤ 1099511627776) (hb : b.length ≤ 1099511627776) : Ev (fun k => impl_Fall.f k a b ks) (fallen a b ks) := by
  unfold impl_Fall.f impl_settle_Fall_1.f fallen
  refine ev_eq (impl_cloneDisk_eq a b ha hb) (ev_eq (impl_DiskOk_eq a b (by omega)) ?_)
  cases h : diskGood a b
  · exact ev_neg (by simp) (Ev.now _)
  · obtain ⟨_, _, _, h4⟩ := diskGood_split h
    refine ev_pos rfl ?_
    exact impl_Fall_l b b ks (by omega) a.length (fun p hp => ⟨(h4 p hp).1, (h4 p hp).2.1⟩) b.length 0 a (Nat.zero_add _) rfl
theorem bytesOf_range (s : ByteArray) : ∀ x ∈ bytesOf s, 0 ≤ x ∧ x ≤ 255 := by
  intro x hx
  simp only [bytesOf, List.mem_map] at hx
  obtain ⟨b, _, rfl⟩ := hx
  have := b.toNat_lt
  omega
theorem getGo_ok (b : List Int) (a : Nat) (f : Nat) : ∀ k n, (getGo b a f k n).2.2 = true → 0 ≤ (getGo b a f k n).1 ∧ (getGo b a f k n).1 ≤ 2147483647 ∧ (a : Int) < (getGo b a f k n).2.1 ∧ (getGo b a f k n).2.1 ≤ b.length := by
  induction f with
  | zero =>
    intro k n h
    simp [getGo] at h
  | succ f ih =>
    intro k n h
    rw [getGo] at h ⊢
    by_cases h1 : a + k < b.length
    · rw [if_pos h1] at h ⊢
      by_cases h2 : (b.getD (a + k) 0).toNat < 128
      · rw [if_pos h2] at h ⊢
        split at h
        · simp at h
        · rename_i h3
          rw [if_neg h3]
          refine ⟨by omega, ?_, ?_, ?_⟩ <;> dsimp only <;> omega
      · rw [if_neg h2] at h ⊢
        exact ih _ _ h
    · rw [if_neg h1] at h
      simp at h
theorem getNum_ok (b : List Int) (a : Int) (h : (getNum b a).2.2 = true) : 0 ≤ (getNum b a).1 ∧ (getNum b a).1 ≤ 2147483647 ∧ 0 ≤ a ∧ a < (getNum b a).2.1 ∧ (getNum b a).2.1 ≤ b.length := by
  unfold getNum at h ⊢
  by_cases h0 : 0 ≤ a
  · rw [if_pos h0] at h ⊢
    have := getGo_ok b a.toNat 5 0 0 h
    omega
  · rw [if_neg h0] at h
    simp at h
theorem headGo_facts (b : List Int) (c : Nat) : ∀ (at_ : Int) (acc : List Int), (∀ x ∈ acc, 0 ≤ x ∧ x ≤ 2147483647) → ∀ ats a2, headGo b c at_ acc = some (ats, a2) → at_ ≤ a2 ∧ ats.length = acc.length + c ∧ (∀ x ∈ ats, 0 ≤ x ∧ x ≤ 2147483647) ∧ (at_ ≤ b.length → a2 ≤ b.length) := by
  induction c with
  | zero =>
    intro at_ acc ha ats a2 h
    simp only [headGo, Option.some.injEq, Prod.mk.injEq] at h
    obtain ⟨rfl, rfl⟩ := h
    exact ⟨by omega, by omega, ha, id⟩
  | succ c ih =>
    intro at_ acc ha ats a2 h
    rw [headGo] at h
    by_cases hk : (getNum b at_).2.2 = true
    · rw [if_pos hk] at h
      have hg := getNum_ok b at_ hk
      have := ih _ _ (by
        intro x hx
        rw [List.mem_append] at hx
        rcases hx with hx | hx
        · exact ha x hx
        · rw [List.mem_singleton] at hx
          subst hx
          exact ⟨hg.1, hg.2.1⟩) ats a2 h
      rw [List.length_append, List.length_singleton] at this
      refine ⟨by omega, by omega, this.2.2.1, fun _ => this.2.2.2 (by omega)⟩
    · rw [if_neg hk] at h
      cases h
theorem headEnd_short (b : List Int) (n : Int) (c : Nat) (at_ : Int) (h1 : 2 ≤ at_) (h5 : b.length < 5) : headEnd b n (headGo b c at_ []) = ([], 0, false) := by
  cases h : headGo b c at_ [] with
  | none => rfl
  | some r =>
    obtain ⟨ats, a2⟩ := r
    have := headGo_facts b c at_ [] (by simp) ats a2 h
    rw [headEnd, if_neg (by omega)]
def gOk (k n : Nat) : Prop := n < 2 ^ (7 * k)
theorem gOk_zero : gOk 0 0 := by
  unfold gOk
  decide
theorem getGo_out (b : List Int) (a : Nat) (h : b.length ≤ a) (f k n : Nat) : getGo b a f k n = (0, 0, false) := by
  cases f with
  | zero => rfl
  | succ f => rw [getGo, if_neg (by omega)]
theorem add_wrap {a k : Nat} (ha : a ≤ 140737488351232) (hk : k ≤ 5) : wrap64 ((a : Int) + (k : Int)) = ((a + k : Nat) : Int) := by
  rw [wrap_in (by omega) (by omega)]
  omega
theorem byte_wrap {d : Nat} (hd : d ≤ 255) : wrap64 (d : Int) = d := wrap_in (by omega) (by omega)
theorem pow7 (n m k : Nat) (hn : n < 2 ^ (7 * k)) (hm : m < 128) : n + m * 2 ^ (7 * k) < 2 ^ (7 * (k + 1)) := by
  have e : 2 ^ (7 * (k + 1)) = 128 * 2 ^ (7 * k) := by rw [Nat.mul_add, Nat.pow_add, Nat.mul_comm]
  rw [e]
  have : (m + 1) * 2 ^ (7 * k) ≤ 128 * 2 ^ (7 * k) := Nat.mul_le_mul_right _ (by omega)
  rw [Nat.add_mul] at this
  omega
theorem gOk_step {k n : Nat} (d : Nat) (h : gOk k n) : gOk (k + 1) (gAcc n d k) := pow7 n (d % 128) k h (by omega)
theorem wraps_i64 (n : Int) (h0 : 0 ≤ n) (h1 : n < 2 ^ 63) : IntKind.i64.wrap n = n := by
  rw [IntKind.wrap_i64]
  omega
theorem and127 (x : Int) (h0 : 0 ≤ x) (h1 : x < 9223372036854775808) : Go.bits .and .i64 x 127 = x % 128 :=
  bits_mask .i64 63 (by decide) wraps_i64 7 (by decide) x h0 (by omega)
theorem or_comm64 (a b : Nat) (ha : a < 2 ^ 63) (hb : b < 2 ^ 63) : Go.bits .or .i64 (a : Int) (b : Int) = Go.bits .or .i64 (b : Int) (a : Int) := by
  rw [(bits_nat .i64 63 (by decide) wraps_i64 a b ha hb).2, (bits_nat .i64 63 (by decide) wraps_i64 b a hb ha).2, Nat.or_comm]
theorem or7 (n m k : Nat) (hn : n < 2 ^ (7 * k)) (hm : m < 128) (hk : k ≤ 4) : Go.bits .or .i64 (n : Int) ((m * 2 ^ (7 * k) : Nat) : Int) = ((n + m * 2 ^ (7 * k) : Nat) : Int) := by
  have hp : 2 ^ (7 * k) ≤ 268435456 := Nat.pow_le_pow_right (n := 2) (by omega) (show 7 * k ≤ 28 by omega)
  have h0 : 0 < 2 ^ (7 * k) := Nat.two_pow_pos _
  have hx : m * 2 ^ (7 * k) < 2 ^ 63 := Nat.lt_of_le_of_lt (Nat.mul_le_mul (show m ≤ 127 by omega) hp) (by decide)
  have hz : ((m * 2 ^ (7 * k) : Nat) : Int) % 2 ^ (7 * k) = 0 := by
    simp
  have hy : (n : Int) < 2 ^ (7 * k) := by exact_mod_cast hn
  have hn2 : n < 2 ^ 63 := by omega
  rw [or_comm64 n _ hn2 hx]
  have := bits_join .i64 63 (by decide) wraps_i64 (7 * k) ((m * 2 ^ (7 * k) : Nat) : Int) (n : Int) (Int.natCast_nonneg _) hz (by exact_mod_cast hx) (Int.natCast_nonneg _) hy (by exact_mod_cast hn2)
  rw [this]
  omega
theorem shl7 (d k : Nat) (hd : d < 128) (hk : k ≤ 4) : shl .i64 (d : Int) (wrap64 (7 * (k : Int))) = ((d * 2 ^ (7 * k) : Nat) : Int) := by
  have h : k = 0 ∨ k = 1 ∨ k = 2 ∨ k = 3 ∨ k = 4 := by omega
  unfold shl
  rw [wrap_in (by omega) (by omega)]
  rcases h with rfl | rfl | rfl | rfl | rfl <;> (simp [IntKind.bits]; try (rw [wraps_i64 _ (by omega) (by omega)]))
theorem impl_acc {n d k : Nat} (hd : d ≤ 255) (hk : k ≤ 4) (h : gOk k n) : Go.bits .or .i64 (n : Int) (shl .i64 (Go.bits .and .i64 (wrap64 (d : Int)) 127) (wrap64 (7 * (k : Int)))) = (gAcc n d k : Int) := by
  have e3 : Go.bits .and .i64 (wrap64 (d : Int)) 127 = ((d % 128 : Nat) : Int) := by
    rw [wrap_in (by omega) (by omega), and127 _ (by omega) (by omega)]
    omega
  rw [e3, shl7 (d % 128) k (by omega) hk]
  exact or7 n (d % 128) k h (by omega) hk
theorem rd_nat (xs : List Int) (i : Nat) : rd xs (i : Int) = xs.getD i 0 := by simp [rd]
theorem seven_pos {k : Nat} (hk : k ≤ 4) : 0 ≤ wrap64 (7 * (k : Int)) := by
  rw [wrap_in (by omega) (by omega)]
  omega
theorem impl_getNum_l (b : List Int) (hl : b.length ≤ 140737488351232) (hb : ∀ x ∈ b, 0 ≤ x ∧ x ≤ 255) (a : Nat) (ha : a ≤ b.length) (f : Nat) : ∀ (k n : Nat), k + f = 5 → gOk k n →
    Ev (fun j => impl_GetNum.l0 j b (a : Int) (n : Int) (k : Int)) (getGo b a f k n) := by
  induction f with
  | zero =>
    intro k n hk hn
    apply ev_shift
    simp only [impl_GetNum.l0]
    refine ev_neg (by omega) ?_
    apply ev_shift
    simp only [impl_GetNum.j1]
    exact ev_neg (by simp) (Ev.now _)
  | succ f ih =>
    intro k n hk hn
    have hk4 : k ≤ 4 := by omega
    apply ev_shift
    simp only [impl_GetNum.l0]
    refine ev_pos (by omega) ?_
    apply ev_shift
    simp only [impl_GetNum.j1, getGo]
    rw [add_wrap (by omega) (by omega)]
    by_cases hin : a + k < b.length
    · refine ev_pos (by simp; omega) ?_
      rw [if_pos hin, rd_nat]
      have hm := hb _ (getD_mem 0 b (a + k) hin)
      generalize b.getD (a + k) 0 = d at hm ⊢
      obtain ⟨c, rfl⟩ := Int.eq_ofNat_of_zero_le hm.1
      have hc : c ≤ 255 := by omega
      have e11 := ih (k + 1) _ (by omega) (gOk_step c hn)
      rw [impl_acc hc hk4 hn, Int.toNat_natCast, byte_wrap hc, wrap_nat (i := a + k) (by omega), wrap_nat (i := k) (by omega)]
      generalize gAcc n c k = m at e11 ⊢
      clear hn ih
      refine ev_pos (by omega) (ev_pos (by omega) (ev_pos (seven_pos hk4) ?_))
      by_cases h1 : c < 128
      · refine ev_neg (by omega) ?_
        rw [if_pos h1]
        by_cases h3 : c = 0
        · refine ev_pos (by omega) ?_
          by_cases h2 : k > 0
          · refine ev_pos (by omega) ?_
            rw [if_pos (.inl ⟨h2, h3⟩)]
            exact Ev.now _
          · refine ev_neg (by omega) ?_
            by_cases h4 : m > 2147483647
            · refine ev_pos (by omega) ?_
              rw [if_pos (.inr h4)]
              exact Ev.now _
            · refine ev_neg (by omega) ?_
              rw [if_neg (by omega)]
              exact Ev.now _
        · refine ev_neg (by omega) ?_
          by_cases h4 : m > 2147483647
          · refine ev_pos (by omega) ?_
            rw [if_pos (.inr h4)]
            exact Ev.now _
          · refine ev_neg (by omega) ?_
            rw [if_neg (by omega)]
            exact Ev.now _
      · refine ev_pos (by omega) ?_
        rw [if_neg h1]
        exact e11
    · refine ev_neg (by simp; omega) ?_
      rw [if_neg hin]
      exact Ev.now _
theorem impl_GetNum_ev (b : List Int) (a : Int) (hl : b.length ≤ 140737488351232) (hb : ∀ x ∈ b, 0 ≤ x ∧ x ≤ 255) : Ev (fun k => impl_GetNum.f k b a) (getNum b a) := by
  unfold impl_GetNum.f getNum
  by_cases h : 0 ≤ a ∧ a ≤ b.length
  · rw [if_pos h.1]
    refine ev_eq (a := true) (by unfold impl_within.f; rw [if_pos (by omega)]; simp; omega) (ev_pos rfl ?_)
    obtain ⟨n, rfl⟩ := Int.eq_ofNat_of_zero_le h.1
    exact impl_getNum_l b hl hb n (by omega) 5 0 0 (by omega) gOk_zero
  · refine ev_eq (a := false) (by unfold impl_within.f; split <;> simp <;> omega) (ev_neg (by simp) (ev_cast (Ev.now _) ?_))
    by_cases h0 : 0 ≤ a
    · rw [if_pos h0, getGo_out b a.toNat (by omega)]
    · rw [if_neg h0]
theorem decide_within (a lo hi : Int) : impl_within.f a lo hi = some (decide (lo ≤ a ∧ a ≤ hi)) := by
  unfold impl_within.f
  by_cases h : a ≥ lo
  · rw [if_pos h]
    congr 1
    rw [decide_eq_decide]
    omega
  · rw [if_neg h]
    congr 1
    symm
    rw [decide_eq_false_iff_not]
    omega
theorem impl_txOk_l (n : Int) (l : List S65) (hn : 1 ≤ n ∧ n ≤ 48) (hl : l.length ≤ 140737488351232) (hw : ∀ x ∈ l, (Lit.int .i64 x.f0).wf = true) (d : Nat) : ∀ (i : Nat) (last : Int), i + d = l.length → -1 ≤ last → last ≤ 48 →
    Ev (fun k => impl_TxOk.l0 k n last l (l.length : Int) (i : Int)) (txGo n last (l.drop i)) := by
  induction d with
  | zero =>
    intro i last hi h0 h1
    apply ev_shift
    simp only [impl_TxOk.l0]
    refine ev_neg (by omega) (ev_cast (Ev.now _) ?_)
    rw [List.drop_eq_nil_of_le (by omega)]
    rfl
  | succ d ih =>
    intro i last hi h0 h1
    apply ev_shift
    simp only [impl_TxOk.l0]
    refine ev_pos (by omega) (ev_pos (by omega) (ev_pos (by omega) ?_))
    rw [wrap_nat (by omega), rdPut_nat, wrap_in (x := last + 1) (by omega) (by omega), wrap_in (x := n - 1) (by omega) (by omega), drop_cons z65 l i (by omega), txGo]
    refine ev_eq (decide_within _ _ _) ?_
    by_cases c : last + 1 ≤ (l.getD i z65).f0 ∧ (l.getD i z65).f0 ≤ n - 1
    · rw [decide_eq_true c]
      refine ev_pos rfl (ev_eq rfl ?_)
      by_cases c2 : (l.getD i z65).f1.size ≤ 90
      · rw [decide_eq_true c2]
        refine ev_pos (decide_eq_true (by omega)) (ev_cast (ih (i + 1) _ (by omega) (by omega) (by omega)) ?_)
        simp
      · rw [decide_eq_false c2]
        refine ev_neg (fun z => c2 (by have := of_decide_eq_true z; omega)) (ev_cast (Ev.now _) ?_)
        simp
    · rw [decide_eq_false c]
      exact ev_neg (by simp) (ev_cast (Ev.now _) (by simp))
theorem impl_TxOk_ev (n : Int) (l : List S65) (hl : l.length ≤ 140737488351232) (hw : ∀ x ∈ l, (Lit.int .i64 x.f0).wf = true) : Ev (fun k => impl_TxOk.f k n l) (txOk n l) := by
  unfold impl_TxOk.f txOk
  refine ev_eq (decide_within _ _ _) ?_
  by_cases c : 1 ≤ n ∧ n ≤ 48
  · rw [decide_eq_true c]
    refine ev_pos rfl (ev_shift ?_)
    simp only [impl_TxOk.j0]
    cases l with
    | nil => exact ev_pos rfl (Ev.now _)
    | cons w r =>
      refine ev_neg (by simp; omega) (ev_cast (impl_txOk_l n (w :: r) c hl hw (w :: r).length 0 (-1) (by omega) (by omega) (by omega)) ?_)
      simp
  · rw [decide_eq_false c]
    refine ev_neg (by simp) (ev_shift ?_)
    simp only [impl_TxOk.j0]
    exact ev_pos trivial (Ev.now _)
theorem or256 (x v : Int) (h0 : 0 ≤ x) (h1 : x ≤ 1099511627776) (hv : 0 ≤ v ∧ v ≤ 255) : Go.bits .or .i64 (wrap64 (x * 256)) (wrap64 v) = x * 256 + v := by
  rw [wrap_in (by omega) (by omega), wrap_in (by omega) (by omega)]
  exact bits_join .i64 63 (by decide) wraps_i64 8 (x * 256) v (by omega) (by omega) (by omega) hv.1 (by omega) (by omega)
theorem impl_sum (acc : List Int) (y : List Int) (hy : y.length = 4) (hb : ∀ x ∈ y, 0 ≤ x ∧ x ≤ 255) : Ev (fun k => impl_HeadOf.l1 k acc 0 y (y.length : Int) 0) (acc, ((y.getD 0 0 * 256 + y.getD 1 0) * 256 + y.getD 2 0) * 256 + y.getD 3 0, true) := by
  have v0 := hb _ (getD_mem 0 y 0 (by omega))
  have v1 := hb _ (getD_mem 0 y 1 (by omega))
  have v2 := hb _ (getD_mem 0 y 2 (by omega))
  have v3 := hb _ (getD_mem 0 y 3 (by omega))
  have r0 : rd y 0 = y.getD 0 0 := rd_nat y 0
  have r1 : rd y 1 = y.getD 1 0 := rd_nat y 1
  have r2 : rd y 2 = y.getD 2 0 := rd_nat y 2
  have r3 : rd y 3 = y.getD 3 0 := rd_nat y 3
  apply ev_shift
  simp only [impl_HeadOf.l1]
  refine ev_pos (by omega) (ev_pos (by omega) (ev_pos (by omega) ?_))
  rw [r0, or256 0 _ (by omega) (by omega) v0, show wrap64 (0 + 1) = 1 from by unfold wrap64; omega]
  apply ev_shift
  simp only [impl_HeadOf.l1]
  refine ev_pos (by omega) (ev_pos (by omega) (ev_pos (by omega) ?_))
  rw [r1, or256 _ _ (by omega) (by omega) v1, show wrap64 (1 + 1) = 2 from by unfold wrap64; omega]
  apply ev_shift
  simp only [impl_HeadOf.l1]
  refine ev_pos (by omega) (ev_pos (by omega) (ev_pos (by omega) ?_))
  rw [r2, or256 _ _ (by omega) (by omega) v2, show wrap64 (2 + 1) = 3 from by unfold wrap64; omega]
  apply ev_shift
  simp only [impl_HeadOf.l1]
  refine ev_pos (by omega) (ev_pos (by omega) (ev_pos (by omega) ?_))
  rw [r3, or256 _ _ (by omega) (by omega) v3, show wrap64 (3 + 1) = 4 from by unfold wrap64; omega]
  apply ev_shift
  simp only [impl_HeadOf.l1]
  refine ev_neg (by omega) (ev_cast (Ev.now _) ?_)
  simp
theorem putsOf_length (ats : List Int) : (putsOf ats).length = ats.length := by
  unfold putsOf
  rw [List.length_map]
theorem putsOf_snoc (ats : List Int) (x : Int) : putsOf (ats ++ [x]) = putsOf ats ++ [(⟨x, (⟨#[]⟩ : ByteArray)⟩ : S65)] := by
  unfold putsOf
  rw [List.map_append]
  rfl
theorem txOk_wf {ats : List Int} (h : ∀ x ∈ ats, 0 ≤ x ∧ x ≤ 2147483647) : ∀ x ∈ putsOf ats, (Lit.int .i64 x.f0).wf = true := by
  intro x hx
  unfold putsOf at hx
  rw [List.mem_map] at hx
  obtain ⟨y, hy, rfl⟩ := hx
  have := h y hy
  simp only [Lit.wf, IntKind.wrap_i64]
  have e : (y + 9223372036854775808) % 18446744073709551616 - 9223372036854775808 = y := by omega
  simp [e]
  exact ⟨by have : IntKind.i64.min = -9223372036854775808 := rfl; omega, by omega⟩
theorem impl_HeadOf_l (b : List Int) (n : Int) (hb : ∀ x ∈ b, 0 ≤ x ∧ x ≤ 255) (hl : b.length ≤ 1099511627776) (c : Nat) (hc : c ≤ 48) (d : Nat) : ∀ (i : Nat) (at_ : Int) (acc : List Int), i + d = c → 1 ≤ at_ → at_ ≤ b.length → acc.length = i → (∀ x ∈ acc, 0 ≤ x ∧ x ≤ 2147483647) →
    Ev (fun k => impl_HeadOf.l0 k n b at_ (putsOf acc) acc (c : Int) (i : Int)) (headEnd b n (headGo b d at_ acc)) := by
  induction d with
  | zero =>
    intro i at_ acc hi h1 h2 ha hr
    have hp := putsOf_length acc
    have hj : Ev (fun k => impl_HeadOf.j3 k b at_ acc true) ([], 0, false) := by
      refine ev_shift ?_
      simp only [impl_HeadOf.j3]
      exact ev_pos trivial (Ev.now _)
    apply ev_shift
    simp only [impl_HeadOf.l0, headGo, headEnd]
    refine ev_neg (by omega) ?_
    rw [wrap_in (x := at_ + 4) (by omega) (by omega)]
    by_cases e : (b.length : Int) = at_ + 4
    · rw [if_pos e]
      refine ev_pos e (Ev.bind (impl_TxOk_ev n _ (by omega) (txOk_wf hr)) ?_)
      cases txOk n (putsOf acc)
      · exact ev_cast hj (by simp)
      · rw [if_pos rfl]
        refine ev_shift ?_
        simp only [impl_HeadOf.j3]
        obtain ⟨j, rfl⟩ := Int.eq_ofNat_of_zero_le (show 0 ≤ at_ by omega)
        refine ev_neg (by simp) (ev_pos (by omega) (ev_pos (by omega) (ev_some ?_)))
        rw [Int.toNat_natCast]
        refine ev_cast (impl_sum acc (b.drop j) (by rw [List.length_drop]; omega) (fun x hx => hb x (List.mem_of_mem_drop hx))) ?_
        unfold sum4
        simp [List.getD, List.getElem?_drop]
    · rw [if_neg e]
      exact ev_neg e hj
  | succ d ih =>
    intro i at_ acc hi h1 h2 ha hr
    have hp := putsOf_length acc
    apply ev_shift
    simp only [impl_HeadOf.l0, headGo]
    refine ev_pos (by omega) (Ev.bind (impl_GetNum_ev b at_ (by omega) hb) ?_)
    by_cases hk : (getNum b at_).2.2 = true
    · have hg := getNum_ok b at_ hk
      rw [if_pos hk]
      refine ev_pos hk (ev_pos (by omega) (ev_pos (by omega) ?_))
      rw [wrap_nat (by omega), ← putsOf_snoc]
      refine ih (i + 1) _ _ (by omega) (by omega) (by omega) (by rw [List.length_append, List.length_singleton]; omega) ?_
      intro x hx
      rw [List.mem_append] at hx
      rcases hx with hx | hx
      · exact hr x hx
      · rw [List.mem_singleton] at hx
        subst hx
        exact ⟨hg.1, hg.2.1⟩
    · rw [if_neg hk]
      exact ev_neg hk (Ev.now _)
theorem txOk_nil (n : Int) : txOk n (putsOf []) = false := by
  unfold txOk putsOf
  simp
theorem impl_HeadOf_ev (s : ByteArray) (n : Int) (hs : s.size ≤ 1048576) : Ev (fun k => impl_HeadOf.f k s n) (headOf (bytesOf s) n) := by
  have hl := bytesOf_length s
  have hb := bytesOf_range s
  unfold impl_HeadOf.f
  refine ev_pos (by omega) (ev_some ?_)
  generalize bytesOf s = b at *
  have hj : Ev (fun k => impl_HeadOf.j0 k n b true) ([], 0, false) := by
    refine ev_shift ?_
    simp only [impl_HeadOf.j0]
    exact ev_pos trivial (Ev.now _)
  have hj1 : ∀ x y, Ev (fun k => impl_HeadOf.j1 k n b x y true) ([], 0, false) := by
    intro x y
    refine ev_shift ?_
    simp only [impl_HeadOf.j1]
    exact ev_pos trivial (Ev.now _)
  unfold headOf
  by_cases h5 : (b.length : Int) < 5
  · refine ev_pos h5 (ev_cast hj ?_)
    split
    · rename_i h
      have hg := getNum_ok b 1 h.1
      exact (headEnd_short b n _ _ (by omega) (by omega)).symm
    · rfl
  · refine ev_neg h5 (ev_pos (by omega) ?_)
    rw [show rd b 0 = b.getD 0 0 from rd_nat b 0]
    by_cases h7 : b.getD 0 0 = 74
    · refine ev_shift ?_
      simp only [impl_HeadOf.j0]
      refine ev_neg (by simpa using h7) (Ev.bind (impl_GetNum_ev b 1 (by omega) hb) ?_)
      by_cases hk : (getNum b 1).2.2 = true
      · have hg := getNum_ok b 1 hk
        refine ev_pos hk ?_
        by_cases hm : (getNum b 1).1 > 48
        · rw [decide_eq_true hm, if_neg (fun z => by have := z.2.2; omega)]
          exact hj1 _ _
        · rw [decide_eq_false hm]
          refine ev_shift ?_
          simp only [impl_HeadOf.j1]
          refine ev_neg (by simp) ?_
          have e : (((getNum b 1).1.toNat : Nat) : Int) = (getNum b 1).1 := by omega
          have := impl_HeadOf_l b n hb (by omega) (getNum b 1).1.toNat (by omega) (getNum b 1).1.toNat 0 (getNum b 1).2.1 [] (by omega) (by omega) (by omega) rfl (by simp)
          rw [e] at this
          refine ev_cast this ?_
          by_cases h1 : 1 ≤ (getNum b 1).1
          · rw [if_pos ⟨hk, h7, h1, by omega⟩]
          · rw [if_neg (fun z => h1 z.2.2.1), show (getNum b 1).1.toNat = 0 from by omega, headGo, headEnd]
            split
            · rw [txOk_nil]
              rfl
            · rfl
      · rw [if_neg (fun z => hk z.1)]
        exact ev_neg hk (hj1 _ _)
    · rw [if_neg (fun z => h7 z.2.1)]
      have : (b.getD 0 0 != 74) = true := by simpa using h7
      rw [this]
      exact hj
theorem impl_Recover_l (n : Int) (hn : 1 ≤ n ∧ n ≤ 48) (hs : List Int) (hh : ∀ x ∈ hs, 0 ≤ x ∧ x ≤ n - 1) (hl : (hs.length : Int) ≤ n) (c : List S65) (d : Nat) : ∀ (i : Nat) (a : List ByteArray), i + d = hs.length → (a.length : Int) = 2 * n + 1 →
    Ev (fun k => impl_Recover.l0 k n hs (hs.length : Int) (i : Int) a c) ((homeGo n (hs.drop i) i a).set 0 (⟨#[]⟩ : ByteArray), c) := by
  induction d with
  | zero =>
    intro i a hi ha
    apply ev_shift
    simp only [impl_Recover.l0]
    rw [List.drop_eq_nil_of_le (by omega)]
    exact ev_neg (by omega) (ev_pos (by omega) (Ev.now _))
  | succ d ih =>
    intro i a hi ha
    have hm := hh _ (getD_mem 0 hs i (by omega))
    apply ev_shift
    simp only [impl_Recover.l0]
    have e1 : wrap64 (1 + (i : Int)) = ((1 + i : Nat) : Int) := by rw [wrap_in (by omega) (by omega)]; omega
    rw [wrap_nat (by omega), e1, rd_nat, wrap_in (x := n + 1) (by omega) (by omega), wrap_in (x := n + 1 + hs.getD i 0) (by omega) (by omega), rdOf_nat, drop_cons 0 hs i (by omega), homeGo]
    exact ev_pos (by omega) (ev_pos (by omega) (ev_pos (by omega) (ev_pos (by omega) (ev_pos (by omega) (ev_pos (by omega) (ev_pos (by omega) (ih (i + 1) _ (by omega) (by rw [List.length_set]; exact ha))))))))
theorem impl_homed_eq (a : List ByteArray) (b : List S65) (n : Int) (ha : a.length ≤ 140737488351232) : impl_homed.f a b n = some (homed a b n) := by
  unfold impl_homed.f homed
  rw [impl_DiskOk_eq a b ha]
  simp only [Option.bind_some]
  cases diskGood a b
  · rw [if_neg (by simp)]
    rfl
  · rw [if_pos rfl, decide_within]
    simp only [Option.bind_some]
    by_cases c : 1 ≤ n ∧ n ≤ 48
    · rw [decide_eq_true c, if_pos rfl, wrap_in (x := 2 * n) (by omega) (by omega), wrap_in (by omega) (by omega)]
      rfl
    · rw [decide_eq_false c, if_neg (by simp)]
      rfl
theorem and1 (x : Int) (h0 : 0 ≤ x) (h1 : x < 9223372036854775808) : Go.bits .and .i64 x 1 = x % 2 :=
  bits_mask .i64 63 (by decide) wraps_i64 1 (by decide) x h0 (by omega)
theorem byte_nat {b : Int} (h : 0 ≤ b ∧ b ≤ 255) : ∃ n : Nat, b = n ∧ n < 4294967296 ∧ b.toNat = n := ⟨b.toNat, by omega, by omega, rfl⟩
theorem crcBit_lt {x : Nat} (h : x < 4294967296) : crcBit x < 4294967296 := by
  unfold crcBit
  split
  · have : (x / 2) ^^^ 3988292384 < 2 ^ 32 := Nat.xor_lt_two_pow (by omega) (by omega)
    omega
  · omega
theorem xor_nat (a b : Nat) (ha : a < 4294967296) (hb : b < 4294967296) : Go.bits .xor .i64 (a : Int) (b : Int) = ((a ^^^ b : Nat) : Int) := by
  have ha' : a % 2 ^ IntKind.i64.bits = a := Nat.mod_eq_of_lt (by show a < 2 ^ 64; omega)
  have hb' : b % 2 ^ IntKind.i64.bits = b := Nat.mod_eq_of_lt (by show b < 2 ^ 64; omega)
  have hx : a ^^^ b < 2 ^ 32 := Nat.xor_lt_two_pow (by omega) (by omega)
  simp only [Go.bits, BitVec.ofInt_natCast, BitVec.toNat_xor, BitVec.toNat_ofNat, ha', hb']
  exact wraps_i64 _ (Int.natCast_nonneg _) (by omega)
theorem xor_end (x : Nat) (h : x < 4294967296) : Go.bits .xor .i64 (x : Int) 4294967295 = ((x ^^^ 4294967295 : Nat) : Int) := by
  have e := xor_nat x 4294967295 h (by omega)
  simpa only [Int.cast_ofNat_Int] using e
theorem xor_lt32 {a b : Nat} (ha : a < 4294967296) (hb : b < 4294967296) : a ^^^ b < 4294967296 := by
  have : a ^^^ b < 2 ^ 32 := Nat.xor_lt_two_pow (by omega) (by omega)
  omega
theorem xor_poly (x : Nat) (h : x < 4294967296) : Go.bits .xor .i64 (x : Int) 3988292384 = ((x ^^^ 3988292384 : Nat) : Int) := by
  have e := xor_nat x 3988292384 h (by omega)
  simpa only [Int.cast_ofNat_Int] using e
theorem impl_crc_l (l : List Int) (hl : l.length ≤ 140737488351232) (hb : ∀ x ∈ l, 0 ≤ x ∧ x ≤ 255) (d : Nat) : ∀ (i x : Nat), i + d = l.length → x < 4294967296 →
    Ev (fun k => impl_Crc.l0 k (x : Int) l (l.length : Int) (i : Int)) ((crcFrom (l.drop i) x ^^^ 4294967295 : Nat) : Int) := by
  induction d with
  | zero =>
    intro i x hi hx
    apply ev_shift
    simp only [impl_Crc.l0]
    refine ev_neg (by omega) (ev_cast (Ev.now _) ?_)
    rw [List.drop_eq_nil_of_le (by omega)]
    exact xor_end x hx
  | succ d ih =>
    intro i x hi hx
    have hm := hb _ (getD_mem 0 l i (by omega))
    obtain ⟨n, hn, hn2, hn3⟩ := byte_nat hm
    have inner : ∀ (j y : Nat), j ≤ 8 → y < 4294967296 → Ev (fun k => impl_Crc.l1 k (y : Int) l (l.length : Int) (i : Int) ((8 - j : Nat) : Int)) ((crcFrom (l.drop (i + 1)) (crcBits j y) ^^^ 4294967295 : Nat) : Int) := by
      intro j
      induction j with
      | zero =>
        intro y _ hy
        apply ev_shift
        simp only [impl_Crc.l1]
        refine ev_neg (by omega) ?_
        rw [wrap_nat (by omega)]
        exact ih (i + 1) y (by omega) hy
      | succ j ihj =>
        intro y hj hy
        apply ev_shift
        simp only [impl_Crc.l1]
        have h2 : y / 2 < 4294967296 := by omega
        have e0 : wrap64 (((8 - (j + 1) : Nat) : Int) + 1) = ((8 - j : Nat) : Int) := by rw [wrap_nat (by omega)]; omega
        have e1 : Go.bits .and .i64 (y : Int) 1 = ((y % 2 : Nat) : Int) := by rw [and1 _ (by omega) (by omega)]; omega
        have e2 : (y : Int) / 2 = ((y / 2 : Nat) : Int) := by omega
        have e3 : Go.bits .xor .i64 ((y / 2 : Nat) : Int) 3988292384 = (((y / 2) ^^^ 3988292384 : Nat) : Int) := xor_poly (y / 2) h2
        rw [e0, e1, e2, e3]
        refine ev_pos (by omega) ?_
        have hs := ihj (crcBit y) (by omega) (crcBit_lt hy)
        by_cases ho : y % 2 = 1
        · refine ev_pos (by omega) ?_
          have : crcBit y = (y / 2) ^^^ 3988292384 := if_pos ho
          rw [this] at hs
          rw [crcBits, this]
          exact hs
        · refine ev_neg (by omega) ?_
          have : crcBit y = y / 2 := if_neg ho
          rw [this] at hs
          rw [crcBits, this]
          exact hs
    apply ev_shift
    simp only [impl_Crc.l0]
    refine ev_pos (by omega) (ev_pos (by omega) (ev_pos (by omega) ?_))
    rw [rd_nat, hn, wrap_in (by omega) (by omega), xor_nat x n hx hn2, drop_cons 0 l i (by omega), crcFrom, hn3]
    exact inner 8 (x ^^^ n) (by omega) (xor_lt32 hx hn2)
theorem impl_Crc_ev (l : List Int) (hl : l.length ≤ 140737488351232) (hb : ∀ x ∈ l, 0 ≤ x ∧ x ≤ 255) : Ev (fun k => impl_Crc.f k l) (crc l) := by
  have e := impl_crc_l l hl hb l.length 0 4294967295 (by omega) (by omega)
  rw [Int.cast_ofNat_Int, List.drop_zero] at e
  exact e
theorem or128 (y : Int) (h0 : 0 ≤ y) (h1 : y < 128) : Go.bits .or .i64 y 128 = y + 128 := by
  obtain ⟨b, rfl⟩ := Int.eq_ofNat_of_zero_le h0
  have e3 := bits_join .i64 63 (by decide) wraps_i64 7 128 (b : Int) (by decide) (by decide) (by decide) h0 (by omega) (by omega)
  have e4 : Go.bits .or .i64 (b : Int) ((128 : Nat) : Int) = Go.bits .or .i64 ((128 : Nat) : Int) (b : Int) := or_comm64 b 128 (by omega) (by omega)
  rw [Int.cast_ofNat_Int] at e4
  rw [e4, e3]
  omega
theorem putNat_big {n : Nat} (h : ¬ n < 128) : putNat n = ((n % 128 + 128 : Nat) : Int) :: putNat (n / 128) := by rw [putNat, dif_neg h]
theorem putNat_small {n : Nat} (h : n < 128) : putNat n = [(n : Int)] := by rw [putNat, dif_pos h]
theorem impl_putNum_l (n : Nat) : ∀ acc : List Int, n ≤ 2147483647 → acc.length + n ≤ 100000000000 → Ev (fun k => impl_PutNum.l0 k (n : Int) acc) (acc ++ putNat n) := by
  induction n using Nat.strongRecOn with
  | _ n ih =>
    intro acc hn ha
    apply ev_shift
    simp only [impl_PutNum.l0]
    by_cases h : n < 128
    · refine ev_neg (by omega) (ev_pos (by omega) ?_)
      refine ev_cast (Ev.now _) ?_
      rw [putNat_small h, Int.emod_eq_of_lt (by omega) (by omega)]
    · refine ev_pos (by omega) (ev_pos (by omega) ?_)
      have e1 : (n : Int) / 128 = ((n / 128 : Nat) : Int) := by omega
      have e2 : (Go.bits .or .i64 (Go.bits .and .i64 (n : Int) 127) 128) % 256 = ((n % 128 + 128 : Nat) : Int) := by
        rw [and127 _ (by omega) (by omega), or128 _ (by omega) (by omega)]
        omega
      rw [e1, e2]
      refine ev_cast (ih (n / 128) (by omega) _ (by omega) (by simp; omega)) ?_
      rw [putNat_big h, List.append_assoc]
      rfl
theorem impl_PutNum_ev (n : Int) : Ev (fun k => impl_PutNum.f k n) (putNum n) := by
  unfold impl_PutNum.f
  by_cases h : 0 ≤ n ∧ n ≤ 2147483647
  · refine ev_eq (a := true) (by unfold impl_within.f; rw [if_pos (by omega)]; simp; omega) (ev_pos rfl ?_)
    obtain ⟨m, rfl⟩ := Int.eq_ofNat_of_zero_le h.1
    refine ev_cast (impl_putNum_l m [] (by omega) (by simp; omega)) ?_
    rw [putNum, if_pos h]
    simp
  · refine ev_eq (a := false) (by unfold impl_within.f; split <;> simp <;> omega) (ev_neg (by simp) ?_)
    rw [putNum, if_neg h]
    exact Ev.now _
theorem putNat_len5 (n : Nat) (h : n ≤ 2147483647) : (putNat n).length ≤ 5 := by
  have step : ∀ m j, m < 128 ^ (j + 1) → (putNat m).length ≤ j + 1 := by
    intro m j
    induction j generalizing m with
    | zero =>
      intro hm
      rw [putNat_small (by omega)]
      simp
    | succ j ih =>
      intro hm
      by_cases h : m < 128
      · rw [putNat_small h]
        simp
      · rw [putNat_big h]
        have : m / 128 < 128 ^ (j + 1) := by
          rw [Nat.div_lt_iff_lt_mul (by omega)]
          rw [Nat.pow_succ] at hm
          exact hm
        have := ih (m / 128) this
        simp only [List.length_cons]
        omega
  exact step n 4 (by omega)
theorem putNum_length (n : Int) : (putNum n).length ≤ 5 := by
  unfold putNum
  split
  · exact putNat_len5 _ (by omega)
  · simp
theorem impl_PutText_ev (s : ByteArray) (hs : s.size ≤ 1099511627776) : Ev (fun k => impl_PutText.f k s) (putText s) := by
  have hl := putNum_length (s.size : Int)
  unfold impl_PutText.f putText
  exact Ev.bind (impl_PutNum_ev _) (ev_pos (by omega) (Ev.now _))
theorem putNat_range (n : Nat) : ∀ x ∈ putNat n, 0 ≤ x ∧ x ≤ 255 := by
  induction n using Nat.strongRecOn with
  | _ n ih =>
    by_cases h : n < 128
    · rw [putNat_small h]
      simp
      omega
    · rw [putNat_big h]
      intro x hx
      rw [List.mem_cons] at hx
      rcases hx with rfl | hx
      · omega
      · exact ih (n / 128) (by omega) x hx
theorem putNum_range (n : Int) : ∀ x ∈ putNum n, 0 ≤ x ∧ x ≤ 255 := by
  intro x hx
  unfold putNum at hx
  split at hx
  · exact putNat_range _ x hx
  · cases hx
theorem putText_range (s : ByteArray) : ∀ x ∈ putText s, 0 ≤ x ∧ x ≤ 255 := by
  intro x hx
  unfold putText at hx
  rw [List.mem_append] at hx
  rcases hx with hx | hx
  · exact putNum_range _ x hx
  · exact bytesOf_range s x hx
theorem putText_length (s : ByteArray) : (putText s).length = (putNum (s.size : Int)).length + s.size := by
  unfold putText
  rw [List.length_append, bytesOf_length]
theorem putText_short (s : ByteArray) (h : s.size ≤ 90) : (putText s).length ≤ 95 := by
  have := putNum_length (s.size : Int)
  rw [putText_length]
  omega
theorem impl_recSum_l (l : List ByteArray) (hl : l.length ≤ 1000) (hx : ∀ x ∈ l, x.size ≤ 90) (d : Nat) : ∀ (i : Nat) (acc : List Int), i + d = l.length → acc.length ≤ 95 * i → (∀ x ∈ acc, 0 ≤ x ∧ x ≤ 255) →
    Ev (fun k => impl_dataSum.l0 k acc l (l.length : Int) (i : Int)) (crc (acc ++ (l.drop i).flatMap putText)) := by
  induction d with
  | zero =>
    intro i acc hi ha hr
    apply ev_shift
    simp only [impl_dataSum.l0]
    rw [List.drop_eq_nil_of_le (by omega), List.flatMap_nil, List.append_nil]
    exact ev_neg (by omega) (Ev.bind (impl_Crc_ev acc (by omega) hr) (Ev.now _))
  | succ d ih =>
    intro i acc hi ha hr
    have hs := hx _ (getD_mem ByteArray.empty l i (by omega))
    have hp := putText_short _ hs
    apply ev_shift
    simp only [impl_dataSum.l0]
    rw [wrap_nat (by omega), rdOf_nat, drop_cons ByteArray.empty l i (by omega), List.flatMap_cons, ← List.append_assoc]
    refine ev_pos (by omega) (ev_pos (by omega) (ev_pos (by omega) (Ev.bind (impl_PutText_ev _ (by omega)) (ev_pos (by omega) (ih (i + 1) _ (by omega) (by rw [List.length_append]; omega) ?_)))))
    intro x hx2
    rcases List.mem_append.1 hx2 with h | h
    · exact hr x h
    · exact putText_range _ x h
theorem impl_recSum_ev (l : List ByteArray) (hl : l.length ≤ 1000) (hx : ∀ x ∈ l, x.size ≤ 90) : Ev (fun k => impl_dataSum.f k l) (sumOf l) := by
  unfold impl_dataSum.f sumOf
  exact impl_recSum_l l hl hx l.length 0 [] (Nat.zero_add _) (by simp) (by simp)
def recovered (a : List ByteArray) (b : List S65) (n : Int) : List ByteArray × List S65 :=
  if homed a b n = true then ((carried (fallGo b [] a) n (headOf (bytesOf ((fallGo b [] a).getD 0 ByteArray.empty)) n)).set 0 (⟨#[]⟩ : ByteArray), []) else (a, b)
theorem impl_Recover_ev (a : List ByteArray) (b : List S65) (n : Int) (ha : a.length ≤ 1099511627776) (hb : b.length ≤ 1099511627776) : Ev (fun k => impl_Recover.f k a b n) (recovered a b n) := by
  unfold impl_Recover.f recovered
  refine ev_eq (impl_homed_eq a b n (by omega)) ?_
  cases hq : homed a b n
  · exact ev_neg (by simp) (ev_eq (impl_cloneDisk_eq a b ha hb) (Ev.now _))
  · obtain ⟨hd, hn, hlen⟩ := homed_split hq
    obtain ⟨h1, h2, h3, h4⟩ := diskGood_split hd
    have hf := impl_Fall_ev a b [] ha hb
    unfold fallen at hf
    rw [if_pos hd] at hf
    rw [if_pos rfl]
    rw [fallGo_nil] at hf ⊢
    have hs0 : (a.getD 0 ByteArray.empty).size ≤ 90 := h3 _ (getD_mem ByteArray.empty a 0 (by omega))
    refine ev_pos rfl (Ev.bind hf (ev_pos (show (0 : Int) < (a.length : Int) by omega) ?_))
    have e0 : rdOf ByteArray.empty a 0 = a.getD 0 ByteArray.empty := rdOf_nat _ a 0
    rw [e0]
    have hho := impl_HeadOf_ev (a.getD 0 ByteArray.empty) n (by omega)
    have hgo : (headOf (bytesOf (a.getD 0 ByteArray.empty)) n).2.2 = true → ((headOf (bytesOf (a.getD 0 ByteArray.empty)) n).1.length : Int) ≤ n ∧ ∀ x ∈ (headOf (bytesOf (a.getD 0 ByteArray.empty)) n).1, 0 ≤ x ∧ x ≤ n - 1 := fun h => headOf_homes h
    generalize headOf (bytesOf (a.getD 0 ByteArray.empty)) n = h at hho hgo
    obtain ⟨hs, sm, ok⟩ := h
    refine Ev.bind hho ?_
    dsimp only at hgo ⊢
    have hj : Ev (fun k => impl_Recover.j0 k n hs false a []) (a.set 0 (⟨#[]⟩ : ByteArray), []) := by
      apply ev_shift
      simp only [impl_Recover.j0]
      exact ev_neg (by simp) (ev_pos (by omega) (Ev.now _))
    unfold carried
    cases ok
    · rw [if_neg (fun z => by simp at z)]
      exact ev_neg (by simp) hj
    · obtain ⟨hl, hh⟩ := hgo rfl
      have e1 : wrap64 (1 + (hs.length : Int)) = ((1 + hs.length : Nat) : Int) := by rw [wrap_in (by omega) (by omega)]; omega
      rw [e1, Int.toNat_natCast]
      have hsl : ((a.take (1 + hs.length)).drop 1).length ≤ 1000 := by
        rw [List.length_drop, List.length_take]
        omega
      have hsx : ∀ x ∈ (a.take (1 + hs.length)).drop 1, x.size ≤ 90 := fun x hx => h3 x (List.mem_of_mem_take (List.mem_of_mem_drop hx))
      refine ev_pos rfl (ev_pos (by omega) (ev_pos (by omega) (Ev.bind (impl_recSum_ev _ hsl hsx) ?_)))
      dsimp only
      cases hc : (sumOf ((a.take (1 + hs.length)).drop 1) == sm)
      · rw [if_neg (fun z => by simp at z)]
        exact hj
      · rw [if_pos ⟨rfl, rfl⟩]
        apply ev_shift
        simp only [impl_Recover.j0]
        exact ev_pos (by first | rfl | trivial) (impl_Recover_l n hn hs hh hl [] hs.length 0 a (Nat.zero_add _) hlen)
theorem getD_set_self {α : Type} (d : α) (l : List α) (i : Nat) (v : α) (h : i < l.length) : (l.set i v).getD i d = v := by
  simp [List.getD, h]
theorem mark_step {α : Type} (d : α) (g : Nat → α) (l : List α) (i : Nat) (h : i < l.length) : ((List.range i).map g ++ l.drop i).set i (g i) = (List.range (i + 1)).map g ++ l.drop (i + 1) := by
  have hlen : ((List.range i).map g).length = i := by simp
  rw [List.set_append_right _ _ (by omega), hlen, Nat.sub_self, drop_cons d l i h, List.set_cons_zero, List.range_succ, List.map_append, List.append_assoc]
  rfl
theorem markPutS_ev (l : List S65) (m : Int) (h : l.length ≤ 140737488351232) (h0 : 0 ≤ m) (h1 : m ≤ 100000000000000000) :
    Ev (fun k => laws_markPutS.f k l m) (m + 2 * l.length, (List.range l.length).map (markPut m)) := by
  unfold laws_markPutS.f
  have := ev_loop (fun k i => laws_markPutS.l0 k ((List.range i).map (markPut m) ++ l.drop i) (m + 2 * (i : Int)) (i : Int)) (fun _ => (m + 2 * (l.length : Int), (List.range l.length).map (markPut m))) l.length ?_ ?_ 0 (Nat.zero_le _)
  · simpa using this
  · simp only [laws_markPutS.l0]
    refine ev_neg (by simp) ?_
    simp only [List.drop_length, List.append_nil]
    exact Ev.now _
  · intro i hi e
    simp only [laws_markPutS.l0]
    have hlen : i < ((List.range i).map (markPut m) ++ l.drop i).length := by simp; omega
    refine ev_pos (by simp; omega) (ev_pos (by omega) (ev_some ?_))
    rw [wrap_up (i := m + 2 * (i : Int)) (by omega) (by omega)]
    refine Ev.bind (markText_ev _ (by omega)) ?_
    simp only [rdPut_nat, Int.toNat_natCast]
    rw [wrap_nat (by omega), getD_set_self _ _ _ _ hlen, List.set_set, wrap_up (i := m + 2 * (i : Int) + 1) (by omega) (by omega)]
    have hs := mark_step z65 (markPut m) l i hi
    simp only [markPut] at hs
    have e1 : m + 2 * (i : Int) + 1 + 1 = m + 2 * ((i + 1 : Nat) : Int) := by omega
    dsimp only [markPut]
    rw [hs, e1]
    exact e
theorem markStringS_ev (l : List ByteArray) (m : Int) (h : l.length ≤ 140737488351232) (h0 : 0 ≤ m) (h1 : m ≤ 100000000000000000) :
    Ev (fun k => laws_markStringS.f k l m) (m + l.length, (List.range l.length).map fun j : Nat => markText (m + (j : Int))) := by
  unfold laws_markStringS.f
  have := ev_loop (fun k i => laws_markStringS.l0 k ((List.range i).map (fun j : Nat => markText (m + (j : Int))) ++ l.drop i) (m + (i : Int)) (i : Int)) (fun _ => (m + l.length, (List.range l.length).map fun j : Nat => markText (m + (j : Int)))) l.length ?_ ?_ 0 (Nat.zero_le _)
  · simpa using this
  · simp only [laws_markStringS.l0]
    refine ev_neg (by simp) ?_
    simp only [List.drop_length, List.append_nil]
    exact Ev.now _
  · intro i hi e
    simp only [laws_markStringS.l0]
    refine ev_pos (by simp; omega) (Ev.bind (markText_ev _ (by omega)) (ev_pos (by omega) ?_))
    rw [wrap_nat (by omega), Int.toNat_natCast, mark_step ByteArray.empty (fun j : Nat => markText (m + (j : Int))) l i hi, wrap_up (by omega) (by omega)]
    have e1 : m + (i : Int) + 1 = m + ((i + 1 : Nat) : Int) := by omega
    rw [e1]
    exact e
theorem markDisk_ev (a : List ByteArray) (b : List S65) (m : Int) (ha : a.length ≤ 10000000000) (hb : b.length ≤ 10000000000) (h0 : 0 ≤ m) (h1 : m ≤ 10000000000000000) :
    Ev (fun k => laws_markDisk.f k a b m) (m + a.length + 2 * b.length, markedS a.length m, markedP b.length (m + a.length)) := by
  unfold laws_markDisk.f
  exact Ev.bind (markStringS_ev a m (by omega) h0 (by omega)) (Ev.bind (markPutS_ev b (m + a.length) (by omega) (by omega) (by omega)) (Ev.now _))
def ofLPut (x : S111) : S65 := ⟨x.f0, x.f1⟩
theorem homeGo_length (n : Int) (l : List Int) : ∀ i a, (homeGo n l i a).length = a.length := by
  induction l with
  | nil => intro i a; rfl
  | cons x l ih =>
    intro i a
    rw [homeGo, ih, List.length_set]
theorem recovered_len (a : List ByteArray) (b : List S65) (n : Int) : (recovered a b n).1.length = a.length ∧ (recovered a b n).2.length ≤ b.length := by
  unfold recovered
  split
  · refine ⟨?_, Nat.zero_le _⟩
    show (List.set _ 0 _).length = a.length
    rw [List.length_set]
    unfold carried
    split
    · rw [homeGo_length, fallGo_nil]
    · rw [fallGo_nil]
  · exact ⟨rfl, Nat.le_refl _⟩
theorem decide_l1In (a lo hi : Int) : spec_l1In.f a lo hi = some (decide (lo ≤ a ∧ a ≤ hi)) := by
  unfold spec_l1In.f
  by_cases h : a ≥ lo
  · rw [if_pos h]
    congr 1
    rw [decide_eq_decide]
    omega
  · rw [if_neg h]
    congr 1
    symm
    rw [decide_eq_false_iff_not]
    omega
theorem l3PutsOk_ev (b : List S65) (n : Nat) (hb : b.length ≤ 140737488351232) (hn : n ≤ 140737488351232) : Ev (fun k => spec_l3PutsOk.f k b (n : Int)) (b.all (putGood n)) := by
  unfold spec_l3PutsOk.f
  have := ev_loop (fun k i => spec_l3PutsOk.l0 k b (n : Int) (i : Int)) (fun i => (b.drop i).all (putGood n)) b.length ?_ ?_ 0 (Nat.zero_le _)
  · exact this
  · simp only [spec_l3PutsOk.l0]
    refine ev_neg (by omega) (ev_cast (Ev.now _) ?_)
    rw [List.drop_length]
    rfl
  · intro i hi e
    simp only [spec_l3PutsOk.l0]
    refine ev_pos (by omega) (ev_pos (by omega) ?_)
    simp only [rdPut_nat]
    rw [wrap_in (x := (n : Int) - 1) (by omega) (by omega), wrap_nat (by omega), drop_cons z65 b i hi]
    refine ev_eq (decide_l1In _ _ _) ?_
    rw [List.all_cons]
    unfold putGood
    by_cases c : 0 ≤ (b.getD i z65).f0 ∧ (b.getD i z65).f0 ≤ (n : Int) - 1
    · rw [decide_eq_true c]
      refine ev_pos rfl ?_
      by_cases c2 : ((b.getD i z65).f1.size : Int) > 90
      · refine ev_pos c2 (ev_cast (Ev.now _) ?_)
        rw [decide_eq_false (show ¬ (b.getD i z65).f1.size ≤ 90 by omega)]
        rfl
      · refine ev_neg c2 (ev_cast e ?_)
        rw [decide_eq_true (show (b.getD i z65).f1.size ≤ 90 by omega)]
        rfl
    · rw [decide_eq_false c]
      exact ev_neg (by simp) (ev_cast (Ev.now _) (by simp))
theorem spec_DiskOk_ev (a : List ByteArray) (b : List S65) (ha : a.length ≤ 140737488351232) (hb : b.length ≤ 140737488351232) : Ev (fun k => spec_DiskOk.f k a b) (diskGood a b) := by
  have hj : Ev (fun k => spec_DiskOk.j0 k true a b) false := by
    apply ev_shift
    simp only [spec_DiskOk.j0]
    exact ev_pos trivial (Ev.now _)
  unfold spec_DiskOk.f diskGood
  by_cases c1 : (a.length : Int) > 120
  · rw [decide_eq_false (show ¬ a.length ≤ 120 by omega)]
    exact ev_pos c1 hj
  · rw [decide_eq_true (show a.length ≤ 120 by omega)]
    refine ev_neg c1 ?_
    by_cases c2 : (b.length : Int) > 400
    · rw [decide_eq_true c2, decide_eq_false (show ¬ b.length ≤ 400 by omega)]
      exact hj
    · rw [decide_eq_false c2, decide_eq_true (show b.length ≤ 400 by omega)]
      apply ev_shift
      simp only [spec_DiskOk.j0]
      refine ev_neg (by simp) ?_
      rw [Bool.true_and, Bool.true_and]
      have := ev_loop (fun k i => spec_DiskOk.l0 k (i : Int) a b) (fun i => (a.drop i).all (fun s => decide (s.size ≤ 90)) && b.all (putGood a.length)) a.length ?_ ?_ 0 (Nat.zero_le _)
      · exact this
      · simp only [spec_DiskOk.l0]
        refine ev_neg (by omega) (Ev.bind (l3PutsOk_ev b a.length hb ha) (ev_cast (Ev.now _) ?_))
        rw [List.drop_length]
        rfl
      · intro i hi e
        simp only [spec_DiskOk.l0]
        refine ev_pos (by omega) (ev_pos (by omega) ?_)
        rw [rdOf_nat, wrap_nat (by omega), drop_cons ByteArray.empty a i hi, List.all_cons]
        by_cases c3 : ((a.getD i ByteArray.empty).size : Int) > 90
        · refine ev_pos c3 (ev_cast (Ev.now _) ?_)
          rw [decide_eq_false (show ¬ (a.getD i ByteArray.empty).size ≤ 90 by omega)]
          rfl
        · refine ev_neg c3 (ev_cast e ?_)
          rw [decide_eq_true (show (a.getD i ByteArray.empty).size ≤ 90 by omega), Bool.true_and]
theorem spec_Fall_l (a0 : List ByteArray) (b c : List S65) (ks : List Bool) (hb : b.length ≤ 140737488351232) (n : Nat) (hp : ∀ p ∈ b, 0 ≤ p.f0 ∧ p.f0 ≤ (n : Int) - 1) (d : Nat) : ∀ (i : Nat) (a : List ByteArray), i + d = b.length → a.length = n →
    Ev (fun k => spec_Fall.l0 k ks (i : Int) a0 b a c) (fallGo (b.drop i) (ks.drop i) a, []) := by
  induction d with
  | zero =>
    intro i a hi ha
    apply ev_shift
    simp only [spec_Fall.l0]
    rw [List.drop_eq_nil_of_le (by omega)]
    refine ev_neg (by omega) (ev_shift ?_)
    simp only [spec_Fall.j1]
    exact ev_neg (by simp) (Ev.now _)
  | succ d ih =>
    intro i a hi ha
    obtain ⟨h0, h1⟩ := hp _ (getD_mem z65 b i (by omega))
    apply ev_shift
    simp only [spec_Fall.l0]
    refine ev_pos (by omega) (ev_shift ?_)
    simp only [spec_Fall.j1]
    by_cases hk : i < ks.length
    · rw [decide_eq_true (show (i : Int) < (ks.length : Int) by omega), wrap_nat (by omega), fallGo_drop b ks a i (by omega) hk, rdOf_nat]
      simp only [rdPut_nat]
      refine ev_pos (by trivial) (ev_pos (by omega) (ev_pos (by omega) ?_))
      cases hc : ks.getD i false
      · exact ev_neg (by simp) (ih (i + 1) a (by omega) ha)
      · rw [if_pos rfl]
        exact ev_pos rfl (ev_pos (by omega) (ev_pos h0 (ev_pos (by omega) (ih (i + 1) _ (by omega) (by rw [List.length_set]; exact ha)))))
    · rw [decide_eq_false (show ¬ (i : Int) < (ks.length : Int) by omega)]
      refine ev_neg (by simp) (ev_cast (Ev.now _) ?_)
      have e0 : ks.drop i = [] := List.drop_eq_nil_of_le (by omega)
      rw [e0, fallGo_nil]
theorem spec_l1Copy_eq (l : List ByteArray) (h : l.length < 8796093022208) : spec_l1Copy.f l = some l := by
  unfold spec_l1Copy.f
  simp only [Option.bind_some, List.length_nil, Nat.zero_add, List.nil_append]
  rw [if_pos h]
theorem spec_l3Copy_eq (a : List ByteArray) (b : List S65) (ha : a.length ≤ 1099511627776) (hb : b.length ≤ 1099511627776) : spec_l3Copy.f a b = some (a, b) := by
  unfold spec_l3Copy.f
  rw [spec_l1Copy_eq a (by omega)]
  simp only [Option.bind_some, List.length_nil, Nat.zero_add, List.nil_append]
  rw [if_pos (by omega)]
theorem spec_Fall_ev (a : List ByteArray) (b : List S65) (ks : List Bool) (ha : a.length ≤ 1099511627776) (hb : b.length ≤ 1099511627776) : Ev (fun k => spec_Fall.f k a b ks) (fallen a b ks) := by
  unfold spec_Fall.f fallen
  refine ev_eq (spec_l3Copy_eq a b ha hb) (Ev.bind (spec_DiskOk_ev a b (by omega) (by omega)) ?_)
  cases h : diskGood a b
  · exact ev_neg (by simp) (Ev.now _)
  · obtain ⟨_, _, _, h4⟩ := diskGood_split h
    refine ev_pos rfl ?_
    exact spec_Fall_l a b b ks (by omega) a.length (fun p hp => ⟨(h4 p hp).1, (h4 p hp).2.1⟩) b.length 0 a (Nat.zero_add _) rfl
theorem spec_acc {n d k : Nat} (hd : d ≤ 255) (hk : k ≤ 4) (h : gOk k n) : Go.bits .or .i64 (n : Int) (shl .i64 (Int.tmod (wrap64 (d : Int)) 128) (wrap64 (7 * (k : Int)))) = (gAcc n d k : Int) := by
  have e3 : Int.tmod (wrap64 (d : Int)) 128 = ((d % 128 : Nat) : Int) := by
    rw [wrap_in (by omega) (by omega), Int.tmod_eq_emod_of_nonneg (by omega)]
    omega
  rw [e3, shl7 (d % 128) k (by omega) hk]
  exact or7 n (d % 128) k h (by omega) hk
theorem spec_getNum_l (b : List Int) (hl : b.length ≤ 140737488351232) (hb : ∀ x ∈ b, 0 ≤ x ∧ x ≤ 255) (a : Nat) (ha : a < 9223372036854775808) (f : Nat) : ∀ (k n : Nat), k + f = 5 → gOk k n →
    Ev (fun j => spec_GetNum.l0 j b (a : Int) (n : Int) (k : Int)) (getGo b a f k n) := by
  induction f with
  | zero =>
    intro k n hk hn
    apply ev_shift
    simp only [spec_GetNum.l0]
    exact ev_neg (by omega) (Ev.now _)
  | succ f ih =>
    intro k n hk hn
    have hk4 : k ≤ 4 := by omega
    apply ev_shift
    simp only [spec_GetNum.l0]
    refine ev_pos (by omega) (ev_neg (by omega) ?_)
    rw [wrap_in (x := (b.length : Int) - k) (by omega) (by omega)]
    apply ev_shift
    simp only [spec_GetNum.j1, getGo]
    by_cases hin : a + k < b.length
    · refine ev_neg (by simp; omega) ?_
      rw [if_pos hin, add_wrap (by omega) (by omega), rd_nat]
      have hm := hb _ (getD_mem 0 b (a + k) hin)
      generalize b.getD (a + k) 0 = d at hm ⊢
      obtain ⟨c, rfl⟩ := Int.eq_ofNat_of_zero_le hm.1
      have hc : c ≤ 255 := by omega
      have e11 := ih (k + 1) _ (by omega) (gOk_step c hn)
      rw [spec_acc hc hk4 hn, Int.toNat_natCast, byte_wrap hc, wrap_nat (i := a + k) (by omega), wrap_nat (i := k) (by omega)]
      generalize gAcc n c k = m at e11 ⊢
      clear hn ih
      refine ev_pos (by omega) (ev_pos (by omega) (ev_pos (seven_pos hk4) ?_))
      by_cases h1 : c < 128
      · refine ev_pos (by omega) ?_
        rw [if_pos h1]
        by_cases h2 : k > 0
        · refine ev_pos (by omega) ?_
          by_cases h3 : c = 0
          · refine ev_pos (by omega) ?_
            rw [if_pos (.inl ⟨h2, h3⟩)]
            exact Ev.now _
          · refine ev_neg (by omega) ?_
            by_cases h4 : m > 2147483647
            · refine ev_pos (by omega) ?_
              rw [if_pos (.inr h4)]
              exact Ev.now _
            · refine ev_neg (by omega) ?_
              rw [if_neg (by omega)]
              exact Ev.now _
        · refine ev_neg (by omega) ?_
          by_cases h4 : m > 2147483647
          · refine ev_pos (by omega) ?_
            rw [if_pos (.inr h4)]
            exact Ev.now _
          · refine ev_neg (by omega) ?_
            rw [if_neg (by omega)]
            exact Ev.now _
      · refine ev_neg (by omega) ?_
        rw [if_neg h1]
        exact e11
    · refine ev_pos (by simp; omega) ?_
      rw [if_neg hin]
      exact Ev.now _
theorem spec_GetNum_ev (b : List Int) (a : Int) (hl : b.length ≤ 140737488351232) (hb : ∀ x ∈ b, 0 ≤ x ∧ x ≤ 255) (ha : a ≤ 9223372036854775807) : Ev (fun k => spec_GetNum.f k b a) (getNum b a) := by
  unfold spec_GetNum.f getNum
  by_cases h : 0 ≤ a
  · rw [if_pos h]
    obtain ⟨n, rfl⟩ := Int.eq_ofNat_of_zero_le h
    exact spec_getNum_l b hl hb n (by omega) 5 0 0 (by omega) gOk_zero
  · rw [if_neg h]
    apply ev_shift
    simp only [spec_GetNum.l0]
    refine ev_pos (by omega) (ev_pos (by omega) ?_)
    apply ev_shift
    simp only [spec_GetNum.j1]
    exact ev_pos trivial (Ev.now _)
def incGo : Int → List S65 → Bool
  | _, [] => true
  | last, w :: l => decide (last < w.f0) && incGo w.f0 l
def putsOk (n : Int) (l : List S65) : Bool := l.all fun w => decide (0 ≤ w.f0 ∧ w.f0 ≤ n - 1) && decide (w.f1.size ≤ 90)
theorem spec_incr_l (l : List S65) (hl : l.length ≤ 140737488351232) (hne : 0 < l.length) : Ev (fun k => spec_TxOk.l0 k l 1) (incGo (l.getD 0 z65).f0 (l.drop 1)) := by
  have key : ∀ (d i : Nat), i + 1 + d = l.length → Ev (fun k => spec_TxOk.l0 k l ((i + 1 : Nat) : Int)) (incGo (l.getD i z65).f0 (l.drop (i + 1))) := by
    intro d
    induction d with
    | zero =>
      intro i hi
      apply ev_shift
      simp only [spec_TxOk.l0]
      refine ev_neg (by omega) (ev_cast (Ev.now _) ?_)
      rw [List.drop_eq_nil_of_le (by omega)]
      rfl
    | succ d ih =>
      intro i hi
      apply ev_shift
      simp only [spec_TxOk.l0]
      have e1 : wrap64 (((i + 1 : Nat) : Int) - 1) = (i : Int) := by rw [wrap_in (by omega) (by omega)]; omega
      rw [e1, wrap_nat (by omega), rdPut_nat, rdPut_nat, drop_cons z65 l (i + 1) (by omega), incGo]
      refine ev_pos (by omega) (ev_pos (by omega) (ev_pos (by omega) (ev_pos (by omega) ?_)))
      by_cases c : (l.getD i z65).f0 < (l.getD (i + 1) z65).f0
      · refine ev_neg (by omega) (ev_cast (ih (i + 1) (by omega)) ?_)
        rw [decide_eq_true c]
        simp
      · refine ev_pos (by omega) (ev_cast (Ev.now _) ?_)
        rw [decide_eq_false c]
        simp
  exact key (l.length - 1) 0 (by omega)
theorem spec_putsOk_ev (n : Int) (l : List S65) (hn : 0 ≤ n ∧ n ≤ 9223372036854775807) (hl : l.length ≤ 140737488351232) : Ev (fun k => spec_l3PutsOk.f k l n) (putsOk n l) := by
  unfold spec_l3PutsOk.f
  have := ev_loop (fun k i => spec_l3PutsOk.l0 k l n (i : Int)) (fun i => putsOk n (l.drop i)) l.length ?_ ?_ 0 (Nat.zero_le _)
  · exact this
  · simp only [spec_l3PutsOk.l0]
    refine ev_neg (by omega) (ev_cast (Ev.now _) ?_)
    rw [List.drop_length]
    rfl
  · intro i hi e
    simp only [spec_l3PutsOk.l0]
    refine ev_pos (by omega) (ev_pos (by omega) (ev_eq (decide_l1In _ _ _) ?_))
    rw [wrap_nat (by omega), rdPut_nat, wrap_in (x := n - 1) (by omega) (by omega), drop_cons z65 l i hi, putsOk, List.all_cons]
    by_cases c : 0 ≤ (l.getD i z65).f0 ∧ (l.getD i z65).f0 ≤ n - 1
    · rw [decide_eq_true c]
      refine ev_pos rfl ?_
      by_cases c2 : (l.getD i z65).f1.size ≤ 90
      · refine ev_neg (by omega) (ev_cast e ?_)
        rw [decide_eq_true c2]
        simp [putsOk]
      · refine ev_pos (by omega) (ev_cast (Ev.now _) ?_)
        rw [decide_eq_false c2]
        simp
    · rw [decide_eq_false c]
      exact ev_neg (by simp) (ev_cast (Ev.now _) (by simp))
theorem txGo_eq (n : Int) (l : List S65) : ∀ last : Int, -1 ≤ last → txGo n last l = (putsOk n l && incGo last l) := by
  induction l with
  | nil => intro last _; rfl
  | cons w l ih =>
    intro last hl
    rw [txGo, incGo, putsOk, List.all_cons]
    by_cases h : last + 1 ≤ w.f0 ∧ w.f0 ≤ n - 1
    · rw [ih w.f0 (by omega), putsOk, decide_eq_true h, decide_eq_true (show last < w.f0 by omega), decide_eq_true (show 0 ≤ w.f0 ∧ w.f0 ≤ n - 1 by omega)]
      cases decide (w.f1.size ≤ 90) <;> simp
    · rw [decide_eq_false h]
      by_cases h2 : last < w.f0
      · rw [decide_eq_false (show ¬ (0 ≤ w.f0 ∧ w.f0 ≤ n - 1) by omega)]
        simp
      · rw [decide_eq_false h2]
        simp
theorem spec_TxOk_ev (n : Int) (l : List S65) (hl : l.length ≤ 140737488351232) : Ev (fun k => spec_TxOk.f k n l) (txOk n l) := by
  unfold spec_TxOk.f txOk
  refine ev_eq (decide_l1In _ _ _) ?_
  by_cases c : 1 ≤ n ∧ n ≤ 48
  · rw [decide_eq_true c, txGo_eq n l (-1) (by omega)]
    refine ev_pos rfl ?_
    cases l with
    | nil =>
      refine ev_pos rfl (ev_shift ?_)
      simp only [spec_TxOk.j0]
      exact ev_pos trivial (Ev.now _)
    | cons w r =>
      refine ev_neg (by simp; omega) (Ev.bind (spec_putsOk_ev n (w :: r) (by omega) hl) (ev_shift ?_))
      simp only [spec_TxOk.j0]
      cases hp : putsOk n (w :: r) with
      | false => exact ev_pos rfl (ev_cast (Ev.now _) (by simp))
      | true =>
        refine ev_neg (by simp) (ev_cast (spec_incr_l (w :: r) hl (by simp)) ?_)
        have hw : 0 ≤ w.f0 := by
          have h2 := hp
          rw [putsOk, List.all_cons] at h2
          simp at h2
          omega
        rw [incGo, decide_eq_true (show -1 < w.f0 by omega)]
        simp
  · rw [decide_eq_false c]
    refine ev_neg (by simp) (ev_shift ?_)
    simp only [spec_TxOk.j0]
    exact ev_pos trivial (Ev.now _)
theorem spec_HeadOf_l (b : List Int) (n : Int) (hb : ∀ x ∈ b, 0 ≤ x ∧ x ≤ 255) (hl : b.length ≤ 1099511627776) (c : Nat) (hc : c ≤ 48) (d : Nat) : ∀ (i : Nat) (at_ : Int) (acc : List Int), i + d = c → 1 ≤ at_ → at_ ≤ b.length → acc.length = i → (∀ x ∈ acc, 0 ≤ x ∧ x ≤ 2147483647) →
    Ev (fun k => spec_HeadOf.l0 k n b (c : Int) at_ acc (putsOf acc) (i : Int)) (headEnd b n (headGo b d at_ acc)) := by
  induction d with
  | zero =>
    intro i at_ acc hi h1 h2 ha hr
    have hp := putsOf_length acc
    apply ev_shift
    simp only [spec_HeadOf.l0, headGo, headEnd]
    refine ev_neg (by omega) ?_
    rw [wrap_in (x := at_ + 4) (by omega) (by omega)]
    by_cases e : (b.length : Int) = at_ + 4
    · rw [if_pos e]
      refine ev_pos e (Ev.bind (spec_TxOk_ev n _ (by omega)) ?_)
      cases txOk n (putsOf acc)
      · exact ev_neg (by simp) (ev_cast (Ev.now _) (by simp))
      · rw [wrap_in (x := at_ + 1) (by omega) (by omega), wrap_in (x := at_ + 2) (by omega) (by omega), wrap_in (x := at_ + 3) (by omega) (by omega)]
        refine ev_pos rfl (ev_pos (by omega) (ev_pos (by omega) (ev_pos (by omega) (ev_pos (by omega) (ev_pos (by omega) (ev_pos (by omega) (ev_pos (by omega) (ev_pos (by omega) (ev_cast (Ev.now _) ?_)))))))))
        rw [if_pos rfl]
        obtain ⟨j, rfl⟩ := Int.eq_ofNat_of_zero_le (show 0 ≤ at_ by omega)
        have r0 : rd b ((j : Nat) : Int) = b.getD j 0 := rd_nat b j
        have r1 : rd b (((j : Nat) : Int) + 1) = b.getD (j + 1) 0 := rd_nat b (j + 1)
        have r2 : rd b (((j : Nat) : Int) + 2) = b.getD (j + 2) 0 := rd_nat b (j + 2)
        have r3 : rd b (((j : Nat) : Int) + 3) = b.getD (j + 3) 0 := rd_nat b (j + 3)
        have v0 := hb _ (getD_mem 0 b j (by omega))
        have v1 := hb _ (getD_mem 0 b (j + 1) (by omega))
        have v2 := hb _ (getD_mem 0 b (j + 2) (by omega))
        have v3 := hb _ (getD_mem 0 b (j + 3) (by omega))
        rw [r0, r1, r2, r3]
        unfold sum4
        rw [Int.toNat_natCast]
        generalize b.getD j 0 = y0 at *
        generalize b.getD (j + 1) 0 = y1 at *
        generalize b.getD (j + 2) 0 = y2 at *
        generalize b.getD (j + 3) 0 = y3 at *
        have w0 : wrap64 y0 = y0 := wrap_in (by omega) (by omega)
        have w1 : wrap64 y1 = y1 := wrap_in (by omega) (by omega)
        have w2 : wrap64 y2 = y2 := wrap_in (by omega) (by omega)
        have w3 : wrap64 y3 = y3 := wrap_in (by omega) (by omega)
        rw [w0, w1, w2, w3, wrap_in (x := y0 * 256) (by omega) (by omega), wrap_in (x := y0 * 256 + y1) (by omega) (by omega), wrap_in (x := (y0 * 256 + y1) * 256) (by omega) (by omega), wrap_in (x := (y0 * 256 + y1) * 256 + y2) (by omega) (by omega), wrap_in (x := ((y0 * 256 + y1) * 256 + y2) * 256) (by omega) (by omega), wrap_in (x := ((y0 * 256 + y1) * 256 + y2) * 256 + y3) (by omega) (by omega)]
    · rw [if_neg e]
      exact ev_neg e (Ev.now _)
  | succ d ih =>
    intro i at_ acc hi h1 h2 ha hr
    have hp := putsOf_length acc
    apply ev_shift
    simp only [spec_HeadOf.l0, headGo]
    refine ev_pos (by omega) (Ev.bind (spec_GetNum_ev b at_ (by omega) hb (by omega)) ?_)
    by_cases hk : (getNum b at_).2.2 = true
    · have hg := getNum_ok b at_ hk
      rw [if_pos hk]
      refine ev_pos hk (ev_pos (by omega) (ev_pos (by omega) ?_))
      rw [wrap_nat (by omega), ← putsOf_snoc]
      refine ih (i + 1) _ _ (by omega) (by omega) (by omega) (by rw [List.length_append, List.length_singleton]; omega) ?_
      intro x hx
      rw [List.mem_append] at hx
      rcases hx with hx | hx
      · exact hr x hx
      · rw [List.mem_singleton] at hx
        subst hx
        exact ⟨hg.1, hg.2.1⟩
    · rw [if_neg hk]
      exact ev_neg hk (Ev.now _)
theorem spec_HeadOf_ev (s : ByteArray) (n : Int) (hs : s.size ≤ 1048576) : Ev (fun k => spec_HeadOf.f k s n) (headOf (bytesOf s) n) := by
  have hl := bytesOf_length s
  have hb := bytesOf_range s
  unfold spec_HeadOf.f
  refine ev_pos (by omega) (ev_some ?_)
  generalize bytesOf s = b at *
  have hj : ∀ x y, Ev (fun k => spec_HeadOf.j0 k n b x y true) ([], 0, false) := by
    intro x y
    refine ev_shift ?_
    simp only [spec_HeadOf.j0]
    exact ev_pos trivial (Ev.now _)
  unfold headOf
  refine Ev.bind (spec_GetNum_ev b 1 (by omega) hb (by omega)) ?_
  by_cases hk : (getNum b 1).2.2 = true
  · have hg := getNum_ok b 1 hk
    refine ev_pos hk (ev_pos (by omega) ?_)
    rw [show rd b 0 = b.getD 0 0 from rd_nat b 0]
    by_cases h7 : b.getD 0 0 = 74
    · refine ev_pos h7 (ev_eq (decide_l1In _ _ _) ?_)
      by_cases hm : 1 ≤ (getNum b 1).1 ∧ (getNum b 1).1 ≤ 48
      · rw [decide_eq_true hm, if_pos ⟨hk, h7, hm⟩]
        refine ev_shift ?_
        simp only [spec_HeadOf.j0]
        refine ev_neg (by simp) ?_
        have e : (((getNum b 1).1.toNat : Nat) : Int) = (getNum b 1).1 := by omega
        have := spec_HeadOf_l b n hb (by omega) (getNum b 1).1.toNat (by omega) (getNum b 1).1.toNat 0 (getNum b 1).2.1 [] (by omega) (by omega) (by omega) rfl (by simp)
        rw [e] at this
        exact this
      · rw [decide_eq_false hm, if_neg (fun z => hm z.2.2)]
        exact hj _ _
    · rw [if_neg (fun z => h7 z.2.1)]
      exact ev_neg h7 (hj _ _)
  · rw [if_neg (fun z => hk z.1)]
    exact ev_neg hk (hj _ _)
theorem spec_Recover_l (n : Int) (hn : 1 ≤ n ∧ n ≤ 48) (hs : List Int) (hh : ∀ x ∈ hs, 0 ≤ x ∧ x ≤ n - 1) (hl : (hs.length : Int) ≤ n) (c : List S65) (d : Nat) : ∀ (i : Nat) (a : List ByteArray), i + d = hs.length → (a.length : Int) = 2 * n + 1 →
    Ev (fun k => spec_Recover.l0 k n hs (i : Int) a c) ((homeGo n (hs.drop i) i a).set 0 (⟨#[]⟩ : ByteArray), c) := by
  induction d with
  | zero =>
    intro i a hi ha
    apply ev_shift
    simp only [spec_Recover.l0]
    rw [List.drop_eq_nil_of_le (by omega)]
    exact ev_neg (by omega) (ev_pos (by omega) (Ev.now _))
  | succ d ih =>
    intro i a hi ha
    have hm := hh _ (getD_mem 0 hs i (by omega))
    apply ev_shift
    simp only [spec_Recover.l0]
    have e1 : wrap64 (1 + (i : Int)) = ((1 + i : Nat) : Int) := by rw [wrap_in (by omega) (by omega)]; omega
    rw [wrap_nat (by omega), e1, rd_nat, wrap_in (x := n + 1) (by omega) (by omega), wrap_in (x := n + 1 + hs.getD i 0) (by omega) (by omega), rdOf_nat, drop_cons 0 hs i (by omega), homeGo]
    exact ev_pos (by omega) (ev_pos (by omega) (ev_pos (by omega) (ev_pos (by omega) (ev_pos (by omega) (ev_pos (by omega) (ih (i + 1) _ (by omega) (by rw [List.length_set]; exact ha)))))))
theorem spec_l4Ok_ev (a : List ByteArray) (b : List S65) (n : Int) (ha : a.length ≤ 140737488351232) (hb : b.length ≤ 140737488351232) : Ev (fun k => spec_l4Ok.f k a b n) (homed a b n) := by
  unfold spec_l4Ok.f homed
  refine Ev.bind (spec_DiskOk_ev a b ha hb) ?_
  cases diskGood a b
  · exact ev_neg (by simp) (Ev.now _)
  · refine ev_pos rfl (ev_eq (decide_l1In n 1 48) ?_)
    by_cases c : 1 ≤ n ∧ n ≤ 48
    · rw [decide_eq_true c, wrap_in (x := 2 * n) (by omega) (by omega), wrap_in (by omega) (by omega)]
      exact ev_pos rfl (Ev.now _)
    · rw [decide_eq_false c]
      exact ev_neg (by simp) (Ev.now _)
theorem spec_crc_l (l : List Int) (hl : l.length ≤ 140737488351232) (hb : ∀ x ∈ l, 0 ≤ x ∧ x ≤ 255) (d : Nat) : ∀ (i x : Nat), i + d = l.length → x < 4294967296 →
    Ev (fun k => spec_Crc.l0 k l (x : Int) (i : Int)) ((crcFrom (l.drop i) x ^^^ 4294967295 : Nat) : Int) := by
  induction d with
  | zero =>
    intro i x hi hx
    apply ev_shift
    simp only [spec_Crc.l0]
    refine ev_neg (by omega) (ev_cast (Ev.now _) ?_)
    rw [List.drop_eq_nil_of_le (by omega)]
    exact xor_end x hx
  | succ d ih =>
    intro i x hi hx
    have hm := hb _ (getD_mem 0 l i (by omega))
    obtain ⟨n, hn, hn2, hn3⟩ := byte_nat hm
    have inner : ∀ (j y : Nat), j ≤ 8 → y < 4294967296 → Ev (fun k => spec_Crc.l1 k l (y : Int) (i : Int) ((8 - j : Nat) : Int)) ((crcFrom (l.drop (i + 1)) (crcBits j y) ^^^ 4294967295 : Nat) : Int) := by
      intro j
      induction j with
      | zero =>
        intro y _ hy
        apply ev_shift
        simp only [spec_Crc.l1]
        refine ev_neg (by omega) ?_
        rw [wrap_nat (by omega)]
        exact ih (i + 1) y (by omega) hy
      | succ j ihj =>
        intro y hj hy
        apply ev_shift
        simp only [spec_Crc.l1]
        have h2 : y / 2 < 4294967296 := by omega
        have e0 : wrap64 (((8 - (j + 1) : Nat) : Int) + 1) = ((8 - j : Nat) : Int) := by rw [wrap_nat (by omega)]; omega
        have e1 : Int.tmod (y : Int) 2 = ((y % 2 : Nat) : Int) := by rw [Int.tmod_eq_emod_of_nonneg (by omega)]; omega
        have e2 : wrap64 (Int.tdiv (y : Int) 2) = ((y / 2 : Nat) : Int) := by rw [Int.tdiv_eq_ediv_of_nonneg (by omega), wrap_in (by omega) (by omega)]; omega
        have e3 : Go.bits .xor .i64 ((y / 2 : Nat) : Int) 3988292384 = (((y / 2) ^^^ 3988292384 : Nat) : Int) := xor_poly (y / 2) h2
        rw [e0, e1, e2, e3]
        refine ev_pos (by omega) ?_
        have hs := ihj (crcBit y) (by omega) (crcBit_lt hy)
        by_cases ho : y % 2 = 1
        · refine ev_pos (by omega) ?_
          have : crcBit y = (y / 2) ^^^ 3988292384 := if_pos ho
          rw [this] at hs
          rw [crcBits, this]
          exact hs
        · refine ev_neg (by omega) ?_
          have : crcBit y = y / 2 := if_neg ho
          rw [this] at hs
          rw [crcBits, this]
          exact hs
    apply ev_shift
    simp only [spec_Crc.l0]
    refine ev_pos (by omega) (ev_pos (by omega) ?_)
    rw [rd_nat, hn, wrap_in (by omega) (by omega), xor_nat x n hx hn2, drop_cons 0 l i (by omega), crcFrom, hn3]
    exact inner 8 (x ^^^ n) (by omega) (xor_lt32 hx hn2)
theorem spec_Crc_ev (l : List Int) (hl : l.length ≤ 140737488351232) (hb : ∀ x ∈ l, 0 ≤ x ∧ x ≤ 255) : Ev (fun k => spec_Crc.f k l) (crc l) := by
  have e := spec_crc_l l hl hb l.length 0 4294967295 (by omega) (by omega)
  rw [Int.cast_ofNat_Int, List.drop_zero] at e
  exact e
theorem spec_putNum_l (n : Nat) : ∀ acc : List Int, n ≤ 2147483647 → acc.length + n ≤ 100000000000 → Ev (fun k => spec_PutNum.l0 k (n : Int) acc) (acc ++ putNat n) := by
  induction n using Nat.strongRecOn with
  | _ n ih =>
    intro acc hn ha
    apply ev_shift
    simp only [spec_PutNum.l0]
    by_cases h : n < 128
    · refine ev_neg (by omega) (ev_pos (by omega) ?_)
      refine ev_cast (Ev.now _) ?_
      rw [putNat_small h, Int.emod_eq_of_lt (by omega) (by omega)]
    · refine ev_pos (by omega) (ev_pos (by omega) ?_)
      have e1 : wrap64 (Int.tdiv (n : Int) 128) = ((n / 128 : Nat) : Int) := by
        rw [Int.tdiv_eq_ediv_of_nonneg (by omega), wrap_in (by omega) (by omega)]
        omega
      have e2 : wrap64 (Int.tmod (n : Int) 128 + 128) % 256 = ((n % 128 + 128 : Nat) : Int) := by
        rw [Int.tmod_eq_emod_of_nonneg (by omega), wrap_in (by omega) (by omega)]
        omega
      rw [e1, e2]
      refine ev_cast (ih (n / 128) (by omega) _ (by omega) (by simp; omega)) ?_
      rw [putNat_big h, List.append_assoc]
      rfl
theorem spec_PutNum_ev (n : Int) : Ev (fun k => spec_PutNum.f k n) (putNum n) := by
  unfold spec_PutNum.f
  refine ev_some ?_
  by_cases h : 0 ≤ n ∧ n ≤ 2147483647
  · refine ev_eq (a := true) (by unfold spec_l1In.f; rw [if_pos (by omega)]; simp; omega) (ev_pos rfl ?_)
    obtain ⟨m, rfl⟩ := Int.eq_ofNat_of_zero_le h.1
    refine ev_cast (spec_putNum_l m [] (by omega) (by simp; omega)) ?_
    rw [putNum, if_pos h]
    simp
  · refine ev_eq (a := false) (by unfold spec_l1In.f; split <;> simp <;> omega) (ev_neg (by simp) ?_)
    rw [putNum, if_neg h]
    exact Ev.now _
theorem spec_PutText_ev (s : ByteArray) (hs : s.size ≤ 1099511627776) : Ev (fun k => spec_PutText.f k s) (putText s) := by
  have hl := putNum_length (s.size : Int)
  unfold spec_PutText.f putText
  refine Ev.bind (spec_PutNum_ev _) (ev_pos (by omega) (ev_some (ev_pos ?_ (Ev.now _))))
  rw [bytesOf_length]
  omega
theorem spec_recSum_l (l : List ByteArray) (hl : l.length ≤ 1000) (hx : ∀ x ∈ l, x.size ≤ 90) (d : Nat) : ∀ (i : Nat) (acc : List Int), i + d = l.length → acc.length ≤ 95 * i → (∀ x ∈ acc, 0 ≤ x ∧ x ≤ 255) →
    Ev (fun k => spec_l4Sum.l0 k l acc (i : Int)) (crc (acc ++ (l.drop i).flatMap putText)) := by
  induction d with
  | zero =>
    intro i acc hi ha hr
    apply ev_shift
    simp only [spec_l4Sum.l0]
    rw [List.drop_eq_nil_of_le (by omega), List.flatMap_nil, List.append_nil]
    exact ev_neg (by omega) (Ev.bind (spec_Crc_ev acc (by omega) hr) (Ev.now _))
  | succ d ih =>
    intro i acc hi ha hr
    have hs := hx _ (getD_mem ByteArray.empty l i (by omega))
    have hp := putText_short _ hs
    apply ev_shift
    simp only [spec_l4Sum.l0]
    rw [wrap_nat (by omega), rdOf_nat, drop_cons ByteArray.empty l i (by omega), List.flatMap_cons, ← List.append_assoc]
    refine ev_pos (by omega) (ev_pos (by omega) (Ev.bind (spec_PutText_ev _ (by omega)) (ev_pos (by omega) (ih (i + 1) _ (by omega) (by rw [List.length_append]; omega) ?_))))
    intro x hx2
    rcases List.mem_append.1 hx2 with h | h
    · exact hr x h
    · exact putText_range _ x h
theorem spec_recSum_ev (l : List ByteArray) (hl : l.length ≤ 1000) (hx : ∀ x ∈ l, x.size ≤ 90) : Ev (fun k => spec_l4Sum.f k l) (sumOf l) := by
  unfold spec_l4Sum.f sumOf
  exact spec_recSum_l l hl hx l.length 0 [] (Nat.zero_add _) (by simp) (by simp)
theorem spec_Recover_ev (a : List ByteArray) (b : List S65) (n : Int) (ha : a.length ≤ 1099511627776) (hb : b.length ≤ 1099511627776) : Ev (fun k => spec_Recover.f k a b n) (recovered a b n) := by
  unfold spec_Recover.f recovered
  refine Ev.bind (spec_l4Ok_ev a b n (by omega) (by omega)) ?_
  cases hq : homed a b n
  · exact ev_neg (by simp) (ev_eq (spec_l3Copy_eq a b ha hb) (Ev.now _))
  · obtain ⟨hd, hn, hlen⟩ := homed_split hq
    obtain ⟨h1, h2, h3, h4⟩ := diskGood_split hd
    have hf := spec_Fall_ev a b [] ha hb
    unfold fallen at hf
    rw [if_pos hd] at hf
    rw [if_pos rfl]
    rw [fallGo_nil] at hf ⊢
    have hs0 : (a.getD 0 ByteArray.empty).size ≤ 90 := h3 _ (getD_mem ByteArray.empty a 0 (by omega))
    refine ev_pos rfl (Ev.bind hf (ev_pos (show (0 : Int) < (a.length : Int) by omega) ?_))
    have e0 : rdOf ByteArray.empty a 0 = a.getD 0 ByteArray.empty := rdOf_nat _ a 0
    rw [e0]
    have hho := spec_HeadOf_ev (a.getD 0 ByteArray.empty) n (by omega)
    have hgo : (headOf (bytesOf (a.getD 0 ByteArray.empty)) n).2.2 = true → ((headOf (bytesOf (a.getD 0 ByteArray.empty)) n).1.length : Int) ≤ n ∧ ∀ x ∈ (headOf (bytesOf (a.getD 0 ByteArray.empty)) n).1, 0 ≤ x ∧ x ≤ n - 1 := fun h => headOf_homes h
    generalize headOf (bytesOf (a.getD 0 ByteArray.empty)) n = h at hho hgo
    obtain ⟨hs, sm, ok⟩ := h
    refine Ev.bind hho ?_
    dsimp only at hgo ⊢
    have hj : Ev (fun k => spec_Recover.j0 k n hs false a []) (a.set 0 (⟨#[]⟩ : ByteArray), []) := by
      apply ev_shift
      simp only [spec_Recover.j0]
      exact ev_neg (by simp) (ev_pos (by omega) (Ev.now _))
    unfold carried
    cases ok
    · rw [if_neg (fun z => by simp at z)]
      exact ev_neg (by simp) hj
    · obtain ⟨hl, hh⟩ := hgo rfl
      have e1 : wrap64 (1 + (hs.length : Int)) = ((1 + hs.length : Nat) : Int) := by rw [wrap_in (by omega) (by omega)]; omega
      rw [e1, Int.toNat_natCast]
      have hsl : ((a.take (1 + hs.length)).drop 1).length ≤ 1000 := by
        rw [List.length_drop, List.length_take]
        omega
      have hsx : ∀ x ∈ (a.take (1 + hs.length)).drop 1, x.size ≤ 90 := fun x hx => h3 x (List.mem_of_mem_take (List.mem_of_mem_drop hx))
      refine ev_pos rfl (ev_pos (by omega) (ev_pos (by omega) (Ev.bind (spec_recSum_ev _ hsl hsx) ?_)))
      dsimp only
      cases hc : (sumOf ((a.take (1 + hs.length)).drop 1) == sm)
      · rw [if_neg (fun z => by simp at z)]
        exact hj
      · rw [if_pos ⟨rfl, rfl⟩]
        apply ev_shift
        simp only [spec_Recover.j0]
        exact ev_pos (by first | rfl | trivial) (spec_Recover_l n hn hs hh hl [] hs.length 0 a (Nat.zero_add _) hlen)
/-- The letters of all texts. -/
def letters (l : List ByteArray) : Nat := (l.map ByteArray.size).sum
/-- What is left of a measure, behind a row of texts: below zero, or the row is that short. -/
def leftS (l : List ByteArray) (left : Int) : Int := if (l.length : Int) + letters l ≤ left then left - l.length - letters l else -1
theorem rdLPut_nat (xs : List S111) (i : Nat) : rd_T111 xs (i : Int) = xs.getD i z111 := by simp [rd_T111]
theorem szPut_eq (a : Int) (s : ByteArray) (m : Int) (h0 : 0 ≤ m) (h1 : m ≤ 1048576) (hs : s.size ≤ maxLen) : laws_szPut.f a s m = some (if m - (s.size : Int) < 0 then -1 else m - (s.size : Int)) := by
  unfold maxLen at hs
  unfold laws_szPut.f
  rw [wrap_in (by omega) (by omega)]
  split <;> rfl
theorem szPutS_ev (l : List S111) (m : Int) (h0 : 0 ≤ m) (h1 : m ≤ 1048576) (hl : l.length ≤ maxLen) (hx : ∀ x ∈ l, x.f1.size ≤ maxLen) :
    ∃ r : Int, Ev (fun k => laws_szPutS.f k l m) r ∧ r ≤ m ∧ (0 ≤ r → (l.length : Int) ≤ m ∧ ∀ x ∈ l, (x.f1.size : Int) ≤ m) := by
  have hl' : l.length ≤ 9223372036854775807 := hl
  unfold laws_szPutS.f
  by_cases c : m - (l.length : Int) < 0
  · refine ⟨-1, ?_, by omega, by omega⟩
    rw [wrap_in (by omega) (by omega)]
    exact ev_pos c (Ev.now _)
  · rw [wrap_in (by omega) (by omega)]
    have key : ∀ (d i : Nat) (x : Int), i + d = l.length → 0 ≤ x → x ≤ m → (∀ j, j < i → ((l.getD j z111).f1.size : Int) ≤ m) →
        ∃ r : Int, Ev (fun k => laws_szPutS.l0 k l x (i : Int)) r ∧ r ≤ m ∧ (0 ≤ r → ∀ j, j < l.length → ((l.getD j z111).f1.size : Int) ≤ m) := by
      intro d
      induction d with
      | zero =>
        intro i x hi hx0 hx1 hj
        refine ⟨x, ev_shift ?_, hx1, fun _ => by rw [show l.length = i from by omega]; exact hj⟩
        simp only [laws_szPutS.l0]
        exact ev_neg (by omega) (Ev.now _)
      | succ d ih =>
        intro i x hi hx0 hx1 hj
        have hm := hx _ (getD_mem z111 l i (by omega))
        have hs := szPut_eq (l.getD i z111).f0 (l.getD i z111).f1 x hx0 (by omega) hm
        by_cases c2 : x - ((l.getD i z111).f1.size : Int) < 0
        · rw [if_pos c2] at hs
          refine ⟨-1, ev_shift ?_, by omega, by omega⟩
          simp only [laws_szPutS.l0]
          refine ev_pos (by omega) (ev_pos (by omega) ?_)
          simp only [rdLPut_nat, hs, Option.bind_some]
          exact ev_pos (by omega) (Ev.now _)
        · rw [if_neg c2] at hs
          obtain ⟨r, e, hr1, hr2⟩ := ih (i + 1) (x - ((l.getD i z111).f1.size : Int)) (by omega) (by omega) (by omega) (fun j hji => by
            by_cases e : j = i
            · subst e
              omega
            · exact hj j (by omega))
          refine ⟨r, ev_shift ?_, hr1, hr2⟩
          simp only [laws_szPutS.l0]
          refine ev_pos (by omega) (ev_pos (by omega) ?_)
          simp only [rdLPut_nat, hs, Option.bind_some]
          rw [wrap_nat (by omega)]
          exact ev_neg (by omega) e
    obtain ⟨r, e, hr1, hr2⟩ := key l.length 0 (m - (l.length : Int)) (by omega) (by omega) (by omega) (fun j hj => by omega)
    refine ⟨r, ev_neg c e, hr1, fun hr => ⟨by omega, fun x hx2 => ?_⟩⟩
    obtain ⟨j, hj, rfl⟩ := List.mem_iff_getElem.1 hx2
    have := hr2 hr j hj
    simpa [List.getD, hj] using this
theorem letters_cons (x : ByteArray) (l : List ByteArray) : letters (x :: l) = x.size + letters l := rfl
theorem szStringS_l (l : List ByteArray) (hl : l.length ≤ 9223372036854775807) (hx : ∀ x ∈ l, x.size ≤ 9223372036854775807) (d : Nat) : ∀ (i : Nat) (left : Int), i + d = l.length → 0 ≤ left → left ≤ 9223372036854775807 →
    Ev (fun k => laws_szStringS.l0 k l left (i : Int)) (if (letters (l.drop i) : Int) ≤ left then left - letters (l.drop i) else -1) := by
  induction d with
  | zero =>
    intro i left hi h0 h1
    apply ev_shift
    simp only [laws_szStringS.l0]
    refine ev_neg (by omega) (ev_cast (Ev.now _) ?_)
    rw [List.drop_eq_nil_of_le (by omega), show letters [] = 0 from rfl, if_pos (by omega)]
    omega
  | succ d ih =>
    intro i left hi h0 h1
    have hs := hx _ (getD_mem ByteArray.empty l i (by omega))
    apply ev_shift
    simp only [laws_szStringS.l0]
    rw [rdOf_nat, drop_cons ByteArray.empty l i (by omega), letters_cons]
    generalize hz : (l.getD i ByteArray.empty).size = z at hs
    rw [wrap_in (by omega) (by omega)]
    refine ev_pos (by omega) (ev_pos (by omega) ?_)
    by_cases c : left - (z : Int) < 0
    · refine ev_pos c (ev_cast (Ev.now _) ?_)
      rw [if_neg (by omega)]
    · rw [wrap_nat (by omega)]
      refine ev_neg c (ev_cast (ih (i + 1) _ (by omega) (by omega) (by omega)) ?_)
      by_cases c2 : (letters (l.drop (i + 1)) : Int) ≤ left - z
      · rw [if_pos c2, if_pos (by omega)]
        omega
      · rw [if_neg c2, if_neg (by omega)]
theorem szStringS_ev (l : List ByteArray) (hl : l.length ≤ 9223372036854775807) (hx : ∀ x ∈ l, x.size ≤ 9223372036854775807) (left : Int) (h0 : 0 ≤ left) (h1 : left ≤ 9223372036854775807) :
    Ev (fun k => laws_szStringS.f k l left) (leftS l left) := by
  unfold laws_szStringS.f leftS
  rw [wrap_in (by omega) (by omega)]
  by_cases c : left - (l.length : Int) < 0
  · refine ev_pos c (ev_cast (Ev.now _) ?_)
    rw [if_neg (by omega)]
  · refine ev_neg c (ev_cast (szStringS_l l hl hx l.length 0 _ (by omega) (by omega) (by omega)) ?_)
    rw [List.drop_zero]
    by_cases c2 : (l.length : Int) + letters l ≤ left
    · rw [if_pos c2, if_pos (by omega)]
    · rw [if_neg c2, if_neg (by omega)]
theorem szDisk_m (a : List ByteArray) (b : List S111) (m : Int) (h0 : 0 ≤ m) (h1 : m ≤ 1048576) (ha : a.length ≤ maxLen) (hx : ∀ x ∈ a, x.size ≤ maxLen) (hb : b.length ≤ maxLen) (hy : ∀ x ∈ b, x.f1.size ≤ maxLen) :
    ∃ r : Int, Ev (fun k => laws_szDisk.f k a b m) r ∧ r ≤ m ∧ (0 ≤ r → a.length + letters a ≤ 1048576 ∧ b.length ≤ 1048576 ∧ ∀ x ∈ b, x.f1.size ≤ 1048576) := by
  have hm : maxLen ≤ 9223372036854775807 := by decide
  have h1 := szStringS_ev a (by omega) (fun x h => by have := hx x h; omega) m (by omega) (by omega)
  unfold laws_szDisk.f
  unfold leftS at h1
  by_cases c : (a.length : Int) + letters a ≤ m
  · rw [if_pos c] at h1
    obtain ⟨r, er, hr1, hr2⟩ := szPutS_ev b (m - (a.length : Int) - (letters a : Int)) (by omega) (by omega) hb hy
    by_cases c2 : r < 0
    · exact ⟨-1, Ev.bind h1 (ev_neg (by omega) (Ev.bind er (ev_pos c2 (Ev.now _)))), by omega, by omega⟩
    · obtain ⟨h3, h4⟩ := hr2 (by omega)
      refine ⟨r, Ev.bind h1 (ev_neg (by omega) (Ev.bind er (ev_neg c2 (Ev.now _)))), by omega, fun _ => ⟨by omega, by omega, fun x hx2 => ?_⟩⟩
      have := h4 x hx2
      omega
  · rw [if_neg c] at h1
    exact ⟨-1, Ev.bind h1 (ev_pos (by omega) (Ev.now _)), by omega, by omega⟩
theorem szDisk_ev (a : List ByteArray) (b : List S111) (ha : a.length ≤ maxLen) (hx : ∀ x ∈ a, x.size ≤ maxLen) (hb : b.length ≤ maxLen) (hy : ∀ x ∈ b, x.f1.size ≤ maxLen) :
    ∃ r : Int, Ev (fun k => laws_szDisk.f k a b 1048576) r ∧ (0 ≤ r → a.length + letters a ≤ 1048576 ∧ b.length ≤ 1048576 ∧ ∀ x ∈ b, x.f1.size ≤ 1048576) := by
  obtain ⟨r, e, _, h⟩ := szDisk_m a b 1048576 (by omega) (by omega) ha hx hb hy
  exact ⟨r, e, h⟩
theorem copy_step {α : Type} (d : α) (l : List α) (i : Nat) (h : i < l.length) : (l.take i ++ List.replicate (l.length - i) d).set i (l.getD i d) = l.take (i + 1) ++ List.replicate (l.length - (i + 1)) d := by
  have hlen : (l.take i).length = i := by simp; omega
  rw [List.set_append_right _ _ (by omega), hlen, Nat.sub_self]
  obtain ⟨m, hm⟩ : ∃ m, l.length - i = m + 1 := ⟨l.length - i - 1, by omega⟩
  rw [hm, List.replicate_succ, List.set_cons_zero, List.take_succ_eq_append_getElem h, List.append_assoc]
  have : l.length - (i + 1) = m := by omega
  rw [this]
  simp [List.getD, h]
theorem toPutS_ev (l : List S111) (h : l.length ≤ 1048576) : Ev (fun k => laws_toPutS.f k l) (l.map ofLPut) := by
  unfold laws_toPutS.f
  refine ev_pos (by omega) (ev_pos (by omega) ?_)
  have := ev_loop (fun k i => laws_toPutS.l0 k l ((l.map ofLPut).take i ++ List.replicate ((l.map ofLPut).length - i) z65) (i : Int)) (fun _ => l.map ofLPut) l.length ?_ ?_ 0 (Nat.zero_le _)
  · simpa using this
  · simp only [laws_toPutS.l0]
    refine ev_neg (by omega) ?_
    have e1 : (l.map ofLPut).length - l.length = 0 := by rw [List.length_map]; omega
    have e2 : (l.map ofLPut).take l.length = l.map ofLPut := List.take_of_length_le (by rw [List.length_map]; omega)
    rw [e1, e2, List.replicate_zero, List.append_nil]
    exact Ev.now _
  · intro i hi e
    simp only [laws_toPutS.l0, laws_toPut.f]
    refine ev_pos (by omega) (ev_pos (by omega) (ev_some (ev_pos (by simp; omega) ?_)))
    have hi2 : i < (l.map ofLPut).length := by rw [List.length_map]; exact hi
    have hs := copy_step z65 (l.map ofLPut) i hi2
    have hg : (l.map ofLPut).getD i z65 = ⟨(l.getD i z111).f0, (l.getD i z111).f1⟩ := by simp [List.getD, hi, ofLPut]
    rw [hg] at hs
    dsimp only
    simp only [rdLPut_nat]
    rw [wrap_nat (by omega), Int.toNat_natCast, hs]
    exact e
theorem toStringS_ev (l : List ByteArray) (h : l.length ≤ 1099511627776) : Ev (fun k => laws_toStringS.f k l) l := by
  unfold laws_toStringS.f
  refine ev_pos (by omega) (ev_pos (by omega) ?_)
  have := ev_loop (fun k i => laws_toStringS.l0 k l (l.take i ++ List.replicate (l.length - i) (⟨#[]⟩ : ByteArray)) (i : Int)) (fun _ => l) l.length ?_ ?_ 0 (Nat.zero_le _)
  · simpa using this
  · simp only [laws_toStringS.l0]
    refine ev_neg (by omega) (ev_cast (Ev.now _) ?_)
    simp
  · intro i hi e
    simp only [laws_toStringS.l0]
    refine ev_pos (by omega) (ev_pos (by omega) (ev_pos (by simp; omega) ?_))
    rw [wrap_nat (by omega), rdOf_nat, Int.toNat_natCast]
    rw [show (⟨#[]⟩ : ByteArray) = ByteArray.empty from rfl] at e ⊢
    rw [copy_step ByteArray.empty l i hi]
    exact e
theorem toDisk_ev (a : List ByteArray) (b : List S111) (ha : a.length ≤ 1048576) (hb : b.length ≤ 1048576) : Ev (fun k => laws_toDisk.f k a b) (a, b.map ofLPut) := by
  unfold laws_toDisk.f
  exact Ev.bind (toStringS_ev a (by omega)) (Ev.bind (toPutS_ev b hb) (Ev.now _))
theorem FnExactRecover : laws_FnExactRecover.Pure := by
  rintro a b n ⟨ha, hx⟩ ⟨hb, hy⟩ _
  apply Ev.rounds (g := fun k => laws_FnExactRecover.f k a b n)
  unfold laws_FnExactRecover.f
  obtain ⟨r, er, hr⟩ := szDisk_ev a b ha hx hb (fun x h => (hy x h).2)
  refine Ev.bind er ?_
  by_cases c : r < 0
  · exact ev_pos c (Ev.now _)
  obtain ⟨h1, h2, h3⟩ := hr (by omega)
  have ht := toDisk_ev a b (by omega) h2
  have hlm : (b.map ofLPut).length ≤ 1048576 := by rw [List.length_map]; omega
  generalize b.map ofLPut = b' at ht hlm
  have hi := impl_Recover_ev a b' n (by omega) (by omega)
  have hs := spec_Recover_ev a b' n (by omega) (by omega)
  obtain ⟨e1, e2⟩ := recovered_len a b' n
  have hq := eqDisk_refl (recovered a b' n).1 (recovered a b' n).2 (by omega) (by omega)
  have hq2 := eqDisk_refl a b' (by omega) (by omega)
  have hh := heldDisk_ev (recovered a b' n).1.length (recovered a b' n).2.length 1 (by omega) (by omega) (by omega) (by omega)
  refine ev_neg c (ev_shift ?_)
  simp only [laws_FnExactRecover.j0]
  refine Ev.bind ht (Ev.bind hs (Ev.bind ht (Ev.bind hi (Ev.bind hq (ev_pos rfl (ev_shift ?_))))))
  simp only [laws_FnExactRecover.j1]
  refine Ev.bind ht (Ev.bind hq2 (ev_pos rfl (ev_shift ?_)))
  simp only [laws_FnExactRecover.j2]
  refine Ev.bind (markDisk_ev a b' 1 (by omega) (by omega) (by omega) (by omega)) (ev_neg (by omega) (Ev.bind hq (ev_shift ?_)))
  simp only [laws_FnExactRecover.j3]
  refine ev_neg (by simp) (ev_shift ?_)
  simp only [laws_FnExactRecover.j4]
  refine Ev.bind (markDisk_ev _ _ 1 (by omega) (by omega) (by omega) (by omega)) (Ev.bind hh (ev_neg (by omega) (ev_shift ?_)))
  simp only [laws_FnExactRecover.j5]
  refine ev_pos (by first | rfl | trivial) (ev_shift ?_)
  simp only [laws_FnExactRecover.j6]
  refine Ev.bind ht (Ev.bind hi (Ev.bind hq (ev_pos rfl (ev_shift ?_))))
  simp only [laws_FnExactRecover.j7]
  exact Ev.bind hh (ev_neg (by omega) (ev_pos rfl (Ev.now _)))
end Go.Proofs.Ytgmpdkefegofhaa.Pure
