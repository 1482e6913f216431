/- FnExactNames: the law's function of the print answers true for every input within the row's bounds. Conditions: none but the bounds that the row itself gives. -/
import Derived.Test.YtlhlffgeimfcfaaPFnExactNamesx4
import Derived.OpenShut
import Derived.Laws.BitsLemmas
namespace Go.Proofs.Ytlhlffgeimfcfaa.Pure
open Go Go.RowKit Go.Proofs.Ytlhlffgeimfcfaa.PFnExactNames Go.Proofs.YtlhlffgeimfcfaaW.PrintWords Go.Proofs.YtlhlffgeimfcfaaW.PrintLast Go.Proofs.YtlhlffgeimfcfaaW.PrintMore
set_option linter.unusedVariables false
set_option linter.unusedSimpArgs false

theorem ev_shift {α : Type} {g : Nat → Option α} {r : α} (h : Ev (fun k => g (k + 1)) r) : Ev g r := Ev.step (f := fun k => g (k + 1)) (fun _ => rfl) h
theorem ev_unshift {α : Type} {g : Nat → Option α} {r : α} (h : Ev g r) : Ev (fun k => g (k + 1)) r := by
  obtain ⟨K, h⟩ := h
  exact ⟨K, fun k hk => h (k + 1) (by omega)⟩
theorem ev_pos {α : Type} {c : Prop} [Decidable c] {f g : Nat → Option α} {r : α} (h : c) (e : Ev f r) : Ev (fun k => if c then f k else g k) r := by
  simpa only [if_pos h] using e
theorem ev_neg {α : Type} {c : Prop} [Decidable c] {f g : Nat → Option α} {r : α} (h : ¬ c) (e : Ev g r) : Ev (fun k => if c then f k else g k) r := by
  simpa only [if_neg h] using e
theorem ev_eq {α β : Type} {o : Option α} {a : α} {f : Nat → α → Option β} {r : β} (h : o = some a) (e : Ev (fun k => f k a) r) : Ev (fun k => o.bind (f k)) r := by
  subst h
  exact e
theorem ev_some {α β : Type} {a : α} {f : Nat → α → Option β} {r : β} (e : Ev (fun k => f k a) r) : Ev (fun k => (some a).bind (f k)) r := e
theorem ev_cast {α : Type} {g : Nat → Option α} {r r' : α} (h : Ev g r) (e : r = r') : Ev g r' := e ▸ h
theorem ev_loop {ρ : Type} (L : Nat → Nat → Option ρ) (res : Nat → ρ) (n : Nat) (he : Ev (fun k => L (k + 1) n) (res n))
    (hs : ∀ i, i < n → Ev (fun k => L k (i + 1)) (res (i + 1)) → Ev (fun k => L (k + 1) i) (res i)) : ∀ i, i ≤ n → Ev (fun k => L k i) (res i) := by
  have key : ∀ d i, i + d = n → Ev (fun k => L k i) (res i) := by
    intro d
    induction d with
    | zero =>
      intro i h
      obtain rfl : i = n := by omega
      exact ev_shift he
    | succ d ih =>
      intro i h
      exact ev_shift (hs i (by omega) (ih (i + 1) (by omega)))
  intro i h
  exact key (n - i) i (by omega)
theorem wrap_in {x : Int} (h0 : -9223372036854775808 ≤ x) (h1 : x ≤ 9223372036854775807) : wrap64 x = x := by
  unfold wrap64
  omega
theorem wrap_nat {i : Nat} (h : i < 9223372036854775807) : wrap64 ((i : Int) + 1) = ((i + 1 : Nat) : Int) := by
  unfold wrap64
  omega
theorem wrap_up {i : Int} (h0 : 0 ≤ i) (h : i < 9223372036854775807) : wrap64 (i + 1) = i + 1 := by
  unfold wrap64
  omega
theorem rd_nat (xs : List Int) (i : Nat) : rd xs (i : Int) = xs.getD i 0 := by simp [rd]
theorem rdOf_nat {α : Type} (d : α) (xs : List α) (i : Nat) : rdOf d xs (i : Int) = xs.getD i d := by simp [rdOf]
theorem bt_nat (s : ByteArray) (i : Nat) : bt s (i : Int) = (bytesOf s).getD i 0 := by rw [← rd_bytesOf, rd_nat]
theorem drop_cons {α : Type} (d : α) (l : List α) (i : Nat) (h : i < l.length) : l.drop i = l.getD i d :: l.drop (i + 1) := by
  rw [List.drop_eq_getElem_cons h]
  simp [List.getD, h]
theorem getD_mem {α : Type} (d : α) (l : List α) (i : Nat) (h : i < l.length) : l.getD i d ∈ l := by
  simp [List.getD, h]
theorem bytesOf_range (s : ByteArray) : ∀ x ∈ bytesOf s, 0 ≤ x ∧ x ≤ 255 := by
  intro x hx
  simp only [bytesOf, List.mem_map] at hx
  obtain ⟨b, _, rfl⟩ := hx
  have := b.toNat_lt
  omega
theorem bt_lo (s : ByteArray) (i : Int) : 0 ≤ bt s i := (bt_range s i).1
theorem bt_hi (s : ByteArray) (i : Int) : bt s i ≤ 255 := (bt_range s i).2
theorem drop_eq {α : Type} [DecidableEq α] (d : α) (a b : List α) (i : Nat) (ha : i < a.length) (hb : i < b.length) : (a.drop i = b.drop i) ↔ (a.getD i d = b.getD i d ∧ a.drop (i + 1) = b.drop (i + 1)) := by
  rw [drop_cons d a i ha, drop_cons d b i hb]
  simp
theorem mark_step {α : Type} (d : α) (g : Nat → α) (l : List α) (i : Nat) (h : i < l.length) : ((List.range i).map g ++ l.drop i).set i (g i) = (List.range (i + 1)).map g ++ l.drop (i + 1) := by
  have hlen : ((List.range i).map g).length = i := by simp
  rw [List.set_append_right _ _ (by omega), hlen, Nat.sub_self, drop_cons d l i h, List.set_cons_zero, List.range_succ, List.map_append, List.append_assoc]
  rfl
theorem range_getD {α : Type} (d : α) (g : Nat → α) (n i : Nat) (h : i < n) : ((List.range n).map g).getD i d = g i := by
  simp [List.getD, h]
theorem copy_step {α : Type} (d : α) (l : List α) (i : Nat) (h : i < l.length) : (l.take i ++ List.replicate (l.length - i) d).set i (l.getD i d) = l.take (i + 1) ++ List.replicate (l.length - (i + 1)) d := by
  have hlen : (l.take i).length = i := by simp; omega
  rw [List.set_append_right _ _ (by omega), hlen, Nat.sub_self]
  obtain ⟨m, hm⟩ : ∃ m, l.length - i = m + 1 := ⟨l.length - i - 1, by omega⟩
  rw [hm, List.replicate_succ, List.set_cons_zero, List.take_succ_eq_append_getElem h, List.append_assoc]
  have : l.length - (i + 1) = m := by omega
  rw [this]
  simp [List.getD, h]

theorem decide_l1In (a lo hi : Int) : spec_l1In.f a lo hi = some (decide (lo ≤ a ∧ a ≤ hi)) := by
  unfold spec_l1In.f
  by_cases h : a ≥ lo
  · rw [if_pos h]
    congr 1
    rw [decide_eq_decide]
    omega
  · rw [if_neg h]
    congr 1
    symm
    rw [decide_eq_false_iff_not]
    omega

theorem decide_within (a lo hi : Int) : impl_within.f a lo hi = some (decide (lo ≤ a ∧ a ≤ hi)) := by
  unfold impl_within.f
  by_cases h : a ≥ lo
  · rw [if_pos h]
    congr 1
    rw [decide_eq_decide]
    omega
  · rw [if_neg h]
    congr 1
    symm
    rw [decide_eq_false_iff_not]
    omega

theorem toList_inj {a b : ByteArray} : a.toList = b.toList ↔ a = b := by
  constructor
  · intro h
    have h' := h
    rw [ByteArray.toList_eq, ByteArray.toList_eq] at h'
    cases a
    cases b
    simp only [ByteArray.mk.injEq]
    exact Array.toList_inj.mp h'
  · intro h
    rw [h]
theorem eqStringS_ev (a b : List ByteArray) (h : a.length ≤ 140737488351232) : Ev (fun k => laws_eqStringS.f k a b) (decide (a = b)) := by
  unfold laws_eqStringS.f
  by_cases hl : a.length = b.length
  · refine ev_pos (by omega) ?_
    have := ev_loop (fun k i => laws_eqStringS.l0 k a b (i : Int)) (fun i => decide (a.drop i = b.drop i)) a.length ?_ ?_ 0 (Nat.zero_le _)
    · exact this
    · simp only [laws_eqStringS.l0]
      refine ev_neg (by omega) ?_
      refine ev_cast (Ev.now _) ?_
      rw [List.drop_length, hl, List.drop_length]
      simp
    · intro i hi e
      simp only [laws_eqStringS.l0]
      refine ev_pos (by omega) (ev_pos (by omega) (ev_pos (by omega) ?_))
      rw [wrap_nat (by omega), rdOf_nat, rdOf_nat]
      by_cases hc : a.getD i ByteArray.empty = b.getD i ByteArray.empty
      · refine ev_pos (toList_inj.mpr hc) (ev_cast e ?_)
        rw [decide_eq_decide, drop_eq ByteArray.empty a b i hi (by omega)]
        exact ⟨fun z => ⟨hc, z⟩, fun z => z.2⟩
      · refine ev_neg (fun z => hc (toList_inj.mp z)) (ev_cast (Ev.now _) ?_)
        symm
        rw [decide_eq_false_iff_not, drop_eq ByteArray.empty a b i hi (by omega)]
        exact fun z => hc z.1
  · refine ev_neg (by omega) (ev_cast (Ev.now _) ?_)
    symm
    rw [decide_eq_false_iff_not]
    exact fun z => hl (by rw [z])

theorem strOfNums_size (l : List Int) : (strOfNums l).size = l.length := by
  simp [strOfNums, ByteArray.size]
theorem markText_l (n : Nat) : ∀ acc : ByteArray, acc.size + n ≤ 4000000000000000000 → ∃ t, Ev (fun k => laws_markText.l0 k (n : Int) acc) t := by
  induction n using Nat.strongRecOn with
  | _ n ih =>
    intro acc ha
    by_cases h : 0 < n
    · have e1 : wrap64 (Int.tdiv (n : Int) 10) = ((n / 10 : Nat) : Int) := by rw [Int.tdiv_eq_ediv_of_nonneg (by omega), wrap_in (by omega) (by omega)]; omega
      obtain ⟨t, ht⟩ := ih (n / 10) (by omega) (strOfNums [(wrap64 (48 + (Int.tmod (n : Int) 10))) % 256] ++ acc) (by rw [ByteArray.size_append, strOfNums_size]; simp only [List.length_cons, List.length_nil]; omega)
      refine ⟨t, ?_⟩
      apply ev_shift
      simp only [laws_markText.l0]
      refine ev_pos (by omega) (ev_some (ev_pos (by rw [strOfNums_size]; simp only [List.length_cons, List.length_nil]; omega) ?_))
      rw [e1]
      exact ht
    · refine ⟨(⟨#[109]⟩ : ByteArray) ++ acc, ?_⟩
      apply ev_shift
      simp only [laws_markText.l0]
      exact ev_neg (by omega) (ev_pos (by omega) (Ev.now _))
theorem markText_any (m : Int) (h : m ≤ 1000000000000000000) : ∃ t, Ev (fun k => laws_markText.f k m) t := by
  unfold laws_markText.f
  by_cases h0 : m ≤ 0
  · exact ⟨_, ev_pos h0 (Ev.now _)⟩
  · obtain ⟨n, rfl⟩ := Int.eq_ofNat_of_zero_le (show 0 ≤ m by omega)
    obtain ⟨t, ht⟩ := markText_l n (⟨#[]⟩ : ByteArray) (by simp only [ByteArray.size, List.size_toArray, List.length_nil]; omega)
    exact ⟨t, ev_neg h0 ht⟩
noncomputable def markText (m : Int) : ByteArray := if h : m ≤ 1000000000000000000 then Classical.choose (markText_any m h) else ByteArray.empty
theorem markText_ev (m : Int) (h : m ≤ 1000000000000000000) : Ev (fun k => laws_markText.f k m) (markText m) := by
  unfold markText
  rw [dif_pos h]
  exact Classical.choose_spec (markText_any m h)

theorem markStringS_ev (l : List ByteArray) (m : Int) (h : l.length ≤ 140737488351232) (h0 : 0 ≤ m) (h1 : m ≤ 100000000000000000) :
    Ev (fun k => laws_markStringS.f k l m) (m + l.length, (List.range l.length).map fun j : Nat => markText (m + (j : Int))) := by
  unfold laws_markStringS.f
  have := ev_loop (fun k i => laws_markStringS.l0 k ((List.range i).map (fun j : Nat => markText (m + (j : Int))) ++ l.drop i) (m + (i : Int)) (i : Int)) (fun _ => (m + l.length, (List.range l.length).map fun j : Nat => markText (m + (j : Int)))) l.length ?_ ?_ 0 (Nat.zero_le _)
  · simpa using this
  · simp only [laws_markStringS.l0]
    refine ev_neg (by simp) ?_
    simp only [List.drop_length, List.append_nil]
    exact Ev.now _
  · intro i hi e
    simp only [laws_markStringS.l0]
    refine ev_pos (by simp; omega) (Ev.bind (markText_ev _ (by omega)) (ev_pos (by omega) ?_))
    rw [wrap_nat (by omega), Int.toNat_natCast, mark_step ByteArray.empty (fun j : Nat => markText (m + (j : Int))) l i hi, wrap_up (by omega) (by omega)]
    have e1 : m + (i : Int) + 1 = m + ((i + 1 : Nat) : Int) := by omega
    rw [e1]
    exact e
theorem heldStringS_ev (n : Nat) (m : Int) (h : n ≤ 140737488351232) (h0 : 0 ≤ m) (h1 : m ≤ 100000000000000000) :
    Ev (fun k => laws_heldStringS.f k ((List.range n).map fun j : Nat => markText (m + (j : Int))) m) (m + n) := by
  unfold laws_heldStringS.f
  have := ev_loop (fun k i => laws_heldStringS.l0 k ((List.range n).map fun j : Nat => markText (m + (j : Int))) (m + (i : Int)) (i : Int)) (fun _ => m + n) n ?_ ?_ 0 (Nat.zero_le _)
  · simpa using this
  · simp only [laws_heldStringS.l0]
    refine ev_neg (by simp) ?_
    exact Ev.now _
  · intro i hi e
    simp only [laws_heldStringS.l0]
    refine ev_pos (by simp; omega) (ev_pos (by omega) (Ev.bind (markText_ev _ (by omega)) (ev_pos ?_ ?_)))
    · rw [rdOf_nat, range_getD ByteArray.empty _ n i hi]
    · rw [wrap_nat (by omega), wrap_up (by omega) (by omega)]
      have e1 : m + (i : Int) + 1 = m + ((i + 1 : Nat) : Int) := by omega
      rw [e1]
      exact e

def nameCh (c : Int) : Bool := decide (97 ≤ c ∧ c ≤ 122 ∨ 48 ≤ c ∧ c ≤ 57)
def nameOk (s : ByteArray) : Bool := decide (1 ≤ s.size ∧ s.size ≤ 6) && (bytesOf s).all nameCh
theorem all_drop (s : ByteArray) (i : Nat) (h : i < s.size) : ((bytesOf s).drop i).all nameCh = (nameCh (bt s i) && ((bytesOf s).drop (i + 1)).all nameCh) := by
  rw [drop_cons 0 (bytesOf s) i (by rw [bytesOf_length]; exact h), bt_nat]
  rfl
theorem spec_nameOk_l (s : ByteArray) (h : s.size ≤ 140737488351232) : Ev (fun k => spec_NameOk.l0 k s 0) ((bytesOf s).all nameCh) := by
  have := ev_loop (fun k i => spec_NameOk.l0 k s (i : Int)) (fun i => ((bytesOf s).drop i).all nameCh) s.size ?_ ?_ 0 (Nat.zero_le _)
  · exact this
  · simp only [spec_NameOk.l0]
    refine ev_neg (by omega) (ev_cast (Ev.now _) ?_)
    rw [List.drop_eq_nil_of_le (by rw [bytesOf_length]; omega)]
    rfl
  · intro i hi e
    simp only [spec_NameOk.l0]
    rw [wrap_nat (by omega), all_drop s i hi]
    refine ev_pos (by omega) (ev_pos (by omega) ?_)
    by_cases hc : nameCh (bt s i) = true
    · simp only [hc, Bool.true_and]
      have hc' : 97 ≤ bt s i ∧ bt s i ≤ 122 ∨ 48 ≤ bt s i ∧ bt s i ≤ 57 := by simpa [nameCh] using hc
      by_cases h1 : 97 ≤ bt s i
      · exact ev_pos h1 (ev_pos (by omega) e)
      · exact ev_neg h1 (ev_pos (by omega) (ev_pos (by omega) e))
    · have hc' : ¬ (97 ≤ bt s i ∧ bt s i ≤ 122 ∨ 48 ≤ bt s i ∧ bt s i ≤ 57) := by simpa [nameCh] using hc
      simp only [Bool.eq_false_iff.mpr hc, Bool.false_and]
      by_cases h1 : 97 ≤ bt s i
      · refine ev_pos h1 (ev_neg (by omega) (ev_pos (by omega) (ev_neg (by omega) (Ev.now _))))
      · refine ev_neg h1 ?_
        by_cases h2 : 48 ≤ bt s i
        · exact ev_pos h2 (ev_neg (by omega) (Ev.now _))
        · exact ev_neg h2 (Ev.now _)
theorem impl_nameOk_l (s : ByteArray) (h : s.size ≤ 140737488351232) : Ev (fun k => impl_NameOk.l0 k s (s.size : Int) 0) ((bytesOf s).all nameCh) := by
  have := ev_loop (fun k i => impl_NameOk.l0 k s (s.size : Int) (i : Int)) (fun i => ((bytesOf s).drop i).all nameCh) s.size ?_ ?_ 0 (Nat.zero_le _)
  · exact this
  · simp only [impl_NameOk.l0]
    refine ev_neg (by omega) (ev_cast (Ev.now _) ?_)
    rw [List.drop_eq_nil_of_le (by rw [bytesOf_length]; omega)]
    rfl
  · intro i hi e
    simp only [impl_NameOk.l0]
    rw [wrap_nat (by omega), all_drop s i hi]
    refine ev_pos (by omega) (ev_pos (by omega) (ev_pos (by omega) ?_))
    by_cases hc : nameCh (bt s i) = true
    · simp only [hc, Bool.true_and]
      have hc' : 97 ≤ bt s i ∧ bt s i ≤ 122 ∨ 48 ≤ bt s i ∧ bt s i ≤ 57 := by simpa [nameCh] using hc
      by_cases h1 : bt s i < 97
      · exact ev_pos h1 (ev_neg (by omega) (ev_neg (by omega) e))
      · exact ev_neg h1 (ev_neg (by omega) e)
    · have hc' : ¬ (97 ≤ bt s i ∧ bt s i ≤ 122 ∨ 48 ≤ bt s i ∧ bt s i ≤ 57) := by simpa [nameCh] using hc
      simp only [Bool.eq_false_iff.mpr hc, Bool.false_and]
      by_cases h1 : bt s i < 97
      · refine ev_pos h1 ?_
        by_cases h2 : bt s i < 48
        · exact ev_pos h2 (Ev.now _)
        · exact ev_neg h2 (ev_pos (by omega) (Ev.now _))
      · exact ev_neg h1 (ev_pos (by omega) (ev_neg (by omega) (ev_pos (by omega) (Ev.now _))))
theorem spec_NameOk_ev (s : ByteArray) (h : s.size ≤ 140737488351232) : Ev (fun k => spec_NameOk.f k s) (nameOk s) := by
  unfold spec_NameOk.f
  by_cases hs : 1 ≤ s.size ∧ s.size ≤ 6
  · refine ev_eq (a := true) (by unfold spec_l1In.f; rw [if_pos (by omega)]; simp; omega) (ev_pos rfl ?_)
    refine ev_cast (spec_nameOk_l s h) ?_
    simp [nameOk, hs]
  · refine ev_eq (a := false) (by unfold spec_l1In.f; split <;> simp <;> omega) (ev_neg (by simp) (ev_cast (Ev.now _) ?_))
    simp only [nameOk, decide_eq_false hs, Bool.false_and]
theorem impl_NameOk_ev (s : ByteArray) (h : s.size ≤ 140737488351232) : Ev (fun k => impl_NameOk.f k s) (nameOk s) := by
  unfold impl_NameOk.f
  by_cases hs : 1 ≤ s.size ∧ s.size ≤ 6
  · refine ev_eq (a := true) (by unfold impl_within.f; rw [if_pos (by omega)]; simp; omega) (ev_pos rfl ?_)
    refine ev_cast (impl_nameOk_l s h) ?_
    simp [nameOk, hs]
  · refine ev_eq (a := false) (by unfold impl_within.f; split <;> simp <;> omega) (ev_neg (by simp) (ev_cast (Ev.now _) ?_))
    simp only [nameOk, decide_eq_false hs, Bool.false_and]

def partsGo (s : ByteArray) (c : Int) : Nat → Nat → Nat → List ByteArray → List ByteArray
  | 0, frm, i, acc => acc ++ [s.extract frm i]
  | d + 1, frm, i, acc => if bt s (i : Int) = c then partsGo s c d (i + 1) (i + 1) (acc ++ [s.extract frm i]) else partsGo s c d frm (i + 1) acc
def parts (s : ByteArray) (c : Int) : List ByteArray := partsGo s c s.size 0 0 []
theorem spec_parts_l (s : ByteArray) (c : Int) (hs : s.size ≤ 1048576) (d : Nat) : ∀ (frm i : Nat) (acc : List ByteArray), i + d = s.size → frm ≤ i → acc.length ≤ i →
    Ev (fun k => spec_Parts.l0 k s c acc (frm : Int) (i : Int)) (partsGo s c d frm i acc) := by
  induction d with
  | zero =>
    intro frm i acc hi hf ha
    apply ev_shift
    simp only [spec_Parts.l0]
    refine ev_pos (by omega) (ev_pos (by omega) (ev_pos (by omega) (ev_pos (by omega) (ev_pos (by omega) ?_))))
    rw [wrap_nat (by omega), Int.toNat_natCast, Int.toNat_natCast]
    apply ev_shift
    simp only [spec_Parts.l0, partsGo]
    exact ev_neg (by omega) (Ev.now _)
  | succ d ih =>
    intro frm i acc hi hf ha
    apply ev_shift
    simp only [spec_Parts.l0, partsGo]
    refine ev_pos (by omega) (ev_neg (by omega) (ev_pos (by omega) (ev_pos (by omega) ?_)))
    rw [wrap_nat (by omega), Int.toNat_natCast, Int.toNat_natCast]
    by_cases h : bt s (i : Int) = c
    · rw [if_pos h]
      refine ev_pos h (ev_pos (by omega) (ev_pos (by omega) (ev_pos (by omega) ?_)))
      exact ih (i + 1) (i + 1) _ (by omega) (by omega) (by simp; omega)
    · rw [if_neg h]
      exact ev_neg h (ih frm (i + 1) acc (by omega) (by omega) (by omega))
theorem spec_Parts_ev (s : ByteArray) (c : Int) (hs : s.size ≤ 1048576) : Ev (fun k => spec_Parts.f k s c) (parts s c) :=
  spec_parts_l s c hs s.size 0 0 [] (by omega) (by omega) (by simp)
theorem impl_parts_l (s : ByteArray) (c : Int) (hs : s.size ≤ 1048576) (d : Nat) : ∀ (frm i : Nat) (acc : List ByteArray), i + d = s.size → frm ≤ i → acc.length ≤ i →
    Ev (fun k => impl_Parts.l0 k s c acc (frm : Int) (i : Int)) (partsGo s c d frm i acc) := by
  induction d with
  | zero =>
    intro frm i acc hi hf ha
    obtain rfl : i = s.size := by omega
    apply ev_shift
    simp only [impl_Parts.l0, partsGo]
    refine ev_neg (by omega) (ev_pos (by omega) (ev_pos (by omega) (ev_pos (by omega) ?_)))
    rw [Int.toNat_natCast]
    exact Ev.now _
  | succ d ih =>
    intro frm i acc hi hf ha
    apply ev_shift
    simp only [impl_Parts.l0, partsGo]
    refine ev_pos (by omega) (ev_pos (by omega) ?_)
    rw [wrap_nat (by omega), Int.toNat_natCast, Int.toNat_natCast]
    by_cases h : bt s (i : Int) = c
    · rw [if_pos h]
      refine ev_pos h (ev_pos (by omega) (ev_pos (by omega) (ev_pos (by omega) (ev_pos (by omega) ?_))))
      exact ih (i + 1) (i + 1) _ (by omega) (by omega) (by simp; omega)
    · rw [if_neg h]
      exact ev_neg h (ih frm (i + 1) acc (by omega) (by omega) (by omega))
theorem impl_Parts_ev (s : ByteArray) (c : Int) (hs : s.size ≤ 1048576) : Ev (fun k => impl_Parts.f k s c) (parts s c) :=
  impl_parts_l s c hs s.size 0 0 [] (by omega) (by omega) (by simp)
theorem partsGo_length (s : ByteArray) (c : Int) (d : Nat) : ∀ frm i acc, (partsGo s c d frm i acc).length ≤ acc.length + d + 1 := by
  induction d with
  | zero => intro frm i acc; simp [partsGo]
  | succ d ih =>
    intro frm i acc
    rw [partsGo]
    split
    · have := ih (i + 1) (i + 1) (acc ++ [s.extract frm i])
      simp at this
      omega
    · have := ih frm (i + 1) acc
      omega
theorem parts_length (s : ByteArray) (c : Int) : (parts s c).length ≤ s.size + 1 := by
  have := partsGo_length s c s.size 0 0 []
  simp at this
  unfold parts
  omega

theorem partsGo_mem (s : ByteArray) (c : Int) (d : Nat) : ∀ frm i acc, i + d = s.size → (∀ x ∈ acc, x.size ≤ s.size) → ∀ x ∈ partsGo s c d frm i acc, x.size ≤ s.size := by
  have hx : ∀ a b, (s.extract a b).size ≤ s.size := by
    intro a b
    rw [ByteArray.size_extract]
    omega
  induction d with
  | zero =>
    intro frm i acc hi h x hm
    rw [partsGo, List.mem_append] at hm
    rcases hm with hm | hm
    · exact h x hm
    · rw [List.mem_singleton] at hm
      subst hm
      exact hx _ _
  | succ d ih =>
    intro frm i acc hi h x hm
    rw [partsGo] at hm
    split at hm
    · refine ih _ _ _ (by omega) ?_ x hm
      intro y hy
      rw [List.mem_append] at hy
      rcases hy with hy | hy
      · exact h y hy
      · rw [List.mem_singleton] at hy
        subst hy
        exact hx _ _
    · exact ih _ _ _ (by omega) h x hm
theorem parts_mem (s : ByteArray) (c : Int) : ∀ x ∈ parts s c, x.size ≤ s.size := partsGo_mem s c s.size 0 0 [] (by omega) (by simp)
theorem partsGo_pos (s : ByteArray) (c : Int) (d : Nat) : ∀ frm i acc, 0 < (partsGo s c d frm i acc).length := by
  induction d with
  | zero => intro frm i acc; simp [partsGo]
  | succ d ih =>
    intro frm i acc
    rw [partsGo]
    split <;> exact ih _ _ _
theorem parts_pos (s : ByteArray) (c : Int) : 0 < (parts s c).length := partsGo_pos s c s.size 0 0 []
def pathGood (l : List ByteArray) : Bool := decide (2 ≤ (l.length : Int) ∧ (l.length : Int) ≤ 5) && (decide ((l.getD 0 ByteArray.empty).toList = []) && (l.drop 1).all nameOk)
def pathOk (s : ByteArray) : Bool := if s.toList = [47] then true else pathGood (parts s 47)
def namesOf (s : ByteArray) : List ByteArray := if s.toList = [47] then [] else if pathGood (parts s 47) = true then (parts s 47).drop 1 else []
theorem drop_all {l : List ByteArray} {i : Nat} (h : i < l.length) : (l.drop i).all nameOk = (nameOk (l.getD i ByteArray.empty) && (l.drop (i + 1)).all nameOk) := by
  rw [drop_cons ByteArray.empty l i h]
  rfl
theorem namesOf_length (s : ByteArray) : (namesOf s).length ≤ s.size := by
  have hl := parts_length s 47
  unfold namesOf
  split
  · simp
  · split
    · rw [List.length_drop]
      omega
    · simp

theorem spec_pathOk_l (l : List ByteArray) (hl : l.length ≤ 140737488351232) (hx : ∀ x ∈ l, x.size ≤ 140737488351232) (d : Nat) : ∀ i, i + d = l.length → Ev (fun k => spec_PathOk.l0 k l (i : Int)) ((l.drop i).all nameOk) := by
  induction d with
  | zero =>
    intro i hi
    apply ev_shift
    simp only [spec_PathOk.l0]
    refine ev_neg (by omega) (ev_cast (Ev.now _) ?_)
    rw [List.drop_eq_nil_of_le (by omega)]
    rfl
  | succ d ih =>
    intro i hi
    apply ev_shift
    simp only [spec_PathOk.l0]
    refine ev_pos (by omega) (ev_pos (by omega) ?_)
    rw [wrap_nat (by omega), rdOf_nat, drop_all (by omega)]
    refine Ev.bind (spec_NameOk_ev _ (hx _ (getD_mem _ _ _ (by omega)))) ?_
    cases nameOk (l.getD i ByteArray.empty)
    · exact ev_neg (by simp) (ev_cast (Ev.now _) (by simp))
    · exact ev_pos rfl (ev_cast (ih (i + 1) (by omega)) (by simp))
theorem spec_PathOk_ev (s : ByteArray) (hs : s.size ≤ 1048576) : Ev (fun k => spec_PathOk.f k s) (pathOk s) := by
  have hl := parts_length s 47
  have hm := parts_mem s 47
  have hp := parts_pos s 47
  unfold spec_PathOk.f pathOk pathGood
  by_cases c : s.toList = [47]
  · rw [if_pos c]
    exact ev_pos c (Ev.now _)
  · rw [if_neg c]
    refine ev_neg c (Ev.bind (spec_Parts_ev s 47 hs) (ev_eq (decide_l1In _ _ _) ?_))
    have hj : Ev (fun k => spec_PathOk.j0 k (parts s 47) true) false := by
      refine ev_shift ?_
      simp only [spec_PathOk.j0]
      exact ev_pos trivial (Ev.now _)
    by_cases c2 : 2 ≤ ((parts s 47).length : Int) ∧ ((parts s 47).length : Int) ≤ 5
    · rw [decide_eq_true c2]
      refine ev_pos rfl (ev_pos (by omega) ?_)
      rw [show rdOf ByteArray.empty (parts s 47) 0 = (parts s 47).getD 0 ByteArray.empty from rdOf_nat _ _ 0]
      refine ev_shift ?_
      simp only [spec_PathOk.j0]
      by_cases c3 : ((parts s 47).getD 0 ByteArray.empty).toList = []
      · rw [c3]
        refine ev_neg (by simp) (ev_cast (spec_pathOk_l (parts s 47) (by omega) (fun x hx => by have := hm x hx; omega) _ 1 (Nat.add_sub_cancel' (by omega))) ?_)
        simp
      · refine ev_pos (by simpa using c3) (ev_cast (Ev.now _) ?_)
        rw [decide_eq_false c3]
        simp
    · rw [decide_eq_false c2]
      exact ev_neg (by simp) (ev_cast hj (by simp))

theorem spec_l1Copy_eq (l : List ByteArray) (h : l.length < 8796093022208) : spec_l1Copy.f l = some l := by
  unfold spec_l1Copy.f
  simp only [Option.bind_some, List.length_nil, Nat.zero_add, List.nil_append]
  rw [if_pos h]
theorem spec_Names_ev (s : ByteArray) (hs : s.size ≤ 1048576) : Ev (fun k => spec_Names.f k s) (namesOf s) := by
  have hl := parts_length s 47
  have hp := parts_pos s 47
  have hj : Ev (fun k => spec_Names.j0 k s true) [] := by
    refine ev_shift ?_
    simp only [spec_Names.j0]
    exact ev_pos trivial (Ev.now _)
  unfold spec_Names.f namesOf
  refine Ev.bind (spec_PathOk_ev s hs) ?_
  unfold pathOk
  by_cases c : s.toList = [47]
  · rw [if_pos c, if_pos c]
    refine ev_pos rfl (ev_cast ?_ rfl)
    rw [c]
    exact hj
  · rw [if_neg c, if_neg c]
    cases h : pathGood (parts s 47)
    · exact ev_neg (by simp) (ev_cast hj (by simp))
    · refine ev_pos rfl (ev_shift ?_)
      simp only [spec_Names.j0]
      refine ev_neg (by simpa using c) (Ev.bind (spec_Parts_ev s 47 hs) (ev_pos (by omega) (ev_eq (spec_l1Copy_eq _ (by rw [List.length_drop]; omega)) (ev_cast (Ev.now _) ?_))))
      simp

theorem impl_readPath_1_ev (s : ByteArray) (h : s.size ≤ 140737488351232) : Ev (fun k => impl_readPath_1.f k s) (!nameOk s) := by
  unfold impl_readPath_1.f
  exact Ev.bind (impl_NameOk_ev s h) (Ev.now _)
theorem index_readPath (l : List ByteArray) (hl : l.length ≤ 140737488351232) (hx : ∀ x ∈ l, x.size ≤ 140737488351232) (d : Nat) : ∀ i, i + d = l.length →
    ∃ r : Int, Ev (fun k => slices_IndexFunc_string_string_readPath_1.l0 k l (l.length : Int) (i : Int)) r ∧ decide (r ≥ 0) = !(l.drop i).all nameOk := by
  induction d with
  | zero =>
    intro i hi
    refine ⟨-1, ev_shift ?_, ?_⟩
    · simp only [slices_IndexFunc_string_string_readPath_1.l0]
      exact ev_neg (by omega) (Ev.now _)
    · rw [List.drop_eq_nil_of_le (by omega)]
      rfl
  | succ d ih =>
    intro i hi
    have he := impl_readPath_1_ev _ (hx _ (getD_mem ByteArray.empty l i (by omega)))
    rw [drop_all (by omega)]
    cases hn : nameOk (l.getD i ByteArray.empty)
    · refine ⟨i, ev_shift ?_, by simp⟩
      simp only [slices_IndexFunc_string_string_readPath_1.l0]
      refine ev_pos (by omega) (ev_pos (by omega) (ev_pos (by omega) ?_))
      rw [rdOf_nat]
      refine Ev.bind he (ev_pos ?_ (Ev.now _))
      rw [hn]
      rfl
    · obtain ⟨r, e, hr⟩ := ih (i + 1) (by omega)
      refine ⟨r, ev_shift ?_, by rw [hr, Bool.true_and]⟩
      simp only [slices_IndexFunc_string_string_readPath_1.l0]
      refine ev_pos (by omega) (ev_pos (by omega) (ev_pos (by omega) ?_))
      rw [rdOf_nat, wrap_nat (by omega)]
      refine Ev.bind he (ev_neg ?_ e)
      rw [hn]
      simp
theorem contains_readPath (l : List ByteArray) (hl : l.length ≤ 140737488351232) (hx : ∀ x ∈ l, x.size ≤ 140737488351232) : Ev (fun k => slices_ContainsFunc_string_string_readPath_1.f k l) (!l.all nameOk) := by
  unfold slices_ContainsFunc_string_string_readPath_1.f slices_IndexFunc_string_string_readPath_1.f
  obtain ⟨r, e, hr⟩ := index_readPath l hl hx l.length 0 (by omega)
  exact Ev.bind e (ev_cast (Ev.now _) hr)
theorem impl_readPath_ev (s : ByteArray) (hs : s.size ≤ 1048576) : Ev (fun k => impl_readPath.f k s) (namesOf s, pathOk s) := by
  have hl := parts_length s 47
  have hm := parts_mem s 47
  have hp := parts_pos s 47
  have hj : Ev (fun k => impl_readPath.j0 k (parts s 47) true) ([], false) := by
    refine ev_shift ?_
    simp only [impl_readPath.j0]
    exact ev_pos trivial (Ev.now _)
  unfold impl_readPath.f namesOf pathOk
  by_cases c : s.toList = [47]
  · rw [if_pos c, if_pos c]
    exact ev_pos c (Ev.now _)
  · rw [if_neg c, if_neg c]
    refine ev_neg c (Ev.bind (impl_Parts_ev s 47 hs) (ev_pos (by omega) ?_))
    rw [show rdOf ByteArray.empty (parts s 47) 0 = (parts s 47).getD 0 ByteArray.empty from rdOf_nat _ _ 0]
    by_cases c3 : ((parts s 47).getD 0 ByteArray.empty).toList = []
    · refine ev_pos c3 (ev_eq (decide_within _ _ _) ?_)
      by_cases c2 : 2 ≤ ((parts s 47).length : Int) ∧ ((parts s 47).length : Int) ≤ 5
      · rw [decide_eq_true c2]
        refine ev_shift ?_
        simp only [impl_readPath.j0]
        refine ev_neg (by simp) (ev_pos (by omega) (Ev.bind (contains_readPath ((parts s 47).drop 1) (by rw [List.length_drop]; omega) (fun x hx => by have := hm x (List.mem_of_mem_drop hx); omega)) ?_))
        have e : pathGood (parts s 47) = ((parts s 47).drop 1).all nameOk := by
          unfold pathGood
          rw [decide_eq_true c2, decide_eq_true c3, Bool.true_and, Bool.true_and]
        rw [e]
        cases ((parts s 47).drop 1).all nameOk
        · exact ev_pos rfl (ev_cast (Ev.now _) (by simp))
        · exact ev_neg (by simp) (ev_cast (Ev.now _) (by simp))
      · have e : pathGood (parts s 47) = false := by
          unfold pathGood
          rw [decide_eq_false c2, Bool.false_and]
        rw [decide_eq_false c2, e]
        exact ev_cast hj (by simp)
    · have e : pathGood (parts s 47) = false := by
        unfold pathGood
        rw [decide_eq_false c3, Bool.false_and, Bool.and_false]
      rw [e]
      exact ev_neg c3 (ev_cast hj (by simp))

theorem impl_Names_ev (s : ByteArray) (hs : s.size ≤ 1048576) : Ev (fun k => impl_Names.f k s) (namesOf s) := by
  unfold impl_Names.f
  exact Ev.bind (impl_readPath_ev s hs) (Ev.now _)

theorem FnExactNames : laws_FnExactNames.Pure := by
  intro s _
  apply Ev.rounds (g := fun k => laws_FnExactNames.f k s)
  unfold laws_FnExactNames.f
  by_cases h : (s.size : Int) > 1048576
  · exact ev_pos h (Ev.now _)
  · have hs' : s.size ≤ 1048576 := by omega
    have hl := namesOf_length s
    have hh := heldStringS_ev (namesOf s).length 1 (by omega) (by omega) (by omega)
    refine ev_neg h (Ev.bind (spec_Names_ev s hs') (Ev.bind (impl_Names_ev s hs') (Ev.bind (eqStringS_ev _ _ (by omega)) ?_)))
    refine ev_pos (by simp) (Ev.bind (markStringS_ev _ 1 (by omega) (by omega) (by omega)) ?_)
    refine Ev.bind hh (ev_neg (by omega) (ev_pos rfl ?_))
    refine Ev.bind (impl_Names_ev s hs') (Ev.bind (eqStringS_ev _ _ (by omega)) (ev_pos (by simp) ?_))
    exact Ev.bind hh (ev_neg (by omega) (ev_pos rfl (Ev.now _)))

end Go.Proofs.Ytlhlffgeimfcfaa.Pure
