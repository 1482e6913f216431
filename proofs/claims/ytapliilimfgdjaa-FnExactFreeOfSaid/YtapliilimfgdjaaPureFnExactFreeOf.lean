/- FnExactFreeOf: the law's function of the print answers true for every input within the row's bounds. Conditions: none but the bounds that the row itself gives. -/
import Derived.Test.YtapliilimfgdjaaJFnExactFreeOf
import Derived.Test.YtapliilimfgdjaaPFnExactFreeOfx10
import Derived.OpenShut
import Derived.Laws.BitsLemmas
namespace Go.Proofs.Ytapliilimfgdjaa.Pure
open Go Go.RowKit Go.Proofs.Ytapliilimfgdjaa.PFnExactFreeOf Go.Proofs.YtapliilimfgdjaaW.PrintWords Go.Proofs.YtapliilimfgdjaaW.PrintLast Go.Proofs.YtapliilimfgdjaaW.PrintMore Go.Proofs.YtapliilimfgdjaaW.PrintMore
set_option linter.unusedVariables false
set_option linter.unusedSimpArgs false

def dataAt (data : List ByteArray) (l : List Int) (j : Nat) : Prop := (data.getD j ByteArray.empty).size ≤ 16 ∧ (¬ (j : Int) ∈ l → (data.getD j ByteArray.empty).toList = [])
def flat (a : List S40) : List Int := a.flatMap (fun x => x.f4)
def dataAll (a : List S40) (data : List ByteArray) : Prop := ∀ j, 0 ≤ j → j < data.length → dataAt data (flat a) j
def lenAt (s : Int) (k : Nat) : Int := if 16 < s - 16 * (k : Int) then 16 else s - 16 * (k : Int)
def lensAt (data : List ByteArray) (x : S40) : Prop := ∀ j, 0 ≤ j → j < x.f4.length → ((rdOf ByteArray.empty data (x.f4.getD j 0)).size : Int) = lenAt x.f3 j
def lensAll (a : List S40) (data : List ByteArray) : Prop := ∀ i, 0 ≤ i → i < a.length → lensAt data (a.getD i z40)
def bfOf (a : Int) : Int := if a ≤ 0 then 0 else if a > 80 then 5 else wrap64 (Int.tdiv (wrap64 (wrap64 (a + 16) - 1)) 16)
def blGo : List Int → List Int → Bool
  | _, [] => true
  | pre, b :: r => decide (0 ≤ b ∧ b ≤ 35) && (!decide (b ∈ pre) && blGo (pre ++ [b]) r)
def nodeOk (f0 f1 f2 f3 : Int) (bl : List Int) : Bool :=
  if f0 = 0 then decide (f1 = 0) && (decide (f2 = 0) && (decide (f3 = 0) && decide (bl.length = 0)))
  else decide (1 ≤ f0 ∧ f0 ≤ 3) && (decide (0 ≤ f1 ∧ f1 ≤ 1000000) && (decide (0 ≤ f2 ∧ f2 ≤ 100000) && (decide (0 ≤ f3 ∧ f3 ≤ 80) && (decide ((bl.length : Int) = bfOf f3) && (!decide (f0 = 2 ∧ ¬ (f1 = 0 ∧ f2 = 0)) && blGo [] bl)))))
def nOk (x : S40) : Bool := nodeOk x.f0 x.f1 x.f2 x.f3 x.f4
def nodesAll (a : List S40) : Prop := ∀ i, 0 ≤ i → i < a.length → nOk (a.getD i z40) = true
def ownOk (D : Nat) (l : List Int) : Prop := (∀ b ∈ l, b < (D : Int)) ∧ l.Nodup
def Shape (a : List S40) (data : List ByteArray) : Prop := (2 ≤ (a.length : Int) ∧ (a.length : Int) ≤ 10) ∧ (1 ≤ (data.length : Int) ∧ (data.length : Int) ≤ 36) ∧ (a.getD 0 z40).f0 = 2 ∧ nodesAll a ∧ ownOk data.length (flat a) ∧ dataAll a data ∧ lensAll a data
/-- A run that answers with the truth of a proposition. -/
def Says (F : Nat → Option Bool) (P : Prop) : Prop := ∃ b, Ev F b ∧ (b = true ↔ P)
theorem getD_mem {α : Type} (d : α) (l : List α) (i : Nat) (h : i < l.length) : l.getD i d ∈ l := by
  simp [List.getD, h]
theorem all_from (a : List S40) (p : S40 → Prop) : (∀ j, 0 ≤ j → j < a.length → p (a.getD j z40)) ↔ ∀ x ∈ a, p x := by
  constructor
  · intro h x hx
    obtain ⟨j, hj, rfl⟩ := List.mem_iff_getElem.1 hx
    have := h j (Nat.zero_le _) hj
    simpa [List.getD, hj] using this
  · intro h j _ hj
    exact h _ (getD_mem z40 a j hj)
theorem decide_within (a lo hi : Int) : impl_within.f a lo hi = some (decide (lo ≤ a ∧ a ≤ hi)) := by
  unfold impl_within.f
  by_cases h : a ≥ lo
  · rw [if_pos h]
    congr 1
    rw [decide_eq_decide]
    omega
  · rw [if_neg h]
    congr 1
    symm
    rw [decide_eq_false_iff_not]
    omega
theorem flat_count (a : List S40) (n : Nat) (h : ∀ x ∈ a, x.f4.length ≤ n) : (flat a).length ≤ a.length * n := by
  induction a with
  | nil => simp [flat]
  | cons x r ih =>
    have h1 := h x (List.mem_cons_self)
    have h2 := ih (fun y hy => h y (List.mem_cons_of_mem _ hy))
    have e : (flat (x :: r)).length = x.f4.length + (flat r).length := by simp [flat]
    rw [e, List.length_cons, Nat.add_mul]
    omega
theorem wrap_in {x : Int} (h0 : -9223372036854775808 ≤ x) (h1 : x ≤ 9223372036854775807) : wrap64 x = x := by
  unfold wrap64
  omega
theorem bfOf_le (a : Int) (h : a ≤ 80) : bfOf a ≤ 5 := by
  unfold bfOf
  split
  · omega
  · split
    · omega
    · rw [wrap_in (x := a + 16) (by omega) (by omega), wrap_in (x := a + 16 - 1) (by omega) (by omega), Int.tdiv_eq_ediv_of_nonneg (by omega), wrap_in (by omega) (by omega)]
      omega
theorem blGo_pos : ∀ (l pre : List Int), blGo pre l = true → ∀ b ∈ l, 0 ≤ b := by
  intro l
  induction l with
  | nil =>
    intro pre _ b hb
    simp at hb
  | cons x r ih =>
    intro pre h b hb
    simp only [blGo, Bool.and_eq_true, decide_eq_true_eq] at h
    rcases List.mem_cons.1 hb with rfl | hb
    · exact h.1.1
    · exact ih _ h.2.2 b hb
theorem nOk_facts (x : S40) (h : nOk x = true) : x.f4.length ≤ 5 ∧ 0 ≤ x.f3 ∧ x.f3 ≤ 80 ∧ ∀ b ∈ x.f4, 0 ≤ b := by
  unfold nOk nodeOk at h
  split at h
  · simp only [Bool.and_eq_true, decide_eq_true_eq] at h
    refine ⟨by omega, by omega, by omega, fun b hb => ?_⟩
    rw [List.length_eq_zero_iff.1 h.2.2.2] at hb
    simp at hb
  · simp only [Bool.and_eq_true, decide_eq_true_eq] at h
    have := bfOf_le x.f3 h.2.2.2.1.2
    exact ⟨by omega, h.2.2.2.1.1, h.2.2.2.1.2, blGo_pos _ _ h.2.2.2.2.2.2⟩
theorem flat_facts (a : List S40) (ha : a.length ≤ 10) (h : ∀ x ∈ a, nOk x = true) : (flat a).length ≤ 50 ∧ ∀ b ∈ flat a, 0 ≤ b := by
  have h1 := flat_count a 5 (fun x hx => (nOk_facts x (h x hx)).1)
  refine ⟨by omega, fun b hb => ?_⟩
  obtain ⟨x, hx, hb⟩ := List.mem_flatMap.1 hb
  exact (nOk_facts x (h x hx)).2.2.2 b hb
theorem says_no {P : Prop} (h : ¬ P) : Says (fun _ => some false) P := ⟨false, Ev.now _, by simp [h]⟩
theorem ev_pos {α : Type} {c : Prop} [Decidable c] {f g : Nat → Option α} {r : α} (h : c) (e : Ev f r) : Ev (fun k => if c then f k else g k) r := by
  simpa only [if_pos h] using e
theorem says_pos {c : Prop} [Decidable c] {f g : Nat → Option Bool} {P : Prop} (h : c) (s : Says f P) : Says (fun k => if c then f k else g k) P := by
  obtain ⟨b, e, h2⟩ := s
  exact ⟨b, ev_pos h e, h2⟩
theorem ev_shift {α : Type} {g : Nat → Option α} {r : α} (h : Ev (fun k => g (k + 1)) r) : Ev g r := Ev.step (f := fun k => g (k + 1)) (fun _ => rfl) h
theorem says_shift {F : Nat → Option Bool} {P : Prop} (h : Says (fun k => F (k + 1)) P) : Says F P := by
  obtain ⟨b, e, h⟩ := h
  exact ⟨b, ev_shift e, h⟩
theorem impl_ShapeOk_no (a : List S40) (data : List ByteArray) {P : Prop} (h : ¬ P) : Says (fun k => impl_ShapeOk.j0 k true a data) P := by
  apply says_shift
  simp only [impl_ShapeOk.j0]
  exact says_pos trivial (says_no h)
theorem ev_neg {α : Type} {c : Prop} [Decidable c] {f g : Nat → Option α} {r : α} (h : ¬ c) (e : Ev g r) : Ev (fun k => if c then f k else g k) r := by
  simpa only [if_neg h] using e
theorem from_step {A : Nat → Prop} {i n : Nat} (h : i < n) : (∀ j, i ≤ j → j < n → A j) ↔ A i ∧ ∀ j, i + 1 ≤ j → j < n → A j :=
  ⟨fun z => ⟨z i (Nat.le_refl _) h, fun j h1 h2 => z j (by omega) h2⟩, fun z j h1 h2 => by
    by_cases e : j = i
    · rw [e]
      exact z.1
    · exact z.2 j (by omega) h2⟩
theorem ev_cast {α : Type} {g : Nat → Option α} {r r' : α} (h : Ev g r) (e : r = r') : Ev g r' := e ▸ h
theorem ev_eq {α β : Type} {o : Option α} {a : α} {f : Nat → α → Option β} {r : β} (h : o = some a) (e : Ev (fun k => f k a) r) : Ev (fun k => o.bind (f k)) r := by
  subst h
  exact e
theorem drop_cons {α : Type} (d : α) (l : List α) (i : Nat) (h : i < l.length) : l.drop i = l.getD i d :: l.drop (i + 1) := by
  rw [List.drop_eq_getElem_cons h]
  simp [List.getD, h]
theorem rd_nat (xs : List Int) (i : Nat) : rd xs (i : Int) = xs.getD i 0 := by simp [rd]
theorem wrap_nat {i : Nat} (h : i < 9223372036854775807) : wrap64 ((i : Int) + 1) = ((i + 1 : Nat) : Int) := by
  unfold wrap64
  omega
theorem index_int (l : List Int) (b : Int) (h : l.length ≤ 1099511627776) : ∃ r : Int, Ev (fun k => slices_Index_int_int.f k l b) r ∧ (r ≥ 0 ↔ b ∈ l) := by
  unfold slices_Index_int_int.f
  have key : ∀ (d i : Nat), i + d = l.length → ∃ r : Int, Ev (fun k => slices_Index_int_int.l0 k l b (l.length : Int) (i : Int)) r ∧ (r ≥ 0 ↔ b ∈ l.drop i) := by
    intro d
    induction d with
    | zero =>
      intro i hi
      refine ⟨-1, ev_shift ?_, ?_⟩
      · simp only [slices_Index_int_int.l0]
        exact ev_neg (by omega) (Ev.now _)
      · rw [List.drop_eq_nil_of_le (by omega)]
        simp
    | succ d ih =>
      intro i hi
      by_cases hc : b = l.getD i 0
      · refine ⟨i, ev_shift ?_, ?_⟩
        · simp only [slices_Index_int_int.l0]
          refine ev_pos (by omega) (ev_pos (by omega) (ev_pos (by omega) ?_))
          rw [rd_nat]
          exact ev_pos hc (Ev.now _)
        · rw [drop_cons 0 l i (by omega), ← hc]
          simp
      · obtain ⟨r, e, hr⟩ := ih (i + 1) (by omega)
        refine ⟨r, ev_shift ?_, ?_⟩
        · simp only [slices_Index_int_int.l0]
          refine ev_pos (by omega) (ev_pos (by omega) (ev_pos (by omega) ?_))
          rw [rd_nat, wrap_nat (by omega)]
          exact ev_neg hc e
        · rw [hr, drop_cons 0 l i (by omega), List.mem_cons]
          exact ⟨fun z => .inr z, fun z => z.resolve_left hc⟩
  obtain ⟨r, e, hr⟩ := key l.length 0 (by omega)
  exact ⟨r, e, hr⟩
theorem contains_int (l : List Int) (b : Int) (h : l.length ≤ 1099511627776) : Ev (fun k => slices_Contains_int_int.f k l b) (decide (b ∈ l)) := by
  unfold slices_Contains_int_int.f
  obtain ⟨r, e, hr⟩ := index_int l b h
  refine Ev.bind e (ev_cast (Ev.now _) ?_)
  rw [decide_eq_decide]
  exact hr
theorem ev_loop {ρ : Type} (L : Nat → Nat → Option ρ) (res : Nat → ρ) (n : Nat) (he : Ev (fun k => L (k + 1) n) (res n))
    (hs : ∀ i, i < n → Ev (fun k => L k (i + 1)) (res (i + 1)) → Ev (fun k => L (k + 1) i) (res i)) : ∀ i, i ≤ n → Ev (fun k => L k i) (res i) := by
  have key : ∀ d i, i + d = n → Ev (fun k => L k i) (res i) := by
    intro d
    induction d with
    | zero =>
      intro i h
      obtain rfl : i = n := by omega
      exact ev_shift he
    | succ d ih =>
      intro i h
      exact ev_shift (hs i (by omega) (ih (i + 1) (by omega)))
  intro i h
  exact key (n - i) i (by omega)
theorem take_snoc {α : Type} (d : α) (l : List α) (i : Nat) (h : i < l.length) : l.take (i + 1) = l.take i ++ [l.getD i d] := by
  rw [List.take_succ_eq_append_getElem h]
  simp [List.getD, h]
theorem impl_NodeOk_l (f0 f1 f2 f3 : Int) (bl : List Int) (h : bl.length ≤ 1099511627776) : Ev (fun k => impl_NodeOk.l0 k bl (bl.length : Int) 0 f0 f1 f2 f3 bl) (blGo [] bl) := by
  have := ev_loop (fun k i => impl_NodeOk.l0 k bl (bl.length : Int) (i : Int) f0 f1 f2 f3 bl) (fun i => blGo (bl.take i) (bl.drop i)) bl.length ?_ ?_ 0 (Nat.zero_le _)
  · simpa using this
  · simp only [impl_NodeOk.l0]
    refine ev_neg (by omega) (ev_cast (Ev.now _) ?_)
    rw [List.drop_length]
    rfl
  · intro i hi e
    simp only [impl_NodeOk.l0]
    refine ev_pos (by omega) (ev_pos (by omega) (ev_pos (by omega) ?_))
    rw [wrap_nat (by omega), rd_nat, Int.toNat_natCast, drop_cons 0 bl i hi, blGo]
    refine ev_eq (decide_within _ _ _) ?_
    by_cases c : 0 ≤ bl.getD i 0 ∧ bl.getD i 0 ≤ 35
    · rw [decide_eq_true c]
      refine ev_pos rfl (ev_pos (by omega) (Ev.bind (contains_int _ _ (by rw [List.length_take]; omega)) ?_))
      by_cases c2 : bl.getD i 0 ∈ bl.take i
      · rw [decide_eq_true c2]
        exact ev_pos rfl (ev_cast (Ev.now _) (by simp))
      · rw [decide_eq_false c2]
        refine ev_neg (by simp) (ev_cast e ?_)
        rw [take_snoc 0 bl i hi]
        simp
    · rw [decide_eq_false c]
      exact ev_neg (by simp) (ev_cast (Ev.now _) (by simp))
theorem impl_NodeOk_j1 (b : Bool) (f0 f1 f2 f3 : Int) (bl : List Int) (h : bl.length ≤ 1099511627776) : Ev (fun k => impl_NodeOk.j1 k b f0 f1 f2 f3 bl) (!b && blGo [] bl) := by
  refine ev_shift ?_
  simp only [impl_NodeOk.j1]
  cases b
  · exact ev_neg (by simp) (ev_cast (impl_NodeOk_l f0 f1 f2 f3 bl h) (by simp))
  · exact ev_pos rfl (ev_cast (Ev.now _) (by simp))
theorem impl_bf (a : Int) : impl_BlocksFor.f a = some (bfOf a) := by
  unfold impl_BlocksFor.f bfOf
  by_cases h0 : a ≤ 0
  · rw [if_pos h0, if_pos h0]
  · rw [if_neg h0, if_neg h0]
    by_cases h1 : a > 80
    · rw [if_pos h1, if_pos h1]
    · rw [if_neg h1, if_neg h1]
theorem impl_NodeOk_j0 (b : Bool) (f0 f1 f2 f3 : Int) (bl : List Int) (h : bl.length ≤ 1099511627776) : Ev (fun k => impl_NodeOk.j0 k b f0 f1 f2 f3 bl) (!b && (decide ((bl.length : Int) = bfOf f3) && (!decide (f0 = 2 ∧ ¬ (f1 = 0 ∧ f2 = 0)) && blGo [] bl))) := by
  have hf : (!((bl.length : Int) != bfOf f3)) = decide ((bl.length : Int) = bfOf f3) := by
    by_cases c5 : (bl.length : Int) = bfOf f3 <;> simp [c5]
  refine ev_shift ?_
  simp only [impl_NodeOk.j0]
  cases b
  · refine ev_neg (by simp) ?_
    by_cases c : f0 = 2
    · refine ev_pos c ?_
      by_cases c1 : f1 = 0
      · refine ev_pos c1 ?_
        by_cases c2 : f2 = 0
        · refine ev_pos c2 (ev_eq (impl_bf _) (ev_cast (impl_NodeOk_j1 _ f0 f1 f2 f3 bl h) ?_))
          rw [hf]
          simp [c1, c2]
        · refine ev_neg c2 (ev_cast (impl_NodeOk_j1 _ f0 f1 f2 f3 bl h) ?_)
          simp [c, c1, c2]
      · refine ev_neg c1 (ev_cast (impl_NodeOk_j1 _ f0 f1 f2 f3 bl h) ?_)
        simp [c, c1]
    · refine ev_neg c (ev_eq (impl_bf _) (ev_cast (impl_NodeOk_j1 _ f0 f1 f2 f3 bl h) ?_))
      rw [hf]
      simp [c]
  · exact ev_pos rfl (ev_cast (Ev.now _) (by simp))
theorem impl_NodeOk_ev (f0 f1 f2 f3 : Int) (bl : List Int) (h : bl.length ≤ 1099511627776) : Ev (fun k => impl_NodeOk.f k f0 f1 f2 f3 bl) (nodeOk f0 f1 f2 f3 bl) := by
  have hj := impl_NodeOk_j0 true f0 f1 f2 f3 bl h
  unfold impl_NodeOk.f nodeOk
  by_cases c0 : f0 = 0
  · rw [if_pos c0]
    refine ev_pos c0 ?_
    by_cases c1 : f1 = 0
    · refine ev_pos c1 ?_
      by_cases c2 : f2 = 0
      · refine ev_pos c2 ?_
        by_cases c3 : f3 = 0
        · refine ev_pos c3 (ev_cast (Ev.now _) ?_)
          rw [decide_eq_true c1, decide_eq_true c2, decide_eq_true c3]
          cases bl <;> simp <;> omega
        · exact ev_neg c3 (ev_cast (Ev.now _) (by simp [c3]))
      · exact ev_neg c2 (ev_cast (Ev.now _) (by simp [c2]))
    · exact ev_neg c1 (ev_cast (Ev.now _) (by simp [c1]))
  · rw [if_neg c0]
    refine ev_neg c0 (ev_eq (decide_within _ _ _) ?_)
    by_cases c1 : 1 ≤ f0 ∧ f0 ≤ 3
    · rw [decide_eq_true c1]
      refine ev_pos rfl (ev_eq (decide_within _ _ _) ?_)
      by_cases c2 : 0 ≤ f1 ∧ f1 ≤ 1000000
      · rw [decide_eq_true c2]
        refine ev_pos rfl (ev_eq (decide_within _ _ _) ?_)
        by_cases c3 : 0 ≤ f2 ∧ f2 ≤ 100000
        · rw [decide_eq_true c3]
          refine ev_pos rfl (ev_eq (decide_within _ _ _) ?_)
          refine ev_cast (impl_NodeOk_j0 _ f0 f1 f2 f3 bl h) ?_
          rw [Bool.not_not]
          simp only [Bool.true_and]
        · rw [decide_eq_false c3]
          exact ev_neg (by simp) (ev_cast hj (by simp))
      · rw [decide_eq_false c2]
        exact ev_neg (by simp) (ev_cast hj (by simp))
    · rw [decide_eq_false c1]
      exact ev_neg (by simp) (ev_cast hj (by simp))
theorem rdNode_nat (xs : List S40) (i : Nat) : rd_T40 xs (i : Int) = xs.getD i z40 := by simp [rd_T40]
theorem impl_contains_says (a : List S40) (ha : a.length ≤ 10) (hx : ∀ x ∈ a, x.f4.length ≤ 1048576) : Says (fun k => slices_ContainsFunc_ShapeOk_1.f k a) (¬ nodesAll a) := by
  have key : ∀ d i, i + d = a.length → ∃ r : Int, Ev (fun k => slices_IndexFunc_ShapeOk_1.l0 k a (a.length : Int) (i : Int)) r ∧ (0 ≤ r ↔ ¬ ∀ i', i ≤ i' → i' < a.length → nOk (a.getD i' z40) = true) := by
    intro d
    induction d with
    | zero =>
      intro i hi
      refine ⟨-1, ev_shift ?_, ⟨fun h => by omega, fun h => absurd (fun i' h1 h2 => by omega) h⟩⟩
      simp only [slices_IndexFunc_ShapeOk_1.l0]
      exact ev_neg (by omega) (Ev.now _)
    | succ d ih =>
      intro i hi
      have hm := hx _ (getD_mem z40 a i (by omega))
      have hn := impl_NodeOk_ev (a.getD i z40).f0 (a.getD i z40).f1 (a.getD i z40).f2 (a.getD i z40).f3 (a.getD i z40).f4 (by omega)
      have h1 : Ev (fun k => impl_ShapeOk_1.f k (a.getD i z40).f0 (a.getD i z40).f1 (a.getD i z40).f2 (a.getD i z40).f3 (a.getD i z40).f4) (!nOk (a.getD i z40)) := by
        unfold impl_ShapeOk_1.f
        exact Ev.bind hn (Ev.now _)
      by_cases c : nOk (a.getD i z40) = true
      · obtain ⟨r, e, h⟩ := ih (i + 1) (by omega)
        refine ⟨r, ev_shift ?_, by rw [h, from_step (show i < a.length by omega)]; exact ⟨fun z y => z y.2, fun z y => z ⟨c, y⟩⟩⟩
        simp only [slices_IndexFunc_ShapeOk_1.l0, rdNode_nat]
        rw [wrap_nat (by omega)]
        exact ev_pos (by omega) (ev_pos (by omega) (ev_pos (by omega) (Ev.bind h1 (ev_neg (by rw [c]; decide) e))))
      · refine ⟨(i : Int), ev_shift ?_, ⟨fun _ z => c (z i (Nat.le_refl _) (by omega)), fun _ => by omega⟩⟩
        simp only [slices_IndexFunc_ShapeOk_1.l0, rdNode_nat]
        exact ev_pos (by omega) (ev_pos (by omega) (ev_pos (by omega) (Ev.bind h1 (ev_pos (by rw [Bool.eq_false_iff.2 c]; rfl) (Ev.now _)))))
  obtain ⟨r, e, h⟩ := key a.length 0 (Nat.zero_add _)
  unfold slices_ContainsFunc_ShapeOk_1.f slices_IndexFunc_ShapeOk_1.f
  exact ⟨decide (r ≥ 0), Ev.bind e (Ev.now _), by rw [decide_eq_true_eq]; exact h⟩
theorem from_end {A : Nat → Prop} {n : Nat} {Q : Prop} (h : Q) : (∀ j, n ≤ j → j < n → A j) ∧ Q := ⟨fun j h1 h2 => by omega, h⟩
theorem from_end_iff {A : Nat → Prop} {n : Nat} {Q : Prop} : Q ↔ ((∀ j, n ≤ j → j < n → A j) ∧ Q) := ⟨fun h => from_end h, fun h => h.2⟩
theorem flat_drop (a : List S40) (i : Nat) (h : i < a.length) : flat (a.drop i) = (a.getD i z40).f4 ++ flat (a.drop (i + 1)) := by
  rw [drop_cons z40 a i h]
  simp [flat]
theorem flat_split (a : List S40) (i : Nat) : flat a = flat (a.take i) ++ flat (a.drop i) := by
  unfold flat
  rw [← List.flatMap_append, List.take_append_drop]
theorem flat_mem (a : List S40) (i : Nat) (hi : i < a.length) (b : Int) (hb : b ∈ (a.getD i z40).f4) : b ∈ flat a := by
  rw [flat_split a i, flat_drop a i hi]
  exact List.mem_append_right _ (List.mem_append_left _ hb)
theorem says_neg {c : Prop} [Decidable c] {f g : Nat → Option Bool} {P : Prop} (h : ¬ c) (s : Says g P) : Says (fun k => if c then f k else g k) P := by
  obtain ⟨b, e, h2⟩ := s
  exact ⟨b, ev_neg h e, h2⟩
theorem says_if {c : Prop} [Decidable c] {f g : Nat → Option Bool} {P : Prop} (h1 : c → Says f P) (h2 : ¬ c → Says g P) : Says (fun k => if c then f k else g k) P := by
  by_cases h : c
  · exact says_pos h (h1 h)
  · exact says_neg h (h2 h)
theorem says_iff {F : Nat → Option Bool} {P Q : Prop} (s : Says F P) (h : P ↔ Q) : Says F Q := by
  obtain ⟨b, e, h2⟩ := s
  exact ⟨b, e, h2.trans h⟩
theorem says_loop (L : Nat → Nat → Option Bool) (P : Nat → Prop) (n : Nat) (he : Says (fun k => L (k + 1) n) (P n))
    (hs : ∀ i, i < n → Says (fun k => L k (i + 1)) (P (i + 1)) → Says (fun k => L (k + 1) i) (P i)) : ∀ i, i ≤ n → Says (fun k => L k i) (P i) := by
  have key : ∀ d i, i + d = n → Says (fun k => L k i) (P i) := by
    intro d
    induction d with
    | zero =>
      intro i h
      obtain rfl : i = n := by omega
      exact says_shift he
    | succ d ih =>
      intro i h
      exact says_shift (hs i (by omega) (ih (i + 1) (by omega)))
  intro i h
  exact key (n - i) i (by omega)
theorem impl_l2_says (a : List S40) (data : List ByteArray) (i : Nat) (hi : i < a.length) (ha : a.length ≤ 10) (hn : nOk (a.getD i z40) = true) (hr : ∀ b ∈ flat a, b < (data.length : Int)) (Q : Prop)
    (s : Says (fun k => impl_ShapeOk.l1 k a (a.length : Int) ((i + 1 : Nat) : Int) a data) Q) :
    Says (fun k => impl_ShapeOk.l2 k (a.getD i z40).f3 a (a.length : Int) (i : Int) (a.getD i z40).f4 ((a.getD i z40).f4.length : Int) 0 a data) (lensAt data (a.getD i z40) ∧ Q) := by
  obtain ⟨f1, f2, f3, f4⟩ := nOk_facts _ hn
  have f5 := fun b hb => hr b (flat_mem a i hi b hb)
  unfold lensAt
  generalize (a.getD i z40).f4 = bl at f1 f4 f5
  generalize (a.getD i z40).f3 = t at f2 f3
  have := says_loop (fun k j => impl_ShapeOk.l2 k (t - 16 * (j : Int)) a (a.length : Int) (i : Int) bl (bl.length : Int) (j : Int) a data) (fun j => (∀ j', j ≤ j' → j' < bl.length → ((rdOf ByteArray.empty data (bl.getD j' 0)).size : Int) = lenAt t j') ∧ Q) bl.length ?_ ?_ 0 (Nat.zero_le _)
  · simpa using this
  · simp only [impl_ShapeOk.l2]
    rw [wrap_nat (i := i) (by omega)]
    exact says_neg (by omega) (says_iff s from_end_iff)
  · intro j hj ih
    simp only [impl_ShapeOk.l2, rd_nat]
    have hm := getD_mem 0 bl j hj
    refine says_pos (by omega) (says_pos (by omega) (says_pos (by omega) (says_pos (f4 _ hm) (says_pos (f5 _ hm) (says_if (fun c => ?_) (fun c => ?_))))))
    · rw [wrap_in (x := t - 16 * (j : Int) - 16) (by omega) (by omega), show t - 16 * (j : Int) - 16 = t - 16 * ((j + 1 : Nat) : Int) by omega, wrap_nat (by omega)]
      refine says_iff ih ?_
      rw [from_step hj]
      exact ⟨fun z => ⟨⟨c, z.1⟩, z.2⟩, fun z => ⟨z.1.2, z.2⟩⟩
    · exact says_no (fun z => c (z.1 j (Nat.le_refl _) hj))
theorem says_yes {P : Prop} (h : P) : Says (fun _ => some true) P := ⟨true, Ev.now _, by simp [h]⟩
theorem impl_l1_says (a : List S40) (data : List ByteArray) (ha : a.length ≤ 10) (hn : ∀ x ∈ a, nOk x = true) (hr : ∀ b ∈ flat a, b < (data.length : Int)) : Says (fun k => impl_ShapeOk.l1 k a (a.length : Int) 0 a data) (lensAll a data) := by
  have := says_loop (fun k i => impl_ShapeOk.l1 k a (a.length : Int) (i : Int) a data) (fun i => ∀ i', i ≤ i' → i' < a.length → lensAt data (a.getD i' z40)) a.length ?_ ?_ 0 (Nat.zero_le _)
  · exact this
  · simp only [impl_ShapeOk.l1]
    exact says_neg (by omega) (says_yes (fun j h1 h2 => by omega))
  · intro i hi ih
    simp only [impl_ShapeOk.l1, rdNode_nat]
    refine says_pos (by omega) (says_pos (by omega) (says_pos (by omega) (says_iff (impl_l2_says a data i hi ha (hn _ (getD_mem z40 a i hi)) hr _ ih) ?_)))
    rw [from_step hi]
/-- What owners holds behind so many blocks. -/
def ownInv (D : Nat) (l o : List Int) : Prop := o.length = D ∧ (∀ b ∈ l, 0 ≤ b ∧ b < (D : Int)) ∧ l.Nodup ∧ ∀ j : Nat, j < D → (0 ≤ o.getD j 0 ↔ (j : Int) ∈ l)
theorem rdOf_nat {α : Type} (d : α) (xs : List α) (i : Nat) : rdOf d xs (i : Int) = xs.getD i d := by simp [rdOf]
theorem impl_l0_says (a : List S40) (data : List ByteArray) (o : List Int) (ha : a.length ≤ 10) (hd : data.length ≤ 36) (hn : ∀ x ∈ a, nOk x = true) (ho : ownInv data.length (flat a) o) : Says (fun k => impl_ShapeOk.l0 k o data (data.length : Int) 0 a data) (dataAll a data ∧ lensAll a data) := by
  have hq := impl_l1_says a data ha hn (fun b hb => (ho.2.1 b hb).2)
  have := says_loop (fun k j => impl_ShapeOk.l0 k o data (data.length : Int) (j : Int) a data) (fun j => (∀ j', j ≤ j' → j' < data.length → dataAt data (flat a) j') ∧ lensAll a data) data.length ?_ ?_ 0 (Nat.zero_le _)
  · exact this
  · simp only [impl_ShapeOk.l0]
    exact says_neg (by omega) (says_iff hq from_end_iff)
  · intro j hj ih
    have hm := ho.2.2.2 j hj
    have hl := ho.1
    simp only [impl_ShapeOk.l0, rdOf_nat, rd_nat]
    rw [wrap_nat (by omega)]
    have go : dataAt data (flat a) j → Says (fun k => impl_ShapeOk.l0 k o data (data.length : Int) ((j + 1 : Nat) : Int) a data) ((∀ j', j ≤ j' → j' < data.length → dataAt data (flat a) j') ∧ lensAll a data) := fun h => says_iff ih (by
      rw [from_step hj]
      exact ⟨fun z => ⟨⟨h, z.1⟩, z.2⟩, fun z => ⟨z.1.2, z.2⟩⟩)
    refine says_pos (by omega) (says_pos (by omega) (says_pos (by omega) (says_if (fun c => says_no (fun z => ?_)) (fun c => says_pos (by omega) (says_if (fun c2 => says_if (fun c3 => go ⟨by omega, fun _ => c3⟩) (fun c3 => says_no (fun z => ?_))) (fun c2 => go ⟨by omega, fun h => absurd (hm.1 (by omega)) h⟩))))))
    · have := (z.1 j (Nat.le_refl _) hj).1
      omega
    · exact c3 ((z.1 j (Nat.le_refl _) hj).2 (fun h => by have := hm.2 h; omega))
def OwnSays (D : Nat) (l : List Int) (r : List Int × Bool) : Prop := (r.2 = true → ownInv D l r.1) ∧ (r.2 = false → ¬ ownOk D l)
theorem ownInv_nil (D : Nat) : ownInv D [] (List.replicate D (-1)) := by
  refine ⟨List.length_replicate, by simp, List.nodup_nil, fun j hj => ?_⟩
  simp [List.getD, hj]
theorem flat_at (a : List S40) (i : Nat) (h : i < a.length) (j : Nat) (hj : j < (a.getD i z40).f4.length) : flat a = (flat (a.take i) ++ (a.getD i z40).f4.take j) ++ ((a.getD i z40).f4.getD j 0 :: ((a.getD i z40).f4.drop (j + 1) ++ flat (a.drop (i + 1)))) := by
  rw [flat_split a i, flat_drop a i h, List.append_assoc, ← List.cons_append, ← drop_cons 0 _ j hj, ← List.append_assoc ((a.getD i z40).f4.take j), List.take_append_drop]
theorem flat_take (a : List S40) (i : Nat) (h : i < a.length) : flat (a.take (i + 1)) = flat (a.take i) ++ (a.getD i z40).f4 := by
  rw [take_snoc z40 a i h]
  simp [flat]
theorem ownInv_step (D : Nat) (l o : List Int) (b : Nat) (i : Int) (h : ownInv D l o) (hb : b < D) (hn : ¬ 0 ≤ o.getD b 0) (hi : 0 ≤ i) : ownInv D (l ++ [(b : Int)]) (o.set b i) := by
  obtain ⟨h1, h2, h3, h4⟩ := h
  refine ⟨by rw [List.length_set]; exact h1, ?_, ?_, ?_⟩
  · intro x hx
    rcases List.mem_append.1 hx with hx | hx
    · exact h2 x hx
    · rw [List.mem_singleton.1 hx]
      omega
  · rw [List.nodup_append]
    refine ⟨h3, by simp, ?_⟩
    intro x hx y hy e
    rw [List.mem_singleton.1 hy] at e
    subst e
    exact hn ((h4 b hb).2 hx)
  · intro j hj
    by_cases e : b = j
    · subst e
      have : (o.set b i).getD b 0 = i := by simp [List.getD, h1, hb]
      rw [this]
      exact ⟨fun _ => List.mem_append_right _ (by simp), fun _ => hi⟩
    · have : (o.set b i).getD j 0 = o.getD j 0 := by simp [List.getD, List.getElem?_set_ne e]
      rw [this, h4 j hj, List.mem_append]
      exact ⟨fun z => .inl z, fun z => z.resolve_right (fun z => by rw [List.mem_singleton] at z; omega)⟩
theorem own_in (a : List S40) (data : List ByteArray) (i : Nat) (hi : i < a.length) (hp : ∀ b ∈ flat a, 0 ≤ b) (hF : (flat a).length ≤ 1099511627776) (ha : a.length ≤ 1099511627776) (bl : List Int) (hbl : bl = (a.getD i z40).f4)
    (ih : ∀ o, ownInv data.length (flat (a.take (i + 1))) o → ∃ r, Ev (fun k => impl_owners.l0 k o a (a.length : Int) ((i + 1 : Nat) : Int) a data) r ∧ OwnSays data.length (flat a) r) (d : Nat) :
    ∀ (j : Nat) (o : List Int), j + d = bl.length → ownInv data.length (flat (a.take i) ++ bl.take j) o → ∃ r, Ev (fun k => impl_owners.l1 k o (i : Int) a (a.length : Int) (i : Int) bl (bl.length : Int) (j : Int) a data) r ∧ OwnSays data.length (flat a) r := by
  have ht := flat_take a i hi
  rw [← hbl] at ht
  have hlen : bl.length ≤ (flat a).length := by
    rw [flat_split a i, flat_drop a i hi, ← hbl]
    simp
    omega
  induction d with
  | zero =>
    intro j o hj hv
    have hj2 : j = bl.length := by omega
    subst hj2
    rw [List.take_length, ← ht] at hv
    obtain ⟨r, e, h⟩ := ih o hv
    refine ⟨r, ev_shift ?_, h⟩
    simp only [impl_owners.l1]
    rw [wrap_nat (i := i) (by omega)]
    exact ev_neg (by omega) e
  | succ d ihd =>
    intro j o hj hv
    have hat := flat_at a i hi j (by rw [← hbl]; omega)
    rw [← hbl] at hat
    have hmem : bl.getD j 0 ∈ flat a := by
      rw [hat]
      exact List.mem_append_right _ (List.mem_cons_self)
    have h0 := hp _ hmem
    obtain ⟨b, hb⟩ : ∃ b : Nat, bl.getD j 0 = (b : Int) := ⟨(bl.getD j 0).toNat, by omega⟩
    by_cases c : (data.length : Int) ≤ bl.getD j 0
    · refine ⟨([], false), ev_shift ?_, by simp, fun _ h => ?_⟩
      · simp only [impl_owners.l1, rd_nat]
        exact ev_pos (by omega) (ev_pos (by omega) (ev_pos (by omega) (ev_pos c (Ev.now _))))
      · have := h.1 _ hmem
        omega
    · by_cases c2 : 0 ≤ o.getD b 0
      · refine ⟨([], false), ev_shift ?_, by simp, fun _ h => ?_⟩
        · simp only [impl_owners.l1, rd_nat]
          rw [hb] at c ⊢
          rw [rd_nat]
          exact ev_pos (by omega) (ev_pos (by omega) (ev_pos (by omega) (ev_neg (by omega) (ev_pos (by omega) (ev_pos (by rw [hv.1]; omega) (ev_pos c2 (Ev.now _)))))))
        · have hin := (hv.2.2.2 b (by omega)).1 c2
          have hnd := h.2
          rw [hat, List.nodup_append] at hnd
          exact hnd.2.2 _ hin _ (List.mem_cons_self) hb.symm
      · have hv2 := ownInv_step data.length _ o b (i : Int) hv (by omega) c2 (by omega)
        rw [List.append_assoc, ← hb, ← take_snoc 0 bl j (by omega)] at hv2
        obtain ⟨r, e, h⟩ := ihd (j + 1) _ (by omega) hv2
        refine ⟨r, ev_shift ?_, h⟩
        simp only [impl_owners.l1, rd_nat]
        rw [hb] at c ⊢
        rw [rd_nat, Int.toNat_natCast, wrap_nat (by omega)]
        exact ev_pos (by omega) (ev_pos (by omega) (ev_pos (by omega) (ev_neg (by omega) (ev_pos (by omega) (ev_pos (by rw [hv.1]; omega) (ev_neg c2 e))))))
theorem owners_ev (a : List S40) (data : List ByteArray) (hp : ∀ b ∈ flat a, 0 ≤ b) (hF : (flat a).length ≤ 1099511627776) (ha : a.length ≤ 1099511627776) (hD : data.length ≤ 1099511627776) : ∃ r, Ev (fun k => impl_owners.f k a data) r ∧ OwnSays data.length (flat a) r := by
  unfold impl_owners.f slices_Repeat_int_int.f
  have key : ∀ (d i : Nat) (o : List Int), i + d = a.length → ownInv data.length (flat (a.take i)) o → ∃ r, Ev (fun k => impl_owners.l0 k o a (a.length : Int) (i : Int) a data) r ∧ OwnSays data.length (flat a) r := by
    intro d
    induction d with
    | zero =>
      intro i o hi hv
      have hi2 : i = a.length := by omega
      subst hi2
      rw [List.take_length] at hv
      refine ⟨(o, true), ev_shift ?_, fun _ => hv, by simp⟩
      simp only [impl_owners.l0]
      exact ev_neg (by omega) (Ev.now _)
    | succ d ih =>
      intro i o hi hv
      obtain ⟨r, e, h⟩ := own_in a data i (by omega) hp hF ha _ rfl (fun o h => ih (i + 1) o (by omega) h) _ 0 o (Nat.zero_add _) (by simpa using hv)
      refine ⟨r, ev_shift ?_, h⟩
      simp only [impl_owners.l0, rdNode_nat]
      exact ev_pos (by omega) (ev_pos (by omega) (ev_pos (by omega) e))
  obtain ⟨r, e, h⟩ := key a.length 0 (List.replicate data.length (-1)) (Nat.zero_add _) (ownInv_nil _)
  refine ⟨r, ?_, h⟩
  have hr : (if ([(-1)] : List Int).length = 1 then (if (0 : Int) ≤ (data.length : Int) then (if (data.length : Int).toNat ≤ 17592186044416 then some (List.replicate (data.length : Int).toNat (([(-1)] : List Int).getD 0 0)) else none) else none) else none) = some (List.replicate data.length (-1)) := by
    rw [if_pos (show ([(-1)] : List Int).length = 1 from rfl), if_pos (by omega), if_pos (by omega), Int.toNat_natCast]
    rfl
  exact ev_eq hr e
theorem says_bind {α : Type} {o : Nat → Option α} {a : α} {f : Nat → α → Option Bool} {P : Prop} (e : Ev o a) (s : Says (fun k => f k a) P) : Says (fun k => (o k).bind (f k)) P := by
  obtain ⟨b, e2, h⟩ := s
  exact ⟨b, Ev.bind e e2, h⟩
theorem says_eq {α : Type} {o : Option α} {a : α} {f : Nat → α → Option Bool} {P : Prop} (h : o = some a) (s : Says (fun k => f k a) P) : Says (fun k => o.bind (f k)) P := by
  obtain ⟨b, e2, h2⟩ := s
  exact ⟨b, ev_eq h e2, h2⟩
theorem impl_ShapeOk_says (a : List S40) (data : List ByteArray) (hx : ∀ x ∈ a, x.f4.length ≤ 1048576) : Says (fun k => impl_ShapeOk.f k a data) (Shape a data) := by
  unfold impl_ShapeOk.f
  refine says_eq (decide_within _ _ _) ?_
  by_cases c1 : 2 ≤ (a.length : Int) ∧ (a.length : Int) ≤ 10
  · rw [decide_eq_true c1]
    refine says_pos rfl (says_eq (decide_within _ _ _) ?_)
    by_cases c2 : 1 ≤ (data.length : Int) ∧ (data.length : Int) ≤ 36
    · rw [decide_eq_true c2]
      refine says_pos rfl (says_pos (by omega) ?_)
      rw [show rd_T40 a 0 = a.getD 0 z40 from rdNode_nat a 0]
      by_cases c3 : (a.getD 0 z40).f0 = 2
      · rw [show ((a.getD 0 z40).f0 != 2) = false by rw [c3]; decide]
        apply says_shift
        simp only [impl_ShapeOk.j0]
        obtain ⟨b, e, hb⟩ := impl_contains_says a (by omega) hx
        refine says_neg (by simp) (says_bind e (says_if (fun c => says_no (fun z => (hb.1 c) z.2.2.2.1)) (fun c => ?_)))
        have hn : nodesAll a := Classical.byContradiction (fun z => c (hb.2 z))
        have hn2 := (all_from a (fun x => nOk x = true)).1 hn
        obtain ⟨hf1, hf2⟩ := flat_facts a (by omega) hn2
        obtain ⟨r, e2, h1, h2⟩ := owners_ev a data hf2 (by omega) (by omega) (by omega)
        refine says_bind e2 (says_if (fun c4 => ?_) (fun c4 => says_no (fun z => h2 (by simpa using c4) z.2.2.2.2.1)))
        have ho := h1 c4
        refine says_iff (impl_l0_says a data r.1 (by omega) (by omega) hn2 ho) ?_
        exact ⟨fun z => ⟨c1, c2, c3, hn, ⟨fun b hb => (ho.2.1 b hb).2, ho.2.2.1⟩, z⟩, fun z => z.2.2.2.2.2⟩
      · rw [show ((a.getD 0 z40).f0 != 2) = true from bne_iff_ne.2 c3]
        exact impl_ShapeOk_no a data (fun z => c3 z.2.2.1)
    · rw [decide_eq_false c2]
      exact says_neg (by simp) (impl_ShapeOk_no a data (fun z => c2 z.2.1))
  · rw [decide_eq_false c1]
    exact says_neg (by simp) (impl_ShapeOk_no a data (fun z => c1 z.1))
theorem decide_l1In (a lo hi : Int) : spec_l1In.f a lo hi = some (decide (lo ≤ a ∧ a ≤ hi)) := by
  unfold spec_l1In.f
  by_cases h : a ≥ lo
  · rw [if_pos h]
    congr 1
    rw [decide_eq_decide]
    omega
  · rw [if_neg h]
    congr 1
    symm
    rw [decide_eq_false_iff_not]
    omega
theorem spec_ShapeOk_no (a : List S40) (data : List ByteArray) {P : Prop} (h : ¬ P) : Says (fun k => spec_ShapeOk.j0 k true a data) P := by
  apply says_shift
  simp only [spec_ShapeOk.j0]
  exact says_pos trivial (says_no h)
theorem spec_long (s : Int) (j : Nat) (h0 : 0 ≤ s) (h1 : s ≤ 80) (hj : j < 5) : spec_l6Long.f s (j : Int) = some (lenAt s j) := by
  unfold spec_l6Long.f spec_l1Min.f lenAt
  rw [wrap_in (x := (j : Int) * 16) (by omega) (by omega), wrap_in (x := s - (j : Int) * 16) (by omega) (by omega), show s - (j : Int) * 16 = s - 16 * (j : Int) by omega]
  by_cases c : 16 < s - 16 * (j : Int)
  · rw [if_pos c, if_pos c]
    rfl
  · rw [if_neg c, if_neg c]
    rfl
theorem spec_l3_says (a : List S40) (data : List ByteArray) (i : Nat) (hi : i < a.length) (ha : a.length ≤ 10) (hn : nOk (a.getD i z40) = true) (hr : ∀ b ∈ flat a, b < (data.length : Int)) (Q : Prop)
    (s : Says (fun k => spec_ShapeOk.l2 k ((i + 1 : Nat) : Int) a data) Q) :
    Says (fun k => spec_ShapeOk.l3 k (i : Int) 0 a data (a.getD i z40).f0 (a.getD i z40).f1 (a.getD i z40).f2 (a.getD i z40).f3 (a.getD i z40).f4) (lensAt data (a.getD i z40) ∧ Q) := by
  obtain ⟨f1, f2, f3, f4⟩ := nOk_facts _ hn
  have f5 := fun b hb => hr b (flat_mem a i hi b hb)
  unfold lensAt
  generalize (a.getD i z40).f4 = bl at f1 f4 f5
  generalize (a.getD i z40).f3 = t at f2 f3
  have := says_loop (fun k j => spec_ShapeOk.l3 k (i : Int) (j : Int) a data (a.getD i z40).f0 (a.getD i z40).f1 (a.getD i z40).f2 t bl) (fun j => (∀ j', j ≤ j' → j' < bl.length → ((rdOf ByteArray.empty data (bl.getD j' 0)).size : Int) = lenAt t j') ∧ Q) bl.length ?_ ?_ 0 (Nat.zero_le _)
  · exact this
  · simp only [spec_ShapeOk.l3]
    rw [wrap_nat (i := i) (by omega)]
    exact says_neg (by omega) (says_iff s from_end_iff)
  · intro j hj ih
    simp only [spec_ShapeOk.l3, rd_nat]
    have hm := getD_mem 0 bl j hj
    refine says_pos (by omega) (says_pos (by omega) (says_pos (f4 _ hm) (says_pos (f5 _ hm) (says_eq (spec_long t j f2 f3 (by omega)) (says_if (fun c => ?_) (fun c => ?_))))))
    · rw [wrap_nat (i := j) (by omega)]
      refine says_iff ih ?_
      rw [from_step hj]
      exact ⟨fun z => ⟨⟨c, z.1⟩, z.2⟩, fun z => ⟨z.1.2, z.2⟩⟩
    · exact says_no (fun z => c (z.1 j (Nat.le_refl _) hj))
theorem spec_l2_says (a : List S40) (data : List ByteArray) (ha : a.length ≤ 10) (hn : ∀ x ∈ a, nOk x = true) (hr : ∀ b ∈ flat a, b < (data.length : Int)) : Says (fun k => spec_ShapeOk.l2 k 0 a data) (lensAll a data) := by
  have := says_loop (fun k i => spec_ShapeOk.l2 k (i : Int) a data) (fun i => ∀ i', i ≤ i' → i' < a.length → lensAt data (a.getD i' z40)) a.length ?_ ?_ 0 (Nat.zero_le _)
  · exact this
  · simp only [spec_ShapeOk.l2]
    exact says_neg (by omega) (says_yes (fun j h1 h2 => by omega))
  · intro i hi ih
    simp only [spec_ShapeOk.l2, rdNode_nat]
    refine says_pos (by omega) (says_pos (by omega) (says_iff (spec_l3_says a data i hi ha (hn _ (getD_mem z40 a i hi)) hr _ ih) ?_))
    rw [from_step hi]
def pos (D : Nat) (b : Int) : Nat := if 0 ≤ b ∧ b ≤ (D : Int) - 1 then b.toNat else D
def used (D : Nat) (l : List Int) : List Int := (List.range (D + 1)).map (fun j => ((l.countP (fun b => pos D b == j) : Nat) : Int))
theorem used_len (D : Nat) (l : List Int) : (used D l).length = D + 1 := by simp [used]
theorem pos_eq (D : Nat) (b : Int) (j : Nat) (hj : j < D) : pos D b = j ↔ b = (j : Int) := by
  unfold pos
  split <;> omega
theorem range_getD {α : Type} (d : α) (g : Nat → α) (n i : Nat) (h : i < n) : ((List.range n).map g).getD i d = g i := by
  simp [List.getD, h]
theorem used_get (D : Nat) (l : List Int) (j : Nat) (h : j ≤ D) : (used D l).getD j 0 = ((l.countP (fun b => pos D b == j) : Nat) : Int) := range_getD 0 _ (D + 1) j (by omega)
theorem used_count (D : Nat) (l : List Int) (j : Nat) (hj : j < D) : (used D l).getD j 0 = ((l.count (j : Int) : Nat) : Int) := by
  rw [used_get D l j (by omega)]
  congr 1
  unfold List.count
  apply List.countP_congr
  intro b _
  rw [beq_iff_eq, beq_iff_eq]
  exact pos_eq D b j hj
theorem used_zero (D : Nat) (l : List Int) (j : Nat) (hj : j < D) : (used D l).getD j 0 = 0 ↔ ¬ (j : Int) ∈ l := by
  rw [used_count D l j hj, ← List.count_eq_zero]
  omega
theorem spec_l1_says (a : List S40) (data : List ByteArray) (ha : a.length ≤ 10) (hd : data.length ≤ 36) (hn : ∀ x ∈ a, nOk x = true) (hr : ∀ b ∈ flat a, b < (data.length : Int)) : Says (fun k => spec_ShapeOk.l1 k (used data.length (flat a)) 0 a data) ((∀ j, 0 ≤ j → j < data.length → (used data.length (flat a)).getD j 0 ≤ 1 ∧ dataAt data (flat a) j) ∧ lensAll a data) := by
  have hq := spec_l2_says a data ha hn hr
  have := says_loop (fun k j => spec_ShapeOk.l1 k (used data.length (flat a)) (j : Int) a data) (fun j => (∀ j', j ≤ j' → j' < data.length → (used data.length (flat a)).getD j' 0 ≤ 1 ∧ dataAt data (flat a) j') ∧ lensAll a data) data.length ?_ ?_ 0 (Nat.zero_le _)
  · exact this
  · simp only [spec_ShapeOk.l1]
    exact says_neg (by omega) (says_iff hq from_end_iff)
  · intro j hj ih
    have hz := used_zero data.length (flat a) j hj
    have hl := used_len data.length (flat a)
    simp only [spec_ShapeOk.l1, rdOf_nat, rd_nat]
    rw [wrap_nat (by omega)]
    have go : (used data.length (flat a)).getD j 0 ≤ 1 ∧ dataAt data (flat a) j → Says (fun k => spec_ShapeOk.l1 k (used data.length (flat a)) ((j + 1 : Nat) : Int) a data) ((∀ j', j ≤ j' → j' < data.length → (used data.length (flat a)).getD j' 0 ≤ 1 ∧ dataAt data (flat a) j') ∧ lensAll a data) := fun h => says_iff ih (by
      rw [from_step hj]
      exact ⟨fun z => ⟨⟨h, z.1⟩, z.2⟩, fun z => ⟨z.1.2, z.2⟩⟩)
    have no : ¬ ((used data.length (flat a)).getD j 0 ≤ 1 ∧ dataAt data (flat a) j) → Says (fun _ => some false) ((∀ j', j ≤ j' → j' < data.length → (used data.length (flat a)).getD j' 0 ≤ 1 ∧ dataAt data (flat a) j') ∧ lensAll a data) := fun h => says_no (fun z => h (z.1 j (Nat.le_refl _) hj))
    refine says_pos (by omega) (says_pos (by omega) (says_pos (by omega) (says_if (fun c => no (fun z => by have := z.1; omega)) (fun c => says_if (fun c2 => says_if (fun c3 => says_if (fun c4 => no (fun z => by have := z.2.1; omega)) (fun c4 => go ⟨by omega, by omega, fun _ => c3⟩)) (fun c3 => no (fun z => c3 (z.2.2 (hz.1 c2))))) (fun c2 => says_if (fun c4 => no (fun z => by have := z.2.1; omega)) (fun c4 => go ⟨by omega, by omega, fun h => absurd (hz.2 h) c2⟩))))))
theorem spec_has (l : List Int) (b : Int) (h : l.length ≤ 1099511627776) : Ev (fun k => spec_l1Has.f k l b) (decide (b ∈ l)) := by
  unfold spec_l1Has.f
  have := ev_loop (fun k i => spec_l1Has.l0 k l b (i : Int)) (fun i => decide (b ∈ l.drop i)) l.length ?_ ?_ 0 (Nat.zero_le _)
  · simpa using this
  · simp only [spec_l1Has.l0]
    refine ev_neg (by omega) (ev_cast (Ev.now _) ?_)
    simp
  · intro i hi e
    simp only [spec_l1Has.l0]
    refine ev_pos (by omega) (ev_pos (by omega) ?_)
    rw [wrap_nat (by omega), rd_nat, drop_cons 0 l i hi]
    by_cases hc : l.getD i 0 = b
    · refine ev_pos hc (ev_cast (Ev.now _) ?_)
      rw [hc]
      simp
    · refine ev_neg hc (ev_cast e ?_)
      rw [decide_eq_decide, List.mem_cons]
      exact ⟨fun z => .inr z, fun z => z.resolve_left (fun e => hc e.symm)⟩
theorem spec_NodeOk_l (f0 f1 f2 f3 : Int) (bl : List Int) (h : bl.length ≤ 1099511627776) : Ev (fun k => spec_NodeOk.l0 k 0 f0 f1 f2 f3 bl) (blGo [] bl) := by
  have := ev_loop (fun k i => spec_NodeOk.l0 k (i : Int) f0 f1 f2 f3 bl) (fun i => blGo (bl.take i) (bl.drop i)) bl.length ?_ ?_ 0 (Nat.zero_le _)
  · simpa using this
  · simp only [spec_NodeOk.l0]
    refine ev_neg (by omega) (ev_cast (Ev.now _) ?_)
    rw [List.drop_length]
    rfl
  · intro i hi e
    simp only [spec_NodeOk.l0]
    refine ev_pos (by omega) (ev_pos (by omega) ?_)
    rw [wrap_nat (by omega), rd_nat, Int.toNat_natCast, drop_cons 0 bl i hi, blGo]
    refine ev_eq (decide_l1In _ _ _) ?_
    by_cases c : 0 ≤ bl.getD i 0 ∧ bl.getD i 0 ≤ 35
    · rw [decide_eq_true c]
      refine ev_pos rfl (ev_pos (by omega) (Ev.bind (spec_has _ _ (by rw [List.length_take]; omega)) ?_))
      by_cases c2 : bl.getD i 0 ∈ bl.take i
      · rw [decide_eq_true c2]
        exact ev_pos rfl (ev_cast (Ev.now _) (by simp))
      · rw [decide_eq_false c2]
        refine ev_neg (by simp) (ev_cast e ?_)
        rw [take_snoc 0 bl i hi]
        simp
    · rw [decide_eq_false c]
      exact ev_neg (by simp) (ev_cast (Ev.now _) (by simp))
theorem spec_NodeOk_j1 (b : Bool) (f0 f1 f2 f3 : Int) (bl : List Int) (h : bl.length ≤ 1099511627776) : Ev (fun k => spec_NodeOk.j1 k b f0 f1 f2 f3 bl) (!b && blGo [] bl) := by
  refine ev_shift ?_
  simp only [spec_NodeOk.j1]
  cases b
  · exact ev_neg (by simp) (ev_cast (spec_NodeOk_l f0 f1 f2 f3 bl h) (by simp))
  · exact ev_pos rfl (ev_cast (Ev.now _) (by simp))
theorem spec_NodeOk_j0 (b : Bool) (f0 f1 f2 f3 : Int) (bl : List Int) (h : bl.length ≤ 1099511627776) : Ev (fun k => spec_NodeOk.j0 k b f0 f1 f2 f3 bl) (!b && (!decide (f0 = 2 ∧ ¬ (f1 = 0 ∧ f2 = 0)) && blGo [] bl)) := by
  refine ev_shift ?_
  simp only [spec_NodeOk.j0]
  cases b
  · refine ev_neg (by simp) ?_
    by_cases c : f0 = 2
    · refine ev_pos c ?_
      by_cases c1 : f1 = 0
      · refine ev_pos c1 (ev_cast (spec_NodeOk_j1 _ f0 f1 f2 f3 bl h) ?_)
        by_cases c2 : f2 = 0 <;> simp [c, c1, c2]
      · refine ev_neg c1 (ev_cast (spec_NodeOk_j1 _ f0 f1 f2 f3 bl h) ?_)
        simp [c, c1]
    · refine ev_neg c (ev_cast (spec_NodeOk_j1 _ f0 f1 f2 f3 bl h) ?_)
      simp [c]
  · exact ev_pos rfl (ev_cast (Ev.now _) (by simp))
theorem spec_bf (a : Int) : spec_BlocksFor.f a = some (bfOf a) := by
  unfold spec_BlocksFor.f bfOf
  by_cases h0 : a ≤ 0
  · rw [if_pos h0, if_pos h0]
  · rw [if_neg h0, if_neg h0]
    by_cases h1 : a > 80
    · rw [if_pos h1, if_pos (show a ≥ 80 by omega)]
    · rw [if_neg h1]
      by_cases h2 : a = 80
      · subst h2
        rw [if_pos (by omega), wrap_in (x := 80 + 16) (by omega) (by omega), wrap_in (x := 80 + 16 - 1) (by omega) (by omega), wrap_in (by decide) (by decide)]
        rfl
      · rw [if_neg (show ¬ a ≥ 80 by omega)]
theorem spec_NodeOk_ev (f0 f1 f2 f3 : Int) (bl : List Int) (h : bl.length ≤ 1099511627776) : Ev (fun k => spec_NodeOk.f k f0 f1 f2 f3 bl) (nodeOk f0 f1 f2 f3 bl) := by
  have hj := spec_NodeOk_j0 true f0 f1 f2 f3 bl h
  unfold spec_NodeOk.f nodeOk
  by_cases c0 : f0 = 0
  · rw [if_pos c0]
    refine ev_pos c0 ?_
    by_cases c1 : f1 = 0
    · refine ev_pos c1 ?_
      by_cases c2 : f2 = 0
      · refine ev_pos c2 ?_
        by_cases c3 : f3 = 0
        · refine ev_pos c3 (ev_cast (Ev.now _) ?_)
          rw [decide_eq_true c1, decide_eq_true c2, decide_eq_true c3]
          cases bl <;> simp <;> omega
        · exact ev_neg c3 (ev_cast (Ev.now _) (by simp [c3]))
      · exact ev_neg c2 (ev_cast (Ev.now _) (by simp [c2]))
    · exact ev_neg c1 (ev_cast (Ev.now _) (by simp [c1]))
  · rw [if_neg c0]
    refine ev_neg c0 (ev_eq (decide_l1In _ _ _) ?_)
    by_cases c1 : 1 ≤ f0 ∧ f0 ≤ 3
    · rw [decide_eq_true c1]
      refine ev_pos rfl (ev_eq (decide_l1In _ _ _) ?_)
      by_cases c2 : 0 ≤ f1 ∧ f1 ≤ 1000000
      · rw [decide_eq_true c2]
        refine ev_pos rfl (ev_eq (decide_l1In _ _ _) ?_)
        by_cases c3 : 0 ≤ f2 ∧ f2 ≤ 100000
        · rw [decide_eq_true c3]
          refine ev_pos rfl (ev_eq (decide_l1In _ _ _) ?_)
          by_cases c4 : 0 ≤ f3 ∧ f3 ≤ 80
          · rw [decide_eq_true c4]
            refine ev_pos rfl (ev_eq (spec_bf _) (ev_cast (spec_NodeOk_j0 _ f0 f1 f2 f3 bl h) ?_))
            by_cases c5 : (bl.length : Int) = bfOf f3 <;> simp [c5]
          · rw [decide_eq_false c4]
            exact ev_neg (by simp) (ev_cast hj (by simp))
        · rw [decide_eq_false c3]
          exact ev_neg (by simp) (ev_cast hj (by simp))
      · rw [decide_eq_false c2]
        exact ev_neg (by simp) (ev_cast hj (by simp))
    · rw [decide_eq_false c1]
      exact ev_neg (by simp) (ev_cast hj (by simp))
theorem spec_nodes_says (a : List S40) (data : List ByteArray) (ha : a.length ≤ 10) (hx : ∀ x ∈ a, x.f4.length ≤ 1048576) (Q : Prop) (s : nodesAll a → Says (fun k => (spec_l6Used.f k a data).bind fun t140 => (if 0 ≤ (data.length : Int) then (if (data.length : Int) < (t140.length : Int) then (if (rd t140 (data.length : Int)) > 0 then (some false) else (spec_ShapeOk.l1 k t140 0 a data)) else (none)) else (none))) Q) : Says (fun k => spec_ShapeOk.l0 k 0 a data) (nodesAll a ∧ Q) := by
  have key : ∀ d i, i + d = a.length → (∀ j, j < i → nOk (a.getD j z40) = true) → Says (fun k => spec_ShapeOk.l0 k (i : Int) a data) ((∀ i', i ≤ i' → i' < a.length → nOk (a.getD i' z40) = true) ∧ Q) := by
    intro d
    induction d with
    | zero =>
      intro i hi hb
      apply says_shift
      simp only [spec_ShapeOk.l0]
      refine says_neg (by omega) (says_iff (s (fun j _ hj => hb j (by omega))) ?_)
      rw [show i = a.length by omega]
      exact from_end_iff
    | succ d ih =>
      intro i hi hb
      have hm := hx _ (getD_mem z40 a i (by omega))
      have hn : Ev (fun k => spec_NodeOk.f k (a.getD i z40).f0 (a.getD i z40).f1 (a.getD i z40).f2 (a.getD i z40).f3 (a.getD i z40).f4) (nOk (a.getD i z40)) := spec_NodeOk_ev (a.getD i z40).f0 (a.getD i z40).f1 (a.getD i z40).f2 (a.getD i z40).f3 (a.getD i z40).f4 (by omega)
      apply says_shift
      simp only [spec_ShapeOk.l0, rdNode_nat]
      rw [wrap_nat (i := i) (by omega)]
      refine says_pos (by omega) (says_pos (by omega) (says_bind hn (says_if (fun c => says_iff (ih (i + 1) (by omega) (fun j hj => ?_)) ?_) (fun c => says_no (fun z => c (z.1 i (Nat.le_refl _) (by omega)))))))
      · by_cases e : j = i
        · rw [e]
          exact c
        · exact hb j (by omega)
      · rw [from_step (show i < a.length by omega)]
        exact ⟨fun z => ⟨⟨c, z.1⟩, z.2⟩, fun z => ⟨z.1.2, z.2⟩⟩
  exact key a.length 0 (Nat.zero_add _) (fun j hj => by omega)
theorem pos_le (D : Nat) (b : Int) : pos D b ≤ D := by
  unfold pos
  split <;> omega
theorem used_step (D : Nat) (l : List Int) (b : Int) (p : Nat) (hp : pos D b = p) (hl : l.length ≤ 1099511627776) : (used D l).set p (wrap64 ((used D l).getD p 0 + 1)) = used D (l ++ [b]) := by
  have hD := pos_le D b
  have hc : l.countP (fun b => pos D b == p) ≤ l.length := List.countP_le_length
  rw [used_get D l p (by omega), wrap_nat (by omega)]
  apply List.ext_getElem (by simp [used])
  intro j h1 h2
  rw [List.getElem_set]
  simp only [used, List.getElem_map, List.getElem_range, List.countP_append]
  by_cases e : p = j
  · rw [if_pos e]
    subst e
    simp [hp]
  · rw [if_neg e]
    simp [hp, e]
theorem used_in (a : List S40) (data : List ByteArray) (i : Nat) (hi : i < a.length) (hF : (flat a).length ≤ 1099511627776) (ha : a.length ≤ 1099511627776) (hD : data.length ≤ 1099511627776) (R : List Int)
    (e : Ev (fun k => spec_l6Used.l0 k (used data.length (flat (a.take (i + 1)))) ((i + 1 : Nat) : Int) a data) R) : Ev (fun k => spec_l6Used.l1 k (used data.length (flat (a.take i))) (i : Int) 0 a data) R := by
  have hs := flat_split a i
  rw [flat_drop a i hi] at hs
  have ht := flat_take a i hi
  obtain ⟨bl, hbl⟩ : ∃ bl, bl = (a.getD i z40).f4 := ⟨_, rfl⟩
  rw [← hbl] at hs ht
  have hlen := congrArg List.length hs
  rw [List.length_append, List.length_append] at hlen
  have := ev_loop (fun k j => spec_l6Used.l1 k (used data.length (flat (a.take i) ++ bl.take j)) (i : Int) (j : Int) a data) (fun _ => R) bl.length ?_ ?_ 0 (Nat.zero_le _)
  · simpa using this
  · simp only [spec_l6Used.l1, rdNode_nat]
    rw [← hbl, List.take_length, ← ht, wrap_nat (i := i) (by omega)]
    exact ev_pos (by omega) (ev_pos (by omega) (ev_neg (by omega) e))
  · intro j hj e2
    simp only [spec_l6Used.l1, rdNode_nat, rd_nat]
    rw [← hbl]
    refine ev_pos (by omega) (ev_pos (by omega) (ev_pos (by omega) (ev_pos (by omega) (ev_eq (decide_l1In _ _ _) ?_))))
    rw [wrap_in (x := (data.length : Int) - 1) (by omega) (by omega), wrap_nat (by omega)]
    rw [take_snoc 0 bl j hj, ← List.append_assoc] at e2
    have hl : (flat (a.take i) ++ bl.take j).length ≤ 1099511627776 := by
      rw [List.length_append, List.length_take]
      omega
    by_cases c : 0 ≤ bl.getD j 0 ∧ bl.getD j 0 ≤ (data.length : Int) - 1
    · rw [decide_eq_true c]
      obtain ⟨b, hb⟩ : ∃ b : Nat, bl.getD j 0 = (b : Int) := ⟨(bl.getD j 0).toNat, by omega⟩
      have hp : pos data.length (bl.getD j 0) = b := by
        unfold pos
        rw [if_pos c]
        omega
      have hst := used_step data.length _ (bl.getD j 0) b hp hl
      rw [← hst] at e2
      rw [hb] at c ⊢
      rw [rd_nat, Int.toNat_natCast]
      refine ev_pos rfl (ev_pos c.1 (ev_pos ?_ e2))
      rw [used_len]
      omega
    · rw [decide_eq_false c]
      have hp : pos data.length (bl.getD j 0) = data.length := by
        unfold pos
        rw [if_neg c]
      have hst := used_step data.length _ (bl.getD j 0) _ hp hl
      rw [← hst] at e2
      rw [Int.toNat_natCast]
      refine ev_neg (by simp) (ev_pos (by omega) (ev_pos ?_ e2))
      rw [used_len]
      omega
theorem used_nil (D : Nat) : used D [] = List.replicate (D + 1) 0 := by
  unfold used
  apply List.ext_getElem (by simp)
  intro j h1 h2
  simp
theorem used_ev (a : List S40) (data : List ByteArray) (hF : (flat a).length ≤ 1099511627776) (ha : a.length ≤ 1099511627776) (hD : data.length ≤ 1099511627776) : Ev (fun k => spec_l6Used.f k a data) (used data.length (flat a)) := by
  unfold spec_l6Used.f
  rw [wrap_nat (by omega), Int.toNat_natCast]
  refine ev_pos (by omega) (ev_pos (by omega) ?_)
  have := ev_loop (fun k i => spec_l6Used.l0 k (used data.length (flat (a.take i))) (i : Int) a data) (fun _ => used data.length (flat a)) a.length ?_ ?_ 0 (Nat.zero_le _)
  · rw [List.take_zero, show flat [] = [] from rfl, used_nil] at this
    exact this
  · simp only [spec_l6Used.l0]
    rw [List.take_length]
    exact ev_neg (by omega) (Ev.now _)
  · intro i hi e
    simp only [spec_l6Used.l0]
    exact ev_pos (by omega) (used_in a data i hi hF ha hD _ e)
theorem pos_last (D : Nat) (b : Int) (h : 0 ≤ b) : pos D b = D ↔ (D : Int) ≤ b := by
  unfold pos
  split <;> omega
theorem used_last (D : Nat) (l : List Int) (h : ∀ b ∈ l, 0 ≤ b) : (used D l).getD D 0 = 0 ↔ ∀ b ∈ l, b < (D : Int) := by
  rw [used_get D l D (Nat.le_refl _)]
  have e : ((l.countP (fun b => pos D b == D) : Nat) : Int) = 0 ↔ l.countP (fun b => pos D b == D) = 0 := by omega
  rw [e, List.countP_eq_zero]
  constructor
  · intro z b hb
    have := z b hb
    rw [beq_iff_eq, pos_last D b (h b hb)] at this
    omega
  · intro z b hb
    have := z b hb
    rw [beq_iff_eq, pos_last D b (h b hb)]
    omega
theorem used_nonneg (D : Nat) (l : List Int) (j : Nat) (hj : j ≤ D) : 0 ≤ (used D l).getD j 0 := by
  rw [used_get D l j hj]
  omega
theorem used_one (D : Nat) (l : List Int) (h : ∀ b ∈ l, 0 ≤ b ∧ b < (D : Int)) : (∀ j, 0 ≤ j → j < D → (used D l).getD j 0 ≤ 1) ↔ l.Nodup := by
  rw [List.nodup_iff_count]
  constructor
  · intro z b
    by_cases hb : b ∈ l
    · obtain ⟨h0, h1⟩ := h b hb
      have := z b.toNat (Nat.zero_le _) (by omega)
      rw [used_count D l _ (by omega), show ((b.toNat : Nat) : Int) = b by omega] at this
      omega
    · rw [List.count_eq_zero.2 hb]
      omega
  · intro z j _ hj
    rw [used_count D l j hj]
    have := z (j : Int)
    omega
theorem spec_ShapeOk_says (a : List S40) (data : List ByteArray) (hx : ∀ x ∈ a, x.f4.length ≤ 1048576) : Says (fun k => spec_ShapeOk.f k a data) (Shape a data) := by
  unfold spec_ShapeOk.f
  refine says_eq (decide_l1In _ _ _) ?_
  by_cases c1 : 2 ≤ (a.length : Int) ∧ (a.length : Int) ≤ 10
  · rw [decide_eq_true c1]
    refine says_pos rfl (says_eq (decide_l1In _ _ _) ?_)
    by_cases c2 : 1 ≤ (data.length : Int) ∧ (data.length : Int) ≤ 36
    · rw [decide_eq_true c2]
      refine says_pos rfl (says_pos (by omega) ?_)
      rw [show rd_T40 a 0 = a.getD 0 z40 from rdNode_nat a 0]
      by_cases c3 : (a.getD 0 z40).f0 = 2
      · rw [show ((a.getD 0 z40).f0 != 2) = false by rw [c3]; decide]
        apply says_shift
        simp only [spec_ShapeOk.j0]
        refine says_neg (by simp) (says_iff (spec_nodes_says a data (by omega) hx (ownOk data.length (flat a) ∧ dataAll a data ∧ lensAll a data) (fun hn => ?_)) ⟨fun z => ⟨c1, c2, c3, z⟩, fun z => z.2.2.2⟩)
        have hn2 := (all_from a (fun x => nOk x = true)).1 hn
        obtain ⟨hf1, hf2⟩ := flat_facts a (by omega) hn2
        have hl := used_last data.length (flat a) hf2
        have h0 := used_nonneg data.length (flat a) data.length (Nat.le_refl _)
        refine says_bind (used_ev a data (by omega) (by omega) (by omega)) ?_
        rw [rd_nat, used_len]
        refine says_pos (by omega) (says_pos (by omega) (says_if (fun c => says_no (fun z => ?_)) (fun c => ?_)))
        · have := hl.2 z.1.1
          omega
        · have hr := hl.1 (by omega)
          have h1 := used_one data.length (flat a) (fun b hb => ⟨hf2 b hb, hr b hb⟩)
          refine says_iff (spec_l1_says a data (by omega) (by omega) hn2 hr) ?_
          exact ⟨fun z => ⟨⟨hr, h1.1 (fun j h2 h3 => (z.1 j h2 h3).1)⟩, fun j h2 h3 => (z.1 j h2 h3).2, z.2⟩, fun z => ⟨fun j h2 h3 => ⟨h1.2 z.1.2 j h2 h3, z.2.1 j h2 h3⟩, z.2.2⟩⟩
      · rw [show ((a.getD 0 z40).f0 != 2) = true from bne_iff_ne.2 c3]
        exact spec_ShapeOk_no a data (fun z => c3 z.2.2.1)
    · rw [decide_eq_false c2]
      exact says_neg (by simp) (spec_ShapeOk_no a data (fun z => c2 z.2.1))
  · rw [decide_eq_false c1]
    exact says_neg (by simp) (spec_ShapeOk_no a data (fun z => c1 z.1))
theorem ShapeOk_both (a : List S40) (data : List ByteArray) (hx : ∀ x ∈ a, x.f4.length ≤ 1048576) : ∃ b, Ev (fun k => spec_ShapeOk.f k a data) b ∧ Ev (fun k => impl_ShapeOk.f k a data) b ∧ (b = true ↔ Shape a data) := by
  obtain ⟨b, e, h⟩ := spec_ShapeOk_says a data hx
  obtain ⟨b2, e2, h2⟩ := impl_ShapeOk_says a data hx
  have : b2 = b := Bool.eq_iff_iff.2 (h2.trans h.symm)
  exact ⟨b, e, this ▸ e2, h⟩
theorem drop_eq {α : Type} [DecidableEq α] (d : α) (a b : List α) (i : Nat) (ha : i < a.length) (hb : i < b.length) : (a.drop i = b.drop i) ↔ (a.getD i d = b.getD i d ∧ a.drop (i + 1) = b.drop (i + 1)) := by
  rw [drop_cons d a i ha, drop_cons d b i hb]
  simp
theorem eqIntS_ev (a b : List Int) (h : a.length ≤ 1099511627776) : Ev (fun k => laws_eqIntS.f k a b) (decide (a = b)) := by
  unfold laws_eqIntS.f
  by_cases hl : a.length = b.length
  · refine ev_pos (by omega) ?_
    have := ev_loop (fun k i => laws_eqIntS.l0 k a b (i : Int)) (fun i => decide (a.drop i = b.drop i)) a.length ?_ ?_ 0 (Nat.zero_le _)
    · exact this
    · simp only [laws_eqIntS.l0]
      refine ev_neg (by omega) ?_
      refine ev_cast (Ev.now _) ?_
      rw [List.drop_length, hl, List.drop_length]
      simp
    · intro i hi e
      simp only [laws_eqIntS.l0]
      refine ev_pos (by omega) (ev_pos (by omega) (ev_pos (by omega) ?_))
      rw [wrap_nat (by omega), rd_nat, rd_nat]
      by_cases hc : a.getD i 0 = b.getD i 0
      · refine ev_pos hc (ev_cast e ?_)
        rw [decide_eq_decide, drop_eq 0 a b i hi (by omega)]
        exact ⟨fun z => ⟨hc, z⟩, fun z => z.2⟩
      · refine ev_neg hc (ev_cast (Ev.now _) ?_)
        symm
        rw [decide_eq_false_iff_not, drop_eq 0 a b i hi (by omega)]
        exact fun z => hc z.1
  · refine ev_neg (by omega) (ev_cast (Ev.now _) ?_)
    symm
    rw [decide_eq_false_iff_not]
    exact fun z => hl (by rw [z])
theorem eqNode_self (a b c d : Int) (l : List Int) (h : l.length ≤ 1099511627776) : Ev (fun k => laws_eqNode.f k a b c d l a b c d l) true := by
  unfold laws_eqNode.f
  exact ev_pos rfl (ev_pos rfl (ev_pos rfl (ev_pos rfl (Ev.bind (eqIntS_ev l l (by omega)) (ev_pos (by simp) (Ev.now _))))))
theorem eqNodeS_refl (a : List S40) (ha : a.length ≤ 140737488351232) (hx : ∀ x ∈ a, x.f4.length ≤ 1048576) : Ev (fun k => laws_eqNodeS.f k a a) true := by
  unfold laws_eqNodeS.f
  refine ev_pos rfl ?_
  have := ev_loop (fun k i => laws_eqNodeS.l0 k a a (i : Int)) (fun _ => true) a.length ?_ ?_ 0 (Nat.zero_le _)
  · exact this
  · simp only [laws_eqNodeS.l0]
    exact ev_neg (by omega) (Ev.now _)
  · intro i hi e
    simp only [laws_eqNodeS.l0, rdNode_nat]
    have := hx _ (getD_mem z40 a i hi)
    refine ev_pos (by omega) (ev_pos (by omega) (ev_pos (by omega) (Ev.bind (eqNode_self _ _ _ _ _ (by omega)) (ev_pos rfl ?_))))
    rw [wrap_nat (by omega)]
    exact e
theorem toList_inj {a b : ByteArray} : a.toList = b.toList ↔ a = b := by
  constructor
  · intro h
    have h' := h
    rw [ByteArray.toList_eq, ByteArray.toList_eq] at h'
    cases a
    cases b
    simp only [ByteArray.mk.injEq]
    exact Array.toList_inj.mp h'
  · intro h
    rw [h]
theorem eqStringS_ev (a b : List ByteArray) (h : a.length ≤ 140737488351232) : Ev (fun k => laws_eqStringS.f k a b) (decide (a = b)) := by
  unfold laws_eqStringS.f
  by_cases hl : a.length = b.length
  · refine ev_pos (by omega) ?_
    have := ev_loop (fun k i => laws_eqStringS.l0 k a b (i : Int)) (fun i => decide (a.drop i = b.drop i)) a.length ?_ ?_ 0 (Nat.zero_le _)
    · exact this
    · simp only [laws_eqStringS.l0]
      refine ev_neg (by omega) ?_
      refine ev_cast (Ev.now _) ?_
      rw [List.drop_length, hl, List.drop_length]
      simp
    · intro i hi e
      simp only [laws_eqStringS.l0]
      refine ev_pos (by omega) (ev_pos (by omega) (ev_pos (by omega) ?_))
      rw [wrap_nat (by omega), rdOf_nat, rdOf_nat]
      by_cases hc : a.getD i ByteArray.empty = b.getD i ByteArray.empty
      · refine ev_pos (toList_inj.mpr hc) (ev_cast e ?_)
        rw [decide_eq_decide, drop_eq ByteArray.empty a b i hi (by omega)]
        exact ⟨fun z => ⟨hc, z⟩, fun z => z.2⟩
      · refine ev_neg (fun z => hc (toList_inj.mp z)) (ev_cast (Ev.now _) ?_)
        symm
        rw [decide_eq_false_iff_not, drop_eq ByteArray.empty a b i hi (by omega)]
        exact fun z => hc z.1
  · refine ev_neg (by omega) (ev_cast (Ev.now _) ?_)
    symm
    rw [decide_eq_false_iff_not]
    exact fun z => hl (by rw [z])
theorem eqFs_refl (a : List S40) (b : List ByteArray) (ha : a.length ≤ 140737488351232) (hx : ∀ x ∈ a, x.f4.length ≤ 1048576) (hb : b.length ≤ 140737488351232) : Ev (fun k => laws_eqFs.f k a b a b) true := by
  unfold laws_eqFs.f
  exact Ev.bind (eqNodeS_refl a ha hx) (ev_pos rfl (Ev.bind (eqStringS_ev b b hb) (ev_pos (by simp) (Ev.now _))))
def freeGo (l : List Int) : Nat → Nat → Int → Int
  | 0, _, x => x
  | d + 1, i, x => freeGo l d (i + 1) (if (i : Int) ∈ l then x else x + 1)
theorem wrap_up {i : Int} (h0 : 0 ≤ i) (h : i < 9223372036854775807) : wrap64 (i + 1) = i + 1 := by
  unfold wrap64
  omega
theorem impl_free_l (l o : List Int) (D : Nat) (ho : ownInv D l o) (hD : D ≤ 36) : ∀ (d i : Nat) (x : Int), i + d = D → 0 ≤ x → x ≤ i → Ev (fun k => impl_FreeOf.l0 k x o (D : Int) (i : Int)) (freeGo l d i x) := by
  have hl := ho.1
  intro d
  induction d with
  | zero =>
    intro i x hi _ _
    apply ev_shift
    simp only [impl_FreeOf.l0]
    exact ev_neg (by omega) (Ev.now _)
  | succ d ih =>
    intro i x hi h0 h1
    have hm := ho.2.2.2 i (by omega)
    apply ev_shift
    simp only [impl_FreeOf.l0, rd_nat]
    rw [wrap_nat (i := i) (by omega), freeGo]
    refine ev_pos (by omega) (ev_pos (by omega) (ev_pos (by omega) ?_))
    by_cases c : (i : Int) ∈ l
    · have := hm.2 c
      rw [if_pos c]
      exact ev_neg (by omega) (ih (i + 1) x (by omega) h0 (by omega))
    · rw [if_neg c]
      have hw : wrap64 (x + 1) = x + 1 := wrap_up h0 (by omega)
      rw [hw]
      refine ev_pos ?_ (ih (i + 1) (x + 1) (by omega) (by omega) (by omega))
      have h3 : ¬ 0 ≤ o.getD i 0 := fun z => c (hm.1 z)
      omega
def ofLNode (x : S53) : S40 := ⟨x.f0, x.f1, x.f2, x.f3, x.f4⟩
theorem spec_free_l (l : List Int) (a : List S40) (data : List ByteArray) (hD : data.length ≤ 36) : ∀ (d i : Nat) (x : Int), i + d = data.length → 0 ≤ x → x ≤ i → Ev (fun k => spec_FreeOf.l0 k x (used data.length l) (i : Int) a data) (freeGo l d i x) := by
  have hl := used_len data.length l
  intro d
  induction d with
  | zero =>
    intro i x hi _ _
    apply ev_shift
    simp only [spec_FreeOf.l0]
    exact ev_neg (by omega) (Ev.now _)
  | succ d ih =>
    intro i x hi h0 h1
    have hm := used_zero data.length l i (by omega)
    apply ev_shift
    simp only [spec_FreeOf.l0, rd_nat]
    rw [wrap_nat (i := i) (by omega), freeGo]
    refine ev_pos (by omega) (ev_pos (by omega) (ev_pos (by omega) ?_))
    by_cases c : (i : Int) ∈ l
    · have hz : ((used data.length l).getD i 0 == 0) = false := by
        rw [beq_eq_false_iff_ne]
        exact fun z => hm.1 z c
      rw [hz, if_pos c]
      refine ev_eq (show spec_l1Bit.f false = some 0 from rfl) ?_
      have hw : wrap64 (x + 0) = x := by rw [Int.add_zero]; exact wrap_in (by omega) (by omega)
      rw [hw]
      exact ih (i + 1) x (by omega) h0 (by omega)
    · have hz : ((used data.length l).getD i 0 == 0) = true := by
        rw [beq_iff_eq]
        exact hm.2 c
      rw [hz, if_neg c]
      refine ev_eq (show spec_l1Bit.f true = some 1 from rfl) ?_
      have hw : wrap64 (x + 1) = x + 1 := wrap_up h0 (by omega)
      rw [hw]
      exact ih (i + 1) (x + 1) (by omega) (by omega) (by omega)
/-- The letters of all texts. -/
def letters (l : List ByteArray) : Nat := (l.map ByteArray.size).sum
/-- What is left of a measure, behind a row of texts: below zero, or the row is that short. -/
def leftS (l : List ByteArray) (left : Int) : Int := if (l.length : Int) + letters l ≤ left then left - l.length - letters l else -1
theorem rdLNode_nat (xs : List S53) (i : Nat) : rd_T53 xs (i : Int) = xs.getD i z53 := by simp [rd_T53]
theorem szNode_eq (f0 f1 f2 f3 : Int) (bl : List Int) (m : Int) (h0 : 0 ≤ m) (h1 : m ≤ 1048576) (hl : bl.length ≤ maxLen) : laws_szNode.f f0 f1 f2 f3 bl m = some (if m - (bl.length : Int) < 0 then -1 else m - (bl.length : Int)) := by
  have hl' : bl.length ≤ 9223372036854775807 := hl
  unfold laws_szNode.f laws_szIntS.f
  rw [wrap_in (by omega) (by omega)]
  by_cases c : m - (bl.length : Int) < 0
  · rw [if_pos c, if_pos c]
    rfl
  · rw [if_neg c, if_neg c]
    simp only [Option.bind_some]
    rw [if_neg c]
theorem szNodeS_ev (l : List S53) (m : Int) (h0 : 0 ≤ m) (h1 : m ≤ 1048576) (hl : l.length ≤ maxLen) (hx : ∀ x ∈ l, x.f4.length ≤ maxLen) :
    ∃ r : Int, Ev (fun k => laws_szNodeS.f k l m) r ∧ r ≤ m ∧ (0 ≤ r → (l.length : Int) ≤ m ∧ ∀ x ∈ l, (x.f4.length : Int) ≤ m) := by
  have hl' : l.length ≤ 9223372036854775807 := hl
  unfold laws_szNodeS.f
  by_cases c : m - (l.length : Int) < 0
  · refine ⟨-1, ?_, by omega, by omega⟩
    rw [wrap_in (by omega) (by omega)]
    exact ev_pos c (Ev.now _)
  · rw [wrap_in (by omega) (by omega)]
    have key : ∀ (d i : Nat) (x : Int), i + d = l.length → 0 ≤ x → x ≤ m → (∀ j, j < i → ((l.getD j z53).f4.length : Int) ≤ m) →
        ∃ r : Int, Ev (fun k => laws_szNodeS.l0 k l x (i : Int)) r ∧ r ≤ m ∧ (0 ≤ r → ∀ j, j < l.length → ((l.getD j z53).f4.length : Int) ≤ m) := by
      intro d
      induction d with
      | zero =>
        intro i x hi hx0 hx1 hj
        refine ⟨x, ev_shift ?_, hx1, fun _ => by rw [show l.length = i from by omega]; exact hj⟩
        simp only [laws_szNodeS.l0]
        exact ev_neg (by omega) (Ev.now _)
      | succ d ih =>
        intro i x hi hx0 hx1 hj
        have hm := hx _ (getD_mem z53 l i (by omega))
        have hs := szNode_eq (l.getD i z53).f0 (l.getD i z53).f1 (l.getD i z53).f2 (l.getD i z53).f3 (l.getD i z53).f4 x hx0 (by omega) hm
        by_cases c2 : x - ((l.getD i z53).f4.length : Int) < 0
        · rw [if_pos c2] at hs
          refine ⟨-1, ev_shift ?_, by omega, by omega⟩
          simp only [laws_szNodeS.l0]
          refine ev_pos (by omega) (ev_pos (by omega) ?_)
          simp only [rdLNode_nat, hs, Option.bind_some]
          exact ev_pos (by omega) (Ev.now _)
        · rw [if_neg c2] at hs
          obtain ⟨r, e, hr1, hr2⟩ := ih (i + 1) (x - ((l.getD i z53).f4.length : Int)) (by omega) (by omega) (by omega) (fun j hji => by
            by_cases e : j = i
            · subst e
              omega
            · exact hj j (by omega))
          refine ⟨r, ev_shift ?_, hr1, hr2⟩
          simp only [laws_szNodeS.l0]
          refine ev_pos (by omega) (ev_pos (by omega) ?_)
          simp only [rdLNode_nat, hs, Option.bind_some]
          rw [wrap_nat (by omega)]
          exact ev_neg (by omega) e
    obtain ⟨r, e, hr1, hr2⟩ := key l.length 0 (m - (l.length : Int)) (by omega) (by omega) (by omega) (fun j hj => by omega)
    refine ⟨r, ev_neg c e, hr1, fun hr => ⟨by omega, fun x hx2 => ?_⟩⟩
    obtain ⟨j, hj, rfl⟩ := List.mem_iff_getElem.1 hx2
    have := hr2 hr j hj
    simpa [List.getD, hj] using this
theorem letters_cons (x : ByteArray) (l : List ByteArray) : letters (x :: l) = x.size + letters l := rfl
theorem szStringS_l (l : List ByteArray) (hl : l.length ≤ 9223372036854775807) (hx : ∀ x ∈ l, x.size ≤ 9223372036854775807) (d : Nat) : ∀ (i : Nat) (left : Int), i + d = l.length → 0 ≤ left → left ≤ 9223372036854775807 →
    Ev (fun k => laws_szStringS.l0 k l left (i : Int)) (if (letters (l.drop i) : Int) ≤ left then left - letters (l.drop i) else -1) := by
  induction d with
  | zero =>
    intro i left hi h0 h1
    apply ev_shift
    simp only [laws_szStringS.l0]
    refine ev_neg (by omega) (ev_cast (Ev.now _) ?_)
    rw [List.drop_eq_nil_of_le (by omega), show letters [] = 0 from rfl, if_pos (by omega)]
    omega
  | succ d ih =>
    intro i left hi h0 h1
    have hs := hx _ (getD_mem ByteArray.empty l i (by omega))
    apply ev_shift
    simp only [laws_szStringS.l0]
    rw [rdOf_nat, drop_cons ByteArray.empty l i (by omega), letters_cons]
    generalize hz : (l.getD i ByteArray.empty).size = z at hs
    rw [wrap_in (by omega) (by omega)]
    refine ev_pos (by omega) (ev_pos (by omega) ?_)
    by_cases c : left - (z : Int) < 0
    · refine ev_pos c (ev_cast (Ev.now _) ?_)
      rw [if_neg (by omega)]
    · rw [wrap_nat (by omega)]
      refine ev_neg c (ev_cast (ih (i + 1) _ (by omega) (by omega) (by omega)) ?_)
      by_cases c2 : (letters (l.drop (i + 1)) : Int) ≤ left - z
      · rw [if_pos c2, if_pos (by omega)]
        omega
      · rw [if_neg c2, if_neg (by omega)]
theorem szStringS_ev (l : List ByteArray) (hl : l.length ≤ 9223372036854775807) (hx : ∀ x ∈ l, x.size ≤ 9223372036854775807) (left : Int) (h0 : 0 ≤ left) (h1 : left ≤ 9223372036854775807) :
    Ev (fun k => laws_szStringS.f k l left) (leftS l left) := by
  unfold laws_szStringS.f leftS
  rw [wrap_in (by omega) (by omega)]
  by_cases c : left - (l.length : Int) < 0
  · refine ev_pos c (ev_cast (Ev.now _) ?_)
    rw [if_neg (by omega)]
  · refine ev_neg c (ev_cast (szStringS_l l hl hx l.length 0 _ (by omega) (by omega) (by omega)) ?_)
    rw [List.drop_zero]
    by_cases c2 : (l.length : Int) + letters l ≤ left
    · rw [if_pos c2, if_pos (by omega)]
    · rw [if_neg c2, if_neg (by omega)]
theorem szFs_m (a : List S53) (b : List ByteArray) (m : Int) (h0 : 0 ≤ m) (h1 : m ≤ 1048576) (ha : a.length ≤ maxLen) (hx : ∀ x ∈ a, x.f4.length ≤ maxLen) (hb : b.length ≤ maxLen) (hy : ∀ x ∈ b, x.size ≤ maxLen) :
    ∃ r : Int, Ev (fun k => laws_szFs.f k a b m) r ∧ r ≤ m ∧ (0 ≤ r → a.length ≤ 1048576 ∧ (∀ x ∈ a, x.f4.length ≤ 1048576) ∧ b.length + letters b ≤ 1048576) := by
  have hm : maxLen ≤ 9223372036854775807 := by decide
  obtain ⟨r, er, hr1, hr2⟩ := szNodeS_ev a m h0 h1 ha hx
  unfold laws_szFs.f
  by_cases c : r < 0
  · exact ⟨-1, Ev.bind er (ev_pos c (Ev.now _)), by omega, by omega⟩
  · obtain ⟨h3, h4⟩ := hr2 (by omega)
    have h5 := szStringS_ev b (by omega) (fun x h => by have := hy x h; omega) r (by omega) (by omega)
    unfold leftS at h5
    by_cases c2 : (b.length : Int) + letters b ≤ r
    · rw [if_pos c2] at h5
      refine ⟨_, Ev.bind er (ev_neg c (Ev.bind h5 (ev_neg (by omega) (Ev.now _)))), by omega, fun _ => ⟨by omega, fun x hx2 => ?_, by omega⟩⟩
      have := h4 x hx2
      omega
    · rw [if_neg c2] at h5
      exact ⟨-1, Ev.bind er (ev_neg c (Ev.bind h5 (ev_pos (by omega) (Ev.now _)))), by omega, by omega⟩
theorem copy_step {α : Type} (d : α) (l : List α) (i : Nat) (h : i < l.length) : (l.take i ++ List.replicate (l.length - i) d).set i (l.getD i d) = l.take (i + 1) ++ List.replicate (l.length - (i + 1)) d := by
  have hlen : (l.take i).length = i := by simp; omega
  rw [List.set_append_right _ _ (by omega), hlen, Nat.sub_self]
  obtain ⟨m, hm⟩ : ∃ m, l.length - i = m + 1 := ⟨l.length - i - 1, by omega⟩
  rw [hm, List.replicate_succ, List.set_cons_zero, List.take_succ_eq_append_getElem h, List.append_assoc]
  have : l.length - (i + 1) = m := by omega
  rw [this]
  simp [List.getD, h]
theorem toIntS_ev (l : List Int) (h : l.length ≤ 1099511627776) : Ev (fun k => laws_toIntS.f k l) l := by
  unfold laws_toIntS.f
  refine ev_pos (by omega) (ev_pos (by omega) ?_)
  have := ev_loop (fun k i => laws_toIntS.l0 k l (l.take i ++ List.replicate (l.length - i) 0) (i : Int)) (fun _ => l) l.length ?_ ?_ 0 (Nat.zero_le _)
  · simpa using this
  · simp only [laws_toIntS.l0]
    refine ev_neg (by omega) ?_
    simp only [List.take_length, Nat.sub_self, List.replicate_zero, List.append_nil]
    exact Ev.now _
  · intro i hi e
    simp only [laws_toIntS.l0]
    refine ev_pos (by omega) (ev_pos (by omega) (ev_pos (by simp; omega) ?_))
    rw [wrap_nat (by omega), rd_nat, Int.toNat_natCast, copy_step 0 l i hi]
    exact e
theorem toNode_ev (f0 f1 f2 f3 : Int) (bl : List Int) (h : bl.length ≤ 1048576) : Ev (fun k => laws_toNode.f k f0 f1 f2 f3 bl) (f0, f1, f2, f3, bl) := by
  unfold laws_toNode.f
  exact Ev.bind (toIntS_ev bl (by omega)) (Ev.now _)
theorem toNodeS_ev (l : List S53) (h : l.length ≤ 1048576) (hx : ∀ x ∈ l, x.f4.length ≤ 1048576) : Ev (fun k => laws_toNodeS.f k l) (l.map ofLNode) := by
  unfold laws_toNodeS.f
  refine ev_pos (by omega) (ev_pos (by omega) ?_)
  have := ev_loop (fun k i => laws_toNodeS.l0 k l ((l.map ofLNode).take i ++ List.replicate ((l.map ofLNode).length - i) z40) (i : Int)) (fun _ => l.map ofLNode) l.length ?_ ?_ 0 (Nat.zero_le _)
  · simpa using this
  · simp only [laws_toNodeS.l0]
    refine ev_neg (by omega) ?_
    have e1 : (l.map ofLNode).length - l.length = 0 := by rw [List.length_map]; omega
    have e2 : (l.map ofLNode).take l.length = l.map ofLNode := List.take_of_length_le (by rw [List.length_map]; omega)
    rw [e1, e2, List.replicate_zero, List.append_nil]
    exact Ev.now _
  · intro i hi e
    simp only [laws_toNodeS.l0, rdLNode_nat]
    refine ev_pos (by omega) (ev_pos (by omega) (Ev.bind (toNode_ev _ _ _ _ _ (hx _ (getD_mem z53 l i hi))) (ev_pos (by simp; omega) ?_)))
    have hi2 : i < (l.map ofLNode).length := by rw [List.length_map]; exact hi
    have hs := copy_step z40 (l.map ofLNode) i hi2
    have hg : (l.map ofLNode).getD i z40 = ⟨(l.getD i z53).f0, (l.getD i z53).f1, (l.getD i z53).f2, (l.getD i z53).f3, (l.getD i z53).f4⟩ := by simp [List.getD, hi, ofLNode]
    rw [hg] at hs
    dsimp only
    rw [wrap_nat (by omega), Int.toNat_natCast, hs]
    exact e
theorem toStringS_ev (l : List ByteArray) (h : l.length ≤ 1099511627776) : Ev (fun k => laws_toStringS.f k l) l := by
  unfold laws_toStringS.f
  refine ev_pos (by omega) (ev_pos (by omega) ?_)
  have := ev_loop (fun k i => laws_toStringS.l0 k l (l.take i ++ List.replicate (l.length - i) (⟨#[]⟩ : ByteArray)) (i : Int)) (fun _ => l) l.length ?_ ?_ 0 (Nat.zero_le _)
  · simpa using this
  · simp only [laws_toStringS.l0]
    refine ev_neg (by omega) (ev_cast (Ev.now _) ?_)
    simp
  · intro i hi e
    simp only [laws_toStringS.l0]
    refine ev_pos (by omega) (ev_pos (by omega) (ev_pos (by simp; omega) ?_))
    rw [wrap_nat (by omega), rdOf_nat, Int.toNat_natCast]
    rw [show (⟨#[]⟩ : ByteArray) = ByteArray.empty from rfl] at e ⊢
    rw [copy_step ByteArray.empty l i hi]
    exact e
theorem toFs_ev (a : List S53) (b : List ByteArray) (ha : a.length ≤ 1048576) (hx : ∀ x ∈ a, x.f4.length ≤ 1048576) (hb : b.length ≤ 1048576) : Ev (fun k => laws_toFs.f k a b) (a.map ofLNode, b) := by
  unfold laws_toFs.f
  exact Ev.bind (toNodeS_ev a ha hx) (Ev.bind (toStringS_ev b (by omega)) (Ev.now _))
theorem FnExactFreeOf : laws_FnExactFreeOf.Pure := by
  rintro a b ⟨ha, hx⟩ ⟨hb, hy⟩
  apply Ev.rounds (g := fun k => laws_FnExactFreeOf.f k a b)
  unfold laws_FnExactFreeOf.f
  obtain ⟨r, er, hr1, hr⟩ := szFs_m a b 1048576 (by omega) (by omega) ha (fun x h => (hx x h).2.2.2.2.1) hb hy
  refine Ev.bind er ?_
  by_cases c : r < 0
  · exact ev_pos c (Ev.now _)
  · obtain ⟨h1, h2, h3⟩ := hr (by omega)
    have ht := toFs_ev a b h1 h2 (by omega)
    have hlm : (a.map ofLNode).length ≤ 1048576 := by rw [List.length_map]; omega
    have hlx : ∀ x ∈ a.map ofLNode, x.f4.length ≤ 1048576 := fun x h => by
      obtain ⟨y, hy2, rfl⟩ := List.mem_map.1 h
      exact h2 y hy2
    generalize a.map ofLNode = d at ht hlm hlx
    obtain ⟨v, e1, e2, hv⟩ := ShapeOk_both d b hlx
    have key : ∃ n : Int, Ev (fun k => spec_FreeOf.f k d b) n ∧ Ev (fun k => impl_FreeOf.f k d b) n := by
      unfold spec_FreeOf.f impl_FreeOf.f
      by_cases c2 : v = true
      · obtain ⟨k1, k2, k3, k4, k5, k6⟩ := hv.1 c2
        have hn2 := (all_from d (fun x => nOk x = true)).1 k4
        obtain ⟨hf1, hf2⟩ := flat_facts d (by omega) hn2
        obtain ⟨r2, eo, o1, o2⟩ := owners_ev d b hf2 (by omega) (by omega) (by omega)
        have ho : ownInv b.length (flat d) r2.1 := by
          by_cases c3 : r2.2 = true
          · exact o1 c3
          · exact absurd k5 (o2 (by simpa using c3))
        refine ⟨freeGo (flat d) b.length 0 0, Ev.bind e1 (ev_pos c2 (Ev.bind (used_ev d b (by omega) (by omega) (by omega)) (spec_free_l (flat d) d b (by omega) b.length 0 0 (Nat.zero_add _) (by omega) (by omega)))), Ev.bind e2 (ev_pos c2 (Ev.bind eo ?_))⟩
        rw [ho.1]
        exact impl_free_l (flat d) r2.1 b.length ho (by omega) b.length 0 0 (Nat.zero_add _) (by omega) (by omega)
      · exact ⟨0, Ev.bind e1 (ev_neg c2 (Ev.now _)), Ev.bind e2 (ev_neg c2 (Ev.now _))⟩
    obtain ⟨n, i1, i2⟩ := key
    exact ev_neg c (Ev.bind ht (Ev.bind i1 (Ev.bind ht (Ev.bind i2 (ev_pos rfl (Ev.bind ht (Ev.bind (eqFs_refl d b (by omega) hlx (by omega)) (ev_pos rfl (Ev.now _)))))))))
end Go.Proofs.Ytapliilimfgdjaa.Pure
