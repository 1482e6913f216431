/- FnExactNormal: the law's function of the print answers true for every input within the row's bounds. Conditions: none but the bounds that the row itself gives. -/
import Derived.Test.YtbhgafobkneafaaPFnExactNormalx5
import Derived.OpenShut
import Derived.Laws.BitsLemmas
import Derived.Lib.Strings
import Derived.Lib.IndexBytes
import Derived.Lib.Split
import Derived.Lib.SmallJoins
namespace Go.Proofs.Ytbhgafobkneafaa.Pure
open Go Go.RowKit Go.Proofs.Ytbhgafobkneafaa.PFnExactNormal Go.Proofs.YtbhgafobkneafaaW.PrintWords Go.Proofs.YtbhgafobkneafaaW.PrintLast Go.Proofs.YtbhgafobkneafaaW.PrintMore
set_option linter.unusedVariables false
set_option linter.unusedSimpArgs false

theorem ev_neg {α : Type} {c : Prop} [Decidable c] {f g : Nat → Option α} {r : α} (h : ¬ c) (e : Ev g r) : Ev (fun k => if c then f k else g k) r := by
  simpa only [if_neg h] using e
theorem ev_pos {α : Type} {c : Prop} [Decidable c] {f g : Nat → Option α} {r : α} (h : c) (e : Ev f r) : Ev (fun k => if c then f k else g k) r := by
  simpa only [if_pos h] using e
theorem rd_nat (xs : List Int) (i : Nat) : rd xs (i : Int) = xs.getD i 0 := by simp [rd]
theorem bt_nat (s : ByteArray) (i : Nat) : bt s (i : Int) = (bytesOf s).getD i 0 := by rw [← rd_bytesOf, rd_nat]
theorem bt_47 (s : ByteArray) (i : Nat) (h : i < s.data.toList.length) : bt s (i : Int) = 47 ↔ s.data.toList[i] = 47 := by
  rw [bt_nat]
  have hb : i < (bytesOf s).length := by simpa [bytesOf] using h
  have e : (bytesOf s).getD i 0 = (s.data.toList[i].toNat : Int) := by
    unfold bytesOf
    rw [List.getD_eq_getElem?_getD, List.getElem?_map, List.getElem?_eq_getElem h]
    rfl
  rw [e]
  constructor
  · intro hz
    apply UInt8.toNat_inj.mp
    show s.data.toList[i].toNat = 47
    omega
  · intro hz
    rw [hz]
    rfl
theorem dlen (s : ByteArray) : s.data.toList.length = s.size := by
  cases s
  simp [ByteArray.size]
theorem ev_eq {α β : Type} {o : Option α} {a : α} {f : Nat → α → Option β} {r : β} (h : o = some a) (e : Ev (fun k => f k a) r) : Ev (fun k => o.bind (f k)) r := by
  subst h
  exact e
theorem ev_shift {α : Type} {g : Nat → Option α} {r : α} (h : Ev (fun k => g (k + 1)) r) : Ev g r := Ev.step (f := fun k => g (k + 1)) (fun _ => rfl) h
theorem hasPrefix_eq (a b : ByteArray) : strings_HasPrefix.f a b = some (decide (b.data.toList <+: a.data.toList)) := by
  unfold strings_HasPrefix.f stringslite_HasPrefix.f
  have la := dlen a
  have lb := dlen b
  by_cases h : (a.size : Int) ≥ (b.size : Int)
  · rw [if_pos h, if_pos (by omega), if_pos (by omega), Int.toNat_natCast, ByteArray.toList_eq, ByteArray.toList_eq, Go.Lib.extract_data, List.drop_zero, Nat.sub_zero]
    simp only [Option.bind_some]
    congr 1
    rw [← lb, Bool.eq_iff_iff, beq_iff_eq, decide_eq_true_iff, List.prefix_iff_eq_take]
    exact ⟨fun z => z.symm, fun z => z.symm⟩
  · rw [if_neg h]
    simp only [Option.bind_some]
    congr 1
    symm
    rw [decide_eq_false_iff_not]
    intro hp
    have := hp.length_le
    omega
def partsGo (s : ByteArray) (c : Int) : Nat → Nat → Nat → List ByteArray → List ByteArray
  | 0, frm, i, acc => acc ++ [s.extract frm i]
  | d + 1, frm, i, acc => if bt s (i : Int) = c then partsGo s c d (i + 1) (i + 1) (acc ++ [s.extract frm i]) else partsGo s c d frm (i + 1) acc
theorem wrap_nat {i : Nat} (h : i < 9223372036854775807) : wrap64 ((i : Int) + 1) = ((i + 1 : Nat) : Int) := by
  unfold wrap64
  omega
theorem impl_parts_l (s : ByteArray) (c : Int) (hs : s.size ≤ 1099511627776) (d : Nat) : ∀ (frm i : Nat) (acc : List ByteArray), i + d = s.size → frm ≤ i → acc.length ≤ i →
    Ev (fun k => impl_Parts.l0 k s c acc (frm : Int) (i : Int)) (partsGo s c d frm i acc) := by
  induction d with
  | zero =>
    intro frm i acc hi hf ha
    obtain rfl : i = s.size := by omega
    apply ev_shift
    simp only [impl_Parts.l0, partsGo]
    refine ev_neg (by omega) (ev_pos (by omega) (ev_pos (by omega) (ev_pos (by omega) ?_)))
    rw [Int.toNat_natCast]
    exact Ev.now _
  | succ d ih =>
    intro frm i acc hi hf ha
    apply ev_shift
    simp only [impl_Parts.l0, partsGo]
    refine ev_pos (by omega) (ev_pos (by omega) ?_)
    rw [wrap_nat (by omega), Int.toNat_natCast, Int.toNat_natCast]
    by_cases h : bt s (i : Int) = c
    · rw [if_pos h]
      refine ev_pos h (ev_pos (by omega) (ev_pos (by omega) (ev_pos (by omega) (ev_pos (by omega) ?_))))
      exact ih (i + 1) (i + 1) _ (by omega) (by omega) (by simp; omega)
    · rw [if_neg h]
      exact ev_neg h (ih frm (i + 1) acc (by omega) (by omega) (by omega))
def parts (s : ByteArray) (c : Int) : List ByteArray := partsGo s c s.size 0 0 []
theorem impl_Parts_ev (s : ByteArray) (c : Int) (hs : s.size ≤ 1099511627776) : Ev (fun k => impl_Parts.f k s c) (parts s c) :=
  impl_parts_l s c hs s.size 0 0 [] (by omega) (by omega) (by simp)
def nameCh (c : Int) : Bool := decide (97 ≤ c ∧ c ≤ 122 ∨ 48 ≤ c ∧ c ≤ 57)
def nameOk (s : ByteArray) : Bool := decide (1 ≤ s.size ∧ s.size ≤ 6) && (bytesOf s).all nameCh
theorem dropLast_ok {l : List ByteArray} (h : ∀ x ∈ l, nameOk x = true) : ∀ x ∈ l.dropLast, nameOk x = true := fun x hx => h x (List.dropLast_subset _ hx)
theorem drop_cons {α : Type} (d : α) (l : List α) (i : Nat) (h : i < l.length) : l.drop i = l.getD i d :: l.drop (i + 1) := by
  rw [List.drop_eq_getElem_cons h]
  simp [List.getD, h]
theorem getD_mem {α : Type} (d : α) (l : List α) (i : Nat) (h : i < l.length) : l.getD i d ∈ l := by
  simp [List.getD, h]
theorem ev_cast {α : Type} {g : Nat → Option α} {r r' : α} (h : Ev g r) (e : r = r') : Ev g r' := e ▸ h
theorem all_drop (s : ByteArray) (i : Nat) (h : i < s.size) : ((bytesOf s).drop i).all nameCh = (nameCh (bt s i) && ((bytesOf s).drop (i + 1)).all nameCh) := by
  rw [drop_cons 0 (bytesOf s) i (by rw [bytesOf_length]; exact h), bt_nat]
  rfl
theorem ev_loop {ρ : Type} (L : Nat → Nat → Option ρ) (res : Nat → ρ) (n : Nat) (he : Ev (fun k => L (k + 1) n) (res n))
    (hs : ∀ i, i < n → Ev (fun k => L k (i + 1)) (res (i + 1)) → Ev (fun k => L (k + 1) i) (res i)) : ∀ i, i ≤ n → Ev (fun k => L k i) (res i) := by
  have key : ∀ d i, i + d = n → Ev (fun k => L k i) (res i) := by
    intro d
    induction d with
    | zero =>
      intro i h
      obtain rfl : i = n := by omega
      exact ev_shift he
    | succ d ih =>
      intro i h
      exact ev_shift (hs i (by omega) (ih (i + 1) (by omega)))
  intro i h
  exact key (n - i) i (by omega)
theorem impl_nameOk_l (s : ByteArray) (h : s.size ≤ 140737488351232) : Ev (fun k => impl_NameOk.l0 k s (s.size : Int) 0) ((bytesOf s).all nameCh) := by
  have := ev_loop (fun k i => impl_NameOk.l0 k s (s.size : Int) (i : Int)) (fun i => ((bytesOf s).drop i).all nameCh) s.size ?_ ?_ 0 (Nat.zero_le _)
  · exact this
  · simp only [impl_NameOk.l0]
    refine ev_neg (by omega) (ev_cast (Ev.now _) ?_)
    rw [List.drop_eq_nil_of_le (by rw [bytesOf_length]; omega)]
    rfl
  · intro i hi e
    simp only [impl_NameOk.l0]
    rw [wrap_nat (by omega), all_drop s i hi]
    refine ev_pos (by omega) (ev_pos (by omega) (ev_pos (by omega) ?_))
    by_cases hc : nameCh (bt s i) = true
    · simp only [hc, Bool.true_and]
      have hc' : 97 ≤ bt s i ∧ bt s i ≤ 122 ∨ 48 ≤ bt s i ∧ bt s i ≤ 57 := by simpa [nameCh] using hc
      by_cases h1 : bt s i < 97
      · exact ev_pos h1 (ev_neg (by omega) (ev_neg (by omega) e))
      · exact ev_neg h1 (ev_neg (by omega) e)
    · have hc' : ¬ (97 ≤ bt s i ∧ bt s i ≤ 122 ∨ 48 ≤ bt s i ∧ bt s i ≤ 57) := by simpa [nameCh] using hc
      simp only [Bool.eq_false_iff.mpr hc, Bool.false_and]
      by_cases h1 : bt s i < 97
      · refine ev_pos h1 ?_
        by_cases h2 : bt s i < 48
        · exact ev_pos h2 (Ev.now _)
        · exact ev_neg h2 (ev_pos (by omega) (Ev.now _))
      · exact ev_neg h1 (ev_pos (by omega) (ev_neg (by omega) (ev_pos (by omega) (Ev.now _))))
theorem impl_NameOk_ev (s : ByteArray) (h : s.size ≤ 140737488351232) : Ev (fun k => impl_NameOk.f k s) (nameOk s) := by
  unfold impl_NameOk.f
  by_cases hs : 1 ≤ s.size ∧ s.size ≤ 6
  · refine ev_eq (a := true) (by unfold impl_within.f; rw [if_pos (by omega)]; simp; omega) (ev_pos rfl ?_)
    refine ev_cast (impl_nameOk_l s h) ?_
    simp [nameOk, hs]
  · refine ev_eq (a := false) (by unfold impl_within.f; split <;> simp <;> omega) (ev_neg (by simp) (ev_cast (Ev.now _) ?_))
    simp only [nameOk, decide_eq_false hs, Bool.false_and]
theorem drop_all {l : List ByteArray} {i : Nat} (h : i < l.length) : (l.drop i).all nameOk = (nameOk (l.getD i ByteArray.empty) && (l.drop (i + 1)).all nameOk) := by
  rw [drop_cons ByteArray.empty l i h]
  rfl
theorem impl_PathOf_1_ev (s : ByteArray) (h : s.size ≤ 140737488351232) : Ev (fun k => impl_PathOf_1.f k s) (!nameOk s) := by
  unfold impl_PathOf_1.f
  exact Ev.bind (impl_NameOk_ev s h) (Ev.now _)
theorem rdOf_nat {α : Type} (d : α) (xs : List α) (i : Nat) : rdOf d xs (i : Int) = xs.getD i d := by simp [rdOf]
theorem index_PathOf (l : List ByteArray) (hl : l.length ≤ 140737488351232) (hx : ∀ x ∈ l, x.size ≤ 140737488351232) (d : Nat) : ∀ i, i + d = l.length →
    ∃ r : Int, Ev (fun k => slices_IndexFunc_string_string_PathOf_1.l0 k l (l.length : Int) (i : Int)) r ∧ decide (r ≥ 0) = !(l.drop i).all nameOk := by
  induction d with
  | zero =>
    intro i hi
    refine ⟨-1, ev_shift ?_, ?_⟩
    · simp only [slices_IndexFunc_string_string_PathOf_1.l0]
      exact ev_neg (by omega) (Ev.now _)
    · rw [List.drop_eq_nil_of_le (by omega)]
      rfl
  | succ d ih =>
    intro i hi
    have he := impl_PathOf_1_ev _ (hx _ (getD_mem ByteArray.empty l i (by omega)))
    rw [drop_all (by omega)]
    cases hn : nameOk (l.getD i ByteArray.empty)
    · refine ⟨i, ev_shift ?_, by simp⟩
      simp only [slices_IndexFunc_string_string_PathOf_1.l0]
      refine ev_pos (by omega) (ev_pos (by omega) (ev_pos (by omega) ?_))
      rw [rdOf_nat]
      refine Ev.bind he (ev_pos ?_ (Ev.now _))
      rw [hn]
      rfl
    · obtain ⟨r, e, hr⟩ := ih (i + 1) (by omega)
      refine ⟨r, ev_shift ?_, by rw [hr, Bool.true_and]⟩
      simp only [slices_IndexFunc_string_string_PathOf_1.l0]
      refine ev_pos (by omega) (ev_pos (by omega) (ev_pos (by omega) ?_))
      rw [rdOf_nat, wrap_nat (by omega)]
      refine Ev.bind he (ev_neg ?_ e)
      rw [hn]
      simp
theorem contains_PathOf (l : List ByteArray) (hl : l.length ≤ 140737488351232) (hx : ∀ x ∈ l, x.size ≤ 140737488351232) : Ev (fun k => slices_ContainsFunc_string_string_PathOf_1.f k l) (!l.all nameOk) := by
  unfold slices_ContainsFunc_string_string_PathOf_1.f slices_IndexFunc_string_string_PathOf_1.f
  obtain ⟨r, e, hr⟩ := index_PathOf l hl hx l.length 0 (by omega)
  exact Ev.bind e (ev_cast (Ev.now _) hr)
/-- The letters of all texts. -/
def letters (l : List ByteArray) : Nat := (l.map ByteArray.size).sum
theorem letters_cons (x : ByteArray) (l : List ByteArray) : letters (x :: l) = x.size + letters l := rfl
theorem letters_mem {l : List ByteArray} {x : ByteArray} (h : x ∈ l) : x.size ≤ letters l := by
  induction l with
  | nil => cases h
  | cons y l ih =>
    rw [letters_cons]
    rcases List.mem_cons.mp h with rfl | h
    · omega
    · have := ih h
      omega
/-- Each name behind a slash. -/
def PJ (l : List ByteArray) : List UInt8 := l.flatMap fun x => 47 :: x.data.toList
/-- The names, each behind a slash, as a text. -/
def pj (l : List ByteArray) : ByteArray := ⟨(PJ l).toArray⟩
/-- What PathOf returns. -/
def pathOfV (l : List ByteArray) : ByteArray := if l.length ≤ 4 ∧ l.all nameOk = true then (if l = [] then ⟨#[47]⟩ else pj l) else ⟨#[]⟩
theorem pj_list (l : List ByteArray) : (pj l).data.toList = PJ l := rfl
theorem PJ_cons (x : ByteArray) (l : List ByteArray) : PJ (x :: l) = 47 :: (x.data.toList ++ PJ l) := rfl
theorem pj_size (l : List ByteArray) : (pj l).size = l.length + letters l := by
  rw [← dlen, pj_list]
  induction l with
  | nil => rfl
  | cons x l ih =>
    rw [PJ_cons, List.length_cons, List.length_append, ih, dlen, letters_cons, List.length_cons]
    omega
theorem slash_join (l : List ByteArray) (h : l ≠ []) : 47 :: Go.Lib.join (l.map (·.data.toList)) [47] = PJ l := by
  cases l with
  | nil => exact absurd rfl h
  | cons x l =>
    rw [List.map_cons, Go.Lib.join_cons, PJ_cons]
    congr 2
    unfold Go.Lib.joinTail
    induction l with
    | nil => rfl
    | cons y l ih =>
      rw [List.map_cons, List.map_cons, List.flatten_cons, PJ_cons, ih (by simp)]
      rfl
theorem impl_PathOf_ev (l : List ByteArray) (h : l.length + letters l ≤ 1099511627776) : Ev (fun k => impl_PathOf.f k l) (pathOfV l) := by
  have hx : ∀ x ∈ l, x.size ≤ 140737488351232 := fun x hx => by have := letters_mem hx; omega
  have hj : ((47 : UInt8) :: Go.Lib.join (l.map (·.data.toList)) [47]).length ≤ 1099511627777 := by
    by_cases h0 : l = []
    · subst h0
      simp [Go.Lib.join]
    · rw [slash_join l h0]
      have := pj_size l
      rw [← dlen, pj_list] at this
      omega
  rw [List.length_cons] at hj
  unfold impl_PathOf.f
  refine ev_eq (a := ⟨(Go.Lib.join (l.map (·.data.toList)) [47]).toArray⟩) (by unfold strings_Join.f; rw [if_pos ⟨by omega, Nat.le_trans (Nat.le_of_succ_le_succ hj) (by omega)⟩]) ?_
  have hsz : (⟨(Go.Lib.join (l.map (·.data.toList)) [47]).toArray⟩ : ByteArray).size = (Go.Lib.join (l.map (·.data.toList)) [47]).length := by rw [← dlen]
  refine ev_pos (by rw [hsz]; omega) ?_
  unfold pathOfV
  by_cases c : l.length ≤ 4
  · refine ev_neg (by omega) (Ev.bind (contains_PathOf l (by omega) hx) ?_)
    cases ha : l.all nameOk
    · exact ev_pos rfl (ev_cast (Ev.now _) (by simp))
    · refine ev_neg (by simp) (ev_cast (Ev.now _) ?_)
      rw [if_pos ⟨c, rfl⟩]
      by_cases h0 : l = []
      · subst h0
        rfl
      · rw [if_neg h0]
        apply Go.WideShapes.bytes_inj
        rw [Go.Joins.data_append, pj_list, ← slash_join l h0]
        rfl
  · refine ev_pos (by omega) (ev_cast (Ev.now _) ?_)
    rw [if_neg (fun z => c z.1)]
theorem mx_def (a b : Int) : mx a b = if a < b then b else a := rfl
/-- The names that a text's parts come to: '.' and nothing fall away, '..' takes the last away. -/
def normGo : List ByteArray → List ByteArray → Option (List ByteArray)
  | [], acc => some acc
  | x :: r, acc => if x.toList = [] ∨ x.toList = [46] then normGo r acc else if x.toList = [46, 46] then normGo r acc.dropLast else if nameOk x = true then normGo r (acc ++ [x]) else none
def normRes : Option (List ByteArray) → ByteArray × Bool
  | none => (⟨#[]⟩, false)
  | some l => (pathOfV l, (pathOfV l).toList != [])
theorem letters_le (c : Nat) (l : List ByteArray) (h : ∀ x ∈ l, x.size ≤ c) : letters l ≤ c * l.length := by
  induction l with
  | nil => simp [letters]
  | cons x l ih =>
    rw [letters_cons, List.length_cons, Nat.mul_succ]
    have h1 := h x (by simp)
    have h2 := ih (fun y hy => h y (List.mem_cons_of_mem _ hy))
    omega
theorem nameOk_size {x : ByteArray} (h : nameOk x = true) : 1 ≤ x.size ∧ x.size ≤ 6 := by
  unfold nameOk at h
  rw [Bool.and_eq_true] at h
  exact of_decide_eq_true h.1
theorem ok_bound {l : List ByteArray} (h : ∀ x ∈ l, nameOk x = true) (hl : l.length ≤ 61) : l.length + letters l ≤ 1099511627776 := by
  have h3 := letters_le 6 l (fun x hx => (nameOk_size (h x hx)).2)
  omega
theorem snoc_ok {l : List ByteArray} {y : ByteArray} (h : ∀ x ∈ l, nameOk x = true) (hy : nameOk y = true) : ∀ x ∈ l ++ [y], nameOk x = true := by
  intro x hx
  rcases List.mem_append.mp hx with hx | hx
  · exact h x hx
  · rw [List.mem_singleton.mp hx]
    exact hy
theorem wrap_in {x : Int} (h0 : -9223372036854775808 ≤ x) (h1 : x ≤ 9223372036854775807) : wrap64 x = x := by
  unfold wrap64
  omega
theorem impl_norm_l (L : List ByteArray) (hL : L.length ≤ 61) (hx : ∀ x ∈ L, x.size ≤ 60) (d : Nat) : ∀ (i : Nat) (acc : List ByteArray), i + d = L.length → acc.length ≤ i → (∀ x ∈ acc, nameOk x = true) →
    Ev (fun k => impl_Normal.l0 k acc L (L.length : Int) (i : Int)) (normRes (normGo (L.drop i) acc)) := by
  induction d with
  | zero =>
    intro i acc hi ha hok
    apply ev_shift
    simp only [impl_Normal.l0]
    refine ev_neg (by omega) ?_
    rw [List.drop_eq_nil_of_le (by omega)]
    exact Ev.bind (impl_PathOf_ev acc (ok_bound hok (by omega))) (Ev.now _)
  | succ d ih =>
    intro i acc hi ha hok
    have hsz := hx _ (getD_mem ByteArray.empty L i (by omega))
    apply ev_shift
    simp only [impl_Normal.l0]
    refine ev_pos (by omega) (ev_pos (by omega) (ev_pos (by omega) ?_))
    rw [rdOf_nat, drop_cons ByteArray.empty L i (by omega)]
    generalize hy : L.getD i ByteArray.empty = y at hsz
    unfold normGo
    have skip : Ev (fun k => impl_Normal.j2 k acc y L (L.length : Int) (i : Int) true) (normRes (normGo (L.drop (i + 1)) acc)) := by
      apply ev_shift
      simp only [impl_Normal.j2]
      rw [wrap_nat (by omega)]
      exact ev_pos trivial (ih (i + 1) acc (by omega) (by omega) hok)
    by_cases c1 : y.toList = []
    · rw [if_pos (.inl c1)]
      exact ev_pos c1 skip
    · refine ev_neg c1 ?_
      by_cases c2 : y.toList = [46]
      · rw [if_pos (.inr c2), show (y.toList == [46]) = true by rw [c2]; rfl]
        exact skip
      · rw [if_neg (by rintro (h | h) <;> contradiction), show (y.toList == ([46] : List UInt8)) = false by simpa using c2]
        apply ev_shift
        simp only [impl_Normal.j2]
        refine ev_neg (by simp) ?_
        rw [wrap_nat (by omega)]
        by_cases c3 : y.toList = [46, 46]
        · rw [if_pos c3]
          refine ev_pos c3 ?_
          rw [wrap_in (by omega) (by omega)]
          have e : mx 0 ((acc.length : Int) - 1) = ((acc.length - 1 : Nat) : Int) := by
            rw [mx_def]
            split <;> omega
          simp only [e, Int.toNat_natCast]
          rw [← List.dropLast_eq_take]
          exact ev_pos (by omega) (ev_pos (by omega) (ih (i + 1) _ (by omega) (by rw [List.length_dropLast]; omega) (dropLast_ok hok)))
        · rw [if_neg c3]
          refine ev_neg c3 (Ev.bind (impl_NameOk_ev y (by omega)) ?_)
          cases hn : nameOk y
          · exact ev_neg (by simp) (Ev.now _)
          · refine ev_pos rfl (ev_pos (by omega) ?_)
            rw [if_pos rfl]
            exact ih (i + 1) _ (by omega) (by simp; omega) (snoc_ok hok hn)
def normalV (s : ByteArray) : ByteArray × Bool := if 1 ≤ s.size ∧ s.size ≤ 60 ∧ bt s 0 = 47 then normRes (normGo (parts s 47) []) else (⟨#[]⟩, false)
theorem partsGo_length (s : ByteArray) (c : Int) (d : Nat) : ∀ frm i acc, (partsGo s c d frm i acc).length ≤ acc.length + d + 1 := by
  induction d with
  | zero => intro frm i acc; simp [partsGo]
  | succ d ih =>
    intro frm i acc
    rw [partsGo]
    split
    · have := ih (i + 1) (i + 1) (acc ++ [s.extract frm i])
      simp at this
      omega
    · have := ih frm (i + 1) acc
      omega
theorem parts_length (s : ByteArray) (c : Int) : (parts s c).length ≤ s.size + 1 := by
  have := partsGo_length s c s.size 0 0 []
  simp at this
  unfold parts
  omega
theorem partsGo_mem (s : ByteArray) (c : Int) (d : Nat) : ∀ frm i acc, i + d = s.size → (∀ x ∈ acc, x.size ≤ s.size) → ∀ x ∈ partsGo s c d frm i acc, x.size ≤ s.size := by
  have hx : ∀ a b, (s.extract a b).size ≤ s.size := by
    intro a b
    rw [ByteArray.size_extract]
    omega
  induction d with
  | zero =>
    intro frm i acc hi h x hm
    rw [partsGo, List.mem_append] at hm
    rcases hm with hm | hm
    · exact h x hm
    · rw [List.mem_singleton] at hm
      subst hm
      exact hx _ _
  | succ d ih =>
    intro frm i acc hi h x hm
    rw [partsGo] at hm
    split at hm
    · refine ih _ _ _ (by omega) ?_ x hm
      intro y hy
      rw [List.mem_append] at hy
      rcases hy with hy | hy
      · exact h y hy
      · rw [List.mem_singleton] at hy
        subst hy
        exact hx _ _
    · exact ih _ _ _ (by omega) h x hm
theorem parts_mem (s : ByteArray) (c : Int) : ∀ x ∈ parts s c, x.size ≤ s.size := partsGo_mem s c s.size 0 0 [] (by omega) (by simp)
theorem impl_Normal_ev (s : ByteArray) (hs : s.size ≤ 1099511627776) : Ev (fun k => impl_Normal.f k s) (normalV s) := by
  have hl := parts_length s 47
  have hm := parts_mem s 47
  have hj : Ev (fun k => impl_Normal.j0 k s true) (⟨#[]⟩, false) := by
    apply ev_shift
    simp only [impl_Normal.j0]
    exact ev_pos trivial (Ev.now _)
  unfold impl_Normal.f normalV
  by_cases c2 : (s.size : Int) > 60
  · rw [if_neg (by omega)]
    exact ev_pos c2 hj
  · refine ev_neg c2 (ev_eq (hasPrefix_eq _ _) ?_)
    have hb : decide ([47] <+: s.data.toList) = decide (1 ≤ s.size ∧ bt s 0 = 47) := by
      rw [decide_eq_decide]
      have hd := dlen s
      cases hq : s.data.toList with
      | nil =>
        rw [hq, List.length_nil] at hd
        simp
        omega
      | cons x r =>
        have h0 : 0 < s.data.toList.length := by rw [hq]; simp
        have h1 := bt_47 s 0 h0
        have h2 : s.data.toList[0] = x := by simp [hq]
        rw [h2] at h1
        have h3 : bt s 0 = 47 ↔ x = 47 := h1
        rw [h3]
        constructor
        · intro h
          obtain ⟨h4, _⟩ := List.cons_prefix_cons.mp h
          exact ⟨by omega, h4.symm⟩
        · rintro ⟨_, rfl⟩
          exact ⟨r, rfl⟩
    have hb' : decide ((⟨#[47]⟩ : ByteArray).data.toList <+: s.data.toList) = decide (1 ≤ s.size ∧ bt s 0 = 47) := hb
    rw [hb']
    by_cases c3 : 1 ≤ s.size ∧ bt s 0 = 47
    · rw [decide_eq_true c3, if_pos ⟨c3.1, by omega, c3.2⟩]
      apply ev_shift
      simp only [impl_Normal.j0]
      refine ev_neg (by simp) (Ev.bind (impl_Parts_ev s 47 hs) ?_)
      exact impl_norm_l (parts s 47) (by omega) (fun x hx => by have := hm x hx; omega) _ 0 [] (Nat.zero_add _) (by simp) (by simp)
    · rw [decide_eq_false c3, if_neg (fun z => c3 ⟨z.1, z.2.2⟩)]
      exact hj
theorem spec_parts_l (s : ByteArray) (c : Int) (hs : s.size ≤ 1099511627776) (d : Nat) : ∀ (frm i : Nat) (acc : List ByteArray), i + d = s.size → frm ≤ i → acc.length ≤ i →
    Ev (fun k => spec_Parts.l0 k s c acc (frm : Int) (i : Int)) (partsGo s c d frm i acc) := by
  induction d with
  | zero =>
    intro frm i acc hi hf ha
    apply ev_shift
    simp only [spec_Parts.l0]
    refine ev_pos (by omega) (ev_pos (by omega) (ev_pos (by omega) (ev_pos (by omega) (ev_pos (by omega) ?_))))
    rw [wrap_nat (by omega), Int.toNat_natCast, Int.toNat_natCast]
    apply ev_shift
    simp only [spec_Parts.l0, partsGo]
    exact ev_neg (by omega) (Ev.now _)
  | succ d ih =>
    intro frm i acc hi hf ha
    apply ev_shift
    simp only [spec_Parts.l0, partsGo]
    refine ev_pos (by omega) (ev_neg (by omega) (ev_pos (by omega) (ev_pos (by omega) ?_)))
    rw [wrap_nat (by omega), Int.toNat_natCast, Int.toNat_natCast]
    by_cases h : bt s (i : Int) = c
    · rw [if_pos h]
      refine ev_pos h (ev_pos (by omega) (ev_pos (by omega) (ev_pos (by omega) ?_)))
      exact ih (i + 1) (i + 1) _ (by omega) (by omega) (by simp; omega)
    · rw [if_neg h]
      exact ev_neg h (ih frm (i + 1) acc (by omega) (by omega) (by omega))
theorem spec_Parts_ev (s : ByteArray) (c : Int) (hs : s.size ≤ 1099511627776) : Ev (fun k => spec_Parts.f k s c) (parts s c) :=
  spec_parts_l s c hs s.size 0 0 [] (by omega) (by omega) (by simp)
theorem ev_some {α β : Type} {a : α} {f : Nat → α → Option β} {r : β} (e : Ev (fun k => f k a) r) : Ev (fun k => (some a).bind (f k)) r := e
theorem spec_nameOk_l (s : ByteArray) (h : s.size ≤ 140737488351232) : Ev (fun k => spec_NameOk.l0 k s 0) ((bytesOf s).all nameCh) := by
  have := ev_loop (fun k i => spec_NameOk.l0 k s (i : Int)) (fun i => ((bytesOf s).drop i).all nameCh) s.size ?_ ?_ 0 (Nat.zero_le _)
  · exact this
  · simp only [spec_NameOk.l0]
    refine ev_neg (by omega) (ev_cast (Ev.now _) ?_)
    rw [List.drop_eq_nil_of_le (by rw [bytesOf_length]; omega)]
    rfl
  · intro i hi e
    simp only [spec_NameOk.l0]
    rw [wrap_nat (by omega), all_drop s i hi]
    refine ev_pos (by omega) (ev_pos (by omega) ?_)
    by_cases hc : nameCh (bt s i) = true
    · simp only [hc, Bool.true_and]
      have hc' : 97 ≤ bt s i ∧ bt s i ≤ 122 ∨ 48 ≤ bt s i ∧ bt s i ≤ 57 := by simpa [nameCh] using hc
      by_cases h1 : 97 ≤ bt s i
      · exact ev_pos h1 (ev_pos (by omega) e)
      · exact ev_neg h1 (ev_pos (by omega) (ev_pos (by omega) e))
    · have hc' : ¬ (97 ≤ bt s i ∧ bt s i ≤ 122 ∨ 48 ≤ bt s i ∧ bt s i ≤ 57) := by simpa [nameCh] using hc
      simp only [Bool.eq_false_iff.mpr hc, Bool.false_and]
      by_cases h1 : 97 ≤ bt s i
      · refine ev_pos h1 (ev_neg (by omega) (ev_pos (by omega) (ev_neg (by omega) (Ev.now _))))
      · refine ev_neg h1 ?_
        by_cases h2 : 48 ≤ bt s i
        · exact ev_pos h2 (ev_neg (by omega) (Ev.now _))
        · exact ev_neg h2 (Ev.now _)
theorem spec_NameOk_ev (s : ByteArray) (h : s.size ≤ 140737488351232) : Ev (fun k => spec_NameOk.f k s) (nameOk s) := by
  unfold spec_NameOk.f
  by_cases hs : 1 ≤ s.size ∧ s.size ≤ 6
  · refine ev_eq (a := true) (by unfold spec_l1In.f; rw [if_pos (by omega)]; simp; omega) (ev_pos rfl ?_)
    refine ev_cast (spec_nameOk_l s h) ?_
    simp [nameOk, hs]
  · refine ev_eq (a := false) (by unfold spec_l1In.f; split <;> simp <;> omega) (ev_neg (by simp) (ev_cast (Ev.now _) ?_))
    simp only [nameOk, decide_eq_false hs, Bool.false_and]
theorem letters_take (l : List ByteArray) (i : Nat) : letters (l.take i) ≤ letters l := by
  induction l generalizing i with
  | nil => simp
  | cons x l ih =>
    cases i with
    | zero => simp [letters]
    | succ i =>
      rw [List.take_succ_cons, letters_cons, letters_cons]
      have := ih i
      omega
def pathGood (l : List ByteArray) : Bool := decide (2 ≤ (l.length : Int) ∧ (l.length : Int) ≤ 5) && (decide ((l.getD 0 ByteArray.empty).toList = []) && (l.drop 1).all nameOk)
def namesOf (s : ByteArray) : List ByteArray := if s.toList = [47] then [] else if pathGood (parts s 47) = true then (parts s 47).drop 1 else []
theorem namesOf_root : namesOf ⟨#[47]⟩ = [] := by
  unfold namesOf
  rw [if_pos (by rw [ByteArray.toList_eq])]
def pathOk (s : ByteArray) : Bool := if s.toList = [47] then true else pathGood (parts s 47)
theorem pathOk_root : pathOk ⟨#[47]⟩ = true := by
  unfold pathOk
  rw [if_pos (by rw [ByteArray.toList_eq])]
theorem PJ_47 {l : List ByteArray} (h : PJ l = [47]) : l.all nameOk = true → l = [] := by
  intro ha
  cases l with
  | nil => rfl
  | cons x l =>
    rw [PJ_cons] at h
    injection h with _ h
    have hx : x.data.toList = [] := (List.append_eq_nil_iff.mp h).1
    have := List.all_eq_true.mp ha x (by simp)
    unfold nameOk at this
    rw [Bool.and_eq_true] at this
    have h2 := of_decide_eq_true this.1
    have h3 := dlen x
    rw [hx, List.length_nil] at h3
    omega
def slashes (l : List ByteArray) : Nat := (l.map fun x => x.data.toList.count 47).sum
theorem PJ_count (l : List ByteArray) : (PJ l).count 47 = l.length + slashes l := by
  induction l with
  | nil => rfl
  | cons x l ih =>
    rw [PJ_cons, List.count_cons_self, List.count_append, ih]
    unfold slashes
    rw [List.map_cons, List.sum_cons, List.length_cons]
    omega
theorem PJ_head (l : List ByteArray) : PJ l = [] ∨ ∃ t, PJ l = 47 :: t := by
  cases l with
  | nil => exact .inl rfl
  | cons x l => exact .inr ⟨_, PJ_cons x l⟩
theorem split47 : ∀ (x y u v : List UInt8), (47 : UInt8) ∉ x → (47 : UInt8) ∉ y → (u = [] ∨ ∃ t, u = 47 :: t) → (v = [] ∨ ∃ t, v = 47 :: t) → x ++ u = y ++ v → x = y ∧ u = v
  | [], [], u, v, _, _, _, _, h => ⟨rfl, by simpa using h⟩
  | [], c :: y, u, v, _, hy, hu, _, h => by
    rcases hu with rfl | ⟨t, rfl⟩
    · simp at h
    · simp only [List.nil_append, List.cons_append, List.cons.injEq] at h
      exact absurd (by rw [← h.1]; simp : (47 : UInt8) ∈ c :: y) hy
  | c :: x, [], u, v, hx, _, _, hv, h => by
    rcases hv with rfl | ⟨t, rfl⟩
    · simp at h
    · simp only [List.nil_append, List.cons_append, List.cons.injEq] at h
      exact absurd (by rw [h.1]; simp : (47 : UInt8) ∈ c :: x) hx
  | c :: x, c' :: y, u, v, hx, hy, hu, hv, h => by
    simp only [List.cons_append, List.cons.injEq] at h
    have := split47 x y u v (fun z => hx (List.mem_cons_of_mem _ z)) (fun z => hy (List.mem_cons_of_mem _ z)) hu hv h.2
    exact ⟨by rw [h.1, this.1], this.2⟩
theorem PJ_inj_no : ∀ (a b : List ByteArray), (∀ x ∈ a, (47 : UInt8) ∉ x.data.toList) → (∀ x ∈ b, (47 : UInt8) ∉ x.data.toList) → PJ a = PJ b → a = b
  | [], [], _, _, _ => rfl
  | [], y :: b, _, _, h => by simp [PJ] at h
  | x :: a, [], _, _, h => by simp [PJ] at h
  | x :: a, y :: b, ha, hb, h => by
    rw [PJ_cons, PJ_cons] at h
    injection h with _ h
    have := split47 _ _ _ _ (ha x (by simp)) (hb y (by simp)) (PJ_head a) (PJ_head b) h
    rw [Go.WideShapes.bytes_inj this.1, PJ_inj_no a b (fun z hz => ha z (List.mem_cons_of_mem _ hz)) (fun z hz => hb z (List.mem_cons_of_mem _ hz)) this.2]
theorem slashes_zero (l : List ByteArray) : slashes l = 0 ↔ ∀ x ∈ l, (47 : UInt8) ∉ x.data.toList := by
  induction l with
  | nil => simp [slashes]
  | cons x l ih =>
    have e : slashes (x :: l) = x.data.toList.count 47 + slashes l := rfl
    rw [e]
    constructor
    · intro h y hy
      rcases List.mem_cons.mp hy with rfl | hy
      · exact List.count_eq_zero.mp (by omega)
      · exact ih.mp (by omega) y hy
    · intro h
      have h1 := List.count_eq_zero.mpr (h x (by simp))
      have h2 := ih.mpr (fun y hy => h y (List.mem_cons_of_mem _ hy))
      omega
theorem PJ_eq_len {a b : List ByteArray} (h : PJ a = PJ b) (hb : ∀ x ∈ b, (47 : UInt8) ∉ x.data.toList) (hl : a.length = b.length) : a = b := by
  have h1 := PJ_count a
  have h2 := PJ_count b
  have h3 := (slashes_zero b).mpr hb
  rw [h, h2, h3] at h1
  exact PJ_inj_no a b ((slashes_zero a).mp (by omega)) hb h
theorem nameOk_no (x : ByteArray) (h : nameOk x = true) : (47 : UInt8) ∉ x.data.toList := by
  intro hm
  unfold nameOk at h
  rw [Bool.and_eq_true, List.all_eq_true] at h
  have := h.2 (((47 : UInt8).toNat : Nat) : Int) (by
    unfold bytesOf
    rw [List.mem_map]
    exact ⟨47, hm, rfl⟩)
  revert this
  decide
theorem PJ_inj : ∀ (a b : List ByteArray), (∀ x ∈ a, nameOk x = true) → (∀ x ∈ b, nameOk x = true) → PJ a = PJ b → a = b
  | [], [], _, _, _ => rfl
  | [], y :: b, _, _, h => by simp [PJ] at h
  | x :: a, [], _, _, h => by simp [PJ] at h
  | x :: a, y :: b, ha, hb, h => by
    rw [PJ_cons, PJ_cons] at h
    injection h with _ h
    have := split47 _ _ _ _ (nameOk_no x (ha x (by simp))) (nameOk_no y (hb y (by simp))) (PJ_head a) (PJ_head b) h
    rw [Go.WideShapes.bytes_inj this.1, PJ_inj a b (fun z hz => ha z (List.mem_cons_of_mem _ hz)) (fun z hz => hb z (List.mem_cons_of_mem _ hz)) this.2]
theorem PJ_append (a b : List ByteArray) : PJ (a ++ b) = PJ a ++ PJ b := by
  unfold PJ
  rw [List.flatMap_append]
theorem partsGo_PJ (s : ByteArray) (d : Nat) : ∀ frm i acc, i + d = s.size → frm ≤ i → PJ (partsGo s 47 d frm i acc) = PJ acc ++ 47 :: s.data.toList.drop frm := by
  have hl := dlen s
  induction d with
  | zero =>
    intro frm i acc hi hf
    obtain rfl : i = s.size := by omega
    rw [partsGo, PJ_append]
    congr 1
    show 47 :: ((s.extract frm s.size).data.toList ++ []) = _
    rw [Go.Lib.extract_to_end, List.append_nil]
  | succ d ih =>
    intro frm i acc hi hf
    rw [partsGo]
    by_cases h : bt s (i : Int) = 47
    · rw [if_pos h, ih (i + 1) (i + 1) _ (by omega) (by omega), PJ_append, List.append_assoc]
      congr 1
      have h47 := (bt_47 s i (by omega)).mp h
      show 47 :: ((s.extract frm i).data.toList ++ []) ++ 47 :: s.data.toList.drop (i + 1) = 47 :: s.data.toList.drop frm
      rw [Go.Lib.extract_data, List.append_nil, List.cons_append]
      congr 1
      have e1 : s.data.toList.drop i = 47 :: s.data.toList.drop (i + 1) := by rw [List.drop_eq_getElem_cons (by omega), h47]
      rw [← e1]
      have e2 : s.data.toList.drop i = (s.data.toList.drop frm).drop (i - frm) := by rw [List.drop_drop]; congr 1; omega
      rw [e2, List.take_append_drop]
    · rw [if_neg h]
      exact ih frm (i + 1) acc (by omega) (by omega)
theorem parts_PJ (s : ByteArray) : PJ (parts s 47) = 47 :: s.data.toList := by
  exact (partsGo_PJ s s.size 0 0 [] (by omega) (by omega)).trans (by simp [PJ])
theorem ext_no (s : ByteArray) (a b : Nat) (h : ∀ j : Nat, a ≤ j → j < b → j < s.size → bt s (j : Int) ≠ 47) : (47 : UInt8) ∉ (s.extract a b).data.toList := by
  intro hm
  rw [Go.Lib.extract_data, List.mem_iff_getElem] at hm
  obtain ⟨i, hi, he⟩ := hm
  rw [List.length_take, List.length_drop, dlen] at hi
  rw [List.getElem_take, List.getElem_drop] at he
  exact h (a + i) (by omega) (by omega) (by omega) ((bt_47 s (a + i) (by rw [dlen]; omega)).mpr he)
theorem partsGo_no (s : ByteArray) (d : Nat) : ∀ frm i acc, i + d = s.size → (∀ j : Nat, frm ≤ j → j < i → bt s (j : Int) ≠ 47) → (∀ x ∈ acc, (47 : UInt8) ∉ x.data.toList) → ∀ x ∈ partsGo s 47 d frm i acc, (47 : UInt8) ∉ x.data.toList := by
  induction d with
  | zero =>
    intro frm i acc hi hf h x hm
    rw [partsGo, List.mem_append] at hm
    rcases hm with hm | hm
    · exact h x hm
    · rw [List.mem_singleton] at hm
      subst hm
      exact ext_no _ _ _ (fun j h1 h2 _ => hf j h1 h2)
  | succ d ih =>
    intro frm i acc hi hf h x hm
    rw [partsGo] at hm
    split at hm
    · refine ih _ _ _ (by omega) (fun j h1 h2 => by omega) ?_ x hm
      intro y hy
      rw [List.mem_append] at hy
      rcases hy with hy | hy
      · exact h y hy
      · rw [List.mem_singleton] at hy
        subst hy
        exact ext_no _ _ _ (fun j h1 h2 _ => hf j h1 h2)
    · rename_i hc
      refine ih _ _ _ (by omega) (fun j h1 h2 => ?_) h x hm
      by_cases e : j = i
      · rw [e]; exact hc
      · exact hf j h1 (by omega)
theorem parts_no (s : ByteArray) : ∀ x ∈ parts s 47, (47 : UInt8) ∉ x.data.toList := partsGo_no s s.size 0 0 [] (by omega) (fun j h1 h2 => by omega) (by simp)
theorem parts_pj (l : List ByteArray) (h : l.all nameOk = true) : parts (pj l) 47 = ByteArray.empty :: l := by
  refine PJ_inj_no _ _ (parts_no _) ?_ ?_
  · intro x hx
    rcases List.mem_cons.mp hx with rfl | hx
    · simp
    · exact nameOk_no x (List.all_eq_true.mp h x hx)
  · rw [parts_PJ, pj_list, PJ_cons]
    rfl
theorem partsGo_pos (s : ByteArray) (c : Int) (d : Nat) : ∀ frm i acc, 0 < (partsGo s c d frm i acc).length := by
  induction d with
  | zero => intro frm i acc; simp [partsGo]
  | succ d ih =>
    intro frm i acc
    rw [partsGo]
    split <;> exact ih _ _ _
theorem parts_pos (s : ByteArray) (c : Int) : 0 < (parts s c).length := partsGo_pos s c s.size 0 0 []
theorem pathGood_split {s : ByteArray} (h : pathGood (parts s 47) = true) : s.data.toList = PJ ((parts s 47).drop 1) ∧ ∀ x ∈ (parts s 47).drop 1, nameOk x = true := by
  unfold pathGood at h
  rw [Bool.and_eq_true, Bool.and_eq_true, List.all_eq_true] at h
  have hp := parts_PJ s
  have h1 := of_decide_eq_true h.2.1
  refine ⟨?_, h.2.2⟩
  have hpos := parts_pos s 47
  rw [show parts s 47 = (parts s 47).getD 0 ByteArray.empty :: (parts s 47).drop 1 from drop_cons ByteArray.empty (parts s 47) 0 hpos, PJ_cons] at hp
  rw [ByteArray.toList_eq] at h1
  rw [h1] at hp
  injection hp with _ hp
  exact hp.symm
theorem toList_47 (s : ByteArray) : s.toList = [47] ↔ s.data.toList = [47] := by rw [ByteArray.toList_eq]
theorem pathOut (l : List ByteArray) (h0 : l ≠ []) : (pathOk (pj l) && decide ((namesOf (pj l)).length = l.length)) = decide (l.length ≤ 4 ∧ l.all nameOk = true) := by
  have hpos : 0 < l.length := List.length_pos_iff.mpr h0
  unfold pathOk namesOf
  by_cases c : (pj l).toList = [47]
  · rw [if_pos c, if_pos c]
    have c' := PJ_47 ((toList_47 _).mp c)
    rw [List.length_nil, decide_eq_false (by omega : ¬ (0 = l.length)), decide_eq_false (fun h => h0 (c' h.2))]
    rfl
  · rw [if_neg c, if_neg c]
    cases hg : pathGood (parts (pj l) 47)
    · rw [Bool.false_and]
      symm
      rw [decide_eq_false_iff_not]
      rintro ⟨h4, ha⟩
      rw [parts_pj l ha] at hg
      unfold pathGood at hg
      rw [decide_eq_true (by simp only [List.length_cons]; omega), Bool.true_and] at hg
      rw [show (ByteArray.empty :: l).getD 0 ByteArray.empty = ByteArray.empty from rfl, decide_eq_true (by rw [ByteArray.toList_eq]; rfl), Bool.true_and] at hg
      rw [show (ByteArray.empty :: l).drop 1 = l from rfl, ha] at hg
      exact absurd hg (by simp)
    · rw [Bool.true_and, if_pos rfl, decide_eq_decide]
      obtain ⟨h1, h2⟩ := pathGood_split hg
      rw [pj_list] at h1
      constructor
      · intro hl
        have e := PJ_eq_len h1 (fun x hx => nameOk_no x (h2 x hx)) hl.symm
        unfold pathGood at hg
        rw [Bool.and_eq_true] at hg
        have h3 := of_decide_eq_true hg.1
        rw [List.length_drop] at hl
        refine ⟨by omega, List.all_eq_true.mpr (fun x hx => ?_)⟩
        rw [e] at hx
        exact h2 x hx
      · rintro ⟨h4, ha⟩
        have e := PJ_inj l _ (List.all_eq_true.mp ha) h2 h1
        rw [← e]
theorem pj_snoc (l : List ByteArray) (i : Nat) (h : i < l.length) : (pj (l.take i) ++ (⟨#[47]⟩ : ByteArray)) ++ l.getD i ByteArray.empty = pj (l.take (i + 1)) := by
  apply Go.WideShapes.bytes_inj
  rw [Go.Joins.data_append, Go.Joins.data_append, pj_list, pj_list, List.take_succ_eq_append_getElem h, PJ_append, List.append_assoc]
  congr 1
  rw [PJ_cons]
  simp [PJ, List.getD, h]
theorem decide_l1In (a lo hi : Int) : spec_l1In.f a lo hi = some (decide (lo ≤ a ∧ a ≤ hi)) := by
  unfold spec_l1In.f
  by_cases h : a ≥ lo
  · rw [if_pos h]
    congr 1
    rw [decide_eq_decide]
    omega
  · rw [if_neg h]
    congr 1
    symm
    rw [decide_eq_false_iff_not]
    omega
theorem spec_pathOk_l (l : List ByteArray) (hl : l.length ≤ 140737488351232) (hx : ∀ x ∈ l, x.size ≤ 140737488351232) (d : Nat) : ∀ i, i + d = l.length → Ev (fun k => spec_PathOk.l0 k l (i : Int)) ((l.drop i).all nameOk) := by
  induction d with
  | zero =>
    intro i hi
    apply ev_shift
    simp only [spec_PathOk.l0]
    refine ev_neg (by omega) (ev_cast (Ev.now _) ?_)
    rw [List.drop_eq_nil_of_le (by omega)]
    rfl
  | succ d ih =>
    intro i hi
    apply ev_shift
    simp only [spec_PathOk.l0]
    refine ev_pos (by omega) (ev_pos (by omega) ?_)
    rw [wrap_nat (by omega), rdOf_nat, drop_all (by omega)]
    refine Ev.bind (spec_NameOk_ev _ (hx _ (getD_mem _ _ _ (by omega)))) ?_
    cases nameOk (l.getD i ByteArray.empty)
    · exact ev_neg (by simp) (ev_cast (Ev.now _) (by simp))
    · exact ev_pos rfl (ev_cast (ih (i + 1) (by omega)) (by simp))
theorem spec_PathOk_ev (s : ByteArray) (hs : s.size ≤ 1099511627776) : Ev (fun k => spec_PathOk.f k s) (pathOk s) := by
  have hl := parts_length s 47
  have hm := parts_mem s 47
  have hp := parts_pos s 47
  unfold spec_PathOk.f pathOk pathGood
  by_cases c : s.toList = [47]
  · rw [if_pos c]
    exact ev_pos c (Ev.now _)
  · rw [if_neg c]
    refine ev_neg c (Ev.bind (spec_Parts_ev s 47 hs) (ev_eq (decide_l1In _ _ _) ?_))
    have hj : Ev (fun k => spec_PathOk.j0 k (parts s 47) true) false := by
      refine ev_shift ?_
      simp only [spec_PathOk.j0]
      exact ev_pos trivial (Ev.now _)
    by_cases c2 : 2 ≤ ((parts s 47).length : Int) ∧ ((parts s 47).length : Int) ≤ 5
    · rw [decide_eq_true c2]
      refine ev_pos rfl (ev_pos (by omega) ?_)
      rw [show rdOf ByteArray.empty (parts s 47) 0 = (parts s 47).getD 0 ByteArray.empty from rdOf_nat _ _ 0]
      refine ev_shift ?_
      simp only [spec_PathOk.j0]
      by_cases c3 : ((parts s 47).getD 0 ByteArray.empty).toList = []
      · rw [c3]
        refine ev_neg (by simp) (ev_cast (spec_pathOk_l (parts s 47) (by omega) (fun x hx => by have := hm x hx; omega) _ 1 (Nat.add_sub_cancel' (by omega))) ?_)
        simp
      · refine ev_pos (by simpa using c3) (ev_cast (Ev.now _) ?_)
        rw [decide_eq_false c3]
        simp
    · rw [decide_eq_false c2]
      exact ev_neg (by simp) (ev_cast hj (by simp))
theorem spec_l1Copy_eq (l : List ByteArray) (h : l.length < 8796093022208) : spec_l1Copy.f l = some l := by
  unfold spec_l1Copy.f
  simp only [Option.bind_some, List.length_nil, Nat.zero_add, List.nil_append]
  rw [if_pos h]
theorem spec_Names_ev (s : ByteArray) (hs : s.size ≤ 1099511627776) : Ev (fun k => spec_Names.f k s) (namesOf s) := by
  have hl := parts_length s 47
  have hp := parts_pos s 47
  have hj : Ev (fun k => spec_Names.j0 k s true) [] := by
    refine ev_shift ?_
    simp only [spec_Names.j0]
    exact ev_pos trivial (Ev.now _)
  unfold spec_Names.f namesOf
  refine Ev.bind (spec_PathOk_ev s hs) ?_
  unfold pathOk
  by_cases c : s.toList = [47]
  · rw [if_pos c, if_pos c]
    refine ev_pos rfl (ev_cast ?_ rfl)
    rw [c]
    exact hj
  · rw [if_neg c, if_neg c]
    cases h : pathGood (parts s 47)
    · exact ev_neg (by simp) (ev_cast hj (by simp))
    · refine ev_pos rfl (ev_shift ?_)
      simp only [spec_Names.j0]
      refine ev_neg (by simpa using c) (Ev.bind (spec_Parts_ev s 47 hs) (ev_pos (by omega) (ev_eq (spec_l1Copy_eq _ (by rw [List.length_drop]; omega)) (ev_cast (Ev.now _) ?_))))
      simp
theorem spec_PathOf_j (l : List ByteArray) (o : ByteArray) (ho : o.size ≤ 1099511627776) (hl : l.length ≤ 1099511627776) : Ev (fun k => spec_PathOf.j1 k l o) (if (pathOk o && decide ((namesOf o).length = l.length)) = true then o else ⟨#[]⟩) := by
  apply ev_shift
  simp only [spec_PathOf.j1]
  refine Ev.bind (spec_PathOk_ev o ho) ?_
  cases hp : pathOk o
  · exact ev_neg (by simp) (ev_cast (Ev.now _) (by simp))
  · refine ev_pos rfl (Ev.bind (spec_Names_ev o ho) ?_)
    by_cases c : (namesOf o).length = l.length
    · exact ev_pos (by omega) (ev_cast (Ev.now _) (by simp [c]))
    · exact ev_neg (by omega) (ev_cast (Ev.now _) (by simp [c]))
theorem spec_PathOf_ev (l : List ByteArray) (h : l.length + letters l ≤ 1099511627776) : Ev (fun k => spec_PathOf.f k l) (pathOfV l) := by
  unfold spec_PathOf.f
  have := ev_loop (fun k i => spec_PathOf.l0 k l (pj (l.take i)) (i : Int)) (fun _ => pathOfV l) l.length ?_ ?_ 0 (Nat.zero_le _)
  · exact this
  · simp only [spec_PathOf.l0]
    refine ev_neg (by omega) ?_
    rw [List.take_length]
    by_cases h0 : l = []
    · subst h0
      refine ev_pos rfl (ev_cast (spec_PathOf_j [] ⟨#[47]⟩ (by show 1 ≤ _; omega) (by simp)) ?_)
      rw [pathOk_root, namesOf_root]
      rfl
    · refine ev_neg (fun e => h0 (List.length_eq_zero_iff.mp (by omega))) (ev_cast (spec_PathOf_j l (pj l) (by rw [pj_size]; omega) (by omega)) ?_)
      rw [pathOut l h0]
      unfold pathOfV
      by_cases c : l.length ≤ 4 ∧ l.all nameOk = true
      · rw [decide_eq_true c, if_pos rfl, if_pos c, if_neg h0]
      · rw [decide_eq_false c, if_neg (by simp), if_neg c]
  · intro i hi e
    have hs := pj_size (l.take i)
    have hs2 := pj_size (l.take (i + 1))
    have ht := letters_take l i
    have ht2 := letters_take l (i + 1)
    rw [List.length_take, Nat.min_eq_left (by omega)] at hs hs2
    have hsn := congrArg ByteArray.size (pj_snoc l i hi)
    simp only [spec_PathOf.l0]
    rw [rdOf_nat, pj_snoc l i hi, wrap_nat (by omega)]
    refine ev_pos (by omega) (ev_pos (by omega) (ev_pos (by omega) (ev_pos ?_ e)))
    rw [ByteArray.size_append] at hsn
    omega
theorem spec_norm_l (L : List ByteArray) (hL : L.length ≤ 61) (hx : ∀ x ∈ L, x.size ≤ 60) (d : Nat) : ∀ (i : Nat) (acc : List ByteArray), i + d = L.length → acc.length ≤ i → (∀ x ∈ acc, nameOk x = true) →
    Ev (fun k => spec_Normal.l0 k L acc (i : Int)) (normRes (normGo (L.drop i) acc)) := by
  induction d with
  | zero =>
    intro i acc hi ha hok
    apply ev_shift
    simp only [spec_Normal.l0]
    refine ev_neg (by omega) ?_
    rw [List.drop_eq_nil_of_le (by omega)]
    exact Ev.bind (spec_PathOf_ev acc (ok_bound hok (by omega))) (Ev.now _)
  | succ d ih =>
    intro i acc hi ha hok
    have hsz := hx _ (getD_mem ByteArray.empty L i (by omega))
    apply ev_shift
    simp only [spec_Normal.l0]
    refine ev_pos (by omega) (ev_pos (by omega) ?_)
    rw [rdOf_nat, drop_cons ByteArray.empty L i (by omega)]
    generalize hy : L.getD i ByteArray.empty = y at hsz
    unfold normGo
    have skip : Ev (fun k => spec_Normal.j2 k L acc (i : Int) true) (normRes (normGo (L.drop (i + 1)) acc)) := by
      apply ev_shift
      simp only [spec_Normal.j2]
      rw [wrap_nat (by omega)]
      exact ev_pos trivial (ih (i + 1) acc (by omega) (by omega) hok)
    by_cases c1 : y.toList = []
    · rw [if_pos (.inl c1)]
      exact ev_pos c1 skip
    · refine ev_neg c1 ?_
      by_cases c2 : y.toList = [46]
      · rw [if_pos (.inr c2), show (y.toList == [46]) = true by rw [c2]; rfl]
        exact skip
      · rw [if_neg (by rintro (h | h) <;> contradiction), show (y.toList == ([46] : List UInt8)) = false by simpa using c2]
        apply ev_shift
        simp only [spec_Normal.j2]
        refine ev_neg (by simp) (ev_pos (by omega) (ev_pos (by omega) ?_))
        rw [rdOf_nat, hy, wrap_nat (by omega)]
        by_cases c3 : y.toList = [46, 46]
        · rw [if_pos c3]
          refine ev_pos c3 ?_
          by_cases c4 : (acc.length : Int) > 0
          · rw [wrap_in (by omega) (by omega)]
            refine ev_pos c4 (ev_pos (by omega) (ev_pos (by omega) ?_))
            rw [show (((acc.length : Int) - 1 : Int).toNat) = acc.length - 1 by omega, ← List.dropLast_eq_take]
            exact ih (i + 1) _ (by omega) (by rw [List.length_dropLast]; omega) (dropLast_ok hok)
          · have : acc = [] := List.length_eq_zero_iff.mp (by omega)
            subst this
            exact ev_neg c4 (ih (i + 1) [] (by omega) (by simp) hok)
        · rw [if_neg c3]
          refine ev_neg c3 (Ev.bind (spec_NameOk_ev y (by omega)) ?_)
          cases hn : nameOk y
          · exact ev_neg (by simp) (Ev.now _)
          · refine ev_pos rfl (ev_eq (spec_l1Copy_eq acc (by omega)) (ev_some (ev_pos (by simp; omega) ?_)))
            rw [if_pos rfl]
            exact ih (i + 1) _ (by omega) (by simp; omega) (snoc_ok hok hn)
theorem spec_Normal_ev (s : ByteArray) (hs : s.size ≤ 1099511627776) : Ev (fun k => spec_Normal.f k s) (normalV s) := by
  have hl := parts_length s 47
  have hm := parts_mem s 47
  have hj : Ev (fun k => spec_Normal.j0 k s true) (⟨#[]⟩, false) := by
    apply ev_shift
    simp only [spec_Normal.j0]
    exact ev_pos trivial (Ev.now _)
  unfold spec_Normal.f normalV
  by_cases c1 : (s.size : Int) < 1
  · rw [if_neg (by omega)]
    exact ev_pos c1 hj
  · refine ev_neg c1 ?_
    by_cases c2 : (s.size : Int) > 60
    · rw [if_neg (by omega)]
      exact ev_pos c2 hj
    · refine ev_neg c2 (ev_pos (by omega) ?_)
      by_cases c3 : bt s 0 = 47
      · rw [if_pos ⟨by omega, by omega, c3⟩, show (bt s 0 != 47) = false by rw [c3]; rfl]
        apply ev_shift
        simp only [spec_Normal.j0]
        refine ev_neg (by simp) (Ev.bind (spec_Parts_ev s 47 hs) ?_)
        exact spec_norm_l (parts s 47) (by omega) (fun x hx => by have := hm x hx; omega) _ 0 [] (Nat.zero_add _) (by simp) (by simp)
      · rw [if_neg (fun z => c3 z.2.2), show (bt s 0 != 47) = true by simpa using c3]
        exact hj
theorem FnExactNormal : laws_FnExactNormal.Pure := by
  intro s _
  apply Ev.rounds (g := fun k => laws_FnExactNormal.f k s)
  unfold laws_FnExactNormal.f
  by_cases h : (s.size : Int) > 1048576
  · exact ev_pos h (Ev.now _)
  · exact ev_neg h (Ev.bind (spec_Normal_ev s (by omega)) (Ev.bind (impl_Normal_ev s (by omega)) (ev_pos rfl (ev_neg (by simp) (Ev.now _)))))
end Go.Proofs.Ytbhgafobkneafaa.Pure
