/- FnNormal: the law's function of the print answers true for every input within the row's bounds. Conditions: none but the bounds that the row itself gives. -/
import Derived.Test.YtbhgafobkneafaaPFnNormalx7
import Derived.OpenShut
import Derived.Laws.BitsLemmas
import Derived.Lib.Strings
import Derived.Lib.IndexBytes
import Derived.Lib.Split
import Derived.Lib.SmallJoins
import Derived.Test.YtbhgafobkneafaaWSized
import Derived.Test.YtbhgafobkneafaaWSized
namespace Go.Proofs.Ytbhgafobkneafaa.Pure
open Go Go.RowKit Go.Proofs.Ytbhgafobkneafaa.PFnNormal Go.Proofs.YtbhgafobkneafaaW.PrintWords Go.Proofs.YtbhgafobkneafaaW.PrintLast Go.Proofs.YtbhgafobkneafaaW.PrintMore Go.Proofs.YtbhgafobkneafaaW.PrintMore Go.Proofs.YtbhgafobkneafaaW.PrintMore
set_option linter.unusedVariables false
set_option linter.unusedSimpArgs false

theorem dlen (s : ByteArray) : s.data.toList.length = s.size := by
  cases s
  simp [ByteArray.size]
def nameCh (c : Int) : Bool := decide (97 ≤ c ∧ c ≤ 122 ∨ 48 ≤ c ∧ c ≤ 57)
def nameOk (s : ByteArray) : Bool := decide (1 ≤ s.size ∧ s.size ≤ 6) && (bytesOf s).all nameCh
theorem nameOk_size {x : ByteArray} (h : nameOk x = true) : 1 ≤ x.size ∧ x.size ≤ 6 := by
  unfold nameOk at h
  rw [Bool.and_eq_true] at h
  exact of_decide_eq_true h.1
/-- The names that a text's parts come to: '.' and nothing fall away, '..' takes the last away. -/
def normGo : List ByteArray → List ByteArray → Option (List ByteArray)
  | [], acc => some acc
  | x :: r, acc => if x.toList = [] ∨ x.toList = [46] then normGo r acc else if x.toList = [46, 46] then normGo r acc.dropLast else if nameOk x = true then normGo r (acc ++ [x]) else none
theorem normGo_names : ∀ (l r acc : List ByteArray), l.all nameOk = true → normGo (l ++ r) acc = normGo r (acc ++ l)
  | [], r, acc, _ => by rw [List.nil_append, List.append_nil]
  | x :: l, r, acc, h => by
    rw [List.all_cons, Bool.and_eq_true] at h
    have hs := nameOk_size h.1
    have hl := dlen x
    have h46 : (46 : UInt8) ∉ x.data.toList := by
      intro hm
      have := h.1
      unfold nameOk at this
      rw [Bool.and_eq_true, List.all_eq_true] at this
      have := this.2 (((46 : UInt8).toNat : Nat) : Int) (by
        unfold bytesOf
        rw [List.mem_map]
        exact ⟨46, hm, rfl⟩)
      revert this
      decide
    have n0 : ¬ (x.toList = [] ∨ x.toList = [46]) := by
      rw [ByteArray.toList_eq]
      rintro (e | e)
      · rw [e] at hl
        simp at hl
        omega
      · exact h46 (by rw [e]; simp)
    have n1 : ¬ x.toList = [46, 46] := by
      rw [ByteArray.toList_eq]
      intro e
      exact h46 (by rw [e]; simp)
    rw [List.cons_append]
    show (if x.toList = [] ∨ x.toList = [46] then normGo (l ++ r) acc else if x.toList = [46, 46] then normGo (l ++ r) acc.dropLast else if nameOk x = true then normGo (l ++ r) (acc ++ [x]) else none) = _
    rw [if_neg n0, if_neg n1, if_pos h.1, normGo_names l r (acc ++ [x]) h.2, List.append_assoc]
    rfl
theorem normGo_empty (r acc : List ByteArray) : normGo (ByteArray.empty :: r) acc = normGo r acc := by
  show (if ByteArray.empty.toList = [] ∨ ByteArray.empty.toList = [46] then normGo r acc else _) = _
  rw [if_pos (.inl (by rw [ByteArray.toList_eq]; rfl))]
/-- Each name behind a slash. -/
def PJ (l : List ByteArray) : List UInt8 := l.flatMap fun x => 47 :: x.data.toList
theorem PJ_cons (x : ByteArray) (l : List ByteArray) : PJ (x :: l) = 47 :: (x.data.toList ++ PJ l) := rfl
theorem PJ_head (l : List ByteArray) : PJ l = [] ∨ ∃ t, PJ l = 47 :: t := by
  cases l with
  | nil => exact .inl rfl
  | cons x l => exact .inr ⟨_, PJ_cons x l⟩
theorem split47 : ∀ (x y u v : List UInt8), (47 : UInt8) ∉ x → (47 : UInt8) ∉ y → (u = [] ∨ ∃ t, u = 47 :: t) → (v = [] ∨ ∃ t, v = 47 :: t) → x ++ u = y ++ v → x = y ∧ u = v
  | [], [], u, v, _, _, _, _, h => ⟨rfl, by simpa using h⟩
  | [], c :: y, u, v, _, hy, hu, _, h => by
    rcases hu with rfl | ⟨t, rfl⟩
    · simp at h
    · simp only [List.nil_append, List.cons_append, List.cons.injEq] at h
      exact absurd (by rw [← h.1]; simp : (47 : UInt8) ∈ c :: y) hy
  | c :: x, [], u, v, hx, _, _, hv, h => by
    rcases hv with rfl | ⟨t, rfl⟩
    · simp at h
    · simp only [List.nil_append, List.cons_append, List.cons.injEq] at h
      exact absurd (by rw [h.1]; simp : (47 : UInt8) ∈ c :: x) hx
  | c :: x, c' :: y, u, v, hx, hy, hu, hv, h => by
    simp only [List.cons_append, List.cons.injEq] at h
    have := split47 x y u v (fun z => hx (List.mem_cons_of_mem _ z)) (fun z => hy (List.mem_cons_of_mem _ z)) hu hv h.2
    exact ⟨by rw [h.1, this.1], this.2⟩
theorem PJ_inj_no : ∀ (a b : List ByteArray), (∀ x ∈ a, (47 : UInt8) ∉ x.data.toList) → (∀ x ∈ b, (47 : UInt8) ∉ x.data.toList) → PJ a = PJ b → a = b
  | [], [], _, _, _ => rfl
  | [], y :: b, _, _, h => by simp [PJ] at h
  | x :: a, [], _, _, h => by simp [PJ] at h
  | x :: a, y :: b, ha, hb, h => by
    rw [PJ_cons, PJ_cons] at h
    injection h with _ h
    have := split47 _ _ _ _ (ha x (by simp)) (hb y (by simp)) (PJ_head a) (PJ_head b) h
    rw [Go.WideShapes.bytes_inj this.1, PJ_inj_no a b (fun z hz => ha z (List.mem_cons_of_mem _ hz)) (fun z hz => hb z (List.mem_cons_of_mem _ hz)) this.2]
def partsGo (s : ByteArray) (c : Int) : Nat → Nat → Nat → List ByteArray → List ByteArray
  | 0, frm, i, acc => acc ++ [s.extract frm i]
  | d + 1, frm, i, acc => if bt s (i : Int) = c then partsGo s c d (i + 1) (i + 1) (acc ++ [s.extract frm i]) else partsGo s c d frm (i + 1) acc
def parts (s : ByteArray) (c : Int) : List ByteArray := partsGo s c s.size 0 0 []
theorem PJ_append (a b : List ByteArray) : PJ (a ++ b) = PJ a ++ PJ b := by
  unfold PJ
  rw [List.flatMap_append]
theorem rd_nat (xs : List Int) (i : Nat) : rd xs (i : Int) = xs.getD i 0 := by simp [rd]
theorem bt_nat (s : ByteArray) (i : Nat) : bt s (i : Int) = (bytesOf s).getD i 0 := by rw [← rd_bytesOf, rd_nat]
theorem bt_47 (s : ByteArray) (i : Nat) (h : i < s.data.toList.length) : bt s (i : Int) = 47 ↔ s.data.toList[i] = 47 := by
  rw [bt_nat]
  have hb : i < (bytesOf s).length := by simpa [bytesOf] using h
  have e : (bytesOf s).getD i 0 = (s.data.toList[i].toNat : Int) := by
    unfold bytesOf
    rw [List.getD_eq_getElem?_getD, List.getElem?_map, List.getElem?_eq_getElem h]
    rfl
  rw [e]
  constructor
  · intro hz
    apply UInt8.toNat_inj.mp
    show s.data.toList[i].toNat = 47
    omega
  · intro hz
    rw [hz]
    rfl
theorem partsGo_PJ (s : ByteArray) (d : Nat) : ∀ frm i acc, i + d = s.size → frm ≤ i → PJ (partsGo s 47 d frm i acc) = PJ acc ++ 47 :: s.data.toList.drop frm := by
  have hl := dlen s
  induction d with
  | zero =>
    intro frm i acc hi hf
    obtain rfl : i = s.size := by omega
    rw [partsGo, PJ_append]
    congr 1
    show 47 :: ((s.extract frm s.size).data.toList ++ []) = _
    rw [Go.Lib.extract_to_end, List.append_nil]
  | succ d ih =>
    intro frm i acc hi hf
    rw [partsGo]
    by_cases h : bt s (i : Int) = 47
    · rw [if_pos h, ih (i + 1) (i + 1) _ (by omega) (by omega), PJ_append, List.append_assoc]
      congr 1
      have h47 := (bt_47 s i (by omega)).mp h
      show 47 :: ((s.extract frm i).data.toList ++ []) ++ 47 :: s.data.toList.drop (i + 1) = 47 :: s.data.toList.drop frm
      rw [Go.Lib.extract_data, List.append_nil, List.cons_append]
      congr 1
      have e1 : s.data.toList.drop i = 47 :: s.data.toList.drop (i + 1) := by rw [List.drop_eq_getElem_cons (by omega), h47]
      rw [← e1]
      have e2 : s.data.toList.drop i = (s.data.toList.drop frm).drop (i - frm) := by rw [List.drop_drop]; congr 1; omega
      rw [e2, List.take_append_drop]
    · rw [if_neg h]
      exact ih frm (i + 1) acc (by omega) (by omega)
theorem parts_PJ (s : ByteArray) : PJ (parts s 47) = 47 :: s.data.toList := by
  exact (partsGo_PJ s s.size 0 0 [] (by omega) (by omega)).trans (by simp [PJ])
theorem ext_no (s : ByteArray) (a b : Nat) (h : ∀ j : Nat, a ≤ j → j < b → j < s.size → bt s (j : Int) ≠ 47) : (47 : UInt8) ∉ (s.extract a b).data.toList := by
  intro hm
  rw [Go.Lib.extract_data, List.mem_iff_getElem] at hm
  obtain ⟨i, hi, he⟩ := hm
  rw [List.length_take, List.length_drop, dlen] at hi
  rw [List.getElem_take, List.getElem_drop] at he
  exact h (a + i) (by omega) (by omega) (by omega) ((bt_47 s (a + i) (by rw [dlen]; omega)).mpr he)
theorem partsGo_no (s : ByteArray) (d : Nat) : ∀ frm i acc, i + d = s.size → (∀ j : Nat, frm ≤ j → j < i → bt s (j : Int) ≠ 47) → (∀ x ∈ acc, (47 : UInt8) ∉ x.data.toList) → ∀ x ∈ partsGo s 47 d frm i acc, (47 : UInt8) ∉ x.data.toList := by
  induction d with
  | zero =>
    intro frm i acc hi hf h x hm
    rw [partsGo, List.mem_append] at hm
    rcases hm with hm | hm
    · exact h x hm
    · rw [List.mem_singleton] at hm
      subst hm
      exact ext_no _ _ _ (fun j h1 h2 _ => hf j h1 h2)
  | succ d ih =>
    intro frm i acc hi hf h x hm
    rw [partsGo] at hm
    split at hm
    · refine ih _ _ _ (by omega) (fun j h1 h2 => by omega) ?_ x hm
      intro y hy
      rw [List.mem_append] at hy
      rcases hy with hy | hy
      · exact h y hy
      · rw [List.mem_singleton] at hy
        subst hy
        exact ext_no _ _ _ (fun j h1 h2 _ => hf j h1 h2)
    · rename_i hc
      refine ih _ _ _ (by omega) (fun j h1 h2 => ?_) h x hm
      by_cases e : j = i
      · rw [e]; exact hc
      · exact hf j h1 (by omega)
theorem parts_no (s : ByteArray) : ∀ x ∈ parts s 47, (47 : UInt8) ∉ x.data.toList := partsGo_no s s.size 0 0 [] (by omega) (fun j h1 h2 => by omega) (by simp)
theorem parts_root : parts ⟨#[47]⟩ 47 = [ByteArray.empty, ByteArray.empty] := by
  refine PJ_inj_no _ _ (parts_no _) ?_ ?_
  · intro x hx
    simp only [List.mem_cons, List.not_mem_nil, or_false, or_self] at hx
    rw [hx]
    simp
  · rw [parts_PJ]
    rfl
/-- The names, each behind a slash, as a text. -/
def pj (l : List ByteArray) : ByteArray := ⟨(PJ l).toArray⟩
/-- What PathOf returns. -/
def pathOfV (l : List ByteArray) : ByteArray := if l.length ≤ 4 ∧ l.all nameOk = true then (if l = [] then ⟨#[47]⟩ else pj l) else ⟨#[]⟩
theorem pj_list (l : List ByteArray) : (pj l).data.toList = PJ l := rfl
theorem pathOfV_first {l : List ByteArray} (h4 : l.length ≤ 4) (ha : l.all nameOk = true) : (pathOfV l).data.toList.head? = some 47 := by
  unfold pathOfV
  rw [if_pos ⟨h4, ha⟩]
  split
  · rfl
  · rename_i h0
    obtain ⟨x, r, hx⟩ := List.exists_cons_of_ne_nil h0
    rw [pj_list, hx, PJ_cons]
    rfl
theorem bt_first (s : ByteArray) (h : s.data.toList.head? = some 47) : 1 ≤ s.size ∧ bt s 0 = 47 := by
  have hd := dlen s
  cases hq : s.data.toList with
  | nil => rw [hq] at h; cases h
  | cons x r =>
    rw [hq] at h
    injection h with h
    have h0 : 0 < s.data.toList.length := by rw [hq]; simp
    have h2 : s.data.toList[0] = 47 := by simp [hq, h]
    exact ⟨by omega, (bt_47 s 0 h0).mpr h2⟩
theorem pathOfV_ne {l : List ByteArray} (h4 : l.length ≤ 4) (ha : l.all nameOk = true) : ((pathOfV l).toList != []) = true := by
  have h := pathOfV_first h4 ha
  rw [ByteArray.toList_eq]
  cases hq : (pathOfV l).data.toList with
  | nil => rw [hq] at h; cases h
  | cons x r => rfl
def normRes : Option (List ByteArray) → ByteArray × Bool
  | none => (⟨#[]⟩, false)
  | some l => (pathOfV l, (pathOfV l).toList != [])
def normalV (s : ByteArray) : ByteArray × Bool := if 1 ≤ s.size ∧ s.size ≤ 60 ∧ bt s 0 = 47 then normRes (normGo (parts s 47) []) else (⟨#[]⟩, false)
theorem nameOk_no (x : ByteArray) (h : nameOk x = true) : (47 : UInt8) ∉ x.data.toList := by
  intro hm
  unfold nameOk at h
  rw [Bool.and_eq_true, List.all_eq_true] at h
  have := h.2 (((47 : UInt8).toNat : Nat) : Int) (by
    unfold bytesOf
    rw [List.mem_map]
    exact ⟨47, hm, rfl⟩)
  revert this
  decide
theorem parts_pj (l : List ByteArray) (h : l.all nameOk = true) : parts (pj l) 47 = ByteArray.empty :: l := by
  refine PJ_inj_no _ _ (parts_no _) ?_ ?_
  · intro x hx
    rcases List.mem_cons.mp hx with rfl | hx
    · simp
    · exact nameOk_no x (List.all_eq_true.mp h x hx)
  · rw [parts_PJ, pj_list, PJ_cons]
    rfl
/-- The letters of all texts. -/
def letters (l : List ByteArray) : Nat := (l.map ByteArray.size).sum
theorem letters_cons (x : ByteArray) (l : List ByteArray) : letters (x :: l) = x.size + letters l := rfl
theorem letters_le (c : Nat) (l : List ByteArray) (h : ∀ x ∈ l, x.size ≤ c) : letters l ≤ c * l.length := by
  induction l with
  | nil => simp [letters]
  | cons x l ih =>
    rw [letters_cons, List.length_cons, Nat.mul_succ]
    have h1 := h x (by simp)
    have h2 := ih (fun y hy => h y (List.mem_cons_of_mem _ hy))
    omega
theorem pj_size (l : List ByteArray) : (pj l).size = l.length + letters l := by
  rw [← dlen, pj_list]
  induction l with
  | nil => rfl
  | cons x l ih =>
    rw [PJ_cons, List.length_cons, List.length_append, ih, dlen, letters_cons, List.length_cons]
    omega
theorem pathOfV_size (l : List ByteArray) : (pathOfV l).size ≤ 28 := by
  unfold pathOfV
  split
  · rename_i h
    split
    · show 1 ≤ 28
      omega
    · rw [pj_size]
      have := letters_le 6 l (fun x hx => (nameOk_size (List.all_eq_true.mp h.2 x hx)).2)
      omega
  · show 0 ≤ 28
    omega
theorem normal_path {l : List ByteArray} (h4 : l.length ≤ 4) (ha : l.all nameOk = true) : normalV (pathOfV l) = (pathOfV l, true) := by
  have hs := pathOfV_size l
  have hb := bt_first _ (pathOfV_first h4 ha)
  have hg : normGo (parts (pathOfV l) 47) [] = some l := by
    by_cases h0 : l = []
    · subst h0
      rw [show pathOfV [] = ⟨#[47]⟩ from rfl, parts_root, normGo_empty, normGo_empty]
      rfl
    · have e : pathOfV l = pj l := by
        unfold pathOfV
        rw [if_pos ⟨h4, ha⟩, if_neg h0]
      rw [e, parts_pj l ha, normGo_empty]
      have := normGo_names l [] [] ha
      rw [List.append_nil, List.nil_append] at this
      rw [this]
      rfl
  unfold normalV
  rw [if_pos ⟨hb.1, by omega, hb.2⟩, hg]
  show (pathOfV l, (pathOfV l).toList != []) = _
  rw [pathOfV_ne h4 ha]
theorem normal_more {l : List ByteArray} (h4 : l.length ≤ 4) (ha : l.all nameOk = true) : normalV (pathOfV l ++ ⟨#[47, 113, 47, 46, 46]⟩) = (pathOfV l, true) := by
  have hs := pathOfV_size l
  have hf : (pathOfV l ++ (⟨#[47, 113, 47, 46, 46]⟩ : ByteArray)).data.toList.head? = some 47 := by
    rw [Go.Joins.data_append]
    have := pathOfV_first h4 ha
    cases hq : (pathOfV l).data.toList with
    | nil => rw [hq] at this; cases this
    | cons x r => rw [hq] at this; exact this
  have hb := bt_first _ hf
  have hno : ∀ x ∈ ([(⟨#[113]⟩ : ByteArray), ⟨#[46, 46]⟩] : List ByteArray), (47 : UInt8) ∉ x.data.toList := by decide
  have hla : ∀ x ∈ l, (47 : UInt8) ∉ x.data.toList := fun x hx => nameOk_no x (List.all_eq_true.mp ha x hx)
  have tail : ∀ acc : List ByteArray, normGo [(⟨#[113]⟩ : ByteArray), ⟨#[46, 46]⟩] acc = some acc := by
    intro acc
    have h1 := normGo_names [(⟨#[113]⟩ : ByteArray)] [⟨#[46, 46]⟩] acc (by decide)
    rw [List.singleton_append] at h1
    rw [h1]
    show (if (⟨#[46, 46]⟩ : ByteArray).toList = [] ∨ (⟨#[46, 46]⟩ : ByteArray).toList = [46] then _ else if (⟨#[46, 46]⟩ : ByteArray).toList = [46, 46] then normGo [] (acc ++ [(⟨#[113]⟩ : ByteArray)]).dropLast else _) = _
    rw [if_neg (by rw [ByteArray.toList_eq]; decide), if_pos (by rw [ByteArray.toList_eq]), List.dropLast_concat]
    rfl
  have hg : normGo (parts (pathOfV l ++ (⟨#[47, 113, 47, 46, 46]⟩ : ByteArray)) 47) [] = some l := by
    by_cases h0 : l = []
    · subst h0
      have e : parts (pathOfV [] ++ (⟨#[47, 113, 47, 46, 46]⟩ : ByteArray)) 47 = ByteArray.empty :: ByteArray.empty :: [⟨#[113]⟩, ⟨#[46, 46]⟩] := by
        refine PJ_inj_no _ _ (parts_no _) ?_ ?_
        · intro x hx
          rcases List.mem_cons.mp hx with rfl | hx
          · simp
          · rcases List.mem_cons.mp hx with rfl | hx
            · simp
            · exact hno x hx
        · rw [parts_PJ, Go.Joins.data_append]
          rfl
      rw [e, normGo_empty, normGo_empty, tail]
    · have e0 : pathOfV l = pj l := by
        unfold pathOfV
        rw [if_pos ⟨h4, ha⟩, if_neg h0]
      have e : parts (pathOfV l ++ (⟨#[47, 113, 47, 46, 46]⟩ : ByteArray)) 47 = ByteArray.empty :: (l ++ [⟨#[113]⟩, ⟨#[46, 46]⟩]) := by
        refine PJ_inj_no _ _ (parts_no _) ?_ ?_
        · intro x hx
          rcases List.mem_cons.mp hx with rfl | hx
          · simp
          · rcases List.mem_append.mp hx with hx | hx
            · exact hla x hx
            · exact hno x hx
        · rw [parts_PJ, Go.Joins.data_append, e0, pj_list, PJ_cons, PJ_append]
          rfl
      rw [e, normGo_empty, normGo_names l _ _ ha, tail]
      rfl
  unfold normalV
  have hsz : (pathOfV l ++ (⟨#[47, 113, 47, 46, 46]⟩ : ByteArray)).size = (pathOfV l).size + 5 := by rw [ByteArray.size_append]; rfl
  rw [if_pos ⟨hb.1, by omega, hb.2⟩, hg]
  show (pathOfV l, (pathOfV l).toList != []) = _
  rw [pathOfV_ne h4 ha]
theorem normRes_good (o : Option (List ByteArray)) : (normRes o).2 = true → ∃ l, l.length ≤ 4 ∧ l.all nameOk = true ∧ (normRes o).1 = pathOfV l := by
  intro h
  cases o with
  | none => cases h
  | some l =>
    have h' : ((pathOfV l).toList != []) = true := h
    by_cases c : l.length ≤ 4 ∧ l.all nameOk = true
    · exact ⟨l, c.1, c.2, rfl⟩
    · exfalso
      unfold pathOfV at h'
      rw [if_neg c, ByteArray.toList_eq] at h'
      exact absurd h' (by decide)
theorem normRes_bad (o : Option (List ByteArray)) : (normRes o).2 = false → (normRes o).1.toList = [] := by
  intro h
  cases o with
  | none => show (⟨#[]⟩ : ByteArray).toList = []; rw [ByteArray.toList_eq]
  | some l =>
    have h' : ((pathOfV l).toList != []) = false := h
    exact bne_eq_false_iff_eq.mp h'
theorem normalV_good {s : ByteArray} (h : (normalV s).2 = true) : ∃ l, l.length ≤ 4 ∧ l.all nameOk = true ∧ (normalV s).1 = pathOfV l := by
  unfold normalV at h ⊢
  split
  · rename_i c
    rw [if_pos c] at h
    exact normRes_good _ h
  · rename_i c
    rw [if_neg c] at h
    cases h
theorem normalV_bad {s : ByteArray} (h : (normalV s).2 = false) : (normalV s).1.toList = [] := by
  unfold normalV at h ⊢
  split
  · rename_i c
    rw [if_pos c] at h
    exact normRes_bad _ h
  · show (⟨#[]⟩ : ByteArray).toList = []
    rw [ByteArray.toList_eq]
def pathGood (l : List ByteArray) : Bool := decide (2 ≤ (l.length : Int) ∧ (l.length : Int) ≤ 5) && (decide ((l.getD 0 ByteArray.empty).toList = []) && (l.drop 1).all nameOk)
def namesOf (s : ByteArray) : List ByteArray := if s.toList = [47] then [] else if pathGood (parts s 47) = true then (parts s 47).drop 1 else []
def pathOk (s : ByteArray) : Bool := if s.toList = [47] then true else pathGood (parts s 47)
def aboveV (p : ByteArray) : ByteArray := if pathOk p = true then pathOfV ((namesOf p).dropLast) else ⟨#[]⟩
theorem dropLast_ok {l : List ByteArray} (h : ∀ x ∈ l, nameOk x = true) : ∀ x ∈ l.dropLast, nameOk x = true := fun x hx => h x (List.dropLast_subset _ hx)
theorem namesOf_four (s : ByteArray) : (namesOf s).length ≤ 4 := by
  unfold namesOf
  split
  · simp
  · split
    · rename_i h
      unfold pathGood at h
      rw [Bool.and_eq_true] at h
      have := of_decide_eq_true h.1
      rw [List.length_drop]
      omega
    · simp
theorem drop_cons {α : Type} (d : α) (l : List α) (i : Nat) (h : i < l.length) : l.drop i = l.getD i d :: l.drop (i + 1) := by
  rw [List.drop_eq_getElem_cons h]
  simp [List.getD, h]
theorem partsGo_pos (s : ByteArray) (c : Int) (d : Nat) : ∀ frm i acc, 0 < (partsGo s c d frm i acc).length := by
  induction d with
  | zero => intro frm i acc; simp [partsGo]
  | succ d ih =>
    intro frm i acc
    rw [partsGo]
    split <;> exact ih _ _ _
theorem parts_pos (s : ByteArray) (c : Int) : 0 < (parts s c).length := partsGo_pos s c s.size 0 0 []
theorem pathGood_split {s : ByteArray} (h : pathGood (parts s 47) = true) : s.data.toList = PJ ((parts s 47).drop 1) ∧ ∀ x ∈ (parts s 47).drop 1, nameOk x = true := by
  unfold pathGood at h
  rw [Bool.and_eq_true, Bool.and_eq_true, List.all_eq_true] at h
  have hp := parts_PJ s
  have h1 := of_decide_eq_true h.2.1
  refine ⟨?_, h.2.2⟩
  have hpos := parts_pos s 47
  rw [show parts s 47 = (parts s 47).getD 0 ByteArray.empty :: (parts s 47).drop 1 from drop_cons ByteArray.empty (parts s 47) 0 hpos, PJ_cons] at hp
  rw [ByteArray.toList_eq] at h1
  rw [h1] at hp
  injection hp with _ hp
  exact hp.symm
theorem namesOf_ok (s : ByteArray) : ∀ x ∈ namesOf s, nameOk x = true := by
  intro x hx
  unfold namesOf at hx
  split at hx
  · cases hx
  · split at hx
    · rename_i h
      exact (pathGood_split h).2 x hx
    · cases hx
theorem PJ_47 {l : List ByteArray} (h : PJ l = [47]) : l.all nameOk = true → l = [] := by
  intro ha
  cases l with
  | nil => rfl
  | cons x l =>
    rw [PJ_cons] at h
    injection h with _ h
    have hx : x.data.toList = [] := (List.append_eq_nil_iff.mp h).1
    have := List.all_eq_true.mp ha x (by simp)
    unfold nameOk at this
    rw [Bool.and_eq_true] at this
    have h2 := of_decide_eq_true this.1
    have h3 := dlen x
    rw [hx, List.length_nil] at h3
    omega
theorem namesOf_root : namesOf ⟨#[47]⟩ = [] := by
  unfold namesOf
  rw [if_pos (by rw [ByteArray.toList_eq])]
theorem pathOk_root : pathOk ⟨#[47]⟩ = true := by
  unfold pathOk
  rw [if_pos (by rw [ByteArray.toList_eq])]
def slashes (l : List ByteArray) : Nat := (l.map fun x => x.data.toList.count 47).sum
theorem PJ_count (l : List ByteArray) : (PJ l).count 47 = l.length + slashes l := by
  induction l with
  | nil => rfl
  | cons x l ih =>
    rw [PJ_cons, List.count_cons_self, List.count_append, ih]
    unfold slashes
    rw [List.map_cons, List.sum_cons, List.length_cons]
    omega
theorem slashes_zero (l : List ByteArray) : slashes l = 0 ↔ ∀ x ∈ l, (47 : UInt8) ∉ x.data.toList := by
  induction l with
  | nil => simp [slashes]
  | cons x l ih =>
    have e : slashes (x :: l) = x.data.toList.count 47 + slashes l := rfl
    rw [e]
    constructor
    · intro h y hy
      rcases List.mem_cons.mp hy with rfl | hy
      · exact List.count_eq_zero.mp (by omega)
      · exact ih.mp (by omega) y hy
    · intro h
      have h1 := List.count_eq_zero.mpr (h x (by simp))
      have h2 := ih.mpr (fun y hy => h y (List.mem_cons_of_mem _ hy))
      omega
theorem PJ_eq_len {a b : List ByteArray} (h : PJ a = PJ b) (hb : ∀ x ∈ b, (47 : UInt8) ∉ x.data.toList) (hl : a.length = b.length) : a = b := by
  have h1 := PJ_count a
  have h2 := PJ_count b
  have h3 := (slashes_zero b).mpr hb
  rw [h, h2, h3] at h1
  exact PJ_inj_no a b ((slashes_zero a).mp (by omega)) hb h
theorem PJ_inj : ∀ (a b : List ByteArray), (∀ x ∈ a, nameOk x = true) → (∀ x ∈ b, nameOk x = true) → PJ a = PJ b → a = b
  | [], [], _, _, _ => rfl
  | [], y :: b, _, _, h => by simp [PJ] at h
  | x :: a, [], _, _, h => by simp [PJ] at h
  | x :: a, y :: b, ha, hb, h => by
    rw [PJ_cons, PJ_cons] at h
    injection h with _ h
    have := split47 _ _ _ _ (nameOk_no x (ha x (by simp))) (nameOk_no y (hb y (by simp))) (PJ_head a) (PJ_head b) h
    rw [Go.WideShapes.bytes_inj this.1, PJ_inj a b (fun z hz => ha z (List.mem_cons_of_mem _ hz)) (fun z hz => hb z (List.mem_cons_of_mem _ hz)) this.2]
theorem toList_47 (s : ByteArray) : s.toList = [47] ↔ s.data.toList = [47] := by rw [ByteArray.toList_eq]
theorem pathOut (l : List ByteArray) (h0 : l ≠ []) : (pathOk (pj l) && decide ((namesOf (pj l)).length = l.length)) = decide (l.length ≤ 4 ∧ l.all nameOk = true) := by
  have hpos : 0 < l.length := List.length_pos_iff.mpr h0
  unfold pathOk namesOf
  by_cases c : (pj l).toList = [47]
  · rw [if_pos c, if_pos c]
    have c' := PJ_47 ((toList_47 _).mp c)
    rw [List.length_nil, decide_eq_false (by omega : ¬ (0 = l.length)), decide_eq_false (fun h => h0 (c' h.2))]
    rfl
  · rw [if_neg c, if_neg c]
    cases hg : pathGood (parts (pj l) 47)
    · rw [Bool.false_and]
      symm
      rw [decide_eq_false_iff_not]
      rintro ⟨h4, ha⟩
      rw [parts_pj l ha] at hg
      unfold pathGood at hg
      rw [decide_eq_true (by simp only [List.length_cons]; omega), Bool.true_and] at hg
      rw [show (ByteArray.empty :: l).getD 0 ByteArray.empty = ByteArray.empty from rfl, decide_eq_true (by rw [ByteArray.toList_eq]; rfl), Bool.true_and] at hg
      rw [show (ByteArray.empty :: l).drop 1 = l from rfl, ha] at hg
      exact absurd hg (by simp)
    · rw [Bool.true_and, if_pos rfl, decide_eq_decide]
      obtain ⟨h1, h2⟩ := pathGood_split hg
      rw [pj_list] at h1
      constructor
      · intro hl
        have e := PJ_eq_len h1 (fun x hx => nameOk_no x (h2 x hx)) hl.symm
        unfold pathGood at hg
        rw [Bool.and_eq_true] at hg
        have h3 := of_decide_eq_true hg.1
        rw [List.length_drop] at hl
        refine ⟨by omega, List.all_eq_true.mpr (fun x hx => ?_)⟩
        rw [e] at hx
        exact h2 x hx
      · rintro ⟨h4, ha⟩
        have e := PJ_inj l _ (List.all_eq_true.mp ha) h2 h1
        rw [← e]
theorem names_pathOfV {l : List ByteArray} (h4 : l.length ≤ 4) (ha : l.all nameOk = true) : pathOk (pathOfV l) = true ∧ namesOf (pathOfV l) = l := by
  unfold pathOfV
  rw [if_pos ⟨h4, ha⟩]
  by_cases h0 : l = []
  · subst h0
    exact ⟨pathOk_root, namesOf_root⟩
  · rw [if_neg h0]
    have h := pathOut l h0
    rw [decide_eq_true (⟨h4, ha⟩ : l.length ≤ 4 ∧ l.all nameOk = true), Bool.and_eq_true] at h
    refine ⟨h.1, ?_⟩
    have hp := h.1
    have c : ¬ (pj l).toList = [47] := fun c => h0 (PJ_47 ((toList_47 _).mp c) ha)
    unfold pathOk at hp
    unfold namesOf
    rw [if_neg c] at hp ⊢
    rw [if_pos hp, parts_pj l ha]
    rfl
theorem above_names {p : ByteArray} (h : pathOk p = true) : pathOk (aboveV p) = true ∧ namesOf (aboveV p) = (namesOf p).dropLast := by
  have h4 := namesOf_four p
  unfold aboveV
  rw [if_pos h]
  exact names_pathOfV (by rw [List.length_dropLast]; omega) (List.all_eq_true.mpr (dropLast_ok (namesOf_ok p)))
def lastOf (l : List ByteArray) : ByteArray := if l.length = 0 then (⟨#[]⟩ : ByteArray) else l.getD (l.length - 1) ByteArray.empty
def pathJoinV (p n : ByteArray) : ByteArray := if pathOk p = true then pathOfV (namesOf p ++ [n]) else ⟨#[]⟩
theorem join_back {l : List ByteArray} (h4 : l.length ≤ 4) (ha : l.all nameOk = true) (h0 : l ≠ []) : pathJoinV (aboveV (pathOfV l)) (lastOf (namesOf (pathOfV l))) = pathOfV l := by
  obtain ⟨h1, h2⟩ := names_pathOfV h4 ha
  obtain ⟨h3, h5⟩ := above_names h1
  unfold pathJoinV
  rw [if_pos h3, h5, h2]
  congr 1
  have hp : 0 < l.length := List.length_pos_iff.mpr h0
  have e : lastOf l = l.getLast h0 := by
    unfold lastOf
    rw [if_neg (by omega), List.getLast_eq_getElem]
    simp [List.getD, show l.length - 1 < l.length by omega]
  rw [e, List.dropLast_concat_getLast]
theorem root_names {l : List ByteArray} (h4 : l.length ≤ 4) (ha : l.all nameOk = true) (h : l = []) : (pathOfV l).toList = [47] := by
  subst h
  show (⟨#[47]⟩ : ByteArray).toList = [47]
  rw [ByteArray.toList_eq]
theorem ev_eq {α β : Type} {o : Option α} {a : α} {f : Nat → α → Option β} {r : β} (h : o = some a) (e : Ev (fun k => f k a) r) : Ev (fun k => o.bind (f k)) r := by
  subst h
  exact e
theorem ev_neg {α : Type} {c : Prop} [Decidable c] {f g : Nat → Option α} {r : α} (h : ¬ c) (e : Ev g r) : Ev (fun k => if c then f k else g k) r := by
  simpa only [if_neg h] using e
theorem ev_pos {α : Type} {c : Prop} [Decidable c] {f g : Nat → Option α} {r : α} (h : c) (e : Ev f r) : Ev (fun k => if c then f k else g k) r := by
  simpa only [if_pos h] using e
theorem ev_shift {α : Type} {g : Nat → Option α} {r : α} (h : Ev (fun k => g (k + 1)) r) : Ev g r := Ev.step (f := fun k => g (k + 1)) (fun _ => rfl) h
theorem wrap_nat {i : Nat} (h : i < 9223372036854775807) : wrap64 ((i : Int) + 1) = ((i + 1 : Nat) : Int) := by
  unfold wrap64
  omega
theorem l1New_ev (l : List Int) (hl : l.length ≤ 140737488351232) : ∃ h, Ev (fun k => spec_l1New.f k l) (l, 0, h) := by
  unfold spec_l1New.f
  have key : ∀ (d : Nat) (i : Nat) (x : Int), i + d = l.length → ∃ h, Ev (fun k => spec_l1New.l0 k l x (i : Int)) (l, 0, h) := by
    intro d
    induction d with
    | zero =>
      intro i x hi
      refine ⟨x, ev_shift ?_⟩
      simp only [spec_l1New.l0]
      exact ev_neg (by omega) (Ev.now _)
    | succ d ih =>
      intro i x hi
      by_cases c : (i : Int) < 4000
      · obtain ⟨h, e⟩ := ih (i + 1) (Go.bits .and .i64 (wrap64 ((wrap64 ((wrap64 (x * 131)) + (wrap64 (rd l (i : Int))))) + 7)) 1073741823) (by omega)
        refine ⟨h, ev_shift ?_⟩
        simp only [spec_l1New.l0]
        refine ev_pos (by omega) (ev_pos c (ev_pos (by omega) ?_))
        rw [wrap_nat (by omega)]
        exact e
      · refine ⟨x, ev_shift ?_⟩
        simp only [spec_l1New.l0]
        exact ev_pos (by omega) (ev_neg c (Ev.now _))
  exact key l.length 0 _ (by omega)
theorem wraps_i64 (n : Int) (h0 : 0 ≤ n) (h1 : n < 2 ^ 63) : IntKind.i64.wrap n = n := by
  rw [IntKind.wrap_i64]
  omega
theorem and255_any (x : Int) : 0 ≤ Go.bits .and .i64 x 255 ∧ Go.bits .and .i64 x 255 ≤ 255 := by
  have h : (BitVec.ofInt 64 x &&& BitVec.ofInt 64 255).toNat ≤ 255 := by
    rw [BitVec.toNat_and]
    exact Nat.le_trans Nat.and_le_right (by decide)
  have e : Go.bits .and .i64 x 255 = IntKind.i64.wrap ((BitVec.ofInt 64 x &&& BitVec.ofInt 64 255).toNat : Int) := rfl
  rw [e, wraps_i64 _ (by omega) (by omega)]
  omega
theorem wrap_up {i : Int} (h0 : 0 ≤ i) (h : i < 9223372036854775807) : wrap64 (i + 1) = i + 1 := by
  unfold wrap64
  omega
theorem l1Byte_some (l : List Int) (i h : Int) (hl : l.length ≤ 140737488351232) (h0 : 0 ≤ i) (h1 : i ≤ l.length) :
    ∃ b j h', spec_l1Byte.f l i h = some (b, j, h') ∧ 0 ≤ b ∧ b ≤ 255 ∧ 0 ≤ j ∧ j ≤ l.length := by
  unfold spec_l1Byte.f
  by_cases c : i < (l.length : Int)
  · rw [if_pos c, if_pos h0]
    refine ⟨_, _, _, rfl, (and255_any _).1, (and255_any _).2, ?_, ?_⟩ <;> rw [wrap_up h0 (by omega)] <;> omega
  · rw [if_neg c]
    exact ⟨_, _, _, rfl, (and255_any _).1, (and255_any _).2, h0, h1⟩
theorem tmod_range (x n : Int) (hx : 0 ≤ x) (hn : 0 < n) : 0 ≤ Int.tmod x n ∧ Int.tmod x n < n := by
  rw [Int.tmod_eq_emod_of_nonneg hx]
  exact ⟨Int.emod_nonneg _ (by omega), Int.emod_lt_of_pos _ hn⟩
theorem wrap_in {x : Int} (h0 : -9223372036854775808 ≤ x) (h1 : x ≤ 9223372036854775807) : wrap64 x = x := by
  unfold wrap64
  omega
theorem l1Below_some (l : List Int) (i h n : Int) (hl : l.length ≤ 140737488351232) (h0 : 0 ≤ i) (h1 : i ≤ l.length) :
    ∃ v j h', spec_l1Below.f l i h n = some (v, j, h') ∧ 0 ≤ v ∧ (0 < n → v < n) ∧ (n ≤ 0 → v = 0) ∧ 0 ≤ j ∧ j ≤ l.length := by
  unfold spec_l1Below.f
  by_cases c : n ≤ 0
  · rw [if_pos c]
    exact ⟨_, _, _, rfl, by omega, by omega, fun _ => rfl, h0, h1⟩
  · rw [if_neg c]
    by_cases c2 : n ≤ 256
    · rw [if_pos c2]
      obtain ⟨b, j, h', e, hb0, hb1, hj0, hj1⟩ := l1Byte_some l i h hl h0 h1
      rw [e]
      simp only [Option.bind_some]
      rw [if_neg (by omega)]
      have := tmod_range b n hb0 (by omega)
      exact ⟨_, _, _, rfl, this.1, fun _ => this.2, by omega, hj0, hj1⟩
    · rw [if_neg c2]
      obtain ⟨b1, j1, g1, e1, hb1, hb1', hj1, hj1'⟩ := l1Byte_some l i h hl h0 h1
      obtain ⟨b2, j2, g2, e2, hb2, hb2', hj2, hj2'⟩ := l1Byte_some l j1 g1 hl hj1 hj1'
      obtain ⟨b3, j3, g3, e3, hb3, hb3', hj3, hj3'⟩ := l1Byte_some l j2 g2 hl hj2 hj2'
      obtain ⟨b4, j4, g4, e4, hb4, hb4', hj4, hj4'⟩ := l1Byte_some l j3 g3 hl hj3 hj3'
      simp only [e1, e2, e3, e4, Option.bind_some]
      rw [if_neg (by omega)]
      rw [wrap_in (x := b1 * 16777216) (by omega) (by omega), wrap_in (x := b2 * 65536) (by omega) (by omega), wrap_in (x := b3 * 256) (by omega) (by omega), wrap_in (x := b1 * 16777216 + b2 * 65536) (by omega) (by omega), wrap_in (x := b1 * 16777216 + b2 * 65536 + b3 * 256) (by omega) (by omega), wrap_in (x := b1 * 16777216 + b2 * 65536 + b3 * 256 + b4) (by omega) (by omega)]
      have := tmod_range (b1 * 16777216 + b2 * 65536 + b3 * 256 + b4) n (by omega) (by omega)
      exact ⟨_, _, _, rfl, this.1, fun _ => this.2, by omega, hj4, hj4'⟩
theorem l1Once_some (l : List Int) (i h n : Int) (hl : l.length ≤ 140737488351232) (h0 : 0 ≤ i) (h1 : i ≤ l.length) : ∃ b j h', spec_l1Once.f l i h n = some (b, j, h') ∧ 0 ≤ j ∧ j ≤ l.length := by
  unfold spec_l1Once.f
  obtain ⟨v, j, h', e, _, _, _, hj0, hj1⟩ := l1Below_some l i h n hl h0 h1
  rw [e]
  exact ⟨_, _, _, rfl, hj0, hj1⟩
theorem getD_mem {α : Type} (d : α) (l : List α) (i : Nat) (h : i < l.length) : l.getD i d ∈ l := by
  simp [List.getD, h]
theorem l1Pick_some (l : List Int) (i h : Int) (xs : List ByteArray) (hl : l.length ≤ 140737488351232) (h0 : 0 ≤ i) (h1 : i ≤ l.length) (hx : 0 < xs.length) :
    ∃ v j h', spec_l1Pick.f l i h xs = some (v, j, h') ∧ v ∈ xs ∧ 0 ≤ j ∧ j ≤ l.length := by
  unfold spec_l1Pick.f
  obtain ⟨v, j, h', e, hv0, hv1, _, hj0, hj1⟩ := l1Below_some l i h xs.length hl h0 h1
  rw [e]
  simp only [Option.bind_some]
  have hv := hv1 (by omega)
  rw [if_pos hv0, if_pos hv]
  refine ⟨_, _, _, rfl, ?_, hj0, hj1⟩
  exact getD_mem ByteArray.empty xs v.toNat (by omega)
theorem sizes_le (c : Nat) (L : List ByteArray) (h : L.all (fun x => decide (x.size ≤ c)) = true) : ∀ v ∈ L, v.size ≤ c := fun v hv => of_decide_eq_true (List.all_eq_true.mp h v hv)
theorem l2Path_some (l : List Int) (i h : Int) (hl : l.length ≤ 140737488351232) (h0 : 0 ≤ i) (h1 : i ≤ l.length) : ∃ p j h', spec_l2Path.f l i h = some (p, j, h') ∧ p.size ≤ 100 ∧ 0 ≤ j ∧ j ≤ l.length := by
  unfold spec_l2Path.f
  obtain ⟨b, j, h', e, hj0, hj1⟩ := l1Once_some l i h 12 hl h0 h1
  rw [e]
  simp only [Option.bind_some]
  cases b
  · rw [if_neg (by simp)]
    unfold spec_l2Paths.f
    simp only [Option.bind_some]
    obtain ⟨v, j2, h2, e2, hv, hj2, hj3⟩ := l1Pick_some l j h' [(⟨#[47, 97]⟩ : ByteArray), (⟨#[47, 98]⟩ : ByteArray), (⟨#[47, 97, 47, 120]⟩ : ByteArray), (⟨#[47, 97, 47, 121]⟩ : ByteArray), (⟨#[47, 98, 47, 120]⟩ : ByteArray), (⟨#[47, 99]⟩ : ByteArray), (⟨#[47, 97, 47, 120, 47, 122]⟩ : ByteArray), (⟨#[47, 100]⟩ : ByteArray), (⟨#[47, 97, 47, 98]⟩ : ByteArray), (⟨#[47, 101, 47, 102]⟩ : ByteArray)] hl hj0 hj1 (by decide)
    rw [e2]
    exact ⟨v, j2, h2, rfl, sizes_le 100 _ (by decide) v hv, hj2, hj3⟩
  · rw [if_pos rfl]
    obtain ⟨v, j2, h2, e2, hv, hj2, hj3⟩ := l1Pick_some l j h' [(⟨#[]⟩ : ByteArray), (⟨#[47]⟩ : ByteArray), (⟨#[97]⟩ : ByteArray), (⟨#[47, 65]⟩ : ByteArray), (⟨#[47, 97, 47]⟩ : ByteArray), (⟨#[47, 47]⟩ : ByteArray), (⟨#[47, 116, 111, 111, 108, 111, 110, 103]⟩ : ByteArray), (⟨#[47, 97, 47, 98, 47, 99, 47, 100, 47, 101]⟩ : ByteArray), (⟨#[47, 97, 47, 98, 47, 99, 47, 100]⟩ : ByteArray), (⟨#[47, 97, 32, 98]⟩ : ByteArray), (⟨#[47, 126, 48]⟩ : ByteArray), (⟨#[47, 97, 47, 46, 46]⟩ : ByteArray)] hl hj0 hj1 (by decide)
    rw [e2]
    exact ⟨v, j2, h2, rfl, sizes_le 100 _ (by decide) v hv, hj2, hj3⟩
theorem DrawNormal_ev (l : List Int) (hl : l.length ≤ 140737488351232) : ∃ s, Ev (fun k => spec_DrawNormal.f k l) s ∧ s.size ≤ 100 := by
  obtain ⟨h, e⟩ := l1New_ev l hl
  obtain ⟨b, j, h1, e1, hj0, hj1⟩ := l1Once_some l 0 h 3 hl (by omega) (by omega)
  unfold spec_DrawNormal.f
  cases b with
  | true =>
    obtain ⟨v, j2, h2, e2, hv, _, _⟩ := l1Pick_some l j h1 [(⟨#[47]⟩ : ByteArray), (⟨#[]⟩ : ByteArray), (⟨#[47, 47, 97, 47, 47, 98]⟩ : ByteArray), (⟨#[47, 97, 47, 46, 47, 98]⟩ : ByteArray), (⟨#[47, 97, 47, 46, 46, 47, 98]⟩ : ByteArray), (⟨#[47, 46, 46]⟩ : ByteArray), (⟨#[47, 46, 46, 47, 97]⟩ : ByteArray), (⟨#[47, 97, 47, 98, 47, 46, 46, 47, 46, 46, 47, 99]⟩ : ByteArray), (⟨#[97, 47, 98]⟩ : ByteArray), (⟨#[47, 97, 47, 46, 46, 46]⟩ : ByteArray), (⟨#[47, 97, 47, 98, 47, 99, 47, 100, 47, 101, 47, 46, 46]⟩ : ByteArray), (⟨#[47, 97, 47, 98, 47, 99, 47, 100, 47, 101, 47, 46, 46, 47, 46, 46]⟩ : ByteArray), (⟨#[47, 97, 97, 97, 97, 97, 97, 47, 97, 97, 97, 97, 97, 97, 47, 97, 97, 97, 97, 97, 97, 47, 97, 97, 97, 97, 97, 97, 47, 46, 46, 47, 97, 97, 97, 97, 97, 97, 47, 46, 46, 47, 97, 97, 97, 97, 97, 97, 47, 46, 46, 47, 97, 97, 97, 97, 97, 97, 47, 46, 47, 46]⟩ : ByteArray), (⟨#[47, 97, 97, 97, 97, 97, 97, 47, 97, 97, 97, 97, 97, 97, 47, 97, 97, 97, 97, 97, 97, 47, 97, 97, 97, 97, 97, 97, 47, 46, 46, 47, 97, 97, 97, 97, 97, 97, 47, 46, 46, 47, 97, 97, 97, 97, 97, 97, 47, 46, 46, 47, 97, 97, 97, 97, 97, 97, 47, 46]⟩ : ByteArray), (⟨#[47, 65, 47, 46, 46]⟩ : ByteArray)] hl hj0 hj1 (by decide)
    have hv := sizes_le 100 _ (by decide) v hv
    exact ⟨v, Ev.bind e (ev_eq e1 (ev_pos rfl (ev_eq e2 (Ev.now _)))), hv⟩
  | false =>
    obtain ⟨q, j4, h4, e4, hq, _, _⟩ := l2Path_some l j h1 hl hj0 hj1
    exact ⟨q, Ev.bind e (ev_eq e1 (ev_neg (by simp) (ev_eq e4 (Ev.now _)))), hq⟩
theorem aboveV_size (p : ByteArray) : (aboveV p).size ≤ 28 := by
  unfold aboveV
  split
  · exact pathOfV_size _
  · show 0 ≤ 28
    omega
theorem ev_cast {α : Type} {g : Nat → Option α} {r r' : α} (h : Ev g r) (e : r = r') : Ev g r' := e ▸ h
theorem dropLast_bound (p : ByteArray) : (namesOf p).dropLast.length + letters (namesOf p).dropLast ≤ 1099511627776 := by
  have h2 := namesOf_four p
  have h3 := letters_le 6 (namesOf p).dropLast (fun x hx => (nameOk_size (namesOf_ok p x (List.dropLast_subset _ hx))).2)
  rw [List.length_dropLast] at h3 ⊢
  omega
theorem drop_all {l : List ByteArray} {i : Nat} (h : i < l.length) : (l.drop i).all nameOk = (nameOk (l.getD i ByteArray.empty) && (l.drop (i + 1)).all nameOk) := by
  rw [drop_cons ByteArray.empty l i h]
  rfl
theorem all_drop (s : ByteArray) (i : Nat) (h : i < s.size) : ((bytesOf s).drop i).all nameCh = (nameCh (bt s i) && ((bytesOf s).drop (i + 1)).all nameCh) := by
  rw [drop_cons 0 (bytesOf s) i (by rw [bytesOf_length]; exact h), bt_nat]
  rfl
theorem ev_loop {ρ : Type} (L : Nat → Nat → Option ρ) (res : Nat → ρ) (n : Nat) (he : Ev (fun k => L (k + 1) n) (res n))
    (hs : ∀ i, i < n → Ev (fun k => L k (i + 1)) (res (i + 1)) → Ev (fun k => L (k + 1) i) (res i)) : ∀ i, i ≤ n → Ev (fun k => L k i) (res i) := by
  have key : ∀ d i, i + d = n → Ev (fun k => L k i) (res i) := by
    intro d
    induction d with
    | zero =>
      intro i h
      obtain rfl : i = n := by omega
      exact ev_shift he
    | succ d ih =>
      intro i h
      exact ev_shift (hs i (by omega) (ih (i + 1) (by omega)))
  intro i h
  exact key (n - i) i (by omega)
theorem impl_nameOk_l (s : ByteArray) (h : s.size ≤ 140737488351232) : Ev (fun k => impl_NameOk.l0 k s (s.size : Int) 0) ((bytesOf s).all nameCh) := by
  have := ev_loop (fun k i => impl_NameOk.l0 k s (s.size : Int) (i : Int)) (fun i => ((bytesOf s).drop i).all nameCh) s.size ?_ ?_ 0 (Nat.zero_le _)
  · exact this
  · simp only [impl_NameOk.l0]
    refine ev_neg (by omega) (ev_cast (Ev.now _) ?_)
    rw [List.drop_eq_nil_of_le (by rw [bytesOf_length]; omega)]
    rfl
  · intro i hi e
    simp only [impl_NameOk.l0]
    rw [wrap_nat (by omega), all_drop s i hi]
    refine ev_pos (by omega) (ev_pos (by omega) (ev_pos (by omega) ?_))
    by_cases hc : nameCh (bt s i) = true
    · simp only [hc, Bool.true_and]
      have hc' : 97 ≤ bt s i ∧ bt s i ≤ 122 ∨ 48 ≤ bt s i ∧ bt s i ≤ 57 := by simpa [nameCh] using hc
      by_cases h1 : bt s i < 97
      · exact ev_pos h1 (ev_neg (by omega) (ev_neg (by omega) e))
      · exact ev_neg h1 (ev_neg (by omega) e)
    · have hc' : ¬ (97 ≤ bt s i ∧ bt s i ≤ 122 ∨ 48 ≤ bt s i ∧ bt s i ≤ 57) := by simpa [nameCh] using hc
      simp only [Bool.eq_false_iff.mpr hc, Bool.false_and]
      by_cases h1 : bt s i < 97
      · refine ev_pos h1 ?_
        by_cases h2 : bt s i < 48
        · exact ev_pos h2 (Ev.now _)
        · exact ev_neg h2 (ev_pos (by omega) (Ev.now _))
      · exact ev_neg h1 (ev_pos (by omega) (ev_neg (by omega) (ev_pos (by omega) (Ev.now _))))
theorem impl_NameOk_ev (s : ByteArray) (h : s.size ≤ 140737488351232) : Ev (fun k => impl_NameOk.f k s) (nameOk s) := by
  unfold impl_NameOk.f
  by_cases hs : 1 ≤ s.size ∧ s.size ≤ 6
  · refine ev_eq (a := true) (by unfold impl_within.f; rw [if_pos (by omega)]; simp; omega) (ev_pos rfl ?_)
    refine ev_cast (impl_nameOk_l s h) ?_
    simp [nameOk, hs]
  · refine ev_eq (a := false) (by unfold impl_within.f; split <;> simp <;> omega) (ev_neg (by simp) (ev_cast (Ev.now _) ?_))
    simp only [nameOk, decide_eq_false hs, Bool.false_and]
theorem impl_PathOf_1_ev (s : ByteArray) (h : s.size ≤ 140737488351232) : Ev (fun k => impl_PathOf_1.f k s) (!nameOk s) := by
  unfold impl_PathOf_1.f
  exact Ev.bind (impl_NameOk_ev s h) (Ev.now _)
theorem rdOf_nat {α : Type} (d : α) (xs : List α) (i : Nat) : rdOf d xs (i : Int) = xs.getD i d := by simp [rdOf]
theorem index_PathOf (l : List ByteArray) (hl : l.length ≤ 140737488351232) (hx : ∀ x ∈ l, x.size ≤ 140737488351232) (d : Nat) : ∀ i, i + d = l.length →
    ∃ r : Int, Ev (fun k => slices_IndexFunc_string_string_PathOf_1.l0 k l (l.length : Int) (i : Int)) r ∧ decide (r ≥ 0) = !(l.drop i).all nameOk := by
  induction d with
  | zero =>
    intro i hi
    refine ⟨-1, ev_shift ?_, ?_⟩
    · simp only [slices_IndexFunc_string_string_PathOf_1.l0]
      exact ev_neg (by omega) (Ev.now _)
    · rw [List.drop_eq_nil_of_le (by omega)]
      rfl
  | succ d ih =>
    intro i hi
    have he := impl_PathOf_1_ev _ (hx _ (getD_mem ByteArray.empty l i (by omega)))
    rw [drop_all (by omega)]
    cases hn : nameOk (l.getD i ByteArray.empty)
    · refine ⟨i, ev_shift ?_, by simp⟩
      simp only [slices_IndexFunc_string_string_PathOf_1.l0]
      refine ev_pos (by omega) (ev_pos (by omega) (ev_pos (by omega) ?_))
      rw [rdOf_nat]
      refine Ev.bind he (ev_pos ?_ (Ev.now _))
      rw [hn]
      rfl
    · obtain ⟨r, e, hr⟩ := ih (i + 1) (by omega)
      refine ⟨r, ev_shift ?_, by rw [hr, Bool.true_and]⟩
      simp only [slices_IndexFunc_string_string_PathOf_1.l0]
      refine ev_pos (by omega) (ev_pos (by omega) (ev_pos (by omega) ?_))
      rw [rdOf_nat, wrap_nat (by omega)]
      refine Ev.bind he (ev_neg ?_ e)
      rw [hn]
      simp
theorem contains_PathOf (l : List ByteArray) (hl : l.length ≤ 140737488351232) (hx : ∀ x ∈ l, x.size ≤ 140737488351232) : Ev (fun k => slices_ContainsFunc_string_string_PathOf_1.f k l) (!l.all nameOk) := by
  unfold slices_ContainsFunc_string_string_PathOf_1.f slices_IndexFunc_string_string_PathOf_1.f
  obtain ⟨r, e, hr⟩ := index_PathOf l hl hx l.length 0 (by omega)
  exact Ev.bind e (ev_cast (Ev.now _) hr)
theorem letters_mem {l : List ByteArray} {x : ByteArray} (h : x ∈ l) : x.size ≤ letters l := by
  induction l with
  | nil => cases h
  | cons y l ih =>
    rw [letters_cons]
    rcases List.mem_cons.mp h with rfl | h
    · omega
    · have := ih h
      omega
theorem slash_join (l : List ByteArray) (h : l ≠ []) : 47 :: Go.Lib.join (l.map (·.data.toList)) [47] = PJ l := by
  cases l with
  | nil => exact absurd rfl h
  | cons x l =>
    rw [List.map_cons, Go.Lib.join_cons, PJ_cons]
    congr 2
    unfold Go.Lib.joinTail
    induction l with
    | nil => rfl
    | cons y l ih =>
      rw [List.map_cons, List.map_cons, List.flatten_cons, PJ_cons, ih (by simp)]
      rfl
theorem impl_PathOf_ev (l : List ByteArray) (h : l.length + letters l ≤ 1099511627776) : Ev (fun k => impl_PathOf.f k l) (pathOfV l) := by
  have hx : ∀ x ∈ l, x.size ≤ 140737488351232 := fun x hx => by have := letters_mem hx; omega
  have hj : ((47 : UInt8) :: Go.Lib.join (l.map (·.data.toList)) [47]).length ≤ 1099511627777 := by
    by_cases h0 : l = []
    · subst h0
      simp [Go.Lib.join]
    · rw [slash_join l h0]
      have := pj_size l
      rw [← dlen, pj_list] at this
      omega
  rw [List.length_cons] at hj
  unfold impl_PathOf.f
  refine ev_eq (a := ⟨(Go.Lib.join (l.map (·.data.toList)) [47]).toArray⟩) (by unfold strings_Join.f; rw [if_pos ⟨by omega, Nat.le_trans (Nat.le_of_succ_le_succ hj) (by omega)⟩]) ?_
  have hsz : (⟨(Go.Lib.join (l.map (·.data.toList)) [47]).toArray⟩ : ByteArray).size = (Go.Lib.join (l.map (·.data.toList)) [47]).length := by rw [← dlen]
  refine ev_pos (by rw [hsz]; omega) ?_
  unfold pathOfV
  by_cases c : l.length ≤ 4
  · refine ev_neg (by omega) (Ev.bind (contains_PathOf l (by omega) hx) ?_)
    cases ha : l.all nameOk
    · exact ev_pos rfl (ev_cast (Ev.now _) (by simp))
    · refine ev_neg (by simp) (ev_cast (Ev.now _) ?_)
      rw [if_pos ⟨c, rfl⟩]
      by_cases h0 : l = []
      · subst h0
        rfl
      · rw [if_neg h0]
        apply Go.WideShapes.bytes_inj
        rw [Go.Joins.data_append, pj_list, ← slash_join l h0]
        rfl
  · refine ev_pos (by omega) (ev_cast (Ev.now _) ?_)
    rw [if_neg (fun z => c z.1)]
theorem impl_readPath_1_ev (s : ByteArray) (h : s.size ≤ 140737488351232) : Ev (fun k => impl_readPath_1.f k s) (!nameOk s) := by
  unfold impl_readPath_1.f
  exact Ev.bind (impl_NameOk_ev s h) (Ev.now _)
theorem index_readPath (l : List ByteArray) (hl : l.length ≤ 140737488351232) (hx : ∀ x ∈ l, x.size ≤ 140737488351232) (d : Nat) : ∀ i, i + d = l.length →
    ∃ r : Int, Ev (fun k => slices_IndexFunc_string_string_readPath_1.l0 k l (l.length : Int) (i : Int)) r ∧ decide (r ≥ 0) = !(l.drop i).all nameOk := by
  induction d with
  | zero =>
    intro i hi
    refine ⟨-1, ev_shift ?_, ?_⟩
    · simp only [slices_IndexFunc_string_string_readPath_1.l0]
      exact ev_neg (by omega) (Ev.now _)
    · rw [List.drop_eq_nil_of_le (by omega)]
      rfl
  | succ d ih =>
    intro i hi
    have he := impl_readPath_1_ev _ (hx _ (getD_mem ByteArray.empty l i (by omega)))
    rw [drop_all (by omega)]
    cases hn : nameOk (l.getD i ByteArray.empty)
    · refine ⟨i, ev_shift ?_, by simp⟩
      simp only [slices_IndexFunc_string_string_readPath_1.l0]
      refine ev_pos (by omega) (ev_pos (by omega) (ev_pos (by omega) ?_))
      rw [rdOf_nat]
      refine Ev.bind he (ev_pos ?_ (Ev.now _))
      rw [hn]
      rfl
    · obtain ⟨r, e, hr⟩ := ih (i + 1) (by omega)
      refine ⟨r, ev_shift ?_, by rw [hr, Bool.true_and]⟩
      simp only [slices_IndexFunc_string_string_readPath_1.l0]
      refine ev_pos (by omega) (ev_pos (by omega) (ev_pos (by omega) ?_))
      rw [rdOf_nat, wrap_nat (by omega)]
      refine Ev.bind he (ev_neg ?_ e)
      rw [hn]
      simp
theorem contains_readPath (l : List ByteArray) (hl : l.length ≤ 140737488351232) (hx : ∀ x ∈ l, x.size ≤ 140737488351232) : Ev (fun k => slices_ContainsFunc_string_string_readPath_1.f k l) (!l.all nameOk) := by
  unfold slices_ContainsFunc_string_string_readPath_1.f slices_IndexFunc_string_string_readPath_1.f
  obtain ⟨r, e, hr⟩ := index_readPath l hl hx l.length 0 (by omega)
  exact Ev.bind e (ev_cast (Ev.now _) hr)
theorem decide_within (a lo hi : Int) : impl_within.f a lo hi = some (decide (lo ≤ a ∧ a ≤ hi)) := by
  unfold impl_within.f
  by_cases h : a ≥ lo
  · rw [if_pos h]
    congr 1
    rw [decide_eq_decide]
    omega
  · rw [if_neg h]
    congr 1
    symm
    rw [decide_eq_false_iff_not]
    omega
theorem impl_parts_l (s : ByteArray) (c : Int) (hs : s.size ≤ 1099511627776) (d : Nat) : ∀ (frm i : Nat) (acc : List ByteArray), i + d = s.size → frm ≤ i → acc.length ≤ i →
    Ev (fun k => impl_Parts.l0 k s c acc (frm : Int) (i : Int)) (partsGo s c d frm i acc) := by
  induction d with
  | zero =>
    intro frm i acc hi hf ha
    obtain rfl : i = s.size := by omega
    apply ev_shift
    simp only [impl_Parts.l0, partsGo]
    refine ev_neg (by omega) (ev_pos (by omega) (ev_pos (by omega) (ev_pos (by omega) ?_)))
    rw [Int.toNat_natCast]
    exact Ev.now _
  | succ d ih =>
    intro frm i acc hi hf ha
    apply ev_shift
    simp only [impl_Parts.l0, partsGo]
    refine ev_pos (by omega) (ev_pos (by omega) ?_)
    rw [wrap_nat (by omega), Int.toNat_natCast, Int.toNat_natCast]
    by_cases h : bt s (i : Int) = c
    · rw [if_pos h]
      refine ev_pos h (ev_pos (by omega) (ev_pos (by omega) (ev_pos (by omega) (ev_pos (by omega) ?_))))
      exact ih (i + 1) (i + 1) _ (by omega) (by omega) (by simp; omega)
    · rw [if_neg h]
      exact ev_neg h (ih frm (i + 1) acc (by omega) (by omega) (by omega))
theorem impl_Parts_ev (s : ByteArray) (c : Int) (hs : s.size ≤ 1099511627776) : Ev (fun k => impl_Parts.f k s c) (parts s c) :=
  impl_parts_l s c hs s.size 0 0 [] (by omega) (by omega) (by simp)
theorem partsGo_length (s : ByteArray) (c : Int) (d : Nat) : ∀ frm i acc, (partsGo s c d frm i acc).length ≤ acc.length + d + 1 := by
  induction d with
  | zero => intro frm i acc; simp [partsGo]
  | succ d ih =>
    intro frm i acc
    rw [partsGo]
    split
    · have := ih (i + 1) (i + 1) (acc ++ [s.extract frm i])
      simp at this
      omega
    · have := ih frm (i + 1) acc
      omega
theorem parts_length (s : ByteArray) (c : Int) : (parts s c).length ≤ s.size + 1 := by
  have := partsGo_length s c s.size 0 0 []
  simp at this
  unfold parts
  omega
theorem partsGo_mem (s : ByteArray) (c : Int) (d : Nat) : ∀ frm i acc, i + d = s.size → (∀ x ∈ acc, x.size ≤ s.size) → ∀ x ∈ partsGo s c d frm i acc, x.size ≤ s.size := by
  have hx : ∀ a b, (s.extract a b).size ≤ s.size := by
    intro a b
    rw [ByteArray.size_extract]
    omega
  induction d with
  | zero =>
    intro frm i acc hi h x hm
    rw [partsGo, List.mem_append] at hm
    rcases hm with hm | hm
    · exact h x hm
    · rw [List.mem_singleton] at hm
      subst hm
      exact hx _ _
  | succ d ih =>
    intro frm i acc hi h x hm
    rw [partsGo] at hm
    split at hm
    · refine ih _ _ _ (by omega) ?_ x hm
      intro y hy
      rw [List.mem_append] at hy
      rcases hy with hy | hy
      · exact h y hy
      · rw [List.mem_singleton] at hy
        subst hy
        exact hx _ _
    · exact ih _ _ _ (by omega) h x hm
theorem parts_mem (s : ByteArray) (c : Int) : ∀ x ∈ parts s c, x.size ≤ s.size := partsGo_mem s c s.size 0 0 [] (by omega) (by simp)
theorem impl_readPath_ev (s : ByteArray) (hs : s.size ≤ 1099511627776) : Ev (fun k => impl_readPath.f k s) (namesOf s, pathOk s) := by
  have hl := parts_length s 47
  have hm := parts_mem s 47
  have hp := parts_pos s 47
  have hj : Ev (fun k => impl_readPath.j0 k (parts s 47) true) ([], false) := by
    refine ev_shift ?_
    simp only [impl_readPath.j0]
    exact ev_pos trivial (Ev.now _)
  unfold impl_readPath.f namesOf pathOk
  by_cases c : s.toList = [47]
  · rw [if_pos c, if_pos c]
    exact ev_pos c (Ev.now _)
  · rw [if_neg c, if_neg c]
    refine ev_neg c (Ev.bind (impl_Parts_ev s 47 hs) (ev_pos (by omega) ?_))
    rw [show rdOf ByteArray.empty (parts s 47) 0 = (parts s 47).getD 0 ByteArray.empty from rdOf_nat _ _ 0]
    by_cases c3 : ((parts s 47).getD 0 ByteArray.empty).toList = []
    · refine ev_pos c3 (ev_eq (decide_within _ _ _) ?_)
      by_cases c2 : 2 ≤ ((parts s 47).length : Int) ∧ ((parts s 47).length : Int) ≤ 5
      · rw [decide_eq_true c2]
        refine ev_shift ?_
        simp only [impl_readPath.j0]
        refine ev_neg (by simp) (ev_pos (by omega) (Ev.bind (contains_readPath ((parts s 47).drop 1) (by rw [List.length_drop]; omega) (fun x hx => by have := hm x (List.mem_of_mem_drop hx); omega)) ?_))
        have e : pathGood (parts s 47) = ((parts s 47).drop 1).all nameOk := by
          unfold pathGood
          rw [decide_eq_true c2, decide_eq_true c3, Bool.true_and, Bool.true_and]
        rw [e]
        cases ((parts s 47).drop 1).all nameOk
        · exact ev_pos rfl (ev_cast (Ev.now _) (by simp))
        · exact ev_neg (by simp) (ev_cast (Ev.now _) (by simp))
      · have e : pathGood (parts s 47) = false := by
          unfold pathGood
          rw [decide_eq_false c2, Bool.false_and]
        rw [decide_eq_false c2, e]
        exact ev_cast hj (by simp)
    · have e : pathGood (parts s 47) = false := by
        unfold pathGood
        rw [decide_eq_false c3, Bool.false_and, Bool.and_false]
      rw [e]
      exact ev_neg c3 (ev_cast hj (by simp))
theorem mx_def (a b : Int) : mx a b = if a < b then b else a := rfl
theorem impl_Above_ev (p : ByteArray) (hp : p.size ≤ 1099511627776) : Ev (fun k => impl_Above.f k p) (aboveV p) := by
  have h2 := namesOf_four p
  unfold impl_Above.f aboveV
  refine Ev.bind (impl_readPath_ev p hp) ?_
  cases hg : pathOk p
  · exact ev_neg (by simp) (Ev.now _)
  · refine ev_pos rfl ?_
    show Ev (fun k => if 0 ≤ mx 0 (wrap64 (((namesOf p).length : Int) - 1)) then _ else _) _
    rw [wrap_in (by omega) (by omega)]
    have e : mx 0 (((namesOf p).length : Int) - 1) = (((namesOf p).length - 1 : Nat) : Int) := by
      rw [mx_def]
      split <;> omega
    simp only [e, Int.toNat_natCast]
    rw [← List.dropLast_eq_take]
    exact ev_pos (by omega) (ev_pos (by omega) (Ev.bind (impl_PathOf_ev _ (dropLast_bound p)) (Ev.now _)))
theorem impl_Names_ev (s : ByteArray) (hs : s.size ≤ 1099511627776) : Ev (fun k => impl_Names.f k s) (namesOf s) := by
  unfold impl_Names.f
  exact Ev.bind (impl_readPath_ev s hs) (Ev.now _)
theorem namesOf_length (s : ByteArray) : (namesOf s).length ≤ s.size := by
  have hl := parts_length s 47
  unfold namesOf
  split
  · simp
  · split
    · rw [List.length_drop]
      omega
    · simp
theorem impl_Last_ev (s : ByteArray) (hs : s.size ≤ 1099511627776) : Ev (fun k => impl_Last.f k s) (lastOf (namesOf s)) := by
  have hl := namesOf_length s
  unfold impl_Last.f lastOf
  refine Ev.bind (impl_Names_ev s hs) ?_
  by_cases c : (namesOf s).length = 0
  · rw [if_pos c]
    exact ev_pos (by omega) (Ev.now _)
  · rw [if_neg c, wrap_in (by omega) (by omega)]
    refine ev_neg (by omega) (ev_pos (by omega) (ev_pos (by omega) (ev_cast (Ev.now _) ?_)))
    rw [show ((namesOf s).length : Int) - 1 = (((namesOf s).length - 1 : Nat) : Int) from by omega, rdOf_nat]
theorem hasPrefix_eq (a b : ByteArray) : strings_HasPrefix.f a b = some (decide (b.data.toList <+: a.data.toList)) := by
  unfold strings_HasPrefix.f stringslite_HasPrefix.f
  have la := dlen a
  have lb := dlen b
  by_cases h : (a.size : Int) ≥ (b.size : Int)
  · rw [if_pos h, if_pos (by omega), if_pos (by omega), Int.toNat_natCast, ByteArray.toList_eq, ByteArray.toList_eq, Go.Lib.extract_data, List.drop_zero, Nat.sub_zero]
    simp only [Option.bind_some]
    congr 1
    rw [← lb, Bool.eq_iff_iff, beq_iff_eq, decide_eq_true_iff, List.prefix_iff_eq_take]
    exact ⟨fun z => z.symm, fun z => z.symm⟩
  · rw [if_neg h]
    simp only [Option.bind_some]
    congr 1
    symm
    rw [decide_eq_false_iff_not]
    intro hp
    have := hp.length_le
    omega
theorem ok_bound {l : List ByteArray} (h : ∀ x ∈ l, nameOk x = true) (hl : l.length ≤ 61) : l.length + letters l ≤ 1099511627776 := by
  have h3 := letters_le 6 l (fun x hx => (nameOk_size (h x hx)).2)
  omega
theorem snoc_ok {l : List ByteArray} {y : ByteArray} (h : ∀ x ∈ l, nameOk x = true) (hy : nameOk y = true) : ∀ x ∈ l ++ [y], nameOk x = true := by
  intro x hx
  rcases List.mem_append.mp hx with hx | hx
  · exact h x hx
  · rw [List.mem_singleton.mp hx]
    exact hy
theorem impl_norm_l (L : List ByteArray) (hL : L.length ≤ 61) (hx : ∀ x ∈ L, x.size ≤ 60) (d : Nat) : ∀ (i : Nat) (acc : List ByteArray), i + d = L.length → acc.length ≤ i → (∀ x ∈ acc, nameOk x = true) →
    Ev (fun k => impl_Normal.l0 k acc L (L.length : Int) (i : Int)) (normRes (normGo (L.drop i) acc)) := by
  induction d with
  | zero =>
    intro i acc hi ha hok
    apply ev_shift
    simp only [impl_Normal.l0]
    refine ev_neg (by omega) ?_
    rw [List.drop_eq_nil_of_le (by omega)]
    exact Ev.bind (impl_PathOf_ev acc (ok_bound hok (by omega))) (Ev.now _)
  | succ d ih =>
    intro i acc hi ha hok
    have hsz := hx _ (getD_mem ByteArray.empty L i (by omega))
    apply ev_shift
    simp only [impl_Normal.l0]
    refine ev_pos (by omega) (ev_pos (by omega) (ev_pos (by omega) ?_))
    rw [rdOf_nat, drop_cons ByteArray.empty L i (by omega)]
    generalize hy : L.getD i ByteArray.empty = y at hsz
    unfold normGo
    have skip : Ev (fun k => impl_Normal.j2 k acc y L (L.length : Int) (i : Int) true) (normRes (normGo (L.drop (i + 1)) acc)) := by
      apply ev_shift
      simp only [impl_Normal.j2]
      rw [wrap_nat (by omega)]
      exact ev_pos trivial (ih (i + 1) acc (by omega) (by omega) hok)
    by_cases c1 : y.toList = []
    · rw [if_pos (.inl c1)]
      exact ev_pos c1 skip
    · refine ev_neg c1 ?_
      by_cases c2 : y.toList = [46]
      · rw [if_pos (.inr c2), show (y.toList == [46]) = true by rw [c2]; rfl]
        exact skip
      · rw [if_neg (by rintro (h | h) <;> contradiction), show (y.toList == ([46] : List UInt8)) = false by simpa using c2]
        apply ev_shift
        simp only [impl_Normal.j2]
        refine ev_neg (by simp) ?_
        rw [wrap_nat (by omega)]
        by_cases c3 : y.toList = [46, 46]
        · rw [if_pos c3]
          refine ev_pos c3 ?_
          rw [wrap_in (by omega) (by omega)]
          have e : mx 0 ((acc.length : Int) - 1) = ((acc.length - 1 : Nat) : Int) := by
            rw [mx_def]
            split <;> omega
          simp only [e, Int.toNat_natCast]
          rw [← List.dropLast_eq_take]
          exact ev_pos (by omega) (ev_pos (by omega) (ih (i + 1) _ (by omega) (by rw [List.length_dropLast]; omega) (dropLast_ok hok)))
        · rw [if_neg c3]
          refine ev_neg c3 (Ev.bind (impl_NameOk_ev y (by omega)) ?_)
          cases hn : nameOk y
          · exact ev_neg (by simp) (Ev.now _)
          · refine ev_pos rfl (ev_pos (by omega) ?_)
            rw [if_pos rfl]
            exact ih (i + 1) _ (by omega) (by simp; omega) (snoc_ok hok hn)
theorem impl_Normal_ev (s : ByteArray) (hs : s.size ≤ 1099511627776) : Ev (fun k => impl_Normal.f k s) (normalV s) := by
  have hl := parts_length s 47
  have hm := parts_mem s 47
  have hj : Ev (fun k => impl_Normal.j0 k s true) (⟨#[]⟩, false) := by
    apply ev_shift
    simp only [impl_Normal.j0]
    exact ev_pos trivial (Ev.now _)
  unfold impl_Normal.f normalV
  by_cases c2 : (s.size : Int) > 60
  · rw [if_neg (by omega)]
    exact ev_pos c2 hj
  · refine ev_neg c2 (ev_eq (hasPrefix_eq _ _) ?_)
    have hb : decide ([47] <+: s.data.toList) = decide (1 ≤ s.size ∧ bt s 0 = 47) := by
      rw [decide_eq_decide]
      have hd := dlen s
      cases hq : s.data.toList with
      | nil =>
        rw [hq, List.length_nil] at hd
        simp
        omega
      | cons x r =>
        have h0 : 0 < s.data.toList.length := by rw [hq]; simp
        have h1 := bt_47 s 0 h0
        have h2 : s.data.toList[0] = x := by simp [hq]
        rw [h2] at h1
        have h3 : bt s 0 = 47 ↔ x = 47 := h1
        rw [h3]
        constructor
        · intro h
          obtain ⟨h4, _⟩ := List.cons_prefix_cons.mp h
          exact ⟨by omega, h4.symm⟩
        · rintro ⟨_, rfl⟩
          exact ⟨r, rfl⟩
    have hb' : decide ((⟨#[47]⟩ : ByteArray).data.toList <+: s.data.toList) = decide (1 ≤ s.size ∧ bt s 0 = 47) := hb
    rw [hb']
    by_cases c3 : 1 ≤ s.size ∧ bt s 0 = 47
    · rw [decide_eq_true c3, if_pos ⟨c3.1, by omega, c3.2⟩]
      apply ev_shift
      simp only [impl_Normal.j0]
      refine ev_neg (by simp) (Ev.bind (impl_Parts_ev s 47 hs) ?_)
      exact impl_norm_l (parts s 47) (by omega) (fun x hx => by have := hm x hx; omega) _ 0 [] (Nat.zero_add _) (by simp) (by simp)
    · rw [decide_eq_false c3, if_neg (fun z => c3 ⟨z.1, z.2.2⟩)]
      exact hj
theorem letters_append (a b : List ByteArray) : letters (a ++ b) = letters a + letters b := by
  unfold letters
  rw [List.map_append, List.sum_append]
theorem namesOf_letters (s : ByteArray) : letters (namesOf s) ≤ 24 := by
  have h1 := letters_le 6 (namesOf s) (fun x hx => (nameOk_size (namesOf_ok s x hx)).2)
  have h2 := namesOf_four s
  omega
theorem impl_PathJoin_ev (p n : ByteArray) (hp : p.size ≤ 1099511627776) (hn : n.size ≤ 1048576) : Ev (fun k => impl_PathJoin.f k p n) (pathJoinV p n) := by
  have h1 := namesOf_letters p
  have h2 := namesOf_four p
  unfold impl_PathJoin.f pathJoinV
  refine Ev.bind (impl_readPath_ev p hp) ?_
  cases pathOk p
  · exact ev_neg (by simp) (Ev.now _)
  · refine ev_pos rfl (ev_pos (by show (namesOf p).length < _; omega) ?_)
    exact Ev.bind (impl_PathOf_ev _ (by rw [letters_append, List.length_append, letters_cons]; simp [letters] at h1 ⊢; omega)) (Ev.now _)
theorem impl_PathOk_ev (s : ByteArray) (hs : s.size ≤ 1099511627776) : Ev (fun k => impl_PathOk.f k s) (pathOk s) := by
  unfold impl_PathOk.f
  exact Ev.bind (impl_readPath_ev s hs) (Ev.now _)
theorem spec_parts_l (s : ByteArray) (c : Int) (hs : s.size ≤ 1099511627776) (d : Nat) : ∀ (frm i : Nat) (acc : List ByteArray), i + d = s.size → frm ≤ i → acc.length ≤ i →
    Ev (fun k => spec_Parts.l0 k s c acc (frm : Int) (i : Int)) (partsGo s c d frm i acc) := by
  induction d with
  | zero =>
    intro frm i acc hi hf ha
    apply ev_shift
    simp only [spec_Parts.l0]
    refine ev_pos (by omega) (ev_pos (by omega) (ev_pos (by omega) (ev_pos (by omega) (ev_pos (by omega) ?_))))
    rw [wrap_nat (by omega), Int.toNat_natCast, Int.toNat_natCast]
    apply ev_shift
    simp only [spec_Parts.l0, partsGo]
    exact ev_neg (by omega) (Ev.now _)
  | succ d ih =>
    intro frm i acc hi hf ha
    apply ev_shift
    simp only [spec_Parts.l0, partsGo]
    refine ev_pos (by omega) (ev_neg (by omega) (ev_pos (by omega) (ev_pos (by omega) ?_)))
    rw [wrap_nat (by omega), Int.toNat_natCast, Int.toNat_natCast]
    by_cases h : bt s (i : Int) = c
    · rw [if_pos h]
      refine ev_pos h (ev_pos (by omega) (ev_pos (by omega) (ev_pos (by omega) ?_)))
      exact ih (i + 1) (i + 1) _ (by omega) (by omega) (by simp; omega)
    · rw [if_neg h]
      exact ev_neg h (ih frm (i + 1) acc (by omega) (by omega) (by omega))
theorem spec_Parts_ev (s : ByteArray) (c : Int) (hs : s.size ≤ 1099511627776) : Ev (fun k => spec_Parts.f k s c) (parts s c) :=
  spec_parts_l s c hs s.size 0 0 [] (by omega) (by omega) (by simp)
theorem ev_some {α β : Type} {a : α} {f : Nat → α → Option β} {r : β} (e : Ev (fun k => f k a) r) : Ev (fun k => (some a).bind (f k)) r := e
theorem spec_nameOk_l (s : ByteArray) (h : s.size ≤ 140737488351232) : Ev (fun k => spec_NameOk.l0 k s 0) ((bytesOf s).all nameCh) := by
  have := ev_loop (fun k i => spec_NameOk.l0 k s (i : Int)) (fun i => ((bytesOf s).drop i).all nameCh) s.size ?_ ?_ 0 (Nat.zero_le _)
  · exact this
  · simp only [spec_NameOk.l0]
    refine ev_neg (by omega) (ev_cast (Ev.now _) ?_)
    rw [List.drop_eq_nil_of_le (by rw [bytesOf_length]; omega)]
    rfl
  · intro i hi e
    simp only [spec_NameOk.l0]
    rw [wrap_nat (by omega), all_drop s i hi]
    refine ev_pos (by omega) (ev_pos (by omega) ?_)
    by_cases hc : nameCh (bt s i) = true
    · simp only [hc, Bool.true_and]
      have hc' : 97 ≤ bt s i ∧ bt s i ≤ 122 ∨ 48 ≤ bt s i ∧ bt s i ≤ 57 := by simpa [nameCh] using hc
      by_cases h1 : 97 ≤ bt s i
      · exact ev_pos h1 (ev_pos (by omega) e)
      · exact ev_neg h1 (ev_pos (by omega) (ev_pos (by omega) e))
    · have hc' : ¬ (97 ≤ bt s i ∧ bt s i ≤ 122 ∨ 48 ≤ bt s i ∧ bt s i ≤ 57) := by simpa [nameCh] using hc
      simp only [Bool.eq_false_iff.mpr hc, Bool.false_and]
      by_cases h1 : 97 ≤ bt s i
      · refine ev_pos h1 (ev_neg (by omega) (ev_pos (by omega) (ev_neg (by omega) (Ev.now _))))
      · refine ev_neg h1 ?_
        by_cases h2 : 48 ≤ bt s i
        · exact ev_pos h2 (ev_neg (by omega) (Ev.now _))
        · exact ev_neg h2 (Ev.now _)
theorem spec_NameOk_ev (s : ByteArray) (h : s.size ≤ 140737488351232) : Ev (fun k => spec_NameOk.f k s) (nameOk s) := by
  unfold spec_NameOk.f
  by_cases hs : 1 ≤ s.size ∧ s.size ≤ 6
  · refine ev_eq (a := true) (by unfold spec_l1In.f; rw [if_pos (by omega)]; simp; omega) (ev_pos rfl ?_)
    refine ev_cast (spec_nameOk_l s h) ?_
    simp [nameOk, hs]
  · refine ev_eq (a := false) (by unfold spec_l1In.f; split <;> simp <;> omega) (ev_neg (by simp) (ev_cast (Ev.now _) ?_))
    simp only [nameOk, decide_eq_false hs, Bool.false_and]
theorem letters_take (l : List ByteArray) (i : Nat) : letters (l.take i) ≤ letters l := by
  induction l generalizing i with
  | nil => simp
  | cons x l ih =>
    cases i with
    | zero => simp [letters]
    | succ i =>
      rw [List.take_succ_cons, letters_cons, letters_cons]
      have := ih i
      omega
theorem pj_snoc (l : List ByteArray) (i : Nat) (h : i < l.length) : (pj (l.take i) ++ (⟨#[47]⟩ : ByteArray)) ++ l.getD i ByteArray.empty = pj (l.take (i + 1)) := by
  apply Go.WideShapes.bytes_inj
  rw [Go.Joins.data_append, Go.Joins.data_append, pj_list, pj_list, List.take_succ_eq_append_getElem h, PJ_append, List.append_assoc]
  congr 1
  rw [PJ_cons]
  simp [PJ, List.getD, h]
theorem decide_l1In (a lo hi : Int) : spec_l1In.f a lo hi = some (decide (lo ≤ a ∧ a ≤ hi)) := by
  unfold spec_l1In.f
  by_cases h : a ≥ lo
  · rw [if_pos h]
    congr 1
    rw [decide_eq_decide]
    omega
  · rw [if_neg h]
    congr 1
    symm
    rw [decide_eq_false_iff_not]
    omega
theorem spec_pathOk_l (l : List ByteArray) (hl : l.length ≤ 140737488351232) (hx : ∀ x ∈ l, x.size ≤ 140737488351232) (d : Nat) : ∀ i, i + d = l.length → Ev (fun k => spec_PathOk.l0 k l (i : Int)) ((l.drop i).all nameOk) := by
  induction d with
  | zero =>
    intro i hi
    apply ev_shift
    simp only [spec_PathOk.l0]
    refine ev_neg (by omega) (ev_cast (Ev.now _) ?_)
    rw [List.drop_eq_nil_of_le (by omega)]
    rfl
  | succ d ih =>
    intro i hi
    apply ev_shift
    simp only [spec_PathOk.l0]
    refine ev_pos (by omega) (ev_pos (by omega) ?_)
    rw [wrap_nat (by omega), rdOf_nat, drop_all (by omega)]
    refine Ev.bind (spec_NameOk_ev _ (hx _ (getD_mem _ _ _ (by omega)))) ?_
    cases nameOk (l.getD i ByteArray.empty)
    · exact ev_neg (by simp) (ev_cast (Ev.now _) (by simp))
    · exact ev_pos rfl (ev_cast (ih (i + 1) (by omega)) (by simp))
theorem spec_PathOk_ev (s : ByteArray) (hs : s.size ≤ 1099511627776) : Ev (fun k => spec_PathOk.f k s) (pathOk s) := by
  have hl := parts_length s 47
  have hm := parts_mem s 47
  have hp := parts_pos s 47
  unfold spec_PathOk.f pathOk pathGood
  by_cases c : s.toList = [47]
  · rw [if_pos c]
    exact ev_pos c (Ev.now _)
  · rw [if_neg c]
    refine ev_neg c (Ev.bind (spec_Parts_ev s 47 hs) (ev_eq (decide_l1In _ _ _) ?_))
    have hj : Ev (fun k => spec_PathOk.j0 k (parts s 47) true) false := by
      refine ev_shift ?_
      simp only [spec_PathOk.j0]
      exact ev_pos trivial (Ev.now _)
    by_cases c2 : 2 ≤ ((parts s 47).length : Int) ∧ ((parts s 47).length : Int) ≤ 5
    · rw [decide_eq_true c2]
      refine ev_pos rfl (ev_pos (by omega) ?_)
      rw [show rdOf ByteArray.empty (parts s 47) 0 = (parts s 47).getD 0 ByteArray.empty from rdOf_nat _ _ 0]
      refine ev_shift ?_
      simp only [spec_PathOk.j0]
      by_cases c3 : ((parts s 47).getD 0 ByteArray.empty).toList = []
      · rw [c3]
        refine ev_neg (by simp) (ev_cast (spec_pathOk_l (parts s 47) (by omega) (fun x hx => by have := hm x hx; omega) _ 1 (Nat.add_sub_cancel' (by omega))) ?_)
        simp
      · refine ev_pos (by simpa using c3) (ev_cast (Ev.now _) ?_)
        rw [decide_eq_false c3]
        simp
    · rw [decide_eq_false c2]
      exact ev_neg (by simp) (ev_cast hj (by simp))
theorem spec_l1Copy_eq (l : List ByteArray) (h : l.length < 8796093022208) : spec_l1Copy.f l = some l := by
  unfold spec_l1Copy.f
  simp only [Option.bind_some, List.length_nil, Nat.zero_add, List.nil_append]
  rw [if_pos h]
theorem spec_Names_ev (s : ByteArray) (hs : s.size ≤ 1099511627776) : Ev (fun k => spec_Names.f k s) (namesOf s) := by
  have hl := parts_length s 47
  have hp := parts_pos s 47
  have hj : Ev (fun k => spec_Names.j0 k s true) [] := by
    refine ev_shift ?_
    simp only [spec_Names.j0]
    exact ev_pos trivial (Ev.now _)
  unfold spec_Names.f namesOf
  refine Ev.bind (spec_PathOk_ev s hs) ?_
  unfold pathOk
  by_cases c : s.toList = [47]
  · rw [if_pos c, if_pos c]
    refine ev_pos rfl (ev_cast ?_ rfl)
    rw [c]
    exact hj
  · rw [if_neg c, if_neg c]
    cases h : pathGood (parts s 47)
    · exact ev_neg (by simp) (ev_cast hj (by simp))
    · refine ev_pos rfl (ev_shift ?_)
      simp only [spec_Names.j0]
      refine ev_neg (by simpa using c) (Ev.bind (spec_Parts_ev s 47 hs) (ev_pos (by omega) (ev_eq (spec_l1Copy_eq _ (by rw [List.length_drop]; omega)) (ev_cast (Ev.now _) ?_))))
      simp
theorem spec_PathOf_j (l : List ByteArray) (o : ByteArray) (ho : o.size ≤ 1099511627776) (hl : l.length ≤ 1099511627776) : Ev (fun k => spec_PathOf.j1 k l o) (if (pathOk o && decide ((namesOf o).length = l.length)) = true then o else ⟨#[]⟩) := by
  apply ev_shift
  simp only [spec_PathOf.j1]
  refine Ev.bind (spec_PathOk_ev o ho) ?_
  cases hp : pathOk o
  · exact ev_neg (by simp) (ev_cast (Ev.now _) (by simp))
  · refine ev_pos rfl (Ev.bind (spec_Names_ev o ho) ?_)
    by_cases c : (namesOf o).length = l.length
    · exact ev_pos (by omega) (ev_cast (Ev.now _) (by simp [c]))
    · exact ev_neg (by omega) (ev_cast (Ev.now _) (by simp [c]))
theorem spec_PathOf_ev (l : List ByteArray) (h : l.length + letters l ≤ 1099511627776) : Ev (fun k => spec_PathOf.f k l) (pathOfV l) := by
  unfold spec_PathOf.f
  have := ev_loop (fun k i => spec_PathOf.l0 k l (pj (l.take i)) (i : Int)) (fun _ => pathOfV l) l.length ?_ ?_ 0 (Nat.zero_le _)
  · exact this
  · simp only [spec_PathOf.l0]
    refine ev_neg (by omega) ?_
    rw [List.take_length]
    by_cases h0 : l = []
    · subst h0
      refine ev_pos rfl (ev_cast (spec_PathOf_j [] ⟨#[47]⟩ (by show 1 ≤ _; omega) (by simp)) ?_)
      rw [pathOk_root, namesOf_root]
      rfl
    · refine ev_neg (fun e => h0 (List.length_eq_zero_iff.mp (by omega))) (ev_cast (spec_PathOf_j l (pj l) (by rw [pj_size]; omega) (by omega)) ?_)
      rw [pathOut l h0]
      unfold pathOfV
      by_cases c : l.length ≤ 4 ∧ l.all nameOk = true
      · rw [decide_eq_true c, if_pos rfl, if_pos c, if_neg h0]
      · rw [decide_eq_false c, if_neg (by simp), if_neg c]
  · intro i hi e
    have hs := pj_size (l.take i)
    have hs2 := pj_size (l.take (i + 1))
    have ht := letters_take l i
    have ht2 := letters_take l (i + 1)
    rw [List.length_take, Nat.min_eq_left (by omega)] at hs hs2
    have hsn := congrArg ByteArray.size (pj_snoc l i hi)
    simp only [spec_PathOf.l0]
    rw [rdOf_nat, pj_snoc l i hi, wrap_nat (by omega)]
    refine ev_pos (by omega) (ev_pos (by omega) (ev_pos (by omega) (ev_pos ?_ e)))
    rw [ByteArray.size_append] at hsn
    omega
theorem spec_norm_l (L : List ByteArray) (hL : L.length ≤ 61) (hx : ∀ x ∈ L, x.size ≤ 60) (d : Nat) : ∀ (i : Nat) (acc : List ByteArray), i + d = L.length → acc.length ≤ i → (∀ x ∈ acc, nameOk x = true) →
    Ev (fun k => spec_Normal.l0 k L acc (i : Int)) (normRes (normGo (L.drop i) acc)) := by
  induction d with
  | zero =>
    intro i acc hi ha hok
    apply ev_shift
    simp only [spec_Normal.l0]
    refine ev_neg (by omega) ?_
    rw [List.drop_eq_nil_of_le (by omega)]
    exact Ev.bind (spec_PathOf_ev acc (ok_bound hok (by omega))) (Ev.now _)
  | succ d ih =>
    intro i acc hi ha hok
    have hsz := hx _ (getD_mem ByteArray.empty L i (by omega))
    apply ev_shift
    simp only [spec_Normal.l0]
    refine ev_pos (by omega) (ev_pos (by omega) ?_)
    rw [rdOf_nat, drop_cons ByteArray.empty L i (by omega)]
    generalize hy : L.getD i ByteArray.empty = y at hsz
    unfold normGo
    have skip : Ev (fun k => spec_Normal.j2 k L acc (i : Int) true) (normRes (normGo (L.drop (i + 1)) acc)) := by
      apply ev_shift
      simp only [spec_Normal.j2]
      rw [wrap_nat (by omega)]
      exact ev_pos trivial (ih (i + 1) acc (by omega) (by omega) hok)
    by_cases c1 : y.toList = []
    · rw [if_pos (.inl c1)]
      exact ev_pos c1 skip
    · refine ev_neg c1 ?_
      by_cases c2 : y.toList = [46]
      · rw [if_pos (.inr c2), show (y.toList == [46]) = true by rw [c2]; rfl]
        exact skip
      · rw [if_neg (by rintro (h | h) <;> contradiction), show (y.toList == ([46] : List UInt8)) = false by simpa using c2]
        apply ev_shift
        simp only [spec_Normal.j2]
        refine ev_neg (by simp) (ev_pos (by omega) (ev_pos (by omega) ?_))
        rw [rdOf_nat, hy, wrap_nat (by omega)]
        by_cases c3 : y.toList = [46, 46]
        · rw [if_pos c3]
          refine ev_pos c3 ?_
          by_cases c4 : (acc.length : Int) > 0
          · rw [wrap_in (by omega) (by omega)]
            refine ev_pos c4 (ev_pos (by omega) (ev_pos (by omega) ?_))
            rw [show (((acc.length : Int) - 1 : Int).toNat) = acc.length - 1 by omega, ← List.dropLast_eq_take]
            exact ih (i + 1) _ (by omega) (by rw [List.length_dropLast]; omega) (dropLast_ok hok)
          · have : acc = [] := List.length_eq_zero_iff.mp (by omega)
            subst this
            exact ev_neg c4 (ih (i + 1) [] (by omega) (by simp) hok)
        · rw [if_neg c3]
          refine ev_neg c3 (Ev.bind (spec_NameOk_ev y (by omega)) ?_)
          cases hn : nameOk y
          · exact ev_neg (by simp) (Ev.now _)
          · refine ev_pos rfl (ev_eq (spec_l1Copy_eq acc (by omega)) (ev_some (ev_pos (by simp; omega) ?_)))
            rw [if_pos rfl]
            exact ih (i + 1) _ (by omega) (by simp; omega) (snoc_ok hok hn)
theorem spec_Normal_ev (s : ByteArray) (hs : s.size ≤ 1099511627776) : Ev (fun k => spec_Normal.f k s) (normalV s) := by
  have hl := parts_length s 47
  have hm := parts_mem s 47
  have hj : Ev (fun k => spec_Normal.j0 k s true) (⟨#[]⟩, false) := by
    apply ev_shift
    simp only [spec_Normal.j0]
    exact ev_pos trivial (Ev.now _)
  unfold spec_Normal.f normalV
  by_cases c1 : (s.size : Int) < 1
  · rw [if_neg (by omega)]
    exact ev_pos c1 hj
  · refine ev_neg c1 ?_
    by_cases c2 : (s.size : Int) > 60
    · rw [if_neg (by omega)]
      exact ev_pos c2 hj
    · refine ev_neg c2 (ev_pos (by omega) ?_)
      by_cases c3 : bt s 0 = 47
      · rw [if_pos ⟨by omega, by omega, c3⟩, show (bt s 0 != 47) = false by rw [c3]; rfl]
        apply ev_shift
        simp only [spec_Normal.j0]
        refine ev_neg (by simp) (Ev.bind (spec_Parts_ev s 47 hs) ?_)
        exact spec_norm_l (parts s 47) (by omega) (fun x hx => by have := hm x hx; omega) _ 0 [] (Nat.zero_add _) (by simp) (by simp)
      · rw [if_neg (fun z => c3 z.2.2), show (bt s 0 != 47) = true by simpa using c3]
        exact hj
theorem FnNormal : laws_FnNormal.Pure := by
  intro l _ hl _
  have hl' : l.length ≤ 140737488351232 := by omega
  apply Ev.rounds (g := fun k => laws_FnNormal.f k l)
  unfold laws_FnNormal.f
  by_cases hbig : decide ((l.length : Int) > 1048576) = true
  · exact ev_eq (show laws_big.f l = some true by unfold laws_big.f; rw [hbig]) (ev_pos rfl (Ev.now _))
  · rw [Bool.not_eq_true] at hbig
    refine ev_eq (show laws_big.f l = some false by unfold laws_big.f; rw [hbig]) (ev_neg (by simp) ?_)
    obtain ⟨s, ed, hs⟩ := DrawNormal_ev l hl'
    refine Ev.bind ed (Ev.bind (impl_Normal_ev s (by omega)) (Ev.bind (spec_Normal_ev s (by omega)) (ev_neg (by simp) ?_)))
    cases hok : (normalV s).2
    · refine ev_neg (by simp) (ev_cast (Ev.now _) ?_)
      rw [normalV_bad hok]
      rfl
    · obtain ⟨n, h4, ha, hp⟩ := normalV_good hok
      refine ev_pos rfl ?_
      rw [hp]
      have hsz := pathOfV_size n
      obtain ⟨hk, hn⟩ := names_pathOfV h4 ha
      refine Ev.bind (impl_Normal_ev (pathOfV n) (by omega)) ?_
      rw [normal_path h4 ha]
      refine ev_pos rfl (ev_pos rfl (Ev.bind (impl_PathOk_ev (pathOfV n) (by omega)) ?_))
      rw [hk]
      refine ev_pos rfl (Ev.bind (impl_Names_ev (pathOfV n) (by omega)) ?_)
      rw [hn]
      have hb := letters_le 6 n (fun x hx => (nameOk_size (List.all_eq_true.mp ha x hx)).2)
      refine Ev.bind (impl_PathOf_ev n (by omega)) ?_
      rw [show ((pathOfV n).toList != (pathOfV n).toList) = false by simp]
      apply ev_shift
      simp only [laws_FnNormal.j0]
      refine ev_neg (by simp) (ev_neg (by omega) (ev_pos (by omega) (Ev.bind (impl_Normal_ev _ (by rw [ByteArray.size_append]; show (pathOfV n).size + 5 ≤ _; omega)) ?_)))
      rw [normal_more h4 ha]
      refine ev_pos rfl (ev_pos rfl ?_)
      by_cases h0 : n = []
      · exact ev_pos (root_names h4 ha h0) (Ev.now _)
      · by_cases h1 : (pathOfV n).toList = [47]
        · exact ev_pos h1 (Ev.now _)
        · have hab := aboveV_size (pathOfV n)
          have hls : (lastOf (namesOf (pathOfV n))).size ≤ 1048576 := by
            rw [hn]
            unfold lastOf
            split
            · show 0 ≤ _; omega
            · have := List.all_eq_true.mp ha _ (getD_mem ByteArray.empty n (n.length - 1) (by have := List.length_pos_iff.mpr h0; omega))
              have := (nameOk_size this).2
              omega
          refine ev_neg h1 (Ev.bind (impl_Above_ev _ (by omega)) (Ev.bind (impl_Last_ev _ (by omega)) (Ev.bind (impl_PathJoin_ev _ _ (by omega) hls) (ev_cast (Ev.now _) ?_))))
          rw [join_back h4 ha h0]
          simp
end Go.Proofs.Ytbhgafobkneafaa.Pure
namespace Go.Proofs.Ytbhgafobkneafaa
open Go.ChangeShapes Go.WideShapes
/-- The printed row names it so. -/
theorem PrintWords.sized_ints {H : Type} {enc : TypeId × Value → H} {P : Program} {W : World} {base : Nat} {spare : Nat → Bool} {held : Bool} {t e : TypeId} {k : IntKind} {a : Option Addr} {len cap : Nat} {d : DataW H} {ps : List MemPlace} {ts : List TypeId} {ds : List (DataW H)} {j : Nat}
    (hsz : (DataW.weightsEach P ts ds).all (· ≤ reachBytes) = true) (ht : ts[j]? = some t) (hd : ds[j]? = some d) (hu : P.underlying t = some (.slice e)) (he : P.underlying e = some (.int k)) (hc : P.cellsOf e = 1) {B : Nat} (hB : P.bytesOf e = B)
    (h : DataW.Trod enc P W base spare held t (.slice a len cap) d ps) : len * B ≤ 140737488351232 :=
  Go.Proofs.YtbhgafobkneafaaW.PrintWords.sized_ints hsz ht hd hu he hc hB h
end Go.Proofs.Ytbhgafobkneafaa
