/- FnExactNumber: the law's function of the print answers true for every input within the row's bounds. Conditions: none but the bounds that the row itself gives. -/
import Derived.Test.YtapliilimfgdjaaDoorWalkFnExactNumber
import Derived.Test.YtapliilimfgdjaaDoorPureFnExactDigits
import Derived.Lib.ItoaLen
import Derived.Lib.ItoaMem
import Derived.OpenShut
import Derived.Laws.BitsLemmas
namespace Go.Proofs.YtapliilimfgdjaaDoor.PureN
open Go Go.RowKit Go.Proofs.YtapliilimfgdjaaDoor.PFnExactDigits Go.Proofs.YtapliilimfgdjaaDoorW.PrintWords Go.Proofs.YtapliilimfgdjaaDoorW.PrintLast Go.Proofs.YtapliilimfgdjaaDoorW.PrintMore Go.Proofs.YtapliilimfgdjaaDoorW.PrintMore
set_option linter.unusedVariables false
set_option linter.unusedSimpArgs false

def numGo (L : List UInt8) : List UInt8 → Nat → Int × Bool
  | [], n => if Lib.itoa (n : Int) = L then ((n : Int), true) else (0, false)
  | c :: r, n => if 48 ≤ c.toNat ∧ c.toNat ≤ 57 then numGo L r (n * 10 + (c.toNat - 48)) else (0, false)
theorem rd_nat (xs : List Int) (i : Nat) : rd xs (i : Int) = xs.getD i 0 := by simp [rd]
theorem bt_nat (s : ByteArray) (i : Nat) : bt s (i : Int) = (bytesOf s).getD i 0 := by rw [← rd_bytesOf, rd_nat]
theorem bt_list (s : ByteArray) (i : Nat) (hi : i < s.data.toList.length) : bt s (i : Int) = ((s.data.toList.getD i 0).toNat : Int) := by
  rw [bt_nat]
  simp only [bytesOf, List.getD, List.getElem?_map]
  rw [List.getElem?_eq_getElem hi]
  rfl
theorem drop_cons {α : Type} (d : α) (l : List α) (i : Nat) (h : i < l.length) : l.drop i = l.getD i d :: l.drop (i + 1) := by
  rw [List.drop_eq_getElem_cons h]
  simp [List.getD, h]
theorem ev_cast {α : Type} {g : Nat → Option α} {r r' : α} (h : Ev g r) (e : r = r') : Ev g r' := e ▸ h
theorem ev_neg {α : Type} {c : Prop} [Decidable c] {f g : Nat → Option α} {r : α} (h : ¬ c) (e : Ev g r) : Ev (fun k => if c then f k else g k) r := by
  simpa only [if_neg h] using e
theorem ev_pos {α : Type} {c : Prop} [Decidable c] {f g : Nat → Option α} {r : α} (h : c) (e : Ev f r) : Ev (fun k => if c then f k else g k) r := by
  simpa only [if_pos h] using e
theorem ev_shift {α : Type} {g : Nat → Option α} {r : α} (h : Ev (fun k => g (k + 1)) r) : Ev g r := Ev.step (f := fun k => g (k + 1)) (fun _ => rfl) h
theorem wrap_in {x : Int} (h0 : -9223372036854775808 ≤ x) (h1 : x ≤ 9223372036854775807) : wrap64 x = x := by
  unfold wrap64
  omega
theorem wrap_nat {i : Nat} (h : i < 9223372036854775807) : wrap64 ((i : Int) + 1) = ((i + 1 : Nat) : Int) := by
  unfold wrap64
  omega
theorem num_loop (s : ByteArray) (hs : s.data.toList.length ≤ 6) : ∀ (d i n : Nat), i + d = s.data.toList.length → n < 10 ^ i → Ev (fun k => spec_Number.l0 k s (n : Int) (i : Int)) (numGo s.data.toList (s.data.toList.drop i) n) := by
  have hsz : s.size = s.data.toList.length := by
    show s.data.size = _
    simp
  intro d
  induction d with
  | zero =>
    intro i n hi hn
    have h6 : 10 ^ i ≤ 10 ^ 6 := Nat.pow_le_pow_right (by omega) (by omega)
    apply ev_shift
    simp only [spec_Number.l0]
    rw [List.drop_of_length_le (by omega), numGo]
    refine ev_neg (by omega) (Ev.bind (Pure.Digits_ev (n : Int) (by omega) (by omega)) ?_)
    have e : ((⟨(Lib.itoa (n : Int)).toArray⟩ : ByteArray).toList = s.toList) ↔ Lib.itoa (n : Int) = s.data.toList := by
      rw [ByteArray.toList_eq, ByteArray.toList_eq]
    by_cases c : Lib.itoa (n : Int) = s.data.toList
    · exact ev_pos (e.2 c) (ev_cast (Ev.now _) (by rw [if_pos c]))
    · exact ev_neg (fun z => c (e.1 z)) (ev_cast (Ev.now _) (by rw [if_neg c]))
  | succ d ih =>
    intro i n hi hn
    have h6 : 10 ^ i ≤ 10 ^ 6 := Nat.pow_le_pow_right (by omega) (by omega)
    have hb := bt_list s i (by omega)
    have hr := (s.data.toList.getD i 0).toNat_lt
    apply ev_shift
    simp only [spec_Number.l0]
    rw [hb, drop_cons 0 _ i (by omega), numGo, wrap_nat (i := i) (by omega)]
    generalize s.data.toList.getD i 0 = c at hr
    refine ev_pos (by omega) (ev_pos (by omega) ?_)
    by_cases c1 : c.toNat < 48
    · exact ev_pos (by omega) (ev_cast (Ev.now _) (by rw [if_neg (by omega)]))
    · by_cases c2 : 57 < c.toNat
      · exact ev_neg (by omega) (ev_pos (by omega) (ev_cast (Ev.now _) (by rw [if_neg (by omega)])))
      · rw [if_pos (by omega), wrap_in (x := 10 * (n : Int)) (by omega) (by omega), wrap_in (x := (c.toNat : Int)) (by omega) (by omega), wrap_in (x := 10 * (n : Int) + (c.toNat : Int)) (by omega) (by omega), wrap_in (x := 10 * (n : Int) + (c.toNat : Int) - 48) (by omega) (by omega), show 10 * (n : Int) + (c.toNat : Int) - 48 = ((n * 10 + (c.toNat - 48) : Nat) : Int) by omega]
        exact ev_neg (by omega) (ev_neg (by omega) (ih (i + 1) _ (by omega) (by rw [Nat.pow_succ]; omega)))
/-- So many digits, and what they spell. -/
theorem dec_facts : ∀ (k v : Nat), v < 10 ^ (k + 1) → (Lib.decDigits v).length ≤ k + 1 ∧ 1 ≤ (Lib.decDigits v).length := by
  intro k
  induction k with
  | zero =>
    intro v hv
    rw [Lib.decDigits_one (by simpa using hv)]
    simp
  | succ k ih =>
    intro v hv
    by_cases c : v < 10
    · rw [Lib.decDigits_one c]
      simp
    · rw [Lib.decDigits, dif_neg c, List.length_append, List.length_singleton]
      have := ih (v / 10) (by rw [Nat.pow_succ] at hv; omega)
      omega
theorem numGo_dec (L : List UInt8) : ∀ (n v : Nat), v ≤ n → ∀ (r : List UInt8), numGo L (Lib.decDigits v ++ r) 0 = numGo L r v := by
  intro n
  induction n with
  | zero =>
    intro v hv r
    rw [Lib.decDigits_one (by omega)]
    obtain rfl : v = 0 := by omega
    rfl
  | succ n ih =>
    intro v hv r
    by_cases c : v < 10
    · rw [Lib.decDigits_one c, List.singleton_append, numGo]
      have e : (UInt8.ofNat (48 + v)).toNat = 48 + v := by
        rw [UInt8.toNat_ofNat']
        omega
      rw [e, if_pos (by omega), show 0 * 10 + (48 + v - 48) = v by omega]
    · rw [Lib.decDigits, dif_neg c, List.append_assoc, ih (v / 10) (by omega), List.singleton_append, numGo]
      have e : (UInt8.ofNat (48 + v % 10)).toNat = 48 + v % 10 := by
        rw [UInt8.toNat_ofNat']
        omega
      rw [e, if_pos (by omega), show v / 10 * 10 + (48 + v % 10 - 48) = v by omega]
theorem parse_dec : ∀ (n v : Nat), v ≤ n → v ≤ 999999 → ∀ (r : List UInt8), Lib.parseUint10 0 (Lib.decDigits v ++ r) = Lib.parseUint10 v r := by
  intro n
  induction n with
  | zero =>
    intro v hv _ r
    rw [Lib.decDigits_one (by omega)]
    obtain rfl : v = 0 := by omega
    rfl
  | succ n ih =>
    intro v hv h9 r
    by_cases c : v < 10
    · rw [Lib.decDigits_one c, List.singleton_append, Lib.parseUint10]
      have e : (UInt8.ofNat (48 + v)).toNat = 48 + v := by
        rw [UInt8.toNat_ofNat']
        omega
      rw [e, if_pos (by omega), if_neg (by omega), if_neg (by omega), show 0 * 10 + (48 + v - 48) = v by omega]
    · rw [Lib.decDigits, dif_neg c, List.append_assoc, ih (v / 10) (by omega) (by omega), List.singleton_append, Lib.parseUint10]
      have e : (UInt8.ofNat (48 + v % 10)).toNat = 48 + v % 10 := by
        rw [UInt8.toNat_ofNat']
        omega
      rw [e, if_pos (by omega), if_neg (by omega), if_neg (by omega), show v / 10 * 10 + (48 + v % 10 - 48) = v by omega]
theorem dec_head : ∀ (n v : Nat), v ≤ n → ∃ c r, Lib.decDigits v = c :: r ∧ 48 ≤ c.toNat ∧ c.toNat ≤ 57 := by
  intro n
  induction n with
  | zero =>
    intro v hv
    exact ⟨_, [], Lib.decDigits_one (by omega), by rw [UInt8.toNat_ofNat']; omega, by rw [UInt8.toNat_ofNat']; omega⟩
  | succ n ih =>
    intro v hv
    by_cases c : v < 10
    · exact ⟨_, [], Lib.decDigits_one c, by rw [UInt8.toNat_ofNat']; omega, by rw [UInt8.toNat_ofNat']; omega⟩
    · obtain ⟨c', r, e, h⟩ := ih (v / 10) (by omega)
      refine ⟨c', r ++ [UInt8.ofNat (48 + v % 10)], ?_, h⟩
      rw [Lib.decDigits, dif_neg c, e, List.cons_append]
theorem atoi_dec (v : Nat) (h : v ≤ 999999) : Lib.atoiAll (Lib.decDigits v) = .ok (v : Int) := by
  obtain ⟨c, r, e, h1, h2⟩ := dec_head v v (Nat.le_refl _)
  have hp := parse_dec v v (Nat.le_refl _) h []
  rw [List.append_nil, Lib.parseUint10, e] at hp
  rw [e]
  unfold Lib.atoiAll
  simp only
  rw [if_neg (by omega)]
  unfold Lib.parseMag
  rw [if_neg (by simp), hp]
  simp only
  rw [if_neg (by omega), if_neg (by omega), if_neg (by omega)]
theorem numGo_true (L : List UInt8) : ∀ (l : List UInt8) (n : Nat), l.length ≤ 6 → n < 10 ^ (6 - l.length) → numGo L l n = (0, false) ∨ ∃ v : Nat, v ≤ 999999 ∧ Lib.itoa (v : Int) = L ∧ numGo L l n = ((v : Int), true) := by
  intro l
  induction l with
  | nil =>
    intro n _ hn
    rw [numGo]
    by_cases c : Lib.itoa (n : Int) = L
    · refine .inr ⟨n, ?_, c, by rw [if_pos c]⟩
      have : 10 ^ (6 - ([] : List UInt8).length) = 1000000 := rfl
      omega
    · exact .inl (by rw [if_neg c])
  | cons c r ih =>
    intro n hl hn
    rw [List.length_cons] at hl hn
    rw [numGo]
    by_cases h : 48 ≤ c.toNat ∧ c.toNat ≤ 57
    · rw [if_pos h]
      refine ih _ (by omega) ?_
      rw [show 6 - r.length = (6 - (r.length + 1)) + 1 by omega, Nat.pow_succ]
      omega
    · exact .inl (by rw [if_neg h])
theorem itoa_nat (v : Nat) : Lib.itoa (v : Int) = Lib.decDigits v := Lib.itoa_nonneg v
theorem arr_iff (l : List UInt8) (s : ByteArray) : (⟨l.toArray⟩ : ByteArray) = s ↔ l = s.data.toList := by
  constructor
  · intro h
    rw [← h]
  · intro h
    rw [h]
theorem Number_ev (s : ByteArray) : Ev (fun k => spec_Number.f k s) (Number.numOf s) := by
  have hsz : s.size = s.data.toList.length := by
    show s.data.size = _
    simp
  -- what numOf says, by the numerals
  have good : ∀ v : Nat, v ≤ 999999 → Lib.decDigits v = s.data.toList → Number.numOf s = ((v : Int), true) := fun v h9 e => by
    unfold Number.numOf
    rw [← e, atoi_dec v h9]
    simp only
    rw [if_pos ⟨by omega, by omega, (arr_iff _ _).2 (by rw [itoa_nat]; exact e)⟩]
  have bad : (∀ v : Nat, v ≤ 999999 → ¬ Lib.decDigits v = s.data.toList) → Number.numOf s = (0, false) := fun h => by
    unfold Number.numOf
    rcases Number.ends (Lib.atoiAll s.data.toList) with ⟨v, ha⟩ | ha | ha
    · rw [ha]
      simp only
      rw [if_neg]
      rintro ⟨h0, h1, h2⟩
      refine h v.toNat (by omega) ?_
      rw [← itoa_nat, show ((v.toNat : Nat) : Int) = v by omega]
      exact (arr_iff _ _).1 h2
    · rw [ha]
    · rw [ha]
      rfl
  unfold spec_Number.f
  by_cases c1 : (s.size : Int) < 1
  · refine ev_pos c1 (ev_shift ?_)
    simp only [spec_Number.j0]
    refine ev_pos trivial (ev_cast (Ev.now _) (bad (fun v h9 e => ?_)).symm)
    have := dec_facts 5 v (by omega)
    rw [e] at this
    omega
  · refine ev_neg c1 (ev_shift ?_)
    simp only [spec_Number.j0]
    by_cases c2 : (s.size : Int) > 6
    · refine ev_pos (decide_eq_true c2) (ev_cast (Ev.now _) (bad (fun v h9 e => ?_)).symm)
      have := dec_facts 5 v (by omega)
      rw [e] at this
      omega
    · refine ev_neg (by simp; omega) (ev_cast (num_loop s (by omega) s.data.toList.length 0 0 (Nat.zero_add _) (by simp)) ?_)
      rw [List.drop_zero]
      rcases numGo_true s.data.toList s.data.toList 0 (by omega) (Nat.pow_pos (by omega)) with h | ⟨v, h9, he, h⟩
      · rw [h]
        symm
        refine bad (fun v h9 e => ?_)
        have h2 := numGo_dec s.data.toList v v (Nat.le_refl _) []
        rw [List.append_nil, e, h, numGo, itoa_nat, if_pos e] at h2
        cases h2
      · rw [h]
        symm
        exact good v h9 (by rw [← itoa_nat]; exact he)
end Go.Proofs.YtapliilimfgdjaaDoor.PureN
