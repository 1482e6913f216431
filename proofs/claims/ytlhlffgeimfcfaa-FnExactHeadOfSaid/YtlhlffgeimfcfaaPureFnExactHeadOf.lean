/- FnExactHeadOf: the law's function of the print answers true for every input within the row's bounds. Conditions: none but the bounds that the row itself gives. -/
import Derived.Test.YtlhlffgeimfcfaaPFnExactHeadOfx5
import Derived.OpenShut
import Derived.Laws.BitsLemmas
namespace Go.Proofs.Ytlhlffgeimfcfaa.Pure
open Go Go.RowKit Go.Proofs.Ytlhlffgeimfcfaa.PFnExactHeadOf Go.Proofs.YtlhlffgeimfcfaaW.PrintWords Go.Proofs.YtlhlffgeimfcfaaW.PrintLast Go.Proofs.YtlhlffgeimfcfaaW.PrintMore Go.Proofs.YtlhlffgeimfcfaaW.PrintMore
set_option linter.unusedVariables false
set_option linter.unusedSimpArgs false

theorem ev_shift {α : Type} {g : Nat → Option α} {r : α} (h : Ev (fun k => g (k + 1)) r) : Ev g r := Ev.step (f := fun k => g (k + 1)) (fun _ => rfl) h
theorem ev_unshift {α : Type} {g : Nat → Option α} {r : α} (h : Ev g r) : Ev (fun k => g (k + 1)) r := by
  obtain ⟨K, h⟩ := h
  exact ⟨K, fun k hk => h (k + 1) (by omega)⟩
theorem ev_pos {α : Type} {c : Prop} [Decidable c] {f g : Nat → Option α} {r : α} (h : c) (e : Ev f r) : Ev (fun k => if c then f k else g k) r := by
  simpa only [if_pos h] using e
theorem ev_neg {α : Type} {c : Prop} [Decidable c] {f g : Nat → Option α} {r : α} (h : ¬ c) (e : Ev g r) : Ev (fun k => if c then f k else g k) r := by
  simpa only [if_neg h] using e
theorem ev_eq {α β : Type} {o : Option α} {a : α} {f : Nat → α → Option β} {r : β} (h : o = some a) (e : Ev (fun k => f k a) r) : Ev (fun k => o.bind (f k)) r := by
  subst h
  exact e
theorem ev_some {α β : Type} {a : α} {f : Nat → α → Option β} {r : β} (e : Ev (fun k => f k a) r) : Ev (fun k => (some a).bind (f k)) r := e
theorem ev_cast {α : Type} {g : Nat → Option α} {r r' : α} (h : Ev g r) (e : r = r') : Ev g r' := e ▸ h
theorem ev_loop {ρ : Type} (L : Nat → Nat → Option ρ) (res : Nat → ρ) (n : Nat) (he : Ev (fun k => L (k + 1) n) (res n))
    (hs : ∀ i, i < n → Ev (fun k => L k (i + 1)) (res (i + 1)) → Ev (fun k => L (k + 1) i) (res i)) : ∀ i, i ≤ n → Ev (fun k => L k i) (res i) := by
  have key : ∀ d i, i + d = n → Ev (fun k => L k i) (res i) := by
    intro d
    induction d with
    | zero =>
      intro i h
      obtain rfl : i = n := by omega
      exact ev_shift he
    | succ d ih =>
      intro i h
      exact ev_shift (hs i (by omega) (ih (i + 1) (by omega)))
  intro i h
  exact key (n - i) i (by omega)
theorem wrap_in {x : Int} (h0 : -9223372036854775808 ≤ x) (h1 : x ≤ 9223372036854775807) : wrap64 x = x := by
  unfold wrap64
  omega
theorem wrap_nat {i : Nat} (h : i < 9223372036854775807) : wrap64 ((i : Int) + 1) = ((i + 1 : Nat) : Int) := by
  unfold wrap64
  omega
theorem wrap_up {i : Int} (h0 : 0 ≤ i) (h : i < 9223372036854775807) : wrap64 (i + 1) = i + 1 := by
  unfold wrap64
  omega
theorem rd_nat (xs : List Int) (i : Nat) : rd xs (i : Int) = xs.getD i 0 := by simp [rd]
theorem rdOf_nat {α : Type} (d : α) (xs : List α) (i : Nat) : rdOf d xs (i : Int) = xs.getD i d := by simp [rdOf]
theorem bt_nat (s : ByteArray) (i : Nat) : bt s (i : Int) = (bytesOf s).getD i 0 := by rw [← rd_bytesOf, rd_nat]
theorem drop_cons {α : Type} (d : α) (l : List α) (i : Nat) (h : i < l.length) : l.drop i = l.getD i d :: l.drop (i + 1) := by
  rw [List.drop_eq_getElem_cons h]
  simp [List.getD, h]
theorem getD_mem {α : Type} (d : α) (l : List α) (i : Nat) (h : i < l.length) : l.getD i d ∈ l := by
  simp [List.getD, h]
theorem bytesOf_range (s : ByteArray) : ∀ x ∈ bytesOf s, 0 ≤ x ∧ x ≤ 255 := by
  intro x hx
  simp only [bytesOf, List.mem_map] at hx
  obtain ⟨b, _, rfl⟩ := hx
  have := b.toNat_lt
  omega
theorem bt_lo (s : ByteArray) (i : Int) : 0 ≤ bt s i := (bt_range s i).1
theorem bt_hi (s : ByteArray) (i : Int) : bt s i ≤ 255 := (bt_range s i).2
theorem drop_eq {α : Type} [DecidableEq α] (d : α) (a b : List α) (i : Nat) (ha : i < a.length) (hb : i < b.length) : (a.drop i = b.drop i) ↔ (a.getD i d = b.getD i d ∧ a.drop (i + 1) = b.drop (i + 1)) := by
  rw [drop_cons d a i ha, drop_cons d b i hb]
  simp
theorem mark_step {α : Type} (d : α) (g : Nat → α) (l : List α) (i : Nat) (h : i < l.length) : ((List.range i).map g ++ l.drop i).set i (g i) = (List.range (i + 1)).map g ++ l.drop (i + 1) := by
  have hlen : ((List.range i).map g).length = i := by simp
  rw [List.set_append_right _ _ (by omega), hlen, Nat.sub_self, drop_cons d l i h, List.set_cons_zero, List.range_succ, List.map_append, List.append_assoc]
  rfl
theorem range_getD {α : Type} (d : α) (g : Nat → α) (n i : Nat) (h : i < n) : ((List.range n).map g).getD i d = g i := by
  simp [List.getD, h]
theorem copy_step {α : Type} (d : α) (l : List α) (i : Nat) (h : i < l.length) : (l.take i ++ List.replicate (l.length - i) d).set i (l.getD i d) = l.take (i + 1) ++ List.replicate (l.length - (i + 1)) d := by
  have hlen : (l.take i).length = i := by simp; omega
  rw [List.set_append_right _ _ (by omega), hlen, Nat.sub_self]
  obtain ⟨m, hm⟩ : ∃ m, l.length - i = m + 1 := ⟨l.length - i - 1, by omega⟩
  rw [hm, List.replicate_succ, List.set_cons_zero, List.take_succ_eq_append_getElem h, List.append_assoc]
  have : l.length - (i + 1) = m := by omega
  rw [this]
  simp [List.getD, h]

theorem wraps_i64 (n : Int) (h0 : 0 ≤ n) (h1 : n < 2 ^ 63) : IntKind.i64.wrap n = n := by
  rw [IntKind.wrap_i64]
  omega
theorem and127 (x : Int) (h0 : 0 ≤ x) (h1 : x < 9223372036854775808) : Go.bits .and .i64 x 127 = x % 128 :=
  bits_mask .i64 63 (by decide) wraps_i64 7 (by decide) x h0 (by omega)
theorem and255 (x : Int) (h0 : 0 ≤ x) (h1 : x < 9223372036854775808) : Go.bits .and .i64 x 255 = x % 256 :=
  bits_mask .i64 63 (by decide) wraps_i64 8 (by decide) x h0 (by omega)
theorem or_comm64 (a b : Nat) (ha : a < 2 ^ 63) (hb : b < 2 ^ 63) : Go.bits .or .i64 (a : Int) (b : Int) = Go.bits .or .i64 (b : Int) (a : Int) := by
  rw [(bits_nat .i64 63 (by decide) wraps_i64 a b ha hb).2, (bits_nat .i64 63 (by decide) wraps_i64 b a hb ha).2, Nat.or_comm]
theorem or128 (y : Int) (h0 : 0 ≤ y) (h1 : y < 128) : Go.bits .or .i64 y 128 = y + 128 := by
  obtain ⟨b, rfl⟩ := Int.eq_ofNat_of_zero_le h0
  have e3 := bits_join .i64 63 (by decide) wraps_i64 7 128 (b : Int) (by decide) (by decide) (by decide) h0 (by omega) (by omega)
  have e4 : Go.bits .or .i64 (b : Int) ((128 : Nat) : Int) = Go.bits .or .i64 ((128 : Nat) : Int) (b : Int) := or_comm64 b 128 (by omega) (by omega)
  rw [Int.cast_ofNat_Int] at e4
  rw [e4, e3]
  omega

theorem eqIntS_ev (a b : List Int) (h : a.length ≤ 1099511627776) : Ev (fun k => laws_eqIntS.f k a b) (decide (a = b)) := by
  unfold laws_eqIntS.f
  by_cases hl : a.length = b.length
  · refine ev_pos (by omega) ?_
    have := ev_loop (fun k i => laws_eqIntS.l0 k a b (i : Int)) (fun i => decide (a.drop i = b.drop i)) a.length ?_ ?_ 0 (Nat.zero_le _)
    · exact this
    · simp only [laws_eqIntS.l0]
      refine ev_neg (by omega) ?_
      refine ev_cast (Ev.now _) ?_
      rw [List.drop_length, hl, List.drop_length]
      simp
    · intro i hi e
      simp only [laws_eqIntS.l0]
      refine ev_pos (by omega) (ev_pos (by omega) (ev_pos (by omega) ?_))
      rw [wrap_nat (by omega), rd_nat, rd_nat]
      by_cases hc : a.getD i 0 = b.getD i 0
      · refine ev_pos hc (ev_cast e ?_)
        rw [decide_eq_decide, drop_eq 0 a b i hi (by omega)]
        exact ⟨fun z => ⟨hc, z⟩, fun z => z.2⟩
      · refine ev_neg hc (ev_cast (Ev.now _) ?_)
        symm
        rw [decide_eq_false_iff_not, drop_eq 0 a b i hi (by omega)]
        exact fun z => hc z.1
  · refine ev_neg (by omega) (ev_cast (Ev.now _) ?_)
    symm
    rw [decide_eq_false_iff_not]
    exact fun z => hl (by rw [z])

theorem markIntS_ev (l : List Int) (m : Int) (h : l.length ≤ 1099511627776) (h0 : 0 ≤ m) (h1 : m ≤ 1000000000000000000) :
    Ev (fun k => laws_markIntS.f k l m) (m + l.length, (List.range l.length).map fun j : Nat => (m + (j : Int))) := by
  unfold laws_markIntS.f
  have := ev_loop (fun k i => laws_markIntS.l0 k ((List.range i).map (fun j : Nat => (m + (j : Int))) ++ l.drop i) (m + (i : Int)) (i : Int)) (fun _ => (m + l.length, (List.range l.length).map fun j : Nat => (m + (j : Int)))) l.length ?_ ?_ 0 (Nat.zero_le _)
  · simpa using this
  · simp only [laws_markIntS.l0]
    refine ev_neg (by simp) ?_
    simp only [List.drop_length, List.append_nil]
    exact Ev.now _
  · intro i hi e
    simp only [laws_markIntS.l0]
    refine ev_pos (by simp; omega) (ev_pos (by omega) ?_)
    rw [wrap_nat (by omega), Int.toNat_natCast, mark_step 0 (fun j : Nat => (m + (j : Int))) l i hi, wrap_up (by omega) (by omega)]
    have e1 : m + (i : Int) + 1 = m + ((i + 1 : Nat) : Int) := by omega
    rw [e1]
    exact e
theorem heldIntS_ev (n : Nat) (m : Int) (h : n ≤ 1099511627776) (h0 : 0 ≤ m) (h1 : m ≤ 1000000000000000000) :
    Ev (fun k => laws_heldIntS.f k ((List.range n).map fun j : Nat => (m + (j : Int))) m) (m + n) := by
  unfold laws_heldIntS.f
  have := ev_loop (fun k i => laws_heldIntS.l0 k ((List.range n).map fun j : Nat => (m + (j : Int))) (m + (i : Int)) (i : Int)) (fun _ => m + n) n ?_ ?_ 0 (Nat.zero_le _)
  · simpa using this
  · simp only [laws_heldIntS.l0]
    refine ev_neg (by simp) ?_
    exact Ev.now _
  · intro i hi e
    simp only [laws_heldIntS.l0]
    refine ev_pos (by simp; omega) (ev_pos (by omega) (ev_pos ?_ ?_))
    · rw [rd_nat, range_getD 0 _ n i hi]
    · rw [wrap_nat (by omega), wrap_up (by omega) (by omega)]
      have e1 : m + (i : Int) + 1 = m + ((i + 1 : Nat) : Int) := by omega
      rw [e1]
      exact e

theorem getD_set_self {α : Type} (d : α) (l : List α) (i : Nat) (v : α) (h : i < l.length) : (l.set i v).getD i d = v := by
  simp [List.getD, h]
theorem rdPut_nat (xs : List S84) (i : Nat) : rd_T84 xs (i : Int) = xs.getD i z84 := by simp [rd_T84]

theorem shl7 (d k : Nat) (hd : d < 128) (hk : k ≤ 4) : shl .i64 (d : Int) (wrap64 (7 * (k : Int))) = ((d * 2 ^ (7 * k) : Nat) : Int) := by
  have h : k = 0 ∨ k = 1 ∨ k = 2 ∨ k = 3 ∨ k = 4 := by omega
  unfold shl
  rw [wrap_in (by omega) (by omega)]
  rcases h with rfl | rfl | rfl | rfl | rfl <;> (simp [IntKind.bits]; try (rw [wraps_i64 _ (by omega) (by omega)]))
theorem or7 (n m k : Nat) (hn : n < 2 ^ (7 * k)) (hm : m < 128) (hk : k ≤ 4) : Go.bits .or .i64 (n : Int) ((m * 2 ^ (7 * k) : Nat) : Int) = ((n + m * 2 ^ (7 * k) : Nat) : Int) := by
  have hp : 2 ^ (7 * k) ≤ 268435456 := Nat.pow_le_pow_right (n := 2) (by omega) (show 7 * k ≤ 28 by omega)
  have h0 : 0 < 2 ^ (7 * k) := Nat.two_pow_pos _
  have hx : m * 2 ^ (7 * k) < 2 ^ 63 := Nat.lt_of_le_of_lt (Nat.mul_le_mul (show m ≤ 127 by omega) hp) (by decide)
  have hz : ((m * 2 ^ (7 * k) : Nat) : Int) % 2 ^ (7 * k) = 0 := by
    simp
  have hy : (n : Int) < 2 ^ (7 * k) := by exact_mod_cast hn
  have hn2 : n < 2 ^ 63 := by omega
  rw [or_comm64 n _ hn2 hx]
  have := bits_join .i64 63 (by decide) wraps_i64 (7 * k) ((m * 2 ^ (7 * k) : Nat) : Int) (n : Int) (Int.natCast_nonneg _) hz (by exact_mod_cast hx) (Int.natCast_nonneg _) hy (by exact_mod_cast hn2)
  rw [this]
  omega
def gAcc (n d k : Nat) : Nat := n + d % 128 * 2 ^ (7 * k)
def gOk (k n : Nat) : Prop := n < 2 ^ (7 * k)
theorem pow7 (n m k : Nat) (hn : n < 2 ^ (7 * k)) (hm : m < 128) : n + m * 2 ^ (7 * k) < 2 ^ (7 * (k + 1)) := by
  have e : 2 ^ (7 * (k + 1)) = 128 * 2 ^ (7 * k) := by rw [Nat.mul_add, Nat.pow_add, Nat.mul_comm]
  rw [e]
  have : (m + 1) * 2 ^ (7 * k) ≤ 128 * 2 ^ (7 * k) := Nat.mul_le_mul_right _ (by omega)
  rw [Nat.add_mul] at this
  omega
theorem gOk_step {k n : Nat} (d : Nat) (h : gOk k n) : gOk (k + 1) (gAcc n d k) := pow7 n (d % 128) k h (by omega)
theorem gOk_lt {k n : Nat} (h : gOk k n) (hk : k ≤ 5) : n < 34359738368 :=
  Nat.lt_of_lt_of_le h (Nat.pow_le_pow_right (n := 2) (by omega) (show 7 * k ≤ 35 by omega))
theorem gOk_zero : gOk 0 0 := by
  unfold gOk
  decide
theorem spec_acc {n d k : Nat} (hd : d ≤ 255) (hk : k ≤ 4) (h : gOk k n) : Go.bits .or .i64 (n : Int) (shl .i64 (Int.tmod (wrap64 (d : Int)) 128) (wrap64 (7 * (k : Int)))) = (gAcc n d k : Int) := by
  have e3 : Int.tmod (wrap64 (d : Int)) 128 = ((d % 128 : Nat) : Int) := by
    rw [wrap_in (by omega) (by omega), Int.tmod_eq_emod_of_nonneg (by omega)]
    omega
  rw [e3, shl7 (d % 128) k (by omega) hk]
  exact or7 n (d % 128) k h (by omega) hk
theorem impl_acc {n d k : Nat} (hd : d ≤ 255) (hk : k ≤ 4) (h : gOk k n) : Go.bits .or .i64 (n : Int) (shl .i64 (Go.bits .and .i64 (wrap64 (d : Int)) 127) (wrap64 (7 * (k : Int)))) = (gAcc n d k : Int) := by
  have e3 : Go.bits .and .i64 (wrap64 (d : Int)) 127 = ((d % 128 : Nat) : Int) := by
    rw [wrap_in (by omega) (by omega), and127 _ (by omega) (by omega)]
    omega
  rw [e3, shl7 (d % 128) k (by omega) hk]
  exact or7 n (d % 128) k h (by omega) hk
theorem seven_pos {k : Nat} (hk : k ≤ 4) : 0 ≤ wrap64 (7 * (k : Int)) := by
  rw [wrap_in (by omega) (by omega)]
  omega
theorem byte_wrap {d : Nat} (hd : d ≤ 255) : wrap64 (d : Int) = d := wrap_in (by omega) (by omega)
theorem add_wrap {a k : Nat} (ha : a ≤ 140737488351232) (hk : k ≤ 5) : wrap64 ((a : Int) + (k : Int)) = ((a + k : Nat) : Int) := by
  rw [wrap_in (by omega) (by omega)]
  omega
def getGo (b : List Int) (a : Nat) : Nat → Nat → Nat → Int × Int × Bool
  | 0, _, _ => (0, 0, false)
  | f + 1, k, n => if a + k < b.length then
      (if (b.getD (a + k) 0).toNat < 128 then
        (if (0 < k ∧ (b.getD (a + k) 0).toNat = 0) ∨ gAcc n (b.getD (a + k) 0).toNat k > 2147483647 then (0, 0, false)
         else ((gAcc n (b.getD (a + k) 0).toNat k : Int), ((a + k + 1 : Nat) : Int), true))
       else getGo b a f (k + 1) (gAcc n (b.getD (a + k) 0).toNat k))
    else (0, 0, false)
def getNum (b : List Int) (a : Int) : Int × Int × Bool := if 0 ≤ a then getGo b a.toNat 5 0 0 else (0, 0, false)
theorem getGo_out (b : List Int) (a : Nat) (h : b.length ≤ a) (f k n : Nat) : getGo b a f k n = (0, 0, false) := by
  cases f with
  | zero => rfl
  | succ f => rw [getGo, if_neg (by omega)]

theorem getGo_ok (b : List Int) (a : Nat) (f : Nat) : ∀ k n, (getGo b a f k n).2.2 = true → 0 ≤ (getGo b a f k n).1 ∧ (getGo b a f k n).1 ≤ 2147483647 ∧ (a : Int) < (getGo b a f k n).2.1 ∧ (getGo b a f k n).2.1 ≤ b.length := by
  induction f with
  | zero =>
    intro k n h
    simp [getGo] at h
  | succ f ih =>
    intro k n h
    rw [getGo] at h ⊢
    by_cases h1 : a + k < b.length
    · rw [if_pos h1] at h ⊢
      by_cases h2 : (b.getD (a + k) 0).toNat < 128
      · rw [if_pos h2] at h ⊢
        split at h
        · simp at h
        · rename_i h3
          rw [if_neg h3]
          refine ⟨by omega, ?_, ?_, ?_⟩ <;> dsimp only <;> omega
      · rw [if_neg h2] at h ⊢
        exact ih _ _ h
    · rw [if_neg h1] at h
      simp at h
theorem getNum_ok (b : List Int) (a : Int) (h : (getNum b a).2.2 = true) : 0 ≤ (getNum b a).1 ∧ (getNum b a).1 ≤ 2147483647 ∧ 0 ≤ a ∧ a < (getNum b a).2.1 ∧ (getNum b a).2.1 ≤ b.length := by
  unfold getNum at h ⊢
  by_cases h0 : 0 ≤ a
  · rw [if_pos h0] at h ⊢
    have := getGo_ok b a.toNat 5 0 0 h
    omega
  · rw [if_neg h0] at h
    simp at h
theorem getGo_no (b : List Int) (a : Nat) (f : Nat) : ∀ k n, (getGo b a f k n).2.2 = false → getGo b a f k n = (0, 0, false) := by
  induction f with
  | zero => intro k n _; rfl
  | succ f ih =>
    intro k n h
    rw [getGo] at h ⊢
    split
    · rename_i h1
      rw [if_pos h1] at h
      split
      · rename_i h2
        rw [if_pos h2] at h
        split
        · rfl
        · rename_i h3
          rw [if_neg h3] at h
          simp at h
      · rename_i h2
        rw [if_neg h2] at h
        exact ih _ _ h
    · rfl
theorem getNum_no (b : List Int) (a : Int) (h : (getNum b a).2.2 = false) : getNum b a = (0, 0, false) := by
  unfold getNum at h ⊢
  split
  · rename_i h0
    rw [if_pos h0] at h
    exact getGo_no _ _ _ _ _ h
  · rfl
def getText (b : List Int) (a : Int) : ByteArray × Int × Bool :=
  if (getNum b a).2.2 = true then
    (if (getNum b a).1 > (b.length : Int) - (getNum b a).2.1 then ((⟨#[]⟩ : ByteArray), 0, false)
     else (strOfNums ((b.take ((getNum b a).2.1 + (getNum b a).1).toNat).drop (getNum b a).2.1.toNat), (getNum b a).2.1 + (getNum b a).1, true))
  else ((⟨#[]⟩ : ByteArray), 0, false)

theorem spec_getNum_l (b : List Int) (hl : b.length ≤ 140737488351232) (hb : ∀ x ∈ b, 0 ≤ x ∧ x ≤ 255) (a : Nat) (ha : a < 9223372036854775808) (f : Nat) : ∀ (k n : Nat), k + f = 5 → gOk k n →
    Ev (fun j => spec_GetNum.l0 j b (a : Int) (n : Int) (k : Int)) (getGo b a f k n) := by
  induction f with
  | zero =>
    intro k n hk hn
    apply ev_shift
    simp only [spec_GetNum.l0]
    exact ev_neg (by omega) (Ev.now _)
  | succ f ih =>
    intro k n hk hn
    have hk4 : k ≤ 4 := by omega
    apply ev_shift
    simp only [spec_GetNum.l0]
    refine ev_pos (by omega) (ev_neg (by omega) ?_)
    rw [wrap_in (x := (b.length : Int) - k) (by omega) (by omega)]
    apply ev_shift
    simp only [spec_GetNum.j1, getGo]
    by_cases hin : a + k < b.length
    · refine ev_neg (by simp; omega) ?_
      rw [if_pos hin, add_wrap (by omega) (by omega), rd_nat]
      have hm := hb _ (getD_mem 0 b (a + k) hin)
      generalize b.getD (a + k) 0 = d at hm ⊢
      obtain ⟨c, rfl⟩ := Int.eq_ofNat_of_zero_le hm.1
      have hc : c ≤ 255 := by omega
      have e11 := ih (k + 1) _ (by omega) (gOk_step c hn)
      rw [spec_acc hc hk4 hn, Int.toNat_natCast, byte_wrap hc, wrap_nat (i := a + k) (by omega), wrap_nat (i := k) (by omega)]
      generalize gAcc n c k = m at e11 ⊢
      clear hn ih
      refine ev_pos (by omega) (ev_pos (by omega) (ev_pos (seven_pos hk4) ?_))
      by_cases h1 : c < 128
      · refine ev_pos (by omega) ?_
        rw [if_pos h1]
        by_cases h2 : k > 0
        · refine ev_pos (by omega) ?_
          by_cases h3 : c = 0
          · refine ev_pos (by omega) ?_
            rw [if_pos (.inl ⟨h2, h3⟩)]
            exact Ev.now _
          · refine ev_neg (by omega) ?_
            by_cases h4 : m > 2147483647
            · refine ev_pos (by omega) ?_
              rw [if_pos (.inr h4)]
              exact Ev.now _
            · refine ev_neg (by omega) ?_
              rw [if_neg (by omega)]
              exact Ev.now _
        · refine ev_neg (by omega) ?_
          by_cases h4 : m > 2147483647
          · refine ev_pos (by omega) ?_
            rw [if_pos (.inr h4)]
            exact Ev.now _
          · refine ev_neg (by omega) ?_
            rw [if_neg (by omega)]
            exact Ev.now _
      · refine ev_neg (by omega) ?_
        rw [if_neg h1]
        exact e11
    · refine ev_pos (by simp; omega) ?_
      rw [if_neg hin]
      exact Ev.now _
theorem spec_GetNum_ev (b : List Int) (a : Int) (hl : b.length ≤ 140737488351232) (hb : ∀ x ∈ b, 0 ≤ x ∧ x ≤ 255) (ha : a ≤ 9223372036854775807) : Ev (fun k => spec_GetNum.f k b a) (getNum b a) := by
  unfold spec_GetNum.f getNum
  by_cases h : 0 ≤ a
  · rw [if_pos h]
    obtain ⟨n, rfl⟩ := Int.eq_ofNat_of_zero_le h
    exact spec_getNum_l b hl hb n (by omega) 5 0 0 (by omega) gOk_zero
  · rw [if_neg h]
    apply ev_shift
    simp only [spec_GetNum.l0]
    refine ev_pos (by omega) (ev_pos (by omega) ?_)
    apply ev_shift
    simp only [spec_GetNum.j1]
    exact ev_pos trivial (Ev.now _)

theorem impl_getNum_l (b : List Int) (hl : b.length ≤ 140737488351232) (hb : ∀ x ∈ b, 0 ≤ x ∧ x ≤ 255) (a : Nat) (ha : a ≤ b.length) (f : Nat) : ∀ (k n : Nat), k + f = 5 → gOk k n →
    Ev (fun j => impl_GetNum.l0 j b (a : Int) (n : Int) (k : Int)) (getGo b a f k n) := by
  induction f with
  | zero =>
    intro k n hk hn
    apply ev_shift
    simp only [impl_GetNum.l0]
    refine ev_neg (by omega) ?_
    apply ev_shift
    simp only [impl_GetNum.j1]
    exact ev_neg (by simp) (Ev.now _)
  | succ f ih =>
    intro k n hk hn
    have hk4 : k ≤ 4 := by omega
    apply ev_shift
    simp only [impl_GetNum.l0]
    refine ev_pos (by omega) ?_
    apply ev_shift
    simp only [impl_GetNum.j1, getGo]
    rw [add_wrap (by omega) (by omega)]
    by_cases hin : a + k < b.length
    · refine ev_pos (by simp; omega) ?_
      rw [if_pos hin, rd_nat]
      have hm := hb _ (getD_mem 0 b (a + k) hin)
      generalize b.getD (a + k) 0 = d at hm ⊢
      obtain ⟨c, rfl⟩ := Int.eq_ofNat_of_zero_le hm.1
      have hc : c ≤ 255 := by omega
      have e11 := ih (k + 1) _ (by omega) (gOk_step c hn)
      rw [impl_acc hc hk4 hn, Int.toNat_natCast, byte_wrap hc, wrap_nat (i := a + k) (by omega), wrap_nat (i := k) (by omega)]
      generalize gAcc n c k = m at e11 ⊢
      clear hn ih
      refine ev_pos (by omega) (ev_pos (by omega) (ev_pos (seven_pos hk4) ?_))
      by_cases h1 : c < 128
      · refine ev_neg (by omega) ?_
        rw [if_pos h1]
        by_cases h3 : c = 0
        · refine ev_pos (by omega) ?_
          by_cases h2 : k > 0
          · refine ev_pos (by omega) ?_
            rw [if_pos (.inl ⟨h2, h3⟩)]
            exact Ev.now _
          · refine ev_neg (by omega) ?_
            by_cases h4 : m > 2147483647
            · refine ev_pos (by omega) ?_
              rw [if_pos (.inr h4)]
              exact Ev.now _
            · refine ev_neg (by omega) ?_
              rw [if_neg (by omega)]
              exact Ev.now _
        · refine ev_neg (by omega) ?_
          by_cases h4 : m > 2147483647
          · refine ev_pos (by omega) ?_
            rw [if_pos (.inr h4)]
            exact Ev.now _
          · refine ev_neg (by omega) ?_
            rw [if_neg (by omega)]
            exact Ev.now _
      · refine ev_pos (by omega) ?_
        rw [if_neg h1]
        exact e11
    · refine ev_neg (by simp; omega) ?_
      rw [if_neg hin]
      exact Ev.now _
theorem impl_GetNum_ev (b : List Int) (a : Int) (hl : b.length ≤ 140737488351232) (hb : ∀ x ∈ b, 0 ≤ x ∧ x ≤ 255) : Ev (fun k => impl_GetNum.f k b a) (getNum b a) := by
  unfold impl_GetNum.f getNum
  by_cases h : 0 ≤ a ∧ a ≤ b.length
  · rw [if_pos h.1]
    refine ev_eq (a := true) (by unfold impl_within.f; rw [if_pos (by omega)]; simp; omega) (ev_pos rfl ?_)
    obtain ⟨n, rfl⟩ := Int.eq_ofNat_of_zero_le h.1
    exact impl_getNum_l b hl hb n (by omega) 5 0 0 (by omega) gOk_zero
  · refine ev_eq (a := false) (by unfold impl_within.f; split <;> simp <;> omega) (ev_neg (by simp) (ev_cast (Ev.now _) ?_))
    by_cases h0 : 0 ≤ a
    · rw [if_pos h0, getGo_out b a.toNat (by omega)]
    · rw [if_neg h0]

def txGo (n : Int) : Int → List S84 → Bool
  | _, [] => true
  | last, w :: l => decide (last + 1 ≤ w.f0 ∧ w.f0 ≤ n - 1) && (decide (w.f1.size ≤ 90) && txGo n w.f0 l)
def txOk (n : Int) (l : List S84) : Bool := decide (1 ≤ n ∧ n ≤ 48) && (!l.isEmpty && txGo n (-1) l)
def putsOk (n : Int) (l : List S84) : Bool := l.all fun w => decide (0 ≤ w.f0 ∧ w.f0 ≤ n - 1) && decide (w.f1.size ≤ 90)
def incGo : Int → List S84 → Bool
  | _, [] => true
  | last, w :: l => decide (last < w.f0) && incGo w.f0 l
theorem txGo_eq (n : Int) (l : List S84) : ∀ last : Int, -1 ≤ last → txGo n last l = (putsOk n l && incGo last l) := by
  induction l with
  | nil => intro last _; rfl
  | cons w l ih =>
    intro last hl
    rw [txGo, incGo, putsOk, List.all_cons]
    by_cases h : last + 1 ≤ w.f0 ∧ w.f0 ≤ n - 1
    · rw [ih w.f0 (by omega), putsOk, decide_eq_true h, decide_eq_true (show last < w.f0 by omega), decide_eq_true (show 0 ≤ w.f0 ∧ w.f0 ≤ n - 1 by omega)]
      cases decide (w.f1.size ≤ 90) <;> simp
    · rw [decide_eq_false h]
      by_cases h2 : last < w.f0
      · rw [decide_eq_false (show ¬ (0 ≤ w.f0 ∧ w.f0 ≤ n - 1) by omega)]
        simp
      · rw [decide_eq_false h2]
        simp
theorem decide_within (a lo hi : Int) : impl_within.f a lo hi = some (decide (lo ≤ a ∧ a ≤ hi)) := by
  unfold impl_within.f
  by_cases h : a ≥ lo
  · rw [if_pos h]
    congr 1
    rw [decide_eq_decide]
    omega
  · rw [if_neg h]
    congr 1
    symm
    rw [decide_eq_false_iff_not]
    omega

theorem impl_txOk_l (n : Int) (l : List S84) (hn : 1 ≤ n ∧ n ≤ 48) (hl : l.length ≤ 140737488351232) (hw : ∀ x ∈ l, (Lit.int .i64 x.f0).wf = true) (d : Nat) : ∀ (i : Nat) (last : Int), i + d = l.length → -1 ≤ last → last ≤ 48 →
    Ev (fun k => impl_TxOk.l0 k n last l (l.length : Int) (i : Int)) (txGo n last (l.drop i)) := by
  induction d with
  | zero =>
    intro i last hi h0 h1
    apply ev_shift
    simp only [impl_TxOk.l0]
    refine ev_neg (by omega) (ev_cast (Ev.now _) ?_)
    rw [List.drop_eq_nil_of_le (by omega)]
    rfl
  | succ d ih =>
    intro i last hi h0 h1
    apply ev_shift
    simp only [impl_TxOk.l0]
    refine ev_pos (by omega) (ev_pos (by omega) (ev_pos (by omega) ?_))
    rw [wrap_nat (by omega), rdPut_nat, wrap_in (x := last + 1) (by omega) (by omega), wrap_in (x := n - 1) (by omega) (by omega), drop_cons z84 l i (by omega), txGo]
    refine ev_eq (decide_within _ _ _) ?_
    by_cases c : last + 1 ≤ (l.getD i z84).f0 ∧ (l.getD i z84).f0 ≤ n - 1
    · rw [decide_eq_true c]
      refine ev_pos rfl (ev_eq rfl ?_)
      by_cases c2 : (l.getD i z84).f1.size ≤ 90
      · rw [decide_eq_true c2]
        refine ev_pos (decide_eq_true (by omega)) (ev_cast (ih (i + 1) _ (by omega) (by omega) (by omega)) ?_)
        simp
      · rw [decide_eq_false c2]
        refine ev_neg (fun z => c2 (by have := of_decide_eq_true z; omega)) (ev_cast (Ev.now _) ?_)
        simp
    · rw [decide_eq_false c]
      exact ev_neg (by simp) (ev_cast (Ev.now _) (by simp))
theorem impl_TxOk_ev (n : Int) (l : List S84) (hl : l.length ≤ 140737488351232) (hw : ∀ x ∈ l, (Lit.int .i64 x.f0).wf = true) : Ev (fun k => impl_TxOk.f k n l) (txOk n l) := by
  unfold impl_TxOk.f txOk
  refine ev_eq (decide_within _ _ _) ?_
  by_cases c : 1 ≤ n ∧ n ≤ 48
  · rw [decide_eq_true c]
    refine ev_pos rfl (ev_shift ?_)
    simp only [impl_TxOk.j0]
    cases l with
    | nil => exact ev_pos rfl (Ev.now _)
    | cons w r =>
      refine ev_neg (by simp; omega) (ev_cast (impl_txOk_l n (w :: r) c hl hw (w :: r).length 0 (-1) (by omega) (by omega) (by omega)) ?_)
      simp
  · rw [decide_eq_false c]
    refine ev_neg (by simp) (ev_shift ?_)
    simp only [impl_TxOk.j0]
    exact ev_pos trivial (Ev.now _)

theorem decide_l1In (a lo hi : Int) : spec_l1In.f a lo hi = some (decide (lo ≤ a ∧ a ≤ hi)) := by
  unfold spec_l1In.f
  by_cases h : a ≥ lo
  · rw [if_pos h]
    congr 1
    rw [decide_eq_decide]
    omega
  · rw [if_neg h]
    congr 1
    symm
    rw [decide_eq_false_iff_not]
    omega
theorem spec_putsOk_ev (n : Int) (l : List S84) (hn : 0 ≤ n ∧ n ≤ 9223372036854775807) (hl : l.length ≤ 140737488351232) : Ev (fun k => spec_l3PutsOk.f k l n) (putsOk n l) := by
  unfold spec_l3PutsOk.f
  have := ev_loop (fun k i => spec_l3PutsOk.l0 k l n (i : Int)) (fun i => putsOk n (l.drop i)) l.length ?_ ?_ 0 (Nat.zero_le _)
  · exact this
  · simp only [spec_l3PutsOk.l0]
    refine ev_neg (by omega) (ev_cast (Ev.now _) ?_)
    rw [List.drop_length]
    rfl
  · intro i hi e
    simp only [spec_l3PutsOk.l0]
    refine ev_pos (by omega) (ev_pos (by omega) (ev_eq (decide_l1In _ _ _) ?_))
    rw [wrap_nat (by omega), rdPut_nat, wrap_in (x := n - 1) (by omega) (by omega), drop_cons z84 l i hi, putsOk, List.all_cons]
    by_cases c : 0 ≤ (l.getD i z84).f0 ∧ (l.getD i z84).f0 ≤ n - 1
    · rw [decide_eq_true c]
      refine ev_pos rfl ?_
      by_cases c2 : (l.getD i z84).f1.size ≤ 90
      · refine ev_neg (by omega) (ev_cast e ?_)
        rw [decide_eq_true c2]
        simp [putsOk]
      · refine ev_pos (by omega) (ev_cast (Ev.now _) ?_)
        rw [decide_eq_false c2]
        simp
    · rw [decide_eq_false c]
      exact ev_neg (by simp) (ev_cast (Ev.now _) (by simp))
theorem spec_incr_l (l : List S84) (hl : l.length ≤ 140737488351232) (hne : 0 < l.length) : Ev (fun k => spec_TxOk.l0 k l 1) (incGo (l.getD 0 z84).f0 (l.drop 1)) := by
  have key : ∀ (d i : Nat), i + 1 + d = l.length → Ev (fun k => spec_TxOk.l0 k l ((i + 1 : Nat) : Int)) (incGo (l.getD i z84).f0 (l.drop (i + 1))) := by
    intro d
    induction d with
    | zero =>
      intro i hi
      apply ev_shift
      simp only [spec_TxOk.l0]
      refine ev_neg (by omega) (ev_cast (Ev.now _) ?_)
      rw [List.drop_eq_nil_of_le (by omega)]
      rfl
    | succ d ih =>
      intro i hi
      apply ev_shift
      simp only [spec_TxOk.l0]
      have e1 : wrap64 (((i + 1 : Nat) : Int) - 1) = (i : Int) := by rw [wrap_in (by omega) (by omega)]; omega
      rw [e1, wrap_nat (by omega), rdPut_nat, rdPut_nat, drop_cons z84 l (i + 1) (by omega), incGo]
      refine ev_pos (by omega) (ev_pos (by omega) (ev_pos (by omega) (ev_pos (by omega) ?_)))
      by_cases c : (l.getD i z84).f0 < (l.getD (i + 1) z84).f0
      · refine ev_neg (by omega) (ev_cast (ih (i + 1) (by omega)) ?_)
        rw [decide_eq_true c]
        simp
      · refine ev_pos (by omega) (ev_cast (Ev.now _) ?_)
        rw [decide_eq_false c]
        simp
  exact key (l.length - 1) 0 (by omega)
theorem spec_TxOk_ev (n : Int) (l : List S84) (hl : l.length ≤ 140737488351232) : Ev (fun k => spec_TxOk.f k n l) (txOk n l) := by
  unfold spec_TxOk.f txOk
  refine ev_eq (decide_l1In _ _ _) ?_
  by_cases c : 1 ≤ n ∧ n ≤ 48
  · rw [decide_eq_true c, txGo_eq n l (-1) (by omega)]
    refine ev_pos rfl ?_
    cases l with
    | nil =>
      refine ev_pos rfl (ev_shift ?_)
      simp only [spec_TxOk.j0]
      exact ev_pos trivial (Ev.now _)
    | cons w r =>
      refine ev_neg (by simp; omega) (Ev.bind (spec_putsOk_ev n (w :: r) (by omega) hl) (ev_shift ?_))
      simp only [spec_TxOk.j0]
      cases hp : putsOk n (w :: r) with
      | false => exact ev_pos rfl (ev_cast (Ev.now _) (by simp))
      | true =>
        refine ev_neg (by simp) (ev_cast (spec_incr_l (w :: r) hl (by simp)) ?_)
        have hw : 0 ≤ w.f0 := by
          have h2 := hp
          rw [putsOk, List.all_cons] at h2
          simp at h2
          omega
        rw [incGo, decide_eq_true (show -1 < w.f0 by omega)]
        simp
  · rw [decide_eq_false c]
    refine ev_neg (by simp) (ev_shift ?_)
    simp only [spec_TxOk.j0]
    exact ev_pos trivial (Ev.now _)

def headGo (b : List Int) : Nat → Int → List Int → Option (List Int × Int)
  | 0, at_, acc => some (acc, at_)
  | c + 1, at_, acc => if (getNum b at_).2.2 = true then headGo b c (getNum b at_).2.1 (acc ++ [(getNum b at_).1]) else none
def putsOf (ats : List Int) : List S84 := ats.map fun x => ⟨x, ⟨#[]⟩⟩
def sum4 (b : List Int) (i : Nat) : Int := ((b.getD i 0 * 256 + b.getD (i + 1) 0) * 256 + b.getD (i + 2) 0) * 256 + b.getD (i + 3) 0
def headEnd (b : List Int) (n : Int) : Option (List Int × Int) → List Int × Int × Bool
  | none => ([], 0, false)
  | some (ats, at_) => if (b.length : Int) = at_ + 4 then (if txOk n (putsOf ats) = true then (ats, sum4 b at_.toNat, true) else ([], 0, false)) else ([], 0, false)
def headOf (b : List Int) (n : Int) : List Int × Int × Bool :=
  if (getNum b 1).2.2 = true ∧ b.getD 0 0 = 74 ∧ 1 ≤ (getNum b 1).1 ∧ (getNum b 1).1 ≤ 48 then headEnd b n (headGo b (getNum b 1).1.toNat (getNum b 1).2.1 []) else ([], 0, false)
theorem putsOf_snoc (ats : List Int) (x : Int) : putsOf (ats ++ [x]) = putsOf ats ++ [(⟨x, (⟨#[]⟩ : ByteArray)⟩ : S84)] := by
  unfold putsOf
  rw [List.map_append]
  rfl
theorem putsOf_length (ats : List Int) : (putsOf ats).length = ats.length := by
  unfold putsOf
  rw [List.length_map]
theorem headGo_facts (b : List Int) (c : Nat) : ∀ (at_ : Int) (acc : List Int), (∀ x ∈ acc, 0 ≤ x ∧ x ≤ 2147483647) → ∀ ats a2, headGo b c at_ acc = some (ats, a2) → at_ ≤ a2 ∧ ats.length = acc.length + c ∧ (∀ x ∈ ats, 0 ≤ x ∧ x ≤ 2147483647) ∧ (at_ ≤ b.length → a2 ≤ b.length) := by
  induction c with
  | zero =>
    intro at_ acc ha ats a2 h
    simp only [headGo, Option.some.injEq, Prod.mk.injEq] at h
    obtain ⟨rfl, rfl⟩ := h
    exact ⟨by omega, by omega, ha, id⟩
  | succ c ih =>
    intro at_ acc ha ats a2 h
    rw [headGo] at h
    by_cases hk : (getNum b at_).2.2 = true
    · rw [if_pos hk] at h
      have hg := getNum_ok b at_ hk
      have := ih _ _ (by
        intro x hx
        rw [List.mem_append] at hx
        rcases hx with hx | hx
        · exact ha x hx
        · rw [List.mem_singleton] at hx
          subst hx
          exact ⟨hg.1, hg.2.1⟩) ats a2 h
      rw [List.length_append, List.length_singleton] at this
      refine ⟨by omega, by omega, this.2.2.1, fun _ => this.2.2.2 (by omega)⟩
    · rw [if_neg hk] at h
      cases h
theorem txOk_nil (n : Int) : txOk n (putsOf []) = false := by
  unfold txOk putsOf
  simp
theorem txOk_wf {ats : List Int} (h : ∀ x ∈ ats, 0 ≤ x ∧ x ≤ 2147483647) : ∀ x ∈ putsOf ats, (Lit.int .i64 x.f0).wf = true := by
  intro x hx
  unfold putsOf at hx
  rw [List.mem_map] at hx
  obtain ⟨y, hy, rfl⟩ := hx
  have := h y hy
  simp only [Lit.wf, IntKind.wrap_i64]
  have e : (y + 9223372036854775808) % 18446744073709551616 - 9223372036854775808 = y := by omega
  simp [e]
  exact ⟨by have : IntKind.i64.min = -9223372036854775808 := rfl; omega, by omega⟩
theorem headEnd_none (b : List Int) (n : Int) : headEnd b n none = ([], 0, false) := rfl

theorem spec_HeadOf_l (b : List Int) (n : Int) (hb : ∀ x ∈ b, 0 ≤ x ∧ x ≤ 255) (hl : b.length ≤ 1099511627776) (c : Nat) (hc : c ≤ 48) (d : Nat) : ∀ (i : Nat) (at_ : Int) (acc : List Int), i + d = c → 1 ≤ at_ → at_ ≤ b.length → acc.length = i → (∀ x ∈ acc, 0 ≤ x ∧ x ≤ 2147483647) →
    Ev (fun k => spec_HeadOf.l0 k n b (c : Int) at_ acc (putsOf acc) (i : Int)) (headEnd b n (headGo b d at_ acc)) := by
  induction d with
  | zero =>
    intro i at_ acc hi h1 h2 ha hr
    have hp := putsOf_length acc
    apply ev_shift
    simp only [spec_HeadOf.l0, headGo, headEnd]
    refine ev_neg (by omega) ?_
    rw [wrap_in (x := at_ + 4) (by omega) (by omega)]
    by_cases e : (b.length : Int) = at_ + 4
    · rw [if_pos e]
      refine ev_pos e (Ev.bind (spec_TxOk_ev n _ (by omega)) ?_)
      cases txOk n (putsOf acc)
      · exact ev_neg (by simp) (ev_cast (Ev.now _) (by simp))
      · rw [wrap_in (x := at_ + 1) (by omega) (by omega), wrap_in (x := at_ + 2) (by omega) (by omega), wrap_in (x := at_ + 3) (by omega) (by omega)]
        refine ev_pos rfl (ev_pos (by omega) (ev_pos (by omega) (ev_pos (by omega) (ev_pos (by omega) (ev_pos (by omega) (ev_pos (by omega) (ev_pos (by omega) (ev_pos (by omega) (ev_cast (Ev.now _) ?_)))))))))
        rw [if_pos rfl]
        obtain ⟨j, rfl⟩ := Int.eq_ofNat_of_zero_le (show 0 ≤ at_ by omega)
        have r0 : rd b ((j : Nat) : Int) = b.getD j 0 := rd_nat b j
        have r1 : rd b (((j : Nat) : Int) + 1) = b.getD (j + 1) 0 := rd_nat b (j + 1)
        have r2 : rd b (((j : Nat) : Int) + 2) = b.getD (j + 2) 0 := rd_nat b (j + 2)
        have r3 : rd b (((j : Nat) : Int) + 3) = b.getD (j + 3) 0 := rd_nat b (j + 3)
        have v0 := hb _ (getD_mem 0 b j (by omega))
        have v1 := hb _ (getD_mem 0 b (j + 1) (by omega))
        have v2 := hb _ (getD_mem 0 b (j + 2) (by omega))
        have v3 := hb _ (getD_mem 0 b (j + 3) (by omega))
        rw [r0, r1, r2, r3]
        unfold sum4
        rw [Int.toNat_natCast]
        generalize b.getD j 0 = y0 at *
        generalize b.getD (j + 1) 0 = y1 at *
        generalize b.getD (j + 2) 0 = y2 at *
        generalize b.getD (j + 3) 0 = y3 at *
        have w0 : wrap64 y0 = y0 := wrap_in (by omega) (by omega)
        have w1 : wrap64 y1 = y1 := wrap_in (by omega) (by omega)
        have w2 : wrap64 y2 = y2 := wrap_in (by omega) (by omega)
        have w3 : wrap64 y3 = y3 := wrap_in (by omega) (by omega)
        rw [w0, w1, w2, w3, wrap_in (x := y0 * 256) (by omega) (by omega), wrap_in (x := y0 * 256 + y1) (by omega) (by omega), wrap_in (x := (y0 * 256 + y1) * 256) (by omega) (by omega), wrap_in (x := (y0 * 256 + y1) * 256 + y2) (by omega) (by omega), wrap_in (x := ((y0 * 256 + y1) * 256 + y2) * 256) (by omega) (by omega), wrap_in (x := ((y0 * 256 + y1) * 256 + y2) * 256 + y3) (by omega) (by omega)]
    · rw [if_neg e]
      exact ev_neg e (Ev.now _)
  | succ d ih =>
    intro i at_ acc hi h1 h2 ha hr
    have hp := putsOf_length acc
    apply ev_shift
    simp only [spec_HeadOf.l0, headGo]
    refine ev_pos (by omega) (Ev.bind (spec_GetNum_ev b at_ (by omega) hb (by omega)) ?_)
    by_cases hk : (getNum b at_).2.2 = true
    · have hg := getNum_ok b at_ hk
      rw [if_pos hk]
      refine ev_pos hk (ev_pos (by omega) (ev_pos (by omega) ?_))
      rw [wrap_nat (by omega), ← putsOf_snoc]
      refine ih (i + 1) _ _ (by omega) (by omega) (by omega) (by rw [List.length_append, List.length_singleton]; omega) ?_
      intro x hx
      rw [List.mem_append] at hx
      rcases hx with hx | hx
      · exact hr x hx
      · rw [List.mem_singleton] at hx
        subst hx
        exact ⟨hg.1, hg.2.1⟩
    · rw [if_neg hk]
      exact ev_neg hk (Ev.now _)
theorem spec_HeadOf_ev (s : ByteArray) (n : Int) (hs : s.size ≤ 1048576) : Ev (fun k => spec_HeadOf.f k s n) (headOf (bytesOf s) n) := by
  have hl := bytesOf_length s
  have hb := bytesOf_range s
  unfold spec_HeadOf.f
  refine ev_pos (by omega) (ev_some ?_)
  generalize bytesOf s = b at *
  have hj : ∀ x y, Ev (fun k => spec_HeadOf.j0 k n b x y true) ([], 0, false) := by
    intro x y
    refine ev_shift ?_
    simp only [spec_HeadOf.j0]
    exact ev_pos trivial (Ev.now _)
  unfold headOf
  refine Ev.bind (spec_GetNum_ev b 1 (by omega) hb (by omega)) ?_
  by_cases hk : (getNum b 1).2.2 = true
  · have hg := getNum_ok b 1 hk
    refine ev_pos hk (ev_pos (by omega) ?_)
    rw [show rd b 0 = b.getD 0 0 from rd_nat b 0]
    by_cases h7 : b.getD 0 0 = 74
    · refine ev_pos h7 (ev_eq (decide_l1In _ _ _) ?_)
      by_cases hm : 1 ≤ (getNum b 1).1 ∧ (getNum b 1).1 ≤ 48
      · rw [decide_eq_true hm, if_pos ⟨hk, h7, hm⟩]
        refine ev_shift ?_
        simp only [spec_HeadOf.j0]
        refine ev_neg (by simp) ?_
        have e : (((getNum b 1).1.toNat : Nat) : Int) = (getNum b 1).1 := by omega
        have := spec_HeadOf_l b n hb (by omega) (getNum b 1).1.toNat (by omega) (getNum b 1).1.toNat 0 (getNum b 1).2.1 [] (by omega) (by omega) (by omega) rfl (by simp)
        rw [e] at this
        exact this
      · rw [decide_eq_false hm, if_neg (fun z => hm z.2.2)]
        exact hj _ _
    · rw [if_neg (fun z => h7 z.2.1)]
      exact ev_neg h7 (hj _ _)
  · rw [if_neg (fun z => hk z.1)]
    exact ev_neg hk (hj _ _)

theorem or256 (x v : Int) (h0 : 0 ≤ x) (h1 : x ≤ 1099511627776) (hv : 0 ≤ v ∧ v ≤ 255) : Go.bits .or .i64 (wrap64 (x * 256)) (wrap64 v) = x * 256 + v := by
  rw [wrap_in (by omega) (by omega), wrap_in (by omega) (by omega)]
  exact bits_join .i64 63 (by decide) wraps_i64 8 (x * 256) v (by omega) (by omega) (by omega) hv.1 (by omega) (by omega)
theorem impl_sum (acc : List Int) (y : List Int) (hy : y.length = 4) (hb : ∀ x ∈ y, 0 ≤ x ∧ x ≤ 255) : Ev (fun k => impl_HeadOf.l1 k acc 0 y (y.length : Int) 0) (acc, ((y.getD 0 0 * 256 + y.getD 1 0) * 256 + y.getD 2 0) * 256 + y.getD 3 0, true) := by
  have v0 := hb _ (getD_mem 0 y 0 (by omega))
  have v1 := hb _ (getD_mem 0 y 1 (by omega))
  have v2 := hb _ (getD_mem 0 y 2 (by omega))
  have v3 := hb _ (getD_mem 0 y 3 (by omega))
  have r0 : rd y 0 = y.getD 0 0 := rd_nat y 0
  have r1 : rd y 1 = y.getD 1 0 := rd_nat y 1
  have r2 : rd y 2 = y.getD 2 0 := rd_nat y 2
  have r3 : rd y 3 = y.getD 3 0 := rd_nat y 3
  apply ev_shift
  simp only [impl_HeadOf.l1]
  refine ev_pos (by omega) (ev_pos (by omega) (ev_pos (by omega) ?_))
  rw [r0, or256 0 _ (by omega) (by omega) v0, show wrap64 (0 + 1) = 1 from by unfold wrap64; omega]
  apply ev_shift
  simp only [impl_HeadOf.l1]
  refine ev_pos (by omega) (ev_pos (by omega) (ev_pos (by omega) ?_))
  rw [r1, or256 _ _ (by omega) (by omega) v1, show wrap64 (1 + 1) = 2 from by unfold wrap64; omega]
  apply ev_shift
  simp only [impl_HeadOf.l1]
  refine ev_pos (by omega) (ev_pos (by omega) (ev_pos (by omega) ?_))
  rw [r2, or256 _ _ (by omega) (by omega) v2, show wrap64 (2 + 1) = 3 from by unfold wrap64; omega]
  apply ev_shift
  simp only [impl_HeadOf.l1]
  refine ev_pos (by omega) (ev_pos (by omega) (ev_pos (by omega) ?_))
  rw [r3, or256 _ _ (by omega) (by omega) v3, show wrap64 (3 + 1) = 4 from by unfold wrap64; omega]
  apply ev_shift
  simp only [impl_HeadOf.l1]
  refine ev_neg (by omega) (ev_cast (Ev.now _) ?_)
  simp
theorem impl_HeadOf_l (b : List Int) (n : Int) (hb : ∀ x ∈ b, 0 ≤ x ∧ x ≤ 255) (hl : b.length ≤ 1099511627776) (c : Nat) (hc : c ≤ 48) (d : Nat) : ∀ (i : Nat) (at_ : Int) (acc : List Int), i + d = c → 1 ≤ at_ → at_ ≤ b.length → acc.length = i → (∀ x ∈ acc, 0 ≤ x ∧ x ≤ 2147483647) →
    Ev (fun k => impl_HeadOf.l0 k n b at_ (putsOf acc) acc (c : Int) (i : Int)) (headEnd b n (headGo b d at_ acc)) := by
  induction d with
  | zero =>
    intro i at_ acc hi h1 h2 ha hr
    have hp := putsOf_length acc
    have hj : Ev (fun k => impl_HeadOf.j3 k b at_ acc true) ([], 0, false) := by
      refine ev_shift ?_
      simp only [impl_HeadOf.j3]
      exact ev_pos trivial (Ev.now _)
    apply ev_shift
    simp only [impl_HeadOf.l0, headGo, headEnd]
    refine ev_neg (by omega) ?_
    rw [wrap_in (x := at_ + 4) (by omega) (by omega)]
    by_cases e : (b.length : Int) = at_ + 4
    · rw [if_pos e]
      refine ev_pos e (Ev.bind (impl_TxOk_ev n _ (by omega) (txOk_wf hr)) ?_)
      cases txOk n (putsOf acc)
      · exact ev_cast hj (by simp)
      · rw [if_pos rfl]
        refine ev_shift ?_
        simp only [impl_HeadOf.j3]
        obtain ⟨j, rfl⟩ := Int.eq_ofNat_of_zero_le (show 0 ≤ at_ by omega)
        refine ev_neg (by simp) (ev_pos (by omega) (ev_pos (by omega) (ev_some ?_)))
        rw [Int.toNat_natCast]
        refine ev_cast (impl_sum acc (b.drop j) (by rw [List.length_drop]; omega) (fun x hx => hb x (List.mem_of_mem_drop hx))) ?_
        unfold sum4
        simp [List.getD, List.getElem?_drop]
    · rw [if_neg e]
      exact ev_neg e hj
  | succ d ih =>
    intro i at_ acc hi h1 h2 ha hr
    have hp := putsOf_length acc
    apply ev_shift
    simp only [impl_HeadOf.l0, headGo]
    refine ev_pos (by omega) (Ev.bind (impl_GetNum_ev b at_ (by omega) hb) ?_)
    by_cases hk : (getNum b at_).2.2 = true
    · have hg := getNum_ok b at_ hk
      rw [if_pos hk]
      refine ev_pos hk (ev_pos (by omega) (ev_pos (by omega) ?_))
      rw [wrap_nat (by omega), ← putsOf_snoc]
      refine ih (i + 1) _ _ (by omega) (by omega) (by omega) (by rw [List.length_append, List.length_singleton]; omega) ?_
      intro x hx
      rw [List.mem_append] at hx
      rcases hx with hx | hx
      · exact hr x hx
      · rw [List.mem_singleton] at hx
        subst hx
        exact ⟨hg.1, hg.2.1⟩
    · rw [if_neg hk]
      exact ev_neg hk (Ev.now _)
theorem headEnd_short (b : List Int) (n : Int) (c : Nat) (at_ : Int) (h1 : 2 ≤ at_) (h5 : b.length < 5) : headEnd b n (headGo b c at_ []) = ([], 0, false) := by
  cases h : headGo b c at_ [] with
  | none => rfl
  | some r =>
    obtain ⟨ats, a2⟩ := r
    have := headGo_facts b c at_ [] (by simp) ats a2 h
    rw [headEnd, if_neg (by omega)]
theorem impl_HeadOf_ev (s : ByteArray) (n : Int) (hs : s.size ≤ 1048576) : Ev (fun k => impl_HeadOf.f k s n) (headOf (bytesOf s) n) := by
  have hl := bytesOf_length s
  have hb := bytesOf_range s
  unfold impl_HeadOf.f
  refine ev_pos (by omega) (ev_some ?_)
  generalize bytesOf s = b at *
  have hj : Ev (fun k => impl_HeadOf.j0 k n b true) ([], 0, false) := by
    refine ev_shift ?_
    simp only [impl_HeadOf.j0]
    exact ev_pos trivial (Ev.now _)
  have hj1 : ∀ x y, Ev (fun k => impl_HeadOf.j1 k n b x y true) ([], 0, false) := by
    intro x y
    refine ev_shift ?_
    simp only [impl_HeadOf.j1]
    exact ev_pos trivial (Ev.now _)
  unfold headOf
  by_cases h5 : (b.length : Int) < 5
  · refine ev_pos h5 (ev_cast hj ?_)
    split
    · rename_i h
      have hg := getNum_ok b 1 h.1
      exact (headEnd_short b n _ _ (by omega) (by omega)).symm
    · rfl
  · refine ev_neg h5 (ev_pos (by omega) ?_)
    rw [show rd b 0 = b.getD 0 0 from rd_nat b 0]
    by_cases h7 : b.getD 0 0 = 74
    · refine ev_shift ?_
      simp only [impl_HeadOf.j0]
      refine ev_neg (by simpa using h7) (Ev.bind (impl_GetNum_ev b 1 (by omega) hb) ?_)
      by_cases hk : (getNum b 1).2.2 = true
      · have hg := getNum_ok b 1 hk
        refine ev_pos hk ?_
        by_cases hm : (getNum b 1).1 > 48
        · rw [decide_eq_true hm, if_neg (fun z => by have := z.2.2; omega)]
          exact hj1 _ _
        · rw [decide_eq_false hm]
          refine ev_shift ?_
          simp only [impl_HeadOf.j1]
          refine ev_neg (by simp) ?_
          have e : (((getNum b 1).1.toNat : Nat) : Int) = (getNum b 1).1 := by omega
          have := impl_HeadOf_l b n hb (by omega) (getNum b 1).1.toNat (by omega) (getNum b 1).1.toNat 0 (getNum b 1).2.1 [] (by omega) (by omega) (by omega) rfl (by simp)
          rw [e] at this
          refine ev_cast this ?_
          by_cases h1 : 1 ≤ (getNum b 1).1
          · rw [if_pos ⟨hk, h7, h1, by omega⟩]
          · rw [if_neg (fun z => h1 z.2.2.1), show (getNum b 1).1.toNat = 0 from by omega, headGo, headEnd]
            split
            · rw [txOk_nil]
              rfl
            · rfl
      · rw [if_neg (fun z => hk z.1)]
        exact ev_neg hk (hj1 _ _)
    · rw [if_neg (fun z => h7 z.2.1)]
      have : (b.getD 0 0 != 74) = true := by simpa using h7
      rw [this]
      exact hj
theorem headOf_length (b : List Int) (n : Int) : (headOf b n).1.length ≤ 48 := by
  unfold headOf
  split
  · rename_i h
    cases hg : headGo b (getNum b 1).1.toNat (getNum b 1).2.1 [] with
    | none => simp [headEnd]
    | some r =>
      obtain ⟨ats, a2⟩ := r
      have := headGo_facts b _ _ [] (by simp) ats a2 hg
      rw [headEnd]
      split
      · split
        · dsimp only
          simp only [List.length_nil] at this
          omega
        · simp
      · simp
  · simp

theorem FnExactHeadOf : laws_FnExactHeadOf.Pure := by
  intro s n _ _
  apply Ev.rounds (g := fun k => laws_FnExactHeadOf.f k s n)
  unfold laws_FnExactHeadOf.f
  by_cases h : (s.size : Int) > 1048576
  · exact ev_pos h (Ev.now _)
  · have hs : s.size ≤ 1048576 := by omega
    have hh := headOf_length (bytesOf s) n
    have h1 := spec_HeadOf_ev s n hs
    have h2 := impl_HeadOf_ev s n hs
    generalize headOf (bytesOf s) n = v at *
    have he := eqIntS_ev v.1 v.1 (by omega)
    have hd := heldIntS_ev v.1.length 1 (by omega) (by omega) (by omega)
    refine ev_neg h (Ev.bind h1 (Ev.bind h2 (Ev.bind he (ev_pos (by simp) (ev_pos rfl (ev_shift ?_))))))
    simp only [laws_FnExactHeadOf.j0]
    refine ev_neg (by simp) (Ev.bind (markIntS_ev _ 1 (by omega) (by omega) (by omega)) (Ev.bind hd (ev_neg (by omega) (ev_pos rfl (Ev.bind h2 (Ev.bind he (ev_pos (by simp) (ev_pos rfl (ev_shift ?_)))))))))
    simp only [laws_FnExactHeadOf.j1]
    exact ev_neg (by simp) (Ev.bind hd (ev_neg (by omega) (ev_pos rfl (Ev.now _))))

end Go.Proofs.Ytlhlffgeimfcfaa.Pure
