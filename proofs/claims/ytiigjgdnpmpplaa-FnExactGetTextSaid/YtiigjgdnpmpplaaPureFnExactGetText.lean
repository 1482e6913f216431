/- FnExactGetText: the law's function of the print answers true for every input within the row's bounds. Conditions: none but the bounds that the row itself gives. -/
import Derived.Test.YtiigjgdnpmpplaaPFnExactGetTextx2
import Derived.OpenShut
import Derived.Laws.BitsLemmas
import Derived.Test.YtiigjgdnpmpplaaWSized
import Derived.Test.YtiigjgdnpmpplaaWSized
namespace Go.Proofs.Ytiigjgdnpmpplaa.Pure
open Go Go.RowKit Go.Proofs.Ytiigjgdnpmpplaa.PFnExactGetText Go.Proofs.YtiigjgdnpmpplaaW.PrintWords Go.Proofs.YtiigjgdnpmpplaaW.PrintLast Go.Proofs.YtiigjgdnpmpplaaW.PrintMore Go.Proofs.YtiigjgdnpmpplaaW.PrintMore Go.Proofs.YtiigjgdnpmpplaaW.PrintMore Go.Proofs.YtiigjgdnpmpplaaW.PrintMore Go.Proofs.YtiigjgdnpmpplaaW.PrintMore
set_option linter.unusedVariables false
set_option linter.unusedSimpArgs false

theorem ev_shift {α : Type} {g : Nat → Option α} {r : α} (h : Ev (fun k => g (k + 1)) r) : Ev g r := Ev.step (f := fun k => g (k + 1)) (fun _ => rfl) h
theorem ev_unshift {α : Type} {g : Nat → Option α} {r : α} (h : Ev g r) : Ev (fun k => g (k + 1)) r := by
  obtain ⟨K, h⟩ := h
  exact ⟨K, fun k hk => h (k + 1) (by omega)⟩
theorem ev_pos {α : Type} {c : Prop} [Decidable c] {f g : Nat → Option α} {r : α} (h : c) (e : Ev f r) : Ev (fun k => if c then f k else g k) r := by
  simpa only [if_pos h] using e
theorem ev_neg {α : Type} {c : Prop} [Decidable c] {f g : Nat → Option α} {r : α} (h : ¬ c) (e : Ev g r) : Ev (fun k => if c then f k else g k) r := by
  simpa only [if_neg h] using e
theorem ev_eq {α β : Type} {o : Option α} {a : α} {f : Nat → α → Option β} {r : β} (h : o = some a) (e : Ev (fun k => f k a) r) : Ev (fun k => o.bind (f k)) r := by
  subst h
  exact e
theorem ev_some {α β : Type} {a : α} {f : Nat → α → Option β} {r : β} (e : Ev (fun k => f k a) r) : Ev (fun k => (some a).bind (f k)) r := e
theorem ev_cast {α : Type} {g : Nat → Option α} {r r' : α} (h : Ev g r) (e : r = r') : Ev g r' := e ▸ h
theorem ev_loop {ρ : Type} (L : Nat → Nat → Option ρ) (res : Nat → ρ) (n : Nat) (he : Ev (fun k => L (k + 1) n) (res n))
    (hs : ∀ i, i < n → Ev (fun k => L k (i + 1)) (res (i + 1)) → Ev (fun k => L (k + 1) i) (res i)) : ∀ i, i ≤ n → Ev (fun k => L k i) (res i) := by
  have key : ∀ d i, i + d = n → Ev (fun k => L k i) (res i) := by
    intro d
    induction d with
    | zero =>
      intro i h
      obtain rfl : i = n := by omega
      exact ev_shift he
    | succ d ih =>
      intro i h
      exact ev_shift (hs i (by omega) (ih (i + 1) (by omega)))
  intro i h
  exact key (n - i) i (by omega)
theorem wrap_in {x : Int} (h0 : -9223372036854775808 ≤ x) (h1 : x ≤ 9223372036854775807) : wrap64 x = x := by
  unfold wrap64
  omega
theorem wrap_nat {i : Nat} (h : i < 9223372036854775807) : wrap64 ((i : Int) + 1) = ((i + 1 : Nat) : Int) := by
  unfold wrap64
  omega
theorem wrap_up {i : Int} (h0 : 0 ≤ i) (h : i < 9223372036854775807) : wrap64 (i + 1) = i + 1 := by
  unfold wrap64
  omega
theorem rd_nat (xs : List Int) (i : Nat) : rd xs (i : Int) = xs.getD i 0 := by simp [rd]
theorem rdOf_nat {α : Type} (d : α) (xs : List α) (i : Nat) : rdOf d xs (i : Int) = xs.getD i d := by simp [rdOf]
theorem bt_nat (s : ByteArray) (i : Nat) : bt s (i : Int) = (bytesOf s).getD i 0 := by rw [← rd_bytesOf, rd_nat]
theorem drop_cons {α : Type} (d : α) (l : List α) (i : Nat) (h : i < l.length) : l.drop i = l.getD i d :: l.drop (i + 1) := by
  rw [List.drop_eq_getElem_cons h]
  simp [List.getD, h]
theorem getD_mem {α : Type} (d : α) (l : List α) (i : Nat) (h : i < l.length) : l.getD i d ∈ l := by
  simp [List.getD, h]
theorem bytesOf_range (s : ByteArray) : ∀ x ∈ bytesOf s, 0 ≤ x ∧ x ≤ 255 := by
  intro x hx
  simp only [bytesOf, List.mem_map] at hx
  obtain ⟨b, _, rfl⟩ := hx
  have := b.toNat_lt
  omega
theorem bt_lo (s : ByteArray) (i : Int) : 0 ≤ bt s i := (bt_range s i).1
theorem bt_hi (s : ByteArray) (i : Int) : bt s i ≤ 255 := (bt_range s i).2
theorem drop_eq {α : Type} [DecidableEq α] (d : α) (a b : List α) (i : Nat) (ha : i < a.length) (hb : i < b.length) : (a.drop i = b.drop i) ↔ (a.getD i d = b.getD i d ∧ a.drop (i + 1) = b.drop (i + 1)) := by
  rw [drop_cons d a i ha, drop_cons d b i hb]
  simp
theorem mark_step {α : Type} (d : α) (g : Nat → α) (l : List α) (i : Nat) (h : i < l.length) : ((List.range i).map g ++ l.drop i).set i (g i) = (List.range (i + 1)).map g ++ l.drop (i + 1) := by
  have hlen : ((List.range i).map g).length = i := by simp
  rw [List.set_append_right _ _ (by omega), hlen, Nat.sub_self, drop_cons d l i h, List.set_cons_zero, List.range_succ, List.map_append, List.append_assoc]
  rfl
theorem range_getD {α : Type} (d : α) (g : Nat → α) (n i : Nat) (h : i < n) : ((List.range n).map g).getD i d = g i := by
  simp [List.getD, h]

theorem wraps_i64 (n : Int) (h0 : 0 ≤ n) (h1 : n < 2 ^ 63) : IntKind.i64.wrap n = n := by
  rw [IntKind.wrap_i64]
  omega
theorem and127 (x : Int) (h0 : 0 ≤ x) (h1 : x < 9223372036854775808) : Go.bits .and .i64 x 127 = x % 128 :=
  bits_mask .i64 63 (by decide) wraps_i64 7 (by decide) x h0 (by omega)
theorem and255 (x : Int) (h0 : 0 ≤ x) (h1 : x < 9223372036854775808) : Go.bits .and .i64 x 255 = x % 256 :=
  bits_mask .i64 63 (by decide) wraps_i64 8 (by decide) x h0 (by omega)
theorem or_comm64 (a b : Nat) (ha : a < 2 ^ 63) (hb : b < 2 ^ 63) : Go.bits .or .i64 (a : Int) (b : Int) = Go.bits .or .i64 (b : Int) (a : Int) := by
  rw [(bits_nat .i64 63 (by decide) wraps_i64 a b ha hb).2, (bits_nat .i64 63 (by decide) wraps_i64 b a hb ha).2, Nat.or_comm]
theorem or128 (y : Int) (h0 : 0 ≤ y) (h1 : y < 128) : Go.bits .or .i64 y 128 = y + 128 := by
  obtain ⟨b, rfl⟩ := Int.eq_ofNat_of_zero_le h0
  have e3 := bits_join .i64 63 (by decide) wraps_i64 7 128 (b : Int) (by decide) (by decide) (by decide) h0 (by omega) (by omega)
  have e4 : Go.bits .or .i64 (b : Int) ((128 : Nat) : Int) = Go.bits .or .i64 ((128 : Nat) : Int) (b : Int) := or_comm64 b 128 (by omega) (by omega)
  rw [Int.cast_ofNat_Int] at e4
  rw [e4, e3]
  omega

theorem copy_step {α : Type} (d : α) (l : List α) (i : Nat) (h : i < l.length) : (l.take i ++ List.replicate (l.length - i) d).set i (l.getD i d) = l.take (i + 1) ++ List.replicate (l.length - (i + 1)) d := by
  have hlen : (l.take i).length = i := by simp; omega
  rw [List.set_append_right _ _ (by omega), hlen, Nat.sub_self]
  obtain ⟨m, hm⟩ : ∃ m, l.length - i = m + 1 := ⟨l.length - i - 1, by omega⟩
  rw [hm, List.replicate_succ, List.set_cons_zero, List.take_succ_eq_append_getElem h, List.append_assoc]
  have : l.length - (i + 1) = m := by omega
  rw [this]
  simp [List.getD, h]
theorem toByteS_ev (l : List Int) (h : l.length ≤ 140737488351232) : Ev (fun k => laws_toByteS.f k l) l := by
  unfold laws_toByteS.f
  refine ev_pos (by omega) (ev_pos (by omega) ?_)
  have := ev_loop (fun k i => laws_toByteS.l0 k l (l.take i ++ List.replicate (l.length - i) 0) (i : Int)) (fun _ => l) l.length ?_ ?_ 0 (Nat.zero_le _)
  · simpa using this
  · simp only [laws_toByteS.l0]
    refine ev_neg (by omega) ?_
    simp only [List.take_length, Nat.sub_self, List.replicate_zero, List.append_nil]
    exact Ev.now _
  · intro i hi e
    simp only [laws_toByteS.l0]
    refine ev_pos (by omega) (ev_pos (by omega) (ev_pos (by simp; omega) ?_))
    rw [wrap_nat (by omega), rd_nat, Int.toNat_natCast, copy_step 0 l i hi]
    exact e

theorem eqByteS_ev (a b : List Int) (h : a.length ≤ 140737488351232) : Ev (fun k => laws_eqByteS.f k a b) (decide (a = b)) := by
  unfold laws_eqByteS.f
  by_cases hl : a.length = b.length
  · refine ev_pos (by omega) ?_
    have := ev_loop (fun k i => laws_eqByteS.l0 k a b (i : Int)) (fun i => decide (a.drop i = b.drop i)) a.length ?_ ?_ 0 (Nat.zero_le _)
    · exact this
    · simp only [laws_eqByteS.l0]
      refine ev_neg (by omega) ?_
      refine ev_cast (Ev.now _) ?_
      rw [List.drop_length, hl, List.drop_length]
      simp
    · intro i hi e
      simp only [laws_eqByteS.l0]
      refine ev_pos (by omega) (ev_pos (by omega) (ev_pos (by omega) ?_))
      rw [wrap_nat (by omega), rd_nat, rd_nat]
      by_cases hc : a.getD i 0 = b.getD i 0
      · refine ev_pos hc (ev_cast e ?_)
        rw [decide_eq_decide, drop_eq 0 a b i hi (by omega)]
        exact ⟨fun z => ⟨hc, z⟩, fun z => z.2⟩
      · refine ev_neg hc (ev_cast (Ev.now _) ?_)
        symm
        rw [decide_eq_false_iff_not, drop_eq 0 a b i hi (by omega)]
        exact fun z => hc z.1
  · refine ev_neg (by omega) (ev_cast (Ev.now _) ?_)
    symm
    rw [decide_eq_false_iff_not]
    exact fun z => hl (by rw [z])

theorem shl7 (d k : Nat) (hd : d < 128) (hk : k ≤ 4) : shl .i64 (d : Int) (wrap64 (7 * (k : Int))) = ((d * 2 ^ (7 * k) : Nat) : Int) := by
  have h : k = 0 ∨ k = 1 ∨ k = 2 ∨ k = 3 ∨ k = 4 := by omega
  unfold shl
  rw [wrap_in (by omega) (by omega)]
  rcases h with rfl | rfl | rfl | rfl | rfl <;> (simp [IntKind.bits]; try (rw [wraps_i64 _ (by omega) (by omega)]))
theorem or7 (n m k : Nat) (hn : n < 2 ^ (7 * k)) (hm : m < 128) (hk : k ≤ 4) : Go.bits .or .i64 (n : Int) ((m * 2 ^ (7 * k) : Nat) : Int) = ((n + m * 2 ^ (7 * k) : Nat) : Int) := by
  have hp : 2 ^ (7 * k) ≤ 268435456 := Nat.pow_le_pow_right (n := 2) (by omega) (show 7 * k ≤ 28 by omega)
  have h0 : 0 < 2 ^ (7 * k) := Nat.two_pow_pos _
  have hx : m * 2 ^ (7 * k) < 2 ^ 63 := Nat.lt_of_le_of_lt (Nat.mul_le_mul (show m ≤ 127 by omega) hp) (by decide)
  have hz : ((m * 2 ^ (7 * k) : Nat) : Int) % 2 ^ (7 * k) = 0 := by
    simp
  have hy : (n : Int) < 2 ^ (7 * k) := by exact_mod_cast hn
  have hn2 : n < 2 ^ 63 := by omega
  rw [or_comm64 n _ hn2 hx]
  have := bits_join .i64 63 (by decide) wraps_i64 (7 * k) ((m * 2 ^ (7 * k) : Nat) : Int) (n : Int) (Int.natCast_nonneg _) hz (by exact_mod_cast hx) (Int.natCast_nonneg _) hy (by exact_mod_cast hn2)
  rw [this]
  omega
def gAcc (n d k : Nat) : Nat := n + d % 128 * 2 ^ (7 * k)
def gOk (k n : Nat) : Prop := n < 2 ^ (7 * k)
theorem pow7 (n m k : Nat) (hn : n < 2 ^ (7 * k)) (hm : m < 128) : n + m * 2 ^ (7 * k) < 2 ^ (7 * (k + 1)) := by
  have e : 2 ^ (7 * (k + 1)) = 128 * 2 ^ (7 * k) := by rw [Nat.mul_add, Nat.pow_add, Nat.mul_comm]
  rw [e]
  have : (m + 1) * 2 ^ (7 * k) ≤ 128 * 2 ^ (7 * k) := Nat.mul_le_mul_right _ (by omega)
  rw [Nat.add_mul] at this
  omega
theorem gOk_step {k n : Nat} (d : Nat) (h : gOk k n) : gOk (k + 1) (gAcc n d k) := pow7 n (d % 128) k h (by omega)
theorem gOk_lt {k n : Nat} (h : gOk k n) (hk : k ≤ 5) : n < 34359738368 :=
  Nat.lt_of_lt_of_le h (Nat.pow_le_pow_right (n := 2) (by omega) (show 7 * k ≤ 35 by omega))
theorem gOk_zero : gOk 0 0 := by
  unfold gOk
  decide
theorem spec_acc {n d k : Nat} (hd : d ≤ 255) (hk : k ≤ 4) (h : gOk k n) : Go.bits .or .i64 (n : Int) (shl .i64 (Int.tmod (wrap64 (d : Int)) 128) (wrap64 (7 * (k : Int)))) = (gAcc n d k : Int) := by
  have e3 : Int.tmod (wrap64 (d : Int)) 128 = ((d % 128 : Nat) : Int) := by
    rw [wrap_in (by omega) (by omega), Int.tmod_eq_emod_of_nonneg (by omega)]
    omega
  rw [e3, shl7 (d % 128) k (by omega) hk]
  exact or7 n (d % 128) k h (by omega) hk
theorem impl_acc {n d k : Nat} (hd : d ≤ 255) (hk : k ≤ 4) (h : gOk k n) : Go.bits .or .i64 (n : Int) (shl .i64 (Go.bits .and .i64 (wrap64 (d : Int)) 127) (wrap64 (7 * (k : Int)))) = (gAcc n d k : Int) := by
  have e3 : Go.bits .and .i64 (wrap64 (d : Int)) 127 = ((d % 128 : Nat) : Int) := by
    rw [wrap_in (by omega) (by omega), and127 _ (by omega) (by omega)]
    omega
  rw [e3, shl7 (d % 128) k (by omega) hk]
  exact or7 n (d % 128) k h (by omega) hk
theorem seven_pos {k : Nat} (hk : k ≤ 4) : 0 ≤ wrap64 (7 * (k : Int)) := by
  rw [wrap_in (by omega) (by omega)]
  omega
theorem byte_wrap {d : Nat} (hd : d ≤ 255) : wrap64 (d : Int) = d := wrap_in (by omega) (by omega)
theorem add_wrap {a k : Nat} (ha : a ≤ 140737488351232) (hk : k ≤ 5) : wrap64 ((a : Int) + (k : Int)) = ((a + k : Nat) : Int) := by
  rw [wrap_in (by omega) (by omega)]
  omega
def getGo (b : List Int) (a : Nat) : Nat → Nat → Nat → Int × Int × Bool
  | 0, _, _ => (0, 0, false)
  | f + 1, k, n => if a + k < b.length then
      (if (b.getD (a + k) 0).toNat < 128 then
        (if (0 < k ∧ (b.getD (a + k) 0).toNat = 0) ∨ gAcc n (b.getD (a + k) 0).toNat k > 2147483647 then (0, 0, false)
         else ((gAcc n (b.getD (a + k) 0).toNat k : Int), ((a + k + 1 : Nat) : Int), true))
       else getGo b a f (k + 1) (gAcc n (b.getD (a + k) 0).toNat k))
    else (0, 0, false)
def getNum (b : List Int) (a : Int) : Int × Int × Bool := if 0 ≤ a then getGo b a.toNat 5 0 0 else (0, 0, false)
theorem getGo_out (b : List Int) (a : Nat) (h : b.length ≤ a) (f k n : Nat) : getGo b a f k n = (0, 0, false) := by
  cases f with
  | zero => rfl
  | succ f => rw [getGo, if_neg (by omega)]

theorem spec_getNum_l (b : List Int) (hl : b.length ≤ 140737488351232) (hb : ∀ x ∈ b, 0 ≤ x ∧ x ≤ 255) (a : Nat) (ha : a < 9223372036854775808) (f : Nat) : ∀ (k n : Nat), k + f = 5 → gOk k n →
    Ev (fun j => spec_GetNum.l0 j b (a : Int) (n : Int) (k : Int)) (getGo b a f k n) := by
  induction f with
  | zero =>
    intro k n hk hn
    apply ev_shift
    simp only [spec_GetNum.l0]
    exact ev_neg (by omega) (Ev.now _)
  | succ f ih =>
    intro k n hk hn
    have hk4 : k ≤ 4 := by omega
    apply ev_shift
    simp only [spec_GetNum.l0]
    refine ev_pos (by omega) (ev_neg (by omega) ?_)
    rw [wrap_in (x := (b.length : Int) - k) (by omega) (by omega)]
    apply ev_shift
    simp only [spec_GetNum.j1, getGo]
    by_cases hin : a + k < b.length
    · refine ev_neg (by simp; omega) ?_
      rw [if_pos hin, add_wrap (by omega) (by omega), rd_nat]
      have hm := hb _ (getD_mem 0 b (a + k) hin)
      generalize b.getD (a + k) 0 = d at hm ⊢
      obtain ⟨c, rfl⟩ := Int.eq_ofNat_of_zero_le hm.1
      have hc : c ≤ 255 := by omega
      have e11 := ih (k + 1) _ (by omega) (gOk_step c hn)
      rw [spec_acc hc hk4 hn, Int.toNat_natCast, byte_wrap hc, wrap_nat (i := a + k) (by omega), wrap_nat (i := k) (by omega)]
      generalize gAcc n c k = m at e11 ⊢
      clear hn ih
      refine ev_pos (by omega) (ev_pos (by omega) (ev_pos (seven_pos hk4) ?_))
      by_cases h1 : c < 128
      · refine ev_pos (by omega) ?_
        rw [if_pos h1]
        by_cases h2 : k > 0
        · refine ev_pos (by omega) ?_
          by_cases h3 : c = 0
          · refine ev_pos (by omega) ?_
            rw [if_pos (.inl ⟨h2, h3⟩)]
            exact Ev.now _
          · refine ev_neg (by omega) ?_
            by_cases h4 : m > 2147483647
            · refine ev_pos (by omega) ?_
              rw [if_pos (.inr h4)]
              exact Ev.now _
            · refine ev_neg (by omega) ?_
              rw [if_neg (by omega)]
              exact Ev.now _
        · refine ev_neg (by omega) ?_
          by_cases h4 : m > 2147483647
          · refine ev_pos (by omega) ?_
            rw [if_pos (.inr h4)]
            exact Ev.now _
          · refine ev_neg (by omega) ?_
            rw [if_neg (by omega)]
            exact Ev.now _
      · refine ev_neg (by omega) ?_
        rw [if_neg h1]
        exact e11
    · refine ev_pos (by simp; omega) ?_
      rw [if_neg hin]
      exact Ev.now _
theorem spec_GetNum_ev (b : List Int) (a : Int) (hl : b.length ≤ 140737488351232) (hb : ∀ x ∈ b, 0 ≤ x ∧ x ≤ 255) (ha : a ≤ 9223372036854775807) : Ev (fun k => spec_GetNum.f k b a) (getNum b a) := by
  unfold spec_GetNum.f getNum
  by_cases h : 0 ≤ a
  · rw [if_pos h]
    obtain ⟨n, rfl⟩ := Int.eq_ofNat_of_zero_le h
    exact spec_getNum_l b hl hb n (by omega) 5 0 0 (by omega) gOk_zero
  · rw [if_neg h]
    apply ev_shift
    simp only [spec_GetNum.l0]
    refine ev_pos (by omega) (ev_pos (by omega) ?_)
    apply ev_shift
    simp only [spec_GetNum.j1]
    exact ev_pos trivial (Ev.now _)

theorem impl_getNum_l (b : List Int) (hl : b.length ≤ 140737488351232) (hb : ∀ x ∈ b, 0 ≤ x ∧ x ≤ 255) (a : Nat) (ha : a ≤ b.length) (f : Nat) : ∀ (k n : Nat), k + f = 5 → gOk k n →
    Ev (fun j => impl_GetNum.l0 j b (a : Int) (n : Int) (k : Int)) (getGo b a f k n) := by
  induction f with
  | zero =>
    intro k n hk hn
    apply ev_shift
    simp only [impl_GetNum.l0]
    refine ev_neg (by omega) ?_
    apply ev_shift
    simp only [impl_GetNum.j1]
    exact ev_neg (by simp) (Ev.now _)
  | succ f ih =>
    intro k n hk hn
    have hk4 : k ≤ 4 := by omega
    apply ev_shift
    simp only [impl_GetNum.l0]
    refine ev_pos (by omega) ?_
    apply ev_shift
    simp only [impl_GetNum.j1, getGo]
    rw [add_wrap (by omega) (by omega)]
    by_cases hin : a + k < b.length
    · refine ev_pos (by simp; omega) ?_
      rw [if_pos hin, rd_nat]
      have hm := hb _ (getD_mem 0 b (a + k) hin)
      generalize b.getD (a + k) 0 = d at hm ⊢
      obtain ⟨c, rfl⟩ := Int.eq_ofNat_of_zero_le hm.1
      have hc : c ≤ 255 := by omega
      have e11 := ih (k + 1) _ (by omega) (gOk_step c hn)
      rw [impl_acc hc hk4 hn, Int.toNat_natCast, byte_wrap hc, wrap_nat (i := a + k) (by omega), wrap_nat (i := k) (by omega)]
      generalize gAcc n c k = m at e11 ⊢
      clear hn ih
      refine ev_pos (by omega) (ev_pos (by omega) (ev_pos (seven_pos hk4) ?_))
      by_cases h1 : c < 128
      · refine ev_neg (by omega) ?_
        rw [if_pos h1]
        by_cases h3 : c = 0
        · refine ev_pos (by omega) ?_
          by_cases h2 : k > 0
          · refine ev_pos (by omega) ?_
            rw [if_pos (.inl ⟨h2, h3⟩)]
            exact Ev.now _
          · refine ev_neg (by omega) ?_
            by_cases h4 : m > 2147483647
            · refine ev_pos (by omega) ?_
              rw [if_pos (.inr h4)]
              exact Ev.now _
            · refine ev_neg (by omega) ?_
              rw [if_neg (by omega)]
              exact Ev.now _
        · refine ev_neg (by omega) ?_
          by_cases h4 : m > 2147483647
          · refine ev_pos (by omega) ?_
            rw [if_pos (.inr h4)]
            exact Ev.now _
          · refine ev_neg (by omega) ?_
            rw [if_neg (by omega)]
            exact Ev.now _
      · refine ev_pos (by omega) ?_
        rw [if_neg h1]
        exact e11
    · refine ev_neg (by simp; omega) ?_
      rw [if_neg hin]
      exact Ev.now _
theorem impl_GetNum_ev (b : List Int) (a : Int) (hl : b.length ≤ 140737488351232) (hb : ∀ x ∈ b, 0 ≤ x ∧ x ≤ 255) : Ev (fun k => impl_GetNum.f k b a) (getNum b a) := by
  unfold impl_GetNum.f getNum
  by_cases h : 0 ≤ a ∧ a ≤ b.length
  · rw [if_pos h.1]
    refine ev_eq (a := true) (by unfold impl_within.f; rw [if_pos (by omega)]; simp; omega) (ev_pos rfl ?_)
    obtain ⟨n, rfl⟩ := Int.eq_ofNat_of_zero_le h.1
    exact impl_getNum_l b hl hb n (by omega) 5 0 0 (by omega) gOk_zero
  · refine ev_eq (a := false) (by unfold impl_within.f; split <;> simp <;> omega) (ev_neg (by simp) (ev_cast (Ev.now _) ?_))
    by_cases h0 : 0 ≤ a
    · rw [if_pos h0, getGo_out b a.toNat (by omega)]
    · rw [if_neg h0]

theorem getGo_ok (b : List Int) (a : Nat) (f : Nat) : ∀ k n, (getGo b a f k n).2.2 = true → 0 ≤ (getGo b a f k n).1 ∧ (getGo b a f k n).1 ≤ 2147483647 ∧ (a : Int) < (getGo b a f k n).2.1 ∧ (getGo b a f k n).2.1 ≤ b.length := by
  induction f with
  | zero =>
    intro k n h
    simp [getGo] at h
  | succ f ih =>
    intro k n h
    rw [getGo] at h ⊢
    by_cases h1 : a + k < b.length
    · rw [if_pos h1] at h ⊢
      by_cases h2 : (b.getD (a + k) 0).toNat < 128
      · rw [if_pos h2] at h ⊢
        split at h
        · simp at h
        · rename_i h3
          rw [if_neg h3]
          refine ⟨by omega, ?_, ?_, ?_⟩ <;> dsimp only <;> omega
      · rw [if_neg h2] at h ⊢
        exact ih _ _ h
    · rw [if_neg h1] at h
      simp at h
theorem getNum_ok (b : List Int) (a : Int) (h : (getNum b a).2.2 = true) : 0 ≤ (getNum b a).1 ∧ (getNum b a).1 ≤ 2147483647 ∧ 0 ≤ a ∧ a < (getNum b a).2.1 ∧ (getNum b a).2.1 ≤ b.length := by
  unfold getNum at h ⊢
  by_cases h0 : 0 ≤ a
  · rw [if_pos h0] at h ⊢
    have := getGo_ok b a.toNat 5 0 0 h
    omega
  · rw [if_neg h0] at h
    simp at h
theorem getGo_no (b : List Int) (a : Nat) (f : Nat) : ∀ k n, (getGo b a f k n).2.2 = false → getGo b a f k n = (0, 0, false) := by
  induction f with
  | zero => intro k n _; rfl
  | succ f ih =>
    intro k n h
    rw [getGo] at h ⊢
    split
    · rename_i h1
      rw [if_pos h1] at h
      split
      · rename_i h2
        rw [if_pos h2] at h
        split
        · rfl
        · rename_i h3
          rw [if_neg h3] at h
          simp at h
      · rename_i h2
        rw [if_neg h2] at h
        exact ih _ _ h
    · rfl
theorem getNum_no (b : List Int) (a : Int) (h : (getNum b a).2.2 = false) : getNum b a = (0, 0, false) := by
  unfold getNum at h ⊢
  split
  · rename_i h0
    rw [if_pos h0] at h
    exact getGo_no _ _ _ _ _ h
  · rfl
def getText (b : List Int) (a : Int) : ByteArray × Int × Bool :=
  if (getNum b a).2.2 = true then
    (if (getNum b a).1 > (b.length : Int) - (getNum b a).2.1 then ((⟨#[]⟩ : ByteArray), 0, false)
     else (strOfNums ((b.take ((getNum b a).2.1 + (getNum b a).1).toNat).drop (getNum b a).2.1.toNat), (getNum b a).2.1 + (getNum b a).1, true))
  else ((⟨#[]⟩ : ByteArray), 0, false)

theorem spec_GetText_ev (b : List Int) (a : Int) (hl : b.length ≤ 140737488351232) (hb : ∀ x ∈ b, 0 ≤ x ∧ x ≤ 255) (ha : a ≤ 9223372036854775807) : Ev (fun k => spec_GetText.f k b a) (getText b a) := by
  unfold spec_GetText.f getText
  refine Ev.bind (spec_GetNum_ev b a hl hb ha) ?_
  by_cases h : (getNum b a).2.2 = true
  · have hk := getNum_ok b a h
    rw [wrap_in (x := (b.length : Int) - (getNum b a).2.1) (by omega) (by omega), wrap_in (x := (getNum b a).2.1 + (getNum b a).1) (by omega) (by omega)]
    simp only [if_pos h]
    by_cases h2 : (getNum b a).1 > (b.length : Int) - (getNum b a).2.1
    · simp only [if_pos h2]
      exact Ev.now _
    · simp only [if_neg h2]
      exact ev_pos (by omega) (ev_pos (by omega) (ev_pos (by omega) (Ev.now _)))
  · simp only [if_neg h]
    exact Ev.now _

theorem impl_GetText_ev (b : List Int) (a : Int) (hl : b.length ≤ 140737488351232) (hb : ∀ x ∈ b, 0 ≤ x ∧ x ≤ 255) : Ev (fun k => impl_GetText.f k b a) (getText b a) := by
  unfold impl_GetText.f getText
  refine Ev.bind (impl_GetNum_ev b a hl hb) ?_
  by_cases h : (getNum b a).2.2 = true
  · have hk := getNum_ok b a h
    rw [wrap_in (x := (b.length : Int) - (getNum b a).2.1) (by omega) (by omega), wrap_in (x := (getNum b a).2.1 + (getNum b a).1) (by omega) (by omega)]
    simp only [if_pos h]
    by_cases h2 : (getNum b a).1 > (b.length : Int) - (getNum b a).2.1
    · simp only [if_pos h2]
      exact Ev.now _
    · simp only [if_neg h2]
      exact ev_pos (by omega) (ev_pos (by omega) (ev_pos (by omega) (Ev.now _)))
  · simp only [if_neg h]
    exact Ev.now _

theorem FnExactGetText : laws_FnExactGetText.Pure := by
  intro l a _ hl hw ha
  have hl' : l.length ≤ 140737488351232 := by omega
  have hb : ∀ x ∈ l, 0 ≤ x ∧ x ≤ 255 := fun x hx => bounds_u8 (hw x hx)
  have ha' := bounds_i64 ha
  apply Ev.rounds (g := fun k => laws_FnExactGetText.f k l a)
  unfold laws_FnExactGetText.f
  by_cases h : (l.length : Int) > 1048576
  · exact ev_pos h (Ev.now _)
  · refine ev_neg h (Ev.bind (toByteS_ev l hl') (Ev.bind (spec_GetText_ev l a hl' hb ha'.2) (Ev.bind (toByteS_ev l hl') (Ev.bind (impl_GetText_ev l a hl' hb) (ev_pos rfl (ev_pos rfl ?_))))))
    apply ev_shift
    simp only [laws_FnExactGetText.j0]
    refine ev_neg (by simp) ?_
    exact Ev.bind (toByteS_ev l hl') (Ev.bind (eqByteS_ev l l hl') (ev_pos (by simp) (Ev.now _)))

end Go.Proofs.Ytiigjgdnpmpplaa.Pure
namespace Go.Proofs.Ytiigjgdnpmpplaa
open Go.ChangeShapes Go.WideShapes
/-- The printed row names it so. -/
theorem PrintWords.sized_ints {H : Type} {enc : TypeId × Value → H} {P : Program} {W : World} {base : Nat} {spare : Nat → Bool} {held : Bool} {t e : TypeId} {k : IntKind} {a : Option Addr} {len cap : Nat} {d : DataW H} {ps : List MemPlace} {ts : List TypeId} {ds : List (DataW H)} {j : Nat}
    (hsz : (DataW.weightsEach P ts ds).all (· ≤ reachBytes) = true) (ht : ts[j]? = some t) (hd : ds[j]? = some d) (hu : P.underlying t = some (.slice e)) (he : P.underlying e = some (.int k)) (hc : P.cellsOf e = 1) {B : Nat} (hB : P.bytesOf e = B)
    (h : DataW.Trod enc P W base spare held t (.slice a len cap) d ps) : len * B ≤ 140737488351232 :=
  Go.Proofs.YtiigjgdnpmpplaaW.PrintWords.sized_ints hsz ht hd hu he hc hB h
end Go.Proofs.Ytiigjgdnpmpplaa
