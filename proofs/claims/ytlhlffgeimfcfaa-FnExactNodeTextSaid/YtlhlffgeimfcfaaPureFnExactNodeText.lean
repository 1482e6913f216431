/- FnExactNodeText: the law's function of the print answers true for every input within the row's bounds. Conditions: none but the bounds that the row itself gives. -/
import Derived.Test.YtlhlffgeimfcfaaPFnExactNodeTextx6
import Derived.OpenShut
import Derived.Laws.BitsLemmas
namespace Go.Proofs.Ytlhlffgeimfcfaa.Pure
open Go Go.RowKit Go.Proofs.Ytlhlffgeimfcfaa.PFnExactNodeText Go.Proofs.YtlhlffgeimfcfaaW.PrintWords Go.Proofs.YtlhlffgeimfcfaaW.PrintLast Go.Proofs.YtlhlffgeimfcfaaW.PrintMore
set_option linter.unusedVariables false
set_option linter.unusedSimpArgs false

theorem ev_shift {α : Type} {g : Nat → Option α} {r : α} (h : Ev (fun k => g (k + 1)) r) : Ev g r := Ev.step (f := fun k => g (k + 1)) (fun _ => rfl) h
theorem ev_unshift {α : Type} {g : Nat → Option α} {r : α} (h : Ev g r) : Ev (fun k => g (k + 1)) r := by
  obtain ⟨K, h⟩ := h
  exact ⟨K, fun k hk => h (k + 1) (by omega)⟩
theorem ev_pos {α : Type} {c : Prop} [Decidable c] {f g : Nat → Option α} {r : α} (h : c) (e : Ev f r) : Ev (fun k => if c then f k else g k) r := by
  simpa only [if_pos h] using e
theorem ev_neg {α : Type} {c : Prop} [Decidable c] {f g : Nat → Option α} {r : α} (h : ¬ c) (e : Ev g r) : Ev (fun k => if c then f k else g k) r := by
  simpa only [if_neg h] using e
theorem ev_eq {α β : Type} {o : Option α} {a : α} {f : Nat → α → Option β} {r : β} (h : o = some a) (e : Ev (fun k => f k a) r) : Ev (fun k => o.bind (f k)) r := by
  subst h
  exact e
theorem ev_some {α β : Type} {a : α} {f : Nat → α → Option β} {r : β} (e : Ev (fun k => f k a) r) : Ev (fun k => (some a).bind (f k)) r := e
theorem ev_cast {α : Type} {g : Nat → Option α} {r r' : α} (h : Ev g r) (e : r = r') : Ev g r' := e ▸ h
theorem ev_loop {ρ : Type} (L : Nat → Nat → Option ρ) (res : Nat → ρ) (n : Nat) (he : Ev (fun k => L (k + 1) n) (res n))
    (hs : ∀ i, i < n → Ev (fun k => L k (i + 1)) (res (i + 1)) → Ev (fun k => L (k + 1) i) (res i)) : ∀ i, i ≤ n → Ev (fun k => L k i) (res i) := by
  have key : ∀ d i, i + d = n → Ev (fun k => L k i) (res i) := by
    intro d
    induction d with
    | zero =>
      intro i h
      obtain rfl : i = n := by omega
      exact ev_shift he
    | succ d ih =>
      intro i h
      exact ev_shift (hs i (by omega) (ih (i + 1) (by omega)))
  intro i h
  exact key (n - i) i (by omega)
theorem wrap_in {x : Int} (h0 : -9223372036854775808 ≤ x) (h1 : x ≤ 9223372036854775807) : wrap64 x = x := by
  unfold wrap64
  omega
theorem wrap_nat {i : Nat} (h : i < 9223372036854775807) : wrap64 ((i : Int) + 1) = ((i + 1 : Nat) : Int) := by
  unfold wrap64
  omega
theorem wrap_up {i : Int} (h0 : 0 ≤ i) (h : i < 9223372036854775807) : wrap64 (i + 1) = i + 1 := by
  unfold wrap64
  omega
theorem rd_nat (xs : List Int) (i : Nat) : rd xs (i : Int) = xs.getD i 0 := by simp [rd]
theorem rdOf_nat {α : Type} (d : α) (xs : List α) (i : Nat) : rdOf d xs (i : Int) = xs.getD i d := by simp [rdOf]
theorem bt_nat (s : ByteArray) (i : Nat) : bt s (i : Int) = (bytesOf s).getD i 0 := by rw [← rd_bytesOf, rd_nat]
theorem drop_cons {α : Type} (d : α) (l : List α) (i : Nat) (h : i < l.length) : l.drop i = l.getD i d :: l.drop (i + 1) := by
  rw [List.drop_eq_getElem_cons h]
  simp [List.getD, h]
theorem getD_mem {α : Type} (d : α) (l : List α) (i : Nat) (h : i < l.length) : l.getD i d ∈ l := by
  simp [List.getD, h]
theorem bytesOf_range (s : ByteArray) : ∀ x ∈ bytesOf s, 0 ≤ x ∧ x ≤ 255 := by
  intro x hx
  simp only [bytesOf, List.mem_map] at hx
  obtain ⟨b, _, rfl⟩ := hx
  have := b.toNat_lt
  omega
theorem bt_lo (s : ByteArray) (i : Int) : 0 ≤ bt s i := (bt_range s i).1
theorem bt_hi (s : ByteArray) (i : Int) : bt s i ≤ 255 := (bt_range s i).2
theorem drop_eq {α : Type} [DecidableEq α] (d : α) (a b : List α) (i : Nat) (ha : i < a.length) (hb : i < b.length) : (a.drop i = b.drop i) ↔ (a.getD i d = b.getD i d ∧ a.drop (i + 1) = b.drop (i + 1)) := by
  rw [drop_cons d a i ha, drop_cons d b i hb]
  simp
theorem mark_step {α : Type} (d : α) (g : Nat → α) (l : List α) (i : Nat) (h : i < l.length) : ((List.range i).map g ++ l.drop i).set i (g i) = (List.range (i + 1)).map g ++ l.drop (i + 1) := by
  have hlen : ((List.range i).map g).length = i := by simp
  rw [List.set_append_right _ _ (by omega), hlen, Nat.sub_self, drop_cons d l i h, List.set_cons_zero, List.range_succ, List.map_append, List.append_assoc]
  rfl
theorem range_getD {α : Type} (d : α) (g : Nat → α) (n i : Nat) (h : i < n) : ((List.range n).map g).getD i d = g i := by
  simp [List.getD, h]
theorem copy_step {α : Type} (d : α) (l : List α) (i : Nat) (h : i < l.length) : (l.take i ++ List.replicate (l.length - i) d).set i (l.getD i d) = l.take (i + 1) ++ List.replicate (l.length - (i + 1)) d := by
  have hlen : (l.take i).length = i := by simp; omega
  rw [List.set_append_right _ _ (by omega), hlen, Nat.sub_self]
  obtain ⟨m, hm⟩ : ∃ m, l.length - i = m + 1 := ⟨l.length - i - 1, by omega⟩
  rw [hm, List.replicate_succ, List.set_cons_zero, List.take_succ_eq_append_getElem h, List.append_assoc]
  have : l.length - (i + 1) = m := by omega
  rw [this]
  simp [List.getD, h]

theorem wraps_i64 (n : Int) (h0 : 0 ≤ n) (h1 : n < 2 ^ 63) : IntKind.i64.wrap n = n := by
  rw [IntKind.wrap_i64]
  omega
theorem and127 (x : Int) (h0 : 0 ≤ x) (h1 : x < 9223372036854775808) : Go.bits .and .i64 x 127 = x % 128 :=
  bits_mask .i64 63 (by decide) wraps_i64 7 (by decide) x h0 (by omega)
theorem and255 (x : Int) (h0 : 0 ≤ x) (h1 : x < 9223372036854775808) : Go.bits .and .i64 x 255 = x % 256 :=
  bits_mask .i64 63 (by decide) wraps_i64 8 (by decide) x h0 (by omega)
theorem or_comm64 (a b : Nat) (ha : a < 2 ^ 63) (hb : b < 2 ^ 63) : Go.bits .or .i64 (a : Int) (b : Int) = Go.bits .or .i64 (b : Int) (a : Int) := by
  rw [(bits_nat .i64 63 (by decide) wraps_i64 a b ha hb).2, (bits_nat .i64 63 (by decide) wraps_i64 b a hb ha).2, Nat.or_comm]
theorem or128 (y : Int) (h0 : 0 ≤ y) (h1 : y < 128) : Go.bits .or .i64 y 128 = y + 128 := by
  obtain ⟨b, rfl⟩ := Int.eq_ofNat_of_zero_le h0
  have e3 := bits_join .i64 63 (by decide) wraps_i64 7 128 (b : Int) (by decide) (by decide) (by decide) h0 (by omega) (by omega)
  have e4 : Go.bits .or .i64 (b : Int) ((128 : Nat) : Int) = Go.bits .or .i64 ((128 : Nat) : Int) (b : Int) := or_comm64 b 128 (by omega) (by omega)
  rw [Int.cast_ofNat_Int] at e4
  rw [e4, e3]
  omega

theorem decide_l1In (a lo hi : Int) : spec_l1In.f a lo hi = some (decide (lo ≤ a ∧ a ≤ hi)) := by
  unfold spec_l1In.f
  by_cases h : a ≥ lo
  · rw [if_pos h]
    congr 1
    rw [decide_eq_decide]
    omega
  · rw [if_neg h]
    congr 1
    symm
    rw [decide_eq_false_iff_not]
    omega

theorem decide_within (a lo hi : Int) : impl_within.f a lo hi = some (decide (lo ≤ a ∧ a ≤ hi)) := by
  unfold impl_within.f
  by_cases h : a ≥ lo
  · rw [if_pos h]
    congr 1
    rw [decide_eq_decide]
    omega
  · rw [if_neg h]
    congr 1
    symm
    rw [decide_eq_false_iff_not]
    omega

theorem toIntS_ev (l : List Int) (h : l.length ≤ 1099511627776) : Ev (fun k => laws_toIntS.f k l) l := by
  unfold laws_toIntS.f
  refine ev_pos (by omega) (ev_pos (by omega) ?_)
  have := ev_loop (fun k i => laws_toIntS.l0 k l (l.take i ++ List.replicate (l.length - i) 0) (i : Int)) (fun _ => l) l.length ?_ ?_ 0 (Nat.zero_le _)
  · simpa using this
  · simp only [laws_toIntS.l0]
    refine ev_neg (by omega) ?_
    simp only [List.take_length, Nat.sub_self, List.replicate_zero, List.append_nil]
    exact Ev.now _
  · intro i hi e
    simp only [laws_toIntS.l0]
    refine ev_pos (by omega) (ev_pos (by omega) (ev_pos (by simp; omega) ?_))
    rw [wrap_nat (by omega), rd_nat, Int.toNat_natCast, copy_step 0 l i hi]
    exact e

theorem eqIntS_ev (a b : List Int) (h : a.length ≤ 1099511627776) : Ev (fun k => laws_eqIntS.f k a b) (decide (a = b)) := by
  unfold laws_eqIntS.f
  by_cases hl : a.length = b.length
  · refine ev_pos (by omega) ?_
    have := ev_loop (fun k i => laws_eqIntS.l0 k a b (i : Int)) (fun i => decide (a.drop i = b.drop i)) a.length ?_ ?_ 0 (Nat.zero_le _)
    · exact this
    · simp only [laws_eqIntS.l0]
      refine ev_neg (by omega) ?_
      refine ev_cast (Ev.now _) ?_
      rw [List.drop_length, hl, List.drop_length]
      simp
    · intro i hi e
      simp only [laws_eqIntS.l0]
      refine ev_pos (by omega) (ev_pos (by omega) (ev_pos (by omega) ?_))
      rw [wrap_nat (by omega), rd_nat, rd_nat]
      by_cases hc : a.getD i 0 = b.getD i 0
      · refine ev_pos hc (ev_cast e ?_)
        rw [decide_eq_decide, drop_eq 0 a b i hi (by omega)]
        exact ⟨fun z => ⟨hc, z⟩, fun z => z.2⟩
      · refine ev_neg hc (ev_cast (Ev.now _) ?_)
        symm
        rw [decide_eq_false_iff_not, drop_eq 0 a b i hi (by omega)]
        exact fun z => hc z.1
  · refine ev_neg (by omega) (ev_cast (Ev.now _) ?_)
    symm
    rw [decide_eq_false_iff_not]
    exact fun z => hl (by rw [z])

def putNat (n : Nat) : List Int := if h : n < 128 then [(n : Int)] else ((n % 128 + 128 : Nat) : Int) :: putNat (n / 128)
termination_by n
decreasing_by omega
theorem putNat_small {n : Nat} (h : n < 128) : putNat n = [(n : Int)] := by rw [putNat, dif_pos h]
theorem putNat_big {n : Nat} (h : ¬ n < 128) : putNat n = ((n % 128 + 128 : Nat) : Int) :: putNat (n / 128) := by rw [putNat, dif_neg h]
def putNum (n : Int) : List Int := if 0 ≤ n ∧ n ≤ 2147483647 then putNat n.toNat else []
theorem putNat_length (n : Nat) : (putNat n).length ≤ n + 1 ∧ 1 ≤ (putNat n).length := by
  induction n using Nat.strongRecOn with
  | _ n ih =>
    by_cases h : n < 128
    · rw [putNat_small h]
      simp
    · rw [putNat_big h]
      have := ih (n / 128) (by omega)
      simp only [List.length_cons]
      omega
theorem putNat_range (n : Nat) : ∀ x ∈ putNat n, 0 ≤ x ∧ x ≤ 255 := by
  induction n using Nat.strongRecOn with
  | _ n ih =>
    by_cases h : n < 128
    · rw [putNat_small h]
      simp
      omega
    · rw [putNat_big h]
      intro x hx
      rw [List.mem_cons] at hx
      rcases hx with rfl | hx
      · omega
      · exact ih (n / 128) (by omega) x hx
theorem putNat_len5 (n : Nat) (h : n ≤ 2147483647) : (putNat n).length ≤ 5 := by
  have step : ∀ m j, m < 128 ^ (j + 1) → (putNat m).length ≤ j + 1 := by
    intro m j
    induction j generalizing m with
    | zero =>
      intro hm
      rw [putNat_small (by omega)]
      simp
    | succ j ih =>
      intro hm
      by_cases h : m < 128
      · rw [putNat_small h]
        simp
      · rw [putNat_big h]
        have : m / 128 < 128 ^ (j + 1) := by
          rw [Nat.div_lt_iff_lt_mul (by omega)]
          rw [Nat.pow_succ] at hm
          exact hm
        have := ih (m / 128) this
        simp only [List.length_cons]
        omega
  exact step n 4 (by omega)
theorem putNum_length (n : Int) : (putNum n).length ≤ 5 := by
  unfold putNum
  split
  · exact putNat_len5 _ (by omega)
  · simp

theorem spec_putNum_l (n : Nat) : ∀ acc : List Int, n ≤ 2147483647 → acc.length + n ≤ 100000000000 → Ev (fun k => spec_PutNum.l0 k (n : Int) acc) (acc ++ putNat n) := by
  induction n using Nat.strongRecOn with
  | _ n ih =>
    intro acc hn ha
    apply ev_shift
    simp only [spec_PutNum.l0]
    by_cases h : n < 128
    · refine ev_neg (by omega) (ev_pos (by omega) ?_)
      refine ev_cast (Ev.now _) ?_
      rw [putNat_small h, Int.emod_eq_of_lt (by omega) (by omega)]
    · refine ev_pos (by omega) (ev_pos (by omega) ?_)
      have e1 : wrap64 (Int.tdiv (n : Int) 128) = ((n / 128 : Nat) : Int) := by
        rw [Int.tdiv_eq_ediv_of_nonneg (by omega), wrap_in (by omega) (by omega)]
        omega
      have e2 : wrap64 (Int.tmod (n : Int) 128 + 128) % 256 = ((n % 128 + 128 : Nat) : Int) := by
        rw [Int.tmod_eq_emod_of_nonneg (by omega), wrap_in (by omega) (by omega)]
        omega
      rw [e1, e2]
      refine ev_cast (ih (n / 128) (by omega) _ (by omega) (by simp; omega)) ?_
      rw [putNat_big h, List.append_assoc]
      rfl
theorem spec_PutNum_ev (n : Int) : Ev (fun k => spec_PutNum.f k n) (putNum n) := by
  unfold spec_PutNum.f
  refine ev_some ?_
  by_cases h : 0 ≤ n ∧ n ≤ 2147483647
  · refine ev_eq (a := true) (by unfold spec_l1In.f; rw [if_pos (by omega)]; simp; omega) (ev_pos rfl ?_)
    obtain ⟨m, rfl⟩ := Int.eq_ofNat_of_zero_le h.1
    refine ev_cast (spec_putNum_l m [] (by omega) (by simp; omega)) ?_
    rw [putNum, if_pos h]
    simp
  · refine ev_eq (a := false) (by unfold spec_l1In.f; split <;> simp <;> omega) (ev_neg (by simp) ?_)
    rw [putNum, if_neg h]
    exact Ev.now _

theorem impl_putNum_l (n : Nat) : ∀ acc : List Int, n ≤ 2147483647 → acc.length + n ≤ 100000000000 → Ev (fun k => impl_PutNum.l0 k (n : Int) acc) (acc ++ putNat n) := by
  induction n using Nat.strongRecOn with
  | _ n ih =>
    intro acc hn ha
    apply ev_shift
    simp only [impl_PutNum.l0]
    by_cases h : n < 128
    · refine ev_neg (by omega) (ev_pos (by omega) ?_)
      refine ev_cast (Ev.now _) ?_
      rw [putNat_small h, Int.emod_eq_of_lt (by omega) (by omega)]
    · refine ev_pos (by omega) (ev_pos (by omega) ?_)
      have e1 : (n : Int) / 128 = ((n / 128 : Nat) : Int) := by omega
      have e2 : (Go.bits .or .i64 (Go.bits .and .i64 (n : Int) 127) 128) % 256 = ((n % 128 + 128 : Nat) : Int) := by
        rw [and127 _ (by omega) (by omega), or128 _ (by omega) (by omega)]
        omega
      rw [e1, e2]
      refine ev_cast (ih (n / 128) (by omega) _ (by omega) (by simp; omega)) ?_
      rw [putNat_big h, List.append_assoc]
      rfl
theorem impl_PutNum_ev (n : Int) : Ev (fun k => impl_PutNum.f k n) (putNum n) := by
  unfold impl_PutNum.f
  by_cases h : 0 ≤ n ∧ n ≤ 2147483647
  · refine ev_eq (a := true) (by unfold impl_within.f; rw [if_pos (by omega)]; simp; omega) (ev_pos rfl ?_)
    obtain ⟨m, rfl⟩ := Int.eq_ofNat_of_zero_le h.1
    refine ev_cast (impl_putNum_l m [] (by omega) (by simp; omega)) ?_
    rw [putNum, if_pos h]
    simp
  · refine ev_eq (a := false) (by unfold impl_within.f; split <;> simp <;> omega) (ev_neg (by simp) ?_)
    rw [putNum, if_neg h]
    exact Ev.now _

def bfOf (a : Int) : Int := if a ≤ 0 then 0 else if a > 80 then 5 else wrap64 (Int.tdiv (wrap64 (wrap64 (a + 16) - 1)) 16)
def blGo : List Int → List Int → Bool
  | _, [] => true
  | pre, b :: r => decide (0 ≤ b ∧ b ≤ 35) && (!decide (b ∈ pre) && blGo (pre ++ [b]) r)
def nodeOk (f0 f1 f2 f3 : Int) (bl : List Int) : Bool :=
  if f0 = 0 then decide (f1 = 0) && (decide (f2 = 0) && (decide (f3 = 0) && decide (bl.length = 0)))
  else decide (1 ≤ f0 ∧ f0 ≤ 3) && (decide (0 ≤ f1 ∧ f1 ≤ 1000000) && (decide (0 ≤ f2 ∧ f2 ≤ 100000) && (decide (0 ≤ f3 ∧ f3 ≤ 80) && (decide ((bl.length : Int) = bfOf f3) && (!decide (f0 = 2 ∧ ¬ (f1 = 0 ∧ f2 = 0)) && blGo [] bl)))))
theorem take_snoc {α : Type} (d : α) (l : List α) (i : Nat) (h : i < l.length) : l.take (i + 1) = l.take i ++ [l.getD i d] := by
  rw [List.take_succ_eq_append_getElem h]
  simp [List.getD, h]

theorem spec_bf (a : Int) : spec_BlocksFor.f a = some (bfOf a) := by
  unfold spec_BlocksFor.f bfOf
  by_cases h0 : a ≤ 0
  · rw [if_pos h0, if_pos h0]
  · rw [if_neg h0, if_neg h0]
    by_cases h1 : a > 80
    · rw [if_pos h1, if_pos (show a ≥ 80 by omega)]
    · rw [if_neg h1]
      by_cases h2 : a = 80
      · subst h2
        rw [if_pos (by omega), wrap_in (x := 80 + 16) (by omega) (by omega), wrap_in (x := 80 + 16 - 1) (by omega) (by omega), wrap_in (by decide) (by decide)]
        rfl
      · rw [if_neg (show ¬ a ≥ 80 by omega)]
theorem spec_has (l : List Int) (b : Int) (h : l.length ≤ 1099511627776) : Ev (fun k => spec_l1Has.f k l b) (decide (b ∈ l)) := by
  unfold spec_l1Has.f
  have := ev_loop (fun k i => spec_l1Has.l0 k l b (i : Int)) (fun i => decide (b ∈ l.drop i)) l.length ?_ ?_ 0 (Nat.zero_le _)
  · simpa using this
  · simp only [spec_l1Has.l0]
    refine ev_neg (by omega) (ev_cast (Ev.now _) ?_)
    simp
  · intro i hi e
    simp only [spec_l1Has.l0]
    refine ev_pos (by omega) (ev_pos (by omega) ?_)
    rw [wrap_nat (by omega), rd_nat, drop_cons 0 l i hi]
    by_cases hc : l.getD i 0 = b
    · refine ev_pos hc (ev_cast (Ev.now _) ?_)
      rw [hc]
      simp
    · refine ev_neg hc (ev_cast e ?_)
      rw [decide_eq_decide, List.mem_cons]
      exact ⟨fun z => .inr z, fun z => z.resolve_left (fun e => hc e.symm)⟩
theorem spec_NodeOk_l (f0 f1 f2 f3 : Int) (bl : List Int) (h : bl.length ≤ 1099511627776) : Ev (fun k => spec_NodeOk.l0 k 0 f0 f1 f2 f3 bl) (blGo [] bl) := by
  have := ev_loop (fun k i => spec_NodeOk.l0 k (i : Int) f0 f1 f2 f3 bl) (fun i => blGo (bl.take i) (bl.drop i)) bl.length ?_ ?_ 0 (Nat.zero_le _)
  · simpa using this
  · simp only [spec_NodeOk.l0]
    refine ev_neg (by omega) (ev_cast (Ev.now _) ?_)
    rw [List.drop_length]
    rfl
  · intro i hi e
    simp only [spec_NodeOk.l0]
    refine ev_pos (by omega) (ev_pos (by omega) ?_)
    rw [wrap_nat (by omega), rd_nat, Int.toNat_natCast, drop_cons 0 bl i hi, blGo]
    refine ev_eq (decide_l1In _ _ _) ?_
    by_cases c : 0 ≤ bl.getD i 0 ∧ bl.getD i 0 ≤ 35
    · rw [decide_eq_true c]
      refine ev_pos rfl (ev_pos (by omega) (Ev.bind (spec_has _ _ (by rw [List.length_take]; omega)) ?_))
      by_cases c2 : bl.getD i 0 ∈ bl.take i
      · rw [decide_eq_true c2]
        exact ev_pos rfl (ev_cast (Ev.now _) (by simp))
      · rw [decide_eq_false c2]
        refine ev_neg (by simp) (ev_cast e ?_)
        rw [take_snoc 0 bl i hi]
        simp
    · rw [decide_eq_false c]
      exact ev_neg (by simp) (ev_cast (Ev.now _) (by simp))
theorem spec_NodeOk_j1 (b : Bool) (f0 f1 f2 f3 : Int) (bl : List Int) (h : bl.length ≤ 1099511627776) : Ev (fun k => spec_NodeOk.j1 k b f0 f1 f2 f3 bl) (!b && blGo [] bl) := by
  refine ev_shift ?_
  simp only [spec_NodeOk.j1]
  cases b
  · exact ev_neg (by simp) (ev_cast (spec_NodeOk_l f0 f1 f2 f3 bl h) (by simp))
  · exact ev_pos rfl (ev_cast (Ev.now _) (by simp))
theorem spec_NodeOk_j0 (b : Bool) (f0 f1 f2 f3 : Int) (bl : List Int) (h : bl.length ≤ 1099511627776) : Ev (fun k => spec_NodeOk.j0 k b f0 f1 f2 f3 bl) (!b && (!decide (f0 = 2 ∧ ¬ (f1 = 0 ∧ f2 = 0)) && blGo [] bl)) := by
  refine ev_shift ?_
  simp only [spec_NodeOk.j0]
  cases b
  · refine ev_neg (by simp) ?_
    by_cases c : f0 = 2
    · refine ev_pos c ?_
      by_cases c1 : f1 = 0
      · refine ev_pos c1 (ev_cast (spec_NodeOk_j1 _ f0 f1 f2 f3 bl h) ?_)
        by_cases c2 : f2 = 0 <;> simp [c, c1, c2]
      · refine ev_neg c1 (ev_cast (spec_NodeOk_j1 _ f0 f1 f2 f3 bl h) ?_)
        simp [c, c1]
    · refine ev_neg c (ev_cast (spec_NodeOk_j1 _ f0 f1 f2 f3 bl h) ?_)
      simp [c]
  · exact ev_pos rfl (ev_cast (Ev.now _) (by simp))
theorem spec_NodeOk_ev (f0 f1 f2 f3 : Int) (bl : List Int) (h : bl.length ≤ 1099511627776) : Ev (fun k => spec_NodeOk.f k f0 f1 f2 f3 bl) (nodeOk f0 f1 f2 f3 bl) := by
  have hj := spec_NodeOk_j0 true f0 f1 f2 f3 bl h
  unfold spec_NodeOk.f nodeOk
  by_cases c0 : f0 = 0
  · rw [if_pos c0]
    refine ev_pos c0 ?_
    by_cases c1 : f1 = 0
    · refine ev_pos c1 ?_
      by_cases c2 : f2 = 0
      · refine ev_pos c2 ?_
        by_cases c3 : f3 = 0
        · refine ev_pos c3 (ev_cast (Ev.now _) ?_)
          rw [decide_eq_true c1, decide_eq_true c2, decide_eq_true c3]
          cases bl <;> simp <;> omega
        · exact ev_neg c3 (ev_cast (Ev.now _) (by simp [c3]))
      · exact ev_neg c2 (ev_cast (Ev.now _) (by simp [c2]))
    · exact ev_neg c1 (ev_cast (Ev.now _) (by simp [c1]))
  · rw [if_neg c0]
    refine ev_neg c0 (ev_eq (decide_l1In _ _ _) ?_)
    by_cases c1 : 1 ≤ f0 ∧ f0 ≤ 3
    · rw [decide_eq_true c1]
      refine ev_pos rfl (ev_eq (decide_l1In _ _ _) ?_)
      by_cases c2 : 0 ≤ f1 ∧ f1 ≤ 1000000
      · rw [decide_eq_true c2]
        refine ev_pos rfl (ev_eq (decide_l1In _ _ _) ?_)
        by_cases c3 : 0 ≤ f2 ∧ f2 ≤ 100000
        · rw [decide_eq_true c3]
          refine ev_pos rfl (ev_eq (decide_l1In _ _ _) ?_)
          by_cases c4 : 0 ≤ f3 ∧ f3 ≤ 80
          · rw [decide_eq_true c4]
            refine ev_pos rfl (ev_eq (spec_bf _) (ev_cast (spec_NodeOk_j0 _ f0 f1 f2 f3 bl h) ?_))
            by_cases c5 : (bl.length : Int) = bfOf f3 <;> simp [c5]
          · rw [decide_eq_false c4]
            exact ev_neg (by simp) (ev_cast hj (by simp))
        · rw [decide_eq_false c3]
          exact ev_neg (by simp) (ev_cast hj (by simp))
      · rw [decide_eq_false c2]
        exact ev_neg (by simp) (ev_cast hj (by simp))
    · rw [decide_eq_false c1]
      exact ev_neg (by simp) (ev_cast hj (by simp))

theorem index_int (l : List Int) (b : Int) (h : l.length ≤ 1099511627776) : ∃ r : Int, Ev (fun k => slices_Index_int_int.f k l b) r ∧ (r ≥ 0 ↔ b ∈ l) := by
  unfold slices_Index_int_int.f
  have key : ∀ (d i : Nat), i + d = l.length → ∃ r : Int, Ev (fun k => slices_Index_int_int.l0 k l b (l.length : Int) (i : Int)) r ∧ (r ≥ 0 ↔ b ∈ l.drop i) := by
    intro d
    induction d with
    | zero =>
      intro i hi
      refine ⟨-1, ev_shift ?_, ?_⟩
      · simp only [slices_Index_int_int.l0]
        exact ev_neg (by omega) (Ev.now _)
      · rw [List.drop_eq_nil_of_le (by omega)]
        simp
    | succ d ih =>
      intro i hi
      by_cases hc : b = l.getD i 0
      · refine ⟨i, ev_shift ?_, ?_⟩
        · simp only [slices_Index_int_int.l0]
          refine ev_pos (by omega) (ev_pos (by omega) (ev_pos (by omega) ?_))
          rw [rd_nat]
          exact ev_pos hc (Ev.now _)
        · rw [drop_cons 0 l i (by omega), ← hc]
          simp
      · obtain ⟨r, e, hr⟩ := ih (i + 1) (by omega)
        refine ⟨r, ev_shift ?_, ?_⟩
        · simp only [slices_Index_int_int.l0]
          refine ev_pos (by omega) (ev_pos (by omega) (ev_pos (by omega) ?_))
          rw [rd_nat, wrap_nat (by omega)]
          exact ev_neg hc e
        · rw [hr, drop_cons 0 l i (by omega), List.mem_cons]
          exact ⟨fun z => .inr z, fun z => z.resolve_left hc⟩
  obtain ⟨r, e, hr⟩ := key l.length 0 (by omega)
  exact ⟨r, e, hr⟩
theorem contains_int (l : List Int) (b : Int) (h : l.length ≤ 1099511627776) : Ev (fun k => slices_Contains_int_int.f k l b) (decide (b ∈ l)) := by
  unfold slices_Contains_int_int.f
  obtain ⟨r, e, hr⟩ := index_int l b h
  refine Ev.bind e (ev_cast (Ev.now _) ?_)
  rw [decide_eq_decide]
  exact hr

theorem impl_bf (a : Int) : impl_BlocksFor.f a = some (bfOf a) := by
  unfold impl_BlocksFor.f bfOf
  by_cases h0 : a ≤ 0
  · rw [if_pos h0, if_pos h0]
  · rw [if_neg h0, if_neg h0]
    by_cases h1 : a > 80
    · rw [if_pos h1, if_pos h1]
    · rw [if_neg h1, if_neg h1]
theorem impl_NodeOk_l (f0 f1 f2 f3 : Int) (bl : List Int) (h : bl.length ≤ 1099511627776) : Ev (fun k => impl_NodeOk.l0 k bl (bl.length : Int) 0 f0 f1 f2 f3 bl) (blGo [] bl) := by
  have := ev_loop (fun k i => impl_NodeOk.l0 k bl (bl.length : Int) (i : Int) f0 f1 f2 f3 bl) (fun i => blGo (bl.take i) (bl.drop i)) bl.length ?_ ?_ 0 (Nat.zero_le _)
  · simpa using this
  · simp only [impl_NodeOk.l0]
    refine ev_neg (by omega) (ev_cast (Ev.now _) ?_)
    rw [List.drop_length]
    rfl
  · intro i hi e
    simp only [impl_NodeOk.l0]
    refine ev_pos (by omega) (ev_pos (by omega) (ev_pos (by omega) ?_))
    rw [wrap_nat (by omega), rd_nat, Int.toNat_natCast, drop_cons 0 bl i hi, blGo]
    refine ev_eq (decide_within _ _ _) ?_
    by_cases c : 0 ≤ bl.getD i 0 ∧ bl.getD i 0 ≤ 35
    · rw [decide_eq_true c]
      refine ev_pos rfl (ev_pos (by omega) (Ev.bind (contains_int _ _ (by rw [List.length_take]; omega)) ?_))
      by_cases c2 : bl.getD i 0 ∈ bl.take i
      · rw [decide_eq_true c2]
        exact ev_pos rfl (ev_cast (Ev.now _) (by simp))
      · rw [decide_eq_false c2]
        refine ev_neg (by simp) (ev_cast e ?_)
        rw [take_snoc 0 bl i hi]
        simp
    · rw [decide_eq_false c]
      exact ev_neg (by simp) (ev_cast (Ev.now _) (by simp))
theorem impl_NodeOk_j1 (b : Bool) (f0 f1 f2 f3 : Int) (bl : List Int) (h : bl.length ≤ 1099511627776) : Ev (fun k => impl_NodeOk.j1 k b f0 f1 f2 f3 bl) (!b && blGo [] bl) := by
  refine ev_shift ?_
  simp only [impl_NodeOk.j1]
  cases b
  · exact ev_neg (by simp) (ev_cast (impl_NodeOk_l f0 f1 f2 f3 bl h) (by simp))
  · exact ev_pos rfl (ev_cast (Ev.now _) (by simp))
theorem impl_NodeOk_j0 (b : Bool) (f0 f1 f2 f3 : Int) (bl : List Int) (h : bl.length ≤ 1099511627776) : Ev (fun k => impl_NodeOk.j0 k b f0 f1 f2 f3 bl) (!b && (decide ((bl.length : Int) = bfOf f3) && (!decide (f0 = 2 ∧ ¬ (f1 = 0 ∧ f2 = 0)) && blGo [] bl))) := by
  have hf : (!((bl.length : Int) != bfOf f3)) = decide ((bl.length : Int) = bfOf f3) := by
    by_cases c5 : (bl.length : Int) = bfOf f3 <;> simp [c5]
  refine ev_shift ?_
  simp only [impl_NodeOk.j0]
  cases b
  · refine ev_neg (by simp) ?_
    by_cases c : f0 = 2
    · refine ev_pos c ?_
      by_cases c1 : f1 = 0
      · refine ev_pos c1 ?_
        by_cases c2 : f2 = 0
        · refine ev_pos c2 (ev_eq (impl_bf _) (ev_cast (impl_NodeOk_j1 _ f0 f1 f2 f3 bl h) ?_))
          rw [hf]
          simp [c1, c2]
        · refine ev_neg c2 (ev_cast (impl_NodeOk_j1 _ f0 f1 f2 f3 bl h) ?_)
          simp [c, c1, c2]
      · refine ev_neg c1 (ev_cast (impl_NodeOk_j1 _ f0 f1 f2 f3 bl h) ?_)
        simp [c, c1]
    · refine ev_neg c (ev_eq (impl_bf _) (ev_cast (impl_NodeOk_j1 _ f0 f1 f2 f3 bl h) ?_))
      rw [hf]
      simp [c]
  · exact ev_pos rfl (ev_cast (Ev.now _) (by simp))
theorem impl_NodeOk_ev (f0 f1 f2 f3 : Int) (bl : List Int) (h : bl.length ≤ 1099511627776) : Ev (fun k => impl_NodeOk.f k f0 f1 f2 f3 bl) (nodeOk f0 f1 f2 f3 bl) := by
  have hj := impl_NodeOk_j0 true f0 f1 f2 f3 bl h
  unfold impl_NodeOk.f nodeOk
  by_cases c0 : f0 = 0
  · rw [if_pos c0]
    refine ev_pos c0 ?_
    by_cases c1 : f1 = 0
    · refine ev_pos c1 ?_
      by_cases c2 : f2 = 0
      · refine ev_pos c2 ?_
        by_cases c3 : f3 = 0
        · refine ev_pos c3 (ev_cast (Ev.now _) ?_)
          rw [decide_eq_true c1, decide_eq_true c2, decide_eq_true c3]
          cases bl <;> simp <;> omega
        · exact ev_neg c3 (ev_cast (Ev.now _) (by simp [c3]))
      · exact ev_neg c2 (ev_cast (Ev.now _) (by simp [c2]))
    · exact ev_neg c1 (ev_cast (Ev.now _) (by simp [c1]))
  · rw [if_neg c0]
    refine ev_neg c0 (ev_eq (decide_within _ _ _) ?_)
    by_cases c1 : 1 ≤ f0 ∧ f0 ≤ 3
    · rw [decide_eq_true c1]
      refine ev_pos rfl (ev_eq (decide_within _ _ _) ?_)
      by_cases c2 : 0 ≤ f1 ∧ f1 ≤ 1000000
      · rw [decide_eq_true c2]
        refine ev_pos rfl (ev_eq (decide_within _ _ _) ?_)
        by_cases c3 : 0 ≤ f2 ∧ f2 ≤ 100000
        · rw [decide_eq_true c3]
          refine ev_pos rfl (ev_eq (decide_within _ _ _) ?_)
          refine ev_cast (impl_NodeOk_j0 _ f0 f1 f2 f3 bl h) ?_
          rw [Bool.not_not]
          simp only [Bool.true_and]
        · rw [decide_eq_false c3]
          exact ev_neg (by simp) (ev_cast hj (by simp))
      · rw [decide_eq_false c2]
        exact ev_neg (by simp) (ev_cast hj (by simp))
    · rw [decide_eq_false c1]
      exact ev_neg (by simp) (ev_cast hj (by simp))

theorem szNode_eq (f0 f1 f2 f3 : Int) (bl : List Int) (m : Int) (h0 : 0 ≤ m) (h1 : m ≤ 1048576) (hl : bl.length ≤ maxLen) : laws_szNode.f f0 f1 f2 f3 bl m = some (if m - (bl.length : Int) < 0 then -1 else m - (bl.length : Int)) := by
  have hl' : bl.length ≤ 9223372036854775807 := hl
  unfold laws_szNode.f laws_szIntS.f
  rw [wrap_in (by omega) (by omega)]
  by_cases c : m - (bl.length : Int) < 0
  · rw [if_pos c, if_pos c]
    rfl
  · rw [if_neg c, if_neg c]
    simp only [Option.bind_some]
    rw [if_neg c]
theorem toNode_ev (f0 f1 f2 f3 : Int) (bl : List Int) (h : bl.length ≤ 1048576) : Ev (fun k => laws_toNode.f k f0 f1 f2 f3 bl) (f0, f1, f2, f3, bl) := by
  unfold laws_toNode.f
  exact Ev.bind (toIntS_ev bl (by omega)) (Ev.now _)

theorem eqNode_refl (f0 f1 f2 f3 : Int) (bl : List Int) (h : bl.length ≤ 1048576) : Ev (fun k => laws_eqNode.f k f0 f1 f2 f3 bl f0 f1 f2 f3 bl) true := by
  unfold laws_eqNode.f
  refine ev_pos rfl (ev_pos rfl (ev_pos rfl (ev_pos rfl (Ev.bind (eqIntS_ev bl bl (by omega)) (ev_pos (by simp) (Ev.now _))))))

theorem flat_snoc {α : Type} (d : α) (f : α → List Int) (l : List α) (i : Nat) (h : i < l.length) : (l.take (i + 1)).flatMap f = (l.take i).flatMap f ++ f (l.getD i d) := by
  rw [List.take_succ_eq_append_getElem h, List.flatMap_append]
  simp [List.getD, h]
theorem flat_len {α : Type} (f : α → List Int) (m : Nat) (l : List α) (h : ∀ x ∈ l, (f x).length ≤ m) : (l.flatMap f).length ≤ m * l.length := by
  induction l with
  | nil => simp
  | cons x l ih =>
    have h1 := h x (by simp)
    have h2 := ih (fun y hy => h y (List.mem_cons_of_mem _ hy))
    rw [List.flatMap_cons, List.length_append, List.length_cons, Nat.mul_add]
    omega
theorem ats_len (l : List Int) (i : Nat) (hi : l.length ≤ 1048579) : ((l.take i).flatMap putNum).length ≤ 5242895 := by
  have := flat_len putNum 5 (l.take i) (fun x _ => putNum_length x)
  rw [List.length_take] at this
  omega

def nodeNums (f0 f1 f2 f3 : Int) (bl : List Int) : List Int := [f0 % 256] ++ ([f1, f2, f3] ++ bl).flatMap putNum
def nodeText (f0 f1 f2 f3 : Int) (bl : List Int) : ByteArray := if nodeOk f0 f1 f2 f3 bl = true then (if f0 = 0 then strOfNums [f0 % 256] else strOfNums (nodeNums f0 f1 f2 f3 bl)) else (⟨#[]⟩ : ByteArray)

theorem spec_NodeText_ev (f0 f1 f2 f3 : Int) (bl : List Int) (h : bl.length ≤ 1048576) : Ev (fun k => spec_NodeText.f k f0 f1 f2 f3 bl) (nodeText f0 f1 f2 f3 bl) := by
  unfold spec_NodeText.f nodeText
  refine Ev.bind (spec_NodeOk_ev f0 f1 f2 f3 bl (by omega)) ?_
  cases nodeOk f0 f1 f2 f3 bl
  · exact ev_neg (by simp) (ev_cast (Ev.now _) (by simp))
  · refine ev_pos rfl (ev_some ?_)
    rw [if_pos rfl]
    by_cases c : f0 = 0
    · rw [if_pos c]
      exact ev_pos c (Ev.now _)
    · rw [if_neg c]
      have h1 := putNum_length f1
      have h2 := putNum_length f2
      have h3 := putNum_length f3
      refine ev_neg c (Ev.bind (spec_PutNum_ev _) (ev_pos ?_ (ev_some (Ev.bind (spec_PutNum_ev _) (ev_pos ?_ (ev_some (Ev.bind (spec_PutNum_ev _) (ev_pos ?_ ?_))))))))
      · rw [List.length_singleton]
        omega
      · rw [List.length_append, List.length_singleton]
        omega
      · rw [List.length_append, List.length_append, List.length_singleton]
        omega
      · have := ev_loop (fun k i => spec_NodeText.l0 k ([f0 % 256] ++ putNum f1 ++ putNum f2 ++ putNum f3 ++ (bl.take i).flatMap putNum) (i : Int) f0 f1 f2 f3 bl) (fun _ => strOfNums (nodeNums f0 f1 f2 f3 bl)) bl.length ?_ ?_ 0 (Nat.zero_le _)
        · simpa using this
        · simp only [spec_NodeText.l0]
          refine ev_neg (by omega) (ev_cast (Ev.now _) ?_)
          rw [List.take_length]
          unfold nodeNums
          simp
        · intro i hi e
          have hz := ats_len bl i (by omega)
          have hq := putNum_length (bl.getD i 0)
          simp only [spec_NodeText.l0]
          refine ev_pos (by omega) (ev_pos (by omega) (Ev.bind (spec_PutNum_ev _) (ev_pos ?_ ?_)))
          · rw [rd_nat, List.length_append, List.length_append, List.length_append, List.length_append, List.length_singleton]
            omega
          · rw [wrap_nat (by omega), rd_nat, List.append_assoc ([f0 % 256] ++ putNum f1 ++ putNum f2 ++ putNum f3), ← flat_snoc 0 putNum bl i hi]
            exact e

theorem impl_NodeText_ev (f0 f1 f2 f3 : Int) (bl : List Int) (h : bl.length ≤ 1048576) : Ev (fun k => impl_NodeText.f k f0 f1 f2 f3 bl) (nodeText f0 f1 f2 f3 bl) := by
  unfold impl_NodeText.f nodeText
  refine Ev.bind (impl_NodeOk_ev f0 f1 f2 f3 bl (by omega)) ?_
  cases nodeOk f0 f1 f2 f3 bl
  · exact ev_neg (by simp) (ev_cast (Ev.now _) (by simp))
  · refine ev_pos rfl (ev_some ?_)
    rw [if_pos rfl]
    by_cases c : f0 = 0
    · rw [if_pos c]
      exact ev_pos c (Ev.now _)
    · rw [if_neg c]
      refine ev_neg c (ev_some (ev_pos (by simp only [List.length_cons, List.length_nil]; omega) (ev_some ?_)))
      unfold nodeNums
      have hl : ([f1, f2, f3] ++ bl).length ≤ 1048579 := by
        rw [List.length_append]
        simp only [List.length_cons, List.length_nil]
        omega
      generalize [f1, f2, f3] ++ bl = xs at *
      have := ev_loop (fun k i => impl_NodeText.l0 k ([f0 % 256] ++ (xs.take i).flatMap putNum) xs (xs.length : Int) (i : Int)) (fun _ => strOfNums ([f0 % 256] ++ xs.flatMap putNum)) xs.length ?_ ?_ 0 (Nat.zero_le _)
      · simpa using this
      · simp only [impl_NodeText.l0]
        refine ev_neg (by omega) (ev_cast (Ev.now _) ?_)
        rw [List.take_length]
      · intro i hi e
        have hz := ats_len xs i hl
        have hq := putNum_length (xs.getD i 0)
        simp only [impl_NodeText.l0]
        refine ev_pos (by omega) (ev_pos (by omega) (ev_pos (by omega) (Ev.bind (impl_PutNum_ev _) (ev_pos ?_ ?_))))
        · rw [rd_nat, List.length_append, List.length_singleton]
          omega
        · rw [wrap_nat (by omega), rd_nat, List.append_assoc [f0 % 256], ← flat_snoc 0 putNum xs i hi]
          exact e

theorem FnExactNodeText : laws_FnExactNodeText.Pure := by
  intro f0 f1 f2 f3 bl _ _ _ _ hg
  obtain ⟨hl, _⟩ := hg
  apply Ev.rounds (g := fun k => laws_FnExactNodeText.f k f0 f1 f2 f3 bl)
  unfold laws_FnExactNodeText.f
  refine ev_eq (szNode_eq f0 f1 f2 f3 bl 1048576 (by omega) (by omega) hl) ?_
  by_cases c : (1048576 : Int) - (bl.length : Int) < 0
  · rw [if_pos c]
    exact ev_pos (by omega) (Ev.now _)
  · rw [if_neg c]
    have hb : bl.length ≤ 1048576 := by omega
    have ht := toNode_ev f0 f1 f2 f3 bl hb
    refine ev_neg (by omega) (Ev.bind ht (Ev.bind (spec_NodeText_ev f0 f1 f2 f3 bl hb) (Ev.bind ht (Ev.bind (impl_NodeText_ev f0 f1 f2 f3 bl hb) (ev_pos rfl (Ev.bind ht (Ev.bind (eqNode_refl f0 f1 f2 f3 bl hb) (ev_pos rfl (Ev.now _)))))))))

end Go.Proofs.Ytlhlffgeimfcfaa.Pure
