/- FnExactPutText: the law's function of the print answers true for every input within the row's bounds. Conditions: none but the bounds that the row itself gives. -/
import Derived.Test.YtebfpnaofbpbjaaPFnExactPutTextx2
import Derived.OpenShut
import Derived.Laws.BitsLemmas
namespace Go.Proofs.Ytebfpnaofbpbjaa.Pure
open Go Go.RowKit Go.Proofs.Ytebfpnaofbpbjaa.PFnExactPutText Go.Proofs.YtebfpnaofbpbjaaW.PrintWords Go.Proofs.YtebfpnaofbpbjaaW.PrintLast Go.Proofs.YtebfpnaofbpbjaaW.PrintMore Go.Proofs.YtebfpnaofbpbjaaW.PrintMore
set_option linter.unusedVariables false
set_option linter.unusedSimpArgs false

theorem ev_shift {α : Type} {g : Nat → Option α} {r : α} (h : Ev (fun k => g (k + 1)) r) : Ev g r := Ev.step (f := fun k => g (k + 1)) (fun _ => rfl) h
theorem ev_unshift {α : Type} {g : Nat → Option α} {r : α} (h : Ev g r) : Ev (fun k => g (k + 1)) r := by
  obtain ⟨K, h⟩ := h
  exact ⟨K, fun k hk => h (k + 1) (by omega)⟩
theorem ev_pos {α : Type} {c : Prop} [Decidable c] {f g : Nat → Option α} {r : α} (h : c) (e : Ev f r) : Ev (fun k => if c then f k else g k) r := by
  simpa only [if_pos h] using e
theorem ev_neg {α : Type} {c : Prop} [Decidable c] {f g : Nat → Option α} {r : α} (h : ¬ c) (e : Ev g r) : Ev (fun k => if c then f k else g k) r := by
  simpa only [if_neg h] using e
theorem ev_eq {α β : Type} {o : Option α} {a : α} {f : Nat → α → Option β} {r : β} (h : o = some a) (e : Ev (fun k => f k a) r) : Ev (fun k => o.bind (f k)) r := by
  subst h
  exact e
theorem ev_some {α β : Type} {a : α} {f : Nat → α → Option β} {r : β} (e : Ev (fun k => f k a) r) : Ev (fun k => (some a).bind (f k)) r := e
theorem ev_cast {α : Type} {g : Nat → Option α} {r r' : α} (h : Ev g r) (e : r = r') : Ev g r' := e ▸ h
theorem ev_loop {ρ : Type} (L : Nat → Nat → Option ρ) (res : Nat → ρ) (n : Nat) (he : Ev (fun k => L (k + 1) n) (res n))
    (hs : ∀ i, i < n → Ev (fun k => L k (i + 1)) (res (i + 1)) → Ev (fun k => L (k + 1) i) (res i)) : ∀ i, i ≤ n → Ev (fun k => L k i) (res i) := by
  have key : ∀ d i, i + d = n → Ev (fun k => L k i) (res i) := by
    intro d
    induction d with
    | zero =>
      intro i h
      obtain rfl : i = n := by omega
      exact ev_shift he
    | succ d ih =>
      intro i h
      exact ev_shift (hs i (by omega) (ih (i + 1) (by omega)))
  intro i h
  exact key (n - i) i (by omega)
theorem wrap_in {x : Int} (h0 : -9223372036854775808 ≤ x) (h1 : x ≤ 9223372036854775807) : wrap64 x = x := by
  unfold wrap64
  omega
theorem wrap_nat {i : Nat} (h : i < 9223372036854775807) : wrap64 ((i : Int) + 1) = ((i + 1 : Nat) : Int) := by
  unfold wrap64
  omega
theorem wrap_up {i : Int} (h0 : 0 ≤ i) (h : i < 9223372036854775807) : wrap64 (i + 1) = i + 1 := by
  unfold wrap64
  omega
theorem rd_nat (xs : List Int) (i : Nat) : rd xs (i : Int) = xs.getD i 0 := by simp [rd]
theorem rdOf_nat {α : Type} (d : α) (xs : List α) (i : Nat) : rdOf d xs (i : Int) = xs.getD i d := by simp [rdOf]
theorem bt_nat (s : ByteArray) (i : Nat) : bt s (i : Int) = (bytesOf s).getD i 0 := by rw [← rd_bytesOf, rd_nat]
theorem drop_cons {α : Type} (d : α) (l : List α) (i : Nat) (h : i < l.length) : l.drop i = l.getD i d :: l.drop (i + 1) := by
  rw [List.drop_eq_getElem_cons h]
  simp [List.getD, h]
theorem getD_mem {α : Type} (d : α) (l : List α) (i : Nat) (h : i < l.length) : l.getD i d ∈ l := by
  simp [List.getD, h]
theorem bytesOf_range (s : ByteArray) : ∀ x ∈ bytesOf s, 0 ≤ x ∧ x ≤ 255 := by
  intro x hx
  simp only [bytesOf, List.mem_map] at hx
  obtain ⟨b, _, rfl⟩ := hx
  have := b.toNat_lt
  omega
theorem bt_lo (s : ByteArray) (i : Int) : 0 ≤ bt s i := (bt_range s i).1
theorem bt_hi (s : ByteArray) (i : Int) : bt s i ≤ 255 := (bt_range s i).2
theorem drop_eq {α : Type} [DecidableEq α] (d : α) (a b : List α) (i : Nat) (ha : i < a.length) (hb : i < b.length) : (a.drop i = b.drop i) ↔ (a.getD i d = b.getD i d ∧ a.drop (i + 1) = b.drop (i + 1)) := by
  rw [drop_cons d a i ha, drop_cons d b i hb]
  simp
theorem mark_step {α : Type} (d : α) (g : Nat → α) (l : List α) (i : Nat) (h : i < l.length) : ((List.range i).map g ++ l.drop i).set i (g i) = (List.range (i + 1)).map g ++ l.drop (i + 1) := by
  have hlen : ((List.range i).map g).length = i := by simp
  rw [List.set_append_right _ _ (by omega), hlen, Nat.sub_self, drop_cons d l i h, List.set_cons_zero, List.range_succ, List.map_append, List.append_assoc]
  rfl
theorem range_getD {α : Type} (d : α) (g : Nat → α) (n i : Nat) (h : i < n) : ((List.range n).map g).getD i d = g i := by
  simp [List.getD, h]
theorem copy_step {α : Type} (d : α) (l : List α) (i : Nat) (h : i < l.length) : (l.take i ++ List.replicate (l.length - i) d).set i (l.getD i d) = l.take (i + 1) ++ List.replicate (l.length - (i + 1)) d := by
  have hlen : (l.take i).length = i := by simp; omega
  rw [List.set_append_right _ _ (by omega), hlen, Nat.sub_self]
  obtain ⟨m, hm⟩ : ∃ m, l.length - i = m + 1 := ⟨l.length - i - 1, by omega⟩
  rw [hm, List.replicate_succ, List.set_cons_zero, List.take_succ_eq_append_getElem h, List.append_assoc]
  have : l.length - (i + 1) = m := by omega
  rw [this]
  simp [List.getD, h]

theorem wraps_i64 (n : Int) (h0 : 0 ≤ n) (h1 : n < 2 ^ 63) : IntKind.i64.wrap n = n := by
  rw [IntKind.wrap_i64]
  omega
theorem and127 (x : Int) (h0 : 0 ≤ x) (h1 : x < 9223372036854775808) : Go.bits .and .i64 x 127 = x % 128 :=
  bits_mask .i64 63 (by decide) wraps_i64 7 (by decide) x h0 (by omega)
theorem and255 (x : Int) (h0 : 0 ≤ x) (h1 : x < 9223372036854775808) : Go.bits .and .i64 x 255 = x % 256 :=
  bits_mask .i64 63 (by decide) wraps_i64 8 (by decide) x h0 (by omega)
theorem or_comm64 (a b : Nat) (ha : a < 2 ^ 63) (hb : b < 2 ^ 63) : Go.bits .or .i64 (a : Int) (b : Int) = Go.bits .or .i64 (b : Int) (a : Int) := by
  rw [(bits_nat .i64 63 (by decide) wraps_i64 a b ha hb).2, (bits_nat .i64 63 (by decide) wraps_i64 b a hb ha).2, Nat.or_comm]
theorem or128 (y : Int) (h0 : 0 ≤ y) (h1 : y < 128) : Go.bits .or .i64 y 128 = y + 128 := by
  obtain ⟨b, rfl⟩ := Int.eq_ofNat_of_zero_le h0
  have e3 := bits_join .i64 63 (by decide) wraps_i64 7 128 (b : Int) (by decide) (by decide) (by decide) h0 (by omega) (by omega)
  have e4 : Go.bits .or .i64 (b : Int) ((128 : Nat) : Int) = Go.bits .or .i64 ((128 : Nat) : Int) (b : Int) := or_comm64 b 128 (by omega) (by omega)
  rw [Int.cast_ofNat_Int] at e4
  rw [e4, e3]
  omega

theorem eqByteS_ev (a b : List Int) (h : a.length ≤ 140737488351232) : Ev (fun k => laws_eqByteS.f k a b) (decide (a = b)) := by
  unfold laws_eqByteS.f
  by_cases hl : a.length = b.length
  · refine ev_pos (by omega) ?_
    have := ev_loop (fun k i => laws_eqByteS.l0 k a b (i : Int)) (fun i => decide (a.drop i = b.drop i)) a.length ?_ ?_ 0 (Nat.zero_le _)
    · exact this
    · simp only [laws_eqByteS.l0]
      refine ev_neg (by omega) ?_
      refine ev_cast (Ev.now _) ?_
      rw [List.drop_length, hl, List.drop_length]
      simp
    · intro i hi e
      simp only [laws_eqByteS.l0]
      refine ev_pos (by omega) (ev_pos (by omega) (ev_pos (by omega) ?_))
      rw [wrap_nat (by omega), rd_nat, rd_nat]
      by_cases hc : a.getD i 0 = b.getD i 0
      · refine ev_pos hc (ev_cast e ?_)
        rw [decide_eq_decide, drop_eq 0 a b i hi (by omega)]
        exact ⟨fun z => ⟨hc, z⟩, fun z => z.2⟩
      · refine ev_neg hc (ev_cast (Ev.now _) ?_)
        symm
        rw [decide_eq_false_iff_not, drop_eq 0 a b i hi (by omega)]
        exact fun z => hc z.1
  · refine ev_neg (by omega) (ev_cast (Ev.now _) ?_)
    symm
    rw [decide_eq_false_iff_not]
    exact fun z => hl (by rw [z])

theorem markByteS_ev (l : List Int) (m : Int) (h : l.length ≤ 140737488351232) (h0 : 0 ≤ m) (h1 : m ≤ 1000000000000000000) :
    Ev (fun k => laws_markByteS.f k l m) (m + l.length, (List.range l.length).map fun j : Nat => (m + (j : Int)) % 256) := by
  unfold laws_markByteS.f
  have := ev_loop (fun k i => laws_markByteS.l0 k ((List.range i).map (fun j : Nat => (m + (j : Int)) % 256) ++ l.drop i) (m + (i : Int)) (i : Int)) (fun _ => (m + l.length, (List.range l.length).map fun j : Nat => (m + (j : Int)) % 256)) l.length ?_ ?_ 0 (Nat.zero_le _)
  · simpa using this
  · simp only [laws_markByteS.l0]
    refine ev_neg (by simp) ?_
    simp only [List.drop_length, List.append_nil]
    exact Ev.now _
  · intro i hi e
    simp only [laws_markByteS.l0]
    refine ev_pos (by simp; omega) (ev_pos (by omega) ?_)
    rw [wrap_nat (by omega), Int.toNat_natCast, mark_step 0 (fun j : Nat => (m + (j : Int)) % 256) l i hi, wrap_up (by omega) (by omega)]
    have e1 : m + (i : Int) + 1 = m + ((i + 1 : Nat) : Int) := by omega
    rw [e1]
    exact e
theorem heldByteS_ev (n : Nat) (m : Int) (h : n ≤ 140737488351232) (h0 : 0 ≤ m) (h1 : m ≤ 1000000000000000000) :
    Ev (fun k => laws_heldByteS.f k ((List.range n).map fun j : Nat => (m + (j : Int)) % 256) m) (m + n) := by
  unfold laws_heldByteS.f
  have := ev_loop (fun k i => laws_heldByteS.l0 k ((List.range n).map fun j : Nat => (m + (j : Int)) % 256) (m + (i : Int)) (i : Int)) (fun _ => m + n) n ?_ ?_ 0 (Nat.zero_le _)
  · simpa using this
  · simp only [laws_heldByteS.l0]
    refine ev_neg (by simp) ?_
    exact Ev.now _
  · intro i hi e
    simp only [laws_heldByteS.l0]
    refine ev_pos (by simp; omega) (ev_pos (by omega) (ev_pos ?_ ?_))
    · rw [rd_nat, range_getD 0 _ n i hi]
    · rw [wrap_nat (by omega), wrap_up (by omega) (by omega)]
      have e1 : m + (i : Int) + 1 = m + ((i + 1 : Nat) : Int) := by omega
      rw [e1]
      exact e

def putNat (n : Nat) : List Int := if h : n < 128 then [(n : Int)] else ((n % 128 + 128 : Nat) : Int) :: putNat (n / 128)
termination_by n
decreasing_by omega
theorem putNat_small {n : Nat} (h : n < 128) : putNat n = [(n : Int)] := by rw [putNat, dif_pos h]
theorem putNat_big {n : Nat} (h : ¬ n < 128) : putNat n = ((n % 128 + 128 : Nat) : Int) :: putNat (n / 128) := by rw [putNat, dif_neg h]
def putNum (n : Int) : List Int := if 0 ≤ n ∧ n ≤ 2147483647 then putNat n.toNat else []
theorem putNat_length (n : Nat) : (putNat n).length ≤ n + 1 ∧ 1 ≤ (putNat n).length := by
  induction n using Nat.strongRecOn with
  | _ n ih =>
    by_cases h : n < 128
    · rw [putNat_small h]
      simp
    · rw [putNat_big h]
      have := ih (n / 128) (by omega)
      simp only [List.length_cons]
      omega
theorem putNat_range (n : Nat) : ∀ x ∈ putNat n, 0 ≤ x ∧ x ≤ 255 := by
  induction n using Nat.strongRecOn with
  | _ n ih =>
    by_cases h : n < 128
    · rw [putNat_small h]
      simp
      omega
    · rw [putNat_big h]
      intro x hx
      rw [List.mem_cons] at hx
      rcases hx with rfl | hx
      · omega
      · exact ih (n / 128) (by omega) x hx
theorem putNat_len5 (n : Nat) (h : n ≤ 2147483647) : (putNat n).length ≤ 5 := by
  have step : ∀ m j, m < 128 ^ (j + 1) → (putNat m).length ≤ j + 1 := by
    intro m j
    induction j generalizing m with
    | zero =>
      intro hm
      rw [putNat_small (by omega)]
      simp
    | succ j ih =>
      intro hm
      by_cases h : m < 128
      · rw [putNat_small h]
        simp
      · rw [putNat_big h]
        have : m / 128 < 128 ^ (j + 1) := by
          rw [Nat.div_lt_iff_lt_mul (by omega)]
          rw [Nat.pow_succ] at hm
          exact hm
        have := ih (m / 128) this
        simp only [List.length_cons]
        omega
  exact step n 4 (by omega)
theorem putNum_length (n : Int) : (putNum n).length ≤ 5 := by
  unfold putNum
  split
  · exact putNat_len5 _ (by omega)
  · simp

theorem spec_putNum_l (n : Nat) : ∀ acc : List Int, n ≤ 2147483647 → acc.length + n ≤ 100000000000 → Ev (fun k => spec_PutNum.l0 k (n : Int) acc) (acc ++ putNat n) := by
  induction n using Nat.strongRecOn with
  | _ n ih =>
    intro acc hn ha
    apply ev_shift
    simp only [spec_PutNum.l0]
    by_cases h : n < 128
    · refine ev_neg (by omega) (ev_pos (by omega) ?_)
      refine ev_cast (Ev.now _) ?_
      rw [putNat_small h, Int.emod_eq_of_lt (by omega) (by omega)]
    · refine ev_pos (by omega) (ev_pos (by omega) ?_)
      have e1 : wrap64 (Int.tdiv (n : Int) 128) = ((n / 128 : Nat) : Int) := by
        rw [Int.tdiv_eq_ediv_of_nonneg (by omega), wrap_in (by omega) (by omega)]
        omega
      have e2 : wrap64 (Int.tmod (n : Int) 128 + 128) % 256 = ((n % 128 + 128 : Nat) : Int) := by
        rw [Int.tmod_eq_emod_of_nonneg (by omega), wrap_in (by omega) (by omega)]
        omega
      rw [e1, e2]
      refine ev_cast (ih (n / 128) (by omega) _ (by omega) (by simp; omega)) ?_
      rw [putNat_big h, List.append_assoc]
      rfl
theorem spec_PutNum_ev (n : Int) : Ev (fun k => spec_PutNum.f k n) (putNum n) := by
  unfold spec_PutNum.f
  refine ev_some ?_
  by_cases h : 0 ≤ n ∧ n ≤ 2147483647
  · refine ev_eq (a := true) (by unfold spec_l1In.f; rw [if_pos (by omega)]; simp; omega) (ev_pos rfl ?_)
    obtain ⟨m, rfl⟩ := Int.eq_ofNat_of_zero_le h.1
    refine ev_cast (spec_putNum_l m [] (by omega) (by simp; omega)) ?_
    rw [putNum, if_pos h]
    simp
  · refine ev_eq (a := false) (by unfold spec_l1In.f; split <;> simp <;> omega) (ev_neg (by simp) ?_)
    rw [putNum, if_neg h]
    exact Ev.now _

theorem impl_putNum_l (n : Nat) : ∀ acc : List Int, n ≤ 2147483647 → acc.length + n ≤ 100000000000 → Ev (fun k => impl_PutNum.l0 k (n : Int) acc) (acc ++ putNat n) := by
  induction n using Nat.strongRecOn with
  | _ n ih =>
    intro acc hn ha
    apply ev_shift
    simp only [impl_PutNum.l0]
    by_cases h : n < 128
    · refine ev_neg (by omega) (ev_pos (by omega) ?_)
      refine ev_cast (Ev.now _) ?_
      rw [putNat_small h, Int.emod_eq_of_lt (by omega) (by omega)]
    · refine ev_pos (by omega) (ev_pos (by omega) ?_)
      have e1 : (n : Int) / 128 = ((n / 128 : Nat) : Int) := by omega
      have e2 : (Go.bits .or .i64 (Go.bits .and .i64 (n : Int) 127) 128) % 256 = ((n % 128 + 128 : Nat) : Int) := by
        rw [and127 _ (by omega) (by omega), or128 _ (by omega) (by omega)]
        omega
      rw [e1, e2]
      refine ev_cast (ih (n / 128) (by omega) _ (by omega) (by simp; omega)) ?_
      rw [putNat_big h, List.append_assoc]
      rfl
theorem impl_PutNum_ev (n : Int) : Ev (fun k => impl_PutNum.f k n) (putNum n) := by
  unfold impl_PutNum.f
  by_cases h : 0 ≤ n ∧ n ≤ 2147483647
  · refine ev_eq (a := true) (by unfold impl_within.f; rw [if_pos (by omega)]; simp; omega) (ev_pos rfl ?_)
    obtain ⟨m, rfl⟩ := Int.eq_ofNat_of_zero_le h.1
    refine ev_cast (impl_putNum_l m [] (by omega) (by simp; omega)) ?_
    rw [putNum, if_pos h]
    simp
  · refine ev_eq (a := false) (by unfold impl_within.f; split <;> simp <;> omega) (ev_neg (by simp) ?_)
    rw [putNum, if_neg h]
    exact Ev.now _

def putText (s : ByteArray) : List Int := putNum (s.size : Int) ++ bytesOf s
theorem putText_length (s : ByteArray) : (putText s).length = (putNum (s.size : Int)).length + s.size := by
  unfold putText
  rw [List.length_append, bytesOf_length]

theorem spec_PutText_ev (s : ByteArray) (hs : s.size ≤ 1099511627776) : Ev (fun k => spec_PutText.f k s) (putText s) := by
  have hl := putNum_length (s.size : Int)
  unfold spec_PutText.f putText
  refine Ev.bind (spec_PutNum_ev _) (ev_pos (by omega) (ev_some (ev_pos ?_ (Ev.now _))))
  rw [bytesOf_length]
  omega

theorem impl_PutText_ev (s : ByteArray) (hs : s.size ≤ 1099511627776) : Ev (fun k => impl_PutText.f k s) (putText s) := by
  have hl := putNum_length (s.size : Int)
  unfold impl_PutText.f putText
  exact Ev.bind (impl_PutNum_ev _) (ev_pos (by omega) (Ev.now _))

theorem FnExactPutText : laws_FnExactPutText.Pure := by
  intro s _
  apply Ev.rounds (g := fun k => laws_FnExactPutText.f k s)
  unfold laws_FnExactPutText.f
  by_cases h : (s.size : Int) > 1048576
  · exact ev_pos h (Ev.now _)
  · have hl := putNum_length (s.size : Int)
    have hp := putText_length s
    have hh := heldByteS_ev (putText s).length 1 (by omega) (by omega) (by omega)
    refine ev_neg h (Ev.bind (spec_PutText_ev s (by omega)) (Ev.bind (impl_PutText_ev s (by omega)) (Ev.bind (eqByteS_ev _ _ (by omega)) ?_)))
    refine ev_pos (by simp) (Ev.bind (markByteS_ev _ 1 (by omega) (by omega) (by omega)) ?_)
    refine Ev.bind hh (ev_neg (by omega) (ev_pos rfl ?_))
    refine Ev.bind (impl_PutText_ev s (by omega)) (Ev.bind (eqByteS_ev _ _ (by omega)) (ev_pos (by simp) ?_))
    exact Ev.bind hh (ev_neg (by omega) (ev_pos rfl (Ev.now _)))

end Go.Proofs.Ytebfpnaofbpbjaa.Pure
