/- FnNumbers: the law's function of the print answers true for every input within the row's bounds. Conditions: none but the bounds that the row itself gives. -/
import Derived.Test.YtiigjgdnpmpplaaPFnNumbersx3
import Derived.OpenShut
import Derived.Laws.BitsLemmas
import Derived.Test.YtiigjgdnpmpplaaWSized
import Derived.Test.YtiigjgdnpmpplaaWSized
namespace Go.Proofs.Ytiigjgdnpmpplaa.Pure
open Go Go.RowKit Go.Proofs.Ytiigjgdnpmpplaa.PFnNumbers Go.Proofs.YtiigjgdnpmpplaaW.PrintWords Go.Proofs.YtiigjgdnpmpplaaW.PrintLast Go.Proofs.YtiigjgdnpmpplaaW.PrintMore Go.Proofs.YtiigjgdnpmpplaaW.PrintMore Go.Proofs.YtiigjgdnpmpplaaW.PrintMore
set_option linter.unusedVariables false
set_option linter.unusedSimpArgs false

theorem ev_shift {α : Type} {g : Nat → Option α} {r : α} (h : Ev (fun k => g (k + 1)) r) : Ev g r := Ev.step (f := fun k => g (k + 1)) (fun _ => rfl) h
theorem ev_unshift {α : Type} {g : Nat → Option α} {r : α} (h : Ev g r) : Ev (fun k => g (k + 1)) r := by
  obtain ⟨K, h⟩ := h
  exact ⟨K, fun k hk => h (k + 1) (by omega)⟩
theorem ev_pos {α : Type} {c : Prop} [Decidable c] {f g : Nat → Option α} {r : α} (h : c) (e : Ev f r) : Ev (fun k => if c then f k else g k) r := by
  simpa only [if_pos h] using e
theorem ev_neg {α : Type} {c : Prop} [Decidable c] {f g : Nat → Option α} {r : α} (h : ¬ c) (e : Ev g r) : Ev (fun k => if c then f k else g k) r := by
  simpa only [if_neg h] using e
theorem ev_eq {α β : Type} {o : Option α} {a : α} {f : Nat → α → Option β} {r : β} (h : o = some a) (e : Ev (fun k => f k a) r) : Ev (fun k => o.bind (f k)) r := by
  subst h
  exact e
theorem ev_some {α β : Type} {a : α} {f : Nat → α → Option β} {r : β} (e : Ev (fun k => f k a) r) : Ev (fun k => (some a).bind (f k)) r := e
theorem ev_cast {α : Type} {g : Nat → Option α} {r r' : α} (h : Ev g r) (e : r = r') : Ev g r' := e ▸ h
theorem ev_loop {ρ : Type} (L : Nat → Nat → Option ρ) (res : Nat → ρ) (n : Nat) (he : Ev (fun k => L (k + 1) n) (res n))
    (hs : ∀ i, i < n → Ev (fun k => L k (i + 1)) (res (i + 1)) → Ev (fun k => L (k + 1) i) (res i)) : ∀ i, i ≤ n → Ev (fun k => L k i) (res i) := by
  have key : ∀ d i, i + d = n → Ev (fun k => L k i) (res i) := by
    intro d
    induction d with
    | zero =>
      intro i h
      obtain rfl : i = n := by omega
      exact ev_shift he
    | succ d ih =>
      intro i h
      exact ev_shift (hs i (by omega) (ih (i + 1) (by omega)))
  intro i h
  exact key (n - i) i (by omega)
theorem wrap_in {x : Int} (h0 : -9223372036854775808 ≤ x) (h1 : x ≤ 9223372036854775807) : wrap64 x = x := by
  unfold wrap64
  omega
theorem wrap_nat {i : Nat} (h : i < 9223372036854775807) : wrap64 ((i : Int) + 1) = ((i + 1 : Nat) : Int) := by
  unfold wrap64
  omega
theorem wrap_up {i : Int} (h0 : 0 ≤ i) (h : i < 9223372036854775807) : wrap64 (i + 1) = i + 1 := by
  unfold wrap64
  omega
theorem rd_nat (xs : List Int) (i : Nat) : rd xs (i : Int) = xs.getD i 0 := by simp [rd]
theorem rdOf_nat {α : Type} (d : α) (xs : List α) (i : Nat) : rdOf d xs (i : Int) = xs.getD i d := by simp [rdOf]
theorem bt_nat (s : ByteArray) (i : Nat) : bt s (i : Int) = (bytesOf s).getD i 0 := by rw [← rd_bytesOf, rd_nat]
theorem drop_cons {α : Type} (d : α) (l : List α) (i : Nat) (h : i < l.length) : l.drop i = l.getD i d :: l.drop (i + 1) := by
  rw [List.drop_eq_getElem_cons h]
  simp [List.getD, h]
theorem getD_mem {α : Type} (d : α) (l : List α) (i : Nat) (h : i < l.length) : l.getD i d ∈ l := by
  simp [List.getD, h]
theorem bytesOf_range (s : ByteArray) : ∀ x ∈ bytesOf s, 0 ≤ x ∧ x ≤ 255 := by
  intro x hx
  simp only [bytesOf, List.mem_map] at hx
  obtain ⟨b, _, rfl⟩ := hx
  have := b.toNat_lt
  omega
theorem bt_lo (s : ByteArray) (i : Int) : 0 ≤ bt s i := (bt_range s i).1
theorem bt_hi (s : ByteArray) (i : Int) : bt s i ≤ 255 := (bt_range s i).2
theorem drop_eq {α : Type} [DecidableEq α] (d : α) (a b : List α) (i : Nat) (ha : i < a.length) (hb : i < b.length) : (a.drop i = b.drop i) ↔ (a.getD i d = b.getD i d ∧ a.drop (i + 1) = b.drop (i + 1)) := by
  rw [drop_cons d a i ha, drop_cons d b i hb]
  simp
theorem mark_step {α : Type} (d : α) (g : Nat → α) (l : List α) (i : Nat) (h : i < l.length) : ((List.range i).map g ++ l.drop i).set i (g i) = (List.range (i + 1)).map g ++ l.drop (i + 1) := by
  have hlen : ((List.range i).map g).length = i := by simp
  rw [List.set_append_right _ _ (by omega), hlen, Nat.sub_self, drop_cons d l i h, List.set_cons_zero, List.range_succ, List.map_append, List.append_assoc]
  rfl
theorem range_getD {α : Type} (d : α) (g : Nat → α) (n i : Nat) (h : i < n) : ((List.range n).map g).getD i d = g i := by
  simp [List.getD, h]

theorem wraps_i64 (n : Int) (h0 : 0 ≤ n) (h1 : n < 2 ^ 63) : IntKind.i64.wrap n = n := by
  rw [IntKind.wrap_i64]
  omega
theorem and127 (x : Int) (h0 : 0 ≤ x) (h1 : x < 9223372036854775808) : Go.bits .and .i64 x 127 = x % 128 :=
  bits_mask .i64 63 (by decide) wraps_i64 7 (by decide) x h0 (by omega)
theorem and255 (x : Int) (h0 : 0 ≤ x) (h1 : x < 9223372036854775808) : Go.bits .and .i64 x 255 = x % 256 :=
  bits_mask .i64 63 (by decide) wraps_i64 8 (by decide) x h0 (by omega)
theorem or_comm64 (a b : Nat) (ha : a < 2 ^ 63) (hb : b < 2 ^ 63) : Go.bits .or .i64 (a : Int) (b : Int) = Go.bits .or .i64 (b : Int) (a : Int) := by
  rw [(bits_nat .i64 63 (by decide) wraps_i64 a b ha hb).2, (bits_nat .i64 63 (by decide) wraps_i64 b a hb ha).2, Nat.or_comm]
theorem or128 (y : Int) (h0 : 0 ≤ y) (h1 : y < 128) : Go.bits .or .i64 y 128 = y + 128 := by
  obtain ⟨b, rfl⟩ := Int.eq_ofNat_of_zero_le h0
  have e3 := bits_join .i64 63 (by decide) wraps_i64 7 128 (b : Int) (by decide) (by decide) (by decide) h0 (by omega) (by omega)
  have e4 : Go.bits .or .i64 (b : Int) ((128 : Nat) : Int) = Go.bits .or .i64 ((128 : Nat) : Int) (b : Int) := or_comm64 b 128 (by omega) (by omega)
  rw [Int.cast_ofNat_Int] at e4
  rw [e4, e3]
  omega

theorem xor_nat (a b : Nat) (ha : a < 4294967296) (hb : b < 4294967296) : Go.bits .xor .i64 (a : Int) (b : Int) = ((a ^^^ b : Nat) : Int) := by
  have ha' : a % 2 ^ IntKind.i64.bits = a := Nat.mod_eq_of_lt (by show a < 2 ^ 64; omega)
  have hb' : b % 2 ^ IntKind.i64.bits = b := Nat.mod_eq_of_lt (by show b < 2 ^ 64; omega)
  have hx : a ^^^ b < 2 ^ 32 := Nat.xor_lt_two_pow (by omega) (by omega)
  simp only [Go.bits, BitVec.ofInt_natCast, BitVec.toNat_xor, BitVec.toNat_ofNat, ha', hb']
  exact wraps_i64 _ (Int.natCast_nonneg _) (by omega)
theorem and1 (x : Int) (h0 : 0 ≤ x) (h1 : x < 9223372036854775808) : Go.bits .and .i64 x 1 = x % 2 :=
  bits_mask .i64 63 (by decide) wraps_i64 1 (by decide) x h0 (by omega)
theorem xor_end (x : Nat) (h : x < 4294967296) : Go.bits .xor .i64 (x : Int) 4294967295 = ((x ^^^ 4294967295 : Nat) : Int) := by
  have e := xor_nat x 4294967295 h (by omega)
  simpa only [Int.cast_ofNat_Int] using e
theorem xor_poly (x : Nat) (h : x < 4294967296) : Go.bits .xor .i64 (x : Int) 3988292384 = ((x ^^^ 3988292384 : Nat) : Int) := by
  have e := xor_nat x 3988292384 h (by omega)
  simpa only [Int.cast_ofNat_Int] using e
def crcBit (x : Nat) : Nat := if x % 2 = 1 then (x / 2) ^^^ 3988292384 else x / 2
def crcBits : Nat → Nat → Nat
  | 0, x => x
  | n + 1, x => crcBits n (crcBit x)
def crcFrom : List Int → Nat → Nat
  | [], x => x
  | b :: l, x => crcFrom l (crcBits 8 (x ^^^ b.toNat))
def crc (l : List Int) : Int := ((crcFrom l 4294967295 ^^^ 4294967295 : Nat) : Int)
theorem crcBit_lt {x : Nat} (h : x < 4294967296) : crcBit x < 4294967296 := by
  unfold crcBit
  split
  · have : (x / 2) ^^^ 3988292384 < 2 ^ 32 := Nat.xor_lt_two_pow (by omega) (by omega)
    omega
  · omega
theorem crcBits_lt (n : Nat) : ∀ {x : Nat}, x < 4294967296 → crcBits n x < 4294967296 := by
  induction n with
  | zero => intro x h; exact h
  | succ n ih => intro x h; exact ih (crcBit_lt h)
theorem xor_lt32 {a b : Nat} (ha : a < 4294967296) (hb : b < 4294967296) : a ^^^ b < 4294967296 := by
  have : a ^^^ b < 2 ^ 32 := Nat.xor_lt_two_pow (by omega) (by omega)
  omega
theorem byte_nat {b : Int} (h : 0 ≤ b ∧ b ≤ 255) : ∃ n : Nat, b = n ∧ n < 4294967296 ∧ b.toNat = n := ⟨b.toNat, by omega, by omega, rfl⟩

theorem impl_crc_l (l : List Int) (hl : l.length ≤ 140737488351232) (hb : ∀ x ∈ l, 0 ≤ x ∧ x ≤ 255) (d : Nat) : ∀ (i x : Nat), i + d = l.length → x < 4294967296 →
    Ev (fun k => impl_Crc.l0 k (x : Int) l (l.length : Int) (i : Int)) ((crcFrom (l.drop i) x ^^^ 4294967295 : Nat) : Int) := by
  induction d with
  | zero =>
    intro i x hi hx
    apply ev_shift
    simp only [impl_Crc.l0]
    refine ev_neg (by omega) (ev_cast (Ev.now _) ?_)
    rw [List.drop_eq_nil_of_le (by omega)]
    exact xor_end x hx
  | succ d ih =>
    intro i x hi hx
    have hm := hb _ (getD_mem 0 l i (by omega))
    obtain ⟨n, hn, hn2, hn3⟩ := byte_nat hm
    have inner : ∀ (j y : Nat), j ≤ 8 → y < 4294967296 → Ev (fun k => impl_Crc.l1 k (y : Int) l (l.length : Int) (i : Int) ((8 - j : Nat) : Int)) ((crcFrom (l.drop (i + 1)) (crcBits j y) ^^^ 4294967295 : Nat) : Int) := by
      intro j
      induction j with
      | zero =>
        intro y _ hy
        apply ev_shift
        simp only [impl_Crc.l1]
        refine ev_neg (by omega) ?_
        rw [wrap_nat (by omega)]
        exact ih (i + 1) y (by omega) hy
      | succ j ihj =>
        intro y hj hy
        apply ev_shift
        simp only [impl_Crc.l1]
        have h2 : y / 2 < 4294967296 := by omega
        have e0 : wrap64 (((8 - (j + 1) : Nat) : Int) + 1) = ((8 - j : Nat) : Int) := by rw [wrap_nat (by omega)]; omega
        have e1 : Go.bits .and .i64 (y : Int) 1 = ((y % 2 : Nat) : Int) := by rw [and1 _ (by omega) (by omega)]; omega
        have e2 : (y : Int) / 2 = ((y / 2 : Nat) : Int) := by omega
        have e3 : Go.bits .xor .i64 ((y / 2 : Nat) : Int) 3988292384 = (((y / 2) ^^^ 3988292384 : Nat) : Int) := xor_poly (y / 2) h2
        rw [e0, e1, e2, e3]
        refine ev_pos (by omega) ?_
        have hs := ihj (crcBit y) (by omega) (crcBit_lt hy)
        by_cases ho : y % 2 = 1
        · refine ev_pos (by omega) ?_
          have : crcBit y = (y / 2) ^^^ 3988292384 := if_pos ho
          rw [this] at hs
          rw [crcBits, this]
          exact hs
        · refine ev_neg (by omega) ?_
          have : crcBit y = y / 2 := if_neg ho
          rw [this] at hs
          rw [crcBits, this]
          exact hs
    apply ev_shift
    simp only [impl_Crc.l0]
    refine ev_pos (by omega) (ev_pos (by omega) (ev_pos (by omega) ?_))
    rw [rd_nat, hn, wrap_in (by omega) (by omega), xor_nat x n hx hn2, drop_cons 0 l i (by omega), crcFrom, hn3]
    exact inner 8 (x ^^^ n) (by omega) (xor_lt32 hx hn2)
theorem impl_Crc_ev (l : List Int) (hl : l.length ≤ 140737488351232) (hb : ∀ x ∈ l, 0 ≤ x ∧ x ≤ 255) : Ev (fun k => impl_Crc.f k l) (crc l) := by
  have e := impl_crc_l l hl hb l.length 0 4294967295 (by omega) (by omega)
  rw [Int.cast_ofNat_Int, List.drop_zero] at e
  exact e

def putNat (n : Nat) : List Int := if h : n < 128 then [(n : Int)] else ((n % 128 + 128 : Nat) : Int) :: putNat (n / 128)
termination_by n
decreasing_by omega
theorem putNat_small {n : Nat} (h : n < 128) : putNat n = [(n : Int)] := by rw [putNat, dif_pos h]
theorem putNat_big {n : Nat} (h : ¬ n < 128) : putNat n = ((n % 128 + 128 : Nat) : Int) :: putNat (n / 128) := by rw [putNat, dif_neg h]
def putNum (n : Int) : List Int := if 0 ≤ n ∧ n ≤ 2147483647 then putNat n.toNat else []
theorem putNat_length (n : Nat) : (putNat n).length ≤ n + 1 ∧ 1 ≤ (putNat n).length := by
  induction n using Nat.strongRecOn with
  | _ n ih =>
    by_cases h : n < 128
    · rw [putNat_small h]
      simp
    · rw [putNat_big h]
      have := ih (n / 128) (by omega)
      simp only [List.length_cons]
      omega
theorem putNat_range (n : Nat) : ∀ x ∈ putNat n, 0 ≤ x ∧ x ≤ 255 := by
  induction n using Nat.strongRecOn with
  | _ n ih =>
    by_cases h : n < 128
    · rw [putNat_small h]
      simp
      omega
    · rw [putNat_big h]
      intro x hx
      rw [List.mem_cons] at hx
      rcases hx with rfl | hx
      · omega
      · exact ih (n / 128) (by omega) x hx
theorem putNat_len5 (n : Nat) (h : n ≤ 2147483647) : (putNat n).length ≤ 5 := by
  have step : ∀ m j, m < 128 ^ (j + 1) → (putNat m).length ≤ j + 1 := by
    intro m j
    induction j generalizing m with
    | zero =>
      intro hm
      rw [putNat_small (by omega)]
      simp
    | succ j ih =>
      intro hm
      by_cases h : m < 128
      · rw [putNat_small h]
        simp
      · rw [putNat_big h]
        have : m / 128 < 128 ^ (j + 1) := by
          rw [Nat.div_lt_iff_lt_mul (by omega)]
          rw [Nat.pow_succ] at hm
          exact hm
        have := ih (m / 128) this
        simp only [List.length_cons]
        omega
  exact step n 4 (by omega)
theorem putNum_length (n : Int) : (putNum n).length ≤ 5 := by
  unfold putNum
  split
  · exact putNat_len5 _ (by omega)
  · simp

theorem spec_putNum_l (n : Nat) : ∀ acc : List Int, n ≤ 2147483647 → acc.length + n ≤ 100000000000 → Ev (fun k => spec_PutNum.l0 k (n : Int) acc) (acc ++ putNat n) := by
  induction n using Nat.strongRecOn with
  | _ n ih =>
    intro acc hn ha
    apply ev_shift
    simp only [spec_PutNum.l0]
    by_cases h : n < 128
    · refine ev_neg (by omega) (ev_pos (by omega) ?_)
      refine ev_cast (Ev.now _) ?_
      rw [putNat_small h, Int.emod_eq_of_lt (by omega) (by omega)]
    · refine ev_pos (by omega) (ev_pos (by omega) ?_)
      have e1 : wrap64 (Int.tdiv (n : Int) 128) = ((n / 128 : Nat) : Int) := by
        rw [Int.tdiv_eq_ediv_of_nonneg (by omega), wrap_in (by omega) (by omega)]
        omega
      have e2 : wrap64 (Int.tmod (n : Int) 128 + 128) % 256 = ((n % 128 + 128 : Nat) : Int) := by
        rw [Int.tmod_eq_emod_of_nonneg (by omega), wrap_in (by omega) (by omega)]
        omega
      rw [e1, e2]
      refine ev_cast (ih (n / 128) (by omega) _ (by omega) (by simp; omega)) ?_
      rw [putNat_big h, List.append_assoc]
      rfl
theorem spec_PutNum_ev (n : Int) : Ev (fun k => spec_PutNum.f k n) (putNum n) := by
  unfold spec_PutNum.f
  refine ev_some ?_
  by_cases h : 0 ≤ n ∧ n ≤ 2147483647
  · refine ev_eq (a := true) (by unfold spec_l1In.f; rw [if_pos (by omega)]; simp; omega) (ev_pos rfl ?_)
    obtain ⟨m, rfl⟩ := Int.eq_ofNat_of_zero_le h.1
    refine ev_cast (spec_putNum_l m [] (by omega) (by simp; omega)) ?_
    rw [putNum, if_pos h]
    simp
  · refine ev_eq (a := false) (by unfold spec_l1In.f; split <;> simp <;> omega) (ev_neg (by simp) ?_)
    rw [putNum, if_neg h]
    exact Ev.now _

theorem impl_putNum_l (n : Nat) : ∀ acc : List Int, n ≤ 2147483647 → acc.length + n ≤ 100000000000 → Ev (fun k => impl_PutNum.l0 k (n : Int) acc) (acc ++ putNat n) := by
  induction n using Nat.strongRecOn with
  | _ n ih =>
    intro acc hn ha
    apply ev_shift
    simp only [impl_PutNum.l0]
    by_cases h : n < 128
    · refine ev_neg (by omega) (ev_pos (by omega) ?_)
      refine ev_cast (Ev.now _) ?_
      rw [putNat_small h, Int.emod_eq_of_lt (by omega) (by omega)]
    · refine ev_pos (by omega) (ev_pos (by omega) ?_)
      have e1 : (n : Int) / 128 = ((n / 128 : Nat) : Int) := by omega
      have e2 : (Go.bits .or .i64 (Go.bits .and .i64 (n : Int) 127) 128) % 256 = ((n % 128 + 128 : Nat) : Int) := by
        rw [and127 _ (by omega) (by omega), or128 _ (by omega) (by omega)]
        omega
      rw [e1, e2]
      refine ev_cast (ih (n / 128) (by omega) _ (by omega) (by simp; omega)) ?_
      rw [putNat_big h, List.append_assoc]
      rfl
theorem impl_PutNum_ev (n : Int) : Ev (fun k => impl_PutNum.f k n) (putNum n) := by
  unfold impl_PutNum.f
  by_cases h : 0 ≤ n ∧ n ≤ 2147483647
  · refine ev_eq (a := true) (by unfold impl_within.f; rw [if_pos (by omega)]; simp; omega) (ev_pos rfl ?_)
    obtain ⟨m, rfl⟩ := Int.eq_ofNat_of_zero_le h.1
    refine ev_cast (impl_putNum_l m [] (by omega) (by simp; omega)) ?_
    rw [putNum, if_pos h]
    simp
  · refine ev_eq (a := false) (by unfold impl_within.f; split <;> simp <;> omega) (ev_neg (by simp) ?_)
    rw [putNum, if_neg h]
    exact Ev.now _

theorem shl7 (d k : Nat) (hd : d < 128) (hk : k ≤ 4) : shl .i64 (d : Int) (wrap64 (7 * (k : Int))) = ((d * 2 ^ (7 * k) : Nat) : Int) := by
  have h : k = 0 ∨ k = 1 ∨ k = 2 ∨ k = 3 ∨ k = 4 := by omega
  unfold shl
  rw [wrap_in (by omega) (by omega)]
  rcases h with rfl | rfl | rfl | rfl | rfl <;> (simp [IntKind.bits]; try (rw [wraps_i64 _ (by omega) (by omega)]))
theorem or7 (n m k : Nat) (hn : n < 2 ^ (7 * k)) (hm : m < 128) (hk : k ≤ 4) : Go.bits .or .i64 (n : Int) ((m * 2 ^ (7 * k) : Nat) : Int) = ((n + m * 2 ^ (7 * k) : Nat) : Int) := by
  have hp : 2 ^ (7 * k) ≤ 268435456 := Nat.pow_le_pow_right (n := 2) (by omega) (show 7 * k ≤ 28 by omega)
  have h0 : 0 < 2 ^ (7 * k) := Nat.two_pow_pos _
  have hx : m * 2 ^ (7 * k) < 2 ^ 63 := Nat.lt_of_le_of_lt (Nat.mul_le_mul (show m ≤ 127 by omega) hp) (by decide)
  have hz : ((m * 2 ^ (7 * k) : Nat) : Int) % 2 ^ (7 * k) = 0 := by
    simp
  have hy : (n : Int) < 2 ^ (7 * k) := by exact_mod_cast hn
  have hn2 : n < 2 ^ 63 := by omega
  rw [or_comm64 n _ hn2 hx]
  have := bits_join .i64 63 (by decide) wraps_i64 (7 * k) ((m * 2 ^ (7 * k) : Nat) : Int) (n : Int) (Int.natCast_nonneg _) hz (by exact_mod_cast hx) (Int.natCast_nonneg _) hy (by exact_mod_cast hn2)
  rw [this]
  omega
def gAcc (n d k : Nat) : Nat := n + d % 128 * 2 ^ (7 * k)
def gOk (k n : Nat) : Prop := n < 2 ^ (7 * k)
theorem pow7 (n m k : Nat) (hn : n < 2 ^ (7 * k)) (hm : m < 128) : n + m * 2 ^ (7 * k) < 2 ^ (7 * (k + 1)) := by
  have e : 2 ^ (7 * (k + 1)) = 128 * 2 ^ (7 * k) := by rw [Nat.mul_add, Nat.pow_add, Nat.mul_comm]
  rw [e]
  have : (m + 1) * 2 ^ (7 * k) ≤ 128 * 2 ^ (7 * k) := Nat.mul_le_mul_right _ (by omega)
  rw [Nat.add_mul] at this
  omega
theorem gOk_step {k n : Nat} (d : Nat) (h : gOk k n) : gOk (k + 1) (gAcc n d k) := pow7 n (d % 128) k h (by omega)
theorem gOk_lt {k n : Nat} (h : gOk k n) (hk : k ≤ 5) : n < 34359738368 :=
  Nat.lt_of_lt_of_le h (Nat.pow_le_pow_right (n := 2) (by omega) (show 7 * k ≤ 35 by omega))
theorem gOk_zero : gOk 0 0 := by
  unfold gOk
  decide
theorem spec_acc {n d k : Nat} (hd : d ≤ 255) (hk : k ≤ 4) (h : gOk k n) : Go.bits .or .i64 (n : Int) (shl .i64 (Int.tmod (wrap64 (d : Int)) 128) (wrap64 (7 * (k : Int)))) = (gAcc n d k : Int) := by
  have e3 : Int.tmod (wrap64 (d : Int)) 128 = ((d % 128 : Nat) : Int) := by
    rw [wrap_in (by omega) (by omega), Int.tmod_eq_emod_of_nonneg (by omega)]
    omega
  rw [e3, shl7 (d % 128) k (by omega) hk]
  exact or7 n (d % 128) k h (by omega) hk
theorem impl_acc {n d k : Nat} (hd : d ≤ 255) (hk : k ≤ 4) (h : gOk k n) : Go.bits .or .i64 (n : Int) (shl .i64 (Go.bits .and .i64 (wrap64 (d : Int)) 127) (wrap64 (7 * (k : Int)))) = (gAcc n d k : Int) := by
  have e3 : Go.bits .and .i64 (wrap64 (d : Int)) 127 = ((d % 128 : Nat) : Int) := by
    rw [wrap_in (by omega) (by omega), and127 _ (by omega) (by omega)]
    omega
  rw [e3, shl7 (d % 128) k (by omega) hk]
  exact or7 n (d % 128) k h (by omega) hk
theorem seven_pos {k : Nat} (hk : k ≤ 4) : 0 ≤ wrap64 (7 * (k : Int)) := by
  rw [wrap_in (by omega) (by omega)]
  omega
theorem byte_wrap {d : Nat} (hd : d ≤ 255) : wrap64 (d : Int) = d := wrap_in (by omega) (by omega)
theorem add_wrap {a k : Nat} (ha : a ≤ 140737488351232) (hk : k ≤ 5) : wrap64 ((a : Int) + (k : Int)) = ((a + k : Nat) : Int) := by
  rw [wrap_in (by omega) (by omega)]
  omega
def getGo (b : List Int) (a : Nat) : Nat → Nat → Nat → Int × Int × Bool
  | 0, _, _ => (0, 0, false)
  | f + 1, k, n => if a + k < b.length then
      (if (b.getD (a + k) 0).toNat < 128 then
        (if (0 < k ∧ (b.getD (a + k) 0).toNat = 0) ∨ gAcc n (b.getD (a + k) 0).toNat k > 2147483647 then (0, 0, false)
         else ((gAcc n (b.getD (a + k) 0).toNat k : Int), ((a + k + 1 : Nat) : Int), true))
       else getGo b a f (k + 1) (gAcc n (b.getD (a + k) 0).toNat k))
    else (0, 0, false)
def getNum (b : List Int) (a : Int) : Int × Int × Bool := if 0 ≤ a then getGo b a.toNat 5 0 0 else (0, 0, false)
theorem getGo_out (b : List Int) (a : Nat) (h : b.length ≤ a) (f k n : Nat) : getGo b a f k n = (0, 0, false) := by
  cases f with
  | zero => rfl
  | succ f => rw [getGo, if_neg (by omega)]

theorem impl_getNum_l (b : List Int) (hl : b.length ≤ 140737488351232) (hb : ∀ x ∈ b, 0 ≤ x ∧ x ≤ 255) (a : Nat) (ha : a ≤ b.length) (f : Nat) : ∀ (k n : Nat), k + f = 5 → gOk k n →
    Ev (fun j => impl_GetNum.l0 j b (a : Int) (n : Int) (k : Int)) (getGo b a f k n) := by
  induction f with
  | zero =>
    intro k n hk hn
    apply ev_shift
    simp only [impl_GetNum.l0]
    refine ev_neg (by omega) ?_
    apply ev_shift
    simp only [impl_GetNum.j1]
    exact ev_neg (by simp) (Ev.now _)
  | succ f ih =>
    intro k n hk hn
    have hk4 : k ≤ 4 := by omega
    apply ev_shift
    simp only [impl_GetNum.l0]
    refine ev_pos (by omega) ?_
    apply ev_shift
    simp only [impl_GetNum.j1, getGo]
    rw [add_wrap (by omega) (by omega)]
    by_cases hin : a + k < b.length
    · refine ev_pos (by simp; omega) ?_
      rw [if_pos hin, rd_nat]
      have hm := hb _ (getD_mem 0 b (a + k) hin)
      generalize b.getD (a + k) 0 = d at hm ⊢
      obtain ⟨c, rfl⟩ := Int.eq_ofNat_of_zero_le hm.1
      have hc : c ≤ 255 := by omega
      have e11 := ih (k + 1) _ (by omega) (gOk_step c hn)
      rw [impl_acc hc hk4 hn, Int.toNat_natCast, byte_wrap hc, wrap_nat (i := a + k) (by omega), wrap_nat (i := k) (by omega)]
      generalize gAcc n c k = m at e11 ⊢
      clear hn ih
      refine ev_pos (by omega) (ev_pos (by omega) (ev_pos (seven_pos hk4) ?_))
      by_cases h1 : c < 128
      · refine ev_neg (by omega) ?_
        rw [if_pos h1]
        by_cases h3 : c = 0
        · refine ev_pos (by omega) ?_
          by_cases h2 : k > 0
          · refine ev_pos (by omega) ?_
            rw [if_pos (.inl ⟨h2, h3⟩)]
            exact Ev.now _
          · refine ev_neg (by omega) ?_
            by_cases h4 : m > 2147483647
            · refine ev_pos (by omega) ?_
              rw [if_pos (.inr h4)]
              exact Ev.now _
            · refine ev_neg (by omega) ?_
              rw [if_neg (by omega)]
              exact Ev.now _
        · refine ev_neg (by omega) ?_
          by_cases h4 : m > 2147483647
          · refine ev_pos (by omega) ?_
            rw [if_pos (.inr h4)]
            exact Ev.now _
          · refine ev_neg (by omega) ?_
            rw [if_neg (by omega)]
            exact Ev.now _
      · refine ev_pos (by omega) ?_
        rw [if_neg h1]
        exact e11
    · refine ev_neg (by simp; omega) ?_
      rw [if_neg hin]
      exact Ev.now _
theorem impl_GetNum_ev (b : List Int) (a : Int) (hl : b.length ≤ 140737488351232) (hb : ∀ x ∈ b, 0 ≤ x ∧ x ≤ 255) : Ev (fun k => impl_GetNum.f k b a) (getNum b a) := by
  unfold impl_GetNum.f getNum
  by_cases h : 0 ≤ a ∧ a ≤ b.length
  · rw [if_pos h.1]
    refine ev_eq (a := true) (by unfold impl_within.f; rw [if_pos (by omega)]; simp; omega) (ev_pos rfl ?_)
    obtain ⟨n, rfl⟩ := Int.eq_ofNat_of_zero_le h.1
    exact impl_getNum_l b hl hb n (by omega) 5 0 0 (by omega) gOk_zero
  · refine ev_eq (a := false) (by unfold impl_within.f; split <;> simp <;> omega) (ev_neg (by simp) (ev_cast (Ev.now _) ?_))
    by_cases h0 : 0 ≤ a
    · rw [if_pos h0, getGo_out b a.toNat (by omega)]
    · rw [if_neg h0]

theorem getGo_ok (b : List Int) (a : Nat) (f : Nat) : ∀ k n, (getGo b a f k n).2.2 = true → 0 ≤ (getGo b a f k n).1 ∧ (getGo b a f k n).1 ≤ 2147483647 ∧ (a : Int) < (getGo b a f k n).2.1 ∧ (getGo b a f k n).2.1 ≤ b.length := by
  induction f with
  | zero =>
    intro k n h
    simp [getGo] at h
  | succ f ih =>
    intro k n h
    rw [getGo] at h ⊢
    by_cases h1 : a + k < b.length
    · rw [if_pos h1] at h ⊢
      by_cases h2 : (b.getD (a + k) 0).toNat < 128
      · rw [if_pos h2] at h ⊢
        split at h
        · simp at h
        · rename_i h3
          rw [if_neg h3]
          refine ⟨by omega, ?_, ?_, ?_⟩ <;> dsimp only <;> omega
      · rw [if_neg h2] at h ⊢
        exact ih _ _ h
    · rw [if_neg h1] at h
      simp at h
theorem getNum_ok (b : List Int) (a : Int) (h : (getNum b a).2.2 = true) : 0 ≤ (getNum b a).1 ∧ (getNum b a).1 ≤ 2147483647 ∧ 0 ≤ a ∧ a < (getNum b a).2.1 ∧ (getNum b a).2.1 ≤ b.length := by
  unfold getNum at h ⊢
  by_cases h0 : 0 ≤ a
  · rw [if_pos h0] at h ⊢
    have := getGo_ok b a.toNat 5 0 0 h
    omega
  · rw [if_neg h0] at h
    simp at h
theorem getGo_no (b : List Int) (a : Nat) (f : Nat) : ∀ k n, (getGo b a f k n).2.2 = false → getGo b a f k n = (0, 0, false) := by
  induction f with
  | zero => intro k n _; rfl
  | succ f ih =>
    intro k n h
    rw [getGo] at h ⊢
    split
    · rename_i h1
      rw [if_pos h1] at h
      split
      · rename_i h2
        rw [if_pos h2] at h
        split
        · rfl
        · rename_i h3
          rw [if_neg h3] at h
          simp at h
      · rename_i h2
        rw [if_neg h2] at h
        exact ih _ _ h
    · rfl
theorem getNum_no (b : List Int) (a : Int) (h : (getNum b a).2.2 = false) : getNum b a = (0, 0, false) := by
  unfold getNum at h ⊢
  split
  · rename_i h0
    rw [if_pos h0] at h
    exact getGo_no _ _ _ _ _ h
  · rfl
def getText (b : List Int) (a : Int) : ByteArray × Int × Bool :=
  if (getNum b a).2.2 = true then
    (if (getNum b a).1 > (b.length : Int) - (getNum b a).2.1 then ((⟨#[]⟩ : ByteArray), 0, false)
     else (strOfNums ((b.take ((getNum b a).2.1 + (getNum b a).1).toNat).drop (getNum b a).2.1.toNat), (getNum b a).2.1 + (getNum b a).1, true))
  else ((⟨#[]⟩ : ByteArray), 0, false)

theorem impl_GetText_ev (b : List Int) (a : Int) (hl : b.length ≤ 140737488351232) (hb : ∀ x ∈ b, 0 ≤ x ∧ x ≤ 255) : Ev (fun k => impl_GetText.f k b a) (getText b a) := by
  unfold impl_GetText.f getText
  refine Ev.bind (impl_GetNum_ev b a hl hb) ?_
  by_cases h : (getNum b a).2.2 = true
  · have hk := getNum_ok b a h
    rw [wrap_in (x := (b.length : Int) - (getNum b a).2.1) (by omega) (by omega), wrap_in (x := (getNum b a).2.1 + (getNum b a).1) (by omega) (by omega)]
    simp only [if_pos h]
    by_cases h2 : (getNum b a).1 > (b.length : Int) - (getNum b a).2.1
    · simp only [if_pos h2]
      exact Ev.now _
    · simp only [if_neg h2]
      exact ev_pos (by omega) (ev_pos (by omega) (ev_pos (by omega) (Ev.now _)))
  · simp only [if_neg h]
    exact Ev.now _

theorem and255_any (x : Int) : 0 ≤ Go.bits .and .i64 x 255 ∧ Go.bits .and .i64 x 255 ≤ 255 := by
  have h : (BitVec.ofInt 64 x &&& BitVec.ofInt 64 255).toNat ≤ 255 := by
    rw [BitVec.toNat_and]
    exact Nat.le_trans Nat.and_le_right (by decide)
  have e : Go.bits .and .i64 x 255 = IntKind.i64.wrap ((BitVec.ofInt 64 x &&& BitVec.ofInt 64 255).toNat : Int) := rfl
  rw [e, wraps_i64 _ (by omega) (by omega)]
  omega
theorem l1Byte_some (l : List Int) (i h : Int) (hl : l.length ≤ 140737488351232) (h0 : 0 ≤ i) (h1 : i ≤ l.length) :
    ∃ b j h', spec_l1Byte.f l i h = some (b, j, h') ∧ 0 ≤ b ∧ b ≤ 255 ∧ 0 ≤ j ∧ j ≤ l.length := by
  unfold spec_l1Byte.f
  by_cases c : i < (l.length : Int)
  · rw [if_pos c, if_pos h0]
    refine ⟨_, _, _, rfl, (and255_any _).1, (and255_any _).2, ?_, ?_⟩ <;> rw [wrap_up h0 (by omega)] <;> omega
  · rw [if_neg c]
    exact ⟨_, _, _, rfl, (and255_any _).1, (and255_any _).2, h0, h1⟩
theorem tmod_range (x n : Int) (hx : 0 ≤ x) (hn : 0 < n) : 0 ≤ Int.tmod x n ∧ Int.tmod x n < n := by
  rw [Int.tmod_eq_emod_of_nonneg hx]
  exact ⟨Int.emod_nonneg _ (by omega), Int.emod_lt_of_pos _ hn⟩
theorem l1Below_some (l : List Int) (i h n : Int) (hl : l.length ≤ 140737488351232) (h0 : 0 ≤ i) (h1 : i ≤ l.length) :
    ∃ v j h', spec_l1Below.f l i h n = some (v, j, h') ∧ 0 ≤ v ∧ (0 < n → v < n) ∧ (n ≤ 0 → v = 0) ∧ 0 ≤ j ∧ j ≤ l.length := by
  unfold spec_l1Below.f
  by_cases c : n ≤ 0
  · rw [if_pos c]
    exact ⟨_, _, _, rfl, by omega, by omega, fun _ => rfl, h0, h1⟩
  · rw [if_neg c]
    by_cases c2 : n ≤ 256
    · rw [if_pos c2]
      obtain ⟨b, j, h', e, hb0, hb1, hj0, hj1⟩ := l1Byte_some l i h hl h0 h1
      rw [e]
      simp only [Option.bind_some]
      rw [if_neg (by omega)]
      have := tmod_range b n hb0 (by omega)
      exact ⟨_, _, _, rfl, this.1, fun _ => this.2, by omega, hj0, hj1⟩
    · rw [if_neg c2]
      obtain ⟨b1, j1, g1, e1, hb1, hb1', hj1, hj1'⟩ := l1Byte_some l i h hl h0 h1
      obtain ⟨b2, j2, g2, e2, hb2, hb2', hj2, hj2'⟩ := l1Byte_some l j1 g1 hl hj1 hj1'
      obtain ⟨b3, j3, g3, e3, hb3, hb3', hj3, hj3'⟩ := l1Byte_some l j2 g2 hl hj2 hj2'
      obtain ⟨b4, j4, g4, e4, hb4, hb4', hj4, hj4'⟩ := l1Byte_some l j3 g3 hl hj3 hj3'
      simp only [e1, e2, e3, e4, Option.bind_some]
      rw [if_neg (by omega)]
      rw [wrap_in (x := b1 * 16777216) (by omega) (by omega), wrap_in (x := b2 * 65536) (by omega) (by omega), wrap_in (x := b3 * 256) (by omega) (by omega), wrap_in (x := b1 * 16777216 + b2 * 65536) (by omega) (by omega), wrap_in (x := b1 * 16777216 + b2 * 65536 + b3 * 256) (by omega) (by omega), wrap_in (x := b1 * 16777216 + b2 * 65536 + b3 * 256 + b4) (by omega) (by omega)]
      have := tmod_range (b1 * 16777216 + b2 * 65536 + b3 * 256 + b4) n (by omega) (by omega)
      exact ⟨_, _, _, rfl, this.1, fun _ => this.2, by omega, hj4, hj4'⟩
theorem l1New_ev (l : List Int) (hl : l.length ≤ 140737488351232) : ∃ h, Ev (fun k => spec_l1New.f k l) (l, 0, h) := by
  unfold spec_l1New.f
  have key : ∀ (d : Nat) (i : Nat) (x : Int), i + d = l.length → ∃ h, Ev (fun k => spec_l1New.l0 k l x (i : Int)) (l, 0, h) := by
    intro d
    induction d with
    | zero =>
      intro i x hi
      refine ⟨x, ev_shift ?_⟩
      simp only [spec_l1New.l0]
      exact ev_neg (by omega) (Ev.now _)
    | succ d ih =>
      intro i x hi
      by_cases c : (i : Int) < 4000
      · obtain ⟨h, e⟩ := ih (i + 1) (Go.bits .and .i64 (wrap64 ((wrap64 ((wrap64 (x * 131)) + (wrap64 (rd l (i : Int))))) + 7)) 1073741823) (by omega)
        refine ⟨h, ev_shift ?_⟩
        simp only [spec_l1New.l0]
        refine ev_pos (by omega) (ev_pos c (ev_pos (by omega) ?_))
        rw [wrap_nat (by omega)]
        exact e
      · refine ⟨x, ev_shift ?_⟩
        simp only [spec_l1New.l0]
        exact ev_pos (by omega) (ev_neg c (Ev.now _))
  exact key l.length 0 _ (by omega)

theorem l1PickInt_some (l : List Int) (i h : Int) (xs : List Int) (hl : l.length ≤ 140737488351232) (h0 : 0 ≤ i) (h1 : i ≤ l.length) (hx : 0 < xs.length) :
    ∃ v j h', spec_l1PickInt.f l i h xs = some (v, j, h') ∧ v ∈ xs ∧ 0 ≤ j ∧ j ≤ l.length := by
  unfold spec_l1PickInt.f
  obtain ⟨v, j, h', e, hv0, hv1, _, hj0, hj1⟩ := l1Below_some l i h xs.length hl h0 h1
  rw [e]
  simp only [Option.bind_some]
  have hv := hv1 (by omega)
  rw [if_pos hv0, if_pos hv]
  refine ⟨_, _, _, rfl, ?_, hj0, hj1⟩
  exact getD_mem 0 xs v.toNat (by omega)

theorem l1Pick_some (l : List Int) (i h : Int) (xs : List ByteArray) (hl : l.length ≤ 140737488351232) (h0 : 0 ≤ i) (h1 : i ≤ l.length) (hx : 0 < xs.length) :
    ∃ v j h', spec_l1Pick.f l i h xs = some (v, j, h') ∧ v ∈ xs ∧ 0 ≤ j ∧ j ≤ l.length := by
  unfold spec_l1Pick.f
  obtain ⟨v, j, h', e, hv0, hv1, _, hj0, hj1⟩ := l1Below_some l i h xs.length hl h0 h1
  rw [e]
  simp only [Option.bind_some]
  have hv := hv1 (by omega)
  rw [if_pos hv0, if_pos hv]
  refine ⟨_, _, _, rfl, ?_, hj0, hj1⟩
  exact getD_mem ByteArray.empty xs v.toNat (by omega)

theorem drop_getD {α : Type} (d : α) (l : List α) (i : Nat) (x : α) (r : List α) (h : l.drop i = x :: r) : i < l.length ∧ l.getD i d = x ∧ l.drop (i + 1) = r := by
  have hi : i < l.length := by
    apply Nat.lt_of_not_le
    intro hle
    rw [List.drop_eq_nil_of_le hle] at h
    cases h
  rw [drop_cons d l i hi] at h
  injection h with h1 h2
  exact ⟨hi, h1, h2⟩
theorem pow_split (n k : Nat) : n % 128 * 2 ^ (7 * k) + n / 128 * 2 ^ (7 * (k + 1)) = n * 2 ^ (7 * k) := by
  have e2 : 2 ^ (7 * (k + 1)) = 128 * 2 ^ (7 * k) := by rw [Nat.mul_add, Nat.pow_add, Nat.mul_comm]
  rw [e2, ← Nat.mul_assoc, ← Nat.add_mul]
  congr 1
  omega
theorem getGo_put (b : List Int) (a : Nat) (rest : List Int) (f : Nat) : ∀ (k m n : Nat), k + f = 5 → b.drop (a + k) = putNat n ++ rest → m + n * 2 ^ (7 * k) ≤ 2147483647 → (k = 0 ∨ 0 < n) →
    getGo b a f k m = (((m + n * 2 ^ (7 * k) : Nat) : Int), ((a + k + (putNat n).length : Nat) : Int), true) := by
  induction f with
  | zero =>
    intro k m n hk hd hm hz
    obtain rfl : k = 5 := by omega
    have h5 : (2 : Nat) ^ (7 * 5) = 34359738368 := by decide
    rw [h5] at hm
    omega
  | succ f ih =>
    intro k m n hk hd hm hz
    rw [getGo]
    by_cases hn : n < 128
    · rw [putNat_small hn] at hd ⊢
      obtain ⟨hi, hg, _⟩ := drop_getD 0 b (a + k) (n : Int) rest hd
      have ea : gAcc m n k = m + n * 2 ^ (7 * k) := by unfold gAcc; rw [Nat.mod_eq_of_lt hn]
      rw [if_pos hi, hg, Int.toNat_natCast, if_pos hn, ea]
      generalize m + n * 2 ^ (7 * k) = z at hm ⊢
      rw [if_neg (by omega)]
      rfl
    · rw [putNat_big hn] at hd ⊢
      obtain ⟨hi, hg, hr⟩ := drop_getD 0 b (a + k) _ _ hd
      have ea : gAcc m (n % 128 + 128) k = m + n % 128 * 2 ^ (7 * k) := by unfold gAcc; rw [show (n % 128 + 128) % 128 = n % 128 from by omega]
      rw [if_pos hi, hg, Int.toNat_natCast, if_neg (by omega), ea]
      have e := pow_split n k
      have hs : (m + n % 128 * 2 ^ (7 * k)) + n / 128 * 2 ^ (7 * (k + 1)) = m + n * 2 ^ (7 * k) := by rw [Nat.add_assoc, e]
      rw [ih (k + 1) (m + n % 128 * 2 ^ (7 * k)) (n / 128) (by omega) hr (by rw [hs]; exact hm) (by omega), hs]
      refine Prod.ext rfl (Prod.ext ?_ rfl)
      dsimp only
      simp only [List.length_cons]
      congr 1
      omega
theorem getNum_put (b : List Int) (a : Nat) (n : Nat) (rest : List Int) (hd : b.drop a = putNat n ++ rest) (hn : n ≤ 2147483647) : getNum b (a : Int) = ((n : Int), ((a + (putNat n).length : Nat) : Int), true) := by
  unfold getNum
  rw [if_pos (by omega), Int.toNat_natCast]
  have := getGo_put b a rest 5 0 0 n (by omega) (by simpa using hd) (by simpa using hn) (.inl rfl)
  simpa using this

theorem drawPutNum_ev (l : List Int) (hl : l.length ≤ 140737488351232) : ∃ n : Int, Ev (fun k => spec_DrawPutNum.f k l) n ∧ (0 ≤ n ∧ n ≤ 2147483647 ∨ n < 0 ∨ 2147483647 < n) := by
  obtain ⟨h, e⟩ := l1New_ev l hl
  unfold spec_DrawPutNum.f
  obtain ⟨v, j, h', e2, _, _, _⟩ := l1PickInt_some l 0 h [0, 1, 127, 128, 300, 16384, 2147483647, 2147483648, (-1), 9223372036854775807] hl (by omega) (by omega) (by simp)
  refine ⟨v, Ev.bind e (ev_eq e2 (Ev.now _)), by omega⟩
theorem drawPutText_ev (l : List Int) (hl : l.length ≤ 140737488351232) : ∃ s : ByteArray, Ev (fun k => spec_DrawPutText.f k l) s ∧ s.size ≤ 9 := by
  obtain ⟨h, e⟩ := l1New_ev l hl
  unfold spec_DrawPutText.f
  obtain ⟨v, j, h', e2, hm, _, _⟩ := l1Pick_some l 0 h [(⟨#[]⟩ : ByteArray), (⟨#[97]⟩ : ByteArray), (⟨#[116, 119, 111, 32, 119, 111, 114, 100, 115]⟩ : ByteArray), (⟨#[0, 255]⟩ : ByteArray)] hl (by omega) (by omega) (by simp)
  refine ⟨v, Ev.bind e (ev_eq e2 (Ev.now _)), ?_⟩
  simp only [List.mem_cons, List.not_mem_nil, or_false] at hm
  rcases hm with rfl | rfl | rfl | rfl <;> decide
def putText (s : ByteArray) : List Int := putNum s.size ++ bytesOf s
theorem impl_PutText_ev (s : ByteArray) (hs : s.size ≤ 1048576) : Ev (fun k => impl_PutText.f k s) (putText s) := by
  unfold impl_PutText.f
  have := putNum_length (s.size : Int)
  exact Ev.bind (impl_PutNum_ev _) (ev_pos (by omega) (Ev.now _))
theorem strOf_bytesOf (s : ByteArray) : strOfNums (bytesOf s) = s := by
  cases s with
  | mk d =>
    simp only [strOfNums, bytesOf, ByteArray.mk.injEq, List.map_map]
    apply Array.toList_inj.mp
    rw [List.toList_toArray]
    rw [show ((fun n : Int => UInt8.ofNat n.toNat) ∘ fun b : UInt8 => (b.toNat : Int)) = id from by funext b; simp]
    simp
theorem at0_some (l : List Int) (i : Int) (hb : ∀ x ∈ l, 0 ≤ x ∧ x ≤ 255) (hl : l.length ≤ 1048576) (h0 : 0 ≤ i) (h1 : i ≤ 1000) : ∃ v, laws_at0.f l i = some v ∧ 0 ≤ v ∧ v ≤ 255 := by
  unfold laws_at0.f
  by_cases c : i < (l.length : Int)
  · rw [if_pos c, if_pos h0]
    obtain ⟨n, rfl⟩ := Int.eq_ofNat_of_zero_le h0
    have := hb _ (getD_mem 0 l n (by omega))
    rw [rd_nat, wrap_in (by omega) (by omega)]
    exact ⟨_, rfl, this.1, this.2⟩
  · rw [if_neg c, wrap_in (x := i * 7) (by omega) (by omega), wrap_in (x := i * 7 + (l.length : Int)) (by omega) (by omega)]
    have := tmod_range (i * 7 + (l.length : Int)) 256 (by omega) (by omega)
    exact ⟨_, rfl, this.1, by omega⟩
theorem xor_cancel {a b c : Nat} (h : a ^^^ c = b ^^^ c) : a = b := by
  have e := congrArg (fun z => z ^^^ c) h
  simpa only [Nat.xor_assoc, Nat.xor_self, Nat.xor_zero] using e
theorem poly_bit : Nat.testBit 3988292384 31 = true := by decide
theorem crcBit_inj {x y : Nat} (hx : x < 4294967296) (hy : y < 4294967296) (h : crcBit x = crcBit y) : x = y := by
  have key : ∀ a b : Nat, a < 4294967296 → b < 4294967296 → (a / 2) ^^^ 3988292384 ≠ b / 2 := by
    intro a b ha hb e
    have e2 := congrArg (fun z => Nat.testBit z 31) e
    simp only [Nat.testBit_xor, poly_bit] at e2
    rw [Nat.testBit_lt_two_pow (show a / 2 < 2 ^ 31 by omega), Nat.testBit_lt_two_pow (show b / 2 < 2 ^ 31 by omega)] at e2
    simp at e2
  unfold crcBit at h
  by_cases cx : x % 2 = 1
  · by_cases cy : y % 2 = 1
    · rw [if_pos cx, if_pos cy] at h
      have h2 : x / 2 = y / 2 := xor_cancel h
      omega
    · rw [if_pos cx, if_neg cy] at h
      exact absurd h (key x y hx hy)
  · by_cases cy : y % 2 = 1
    · rw [if_neg cx, if_pos cy] at h
      exact absurd h.symm (key y x hy hx)
    · rw [if_neg cx, if_neg cy] at h
      omega
theorem crcBits_inj (n : Nat) : ∀ {x y : Nat}, x < 4294967296 → y < 4294967296 → crcBits n x = crcBits n y → x = y := by
  induction n with
  | zero => intro x y _ _ h; exact h
  | succ n ih =>
    intro x y hx hy h
    exact crcBit_inj hx hy (ih (crcBit_lt hx) (crcBit_lt hy) h)
theorem crcFrom_inj (l : List Int) : (∀ v ∈ l, 0 ≤ v ∧ v ≤ 255) → ∀ {x y : Nat}, x < 4294967296 → y < 4294967296 → crcFrom l x = crcFrom l y → x = y := by
  induction l with
  | nil => intro _ x y _ _ h; exact h
  | cons v l ih =>
    intro hv x y hx hy h
    have hv0 := hv v List.mem_cons_self
    have hb : v.toNat < 4294967296 := by omega
    have := ih (fun z hz => hv z (List.mem_cons_of_mem _ hz)) (crcBits_lt 8 (xor_lt32 hx hb)) (crcBits_lt 8 (xor_lt32 hy hb)) h
    have := crcBits_inj 8 (xor_lt32 hx hb) (xor_lt32 hy hb) this
    exact xor_cancel this
theorem crcFrom_append (l m : List Int) : ∀ x, crcFrom (l ++ m) x = crcFrom m (crcFrom l x) := by
  induction l with
  | nil => intro x; rfl
  | cons v l ih => intro x; exact ih _
theorem crcFrom_lt (l : List Int) : (∀ v ∈ l, 0 ≤ v ∧ v ≤ 255) → ∀ {x : Nat}, x < 4294967296 → crcFrom l x < 4294967296 := by
  induction l with
  | nil => intro _ x hx; exact hx
  | cons v l ih =>
    intro hv x hx
    have hv0 := hv v List.mem_cons_self
    exact ih (fun z hz => hv z (List.mem_cons_of_mem _ hz)) (crcBits_lt 8 (xor_lt32 hx (by omega)))
theorem crc_set_ne (l : List Int) (i : Nat) (v : Int) (hi : i < l.length) (hl : ∀ z ∈ l, 0 ≤ z ∧ z ≤ 255) (hv : 0 ≤ v ∧ v ≤ 255) (hne : v ≠ l.getD i 0) : crc (l.set i v) ≠ crc l := by
  have e1 : l = l.take i ++ (l.getD i 0 :: l.drop (i + 1)) := by rw [← drop_cons 0 l i hi, List.take_append_drop]
  have e2 : l.set i v = l.take i ++ (v :: l.drop (i + 1)) := by rw [List.set_eq_take_append_cons_drop, if_pos hi]
  have hu := hl _ (getD_mem 0 l i hi)
  generalize l.getD i 0 = u at *
  have ht : ∀ z ∈ l.take i, 0 ≤ z ∧ z ≤ 255 := fun z hz => hl z (List.mem_of_mem_take hz)
  have hd : ∀ z ∈ l.drop (i + 1), 0 ≤ z ∧ z ≤ 255 := fun z hz => hl z (List.mem_of_mem_drop hz)
  intro h
  unfold crc at h
  have h2 : crcFrom (l.set i v) 4294967295 ^^^ 4294967295 = crcFrom l 4294967295 ^^^ 4294967295 := by exact_mod_cast h
  have h3 := xor_cancel h2
  rw [e2] at h3
  rw [show crcFrom l 4294967295 = crcFrom (l.take i ++ (u :: l.drop (i + 1))) 4294967295 from by rw [← e1]] at h3
  rw [crcFrom_append, crcFrom_append] at h3
  have hs := crcFrom_lt (l.take i) ht (x := 4294967295) (by omega)
  generalize crcFrom (l.take i) 4294967295 = s at h3 hs
  simp only [crcFrom] at h3
  have hv2 : v.toNat < 4294967296 := by omega
  have hu2 : u.toNat < 4294967296 := by omega
  have h4 := crcFrom_inj _ hd (crcBits_lt 8 (xor_lt32 hs hv2)) (crcBits_lt 8 (xor_lt32 hs hu2)) h3
  have h5 := crcBits_inj 8 (xor_lt32 hs hv2) (xor_lt32 hs hu2) h4
  have h6 : v.toNat = u.toNat := by
    rw [Nat.xor_comm s, Nat.xor_comm s] at h5
    exact xor_cancel h5
  omega
theorem numbers_j1 (l x : List Int) (hl : l.length ≤ 1048576) (hb : ∀ z ∈ l, 0 ≤ z ∧ z ≤ 255) (hx : ∀ z ∈ x, 0 ≤ z ∧ z ≤ 255) (hn : 0 < x.length) (hm : x.length ≤ 2000000) : Ev (fun k => laws_FnNumbers.j1 k l x false) true := by
  apply ev_shift
  simp only [laws_FnNumbers.j1]
  refine ev_neg (by simp) (ev_some (ev_pos (by simp; omega) (ev_some ?_)))
  obtain ⟨v, ev, hv0, hv1⟩ := at0_some l 3 hb hl (by omega) (by omega)
  obtain ⟨c, ec, hc0, hc1⟩ := at0_some l 4 hb hl (by omega) (by omega)
  refine ev_eq ev (ev_neg (by omega) ?_)
  have hr := tmod_range v x.length hv0 (by omega)
  refine ev_pos hr.1 (ev_pos (by simp; omega) (ev_eq ec ?_))
  have hc := tmod_range c 255 hc0 (by omega)
  obtain ⟨i, hi⟩ := Int.eq_ofNat_of_zero_le hr.1
  rw [hi] at hr ⊢
  rw [wrap_in (x := 1 + Int.tmod c 255) (by omega) (by omega), Int.toNat_natCast, List.nil_append, rd_nat]
  have hi2 : i < x.length := by omega
  have hu := hx _ (getD_mem 0 x i hi2)
  have hw : ∀ z ∈ x.set i ((x.getD i 0 + (1 + Int.tmod c 255) % 256) % 256), 0 ≤ z ∧ z ≤ 255 := by
    intro z hz
    rcases List.mem_or_eq_of_mem_set hz with hz | rfl
    · exact hx z hz
    · omega
  refine Ev.bind (impl_Crc_ev _ (by rw [List.length_set]; omega) hw) (Ev.bind (impl_Crc_ev x (by omega) hx) (ev_neg ?_ (Ev.bind (impl_Crc_ev x (by omega) hx) ?_)))
  · exact crc_set_ne x i _ hi2 hx (by omega) (by omega)
  · refine ev_cast (Ev.now _) ?_
    simp only [crc, ge_iff_le, decide_eq_true_eq]
    omega
theorem getText_put (b : List Int) (a : Nat) (s : ByteArray) (hs : s.size ≤ 2147483647) (hd : b.drop a = putText s) (ha : a ≤ b.length) : getText b (a : Int) = (s, (b.length : Int), true) := by
  unfold putText putNum at hd
  rw [if_pos (by omega), Int.toNat_natCast] at hd
  have hg := getNum_put b a s.size (bytesOf s) hd hs
  have hlen : b.length = a + (putNat s.size).length + s.size := by
    have := congrArg List.length hd
    rw [List.length_drop, List.length_append, bytesOf_length] at this
    omega
  unfold getText
  rw [hg]
  dsimp only
  rw [if_pos rfl, if_neg (by omega)]
  have e1 : (((a + (putNat s.size).length : Nat) : Int) + (s.size : Int)).toNat = b.length := by omega
  rw [e1, Int.toNat_natCast, List.take_length, ← List.drop_drop, hd, List.drop_left, strOf_bytesOf]
  refine Prod.ext rfl (Prod.ext ?_ rfl)
  dsimp only
  omega
theorem numbers_j0 (l x : List Int) (s : ByteArray) (a : Nat) (hl : l.length ≤ 1048576) (hb : ∀ z ∈ l, 0 ≤ z ∧ z ≤ 255) (hx : ∀ z ∈ x, 0 ≤ z ∧ z ≤ 255) (hn : 0 < x.length) (hm : x.length ≤ 2000000)
    (hs : s.size ≤ 9) (hd : x.drop a = putText s) (ha : a ≤ x.length) : Ev (fun k => laws_FnNumbers.j0 k l s x (a : Int)) true := by
  apply ev_shift
  simp only [laws_FnNumbers.j0]
  refine Ev.bind (impl_GetText_ev x a (by omega) hx) ?_
  rw [getText_put x a s (by omega) hd ha]
  refine ev_pos rfl (ev_pos rfl ?_)
  rw [show (((x.length : Int) != (x.length : Int)) = false) from by simp]
  exact numbers_j1 l x hl hb hx hn hm
theorem FnNumbers : laws_FnNumbers.Pure := by
  intro l _ hl hw
  have hl' : l.length ≤ 140737488351232 := by omega
  have hb : ∀ x ∈ l, 0 ≤ x ∧ x ≤ 255 := fun x hx => bounds_u8 (hw x hx)
  apply Ev.rounds (g := fun k => laws_FnNumbers.f k l)
  unfold laws_FnNumbers.f laws_big.f
  by_cases h : (l.length : Int) > 1048576
  · exact ev_some (ev_pos (by simpa using h) (Ev.now _))
  · refine ev_some (ev_neg (by simpa using h) ?_)
    obtain ⟨n, en, hn⟩ := drawPutNum_ev l hl'
    obtain ⟨s, es, hs⟩ := drawPutText_ev l hl'
    have hp := putNum_length n
    have hq := putNum_length (s.size : Int)
    have hpt : (putText s).length ≤ 14 := by unfold putText; rw [List.length_append, bytesOf_length]; omega
    refine Ev.bind en (Ev.bind es (Ev.bind (impl_PutNum_ev n) (ev_some (ev_pos (by simp only [List.length_cons, List.length_nil]; omega) (ev_some (Ev.bind (impl_PutText_ev s (by omega)) (ev_pos (by simp only [List.length_append, List.length_cons, List.length_nil]; omega) (ev_some (Ev.bind (spec_PutNum_ev n) ?_)))))))))
    have hxb : ∀ z ∈ ([7] ++ putNum n ++ putText s : List Int), 0 ≤ z ∧ z ≤ 255 := by
      intro z hz
      rw [List.mem_append, List.mem_append] at hz
      have hpn : ∀ m : Int, ∀ z ∈ putNum m, 0 ≤ z ∧ z ≤ 255 := by
        intro m z hz
        unfold putNum at hz
        split at hz
        · exact putNat_range _ z hz
        · cases hz
      rcases hz with (hz | hz) | hz
      · simp at hz
        omega
      · exact hpn n z hz
      · unfold putText at hz
        rw [List.mem_append] at hz
        rcases hz with hz | hz
        · exact hpn _ z hz
        · exact bytesOf_range s z hz
    have hlen : ([7] ++ putNum n ++ putText s : List Int).length = 1 + (putNum n).length + (putText s).length := by simp only [List.length_append, List.length_cons, List.length_nil]
    have hdrop : ([7] ++ putNum n ++ putText s : List Int).drop (1 + (putNum n).length) = putText s := by
      rw [List.append_assoc, ← List.append_assoc]
      have : ([7] ++ putNum n : List Int).length = 1 + (putNum n).length := by simp only [List.length_append, List.length_cons, List.length_nil]
      rw [← this, List.drop_left]
    by_cases c : 0 ≤ n ∧ n ≤ 2147483647
    · obtain ⟨m, rfl⟩ := Int.eq_ofNat_of_zero_le c.1
      have epn : putNum (m : Int) = putNat m := by unfold putNum; rw [if_pos c, Int.toNat_natCast]
      have hpos := (putNat_length m).2
      rw [epn] at hp hxb hlen hdrop ⊢
      refine ev_pos (by omega) (Ev.bind (impl_GetNum_ev _ 1 (by omega) hxb) ?_)
      have hg := getNum_put ([7] ++ putNat m ++ putText s) 1 m (putText s) (by simp) (by omega)
      rw [Int.natCast_one] at hg
      rw [hg]
      refine ev_pos rfl (ev_pos rfl (ev_pos ?_ ?_))
      · rw [wrap_in (by omega) (by omega)]
        dsimp only
        omega
      · exact numbers_j0 l _ s _ (by omega) hb hxb (by omega) (by omega) hs hdrop (by omega)
    · have epn : putNum n = [] := by unfold putNum; rw [if_neg c]
      rw [epn] at hp hxb hlen hdrop ⊢
      refine ev_neg (by simp) (ev_pos (by simp) ?_)
      exact numbers_j0 l _ s 1 (by omega) hb hxb (by omega) (by omega) hs hdrop (by omega)

end Go.Proofs.Ytiigjgdnpmpplaa.Pure
namespace Go.Proofs.Ytiigjgdnpmpplaa
open Go.ChangeShapes Go.WideShapes
/-- The printed row names it so. -/
theorem PrintWords.sized_ints {H : Type} {enc : TypeId × Value → H} {P : Program} {W : World} {base : Nat} {spare : Nat → Bool} {held : Bool} {t e : TypeId} {k : IntKind} {a : Option Addr} {len cap : Nat} {d : DataW H} {ps : List MemPlace} {ts : List TypeId} {ds : List (DataW H)} {j : Nat}
    (hsz : (DataW.weightsEach P ts ds).all (· ≤ reachBytes) = true) (ht : ts[j]? = some t) (hd : ds[j]? = some d) (hu : P.underlying t = some (.slice e)) (he : P.underlying e = some (.int k)) (hc : P.cellsOf e = 1) {B : Nat} (hB : P.bytesOf e = B)
    (h : DataW.Trod enc P W base spare held t (.slice a len cap) d ps) : len * B ≤ 140737488351232 :=
  Go.Proofs.YtiigjgdnpmpplaaW.PrintWords.sized_ints hsz ht hd hu he hc hB h
end Go.Proofs.Ytiigjgdnpmpplaa
