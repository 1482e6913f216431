/- FnHeads: the law's function of the print answers true for every input within the row's bounds. Conditions: none but the bounds that the row itself gives. -/
import Derived.Laws.BytesArg
import Derived.Lib.SmallJoins
import Derived.Test.YtfpfdiagmnajaaaPFnHeadsx6
import Derived.OpenShut
import Derived.Laws.BitsLemmas
import Derived.Test.YtfpfdiagmnajaaaWSized
import Derived.Test.YtfpfdiagmnajaaaWSized
namespace Go.Proofs.Ytfpfdiagmnajaaa.Pure
open Go Go.RowKit Go.Proofs.Ytfpfdiagmnajaaa.PFnHeads Go.Proofs.YtfpfdiagmnajaaaW.PrintWords Go.Proofs.YtfpfdiagmnajaaaW.PrintLast Go.Proofs.YtfpfdiagmnajaaaW.PrintMore Go.Proofs.YtfpfdiagmnajaaaW.PrintMore Go.Proofs.YtfpfdiagmnajaaaW.PrintMore
set_option linter.unusedVariables false
set_option linter.unusedSimpArgs false

theorem ev_shift {α : Type} {g : Nat → Option α} {r : α} (h : Ev (fun k => g (k + 1)) r) : Ev g r := Ev.step (f := fun k => g (k + 1)) (fun _ => rfl) h
theorem ev_unshift {α : Type} {g : Nat → Option α} {r : α} (h : Ev g r) : Ev (fun k => g (k + 1)) r := by
  obtain ⟨K, h⟩ := h
  exact ⟨K, fun k hk => h (k + 1) (by omega)⟩
theorem ev_pos {α : Type} {c : Prop} [Decidable c] {f g : Nat → Option α} {r : α} (h : c) (e : Ev f r) : Ev (fun k => if c then f k else g k) r := by
  simpa only [if_pos h] using e
theorem ev_neg {α : Type} {c : Prop} [Decidable c] {f g : Nat → Option α} {r : α} (h : ¬ c) (e : Ev g r) : Ev (fun k => if c then f k else g k) r := by
  simpa only [if_neg h] using e
theorem ev_eq {α β : Type} {o : Option α} {a : α} {f : Nat → α → Option β} {r : β} (h : o = some a) (e : Ev (fun k => f k a) r) : Ev (fun k => o.bind (f k)) r := by
  subst h
  exact e
theorem ev_some {α β : Type} {a : α} {f : Nat → α → Option β} {r : β} (e : Ev (fun k => f k a) r) : Ev (fun k => (some a).bind (f k)) r := e
theorem ev_cast {α : Type} {g : Nat → Option α} {r r' : α} (h : Ev g r) (e : r = r') : Ev g r' := e ▸ h
theorem ev_loop {ρ : Type} (L : Nat → Nat → Option ρ) (res : Nat → ρ) (n : Nat) (he : Ev (fun k => L (k + 1) n) (res n))
    (hs : ∀ i, i < n → Ev (fun k => L k (i + 1)) (res (i + 1)) → Ev (fun k => L (k + 1) i) (res i)) : ∀ i, i ≤ n → Ev (fun k => L k i) (res i) := by
  have key : ∀ d i, i + d = n → Ev (fun k => L k i) (res i) := by
    intro d
    induction d with
    | zero =>
      intro i h
      obtain rfl : i = n := by omega
      exact ev_shift he
    | succ d ih =>
      intro i h
      exact ev_shift (hs i (by omega) (ih (i + 1) (by omega)))
  intro i h
  exact key (n - i) i (by omega)
theorem wrap_in {x : Int} (h0 : -9223372036854775808 ≤ x) (h1 : x ≤ 9223372036854775807) : wrap64 x = x := by
  unfold wrap64
  omega
theorem wrap_nat {i : Nat} (h : i < 9223372036854775807) : wrap64 ((i : Int) + 1) = ((i + 1 : Nat) : Int) := by
  unfold wrap64
  omega
theorem wrap_up {i : Int} (h0 : 0 ≤ i) (h : i < 9223372036854775807) : wrap64 (i + 1) = i + 1 := by
  unfold wrap64
  omega
theorem rd_nat (xs : List Int) (i : Nat) : rd xs (i : Int) = xs.getD i 0 := by simp [rd]
theorem rdOf_nat {α : Type} (d : α) (xs : List α) (i : Nat) : rdOf d xs (i : Int) = xs.getD i d := by simp [rdOf]
theorem bt_nat (s : ByteArray) (i : Nat) : bt s (i : Int) = (bytesOf s).getD i 0 := by rw [← rd_bytesOf, rd_nat]
theorem drop_cons {α : Type} (d : α) (l : List α) (i : Nat) (h : i < l.length) : l.drop i = l.getD i d :: l.drop (i + 1) := by
  rw [List.drop_eq_getElem_cons h]
  simp [List.getD, h]
theorem getD_mem {α : Type} (d : α) (l : List α) (i : Nat) (h : i < l.length) : l.getD i d ∈ l := by
  simp [List.getD, h]
theorem bytesOf_range (s : ByteArray) : ∀ x ∈ bytesOf s, 0 ≤ x ∧ x ≤ 255 := by
  intro x hx
  simp only [bytesOf, List.mem_map] at hx
  obtain ⟨b, _, rfl⟩ := hx
  have := b.toNat_lt
  omega
theorem bt_lo (s : ByteArray) (i : Int) : 0 ≤ bt s i := (bt_range s i).1
theorem bt_hi (s : ByteArray) (i : Int) : bt s i ≤ 255 := (bt_range s i).2
theorem drop_eq {α : Type} [DecidableEq α] (d : α) (a b : List α) (i : Nat) (ha : i < a.length) (hb : i < b.length) : (a.drop i = b.drop i) ↔ (a.getD i d = b.getD i d ∧ a.drop (i + 1) = b.drop (i + 1)) := by
  rw [drop_cons d a i ha, drop_cons d b i hb]
  simp
theorem mark_step {α : Type} (d : α) (g : Nat → α) (l : List α) (i : Nat) (h : i < l.length) : ((List.range i).map g ++ l.drop i).set i (g i) = (List.range (i + 1)).map g ++ l.drop (i + 1) := by
  have hlen : ((List.range i).map g).length = i := by simp
  rw [List.set_append_right _ _ (by omega), hlen, Nat.sub_self, drop_cons d l i h, List.set_cons_zero, List.range_succ, List.map_append, List.append_assoc]
  rfl
theorem range_getD {α : Type} (d : α) (g : Nat → α) (n i : Nat) (h : i < n) : ((List.range n).map g).getD i d = g i := by
  simp [List.getD, h]
theorem copy_step {α : Type} (d : α) (l : List α) (i : Nat) (h : i < l.length) : (l.take i ++ List.replicate (l.length - i) d).set i (l.getD i d) = l.take (i + 1) ++ List.replicate (l.length - (i + 1)) d := by
  have hlen : (l.take i).length = i := by simp; omega
  rw [List.set_append_right _ _ (by omega), hlen, Nat.sub_self]
  obtain ⟨m, hm⟩ : ∃ m, l.length - i = m + 1 := ⟨l.length - i - 1, by omega⟩
  rw [hm, List.replicate_succ, List.set_cons_zero, List.take_succ_eq_append_getElem h, List.append_assoc]
  have : l.length - (i + 1) = m := by omega
  rw [this]
  simp [List.getD, h]

theorem wraps_i64 (n : Int) (h0 : 0 ≤ n) (h1 : n < 2 ^ 63) : IntKind.i64.wrap n = n := by
  rw [IntKind.wrap_i64]
  omega
theorem and127 (x : Int) (h0 : 0 ≤ x) (h1 : x < 9223372036854775808) : Go.bits .and .i64 x 127 = x % 128 :=
  bits_mask .i64 63 (by decide) wraps_i64 7 (by decide) x h0 (by omega)
theorem and255 (x : Int) (h0 : 0 ≤ x) (h1 : x < 9223372036854775808) : Go.bits .and .i64 x 255 = x % 256 :=
  bits_mask .i64 63 (by decide) wraps_i64 8 (by decide) x h0 (by omega)
theorem or_comm64 (a b : Nat) (ha : a < 2 ^ 63) (hb : b < 2 ^ 63) : Go.bits .or .i64 (a : Int) (b : Int) = Go.bits .or .i64 (b : Int) (a : Int) := by
  rw [(bits_nat .i64 63 (by decide) wraps_i64 a b ha hb).2, (bits_nat .i64 63 (by decide) wraps_i64 b a hb ha).2, Nat.or_comm]
theorem or128 (y : Int) (h0 : 0 ≤ y) (h1 : y < 128) : Go.bits .or .i64 y 128 = y + 128 := by
  obtain ⟨b, rfl⟩ := Int.eq_ofNat_of_zero_le h0
  have e3 := bits_join .i64 63 (by decide) wraps_i64 7 128 (b : Int) (by decide) (by decide) (by decide) h0 (by omega) (by omega)
  have e4 : Go.bits .or .i64 (b : Int) ((128 : Nat) : Int) = Go.bits .or .i64 ((128 : Nat) : Int) (b : Int) := or_comm64 b 128 (by omega) (by omega)
  rw [Int.cast_ofNat_Int] at e4
  rw [e4, e3]
  omega

theorem getD_set_self {α : Type} (d : α) (l : List α) (i : Nat) (v : α) (h : i < l.length) : (l.set i v).getD i d = v := by
  simp [List.getD, h]
theorem rdPut_nat (xs : List S46) (i : Nat) : rd_T46 xs (i : Int) = xs.getD i z46 := by simp [rd_T46]

theorem xor_nat (a b : Nat) (ha : a < 4294967296) (hb : b < 4294967296) : Go.bits .xor .i64 (a : Int) (b : Int) = ((a ^^^ b : Nat) : Int) := by
  have ha' : a % 2 ^ IntKind.i64.bits = a := Nat.mod_eq_of_lt (by show a < 2 ^ 64; omega)
  have hb' : b % 2 ^ IntKind.i64.bits = b := Nat.mod_eq_of_lt (by show b < 2 ^ 64; omega)
  have hx : a ^^^ b < 2 ^ 32 := Nat.xor_lt_two_pow (by omega) (by omega)
  simp only [Go.bits, BitVec.ofInt_natCast, BitVec.toNat_xor, BitVec.toNat_ofNat, ha', hb']
  exact wraps_i64 _ (Int.natCast_nonneg _) (by omega)
theorem and1 (x : Int) (h0 : 0 ≤ x) (h1 : x < 9223372036854775808) : Go.bits .and .i64 x 1 = x % 2 :=
  bits_mask .i64 63 (by decide) wraps_i64 1 (by decide) x h0 (by omega)
theorem xor_end (x : Nat) (h : x < 4294967296) : Go.bits .xor .i64 (x : Int) 4294967295 = ((x ^^^ 4294967295 : Nat) : Int) := by
  have e := xor_nat x 4294967295 h (by omega)
  simpa only [Int.cast_ofNat_Int] using e
theorem xor_poly (x : Nat) (h : x < 4294967296) : Go.bits .xor .i64 (x : Int) 3988292384 = ((x ^^^ 3988292384 : Nat) : Int) := by
  have e := xor_nat x 3988292384 h (by omega)
  simpa only [Int.cast_ofNat_Int] using e
def crcBit (x : Nat) : Nat := if x % 2 = 1 then (x / 2) ^^^ 3988292384 else x / 2
def crcBits : Nat → Nat → Nat
  | 0, x => x
  | n + 1, x => crcBits n (crcBit x)
def crcFrom : List Int → Nat → Nat
  | [], x => x
  | b :: l, x => crcFrom l (crcBits 8 (x ^^^ b.toNat))
def crc (l : List Int) : Int := ((crcFrom l 4294967295 ^^^ 4294967295 : Nat) : Int)
theorem crcBit_lt {x : Nat} (h : x < 4294967296) : crcBit x < 4294967296 := by
  unfold crcBit
  split
  · have : (x / 2) ^^^ 3988292384 < 2 ^ 32 := Nat.xor_lt_two_pow (by omega) (by omega)
    omega
  · omega
theorem crcBits_lt (n : Nat) : ∀ {x : Nat}, x < 4294967296 → crcBits n x < 4294967296 := by
  induction n with
  | zero => intro x h; exact h
  | succ n ih => intro x h; exact ih (crcBit_lt h)
theorem xor_lt32 {a b : Nat} (ha : a < 4294967296) (hb : b < 4294967296) : a ^^^ b < 4294967296 := by
  have : a ^^^ b < 2 ^ 32 := Nat.xor_lt_two_pow (by omega) (by omega)
  omega
theorem byte_nat {b : Int} (h : 0 ≤ b ∧ b ≤ 255) : ∃ n : Nat, b = n ∧ n < 4294967296 ∧ b.toNat = n := ⟨b.toNat, by omega, by omega, rfl⟩

theorem impl_crc_l (l : List Int) (hl : l.length ≤ 140737488351232) (hb : ∀ x ∈ l, 0 ≤ x ∧ x ≤ 255) (d : Nat) : ∀ (i x : Nat), i + d = l.length → x < 4294967296 →
    Ev (fun k => impl_Crc.l0 k (x : Int) l (l.length : Int) (i : Int)) ((crcFrom (l.drop i) x ^^^ 4294967295 : Nat) : Int) := by
  induction d with
  | zero =>
    intro i x hi hx
    apply ev_shift
    simp only [impl_Crc.l0]
    refine ev_neg (by omega) (ev_cast (Ev.now _) ?_)
    rw [List.drop_eq_nil_of_le (by omega)]
    exact xor_end x hx
  | succ d ih =>
    intro i x hi hx
    have hm := hb _ (getD_mem 0 l i (by omega))
    obtain ⟨n, hn, hn2, hn3⟩ := byte_nat hm
    have inner : ∀ (j y : Nat), j ≤ 8 → y < 4294967296 → Ev (fun k => impl_Crc.l1 k (y : Int) l (l.length : Int) (i : Int) ((8 - j : Nat) : Int)) ((crcFrom (l.drop (i + 1)) (crcBits j y) ^^^ 4294967295 : Nat) : Int) := by
      intro j
      induction j with
      | zero =>
        intro y _ hy
        apply ev_shift
        simp only [impl_Crc.l1]
        refine ev_neg (by omega) ?_
        rw [wrap_nat (by omega)]
        exact ih (i + 1) y (by omega) hy
      | succ j ihj =>
        intro y hj hy
        apply ev_shift
        simp only [impl_Crc.l1]
        have h2 : y / 2 < 4294967296 := by omega
        have e0 : wrap64 (((8 - (j + 1) : Nat) : Int) + 1) = ((8 - j : Nat) : Int) := by rw [wrap_nat (by omega)]; omega
        have e1 : Go.bits .and .i64 (y : Int) 1 = ((y % 2 : Nat) : Int) := by rw [and1 _ (by omega) (by omega)]; omega
        have e2 : (y : Int) / 2 = ((y / 2 : Nat) : Int) := by omega
        have e3 : Go.bits .xor .i64 ((y / 2 : Nat) : Int) 3988292384 = (((y / 2) ^^^ 3988292384 : Nat) : Int) := xor_poly (y / 2) h2
        rw [e0, e1, e2, e3]
        refine ev_pos (by omega) ?_
        have hs := ihj (crcBit y) (by omega) (crcBit_lt hy)
        by_cases ho : y % 2 = 1
        · refine ev_pos (by omega) ?_
          have : crcBit y = (y / 2) ^^^ 3988292384 := if_pos ho
          rw [this] at hs
          rw [crcBits, this]
          exact hs
        · refine ev_neg (by omega) ?_
          have : crcBit y = y / 2 := if_neg ho
          rw [this] at hs
          rw [crcBits, this]
          exact hs
    apply ev_shift
    simp only [impl_Crc.l0]
    refine ev_pos (by omega) (ev_pos (by omega) (ev_pos (by omega) ?_))
    rw [rd_nat, hn, wrap_in (by omega) (by omega), xor_nat x n hx hn2, drop_cons 0 l i (by omega), crcFrom, hn3]
    exact inner 8 (x ^^^ n) (by omega) (xor_lt32 hx hn2)
theorem impl_Crc_ev (l : List Int) (hl : l.length ≤ 140737488351232) (hb : ∀ x ∈ l, 0 ≤ x ∧ x ≤ 255) : Ev (fun k => impl_Crc.f k l) (crc l) := by
  have e := impl_crc_l l hl hb l.length 0 4294967295 (by omega) (by omega)
  rw [Int.cast_ofNat_Int, List.drop_zero] at e
  exact e

def putNat (n : Nat) : List Int := if h : n < 128 then [(n : Int)] else ((n % 128 + 128 : Nat) : Int) :: putNat (n / 128)
termination_by n
decreasing_by omega
theorem putNat_small {n : Nat} (h : n < 128) : putNat n = [(n : Int)] := by rw [putNat, dif_pos h]
theorem putNat_big {n : Nat} (h : ¬ n < 128) : putNat n = ((n % 128 + 128 : Nat) : Int) :: putNat (n / 128) := by rw [putNat, dif_neg h]
def putNum (n : Int) : List Int := if 0 ≤ n ∧ n ≤ 2147483647 then putNat n.toNat else []
theorem putNat_length (n : Nat) : (putNat n).length ≤ n + 1 ∧ 1 ≤ (putNat n).length := by
  induction n using Nat.strongRecOn with
  | _ n ih =>
    by_cases h : n < 128
    · rw [putNat_small h]
      simp
    · rw [putNat_big h]
      have := ih (n / 128) (by omega)
      simp only [List.length_cons]
      omega
theorem putNat_range (n : Nat) : ∀ x ∈ putNat n, 0 ≤ x ∧ x ≤ 255 := by
  induction n using Nat.strongRecOn with
  | _ n ih =>
    by_cases h : n < 128
    · rw [putNat_small h]
      simp
      omega
    · rw [putNat_big h]
      intro x hx
      rw [List.mem_cons] at hx
      rcases hx with rfl | hx
      · omega
      · exact ih (n / 128) (by omega) x hx
theorem putNat_len5 (n : Nat) (h : n ≤ 2147483647) : (putNat n).length ≤ 5 := by
  have step : ∀ m j, m < 128 ^ (j + 1) → (putNat m).length ≤ j + 1 := by
    intro m j
    induction j generalizing m with
    | zero =>
      intro hm
      rw [putNat_small (by omega)]
      simp
    | succ j ih =>
      intro hm
      by_cases h : m < 128
      · rw [putNat_small h]
        simp
      · rw [putNat_big h]
        have : m / 128 < 128 ^ (j + 1) := by
          rw [Nat.div_lt_iff_lt_mul (by omega)]
          rw [Nat.pow_succ] at hm
          exact hm
        have := ih (m / 128) this
        simp only [List.length_cons]
        omega
  exact step n 4 (by omega)
theorem putNum_length (n : Int) : (putNum n).length ≤ 5 := by
  unfold putNum
  split
  · exact putNat_len5 _ (by omega)
  · simp

theorem impl_putNum_l (n : Nat) : ∀ acc : List Int, n ≤ 2147483647 → acc.length + n ≤ 100000000000 → Ev (fun k => impl_PutNum.l0 k (n : Int) acc) (acc ++ putNat n) := by
  induction n using Nat.strongRecOn with
  | _ n ih =>
    intro acc hn ha
    apply ev_shift
    simp only [impl_PutNum.l0]
    by_cases h : n < 128
    · refine ev_neg (by omega) (ev_pos (by omega) ?_)
      refine ev_cast (Ev.now _) ?_
      rw [putNat_small h, Int.emod_eq_of_lt (by omega) (by omega)]
    · refine ev_pos (by omega) (ev_pos (by omega) ?_)
      have e1 : (n : Int) / 128 = ((n / 128 : Nat) : Int) := by omega
      have e2 : (Go.bits .or .i64 (Go.bits .and .i64 (n : Int) 127) 128) % 256 = ((n % 128 + 128 : Nat) : Int) := by
        rw [and127 _ (by omega) (by omega), or128 _ (by omega) (by omega)]
        omega
      rw [e1, e2]
      refine ev_cast (ih (n / 128) (by omega) _ (by omega) (by simp; omega)) ?_
      rw [putNat_big h, List.append_assoc]
      rfl
theorem impl_PutNum_ev (n : Int) : Ev (fun k => impl_PutNum.f k n) (putNum n) := by
  unfold impl_PutNum.f
  by_cases h : 0 ≤ n ∧ n ≤ 2147483647
  · refine ev_eq (a := true) (by unfold impl_within.f; rw [if_pos (by omega)]; simp; omega) (ev_pos rfl ?_)
    obtain ⟨m, rfl⟩ := Int.eq_ofNat_of_zero_le h.1
    refine ev_cast (impl_putNum_l m [] (by omega) (by simp; omega)) ?_
    rw [putNum, if_pos h]
    simp
  · refine ev_eq (a := false) (by unfold impl_within.f; split <;> simp <;> omega) (ev_neg (by simp) ?_)
    rw [putNum, if_neg h]
    exact Ev.now _

def putText (s : ByteArray) : List Int := putNum (s.size : Int) ++ bytesOf s
theorem putText_length (s : ByteArray) : (putText s).length = (putNum (s.size : Int)).length + s.size := by
  unfold putText
  rw [List.length_append, bytesOf_length]

theorem impl_PutText_ev (s : ByteArray) (hs : s.size ≤ 1099511627776) : Ev (fun k => impl_PutText.f k s) (putText s) := by
  have hl := putNum_length (s.size : Int)
  unfold impl_PutText.f putText
  exact Ev.bind (impl_PutNum_ev _) (ev_pos (by omega) (Ev.now _))

theorem shl7 (d k : Nat) (hd : d < 128) (hk : k ≤ 4) : shl .i64 (d : Int) (wrap64 (7 * (k : Int))) = ((d * 2 ^ (7 * k) : Nat) : Int) := by
  have h : k = 0 ∨ k = 1 ∨ k = 2 ∨ k = 3 ∨ k = 4 := by omega
  unfold shl
  rw [wrap_in (by omega) (by omega)]
  rcases h with rfl | rfl | rfl | rfl | rfl <;> (simp [IntKind.bits]; try (rw [wraps_i64 _ (by omega) (by omega)]))
theorem or7 (n m k : Nat) (hn : n < 2 ^ (7 * k)) (hm : m < 128) (hk : k ≤ 4) : Go.bits .or .i64 (n : Int) ((m * 2 ^ (7 * k) : Nat) : Int) = ((n + m * 2 ^ (7 * k) : Nat) : Int) := by
  have hp : 2 ^ (7 * k) ≤ 268435456 := Nat.pow_le_pow_right (n := 2) (by omega) (show 7 * k ≤ 28 by omega)
  have h0 : 0 < 2 ^ (7 * k) := Nat.two_pow_pos _
  have hx : m * 2 ^ (7 * k) < 2 ^ 63 := Nat.lt_of_le_of_lt (Nat.mul_le_mul (show m ≤ 127 by omega) hp) (by decide)
  have hz : ((m * 2 ^ (7 * k) : Nat) : Int) % 2 ^ (7 * k) = 0 := by
    simp
  have hy : (n : Int) < 2 ^ (7 * k) := by exact_mod_cast hn
  have hn2 : n < 2 ^ 63 := by omega
  rw [or_comm64 n _ hn2 hx]
  have := bits_join .i64 63 (by decide) wraps_i64 (7 * k) ((m * 2 ^ (7 * k) : Nat) : Int) (n : Int) (Int.natCast_nonneg _) hz (by exact_mod_cast hx) (Int.natCast_nonneg _) hy (by exact_mod_cast hn2)
  rw [this]
  omega
def gAcc (n d k : Nat) : Nat := n + d % 128 * 2 ^ (7 * k)
def gOk (k n : Nat) : Prop := n < 2 ^ (7 * k)
theorem pow7 (n m k : Nat) (hn : n < 2 ^ (7 * k)) (hm : m < 128) : n + m * 2 ^ (7 * k) < 2 ^ (7 * (k + 1)) := by
  have e : 2 ^ (7 * (k + 1)) = 128 * 2 ^ (7 * k) := by rw [Nat.mul_add, Nat.pow_add, Nat.mul_comm]
  rw [e]
  have : (m + 1) * 2 ^ (7 * k) ≤ 128 * 2 ^ (7 * k) := Nat.mul_le_mul_right _ (by omega)
  rw [Nat.add_mul] at this
  omega
theorem gOk_step {k n : Nat} (d : Nat) (h : gOk k n) : gOk (k + 1) (gAcc n d k) := pow7 n (d % 128) k h (by omega)
theorem gOk_lt {k n : Nat} (h : gOk k n) (hk : k ≤ 5) : n < 34359738368 :=
  Nat.lt_of_lt_of_le h (Nat.pow_le_pow_right (n := 2) (by omega) (show 7 * k ≤ 35 by omega))
theorem gOk_zero : gOk 0 0 := by
  unfold gOk
  decide
theorem spec_acc {n d k : Nat} (hd : d ≤ 255) (hk : k ≤ 4) (h : gOk k n) : Go.bits .or .i64 (n : Int) (shl .i64 (Int.tmod (wrap64 (d : Int)) 128) (wrap64 (7 * (k : Int)))) = (gAcc n d k : Int) := by
  have e3 : Int.tmod (wrap64 (d : Int)) 128 = ((d % 128 : Nat) : Int) := by
    rw [wrap_in (by omega) (by omega), Int.tmod_eq_emod_of_nonneg (by omega)]
    omega
  rw [e3, shl7 (d % 128) k (by omega) hk]
  exact or7 n (d % 128) k h (by omega) hk
theorem impl_acc {n d k : Nat} (hd : d ≤ 255) (hk : k ≤ 4) (h : gOk k n) : Go.bits .or .i64 (n : Int) (shl .i64 (Go.bits .and .i64 (wrap64 (d : Int)) 127) (wrap64 (7 * (k : Int)))) = (gAcc n d k : Int) := by
  have e3 : Go.bits .and .i64 (wrap64 (d : Int)) 127 = ((d % 128 : Nat) : Int) := by
    rw [wrap_in (by omega) (by omega), and127 _ (by omega) (by omega)]
    omega
  rw [e3, shl7 (d % 128) k (by omega) hk]
  exact or7 n (d % 128) k h (by omega) hk
theorem seven_pos {k : Nat} (hk : k ≤ 4) : 0 ≤ wrap64 (7 * (k : Int)) := by
  rw [wrap_in (by omega) (by omega)]
  omega
theorem byte_wrap {d : Nat} (hd : d ≤ 255) : wrap64 (d : Int) = d := wrap_in (by omega) (by omega)
theorem add_wrap {a k : Nat} (ha : a ≤ 140737488351232) (hk : k ≤ 5) : wrap64 ((a : Int) + (k : Int)) = ((a + k : Nat) : Int) := by
  rw [wrap_in (by omega) (by omega)]
  omega
def getGo (b : List Int) (a : Nat) : Nat → Nat → Nat → Int × Int × Bool
  | 0, _, _ => (0, 0, false)
  | f + 1, k, n => if a + k < b.length then
      (if (b.getD (a + k) 0).toNat < 128 then
        (if (0 < k ∧ (b.getD (a + k) 0).toNat = 0) ∨ gAcc n (b.getD (a + k) 0).toNat k > 2147483647 then (0, 0, false)
         else ((gAcc n (b.getD (a + k) 0).toNat k : Int), ((a + k + 1 : Nat) : Int), true))
       else getGo b a f (k + 1) (gAcc n (b.getD (a + k) 0).toNat k))
    else (0, 0, false)
def getNum (b : List Int) (a : Int) : Int × Int × Bool := if 0 ≤ a then getGo b a.toNat 5 0 0 else (0, 0, false)
theorem getGo_out (b : List Int) (a : Nat) (h : b.length ≤ a) (f k n : Nat) : getGo b a f k n = (0, 0, false) := by
  cases f with
  | zero => rfl
  | succ f => rw [getGo, if_neg (by omega)]

theorem getGo_ok (b : List Int) (a : Nat) (f : Nat) : ∀ k n, (getGo b a f k n).2.2 = true → 0 ≤ (getGo b a f k n).1 ∧ (getGo b a f k n).1 ≤ 2147483647 ∧ (a : Int) < (getGo b a f k n).2.1 ∧ (getGo b a f k n).2.1 ≤ b.length := by
  induction f with
  | zero =>
    intro k n h
    simp [getGo] at h
  | succ f ih =>
    intro k n h
    rw [getGo] at h ⊢
    by_cases h1 : a + k < b.length
    · rw [if_pos h1] at h ⊢
      by_cases h2 : (b.getD (a + k) 0).toNat < 128
      · rw [if_pos h2] at h ⊢
        split at h
        · simp at h
        · rename_i h3
          rw [if_neg h3]
          refine ⟨by omega, ?_, ?_, ?_⟩ <;> dsimp only <;> omega
      · rw [if_neg h2] at h ⊢
        exact ih _ _ h
    · rw [if_neg h1] at h
      simp at h
theorem getNum_ok (b : List Int) (a : Int) (h : (getNum b a).2.2 = true) : 0 ≤ (getNum b a).1 ∧ (getNum b a).1 ≤ 2147483647 ∧ 0 ≤ a ∧ a < (getNum b a).2.1 ∧ (getNum b a).2.1 ≤ b.length := by
  unfold getNum at h ⊢
  by_cases h0 : 0 ≤ a
  · rw [if_pos h0] at h ⊢
    have := getGo_ok b a.toNat 5 0 0 h
    omega
  · rw [if_neg h0] at h
    simp at h
theorem getGo_no (b : List Int) (a : Nat) (f : Nat) : ∀ k n, (getGo b a f k n).2.2 = false → getGo b a f k n = (0, 0, false) := by
  induction f with
  | zero => intro k n _; rfl
  | succ f ih =>
    intro k n h
    rw [getGo] at h ⊢
    split
    · rename_i h1
      rw [if_pos h1] at h
      split
      · rename_i h2
        rw [if_pos h2] at h
        split
        · rfl
        · rename_i h3
          rw [if_neg h3] at h
          simp at h
      · rename_i h2
        rw [if_neg h2] at h
        exact ih _ _ h
    · rfl
theorem getNum_no (b : List Int) (a : Int) (h : (getNum b a).2.2 = false) : getNum b a = (0, 0, false) := by
  unfold getNum at h ⊢
  split
  · rename_i h0
    rw [if_pos h0] at h
    exact getGo_no _ _ _ _ _ h
  · rfl
def getText (b : List Int) (a : Int) : ByteArray × Int × Bool :=
  if (getNum b a).2.2 = true then
    (if (getNum b a).1 > (b.length : Int) - (getNum b a).2.1 then ((⟨#[]⟩ : ByteArray), 0, false)
     else (strOfNums ((b.take ((getNum b a).2.1 + (getNum b a).1).toNat).drop (getNum b a).2.1.toNat), (getNum b a).2.1 + (getNum b a).1, true))
  else ((⟨#[]⟩ : ByteArray), 0, false)

theorem impl_getNum_l (b : List Int) (hl : b.length ≤ 140737488351232) (hb : ∀ x ∈ b, 0 ≤ x ∧ x ≤ 255) (a : Nat) (ha : a ≤ b.length) (f : Nat) : ∀ (k n : Nat), k + f = 5 → gOk k n →
    Ev (fun j => impl_GetNum.l0 j b (a : Int) (n : Int) (k : Int)) (getGo b a f k n) := by
  induction f with
  | zero =>
    intro k n hk hn
    apply ev_shift
    simp only [impl_GetNum.l0]
    refine ev_neg (by omega) ?_
    apply ev_shift
    simp only [impl_GetNum.j1]
    exact ev_neg (by simp) (Ev.now _)
  | succ f ih =>
    intro k n hk hn
    have hk4 : k ≤ 4 := by omega
    apply ev_shift
    simp only [impl_GetNum.l0]
    refine ev_pos (by omega) ?_
    apply ev_shift
    simp only [impl_GetNum.j1, getGo]
    rw [add_wrap (by omega) (by omega)]
    by_cases hin : a + k < b.length
    · refine ev_pos (by simp; omega) ?_
      rw [if_pos hin, rd_nat]
      have hm := hb _ (getD_mem 0 b (a + k) hin)
      generalize b.getD (a + k) 0 = d at hm ⊢
      obtain ⟨c, rfl⟩ := Int.eq_ofNat_of_zero_le hm.1
      have hc : c ≤ 255 := by omega
      have e11 := ih (k + 1) _ (by omega) (gOk_step c hn)
      rw [impl_acc hc hk4 hn, Int.toNat_natCast, byte_wrap hc, wrap_nat (i := a + k) (by omega), wrap_nat (i := k) (by omega)]
      generalize gAcc n c k = m at e11 ⊢
      clear hn ih
      refine ev_pos (by omega) (ev_pos (by omega) (ev_pos (seven_pos hk4) ?_))
      by_cases h1 : c < 128
      · refine ev_neg (by omega) ?_
        rw [if_pos h1]
        by_cases h3 : c = 0
        · refine ev_pos (by omega) ?_
          by_cases h2 : k > 0
          · refine ev_pos (by omega) ?_
            rw [if_pos (.inl ⟨h2, h3⟩)]
            exact Ev.now _
          · refine ev_neg (by omega) ?_
            by_cases h4 : m > 2147483647
            · refine ev_pos (by omega) ?_
              rw [if_pos (.inr h4)]
              exact Ev.now _
            · refine ev_neg (by omega) ?_
              rw [if_neg (by omega)]
              exact Ev.now _
        · refine ev_neg (by omega) ?_
          by_cases h4 : m > 2147483647
          · refine ev_pos (by omega) ?_
            rw [if_pos (.inr h4)]
            exact Ev.now _
          · refine ev_neg (by omega) ?_
            rw [if_neg (by omega)]
            exact Ev.now _
      · refine ev_pos (by omega) ?_
        rw [if_neg h1]
        exact e11
    · refine ev_neg (by simp; omega) ?_
      rw [if_neg hin]
      exact Ev.now _
theorem impl_GetNum_ev (b : List Int) (a : Int) (hl : b.length ≤ 140737488351232) (hb : ∀ x ∈ b, 0 ≤ x ∧ x ≤ 255) : Ev (fun k => impl_GetNum.f k b a) (getNum b a) := by
  unfold impl_GetNum.f getNum
  by_cases h : 0 ≤ a ∧ a ≤ b.length
  · rw [if_pos h.1]
    refine ev_eq (a := true) (by unfold impl_within.f; rw [if_pos (by omega)]; simp; omega) (ev_pos rfl ?_)
    obtain ⟨n, rfl⟩ := Int.eq_ofNat_of_zero_le h.1
    exact impl_getNum_l b hl hb n (by omega) 5 0 0 (by omega) gOk_zero
  · refine ev_eq (a := false) (by unfold impl_within.f; split <;> simp <;> omega) (ev_neg (by simp) (ev_cast (Ev.now _) ?_))
    by_cases h0 : 0 ≤ a
    · rw [if_pos h0, getGo_out b a.toNat (by omega)]
    · rw [if_neg h0]

def txGo (n : Int) : Int → List S46 → Bool
  | _, [] => true
  | last, w :: l => decide (last + 1 ≤ w.f0 ∧ w.f0 ≤ n - 1) && (decide (w.f1.size ≤ 90) && txGo n w.f0 l)
def txOk (n : Int) (l : List S46) : Bool := decide (1 ≤ n ∧ n ≤ 48) && (!l.isEmpty && txGo n (-1) l)
def putsOk (n : Int) (l : List S46) : Bool := l.all fun w => decide (0 ≤ w.f0 ∧ w.f0 ≤ n - 1) && decide (w.f1.size ≤ 90)
def incGo : Int → List S46 → Bool
  | _, [] => true
  | last, w :: l => decide (last < w.f0) && incGo w.f0 l
theorem txGo_eq (n : Int) (l : List S46) : ∀ last : Int, -1 ≤ last → txGo n last l = (putsOk n l && incGo last l) := by
  induction l with
  | nil => intro last _; rfl
  | cons w l ih =>
    intro last hl
    rw [txGo, incGo, putsOk, List.all_cons]
    by_cases h : last + 1 ≤ w.f0 ∧ w.f0 ≤ n - 1
    · rw [ih w.f0 (by omega), putsOk, decide_eq_true h, decide_eq_true (show last < w.f0 by omega), decide_eq_true (show 0 ≤ w.f0 ∧ w.f0 ≤ n - 1 by omega)]
      cases decide (w.f1.size ≤ 90) <;> simp
    · rw [decide_eq_false h]
      by_cases h2 : last < w.f0
      · rw [decide_eq_false (show ¬ (0 ≤ w.f0 ∧ w.f0 ≤ n - 1) by omega)]
        simp
      · rw [decide_eq_false h2]
        simp
theorem decide_within (a lo hi : Int) : impl_within.f a lo hi = some (decide (lo ≤ a ∧ a ≤ hi)) := by
  unfold impl_within.f
  by_cases h : a ≥ lo
  · rw [if_pos h]
    congr 1
    rw [decide_eq_decide]
    omega
  · rw [if_neg h]
    congr 1
    symm
    rw [decide_eq_false_iff_not]
    omega

theorem impl_txOk_l (n : Int) (l : List S46) (hn : 1 ≤ n ∧ n ≤ 48) (hl : l.length ≤ 140737488351232) (hw : ∀ x ∈ l, (Lit.int .i64 x.f0).wf = true) (d : Nat) : ∀ (i : Nat) (last : Int), i + d = l.length → -1 ≤ last → last ≤ 48 →
    Ev (fun k => impl_TxOk.l0 k n last l (l.length : Int) (i : Int)) (txGo n last (l.drop i)) := by
  induction d with
  | zero =>
    intro i last hi h0 h1
    apply ev_shift
    simp only [impl_TxOk.l0]
    refine ev_neg (by omega) (ev_cast (Ev.now _) ?_)
    rw [List.drop_eq_nil_of_le (by omega)]
    rfl
  | succ d ih =>
    intro i last hi h0 h1
    apply ev_shift
    simp only [impl_TxOk.l0]
    refine ev_pos (by omega) (ev_pos (by omega) (ev_pos (by omega) ?_))
    rw [wrap_nat (by omega), rdPut_nat, wrap_in (x := last + 1) (by omega) (by omega), wrap_in (x := n - 1) (by omega) (by omega), drop_cons z46 l i (by omega), txGo]
    refine ev_eq (decide_within _ _ _) ?_
    by_cases c : last + 1 ≤ (l.getD i z46).f0 ∧ (l.getD i z46).f0 ≤ n - 1
    · rw [decide_eq_true c]
      refine ev_pos rfl (ev_eq rfl ?_)
      by_cases c2 : (l.getD i z46).f1.size ≤ 90
      · rw [decide_eq_true c2]
        refine ev_pos (decide_eq_true (by omega)) (ev_cast (ih (i + 1) _ (by omega) (by omega) (by omega)) ?_)
        simp
      · rw [decide_eq_false c2]
        refine ev_neg (fun z => c2 (by have := of_decide_eq_true z; omega)) (ev_cast (Ev.now _) ?_)
        simp
    · rw [decide_eq_false c]
      exact ev_neg (by simp) (ev_cast (Ev.now _) (by simp))
theorem impl_TxOk_ev (n : Int) (l : List S46) (hl : l.length ≤ 140737488351232) (hw : ∀ x ∈ l, (Lit.int .i64 x.f0).wf = true) : Ev (fun k => impl_TxOk.f k n l) (txOk n l) := by
  unfold impl_TxOk.f txOk
  refine ev_eq (decide_within _ _ _) ?_
  by_cases c : 1 ≤ n ∧ n ≤ 48
  · rw [decide_eq_true c]
    refine ev_pos rfl (ev_shift ?_)
    simp only [impl_TxOk.j0]
    cases l with
    | nil => exact ev_pos rfl (Ev.now _)
    | cons w r =>
      refine ev_neg (by simp; omega) (ev_cast (impl_txOk_l n (w :: r) c hl hw (w :: r).length 0 (-1) (by omega) (by omega) (by omega)) ?_)
      simp
  · rw [decide_eq_false c]
    refine ev_neg (by simp) (ev_shift ?_)
    simp only [impl_TxOk.j0]
    exact ev_pos trivial (Ev.now _)

theorem decide_l1In (a lo hi : Int) : spec_l1In.f a lo hi = some (decide (lo ≤ a ∧ a ≤ hi)) := by
  unfold spec_l1In.f
  by_cases h : a ≥ lo
  · rw [if_pos h]
    congr 1
    rw [decide_eq_decide]
    omega
  · rw [if_neg h]
    congr 1
    symm
    rw [decide_eq_false_iff_not]
    omega
theorem spec_putsOk_ev (n : Int) (l : List S46) (hn : 0 ≤ n ∧ n ≤ 9223372036854775807) (hl : l.length ≤ 140737488351232) : Ev (fun k => spec_l3PutsOk.f k l n) (putsOk n l) := by
  unfold spec_l3PutsOk.f
  have := ev_loop (fun k i => spec_l3PutsOk.l0 k l n (i : Int)) (fun i => putsOk n (l.drop i)) l.length ?_ ?_ 0 (Nat.zero_le _)
  · exact this
  · simp only [spec_l3PutsOk.l0]
    refine ev_neg (by omega) (ev_cast (Ev.now _) ?_)
    rw [List.drop_length]
    rfl
  · intro i hi e
    simp only [spec_l3PutsOk.l0]
    refine ev_pos (by omega) (ev_pos (by omega) (ev_eq (decide_l1In _ _ _) ?_))
    rw [wrap_nat (by omega), rdPut_nat, wrap_in (x := n - 1) (by omega) (by omega), drop_cons z46 l i hi, putsOk, List.all_cons]
    by_cases c : 0 ≤ (l.getD i z46).f0 ∧ (l.getD i z46).f0 ≤ n - 1
    · rw [decide_eq_true c]
      refine ev_pos rfl ?_
      by_cases c2 : (l.getD i z46).f1.size ≤ 90
      · refine ev_neg (by omega) (ev_cast e ?_)
        rw [decide_eq_true c2]
        simp [putsOk]
      · refine ev_pos (by omega) (ev_cast (Ev.now _) ?_)
        rw [decide_eq_false c2]
        simp
    · rw [decide_eq_false c]
      exact ev_neg (by simp) (ev_cast (Ev.now _) (by simp))
theorem spec_incr_l (l : List S46) (hl : l.length ≤ 140737488351232) (hne : 0 < l.length) : Ev (fun k => spec_TxOk.l0 k l 1) (incGo (l.getD 0 z46).f0 (l.drop 1)) := by
  have key : ∀ (d i : Nat), i + 1 + d = l.length → Ev (fun k => spec_TxOk.l0 k l ((i + 1 : Nat) : Int)) (incGo (l.getD i z46).f0 (l.drop (i + 1))) := by
    intro d
    induction d with
    | zero =>
      intro i hi
      apply ev_shift
      simp only [spec_TxOk.l0]
      refine ev_neg (by omega) (ev_cast (Ev.now _) ?_)
      rw [List.drop_eq_nil_of_le (by omega)]
      rfl
    | succ d ih =>
      intro i hi
      apply ev_shift
      simp only [spec_TxOk.l0]
      have e1 : wrap64 (((i + 1 : Nat) : Int) - 1) = (i : Int) := by rw [wrap_in (by omega) (by omega)]; omega
      rw [e1, wrap_nat (by omega), rdPut_nat, rdPut_nat, drop_cons z46 l (i + 1) (by omega), incGo]
      refine ev_pos (by omega) (ev_pos (by omega) (ev_pos (by omega) (ev_pos (by omega) ?_)))
      by_cases c : (l.getD i z46).f0 < (l.getD (i + 1) z46).f0
      · refine ev_neg (by omega) (ev_cast (ih (i + 1) (by omega)) ?_)
        rw [decide_eq_true c]
        simp
      · refine ev_pos (by omega) (ev_cast (Ev.now _) ?_)
        rw [decide_eq_false c]
        simp
  exact key (l.length - 1) 0 (by omega)
theorem spec_TxOk_ev (n : Int) (l : List S46) (hl : l.length ≤ 140737488351232) : Ev (fun k => spec_TxOk.f k n l) (txOk n l) := by
  unfold spec_TxOk.f txOk
  refine ev_eq (decide_l1In _ _ _) ?_
  by_cases c : 1 ≤ n ∧ n ≤ 48
  · rw [decide_eq_true c, txGo_eq n l (-1) (by omega)]
    refine ev_pos rfl ?_
    cases l with
    | nil =>
      refine ev_pos rfl (ev_shift ?_)
      simp only [spec_TxOk.j0]
      exact ev_pos trivial (Ev.now _)
    | cons w r =>
      refine ev_neg (by simp; omega) (Ev.bind (spec_putsOk_ev n (w :: r) (by omega) hl) (ev_shift ?_))
      simp only [spec_TxOk.j0]
      cases hp : putsOk n (w :: r) with
      | false => exact ev_pos rfl (ev_cast (Ev.now _) (by simp))
      | true =>
        refine ev_neg (by simp) (ev_cast (spec_incr_l (w :: r) hl (by simp)) ?_)
        have hw : 0 ≤ w.f0 := by
          have h2 := hp
          rw [putsOk, List.all_cons] at h2
          simp at h2
          omega
        rw [incGo, decide_eq_true (show -1 < w.f0 by omega)]
        simp
  · rw [decide_eq_false c]
    refine ev_neg (by simp) (ev_shift ?_)
    simp only [spec_TxOk.j0]
    exact ev_pos trivial (Ev.now _)

theorem strOf_append (a b : List Int) : strOfNums (a ++ b) = strOfNums a ++ strOfNums b := by
  apply Go.WideShapes.bytes_inj
  rw [Go.Joins.data_append, strOfNums_data, strOfNums_data, strOfNums_data, List.map_append]

theorem flat_snoc {α : Type} (d : α) (f : α → List Int) (l : List α) (i : Nat) (h : i < l.length) : (l.take (i + 1)).flatMap f = (l.take i).flatMap f ++ f (l.getD i d) := by
  rw [List.take_succ_eq_append_getElem h, List.flatMap_append]
  simp [List.getD, h]
theorem flat_len {α : Type} (f : α → List Int) (m : Nat) (l : List α) (h : ∀ x ∈ l, (f x).length ≤ m) : (l.flatMap f).length ≤ m * l.length := by
  induction l with
  | nil => simp
  | cons x l ih =>
    have h1 := h x (by simp)
    have h2 := ih (fun y hy => h y (List.mem_cons_of_mem _ hy))
    rw [List.flatMap_cons, List.length_append, List.length_cons, Nat.mul_add]
    omega
theorem ats_len (l : List Int) (i : Nat) (hi : l.length ≤ 1048579) : ((l.take i).flatMap putNum).length ≤ 5242895 := by
  have := flat_len putNum 5 (l.take i) (fun x _ => putNum_length x)
  rw [List.length_take] at this
  omega

def four (s : Int) : List Int := [s / 16777216 % 256, s / 65536 % 256, s / 256 % 256, s % 256]
def sumBytes (l : List ByteArray) : List Int := l.flatMap putText
def headNums (ats : List Int) (s : Int) : List Int := [74] ++ putNum (ats.length : Int) ++ ats.flatMap putNum ++ four s
def headText (l : List S46) : ByteArray := if txOk 48 l = true then strOfNums (headNums (l.map (·.f0)) (crc (sumBytes (l.map (·.f1))))) else (⟨#[]⟩ : ByteArray)
theorem crcFrom_lt (l : List Int) (hb : ∀ x ∈ l, 0 ≤ x ∧ x ≤ 255) : ∀ x, x < 4294967296 → crcFrom l x < 4294967296 := by
  induction l with
  | nil => intro x h; exact h
  | cons b l ih =>
    intro x h
    have := hb b (by simp)
    exact ih (fun y hy => hb y (List.mem_cons_of_mem _ hy)) _ (crcBits_lt 8 (xor_lt32 h (by omega)))
theorem crc_range (l : List Int) (hb : ∀ x ∈ l, 0 ≤ x ∧ x ≤ 255) : 0 ≤ crc l ∧ crc l < 4294967296 := by
  have := xor_lt32 (crcFrom_lt l hb 4294967295 (by omega)) (b := 4294967295) (by omega)
  unfold crc
  omega
theorem putNum_range (n : Int) : ∀ x ∈ putNum n, 0 ≤ x ∧ x ≤ 255 := by
  intro x hx
  unfold putNum at hx
  split at hx
  · exact putNat_range _ x hx
  · cases hx
theorem putText_range (s : ByteArray) : ∀ x ∈ putText s, 0 ≤ x ∧ x ≤ 255 := by
  intro x hx
  unfold putText at hx
  rw [List.mem_append] at hx
  rcases hx with hx | hx
  · exact putNum_range _ x hx
  · exact bytesOf_range s x hx
theorem sumBytes_range (l : List ByteArray) : ∀ x ∈ sumBytes l, 0 ≤ x ∧ x ≤ 255 := by
  intro x hx
  unfold sumBytes at hx
  rw [List.mem_flatMap] at hx
  obtain ⟨y, _, hy⟩ := hx
  exact putText_range y x hy
theorem sum_len (l : List ByteArray) (h : ∀ x ∈ l, x.size ≤ 90) (i : Nat) (hi : l.length ≤ 1048576) : ((l.take i).flatMap putText).length ≤ 104857600 := by
  have := flat_len putText 100 (l.take i) (fun x hx => by
    have h1 := h x (List.mem_of_mem_take hx)
    have h2 := putText_length x
    have h3 := putNum_length (x.size : Int)
    omega)
  rw [List.length_take] at this
  omega
theorem map_snoc {α β : Type} (d : α) (f : α → β) (l : List α) (i : Nat) (h : i < l.length) : (l.take (i + 1)).map f = (l.take i).map f ++ [f (l.getD i d)] := by
  rw [List.take_succ_eq_append_getElem h, List.map_append]
  simp [List.getD, h]
theorem txGo_small (n : Int) (l : List S46) : ∀ last, txGo n last l = true → ∀ w ∈ l, w.f1.size ≤ 90 := by
  induction l with
  | nil => intro last _ w hw; cases hw
  | cons x l ih =>
    intro last h w hw
    rw [txGo, Bool.and_eq_true, Bool.and_eq_true, decide_eq_true_iff, decide_eq_true_iff] at h
    rw [List.mem_cons] at hw
    rcases hw with rfl | hw
    · exact h.2.1
    · exact ih _ h.2.2 w hw
theorem txOk_small {n : Int} {l : List S46} (h : txOk n l = true) : ∀ w ∈ l, w.f1.size ≤ 90 := by
  unfold txOk at h
  rw [Bool.and_eq_true, Bool.and_eq_true] at h
  exact txGo_small n l _ h.2.2

theorem impl_headBytes_ev (ats : List Int) (s : Int) (h0 : 0 ≤ s) (h1 : s < 4294967296) (hl : ats.length ≤ 1048576) : Ev (fun k => impl_headBytes.f k ats s) (headNums ats s) := by
  have hp := putNum_length (ats.length : Int)
  unfold impl_headBytes.f headNums
  refine ev_some (Ev.bind (impl_PutNum_ev _) (ev_pos (by rw [List.length_singleton]; omega) ?_))
  have := ev_loop (fun k i => impl_headBytes.l0 k s ([74] ++ putNum (ats.length : Int) ++ (ats.take i).flatMap putNum) ats (ats.length : Int) (i : Int)) (fun _ => [74] ++ putNum (ats.length : Int) ++ ats.flatMap putNum ++ four s) ats.length ?_ ?_ 0 (Nat.zero_le _)
  · simpa using this
  · simp only [impl_headBytes.l0]
    have hz := ats_len ats ats.length (by omega)
    refine ev_neg (by omega) (ev_some (ev_pos ?_ (ev_cast (Ev.now _) ?_)))
    · rw [List.length_append, List.length_append, List.length_singleton]
      simp only [List.length_cons, List.length_nil]
      omega
    · rw [List.take_length]
      rfl
  · intro i hi e
    have hz := ats_len ats i (by omega)
    have hq := putNum_length (ats.getD i 0)
    simp only [impl_headBytes.l0]
    refine ev_pos (by omega) (ev_pos (by omega) (ev_pos (by omega) (Ev.bind (impl_PutNum_ev _) (ev_pos ?_ ?_))))
    · rw [rd_nat, List.length_append, List.length_append, List.length_singleton]
      omega
    · rw [wrap_nat (by omega), rd_nat, List.append_assoc ([74] ++ putNum (ats.length : Int)), ← flat_snoc 0 putNum ats i hi]
      exact e
theorem impl_dataSum_ev (l : List ByteArray) (h : ∀ x ∈ l, x.size ≤ 90) (hl : l.length ≤ 1048576) : Ev (fun k => impl_dataSum.f k l) (crc (sumBytes l)) := by
  unfold impl_dataSum.f
  have := ev_loop (fun k i => impl_dataSum.l0 k ((l.take i).flatMap putText) l (l.length : Int) (i : Int)) (fun _ => crc (sumBytes l)) l.length ?_ ?_ 0 (Nat.zero_le _)
  · simpa using this
  · simp only [impl_dataSum.l0]
    have hz := sum_len l h l.length hl
    rw [List.take_length] at hz ⊢
    exact ev_neg (by omega) (Ev.bind (impl_Crc_ev _ (by omega) (sumBytes_range l)) (Ev.now _))
  · intro i hi e
    have hz := sum_len l h i hl
    have hs := h _ (getD_mem ByteArray.empty l i hi)
    have hq := putText_length (l.getD i ByteArray.empty)
    have hq2 := putNum_length ((l.getD i ByteArray.empty).size : Int)
    simp only [impl_dataSum.l0]
    refine ev_pos (by omega) (ev_pos (by omega) (ev_pos (by omega) (Ev.bind (impl_PutText_ev _ (by rw [rdOf_nat]; omega)) (ev_pos (by rw [rdOf_nat]; omega) ?_))))
    rw [wrap_nat (by omega), rdOf_nat, ← flat_snoc ByteArray.empty putText l i hi]
    exact e
theorem impl_HeadText_ev (l : List S46) (hl : l.length ≤ 1048576) (hw : ∀ x ∈ l, (Lit.int .i64 x.f0).wf = true) : Ev (fun k => impl_HeadText.f k l) (headText l) := by
  unfold impl_HeadText.f headText
  refine Ev.bind (impl_TxOk_ev 48 l (by omega) hw) ?_
  cases ht : txOk 48 l
  · exact ev_neg (by simp) (ev_cast (Ev.now _) (by simp))
  · refine ev_pos rfl ?_
    rw [if_pos rfl]
    have hsm := txOk_small ht
    have := ev_loop (fun k i => impl_HeadText.l0 k ((l.take i).map (·.f0)) ((l.take i).map (·.f1)) l (l.length : Int) (i : Int)) (fun _ => strOfNums (headNums (l.map (·.f0)) (crc (sumBytes (l.map (·.f1)))))) l.length ?_ ?_ 0 (Nat.zero_le _)
    · simpa using this
    · simp only [impl_HeadText.l0]
      rw [List.take_length]
      have hr := crc_range _ (sumBytes_range (l.map (·.f1)))
      refine ev_neg (by omega) (Ev.bind (impl_dataSum_ev _ ?_ (by rw [List.length_map]; omega)) (Ev.bind (impl_headBytes_ev _ _ hr.1 hr.2 (by rw [List.length_map]; omega)) (Ev.now _)))
      intro x hx
      rw [List.mem_map] at hx
      obtain ⟨w, hw, rfl⟩ := hx
      exact hsm w hw
    · intro i hi e
      simp only [impl_HeadText.l0]
      refine ev_pos (by omega) (ev_pos (by omega) (ev_pos (by omega) (ev_pos (by rw [List.length_map, List.length_take]; omega) (ev_pos (by rw [List.length_map, List.length_take]; omega) ?_))))
      rw [wrap_nat (by omega), rdPut_nat, ← map_snoc z46 (fun w : S46 => w.f0) l i hi, ← map_snoc z46 (fun w : S46 => w.f1) l i hi]
      exact e

def headGo (b : List Int) : Nat → Int → List Int → Option (List Int × Int)
  | 0, at_, acc => some (acc, at_)
  | c + 1, at_, acc => if (getNum b at_).2.2 = true then headGo b c (getNum b at_).2.1 (acc ++ [(getNum b at_).1]) else none
def putsOf (ats : List Int) : List S46 := ats.map fun x => ⟨x, ⟨#[]⟩⟩
def sum4 (b : List Int) (i : Nat) : Int := ((b.getD i 0 * 256 + b.getD (i + 1) 0) * 256 + b.getD (i + 2) 0) * 256 + b.getD (i + 3) 0
def headEnd (b : List Int) (n : Int) : Option (List Int × Int) → List Int × Int × Bool
  | none => ([], 0, false)
  | some (ats, at_) => if (b.length : Int) = at_ + 4 then (if txOk n (putsOf ats) = true then (ats, sum4 b at_.toNat, true) else ([], 0, false)) else ([], 0, false)
def headOf (b : List Int) (n : Int) : List Int × Int × Bool :=
  if (getNum b 1).2.2 = true ∧ b.getD 0 0 = 74 ∧ 1 ≤ (getNum b 1).1 ∧ (getNum b 1).1 ≤ 48 then headEnd b n (headGo b (getNum b 1).1.toNat (getNum b 1).2.1 []) else ([], 0, false)
theorem putsOf_snoc (ats : List Int) (x : Int) : putsOf (ats ++ [x]) = putsOf ats ++ [(⟨x, (⟨#[]⟩ : ByteArray)⟩ : S46)] := by
  unfold putsOf
  rw [List.map_append]
  rfl
theorem putsOf_length (ats : List Int) : (putsOf ats).length = ats.length := by
  unfold putsOf
  rw [List.length_map]
theorem headGo_facts (b : List Int) (c : Nat) : ∀ (at_ : Int) (acc : List Int), (∀ x ∈ acc, 0 ≤ x ∧ x ≤ 2147483647) → ∀ ats a2, headGo b c at_ acc = some (ats, a2) → at_ ≤ a2 ∧ ats.length = acc.length + c ∧ (∀ x ∈ ats, 0 ≤ x ∧ x ≤ 2147483647) ∧ (at_ ≤ b.length → a2 ≤ b.length) := by
  induction c with
  | zero =>
    intro at_ acc ha ats a2 h
    simp only [headGo, Option.some.injEq, Prod.mk.injEq] at h
    obtain ⟨rfl, rfl⟩ := h
    exact ⟨by omega, by omega, ha, id⟩
  | succ c ih =>
    intro at_ acc ha ats a2 h
    rw [headGo] at h
    by_cases hk : (getNum b at_).2.2 = true
    · rw [if_pos hk] at h
      have hg := getNum_ok b at_ hk
      have := ih _ _ (by
        intro x hx
        rw [List.mem_append] at hx
        rcases hx with hx | hx
        · exact ha x hx
        · rw [List.mem_singleton] at hx
          subst hx
          exact ⟨hg.1, hg.2.1⟩) ats a2 h
      rw [List.length_append, List.length_singleton] at this
      refine ⟨by omega, by omega, this.2.2.1, fun _ => this.2.2.2 (by omega)⟩
    · rw [if_neg hk] at h
      cases h
theorem txOk_nil (n : Int) : txOk n (putsOf []) = false := by
  unfold txOk putsOf
  simp
theorem txOk_wf {ats : List Int} (h : ∀ x ∈ ats, 0 ≤ x ∧ x ≤ 2147483647) : ∀ x ∈ putsOf ats, (Lit.int .i64 x.f0).wf = true := by
  intro x hx
  unfold putsOf at hx
  rw [List.mem_map] at hx
  obtain ⟨y, hy, rfl⟩ := hx
  have := h y hy
  simp only [Lit.wf, IntKind.wrap_i64]
  have e : (y + 9223372036854775808) % 18446744073709551616 - 9223372036854775808 = y := by omega
  simp [e]
  exact ⟨by have : IntKind.i64.min = -9223372036854775808 := rfl; omega, by omega⟩
theorem headEnd_none (b : List Int) (n : Int) : headEnd b n none = ([], 0, false) := rfl

theorem or256 (x v : Int) (h0 : 0 ≤ x) (h1 : x ≤ 1099511627776) (hv : 0 ≤ v ∧ v ≤ 255) : Go.bits .or .i64 (wrap64 (x * 256)) (wrap64 v) = x * 256 + v := by
  rw [wrap_in (by omega) (by omega), wrap_in (by omega) (by omega)]
  exact bits_join .i64 63 (by decide) wraps_i64 8 (x * 256) v (by omega) (by omega) (by omega) hv.1 (by omega) (by omega)
theorem impl_sum (acc : List Int) (y : List Int) (hy : y.length = 4) (hb : ∀ x ∈ y, 0 ≤ x ∧ x ≤ 255) : Ev (fun k => impl_HeadOf.l1 k acc 0 y (y.length : Int) 0) (acc, ((y.getD 0 0 * 256 + y.getD 1 0) * 256 + y.getD 2 0) * 256 + y.getD 3 0, true) := by
  have v0 := hb _ (getD_mem 0 y 0 (by omega))
  have v1 := hb _ (getD_mem 0 y 1 (by omega))
  have v2 := hb _ (getD_mem 0 y 2 (by omega))
  have v3 := hb _ (getD_mem 0 y 3 (by omega))
  have r0 : rd y 0 = y.getD 0 0 := rd_nat y 0
  have r1 : rd y 1 = y.getD 1 0 := rd_nat y 1
  have r2 : rd y 2 = y.getD 2 0 := rd_nat y 2
  have r3 : rd y 3 = y.getD 3 0 := rd_nat y 3
  apply ev_shift
  simp only [impl_HeadOf.l1]
  refine ev_pos (by omega) (ev_pos (by omega) (ev_pos (by omega) ?_))
  rw [r0, or256 0 _ (by omega) (by omega) v0, show wrap64 (0 + 1) = 1 from by unfold wrap64; omega]
  apply ev_shift
  simp only [impl_HeadOf.l1]
  refine ev_pos (by omega) (ev_pos (by omega) (ev_pos (by omega) ?_))
  rw [r1, or256 _ _ (by omega) (by omega) v1, show wrap64 (1 + 1) = 2 from by unfold wrap64; omega]
  apply ev_shift
  simp only [impl_HeadOf.l1]
  refine ev_pos (by omega) (ev_pos (by omega) (ev_pos (by omega) ?_))
  rw [r2, or256 _ _ (by omega) (by omega) v2, show wrap64 (2 + 1) = 3 from by unfold wrap64; omega]
  apply ev_shift
  simp only [impl_HeadOf.l1]
  refine ev_pos (by omega) (ev_pos (by omega) (ev_pos (by omega) ?_))
  rw [r3, or256 _ _ (by omega) (by omega) v3, show wrap64 (3 + 1) = 4 from by unfold wrap64; omega]
  apply ev_shift
  simp only [impl_HeadOf.l1]
  refine ev_neg (by omega) (ev_cast (Ev.now _) ?_)
  simp
theorem impl_HeadOf_l (b : List Int) (n : Int) (hb : ∀ x ∈ b, 0 ≤ x ∧ x ≤ 255) (hl : b.length ≤ 1099511627776) (c : Nat) (hc : c ≤ 48) (d : Nat) : ∀ (i : Nat) (at_ : Int) (acc : List Int), i + d = c → 1 ≤ at_ → at_ ≤ b.length → acc.length = i → (∀ x ∈ acc, 0 ≤ x ∧ x ≤ 2147483647) →
    Ev (fun k => impl_HeadOf.l0 k n b at_ (putsOf acc) acc (c : Int) (i : Int)) (headEnd b n (headGo b d at_ acc)) := by
  induction d with
  | zero =>
    intro i at_ acc hi h1 h2 ha hr
    have hp := putsOf_length acc
    have hj : Ev (fun k => impl_HeadOf.j3 k b at_ acc true) ([], 0, false) := by
      refine ev_shift ?_
      simp only [impl_HeadOf.j3]
      exact ev_pos trivial (Ev.now _)
    apply ev_shift
    simp only [impl_HeadOf.l0, headGo, headEnd]
    refine ev_neg (by omega) ?_
    rw [wrap_in (x := at_ + 4) (by omega) (by omega)]
    by_cases e : (b.length : Int) = at_ + 4
    · rw [if_pos e]
      refine ev_pos e (Ev.bind (impl_TxOk_ev n _ (by omega) (txOk_wf hr)) ?_)
      cases txOk n (putsOf acc)
      · exact ev_cast hj (by simp)
      · rw [if_pos rfl]
        refine ev_shift ?_
        simp only [impl_HeadOf.j3]
        obtain ⟨j, rfl⟩ := Int.eq_ofNat_of_zero_le (show 0 ≤ at_ by omega)
        refine ev_neg (by simp) (ev_pos (by omega) (ev_pos (by omega) (ev_some ?_)))
        rw [Int.toNat_natCast]
        refine ev_cast (impl_sum acc (b.drop j) (by rw [List.length_drop]; omega) (fun x hx => hb x (List.mem_of_mem_drop hx))) ?_
        unfold sum4
        simp [List.getD, List.getElem?_drop]
    · rw [if_neg e]
      exact ev_neg e hj
  | succ d ih =>
    intro i at_ acc hi h1 h2 ha hr
    have hp := putsOf_length acc
    apply ev_shift
    simp only [impl_HeadOf.l0, headGo]
    refine ev_pos (by omega) (Ev.bind (impl_GetNum_ev b at_ (by omega) hb) ?_)
    by_cases hk : (getNum b at_).2.2 = true
    · have hg := getNum_ok b at_ hk
      rw [if_pos hk]
      refine ev_pos hk (ev_pos (by omega) (ev_pos (by omega) ?_))
      rw [wrap_nat (by omega), ← putsOf_snoc]
      refine ih (i + 1) _ _ (by omega) (by omega) (by omega) (by rw [List.length_append, List.length_singleton]; omega) ?_
      intro x hx
      rw [List.mem_append] at hx
      rcases hx with hx | hx
      · exact hr x hx
      · rw [List.mem_singleton] at hx
        subst hx
        exact ⟨hg.1, hg.2.1⟩
    · rw [if_neg hk]
      exact ev_neg hk (Ev.now _)
theorem headEnd_short (b : List Int) (n : Int) (c : Nat) (at_ : Int) (h1 : 2 ≤ at_) (h5 : b.length < 5) : headEnd b n (headGo b c at_ []) = ([], 0, false) := by
  cases h : headGo b c at_ [] with
  | none => rfl
  | some r =>
    obtain ⟨ats, a2⟩ := r
    have := headGo_facts b c at_ [] (by simp) ats a2 h
    rw [headEnd, if_neg (by omega)]
theorem impl_HeadOf_ev (s : ByteArray) (n : Int) (hs : s.size ≤ 1048576) : Ev (fun k => impl_HeadOf.f k s n) (headOf (bytesOf s) n) := by
  have hl := bytesOf_length s
  have hb := bytesOf_range s
  unfold impl_HeadOf.f
  refine ev_pos (by omega) (ev_some ?_)
  generalize bytesOf s = b at *
  have hj : Ev (fun k => impl_HeadOf.j0 k n b true) ([], 0, false) := by
    refine ev_shift ?_
    simp only [impl_HeadOf.j0]
    exact ev_pos trivial (Ev.now _)
  have hj1 : ∀ x y, Ev (fun k => impl_HeadOf.j1 k n b x y true) ([], 0, false) := by
    intro x y
    refine ev_shift ?_
    simp only [impl_HeadOf.j1]
    exact ev_pos trivial (Ev.now _)
  unfold headOf
  by_cases h5 : (b.length : Int) < 5
  · refine ev_pos h5 (ev_cast hj ?_)
    split
    · rename_i h
      have hg := getNum_ok b 1 h.1
      exact (headEnd_short b n _ _ (by omega) (by omega)).symm
    · rfl
  · refine ev_neg h5 (ev_pos (by omega) ?_)
    rw [show rd b 0 = b.getD 0 0 from rd_nat b 0]
    by_cases h7 : b.getD 0 0 = 74
    · refine ev_shift ?_
      simp only [impl_HeadOf.j0]
      refine ev_neg (by simpa using h7) (Ev.bind (impl_GetNum_ev b 1 (by omega) hb) ?_)
      by_cases hk : (getNum b 1).2.2 = true
      · have hg := getNum_ok b 1 hk
        refine ev_pos hk ?_
        by_cases hm : (getNum b 1).1 > 48
        · rw [decide_eq_true hm, if_neg (fun z => by have := z.2.2; omega)]
          exact hj1 _ _
        · rw [decide_eq_false hm]
          refine ev_shift ?_
          simp only [impl_HeadOf.j1]
          refine ev_neg (by simp) ?_
          have e : (((getNum b 1).1.toNat : Nat) : Int) = (getNum b 1).1 := by omega
          have := impl_HeadOf_l b n hb (by omega) (getNum b 1).1.toNat (by omega) (getNum b 1).1.toNat 0 (getNum b 1).2.1 [] (by omega) (by omega) (by omega) rfl (by simp)
          rw [e] at this
          refine ev_cast this ?_
          by_cases h1 : 1 ≤ (getNum b 1).1
          · rw [if_pos ⟨hk, h7, h1, by omega⟩]
          · rw [if_neg (fun z => h1 z.2.2.1), show (getNum b 1).1.toNat = 0 from by omega, headGo, headEnd]
            split
            · rw [txOk_nil]
              rfl
            · rfl
      · rw [if_neg (fun z => hk z.1)]
        exact ev_neg hk (hj1 _ _)
    · rw [if_neg (fun z => h7 z.2.1)]
      have : (b.getD 0 0 != 74) = true := by simpa using h7
      rw [this]
      exact hj
theorem headOf_length (b : List Int) (n : Int) : (headOf b n).1.length ≤ 48 := by
  unfold headOf
  split
  · rename_i h
    cases hg : headGo b (getNum b 1).1.toNat (getNum b 1).2.1 [] with
    | none => simp [headEnd]
    | some r =>
      obtain ⟨ats, a2⟩ := r
      have := headGo_facts b _ _ [] (by simp) ats a2 hg
      rw [headEnd]
      split
      · split
        · dsimp only
          simp only [List.length_nil] at this
          omega
        · simp
      · simp
  · simp

def g1Of (l : List S46) (k : Nat) : S119 := ⟨0, wrap64 (1 + (k : Int)), (l.getD k z46).f1⟩
def g2Of (n : Int) (w : S46) : S119 := ⟨0, wrap64 (wrap64 (n + 1) + w.f0), w.f1⟩
def endOf (t : ByteArray) : List S119 := [⟨1, 0, ⟨#[]⟩⟩, ⟨0, 0, t⟩, ⟨1, 0, ⟨#[]⟩⟩]
def commitEvs (n : Int) (l : List S46) : List S119 := if txOk n l = true then (List.range l.length).map (g1Of l) ++ endOf (headText l) ++ l.map (g2Of n) ++ endOf ⟨#[]⟩ else []
theorem commitEvs_length (n : Int) (l : List S46) : (commitEvs n l).length ≤ 2 * l.length + 6 := by
  unfold commitEvs endOf
  split
  · simp
    omega
  · simp
theorem range_snoc {α : Type} (g : Nat → α) (i : Nat) : (List.range (i + 1)).map g = (List.range i).map g ++ [g i] := by
  rw [List.range_succ, List.map_append]
  rfl

theorem rdPut_ev (xs : List S46) (i : Nat) : rd_T46 xs (i : Int) = xs.getD i z46 := rdPut_nat xs i
theorem impl_commit_l1 (n : Int) (l : List S46) (pre : List S119) (hp : pre.length ≤ 1048580) (hl : l.length ≤ 1048576) : Ev (fun k => impl_Commit.l1 k n pre l (l.length : Int) 0 1 0 ⟨#[]⟩) (pre ++ l.map (g2Of n) ++ endOf ⟨#[]⟩) := by
  have := ev_loop (fun k i => impl_Commit.l1 k n (pre ++ (l.take i).map (g2Of n)) l (l.length : Int) (i : Int) 1 0 ⟨#[]⟩) (fun _ => pre ++ l.map (g2Of n) ++ endOf ⟨#[]⟩) l.length ?_ ?_ 0 (Nat.zero_le _)
  · simpa using this
  · simp only [impl_Commit.l1]
    refine ev_neg (by omega) (ev_some (ev_pos ?_ (ev_cast (Ev.now _) ?_)))
    · rw [List.length_append, List.length_map, List.length_take]
      simp only [List.length_cons, List.length_nil]
      omega
    · rw [List.take_length]
      rfl
  · intro i hi e
    simp only [impl_Commit.l1]
    refine ev_pos (by omega) (ev_pos (by omega) (ev_pos (by omega) (ev_pos ?_ ?_)))
    · rw [List.length_append, List.length_map, List.length_take]
      omega
    · rw [wrap_nat (by omega), rdPut_nat, List.append_assoc, show [(⟨0, wrap64 (wrap64 (n + 1) + (l.getD i z46).f0), (l.getD i z46).f1⟩ : S119)] = [g2Of n (l.getD i z46)] from rfl, ← map_snoc z46 (g2Of n) l i hi]
      exact e
theorem impl_Commit_ev (n : Int) (l : List S46) (hl : l.length ≤ 1048576) (hw : ∀ x ∈ l, (Lit.int .i64 x.f0).wf = true) : Ev (fun k => impl_Commit.f k n l) (commitEvs n l) := by
  unfold impl_Commit.f commitEvs
  refine Ev.bind (impl_TxOk_ev n l (by omega) hw) ?_
  cases txOk n l
  · exact ev_neg (by simp) (ev_cast (Ev.now _) (by simp))
  · refine ev_pos rfl ?_
    rw [if_pos rfl]
    have := ev_loop (fun k i => impl_Commit.l0 k n l ((List.range i).map (g1Of l)) l (l.length : Int) (i : Int) 1 0 ⟨#[]⟩) (fun _ => (List.range l.length).map (g1Of l) ++ endOf (headText l) ++ l.map (g2Of n) ++ endOf ⟨#[]⟩) l.length ?_ ?_ 0 (Nat.zero_le _)
    · simpa using this
    · simp only [impl_Commit.l0]
      refine ev_neg (by omega) (Ev.bind (impl_HeadText_ev l hl hw) (ev_some (ev_pos ?_ ?_)))
      · simp only [List.length_cons, List.length_nil, List.length_map, List.length_range]
        omega
      · exact impl_commit_l1 n l _ (by simp only [List.length_append, List.length_cons, List.length_nil, List.length_map, List.length_range]; omega) hl
    · intro i hi e
      simp only [impl_Commit.l0]
      refine ev_pos (by omega) (ev_pos (by omega) (ev_pos (by omega) (ev_pos (by rw [List.length_map, List.length_range]; omega) ?_)))
      rw [wrap_nat (by omega), rdPut_nat, show [(⟨0, wrap64 (1 + (i : Int)), (l.getD i z46).f1⟩ : S119)] = [g1Of l i] from rfl, ← range_snoc]
      exact e

theorem drop_getD {α : Type} (d : α) (l : List α) (i : Nat) (x : α) (r : List α) (h : l.drop i = x :: r) : i < l.length ∧ l.getD i d = x ∧ l.drop (i + 1) = r := by
  have hi : i < l.length := by
    apply Nat.lt_of_not_le
    intro hle
    rw [List.drop_eq_nil_of_le hle] at h
    cases h
  rw [drop_cons d l i hi] at h
  injection h with h1 h2
  exact ⟨hi, h1, h2⟩
theorem pow_split (n k : Nat) : n % 128 * 2 ^ (7 * k) + n / 128 * 2 ^ (7 * (k + 1)) = n * 2 ^ (7 * k) := by
  have e2 : 2 ^ (7 * (k + 1)) = 128 * 2 ^ (7 * k) := by rw [Nat.mul_add, Nat.pow_add, Nat.mul_comm]
  rw [e2, ← Nat.mul_assoc, ← Nat.add_mul]
  congr 1
  omega
theorem getGo_put (b : List Int) (a : Nat) (rest : List Int) (f : Nat) : ∀ (k m n : Nat), k + f = 5 → b.drop (a + k) = putNat n ++ rest → m + n * 2 ^ (7 * k) ≤ 2147483647 → (k = 0 ∨ 0 < n) →
    getGo b a f k m = (((m + n * 2 ^ (7 * k) : Nat) : Int), ((a + k + (putNat n).length : Nat) : Int), true) := by
  induction f with
  | zero =>
    intro k m n hk hd hm hz
    obtain rfl : k = 5 := by omega
    have h5 : (2 : Nat) ^ (7 * 5) = 34359738368 := by decide
    rw [h5] at hm
    omega
  | succ f ih =>
    intro k m n hk hd hm hz
    rw [getGo]
    by_cases hn : n < 128
    · rw [putNat_small hn] at hd ⊢
      obtain ⟨hi, hg, _⟩ := drop_getD 0 b (a + k) (n : Int) rest hd
      have ea : gAcc m n k = m + n * 2 ^ (7 * k) := by unfold gAcc; rw [Nat.mod_eq_of_lt hn]
      rw [if_pos hi, hg, Int.toNat_natCast, if_pos hn, ea]
      generalize m + n * 2 ^ (7 * k) = z at hm ⊢
      rw [if_neg (by omega)]
      rfl
    · rw [putNat_big hn] at hd ⊢
      obtain ⟨hi, hg, hr⟩ := drop_getD 0 b (a + k) _ _ hd
      have ea : gAcc m (n % 128 + 128) k = m + n % 128 * 2 ^ (7 * k) := by unfold gAcc; rw [show (n % 128 + 128) % 128 = n % 128 from by omega]
      rw [if_pos hi, hg, Int.toNat_natCast, if_neg (by omega), ea]
      have e := pow_split n k
      have hs : (m + n % 128 * 2 ^ (7 * k)) + n / 128 * 2 ^ (7 * (k + 1)) = m + n * 2 ^ (7 * k) := by rw [Nat.add_assoc, e]
      rw [ih (k + 1) (m + n % 128 * 2 ^ (7 * k)) (n / 128) (by omega) hr (by rw [hs]; exact hm) (by omega), hs]
      refine Prod.ext rfl (Prod.ext ?_ rfl)
      dsimp only
      simp only [List.length_cons]
      congr 1
      omega
theorem getNum_put (b : List Int) (a : Nat) (n : Nat) (rest : List Int) (hd : b.drop a = putNat n ++ rest) (hn : n ≤ 2147483647) : getNum b (a : Int) = ((n : Int), ((a + (putNat n).length : Nat) : Int), true) := by
  unfold getNum
  rw [if_pos (by omega), Int.toNat_natCast]
  have := getGo_put b a rest 5 0 0 n (by omega) (by simpa using hd) (by simpa using hn) (.inl rfl)
  simpa using this

theorem and255_any (x : Int) : 0 ≤ Go.bits .and .i64 x 255 ∧ Go.bits .and .i64 x 255 ≤ 255 := by
  have h : (BitVec.ofInt 64 x &&& BitVec.ofInt 64 255).toNat ≤ 255 := by
    rw [BitVec.toNat_and]
    exact Nat.le_trans Nat.and_le_right (by decide)
  have e : Go.bits .and .i64 x 255 = IntKind.i64.wrap ((BitVec.ofInt 64 x &&& BitVec.ofInt 64 255).toNat : Int) := rfl
  rw [e, wraps_i64 _ (by omega) (by omega)]
  omega
theorem l1Byte_some (l : List Int) (i h : Int) (hl : l.length ≤ 140737488351232) (h0 : 0 ≤ i) (h1 : i ≤ l.length) :
    ∃ b j h', spec_l1Byte.f l i h = some (b, j, h') ∧ 0 ≤ b ∧ b ≤ 255 ∧ 0 ≤ j ∧ j ≤ l.length := by
  unfold spec_l1Byte.f
  by_cases c : i < (l.length : Int)
  · rw [if_pos c, if_pos h0]
    refine ⟨_, _, _, rfl, (and255_any _).1, (and255_any _).2, ?_, ?_⟩ <;> rw [wrap_up h0 (by omega)] <;> omega
  · rw [if_neg c]
    exact ⟨_, _, _, rfl, (and255_any _).1, (and255_any _).2, h0, h1⟩
theorem tmod_range (x n : Int) (hx : 0 ≤ x) (hn : 0 < n) : 0 ≤ Int.tmod x n ∧ Int.tmod x n < n := by
  rw [Int.tmod_eq_emod_of_nonneg hx]
  exact ⟨Int.emod_nonneg _ (by omega), Int.emod_lt_of_pos _ hn⟩
theorem l1Below_some (l : List Int) (i h n : Int) (hl : l.length ≤ 140737488351232) (h0 : 0 ≤ i) (h1 : i ≤ l.length) :
    ∃ v j h', spec_l1Below.f l i h n = some (v, j, h') ∧ 0 ≤ v ∧ (0 < n → v < n) ∧ (n ≤ 0 → v = 0) ∧ 0 ≤ j ∧ j ≤ l.length := by
  unfold spec_l1Below.f
  by_cases c : n ≤ 0
  · rw [if_pos c]
    exact ⟨_, _, _, rfl, by omega, by omega, fun _ => rfl, h0, h1⟩
  · rw [if_neg c]
    by_cases c2 : n ≤ 256
    · rw [if_pos c2]
      obtain ⟨b, j, h', e, hb0, hb1, hj0, hj1⟩ := l1Byte_some l i h hl h0 h1
      rw [e]
      simp only [Option.bind_some]
      rw [if_neg (by omega)]
      have := tmod_range b n hb0 (by omega)
      exact ⟨_, _, _, rfl, this.1, fun _ => this.2, by omega, hj0, hj1⟩
    · rw [if_neg c2]
      obtain ⟨b1, j1, g1, e1, hb1, hb1', hj1, hj1'⟩ := l1Byte_some l i h hl h0 h1
      obtain ⟨b2, j2, g2, e2, hb2, hb2', hj2, hj2'⟩ := l1Byte_some l j1 g1 hl hj1 hj1'
      obtain ⟨b3, j3, g3, e3, hb3, hb3', hj3, hj3'⟩ := l1Byte_some l j2 g2 hl hj2 hj2'
      obtain ⟨b4, j4, g4, e4, hb4, hb4', hj4, hj4'⟩ := l1Byte_some l j3 g3 hl hj3 hj3'
      simp only [e1, e2, e3, e4, Option.bind_some]
      rw [if_neg (by omega)]
      rw [wrap_in (x := b1 * 16777216) (by omega) (by omega), wrap_in (x := b2 * 65536) (by omega) (by omega), wrap_in (x := b3 * 256) (by omega) (by omega), wrap_in (x := b1 * 16777216 + b2 * 65536) (by omega) (by omega), wrap_in (x := b1 * 16777216 + b2 * 65536 + b3 * 256) (by omega) (by omega), wrap_in (x := b1 * 16777216 + b2 * 65536 + b3 * 256 + b4) (by omega) (by omega)]
      have := tmod_range (b1 * 16777216 + b2 * 65536 + b3 * 256 + b4) n (by omega) (by omega)
      exact ⟨_, _, _, rfl, this.1, fun _ => this.2, by omega, hj4, hj4'⟩
theorem l1New_ev (l : List Int) (hl : l.length ≤ 140737488351232) : ∃ h, Ev (fun k => spec_l1New.f k l) (l, 0, h) := by
  unfold spec_l1New.f
  have key : ∀ (d : Nat) (i : Nat) (x : Int), i + d = l.length → ∃ h, Ev (fun k => spec_l1New.l0 k l x (i : Int)) (l, 0, h) := by
    intro d
    induction d with
    | zero =>
      intro i x hi
      refine ⟨x, ev_shift ?_⟩
      simp only [spec_l1New.l0]
      exact ev_neg (by omega) (Ev.now _)
    | succ d ih =>
      intro i x hi
      by_cases c : (i : Int) < 4000
      · obtain ⟨h, e⟩ := ih (i + 1) (Go.bits .and .i64 (wrap64 ((wrap64 ((wrap64 (x * 131)) + (wrap64 (rd l (i : Int))))) + 7)) 1073741823) (by omega)
        refine ⟨h, ev_shift ?_⟩
        simp only [spec_l1New.l0]
        refine ev_pos (by omega) (ev_pos c (ev_pos (by omega) ?_))
        rw [wrap_nat (by omega)]
        exact e
      · refine ⟨x, ev_shift ?_⟩
        simp only [spec_l1New.l0]
        exact ev_pos (by omega) (ev_neg c (Ev.now _))
  exact key l.length 0 _ (by omega)

theorem l1PickInt_some (l : List Int) (i h : Int) (xs : List Int) (hl : l.length ≤ 140737488351232) (h0 : 0 ≤ i) (h1 : i ≤ l.length) (hx : 0 < xs.length) :
    ∃ v j h', spec_l1PickInt.f l i h xs = some (v, j, h') ∧ v ∈ xs ∧ 0 ≤ j ∧ j ≤ l.length := by
  unfold spec_l1PickInt.f
  obtain ⟨v, j, h', e, hv0, hv1, _, hj0, hj1⟩ := l1Below_some l i h xs.length hl h0 h1
  rw [e]
  simp only [Option.bind_some]
  have hv := hv1 (by omega)
  rw [if_pos hv0, if_pos hv]
  refine ⟨_, _, _, rfl, ?_, hj0, hj1⟩
  exact getD_mem 0 xs v.toNat (by omega)

theorem l1Pick_some (l : List Int) (i h : Int) (xs : List ByteArray) (hl : l.length ≤ 140737488351232) (h0 : 0 ≤ i) (h1 : i ≤ l.length) (hx : 0 < xs.length) :
    ∃ v j h', spec_l1Pick.f l i h xs = some (v, j, h') ∧ v ∈ xs ∧ 0 ≤ j ∧ j ≤ l.length := by
  unfold spec_l1Pick.f
  obtain ⟨v, j, h', e, hv0, hv1, _, hj0, hj1⟩ := l1Below_some l i h xs.length hl h0 h1
  rw [e]
  simp only [Option.bind_some]
  have hv := hv1 (by omega)
  rw [if_pos hv0, if_pos hv]
  refine ⟨_, _, _, rfl, ?_, hj0, hj1⟩
  exact getD_mem ByteArray.empty xs v.toNat (by omega)

theorem l1Once_some (l : List Int) (i h n : Int) (hl : l.length ≤ 140737488351232) (h0 : 0 ≤ i) (h1 : i ≤ l.length) : ∃ b j h', spec_l1Once.f l i h n = some (b, j, h') ∧ 0 ≤ j ∧ j ≤ l.length := by
  unfold spec_l1Once.f
  obtain ⟨v, j, h', e, _, _, _, hj0, hj1⟩ := l1Below_some l i h n hl h0 h1
  rw [e]
  exact ⟨_, _, _, rfl, hj0, hj1⟩
theorem l1Bytes_ev (l : List Int) (n : Nat) (hn : n ≤ 1000000) (hl : l.length ≤ 140737488351232) (d : Nat) : ∀ (q : Nat) (acc : List Int) (i h : Int), q + d = n → acc.length ≤ q → 0 ≤ i → i ≤ l.length →
    ∃ ys j h', Ev (fun k => spec_l1Bytes.l0 k (n : Int) acc (q : Int) l i h) (ys, j, h') ∧ 0 ≤ j ∧ j ≤ l.length ∧ ys.length ≤ n := by
  induction d with
  | zero =>
    intro q acc i h hq ha h0 h1
    refine ⟨acc, i, h, ev_shift ?_, h0, h1, by omega⟩
    simp only [spec_l1Bytes.l0]
    exact ev_neg (by omega) (Ev.now _)
  | succ d ih =>
    intro q acc i h hq ha h0 h1
    obtain ⟨b, j, g, e, _, _, hj0, hj1⟩ := l1Byte_some l i h hl h0 h1
    obtain ⟨ys, j2, g2, e2, r⟩ := ih (q + 1) (acc ++ [b % 256]) j g (by omega) (by rw [List.length_append, List.length_singleton]; omega) hj0 hj1
    refine ⟨ys, j2, g2, ev_shift ?_, r⟩
    simp only [spec_l1Bytes.l0]
    refine ev_pos (by omega) (ev_eq e (ev_pos (by omega) ?_))
    rw [wrap_nat (by omega)]
    exact e2
theorem l3Data_ev (l : List Int) (i h : Int) (hl : l.length ≤ 140737488351232) (h0 : 0 ≤ i) (h1 : i ≤ l.length) : ∃ d j h', Ev (fun k => spec_l3Data.f k l i h) (d, j, h') ∧ 0 ≤ j ∧ j ≤ l.length := by
  unfold spec_l3Data.f spec_l1Bytes.f
  obtain ⟨ys, j, g, e, hj0, hj1, _⟩ := l1Bytes_ev l 5 (by omega) hl 5 0 [] i h (by omega) (by simp) h0 h1
  obtain ⟨v, j2, g2, e2, _, hk0, hk1⟩ := l1Pick_some l j g [(⟨#[]⟩ : ByteArray), (⟨#[97]⟩ : ByteArray), (⟨#[98, 99]⟩ : ByteArray), (⟨#[100, 101, 102]⟩ : ByteArray), strOfNums ys] hl hj0 hj1 (by simp)
  exact ⟨v, j2, g2, Ev.bind e (ev_eq e2 (Ev.now _)), hk0, hk1⟩
theorem l4Tx_l (l : List Int) (n : Nat) (hn : 1 ≤ n ∧ n ≤ 1000) (hl : l.length ≤ 140737488351232) (d : Nat) : ∀ (q : Nat) (acc : List S46) (i h : Int), q + d = n → acc.length ≤ q → (d = 0 → 0 < acc.length) → (∀ x ∈ acc, 0 ≤ x.f0 ∧ x.f0 < n) → 0 ≤ i → i ≤ l.length →
    ∃ ys j h', Ev (fun k => spec_l4Tx.l0 k (n : Int) acc (q : Int) l i h) (ys, j, h') ∧ 0 ≤ j ∧ j ≤ l.length ∧ 0 < ys.length ∧ ys.length ≤ n ∧ ∀ x ∈ ys, 0 ≤ x.f0 ∧ x.f0 < n := by
  induction d with
  | zero =>
    intro q acc i h hq ha hd hr h0 h1
    refine ⟨acc, i, h, ev_shift ?_, h0, h1, hd rfl, by omega, hr⟩
    simp only [spec_l4Tx.l0]
    exact ev_neg (by omega) (Ev.now _)
  | succ d ih =>
    intro q acc i h hq ha hd hr h0 h1
    obtain ⟨b, j, g, e, hj0, hj1⟩ := l1Once_some l i h 3 hl h0 h1
    have add : ∃ ys j2 h2, Ev (fun k => (spec_l3Data.f k l j g).bind fun bt => (if acc.length < 5864062014805 then (spec_l4Tx.l0 k (n : Int) (acc ++ [(⟨(q : Int), bt.1⟩ : S46)]) (wrap64 ((q : Int) + 1)) l bt.2.1 bt.2.2) else (none))) (ys, j2, h2) ∧ 0 ≤ j2 ∧ j2 ≤ l.length ∧ 0 < ys.length ∧ ys.length ≤ n ∧ ∀ x ∈ ys, 0 ≤ x.f0 ∧ x.f0 < n := by
      obtain ⟨dd, j2, g2, e2, hk0, hk1⟩ := l3Data_ev l j g hl hj0 hj1
      obtain ⟨ys, j3, g3, e3, r⟩ := ih (q + 1) (acc ++ [(⟨(q : Int), dd⟩ : S46)]) j2 g2 (by omega) (by rw [List.length_append, List.length_singleton]; omega) (fun _ => by rw [List.length_append, List.length_singleton]; omega) (by
        intro x hx
        rw [List.mem_append] at hx
        rcases hx with hx | hx
        · exact hr x hx
        · rw [List.mem_singleton] at hx
          subst hx
          dsimp only
          omega) hk0 hk1
      refine ⟨ys, j3, g3, Ev.bind e2 (ev_pos (by omega) ?_), r⟩
      rw [wrap_nat (by omega)]
      exact e3
    obtain ⟨ysA, jA, gA, eA, rA⟩ := add
    by_cases hb : b = true
    · refine ⟨ysA, jA, gA, ev_shift ?_, rA⟩
      simp only [spec_l4Tx.l0]
      exact ev_pos (by omega) (ev_eq e (ev_pos hb eA))
    · have go : (d = 0 → 0 < acc.length) → ∃ ys j2 h2, Ev (fun k => spec_l4Tx.l0 k (n : Int) acc (wrap64 ((q : Int) + 1)) l j g) (ys, j2, h2) ∧ 0 ≤ j2 ∧ j2 ≤ l.length ∧ 0 < ys.length ∧ ys.length ≤ n ∧ ∀ x ∈ ys, 0 ≤ x.f0 ∧ x.f0 < n := by
        intro hz
        rw [wrap_nat (by omega)]
        exact ih (q + 1) acc j g (by omega) (by omega) hz hr hj0 hj1
      by_cases hq2 : (q : Int) = wrap64 ((n : Int) - 1)
      · have hq3 := hq2
        rw [wrap_in (by omega) (by omega)] at hq3
        by_cases hz : acc.length = 0
        · refine ⟨ysA, jA, gA, ev_shift ?_, rA⟩
          simp only [spec_l4Tx.l0]
          exact ev_pos (by omega) (ev_eq e (ev_neg hb (ev_pos hq2 (ev_pos (by omega) eA))))
        · obtain ⟨ys, j2, g2, e2, r⟩ := go (fun _ => by omega)
          refine ⟨ys, j2, g2, ev_shift ?_, r⟩
          simp only [spec_l4Tx.l0]
          exact ev_pos (by omega) (ev_eq e (ev_neg hb (ev_pos hq2 (ev_neg (by omega) e2))))
      · have hq3 := hq2
        rw [wrap_in (by omega) (by omega)] at hq3
        obtain ⟨ys, j2, g2, e2, r⟩ := go (fun hd0 => by omega)
        refine ⟨ys, j2, g2, ev_shift ?_, r⟩
        simp only [spec_l4Tx.l0]
        exact ev_pos (by omega) (ev_eq e (ev_neg hb (ev_neg hq2 e2)))
theorem l4Tx_ev (l : List Int) (n : Nat) (hn : 1 ≤ n ∧ n ≤ 1000) (hl : l.length ≤ 140737488351232) (i h : Int) (h0 : 0 ≤ i) (h1 : i ≤ l.length) :
    ∃ ys j h', Ev (fun k => spec_l4Tx.f k l i h (n : Int)) (ys, j, h') ∧ 0 ≤ j ∧ j ≤ l.length ∧ 0 < ys.length ∧ ys.length ≤ n ∧ ∀ x ∈ ys, 0 ≤ x.f0 ∧ x.f0 < n :=
  l4Tx_l l n hn hl n 0 [] i h (by omega) (by simp) (by omega) (by simp) h0 h1
theorem l4Bent_ev (l : List Int) (n : Nat) (hn : 1 ≤ n ∧ n ≤ 1000) (hl : l.length ≤ 140737488351232) (i h : Int) (h0 : 0 ≤ i) (h1 : i ≤ l.length) :
    ∃ ys j h', Ev (fun k => spec_l4Bent.f k l i h (n : Int)) (ys, j, h') ∧ 0 ≤ j ∧ j ≤ l.length ∧ ys.length ≤ n + 1 ∧ ∀ x ∈ ys, -1 ≤ x.f0 ∧ x.f0 ≤ 1000 := by
  unfold spec_l4Bent.f
  obtain ⟨ys, j, g, e, hj0, hj1, hp, hlen, hr⟩ := l4Tx_ev l n hn hl i h h0 h1
  obtain ⟨v, j2, g2, e2, _, _, _, hk0, hk1⟩ := l1Below_some l j g 10 hl hj0 hj1
  by_cases c0 : v = 0
  · exact ⟨[], j2, g2, Ev.bind e (ev_eq e2 (ev_pos c0 (Ev.now _))), hk0, hk1, by simp, by simp⟩
  · by_cases c1 : v = 1
    · obtain ⟨a, j3, g3, e3, ha, hm0, hm1⟩ := l1PickInt_some l j2 g2 [0, (n : Int), -1, 48] hl hk0 hk1 (by simp)
      refine ⟨ys ++ [⟨a, ⟨#[]⟩⟩], j3, g3, Ev.bind e (ev_eq e2 (ev_neg c0 (ev_pos c1 (ev_eq e3 (ev_pos (by dsimp only; omega) (Ev.now _)))))), hm0, hm1, by rw [List.length_append, List.length_singleton]; omega, ?_⟩
      intro x hx
      rw [List.mem_append] at hx
      rcases hx with hx | hx
      · have := hr x hx
        omega
      · rw [List.mem_singleton] at hx
        subst hx
        simp only [List.mem_cons, List.not_mem_nil, or_false] at ha
        dsimp only
        omega
    · by_cases c2 : v = 2
      · obtain ⟨a, j3, g3, e3, ha, hm0, hm1⟩ := l1PickInt_some l j2 g2 [90, 91] hl hk0 hk1 (by simp)
        simp only [List.mem_cons, List.not_mem_nil, or_false] at ha
        refine ⟨ys.set 0 ⟨(ys.getD 0 z46).f0, strOfNums (List.replicate a.toNat 0)⟩, j3, g3, Ev.bind e (ev_eq e2 (ev_neg c0 (ev_neg c1 (ev_pos c2 (ev_eq e3 (ev_pos (by dsimp only; omega) (ev_pos (by dsimp only; omega) (ev_pos (by dsimp only; omega) (ev_cast (Ev.now _) ?_))))))))), hm0, hm1, by rw [List.length_set]; omega, ?_⟩
        · rw [show rd_T46 ys 0 = ys.getD 0 z46 from rdPut_nat ys 0]
          rfl
        · intro x hx
          rcases List.mem_or_eq_of_mem_set hx with hx | hx
          · have := hr x hx
            omega
          · subst hx
            have := hr _ (getD_mem z46 ys 0 hp)
            dsimp only
            omega
      · exact ⟨ys, j2, g2, Ev.bind e (ev_eq e2 (ev_neg c0 (ev_neg c1 (ev_neg c2 (Ev.now _))))), hk0, hk1, by omega, fun x hx => by have := hr x hx; omega⟩
theorem DrawTxOk_ev (l : List Int) (hl : l.length ≤ 140737488351232) : ∃ a ys, Ev (fun k => spec_DrawTxOk.f k l) (a, ys) ∧ ys.length ≤ 7 ∧ (∀ x ∈ ys, -1 ≤ x.f0 ∧ x.f0 ≤ 1000) ∧ -1 ≤ a ∧ a ≤ 49 := by
  unfold spec_DrawTxOk.f
  obtain ⟨g0, e0⟩ := l1New_ev l hl
  obtain ⟨v, j, g, e, hv0, hv1, _, hj0, hj1⟩ := l1Below_some l 0 g0 6 hl (by omega) (by omega)
  have hv := hv1 (by omega)
  have hw : wrap64 (1 + v) = ((1 + v.toNat : Nat) : Int) := by
    rw [wrap_in (by omega) (by omega)]
    omega
  obtain ⟨ys, j2, g2, e2, hk0, hk1, hlen, hr⟩ := l4Bent_ev l (1 + v.toNat) (by omega) hl j g hj0 hj1
  obtain ⟨b, j3, g3, e3, hm0, hm1⟩ := l1Once_some l j2 g2 10 hl hk0 hk1
  by_cases hb : b = true
  · obtain ⟨a, j4, g4, e4, ha, _, _⟩ := l1PickInt_some l j3 g3 [0, 48, 49, -1] hl hm0 hm1 (by simp)
    simp only [List.mem_cons, List.not_mem_nil, or_false] at ha
    refine ⟨a, ys, Ev.bind e0 (ev_eq e (Ev.bind (by rw [hw]; exact e2) (ev_eq e3 (ev_pos hb (ev_eq e4 (Ev.now _)))))), by omega, hr, by omega, by omega⟩
  · refine ⟨wrap64 (1 + v), ys, Ev.bind e0 (ev_eq e (Ev.bind (by rw [hw]; exact e2) (ev_eq e3 (ev_neg hb (Ev.now _))))), by omega, hr, by omega, by omega⟩
theorem DrawHeadText_ev (l : List Int) (hl : l.length ≤ 140737488351232) : ∃ ys, Ev (fun k => spec_DrawHeadText.f k l) ys ∧ ys.length ≤ 7 ∧ ∀ x ∈ ys, -1 ≤ x.f0 ∧ x.f0 ≤ 1000 := by
  unfold spec_DrawHeadText.f
  obtain ⟨a, ys, e, h1, h2, _, _⟩ := DrawTxOk_ev l hl
  exact ⟨ys, Ev.bind e (Ev.now _), h1, h2⟩

theorem bytesOf_strOf (l : List Int) (h : ∀ x ∈ l, 0 ≤ x ∧ x ≤ 255) : bytesOf (strOfNums l) = l := by
  unfold bytesOf
  rw [strOfNums_data, List.map_map]
  conv => rhs; rw [← List.map_id l]
  apply List.map_congr_left
  intro x hx
  have := h x hx
  have e : x.toNat % 256 = x.toNat := by omega
  simp only [Function.comp, UInt8.toNat_ofNat', id]
  omega
theorem txGo_facts (n : Int) (l : List S46) : ∀ last, txGo n last l = true → (∀ w ∈ l, last < w.f0 ∧ w.f0 ≤ n - 1) ∧ (0 < l.length → last + (l.length : Int) ≤ n - 1) := by
  induction l with
  | nil => intro last _; exact ⟨by simp, by simp⟩
  | cons x l ih =>
    intro last h
    rw [txGo, Bool.and_eq_true, Bool.and_eq_true, decide_eq_true_iff, decide_eq_true_iff] at h
    obtain ⟨h1, h2⟩ := ih _ h.2.2
    refine ⟨?_, fun _ => ?_⟩
    · intro w hw
      rw [List.mem_cons] at hw
      rcases hw with rfl | hw
      · omega
      · have := h1 w hw
        omega
    · rw [List.length_cons]
      by_cases c : 0 < l.length
      · have := h2 c
        omega
      · omega
theorem txOk_facts {n : Int} {l : List S46} (h : txOk n l = true) : 1 ≤ n ∧ n ≤ 48 ∧ 0 < l.length ∧ (l.length : Int) ≤ n ∧ ∀ w ∈ l, 0 ≤ w.f0 ∧ w.f0 ≤ n - 1 := by
  unfold txOk at h
  rw [Bool.and_eq_true, Bool.and_eq_true, decide_eq_true_iff] at h
  obtain ⟨h1, h2⟩ := txGo_facts n l _ h.2.2
  have hp : 0 < l.length := by
    cases l with
    | nil => simp at h
    | cons x l => simp
  refine ⟨h.1.1, h.1.2, hp, by have := h2 hp; omega, fun w hw => by have := h1 w hw; omega⟩
theorem txGo_puts (n : Int) (l : List S46) : ∀ last, txGo n last l = true → txGo n last (putsOf (l.map (·.f0))) = true := by
  induction l with
  | nil => intro last _; rfl
  | cons x l ih =>
    intro last h
    rw [txGo, Bool.and_eq_true, Bool.and_eq_true, decide_eq_true_iff] at h
    show txGo n last (⟨x.f0, ⟨#[]⟩⟩ :: putsOf (l.map (·.f0))) = true
    rw [txGo, Bool.and_eq_true, Bool.and_eq_true, decide_eq_true_iff]
    exact ⟨h.1, by simp [ByteArray.size], ih _ h.2.2⟩
theorem txOk_puts {n : Int} {l : List S46} (h : txOk n l = true) : txOk n (putsOf (l.map (·.f0))) = true := by
  unfold txOk at h ⊢
  rw [Bool.and_eq_true, Bool.and_eq_true] at h ⊢
  refine ⟨h.1, ?_, txGo_puts n l _ h.2.2⟩
  cases l with
  | nil => simp at h
  | cons x l => rfl
theorem putNum_nat (x : Int) (h : 0 ≤ x ∧ x ≤ 2147483647) : putNum x = putNat x.toNat := by
  unfold putNum
  rw [if_pos h]
theorem headGo_trip (b : List Int) (tl : List Int) (ats : List Int) (hr : ∀ x ∈ ats, 0 ≤ x ∧ x ≤ 2147483647) : ∀ (a : Nat) (acc : List Int), b.drop a = ats.flatMap putNum ++ tl → a ≤ b.length →
    ∃ a2 : Nat, headGo b ats.length (a : Int) acc = some (acc ++ ats, (a2 : Int)) ∧ b.drop a2 = tl ∧ a2 ≤ b.length := by
  induction ats with
  | nil =>
    intro a acc h hl
    exact ⟨a, by simp [headGo], by simpa using h, hl⟩
  | cons x ats ih =>
    intro a acc h hl
    have hx := hr x (by simp)
    rw [List.flatMap_cons, List.append_assoc, putNum_nat x hx] at h
    have hg := getNum_put b a x.toNat _ h (by omega)
    have hd : b.drop (a + (putNat x.toNat).length) = ats.flatMap putNum ++ tl := by
      rw [← List.drop_drop, h, List.drop_left]
    have hle : a + (putNat x.toNat).length ≤ b.length := by
      have := congrArg List.length h
      rw [List.length_drop, List.length_append] at this
      omega
    obtain ⟨a2, e, h2, h3⟩ := ih (fun y hy => hr y (List.mem_cons_of_mem _ hy)) (a + (putNat x.toNat).length) (acc ++ [x]) hd hle
    refine ⟨a2, ?_, h2, h3⟩
    rw [List.length_cons, headGo, hg]
    dsimp only
    rw [if_pos rfl, show ((x.toNat : Nat) : Int) = x from by omega, e]
    simp
theorem four_range (s : Int) : ∀ x ∈ four s, 0 ≤ x ∧ x ≤ 255 := by
  intro x hx
  unfold four at hx
  simp only [List.mem_cons, List.not_mem_nil, or_false] at hx
  omega
theorem headNums_range (ats : List Int) (s : Int) : ∀ x ∈ headNums ats s, 0 ≤ x ∧ x ≤ 255 := by
  intro x hx
  unfold headNums at hx
  rw [List.mem_append, List.mem_append, List.mem_append, List.mem_flatMap] at hx
  rcases hx with ((hx | hx) | ⟨y, _, hx⟩) | hx
  · rw [List.mem_singleton] at hx
    omega
  · exact putNum_range _ x hx
  · exact putNum_range _ x hx
  · exact four_range s x hx
theorem headOf_trip {l : List S46} (h : txOk 48 l = true) : (headOf (bytesOf (headText l)) 48).1 = l.map (·.f0) ∧ (headOf (bytesOf (headText l)) 48).2.2 = true := by
  obtain ⟨_, _, hp, hn, hr⟩ := txOk_facts h
  unfold headText
  rw [if_pos h, bytesOf_strOf _ (headNums_range _ _)]
  generalize hs : crc (sumBytes (l.map (·.f1))) = s
  have hlen : (l.map (·.f0)).length = l.length := by rw [List.length_map]
  have hb0 : (headNums (l.map (·.f0)) s).drop 1 = putNat l.length ++ ((l.map (·.f0)).flatMap putNum ++ four s) := by
    unfold headNums
    rw [hlen, putNum_nat _ (by omega), Int.toNat_natCast]
    simp
  have hb1 : (headNums (l.map (·.f0)) s).getD 0 0 = 74 := by
    unfold headNums
    simp
  have hfl : (headNums (l.map (·.f0)) s).length = 1 + ((putNat l.length).length + (((l.map (·.f0)).flatMap putNum).length + 4)) := by
    have := congrArg List.length hb0
    rw [List.length_drop, List.length_append, List.length_append, show (four s).length = 4 from rfl] at this
    have hpos : 0 < (headNums (l.map (·.f0)) s).length := by
      unfold headNums
      simp
    omega
  generalize headNums (l.map (·.f0)) s = b at *
  have hg := getNum_put b 1 l.length _ hb0 (by omega)
  rw [show ((1 : Nat) : Int) = 1 from rfl] at hg
  have hd : b.drop (1 + (putNat l.length).length) = (l.map (·.f0)).flatMap putNum ++ four s := by
    rw [← List.drop_drop, hb0, List.drop_left]
  obtain ⟨a2, e, h2, h3⟩ := headGo_trip b (four s) (l.map (·.f0)) (by
    intro x hx
    rw [List.mem_map] at hx
    obtain ⟨w, hw, rfl⟩ := hx
    have := hr w hw
    omega) (1 + (putNat l.length).length) [] hd (by omega)
  have h4 := congrArg List.length h2
  rw [List.length_drop, show (four s).length = 4 from rfl] at h4
  rw [hlen] at e
  unfold headOf
  rw [hg]
  dsimp only
  rw [if_pos ⟨rfl, hb1, by omega, by omega⟩, Int.toNat_natCast, e, headEnd, if_pos (by omega), List.nil_append, if_pos (txOk_puts h)]
  exact ⟨rfl, rfl⟩

theorem heads_l (l : List S46) (hl : l.length ≤ 1048576) (hc : Ev (fun k => impl_Commit.f k 48 l) (commitEvs 48 l)) (h : txOk 48 l = true) : Ev (fun k => laws_FnHeads.l0 k l (l.map (·.f0)) 0) true := by
  have := ev_loop (fun k i => laws_FnHeads.l0 k l (l.map (·.f0)) (i : Int)) (fun _ => true) l.length ?_ ?_ 0 (Nat.zero_le _)
  · exact this
  · simp only [laws_FnHeads.l0]
    refine ev_neg (by rw [List.length_map]; omega) (Ev.bind hc (ev_cast (Ev.now _) ?_))
    have e : (commitEvs 48 l).length = 2 * l.length + 6 := by
      unfold commitEvs endOf
      rw [if_pos h]
      simp only [List.length_append, List.length_map, List.length_range, List.length_cons, List.length_nil]
      omega
    rw [e, wrap_in (x := 2 * (l.length : Int)) (by omega) (by omega), wrap_in (by omega) (by omega)]
    simp
  · intro i hi e
    simp only [laws_FnHeads.l0]
    refine ev_pos (by rw [List.length_map]; omega) (ev_pos (by omega) (ev_pos (by omega) (ev_pos ?_ ?_)))
    · rw [rd_nat, rdPut_nat]
      simp [List.getD, hi]
    · rw [wrap_nat (by omega)]
      exact e
theorem FnHeads : laws_FnHeads.Pure := by
  intro l _ hl _
  have hl' : l.length ≤ 140737488351232 := by omega
  apply Ev.rounds (g := fun k => laws_FnHeads.f k l)
  unfold laws_FnHeads.f
  by_cases hbig : decide ((l.length : Int) > 1048576) = true
  · exact ev_eq (show laws_big.f l = some true by unfold laws_big.f; rw [hbig]) (ev_pos rfl (Ev.now _))
  · rw [Bool.not_eq_true] at hbig
    refine ev_eq (show laws_big.f l = some false by unfold laws_big.f; rw [hbig]) (ev_neg (by simp) ?_)
    obtain ⟨ys, ed, h1, h2⟩ := DrawHeadText_ev l hl'
    have hw : ∀ x ∈ ys, (Lit.int .i64 x.f0).wf = true := by
      intro x hx
      have := h2 x hx
      simp only [Lit.wf, IntKind.wrap_i64]
      have e : (x.f0 + 9223372036854775808) % 18446744073709551616 - 9223372036854775808 = x.f0 := by omega
      simp [e]
      exact ⟨by have : IntKind.i64.min = -9223372036854775808 := rfl; omega, by omega⟩
    have hc := impl_Commit_ev 48 ys (by omega) hw
    have hht := impl_HeadText_ev ys (by omega) hw
    refine Ev.bind ed (Ev.bind hht ?_)
    cases ht : txOk 48 ys
    · have e : headText ys = (⟨#[]⟩ : ByteArray) := by
        unfold headText
        rw [ht]
        rfl
      rw [e]
      have ho := impl_HeadOf_ev (⟨#[]⟩ : ByteArray) 48 (by simp [ByteArray.size])
      have hv : headOf (bytesOf (⟨#[]⟩ : ByteArray)) 48 = ([], 0, false) := by
        unfold headOf
        rw [if_neg]
        intro z
        have := z.2.1
        simp [bytesOf] at this
      rw [hv] at ho
      refine Ev.bind ho (Ev.bind (by have := spec_TxOk_ev 48 ys (by omega); rw [ht] at this; exact this) (ev_neg (by simp) (ev_pos (by rw [ByteArray.toList_eq]) (ev_neg (by simp) (Ev.bind hc (ev_cast (Ev.now _) ?_))))))
      unfold commitEvs
      rw [ht]
      rfl
    · obtain ⟨t1, t2⟩ := headOf_trip ht
      have hsz : (headText ys).size ≤ 1048576 := by
        unfold headText
        rw [if_pos ht, strOfNums_size]
        unfold headNums
        have a1 := putNum_length ((ys.map (·.f0)).length : Int)
        have a2 := flat_len putNum 5 (ys.map (·.f0)) (fun x _ => putNum_length x)
        rw [List.length_map] at a2
        simp only [List.length_append, List.length_cons, List.length_nil, show ∀ s, (four s).length = 4 from fun _ => rfl]
        omega
      have ho := impl_HeadOf_ev (headText ys) 48 hsz
      refine Ev.bind ho (Ev.bind (by have := spec_TxOk_ev 48 ys (by omega); rw [ht] at this; exact this) (ev_pos rfl (ev_pos t2 (ev_shift ?_))))
      simp only [laws_FnHeads.j0]
      rw [t1]
      exact ev_neg (by simp) (heads_l ys (by omega) hc ht)

end Go.Proofs.Ytfpfdiagmnajaaa.Pure
namespace Go.Proofs.Ytfpfdiagmnajaaa
open Go.ChangeShapes Go.WideShapes
/-- The printed row names it so. -/
theorem PrintWords.sized_ints {H : Type} {enc : TypeId × Value → H} {P : Program} {W : World} {base : Nat} {spare : Nat → Bool} {held : Bool} {t e : TypeId} {k : IntKind} {a : Option Addr} {len cap : Nat} {d : DataW H} {ps : List MemPlace} {ts : List TypeId} {ds : List (DataW H)} {j : Nat}
    (hsz : (DataW.weightsEach P ts ds).all (· ≤ reachBytes) = true) (ht : ts[j]? = some t) (hd : ds[j]? = some d) (hu : P.underlying t = some (.slice e)) (he : P.underlying e = some (.int k)) (hc : P.cellsOf e = 1) {B : Nat} (hB : P.bytesOf e = B)
    (h : DataW.Trod enc P W base spare held t (.slice a len cap) d ps) : len * B ≤ 140737488351232 :=
  Go.Proofs.YtfpfdiagmnajaaaW.PrintWords.sized_ints hsz ht hd hu he hc hB h
end Go.Proofs.Ytfpfdiagmnajaaa
