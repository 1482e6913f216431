/- FnExactCrc: the law's function of the print answers true for every input within the row's bounds. Conditions: none but the bounds that the row itself gives. -/
import Derived.Test.YtebfpnaofbpbjaaPFnExactCrcx1
import Derived.OpenShut
import Derived.Laws.BitsLemmas
import Derived.Test.YtebfpnaofbpbjaaWSized
import Derived.Test.YtebfpnaofbpbjaaWSized
namespace Go.Proofs.Ytebfpnaofbpbjaa.Pure
open Go Go.RowKit Go.Proofs.Ytebfpnaofbpbjaa.PFnExactCrc Go.Proofs.YtebfpnaofbpbjaaW.PrintWords Go.Proofs.YtebfpnaofbpbjaaW.PrintLast
set_option linter.unusedVariables false
set_option linter.unusedSimpArgs false

theorem ev_shift {α : Type} {g : Nat → Option α} {r : α} (h : Ev (fun k => g (k + 1)) r) : Ev g r := Ev.step (f := fun k => g (k + 1)) (fun _ => rfl) h
theorem ev_unshift {α : Type} {g : Nat → Option α} {r : α} (h : Ev g r) : Ev (fun k => g (k + 1)) r := by
  obtain ⟨K, h⟩ := h
  exact ⟨K, fun k hk => h (k + 1) (by omega)⟩
theorem ev_pos {α : Type} {c : Prop} [Decidable c] {f g : Nat → Option α} {r : α} (h : c) (e : Ev f r) : Ev (fun k => if c then f k else g k) r := by
  simpa only [if_pos h] using e
theorem ev_neg {α : Type} {c : Prop} [Decidable c] {f g : Nat → Option α} {r : α} (h : ¬ c) (e : Ev g r) : Ev (fun k => if c then f k else g k) r := by
  simpa only [if_neg h] using e
theorem ev_eq {α β : Type} {o : Option α} {a : α} {f : Nat → α → Option β} {r : β} (h : o = some a) (e : Ev (fun k => f k a) r) : Ev (fun k => o.bind (f k)) r := by
  subst h
  exact e
theorem ev_some {α β : Type} {a : α} {f : Nat → α → Option β} {r : β} (e : Ev (fun k => f k a) r) : Ev (fun k => (some a).bind (f k)) r := e
theorem ev_cast {α : Type} {g : Nat → Option α} {r r' : α} (h : Ev g r) (e : r = r') : Ev g r' := e ▸ h
theorem ev_loop {ρ : Type} (L : Nat → Nat → Option ρ) (res : Nat → ρ) (n : Nat) (he : Ev (fun k => L (k + 1) n) (res n))
    (hs : ∀ i, i < n → Ev (fun k => L k (i + 1)) (res (i + 1)) → Ev (fun k => L (k + 1) i) (res i)) : ∀ i, i ≤ n → Ev (fun k => L k i) (res i) := by
  have key : ∀ d i, i + d = n → Ev (fun k => L k i) (res i) := by
    intro d
    induction d with
    | zero =>
      intro i h
      obtain rfl : i = n := by omega
      exact ev_shift he
    | succ d ih =>
      intro i h
      exact ev_shift (hs i (by omega) (ih (i + 1) (by omega)))
  intro i h
  exact key (n - i) i (by omega)
theorem wrap_in {x : Int} (h0 : -9223372036854775808 ≤ x) (h1 : x ≤ 9223372036854775807) : wrap64 x = x := by
  unfold wrap64
  omega
theorem wrap_nat {i : Nat} (h : i < 9223372036854775807) : wrap64 ((i : Int) + 1) = ((i + 1 : Nat) : Int) := by
  unfold wrap64
  omega
theorem wrap_up {i : Int} (h0 : 0 ≤ i) (h : i < 9223372036854775807) : wrap64 (i + 1) = i + 1 := by
  unfold wrap64
  omega
theorem rd_nat (xs : List Int) (i : Nat) : rd xs (i : Int) = xs.getD i 0 := by simp [rd]
theorem rdOf_nat {α : Type} (d : α) (xs : List α) (i : Nat) : rdOf d xs (i : Int) = xs.getD i d := by simp [rdOf]
theorem bt_nat (s : ByteArray) (i : Nat) : bt s (i : Int) = (bytesOf s).getD i 0 := by rw [← rd_bytesOf, rd_nat]
theorem drop_cons {α : Type} (d : α) (l : List α) (i : Nat) (h : i < l.length) : l.drop i = l.getD i d :: l.drop (i + 1) := by
  rw [List.drop_eq_getElem_cons h]
  simp [List.getD, h]
theorem getD_mem {α : Type} (d : α) (l : List α) (i : Nat) (h : i < l.length) : l.getD i d ∈ l := by
  simp [List.getD, h]
theorem bytesOf_range (s : ByteArray) : ∀ x ∈ bytesOf s, 0 ≤ x ∧ x ≤ 255 := by
  intro x hx
  simp only [bytesOf, List.mem_map] at hx
  obtain ⟨b, _, rfl⟩ := hx
  have := b.toNat_lt
  omega
theorem bt_lo (s : ByteArray) (i : Int) : 0 ≤ bt s i := (bt_range s i).1
theorem bt_hi (s : ByteArray) (i : Int) : bt s i ≤ 255 := (bt_range s i).2

theorem copy_step {α : Type} (d : α) (l : List α) (i : Nat) (h : i < l.length) : (l.take i ++ List.replicate (l.length - i) d).set i (l.getD i d) = l.take (i + 1) ++ List.replicate (l.length - (i + 1)) d := by
  have hlen : (l.take i).length = i := by simp; omega
  rw [List.set_append_right _ _ (by omega), hlen, Nat.sub_self]
  obtain ⟨m, hm⟩ : ∃ m, l.length - i = m + 1 := ⟨l.length - i - 1, by omega⟩
  rw [hm, List.replicate_succ, List.set_cons_zero, List.take_succ_eq_append_getElem h, List.append_assoc]
  have : l.length - (i + 1) = m := by omega
  rw [this]
  simp [List.getD, h]
theorem toByteS_ev (l : List Int) (h : l.length ≤ 140737488351232) : Ev (fun k => laws_toByteS.f k l) l := by
  unfold laws_toByteS.f
  refine ev_pos (by omega) (ev_pos (by omega) ?_)
  have := ev_loop (fun k i => laws_toByteS.l0 k l (l.take i ++ List.replicate (l.length - i) 0) (i : Int)) (fun _ => l) l.length ?_ ?_ 0 (Nat.zero_le _)
  · simpa using this
  · simp only [laws_toByteS.l0]
    refine ev_neg (by omega) ?_
    simp only [List.take_length, Nat.sub_self, List.replicate_zero, List.append_nil]
    exact Ev.now _
  · intro i hi e
    simp only [laws_toByteS.l0]
    refine ev_pos (by omega) (ev_pos (by omega) (ev_pos (by simp; omega) ?_))
    rw [wrap_nat (by omega), rd_nat, Int.toNat_natCast, copy_step 0 l i hi]
    exact e

theorem drop_eq {α : Type} [DecidableEq α] (d : α) (a b : List α) (i : Nat) (ha : i < a.length) (hb : i < b.length) : (a.drop i = b.drop i) ↔ (a.getD i d = b.getD i d ∧ a.drop (i + 1) = b.drop (i + 1)) := by
  rw [drop_cons d a i ha, drop_cons d b i hb]
  simp
theorem eqByteS_ev (a b : List Int) (h : a.length ≤ 140737488351232) : Ev (fun k => laws_eqByteS.f k a b) (decide (a = b)) := by
  unfold laws_eqByteS.f
  by_cases hl : a.length = b.length
  · refine ev_pos (by omega) ?_
    have := ev_loop (fun k i => laws_eqByteS.l0 k a b (i : Int)) (fun i => decide (a.drop i = b.drop i)) a.length ?_ ?_ 0 (Nat.zero_le _)
    · exact this
    · simp only [laws_eqByteS.l0]
      refine ev_neg (by omega) ?_
      refine ev_cast (Ev.now _) ?_
      rw [List.drop_length, hl, List.drop_length]
      simp
    · intro i hi e
      simp only [laws_eqByteS.l0]
      refine ev_pos (by omega) (ev_pos (by omega) (ev_pos (by omega) ?_))
      rw [wrap_nat (by omega), rd_nat, rd_nat]
      by_cases hc : a.getD i 0 = b.getD i 0
      · refine ev_pos hc (ev_cast e ?_)
        rw [decide_eq_decide, drop_eq 0 a b i hi (by omega)]
        exact ⟨fun z => ⟨hc, z⟩, fun z => z.2⟩
      · refine ev_neg hc (ev_cast (Ev.now _) ?_)
        symm
        rw [decide_eq_false_iff_not, drop_eq 0 a b i hi (by omega)]
        exact fun z => hc z.1
  · refine ev_neg (by omega) (ev_cast (Ev.now _) ?_)
    symm
    rw [decide_eq_false_iff_not]
    exact fun z => hl (by rw [z])

theorem wraps_i64x (n : Int) (h0 : 0 ≤ n) (h1 : n < 2 ^ 63) : IntKind.i64.wrap n = n := by
  rw [IntKind.wrap_i64]
  omega
theorem xor_nat (a b : Nat) (ha : a < 4294967296) (hb : b < 4294967296) : Go.bits .xor .i64 (a : Int) (b : Int) = ((a ^^^ b : Nat) : Int) := by
  have ha' : a % 2 ^ IntKind.i64.bits = a := Nat.mod_eq_of_lt (by show a < 2 ^ 64; omega)
  have hb' : b % 2 ^ IntKind.i64.bits = b := Nat.mod_eq_of_lt (by show b < 2 ^ 64; omega)
  have hx : a ^^^ b < 2 ^ 32 := Nat.xor_lt_two_pow (by omega) (by omega)
  simp only [Go.bits, BitVec.ofInt_natCast, BitVec.toNat_xor, BitVec.toNat_ofNat, ha', hb']
  exact wraps_i64x _ (Int.natCast_nonneg _) (by omega)
theorem and1 (x : Int) (h0 : 0 ≤ x) (h1 : x < 9223372036854775808) : Go.bits .and .i64 x 1 = x % 2 :=
  bits_mask .i64 63 (by decide) wraps_i64x 1 (by decide) x h0 (by omega)
theorem xor_end (x : Nat) (h : x < 4294967296) : Go.bits .xor .i64 (x : Int) 4294967295 = ((x ^^^ 4294967295 : Nat) : Int) := by
  have e := xor_nat x 4294967295 h (by omega)
  simpa only [Int.cast_ofNat_Int] using e
theorem xor_poly (x : Nat) (h : x < 4294967296) : Go.bits .xor .i64 (x : Int) 3988292384 = ((x ^^^ 3988292384 : Nat) : Int) := by
  have e := xor_nat x 3988292384 h (by omega)
  simpa only [Int.cast_ofNat_Int] using e
def crcBit (x : Nat) : Nat := if x % 2 = 1 then (x / 2) ^^^ 3988292384 else x / 2
def crcBits : Nat → Nat → Nat
  | 0, x => x
  | n + 1, x => crcBits n (crcBit x)
def crcFrom : List Int → Nat → Nat
  | [], x => x
  | b :: l, x => crcFrom l (crcBits 8 (x ^^^ b.toNat))
def crc (l : List Int) : Int := ((crcFrom l 4294967295 ^^^ 4294967295 : Nat) : Int)
theorem crcBit_lt {x : Nat} (h : x < 4294967296) : crcBit x < 4294967296 := by
  unfold crcBit
  split
  · have : (x / 2) ^^^ 3988292384 < 2 ^ 32 := Nat.xor_lt_two_pow (by omega) (by omega)
    omega
  · omega
theorem crcBits_lt (n : Nat) : ∀ {x : Nat}, x < 4294967296 → crcBits n x < 4294967296 := by
  induction n with
  | zero => intro x h; exact h
  | succ n ih => intro x h; exact ih (crcBit_lt h)
theorem xor_lt32 {a b : Nat} (ha : a < 4294967296) (hb : b < 4294967296) : a ^^^ b < 4294967296 := by
  have : a ^^^ b < 2 ^ 32 := Nat.xor_lt_two_pow (by omega) (by omega)
  omega
theorem byte_nat {b : Int} (h : 0 ≤ b ∧ b ≤ 255) : ∃ n : Nat, b = n ∧ n < 4294967296 ∧ b.toNat = n := ⟨b.toNat, by omega, by omega, rfl⟩
theorem spec_crc_l (l : List Int) (hl : l.length ≤ 140737488351232) (hb : ∀ x ∈ l, 0 ≤ x ∧ x ≤ 255) (d : Nat) : ∀ (i x : Nat), i + d = l.length → x < 4294967296 →
    Ev (fun k => spec_Crc.l0 k l (x : Int) (i : Int)) ((crcFrom (l.drop i) x ^^^ 4294967295 : Nat) : Int) := by
  induction d with
  | zero =>
    intro i x hi hx
    apply ev_shift
    simp only [spec_Crc.l0]
    refine ev_neg (by omega) (ev_cast (Ev.now _) ?_)
    rw [List.drop_eq_nil_of_le (by omega)]
    exact xor_end x hx
  | succ d ih =>
    intro i x hi hx
    have hm := hb _ (getD_mem 0 l i (by omega))
    obtain ⟨n, hn, hn2, hn3⟩ := byte_nat hm
    have inner : ∀ (j y : Nat), j ≤ 8 → y < 4294967296 → Ev (fun k => spec_Crc.l1 k l (y : Int) (i : Int) ((8 - j : Nat) : Int)) ((crcFrom (l.drop (i + 1)) (crcBits j y) ^^^ 4294967295 : Nat) : Int) := by
      intro j
      induction j with
      | zero =>
        intro y _ hy
        apply ev_shift
        simp only [spec_Crc.l1]
        refine ev_neg (by omega) ?_
        rw [wrap_nat (by omega)]
        exact ih (i + 1) y (by omega) hy
      | succ j ihj =>
        intro y hj hy
        apply ev_shift
        simp only [spec_Crc.l1]
        have h2 : y / 2 < 4294967296 := by omega
        have e0 : wrap64 (((8 - (j + 1) : Nat) : Int) + 1) = ((8 - j : Nat) : Int) := by rw [wrap_nat (by omega)]; omega
        have e1 : Int.tmod (y : Int) 2 = ((y % 2 : Nat) : Int) := by rw [Int.tmod_eq_emod_of_nonneg (by omega)]; omega
        have e2 : wrap64 (Int.tdiv (y : Int) 2) = ((y / 2 : Nat) : Int) := by rw [Int.tdiv_eq_ediv_of_nonneg (by omega), wrap_in (by omega) (by omega)]; omega
        have e3 : Go.bits .xor .i64 ((y / 2 : Nat) : Int) 3988292384 = (((y / 2) ^^^ 3988292384 : Nat) : Int) := xor_poly (y / 2) h2
        rw [e0, e1, e2, e3]
        refine ev_pos (by omega) ?_
        have hs := ihj (crcBit y) (by omega) (crcBit_lt hy)
        by_cases ho : y % 2 = 1
        · refine ev_pos (by omega) ?_
          have : crcBit y = (y / 2) ^^^ 3988292384 := if_pos ho
          rw [this] at hs
          rw [crcBits, this]
          exact hs
        · refine ev_neg (by omega) ?_
          have : crcBit y = y / 2 := if_neg ho
          rw [this] at hs
          rw [crcBits, this]
          exact hs
    apply ev_shift
    simp only [spec_Crc.l0]
    refine ev_pos (by omega) (ev_pos (by omega) ?_)
    rw [rd_nat, hn, wrap_in (by omega) (by omega), xor_nat x n hx hn2, drop_cons 0 l i (by omega), crcFrom, hn3]
    exact inner 8 (x ^^^ n) (by omega) (xor_lt32 hx hn2)
theorem spec_Crc_ev (l : List Int) (hl : l.length ≤ 140737488351232) (hb : ∀ x ∈ l, 0 ≤ x ∧ x ≤ 255) : Ev (fun k => spec_Crc.f k l) (crc l) := by
  have e := spec_crc_l l hl hb l.length 0 4294967295 (by omega) (by omega)
  rw [Int.cast_ofNat_Int, List.drop_zero] at e
  exact e
theorem impl_crc_l (l : List Int) (hl : l.length ≤ 140737488351232) (hb : ∀ x ∈ l, 0 ≤ x ∧ x ≤ 255) (d : Nat) : ∀ (i x : Nat), i + d = l.length → x < 4294967296 →
    Ev (fun k => impl_Crc.l0 k (x : Int) l (l.length : Int) (i : Int)) ((crcFrom (l.drop i) x ^^^ 4294967295 : Nat) : Int) := by
  induction d with
  | zero =>
    intro i x hi hx
    apply ev_shift
    simp only [impl_Crc.l0]
    refine ev_neg (by omega) (ev_cast (Ev.now _) ?_)
    rw [List.drop_eq_nil_of_le (by omega)]
    exact xor_end x hx
  | succ d ih =>
    intro i x hi hx
    have hm := hb _ (getD_mem 0 l i (by omega))
    obtain ⟨n, hn, hn2, hn3⟩ := byte_nat hm
    have inner : ∀ (j y : Nat), j ≤ 8 → y < 4294967296 → Ev (fun k => impl_Crc.l1 k (y : Int) l (l.length : Int) (i : Int) ((8 - j : Nat) : Int)) ((crcFrom (l.drop (i + 1)) (crcBits j y) ^^^ 4294967295 : Nat) : Int) := by
      intro j
      induction j with
      | zero =>
        intro y _ hy
        apply ev_shift
        simp only [impl_Crc.l1]
        refine ev_neg (by omega) ?_
        rw [wrap_nat (by omega)]
        exact ih (i + 1) y (by omega) hy
      | succ j ihj =>
        intro y hj hy
        apply ev_shift
        simp only [impl_Crc.l1]
        have h2 : y / 2 < 4294967296 := by omega
        have e0 : wrap64 (((8 - (j + 1) : Nat) : Int) + 1) = ((8 - j : Nat) : Int) := by rw [wrap_nat (by omega)]; omega
        have e1 : Go.bits .and .i64 (y : Int) 1 = ((y % 2 : Nat) : Int) := by rw [and1 _ (by omega) (by omega)]; omega
        have e2 : (y : Int) / 2 = ((y / 2 : Nat) : Int) := by omega
        have e3 : Go.bits .xor .i64 ((y / 2 : Nat) : Int) 3988292384 = (((y / 2) ^^^ 3988292384 : Nat) : Int) := xor_poly (y / 2) h2
        rw [e0, e1, e2, e3]
        refine ev_pos (by omega) ?_
        have hs := ihj (crcBit y) (by omega) (crcBit_lt hy)
        by_cases ho : y % 2 = 1
        · refine ev_pos (by omega) ?_
          have : crcBit y = (y / 2) ^^^ 3988292384 := if_pos ho
          rw [this] at hs
          rw [crcBits, this]
          exact hs
        · refine ev_neg (by omega) ?_
          have : crcBit y = y / 2 := if_neg ho
          rw [this] at hs
          rw [crcBits, this]
          exact hs
    apply ev_shift
    simp only [impl_Crc.l0]
    refine ev_pos (by omega) (ev_pos (by omega) (ev_pos (by omega) ?_))
    rw [rd_nat, hn, wrap_in (by omega) (by omega), xor_nat x n hx hn2, drop_cons 0 l i (by omega), crcFrom, hn3]
    exact inner 8 (x ^^^ n) (by omega) (xor_lt32 hx hn2)
theorem impl_Crc_ev (l : List Int) (hl : l.length ≤ 140737488351232) (hb : ∀ x ∈ l, 0 ≤ x ∧ x ≤ 255) : Ev (fun k => impl_Crc.f k l) (crc l) := by
  have e := impl_crc_l l hl hb l.length 0 4294967295 (by omega) (by omega)
  rw [Int.cast_ofNat_Int, List.drop_zero] at e
  exact e

theorem FnExactCrc : laws_FnExactCrc.Pure := by
  intro l _ hl hw
  have hl' : l.length ≤ 140737488351232 := by omega
  have hb : ∀ x ∈ l, 0 ≤ x ∧ x ≤ 255 := fun x hx => bounds_u8 (hw x hx)
  apply Ev.rounds (g := fun k => laws_FnExactCrc.f k l)
  unfold laws_FnExactCrc.f
  by_cases h : (l.length : Int) > 1048576
  · exact ev_pos h (Ev.now _)
  · refine ev_neg h (Ev.bind (toByteS_ev l hl') (Ev.bind (spec_Crc_ev l hl' hb) (Ev.bind (toByteS_ev l hl') (Ev.bind (impl_Crc_ev l hl' hb) (ev_pos rfl ?_)))))
    exact Ev.bind (toByteS_ev l hl') (Ev.bind (eqByteS_ev l l hl') (ev_pos (by simp) (Ev.now _)))

end Go.Proofs.Ytebfpnaofbpbjaa.Pure
namespace Go.Proofs.Ytebfpnaofbpbjaa
open Go.ChangeShapes Go.WideShapes
/-- The printed row names it so. -/
theorem PrintWords.sized_ints {H : Type} {enc : TypeId × Value → H} {P : Program} {W : World} {base : Nat} {spare : Nat → Bool} {held : Bool} {t e : TypeId} {k : IntKind} {a : Option Addr} {len cap : Nat} {d : DataW H} {ps : List MemPlace} {ts : List TypeId} {ds : List (DataW H)} {j : Nat}
    (hsz : (DataW.weightsEach P ts ds).all (· ≤ reachBytes) = true) (ht : ts[j]? = some t) (hd : ds[j]? = some d) (hu : P.underlying t = some (.slice e)) (he : P.underlying e = some (.int k)) (hc : P.cellsOf e = 1) {B : Nat} (hB : P.bytesOf e = B)
    (h : DataW.Trod enc P W base spare held t (.slice a len cap) d ps) : len * B ≤ 140737488351232 :=
  Go.Proofs.YtebfpnaofbpbjaaW.PrintWords.sized_ints hsz ht hd hu he hc hB h
end Go.Proofs.Ytebfpnaofbpbjaa
