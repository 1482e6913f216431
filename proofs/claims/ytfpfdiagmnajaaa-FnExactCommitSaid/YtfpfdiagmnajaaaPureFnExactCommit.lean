/- FnExactCommit: the law's function of the print answers true for every input within the row's bounds. Conditions: none but the bounds that the row itself gives. -/
import Derived.Laws.BytesArg
import Derived.Lib.SmallJoins
import Derived.Test.YtfpfdiagmnajaaaPFnExactCommitx8
import Derived.OpenShut
import Derived.Laws.BitsLemmas
namespace Go.Proofs.Ytfpfdiagmnajaaa.Pure
open Go Go.RowKit Go.Proofs.Ytfpfdiagmnajaaa.PFnExactCommit Go.Proofs.YtfpfdiagmnajaaaW.PrintWords Go.Proofs.YtfpfdiagmnajaaaW.PrintLast Go.Proofs.YtfpfdiagmnajaaaW.PrintMore Go.Proofs.YtfpfdiagmnajaaaW.PrintMore Go.Proofs.YtfpfdiagmnajaaaW.PrintMore
set_option linter.unusedVariables false
set_option linter.unusedSimpArgs false

theorem ev_shift {α : Type} {g : Nat → Option α} {r : α} (h : Ev (fun k => g (k + 1)) r) : Ev g r := Ev.step (f := fun k => g (k + 1)) (fun _ => rfl) h
theorem ev_unshift {α : Type} {g : Nat → Option α} {r : α} (h : Ev g r) : Ev (fun k => g (k + 1)) r := by
  obtain ⟨K, h⟩ := h
  exact ⟨K, fun k hk => h (k + 1) (by omega)⟩
theorem ev_pos {α : Type} {c : Prop} [Decidable c] {f g : Nat → Option α} {r : α} (h : c) (e : Ev f r) : Ev (fun k => if c then f k else g k) r := by
  simpa only [if_pos h] using e
theorem ev_neg {α : Type} {c : Prop} [Decidable c] {f g : Nat → Option α} {r : α} (h : ¬ c) (e : Ev g r) : Ev (fun k => if c then f k else g k) r := by
  simpa only [if_neg h] using e
theorem ev_eq {α β : Type} {o : Option α} {a : α} {f : Nat → α → Option β} {r : β} (h : o = some a) (e : Ev (fun k => f k a) r) : Ev (fun k => o.bind (f k)) r := by
  subst h
  exact e
theorem ev_some {α β : Type} {a : α} {f : Nat → α → Option β} {r : β} (e : Ev (fun k => f k a) r) : Ev (fun k => (some a).bind (f k)) r := e
theorem ev_cast {α : Type} {g : Nat → Option α} {r r' : α} (h : Ev g r) (e : r = r') : Ev g r' := e ▸ h
theorem ev_loop {ρ : Type} (L : Nat → Nat → Option ρ) (res : Nat → ρ) (n : Nat) (he : Ev (fun k => L (k + 1) n) (res n))
    (hs : ∀ i, i < n → Ev (fun k => L k (i + 1)) (res (i + 1)) → Ev (fun k => L (k + 1) i) (res i)) : ∀ i, i ≤ n → Ev (fun k => L k i) (res i) := by
  have key : ∀ d i, i + d = n → Ev (fun k => L k i) (res i) := by
    intro d
    induction d with
    | zero =>
      intro i h
      obtain rfl : i = n := by omega
      exact ev_shift he
    | succ d ih =>
      intro i h
      exact ev_shift (hs i (by omega) (ih (i + 1) (by omega)))
  intro i h
  exact key (n - i) i (by omega)
theorem wrap_in {x : Int} (h0 : -9223372036854775808 ≤ x) (h1 : x ≤ 9223372036854775807) : wrap64 x = x := by
  unfold wrap64
  omega
theorem wrap_nat {i : Nat} (h : i < 9223372036854775807) : wrap64 ((i : Int) + 1) = ((i + 1 : Nat) : Int) := by
  unfold wrap64
  omega
theorem wrap_up {i : Int} (h0 : 0 ≤ i) (h : i < 9223372036854775807) : wrap64 (i + 1) = i + 1 := by
  unfold wrap64
  omega
theorem rd_nat (xs : List Int) (i : Nat) : rd xs (i : Int) = xs.getD i 0 := by simp [rd]
theorem rdOf_nat {α : Type} (d : α) (xs : List α) (i : Nat) : rdOf d xs (i : Int) = xs.getD i d := by simp [rdOf]
theorem bt_nat (s : ByteArray) (i : Nat) : bt s (i : Int) = (bytesOf s).getD i 0 := by rw [← rd_bytesOf, rd_nat]
theorem drop_cons {α : Type} (d : α) (l : List α) (i : Nat) (h : i < l.length) : l.drop i = l.getD i d :: l.drop (i + 1) := by
  rw [List.drop_eq_getElem_cons h]
  simp [List.getD, h]
theorem getD_mem {α : Type} (d : α) (l : List α) (i : Nat) (h : i < l.length) : l.getD i d ∈ l := by
  simp [List.getD, h]
theorem bytesOf_range (s : ByteArray) : ∀ x ∈ bytesOf s, 0 ≤ x ∧ x ≤ 255 := by
  intro x hx
  simp only [bytesOf, List.mem_map] at hx
  obtain ⟨b, _, rfl⟩ := hx
  have := b.toNat_lt
  omega
theorem bt_lo (s : ByteArray) (i : Int) : 0 ≤ bt s i := (bt_range s i).1
theorem bt_hi (s : ByteArray) (i : Int) : bt s i ≤ 255 := (bt_range s i).2
theorem drop_eq {α : Type} [DecidableEq α] (d : α) (a b : List α) (i : Nat) (ha : i < a.length) (hb : i < b.length) : (a.drop i = b.drop i) ↔ (a.getD i d = b.getD i d ∧ a.drop (i + 1) = b.drop (i + 1)) := by
  rw [drop_cons d a i ha, drop_cons d b i hb]
  simp
theorem mark_step {α : Type} (d : α) (g : Nat → α) (l : List α) (i : Nat) (h : i < l.length) : ((List.range i).map g ++ l.drop i).set i (g i) = (List.range (i + 1)).map g ++ l.drop (i + 1) := by
  have hlen : ((List.range i).map g).length = i := by simp
  rw [List.set_append_right _ _ (by omega), hlen, Nat.sub_self, drop_cons d l i h, List.set_cons_zero, List.range_succ, List.map_append, List.append_assoc]
  rfl
theorem range_getD {α : Type} (d : α) (g : Nat → α) (n i : Nat) (h : i < n) : ((List.range n).map g).getD i d = g i := by
  simp [List.getD, h]
theorem copy_step {α : Type} (d : α) (l : List α) (i : Nat) (h : i < l.length) : (l.take i ++ List.replicate (l.length - i) d).set i (l.getD i d) = l.take (i + 1) ++ List.replicate (l.length - (i + 1)) d := by
  have hlen : (l.take i).length = i := by simp; omega
  rw [List.set_append_right _ _ (by omega), hlen, Nat.sub_self]
  obtain ⟨m, hm⟩ : ∃ m, l.length - i = m + 1 := ⟨l.length - i - 1, by omega⟩
  rw [hm, List.replicate_succ, List.set_cons_zero, List.take_succ_eq_append_getElem h, List.append_assoc]
  have : l.length - (i + 1) = m := by omega
  rw [this]
  simp [List.getD, h]

theorem wraps_i64 (n : Int) (h0 : 0 ≤ n) (h1 : n < 2 ^ 63) : IntKind.i64.wrap n = n := by
  rw [IntKind.wrap_i64]
  omega
theorem and127 (x : Int) (h0 : 0 ≤ x) (h1 : x < 9223372036854775808) : Go.bits .and .i64 x 127 = x % 128 :=
  bits_mask .i64 63 (by decide) wraps_i64 7 (by decide) x h0 (by omega)
theorem and255 (x : Int) (h0 : 0 ≤ x) (h1 : x < 9223372036854775808) : Go.bits .and .i64 x 255 = x % 256 :=
  bits_mask .i64 63 (by decide) wraps_i64 8 (by decide) x h0 (by omega)
theorem or_comm64 (a b : Nat) (ha : a < 2 ^ 63) (hb : b < 2 ^ 63) : Go.bits .or .i64 (a : Int) (b : Int) = Go.bits .or .i64 (b : Int) (a : Int) := by
  rw [(bits_nat .i64 63 (by decide) wraps_i64 a b ha hb).2, (bits_nat .i64 63 (by decide) wraps_i64 b a hb ha).2, Nat.or_comm]
theorem or128 (y : Int) (h0 : 0 ≤ y) (h1 : y < 128) : Go.bits .or .i64 y 128 = y + 128 := by
  obtain ⟨b, rfl⟩ := Int.eq_ofNat_of_zero_le h0
  have e3 := bits_join .i64 63 (by decide) wraps_i64 7 128 (b : Int) (by decide) (by decide) (by decide) h0 (by omega) (by omega)
  have e4 : Go.bits .or .i64 (b : Int) ((128 : Nat) : Int) = Go.bits .or .i64 ((128 : Nat) : Int) (b : Int) := or_comm64 b 128 (by omega) (by omega)
  rw [Int.cast_ofNat_Int] at e4
  rw [e4, e3]
  omega

theorem getD_set_self {α : Type} (d : α) (l : List α) (i : Nat) (v : α) (h : i < l.length) : (l.set i v).getD i d = v := by
  simp [List.getD, h]
theorem rdPut_nat (xs : List S46) (i : Nat) : rd_T46 xs (i : Int) = xs.getD i z46 := by simp [rd_T46]

theorem rdLPut_nat (xs : List S133) (i : Nat) : rd_T133 xs (i : Int) = xs.getD i z133 := by simp [rd_T133]
def ofLPut (x : S133) : S46 := ⟨x.f0, x.f1⟩
theorem szPut_eq (a : Int) (s : ByteArray) (m : Int) (h0 : 0 ≤ m) (h1 : m ≤ 1048576) (hs : s.size ≤ maxLen) : laws_szPut.f a s m = some (if m - (s.size : Int) < 0 then -1 else m - (s.size : Int)) := by
  unfold maxLen at hs
  unfold laws_szPut.f
  rw [wrap_in (by omega) (by omega)]
  split <;> rfl
theorem szPutS_ev (l : List S133) (m : Int) (h0 : 0 ≤ m) (h1 : m ≤ 1048576) (hl : l.length ≤ maxLen) (hx : ∀ x ∈ l, x.f1.size ≤ maxLen) :
    ∃ r : Int, Ev (fun k => laws_szPutS.f k l m) r ∧ r ≤ m ∧ (0 ≤ r → (l.length : Int) ≤ m ∧ ∀ x ∈ l, (x.f1.size : Int) ≤ m) := by
  have hl' : l.length ≤ 9223372036854775807 := hl
  unfold laws_szPutS.f
  by_cases c : m - (l.length : Int) < 0
  · refine ⟨-1, ?_, by omega, by omega⟩
    rw [wrap_in (by omega) (by omega)]
    exact ev_pos c (Ev.now _)
  · rw [wrap_in (by omega) (by omega)]
    have key : ∀ (d i : Nat) (x : Int), i + d = l.length → 0 ≤ x → x ≤ m → (∀ j, j < i → ((l.getD j z133).f1.size : Int) ≤ m) →
        ∃ r : Int, Ev (fun k => laws_szPutS.l0 k l x (i : Int)) r ∧ r ≤ m ∧ (0 ≤ r → ∀ j, j < l.length → ((l.getD j z133).f1.size : Int) ≤ m) := by
      intro d
      induction d with
      | zero =>
        intro i x hi hx0 hx1 hj
        refine ⟨x, ev_shift ?_, hx1, fun _ => by rw [show l.length = i from by omega]; exact hj⟩
        simp only [laws_szPutS.l0]
        exact ev_neg (by omega) (Ev.now _)
      | succ d ih =>
        intro i x hi hx0 hx1 hj
        have hm := hx _ (getD_mem z133 l i (by omega))
        have hs := szPut_eq (l.getD i z133).f0 (l.getD i z133).f1 x hx0 (by omega) hm
        by_cases c2 : x - ((l.getD i z133).f1.size : Int) < 0
        · rw [if_pos c2] at hs
          refine ⟨-1, ev_shift ?_, by omega, by omega⟩
          simp only [laws_szPutS.l0]
          refine ev_pos (by omega) (ev_pos (by omega) ?_)
          simp only [rdLPut_nat, hs, Option.bind_some]
          exact ev_pos (by omega) (Ev.now _)
        · rw [if_neg c2] at hs
          obtain ⟨r, e, hr1, hr2⟩ := ih (i + 1) (x - ((l.getD i z133).f1.size : Int)) (by omega) (by omega) (by omega) (fun j hji => by
            by_cases e : j = i
            · subst e
              omega
            · exact hj j (by omega))
          refine ⟨r, ev_shift ?_, hr1, hr2⟩
          simp only [laws_szPutS.l0]
          refine ev_pos (by omega) (ev_pos (by omega) ?_)
          simp only [rdLPut_nat, hs, Option.bind_some]
          rw [wrap_nat (by omega)]
          exact ev_neg (by omega) e
    obtain ⟨r, e, hr1, hr2⟩ := key l.length 0 (m - (l.length : Int)) (by omega) (by omega) (by omega) (fun j hj => by omega)
    refine ⟨r, ev_neg c e, hr1, fun hr => ⟨by omega, fun x hx2 => ?_⟩⟩
    obtain ⟨j, hj, rfl⟩ := List.mem_iff_getElem.1 hx2
    have := hr2 hr j hj
    simpa [List.getD, hj] using this
theorem toPutS_ev (l : List S133) (h : l.length ≤ 1048576) : Ev (fun k => laws_toPutS.f k l) (l.map ofLPut) := by
  unfold laws_toPutS.f
  refine ev_pos (by omega) (ev_pos (by omega) ?_)
  have := ev_loop (fun k i => laws_toPutS.l0 k l ((l.map ofLPut).take i ++ List.replicate ((l.map ofLPut).length - i) z46) (i : Int)) (fun _ => l.map ofLPut) l.length ?_ ?_ 0 (Nat.zero_le _)
  · simpa using this
  · simp only [laws_toPutS.l0]
    refine ev_neg (by omega) ?_
    have e1 : (l.map ofLPut).length - l.length = 0 := by rw [List.length_map]; omega
    have e2 : (l.map ofLPut).take l.length = l.map ofLPut := List.take_of_length_le (by rw [List.length_map]; omega)
    rw [e1, e2, List.replicate_zero, List.append_nil]
    exact Ev.now _
  · intro i hi e
    simp only [laws_toPutS.l0, laws_toPut.f]
    refine ev_pos (by omega) (ev_pos (by omega) (ev_some (ev_pos (by simp; omega) ?_)))
    have hi2 : i < (l.map ofLPut).length := by rw [List.length_map]; exact hi
    have hs := copy_step z46 (l.map ofLPut) i hi2
    have hg : (l.map ofLPut).getD i z46 = ⟨(l.getD i z133).f0, (l.getD i z133).f1⟩ := by simp [List.getD, hi, ofLPut]
    rw [hg] at hs
    dsimp only
    simp only [rdLPut_nat]
    rw [wrap_nat (by omega), Int.toNat_natCast, hs]
    exact e

theorem eqPut_refl (a : Int) (s : ByteArray) : laws_eqPut.f a s a s = some true := by
  unfold laws_eqPut.f
  rw [if_pos rfl, if_pos rfl]
theorem eqPutS_refl (a : List S46) (h : a.length ≤ 140737488351232) : Ev (fun k => laws_eqPutS.f k a a) true := by
  unfold laws_eqPutS.f
  refine ev_pos rfl ?_
  have := ev_loop (fun k i => laws_eqPutS.l0 k a a (i : Int)) (fun _ => true) a.length ?_ ?_ 0 (Nat.zero_le _)
  · exact this
  · simp only [laws_eqPutS.l0]
    exact ev_neg (by omega) (Ev.now _)
  · intro i hi e
    simp only [laws_eqPutS.l0]
    refine ev_pos (by omega) (ev_pos (by omega) (ev_pos (by omega) (ev_eq (eqPut_refl _ _) (ev_pos rfl ?_))))
    rw [wrap_nat (by omega)]
    exact e

theorem strOfNums_size (l : List Int) : (strOfNums l).size = l.length := by
  simp [strOfNums, ByteArray.size]
theorem markText_l (n : Nat) : ∀ acc : ByteArray, acc.size + n ≤ 4000000000000000000 → ∃ t, Ev (fun k => laws_markText.l0 k (n : Int) acc) t := by
  induction n using Nat.strongRecOn with
  | _ n ih =>
    intro acc ha
    by_cases h : 0 < n
    · have e1 : wrap64 (Int.tdiv (n : Int) 10) = ((n / 10 : Nat) : Int) := by rw [Int.tdiv_eq_ediv_of_nonneg (by omega), wrap_in (by omega) (by omega)]; omega
      obtain ⟨t, ht⟩ := ih (n / 10) (by omega) (strOfNums [(wrap64 (48 + (Int.tmod (n : Int) 10))) % 256] ++ acc) (by rw [ByteArray.size_append, strOfNums_size]; simp only [List.length_cons, List.length_nil]; omega)
      refine ⟨t, ?_⟩
      apply ev_shift
      simp only [laws_markText.l0]
      refine ev_pos (by omega) (ev_some (ev_pos (by rw [strOfNums_size]; simp only [List.length_cons, List.length_nil]; omega) ?_))
      rw [e1]
      exact ht
    · refine ⟨(⟨#[109]⟩ : ByteArray) ++ acc, ?_⟩
      apply ev_shift
      simp only [laws_markText.l0]
      exact ev_neg (by omega) (ev_pos (by omega) (Ev.now _))
theorem markText_any (m : Int) (h : m ≤ 1000000000000000000) : ∃ t, Ev (fun k => laws_markText.f k m) t := by
  unfold laws_markText.f
  by_cases h0 : m ≤ 0
  · exact ⟨_, ev_pos h0 (Ev.now _)⟩
  · obtain ⟨n, rfl⟩ := Int.eq_ofNat_of_zero_le (show 0 ≤ m by omega)
    obtain ⟨t, ht⟩ := markText_l n (⟨#[]⟩ : ByteArray) (by simp only [ByteArray.size, List.size_toArray, List.length_nil]; omega)
    exact ⟨t, ev_neg h0 ht⟩
noncomputable def markText (m : Int) : ByteArray := if h : m ≤ 1000000000000000000 then Classical.choose (markText_any m h) else ByteArray.empty
theorem markText_ev (m : Int) (h : m ≤ 1000000000000000000) : Ev (fun k => laws_markText.f k m) (markText m) := by
  unfold markText
  rw [dif_pos h]
  exact Classical.choose_spec (markText_any m h)

noncomputable def markPut (m : Int) (j : Nat) : S46 := ⟨m + 2 * (j : Int), markText (m + 2 * (j : Int) + 1)⟩
theorem markPutS_ev (l : List S46) (m : Int) (h : l.length ≤ 140737488351232) (h0 : 0 ≤ m) (h1 : m ≤ 100000000000000000) :
    Ev (fun k => laws_markPutS.f k l m) (m + 2 * l.length, (List.range l.length).map (markPut m)) := by
  unfold laws_markPutS.f
  have := ev_loop (fun k i => laws_markPutS.l0 k ((List.range i).map (markPut m) ++ l.drop i) (m + 2 * (i : Int)) (i : Int)) (fun _ => (m + 2 * (l.length : Int), (List.range l.length).map (markPut m))) l.length ?_ ?_ 0 (Nat.zero_le _)
  · simpa using this
  · simp only [laws_markPutS.l0]
    refine ev_neg (by simp) ?_
    simp only [List.drop_length, List.append_nil]
    exact Ev.now _
  · intro i hi e
    simp only [laws_markPutS.l0]
    have hlen : i < ((List.range i).map (markPut m) ++ l.drop i).length := by simp; omega
    refine ev_pos (by simp; omega) (ev_pos (by omega) (ev_some ?_))
    rw [wrap_up (i := m + 2 * (i : Int)) (by omega) (by omega)]
    refine Ev.bind (markText_ev _ (by omega)) ?_
    simp only [rdPut_nat, Int.toNat_natCast]
    rw [wrap_nat (by omega), getD_set_self _ _ _ _ hlen, List.set_set, wrap_up (i := m + 2 * (i : Int) + 1) (by omega) (by omega)]
    have hs := mark_step z46 (markPut m) l i hi
    simp only [markPut] at hs
    have e1 : m + 2 * (i : Int) + 1 + 1 = m + 2 * ((i + 1 : Nat) : Int) := by omega
    dsimp only [markPut]
    rw [hs, e1]
    exact e

theorem xor_nat (a b : Nat) (ha : a < 4294967296) (hb : b < 4294967296) : Go.bits .xor .i64 (a : Int) (b : Int) = ((a ^^^ b : Nat) : Int) := by
  have ha' : a % 2 ^ IntKind.i64.bits = a := Nat.mod_eq_of_lt (by show a < 2 ^ 64; omega)
  have hb' : b % 2 ^ IntKind.i64.bits = b := Nat.mod_eq_of_lt (by show b < 2 ^ 64; omega)
  have hx : a ^^^ b < 2 ^ 32 := Nat.xor_lt_two_pow (by omega) (by omega)
  simp only [Go.bits, BitVec.ofInt_natCast, BitVec.toNat_xor, BitVec.toNat_ofNat, ha', hb']
  exact wraps_i64 _ (Int.natCast_nonneg _) (by omega)
theorem and1 (x : Int) (h0 : 0 ≤ x) (h1 : x < 9223372036854775808) : Go.bits .and .i64 x 1 = x % 2 :=
  bits_mask .i64 63 (by decide) wraps_i64 1 (by decide) x h0 (by omega)
theorem xor_end (x : Nat) (h : x < 4294967296) : Go.bits .xor .i64 (x : Int) 4294967295 = ((x ^^^ 4294967295 : Nat) : Int) := by
  have e := xor_nat x 4294967295 h (by omega)
  simpa only [Int.cast_ofNat_Int] using e
theorem xor_poly (x : Nat) (h : x < 4294967296) : Go.bits .xor .i64 (x : Int) 3988292384 = ((x ^^^ 3988292384 : Nat) : Int) := by
  have e := xor_nat x 3988292384 h (by omega)
  simpa only [Int.cast_ofNat_Int] using e
def crcBit (x : Nat) : Nat := if x % 2 = 1 then (x / 2) ^^^ 3988292384 else x / 2
def crcBits : Nat → Nat → Nat
  | 0, x => x
  | n + 1, x => crcBits n (crcBit x)
def crcFrom : List Int → Nat → Nat
  | [], x => x
  | b :: l, x => crcFrom l (crcBits 8 (x ^^^ b.toNat))
def crc (l : List Int) : Int := ((crcFrom l 4294967295 ^^^ 4294967295 : Nat) : Int)
theorem crcBit_lt {x : Nat} (h : x < 4294967296) : crcBit x < 4294967296 := by
  unfold crcBit
  split
  · have : (x / 2) ^^^ 3988292384 < 2 ^ 32 := Nat.xor_lt_two_pow (by omega) (by omega)
    omega
  · omega
theorem crcBits_lt (n : Nat) : ∀ {x : Nat}, x < 4294967296 → crcBits n x < 4294967296 := by
  induction n with
  | zero => intro x h; exact h
  | succ n ih => intro x h; exact ih (crcBit_lt h)
theorem xor_lt32 {a b : Nat} (ha : a < 4294967296) (hb : b < 4294967296) : a ^^^ b < 4294967296 := by
  have : a ^^^ b < 2 ^ 32 := Nat.xor_lt_two_pow (by omega) (by omega)
  omega
theorem byte_nat {b : Int} (h : 0 ≤ b ∧ b ≤ 255) : ∃ n : Nat, b = n ∧ n < 4294967296 ∧ b.toNat = n := ⟨b.toNat, by omega, by omega, rfl⟩

theorem spec_crc_l (l : List Int) (hl : l.length ≤ 140737488351232) (hb : ∀ x ∈ l, 0 ≤ x ∧ x ≤ 255) (d : Nat) : ∀ (i x : Nat), i + d = l.length → x < 4294967296 →
    Ev (fun k => spec_Crc.l0 k l (x : Int) (i : Int)) ((crcFrom (l.drop i) x ^^^ 4294967295 : Nat) : Int) := by
  induction d with
  | zero =>
    intro i x hi hx
    apply ev_shift
    simp only [spec_Crc.l0]
    refine ev_neg (by omega) (ev_cast (Ev.now _) ?_)
    rw [List.drop_eq_nil_of_le (by omega)]
    exact xor_end x hx
  | succ d ih =>
    intro i x hi hx
    have hm := hb _ (getD_mem 0 l i (by omega))
    obtain ⟨n, hn, hn2, hn3⟩ := byte_nat hm
    have inner : ∀ (j y : Nat), j ≤ 8 → y < 4294967296 → Ev (fun k => spec_Crc.l1 k l (y : Int) (i : Int) ((8 - j : Nat) : Int)) ((crcFrom (l.drop (i + 1)) (crcBits j y) ^^^ 4294967295 : Nat) : Int) := by
      intro j
      induction j with
      | zero =>
        intro y _ hy
        apply ev_shift
        simp only [spec_Crc.l1]
        refine ev_neg (by omega) ?_
        rw [wrap_nat (by omega)]
        exact ih (i + 1) y (by omega) hy
      | succ j ihj =>
        intro y hj hy
        apply ev_shift
        simp only [spec_Crc.l1]
        have h2 : y / 2 < 4294967296 := by omega
        have e0 : wrap64 (((8 - (j + 1) : Nat) : Int) + 1) = ((8 - j : Nat) : Int) := by rw [wrap_nat (by omega)]; omega
        have e1 : Int.tmod (y : Int) 2 = ((y % 2 : Nat) : Int) := by rw [Int.tmod_eq_emod_of_nonneg (by omega)]; omega
        have e2 : wrap64 (Int.tdiv (y : Int) 2) = ((y / 2 : Nat) : Int) := by rw [Int.tdiv_eq_ediv_of_nonneg (by omega), wrap_in (by omega) (by omega)]; omega
        have e3 : Go.bits .xor .i64 ((y / 2 : Nat) : Int) 3988292384 = (((y / 2) ^^^ 3988292384 : Nat) : Int) := xor_poly (y / 2) h2
        rw [e0, e1, e2, e3]
        refine ev_pos (by omega) ?_
        have hs := ihj (crcBit y) (by omega) (crcBit_lt hy)
        by_cases ho : y % 2 = 1
        · refine ev_pos (by omega) ?_
          have : crcBit y = (y / 2) ^^^ 3988292384 := if_pos ho
          rw [this] at hs
          rw [crcBits, this]
          exact hs
        · refine ev_neg (by omega) ?_
          have : crcBit y = y / 2 := if_neg ho
          rw [this] at hs
          rw [crcBits, this]
          exact hs
    apply ev_shift
    simp only [spec_Crc.l0]
    refine ev_pos (by omega) (ev_pos (by omega) ?_)
    rw [rd_nat, hn, wrap_in (by omega) (by omega), xor_nat x n hx hn2, drop_cons 0 l i (by omega), crcFrom, hn3]
    exact inner 8 (x ^^^ n) (by omega) (xor_lt32 hx hn2)
theorem spec_Crc_ev (l : List Int) (hl : l.length ≤ 140737488351232) (hb : ∀ x ∈ l, 0 ≤ x ∧ x ≤ 255) : Ev (fun k => spec_Crc.f k l) (crc l) := by
  have e := spec_crc_l l hl hb l.length 0 4294967295 (by omega) (by omega)
  rw [Int.cast_ofNat_Int, List.drop_zero] at e
  exact e

theorem impl_crc_l (l : List Int) (hl : l.length ≤ 140737488351232) (hb : ∀ x ∈ l, 0 ≤ x ∧ x ≤ 255) (d : Nat) : ∀ (i x : Nat), i + d = l.length → x < 4294967296 →
    Ev (fun k => impl_Crc.l0 k (x : Int) l (l.length : Int) (i : Int)) ((crcFrom (l.drop i) x ^^^ 4294967295 : Nat) : Int) := by
  induction d with
  | zero =>
    intro i x hi hx
    apply ev_shift
    simp only [impl_Crc.l0]
    refine ev_neg (by omega) (ev_cast (Ev.now _) ?_)
    rw [List.drop_eq_nil_of_le (by omega)]
    exact xor_end x hx
  | succ d ih =>
    intro i x hi hx
    have hm := hb _ (getD_mem 0 l i (by omega))
    obtain ⟨n, hn, hn2, hn3⟩ := byte_nat hm
    have inner : ∀ (j y : Nat), j ≤ 8 → y < 4294967296 → Ev (fun k => impl_Crc.l1 k (y : Int) l (l.length : Int) (i : Int) ((8 - j : Nat) : Int)) ((crcFrom (l.drop (i + 1)) (crcBits j y) ^^^ 4294967295 : Nat) : Int) := by
      intro j
      induction j with
      | zero =>
        intro y _ hy
        apply ev_shift
        simp only [impl_Crc.l1]
        refine ev_neg (by omega) ?_
        rw [wrap_nat (by omega)]
        exact ih (i + 1) y (by omega) hy
      | succ j ihj =>
        intro y hj hy
        apply ev_shift
        simp only [impl_Crc.l1]
        have h2 : y / 2 < 4294967296 := by omega
        have e0 : wrap64 (((8 - (j + 1) : Nat) : Int) + 1) = ((8 - j : Nat) : Int) := by rw [wrap_nat (by omega)]; omega
        have e1 : Go.bits .and .i64 (y : Int) 1 = ((y % 2 : Nat) : Int) := by rw [and1 _ (by omega) (by omega)]; omega
        have e2 : (y : Int) / 2 = ((y / 2 : Nat) : Int) := by omega
        have e3 : Go.bits .xor .i64 ((y / 2 : Nat) : Int) 3988292384 = (((y / 2) ^^^ 3988292384 : Nat) : Int) := xor_poly (y / 2) h2
        rw [e0, e1, e2, e3]
        refine ev_pos (by omega) ?_
        have hs := ihj (crcBit y) (by omega) (crcBit_lt hy)
        by_cases ho : y % 2 = 1
        · refine ev_pos (by omega) ?_
          have : crcBit y = (y / 2) ^^^ 3988292384 := if_pos ho
          rw [this] at hs
          rw [crcBits, this]
          exact hs
        · refine ev_neg (by omega) ?_
          have : crcBit y = y / 2 := if_neg ho
          rw [this] at hs
          rw [crcBits, this]
          exact hs
    apply ev_shift
    simp only [impl_Crc.l0]
    refine ev_pos (by omega) (ev_pos (by omega) (ev_pos (by omega) ?_))
    rw [rd_nat, hn, wrap_in (by omega) (by omega), xor_nat x n hx hn2, drop_cons 0 l i (by omega), crcFrom, hn3]
    exact inner 8 (x ^^^ n) (by omega) (xor_lt32 hx hn2)
theorem impl_Crc_ev (l : List Int) (hl : l.length ≤ 140737488351232) (hb : ∀ x ∈ l, 0 ≤ x ∧ x ≤ 255) : Ev (fun k => impl_Crc.f k l) (crc l) := by
  have e := impl_crc_l l hl hb l.length 0 4294967295 (by omega) (by omega)
  rw [Int.cast_ofNat_Int, List.drop_zero] at e
  exact e

def putNat (n : Nat) : List Int := if h : n < 128 then [(n : Int)] else ((n % 128 + 128 : Nat) : Int) :: putNat (n / 128)
termination_by n
decreasing_by omega
theorem putNat_small {n : Nat} (h : n < 128) : putNat n = [(n : Int)] := by rw [putNat, dif_pos h]
theorem putNat_big {n : Nat} (h : ¬ n < 128) : putNat n = ((n % 128 + 128 : Nat) : Int) :: putNat (n / 128) := by rw [putNat, dif_neg h]
def putNum (n : Int) : List Int := if 0 ≤ n ∧ n ≤ 2147483647 then putNat n.toNat else []
theorem putNat_length (n : Nat) : (putNat n).length ≤ n + 1 ∧ 1 ≤ (putNat n).length := by
  induction n using Nat.strongRecOn with
  | _ n ih =>
    by_cases h : n < 128
    · rw [putNat_small h]
      simp
    · rw [putNat_big h]
      have := ih (n / 128) (by omega)
      simp only [List.length_cons]
      omega
theorem putNat_range (n : Nat) : ∀ x ∈ putNat n, 0 ≤ x ∧ x ≤ 255 := by
  induction n using Nat.strongRecOn with
  | _ n ih =>
    by_cases h : n < 128
    · rw [putNat_small h]
      simp
      omega
    · rw [putNat_big h]
      intro x hx
      rw [List.mem_cons] at hx
      rcases hx with rfl | hx
      · omega
      · exact ih (n / 128) (by omega) x hx
theorem putNat_len5 (n : Nat) (h : n ≤ 2147483647) : (putNat n).length ≤ 5 := by
  have step : ∀ m j, m < 128 ^ (j + 1) → (putNat m).length ≤ j + 1 := by
    intro m j
    induction j generalizing m with
    | zero =>
      intro hm
      rw [putNat_small (by omega)]
      simp
    | succ j ih =>
      intro hm
      by_cases h : m < 128
      · rw [putNat_small h]
        simp
      · rw [putNat_big h]
        have : m / 128 < 128 ^ (j + 1) := by
          rw [Nat.div_lt_iff_lt_mul (by omega)]
          rw [Nat.pow_succ] at hm
          exact hm
        have := ih (m / 128) this
        simp only [List.length_cons]
        omega
  exact step n 4 (by omega)
theorem putNum_length (n : Int) : (putNum n).length ≤ 5 := by
  unfold putNum
  split
  · exact putNat_len5 _ (by omega)
  · simp

theorem spec_putNum_l (n : Nat) : ∀ acc : List Int, n ≤ 2147483647 → acc.length + n ≤ 100000000000 → Ev (fun k => spec_PutNum.l0 k (n : Int) acc) (acc ++ putNat n) := by
  induction n using Nat.strongRecOn with
  | _ n ih =>
    intro acc hn ha
    apply ev_shift
    simp only [spec_PutNum.l0]
    by_cases h : n < 128
    · refine ev_neg (by omega) (ev_pos (by omega) ?_)
      refine ev_cast (Ev.now _) ?_
      rw [putNat_small h, Int.emod_eq_of_lt (by omega) (by omega)]
    · refine ev_pos (by omega) (ev_pos (by omega) ?_)
      have e1 : wrap64 (Int.tdiv (n : Int) 128) = ((n / 128 : Nat) : Int) := by
        rw [Int.tdiv_eq_ediv_of_nonneg (by omega), wrap_in (by omega) (by omega)]
        omega
      have e2 : wrap64 (Int.tmod (n : Int) 128 + 128) % 256 = ((n % 128 + 128 : Nat) : Int) := by
        rw [Int.tmod_eq_emod_of_nonneg (by omega), wrap_in (by omega) (by omega)]
        omega
      rw [e1, e2]
      refine ev_cast (ih (n / 128) (by omega) _ (by omega) (by simp; omega)) ?_
      rw [putNat_big h, List.append_assoc]
      rfl
theorem spec_PutNum_ev (n : Int) : Ev (fun k => spec_PutNum.f k n) (putNum n) := by
  unfold spec_PutNum.f
  refine ev_some ?_
  by_cases h : 0 ≤ n ∧ n ≤ 2147483647
  · refine ev_eq (a := true) (by unfold spec_l1In.f; rw [if_pos (by omega)]; simp; omega) (ev_pos rfl ?_)
    obtain ⟨m, rfl⟩ := Int.eq_ofNat_of_zero_le h.1
    refine ev_cast (spec_putNum_l m [] (by omega) (by simp; omega)) ?_
    rw [putNum, if_pos h]
    simp
  · refine ev_eq (a := false) (by unfold spec_l1In.f; split <;> simp <;> omega) (ev_neg (by simp) ?_)
    rw [putNum, if_neg h]
    exact Ev.now _

theorem impl_putNum_l (n : Nat) : ∀ acc : List Int, n ≤ 2147483647 → acc.length + n ≤ 100000000000 → Ev (fun k => impl_PutNum.l0 k (n : Int) acc) (acc ++ putNat n) := by
  induction n using Nat.strongRecOn with
  | _ n ih =>
    intro acc hn ha
    apply ev_shift
    simp only [impl_PutNum.l0]
    by_cases h : n < 128
    · refine ev_neg (by omega) (ev_pos (by omega) ?_)
      refine ev_cast (Ev.now _) ?_
      rw [putNat_small h, Int.emod_eq_of_lt (by omega) (by omega)]
    · refine ev_pos (by omega) (ev_pos (by omega) ?_)
      have e1 : (n : Int) / 128 = ((n / 128 : Nat) : Int) := by omega
      have e2 : (Go.bits .or .i64 (Go.bits .and .i64 (n : Int) 127) 128) % 256 = ((n % 128 + 128 : Nat) : Int) := by
        rw [and127 _ (by omega) (by omega), or128 _ (by omega) (by omega)]
        omega
      rw [e1, e2]
      refine ev_cast (ih (n / 128) (by omega) _ (by omega) (by simp; omega)) ?_
      rw [putNat_big h, List.append_assoc]
      rfl
theorem impl_PutNum_ev (n : Int) : Ev (fun k => impl_PutNum.f k n) (putNum n) := by
  unfold impl_PutNum.f
  by_cases h : 0 ≤ n ∧ n ≤ 2147483647
  · refine ev_eq (a := true) (by unfold impl_within.f; rw [if_pos (by omega)]; simp; omega) (ev_pos rfl ?_)
    obtain ⟨m, rfl⟩ := Int.eq_ofNat_of_zero_le h.1
    refine ev_cast (impl_putNum_l m [] (by omega) (by simp; omega)) ?_
    rw [putNum, if_pos h]
    simp
  · refine ev_eq (a := false) (by unfold impl_within.f; split <;> simp <;> omega) (ev_neg (by simp) ?_)
    rw [putNum, if_neg h]
    exact Ev.now _

def putText (s : ByteArray) : List Int := putNum (s.size : Int) ++ bytesOf s
theorem putText_length (s : ByteArray) : (putText s).length = (putNum (s.size : Int)).length + s.size := by
  unfold putText
  rw [List.length_append, bytesOf_length]

theorem spec_PutText_ev (s : ByteArray) (hs : s.size ≤ 1099511627776) : Ev (fun k => spec_PutText.f k s) (putText s) := by
  have hl := putNum_length (s.size : Int)
  unfold spec_PutText.f putText
  refine Ev.bind (spec_PutNum_ev _) (ev_pos (by omega) (ev_some (ev_pos ?_ (Ev.now _))))
  rw [bytesOf_length]
  omega

theorem impl_PutText_ev (s : ByteArray) (hs : s.size ≤ 1099511627776) : Ev (fun k => impl_PutText.f k s) (putText s) := by
  have hl := putNum_length (s.size : Int)
  unfold impl_PutText.f putText
  exact Ev.bind (impl_PutNum_ev _) (ev_pos (by omega) (Ev.now _))

def txGo (n : Int) : Int → List S46 → Bool
  | _, [] => true
  | last, w :: l => decide (last + 1 ≤ w.f0 ∧ w.f0 ≤ n - 1) && (decide (w.f1.size ≤ 90) && txGo n w.f0 l)
def txOk (n : Int) (l : List S46) : Bool := decide (1 ≤ n ∧ n ≤ 48) && (!l.isEmpty && txGo n (-1) l)
def putsOk (n : Int) (l : List S46) : Bool := l.all fun w => decide (0 ≤ w.f0 ∧ w.f0 ≤ n - 1) && decide (w.f1.size ≤ 90)
def incGo : Int → List S46 → Bool
  | _, [] => true
  | last, w :: l => decide (last < w.f0) && incGo w.f0 l
theorem txGo_eq (n : Int) (l : List S46) : ∀ last : Int, -1 ≤ last → txGo n last l = (putsOk n l && incGo last l) := by
  induction l with
  | nil => intro last _; rfl
  | cons w l ih =>
    intro last hl
    rw [txGo, incGo, putsOk, List.all_cons]
    by_cases h : last + 1 ≤ w.f0 ∧ w.f0 ≤ n - 1
    · rw [ih w.f0 (by omega), putsOk, decide_eq_true h, decide_eq_true (show last < w.f0 by omega), decide_eq_true (show 0 ≤ w.f0 ∧ w.f0 ≤ n - 1 by omega)]
      cases decide (w.f1.size ≤ 90) <;> simp
    · rw [decide_eq_false h]
      by_cases h2 : last < w.f0
      · rw [decide_eq_false (show ¬ (0 ≤ w.f0 ∧ w.f0 ≤ n - 1) by omega)]
        simp
      · rw [decide_eq_false h2]
        simp
theorem decide_within (a lo hi : Int) : impl_within.f a lo hi = some (decide (lo ≤ a ∧ a ≤ hi)) := by
  unfold impl_within.f
  by_cases h : a ≥ lo
  · rw [if_pos h]
    congr 1
    rw [decide_eq_decide]
    omega
  · rw [if_neg h]
    congr 1
    symm
    rw [decide_eq_false_iff_not]
    omega

theorem impl_txOk_l (n : Int) (l : List S46) (hn : 1 ≤ n ∧ n ≤ 48) (hl : l.length ≤ 140737488351232) (hw : ∀ x ∈ l, (Lit.int .i64 x.f0).wf = true) (d : Nat) : ∀ (i : Nat) (last : Int), i + d = l.length → -1 ≤ last → last ≤ 48 →
    Ev (fun k => impl_TxOk.l0 k n last l (l.length : Int) (i : Int)) (txGo n last (l.drop i)) := by
  induction d with
  | zero =>
    intro i last hi h0 h1
    apply ev_shift
    simp only [impl_TxOk.l0]
    refine ev_neg (by omega) (ev_cast (Ev.now _) ?_)
    rw [List.drop_eq_nil_of_le (by omega)]
    rfl
  | succ d ih =>
    intro i last hi h0 h1
    apply ev_shift
    simp only [impl_TxOk.l0]
    refine ev_pos (by omega) (ev_pos (by omega) (ev_pos (by omega) ?_))
    rw [wrap_nat (by omega), rdPut_nat, wrap_in (x := last + 1) (by omega) (by omega), wrap_in (x := n - 1) (by omega) (by omega), drop_cons z46 l i (by omega), txGo]
    refine ev_eq (decide_within _ _ _) ?_
    by_cases c : last + 1 ≤ (l.getD i z46).f0 ∧ (l.getD i z46).f0 ≤ n - 1
    · rw [decide_eq_true c]
      refine ev_pos rfl (ev_eq rfl ?_)
      by_cases c2 : (l.getD i z46).f1.size ≤ 90
      · rw [decide_eq_true c2]
        refine ev_pos (decide_eq_true (by omega)) (ev_cast (ih (i + 1) _ (by omega) (by omega) (by omega)) ?_)
        simp
      · rw [decide_eq_false c2]
        refine ev_neg (fun z => c2 (by have := of_decide_eq_true z; omega)) (ev_cast (Ev.now _) ?_)
        simp
    · rw [decide_eq_false c]
      exact ev_neg (by simp) (ev_cast (Ev.now _) (by simp))
theorem impl_TxOk_ev (n : Int) (l : List S46) (hl : l.length ≤ 140737488351232) (hw : ∀ x ∈ l, (Lit.int .i64 x.f0).wf = true) : Ev (fun k => impl_TxOk.f k n l) (txOk n l) := by
  unfold impl_TxOk.f txOk
  refine ev_eq (decide_within _ _ _) ?_
  by_cases c : 1 ≤ n ∧ n ≤ 48
  · rw [decide_eq_true c]
    refine ev_pos rfl (ev_shift ?_)
    simp only [impl_TxOk.j0]
    cases l with
    | nil => exact ev_pos rfl (Ev.now _)
    | cons w r =>
      refine ev_neg (by simp; omega) (ev_cast (impl_txOk_l n (w :: r) c hl hw (w :: r).length 0 (-1) (by omega) (by omega) (by omega)) ?_)
      simp
  · rw [decide_eq_false c]
    refine ev_neg (by simp) (ev_shift ?_)
    simp only [impl_TxOk.j0]
    exact ev_pos trivial (Ev.now _)

theorem decide_l1In (a lo hi : Int) : spec_l1In.f a lo hi = some (decide (lo ≤ a ∧ a ≤ hi)) := by
  unfold spec_l1In.f
  by_cases h : a ≥ lo
  · rw [if_pos h]
    congr 1
    rw [decide_eq_decide]
    omega
  · rw [if_neg h]
    congr 1
    symm
    rw [decide_eq_false_iff_not]
    omega
theorem spec_putsOk_ev (n : Int) (l : List S46) (hn : 0 ≤ n ∧ n ≤ 9223372036854775807) (hl : l.length ≤ 140737488351232) : Ev (fun k => spec_l3PutsOk.f k l n) (putsOk n l) := by
  unfold spec_l3PutsOk.f
  have := ev_loop (fun k i => spec_l3PutsOk.l0 k l n (i : Int)) (fun i => putsOk n (l.drop i)) l.length ?_ ?_ 0 (Nat.zero_le _)
  · exact this
  · simp only [spec_l3PutsOk.l0]
    refine ev_neg (by omega) (ev_cast (Ev.now _) ?_)
    rw [List.drop_length]
    rfl
  · intro i hi e
    simp only [spec_l3PutsOk.l0]
    refine ev_pos (by omega) (ev_pos (by omega) (ev_eq (decide_l1In _ _ _) ?_))
    rw [wrap_nat (by omega), rdPut_nat, wrap_in (x := n - 1) (by omega) (by omega), drop_cons z46 l i hi, putsOk, List.all_cons]
    by_cases c : 0 ≤ (l.getD i z46).f0 ∧ (l.getD i z46).f0 ≤ n - 1
    · rw [decide_eq_true c]
      refine ev_pos rfl ?_
      by_cases c2 : (l.getD i z46).f1.size ≤ 90
      · refine ev_neg (by omega) (ev_cast e ?_)
        rw [decide_eq_true c2]
        simp [putsOk]
      · refine ev_pos (by omega) (ev_cast (Ev.now _) ?_)
        rw [decide_eq_false c2]
        simp
    · rw [decide_eq_false c]
      exact ev_neg (by simp) (ev_cast (Ev.now _) (by simp))
theorem spec_incr_l (l : List S46) (hl : l.length ≤ 140737488351232) (hne : 0 < l.length) : Ev (fun k => spec_TxOk.l0 k l 1) (incGo (l.getD 0 z46).f0 (l.drop 1)) := by
  have key : ∀ (d i : Nat), i + 1 + d = l.length → Ev (fun k => spec_TxOk.l0 k l ((i + 1 : Nat) : Int)) (incGo (l.getD i z46).f0 (l.drop (i + 1))) := by
    intro d
    induction d with
    | zero =>
      intro i hi
      apply ev_shift
      simp only [spec_TxOk.l0]
      refine ev_neg (by omega) (ev_cast (Ev.now _) ?_)
      rw [List.drop_eq_nil_of_le (by omega)]
      rfl
    | succ d ih =>
      intro i hi
      apply ev_shift
      simp only [spec_TxOk.l0]
      have e1 : wrap64 (((i + 1 : Nat) : Int) - 1) = (i : Int) := by rw [wrap_in (by omega) (by omega)]; omega
      rw [e1, wrap_nat (by omega), rdPut_nat, rdPut_nat, drop_cons z46 l (i + 1) (by omega), incGo]
      refine ev_pos (by omega) (ev_pos (by omega) (ev_pos (by omega) (ev_pos (by omega) ?_)))
      by_cases c : (l.getD i z46).f0 < (l.getD (i + 1) z46).f0
      · refine ev_neg (by omega) (ev_cast (ih (i + 1) (by omega)) ?_)
        rw [decide_eq_true c]
        simp
      · refine ev_pos (by omega) (ev_cast (Ev.now _) ?_)
        rw [decide_eq_false c]
        simp
  exact key (l.length - 1) 0 (by omega)
theorem spec_TxOk_ev (n : Int) (l : List S46) (hl : l.length ≤ 140737488351232) : Ev (fun k => spec_TxOk.f k n l) (txOk n l) := by
  unfold spec_TxOk.f txOk
  refine ev_eq (decide_l1In _ _ _) ?_
  by_cases c : 1 ≤ n ∧ n ≤ 48
  · rw [decide_eq_true c, txGo_eq n l (-1) (by omega)]
    refine ev_pos rfl ?_
    cases l with
    | nil =>
      refine ev_pos rfl (ev_shift ?_)
      simp only [spec_TxOk.j0]
      exact ev_pos trivial (Ev.now _)
    | cons w r =>
      refine ev_neg (by simp; omega) (Ev.bind (spec_putsOk_ev n (w :: r) (by omega) hl) (ev_shift ?_))
      simp only [spec_TxOk.j0]
      cases hp : putsOk n (w :: r) with
      | false => exact ev_pos rfl (ev_cast (Ev.now _) (by simp))
      | true =>
        refine ev_neg (by simp) (ev_cast (spec_incr_l (w :: r) hl (by simp)) ?_)
        have hw : 0 ≤ w.f0 := by
          have h2 := hp
          rw [putsOk, List.all_cons] at h2
          simp at h2
          omega
        rw [incGo, decide_eq_true (show -1 < w.f0 by omega)]
        simp
  · rw [decide_eq_false c]
    refine ev_neg (by simp) (ev_shift ?_)
    simp only [spec_TxOk.j0]
    exact ev_pos trivial (Ev.now _)

theorem strOf_append (a b : List Int) : strOfNums (a ++ b) = strOfNums a ++ strOfNums b := by
  apply Go.WideShapes.bytes_inj
  rw [Go.Joins.data_append, strOfNums_data, strOfNums_data, strOfNums_data, List.map_append]

theorem flat_snoc {α : Type} (d : α) (f : α → List Int) (l : List α) (i : Nat) (h : i < l.length) : (l.take (i + 1)).flatMap f = (l.take i).flatMap f ++ f (l.getD i d) := by
  rw [List.take_succ_eq_append_getElem h, List.flatMap_append]
  simp [List.getD, h]
theorem flat_len {α : Type} (f : α → List Int) (m : Nat) (l : List α) (h : ∀ x ∈ l, (f x).length ≤ m) : (l.flatMap f).length ≤ m * l.length := by
  induction l with
  | nil => simp
  | cons x l ih =>
    have h1 := h x (by simp)
    have h2 := ih (fun y hy => h y (List.mem_cons_of_mem _ hy))
    rw [List.flatMap_cons, List.length_append, List.length_cons, Nat.mul_add]
    omega
theorem ats_len (l : List Int) (i : Nat) (hi : l.length ≤ 1048579) : ((l.take i).flatMap putNum).length ≤ 5242895 := by
  have := flat_len putNum 5 (l.take i) (fun x _ => putNum_length x)
  rw [List.length_take] at this
  omega

def four (s : Int) : List Int := [s / 16777216 % 256, s / 65536 % 256, s / 256 % 256, s % 256]
def sumBytes (l : List ByteArray) : List Int := l.flatMap putText
def headNums (ats : List Int) (s : Int) : List Int := [74] ++ putNum (ats.length : Int) ++ ats.flatMap putNum ++ four s
def headText (l : List S46) : ByteArray := if txOk 48 l = true then strOfNums (headNums (l.map (·.f0)) (crc (sumBytes (l.map (·.f1))))) else (⟨#[]⟩ : ByteArray)
theorem crcFrom_lt (l : List Int) (hb : ∀ x ∈ l, 0 ≤ x ∧ x ≤ 255) : ∀ x, x < 4294967296 → crcFrom l x < 4294967296 := by
  induction l with
  | nil => intro x h; exact h
  | cons b l ih =>
    intro x h
    have := hb b (by simp)
    exact ih (fun y hy => hb y (List.mem_cons_of_mem _ hy)) _ (crcBits_lt 8 (xor_lt32 h (by omega)))
theorem crc_range (l : List Int) (hb : ∀ x ∈ l, 0 ≤ x ∧ x ≤ 255) : 0 ≤ crc l ∧ crc l < 4294967296 := by
  have := xor_lt32 (crcFrom_lt l hb 4294967295 (by omega)) (b := 4294967295) (by omega)
  unfold crc
  omega
theorem putNum_range (n : Int) : ∀ x ∈ putNum n, 0 ≤ x ∧ x ≤ 255 := by
  intro x hx
  unfold putNum at hx
  split at hx
  · exact putNat_range _ x hx
  · cases hx
theorem putText_range (s : ByteArray) : ∀ x ∈ putText s, 0 ≤ x ∧ x ≤ 255 := by
  intro x hx
  unfold putText at hx
  rw [List.mem_append] at hx
  rcases hx with hx | hx
  · exact putNum_range _ x hx
  · exact bytesOf_range s x hx
theorem sumBytes_range (l : List ByteArray) : ∀ x ∈ sumBytes l, 0 ≤ x ∧ x ≤ 255 := by
  intro x hx
  unfold sumBytes at hx
  rw [List.mem_flatMap] at hx
  obtain ⟨y, _, hy⟩ := hx
  exact putText_range y x hy
theorem sum_len (l : List ByteArray) (h : ∀ x ∈ l, x.size ≤ 90) (i : Nat) (hi : l.length ≤ 1048576) : ((l.take i).flatMap putText).length ≤ 104857600 := by
  have := flat_len putText 100 (l.take i) (fun x hx => by
    have h1 := h x (List.mem_of_mem_take hx)
    have h2 := putText_length x
    have h3 := putNum_length (x.size : Int)
    omega)
  rw [List.length_take] at this
  omega
theorem map_snoc {α β : Type} (d : α) (f : α → β) (l : List α) (i : Nat) (h : i < l.length) : (l.take (i + 1)).map f = (l.take i).map f ++ [f (l.getD i d)] := by
  rw [List.take_succ_eq_append_getElem h, List.map_append]
  simp [List.getD, h]
theorem txGo_small (n : Int) (l : List S46) : ∀ last, txGo n last l = true → ∀ w ∈ l, w.f1.size ≤ 90 := by
  induction l with
  | nil => intro last _ w hw; cases hw
  | cons x l ih =>
    intro last h w hw
    rw [txGo, Bool.and_eq_true, Bool.and_eq_true, decide_eq_true_iff, decide_eq_true_iff] at h
    rw [List.mem_cons] at hw
    rcases hw with rfl | hw
    · exact h.2.1
    · exact ih _ h.2.2 w hw
theorem txOk_small {n : Int} {l : List S46} (h : txOk n l = true) : ∀ w ∈ l, w.f1.size ≤ 90 := by
  unfold txOk at h
  rw [Bool.and_eq_true, Bool.and_eq_true] at h
  exact txGo_small n l _ h.2.2

theorem spec_l4Four_eq (s : Int) (h0 : 0 ≤ s) (h1 : s < 4294967296) : spec_l4Four.f s = some (strOfNums (four s)) := by
  unfold spec_l4Four.f four
  rw [Int.tdiv_eq_ediv_of_nonneg h0, Int.tdiv_eq_ediv_of_nonneg h0, Int.tdiv_eq_ediv_of_nonneg h0, wrap_in (x := s / 16777216) (by omega) (by omega), wrap_in (x := s / 65536) (by omega) (by omega), wrap_in (x := s / 256) (by omega) (by omega),
    Int.tmod_eq_emod_of_nonneg (show 0 ≤ s / 65536 by omega), Int.tmod_eq_emod_of_nonneg (show 0 ≤ s / 256 by omega), Int.tmod_eq_emod_of_nonneg h0, Int.emod_emod, Int.emod_emod, Int.emod_emod]
theorem spec_l4Head_ev (ats : List Int) (s : Int) (h0 : 0 ≤ s) (h1 : s < 4294967296) (hl : ats.length ≤ 1048576) : Ev (fun k => spec_l4Head.f k ats s) (strOfNums (headNums ats s)) := by
  have hp := putNum_length (ats.length : Int)
  unfold spec_l4Head.f headNums
  refine ev_some (Ev.bind (spec_PutNum_ev _) (ev_pos (by rw [List.length_singleton]; omega) ?_))
  have := ev_loop (fun k i => spec_l4Head.l0 k ats s ([74] ++ putNum (ats.length : Int) ++ (ats.take i).flatMap putNum) (i : Int)) (fun _ => strOfNums ([74] ++ putNum (ats.length : Int) ++ ats.flatMap putNum ++ four s)) ats.length ?_ ?_ 0 (Nat.zero_le _)
  · simpa using this
  · simp only [spec_l4Head.l0]
    have hz := ats_len ats ats.length (by omega)
    refine ev_neg (by omega) (ev_eq (spec_l4Four_eq s h0 h1) (ev_pos ?_ (ev_cast (Ev.now _) ?_)))
    · rw [strOfNums_size, strOfNums_size, List.length_append, List.length_append, List.length_singleton, show (four s).length = 4 from rfl]
      omega
    · rw [List.take_length, ← strOf_append]
  · intro i hi e
    have hz := ats_len ats i (by omega)
    have hq := putNum_length (ats.getD i 0)
    simp only [spec_l4Head.l0]
    refine ev_pos (by omega) (ev_pos (by omega) (Ev.bind (spec_PutNum_ev _) (ev_pos ?_ ?_)))
    · rw [rd_nat, List.length_append, List.length_append, List.length_singleton]
      omega
    · rw [wrap_nat (by omega), rd_nat, List.append_assoc ([74] ++ putNum (ats.length : Int)), ← flat_snoc 0 putNum ats i hi]
      exact e
theorem spec_l4Sum_ev (l : List ByteArray) (h : ∀ x ∈ l, x.size ≤ 90) (hl : l.length ≤ 1048576) : Ev (fun k => spec_l4Sum.f k l) (crc (sumBytes l)) := by
  unfold spec_l4Sum.f
  have := ev_loop (fun k i => spec_l4Sum.l0 k l ((l.take i).flatMap putText) (i : Int)) (fun _ => crc (sumBytes l)) l.length ?_ ?_ 0 (Nat.zero_le _)
  · simpa using this
  · simp only [spec_l4Sum.l0]
    have hz := sum_len l h l.length hl
    rw [List.take_length] at hz ⊢
    exact ev_neg (by omega) (Ev.bind (spec_Crc_ev _ (by omega) (sumBytes_range l)) (Ev.now _))
  · intro i hi e
    have hz := sum_len l h i hl
    have hs := h _ (getD_mem ByteArray.empty l i hi)
    have hq := putText_length (l.getD i ByteArray.empty)
    have hq2 := putNum_length ((l.getD i ByteArray.empty).size : Int)
    simp only [spec_l4Sum.l0]
    refine ev_pos (by omega) (ev_pos (by omega) (Ev.bind (spec_PutText_ev _ (by rw [rdOf_nat]; omega)) (ev_pos (by rw [rdOf_nat]; omega) ?_)))
    rw [wrap_nat (by omega), rdOf_nat, ← flat_snoc ByteArray.empty putText l i hi]
    exact e
theorem spec_HeadText_ev (l : List S46) (hl : l.length ≤ 1048576) : Ev (fun k => spec_HeadText.f k l) (headText l) := by
  unfold spec_HeadText.f headText
  refine Ev.bind (spec_TxOk_ev 48 l (by omega)) ?_
  cases ht : txOk 48 l
  · exact ev_neg (by simp) (ev_cast (Ev.now _) (by simp))
  · refine ev_pos rfl ?_
    rw [if_pos rfl]
    have hsm := txOk_small ht
    have := ev_loop (fun k i => spec_HeadText.l0 k l ((l.take i).map (·.f0)) ((l.take i).map (·.f1)) (i : Int)) (fun _ => strOfNums (headNums (l.map (·.f0)) (crc (sumBytes (l.map (·.f1)))))) l.length ?_ ?_ 0 (Nat.zero_le _)
    · simpa using this
    · simp only [spec_HeadText.l0]
      rw [List.take_length]
      have hr := crc_range _ (sumBytes_range (l.map (·.f1)))
      refine ev_neg (by omega) (Ev.bind (spec_l4Sum_ev _ ?_ (by rw [List.length_map]; omega)) (Ev.bind (spec_l4Head_ev _ _ hr.1 hr.2 (by rw [List.length_map]; omega)) (Ev.now _)))
      intro x hx
      rw [List.mem_map] at hx
      obtain ⟨w, hw, rfl⟩ := hx
      exact hsm w hw
    · intro i hi e
      simp only [spec_HeadText.l0]
      refine ev_pos (by omega) (ev_pos (by omega) (ev_pos (by rw [List.length_map, List.length_take]; omega) (ev_pos (by rw [List.length_map, List.length_take]; omega) ?_)))
      rw [wrap_nat (by omega), rdPut_nat, ← map_snoc z46 (fun w : S46 => w.f0) l i hi, ← map_snoc z46 (fun w : S46 => w.f1) l i hi]
      exact e

theorem impl_headBytes_ev (ats : List Int) (s : Int) (h0 : 0 ≤ s) (h1 : s < 4294967296) (hl : ats.length ≤ 1048576) : Ev (fun k => impl_headBytes.f k ats s) (headNums ats s) := by
  have hp := putNum_length (ats.length : Int)
  unfold impl_headBytes.f headNums
  refine ev_some (Ev.bind (impl_PutNum_ev _) (ev_pos (by rw [List.length_singleton]; omega) ?_))
  have := ev_loop (fun k i => impl_headBytes.l0 k s ([74] ++ putNum (ats.length : Int) ++ (ats.take i).flatMap putNum) ats (ats.length : Int) (i : Int)) (fun _ => [74] ++ putNum (ats.length : Int) ++ ats.flatMap putNum ++ four s) ats.length ?_ ?_ 0 (Nat.zero_le _)
  · simpa using this
  · simp only [impl_headBytes.l0]
    have hz := ats_len ats ats.length (by omega)
    refine ev_neg (by omega) (ev_some (ev_pos ?_ (ev_cast (Ev.now _) ?_)))
    · rw [List.length_append, List.length_append, List.length_singleton]
      simp only [List.length_cons, List.length_nil]
      omega
    · rw [List.take_length]
      rfl
  · intro i hi e
    have hz := ats_len ats i (by omega)
    have hq := putNum_length (ats.getD i 0)
    simp only [impl_headBytes.l0]
    refine ev_pos (by omega) (ev_pos (by omega) (ev_pos (by omega) (Ev.bind (impl_PutNum_ev _) (ev_pos ?_ ?_))))
    · rw [rd_nat, List.length_append, List.length_append, List.length_singleton]
      omega
    · rw [wrap_nat (by omega), rd_nat, List.append_assoc ([74] ++ putNum (ats.length : Int)), ← flat_snoc 0 putNum ats i hi]
      exact e
theorem impl_dataSum_ev (l : List ByteArray) (h : ∀ x ∈ l, x.size ≤ 90) (hl : l.length ≤ 1048576) : Ev (fun k => impl_dataSum.f k l) (crc (sumBytes l)) := by
  unfold impl_dataSum.f
  have := ev_loop (fun k i => impl_dataSum.l0 k ((l.take i).flatMap putText) l (l.length : Int) (i : Int)) (fun _ => crc (sumBytes l)) l.length ?_ ?_ 0 (Nat.zero_le _)
  · simpa using this
  · simp only [impl_dataSum.l0]
    have hz := sum_len l h l.length hl
    rw [List.take_length] at hz ⊢
    exact ev_neg (by omega) (Ev.bind (impl_Crc_ev _ (by omega) (sumBytes_range l)) (Ev.now _))
  · intro i hi e
    have hz := sum_len l h i hl
    have hs := h _ (getD_mem ByteArray.empty l i hi)
    have hq := putText_length (l.getD i ByteArray.empty)
    have hq2 := putNum_length ((l.getD i ByteArray.empty).size : Int)
    simp only [impl_dataSum.l0]
    refine ev_pos (by omega) (ev_pos (by omega) (ev_pos (by omega) (Ev.bind (impl_PutText_ev _ (by rw [rdOf_nat]; omega)) (ev_pos (by rw [rdOf_nat]; omega) ?_))))
    rw [wrap_nat (by omega), rdOf_nat, ← flat_snoc ByteArray.empty putText l i hi]
    exact e
theorem impl_HeadText_ev (l : List S46) (hl : l.length ≤ 1048576) (hw : ∀ x ∈ l, (Lit.int .i64 x.f0).wf = true) : Ev (fun k => impl_HeadText.f k l) (headText l) := by
  unfold impl_HeadText.f headText
  refine Ev.bind (impl_TxOk_ev 48 l (by omega) hw) ?_
  cases ht : txOk 48 l
  · exact ev_neg (by simp) (ev_cast (Ev.now _) (by simp))
  · refine ev_pos rfl ?_
    rw [if_pos rfl]
    have hsm := txOk_small ht
    have := ev_loop (fun k i => impl_HeadText.l0 k ((l.take i).map (·.f0)) ((l.take i).map (·.f1)) l (l.length : Int) (i : Int)) (fun _ => strOfNums (headNums (l.map (·.f0)) (crc (sumBytes (l.map (·.f1)))))) l.length ?_ ?_ 0 (Nat.zero_le _)
    · simpa using this
    · simp only [impl_HeadText.l0]
      rw [List.take_length]
      have hr := crc_range _ (sumBytes_range (l.map (·.f1)))
      refine ev_neg (by omega) (Ev.bind (impl_dataSum_ev _ ?_ (by rw [List.length_map]; omega)) (Ev.bind (impl_headBytes_ev _ _ hr.1 hr.2 (by rw [List.length_map]; omega)) (Ev.now _)))
      intro x hx
      rw [List.mem_map] at hx
      obtain ⟨w, hw, rfl⟩ := hx
      exact hsm w hw
    · intro i hi e
      simp only [impl_HeadText.l0]
      refine ev_pos (by omega) (ev_pos (by omega) (ev_pos (by omega) (ev_pos (by rw [List.length_map, List.length_take]; omega) (ev_pos (by rw [List.length_map, List.length_take]; omega) ?_))))
      rw [wrap_nat (by omega), rdPut_nat, ← map_snoc z46 (fun w : S46 => w.f0) l i hi, ← map_snoc z46 (fun w : S46 => w.f1) l i hi]
      exact e

def g1Of (l : List S46) (k : Nat) : S119 := ⟨0, wrap64 (1 + (k : Int)), (l.getD k z46).f1⟩
def g2Of (n : Int) (w : S46) : S119 := ⟨0, wrap64 (wrap64 (n + 1) + w.f0), w.f1⟩
def endOf (t : ByteArray) : List S119 := [⟨1, 0, ⟨#[]⟩⟩, ⟨0, 0, t⟩, ⟨1, 0, ⟨#[]⟩⟩]
def commitEvs (n : Int) (l : List S46) : List S119 := if txOk n l = true then (List.range l.length).map (g1Of l) ++ endOf (headText l) ++ l.map (g2Of n) ++ endOf ⟨#[]⟩ else []
theorem commitEvs_length (n : Int) (l : List S46) : (commitEvs n l).length ≤ 2 * l.length + 6 := by
  unfold commitEvs endOf
  split
  · simp
    omega
  · simp
theorem range_snoc {α : Type} (g : Nat → α) (i : Nat) : (List.range (i + 1)).map g = (List.range i).map g ++ [g i] := by
  rw [List.range_succ, List.map_append]
  rfl

theorem spec_commit_l1 (n : Int) (l : List S46) (pre : List S119) (hp : pre.length ≤ 1048580) (hl : l.length ≤ 1048576) : Ev (fun k => spec_Commit.l1 k n l pre 0 1 0 ⟨#[]⟩) (pre ++ l.map (g2Of n) ++ endOf ⟨#[]⟩) := by
  have := ev_loop (fun k i => spec_Commit.l1 k n l (pre ++ (l.take i).map (g2Of n)) (i : Int) 1 0 ⟨#[]⟩) (fun _ => pre ++ l.map (g2Of n) ++ endOf ⟨#[]⟩) l.length ?_ ?_ 0 (Nat.zero_le _)
  · simpa using this
  · simp only [spec_Commit.l1]
    refine ev_neg (by omega) (ev_eq rfl (ev_some (ev_pos ?_ (ev_cast (Ev.now _) ?_))))
    · rw [List.length_append, List.length_map, List.length_take]
      simp only [List.length_cons, List.length_nil]
      omega
    · rw [List.take_length]
      rfl
  · intro i hi e
    simp only [spec_Commit.l1]
    refine ev_pos (by omega) (ev_pos (by omega) (ev_eq rfl (ev_pos ?_ ?_)))
    · rw [List.length_append, List.length_map, List.length_take]
      omega
    · dsimp only
      rw [wrap_nat (by omega), rdPut_nat, List.append_assoc, show [(⟨0, wrap64 (wrap64 (n + 1) + (l.getD i z46).f0), (l.getD i z46).f1⟩ : S119)] = [g2Of n (l.getD i z46)] from rfl, ← map_snoc z46 (g2Of n) l i hi]
      exact e
theorem spec_Commit_ev (n : Int) (l : List S46) (hl : l.length ≤ 1048576) : Ev (fun k => spec_Commit.f k n l) (commitEvs n l) := by
  unfold spec_Commit.f commitEvs
  refine ev_some (Ev.bind (spec_TxOk_ev n l (by omega)) ?_)
  cases txOk n l
  · exact ev_neg (by simp) (ev_cast (Ev.now _) (by simp))
  · refine ev_pos rfl ?_
    rw [if_pos rfl]
    have := ev_loop (fun k i => spec_Commit.l0 k n l ((List.range i).map (g1Of l)) (i : Int) 1 0 ⟨#[]⟩) (fun _ => (List.range l.length).map (g1Of l) ++ endOf (headText l) ++ l.map (g2Of n) ++ endOf ⟨#[]⟩) l.length ?_ ?_ 0 (Nat.zero_le _)
    · simpa using this
    · simp only [spec_Commit.l0]
      refine ev_neg (by omega) (Ev.bind (spec_HeadText_ev l hl) (ev_eq rfl (ev_some (ev_pos ?_ ?_))))
      · simp only [List.length_cons, List.length_nil, List.length_map, List.length_range]
        omega
      · exact spec_commit_l1 n l _ (by simp only [List.length_append, List.length_cons, List.length_nil, List.length_map, List.length_range]; omega) hl
    · intro i hi e
      simp only [spec_Commit.l0]
      refine ev_pos (by omega) (ev_pos (by omega) (ev_eq rfl (ev_pos (by rw [List.length_map, List.length_range]; omega) ?_)))
      dsimp only
      rw [wrap_nat (by omega), rdPut_nat, show [(⟨0, wrap64 (1 + (i : Int)), (l.getD i z46).f1⟩ : S119)] = [g1Of l i] from rfl, ← range_snoc]
      exact e

theorem rdPut_ev (xs : List S46) (i : Nat) : rd_T46 xs (i : Int) = xs.getD i z46 := rdPut_nat xs i
theorem impl_commit_l1 (n : Int) (l : List S46) (pre : List S119) (hp : pre.length ≤ 1048580) (hl : l.length ≤ 1048576) : Ev (fun k => impl_Commit.l1 k n pre l (l.length : Int) 0 1 0 ⟨#[]⟩) (pre ++ l.map (g2Of n) ++ endOf ⟨#[]⟩) := by
  have := ev_loop (fun k i => impl_Commit.l1 k n (pre ++ (l.take i).map (g2Of n)) l (l.length : Int) (i : Int) 1 0 ⟨#[]⟩) (fun _ => pre ++ l.map (g2Of n) ++ endOf ⟨#[]⟩) l.length ?_ ?_ 0 (Nat.zero_le _)
  · simpa using this
  · simp only [impl_Commit.l1]
    refine ev_neg (by omega) (ev_some (ev_pos ?_ (ev_cast (Ev.now _) ?_)))
    · rw [List.length_append, List.length_map, List.length_take]
      simp only [List.length_cons, List.length_nil]
      omega
    · rw [List.take_length]
      rfl
  · intro i hi e
    simp only [impl_Commit.l1]
    refine ev_pos (by omega) (ev_pos (by omega) (ev_pos (by omega) (ev_pos ?_ ?_)))
    · rw [List.length_append, List.length_map, List.length_take]
      omega
    · rw [wrap_nat (by omega), rdPut_nat, List.append_assoc, show [(⟨0, wrap64 (wrap64 (n + 1) + (l.getD i z46).f0), (l.getD i z46).f1⟩ : S119)] = [g2Of n (l.getD i z46)] from rfl, ← map_snoc z46 (g2Of n) l i hi]
      exact e
theorem impl_Commit_ev (n : Int) (l : List S46) (hl : l.length ≤ 1048576) (hw : ∀ x ∈ l, (Lit.int .i64 x.f0).wf = true) : Ev (fun k => impl_Commit.f k n l) (commitEvs n l) := by
  unfold impl_Commit.f commitEvs
  refine Ev.bind (impl_TxOk_ev n l (by omega) hw) ?_
  cases txOk n l
  · exact ev_neg (by simp) (ev_cast (Ev.now _) (by simp))
  · refine ev_pos rfl ?_
    rw [if_pos rfl]
    have := ev_loop (fun k i => impl_Commit.l0 k n l ((List.range i).map (g1Of l)) l (l.length : Int) (i : Int) 1 0 ⟨#[]⟩) (fun _ => (List.range l.length).map (g1Of l) ++ endOf (headText l) ++ l.map (g2Of n) ++ endOf ⟨#[]⟩) l.length ?_ ?_ 0 (Nat.zero_le _)
    · simpa using this
    · simp only [impl_Commit.l0]
      refine ev_neg (by omega) (Ev.bind (impl_HeadText_ev l hl hw) (ev_some (ev_pos ?_ ?_)))
      · simp only [List.length_cons, List.length_nil, List.length_map, List.length_range]
        omega
      · exact impl_commit_l1 n l _ (by simp only [List.length_append, List.length_cons, List.length_nil, List.length_map, List.length_range]; omega) hl
    · intro i hi e
      simp only [impl_Commit.l0]
      refine ev_pos (by omega) (ev_pos (by omega) (ev_pos (by omega) (ev_pos (by rw [List.length_map, List.length_range]; omega) ?_)))
      rw [wrap_nat (by omega), rdPut_nat, show [(⟨0, wrap64 (1 + (i : Int)), (l.getD i z46).f1⟩ : S119)] = [g1Of l i] from rfl, ← range_snoc]
      exact e

theorem rdEvent_nat (xs : List S119) (i : Nat) : rd_T119 xs (i : Int) = xs.getD i z119 := by simp [rd_T119]
theorem eqEvent_refl (a b : Int) (s : ByteArray) : laws_eqEvent.f a b s a b s = some true := by
  unfold laws_eqEvent.f
  rw [if_pos rfl, if_pos rfl, if_pos rfl]
theorem eqEventS_refl (a : List S119) (h : a.length ≤ 140737488351232) : Ev (fun k => laws_eqEventS.f k a a) true := by
  unfold laws_eqEventS.f
  refine ev_pos rfl ?_
  have := ev_loop (fun k i => laws_eqEventS.l0 k a a (i : Int)) (fun _ => true) a.length ?_ ?_ 0 (Nat.zero_le _)
  · exact this
  · simp only [laws_eqEventS.l0]
    exact ev_neg (by omega) (Ev.now _)
  · intro i hi e
    simp only [laws_eqEventS.l0]
    refine ev_pos (by omega) (ev_pos (by omega) (ev_pos (by omega) (ev_eq (eqEvent_refl _ _ _) (ev_pos rfl ?_))))
    rw [wrap_nat (by omega)]
    exact e
noncomputable def markEvent (m : Int) (j : Nat) : S119 := ⟨m + 3 * (j : Int), m + 3 * (j : Int) + 1, markText (m + 3 * (j : Int) + 2)⟩
theorem markEventS_ev (l : List S119) (m : Int) (h : l.length ≤ 140737488351232) (h0 : 0 ≤ m) (h1 : m ≤ 100000000000000000) :
    Ev (fun k => laws_markEventS.f k l m) (m + 3 * l.length, (List.range l.length).map (markEvent m)) := by
  unfold laws_markEventS.f
  have := ev_loop (fun k i => laws_markEventS.l0 k ((List.range i).map (markEvent m) ++ l.drop i) (m + 3 * (i : Int)) (i : Int)) (fun _ => (m + 3 * (l.length : Int), (List.range l.length).map (markEvent m))) l.length ?_ ?_ 0 (Nat.zero_le _)
  · simpa using this
  · simp only [laws_markEventS.l0]
    refine ev_neg (by simp) ?_
    simp only [List.drop_length, List.append_nil]
    exact Ev.now _
  · intro i hi e
    simp only [laws_markEventS.l0]
    have hlen : i < ((List.range i).map (markEvent m) ++ l.drop i).length := by simp; omega
    refine ev_pos (by simp; omega) (ev_pos (by omega) (ev_some (ev_some ?_)))
    rw [wrap_up (i := m + 3 * (i : Int)) (by omega) (by omega), wrap_up (i := m + 3 * (i : Int) + 1) (by omega) (by omega)]
    refine Ev.bind (markText_ev _ (by omega)) ?_
    simp only [rdEvent_nat, Int.toNat_natCast]
    simp only [List.set_set, getD_set_self, hlen]
    rw [wrap_nat (by omega), wrap_up (i := m + 3 * (i : Int) + 1 + 1) (by omega) (by omega)]
    have hs := mark_step z119 (markEvent m) l i hi
    simp only [markEvent] at hs
    have e1 : m + 3 * (i : Int) + 1 + 1 + 1 = m + 3 * ((i + 1 : Nat) : Int) := by omega
    have e2 : m + 3 * (i : Int) + 1 + 1 = m + 3 * (i : Int) + 2 := by omega
    rw [e1, e2, hs]
    exact e
theorem heldEventS_ev (n : Nat) (m : Int) (h : n ≤ 140737488351232) (h0 : 0 ≤ m) (h1 : m ≤ 100000000000000000) :
    Ev (fun k => laws_heldEventS.f k ((List.range n).map (markEvent m)) m) (m + 3 * n) := by
  unfold laws_heldEventS.f
  have := ev_loop (fun k i => laws_heldEventS.l0 k ((List.range n).map (markEvent m)) (m + 3 * (i : Int)) (i : Int)) (fun _ => m + 3 * (n : Int)) n ?_ ?_ 0 (Nat.zero_le _)
  · simpa using this
  · simp only [laws_heldEventS.l0]
    refine ev_neg (by simp) ?_
    exact Ev.now _
  · intro i hi e
    simp only [laws_heldEventS.l0]
    rw [wrap_up (i := m + 3 * (i : Int)) (by omega) (by omega), rdEvent_nat, range_getD z119 (markEvent m) n i hi, wrap_up (i := m + 3 * (i : Int) + 1) (by omega) (by omega), wrap_up (i := m + 3 * (i : Int) + 1 + 1) (by omega) (by omega)]
    have e1 : m + 3 * (i : Int) + 1 + 1 + 1 = m + 3 * ((i + 1 : Nat) : Int) := by omega
    have e2 : m + 3 * (i : Int) + 1 + 1 = m + 3 * (i : Int) + 2 := by omega
    rw [e1, e2]
    refine ev_pos (by simp; omega) (ev_pos (by omega) (ev_pos rfl (ev_pos rfl (Ev.bind (markText_ev _ (by omega)) (ev_pos rfl ?_)))))
    rw [wrap_nat (by omega)]
    exact e

theorem FnExactCommit : laws_FnExactCommit.Pure := by
  intro n l _ hg
  obtain ⟨hl, hx⟩ := hg
  apply Ev.rounds (g := fun k => laws_FnExactCommit.f k n l)
  unfold laws_FnExactCommit.f
  obtain ⟨r, er, _, hr⟩ := szPutS_ev l 1048576 (by omega) (by omega) hl (fun x hx2 => (hx x hx2).2)
  by_cases c : r < 0
  · exact Ev.bind er (ev_pos c (Ev.now _))
  · obtain ⟨h1, h2⟩ := hr (by omega)
    have hlen : l.length ≤ 1048576 := by omega
    have ht := toPutS_ev l hlen
    have hlm : (l.map ofLPut).length ≤ 1048576 := by rw [List.length_map]; omega
    have hw : ∀ x ∈ l.map ofLPut, (Lit.int .i64 x.f0).wf = true := by
      intro x hx2
      rw [List.mem_map] at hx2
      obtain ⟨y, hy, rfl⟩ := hx2
      exact (hx y hy).1
    have hc := commitEvs_length n (l.map ofLPut)
    have hi := impl_Commit_ev n (l.map ofLPut) hlm hw
    have hs := spec_Commit_ev n (l.map ofLPut) hlm
    have hm := markPutS_ev (l.map ofLPut) 1 (by omega) (by omega) (by omega)
    generalize commitEvs n (l.map ofLPut) = v at *
    have he := eqEventS_refl v (by omega)
    have hh := heldEventS_ev v.length 1 (by omega) (by omega) (by omega)
    refine Ev.bind er (ev_neg c (Ev.bind ht (Ev.bind hs (Ev.bind ht (Ev.bind hi (Ev.bind he (ev_pos rfl (Ev.bind ht (Ev.bind (eqPutS_refl _ (by omega)) (ev_pos rfl (Ev.bind hm (ev_neg (by omega) (Ev.bind he (ev_shift ?_))))))))))))))
    simp only [laws_FnExactCommit.j0]
    refine ev_neg (by simp) (Ev.bind (markEventS_ev v 1 (by omega) (by omega) (by omega)) (Ev.bind hh (ev_neg (by omega) (ev_pos rfl (Ev.bind ht (Ev.bind hi (Ev.bind he (ev_pos rfl (Ev.bind hh (ev_neg (by omega) (ev_pos rfl (Ev.now _))))))))))))

end Go.Proofs.Ytfpfdiagmnajaaa.Pure
