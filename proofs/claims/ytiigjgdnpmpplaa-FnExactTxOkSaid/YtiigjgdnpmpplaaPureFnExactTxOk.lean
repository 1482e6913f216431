/- FnExactTxOk: the law's function of the print answers true for every input within the row's bounds. Conditions: none but the bounds that the row itself gives. -/
import Derived.Test.YtiigjgdnpmpplaaPFnExactTxOkx2
import Derived.OpenShut
import Derived.Laws.BitsLemmas
namespace Go.Proofs.Ytiigjgdnpmpplaa.Pure
open Go Go.RowKit Go.Proofs.Ytiigjgdnpmpplaa.PFnExactTxOk Go.Proofs.YtiigjgdnpmpplaaW.PrintWords Go.Proofs.YtiigjgdnpmpplaaW.PrintLast Go.Proofs.YtiigjgdnpmpplaaW.PrintMore Go.Proofs.YtiigjgdnpmpplaaW.PrintMore Go.Proofs.YtiigjgdnpmpplaaW.PrintMore
set_option linter.unusedVariables false
set_option linter.unusedSimpArgs false

theorem ev_shift {α : Type} {g : Nat → Option α} {r : α} (h : Ev (fun k => g (k + 1)) r) : Ev g r := Ev.step (f := fun k => g (k + 1)) (fun _ => rfl) h
theorem ev_unshift {α : Type} {g : Nat → Option α} {r : α} (h : Ev g r) : Ev (fun k => g (k + 1)) r := by
  obtain ⟨K, h⟩ := h
  exact ⟨K, fun k hk => h (k + 1) (by omega)⟩
theorem ev_pos {α : Type} {c : Prop} [Decidable c] {f g : Nat → Option α} {r : α} (h : c) (e : Ev f r) : Ev (fun k => if c then f k else g k) r := by
  simpa only [if_pos h] using e
theorem ev_neg {α : Type} {c : Prop} [Decidable c] {f g : Nat → Option α} {r : α} (h : ¬ c) (e : Ev g r) : Ev (fun k => if c then f k else g k) r := by
  simpa only [if_neg h] using e
theorem ev_eq {α β : Type} {o : Option α} {a : α} {f : Nat → α → Option β} {r : β} (h : o = some a) (e : Ev (fun k => f k a) r) : Ev (fun k => o.bind (f k)) r := by
  subst h
  exact e
theorem ev_some {α β : Type} {a : α} {f : Nat → α → Option β} {r : β} (e : Ev (fun k => f k a) r) : Ev (fun k => (some a).bind (f k)) r := e
theorem ev_cast {α : Type} {g : Nat → Option α} {r r' : α} (h : Ev g r) (e : r = r') : Ev g r' := e ▸ h
theorem ev_loop {ρ : Type} (L : Nat → Nat → Option ρ) (res : Nat → ρ) (n : Nat) (he : Ev (fun k => L (k + 1) n) (res n))
    (hs : ∀ i, i < n → Ev (fun k => L k (i + 1)) (res (i + 1)) → Ev (fun k => L (k + 1) i) (res i)) : ∀ i, i ≤ n → Ev (fun k => L k i) (res i) := by
  have key : ∀ d i, i + d = n → Ev (fun k => L k i) (res i) := by
    intro d
    induction d with
    | zero =>
      intro i h
      obtain rfl : i = n := by omega
      exact ev_shift he
    | succ d ih =>
      intro i h
      exact ev_shift (hs i (by omega) (ih (i + 1) (by omega)))
  intro i h
  exact key (n - i) i (by omega)
theorem wrap_in {x : Int} (h0 : -9223372036854775808 ≤ x) (h1 : x ≤ 9223372036854775807) : wrap64 x = x := by
  unfold wrap64
  omega
theorem wrap_nat {i : Nat} (h : i < 9223372036854775807) : wrap64 ((i : Int) + 1) = ((i + 1 : Nat) : Int) := by
  unfold wrap64
  omega
theorem wrap_up {i : Int} (h0 : 0 ≤ i) (h : i < 9223372036854775807) : wrap64 (i + 1) = i + 1 := by
  unfold wrap64
  omega
theorem rd_nat (xs : List Int) (i : Nat) : rd xs (i : Int) = xs.getD i 0 := by simp [rd]
theorem rdOf_nat {α : Type} (d : α) (xs : List α) (i : Nat) : rdOf d xs (i : Int) = xs.getD i d := by simp [rdOf]
theorem bt_nat (s : ByteArray) (i : Nat) : bt s (i : Int) = (bytesOf s).getD i 0 := by rw [← rd_bytesOf, rd_nat]
theorem drop_cons {α : Type} (d : α) (l : List α) (i : Nat) (h : i < l.length) : l.drop i = l.getD i d :: l.drop (i + 1) := by
  rw [List.drop_eq_getElem_cons h]
  simp [List.getD, h]
theorem getD_mem {α : Type} (d : α) (l : List α) (i : Nat) (h : i < l.length) : l.getD i d ∈ l := by
  simp [List.getD, h]
theorem bytesOf_range (s : ByteArray) : ∀ x ∈ bytesOf s, 0 ≤ x ∧ x ≤ 255 := by
  intro x hx
  simp only [bytesOf, List.mem_map] at hx
  obtain ⟨b, _, rfl⟩ := hx
  have := b.toNat_lt
  omega
theorem bt_lo (s : ByteArray) (i : Int) : 0 ≤ bt s i := (bt_range s i).1
theorem bt_hi (s : ByteArray) (i : Int) : bt s i ≤ 255 := (bt_range s i).2
theorem drop_eq {α : Type} [DecidableEq α] (d : α) (a b : List α) (i : Nat) (ha : i < a.length) (hb : i < b.length) : (a.drop i = b.drop i) ↔ (a.getD i d = b.getD i d ∧ a.drop (i + 1) = b.drop (i + 1)) := by
  rw [drop_cons d a i ha, drop_cons d b i hb]
  simp
theorem mark_step {α : Type} (d : α) (g : Nat → α) (l : List α) (i : Nat) (h : i < l.length) : ((List.range i).map g ++ l.drop i).set i (g i) = (List.range (i + 1)).map g ++ l.drop (i + 1) := by
  have hlen : ((List.range i).map g).length = i := by simp
  rw [List.set_append_right _ _ (by omega), hlen, Nat.sub_self, drop_cons d l i h, List.set_cons_zero, List.range_succ, List.map_append, List.append_assoc]
  rfl
theorem range_getD {α : Type} (d : α) (g : Nat → α) (n i : Nat) (h : i < n) : ((List.range n).map g).getD i d = g i := by
  simp [List.getD, h]
theorem copy_step {α : Type} (d : α) (l : List α) (i : Nat) (h : i < l.length) : (l.take i ++ List.replicate (l.length - i) d).set i (l.getD i d) = l.take (i + 1) ++ List.replicate (l.length - (i + 1)) d := by
  have hlen : (l.take i).length = i := by simp; omega
  rw [List.set_append_right _ _ (by omega), hlen, Nat.sub_self]
  obtain ⟨m, hm⟩ : ∃ m, l.length - i = m + 1 := ⟨l.length - i - 1, by omega⟩
  rw [hm, List.replicate_succ, List.set_cons_zero, List.take_succ_eq_append_getElem h, List.append_assoc]
  have : l.length - (i + 1) = m := by omega
  rw [this]
  simp [List.getD, h]

theorem getD_set_self {α : Type} (d : α) (l : List α) (i : Nat) (v : α) (h : i < l.length) : (l.set i v).getD i d = v := by
  simp [List.getD, h]
theorem rdPut_nat (xs : List S39) (i : Nat) : rd_T39 xs (i : Int) = xs.getD i z39 := by simp [rd_T39]

theorem rdLPut_nat (xs : List S110) (i : Nat) : rd_T110 xs (i : Int) = xs.getD i z110 := by simp [rd_T110]
def ofLPut (x : S110) : S39 := ⟨x.f0, x.f1⟩
theorem szPut_eq (a : Int) (s : ByteArray) (m : Int) (h0 : 0 ≤ m) (h1 : m ≤ 1048576) (hs : s.size ≤ maxLen) : laws_szPut.f a s m = some (if m - (s.size : Int) < 0 then -1 else m - (s.size : Int)) := by
  unfold maxLen at hs
  unfold laws_szPut.f
  rw [wrap_in (by omega) (by omega)]
  split <;> rfl
theorem szPutS_ev (l : List S110) (m : Int) (h0 : 0 ≤ m) (h1 : m ≤ 1048576) (hl : l.length ≤ maxLen) (hx : ∀ x ∈ l, x.f1.size ≤ maxLen) :
    ∃ r : Int, Ev (fun k => laws_szPutS.f k l m) r ∧ r ≤ m ∧ (0 ≤ r → (l.length : Int) ≤ m ∧ ∀ x ∈ l, (x.f1.size : Int) ≤ m) := by
  have hl' : l.length ≤ 9223372036854775807 := hl
  unfold laws_szPutS.f
  by_cases c : m - (l.length : Int) < 0
  · refine ⟨-1, ?_, by omega, by omega⟩
    rw [wrap_in (by omega) (by omega)]
    exact ev_pos c (Ev.now _)
  · rw [wrap_in (by omega) (by omega)]
    have key : ∀ (d i : Nat) (x : Int), i + d = l.length → 0 ≤ x → x ≤ m → (∀ j, j < i → ((l.getD j z110).f1.size : Int) ≤ m) →
        ∃ r : Int, Ev (fun k => laws_szPutS.l0 k l x (i : Int)) r ∧ r ≤ m ∧ (0 ≤ r → ∀ j, j < l.length → ((l.getD j z110).f1.size : Int) ≤ m) := by
      intro d
      induction d with
      | zero =>
        intro i x hi hx0 hx1 hj
        refine ⟨x, ev_shift ?_, hx1, fun _ => by rw [show l.length = i from by omega]; exact hj⟩
        simp only [laws_szPutS.l0]
        exact ev_neg (by omega) (Ev.now _)
      | succ d ih =>
        intro i x hi hx0 hx1 hj
        have hm := hx _ (getD_mem z110 l i (by omega))
        have hs := szPut_eq (l.getD i z110).f0 (l.getD i z110).f1 x hx0 (by omega) hm
        by_cases c2 : x - ((l.getD i z110).f1.size : Int) < 0
        · rw [if_pos c2] at hs
          refine ⟨-1, ev_shift ?_, by omega, by omega⟩
          simp only [laws_szPutS.l0]
          refine ev_pos (by omega) (ev_pos (by omega) ?_)
          simp only [rdLPut_nat, hs, Option.bind_some]
          exact ev_pos (by omega) (Ev.now _)
        · rw [if_neg c2] at hs
          obtain ⟨r, e, hr1, hr2⟩ := ih (i + 1) (x - ((l.getD i z110).f1.size : Int)) (by omega) (by omega) (by omega) (fun j hji => by
            by_cases e : j = i
            · subst e
              omega
            · exact hj j (by omega))
          refine ⟨r, ev_shift ?_, hr1, hr2⟩
          simp only [laws_szPutS.l0]
          refine ev_pos (by omega) (ev_pos (by omega) ?_)
          simp only [rdLPut_nat, hs, Option.bind_some]
          rw [wrap_nat (by omega)]
          exact ev_neg (by omega) e
    obtain ⟨r, e, hr1, hr2⟩ := key l.length 0 (m - (l.length : Int)) (by omega) (by omega) (by omega) (fun j hj => by omega)
    refine ⟨r, ev_neg c e, hr1, fun hr => ⟨by omega, fun x hx2 => ?_⟩⟩
    obtain ⟨j, hj, rfl⟩ := List.mem_iff_getElem.1 hx2
    have := hr2 hr j hj
    simpa [List.getD, hj] using this
theorem toPutS_ev (l : List S110) (h : l.length ≤ 1048576) : Ev (fun k => laws_toPutS.f k l) (l.map ofLPut) := by
  unfold laws_toPutS.f
  refine ev_pos (by omega) (ev_pos (by omega) ?_)
  have := ev_loop (fun k i => laws_toPutS.l0 k l ((l.map ofLPut).take i ++ List.replicate ((l.map ofLPut).length - i) z39) (i : Int)) (fun _ => l.map ofLPut) l.length ?_ ?_ 0 (Nat.zero_le _)
  · simpa using this
  · simp only [laws_toPutS.l0]
    refine ev_neg (by omega) ?_
    have e1 : (l.map ofLPut).length - l.length = 0 := by rw [List.length_map]; omega
    have e2 : (l.map ofLPut).take l.length = l.map ofLPut := List.take_of_length_le (by rw [List.length_map]; omega)
    rw [e1, e2, List.replicate_zero, List.append_nil]
    exact Ev.now _
  · intro i hi e
    simp only [laws_toPutS.l0, laws_toPut.f]
    refine ev_pos (by omega) (ev_pos (by omega) (ev_some (ev_pos (by simp; omega) ?_)))
    have hi2 : i < (l.map ofLPut).length := by rw [List.length_map]; exact hi
    have hs := copy_step z39 (l.map ofLPut) i hi2
    have hg : (l.map ofLPut).getD i z39 = ⟨(l.getD i z110).f0, (l.getD i z110).f1⟩ := by simp [List.getD, hi, ofLPut]
    rw [hg] at hs
    dsimp only
    simp only [rdLPut_nat]
    rw [wrap_nat (by omega), Int.toNat_natCast, hs]
    exact e

theorem eqPut_refl (a : Int) (s : ByteArray) : laws_eqPut.f a s a s = some true := by
  unfold laws_eqPut.f
  rw [if_pos rfl, if_pos rfl]
theorem eqPutS_refl (a : List S39) (h : a.length ≤ 140737488351232) : Ev (fun k => laws_eqPutS.f k a a) true := by
  unfold laws_eqPutS.f
  refine ev_pos rfl ?_
  have := ev_loop (fun k i => laws_eqPutS.l0 k a a (i : Int)) (fun _ => true) a.length ?_ ?_ 0 (Nat.zero_le _)
  · exact this
  · simp only [laws_eqPutS.l0]
    exact ev_neg (by omega) (Ev.now _)
  · intro i hi e
    simp only [laws_eqPutS.l0]
    refine ev_pos (by omega) (ev_pos (by omega) (ev_pos (by omega) (ev_eq (eqPut_refl _ _) (ev_pos rfl ?_))))
    rw [wrap_nat (by omega)]
    exact e

def txGo (n : Int) : Int → List S39 → Bool
  | _, [] => true
  | last, w :: l => decide (last + 1 ≤ w.f0 ∧ w.f0 ≤ n - 1) && (decide (w.f1.size ≤ 90) && txGo n w.f0 l)
def txOk (n : Int) (l : List S39) : Bool := decide (1 ≤ n ∧ n ≤ 48) && (!l.isEmpty && txGo n (-1) l)
def putsOk (n : Int) (l : List S39) : Bool := l.all fun w => decide (0 ≤ w.f0 ∧ w.f0 ≤ n - 1) && decide (w.f1.size ≤ 90)
def incGo : Int → List S39 → Bool
  | _, [] => true
  | last, w :: l => decide (last < w.f0) && incGo w.f0 l
theorem txGo_eq (n : Int) (l : List S39) : ∀ last : Int, -1 ≤ last → txGo n last l = (putsOk n l && incGo last l) := by
  induction l with
  | nil => intro last _; rfl
  | cons w l ih =>
    intro last hl
    rw [txGo, incGo, putsOk, List.all_cons]
    by_cases h : last + 1 ≤ w.f0 ∧ w.f0 ≤ n - 1
    · rw [ih w.f0 (by omega), putsOk, decide_eq_true h, decide_eq_true (show last < w.f0 by omega), decide_eq_true (show 0 ≤ w.f0 ∧ w.f0 ≤ n - 1 by omega)]
      cases decide (w.f1.size ≤ 90) <;> simp
    · rw [decide_eq_false h]
      by_cases h2 : last < w.f0
      · rw [decide_eq_false (show ¬ (0 ≤ w.f0 ∧ w.f0 ≤ n - 1) by omega)]
        simp
      · rw [decide_eq_false h2]
        simp
theorem decide_within (a lo hi : Int) : impl_within.f a lo hi = some (decide (lo ≤ a ∧ a ≤ hi)) := by
  unfold impl_within.f
  by_cases h : a ≥ lo
  · rw [if_pos h]
    congr 1
    rw [decide_eq_decide]
    omega
  · rw [if_neg h]
    congr 1
    symm
    rw [decide_eq_false_iff_not]
    omega

theorem impl_txOk_l (n : Int) (l : List S39) (hn : 1 ≤ n ∧ n ≤ 48) (hl : l.length ≤ 140737488351232) (hw : ∀ x ∈ l, (Lit.int .i64 x.f0).wf = true) (d : Nat) : ∀ (i : Nat) (last : Int), i + d = l.length → -1 ≤ last → last ≤ 48 →
    Ev (fun k => impl_TxOk.l0 k n last l (l.length : Int) (i : Int)) (txGo n last (l.drop i)) := by
  induction d with
  | zero =>
    intro i last hi h0 h1
    apply ev_shift
    simp only [impl_TxOk.l0]
    refine ev_neg (by omega) (ev_cast (Ev.now _) ?_)
    rw [List.drop_eq_nil_of_le (by omega)]
    rfl
  | succ d ih =>
    intro i last hi h0 h1
    apply ev_shift
    simp only [impl_TxOk.l0]
    refine ev_pos (by omega) (ev_pos (by omega) (ev_pos (by omega) ?_))
    rw [wrap_nat (by omega), rdPut_nat, wrap_in (x := last + 1) (by omega) (by omega), wrap_in (x := n - 1) (by omega) (by omega), drop_cons z39 l i (by omega), txGo]
    refine ev_eq (decide_within _ _ _) ?_
    by_cases c : last + 1 ≤ (l.getD i z39).f0 ∧ (l.getD i z39).f0 ≤ n - 1
    · rw [decide_eq_true c]
      refine ev_pos rfl (ev_eq rfl ?_)
      by_cases c2 : (l.getD i z39).f1.size ≤ 90
      · rw [decide_eq_true c2]
        refine ev_pos (decide_eq_true (by omega)) (ev_cast (ih (i + 1) _ (by omega) (by omega) (by omega)) ?_)
        simp
      · rw [decide_eq_false c2]
        refine ev_neg (fun z => c2 (by have := of_decide_eq_true z; omega)) (ev_cast (Ev.now _) ?_)
        simp
    · rw [decide_eq_false c]
      exact ev_neg (by simp) (ev_cast (Ev.now _) (by simp))
theorem impl_TxOk_ev (n : Int) (l : List S39) (hl : l.length ≤ 140737488351232) (hw : ∀ x ∈ l, (Lit.int .i64 x.f0).wf = true) : Ev (fun k => impl_TxOk.f k n l) (txOk n l) := by
  unfold impl_TxOk.f txOk
  refine ev_eq (decide_within _ _ _) ?_
  by_cases c : 1 ≤ n ∧ n ≤ 48
  · rw [decide_eq_true c]
    refine ev_pos rfl (ev_shift ?_)
    simp only [impl_TxOk.j0]
    cases l with
    | nil => exact ev_pos rfl (Ev.now _)
    | cons w r =>
      refine ev_neg (by simp; omega) (ev_cast (impl_txOk_l n (w :: r) c hl hw (w :: r).length 0 (-1) (by omega) (by omega) (by omega)) ?_)
      simp
  · rw [decide_eq_false c]
    refine ev_neg (by simp) (ev_shift ?_)
    simp only [impl_TxOk.j0]
    exact ev_pos trivial (Ev.now _)

theorem decide_l1In (a lo hi : Int) : spec_l1In.f a lo hi = some (decide (lo ≤ a ∧ a ≤ hi)) := by
  unfold spec_l1In.f
  by_cases h : a ≥ lo
  · rw [if_pos h]
    congr 1
    rw [decide_eq_decide]
    omega
  · rw [if_neg h]
    congr 1
    symm
    rw [decide_eq_false_iff_not]
    omega
theorem spec_putsOk_ev (n : Int) (l : List S39) (hn : 0 ≤ n ∧ n ≤ 9223372036854775807) (hl : l.length ≤ 140737488351232) : Ev (fun k => spec_l3PutsOk.f k l n) (putsOk n l) := by
  unfold spec_l3PutsOk.f
  have := ev_loop (fun k i => spec_l3PutsOk.l0 k l n (i : Int)) (fun i => putsOk n (l.drop i)) l.length ?_ ?_ 0 (Nat.zero_le _)
  · exact this
  · simp only [spec_l3PutsOk.l0]
    refine ev_neg (by omega) (ev_cast (Ev.now _) ?_)
    rw [List.drop_length]
    rfl
  · intro i hi e
    simp only [spec_l3PutsOk.l0]
    refine ev_pos (by omega) (ev_pos (by omega) (ev_eq (decide_l1In _ _ _) ?_))
    rw [wrap_nat (by omega), rdPut_nat, wrap_in (x := n - 1) (by omega) (by omega), drop_cons z39 l i hi, putsOk, List.all_cons]
    by_cases c : 0 ≤ (l.getD i z39).f0 ∧ (l.getD i z39).f0 ≤ n - 1
    · rw [decide_eq_true c]
      refine ev_pos rfl ?_
      by_cases c2 : (l.getD i z39).f1.size ≤ 90
      · refine ev_neg (by omega) (ev_cast e ?_)
        rw [decide_eq_true c2]
        simp [putsOk]
      · refine ev_pos (by omega) (ev_cast (Ev.now _) ?_)
        rw [decide_eq_false c2]
        simp
    · rw [decide_eq_false c]
      exact ev_neg (by simp) (ev_cast (Ev.now _) (by simp))
theorem spec_incr_l (l : List S39) (hl : l.length ≤ 140737488351232) (hne : 0 < l.length) : Ev (fun k => spec_TxOk.l0 k l 1) (incGo (l.getD 0 z39).f0 (l.drop 1)) := by
  have key : ∀ (d i : Nat), i + 1 + d = l.length → Ev (fun k => spec_TxOk.l0 k l ((i + 1 : Nat) : Int)) (incGo (l.getD i z39).f0 (l.drop (i + 1))) := by
    intro d
    induction d with
    | zero =>
      intro i hi
      apply ev_shift
      simp only [spec_TxOk.l0]
      refine ev_neg (by omega) (ev_cast (Ev.now _) ?_)
      rw [List.drop_eq_nil_of_le (by omega)]
      rfl
    | succ d ih =>
      intro i hi
      apply ev_shift
      simp only [spec_TxOk.l0]
      have e1 : wrap64 (((i + 1 : Nat) : Int) - 1) = (i : Int) := by rw [wrap_in (by omega) (by omega)]; omega
      rw [e1, wrap_nat (by omega), rdPut_nat, rdPut_nat, drop_cons z39 l (i + 1) (by omega), incGo]
      refine ev_pos (by omega) (ev_pos (by omega) (ev_pos (by omega) (ev_pos (by omega) ?_)))
      by_cases c : (l.getD i z39).f0 < (l.getD (i + 1) z39).f0
      · refine ev_neg (by omega) (ev_cast (ih (i + 1) (by omega)) ?_)
        rw [decide_eq_true c]
        simp
      · refine ev_pos (by omega) (ev_cast (Ev.now _) ?_)
        rw [decide_eq_false c]
        simp
  exact key (l.length - 1) 0 (by omega)
theorem spec_TxOk_ev (n : Int) (l : List S39) (hl : l.length ≤ 140737488351232) : Ev (fun k => spec_TxOk.f k n l) (txOk n l) := by
  unfold spec_TxOk.f txOk
  refine ev_eq (decide_l1In _ _ _) ?_
  by_cases c : 1 ≤ n ∧ n ≤ 48
  · rw [decide_eq_true c, txGo_eq n l (-1) (by omega)]
    refine ev_pos rfl ?_
    cases l with
    | nil =>
      refine ev_pos rfl (ev_shift ?_)
      simp only [spec_TxOk.j0]
      exact ev_pos trivial (Ev.now _)
    | cons w r =>
      refine ev_neg (by simp; omega) (Ev.bind (spec_putsOk_ev n (w :: r) (by omega) hl) (ev_shift ?_))
      simp only [spec_TxOk.j0]
      cases hp : putsOk n (w :: r) with
      | false => exact ev_pos rfl (ev_cast (Ev.now _) (by simp))
      | true =>
        refine ev_neg (by simp) (ev_cast (spec_incr_l (w :: r) hl (by simp)) ?_)
        have hw : 0 ≤ w.f0 := by
          have h2 := hp
          rw [putsOk, List.all_cons] at h2
          simp at h2
          omega
        rw [incGo, decide_eq_true (show -1 < w.f0 by omega)]
        simp
  · rw [decide_eq_false c]
    refine ev_neg (by simp) (ev_shift ?_)
    simp only [spec_TxOk.j0]
    exact ev_pos trivial (Ev.now _)

theorem FnExactTxOk : laws_FnExactTxOk.Pure := by
  intro n l hn hg
  obtain ⟨hl, hx⟩ := hg
  apply Ev.rounds (g := fun k => laws_FnExactTxOk.f k n l)
  unfold laws_FnExactTxOk.f
  obtain ⟨r, er, _, hr⟩ := szPutS_ev l 1048576 (by omega) (by omega) hl (fun x hx2 => (hx x hx2).2)
  by_cases c : r < 0
  · exact Ev.bind er (ev_pos c (Ev.now _))
  · obtain ⟨h1, h2⟩ := hr (by omega)
    have hlen : l.length ≤ 1048576 := by omega
    have ht := toPutS_ev l hlen
    have hlm : (l.map ofLPut).length ≤ 140737488351232 := by rw [List.length_map]; omega
    have hw : ∀ x ∈ l.map ofLPut, (Lit.int .i64 x.f0).wf = true := by
      intro x hx2
      rw [List.mem_map] at hx2
      obtain ⟨y, hy, rfl⟩ := hx2
      exact (hx y hy).1
    refine Ev.bind er (ev_neg c (Ev.bind ht (Ev.bind (spec_TxOk_ev n _ hlm) (Ev.bind ht (Ev.bind (impl_TxOk_ev n _ hlm hw) (ev_neg (by simp) ?_))))))
    exact Ev.bind ht (Ev.bind (eqPutS_refl _ hlm) (ev_pos rfl (Ev.now _)))

end Go.Proofs.Ytiigjgdnpmpplaa.Pure
