/- FnExactFsNew: the law's function of the print answers true for every input within the row's bounds. Conditions: none but the bounds that the row itself gives. -/
import Derived.Test.YtadfimhielcmmaaPFnExactFsNewx5
import Derived.OpenShut
import Derived.Laws.BitsLemmas
namespace Go.Proofs.Ytadfimhielcmmaa.Pure
open Go Go.RowKit Go.Proofs.Ytadfimhielcmmaa.PFnExactFsNew Go.Proofs.YtadfimhielcmmaaW.PrintWords Go.Proofs.YtadfimhielcmmaaW.PrintLast Go.Proofs.YtadfimhielcmmaaW.PrintMore Go.Proofs.YtadfimhielcmmaaW.PrintMore
set_option linter.unusedVariables false
set_option linter.unusedSimpArgs false

theorem eqNode33 (x : S33) (y : S33) (h : x = y) : laws_eqNode.f x.f0 x.f1 x.f2 x.f3 x.f4 y.f0 y.f1 y.f2 y.f3 y.f4 = some true := by
  subst h
  unfold laws_eqNode.f laws_eqIntS.f
  rw [if_pos rfl, if_pos rfl, if_pos rfl, if_pos rfl]
  rfl
theorem ev_eq {α β : Type} {o : Option α} {a : α} {f : Nat → α → Option β} {r : β} (h : o = some a) (e : Ev (fun k => f k a) r) : Ev (fun k => o.bind (f k)) r := by
  subst h
  exact e
theorem ev_shift {α : Type} {g : Nat → Option α} {r : α} (h : Ev (fun k => g (k + 1)) r) : Ev g r := Ev.step (f := fun k => g (k + 1)) (fun _ => rfl) h
theorem ev_loop {ρ : Type} (L : Nat → Nat → Option ρ) (res : Nat → ρ) (n : Nat) (he : Ev (fun k => L (k + 1) n) (res n))
    (hs : ∀ i, i < n → Ev (fun k => L k (i + 1)) (res (i + 1)) → Ev (fun k => L (k + 1) i) (res i)) : ∀ i, i ≤ n → Ev (fun k => L k i) (res i) := by
  have key : ∀ d i, i + d = n → Ev (fun k => L k i) (res i) := by
    intro d
    induction d with
    | zero =>
      intro i h
      obtain rfl : i = n := by omega
      exact ev_shift he
    | succ d ih =>
      intro i h
      exact ev_shift (hs i (by omega) (ih (i + 1) (by omega)))
  intro i h
  exact key (n - i) i (by omega)
theorem ev_neg {α : Type} {c : Prop} [Decidable c] {f g : Nat → Option α} {r : α} (h : ¬ c) (e : Ev g r) : Ev (fun k => if c then f k else g k) r := by
  simpa only [if_neg h] using e
theorem ev_pos {α : Type} {c : Prop} [Decidable c] {f g : Nat → Option α} {r : α} (h : c) (e : Ev f r) : Ev (fun k => if c then f k else g k) r := by
  simpa only [if_pos h] using e
theorem wrap_nat {i : Nat} (h : i < 9223372036854775807) : wrap64 ((i : Int) + 1) = ((i + 1 : Nat) : Int) := by
  unfold wrap64
  omega
theorem eqNodeS33_ev (a : List S33) (h : a.length ≤ 140737488351232) : Ev (fun k => laws_eqNodeS.f k a a) true := by
  unfold laws_eqNodeS.f
  refine ev_pos rfl ?_
  refine ev_loop (fun k i => laws_eqNodeS.l0 k a a (i : Int)) (fun _ => true) a.length ?_ ?_ 0 (Nat.zero_le _)
  · simp only [laws_eqNodeS.l0]
    exact ev_neg (by omega) (Ev.now _)
  · intro i hi e
    simp only [laws_eqNodeS.l0]
    refine ev_pos (by omega) (ev_pos (by omega) (ev_pos (by omega) (ev_eq (eqNode33 _ _ rfl) (ev_pos rfl ?_))))
    rw [wrap_nat (by omega)]
    exact e
theorem drop_cons {α : Type} (d : α) (l : List α) (i : Nat) (h : i < l.length) : l.drop i = l.getD i d :: l.drop (i + 1) := by
  rw [List.drop_eq_getElem_cons h]
  simp [List.getD, h]
theorem drop_eq {α : Type} [DecidableEq α] (d : α) (a b : List α) (i : Nat) (ha : i < a.length) (hb : i < b.length) : (a.drop i = b.drop i) ↔ (a.getD i d = b.getD i d ∧ a.drop (i + 1) = b.drop (i + 1)) := by
  rw [drop_cons d a i ha, drop_cons d b i hb]
  simp
theorem ev_cast {α : Type} {g : Nat → Option α} {r r' : α} (h : Ev g r) (e : r = r') : Ev g r' := e ▸ h
theorem rdOf_nat {α : Type} (d : α) (xs : List α) (i : Nat) : rdOf d xs (i : Int) = xs.getD i d := by simp [rdOf]
theorem toList_inj {a b : ByteArray} : a.toList = b.toList ↔ a = b := by
  constructor
  · intro h
    have h' := h
    rw [ByteArray.toList_eq, ByteArray.toList_eq] at h'
    cases a
    cases b
    simp only [ByteArray.mk.injEq]
    exact Array.toList_inj.mp h'
  · intro h
    rw [h]
theorem eqStringS_ev (a b : List ByteArray) (h : a.length ≤ 140737488351232) : Ev (fun k => laws_eqStringS.f k a b) (decide (a = b)) := by
  unfold laws_eqStringS.f
  by_cases hl : a.length = b.length
  · refine ev_pos (by omega) ?_
    have := ev_loop (fun k i => laws_eqStringS.l0 k a b (i : Int)) (fun i => decide (a.drop i = b.drop i)) a.length ?_ ?_ 0 (Nat.zero_le _)
    · exact this
    · simp only [laws_eqStringS.l0]
      refine ev_neg (by omega) ?_
      refine ev_cast (Ev.now _) ?_
      rw [List.drop_length, hl, List.drop_length]
      simp
    · intro i hi e
      simp only [laws_eqStringS.l0]
      refine ev_pos (by omega) (ev_pos (by omega) (ev_pos (by omega) ?_))
      rw [wrap_nat (by omega), rdOf_nat, rdOf_nat]
      by_cases hc : a.getD i ByteArray.empty = b.getD i ByteArray.empty
      · refine ev_pos (toList_inj.mpr hc) (ev_cast e ?_)
        rw [decide_eq_decide, drop_eq ByteArray.empty a b i hi (by omega)]
        exact ⟨fun z => ⟨hc, z⟩, fun z => z.2⟩
      · refine ev_neg (fun z => hc (toList_inj.mp z)) (ev_cast (Ev.now _) ?_)
        symm
        rw [decide_eq_false_iff_not, drop_eq ByteArray.empty a b i hi (by omega)]
        exact fun z => hc z.1
  · refine ev_neg (by omega) (ev_cast (Ev.now _) ?_)
    symm
    rw [decide_eq_false_iff_not]
    exact fun z => hl (by rw [z])
def freshFs (n d : Int) : List S33 × List ByteArray × Bool := if 2 ≤ n ∧ n ≤ 10 ∧ 1 ≤ d ∧ d ≤ 36 then ((List.replicate n.toNat z33).set 0 ⟨2, 0, 0, 0, 0⟩, List.replicate d.toNat (⟨#[]⟩ : ByteArray), true) else ([], [], false)
theorem freshFs_len (n d : Int) : (freshFs n d).1.length ≤ 10 ∧ (freshFs n d).2.1.length ≤ 36 := by
  unfold freshFs
  split
  · simp only [List.length_set, List.length_replicate]
    omega
  · simp
theorem ev_some {α β : Type} {a : α} {f : Nat → α → Option β} {r : β} (e : Ev (fun k => f k a) r) : Ev (fun k => (some a).bind (f k)) r := e
def mkN (m : Int) (l : List S33) (j : Nat) : S33 := ⟨m + 4 * (j : Int), m + 4 * (j : Int) + 1, m + 4 * (j : Int) + 2, m + 4 * (j : Int) + 3, (l.getD j z33).f4⟩
theorem range_getD {α : Type} (d : α) (g : Nat → α) (n i : Nat) (h : i < n) : ((List.range n).map g).getD i d = g i := by
  simp [List.getD, h]
theorem rd33_nat (xs : List S33) (i : Nat) : rd_T33 xs (i : Int) = xs.getD i z33 := by
  unfold rd_T33
  rw [Int.toNat_natCast]
theorem wrap_up {i : Int} (h0 : 0 ≤ i) (h : i < 9223372036854775807) : wrap64 (i + 1) = i + 1 := by
  unfold wrap64
  omega
theorem wrap4 (m : Int) (i : Nat) (h0 : 0 ≤ m) (h1 : m ≤ 1000) (hi : i ≤ 1000) : wrap64 (m + 4 * (i : Int) + 1) = m + 4 * (i : Int) + 1 ∧ wrap64 (m + 4 * (i : Int) + 1 + 1) = m + 4 * (i : Int) + 2 ∧ wrap64 (m + 4 * (i : Int) + 2 + 1) = m + 4 * (i : Int) + 3 ∧ wrap64 (m + 4 * (i : Int) + 3 + 1) = m + 4 * ((i + 1 : Nat) : Int) := by
  refine ⟨wrap_up (by omega) (by omega), ?_, ?_, ?_⟩
  · rw [wrap_up (i := m + 4 * (i : Int) + 1) (by omega) (by omega)]
    omega
  · rw [wrap_up (i := m + 4 * (i : Int) + 2) (by omega) (by omega)]
    omega
  · rw [wrap_up (i := m + 4 * (i : Int) + 3) (by omega) (by omega)]
    omega
theorem heldNodeS33_ev (l : List S33) (n : Nat) (m : Int) (h : n ≤ 1000) (h0 : 0 ≤ m) (h1 : m ≤ 1000) :
    Ev (fun k => laws_heldNodeS.f k ((List.range n).map (mkN m l)) m) (m + 4 * n) := by
  unfold laws_heldNodeS.f
  have := ev_loop (fun k i => laws_heldNodeS.l0 k ((List.range n).map (mkN m l)) (m + 4 * (i : Int)) (i : Int)) (fun _ => m + 4 * (n : Int)) n ?_ ?_ 0 (Nat.zero_le _)
  · simpa using this
  · simp only [laws_heldNodeS.l0]
    refine ev_neg (by simp) ?_
    exact Ev.now _
  · intro i hi e
    simp only [laws_heldNodeS.l0]
    obtain ⟨w1, w2, w3, w4⟩ := wrap4 m i h0 h1 (by omega)
    rw [w1, w2, w3, w4, rd33_nat, range_getD z33 (mkN m l) n i hi]
    unfold laws_heldIntS.f
    refine ev_pos (by simp; omega) (ev_pos (by omega) (ev_pos rfl (ev_pos rfl (ev_pos rfl (ev_pos rfl (ev_some (ev_neg (by omega) ?_)))))))
    rw [wrap_nat (by omega)]
    exact e
theorem strOfNums_size (l : List Int) : (strOfNums l).size = l.length := by
  simp [strOfNums, ByteArray.size]
theorem wrap_in {x : Int} (h0 : -9223372036854775808 ≤ x) (h1 : x ≤ 9223372036854775807) : wrap64 x = x := by
  unfold wrap64
  omega
theorem markText_l (n : Nat) : ∀ acc : ByteArray, acc.size + n ≤ 4000000000000000000 → ∃ t, Ev (fun k => laws_markText.l0 k (n : Int) acc) t := by
  induction n using Nat.strongRecOn with
  | _ n ih =>
    intro acc ha
    by_cases h : 0 < n
    · have e1 : wrap64 (Int.tdiv (n : Int) 10) = ((n / 10 : Nat) : Int) := by rw [Int.tdiv_eq_ediv_of_nonneg (by omega), wrap_in (by omega) (by omega)]; omega
      obtain ⟨t, ht⟩ := ih (n / 10) (by omega) (strOfNums [(wrap64 (48 + (Int.tmod (n : Int) 10))) % 256] ++ acc) (by rw [ByteArray.size_append, strOfNums_size]; simp only [List.length_cons, List.length_nil]; omega)
      refine ⟨t, ?_⟩
      apply ev_shift
      simp only [laws_markText.l0]
      refine ev_pos (by omega) (ev_some (ev_pos (by rw [strOfNums_size]; simp only [List.length_cons, List.length_nil]; omega) ?_))
      rw [e1]
      exact ht
    · refine ⟨(⟨#[109]⟩ : ByteArray) ++ acc, ?_⟩
      apply ev_shift
      simp only [laws_markText.l0]
      exact ev_neg (by omega) (ev_pos (by omega) (Ev.now _))
theorem markText_any (m : Int) (h : m ≤ 1000000000000000000) : ∃ t, Ev (fun k => laws_markText.f k m) t := by
  unfold laws_markText.f
  by_cases h0 : m ≤ 0
  · exact ⟨_, ev_pos h0 (Ev.now _)⟩
  · obtain ⟨n, rfl⟩ := Int.eq_ofNat_of_zero_le (show 0 ≤ m by omega)
    obtain ⟨t, ht⟩ := markText_l n (⟨#[]⟩ : ByteArray) (by simp only [ByteArray.size, List.size_toArray, List.length_nil]; omega)
    exact ⟨t, ev_neg h0 ht⟩
noncomputable def markText (m : Int) : ByteArray := if h : m ≤ 1000000000000000000 then Classical.choose (markText_any m h) else ByteArray.empty
theorem markText_ev (m : Int) (h : m ≤ 1000000000000000000) : Ev (fun k => laws_markText.f k m) (markText m) := by
  unfold markText
  rw [dif_pos h]
  exact Classical.choose_spec (markText_any m h)
theorem heldStringS_ev (n : Nat) (m : Int) (h : n ≤ 140737488351232) (h0 : 0 ≤ m) (h1 : m ≤ 100000000000000000) :
    Ev (fun k => laws_heldStringS.f k ((List.range n).map fun j : Nat => markText (m + (j : Int))) m) (m + n) := by
  unfold laws_heldStringS.f
  have := ev_loop (fun k i => laws_heldStringS.l0 k ((List.range n).map fun j : Nat => markText (m + (j : Int))) (m + (i : Int)) (i : Int)) (fun _ => m + n) n ?_ ?_ 0 (Nat.zero_le _)
  · simpa using this
  · simp only [laws_heldStringS.l0]
    refine ev_neg (by simp) ?_
    exact Ev.now _
  · intro i hi e
    simp only [laws_heldStringS.l0]
    refine ev_pos (by simp; omega) (ev_pos (by omega) (Ev.bind (markText_ev _ (by omega)) (ev_pos ?_ ?_)))
    · rw [rdOf_nat, range_getD ByteArray.empty _ n i hi]
    · rw [wrap_nat (by omega), wrap_up (by omega) (by omega)]
      have e1 : m + (i : Int) + 1 = m + ((i + 1 : Nat) : Int) := by omega
      rw [e1]
      exact e
theorem decide_within (a lo hi : Int) : impl_within.f a lo hi = some (decide (lo ≤ a ∧ a ≤ hi)) := by
  unfold impl_within.f
  by_cases h : a ≥ lo
  · rw [if_pos h]
    congr 1
    rw [decide_eq_decide]
    omega
  · rw [if_neg h]
    congr 1
    symm
    rw [decide_eq_false_iff_not]
    omega
theorem replicate_rd (n : Nat) (h : 0 < n) : rd_T33 (List.replicate n z33) 0 = z33 := by
  unfold rd_T33
  rw [List.getD_eq_getElem?_getD]
  simp [h]
theorem impl_FsNew_val (n d : Int) : impl_FsNew.f n d = some (freshFs n d) := by
  unfold impl_FsNew.f freshFs
  rw [decide_within, decide_within]
  simp only [Option.bind_some, decide_eq_true_eq]
  by_cases h1 : 2 ≤ n ∧ n ≤ 10
  · rw [if_pos h1]
    by_cases h2 : 1 ≤ d ∧ d ≤ 36
    · rw [if_pos h2, if_pos (by omega), if_pos (by omega), if_pos (by omega), if_pos (by omega), if_pos (by rw [List.length_replicate]; omega), if_pos (by omega), replicate_rd _ (by omega)]
      rfl
    · rw [if_neg h2, if_neg (by omega)]
  · rw [if_neg h1, if_neg (by omega)]
theorem getD_set_self {α : Type} (d : α) (l : List α) (i : Nat) (v : α) (h : i < l.length) : (l.set i v).getD i d = v := by
  simp [List.getD, h]
theorem mark_step {α : Type} (d : α) (g : Nat → α) (l : List α) (i : Nat) (h : i < l.length) : ((List.range i).map g ++ l.drop i).set i (g i) = (List.range (i + 1)).map g ++ l.drop (i + 1) := by
  have hlen : ((List.range i).map g).length = i := by simp
  rw [List.set_append_right _ _ (by omega), hlen, Nat.sub_self, drop_cons d l i h, List.set_cons_zero, List.range_succ, List.map_append, List.append_assoc]
  rfl
theorem mkN_at (f : Nat → S33) (l : List S33) (i : Nat) : ((List.range i).map f ++ l.drop i).getD i z33 = l.getD i z33 := by
  rw [List.getD_eq_getElem?_getD, List.getElem?_append_right (by simp), List.length_map, List.length_range, Nat.sub_self, List.getElem?_drop, Nat.add_zero, ← List.getD_eq_getElem?_getD]
theorem markNodeS33_ev (l : List S33) (m : Int) (h : l.length ≤ 1000) (h0 : 0 ≤ m) (h1 : m ≤ 1000) :
    Ev (fun k => laws_markNodeS.f k l m) (m + 4 * l.length, (List.range l.length).map (mkN m l)) := by
  unfold laws_markNodeS.f
  have := ev_loop (fun k i => laws_markNodeS.l0 k ((List.range i).map (mkN m l) ++ l.drop i) (m + 4 * (i : Int)) (i : Int)) (fun _ => (m + 4 * (l.length : Int), (List.range l.length).map (mkN m l))) l.length ?_ ?_ 0 (Nat.zero_le _)
  · simpa using this
  · simp only [laws_markNodeS.l0]
    refine ev_neg (by simp) ?_
    simp only [List.drop_length, List.append_nil]
    exact Ev.now _
  · intro i hi e
    simp only [laws_markNodeS.l0]
    have hlen : i < ((List.range i).map (mkN m l) ++ l.drop i).length := by simp; omega
    obtain ⟨w1, w2, w3, w4⟩ := wrap4 m i h0 h1 (by omega)
    refine ev_pos (by simp; omega) (ev_pos (by omega) (ev_some (ev_some (ev_some (ev_some ?_)))))
    unfold laws_markIntS.f
    refine ev_some ?_
    rw [w1, w2, w3, w4]
    simp only [rd33_nat, Int.toNat_natCast]
    have g : ∀ (ys : List S33) (v : S33), i < ys.length → (ys.set i v).getD i z33 = v := fun ys v hy => getD_set_self _ _ _ _ hy
    have hL : ∀ v : S33, i < (((List.range i).map (mkN m l) ++ l.drop i).set i v).length := fun v => by rw [List.length_set]; exact hlen
    simp only [g _ _ hlen, List.set_set, mkN_at]
    have hs := mark_step z33 (mkN m l) l i hi
    simp only [mkN] at hs
    rw [wrap_nat (by omega), hs]
    exact e
theorem markStringS_ev (l : List ByteArray) (m : Int) (h : l.length ≤ 140737488351232) (h0 : 0 ≤ m) (h1 : m ≤ 100000000000000000) :
    Ev (fun k => laws_markStringS.f k l m) (m + l.length, (List.range l.length).map fun j : Nat => markText (m + (j : Int))) := by
  unfold laws_markStringS.f
  have := ev_loop (fun k i => laws_markStringS.l0 k ((List.range i).map (fun j : Nat => markText (m + (j : Int))) ++ l.drop i) (m + (i : Int)) (i : Int)) (fun _ => (m + l.length, (List.range l.length).map fun j : Nat => markText (m + (j : Int)))) l.length ?_ ?_ 0 (Nat.zero_le _)
  · simpa using this
  · simp only [laws_markStringS.l0]
    refine ev_neg (by simp) ?_
    simp only [List.drop_length, List.append_nil]
    exact Ev.now _
  · intro i hi e
    simp only [laws_markStringS.l0]
    refine ev_pos (by simp; omega) (Ev.bind (markText_ev _ (by omega)) (ev_pos (by omega) ?_))
    rw [wrap_nat (by omega), Int.toNat_natCast, mark_step ByteArray.empty (fun j : Nat => markText (m + (j : Int))) l i hi, wrap_up (by omega) (by omega)]
    have e1 : m + (i : Int) + 1 = m + ((i + 1 : Nat) : Int) := by omega
    rw [e1]
    exact e
theorem decide_l1In (a lo hi : Int) : spec_l1In.f a lo hi = some (decide (lo ≤ a ∧ a ≤ hi)) := by
  unfold spec_l1In.f
  by_cases h : a ≥ lo
  · rw [if_pos h]
    congr 1
    rw [decide_eq_decide]
    omega
  · rw [if_neg h]
    congr 1
    symm
    rw [decide_eq_false_iff_not]
    omega
theorem spec_FsNew_val (n d : Int) : spec_FsNew.f n d = some (freshFs n d) := by
  unfold spec_FsNew.f freshFs
  rw [decide_l1In, decide_l1In]
  simp only [Option.bind_some, decide_eq_true_eq]
  by_cases h1 : 2 ≤ n ∧ n ≤ 10
  · rw [if_pos h1]
    by_cases h2 : 1 ≤ d ∧ d ≤ 36
    · rw [if_pos h2, if_pos (by omega), if_pos (by omega), if_pos (by omega), if_pos (by omega), if_pos (by rw [List.length_replicate]; omega), if_pos (by omega), replicate_rd _ (by omega)]
      rfl
    · rw [if_neg h2, if_neg (by omega)]
  · rw [if_neg h1, if_neg (by omega)]
theorem FnExactFsNew : laws_FnExactFsNew.Pure := by
  intro n d _ _
  apply Ev.rounds (g := fun k => laws_FnExactFsNew.f k n d)
  obtain ⟨hn, hd⟩ := freshFs_len n d
  have hs := spec_FsNew_val n d
  have hi := impl_FsNew_val n d
  generalize freshFs n d = v at hn hd hs hi
  obtain ⟨ns, ds, b⟩ := v
  dsimp only at hn hd
  have eq : Ev (fun k => laws_eqFs.f k ns ds ns ds) true := by
    unfold laws_eqFs.f
    refine Ev.bind (eqNodeS33_ev ns (by omega)) (ev_pos rfl (Ev.bind (eqStringS_ev ds ds (by omega)) (ev_pos (by simp) (Ev.now _))))
  have mk := markNodeS33_ev ns 1 (by omega) (by omega) (by omega)
  have mk2 := markStringS_ev ds (1 + 4 * (ns.length : Int)) (by omega) (by omega) (by omega)
  have mkF : Ev (fun k => laws_markFs.f k ns ds 1) (1 + 4 * (ns.length : Int) + ds.length, (List.range ns.length).map (mkN 1 ns), (List.range ds.length).map fun j : Nat => markText (1 + 4 * (ns.length : Int) + (j : Int))) := by
    unfold laws_markFs.f
    exact Ev.bind mk (Ev.bind mk2 (Ev.now _))
  have hd1 := heldNodeS33_ev ns ns.length 1 (by omega) (by omega) (by omega)
  have hd2 := heldStringS_ev ds.length (1 + 4 * (ns.length : Int)) (by omega) (by omega) (by omega)
  have hdF : Ev (fun k => laws_heldFs.f k ((List.range ns.length).map (mkN 1 ns)) ((List.range ds.length).map fun j : Nat => markText (1 + 4 * (ns.length : Int) + (j : Int))) 1) (1 + 4 * (ns.length : Int) + ds.length) := by
    unfold laws_heldFs.f
    exact Ev.bind hd1 (ev_neg (by omega) (Ev.bind hd2 (ev_neg (by omega) (Ev.now _))))
  unfold laws_FnExactFsNew.f
  refine ev_eq hs (ev_eq hi (Ev.bind eq (ev_pos rfl ?_)))
  apply ev_shift
  simp only [laws_FnExactFsNew.j0]
  refine ev_neg (by simp) (Ev.bind mkF (Ev.bind hdF (ev_neg (by omega) (ev_pos rfl (ev_eq hi (Ev.bind eq (ev_pos rfl ?_)))))))
  apply ev_shift
  simp only [laws_FnExactFsNew.j1]
  exact ev_neg (by simp) (Ev.bind hdF (ev_neg (by omega) (ev_pos rfl (Ev.now _))))
end Go.Proofs.Ytadfimhielcmmaa.Pure
