/- FnExactDiskNew: the law's function of the print answers true for every input within the row's bounds. Conditions: none but the bounds that the row itself gives. -/
import Derived.Test.YtiigjgdnpmpplaaPFnExactDiskNewx4
import Derived.OpenShut
import Derived.Laws.BitsLemmas
namespace Go.Proofs.Ytiigjgdnpmpplaa.Pure
open Go Go.RowKit Go.Proofs.Ytiigjgdnpmpplaa.PFnExactDiskNew Go.Proofs.YtiigjgdnpmpplaaW.PrintWords Go.Proofs.YtiigjgdnpmpplaaW.PrintLast Go.Proofs.YtiigjgdnpmpplaaW.PrintMore Go.Proofs.YtiigjgdnpmpplaaW.PrintMore
set_option linter.unusedVariables false
set_option linter.unusedSimpArgs false

theorem ev_shift {α : Type} {g : Nat → Option α} {r : α} (h : Ev (fun k => g (k + 1)) r) : Ev g r := Ev.step (f := fun k => g (k + 1)) (fun _ => rfl) h
theorem ev_unshift {α : Type} {g : Nat → Option α} {r : α} (h : Ev g r) : Ev (fun k => g (k + 1)) r := by
  obtain ⟨K, h⟩ := h
  exact ⟨K, fun k hk => h (k + 1) (by omega)⟩
theorem ev_pos {α : Type} {c : Prop} [Decidable c] {f g : Nat → Option α} {r : α} (h : c) (e : Ev f r) : Ev (fun k => if c then f k else g k) r := by
  simpa only [if_pos h] using e
theorem ev_neg {α : Type} {c : Prop} [Decidable c] {f g : Nat → Option α} {r : α} (h : ¬ c) (e : Ev g r) : Ev (fun k => if c then f k else g k) r := by
  simpa only [if_neg h] using e
theorem ev_eq {α β : Type} {o : Option α} {a : α} {f : Nat → α → Option β} {r : β} (h : o = some a) (e : Ev (fun k => f k a) r) : Ev (fun k => o.bind (f k)) r := by
  subst h
  exact e
theorem ev_some {α β : Type} {a : α} {f : Nat → α → Option β} {r : β} (e : Ev (fun k => f k a) r) : Ev (fun k => (some a).bind (f k)) r := e
theorem ev_cast {α : Type} {g : Nat → Option α} {r r' : α} (h : Ev g r) (e : r = r') : Ev g r' := e ▸ h
theorem ev_loop {ρ : Type} (L : Nat → Nat → Option ρ) (res : Nat → ρ) (n : Nat) (he : Ev (fun k => L (k + 1) n) (res n))
    (hs : ∀ i, i < n → Ev (fun k => L k (i + 1)) (res (i + 1)) → Ev (fun k => L (k + 1) i) (res i)) : ∀ i, i ≤ n → Ev (fun k => L k i) (res i) := by
  have key : ∀ d i, i + d = n → Ev (fun k => L k i) (res i) := by
    intro d
    induction d with
    | zero =>
      intro i h
      obtain rfl : i = n := by omega
      exact ev_shift he
    | succ d ih =>
      intro i h
      exact ev_shift (hs i (by omega) (ih (i + 1) (by omega)))
  intro i h
  exact key (n - i) i (by omega)
theorem wrap_in {x : Int} (h0 : -9223372036854775808 ≤ x) (h1 : x ≤ 9223372036854775807) : wrap64 x = x := by
  unfold wrap64
  omega
theorem wrap_nat {i : Nat} (h : i < 9223372036854775807) : wrap64 ((i : Int) + 1) = ((i + 1 : Nat) : Int) := by
  unfold wrap64
  omega
theorem wrap_up {i : Int} (h0 : 0 ≤ i) (h : i < 9223372036854775807) : wrap64 (i + 1) = i + 1 := by
  unfold wrap64
  omega
theorem rd_nat (xs : List Int) (i : Nat) : rd xs (i : Int) = xs.getD i 0 := by simp [rd]
theorem rdOf_nat {α : Type} (d : α) (xs : List α) (i : Nat) : rdOf d xs (i : Int) = xs.getD i d := by simp [rdOf]
theorem bt_nat (s : ByteArray) (i : Nat) : bt s (i : Int) = (bytesOf s).getD i 0 := by rw [← rd_bytesOf, rd_nat]
theorem drop_cons {α : Type} (d : α) (l : List α) (i : Nat) (h : i < l.length) : l.drop i = l.getD i d :: l.drop (i + 1) := by
  rw [List.drop_eq_getElem_cons h]
  simp [List.getD, h]
theorem getD_mem {α : Type} (d : α) (l : List α) (i : Nat) (h : i < l.length) : l.getD i d ∈ l := by
  simp [List.getD, h]
theorem bytesOf_range (s : ByteArray) : ∀ x ∈ bytesOf s, 0 ≤ x ∧ x ≤ 255 := by
  intro x hx
  simp only [bytesOf, List.mem_map] at hx
  obtain ⟨b, _, rfl⟩ := hx
  have := b.toNat_lt
  omega
theorem bt_lo (s : ByteArray) (i : Int) : 0 ≤ bt s i := (bt_range s i).1
theorem bt_hi (s : ByteArray) (i : Int) : bt s i ≤ 255 := (bt_range s i).2
theorem drop_eq {α : Type} [DecidableEq α] (d : α) (a b : List α) (i : Nat) (ha : i < a.length) (hb : i < b.length) : (a.drop i = b.drop i) ↔ (a.getD i d = b.getD i d ∧ a.drop (i + 1) = b.drop (i + 1)) := by
  rw [drop_cons d a i ha, drop_cons d b i hb]
  simp
theorem mark_step {α : Type} (d : α) (g : Nat → α) (l : List α) (i : Nat) (h : i < l.length) : ((List.range i).map g ++ l.drop i).set i (g i) = (List.range (i + 1)).map g ++ l.drop (i + 1) := by
  have hlen : ((List.range i).map g).length = i := by simp
  rw [List.set_append_right _ _ (by omega), hlen, Nat.sub_self, drop_cons d l i h, List.set_cons_zero, List.range_succ, List.map_append, List.append_assoc]
  rfl
theorem range_getD {α : Type} (d : α) (g : Nat → α) (n i : Nat) (h : i < n) : ((List.range n).map g).getD i d = g i := by
  simp [List.getD, h]

theorem toList_inj {a b : ByteArray} : a.toList = b.toList ↔ a = b := by
  constructor
  · intro h
    have h' := h
    rw [ByteArray.toList_eq, ByteArray.toList_eq] at h'
    cases a
    cases b
    simp only [ByteArray.mk.injEq]
    exact Array.toList_inj.mp h'
  · intro h
    rw [h]
theorem eqStringS_ev (a b : List ByteArray) (h : a.length ≤ 140737488351232) : Ev (fun k => laws_eqStringS.f k a b) (decide (a = b)) := by
  unfold laws_eqStringS.f
  by_cases hl : a.length = b.length
  · refine ev_pos (by omega) ?_
    have := ev_loop (fun k i => laws_eqStringS.l0 k a b (i : Int)) (fun i => decide (a.drop i = b.drop i)) a.length ?_ ?_ 0 (Nat.zero_le _)
    · exact this
    · simp only [laws_eqStringS.l0]
      refine ev_neg (by omega) ?_
      refine ev_cast (Ev.now _) ?_
      rw [List.drop_length, hl, List.drop_length]
      simp
    · intro i hi e
      simp only [laws_eqStringS.l0]
      refine ev_pos (by omega) (ev_pos (by omega) (ev_pos (by omega) ?_))
      rw [wrap_nat (by omega), rdOf_nat, rdOf_nat]
      by_cases hc : a.getD i ByteArray.empty = b.getD i ByteArray.empty
      · refine ev_pos (toList_inj.mpr hc) (ev_cast e ?_)
        rw [decide_eq_decide, drop_eq ByteArray.empty a b i hi (by omega)]
        exact ⟨fun z => ⟨hc, z⟩, fun z => z.2⟩
      · refine ev_neg (fun z => hc (toList_inj.mp z)) (ev_cast (Ev.now _) ?_)
        symm
        rw [decide_eq_false_iff_not, drop_eq ByteArray.empty a b i hi (by omega)]
        exact fun z => hc z.1
  · refine ev_neg (by omega) (ev_cast (Ev.now _) ?_)
    symm
    rw [decide_eq_false_iff_not]
    exact fun z => hl (by rw [z])

theorem strOfNums_size (l : List Int) : (strOfNums l).size = l.length := by
  simp [strOfNums, ByteArray.size]
theorem markText_l (n : Nat) : ∀ acc : ByteArray, acc.size + n ≤ 4000000000000000000 → ∃ t, Ev (fun k => laws_markText.l0 k (n : Int) acc) t := by
  induction n using Nat.strongRecOn with
  | _ n ih =>
    intro acc ha
    by_cases h : 0 < n
    · have e1 : wrap64 (Int.tdiv (n : Int) 10) = ((n / 10 : Nat) : Int) := by rw [Int.tdiv_eq_ediv_of_nonneg (by omega), wrap_in (by omega) (by omega)]; omega
      obtain ⟨t, ht⟩ := ih (n / 10) (by omega) (strOfNums [(wrap64 (48 + (Int.tmod (n : Int) 10))) % 256] ++ acc) (by rw [ByteArray.size_append, strOfNums_size]; simp only [List.length_cons, List.length_nil]; omega)
      refine ⟨t, ?_⟩
      apply ev_shift
      simp only [laws_markText.l0]
      refine ev_pos (by omega) (ev_some (ev_pos (by rw [strOfNums_size]; simp only [List.length_cons, List.length_nil]; omega) ?_))
      rw [e1]
      exact ht
    · refine ⟨(⟨#[109]⟩ : ByteArray) ++ acc, ?_⟩
      apply ev_shift
      simp only [laws_markText.l0]
      exact ev_neg (by omega) (ev_pos (by omega) (Ev.now _))
theorem markText_any (m : Int) (h : m ≤ 1000000000000000000) : ∃ t, Ev (fun k => laws_markText.f k m) t := by
  unfold laws_markText.f
  by_cases h0 : m ≤ 0
  · exact ⟨_, ev_pos h0 (Ev.now _)⟩
  · obtain ⟨n, rfl⟩ := Int.eq_ofNat_of_zero_le (show 0 ≤ m by omega)
    obtain ⟨t, ht⟩ := markText_l n (⟨#[]⟩ : ByteArray) (by simp only [ByteArray.size, List.size_toArray, List.length_nil]; omega)
    exact ⟨t, ev_neg h0 ht⟩
noncomputable def markText (m : Int) : ByteArray := if h : m ≤ 1000000000000000000 then Classical.choose (markText_any m h) else ByteArray.empty
theorem markText_ev (m : Int) (h : m ≤ 1000000000000000000) : Ev (fun k => laws_markText.f k m) (markText m) := by
  unfold markText
  rw [dif_pos h]
  exact Classical.choose_spec (markText_any m h)

theorem markStringS_ev (l : List ByteArray) (m : Int) (h : l.length ≤ 140737488351232) (h0 : 0 ≤ m) (h1 : m ≤ 100000000000000000) :
    Ev (fun k => laws_markStringS.f k l m) (m + l.length, (List.range l.length).map fun j : Nat => markText (m + (j : Int))) := by
  unfold laws_markStringS.f
  have := ev_loop (fun k i => laws_markStringS.l0 k ((List.range i).map (fun j : Nat => markText (m + (j : Int))) ++ l.drop i) (m + (i : Int)) (i : Int)) (fun _ => (m + l.length, (List.range l.length).map fun j : Nat => markText (m + (j : Int)))) l.length ?_ ?_ 0 (Nat.zero_le _)
  · simpa using this
  · simp only [laws_markStringS.l0]
    refine ev_neg (by simp) ?_
    simp only [List.drop_length, List.append_nil]
    exact Ev.now _
  · intro i hi e
    simp only [laws_markStringS.l0]
    refine ev_pos (by simp; omega) (Ev.bind (markText_ev _ (by omega)) (ev_pos (by omega) ?_))
    rw [wrap_nat (by omega), Int.toNat_natCast, mark_step ByteArray.empty (fun j : Nat => markText (m + (j : Int))) l i hi, wrap_up (by omega) (by omega)]
    have e1 : m + (i : Int) + 1 = m + ((i + 1 : Nat) : Int) := by omega
    rw [e1]
    exact e
theorem heldStringS_ev (n : Nat) (m : Int) (h : n ≤ 140737488351232) (h0 : 0 ≤ m) (h1 : m ≤ 100000000000000000) :
    Ev (fun k => laws_heldStringS.f k ((List.range n).map fun j : Nat => markText (m + (j : Int))) m) (m + n) := by
  unfold laws_heldStringS.f
  have := ev_loop (fun k i => laws_heldStringS.l0 k ((List.range n).map fun j : Nat => markText (m + (j : Int))) (m + (i : Int)) (i : Int)) (fun _ => m + n) n ?_ ?_ 0 (Nat.zero_le _)
  · simpa using this
  · simp only [laws_heldStringS.l0]
    refine ev_neg (by simp) ?_
    exact Ev.now _
  · intro i hi e
    simp only [laws_heldStringS.l0]
    refine ev_pos (by simp; omega) (ev_pos (by omega) (Ev.bind (markText_ev _ (by omega)) (ev_pos ?_ ?_)))
    · rw [rdOf_nat, range_getD ByteArray.empty _ n i hi]
    · rw [wrap_nat (by omega), wrap_up (by omega) (by omega)]
      have e1 : m + (i : Int) + 1 = m + ((i + 1 : Nat) : Int) := by omega
      rw [e1]
      exact e

theorem getD_set_self {α : Type} (d : α) (l : List α) (i : Nat) (v : α) (h : i < l.length) : (l.set i v).getD i d = v := by
  simp [List.getD, h]
theorem rdPut_nat (xs : List S39) (i : Nat) : rd_T39 xs (i : Int) = xs.getD i z39 := by simp [rd_T39]

theorem eqPut_refl (a : Int) (s : ByteArray) : laws_eqPut.f a s a s = some true := by
  unfold laws_eqPut.f
  rw [if_pos rfl, if_pos rfl]
theorem eqPutS_refl (a : List S39) (h : a.length ≤ 140737488351232) : Ev (fun k => laws_eqPutS.f k a a) true := by
  unfold laws_eqPutS.f
  refine ev_pos rfl ?_
  have := ev_loop (fun k i => laws_eqPutS.l0 k a a (i : Int)) (fun _ => true) a.length ?_ ?_ 0 (Nat.zero_le _)
  · exact this
  · simp only [laws_eqPutS.l0]
    exact ev_neg (by omega) (Ev.now _)
  · intro i hi e
    simp only [laws_eqPutS.l0]
    refine ev_pos (by omega) (ev_pos (by omega) (ev_pos (by omega) (ev_eq (eqPut_refl _ _) (ev_pos rfl ?_))))
    rw [wrap_nat (by omega)]
    exact e

noncomputable def markPut (m : Int) (j : Nat) : S39 := ⟨m + 2 * (j : Int), markText (m + 2 * (j : Int) + 1)⟩
theorem markPutS_ev (l : List S39) (m : Int) (h : l.length ≤ 140737488351232) (h0 : 0 ≤ m) (h1 : m ≤ 100000000000000000) :
    Ev (fun k => laws_markPutS.f k l m) (m + 2 * l.length, (List.range l.length).map (markPut m)) := by
  unfold laws_markPutS.f
  have := ev_loop (fun k i => laws_markPutS.l0 k ((List.range i).map (markPut m) ++ l.drop i) (m + 2 * (i : Int)) (i : Int)) (fun _ => (m + 2 * (l.length : Int), (List.range l.length).map (markPut m))) l.length ?_ ?_ 0 (Nat.zero_le _)
  · simpa using this
  · simp only [laws_markPutS.l0]
    refine ev_neg (by simp) ?_
    simp only [List.drop_length, List.append_nil]
    exact Ev.now _
  · intro i hi e
    simp only [laws_markPutS.l0]
    have hlen : i < ((List.range i).map (markPut m) ++ l.drop i).length := by simp; omega
    refine ev_pos (by simp; omega) (ev_pos (by omega) (ev_some ?_))
    rw [wrap_up (i := m + 2 * (i : Int)) (by omega) (by omega)]
    refine Ev.bind (markText_ev _ (by omega)) ?_
    simp only [rdPut_nat, Int.toNat_natCast]
    rw [wrap_nat (by omega), getD_set_self _ _ _ _ hlen, List.set_set, wrap_up (i := m + 2 * (i : Int) + 1) (by omega) (by omega)]
    have hs := mark_step z39 (markPut m) l i hi
    simp only [markPut] at hs
    have e1 : m + 2 * (i : Int) + 1 + 1 = m + 2 * ((i + 1 : Nat) : Int) := by omega
    dsimp only [markPut]
    rw [hs, e1]
    exact e
theorem heldPutS_ev (n : Nat) (m : Int) (h : n ≤ 140737488351232) (h0 : 0 ≤ m) (h1 : m ≤ 100000000000000000) :
    Ev (fun k => laws_heldPutS.f k ((List.range n).map (markPut m)) m) (m + 2 * n) := by
  unfold laws_heldPutS.f
  have := ev_loop (fun k i => laws_heldPutS.l0 k ((List.range n).map (markPut m)) (m + 2 * (i : Int)) (i : Int)) (fun _ => m + 2 * (n : Int)) n ?_ ?_ 0 (Nat.zero_le _)
  · simpa using this
  · simp only [laws_heldPutS.l0]
    refine ev_neg (by simp) ?_
    exact Ev.now _
  · intro i hi e
    simp only [laws_heldPutS.l0]
    rw [wrap_up (i := m + 2 * (i : Int)) (by omega) (by omega), rdPut_nat, range_getD z39 (markPut m) n i hi]
    refine ev_pos (by simp; omega) (ev_pos (by omega) (ev_pos rfl (Ev.bind (markText_ev _ (by omega)) (ev_pos rfl ?_))))
    rw [wrap_nat (by omega), wrap_up (i := m + 2 * (i : Int) + 1) (by omega) (by omega)]
    have e1 : m + 2 * (i : Int) + 1 + 1 = m + 2 * ((i + 1 : Nat) : Int) := by omega
    rw [e1]
    exact e

theorem eqDisk_refl (a : List ByteArray) (b : List S39) (ha : a.length ≤ 140737488351232) (hb : b.length ≤ 140737488351232) : Ev (fun k => laws_eqDisk.f k a b a b) true := by
  unfold laws_eqDisk.f
  exact Ev.bind (eqStringS_ev a a ha) (ev_pos (by simp) (Ev.bind (eqPutS_refl b hb) (ev_pos rfl (Ev.now _))))

noncomputable def markedS (n : Nat) (m : Int) : List ByteArray := (List.range n).map fun j : Nat => markText (m + (j : Int))
noncomputable def markedP (n : Nat) (m : Int) : List S39 := (List.range n).map (markPut m)
theorem markedS_length (n : Nat) (m : Int) : (markedS n m).length = n := by simp [markedS]
theorem markedP_length (n : Nat) (m : Int) : (markedP n m).length = n := by simp [markedP]
theorem markDisk_ev (a : List ByteArray) (b : List S39) (m : Int) (ha : a.length ≤ 10000000000) (hb : b.length ≤ 10000000000) (h0 : 0 ≤ m) (h1 : m ≤ 10000000000000000) :
    Ev (fun k => laws_markDisk.f k a b m) (m + a.length + 2 * b.length, markedS a.length m, markedP b.length (m + a.length)) := by
  unfold laws_markDisk.f
  exact Ev.bind (markStringS_ev a m (by omega) h0 (by omega)) (Ev.bind (markPutS_ev b (m + a.length) (by omega) (by omega) (by omega)) (Ev.now _))
theorem heldDisk_ev (n p : Nat) (m : Int) (ha : n ≤ 10000000000) (hb : p ≤ 10000000000) (h0 : 0 ≤ m) (h1 : m ≤ 10000000000000000) :
    Ev (fun k => laws_heldDisk.f k (markedS n m) (markedP p (m + n)) m) (m + n + 2 * p) := by
  unfold laws_heldDisk.f
  exact Ev.bind (heldStringS_ev n m (by omega) h0 (by omega)) (ev_neg (by omega) (Ev.bind (heldPutS_ev p (m + n) (by omega) (by omega) (by omega)) (ev_neg (by omega) (Ev.now _))))

def diskNew (n : Int) : List ByteArray × List S39 × Bool := if 1 ≤ n ∧ n ≤ 120 then (List.replicate n.toNat (⟨#[]⟩ : ByteArray), [], true) else ([], [], false)
theorem spec_DiskNew_eq (n : Int) : spec_DiskNew.f n = some (diskNew n) := by
  unfold spec_DiskNew.f diskNew
  by_cases h : 1 ≤ n ∧ n ≤ 120
  · rw [show spec_l1In.f n 1 120 = some true from by unfold spec_l1In.f; rw [if_pos (by omega)]; simp; omega]
    simp only [Option.bind_some, if_true]
    rw [if_pos (by omega), if_pos (by omega), if_pos h]
  · rw [show spec_l1In.f n 1 120 = some false from by unfold spec_l1In.f; split <;> simp <;> omega]
    simp only [Option.bind_some]
    rw [if_neg (by simp), if_neg h]
theorem impl_DiskNew_eq (n : Int) : impl_DiskNew.f n = some (diskNew n) := by
  unfold impl_DiskNew.f diskNew
  by_cases h : 1 ≤ n ∧ n ≤ 120
  · rw [show impl_within.f n 1 120 = some true from by unfold impl_within.f; rw [if_pos (by omega)]; simp; omega]
    simp only [Option.bind_some, if_true]
    rw [if_pos (by omega), if_pos (by omega), if_pos h]
  · rw [show impl_within.f n 1 120 = some false from by unfold impl_within.f; split <;> simp <;> omega]
    simp only [Option.bind_some]
    rw [if_neg (by simp), if_neg h]
theorem diskNew_length (n : Int) : (diskNew n).1.length ≤ 120 ∧ (diskNew n).2.1.length = 0 := by
  unfold diskNew
  split
  · simp
    omega
  · simp
theorem FnExactDiskNew : laws_FnExactDiskNew.Pure := by
  intro n hn
  apply Ev.rounds (g := fun k => laws_FnExactDiskNew.f k n)
  unfold laws_FnExactDiskNew.f
  obtain ⟨h1, h2⟩ := diskNew_length n
  refine ev_eq (spec_DiskNew_eq n) (ev_eq (impl_DiskNew_eq n) (Ev.bind (eqDisk_refl _ _ (by omega) (by omega)) (ev_pos rfl ?_)))
  apply ev_shift
  simp only [laws_FnExactDiskNew.j0]
  have hh := heldDisk_ev (diskNew n).1.length (diskNew n).2.1.length 1 (by omega) (by omega) (by omega) (by omega)
  refine ev_neg (by simp) (Ev.bind (markDisk_ev _ _ 1 (by omega) (by omega) (by omega) (by omega)) (Ev.bind hh (ev_neg (by omega) (ev_pos rfl (ev_eq (impl_DiskNew_eq n) (Ev.bind (eqDisk_refl _ _ (by omega) (by omega)) (ev_pos rfl ?_)))))))
  apply ev_shift
  simp only [laws_FnExactDiskNew.j1]
  exact ev_neg (by simp) (Ev.bind hh (ev_neg (by omega) (ev_pos rfl (Ev.now _))))

end Go.Proofs.Ytiigjgdnpmpplaa.Pure
