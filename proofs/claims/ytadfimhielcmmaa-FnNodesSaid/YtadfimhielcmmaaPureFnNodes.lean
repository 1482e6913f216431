/- FnNodes: the law's function of the print answers true for every input within the row's bounds. Conditions: none but the bounds that the row itself gives. -/
import Derived.Test.YtadfimhielcmmaaJFnNodes
import Derived.Test.YtadfimhielcmmaaPFnNodesx9
import Derived.OpenShut
import Derived.Laws.BitsLemmas
import Derived.Test.YtadfimhielcmmaaWSized
import Derived.Test.YtadfimhielcmmaaWSized
namespace Go.Proofs.Ytadfimhielcmmaa.Pure
open Go Go.RowKit Go.Proofs.Ytadfimhielcmmaa.PFnNodes Go.Proofs.YtadfimhielcmmaaW.PrintWords Go.Proofs.YtadfimhielcmmaaW.PrintLast Go.Proofs.YtadfimhielcmmaaW.PrintMore Go.Proofs.YtadfimhielcmmaaW.PrintMore Go.Proofs.YtadfimhielcmmaaW.PrintMore Go.Proofs.YtadfimhielcmmaaW.PrintMore
set_option linter.unusedVariables false
set_option linter.unusedSimpArgs false

theorem bytesOf_length (s : ByteArray) : (bytesOf s).length = s.size := by
  unfold bytesOf
  rw [List.length_map]
  rfl
theorem ev_eq {α β : Type} {o : Option α} {a : α} {f : Nat → α → Option β} {r : β} (h : o = some a) (e : Ev (fun k => f k a) r) : Ev (fun k => o.bind (f k)) r := by
  subst h
  exact e
theorem ev_neg {α : Type} {c : Prop} [Decidable c] {f g : Nat → Option α} {r : α} (h : ¬ c) (e : Ev g r) : Ev (fun k => if c then f k else g k) r := by
  simpa only [if_neg h] using e
theorem ev_pos {α : Type} {c : Prop} [Decidable c] {f g : Nat → Option α} {r : α} (h : c) (e : Ev f r) : Ev (fun k => if c then f k else g k) r := by
  simpa only [if_pos h] using e
theorem ev_some {α β : Type} {a : α} {f : Nat → α → Option β} {r : β} (e : Ev (fun k => f k a) r) : Ev (fun k => (some a).bind (f k)) r := e
theorem wraps_i64 (n : Int) (h0 : 0 ≤ n) (h1 : n < 2 ^ 63) : IntKind.i64.wrap n = n := by
  rw [IntKind.wrap_i64]
  omega
theorem and255_any (x : Int) : 0 ≤ Go.bits .and .i64 x 255 ∧ Go.bits .and .i64 x 255 ≤ 255 := by
  have h : (BitVec.ofInt 64 x &&& BitVec.ofInt 64 255).toNat ≤ 255 := by
    rw [BitVec.toNat_and]
    exact Nat.le_trans Nat.and_le_right (by decide)
  have e : Go.bits .and .i64 x 255 = IntKind.i64.wrap ((BitVec.ofInt 64 x &&& BitVec.ofInt 64 255).toNat : Int) := rfl
  rw [e, wraps_i64 _ (by omega) (by omega)]
  omega
theorem wrap_up {i : Int} (h0 : 0 ≤ i) (h : i < 9223372036854775807) : wrap64 (i + 1) = i + 1 := by
  unfold wrap64
  omega
theorem l1Byte_some (l : List Int) (i h : Int) (hl : l.length ≤ 140737488351232) (h0 : 0 ≤ i) (h1 : i ≤ l.length) :
    ∃ b j h', spec_l1Byte.f l i h = some (b, j, h') ∧ 0 ≤ b ∧ b ≤ 255 ∧ 0 ≤ j ∧ j ≤ l.length := by
  unfold spec_l1Byte.f
  by_cases c : i < (l.length : Int)
  · rw [if_pos c, if_pos h0]
    refine ⟨_, _, _, rfl, (and255_any _).1, (and255_any _).2, ?_, ?_⟩ <;> rw [wrap_up h0 (by omega)] <;> omega
  · rw [if_neg c]
    exact ⟨_, _, _, rfl, (and255_any _).1, (and255_any _).2, h0, h1⟩
theorem tmod_range (x n : Int) (hx : 0 ≤ x) (hn : 0 < n) : 0 ≤ Int.tmod x n ∧ Int.tmod x n < n := by
  rw [Int.tmod_eq_emod_of_nonneg hx]
  exact ⟨Int.emod_nonneg _ (by omega), Int.emod_lt_of_pos _ hn⟩
theorem wrap_in {x : Int} (h0 : -9223372036854775808 ≤ x) (h1 : x ≤ 9223372036854775807) : wrap64 x = x := by
  unfold wrap64
  omega
theorem l1Below_some (l : List Int) (i h n : Int) (hl : l.length ≤ 140737488351232) (h0 : 0 ≤ i) (h1 : i ≤ l.length) :
    ∃ v j h', spec_l1Below.f l i h n = some (v, j, h') ∧ 0 ≤ v ∧ (0 < n → v < n) ∧ (n ≤ 0 → v = 0) ∧ 0 ≤ j ∧ j ≤ l.length := by
  unfold spec_l1Below.f
  by_cases c : n ≤ 0
  · rw [if_pos c]
    exact ⟨_, _, _, rfl, by omega, by omega, fun _ => rfl, h0, h1⟩
  · rw [if_neg c]
    by_cases c2 : n ≤ 256
    · rw [if_pos c2]
      obtain ⟨b, j, h', e, hb0, hb1, hj0, hj1⟩ := l1Byte_some l i h hl h0 h1
      rw [e]
      simp only [Option.bind_some]
      rw [if_neg (by omega)]
      have := tmod_range b n hb0 (by omega)
      exact ⟨_, _, _, rfl, this.1, fun _ => this.2, by omega, hj0, hj1⟩
    · rw [if_neg c2]
      obtain ⟨b1, j1, g1, e1, hb1, hb1', hj1, hj1'⟩ := l1Byte_some l i h hl h0 h1
      obtain ⟨b2, j2, g2, e2, hb2, hb2', hj2, hj2'⟩ := l1Byte_some l j1 g1 hl hj1 hj1'
      obtain ⟨b3, j3, g3, e3, hb3, hb3', hj3, hj3'⟩ := l1Byte_some l j2 g2 hl hj2 hj2'
      obtain ⟨b4, j4, g4, e4, hb4, hb4', hj4, hj4'⟩ := l1Byte_some l j3 g3 hl hj3 hj3'
      simp only [e1, e2, e3, e4, Option.bind_some]
      rw [if_neg (by omega)]
      rw [wrap_in (x := b1 * 16777216) (by omega) (by omega), wrap_in (x := b2 * 65536) (by omega) (by omega), wrap_in (x := b3 * 256) (by omega) (by omega), wrap_in (x := b1 * 16777216 + b2 * 65536) (by omega) (by omega), wrap_in (x := b1 * 16777216 + b2 * 65536 + b3 * 256) (by omega) (by omega), wrap_in (x := b1 * 16777216 + b2 * 65536 + b3 * 256 + b4) (by omega) (by omega)]
      have := tmod_range (b1 * 16777216 + b2 * 65536 + b3 * 256 + b4) n (by omega) (by omega)
      exact ⟨_, _, _, rfl, this.1, fun _ => this.2, by omega, hj4, hj4'⟩
theorem ev_shift {α : Type} {g : Nat → Option α} {r : α} (h : Ev (fun k => g (k + 1)) r) : Ev g r := Ev.step (f := fun k => g (k + 1)) (fun _ => rfl) h
theorem wrap_nat {i : Nat} (h : i < 9223372036854775807) : wrap64 ((i : Int) + 1) = ((i + 1 : Nat) : Int) := by
  unfold wrap64
  omega
theorem l1New_ev (l : List Int) (hl : l.length ≤ 140737488351232) : ∃ h, Ev (fun k => spec_l1New.f k l) (l, 0, h) := by
  unfold spec_l1New.f
  have key : ∀ (d : Nat) (i : Nat) (x : Int), i + d = l.length → ∃ h, Ev (fun k => spec_l1New.l0 k l x (i : Int)) (l, 0, h) := by
    intro d
    induction d with
    | zero =>
      intro i x hi
      refine ⟨x, ev_shift ?_⟩
      simp only [spec_l1New.l0]
      exact ev_neg (by omega) (Ev.now _)
    | succ d ih =>
      intro i x hi
      by_cases c : (i : Int) < 4000
      · obtain ⟨h, e⟩ := ih (i + 1) (Go.bits .and .i64 (wrap64 ((wrap64 ((wrap64 (x * 131)) + (wrap64 (rd l (i : Int))))) + 7)) 1073741823) (by omega)
        refine ⟨h, ev_shift ?_⟩
        simp only [spec_l1New.l0]
        refine ev_pos (by omega) (ev_pos c (ev_pos (by omega) ?_))
        rw [wrap_nat (by omega)]
        exact e
      · refine ⟨x, ev_shift ?_⟩
        simp only [spec_l1New.l0]
        exact ev_pos (by omega) (ev_neg c (Ev.now _))
  exact key l.length 0 _ (by omega)
def bfOf (a : Int) : Int := if a ≤ 0 then 0 else if a > 80 then 5 else wrap64 (Int.tdiv (wrap64 (wrap64 (a + 16) - 1)) 16)
theorem ev_cast {α : Type} {g : Nat → Option α} {r r' : α} (h : Ev g r) (e : r = r') : Ev g r' := e ▸ h
theorem getD_mem {α : Type} (d : α) (l : List α) (i : Nat) (h : i < l.length) : l.getD i d ∈ l := by
  simp [List.getD, h]
theorem l1PickInt_some (l : List Int) (i h : Int) (xs : List Int) (hl : l.length ≤ 140737488351232) (h0 : 0 ≤ i) (h1 : i ≤ l.length) (hx : 0 < xs.length) :
    ∃ v j h', spec_l1PickInt.f l i h xs = some (v, j, h') ∧ v ∈ xs ∧ 0 ≤ j ∧ j ≤ l.length := by
  unfold spec_l1PickInt.f
  obtain ⟨v, j, h', e, hv0, hv1, _, hj0, hj1⟩ := l1Below_some l i h xs.length hl h0 h1
  rw [e]
  simp only [Option.bind_some]
  have hv := hv1 (by omega)
  rw [if_pos hv0, if_pos hv]
  refine ⟨_, _, _, rfl, ?_, hj0, hj1⟩
  exact getD_mem 0 xs v.toNat (by omega)
theorem bfOf_le (a : Int) (h : a ≤ 80) : bfOf a ≤ 5 := by
  unfold bfOf
  split
  · omega
  · split
    · omega
    · rw [wrap_in (x := a + 16) (by omega) (by omega), wrap_in (x := a + 16 - 1) (by omega) (by omega), Int.tdiv_eq_ediv_of_nonneg (by omega), wrap_in (by omega) (by omega)]
      omega
theorem bfOf_nn (a : Int) (h : a ≤ 80) : 0 ≤ bfOf a := by
  unfold bfOf
  split
  · omega
  · split
    · omega
    · rw [wrap_in (x := a + 16) (by omega) (by omega), wrap_in (x := a + 16 - 1) (by omega) (by omega), Int.tdiv_eq_ediv_of_nonneg (by omega), wrap_in (by omega) (by omega)]
      omega
def runOf (v : Int) (m : Nat) : List Int := (List.range m).map fun j : Nat => v + (j : Int)
theorem runOf_length (v : Int) (m : Nat) : (runOf v m).length = m := by simp [runOf]
theorem runOf_snoc (v : Int) (m : Nat) : runOf v (m + 1) = runOf v m ++ [v + (m : Int)] := by
  unfold runOf
  rw [List.range_succ, List.map_append]
  rfl
theorem spec_bf (a : Int) : spec_BlocksFor.f a = some (bfOf a) := by
  unfold spec_BlocksFor.f bfOf
  by_cases h0 : a ≤ 0
  · rw [if_pos h0, if_pos h0]
  · rw [if_neg h0, if_neg h0]
    by_cases h1 : a > 80
    · rw [if_pos h1, if_pos (show a ≥ 80 by omega)]
    · rw [if_neg h1]
      by_cases h2 : a = 80
      · subst h2
        rw [if_pos (by omega), wrap_in (x := 80 + 16) (by omega) (by omega), wrap_in (x := 80 + 16 - 1) (by omega) (by omega), wrap_in (by decide) (by decide)]
        rfl
      · rw [if_neg (show ¬ a ≥ 80 by omega)]
theorem l5Right_l (l : List Int) (k g t s v j h : Int) (hv : 0 ≤ v ∧ v < 30) (hs : s ≤ 80) : ∀ d i : Nat, i + d = (bfOf s).toNat → Ev (fun q => spec_l5Right.l0 q v (i : Int) l j h k g t s (runOf v i)) (k, g, t, s, runOf v (bfOf s).toNat, j, h) := by
  have hb := bfOf_le s hs
  have hb0 := bfOf_nn s hs
  intro d
  induction d with
  | zero =>
    intro i hi
    apply ev_shift
    simp only [spec_l5Right.l0]
    refine ev_eq (spec_bf s) (ev_neg (by omega) (ev_cast (Ev.now _) ?_))
    rw [show i = (bfOf s).toNat by omega]
  | succ d ih =>
    intro i hi
    have := ih (i + 1) (by omega)
    rw [runOf_snoc] at this
    apply ev_shift
    simp only [spec_l5Right.l0]
    rw [wrap_nat (i := i) (by omega), wrap_in (x := v + (i : Int)) (by omega) (by omega)]
    exact ev_eq (spec_bf s) (ev_pos (by omega) (ev_pos (by rw [runOf_length]; omega) this))
def blGo : List Int → List Int → Bool
  | _, [] => true
  | pre, b :: r => decide (0 ≤ b ∧ b ≤ 35) && (!decide (b ∈ pre) && blGo (pre ++ [b]) r)
def nodeOk (f0 f1 f2 f3 : Int) (bl : List Int) : Bool :=
  if f0 = 0 then decide (f1 = 0) && (decide (f2 = 0) && (decide (f3 = 0) && decide (bl.length = 0)))
  else decide (1 ≤ f0 ∧ f0 ≤ 3) && (decide (0 ≤ f1 ∧ f1 ≤ 1000000) && (decide (0 ≤ f2 ∧ f2 ≤ 100000) && (decide (0 ≤ f3 ∧ f3 ≤ 80) && (decide ((bl.length : Int) = bfOf f3) && (!decide (f0 = 2 ∧ ¬ (f1 = 0 ∧ f2 = 0)) && blGo [] bl)))))
theorem blGo_run (v : Int) (h0 : 0 ≤ v) (m : Nat) (h1 : v + (m : Int) ≤ 36) : ∀ d i : Nat, i + d = m → blGo (runOf v i) ((List.range d).map fun j : Nat => v + ((i + j : Nat) : Int)) = true := by
  intro d
  induction d with
  | zero =>
    intro i _
    simp [blGo]
  | succ d ih =>
    intro i hi
    have hn := ih (i + 1) (by omega)
    rw [List.range_succ_eq_map, List.map_cons, blGo, List.map_map]
    rw [runOf_snoc] at hn
    have e : ((List.range d).map ((fun j : Nat => v + ((i + j : Nat) : Int)) ∘ Nat.succ)) = (List.range d).map fun j : Nat => v + ((i + 1 + j : Nat) : Int) := by
      apply List.map_congr_left
      intro j _
      simp only [Function.comp]
      omega
    have hm : ¬ v + ((i + 0 : Nat) : Int) ∈ runOf v i := fun h => by
      unfold runOf at h
      obtain ⟨j, hj, he⟩ := List.mem_map.1 h
      rw [List.mem_range] at hj
      omega
    rw [e, decide_eq_true (show 0 ≤ v + ((i + 0 : Nat) : Int) ∧ v + ((i + 0 : Nat) : Int) ≤ 35 by omega), decide_eq_false hm]
    simpa using hn
theorem right_ok {k g t s v : Int} (hk : 1 ≤ k ∧ k ≤ 3) (hg : 0 ≤ g ∧ g ≤ 1000000) (ht : 0 ≤ t ∧ t ≤ 100000) (hs : 0 ≤ s ∧ s ≤ 80) (h2 : k = 2 → g = 0 ∧ t = 0) (hv : 0 ≤ v ∧ v < 30) : nodeOk k g t s (runOf v (bfOf s).toNat) = true := by
  have hb := bfOf_le s hs.2
  have hb0 := bfOf_nn s hs.2
  unfold nodeOk
  rw [if_neg (by omega), decide_eq_true hk, decide_eq_true hg, decide_eq_true ht, decide_eq_true hs, runOf_length, decide_eq_true (show (((bfOf s).toNat : Nat) : Int) = bfOf s by omega), decide_eq_false (fun z => z.2 (h2 z.1))]
  have := blGo_run v hv.1 (bfOf s).toNat (by omega) (bfOf s).toNat 0 (Nat.zero_add _)
  have e : ((List.range (bfOf s).toNat).map fun j : Nat => v + ((0 + j : Nat) : Int)) = runOf v (bfOf s).toNat := by
    unfold runOf
    apply List.map_congr_left
    intro j _
    rw [Nat.zero_add]
  rw [e] at this
  have e0 : runOf v 0 = [] := rfl
  rw [e0] at this
  rw [this]
  rfl
theorem zero_ok : nodeOk 0 0 0 0 [] = true := by decide
theorem l5Right_ev (l : List Int) (i h : Int) (hl : l.length ≤ 140737488351232) (h0 : 0 ≤ i) (h1 : i ≤ l.length) :
    ∃ (k g t s : Int) (bl : List Int) (j h' : Int), Ev (fun q => spec_l5Right.f q l i h) (k, g, t, s, bl, j, h') ∧ 0 ≤ j ∧ j ≤ l.length ∧ nodeOk k g t s bl = true ∧ s ≤ 80 := by
  unfold spec_l5Right.f
  obtain ⟨k, j, g1, e, hk0, hk1, _, hj0, hj1⟩ := l1Below_some l i h 4 hl h0 h1
  have hk := hk1 (by omega)
  by_cases c : k = 0
  · refine ⟨0, 0, 0, 0, [], j, g1, ev_eq e (ev_pos c (ev_cast (Ev.now _) (by rw [c]))), hj0, hj1, zero_ok, by omega⟩
  · obtain ⟨b, j2, g2, e2, hb0, hb1, _, hj2, hj3⟩ := l1Below_some l j g1 81 hl hj0 hj1
    have hb := hb1 (by omega)
    obtain ⟨s, j3, g3, e3, hm, hj4, hj5⟩ := l1PickInt_some l j2 g2 [0, 1, 16, 17, 80, b] hl hj2 hj3 (by simp)
    have hs : 0 ≤ s ∧ s ≤ 80 := by
      simp only [List.mem_cons, List.not_mem_nil, or_false] at hm
      omega
    have fin : ∀ (g t j h : Int), 0 ≤ g ∧ g ≤ 1000000 → 0 ≤ t ∧ t ≤ 100000 → (k = 2 → g = 0 ∧ t = 0) → 0 ≤ j → j ≤ l.length → ∃ (bl : List Int) (j' h' : Int), Ev (fun q => spec_l5Right.j0 q l j h k g t s) (k, g, t, s, bl, j', h') ∧ 0 ≤ j' ∧ j' ≤ l.length ∧ nodeOk k g t s bl = true := by
      intro g t j h hg ht h2 hj hj'
      obtain ⟨v, j6, g6, e6, hv0, hv1, _, hj6, hj7⟩ := l1Below_some l j h 30 hl hj hj'
      have hv := hv1 (by omega)
      refine ⟨runOf v (bfOf s).toNat, j6, g6, ev_shift ?_, hj6, hj7, right_ok (by omega) hg ht hs h2 ⟨hv0, hv⟩⟩
      simp only [spec_l5Right.j0]
      exact ev_eq e6 (l5Right_l l k g t s v j6 g6 ⟨hv0, hv⟩ hs.2 (bfOf s).toNat 0 (Nat.zero_add _))
    by_cases c2 : k = 2
    · obtain ⟨bl, j', h', ef, r1, r2, r3⟩ := fin 0 0 j3 g3 (by omega) (by omega) (fun _ => ⟨rfl, rfl⟩) hj4 hj5
      exact ⟨k, 0, 0, s, bl, j', h', ev_eq e (ev_neg c (ev_eq e2 (ev_eq e3 (ev_pos c2 ef)))), r1, r2, r3, hs.2⟩
    · obtain ⟨g, j4, g4, e4, hg, hj6, hj7⟩ := l1PickInt_some l j3 g3 [0, 1, 5, 1000000] hl hj4 hj5 (by simp)
      obtain ⟨t, j5, g5, e5, ht, hj8, hj9⟩ := l1PickInt_some l j4 g4 [0, 7, 100000] hl hj6 hj7 (by simp)
      simp only [List.mem_cons, List.not_mem_nil, or_false] at hg ht
      obtain ⟨bl, j', h', ef, r1, r2, r3⟩ := fin g t j5 g5 (by omega) (by omega) (fun z => absurd z c2) hj8 hj9
      exact ⟨k, g, t, s, bl, j', h', ev_eq e (ev_neg c (ev_eq e2 (ev_eq e3 (ev_neg c2 (ev_eq e4 (ev_eq e5 ef)))))), r1, r2, r3, hs.2⟩
theorem nodeOk_len {f0 f1 f2 f3 : Int} {bl : List Int} (h : nodeOk f0 f1 f2 f3 bl = true) : bl.length ≤ 5 := by
  unfold nodeOk at h
  split at h
  · simp only [Bool.and_eq_true, decide_eq_true_eq] at h
    omega
  · simp only [Bool.and_eq_true, decide_eq_true_eq] at h
    have := bfOf_le f3 h.2.2.2.1.2
    omega
def putNat (n : Nat) : List Int := if h : n < 128 then [(n : Int)] else ((n % 128 + 128 : Nat) : Int) :: putNat (n / 128)
termination_by n
decreasing_by omega
def putNum (n : Int) : List Int := if 0 ≤ n ∧ n ≤ 2147483647 then putNat n.toNat else []
def nodeNums (f0 f1 f2 f3 : Int) (bl : List Int) : List Int := [f0 % 256] ++ ([f1, f2, f3] ++ bl).flatMap putNum
def nodeText (f0 f1 f2 f3 : Int) (bl : List Int) : ByteArray := if nodeOk f0 f1 f2 f3 bl = true then (if f0 = 0 then strOfNums [f0 % 256] else strOfNums (nodeNums f0 f1 f2 f3 bl)) else (⟨#[]⟩ : ByteArray)
theorem strOfNums_size (l : List Int) : (strOfNums l).size = l.length := by
  simp [strOfNums, ByteArray.size]
theorem nodeText_pos {f0 f1 f2 f3 : Int} {bl : List Int} (h : nodeOk f0 f1 f2 f3 bl = true) : 0 < (nodeText f0 f1 f2 f3 bl).size := by
  unfold nodeText
  rw [if_pos h]
  split
  · rw [strOfNums_size]
    simp
  · rw [strOfNums_size]
    unfold nodeNums
    rw [List.length_append]
    simp
    omega
theorem putNat_big {n : Nat} (h : ¬ n < 128) : putNat n = ((n % 128 + 128 : Nat) : Int) :: putNat (n / 128) := by rw [putNat, dif_neg h]
theorem putNat_small {n : Nat} (h : n < 128) : putNat n = [(n : Int)] := by rw [putNat, dif_pos h]
theorem putNat_len5 (n : Nat) (h : n ≤ 2147483647) : (putNat n).length ≤ 5 := by
  have step : ∀ m j, m < 128 ^ (j + 1) → (putNat m).length ≤ j + 1 := by
    intro m j
    induction j generalizing m with
    | zero =>
      intro hm
      rw [putNat_small (by omega)]
      simp
    | succ j ih =>
      intro hm
      by_cases h : m < 128
      · rw [putNat_small h]
        simp
      · rw [putNat_big h]
        have : m / 128 < 128 ^ (j + 1) := by
          rw [Nat.div_lt_iff_lt_mul (by omega)]
          rw [Nat.pow_succ] at hm
          exact hm
        have := ih (m / 128) this
        simp only [List.length_cons]
        omega
  exact step n 4 (by omega)
theorem putNum_length (n : Int) : (putNum n).length ≤ 5 := by
  unfold putNum
  split
  · exact putNat_len5 _ (by omega)
  · simp
theorem flat_put_len (ns : List Int) : (ns.flatMap putNum).length ≤ 5 * ns.length := by
  induction ns with
  | nil => simp
  | cons x r ih =>
    rw [List.flatMap_cons, List.length_append, List.length_cons]
    have := putNum_length x
    omega
theorem nodeText_size (f0 f1 f2 f3 : Int) (bl : List Int) : (nodeText f0 f1 f2 f3 bl).size ≤ 16 + 5 * bl.length := by
  unfold nodeText
  split
  · split
    · rw [strOfNums_size]
      simp
      omega
    · rw [strOfNums_size]
      unfold nodeNums
      have := flat_put_len ([f1, f2, f3] ++ bl)
      rw [List.length_append] at this ⊢
      simp only [List.length_cons, List.length_nil] at this ⊢
      omega
  · have h2 : (⟨#[]⟩ : ByteArray).size = 0 := rfl
    rw [h2]
    omega
theorem flat_len {α : Type} (f : α → List Int) (m : Nat) (l : List α) (h : ∀ x ∈ l, (f x).length ≤ m) : (l.flatMap f).length ≤ m * l.length := by
  induction l with
  | nil => simp
  | cons x l ih =>
    have h1 := h x (by simp)
    have h2 := ih (fun y hy => h y (List.mem_cons_of_mem _ hy))
    rw [List.flatMap_cons, List.length_append, List.length_cons, Nat.mul_add]
    omega
theorem ats_len (l : List Int) (i : Nat) (hi : l.length ≤ 1048579) : ((l.take i).flatMap putNum).length ≤ 5242895 := by
  have := flat_len putNum 5 (l.take i) (fun x _ => putNum_length x)
  rw [List.length_take] at this
  omega
theorem ev_loop {ρ : Type} (L : Nat → Nat → Option ρ) (res : Nat → ρ) (n : Nat) (he : Ev (fun k => L (k + 1) n) (res n))
    (hs : ∀ i, i < n → Ev (fun k => L k (i + 1)) (res (i + 1)) → Ev (fun k => L (k + 1) i) (res i)) : ∀ i, i ≤ n → Ev (fun k => L k i) (res i) := by
  have key : ∀ d i, i + d = n → Ev (fun k => L k i) (res i) := by
    intro d
    induction d with
    | zero =>
      intro i h
      obtain rfl : i = n := by omega
      exact ev_shift he
    | succ d ih =>
      intro i h
      exact ev_shift (hs i (by omega) (ih (i + 1) (by omega)))
  intro i h
  exact key (n - i) i (by omega)
theorem flat_snoc {α : Type} (d : α) (f : α → List Int) (l : List α) (i : Nat) (h : i < l.length) : (l.take (i + 1)).flatMap f = (l.take i).flatMap f ++ f (l.getD i d) := by
  rw [List.take_succ_eq_append_getElem h, List.flatMap_append]
  simp [List.getD, h]
theorem rd_nat (xs : List Int) (i : Nat) : rd xs (i : Int) = xs.getD i 0 := by simp [rd]
theorem decide_l1In (a lo hi : Int) : spec_l1In.f a lo hi = some (decide (lo ≤ a ∧ a ≤ hi)) := by
  unfold spec_l1In.f
  by_cases h : a ≥ lo
  · rw [if_pos h]
    congr 1
    rw [decide_eq_decide]
    omega
  · rw [if_neg h]
    congr 1
    symm
    rw [decide_eq_false_iff_not]
    omega
theorem drop_cons {α : Type} (d : α) (l : List α) (i : Nat) (h : i < l.length) : l.drop i = l.getD i d :: l.drop (i + 1) := by
  rw [List.drop_eq_getElem_cons h]
  simp [List.getD, h]
theorem spec_has (l : List Int) (b : Int) (h : l.length ≤ 1099511627776) : Ev (fun k => spec_l1Has.f k l b) (decide (b ∈ l)) := by
  unfold spec_l1Has.f
  have := ev_loop (fun k i => spec_l1Has.l0 k l b (i : Int)) (fun i => decide (b ∈ l.drop i)) l.length ?_ ?_ 0 (Nat.zero_le _)
  · simpa using this
  · simp only [spec_l1Has.l0]
    refine ev_neg (by omega) (ev_cast (Ev.now _) ?_)
    simp
  · intro i hi e
    simp only [spec_l1Has.l0]
    refine ev_pos (by omega) (ev_pos (by omega) ?_)
    rw [wrap_nat (by omega), rd_nat, drop_cons 0 l i hi]
    by_cases hc : l.getD i 0 = b
    · refine ev_pos hc (ev_cast (Ev.now _) ?_)
      rw [hc]
      simp
    · refine ev_neg hc (ev_cast e ?_)
      rw [decide_eq_decide, List.mem_cons]
      exact ⟨fun z => .inr z, fun z => z.resolve_left (fun e => hc e.symm)⟩
theorem take_snoc {α : Type} (d : α) (l : List α) (i : Nat) (h : i < l.length) : l.take (i + 1) = l.take i ++ [l.getD i d] := by
  rw [List.take_succ_eq_append_getElem h]
  simp [List.getD, h]
theorem spec_NodeOk_l (f0 f1 f2 f3 : Int) (bl : List Int) (h : bl.length ≤ 1099511627776) : Ev (fun k => spec_NodeOk.l0 k 0 f0 f1 f2 f3 bl) (blGo [] bl) := by
  have := ev_loop (fun k i => spec_NodeOk.l0 k (i : Int) f0 f1 f2 f3 bl) (fun i => blGo (bl.take i) (bl.drop i)) bl.length ?_ ?_ 0 (Nat.zero_le _)
  · simpa using this
  · simp only [spec_NodeOk.l0]
    refine ev_neg (by omega) (ev_cast (Ev.now _) ?_)
    rw [List.drop_length]
    rfl
  · intro i hi e
    simp only [spec_NodeOk.l0]
    refine ev_pos (by omega) (ev_pos (by omega) ?_)
    rw [wrap_nat (by omega), rd_nat, Int.toNat_natCast, drop_cons 0 bl i hi, blGo]
    refine ev_eq (decide_l1In _ _ _) ?_
    by_cases c : 0 ≤ bl.getD i 0 ∧ bl.getD i 0 ≤ 35
    · rw [decide_eq_true c]
      refine ev_pos rfl (ev_pos (by omega) (Ev.bind (spec_has _ _ (by rw [List.length_take]; omega)) ?_))
      by_cases c2 : bl.getD i 0 ∈ bl.take i
      · rw [decide_eq_true c2]
        exact ev_pos rfl (ev_cast (Ev.now _) (by simp))
      · rw [decide_eq_false c2]
        refine ev_neg (by simp) (ev_cast e ?_)
        rw [take_snoc 0 bl i hi]
        simp
    · rw [decide_eq_false c]
      exact ev_neg (by simp) (ev_cast (Ev.now _) (by simp))
theorem spec_NodeOk_j1 (b : Bool) (f0 f1 f2 f3 : Int) (bl : List Int) (h : bl.length ≤ 1099511627776) : Ev (fun k => spec_NodeOk.j1 k b f0 f1 f2 f3 bl) (!b && blGo [] bl) := by
  refine ev_shift ?_
  simp only [spec_NodeOk.j1]
  cases b
  · exact ev_neg (by simp) (ev_cast (spec_NodeOk_l f0 f1 f2 f3 bl h) (by simp))
  · exact ev_pos rfl (ev_cast (Ev.now _) (by simp))
theorem spec_NodeOk_j0 (b : Bool) (f0 f1 f2 f3 : Int) (bl : List Int) (h : bl.length ≤ 1099511627776) : Ev (fun k => spec_NodeOk.j0 k b f0 f1 f2 f3 bl) (!b && (!decide (f0 = 2 ∧ ¬ (f1 = 0 ∧ f2 = 0)) && blGo [] bl)) := by
  refine ev_shift ?_
  simp only [spec_NodeOk.j0]
  cases b
  · refine ev_neg (by simp) ?_
    by_cases c : f0 = 2
    · refine ev_pos c ?_
      by_cases c1 : f1 = 0
      · refine ev_pos c1 (ev_cast (spec_NodeOk_j1 _ f0 f1 f2 f3 bl h) ?_)
        by_cases c2 : f2 = 0 <;> simp [c, c1, c2]
      · refine ev_neg c1 (ev_cast (spec_NodeOk_j1 _ f0 f1 f2 f3 bl h) ?_)
        simp [c, c1]
    · refine ev_neg c (ev_cast (spec_NodeOk_j1 _ f0 f1 f2 f3 bl h) ?_)
      simp [c]
  · exact ev_pos rfl (ev_cast (Ev.now _) (by simp))
theorem spec_NodeOk_ev (f0 f1 f2 f3 : Int) (bl : List Int) (h : bl.length ≤ 1099511627776) : Ev (fun k => spec_NodeOk.f k f0 f1 f2 f3 bl) (nodeOk f0 f1 f2 f3 bl) := by
  have hj := spec_NodeOk_j0 true f0 f1 f2 f3 bl h
  unfold spec_NodeOk.f nodeOk
  by_cases c0 : f0 = 0
  · rw [if_pos c0]
    refine ev_pos c0 ?_
    by_cases c1 : f1 = 0
    · refine ev_pos c1 ?_
      by_cases c2 : f2 = 0
      · refine ev_pos c2 ?_
        by_cases c3 : f3 = 0
        · refine ev_pos c3 (ev_cast (Ev.now _) ?_)
          rw [decide_eq_true c1, decide_eq_true c2, decide_eq_true c3]
          cases bl <;> simp <;> omega
        · exact ev_neg c3 (ev_cast (Ev.now _) (by simp [c3]))
      · exact ev_neg c2 (ev_cast (Ev.now _) (by simp [c2]))
    · exact ev_neg c1 (ev_cast (Ev.now _) (by simp [c1]))
  · rw [if_neg c0]
    refine ev_neg c0 (ev_eq (decide_l1In _ _ _) ?_)
    by_cases c1 : 1 ≤ f0 ∧ f0 ≤ 3
    · rw [decide_eq_true c1]
      refine ev_pos rfl (ev_eq (decide_l1In _ _ _) ?_)
      by_cases c2 : 0 ≤ f1 ∧ f1 ≤ 1000000
      · rw [decide_eq_true c2]
        refine ev_pos rfl (ev_eq (decide_l1In _ _ _) ?_)
        by_cases c3 : 0 ≤ f2 ∧ f2 ≤ 100000
        · rw [decide_eq_true c3]
          refine ev_pos rfl (ev_eq (decide_l1In _ _ _) ?_)
          by_cases c4 : 0 ≤ f3 ∧ f3 ≤ 80
          · rw [decide_eq_true c4]
            refine ev_pos rfl (ev_eq (spec_bf _) (ev_cast (spec_NodeOk_j0 _ f0 f1 f2 f3 bl h) ?_))
            by_cases c5 : (bl.length : Int) = bfOf f3 <;> simp [c5]
          · rw [decide_eq_false c4]
            exact ev_neg (by simp) (ev_cast hj (by simp))
        · rw [decide_eq_false c3]
          exact ev_neg (by simp) (ev_cast hj (by simp))
      · rw [decide_eq_false c2]
        exact ev_neg (by simp) (ev_cast hj (by simp))
    · rw [decide_eq_false c1]
      exact ev_neg (by simp) (ev_cast hj (by simp))
theorem spec_putNum_l (n : Nat) : ∀ acc : List Int, n ≤ 2147483647 → acc.length + n ≤ 100000000000 → Ev (fun k => spec_PutNum.l0 k (n : Int) acc) (acc ++ putNat n) := by
  induction n using Nat.strongRecOn with
  | _ n ih =>
    intro acc hn ha
    apply ev_shift
    simp only [spec_PutNum.l0]
    by_cases h : n < 128
    · refine ev_neg (by omega) (ev_pos (by omega) ?_)
      refine ev_cast (Ev.now _) ?_
      rw [putNat_small h, Int.emod_eq_of_lt (by omega) (by omega)]
    · refine ev_pos (by omega) (ev_pos (by omega) ?_)
      have e1 : wrap64 (Int.tdiv (n : Int) 128) = ((n / 128 : Nat) : Int) := by
        rw [Int.tdiv_eq_ediv_of_nonneg (by omega), wrap_in (by omega) (by omega)]
        omega
      have e2 : wrap64 (Int.tmod (n : Int) 128 + 128) % 256 = ((n % 128 + 128 : Nat) : Int) := by
        rw [Int.tmod_eq_emod_of_nonneg (by omega), wrap_in (by omega) (by omega)]
        omega
      rw [e1, e2]
      refine ev_cast (ih (n / 128) (by omega) _ (by omega) (by simp; omega)) ?_
      rw [putNat_big h, List.append_assoc]
      rfl
theorem spec_PutNum_ev (n : Int) : Ev (fun k => spec_PutNum.f k n) (putNum n) := by
  unfold spec_PutNum.f
  refine ev_some ?_
  by_cases h : 0 ≤ n ∧ n ≤ 2147483647
  · refine ev_eq (a := true) (by unfold spec_l1In.f; rw [if_pos (by omega)]; simp; omega) (ev_pos rfl ?_)
    obtain ⟨m, rfl⟩ := Int.eq_ofNat_of_zero_le h.1
    refine ev_cast (spec_putNum_l m [] (by omega) (by simp; omega)) ?_
    rw [putNum, if_pos h]
    simp
  · refine ev_eq (a := false) (by unfold spec_l1In.f; split <;> simp <;> omega) (ev_neg (by simp) ?_)
    rw [putNum, if_neg h]
    exact Ev.now _
theorem spec_NodeText_ev (f0 f1 f2 f3 : Int) (bl : List Int) (h : bl.length ≤ 1048576) : Ev (fun k => spec_NodeText.f k f0 f1 f2 f3 bl) (nodeText f0 f1 f2 f3 bl) := by
  unfold spec_NodeText.f nodeText
  refine Ev.bind (spec_NodeOk_ev f0 f1 f2 f3 bl (by omega)) ?_
  cases nodeOk f0 f1 f2 f3 bl
  · exact ev_neg (by simp) (ev_cast (Ev.now _) (by simp))
  · refine ev_pos rfl (ev_some ?_)
    rw [if_pos rfl]
    by_cases c : f0 = 0
    · rw [if_pos c]
      exact ev_pos c (Ev.now _)
    · rw [if_neg c]
      have h1 := putNum_length f1
      have h2 := putNum_length f2
      have h3 := putNum_length f3
      refine ev_neg c (Ev.bind (spec_PutNum_ev _) (ev_pos ?_ (ev_some (Ev.bind (spec_PutNum_ev _) (ev_pos ?_ (ev_some (Ev.bind (spec_PutNum_ev _) (ev_pos ?_ ?_))))))))
      · rw [List.length_singleton]
        omega
      · rw [List.length_append, List.length_singleton]
        omega
      · rw [List.length_append, List.length_append, List.length_singleton]
        omega
      · have := ev_loop (fun k i => spec_NodeText.l0 k ([f0 % 256] ++ putNum f1 ++ putNum f2 ++ putNum f3 ++ (bl.take i).flatMap putNum) (i : Int) f0 f1 f2 f3 bl) (fun _ => strOfNums (nodeNums f0 f1 f2 f3 bl)) bl.length ?_ ?_ 0 (Nat.zero_le _)
        · simpa using this
        · simp only [spec_NodeText.l0]
          refine ev_neg (by omega) (ev_cast (Ev.now _) ?_)
          rw [List.take_length]
          unfold nodeNums
          simp
        · intro i hi e
          have hz := ats_len bl i (by omega)
          have hq := putNum_length (bl.getD i 0)
          simp only [spec_NodeText.l0]
          refine ev_pos (by omega) (ev_pos (by omega) (Ev.bind (spec_PutNum_ev _) (ev_pos ?_ ?_)))
          · rw [rd_nat, List.length_append, List.length_append, List.length_append, List.length_append, List.length_singleton]
            omega
          · rw [wrap_nat (by omega), rd_nat, List.append_assoc ([f0 % 256] ++ putNum f1 ++ putNum f2 ++ putNum f3), ← flat_snoc 0 putNum bl i hi]
            exact e
theorem DrawNodeOf_ev (l : List Int) (hl : l.length ≤ 140737488351232) : ∃ s : ByteArray, Ev (fun q => spec_DrawNodeOf.f q l) s ∧ s.size ≤ 1000 := by
  unfold spec_DrawNodeOf.f
  obtain ⟨h, e⟩ := l1New_ev l hl
  obtain ⟨k, g, t, s, bl, j, h', e2, hj0, hj1, hok, _⟩ := l5Right_ev l 0 h hl (by omega) (by omega)
  have hbl := nodeOk_len hok
  have e3 := spec_NodeText_ev k g t s bl (by omega)
  have hz := nodeText_size k g t s bl
  have hp := nodeText_pos hok
  generalize nodeText k g t s bl = x at e3 hz hp
  have hy : (bytesOf x).length = x.size := bytesOf_length x
  obtain ⟨b, j2, g2, e4, _, _, _, hj2, hj3⟩ := l1Below_some l j h' 6 hl hj0 hj1
  have go : ∀ {r : ByteArray} {f : Nat → List Int → Option ByteArray}, Ev (fun q => f q (bytesOf x)) r → Ev (fun q => if x.size ≤ 9223372036854775807 then ((some (bytesOf x : List Int)).bind (f q)) else none) r := fun z => ev_pos (by omega) (ev_some z)
  by_cases c0 : b = 0
  · obtain ⟨v, j3, g3, e5, hv0, hv1, _, _, _⟩ := l1Below_some l j2 g2 (wrap64 (((bytesOf x).length : Int) + 1)) hl hj2 hj3
    have hw : wrap64 (((bytesOf x).length : Int) + 1) = ((bytesOf x).length : Int) + 1 := wrap_in (by omega) (by omega)
    rw [hw] at hv1
    clear hw
    have hv := hv1 (by omega)
    clear hv1
    exact ⟨_, Ev.bind e (Ev.bind e2 (Ev.bind e3 (go (ev_eq e4 (ev_pos c0 (ev_eq e5 (ev_pos hv0 (ev_pos (show v ≤ ((bytesOf x).length : Int) by omega) (Ev.now _))))))))), by rw [strOfNums_size, List.length_take]; omega⟩
  by_cases c1 : b = 1
  · obtain ⟨v, j3, g3, e5, _⟩ := l1Below_some l j2 g2 3 hl hj2 hj3
    exact ⟨_, Ev.bind e (Ev.bind e2 (Ev.bind e3 (go (ev_eq e4 (ev_neg c0 (ev_pos c1 (ev_eq e5 (ev_pos (show (bytesOf x).length < 140737488355328 by omega) (Ev.now _))))))))), by rw [strOfNums_size, List.length_append, List.length_singleton]; omega⟩
  by_cases c2 : b = 2
  · obtain ⟨v, j3, g3, e5, hv0, hv1, _, hj4, hj5⟩ := l1Below_some l j2 g2 ((bytesOf x).length : Int) hl hj2 hj3
    have hv := hv1 (by omega)
    obtain ⟨y, j4, g4, e6, _⟩ := l1Byte_some l j3 g3 hl hj4 hj5
    exact ⟨_, Ev.bind e (Ev.bind e2 (Ev.bind e3 (go (ev_eq e4 (ev_neg c0 (ev_neg c1 (ev_pos c2 (ev_eq e5 (ev_eq e6 (ev_pos hv0 (ev_pos hv (Ev.now _)))))))))))), by rw [strOfNums_size, List.length_set]; omega⟩
  exact ⟨_, Ev.bind e (Ev.bind e2 (Ev.bind e3 (go (ev_eq e4 (ev_neg c0 (ev_neg c1 (ev_neg c2 (Ev.now _)))))))), by rw [strOfNums_size]; omega⟩
theorem l5Draw_ev (l : List Int) (i h : Int) (hl : l.length ≤ 140737488351232) (h0 : 0 ≤ i) (h1 : i ≤ l.length) :
    ∃ (k g t s : Int) (bl : List Int) (j h' : Int), Ev (fun q => spec_l5Draw.f q l i h) (k, g, t, s, bl, j, h') ∧ bl.length ≤ 6 := by
  unfold spec_l5Draw.f
  obtain ⟨k, g, t, s, bl, j, h', e, hj0, hj1, hok, hs⟩ := l5Right_ev l i h hl h0 h1
  have hbl := nodeOk_len hok
  obtain ⟨b, j2, g2, e2, _, _, _, hj2, hj3⟩ := l1Below_some l j h' 14 hl hj0 hj1
  by_cases c0 : b = 0
  · obtain ⟨v, j3, g3, e3, _⟩ := l1PickInt_some l j2 g2 [(-1), 4, 2] hl hj2 hj3 (by simp)
    exact ⟨_, _, _, _, _, _, _, Ev.bind e (ev_eq e2 (ev_pos c0 (ev_eq e3 (Ev.now _)))), by show bl.length ≤ 6; omega⟩
  by_cases c1 : b = 1
  · obtain ⟨v, j3, g3, e3, _⟩ := l1PickInt_some l j2 g2 [(-1), 1000001, 3] hl hj2 hj3 (by simp)
    exact ⟨_, _, _, _, _, _, _, Ev.bind e (ev_eq e2 (ev_neg c0 (ev_pos c1 (ev_eq e3 (Ev.now _))))), by show bl.length ≤ 6; omega⟩
  by_cases c2 : b = 2
  · obtain ⟨v, j3, g3, e3, _⟩ := l1PickInt_some l j2 g2 [(-1), 100001] hl hj2 hj3 (by simp)
    exact ⟨_, _, _, _, _, _, _, Ev.bind e (ev_eq e2 (ev_neg c0 (ev_neg c1 (ev_pos c2 (ev_eq e3 (Ev.now _)))))), by show bl.length ≤ 6; omega⟩
  by_cases c3 : b = 3
  · obtain ⟨v, j3, g3, e3, _⟩ := l1PickInt_some l j2 g2 [(-1), 81, wrap64 (s + 16)] hl hj2 hj3 (by simp)
    exact ⟨_, _, _, _, _, _, _, Ev.bind e (ev_eq e2 (ev_neg c0 (ev_neg c1 (ev_neg c2 (ev_pos c3 (ev_eq e3 (Ev.now _))))))), by show bl.length ≤ 6; omega⟩
  by_cases c4 : b = 4
  · obtain ⟨v, j3, g3, e3, _⟩ := l1PickInt_some l j2 g2 [0, 36, (-1)] hl hj2 hj3 (by simp)
    exact ⟨_, _, _, _, _, _, _, Ev.bind e (ev_eq e2 (ev_neg c0 (ev_neg c1 (ev_neg c2 (ev_neg c3 (ev_pos c4 (ev_eq e3 (ev_pos (show bl.length < 17592186044416 by omega) (Ev.now _))))))))), by show (bl ++ [v]).length ≤ 6; rw [List.length_append, List.length_singleton]; omega⟩
  by_cases c5 : b = 5
  · by_cases c6 : (bl.length : Int) > 1
    · exact ⟨_, _, _, _, _, _, _, Ev.bind e (ev_eq e2 (ev_neg c0 (ev_neg c1 (ev_neg c2 (ev_neg c3 (ev_neg c4 (ev_pos c5 (ev_pos c6 (ev_pos (show (1 : Int) < (bl.length : Int) by omega) (ev_pos (show (0 : Int) < (bl.length : Int) by omega) (Ev.now _))))))))))), by show (bl.set (0 : Int).toNat (rd bl 1)).length ≤ 6; rw [List.length_set]; omega⟩
    · exact ⟨_, _, _, _, _, _, _, Ev.bind e (ev_eq e2 (ev_neg c0 (ev_neg c1 (ev_neg c2 (ev_neg c3 (ev_neg c4 (ev_pos c5 (ev_neg c6 (Ev.now _))))))))), by show bl.length ≤ 6; omega⟩
  exact ⟨_, _, _, _, _, _, _, Ev.bind e (ev_eq e2 (ev_neg c0 (ev_neg c1 (ev_neg c2 (ev_neg c3 (ev_neg c4 (ev_neg c5 (Ev.now _)))))))), by show bl.length ≤ 6; omega⟩
theorem DrawNodeText_ev (l : List Int) (hl : l.length ≤ 140737488351232) : ∃ (k g t s : Int) (bl : List Int), Ev (fun q => spec_DrawNodeText.f q l) (k, g, t, s, bl) ∧ bl.length ≤ 6 := by
  unfold spec_DrawNodeText.f
  obtain ⟨h, e⟩ := l1New_ev l hl
  obtain ⟨k, g, t, s, bl, j, h', e2, hb⟩ := l5Draw_ev l 0 h hl (by omega) (by omega)
  exact ⟨k, g, t, s, bl, Ev.bind e (Ev.bind e2 (Ev.now _)), hb⟩
theorem bytesOf_range (s : ByteArray) : ∀ x ∈ bytesOf s, 0 ≤ x ∧ x ≤ 255 := by
  intro x hx
  simp only [bytesOf, List.mem_map] at hx
  obtain ⟨b, _, rfl⟩ := hx
  have := b.toNat_lt
  omega
def gAcc (n d k : Nat) : Nat := n + d % 128 * 2 ^ (7 * k)
def getGo (b : List Int) (a : Nat) : Nat → Nat → Nat → Int × Int × Bool
  | 0, _, _ => (0, 0, false)
  | f + 1, k, n => if a + k < b.length then
      (if (b.getD (a + k) 0).toNat < 128 then
        (if (0 < k ∧ (b.getD (a + k) 0).toNat = 0) ∨ gAcc n (b.getD (a + k) 0).toNat k > 2147483647 then (0, 0, false)
         else ((gAcc n (b.getD (a + k) 0).toNat k : Int), ((a + k + 1 : Nat) : Int), true))
       else getGo b a f (k + 1) (gAcc n (b.getD (a + k) 0).toNat k))
    else (0, 0, false)
def getNum (b : List Int) (a : Int) : Int × Int × Bool := if 0 ≤ a then getGo b a.toNat 5 0 0 else (0, 0, false)
def gOk (k n : Nat) : Prop := n < 2 ^ (7 * k)
theorem gOk_zero : gOk 0 0 := by
  unfold gOk
  decide
theorem pow7 (n m k : Nat) (hn : n < 2 ^ (7 * k)) (hm : m < 128) : n + m * 2 ^ (7 * k) < 2 ^ (7 * (k + 1)) := by
  have e : 2 ^ (7 * (k + 1)) = 128 * 2 ^ (7 * k) := by rw [Nat.mul_add, Nat.pow_add, Nat.mul_comm]
  rw [e]
  have : (m + 1) * 2 ^ (7 * k) ≤ 128 * 2 ^ (7 * k) := Nat.mul_le_mul_right _ (by omega)
  rw [Nat.add_mul] at this
  omega
theorem gOk_step {k n : Nat} (d : Nat) (h : gOk k n) : gOk (k + 1) (gAcc n d k) := pow7 n (d % 128) k h (by omega)
theorem pow_split (n k : Nat) : n % 128 * 2 ^ (7 * k) + n / 128 * 2 ^ (7 * (k + 1)) = n * 2 ^ (7 * k) := by
  have e2 : 2 ^ (7 * (k + 1)) = 128 * 2 ^ (7 * k) := by rw [Nat.mul_add, Nat.pow_add, Nat.mul_comm]
  rw [e2, ← Nat.mul_assoc, ← Nat.add_mul]
  congr 1
  omega
/-- What getGo reads is what putNat writes: no number has two encodings. -/
theorem getGo_conv (b : List Int) (hb : ∀ x ∈ b, 0 ≤ x ∧ x ≤ 255) (a : Nat) (f : Nat) : ∀ (k m : Nat) (x nx : Int), gOk k m → getGo b a f k m = (x, nx, true) →
    ∃ n : Nat, x = ((m + n * 2 ^ (7 * k) : Nat) : Int) ∧ (k = 0 ∨ 0 < n) ∧ m + n * 2 ^ (7 * k) ≤ 2147483647 ∧ nx = ((a + k + (putNat n).length : Nat) : Int) ∧ b.drop (a + k) = putNat n ++ b.drop (a + k + (putNat n).length) := by
  induction f with
  | zero =>
    intro k m x nx _ h
    rw [getGo] at h
    cases h
  | succ f ih =>
    intro k m x nx hg h
    rw [getGo] at h
    split at h
    · rename_i hi
      have hr := hb _ (getD_mem 0 b (a + k) hi)
      obtain ⟨d, hd⟩ : ∃ d : Nat, b.getD (a + k) 0 = (d : Int) := ⟨(b.getD (a + k) 0).toNat, by omega⟩
      have hdr := drop_cons 0 b (a + k) hi
      rw [hd] at h hr hdr
      rw [Int.toNat_natCast] at h
      split at h
      · rename_i h1
        split at h
        · cases h
        · rename_i h2
          simp only [Prod.mk.injEq] at h
          obtain ⟨hx, hn, _⟩ := h
          have ea : gAcc m d k = m + d * 2 ^ (7 * k) := by unfold gAcc; rw [Nat.mod_eq_of_lt h1]
          rw [ea] at h2 hx
          refine ⟨d, hx.symm, by omega, by omega, ?_, ?_⟩
          · rw [putNat_small h1, List.length_singleton]
            exact hn.symm
          · rw [putNat_small h1, List.length_singleton]
            exact hdr
      · rename_i h1
        obtain ⟨n, hx, hz, hm, hn, hq⟩ := ih (k + 1) _ x nx (gOk_step d hg) h
        have e1 : (d % 128 + 128 * n) % 128 = d % 128 := by omega
        have e2 : (d % 128 + 128 * n) / 128 = n := by omega
        have e3 : ¬ d % 128 + 128 * n < 128 := by omega
        have ep : putNat (d % 128 + 128 * n) = ((d : Nat) : Int) :: putNat n := by
          rw [putNat_big e3, e1, e2, show d % 128 + 128 = d by omega]
        have es : gAcc m d k + n * 2 ^ (7 * (k + 1)) = m + (d % 128 + 128 * n) * 2 ^ (7 * k) := by
          have := pow_split (d % 128 + 128 * n) k
          rw [e1, e2] at this
          unfold gAcc
          rw [Nat.add_assoc, this]
        rw [es] at hx hm
        refine ⟨d % 128 + 128 * n, hx, .inr (by omega), hm, ?_, ?_⟩
        · rw [hn, ep, List.length_cons]
          congr 1
          omega
        · rw [ep, hdr, List.length_cons, show a + k + 1 = a + (k + 1) by omega, hq, show a + (k + 1) + (putNat n).length = a + k + ((putNat n).length + 1) by omega]
          rfl
    · cases h
theorem getNum_conv (b : List Int) (hb : ∀ x ∈ b, 0 ≤ x ∧ x ≤ 255) (a : Nat) (h : (getNum b (a : Int)).2.2 = true) :
    ∃ n : Nat, n ≤ 2147483647 ∧ getNum b (a : Int) = ((n : Int), ((a + (putNat n).length : Nat) : Int), true) ∧ b.drop a = putNat n ++ b.drop (a + (putNat n).length) := by
  obtain ⟨x, nx, t, e⟩ : ∃ x nx t, getNum b (a : Int) = (x, nx, t) := ⟨_, _, _, rfl⟩
  rw [e] at h
  have ht : t = true := h
  subst ht
  have e' := e
  unfold getNum at e'
  rw [if_pos (by omega), Int.toNat_natCast] at e'
  obtain ⟨n, hx, _, hm, hn, hd⟩ := getGo_conv b hb a 5 0 0 x nx gOk_zero e'
  simp only [Nat.mul_zero, Nat.pow_zero, Nat.mul_one, Nat.zero_add, Nat.add_zero] at hx hm hn hd
  exact ⟨n, hm, by rw [e, hx, hn], hd⟩
def noNode : (Int × Int × Int × Int × List Int × Bool) := (0, 0, 0, 0, [], false)
def implEnd (s : ByteArray) (c : Int) (ns : List Int) : (Int × Int × Int × Int × List Int × Bool) :=
  if 3 ≤ ns.length then (if nodeText c (ns.getD 0 0) (ns.getD 1 0) (ns.getD 2 0) (ns.drop 3) = s then (c, ns.getD 0 0, ns.getD 1 0, ns.getD 2 0, ns.drop 3, true) else noNode)
  else (if nodeText c 0 0 0 [] = s then (c, 0, 0, 0, [], true) else noNode)
theorem getGo_out (b : List Int) (a : Nat) (h : b.length ≤ a) (f k n : Nat) : getGo b a f k n = (0, 0, false) := by
  cases f with
  | zero => rfl
  | succ f => rw [getGo, if_neg (by omega)]
theorem add_wrap {a k : Nat} (ha : a ≤ 140737488351232) (hk : k ≤ 5) : wrap64 ((a : Int) + (k : Int)) = ((a + k : Nat) : Int) := by
  rw [wrap_in (by omega) (by omega)]
  omega
theorem byte_wrap {d : Nat} (hd : d ≤ 255) : wrap64 (d : Int) = d := wrap_in (by omega) (by omega)
theorem and127 (x : Int) (h0 : 0 ≤ x) (h1 : x < 9223372036854775808) : Go.bits .and .i64 x 127 = x % 128 :=
  bits_mask .i64 63 (by decide) wraps_i64 7 (by decide) x h0 (by omega)
theorem or_comm64 (a b : Nat) (ha : a < 2 ^ 63) (hb : b < 2 ^ 63) : Go.bits .or .i64 (a : Int) (b : Int) = Go.bits .or .i64 (b : Int) (a : Int) := by
  rw [(bits_nat .i64 63 (by decide) wraps_i64 a b ha hb).2, (bits_nat .i64 63 (by decide) wraps_i64 b a hb ha).2, Nat.or_comm]
theorem or7 (n m k : Nat) (hn : n < 2 ^ (7 * k)) (hm : m < 128) (hk : k ≤ 4) : Go.bits .or .i64 (n : Int) ((m * 2 ^ (7 * k) : Nat) : Int) = ((n + m * 2 ^ (7 * k) : Nat) : Int) := by
  have hp : 2 ^ (7 * k) ≤ 268435456 := Nat.pow_le_pow_right (n := 2) (by omega) (show 7 * k ≤ 28 by omega)
  have h0 : 0 < 2 ^ (7 * k) := Nat.two_pow_pos _
  have hx : m * 2 ^ (7 * k) < 2 ^ 63 := Nat.lt_of_le_of_lt (Nat.mul_le_mul (show m ≤ 127 by omega) hp) (by decide)
  have hz : ((m * 2 ^ (7 * k) : Nat) : Int) % 2 ^ (7 * k) = 0 := by
    simp
  have hy : (n : Int) < 2 ^ (7 * k) := by exact_mod_cast hn
  have hn2 : n < 2 ^ 63 := by omega
  rw [or_comm64 n _ hn2 hx]
  have := bits_join .i64 63 (by decide) wraps_i64 (7 * k) ((m * 2 ^ (7 * k) : Nat) : Int) (n : Int) (Int.natCast_nonneg _) hz (by exact_mod_cast hx) (Int.natCast_nonneg _) hy (by exact_mod_cast hn2)
  rw [this]
  omega
theorem shl7 (d k : Nat) (hd : d < 128) (hk : k ≤ 4) : shl .i64 (d : Int) (wrap64 (7 * (k : Int))) = ((d * 2 ^ (7 * k) : Nat) : Int) := by
  have h : k = 0 ∨ k = 1 ∨ k = 2 ∨ k = 3 ∨ k = 4 := by omega
  unfold shl
  rw [wrap_in (by omega) (by omega)]
  rcases h with rfl | rfl | rfl | rfl | rfl <;> (simp [IntKind.bits]; try (rw [wraps_i64 _ (by omega) (by omega)]))
theorem impl_acc {n d k : Nat} (hd : d ≤ 255) (hk : k ≤ 4) (h : gOk k n) : Go.bits .or .i64 (n : Int) (shl .i64 (Go.bits .and .i64 (wrap64 (d : Int)) 127) (wrap64 (7 * (k : Int)))) = (gAcc n d k : Int) := by
  have e3 : Go.bits .and .i64 (wrap64 (d : Int)) 127 = ((d % 128 : Nat) : Int) := by
    rw [wrap_in (by omega) (by omega), and127 _ (by omega) (by omega)]
    omega
  rw [e3, shl7 (d % 128) k (by omega) hk]
  exact or7 n (d % 128) k h (by omega) hk
theorem seven_pos {k : Nat} (hk : k ≤ 4) : 0 ≤ wrap64 (7 * (k : Int)) := by
  rw [wrap_in (by omega) (by omega)]
  omega
theorem impl_getNum_l (b : List Int) (hl : b.length ≤ 140737488351232) (hb : ∀ x ∈ b, 0 ≤ x ∧ x ≤ 255) (a : Nat) (ha : a ≤ b.length) (f : Nat) : ∀ (k n : Nat), k + f = 5 → gOk k n →
    Ev (fun j => impl_GetNum.l0 j b (a : Int) (n : Int) (k : Int)) (getGo b a f k n) := by
  induction f with
  | zero =>
    intro k n hk hn
    apply ev_shift
    simp only [impl_GetNum.l0]
    refine ev_neg (by omega) ?_
    apply ev_shift
    simp only [impl_GetNum.j1]
    exact ev_neg (by simp) (Ev.now _)
  | succ f ih =>
    intro k n hk hn
    have hk4 : k ≤ 4 := by omega
    apply ev_shift
    simp only [impl_GetNum.l0]
    refine ev_pos (by omega) ?_
    apply ev_shift
    simp only [impl_GetNum.j1, getGo]
    rw [add_wrap (by omega) (by omega)]
    by_cases hin : a + k < b.length
    · refine ev_pos (by simp; omega) ?_
      rw [if_pos hin, rd_nat]
      have hm := hb _ (getD_mem 0 b (a + k) hin)
      generalize b.getD (a + k) 0 = d at hm ⊢
      obtain ⟨c, rfl⟩ := Int.eq_ofNat_of_zero_le hm.1
      have hc : c ≤ 255 := by omega
      have e11 := ih (k + 1) _ (by omega) (gOk_step c hn)
      rw [impl_acc hc hk4 hn, Int.toNat_natCast, byte_wrap hc, wrap_nat (i := a + k) (by omega), wrap_nat (i := k) (by omega)]
      generalize gAcc n c k = m at e11 ⊢
      clear hn ih
      refine ev_pos (by omega) (ev_pos (by omega) (ev_pos (seven_pos hk4) ?_))
      by_cases h1 : c < 128
      · refine ev_neg (by omega) ?_
        rw [if_pos h1]
        by_cases h3 : c = 0
        · refine ev_pos (by omega) ?_
          by_cases h2 : k > 0
          · refine ev_pos (by omega) ?_
            rw [if_pos (.inl ⟨h2, h3⟩)]
            exact Ev.now _
          · refine ev_neg (by omega) ?_
            by_cases h4 : m > 2147483647
            · refine ev_pos (by omega) ?_
              rw [if_pos (.inr h4)]
              exact Ev.now _
            · refine ev_neg (by omega) ?_
              rw [if_neg (by omega)]
              exact Ev.now _
        · refine ev_neg (by omega) ?_
          by_cases h4 : m > 2147483647
          · refine ev_pos (by omega) ?_
            rw [if_pos (.inr h4)]
            exact Ev.now _
          · refine ev_neg (by omega) ?_
            rw [if_neg (by omega)]
            exact Ev.now _
      · refine ev_pos (by omega) ?_
        rw [if_neg h1]
        exact e11
    · refine ev_neg (by simp; omega) ?_
      rw [if_neg hin]
      exact Ev.now _
theorem impl_GetNum_ev (b : List Int) (a : Int) (hl : b.length ≤ 140737488351232) (hb : ∀ x ∈ b, 0 ≤ x ∧ x ≤ 255) : Ev (fun k => impl_GetNum.f k b a) (getNum b a) := by
  unfold impl_GetNum.f getNum
  by_cases h : 0 ≤ a ∧ a ≤ b.length
  · rw [if_pos h.1]
    refine ev_eq (a := true) (by unfold impl_within.f; rw [if_pos (by omega)]; simp; omega) (ev_pos rfl ?_)
    obtain ⟨n, rfl⟩ := Int.eq_ofNat_of_zero_le h.1
    exact impl_getNum_l b hl hb n (by omega) 5 0 0 (by omega) gOk_zero
  · refine ev_eq (a := false) (by unfold impl_within.f; split <;> simp <;> omega) (ev_neg (by simp) (ev_cast (Ev.now _) ?_))
    by_cases h0 : 0 ≤ a
    · rw [if_pos h0, getGo_out b a.toNat (by omega)]
    · rw [if_neg h0]
theorem decide_within (a lo hi : Int) : impl_within.f a lo hi = some (decide (lo ≤ a ∧ a ≤ hi)) := by
  unfold impl_within.f
  by_cases h : a ≥ lo
  · rw [if_pos h]
    congr 1
    rw [decide_eq_decide]
    omega
  · rw [if_neg h]
    congr 1
    symm
    rw [decide_eq_false_iff_not]
    omega
theorem index_int (l : List Int) (b : Int) (h : l.length ≤ 1099511627776) : ∃ r : Int, Ev (fun k => slices_Index_int_int.f k l b) r ∧ (r ≥ 0 ↔ b ∈ l) := by
  unfold slices_Index_int_int.f
  have key : ∀ (d i : Nat), i + d = l.length → ∃ r : Int, Ev (fun k => slices_Index_int_int.l0 k l b (l.length : Int) (i : Int)) r ∧ (r ≥ 0 ↔ b ∈ l.drop i) := by
    intro d
    induction d with
    | zero =>
      intro i hi
      refine ⟨-1, ev_shift ?_, ?_⟩
      · simp only [slices_Index_int_int.l0]
        exact ev_neg (by omega) (Ev.now _)
      · rw [List.drop_eq_nil_of_le (by omega)]
        simp
    | succ d ih =>
      intro i hi
      by_cases hc : b = l.getD i 0
      · refine ⟨i, ev_shift ?_, ?_⟩
        · simp only [slices_Index_int_int.l0]
          refine ev_pos (by omega) (ev_pos (by omega) (ev_pos (by omega) ?_))
          rw [rd_nat]
          exact ev_pos hc (Ev.now _)
        · rw [drop_cons 0 l i (by omega), ← hc]
          simp
      · obtain ⟨r, e, hr⟩ := ih (i + 1) (by omega)
        refine ⟨r, ev_shift ?_, ?_⟩
        · simp only [slices_Index_int_int.l0]
          refine ev_pos (by omega) (ev_pos (by omega) (ev_pos (by omega) ?_))
          rw [rd_nat, wrap_nat (by omega)]
          exact ev_neg hc e
        · rw [hr, drop_cons 0 l i (by omega), List.mem_cons]
          exact ⟨fun z => .inr z, fun z => z.resolve_left hc⟩
  obtain ⟨r, e, hr⟩ := key l.length 0 (by omega)
  exact ⟨r, e, hr⟩
theorem contains_int (l : List Int) (b : Int) (h : l.length ≤ 1099511627776) : Ev (fun k => slices_Contains_int_int.f k l b) (decide (b ∈ l)) := by
  unfold slices_Contains_int_int.f
  obtain ⟨r, e, hr⟩ := index_int l b h
  refine Ev.bind e (ev_cast (Ev.now _) ?_)
  rw [decide_eq_decide]
  exact hr
theorem impl_NodeOk_l (f0 f1 f2 f3 : Int) (bl : List Int) (h : bl.length ≤ 1099511627776) : Ev (fun k => impl_NodeOk.l0 k bl (bl.length : Int) 0 f0 f1 f2 f3 bl) (blGo [] bl) := by
  have := ev_loop (fun k i => impl_NodeOk.l0 k bl (bl.length : Int) (i : Int) f0 f1 f2 f3 bl) (fun i => blGo (bl.take i) (bl.drop i)) bl.length ?_ ?_ 0 (Nat.zero_le _)
  · simpa using this
  · simp only [impl_NodeOk.l0]
    refine ev_neg (by omega) (ev_cast (Ev.now _) ?_)
    rw [List.drop_length]
    rfl
  · intro i hi e
    simp only [impl_NodeOk.l0]
    refine ev_pos (by omega) (ev_pos (by omega) (ev_pos (by omega) ?_))
    rw [wrap_nat (by omega), rd_nat, Int.toNat_natCast, drop_cons 0 bl i hi, blGo]
    refine ev_eq (decide_within _ _ _) ?_
    by_cases c : 0 ≤ bl.getD i 0 ∧ bl.getD i 0 ≤ 35
    · rw [decide_eq_true c]
      refine ev_pos rfl (ev_pos (by omega) (Ev.bind (contains_int _ _ (by rw [List.length_take]; omega)) ?_))
      by_cases c2 : bl.getD i 0 ∈ bl.take i
      · rw [decide_eq_true c2]
        exact ev_pos rfl (ev_cast (Ev.now _) (by simp))
      · rw [decide_eq_false c2]
        refine ev_neg (by simp) (ev_cast e ?_)
        rw [take_snoc 0 bl i hi]
        simp
    · rw [decide_eq_false c]
      exact ev_neg (by simp) (ev_cast (Ev.now _) (by simp))
theorem impl_NodeOk_j1 (b : Bool) (f0 f1 f2 f3 : Int) (bl : List Int) (h : bl.length ≤ 1099511627776) : Ev (fun k => impl_NodeOk.j1 k b f0 f1 f2 f3 bl) (!b && blGo [] bl) := by
  refine ev_shift ?_
  simp only [impl_NodeOk.j1]
  cases b
  · exact ev_neg (by simp) (ev_cast (impl_NodeOk_l f0 f1 f2 f3 bl h) (by simp))
  · exact ev_pos rfl (ev_cast (Ev.now _) (by simp))
theorem impl_bf (a : Int) : impl_BlocksFor.f a = some (bfOf a) := by
  unfold impl_BlocksFor.f bfOf
  by_cases h0 : a ≤ 0
  · rw [if_pos h0, if_pos h0]
  · rw [if_neg h0, if_neg h0]
    by_cases h1 : a > 80
    · rw [if_pos h1, if_pos h1]
    · rw [if_neg h1, if_neg h1]
theorem impl_NodeOk_j0 (b : Bool) (f0 f1 f2 f3 : Int) (bl : List Int) (h : bl.length ≤ 1099511627776) : Ev (fun k => impl_NodeOk.j0 k b f0 f1 f2 f3 bl) (!b && (decide ((bl.length : Int) = bfOf f3) && (!decide (f0 = 2 ∧ ¬ (f1 = 0 ∧ f2 = 0)) && blGo [] bl))) := by
  have hf : (!((bl.length : Int) != bfOf f3)) = decide ((bl.length : Int) = bfOf f3) := by
    by_cases c5 : (bl.length : Int) = bfOf f3 <;> simp [c5]
  refine ev_shift ?_
  simp only [impl_NodeOk.j0]
  cases b
  · refine ev_neg (by simp) ?_
    by_cases c : f0 = 2
    · refine ev_pos c ?_
      by_cases c1 : f1 = 0
      · refine ev_pos c1 ?_
        by_cases c2 : f2 = 0
        · refine ev_pos c2 (ev_eq (impl_bf _) (ev_cast (impl_NodeOk_j1 _ f0 f1 f2 f3 bl h) ?_))
          rw [hf]
          simp [c1, c2]
        · refine ev_neg c2 (ev_cast (impl_NodeOk_j1 _ f0 f1 f2 f3 bl h) ?_)
          simp [c, c1, c2]
      · refine ev_neg c1 (ev_cast (impl_NodeOk_j1 _ f0 f1 f2 f3 bl h) ?_)
        simp [c, c1]
    · refine ev_neg c (ev_eq (impl_bf _) (ev_cast (impl_NodeOk_j1 _ f0 f1 f2 f3 bl h) ?_))
      rw [hf]
      simp [c]
  · exact ev_pos rfl (ev_cast (Ev.now _) (by simp))
theorem impl_NodeOk_ev (f0 f1 f2 f3 : Int) (bl : List Int) (h : bl.length ≤ 1099511627776) : Ev (fun k => impl_NodeOk.f k f0 f1 f2 f3 bl) (nodeOk f0 f1 f2 f3 bl) := by
  have hj := impl_NodeOk_j0 true f0 f1 f2 f3 bl h
  unfold impl_NodeOk.f nodeOk
  by_cases c0 : f0 = 0
  · rw [if_pos c0]
    refine ev_pos c0 ?_
    by_cases c1 : f1 = 0
    · refine ev_pos c1 ?_
      by_cases c2 : f2 = 0
      · refine ev_pos c2 ?_
        by_cases c3 : f3 = 0
        · refine ev_pos c3 (ev_cast (Ev.now _) ?_)
          rw [decide_eq_true c1, decide_eq_true c2, decide_eq_true c3]
          cases bl <;> simp <;> omega
        · exact ev_neg c3 (ev_cast (Ev.now _) (by simp [c3]))
      · exact ev_neg c2 (ev_cast (Ev.now _) (by simp [c2]))
    · exact ev_neg c1 (ev_cast (Ev.now _) (by simp [c1]))
  · rw [if_neg c0]
    refine ev_neg c0 (ev_eq (decide_within _ _ _) ?_)
    by_cases c1 : 1 ≤ f0 ∧ f0 ≤ 3
    · rw [decide_eq_true c1]
      refine ev_pos rfl (ev_eq (decide_within _ _ _) ?_)
      by_cases c2 : 0 ≤ f1 ∧ f1 ≤ 1000000
      · rw [decide_eq_true c2]
        refine ev_pos rfl (ev_eq (decide_within _ _ _) ?_)
        by_cases c3 : 0 ≤ f2 ∧ f2 ≤ 100000
        · rw [decide_eq_true c3]
          refine ev_pos rfl (ev_eq (decide_within _ _ _) ?_)
          refine ev_cast (impl_NodeOk_j0 _ f0 f1 f2 f3 bl h) ?_
          rw [Bool.not_not]
          simp only [Bool.true_and]
        · rw [decide_eq_false c3]
          exact ev_neg (by simp) (ev_cast hj (by simp))
      · rw [decide_eq_false c2]
        exact ev_neg (by simp) (ev_cast hj (by simp))
    · rw [decide_eq_false c1]
      exact ev_neg (by simp) (ev_cast hj (by simp))
theorem or128 (y : Int) (h0 : 0 ≤ y) (h1 : y < 128) : Go.bits .or .i64 y 128 = y + 128 := by
  obtain ⟨b, rfl⟩ := Int.eq_ofNat_of_zero_le h0
  have e3 := bits_join .i64 63 (by decide) wraps_i64 7 128 (b : Int) (by decide) (by decide) (by decide) h0 (by omega) (by omega)
  have e4 : Go.bits .or .i64 (b : Int) ((128 : Nat) : Int) = Go.bits .or .i64 ((128 : Nat) : Int) (b : Int) := or_comm64 b 128 (by omega) (by omega)
  rw [Int.cast_ofNat_Int] at e4
  rw [e4, e3]
  omega
theorem impl_putNum_l (n : Nat) : ∀ acc : List Int, n ≤ 2147483647 → acc.length + n ≤ 100000000000 → Ev (fun k => impl_PutNum.l0 k (n : Int) acc) (acc ++ putNat n) := by
  induction n using Nat.strongRecOn with
  | _ n ih =>
    intro acc hn ha
    apply ev_shift
    simp only [impl_PutNum.l0]
    by_cases h : n < 128
    · refine ev_neg (by omega) (ev_pos (by omega) ?_)
      refine ev_cast (Ev.now _) ?_
      rw [putNat_small h, Int.emod_eq_of_lt (by omega) (by omega)]
    · refine ev_pos (by omega) (ev_pos (by omega) ?_)
      have e1 : (n : Int) / 128 = ((n / 128 : Nat) : Int) := by omega
      have e2 : (Go.bits .or .i64 (Go.bits .and .i64 (n : Int) 127) 128) % 256 = ((n % 128 + 128 : Nat) : Int) := by
        rw [and127 _ (by omega) (by omega), or128 _ (by omega) (by omega)]
        omega
      rw [e1, e2]
      refine ev_cast (ih (n / 128) (by omega) _ (by omega) (by simp; omega)) ?_
      rw [putNat_big h, List.append_assoc]
      rfl
theorem impl_PutNum_ev (n : Int) : Ev (fun k => impl_PutNum.f k n) (putNum n) := by
  unfold impl_PutNum.f
  by_cases h : 0 ≤ n ∧ n ≤ 2147483647
  · refine ev_eq (a := true) (by unfold impl_within.f; rw [if_pos (by omega)]; simp; omega) (ev_pos rfl ?_)
    obtain ⟨m, rfl⟩ := Int.eq_ofNat_of_zero_le h.1
    refine ev_cast (impl_putNum_l m [] (by omega) (by simp; omega)) ?_
    rw [putNum, if_pos h]
    simp
  · refine ev_eq (a := false) (by unfold impl_within.f; split <;> simp <;> omega) (ev_neg (by simp) ?_)
    rw [putNum, if_neg h]
    exact Ev.now _
theorem impl_NodeText_ev (f0 f1 f2 f3 : Int) (bl : List Int) (h : bl.length ≤ 1048576) : Ev (fun k => impl_NodeText.f k f0 f1 f2 f3 bl) (nodeText f0 f1 f2 f3 bl) := by
  unfold impl_NodeText.f nodeText
  refine Ev.bind (impl_NodeOk_ev f0 f1 f2 f3 bl (by omega)) ?_
  cases nodeOk f0 f1 f2 f3 bl
  · exact ev_neg (by simp) (ev_cast (Ev.now _) (by simp))
  · refine ev_pos rfl (ev_some ?_)
    rw [if_pos rfl]
    by_cases c : f0 = 0
    · rw [if_pos c]
      exact ev_pos c (Ev.now _)
    · rw [if_neg c]
      refine ev_neg c (ev_some (ev_pos (by simp only [List.length_cons, List.length_nil]; omega) (ev_some ?_)))
      unfold nodeNums
      have hl : ([f1, f2, f3] ++ bl).length ≤ 1048579 := by
        rw [List.length_append]
        simp only [List.length_cons, List.length_nil]
        omega
      generalize [f1, f2, f3] ++ bl = xs at *
      have := ev_loop (fun k i => impl_NodeText.l0 k ([f0 % 256] ++ (xs.take i).flatMap putNum) xs (xs.length : Int) (i : Int)) (fun _ => strOfNums ([f0 % 256] ++ xs.flatMap putNum)) xs.length ?_ ?_ 0 (Nat.zero_le _)
      · simpa using this
      · simp only [impl_NodeText.l0]
        refine ev_neg (by omega) (ev_cast (Ev.now _) ?_)
        rw [List.take_length]
      · intro i hi e
        have hz := ats_len xs i hl
        have hq := putNum_length (xs.getD i 0)
        simp only [impl_NodeText.l0]
        refine ev_pos (by omega) (ev_pos (by omega) (ev_pos (by omega) (Ev.bind (impl_PutNum_ev _) (ev_pos ?_ ?_))))
        · rw [rd_nat, List.length_append, List.length_singleton]
          omega
        · rw [wrap_nat (by omega), rd_nat, List.append_assoc [f0 % 256], ← flat_snoc 0 putNum xs i hi]
          exact e
def parseGo (b : List Int) : Nat → Nat → Option (List Int)
  | 0, _ => none
  | f + 1, a => if a < b.length then (if (getNum b (a : Int)).2.2 = true then (parseGo b f (getNum b (a : Int)).2.1.toNat).map (fun r => (getNum b (a : Int)).1 :: r) else none) else some []
theorem putNat_length (n : Nat) : (putNat n).length ≤ n + 1 ∧ 1 ≤ (putNat n).length := by
  induction n using Nat.strongRecOn with
  | _ n ih =>
    by_cases h : n < 128
    · rw [putNat_small h]
      simp
    · rw [putNat_big h]
      have := ih (n / 128) (by omega)
      simp only [List.length_cons]
      omega
theorem rd0 (l : List Int) : rd l 0 = l.getD 0 0 := rd_nat l 0
theorem rd1 (l : List Int) : rd l 1 = l.getD 1 0 := rd_nat l 1
theorem rd2 (l : List Int) : rd l 2 = l.getD 2 0 := rd_nat l 2
theorem toList_inj {a b : ByteArray} : a.toList = b.toList ↔ a = b := by
  constructor
  · intro h
    have h' := h
    rw [ByteArray.toList_eq, ByteArray.toList_eq] at h'
    cases a
    cases b
    simp only [ByteArray.mk.injEq]
    exact Array.toList_inj.mp h'
  · intro h
    rw [h]
theorem impl_NodeOf_l (s : ByteArray) (b : List Int) (hb : ∀ x ∈ b, 0 ≤ x ∧ x ≤ 255) (hl : b.length ≤ 1048576) : ∀ (f a : Nat) (acc : List Int), 1 ≤ a → a ≤ b.length → b.length < a + f → acc.length ≤ a →
    Ev (fun k => impl_NodeOf.l0 k s acc b (a : Int)) (match parseGo b f a with | none => noNode | some ns => implEnd s (b.getD 0 0) (acc ++ ns)) := by
  have h0 : 0 < b.length → 0 ≤ b.getD 0 0 ∧ b.getD 0 0 ≤ 255 := fun h => hb _ (getD_mem 0 b 0 h)
  intro f
  induction f with
  | zero =>
    intro a acc _ _ h1
    omega
  | succ f ih =>
    intro a acc ha1 ha hf hacc
    have hc := h0 (by omega)
    apply ev_shift
    simp only [impl_NodeOf.l0]
    rw [parseGo]
    by_cases h : a < b.length
    · rw [if_pos h]
      refine ev_pos (by omega) (Ev.bind (impl_GetNum_ev b (a : Int) (by omega) hb) ?_)
      by_cases hg : (getNum b (a : Int)).2.2 = true
      · obtain ⟨n, hn, e, hd⟩ := getNum_conv b hb a hg
        have hl2 := congrArg List.length hd
        rw [List.length_append, List.length_drop, List.length_drop] at hl2
        have h1 := (putNat_length n).2
        rw [e]
        simp only [Int.toNat_natCast, if_true]
        have := ih (a + (putNat n).length) (acc ++ [(n : Int)]) (by omega) (by omega) (by omega) (by rw [List.length_append, List.length_singleton]; omega)
        refine ev_pos (by omega) (ev_cast this ?_)
        cases parseGo b f (a + (putNat n).length) with
        | none => rfl
        | some r =>
          simp only [Option.map_some]
          rw [List.append_assoc]
          rfl
      · rw [if_neg hg]
        exact ev_neg hg (Ev.now _)
    · rw [if_neg h]
      simp only
      rw [List.append_nil, rd0, rd0, rd1, rd2, wrap_in (x := b.getD 0 0) (by omega) (by omega)]
      refine ev_neg (by omega) (ev_pos (by omega) ?_)
      unfold implEnd
      by_cases c : 3 ≤ acc.length
      · rw [if_pos c]
        refine ev_pos (by omega) (ev_pos (by omega) (ev_pos (by omega) (ev_pos (by omega) (ev_pos (by omega) (ev_some (Ev.bind (impl_NodeText_ev _ _ _ _ _ (by rw [List.length_drop]; omega)) ?_))))))
        rw [show (3 : Int).toNat = 3 from rfl]
        by_cases c2 : nodeText (b.getD 0 0) (acc.getD 0 0) (acc.getD 1 0) (acc.getD 2 0) (acc.drop 3) = s
        · rw [if_pos c2]
          exact ev_pos (toList_inj.2 c2) (Ev.now _)
        · rw [if_neg c2]
          exact ev_neg (fun z => c2 (toList_inj.1 z)) (Ev.now _)
      · rw [if_neg c]
        refine ev_neg (by omega) (Ev.bind (impl_NodeText_ev _ _ _ _ _ (by simp)) ?_)
        by_cases c2 : nodeText (b.getD 0 0) 0 0 0 [] = s
        · rw [if_pos c2]
          exact ev_pos (toList_inj.2 c2) (Ev.now _)
        · rw [if_neg c2]
          exact ev_neg (fun z => c2 (toList_inj.1 z)) (Ev.now _)
def specEnd (c : Int) (ns : List Int) : (Int × Int × Int × Int × List Int × Bool) :=
  if 3 ≤ ns.length then (if nodeOk c (ns.getD 0 0) (ns.getD 1 0) (ns.getD 2 0) (ns.drop 3) = true then (c, ns.getD 0 0, ns.getD 1 0, ns.getD 2 0, ns.drop 3, true) else noNode) else noNode
def nodeOfVal (s : ByteArray) : (Int × Int × Int × Int × List Int × Bool) :=
  if (bytesOf s).length = 0 then noNode else if (bytesOf s).getD 0 0 = 0 then (0, 0, 0, 0, [], decide ((bytesOf s).length = 1))
  else match parseGo (bytesOf s) (bytesOf s).length 1 with | none => noNode | some ns => specEnd ((bytesOf s).getD 0 0) ns
theorem bytesOf_strOf (l : List Int) (h : ∀ x ∈ l, 0 ≤ x ∧ x ≤ 255) : bytesOf (strOfNums l) = l := by
  unfold bytesOf
  rw [strOfNums_data, List.map_map]
  conv => rhs; rw [← List.map_id l]
  apply List.map_congr_left
  intro x hx
  have := h x hx
  have e : x.toNat % 256 = x.toNat := by omega
  simp only [Function.comp, UInt8.toNat_ofNat', id]
  omega
theorem nodeText_no {c f1 f2 f3 : Int} {bl : List Int} (h : ¬ nodeOk c f1 f2 f3 bl = true) : nodeText c f1 f2 f3 bl = (⟨#[]⟩ : ByteArray) := by
  unfold nodeText
  rw [if_neg h]
theorem drop_getD {α : Type} (d : α) (l : List α) (i : Nat) (x : α) (r : List α) (h : l.drop i = x :: r) : i < l.length ∧ l.getD i d = x ∧ l.drop (i + 1) = r := by
  have hi : i < l.length := by
    apply Nat.lt_of_not_le
    intro hle
    rw [List.drop_eq_nil_of_le hle] at h
    cases h
  rw [drop_cons d l i hi] at h
  injection h with h1 h2
  exact ⟨hi, h1, h2⟩
theorem getGo_put (b : List Int) (a : Nat) (rest : List Int) (f : Nat) : ∀ (k m n : Nat), k + f = 5 → b.drop (a + k) = putNat n ++ rest → m + n * 2 ^ (7 * k) ≤ 2147483647 → (k = 0 ∨ 0 < n) →
    getGo b a f k m = (((m + n * 2 ^ (7 * k) : Nat) : Int), ((a + k + (putNat n).length : Nat) : Int), true) := by
  induction f with
  | zero =>
    intro k m n hk hd hm hz
    obtain rfl : k = 5 := by omega
    have h5 : (2 : Nat) ^ (7 * 5) = 34359738368 := by decide
    rw [h5] at hm
    omega
  | succ f ih =>
    intro k m n hk hd hm hz
    rw [getGo]
    by_cases hn : n < 128
    · rw [putNat_small hn] at hd ⊢
      obtain ⟨hi, hg, _⟩ := drop_getD 0 b (a + k) (n : Int) rest hd
      have ea : gAcc m n k = m + n * 2 ^ (7 * k) := by unfold gAcc; rw [Nat.mod_eq_of_lt hn]
      rw [if_pos hi, hg, Int.toNat_natCast, if_pos hn, ea]
      generalize m + n * 2 ^ (7 * k) = z at hm ⊢
      rw [if_neg (by omega)]
      rfl
    · rw [putNat_big hn] at hd ⊢
      obtain ⟨hi, hg, hr⟩ := drop_getD 0 b (a + k) _ _ hd
      have ea : gAcc m (n % 128 + 128) k = m + n % 128 * 2 ^ (7 * k) := by unfold gAcc; rw [show (n % 128 + 128) % 128 = n % 128 from by omega]
      rw [if_pos hi, hg, Int.toNat_natCast, if_neg (by omega), ea]
      have e := pow_split n k
      have hs : (m + n % 128 * 2 ^ (7 * k)) + n / 128 * 2 ^ (7 * (k + 1)) = m + n * 2 ^ (7 * k) := by rw [Nat.add_assoc, e]
      rw [ih (k + 1) (m + n % 128 * 2 ^ (7 * k)) (n / 128) (by omega) hr (by rw [hs]; exact hm) (by omega), hs]
      refine Prod.ext rfl (Prod.ext ?_ rfl)
      dsimp only
      simp only [List.length_cons]
      congr 1
      omega
theorem getNum_put (b : List Int) (a : Nat) (n : Nat) (rest : List Int) (hd : b.drop a = putNat n ++ rest) (hn : n ≤ 2147483647) : getNum b (a : Int) = ((n : Int), ((a + (putNat n).length : Nat) : Int), true) := by
  unfold getNum
  rw [if_pos (by omega), Int.toNat_natCast]
  have := getGo_put b a rest 5 0 0 n (by omega) (by simpa using hd) (by simpa using hn) (.inl rfl)
  simpa using this
def smallNums (ns : List Int) : Prop := ∀ x ∈ ns, 0 ≤ x ∧ x ≤ 2147483647
theorem parse_put (b : List Int) : ∀ (ns : List Int) (f a : Nat), a ≤ b.length → b.length < a + f → b.drop a = ns.flatMap putNum → smallNums ns → parseGo b f a = some ns := by
  intro ns
  induction ns with
  | nil =>
    intro f a ha hf hd _
    obtain ⟨f, rfl⟩ : ∃ g, f = g + 1 := ⟨f - 1, by omega⟩
    have hl := congrArg List.length hd
    rw [List.length_drop] at hl
    rw [parseGo, if_neg (by simp at hl; omega)]
  | cons x r ih =>
    intro f a ha hf hd hs
    obtain ⟨f, rfl⟩ : ∃ g, f = g + 1 := ⟨f - 1, by omega⟩
    have hx := hs x (List.mem_cons_self)
    obtain ⟨n, rfl⟩ : ∃ n : Nat, x = (n : Int) := ⟨x.toNat, by omega⟩
    have hp : putNum (n : Int) = putNat n := by
      unfold putNum
      rw [if_pos hx, Int.toNat_natCast]
    rw [List.flatMap_cons, hp] at hd
    have h0 := (putNat_length n).2
    have hl := congrArg List.length hd
    rw [List.length_append, List.length_drop] at hl
    have hg := getNum_put b a n _ hd (by omega)
    have hd2 : b.drop (a + (putNat n).length) = r.flatMap putNum := by
      rw [← List.drop_drop, hd, List.drop_left]
    rw [parseGo, if_pos (by omega), hg]
    simp only [Int.toNat_natCast, if_true]
    rw [ih f _ (by omega) (by omega) hd2 (fun y hy => hs y (List.mem_cons_of_mem _ hy))]
    rfl
theorem parse_sound (b : List Int) (hb : ∀ x ∈ b, 0 ≤ x ∧ x ≤ 255) : ∀ (f a : Nat) (ns : List Int), a ≤ b.length → parseGo b f a = some ns → b.drop a = ns.flatMap putNum ∧ smallNums ns := by
  intro f
  induction f with
  | zero =>
    intro a ns _ h
    rw [parseGo] at h
    cases h
  | succ f ih =>
    intro a ns ha h
    rw [parseGo] at h
    split at h
    · split at h
      · rename_i h1 h2
        obtain ⟨n, hn, e, hd⟩ := getNum_conv b hb a h2
        rw [e] at h
        simp only [Int.toNat_natCast, Option.map_eq_some_iff] at h
        obtain ⟨r, hr, rfl⟩ := h
        have hl := congrArg List.length hd
        rw [List.length_append, List.length_drop, List.length_drop] at hl
        have h0 := (putNat_length n).2
        obtain ⟨h3, h4⟩ := ih _ r (by omega) hr
        refine ⟨?_, fun x hx => ?_⟩
        · rw [hd, h3, List.flatMap_cons]
          congr 1
          unfold putNum
          rw [if_pos (by omega), Int.toNat_natCast]
        · rcases List.mem_cons.1 hx with rfl | hx
          · omega
          · exact h4 x hx
      · cases h
    · injection h with h
      subst h
      refine ⟨?_, fun x hx => by simp at hx⟩
      rw [List.drop_of_length_le (by omega)]
      rfl
theorem putNat_range (n : Nat) : ∀ x ∈ putNat n, 0 ≤ x ∧ x ≤ 255 := by
  induction n using Nat.strongRecOn with
  | _ n ih =>
    by_cases h : n < 128
    · rw [putNat_small h]
      simp
      omega
    · rw [putNat_big h]
      intro x hx
      rw [List.mem_cons] at hx
      rcases hx with rfl | hx
      · omega
      · exact ih (n / 128) (by omega) x hx
theorem nodeOf_same (s : ByteArray) (b : List Int) (hb : ∀ x ∈ b, 0 ≤ x ∧ x ≤ 255) (hs : s = strOfNums b) (h0 : 0 < b.length) :
    (match parseGo b b.length 1 with | none => noNode | some ns => implEnd s (b.getD 0 0) ns) = (if b.getD 0 0 = 0 then ((0, 0, 0, 0, [], decide (b.length = 1)) : Int × Int × Int × Int × List Int × Bool) else match parseGo b b.length 1 with | none => noNode | some ns => specEnd (b.getD 0 0) ns) := by
  have hne : ¬ (⟨#[]⟩ : ByteArray) = s := fun e => by
    have := congrArg ByteArray.size e
    rw [hs, strOfNums_size] at this
    have h2 : (⟨#[]⟩ : ByteArray).size = 0 := rfl
    omega
  have hc := hb _ (getD_mem 0 b 0 h0)
  have hb1 : b = b.getD 0 0 :: b.drop 1 := by
    have := drop_cons 0 b 0 h0
    rwa [List.drop_zero] at this
  -- a text of good numbers is this one where its numbers are these
  have inj : ∀ l : List Int, (∀ x ∈ l, 0 ≤ x ∧ x ≤ 255) → (strOfNums l = s ↔ l = b) := fun l hl => ⟨fun e => by
    have := congrArg bytesOf (e.trans hs)
    rwa [bytesOf_strOf l hl, bytesOf_strOf b hb] at this, fun e => by rw [e, hs]⟩
  have nums : ∀ ns : List Int, ∀ x ∈ ns.flatMap putNum, 0 ≤ x ∧ x ≤ 255 := fun ns x hx => by
    obtain ⟨y, _, hy⟩ := List.mem_flatMap.1 hx
    unfold putNum at hy
    split at hy
    · exact putNat_range _ x hy
    · simp at hy
  have zero_text : ∀ bl f1 f2 f3, b.getD 0 0 = 0 → b.length ≠ 1 → ¬ nodeText (b.getD 0 0) f1 f2 f3 bl = s := fun bl f1 f2 f3 z hl => by
    unfold nodeText
    split
    · rw [z]
      intro e
      have := congrArg ByteArray.size e
      rw [hs, strOfNums_size, strOfNums_size] at this
      exact hl this.symm
    · exact hne
  by_cases z : b.getD 0 0 = 0
  · rw [if_pos z]
    by_cases h1 : b.length = 1
    · have hp : parseGo b b.length 1 = some [] := by
        rw [h1, parseGo, if_neg (by omega)]
      rw [hp, decide_eq_true h1]
      simp only
      unfold implEnd
      rw [if_neg (by simp), z]
      have ht : nodeText 0 0 0 0 [] = s := by
        rw [show nodeText 0 0 0 0 [] = strOfNums [(0 : Int) % 256] from by unfold nodeText; rw [if_pos (by decide), if_pos rfl]]
        refine (inj _ (by decide)).2 ?_
        rw [hb1, z, List.drop_of_length_le (by omega)]
        rfl
      rw [if_pos ht]
    · rw [decide_eq_false h1]
      cases hp : parseGo b b.length 1 with
      | none => rfl
      | some ns =>
        simp only
        unfold implEnd
        split
        · rw [if_neg (zero_text _ _ _ _ z h1)]
          rfl
        · rw [if_neg (zero_text _ _ _ _ z h1)]
          rfl
  · rw [if_neg z]
    cases hp : parseGo b b.length 1 with
    | none => rfl
    | some ns =>
      obtain ⟨hd, hsm⟩ := parse_sound b hb _ 1 ns h0 hp
      simp only
      unfold implEnd specEnd
      by_cases h3 : 3 ≤ ns.length
      · rw [if_pos h3, if_pos h3]
        by_cases hok : nodeOk (b.getD 0 0) (ns.getD 0 0) (ns.getD 1 0) (ns.getD 2 0) (ns.drop 3) = true
        · rw [if_pos hok]
          have hns : [ns.getD 0 0, ns.getD 1 0, ns.getD 2 0] ++ ns.drop 3 = ns := by
            have e0 := drop_cons 0 ns 0 (by omega)
            have e1 := drop_cons 0 ns 1 (by omega)
            have e2 := drop_cons 0 ns 2 (by omega)
            rw [List.drop_zero] at e0
            conv => rhs; rw [e0, e1, e2]
            rfl
          have ht : nodeText (b.getD 0 0) (ns.getD 0 0) (ns.getD 1 0) (ns.getD 2 0) (ns.drop 3) = s := by
            unfold nodeText nodeNums
            rw [if_pos hok, if_neg z, hns, ← hd, Int.emod_eq_of_lt hc.1 (by omega), List.singleton_append, ← hb1, hs]
          rw [if_pos ht]
        · rw [if_neg hok, nodeText_no hok, if_neg hne]
      · rw [if_neg h3, if_neg h3]
        have ht : ¬ nodeText (b.getD 0 0) 0 0 0 [] = s := by
          by_cases hok : nodeOk (b.getD 0 0) 0 0 0 [] = true
          · unfold nodeText nodeNums
            rw [if_pos hok, if_neg z]
            have h00 : ([0, 0, 0] ++ ([] : List Int)).flatMap putNum = ([0, 0, 0] : List Int).flatMap putNum := rfl
            rw [h00]
            intro e
            have e2 := (inj _ (fun x hx => by
              rcases List.mem_append.1 hx with h | h
              · rw [List.mem_singleton] at h
                omega
              · exact nums _ x h)).1 e
            have e3 : b.drop 1 = ([0, 0, 0] : List Int).flatMap putNum := by
              rw [← e2]
              rfl
            have e4 := parse_put b [0, 0, 0] b.length 1 h0 (by omega) e3 (by intro x hx; simp at hx; omega)
            rw [hp] at e4
            injection e4 with e4
            rw [e4] at h3
            exact h3 (by decide)
          · rw [nodeText_no hok]
            exact hne
        rw [if_neg ht]
theorem strOf_bytesOf (s : ByteArray) : strOfNums (bytesOf s) = s := by
  cases s with
  | mk d =>
    simp only [strOfNums, bytesOf, ByteArray.mk.injEq, List.map_map]
    apply Array.toList_inj.mp
    rw [List.toList_toArray]
    rw [show ((fun n : Int => UInt8.ofNat n.toNat) ∘ fun b : UInt8 => (b.toNat : Int)) = id from by funext b; simp]
    simp
theorem impl_NodeOf_ev (s : ByteArray) (hs : s.size ≤ 1048576) : Ev (fun k => impl_NodeOf.f k s) (nodeOfVal s) := by
  have hb := bytesOf_range s
  have hl : (bytesOf s).length = s.size := bytesOf_length s
  have hst := strOf_bytesOf s
  unfold impl_NodeOf.f nodeOfVal
  by_cases c : (bytesOf s).length = 0
  · rw [if_pos c]
    refine ev_pos ?_ (Ev.now _)
    have : s = (⟨#[]⟩ : ByteArray) := by
      rw [← hst, List.length_eq_zero_iff.1 c]
      rfl
    rw [this, ByteArray.toList_eq]
  · rw [if_neg c]
    refine ev_neg (fun e => ?_) (ev_pos (by omega) (ev_cast (impl_NodeOf_l s (bytesOf s) hb (by omega) (bytesOf s).length 1 [] (by omega) (by omega) (by omega) (by simp)) ?_))
    · have h2 : s = (⟨#[]⟩ : ByteArray) := toList_inj.1 (e.trans (by rw [ByteArray.toList_eq]))
      rw [h2] at c
      exact c rfl
    · rw [← nodeOf_same s (bytesOf s) hb hst.symm (by omega)]
      cases parseGo (bytesOf s) (bytesOf s).length 1 <;> rfl
theorem nodeOf_back (s : ByteArray) (h : (nodeOfVal s).2.2.2.2.2 = true) : nodeText (nodeOfVal s).1 (nodeOfVal s).2.1 (nodeOfVal s).2.2.1 (nodeOfVal s).2.2.2.1 (nodeOfVal s).2.2.2.2.1 = s ∧ nodeOk (nodeOfVal s).1 (nodeOfVal s).2.1 (nodeOfVal s).2.2.1 (nodeOfVal s).2.2.2.1 (nodeOfVal s).2.2.2.2.1 = true := by
  have hb := bytesOf_range s
  have hst := strOf_bytesOf s
  by_cases c : (bytesOf s).length = 0
  · have e : nodeOfVal s = noNode := by
      unfold nodeOfVal
      rw [if_pos c]
    rw [e] at h
    cases h
  · have e : nodeOfVal s = (match parseGo (bytesOf s) (bytesOf s).length 1 with | none => noNode | some ns => implEnd s ((bytesOf s).getD 0 0) ns) := by
      have hn := nodeOf_same s (bytesOf s) hb hst.symm (by omega)
      unfold nodeOfVal
      rw [if_neg c]
      exact hn.symm
    have key : ∀ v : (Int × Int × Int × Int × List Int × Bool), nodeOfVal s = v → v.2.2.2.2.2 = true → nodeText v.1 v.2.1 v.2.2.1 v.2.2.2.1 v.2.2.2.2.1 = s := by
      intro v hv ht
      rw [e] at hv
      cases hp : parseGo (bytesOf s) (bytesOf s).length 1 with
      | none =>
        rw [hp] at hv
        simp only at hv
        rw [← hv] at ht
        cases ht
      | some ns =>
        rw [hp] at hv
        simp only at hv
        unfold implEnd at hv
        split at hv
        · split at hv
          · rename_i h2
            rw [← hv]
            exact h2
          · rw [← hv] at ht
            cases ht
        · split at hv
          · rename_i h2
            rw [← hv]
            exact h2
          · rw [← hv] at ht
            cases ht
    have h1 := key _ rfl h
    refine ⟨h1, Classical.byContradiction (fun z => ?_)⟩
    rw [nodeText_no z] at h1
    rw [← h1] at c
    exact c rfl
theorem nodeOf_len (s : ByteArray) (hs : s.size ≤ 1048576) : (nodeOfVal s).2.2.2.2.1.length ≤ 1048576 := by
  have hl : (bytesOf s).length = s.size := bytesOf_length s
  unfold nodeOfVal
  split
  · simp [noNode]
  · split
    · simp
    · cases hp : parseGo (bytesOf s) (bytesOf s).length 1 with
      | none => simp [noNode]
      | some ns =>
        simp only
        unfold specEnd
        split
        · split
          · rename_i hok
            have := (nodeOk_len hok)
            show ((ns.drop 3).length) ≤ 1048576
            omega
          · simp [noNode]
        · simp [noNode]
theorem nodeOf_none : nodeOfVal (⟨#[]⟩ : ByteArray) = noNode := by
  unfold nodeOfVal
  rw [if_pos (show (bytesOf (⟨#[]⟩ : ByteArray)).length = 0 from rfl)]
theorem blGo_top : ∀ (l pre : List Int), blGo pre l = true → ∀ b ∈ l, 0 ≤ b ∧ b ≤ 35 := by
  intro l
  induction l with
  | nil =>
    intro pre _ b hb
    simp at hb
  | cons x r ih =>
    intro pre h b hb
    simp only [blGo, Bool.and_eq_true, decide_eq_true_eq] at h
    rcases List.mem_cons.1 hb with rfl | hb
    · exact h.1
    · exact ih _ h.2.2 b hb
theorem nodeOf_text {f0 f1 f2 f3 : Int} {bl : List Int} (h : nodeOk f0 f1 f2 f3 bl = true) : nodeOfVal (nodeText f0 f1 f2 f3 bl) = (f0, f1, f2, f3, bl, true) := by
  have hok := h
  unfold nodeOk at h
  unfold nodeText
  rw [if_pos hok]
  by_cases c : f0 = 0
  · rw [if_pos c] at h ⊢
    simp only [Bool.and_eq_true, decide_eq_true_eq] at h
    obtain ⟨h1, h2, h3, h4⟩ := h
    rw [c, h1, h2, h3, List.length_eq_zero_iff.1 h4]
    unfold nodeOfVal
    rw [bytesOf_strOf _ (by decide)]
    rfl
  · rw [if_neg c] at h ⊢
    simp only [Bool.and_eq_true, decide_eq_true_eq] at h
    obtain ⟨h1, h2, h3, h4, h5, h6, h7⟩ := h
    have hb := bfOf_le f3 h4.2
    have hbl := blGo_top bl [] h7
    have hr : ∀ x ∈ nodeNums f0 f1 f2 f3 bl, 0 ≤ x ∧ x ≤ 255 := fun x hx => by
      unfold nodeNums at hx
      rcases List.mem_append.1 hx with hx | hx
      · rw [List.mem_singleton] at hx
        omega
      · obtain ⟨y, _, hy⟩ := List.mem_flatMap.1 hx
        unfold putNum at hy
        split at hy
        · exact putNat_range _ x hy
        · simp at hy
    unfold nodeOfVal
    rw [bytesOf_strOf _ hr]
    have e0 : nodeNums f0 f1 f2 f3 bl = f0 :: ([f1, f2, f3] ++ bl).flatMap putNum := by
      unfold nodeNums
      rw [Int.emod_eq_of_lt (by omega) (by omega), List.singleton_append]
    rw [e0]
    have hp := parse_put (f0 :: ([f1, f2, f3] ++ bl).flatMap putNum) ([f1, f2, f3] ++ bl) (f0 :: ([f1, f2, f3] ++ bl).flatMap putNum).length 1 (by rw [List.length_cons]; omega) (by omega) (by rw [List.drop_succ_cons, List.drop_zero]) (by
      intro x hx
      rcases List.mem_append.1 hx with hx | hx
      · simp only [List.mem_cons, List.not_mem_nil, or_false] at hx
        omega
      · have := hbl x hx
        omega)
    rw [if_neg (by rw [List.length_cons]; omega), if_neg (by simpa using c), hp]
    have hg : (f0 :: ([f1, f2, f3] ++ bl).flatMap putNum).getD 0 0 = f0 := rfl
    rw [hg]
    unfold specEnd
    dsimp only
    rw [if_pos (show 3 ≤ ([f1, f2, f3] ++ bl).length by simp)]
    have hd : ([f1, f2, f3] ++ bl).drop 3 = bl := rfl
    rw [hd]
    show (if nodeOk f0 f1 f2 f3 bl = true then (f0, f1, f2, f3, bl, true) else noNode) = _
    rw [if_pos hok]
theorem spec_acc {n d k : Nat} (hd : d ≤ 255) (hk : k ≤ 4) (h : gOk k n) : Go.bits .or .i64 (n : Int) (shl .i64 (Int.tmod (wrap64 (d : Int)) 128) (wrap64 (7 * (k : Int)))) = (gAcc n d k : Int) := by
  have e3 : Int.tmod (wrap64 (d : Int)) 128 = ((d % 128 : Nat) : Int) := by
    rw [wrap_in (by omega) (by omega), Int.tmod_eq_emod_of_nonneg (by omega)]
    omega
  rw [e3, shl7 (d % 128) k (by omega) hk]
  exact or7 n (d % 128) k h (by omega) hk
theorem spec_getNum_l (b : List Int) (hl : b.length ≤ 140737488351232) (hb : ∀ x ∈ b, 0 ≤ x ∧ x ≤ 255) (a : Nat) (ha : a < 9223372036854775808) (f : Nat) : ∀ (k n : Nat), k + f = 5 → gOk k n →
    Ev (fun j => spec_GetNum.l0 j b (a : Int) (n : Int) (k : Int)) (getGo b a f k n) := by
  induction f with
  | zero =>
    intro k n hk hn
    apply ev_shift
    simp only [spec_GetNum.l0]
    exact ev_neg (by omega) (Ev.now _)
  | succ f ih =>
    intro k n hk hn
    have hk4 : k ≤ 4 := by omega
    apply ev_shift
    simp only [spec_GetNum.l0]
    refine ev_pos (by omega) (ev_neg (by omega) ?_)
    rw [wrap_in (x := (b.length : Int) - k) (by omega) (by omega)]
    apply ev_shift
    simp only [spec_GetNum.j1, getGo]
    by_cases hin : a + k < b.length
    · refine ev_neg (by simp; omega) ?_
      rw [if_pos hin, add_wrap (by omega) (by omega), rd_nat]
      have hm := hb _ (getD_mem 0 b (a + k) hin)
      generalize b.getD (a + k) 0 = d at hm ⊢
      obtain ⟨c, rfl⟩ := Int.eq_ofNat_of_zero_le hm.1
      have hc : c ≤ 255 := by omega
      have e11 := ih (k + 1) _ (by omega) (gOk_step c hn)
      rw [spec_acc hc hk4 hn, Int.toNat_natCast, byte_wrap hc, wrap_nat (i := a + k) (by omega), wrap_nat (i := k) (by omega)]
      generalize gAcc n c k = m at e11 ⊢
      clear hn ih
      refine ev_pos (by omega) (ev_pos (by omega) (ev_pos (seven_pos hk4) ?_))
      by_cases h1 : c < 128
      · refine ev_pos (by omega) ?_
        rw [if_pos h1]
        by_cases h2 : k > 0
        · refine ev_pos (by omega) ?_
          by_cases h3 : c = 0
          · refine ev_pos (by omega) ?_
            rw [if_pos (.inl ⟨h2, h3⟩)]
            exact Ev.now _
          · refine ev_neg (by omega) ?_
            by_cases h4 : m > 2147483647
            · refine ev_pos (by omega) ?_
              rw [if_pos (.inr h4)]
              exact Ev.now _
            · refine ev_neg (by omega) ?_
              rw [if_neg (by omega)]
              exact Ev.now _
        · refine ev_neg (by omega) ?_
          by_cases h4 : m > 2147483647
          · refine ev_pos (by omega) ?_
            rw [if_pos (.inr h4)]
            exact Ev.now _
          · refine ev_neg (by omega) ?_
            rw [if_neg (by omega)]
            exact Ev.now _
      · refine ev_neg (by omega) ?_
        rw [if_neg h1]
        exact e11
    · refine ev_pos (by simp; omega) ?_
      rw [if_neg hin]
      exact Ev.now _
theorem spec_GetNum_ev (b : List Int) (a : Int) (hl : b.length ≤ 140737488351232) (hb : ∀ x ∈ b, 0 ≤ x ∧ x ≤ 255) (ha : a ≤ 9223372036854775807) : Ev (fun k => spec_GetNum.f k b a) (getNum b a) := by
  unfold spec_GetNum.f getNum
  by_cases h : 0 ≤ a
  · rw [if_pos h]
    obtain ⟨n, rfl⟩ := Int.eq_ofNat_of_zero_le h
    exact spec_getNum_l b hl hb n (by omega) 5 0 0 (by omega) gOk_zero
  · rw [if_neg h]
    apply ev_shift
    simp only [spec_GetNum.l0]
    refine ev_pos (by omega) (ev_pos (by omega) ?_)
    apply ev_shift
    simp only [spec_GetNum.j1]
    exact ev_pos trivial (Ev.now _)
theorem spec_NodeOf_l (b : List Int) (hb : ∀ x ∈ b, 0 ≤ x ∧ x ≤ 255) (hl : b.length ≤ 1048576) (c : Int) : ∀ (f a : Nat) (acc : List Int), 1 ≤ a → a ≤ b.length → b.length < a + f → acc.length ≤ a →
    Ev (fun k => spec_NodeOf.l0 k b acc (a : Int) c 0 0 0) (match parseGo b f a with | none => noNode | some ns => specEnd c (acc ++ ns)) := by
  intro f
  induction f with
  | zero =>
    intro a acc _ _ h1
    omega
  | succ f ih =>
    intro a acc ha1 ha hf hacc
    apply ev_shift
    simp only [spec_NodeOf.l0]
    rw [parseGo]
    by_cases h : a < b.length
    · rw [if_pos h]
      refine ev_pos (by omega) (Ev.bind (spec_GetNum_ev b (a : Int) (by omega) hb (by omega)) ?_)
      by_cases hg : (getNum b (a : Int)).2.2 = true
      · obtain ⟨n, hn, e, hd⟩ := getNum_conv b hb a hg
        have hl2 := congrArg List.length hd
        rw [List.length_append, List.length_drop, List.length_drop] at hl2
        have h1 := (putNat_length n).2
        rw [e]
        simp only [Int.toNat_natCast, if_true]
        have := ih (a + (putNat n).length) (acc ++ [(n : Int)]) (by omega) (by omega) (by omega) (by rw [List.length_append, List.length_singleton]; omega)
        refine ev_pos (by omega) (ev_cast this ?_)
        cases parseGo b f (a + (putNat n).length) with
        | none => rfl
        | some r =>
          simp only [Option.map_some]
          rw [List.append_assoc]
          rfl
      · rw [if_neg hg]
        exact ev_neg hg (Ev.now _)
    · rw [if_neg h]
      simp only
      rw [List.append_nil, rd0, rd1, rd2]
      refine ev_neg (by omega) ?_
      unfold specEnd
      by_cases c : 3 ≤ acc.length
      · rw [if_pos c]
        refine ev_neg (by omega) (ev_pos (by omega) (ev_pos (by omega) (ev_pos (by omega) (ev_some (ev_pos (by omega) (ev_some (ev_pos (by rw [List.length_drop]; simp; omega) (ev_some ?_))))))))
        rw [List.nil_append]
        refine Ev.bind (spec_NodeOk_ev _ _ _ _ _ (by rw [List.length_drop]; omega)) ?_
        split <;> exact Ev.now _
      · rw [if_neg c]
        exact ev_pos (by omega) (Ev.now _)
theorem spec_NodeOf_ev (s : ByteArray) (hs : s.size ≤ 1048576) : Ev (fun k => spec_NodeOf.f k s) (nodeOfVal s) := by
  have hb := bytesOf_range s
  have hl : (bytesOf s).length = s.size := bytesOf_length s
  unfold spec_NodeOf.f nodeOfVal
  refine ev_pos (by omega) (ev_some ?_)
  rw [rd0]
  generalize bytesOf s = b at hb hl
  by_cases c : b.length = 0
  · rw [if_pos c]
    exact ev_pos (by omega) (Ev.now _)
  · have h0 := hb _ (getD_mem 0 b 0 (by omega))
    rw [if_neg c, wrap_in (x := b.getD 0 0) (by omega) (by omega)]
    refine ev_neg (by omega) (ev_pos (by omega) ?_)
    by_cases c2 : b.getD 0 0 = 0
    · rw [if_pos c2]
      refine ev_pos c2 (ev_cast (Ev.now _) ?_)
      rw [c2]
      have : ((b.length : Int) == 1) = decide (b.length = 1) := by
        rw [Bool.eq_iff_iff, beq_iff_eq, decide_eq_true_eq]
        omega
      rw [this]
    · rw [if_neg c2]
      refine ev_neg c2 (ev_cast (spec_NodeOf_l b hb (by omega) (b.getD 0 0) b.length 1 [] (by omega) (by omega) (by omega) (by simp)) ?_)
      cases parseGo b b.length 1 <;> rfl
theorem drop_eq {α : Type} [DecidableEq α] (d : α) (a b : List α) (i : Nat) (ha : i < a.length) (hb : i < b.length) : (a.drop i = b.drop i) ↔ (a.getD i d = b.getD i d ∧ a.drop (i + 1) = b.drop (i + 1)) := by
  rw [drop_cons d a i ha, drop_cons d b i hb]
  simp
theorem spec_l1Same_ev (a b : List Int) (h : a.length ≤ 1099511627776) : Ev (fun k => spec_l1Same.f k a b) (decide (a = b)) := by
  unfold spec_l1Same.f
  by_cases hl : a.length = b.length
  · refine ev_pos (by omega) ?_
    have := ev_loop (fun k i => spec_l1Same.l0 k a b (i : Int)) (fun i => decide (a.drop i = b.drop i)) a.length ?_ ?_ 0 (Nat.zero_le _)
    · exact this
    · simp only [spec_l1Same.l0]
      refine ev_neg (by omega) ?_
      refine ev_cast (Ev.now _) ?_
      rw [List.drop_length, hl, List.drop_length]
      simp
    · intro i hi e
      simp only [spec_l1Same.l0]
      refine ev_pos (by omega) (ev_pos (by omega) (ev_pos (by omega) ?_))
      rw [wrap_nat (by omega), rd_nat, rd_nat]
      by_cases hc : a.getD i 0 = b.getD i 0
      · refine ev_pos hc (ev_cast e ?_)
        rw [decide_eq_decide, drop_eq 0 a b i hi (by omega)]
        exact ⟨fun z => ⟨hc, z⟩, fun z => z.2⟩
      · refine ev_neg hc (ev_cast (Ev.now _) ?_)
        symm
        rw [decide_eq_false_iff_not, drop_eq 0 a b i hi (by omega)]
        exact fun z => hc z.1
  · refine ev_neg (by omega) (ev_cast (Ev.now _) ?_)
    symm
    rw [decide_eq_false_iff_not]
    exact fun z => hl (by rw [z])
theorem spec_NodeSame_ev (a b c d : Int) (l : List Int) (a' b' c' d' : Int) (l' : List Int) (h : l.length ≤ 1099511627776) : Ev (fun k => spec_NodeSame.f k a b c d l a' b' c' d' l') (decide (a = a' ∧ b = b' ∧ c = c' ∧ d = d' ∧ l = l')) := by
  unfold spec_NodeSame.f
  by_cases h1 : a = a'
  · refine ev_pos h1 ?_
    by_cases h2 : b = b'
    · refine ev_pos h2 ?_
      by_cases h3 : c = c'
      · refine ev_pos h3 ?_
        by_cases h4 : d = d'
        · refine ev_pos h4 (Ev.bind (spec_l1Same_ev l l' (by omega)) (ev_cast (Ev.now _) ?_))
          rw [decide_eq_decide]
          exact ⟨fun e => ⟨h1, h2, h3, h4, e⟩, fun e => e.2.2.2.2⟩
        · exact ev_neg h4 (ev_cast (Ev.now _) (by symm; rw [decide_eq_false_iff_not]; exact fun e => h4 e.2.2.2.1))
      · exact ev_neg h3 (ev_cast (Ev.now _) (by symm; rw [decide_eq_false_iff_not]; exact fun e => h3 e.2.2.1))
    · exact ev_neg h2 (ev_cast (Ev.now _) (by symm; rw [decide_eq_false_iff_not]; exact fun e => h2 e.2.1))
  · exact ev_neg h1 (ev_cast (Ev.now _) (by symm; rw [decide_eq_false_iff_not]; exact fun e => h1 e.1))
theorem FnNodes : laws_FnNodes.Pure := by
  intro l hl _ _
  apply Ev.rounds (g := fun k => laws_FnNodes.f k l)
  unfold laws_FnNodes.f
  by_cases hbig : (l.length : Int) > 1048576
  · exact ev_eq (show laws_big.f l = some true by unfold laws_big.f; rw [decide_eq_true hbig]) (ev_pos rfl (Ev.now _))
  refine ev_eq (show laws_big.f l = some false by unfold laws_big.f; rw [decide_eq_false hbig]) (ev_neg (by simp) ?_)
  obtain ⟨k, g, t, s, bl, e1, hb⟩ := DrawNodeText_ev l (by omega)
  obtain ⟨x, e2, hx⟩ := DrawNodeOf_ev l (by omega)
  have i1 := impl_NodeText_ev k g t s bl (by omega)
  have hz := nodeText_size k g t s bl
  have i2 := impl_NodeOf_ev (nodeText k g t s bl) (by omega)
  have i3 := impl_NodeOf_ev x (by omega)
  have i4 := spec_NodeOf_ev x (by omega)
  have i5 := spec_NodeOk_ev k g t s bl (by omega)
  have hlen := nodeOf_len x (by omega)
  have back := nodeOf_back x
  have hfin : ∀ q : Bool, q = false → Ev (fun r => laws_FnNodes.j0 r x (nodeOfVal x).2.2.2.2.2 q (nodeOfVal x).1 (nodeOfVal x).2.1 (nodeOfVal x).2.2.1 (nodeOfVal x).2.2.2.1 (nodeOfVal x).2.2.2.2.1) true := by
    intro q hq
    apply ev_shift
    simp only [laws_FnNodes.j0]
    refine ev_neg (by rw [hq]; decide) ?_
    by_cases c : (nodeOfVal x).2.2.2.2.2 = true
    · obtain ⟨b1, b2⟩ := back c
      have i6 := impl_NodeText_ev (nodeOfVal x).1 (nodeOfVal x).2.1 (nodeOfVal x).2.2.1 (nodeOfVal x).2.2.2.1 (nodeOfVal x).2.2.2.2.1 (by omega)
      have i7 := impl_NodeOk_ev (nodeOfVal x).1 (nodeOfVal x).2.1 (nodeOfVal x).2.2.1 (nodeOfVal x).2.2.2.1 (nodeOfVal x).2.2.2.2.1 (by omega)
      rw [b1] at i6
      rw [b2] at i7
      exact ev_pos c (Ev.bind i6 (ev_pos rfl (Ev.bind i7 (Ev.now _))))
    · exact ev_neg c (Ev.now _)
  refine Ev.bind e1 (Ev.bind i1 (Ev.bind i2 (Ev.bind e2 (Ev.bind i3 (Ev.bind i4 (Ev.bind i5 ?_))))))
  by_cases c : nodeOk k g t s bl = true
  · rw [nodeOf_text c]
    refine ev_neg (by simp [c]) (ev_pos rfl (Ev.bind (spec_NodeSame_ev k g t s bl k g t s bl (by omega)) (ev_pos (by simp) (hfin _ (by simp)))))
  · rw [nodeText_no c, nodeOf_none]
    refine ev_neg (by simp [c, noNode]) (ev_neg (by simp [noNode]) (hfin _ (by simp)))
end Go.Proofs.Ytadfimhielcmmaa.Pure
namespace Go.Proofs.Ytadfimhielcmmaa
open Go.ChangeShapes Go.WideShapes
/-- The printed row names it so. -/
theorem PrintWords.sized_ints {H : Type} {enc : TypeId × Value → H} {P : Program} {W : World} {base : Nat} {spare : Nat → Bool} {held : Bool} {t e : TypeId} {k : IntKind} {a : Option Addr} {len cap : Nat} {d : DataW H} {ps : List MemPlace} {ts : List TypeId} {ds : List (DataW H)} {j : Nat}
    (hsz : (DataW.weightsEach P ts ds).all (· ≤ reachBytes) = true) (ht : ts[j]? = some t) (hd : ds[j]? = some d) (hu : P.underlying t = some (.slice e)) (he : P.underlying e = some (.int k)) (hc : P.cellsOf e = 1) {B : Nat} (hB : P.bytesOf e = B)
    (h : DataW.Trod enc P W base spare held t (.slice a len cap) d ps) : len * B ≤ 140737488351232 :=
  Go.Proofs.YtadfimhielcmmaaW.PrintWords.sized_ints hsz ht hd hu he hc hB h
end Go.Proofs.Ytadfimhielcmmaa
