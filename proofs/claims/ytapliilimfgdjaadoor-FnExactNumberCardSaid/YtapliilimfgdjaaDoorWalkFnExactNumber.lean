/- The walk through the law of Number: it answers true. Conditions: the reference's function of the print answers what Atoi and Itoa give; the laid variables stand as they are laid. -/
import Derived.Test.YtapliilimfgdjaaDoorAtoi
import Derived.Test.YtapliilimfgdjaaDoorNum
import Derived.Lib.AtoiErrMem
import Derived.Test.YtapliilimfgdjaaDoorWalkFnExactDigits
namespace Go.Proofs.YtapliilimfgdjaaDoor.Number
open Go Go.RowKit Go.Proofs.YtapliilimfgdjaaDoor.PFnExactDigits Go.Proofs.YtapliilimfgdjaaDoor.Digits
set_option linter.unusedVariables false
theorem below_trans {w w1 w2 : World} (hb1 : Below w.heap.size w w1) (hb2 : Below w1.heap.size w1 w2) : Below w.heap.size w w2 :=
  ⟨hb2.os.trans hb1.os, hb2.tape.trans hb1.tape, hb2.output.trans hb1.output, Nat.le_trans hb1.size hb2.size, fun j hj => (hb2.block j (Nat.lt_of_lt_of_le hj hb1.size)).trans (hb1.block j hj)⟩
theorem below_bytes {w w' : World} (h : w' = w ∨ ∃ t, w' = Lib.bytesWorld w 5 t) : Below w.heap.size w w' := by
  rcases h with rfl | ⟨t, rfl⟩
  · exact Below.refl _ _
  · exact Lib.bytesWorld_below _ _ _
theorem ok_true (s : ByteArray) (v : Int) (hs : s.size ≤ 140737488355328) (h : Lib.atoiAll s.data.toList = .ok v) (h0 : 0 ≤ v) (h1 : v ≤ 999999) (he : (⟨(Lib.itoa v).toArray⟩ : ByteArray) = s) (w : World) (ht : Tab w) :
    Calls Tryd.prog 8 #[.string s] w fun e w' => e = .returned (.tuple #[.int .i64 v, .bool true]) ∧ Below w.heap.size w w' := by
  have c1 : decide (0 ≤ v) = true := decide_eq_true h0
  have c2 : decide (v ≤ 999999) = true := decide_eq_true h1
  go_enter Tryd.func8, Tryd.ntmps8
  go_wp2_with (first
    | (go_at_call 10; refine (Any.strconv_Atoi_ok Tryd.laysC172 s (by omega) v h _).mono ?_; rintro e w1 ⟨rfl, hb1⟩; have hb1 := below_bytes hb1; have ht1 := tab_below (W := w) ht hb1)
    | (go_at_call 6; refine (impl_walk v (by omega) (by omega) _ ht1).mono ?_; rintro e w2 ⟨rfl, hb2⟩)
    | go_in)
  go_ret2
  exact ⟨rfl, below_trans hb1 hb2⟩
theorem ok_ne (s : ByteArray) (v : Int) (hs : s.size ≤ 140737488355328) (h : Lib.atoiAll s.data.toList = .ok v) (h0 : 0 ≤ v) (h1 : v ≤ 999999) (he : ¬ (⟨(Lib.itoa v).toArray⟩ : ByteArray) = s) (w : World) (ht : Tab w) :
    Calls Tryd.prog 8 #[.string s] w fun e w' => e = .returned (.tuple #[.int .i64 0, .bool false]) ∧ Below w.heap.size w w' := by
  have c1 : decide (0 ≤ v) = true := decide_eq_true h0
  have c2 : decide (v ≤ 999999) = true := decide_eq_true h1
  have c3 : (Lib.itoa v == s.toList) = false := beq_eq_false_iff_ne.2 (fun e => he (by
    rw [e, ByteArray.toList_eq]))
  go_enter Tryd.func8, Tryd.ntmps8
  go_wp2_with (first
    | (go_at_call 10; refine (Any.strconv_Atoi_ok Tryd.laysC172 s (by omega) v h _).mono ?_; rintro e w1 ⟨rfl, hb1⟩; have hb1 := below_bytes hb1; have ht1 := tab_below (W := w) ht hb1)
    | (go_at_call 6; refine (impl_walk v (by omega) (by omega) _ ht1).mono ?_; rintro e w2 ⟨rfl, hb2⟩)
    | go_in)
  go_ret2
  exact ⟨rfl, below_trans hb1 hb2⟩
theorem ok_low (s : ByteArray) (v : Int) (hs : s.size ≤ 140737488355328) (h : Lib.atoiAll s.data.toList = .ok v) (h0 : v < 0) (w : World) :
    Calls Tryd.prog 8 #[.string s] w fun e w' => e = .returned (.tuple #[.int .i64 0, .bool false]) ∧ Below w.heap.size w w' := by
  have c1 : decide (0 ≤ v) = false := decide_eq_false (by omega)
  go_enter Tryd.func8, Tryd.ntmps8
  go_wp2_with (first
    | (go_at_call 10; refine (Any.strconv_Atoi_ok Tryd.laysC172 s (by omega) v h _).mono ?_; rintro e w1 ⟨rfl, hb1⟩; have hb1 := below_bytes hb1)
    | go_in)
  go_ret2
  exact ⟨rfl, hb1⟩
theorem ok_high (s : ByteArray) (v : Int) (hs : s.size ≤ 140737488355328) (h : Lib.atoiAll s.data.toList = .ok v) (h0 : 0 ≤ v) (h1 : 999999 < v) (w : World) :
    Calls Tryd.prog 8 #[.string s] w fun e w' => e = .returned (.tuple #[.int .i64 0, .bool false]) ∧ Below w.heap.size w w' := by
  have c1 : decide (0 ≤ v) = true := decide_eq_true h0
  have c2 : decide (v ≤ 999999) = false := decide_eq_false (by omega)
  go_enter Tryd.func8, Tryd.ntmps8
  go_wp2_with (first
    | (go_at_call 10; refine (Any.strconv_Atoi_ok Tryd.laysC172 s (by omega) v h _).mono ?_; rintro e w1 ⟨rfl, hb1⟩; have hb1 := below_bytes hb1)
    | go_in)
  go_ret2
  exact ⟨rfl, hb1⟩
theorem no_number (s : ByteArray) (hs : s.size ≤ 140737488355328) (h : Lib.atoiAll s.data.toList = Lib.atoiAll []) (tp : TypeId) (p : Value) (w : World) (hv : w.var? Tryd.prog "strconv.ErrSyntax" = some #[.iface tp p]) :
    Calls Tryd.prog 8 #[.string s] w fun e w' => e = .returned (.tuple #[.int .i64 0, .bool false]) ∧ Below w.heap.size w w' := by
  go_enter Tryd.func8, Tryd.ntmps8
  go_wp2_with (first
    | (go_at_call 10; refine (Any.strconv_Atoi_syntax_var Tryd.laysC172 s (by omega) h tp p _ hv).mono ?_; rintro e w1 ⟨N, rfl, _, _, hb1⟩)
    | go_in)
  go_ret2
  exact ⟨rfl, hb1⟩
theorem no_range (s : ByteArray) (hs : s.size ≤ 140737488355328) (h : Lib.atoiAll s.data.toList = .range) (tp : TypeId) (p : Value) (w : World) (hv : w.var? Tryd.prog "strconv.ErrRange" = some #[.iface tp p]) :
    Calls Tryd.prog 8 #[.string s] w fun e w' => e = .returned (.tuple #[.int .i64 0, .bool false]) ∧ Below w.heap.size w w' := by
  go_enter Tryd.func8, Tryd.ntmps8
  go_wp2_with (first
    | (go_at_call 10; refine (Any.strconv_Atoi_range_var Tryd.laysC172 s (by omega) h tp p _ hv).mono ?_; rintro e w1 ⟨N, rfl, _, _, hb1⟩)
    | go_in)
  go_ret2
  exact ⟨rfl, hb1⟩
/-- How a parse ends: a number, too great, or as the empty text's. -/
theorem ends (x : Lib.NumEnd Int) : (∃ v, x = .ok v) ∨ x = .range ∨ x = Lib.atoiAll [] := by
  cases x
  · exact .inl ⟨_, rfl⟩
  · exact .inr (.inr rfl)
  · exact .inr (.inl rfl)
/-- What Number answers, by Atoi and Itoa. -/
def numOf (s : ByteArray) : Int × Bool :=
  match Lib.atoiAll s.data.toList with
  | .ok v => if 0 ≤ v ∧ v ≤ 999999 ∧ (⟨(Lib.itoa v).toArray⟩ : ByteArray) = s then (v, true) else (0, false)
  | _ => (0, false)
/-- The laid variables that the call reads. -/
def Laid (w : World) : Prop := Tab w ∧ (∃ tp p, w.var? Tryd.prog "strconv.ErrSyntax" = some #[.iface tp p]) ∧ ∃ tp p, w.var? Tryd.prog "strconv.ErrRange" = some #[.iface tp p]
theorem synG : Tryd.prog.globalNamed "strconv.ErrSyntax" = some 0 := by kernel_rfl
theorem ranG : Tryd.prog.globalNamed "strconv.ErrRange" = some 1 := by kernel_rfl
theorem var_below {n : String} {g : Nat} {cs : Array Value} {W W' : World} (hg : Tryd.prog.globalNamed n = some g) (h : W.var? Tryd.prog n = some cs) (hb : Below W.heap.size W W') : W'.var? Tryd.prog n = some cs := by
  unfold World.var? at *
  rw [hg] at *
  simp only [Option.bind_some] at *
  have hs : g < W.heap.size := by
    rcases Nat.lt_or_ge g W.heap.size with h1 | h1
    · exact h1
    · rw [Array.getElem?_eq_none h1] at h
      cases h
  rw [hb.block g hs]
  exact h
theorem laid_below {W W' : World} (h : Laid W) (hb : Below W.heap.size W W') : Laid W' := by
  obtain ⟨h1, ⟨tp, p, h2⟩, tq, q, h3⟩ := h
  exact ⟨tab_below h1 hb, ⟨tp, p, var_below synG h2 hb⟩, tq, q, var_below ranG h3 hb⟩
theorem number_walk (s : ByteArray) (hs : s.size ≤ 140737488355328) (n : Int) (b : Bool) (hn : numOf s = (n, b)) (w : World) (hl : Laid w) :
    Calls Tryd.prog 8 #[.string s] w fun e w' => e = .returned (.tuple #[.int .i64 n, .bool b]) ∧ Below w.heap.size w w' := by
  rw [show n = (numOf s).1 by rw [hn], show b = (numOf s).2 by rw [hn]]
  clear hn n b
  obtain ⟨h1, ⟨tp, p, h2⟩, tq, q, h3⟩ := hl
  rcases ends (Lib.atoiAll s.data.toList) with ⟨v, h⟩ | h | h
  · unfold numOf
    rw [h]
    dsimp only
    by_cases c : 0 ≤ v ∧ v ≤ 999999 ∧ (⟨(Lib.itoa v).toArray⟩ : ByteArray) = s
    · rw [if_pos c]
      exact ok_true s v hs h c.1 c.2.1 c.2.2 w h1
    · rw [if_neg c]
      by_cases c0 : v < 0
      · exact ok_low s v hs h c0 w
      · by_cases c1 : 999999 < v
        · exact ok_high s v hs h (by omega) c1 w
        · exact ok_ne s v hs h (by omega) (by omega) (fun e => c ⟨by omega, by omega, e⟩) w h1
  · rw [show numOf s = (0, false) by unfold numOf; rw [h]]
    exact no_range s hs h tq q w h3
  · rw [show numOf s = (0, false) by unfold numOf; rw [h]; rfl]
    exact no_number s hs h tp p w h2
theorem law_long (s : ByteArray) (hs : 1048576 < s.size) (w : World) :
    Calls Tryd.prog 4 #[.string s] w fun e w' => e = .returned (.bool true) ∧ Below w.heap.size w w' := by
  have c : decide (1048576 < (s.size : Int)) = true := decide_eq_true (by omega)
  go_enter Tryd.func4, Tryd.ntmps4
  go_wp2
  go_ret
  exact ⟨rfl, Below.refl _ _⟩
theorem law_walk (s : ByteArray) (hs : s.size ≤ 1048576) (k : Nat) (n : Int) (b : Bool) (hk : spec_Number.f k s = some (n, b)) (hn : numOf s = (n, b)) (w : World) (hl : Laid w) :
    Calls Tryd.prog 4 #[.string s] w fun e w' => e = .returned (.bool true) ∧ Below w.heap.size w w' := by
  have c : decide (1048576 < (s.size : Int)) = false := decide_eq_false (by omega)
  go_enter Tryd.func4, Tryd.ntmps4
  go_wp2_with (first
    | (go_at_call 7; refine (spec_Number.calls k s _ _ _ hk).mono ?_; rintro e w1 ⟨rfl, hb1⟩; have hl1 := laid_below (W := w) hl hb1)
    | (go_at_call 8; refine (number_walk s (by omega) n b hn _ hl1).mono ?_; rintro e w2 ⟨rfl, hb2⟩))
  go_ret
  exact ⟨rfl, below_trans hb1 hb2⟩
end Go.Proofs.YtapliilimfgdjaaDoor.Number
