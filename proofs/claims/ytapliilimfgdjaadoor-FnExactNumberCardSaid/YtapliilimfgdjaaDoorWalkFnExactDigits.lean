/- The walk through the law of Digits: it answers true. Conditions: the reference's function of the print answers the numeral; the table uint64pow10 stands as it is laid. -/
import Derived.Test.YtapliilimfgdjaaDoorItoa
import Derived.Test.YtapliilimfgdjaaDoorDig
namespace Go.Proofs.YtapliilimfgdjaaDoor.Digits
open Go Go.RowKit Go.Proofs.YtapliilimfgdjaaDoor.PFnExactDigits
set_option linter.unusedVariables false
def Tab (W : World) : Prop := Lib.TabIs Tryd.prog W "internal/strconv.uint64pow10" .u64 Lib.pow10Tab
theorem tabG : Tryd.prog.globalNamed "internal/strconv.uint64pow10" = some 2 := by kernel_rfl
theorem tab_below {W W' : World} (h : Tab W) (hb : Below W.heap.size W W') : Tab W' := by
  unfold Tab Lib.TabIs World.var? at *
  rw [tabG] at *
  simp only [Option.bind_some] at *
  have hs : 2 < W.heap.size := by
    rcases Nat.lt_or_ge 2 W.heap.size with h1 | h1
    · exact h1
    · rw [Array.getElem?_eq_none h1] at h
      cases h
  rw [hb.block 2 hs]
  exact h
theorem below_grow (w : World) (k : Nat) (os : Array Obj) : Below w.heap.size w (Go.Sort.grow (w.drewN k) os) := by
  refine ⟨rfl, rfl, rfl, ?_, fun j hj => ?_⟩
  · show w.heap.size ≤ (w.heap ++ os).size
    rw [Array.size_append]
    omega
  · show (w.heap ++ os)[j]? = w.heap[j]?
    rw [Array.getElem?_append_left hj]
theorem impl_walk (n : Int) (h0 : -9223372036854775808 ≤ n) (h1 : n ≤ 9223372036854775807) (w : World) (ht : Tab w) :
    Calls Tryd.prog 6 #[.int .i64 n] w fun e w' => e = .returned (.string ⟨(Lib.itoa n).toArray⟩) ∧ Below w.heap.size w w' := by
  go_enter Tryd.func6, Tryd.ntmps6
  go_wp2_with (go_at_call 9; refine (Tryd.strconv_Itoa n h0 h1 _ ht).mono ?_; rintro e w' ⟨rfl, k, os, rfl⟩)
  go_ret
  exact ⟨rfl, below_grow _ _ _⟩
theorem law_walk (n : Int) (h0 : -9223372036854775808 ≤ n) (h1 : n ≤ 9223372036854775807) (k : Nat) (hk : spec_Digits.f k n = some ⟨(Lib.itoa n).toArray⟩) (w : World) (ht : Tab w) :
    Calls Tryd.prog 3 #[.int .i64 n] w fun e w' => e = .returned (.bool true) ∧ Below w.heap.size w w' := by
  go_enter Tryd.func3, Tryd.ntmps3
  go_wp2_with (first
    | (go_at_call 5; refine (spec_Digits.calls k n _ _ hk).mono ?_; rintro e w1 ⟨rfl, hb1⟩; have ht1 := tab_below (W := w) ht hb1)
    | (go_at_call 6; refine (impl_walk n h0 h1 _ ht1).mono ?_; rintro e w2 ⟨rfl, hb2⟩))
  go_ret
  exact ⟨rfl, ⟨hb2.os.trans hb1.os, hb2.tape.trans hb1.tape, hb2.output.trans hb1.output, Nat.le_trans hb1.size hb2.size, fun j hj => (hb2.block j (Nat.lt_of_lt_of_le hj hb1.size)).trans (hb1.block j hj)⟩⟩
end Go.Proofs.YtapliilimfgdjaaDoor.Digits
