-- Short names for this session's printed texts. Lean checks it.
import Derived.Test.YtgmpdkefegofhaaKFnAtomic
namespace Go.Proofs.YtgmpdkefegofhaaW.Cr
open Go Go.RowKit Go.Proofs.YtgmpdkefegofhaaW.PrintWords Go.Proofs.YtgmpdkefegofhaaW.PrintLast Go.Proofs.YtgmpdkefegofhaaW.PrintMore
theorem oB {α β : Type} {o : Option α} {f : α → Option β} {b : β} (h : o.bind f = some b) : ∃ a, Aside0 (o = some a) ∧ f a = some b := by
  obtain ⟨a, h1, h2⟩ := Option.bind_eq_some_iff.mp h
  exact ⟨a, ⟨h1⟩, h2⟩
theorem z2 {w : World} {g : Nat} {a a' : Value} {l : List Value} {t : TypeId} (b : Aside0 (w.heap[g]? = some (.cells (List.toArray (a :: a' :: l)) t (0, 0)))) : w.cell? ⟨g, 0, none⟩ = some a ∧ w.cell? ⟨g, 1, none⟩ = some a' ∧ w.frozen? ⟨g, 0, none⟩ = false ∧ w.frozen? ⟨g, 1, none⟩ = false := ⟨cZ0 b, cZ1 b, fZ b 0, fZ b 1⟩
section
variable {α : Type} {d : Kd α} {e base : Nat} {ok ok' : Nat → Prop} {v : Value} {xs : List α} {w : World}
theorem fR (g j : Nat) (h : d.R e w base ok v xs) (hok : ∀ k, ok k → k ≠ g) (u : Value) : d.R e (w.setCell ⟨g, j, none⟩ u) base ok v xs := Kd.R_far (p := ⟨g, j, none⟩) h hok u
theorem fQ (g j : Nat) (h : d.Q e w base ok v xs) (hok : ∀ k, ok k → k ≠ g) (u : Value) : d.Q e (w.setCell ⟨g, j, none⟩ u) base ok v xs := Kd.Q_far (p := ⟨g, j, none⟩) h hok u
end
theorem pU {w0 W : World} {g : Nat} {t : TypeId} {cs cs' : Array Value} (b : Aside0 (w0.heap[g]? = some (.cells cs t (0, 0)))) (h : w0.heap[g]? = some (.cells cs t (0, 0)) → W.heap[g]? = some (.cells cs' t (0, 0)) := by intro h_; (repeat (first | (with_reducible first | exact h_ | apply bN | apply bD | apply bA | apply blk_put) | exact h_)); all_goals rfl) : W.heap[g]? = some (.cells cs' t (0, 0)) := h b.out
theorem s1 {p q : Nat → Prop} (k : Nat) (h : p k ∧ q k) : p k := h.1
theorem s2 {p q : Nat → Prop} (k : Nat) (h : p k ∧ q k) : q k := h.2
theorem sT {p : Nat → Prop} (k : Nat) (_ : p k) : True := trivial
theorem mN {α : Type} {x y : Option α} (h : LeO x y := by repeat' (first | (with_reducible first | apply ih0 | apply ih1 | apply ih2 | apply ih3 | apply ih4 | apply ih5 | apply ih6 | apply ih7 | apply ih8 | apply ih9 | apply ih10 | apply m0_ | apply m1_ | apply m2_ | apply m3_ | apply m4_ | apply m5_ | apply m6_ | apply m7_ | apply m8_ | apply m9_ | apply m10_ | apply m11_ | exact LeO.refl _ | exact LeO.none _ | refine LeO.ite ?_ ?_ | refine LeO.bind ?_ (fun _ => ?_)) | apply ih0 | apply ih1 | apply ih2 | apply ih3 | apply ih4 | apply ih5 | apply ih6 | apply ih7 | apply ih8 | apply ih9 | apply ih10 | apply m0_ | apply m1_ | apply m2_ | apply m3_ | apply m4_ | apply m5_ | apply m6_ | apply m7_ | apply m8_ | apply m9_ | apply m10_ | apply m11_ | exact LeO.none _ | refine LeO.ite ?_ ?_ | refine LeO.bind ?_ (fun _ => ?_))) : LeO x y := h
end Go.Proofs.YtgmpdkefegofhaaW.Cr
