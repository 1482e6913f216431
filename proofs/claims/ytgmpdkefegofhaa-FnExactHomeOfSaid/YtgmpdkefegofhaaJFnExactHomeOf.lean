/- The words of the print that this law's row uses, and its opener. Written by prune.py. -/
import Derived.Test.YtgmpdkefegofhaaKFnExactHomeOf
import Derived.Below
import Derived.Deep.Draws
import Derived.Deep.AppendLies
import Derived.Maps.AppendAt
import Derived.OwnWalk
import Derived.Laws.BytesArg
import Derived.Laws.MakeOwn
import Derived.Laws.OwnMore
import Derived.Deep.OwnRows
import Derived.Tactics
import Derived.Lib.ConvBytes
import Derived.Laws.Slices
import Derived.WalkKit
import Derived.KernelRfl
import Derived.RowKit3
import Derived.Deep.LoopGhost
import Derived.Deep.QuietTactic
import Derived.BigQuiet
import Derived.WideLaws
import Derived.Deep.DeepCutAuto
import Derived.Deep.CutBlock
import Derived.Deep.RegionHeld3
import Derived.Laws.Rows
import Derived.Lib.AppendStr
import Derived.ArgAppend
import Derived.Laws.IdiomCopy
import Derived.RowKit
import Derived.OrdersHeld
import Derived.Laws.BitsLemmas
import Derived.Laws.StructEq
import Derived.Test.YtgmpdkefegofhaaProg
import Derived.Deep.Slices
import Derived.Deep.Fields
import Derived.ChangeArms
import Derived.DataReads
import Derived.ChangeSame
import Derived.WideShapes
import Derived.OpenShut
import Derived.ProofKit
set_option linter.unusedVariables false
set_option linter.unusedSimpArgs false
namespace Go.Proofs.YtgmpdkefegofhaaW.PrintWords
open Go.RowKit
namespace Kd
end Kd
namespace Kd
end Kd
namespace Kd
end Kd
namespace Kd
end Kd
namespace Kd
end Kd
namespace Kd
end Kd
namespace Kd
end Kd
namespace Kd
end Kd
namespace Kd
end Kd
namespace Kd
end Kd
namespace Kd
end Kd
namespace Kd
end Kd
namespace Kd
end Kd
namespace Kd
end Kd
namespace Kd
end Kd
section
variable {P : Program} {ops : Array Oper} {o : Oper} {a : Act} {Q : Exit → Act → World → Prop} {Kc : Act → World → Prop}
namespace Kd
variable {α : Type}
end Kd
end
namespace Kd
end Kd
end Go.Proofs.YtgmpdkefegofhaaW.PrintWords
namespace Go.Proofs.YtgmpdkefegofhaaW.PrintLast
end Go.Proofs.YtgmpdkefegofhaaW.PrintLast
namespace Go.Proofs.YtgmpdkefegofhaaW.PrintLast
open Go.Proofs.YtgmpdkefegofhaaW.PrintWords (Aside0)
end Go.Proofs.YtgmpdkefegofhaaW.PrintLast
namespace Go.Proofs.YtgmpdkefegofhaaW.PrintLast
end Go.Proofs.YtgmpdkefegofhaaW.PrintLast
namespace Go.Proofs.YtgmpdkefegofhaaW.PrintWords
open Go.RowKit
namespace Kd
end Kd
end Go.Proofs.YtgmpdkefegofhaaW.PrintWords
namespace Go.Proofs.YtgmpdkefegofhaaW.PrintWords
open Go.RowKit
namespace Kd
end Kd
end Go.Proofs.YtgmpdkefegofhaaW.PrintWords
namespace Go.Proofs.YtgmpdkefegofhaaW.PrintWords
open Go.RowKit
namespace Kd
end Kd
end Go.Proofs.YtgmpdkefegofhaaW.PrintWords
namespace Go.Proofs.YtgmpdkefegofhaaW.PrintWords
open Go.RowKit
namespace Kd
end Kd
end Go.Proofs.YtgmpdkefegofhaaW.PrintWords
namespace Go.Proofs.YtgmpdkefegofhaaW.PrintWords
open Go.RowKit
namespace Kd
end Kd
end Go.Proofs.YtgmpdkefegofhaaW.PrintWords
namespace Go.Proofs.YtgmpdkefegofhaaW.PrintWords
open Go.RowKit
namespace Kd
end Kd
end Go.Proofs.YtgmpdkefegofhaaW.PrintWords
namespace Go.Proofs.YtgmpdkefegofhaaW.PrintWords
open Go.RowKit
namespace Foot
variable {P Q : World → Prop} {W W1 : World} {ok ok' : Nat → Prop}
end Foot
namespace Kd
end Kd
end Go.Proofs.YtgmpdkefegofhaaW.PrintWords
namespace Go.Proofs.YtgmpdkefegofhaaW.PrintWords
open Go.RowKit
namespace Kd
end Kd
end Go.Proofs.YtgmpdkefegofhaaW.PrintWords
namespace Go.Proofs.YtgmpdkefegofhaaW.PrintWords
open Go.RowKit
namespace Kd
end Kd
end Go.Proofs.YtgmpdkefegofhaaW.PrintWords
namespace Go.Proofs.YtgmpdkefegofhaaW.PrintWords
open Go.RowKit
namespace Kd
end Kd
end Go.Proofs.YtgmpdkefegofhaaW.PrintWords
namespace Go.Proofs.YtgmpdkefegofhaaW.PrintWords
open Go.RowKit
end Go.Proofs.YtgmpdkefegofhaaW.PrintWords
namespace Go.Proofs.YtgmpdkefegofhaaW.PrintWords
end Go.Proofs.YtgmpdkefegofhaaW.PrintWords
namespace Go.Proofs.YtgmpdkefegofhaaW.PrintLast
end Go.Proofs.YtgmpdkefegofhaaW.PrintLast
namespace Go.Proofs.YtgmpdkefegofhaaW.PrintWords
open Go.RowKit
end Go.Proofs.YtgmpdkefegofhaaW.PrintWords
namespace Go.Proofs.YtgmpdkefegofhaaW.PrintLast
end Go.Proofs.YtgmpdkefegofhaaW.PrintLast
namespace Go.Proofs.YtgmpdkefegofhaaW.PrintWords
open Go.RowKit
end Go.Proofs.YtgmpdkefegofhaaW.PrintWords
namespace Go.Proofs.YtgmpdkefegofhaaW.PrintWords
open Go.RowKit
namespace Kd
end Kd
end Go.Proofs.YtgmpdkefegofhaaW.PrintWords
namespace Go.Proofs.YtgmpdkefegofhaaW.PrintMore
open Go.RowKit Go.Proofs.YtgmpdkefegofhaaW.PrintWords
namespace Kd
open Go.Proofs.YtgmpdkefegofhaaW.PrintWords.Kd
end Kd
namespace Kd
open Go.Proofs.YtgmpdkefegofhaaW.PrintWords.Kd
end Kd
end Go.Proofs.YtgmpdkefegofhaaW.PrintMore
namespace Go.Proofs.YtgmpdkefegofhaaW.PrintWords
open Go.RowKit
namespace Kd
end Kd
end Go.Proofs.YtgmpdkefegofhaaW.PrintWords
namespace Go.Proofs.YtgmpdkefegofhaaW.PrintWords
open Go.RowKit
namespace Kd
end Kd
end Go.Proofs.YtgmpdkefegofhaaW.PrintWords
namespace Go.Proofs.YtgmpdkefegofhaaW.PrintMore
open Go.RowKit Go.Proofs.YtgmpdkefegofhaaW.PrintWords Go.Proofs.YtgmpdkefegofhaaW.PrintLast
end Go.Proofs.YtgmpdkefegofhaaW.PrintMore
namespace Go.Proofs.YtgmpdkefegofhaaW.PrintWords
end Go.Proofs.YtgmpdkefegofhaaW.PrintWords
namespace Go.Proofs.YtgmpdkefegofhaaW.PrintMore
open Go.Proofs.YtgmpdkefegofhaaW.PrintWords
end Go.Proofs.YtgmpdkefegofhaaW.PrintMore
namespace Go.Proofs.YtgmpdkefegofhaaW.PrintWords
end Go.Proofs.YtgmpdkefegofhaaW.PrintWords
namespace Go.Proofs.YtgmpdkefegofhaaW.PrintMore
open Go.RowKit Go.Proofs.YtgmpdkefegofhaaW.PrintWords Go.Proofs.YtgmpdkefegofhaaW.PrintLast
set_option linter.unusedVariables false
end Go.Proofs.YtgmpdkefegofhaaW.PrintMore
namespace Go.Proofs.Ytgmpdkefegofhaa.Opening
open Go.RowKit Go.ChangeShapes Go.WideShapes Go.Deep Go.Proofs.YtgmpdkefegofhaaW.PrintWords
def Opens (P : Program) (t : TypeId) {α : Type} (d : Kd α) (good : α → Prop) : Prop :=
  ∀ {H : Type} {enc : TypeId × Value → H} {w : World} {base : Nat} {spare : Nat → Bool} {held : Bool} {fuel : Nat} {cs : List Value} {x : DataW H × List MemPlace},
    DataW.trod enc P w base spare held fuel t cs = some x → ∃ a, d.K w a cs ∧ good a
variable {P : Program}
theorem opens_int {t : TypeId} {k : IntKind} (ht : P.underlying t = some (.int k)) : Opens P t (Kd.int k) (fun n => (Lit.int k n).wf = true) := by
  intro H enc w base spare held fuel cs x h
  obtain ⟨n, rfl, _, hw⟩ := DataW.trod_int ht h
  exact ⟨n, rfl, hw⟩
theorem opens_string {t : TypeId} (ht : P.underlying t = some .string) : Opens P t Kd.string (fun s => s.size ≤ maxLen) := by
  intro H enc w base spare held fuel cs x h
  obtain ⟨s, rfl, _, hw⟩ := DataW.trod_string ht h
  exact ⟨s, rfl, hw⟩
theorem opens_bool {t : TypeId} (ht : P.underlying t = some .bool) : Opens P t Kd.bool (fun _ => True) := by
  intro H enc w base spare held fuel cs x h
  obtain ⟨b, rfl, _⟩ := DataW.trod_bool ht h
  exact ⟨b, rfl, trivial⟩
theorem opens_iso {t : TypeId} {α β : Type} {d : Kd α} {good : α → Prop} (h : Opens P t d good) (f : β → α) (mk : α → β) (hf : ∀ a, f (mk a) = a) : Opens P t (Kd.iso d f) (fun b => good (f b)) := by
  intro H enc w base spare held fuel cs x hx
  obtain ⟨a, hk, hg⟩ := h hx
  refine ⟨mk a, ?_, ?_⟩
  · show d.K w (f (mk a)) cs
    rw [hf]
    exact hk
  · show good (f (mk a))
    rw [hf]
    exact hg
theorem take_one {α : Type} {l : List α} {i : Nat} (h : i < l.length) : (l.drop i).take 1 = [l[i]] := by
  rw [List.drop_eq_getElem_cons h]
  rfl
theorem field_at {H : Type} {enc : TypeId × Value → H} {w : World} {base : Nat} {spare : Nat → Bool} {held : Bool} {n i : Nat} {f : Field} {cs : List Value} {fs : Array Field} {xs : List (DataW H × List MemPlace)} (hone : oneCellFields P fs = true) (hj : fs[i]? = some f) (hl : i < cs.length) (hx : xs.length = fs.size)
    (hg : DataW.trod enc P w base spare held n f.type ((cs.drop f.offset).take (P.cellsOf f.type)) = xs[i]?) : ∃ y, DataW.trod enc P w base spare held n f.type [cs[i]] = some y := by
  obtain ⟨o, k⟩ := hone_of hone i f hj
  rw [o, k, take_one hl] at hg
  have hi : i < fs.size := (Array.getElem?_eq_some_iff.1 hj).1
  exact ⟨xs[i]'(by omega), by rw [hg, List.getElem?_eq_getElem (by omega)]⟩
theorem opens_two {t : TypeId} {f0 f1 : Field} {α β : Type} {d0 : Kd α} {d1 : Kd β} {g0 : α → Prop} {g1 : β → Prop} (hs : P.underlying t = some (.struct #[f0, f1])) (hone : oneCellFields P #[f0, f1] = true) (hC : P.cellsOf t = 2)
    (h0 : Opens P f0.type d0 g0) (h1 : Opens P f1.type d1 g1) : Opens P t (Kd.pair d0 d1) (fun x => g0 x.1 ∧ g1 x.2) := by
  intro H enc w base spare held fuel cs x hx
  obtain ⟨xs, n, _, _, hlen, hxl, hg⟩ := DataW.trod_struct hs hx
  rw [hC] at hlen
  obtain ⟨y0, e0⟩ := field_at hone (i := 0) rfl (by omega) hxl (hg 0 f0 rfl)
  obtain ⟨y1, e1⟩ := field_at hone (i := 1) rfl (by omega) hxl (hg 1 f1 rfl)
  obtain ⟨a0, k0, q0⟩ := h0 e0
  obtain ⟨a1, k1, q1⟩ := h1 e1
  refine ⟨(a0, a1), ⟨_, _, ?_, k0, k1⟩, q0, q1⟩
  match cs, hlen with
  | [c0, c1], _ => rfl
theorem opens_three {t : TypeId} {f0 f1 f2 : Field} {α β γ : Type} {d0 : Kd α} {d1 : Kd β} {d2 : Kd γ} {g0 : α → Prop} {g1 : β → Prop} {g2 : γ → Prop} (hs : P.underlying t = some (.struct #[f0, f1, f2])) (hone : oneCellFields P #[f0, f1, f2] = true) (hC : P.cellsOf t = 3)
    (h0 : Opens P f0.type d0 g0) (h1 : Opens P f1.type d1 g1) (h2 : Opens P f2.type d2 g2) : Opens P t (Kd.pair d0 (Kd.pair d1 d2)) (fun x => g0 x.1 ∧ g1 x.2.1 ∧ g2 x.2.2) := by
  intro H enc w base spare held fuel cs x hx
  obtain ⟨xs, n, _, _, hlen, hxl, hg⟩ := DataW.trod_struct hs hx
  rw [hC] at hlen
  obtain ⟨y0, e0⟩ := field_at hone (i := 0) rfl (by omega) hxl (hg 0 f0 rfl)
  obtain ⟨y1, e1⟩ := field_at hone (i := 1) rfl (by omega) hxl (hg 1 f1 rfl)
  obtain ⟨y2, e2⟩ := field_at hone (i := 2) rfl (by omega) hxl (hg 2 f2 rfl)
  obtain ⟨a0, k0, q0⟩ := h0 e0
  obtain ⟨a1, k1, q1⟩ := h1 e1
  obtain ⟨a2, k2, q2⟩ := h2 e2
  refine ⟨(a0, a1, a2), ⟨_, _, ?_, k0, ⟨_, _, rfl, k1, k2⟩⟩, q0, q1, q2⟩
  match cs, hlen with
  | [c0, c1, c2], _ => rfl
theorem opens_five {t : TypeId} {f0 f1 f2 f3 f4 : Field} {α β γ δ ε : Type} {d0 : Kd α} {d1 : Kd β} {d2 : Kd γ} {d3 : Kd δ} {d4 : Kd ε} {g0 : α → Prop} {g1 : β → Prop} {g2 : γ → Prop} {g3 : δ → Prop} {g4 : ε → Prop} (hs : P.underlying t = some (.struct #[f0, f1, f2, f3, f4])) (hone : oneCellFields P #[f0, f1, f2, f3, f4] = true) (hC : P.cellsOf t = 5)
    (h0 : Opens P f0.type d0 g0) (h1 : Opens P f1.type d1 g1) (h2 : Opens P f2.type d2 g2) (h3 : Opens P f3.type d3 g3) (h4 : Opens P f4.type d4 g4) :
    Opens P t (Kd.pair d0 (Kd.pair d1 (Kd.pair d2 (Kd.pair d3 d4)))) (fun x => g0 x.1 ∧ g1 x.2.1 ∧ g2 x.2.2.1 ∧ g3 x.2.2.2.1 ∧ g4 x.2.2.2.2) := by
  intro H enc w base spare held fuel cs x hx
  obtain ⟨xs, n, _, _, hlen, hxl, hg⟩ := DataW.trod_struct hs hx
  rw [hC] at hlen
  obtain ⟨y0, e0⟩ := field_at hone (i := 0) rfl (by omega) hxl (hg 0 f0 rfl)
  obtain ⟨y1, e1⟩ := field_at hone (i := 1) rfl (by omega) hxl (hg 1 f1 rfl)
  obtain ⟨y2, e2⟩ := field_at hone (i := 2) rfl (by omega) hxl (hg 2 f2 rfl)
  obtain ⟨y3, e3⟩ := field_at hone (i := 3) rfl (by omega) hxl (hg 3 f3 rfl)
  obtain ⟨y4, e4⟩ := field_at hone (i := 4) rfl (by omega) hxl (hg 4 f4 rfl)
  obtain ⟨a0, k0, q0⟩ := h0 e0
  obtain ⟨a1, k1, q1⟩ := h1 e1
  obtain ⟨a2, k2, q2⟩ := h2 e2
  obtain ⟨a3, k3, q3⟩ := h3 e3
  obtain ⟨a4, k4, q4⟩ := h4 e4
  refine ⟨(a0, a1, a2, a3, a4), ⟨_, _, ?_, k0, ⟨_, _, rfl, k1, ⟨_, _, rfl, k2, ⟨_, _, rfl, k3, k4⟩⟩⟩⟩, q0, q1, q2, q3, q4⟩
  match cs, hlen with
  | [c0, c1, c2, c3, c4], _ => rfl
theorem list_of {α : Type} (R : Nat → α → Prop) : ∀ n, (∀ i, i < n → ∃ a, R i a) → ∃ l : List α, l.length = n ∧ ∀ i a, l[i]? = some a → R i a
  | 0, _ => ⟨[], rfl, fun i a h => by simp at h⟩
  | n + 1, h => by
    obtain ⟨l, hl, hR⟩ := list_of R n (fun i hi => h i (by omega))
    obtain ⟨a, ha⟩ := h n (by omega)
    refine ⟨l ++ [a], by simp [hl], fun i b hb => ?_⟩
    by_cases hi : i < n
    · rw [List.getElem?_append_left (by omega)] at hb
      exact hR i b hb
    · have hlt : i < (l ++ [a]).length := (List.getElem?_eq_some_iff.1 hb).1
      rw [List.length_append, hl] at hlt
      simp only [List.length_cons, List.length_nil] at hlt
      obtain rfl : i = n := by omega
      rw [List.getElem?_append_right (by omega), hl, Nat.sub_self] at hb
      simp at hb
      rw [← hb]
      exact ha
theorem opens_slice {t e : TypeId} {α : Type} {d : Kd α} {good : α → Prop} (ht : P.underlying t = some (.slice e)) (hC : P.cellsOf e = d.sz) (h : Opens P e d good) : Opens P t (Kd.slice e d) (fun l => l.length ≤ maxLen ∧ ∀ x ∈ l, good x) := by
  intro H enc w base spare held fuel cs x hx
  rcases open_slice ht hx with ⟨rfl, _⟩ | ⟨a, len, cap, m, n, D, Pl, rfl, hb, hl, hm, hmm, _, hi⟩
  · exact ⟨[], ⟨none, 0, rfl, Nat.le_refl _, Kd.C_nil _ _⟩, by simp [maxLen], fun x hx => by cases hx⟩
  · have hml : len ≤ m := by rw [hmm]; split <;> omega
    obtain ⟨l, hll, hR⟩ := list_of (fun i b => (∃ c, c.length = d.sz ∧ d.K w b c ∧ ∀ j u, c[j]? = some u → w.cell? (a.add (i * d.sz + j)) = some u) ∧ good b) len (fun i hil => by
      obtain ⟨cs', hc, ht'⟩ := hi i (by omega)
      obtain ⟨b, hk, hg⟩ := h ht'
      rw [hC] at hc
      obtain ⟨_, hcl, hat⟩ := World.cells?_some hc
      refine ⟨b, ⟨cs', hcl, hk, fun j u hu => ?_⟩, hg⟩
      have hj : j < d.sz := by rw [← hcl]; exact (List.getElem?_eq_some_iff.1 hu).1
      rw [← Go.Deep.add_add, hat j hj, hu])
    subst hll
    have hmax : l.length ≤ maxLen := Nat.le_trans hl hm
    refine ⟨l, ⟨some a, cap, rfl, hl, rfl, by simpa [maxLen] using hmax, fun _ => ⟨a, rfl, fun j p hj => (hR j p hj).1⟩⟩, hmax, fun x hx => ?_⟩
    obtain ⟨i, hi2, rfl⟩ := List.mem_iff_getElem.1 hx
    exact (hR i _ (List.getElem?_eq_getElem hi2)).2
end Go.Proofs.Ytgmpdkefegofhaa.Opening
