/- '[]byte(s)' as an event: a row of the bytes that is only read, its block new. No condition. -/
import Derived.Test.YtadfimhielcmmaaWMore
import Derived.Lib.ConvBytes
namespace Go.Proofs.YtadfimhielcmmaaW.PrintMore
open Go.RowKit Go.Proofs.YtadfimhielcmmaaW.PrintWords Go.Proofs.YtadfimhielcmmaaW.PrintLast
theorem bytes_reads_at {W W' : World} {e : TypeId} {s : ByteArray} (hs : s.size ≤ 9223372036854775807) (hb : W'.heap[W.heap.size]? = (Lib.bytesWorld W e s).heap[W.heap.size]?) : ReadsInt W' .u8 (some ⟨W.heap.size, 0, none⟩) s.size (bytesOf s) := by
  obtain ⟨h1, h2, h3⟩ := bytes_reads W e s hs
  refine ⟨h1, h2, fun hp => ?_⟩
  obtain ⟨ad, ha, hc⟩ := h3 hp
  refine ⟨ad, ha, fun j hj => ?_⟩
  rw [← hc j hj]
  injection ha with ha
  subst ha
  exact World.cell?_of_block (by rw [add_block]; exact hb)
theorem grownCap_fits (W : World) (n : Nat) (e : TypeId) : n ≤ grownCap W n 0 e := by
  exact grownCap_ge W n 0 e
theorem bytes_V {W : World} {e : TypeId} {s : ByteArray} (base : Nat) (hs : s.size ≤ 9223372036854775807) :
    Kd.V (Kd.int .u8) e (Lib.bytesWorld W e s) base (fun k => W.heap.size ≤ k) (.slice (some ⟨W.heap.size, 0, none⟩) s.size (grownCap W s.size 0 e)) (bytesOf s) := by
  have hl := bytesOf_length s
  have h : Kd.V (Kd.int .u8) e (Lib.bytesWorld W e s) base (fun k => W.heap.size ≤ k) (.slice (some ⟨W.heap.size, 0, none⟩) (bytesOf s).length (grownCap W s.size 0 e)) (bytesOf s) := by
    refine Kd.V_mk (by rw [hl]; exact grownCap_fits W s.size e) (fun W' hW => ?_)
    rw [hl]
    exact Kd.C_of_reads (d := (0 : Int)) (h1 := fun _ => rfl) (bytes_reads_at hs (hW W.heap.size (Nat.le_refl _) (by rw [Lib.bytesWorld_size]; omega)))
  rwa [hl] at h
theorem bytes_grown (W : World) (e : TypeId) (s : ByteArray) : W.grownBy (Lib.bytesWorld W e s) none := ⟨rfl, rfl, rfl, by rw [Lib.bytesWorld_size]; omega, fun k hk _ => Lib.bytesWorld_at_old W e s k hk⟩
section
variable {P : Program} {ops : Array Oper} {rest : List Oper} {o : Oper} {a : Act} {Q : Exit → Act → World → Prop} {Kc : Act → World → Prop}
theorem run_bytes {src dst e : TypeId} {x : Operand} {u : TypeDesc} {s : ByteArray} {W : World} (ho : o.op = .convert src dst x) (hx : a.eval x = .string s) (hs : P.underlying src = some u) (hd : P.underlying dst = some (.slice e)) (he : P.underlying e = some (.int .u8)) :
    (execOp a.eval o).run P W = .ok (.value (.slice (some ⟨W.heap.size, 0, none⟩) s.size (grownCap W s.size 0 e))) (Lib.bytesWorld W e s) := by
  have := print_bytes (P := P) src dst e hs hd he s W
  simp [execOp, ho, hx, this]
theorem V_bytes {W : World} (e : TypeId) (hgd : o.guard = none) {N' : Tmp} (_hd : o.dst = some N') (src dst : TypeId) (x : Operand) {u : TypeDesc} (ho : o.op = .convert src dst x) (s : ByteArray) (hx : a.eval x = .string s)
    (hs : P.underlying src = some u) (hdt : P.underlying dst = some (.slice e)) (he : P.underlying e = some (.int .u8)) (hl : s.size ≤ 9223372036854775807)
    (h : ∀ v1 w1, Kd.V (Kd.int .u8) e w1 W.heap.size (fun k => W.heap.size ≤ k) v1 (bytesOf s) → Below W.heap.size W w1 → W.grownBy w1 none → (∃ b, v1.ownBlock = some b ∧ W.heap.size ≤ b) → wpList P ops Q rest (a.put o.dst v1) w1) : wpList P ops Q (o :: rest) a W :=
  Kd.event_run hgd (run_bytes ho hx hs hdt he) (h _ _ (bytes_V _ hl) (bytes_below (Below.refl _ _) (Nat.le_refl _) e s) (bytes_grown W e s) ⟨W.heap.size, by simp [Value.ownBlock], Nat.le_refl _⟩)
theorem V_bytes_step {W : World} (e : TypeId) (hw : Region.wanted o (yielded ops a.tmps) = true) {N' : Tmp} (_hd : o.dst = some N') (src dst : TypeId) (x : Operand) {u : TypeDesc} (ho : o.op = .convert src dst x) (s : ByteArray) (hx : a.eval x = .string s)
    (hs : P.underlying src = some u) (hdt : P.underlying dst = some (.slice e)) (he : P.underlying e = some (.int .u8)) (hl : s.size ≤ 9223372036854775807)
    (h : ∀ v1 w1, Kd.V (Kd.int .u8) e w1 W.heap.size (fun k => W.heap.size ≤ k) v1 (bytesOf s) → Below W.heap.size W w1 → W.grownBy w1 none → (∃ b, v1.ownBlock = some b ∧ W.heap.size ≤ b) → Kc (a.put o.dst v1) w1) :
    if Region.wanted o (yielded ops a.tmps) = true then Oper.wp P o a W Kc Q else Kc (a.put o.dst undef) W :=
  event_step hw (run_bytes ho hx hs hdt he) (h _ _ (bytes_V _ hl) (bytes_below (Below.refl _ _) (Nat.le_refl _) e s) (bytes_grown W e s) ⟨W.heap.size, by simp [Value.ownBlock], Nat.le_refl _⟩)
end
end Go.Proofs.YtadfimhielcmmaaW.PrintMore
namespace Go.Proofs.YtadfimhielcmmaaW.PrintWords
theorem Kd.Q_reok {α : Type} {d : Kd α} {e base : Nat} {W : World} {ok1 ok : Nat → Prop} {v : Value} {xs : List α} (hE : d.E = []) (h : d.Q e W base ok1 v xs) (hok : ∀ k, v.ownBlock = some k → ok k) : d.Q e W base ok v xs := Kd.Q_mono (Kd.Q_tight hE h) (fun k hk => hok k hk.symm)
end Go.Proofs.YtadfimhielcmmaaW.PrintWords
namespace Go.Proofs.YtadfimhielcmmaaW.PrintMore
open Go.Proofs.YtadfimhielcmmaaW.PrintWords
/-! short names, for texts that are too long for one file -/
theorem bA {w : World} {g : Nat} {o : Obj} (h : w.heap[g]? = some o) (o' : Obj) : (w.alloc o').heap[g]? = some o := blk_alloc h o'
theorem bD {w : World} {g : Nat} {o : Obj} (h : w.heap[g]? = some o) : w.drew.heap[g]? = some o := h
theorem own_eq (A : Option Addr) (n c : Nat) : (Value.slice A n c).ownBlock = A.map Addr.block := by cases A <;> rfl
theorem bN {w : World} {g : Nat} {o : Obj} (h : w.heap[g]? = some o) (n : Nat) : (w.drewN n).heap[g]? = some o := h
end Go.Proofs.YtadfimhielcmmaaW.PrintMore
namespace Go.Proofs.YtadfimhielcmmaaW.PrintWords
/-- A row of texts that is read: its cells, each at its own place. -/
theorem Kd.string_cells {w : World} {A : Option Addr} {n : Nat} {xs : List ByteArray} (h : Kd.C Kd.string w A n xs) (hn : 0 < n) : ∃ b o, A = some ⟨b, o, none⟩ ∧ ∀ (j : Nat) x, xs[j]? = some x → w.cell? ⟨b, o + j, none⟩ = some (.string x) := by
  obtain ⟨hl, _, hc⟩ := h
  obtain ⟨ad, rfl, hx⟩ := hc hn
  have hx' : ∀ (j : Nat) x, xs[j]? = some x → w.cell? (ad.add j) = some (.string x) := by
    intro j x hj
    obtain ⟨c, hcl, hk, hi⟩ := hx j x hj
    have hk' : c = [Value.string x] := hk
    have := hi 0 (.string x) (by rw [hk']; rfl)
    rwa [show j * Kd.string.sz + 0 = j from by show j * 1 + 0 = j; omega] at this
  obtain ⟨b, o, sp⟩ := ad
  have h0 : xs[0]? = some xs[0] := List.getElem?_eq_getElem (by omega)
  have h1 := hx' 0 _ h0
  rw [show (⟨b, o, sp⟩ : Addr).add 0 = ⟨b, o, sp⟩ from rfl] at h1
  cases sp with
  | none => exact ⟨b, o, rfl, fun j x hj => by have := hx' j x hj; rwa [add_at] at this⟩
  | some q =>
    unfold World.cell? at h1
    split at h1 <;> simp at h1
end Go.Proofs.YtadfimhielcmmaaW.PrintWords
