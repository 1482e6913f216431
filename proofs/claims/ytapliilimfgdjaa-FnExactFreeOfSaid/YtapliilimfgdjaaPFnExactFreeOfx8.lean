-- Written by xprint.py, a program of this session over the kit's print. Not trusted: Lean checks it.
import Derived.Test.YtapliilimfgdjaaPFnExactFreeOfx0
import Derived.Test.YtapliilimfgdjaaPFnExactFreeOfx7
namespace Go.Proofs.Ytapliilimfgdjaa.PFnExactFreeOf
open Go.RowKit Go.Proofs.YtapliilimfgdjaaW.PrintWords Go.Proofs.YtapliilimfgdjaaW.PrintLast Go.Proofs.YtapliilimfgdjaaW.PrintMore
attribute [local go_sem] max2_int min2_int max_two min_two max_three min_three max_four min_four   -- for this text's walks alone
set_option linter.unusedVariables false
set_option linter.unusedSimpArgs false

/-! ### impl_ShapeOk_1: function 25 -/
def impl_ShapeOk_1.f (k : Nat) (a0_0 : Int) (a0_1 : Int) (a0_2 : Int) (a0_3 : Int) (l0_4 : List Int) : Option (Bool) := (impl_NodeOk.f k a0_0 a0_1 a0_2 a0_3 l0_4).bind fun t226 => (some (!t226))
theorem impl_ShapeOk_1.mono : ∀ a0 a1 a2 a3 a4 k, LeO (impl_ShapeOk_1.f k a0 a1 a2 a3 a4) (impl_ShapeOk_1.f (k + 1) a0 a1 a2 a3 a4) := by
 intro a0 a1 a2 a3 a4 k
 unfold impl_ShapeOk_1.f
 have m0_ := @impl_NodeOk.mono
 exact mM
set_option maxHeartbeats 8000000 in
set_option maxRecDepth 100000 in
theorem impl_ShapeOk_1.calls (k : Nat) (a0_0 : Int) (a0_1 : Int) (a0_2 : Int) (a0_3 : Int) (A0_4 : Option Addr) (c0_4 : Nat) (l0_4 : List Int) (r : Bool) (w : World) (hr0_4 : Kd.C (Kd.int .i64) w A0_4 l0_4.length l0_4) (hc0_4 : l0_4.length ≤ c0_4) (h : impl_ShapeOk_1.f k a0_0 a0_1 a0_2 a0_3 l0_4 = some r) :
  Calls Try.prog 25 #[.agg #[.int .i64 a0_0, .int .i64 a0_1, .int .i64 a0_2, .int .i64 a0_3, .slice A0_4 l0_4.length c0_4]] w fun e w' => e = .returned (.bool r) ∧ Below w.heap.size w w' := by
 have hu40 := Try.underlying40
 have HR0_4 := aM hr0_4
 have HC0_4 := aM hc0_4
 clear hr0_4 hc0_4
 have HB := aM (Below.refl w.heap.size w)
 unfold impl_ShapeOk_1.f at h
 have H := h
 clear h
 replace H := Option.bind_eq_some_iff.mp H
 obtain ⟨t226, A20, H⟩ := H
 try dsimp only at H
 have A2 := aM A20
 clear A20
 obtain rfl := Option.some.inj H
 go_enter Try.func25, Try.ntmps25
 go_wp2_with (first | ((with_reducible refine gate_dst (N := 1) rfl ?_); refine bE 1 #[.int .i64 a0_0, .int .i64 a0_1, .int .i64 a0_2, .int .i64 a0_3, .slice A0_4 l0_4.length c0_4] 40 ?_; intro gb225 hg w3 hbox hb; have n_ := aI (sB HB hb) (aI (aM hbox) (aI (gE HB hg) (gE HB hg))); clear HB; obtain ⟨HB, BK225, GW225, GE225⟩ := n_; (try clear hb hbox hg); have hcz4_0 := cZ0 BK225; have hcz4_1 := cZ1 BK225; have hcz4_2 : w3.cell? ⟨gb225, 2, none⟩ = some (.int .i64 a0_2) := (blk_cell BK225.out 2).trans rfl; have hcz4_3 : w3.cell? ⟨gb225, 3, none⟩ = some (.int .i64 a0_3) := (blk_cell BK225.out 3).trans rfl; have hcz4_4 : w3.cell? ⟨gb225, 4, none⟩ = some (.slice A0_4 l0_4.length c0_4) := (blk_cell BK225.out 4).trans rfl; have hfz4_0 := fZ BK225 0; have hfz4_1 := fZ BK225 1; have hfz4_2 := fZ BK225 2; have hfz4_3 := fZ BK225 3; have hfz4_4 := fZ BK225 4) | ((with_reducible refine gate_callee (f := 26) rfl ?_); refine gL (some 4) Try.func26 #[.agg #[.int .i64 a0_0, .int .i64 a0_1, .int .i64 a0_2, .int .i64 a0_3, .slice A0_4 l0_4.length c0_4]] ?_; (with_reducible refine (impl_NodeOk.calls k a0_0 a0_1 a0_2 a0_3 _ _ l0_4 t226 _ ?side1 ?side2 A2.out).mono ?_); (case side1 => exact cS HR0_4 HB); (case side2 => exact HC0_4.out); rintro e w5 ⟨rfl, hb⟩; refine ⟨_, rfl, ?_⟩; have n_ := aI (kB BK225 hb) (sB HB hb); clear BK225 HB; obtain ⟨BK225, HB⟩ := n_; (try clear hb)))
 go_ret
 exact ⟨eW, bB⟩

/-! ### bits_Mul32: function 46 -/
def bits_Mul32.f (a0 : Int) (a1 : Int) : Option (Int × Int) := some (((IntKind.u64.wrap ((IntKind.u64.wrap (a0)) * (IntKind.u64.wrap (a1)))) / 4294967296) % 4294967296, (IntKind.u64.wrap ((IntKind.u64.wrap (a0)) * (IntKind.u64.wrap (a1)))) % 4294967296)
set_option maxHeartbeats 8000000 in
set_option maxRecDepth 100000 in
theorem bits_Mul32.calls (a0 : Int) (a1 : Int) (r1 : Int) (r2 : Int) (w : World) (h : bits_Mul32.f a0 a1 = some (r1, r2)) :
  Calls Try.prog 46 #[.int .u32 a0, .int .u32 a1] w fun e w' => e = .returned (.tuple #[.int .u32 r1, .int .u32 r2]) ∧ Drawn0 w w' := by
 unfold bits_Mul32.f at h
 have H := h
 clear h
 simp only [Option.some.injEq, Prod.mk.injEq] at H
 obtain ⟨rfl, rfl⟩ := H
 go_enter Try.func46, Try.ntmps46
 go_wp2
 go_ret2
 exact ⟨by first | rfl | (simp; done) | (simp [*]; done), by repeat (first | exact Drawn0.refl _ | apply Drawn0.step)⟩

/-! ### bits_Mul64: function 47 -/
def bits_Mul64.f (a0 : Int) (a1 : Int) : Option (Int × Int) := some (IntKind.u64.wrap ((IntKind.u64.wrap ((IntKind.u64.wrap ((a0 / 4294967296) * (a1 / 4294967296))) + ((IntKind.u64.wrap ((IntKind.u64.wrap ((a0 / 4294967296) * (Go.bits .and .u64 a1 4294967295))) + ((IntKind.u64.wrap ((Go.bits .and .u64 a0 4294967295) * (Go.bits .and .u64 a1 4294967295))) / 4294967296))) / 4294967296))) + ((IntKind.u64.wrap ((Go.bits .and .u64 (IntKind.u64.wrap ((IntKind.u64.wrap ((a0 / 4294967296) * (Go.bits .and .u64 a1 4294967295))) + ((IntKind.u64.wrap ((Go.bits .and .u64 a0 4294967295) * (Go.bits .and .u64 a1 4294967295))) / 4294967296))) 4294967295) + (IntKind.u64.wrap ((Go.bits .and .u64 a0 4294967295) * (a1 / 4294967296))))) / 4294967296)), IntKind.u64.wrap (a0 * a1))
set_option maxHeartbeats 8000000 in
set_option maxRecDepth 100000 in
theorem bits_Mul64.calls (a0 : Int) (a1 : Int) (r1 : Int) (r2 : Int) (w : World) (h : bits_Mul64.f a0 a1 = some (r1, r2)) :
  Calls Try.prog 47 #[.int .u64 a0, .int .u64 a1] w fun e w' => e = .returned (.tuple #[.int .u64 r1, .int .u64 r2]) ∧ Drawn0 w w' := by
 unfold bits_Mul64.f at h
 have H := h
 clear h
 simp only [Option.some.injEq, Prod.mk.injEq] at H
 obtain ⟨rfl, rfl⟩ := H
 go_enter Try.func47, Try.ntmps47
 go_wp2
 go_ret2
 exact ⟨by first | rfl | (simp; done) | (simp [*]; done), by repeat (first | exact Drawn0.refl _ | apply Drawn0.step)⟩

/-! ### bits_Mul: function 44 -/
def bits_Mul.f (a0 : Int) (a1 : Int) : Option (Int × Int) := (bits_Mul64.f a0 a1).bind fun bt227 => (some (bt227.1, bt227.2))
set_option maxHeartbeats 8000000 in
set_option maxRecDepth 100000 in
theorem bits_Mul.calls (a0 : Int) (a1 : Int) (r1 : Int) (r2 : Int) (w : World) (h : bits_Mul.f a0 a1 = some (r1, r2)) :
  Calls Try.prog 44 #[.int .u64 a0, .int .u64 a1] w fun e w' => e = .returned (.tuple #[.int .u64 r1, .int .u64 r2]) ∧ Drawn0 w w' := by
 unfold bits_Mul.f at h
 have H := h
 clear h
 replace H := Option.bind_eq_some_iff.mp H
 obtain ⟨⟨t227, t228⟩, A30, H⟩ := H
 try dsimp only at H
 have A3 := aM A30
 clear A30
 simp only [Option.some.injEq, Prod.mk.injEq] at H
 obtain ⟨rfl, rfl⟩ := H
 go_enter Try.func44, Try.ntmps44
 go_wp2_with (first | ((with_reducible refine gate_callee (f := 47) rfl ?_); refine gL (some 25) Try.func47 #[.int .u64 a0, .int .u64 a1] ?_; (with_reducible refine (bits_Mul64.calls a0 a1 t227 t228 _ A3.out).mono ?_); rintro e w' ⟨rfl, ⟨nd, rfl⟩⟩; refine ⟨_, rfl, ?_⟩))
 go_ret2
 exact ⟨by first | rfl | (simp; done) | (simp [*]; done), by repeat (first | exact Drawn0.refl _ | apply Drawn0.step)⟩

/-! ### slices_Repeat_int_int: function 39 -/
def slices_Repeat_int_int.f (l0 : List Int) (a1 : Int) : Option (List Int) := if l0.length = 1 then (if 0 ≤ a1 then (if a1.toNat ≤ 17592186044416 then some (List.replicate a1.toNat (l0.getD 0 0)) else none) else none) else none
theorem slices_Repeat_int_int.wr (x : Int) (h0 : 0 ≤ x) (h1 : x ≤ 17592186044416) : IntKind.u64.wrap x = x := by
 rw [show IntKind.u64.wrap x = x % 18446744073709551616 from by simp [IntKind.wrap, IntKind.bits, IntKind.signed]]
 omega
theorem slices_Repeat_int_int.wi (x : Int) (h0 : 0 ≤ x) (h1 : x ≤ 17592186044416) : IntKind.i64.wrap x = x := by
 rw [IntKind.wrap_i64]
 omega
theorem slices_Repeat_int_int.mask (n : Int) (h0 : 0 ≤ n) (h1 : n ≤ 17592186044416) : Go.bits .and .u64 n 4294967295 = n % 4294967296 := by
 have h := bits_mask .u64 63 (by decide) (fun x hx0 hx1 => by rw [show IntKind.u64.wrap x = x % 18446744073709551616 from by simp [IntKind.wrap, IntKind.bits, IntKind.signed]]; omega) 32 (by decide) n h0 (by omega)
 exact h
theorem slices_Repeat_int_int.mul (n : Int) (h0 : 0 ≤ n) (h1 : n ≤ 17592186044416) : bits_Mul.f 1 n = some (0, n) := by
 have e1 : Go.bits .and .u64 1 4294967295 = 1 := slices_Repeat_int_int.mask 1 (by omega) (by omega)
 have e3 : Go.bits .and .u64 0 4294967295 = 0 := slices_Repeat_int_int.mask 0 (by omega) (by omega)
 have e2 := slices_Repeat_int_int.mask n h0 h1
 unfold bits_Mul.f bits_Mul64.f
 rw [e1, e2]
 obtain ⟨b, hb⟩ : ∃ b, b = n % 4294967296 := ⟨_, rfl⟩
 obtain ⟨a, ha⟩ : ∃ a, a = n / 4294967296 := ⟨_, rfl⟩
 rw [← hb, ← ha]
 have b0 : 0 ≤ b := by omega
 have b1 : b < 4294967296 := by omega
 have a0 : 0 ≤ a := by omega
 have a1 : a ≤ 4096 := by omega
 have d1 : (1 : Int) / 4294967296 = 0 := by decide
 have d0 : (0 : Int) / 4294967296 = 0 := by decide
 have db : b / 4294967296 = 0 := by omega
 have da : a / 4294967296 = 0 := by omega
 have w0 := slices_Repeat_int_int.wr 0 (by omega) (by omega)
 have wb := slices_Repeat_int_int.wr b (by omega) (by omega)
 have wa := slices_Repeat_int_int.wr a (by omega) (by omega)
 have wn := slices_Repeat_int_int.wr n (by omega) (by omega)
 simp only [d1, d0, Int.zero_mul, Int.one_mul, Int.zero_add, Int.add_zero, w0, wb, wa, wn, db, da, e3, Option.bind_some]
theorem slices_Repeat_int_int.list {α : Type} (L : List α) (x z : α) (n m q : Nat) (hm : m ≤ n) (hq : m + q ≤ n) (h : L.take n = List.replicate m x ++ List.replicate (n - m) z) : (splice L m (List.replicate q x)).take n = List.replicate (m + q) x ++ List.replicate (n - (m + q)) z := by
 obtain ⟨R, rfl⟩ : ∃ R, L = (List.replicate m x ++ List.replicate (n - m) z) ++ R := ⟨L.drop n, by rw [← h, List.take_append_drop]⟩
 unfold splice
 obtain ⟨k, rfl⟩ : ∃ k, n = m + q + k := ⟨n - (m + q), by omega⟩
 rw [List.length_replicate, show m + q + k - m = q + k by omega, show m + q + k - (m + q) = k by omega]
 have e1 : ((List.replicate m x ++ List.replicate (q + k) z) ++ R).take m = List.replicate m x := by
  rw [List.append_assoc, List.take_append_of_le_length (by rw [List.length_replicate]; exact Nat.le_refl _), List.take_of_length_le (by rw [List.length_replicate]; exact Nat.le_refl _)]
 have e2 : ((List.replicate m x ++ List.replicate (q + k) z) ++ R).drop (m + q) = List.replicate k z ++ R := by
  have h1 : (List.replicate m x ++ List.replicate (q + k) z) ++ R = (List.replicate m x ++ List.replicate q z) ++ (List.replicate k z ++ R) := by rw [← List.replicate_append_replicate]; simp only [List.append_assoc]
  rw [h1]
  exact List.drop_left' (by simp)
 rw [e1, e2]
 have h3 : List.replicate m x ++ (List.replicate q x ++ (List.replicate k z ++ R)) = (List.replicate (m + q) x ++ List.replicate k z) ++ R := by rw [← List.replicate_append_replicate]; simp only [List.append_assoc]
 rw [h3]
 exact List.take_left' (by simp)
theorem slices_Repeat_int_int.cells (L : List Value) (x : Int) (n m : Nat) (hm : m ≤ n) (h : L.take n = encs (fun n_ : Int => Value.int .i64 n_) (List.replicate m x ++ List.replicate (n - m) 0)) : L.take n = List.replicate m (Value.int .i64 x) ++ List.replicate (n - m) (Value.int .i64 0) := by
 rw [h]
 simp [encs]
theorem slices_Repeat_int_int.src (L : List Value) (x : Int) (n m q j : Nat) (v : Value) (hm : m ≤ n) (hq : q ≤ m) (h : L.take n = List.replicate m (Value.int .i64 x) ++ List.replicate (n - m) (Value.int .i64 0)) (hv : (List.replicate q (Value.int .i64 x))[j]? = some v) : L[j]? = some v := by
 have hj : j < q := by
  rcases Nat.lt_or_ge j q with h | h
  ·exact h
  rw [List.getElem?_eq_none (by rw [List.length_replicate]; exact h)] at hv
  cases hv
 have h1 : (L.take n)[j]? = L[j]? := by rw [List.getElem?_take, if_pos (by omega)]
 rw [← h1, h, List.getElem?_append_left (by rw [List.length_replicate]; omega), List.getElem?_replicate, if_pos (by omega)]
 rw [List.getElem?_replicate, if_pos hj] at hv
 exact hv
theorem slices_Repeat_int_int.cell (W : World) (g : Nat) (L : List Value) (t : TypeId) (h : W.heap[g]? = some (.cells L.toArray t (0, 0))) (j : Nat) (v : Value) (hv : L[j]? = some v) : (W.drew).cell? ⟨g, j, none⟩ = some v := by
 show W.cell? ⟨g, j, none⟩ = some v
 simp [World.cell?, h, hv]
set_option maxHeartbeats 8000000 in
set_option maxRecDepth 100000 in
theorem slices_Repeat_int_int.calls (A0 : Option Addr) (c0 : Nat) (l0 : List Int) (a1 : Int) (r : List Int) (w : World) (hr0 : Kd.C (Kd.int .i64) w A0 l0.length l0) (hc0 : l0.length ≤ c0) (h : slices_Repeat_int_int.f l0 a1 = some r) :
  Calls Try.prog 39 #[.slice A0 l0.length c0, .int .i64 a1] w fun e w' => ∃ v0_ : Value, e = .returned (v0_) ∧ Kd.R (Kd.int .i64) 3 w' w.heap.size (fun _ => True) v0_ r ∧ Below w.heap.size w w' := by
 unfold slices_Repeat_int_int.f at h
 split at h
 ·rename_i hl
  split at h
  ·rename_i h0
   split at h
   ·rename_i h1
    obtain rfl := Option.some.inj h
    clear h
    have A3 := aM (slices_Repeat_int_int.mul a1 h0 (by omega))
    have HB := aM (Below.refl w.heap.size w)
    have HR0 := aM hr0
    have HC0 := aM hc0
    have HL0 := aM hl
    have H1 := aM h1
    have wa : IntKind.u64.wrap a1 = a1 := slices_Repeat_int_int.wr a1 h0 (by omega)
    have wb : IntKind.i64.wrap a1 = a1 := slices_Repeat_int_int.wi a1 h0 (by omega)
    have c1 : decide (a1 < 0) = false := decide_eq_false (by omega)
    have c2 : decide (0 ≤ a1) = true := decide_eq_true h0
    have c3 : decide (9223372036854775807 < a1) = false := decide_eq_false (by omega)
    have H0 := aM h0
    have HR1 := aM (show Kd.C (Kd.int .i64) w A0 1 l0 from hl ▸ hr0)
    rw [hl]
    clear hr0 hc0 hl h0 h1
    go_enter Try.func39, Try.ntmps39
    go_wp2_with (first | ((with_reducible refine gate_callee (f := 44) rfl ?_); refine goesL_ (some 18) rfl rfl Try.func44 (by kernel_rfl) rfl #[.int .u64 1, .int .u64 a1] rfl (by (try simp only [List.map_toArray, List.map_cons, List.map_nil]); first | done | rfl | (simp [wa]; done)) ?_; (with_reducible refine (bits_Mul.calls 1 a1 0 a1 _ A3.out).mono ?_); rintro e w' ⟨rfl, ⟨nd, rfl⟩⟩; refine ⟨_, rfl, ?_⟩) | ((with_reducible refine gate_dst (N := 30) rfl ?_); refine Kd.R_make (Kd.int .i64) _ 3 rfl (N := 30) rfl 38 _ _ rfl a1 rfl rfl Try.underlying38 (.int .i64 0) 8 info3 rfl (by decide) (by omega) 0 (ok := fun _ => True) (okp := fun _ => True) rfl (fun _ hk => hk) trivial H0.out (Nat.le_trans (Nat.mul_le_mul_right _ H1.out) (by omega)) (Below.refl _ _) (Nat.le_refl _) ?_; intro v30 w4 ho5 hb hg_ hnew_; clear hg_ hnew_; have n0_ := aM (Kd.R_lower ho5 (below_size (pw_below_drewN HB.out nd))); have n1_ := aM (below_step (pw_below_drewN HB.out nd) hb); clear HB; have HO := n0_; have HB := n1_; clear n0_ n1_ hb ho5; obtain ⟨Ao, co, eo⟩ := Kd.R_slice HO.out; rw [List.length_replicate] at eo; subst eo) | ((with_reducible refine gate_builtin (b := .copy) (xs := #[.tmp 31, .tmp 32]) rfl ?_); refine Kd.R_copy (0 : Int) (w0 := w) w.heap.size rfl (.tmp 31) (.tmp 32) 38 38 3 rfl Try.underlying38 (by kernel_rfl) (.slice Ao a1.toNat co) _ l0 A0 1 c0 (fun _ => True) rfl rfl HO.out (Kd.C_below HR1.out HB.out) HB.out (below_size HB.out) ?_; intro w5 ho hb2 hg_; rw [List.length_replicate] at ho ⊢; have n0_ := aM ho; have n1_ := aM hb2; clear HO HB; have HO := n0_; have HB := n1_; clear n0_ n1_ ho hb2 hg_))
    obtain ⟨x, rfl⟩ : ∃ x, l0 = [x] := List.length_eq_one_iff.1 HL0.out
    obtain ⟨n, hn⟩ : ∃ n, n = a1.toNat := ⟨_, rfl⟩
    rw [← hn] at HO H1 ⊢
    have e0 : [x].take (min 1 n) ++ (List.replicate n (0 : Int)).drop (min 1 n) = List.replicate (min 1 n) x ++ List.replicate (n - min 1 n) 0 := by
     rw [List.drop_replicate]
     congr 1
     cases n with
     | zero => rfl
     | succ n => rw [Nat.min_eq_left (by omega)]; rfl
    replace HO := aM (e0 ▸ HO.out)
    have HN := aM hn
    have HN1 := aM (show n ≤ 17592186044416 from H1.out)
    clear e0 hn c1 c2 c3 wa wb
    go_loopg [8] (n + 1) (fun kq v8 w' => ∃ m : Nat, v8 = .int .i64 (m : Int) ∧ Aside0 (m ≤ n) ∧ Aside0 (0 < n → 0 < m) ∧ Aside0 (n - m < kq) ∧ Aside0 (Kd.R (Kd.int .i64) 3 w' w.heap.size (fun _ => True) (.slice Ao n co) (List.replicate m x ++ List.replicate (n - m) 0)) ∧ Aside0 (Below w.heap.size w w'))
    case atStart => exact ⟨_, rfl, ⟨Nat.min_le_right _ _⟩, ⟨by omega⟩, ⟨by omega⟩, ⟨HO.out⟩, ⟨HB.out⟩⟩
    case round =>
     obtain ⟨m, rfl, HM, HP, HK1, HO, HB⟩ := hrel
     cases gk with
     | zero => exact absurd HK1.out (by omega)
     | succ k1 =>
      by_cases c : m < n
      ·have d1 : decide ((m : Int) < (n : Int)) = true := decide_eq_true (by omega)
       have d2 : decide (m < n) = true := decide_eq_true c
       have HC := aM c
       clear c
       go_wp2
       have hown := Kd.own_of_R HO.out
       have hlen : (List.replicate m x ++ List.replicate (n - m) (0 : Int)).length = n := by rw [List.length_append, List.length_replicate, List.length_replicate]; have := HM.out; omega
       rw [hlen] at hown
       rcases hown.2 with ⟨_, hx0⟩ | ⟨g, cap, cur, hv, hb, hh, hnc, hcm, hcs, htake⟩
       ·exact absurd hx0 (by have := HC.out; omega)
       cases hv
       rw [Nat.mul_one] at hcs htake
       obtain ⟨L, hL⟩ : ∃ L, L = cur.toList := ⟨_, rfl⟩
       have hhL := aM (show wr.heap[g]? = some (.cells L.toArray 3 (0, 0)) by rw [hL, Array.toArray_toList]; exact hh)
       have hLl := aM (show L.length = co by rw [hL, Array.length_toList]; exact hcs)
       have hLt := aM (show L.take n = encs (fun n_ : Int => Value.int .i64 n_) (List.replicate m x ++ List.replicate (n - m) 0) by rw [hL]; exact htake)
       have HG := aM hb
       have HCO := aM hnc
       have HCM := aM hcm
       clear hown hlen hb hh hcm hcs htake hL hnc
       obtain ⟨cs, hcs⟩ : ∃ cs, cs = List.replicate (min m (n - m)) (Value.int .i64 x) := ⟨_, rfl⟩
       have hcl := aM (show cs.length = min m (n - m) by rw [hcs, List.length_replicate])
       have hcs := aM hcs
       obtain ⟨i3, hi3, _, hsz3, _⟩ := info_parts info3
       have hk1 : ∀ W : World, (Instr.slice 38 (.slice (some ⟨g, 0, none⟩) n co) (some (.int .i64 (m : Int))) none none).run Try.prog W = .ok (.slice (some ⟨g, m, none⟩) (n - m) (co - m)) W := by
        intro W
        have h := cut_from (P := Try.prog) 38 3 .i64 Try.underlying38 hi3 1 hsz3 (some ⟨g, 0, none⟩) n co (m : Int) (by omega) (by have := HM.out; omega) W
        rw [Int.toNat_natCast, if_neg (by have := HC.out; have := HCO.out; omega)] at h
        have hm0 : m ≠ 0 := by have := HC.out; have := HP.out (by omega); omega
        simpa [Addr.add, hm0] using h
       have hk2 : ∀ W : World, (Instr.slice 38 (.slice (some ⟨g, 0, none⟩) n co) none (some (.int .i64 (m : Int))) none).run Try.prog W = .ok (.slice (some ⟨g, 0, none⟩) m co) W := by
        intro W
        have h := cut_to (P := Try.prog) 38 3 .i64 Try.underlying38 hi3 (some ⟨g, 0, none⟩) n co (m : Int) (by omega) (by have := HM.out; omega) HCO.out W
        rwa [Int.toNat_natCast] at h
       have hsrc : ∀ (j : Nat) v, cs[j]? = some v → (wr.drew).cell? ((⟨g, 0, none⟩ : Addr).add j) = some v := by
        intro j v hj
        rw [hcs.out] at hj
        have h1 := slices_Repeat_int_int.src L x n m _ j v HM.out (Nat.min_le_left _ _) (slices_Repeat_int_int.cells L x n m HM.out hLt.out) hj
        rw [Addr.add_lit, Nat.zero_add]
        exact slices_Repeat_int_int.cell wr g L 3 hhL.out j v h1
       have hone : ∀ v ∈ cs, v.oneCell' = true := by
        intro v hv
        rw [hcs.out] at hv
        rw [(List.mem_replicate.1 hv).2]
        rfl
       go_region_law (refine step_copy_splice rfl (.tmp 41) (.tmp 44) 38 38 rfl 3 Try.underlying38 (by kernel_rfl) (some ⟨g, m, none⟩) (some ⟨g, 0, none⟩) (n - m) (co - m) m co (by simp [Act.eval, Act.put]) (by simp [Act.eval, Act.put]) g m L 3 hhL.out cs hcl.out (fun _ => ⟨rfl, _, rfl, hsrc⟩) (by rw [hcl.out, hLl.out]; have := HCO.out; have := HM.out; omega) hone w.heap.size w (below_drew1 HB.out) HG.out ?_; intro w5 hg5 hb5)
       have hw46 : IntKind.i64.wrap ((m : Int) + ((min m (n - m) : Nat) : Int)) = ((m + min m (n - m) : Nat) : Int) := by
        have := HM.out
        have := HN1.out
        rw [IntKind.wrap_i64]
        omega
       try simp only [hcl.out]
       try rw [hw46]
       go_wp2
       go_roundg k1
       case measure =>
        have := HK1.out
        have := HP.out (by have := HC.out; omega)
        have := HC.out
        have := HM.out
        omega
       case rel =>
        have hm' := HM.out
        have hp' := HP.out
        have hq' : m + min m (n - m) ≤ n := by omega
        refine ⟨m + min m (n - m), rfl, ⟨hq'⟩, ⟨fun h => by have := hp' h; omega⟩, ⟨by have := HK1.out; have := HC.out; have := hp' (by omega); omega⟩, ⟨?_⟩, ⟨hb5⟩⟩
        have hl1 : (List.replicate (m + min m (n - m)) x ++ List.replicate (n - (m + min m (n - m))) (0 : Int)).length = n := by
         rw [List.length_append, List.length_replicate, List.length_replicate]
         omega
        have ht := slices_Repeat_int_int.list L (.int .i64 x) (.int .i64 0) n m (min m (n - m)) hm' hq' (slices_Repeat_int_int.cells L x n m hm' hLt.out)
        rw [← hcs.out] at ht
        refine Kd.R_of_own ?_ (fun _ _ => trivial)
        rw [hl1]
        have hbg := HG.out
        have hnc := HCO.out
        have hl2 : (splice L m cs).length = co := by rw [length_splice L m cs (by rw [hcl.out, hLl.out]; omega)]; exact hLl.out
        refine ⟨by rw [Nat.mul_one, show (encs (fun n_ : Int => Value.int .i64 n_) _).length = _ from List.length_map _]; exact hl1, .inr ⟨g, co, _, rfl, hbg, hg5.out, hnc, HCM.out, by rw [Nat.mul_one, List.size_toArray]; exact hl2, ?_⟩⟩
        rw [Nat.mul_one]
        refine ht.trans ?_
        simp [encs]
      ·have d1 : decide ((m : Int) < (n : Int)) = false := decide_eq_false (by omega)
       have d2 : decide (m < n) = false := decide_eq_false c
       have hm : m = n := by have := HM.out; omega
       clear c
       go_wp2
       go_ret
       subst hm
       exact ⟨_, rfl, by have := HO.out; rw [Nat.sub_self, List.replicate_zero, List.append_nil] at this; rw [← HN.out]; exact this, HB.out⟩
   cases h
  cases h
 cases h


/-! ### impl_owners: function 27 -/
mutual
def impl_owners.l0 : Nat → List Int → List (S40) → Int → Int → List (S40) → List ByteArray → Option (List Int × Bool)
 | 0, _, _, _, _, _, _ => none
 | k + 1, x4, x15, x16, x17, x230000, x230001 => if x17 < x16 then (if 0 ≤ x17 then (if x17 < (x15.length : Int) then (impl_owners.l1 k x4 x17 x15 x16 x17 ((rd_T40 x15 x17).f4) (((rd_T40 x15 x17).f4).length : Int) 0 x230000 x230001) else (none)) else (none)) else (some (x4, true))
def impl_owners.l1 : Nat → List Int → Int → List (S40) → Int → Int → List Int → Int → Int → List (S40) → List ByteArray → Option (List Int × Bool)
 | 0, _, _, _, _, _, _, _, _, _, _ => none
 | k + 1, x4, x5, x15, x16, x17, x23, x24, x25, x230000, x230001 => if x25 < x24 then (if 0 ≤ x25 then (if x25 < (x23.length : Int) then (if (rd x23 x25) ≥ (x230001.length : Int) then (some (([] : List Int), false)) else (if 0 ≤ (rd x23 x25) then (if (rd x23 x25) < (x4.length : Int) then (if (rd x4 (rd x23 x25)) ≥ 0 then (some (([] : List Int), false)) else (impl_owners.l1 k (x4.set ((rd x23 x25) : Int).toNat x5) x5 x15 x16 x17 x23 x24 (wrap64 (x25 + 1)) x230000 x230001)) else (none)) else (none))) else (none)) else (none)) else (impl_owners.l0 k x4 x15 x16 (wrap64 (x17 + 1)) x230000 x230001)
end
def impl_owners.f (k : Nat) (l0_0 : List (S40)) (l0_1 : List ByteArray) : Option (List Int × Bool) := (slices_Repeat_int_int.f (([(-1)] : List Int)) (l0_1.length : Int)).bind fun t233 => (impl_owners.l0 k t233 l0_0 (l0_0.length : Int) 0 l0_0 l0_1)
theorem impl_owners.mono_l : ∀ k, (∀ y0 y1 y2 y3 y4 y5, LeO (impl_owners.l0 k y0 y1 y2 y3 y4 y5) (impl_owners.l0 (k + 1) y0 y1 y2 y3 y4 y5)) ∧ (∀ y0 y1 y2 y3 y4 y5 y6 y7 y8 y9, LeO (impl_owners.l1 k y0 y1 y2 y3 y4 y5 y6 y7 y8 y9) (impl_owners.l1 (k + 1) y0 y1 y2 y3 y4 y5 y6 y7 y8 y9))
 | 0 => ⟨fun _ _ _ _ _ _ r h => by simp [impl_owners.l0] at h, fun _ _ _ _ _ _ _ _ _ _ r h => by simp [impl_owners.l1] at h⟩
 | k + 1 => by
  obtain ⟨ih0, ih1⟩ := impl_owners.mono_l k
  refine ⟨?_, ?_⟩
  ·intro y0 y1 y2 y3 y4 y5
   unfold impl_owners.l0
   exact mM
  ·intro y0 y1 y2 y3 y4 y5 y6 y7 y8 y9
   unfold impl_owners.l1
   exact mM
theorem impl_owners.mono : ∀ a0 a1 k, LeO (impl_owners.f k a0 a1) (impl_owners.f (k + 1) a0 a1) := by
 intro a0 a1 k
 obtain ⟨ih0, ih1⟩ := impl_owners.mono_l k
 unfold impl_owners.f
 exact mM
set_option maxHeartbeats 8000000 in
set_option maxRecDepth 100000 in
theorem impl_owners.calls (k : Nat) (A0_0 : Option Addr) (c0_0 : Nat) (l0_0 : List (S40)) (A0_1 : Option Addr) (c0_1 : Nat) (l0_1 : List ByteArray) (r1 : List Int) (r2 : Bool) (w : World) (hr0_0 : Kd.C k40 w A0_0 l0_0.length l0_0) (hc0_0 : l0_0.length ≤ c0_0) (hr0_1 : Kd.C Kd.string w A0_1 l0_1.length l0_1) (hc0_1 : l0_1.length ≤ c0_1) (h : impl_owners.f k l0_0 l0_1 = some (r1, r2)) :
  Calls Try.prog 27 #[.agg #[.slice A0_0 l0_0.length c0_0, .slice A0_1 l0_1.length c0_1]] w fun e w' => ∃ v0_ : Value, e = .returned (.tuple #[v0_, .bool r2]) ∧ Kd.R (Kd.int .i64) 3 w' w.heap.size (fun _ => True) v0_ r1 ∧ Below w.heap.size w w' := by
 have hu30 := Try.underlying30
 have hu40 := Try.underlying40
 have HR0_0 := aM hr0_0
 have HC0_0 := aM hc0_0
 clear hr0_0 hc0_0
 have HR0_1 := aM hr0_1
 have HC0_1 := aM hc0_1
 clear hr0_1 hc0_1
 have HB := aM (Below.refl w.heap.size w)
 unfold impl_owners.f at h
 have H := h
 clear h
 obtain ⟨y230, hy230⟩ : ∃ y_ : List Int, y_ = (([(-1)] : List Int)) := ⟨_, rfl⟩
 replace H : ((slices_Repeat_int_int.f y230 (l0_1.length : Int)).bind fun t233 => (impl_owners.l0 k t233 l0_0 (l0_0.length : Int) 0 l0_0 l0_1)) = some (r1, r2) := bQ hy230 H
 have Ny230 := aM hy230
 clear hy230
 replace H := Option.bind_eq_some_iff.mp H
 obtain ⟨t233, A20, H⟩ := H
 try dsimp only at H
 have A2 := aM A20
 clear A20
 have H' := aM H
 clear H
 go_enter Try.func27, Try.ntmps27
 go_wp2_with (first | ((with_reducible refine gate_dst (N := 1) rfl ?_); refine bE 1 #[.slice A0_0 l0_0.length c0_0, .slice A0_1 l0_1.length c0_1] 30 ?_; intro gb229 hg w3 hbox hb; have n_ := aI (sB HB hb) (aI (aM hbox) (aI (gE HB hg) (gE HB hg))); clear HB; obtain ⟨HB, BK229, GW229, GE229⟩ := n_; (try clear hb hbox hg)) | ((with_reducible refine gate_dst (N := 9) rfl ?_); refine Kd.R_lit (Kd.int .i64) _ 3 ?hg (N := 9) ?hd (xs := ([(-1)] : List Int)) (inner := [.int .i64 (-1)]) (ok := fun _ => True) (okp := fun _ => True) ?hr ?hp (fun _ hk => hk) trivial (Below.refl _ _) (Nat.le_refl _) (by simp) ?_; (case hd => rfl); (case hg => rfl); (case hr => first | (go_simp; done) | (go_simp; rfl)); (case hp => exact (Reps.one (show Kd.M (Kd.int .i64) _ _ _ (-1) [.int .i64 (-1)] from rfl) (Reps.none _ _))); intro v231 w4 ho5 hb hg_ hnew_; clear hg_ hnew_; (first | rw [← Ny230.out] at ho5 | (simp only [Int.reduceToNat] at ho5; rw [← Ny230.out] at ho5)); have n_ := aI (lR HB ho5) (aI (kB BK229 hb) (sB HB hb)); clear BK229 HB; obtain ⟨HO232, BK229, HB⟩ := n_; (try clear hb ho5); have hcz6_0 := cZ0 BK229; have hcz6_1 := cZ1 BK229; have hfz6_0 := fZ BK229 0; have hfz6_1 := fZ BK229 1; obtain ⟨Ao7, co7, eo7⟩ := Kd.R_slice HO232.out; subst eo7) | ((with_reducible refine gate_callee (f := 39) rfl ?_); refine gL (some 13) Try.func39 #[.slice Ao7 y230.length co7, .int .i64 (l0_1.length : Int)] ?_; (with_reducible refine (slices_Repeat_int_int.calls _ _ y230 (l0_1.length : Int) t233 _ ?side1 ?side2 A2.out).mono ?_); (case side1 => exact cR HO232); (case side2 => exact (Kd.R_reads' HO232.out).2.1); rintro e w8 ⟨v234, rfl, ho0, hb⟩; refine ⟨_, rfl, ?_⟩; have n_ := aI (eR HO232 ho0 hb) (aI (aM (Kd.R_lower (Kd.R_new' ho0 (rL HO232)) (zB HB))) (aI (kB BK229 hb) (sB HB hb))); clear HO232 BK229 HB; obtain ⟨HO232, HO235, BK229, HB⟩ := n_; (try clear hb ho0); have hcz9_0 := cZ0 BK229; have hcz9_1 := cZ1 BK229; have hfz9_0 := fZ BK229 0; have hfz9_1 := fZ BK229 1))
 go_loopg [17] k (fun kq v17 w' => ∃ (x4_1 : List Int) (x17_1 : Int), v17 = .int .i64 x17_1 ∧ Aside0 (impl_owners.l0 kq x4_1 l0_0 (l0_0.length : Int) x17_1 l0_0 l0_1 = some (r1, r2)) ∧ Aside0 (kq ≤ k) ∧ Aside0 (Kd.R (Kd.int .i64) 3 w' w.heap.size (fun _ => True) v234 x4_1) ∧ Aside0 (w'.heap[gb229]? = some (.cells #[(.slice A0_0 l0_0.length c0_0), (.slice A0_1 l0_1.length c0_1)] 30 (0, 0))) ∧ Aside0 (Below w.heap.size w w'))
 case atStart => exact ⟨(t233), (0), (by first | rfl | (simp; done) | (simp [*]; done) | (simp; exact (by intro l_; cases l_ <;> rfl : ∀ l_ : List UInt8, l_.isEmpty = !(l_ != [])) _)), H', ⟨Nat.le_refl _⟩, ⟨rP (Kd.R_mono HO235.out (fun _ hk => trivial))⟩, ⟨kP BK229⟩, ⟨bB⟩⟩
 case round =>
  clear H'
  try clear c2
  try clear p2
  try clear c3
  try clear hcz6_0
  try clear hcz6_1
  try clear hcz9_0
  try clear hcz9_1
  try clear hfz6_0
  try clear hfz6_1
  try clear hfz9_0
  try clear hfz9_1
  obtain ⟨x4_1, x17_1, rfl, HA, HK1, HO_4, BK229, HB⟩ := hrel
  cases gk with
  | zero => exact absurd HA.out (by simp [impl_owners.l0])
  | succ k1 =>
   have H := HA.out
   clear HA
   simp only [impl_owners.l0] at H
   by_cases c10 : x17_1 < (l0_0.length : Int)
   ·rw [if_pos c10] at H
    have c10b0 : decide (x17_1 < (l0_0.length : Int)) = true := decide_eq_true c10
    clear c10
    by_cases c11 : 0 ≤ x17_1
    ·rw [if_pos c11] at H
     have c11b0 : decide (0 ≤ x17_1) = true := decide_eq_true c11
     clear c11
     by_cases c12 : x17_1 < (l0_0.length : Int)
     ·rw [if_pos c12] at H
      have c12b0 : decide (x17_1 < (l0_0.length : Int)) = true := decide_eq_true c12
      clear c12
      have H' := aM H
      clear H
      have p236 : 0 ≤ (x17_1 : Int) := dT
      have q236 : x17_1 < (l0_0.length : Int) := dT
      obtain ⟨ad236, A236_4, c236_4, e236, hx236_0, hx236_1, hx236_2, hx236_3, hx236_4, hl236_4, hi236_4⟩ := at_T40 HR0_0.out x17_1 p236 q236
      cases e236
      replace hx236_0 := (HB.out.cell (World.block_lt_of_cell? w _ hx236_0)).trans hx236_0
      replace hx236_1 := (HB.out.cell (World.block_lt_of_cell? w _ hx236_1)).trans hx236_1
      replace hx236_2 := (HB.out.cell (World.block_lt_of_cell? w _ hx236_2)).trans hx236_2
      replace hx236_3 := (HB.out.cell (World.block_lt_of_cell? w _ hx236_3)).trans hx236_3
      replace hx236_4 := (HB.out.cell (World.block_lt_of_cell? w _ hx236_4)).trans hx236_4
      have HR236_4 := aM hi236_4
      have HC236_4 := aM hl236_4
      clear hi236_4 hl236_4
      replace p236 := eq_true p236
      replace q236 := eq_true q236
      go_wp2_with (first | ((with_reducible refine gate_dst (N := 6) rfl ?_); refine bE 6 #[.int .i64 0, .int .i64 0, .int .i64 0, .int .i64 0, .slice none 0 0] 40 ?_; intro gb237 hg w13 hbox hb; have n_ := aI (rB HO_4 hb) (aI (kB BK229 hb) (aI (sB HB hb) (aI (aM hbox) (aI (gE HB hg) (aI (gE HB hg) (aI (nL BK229 hg) (nG BK229 hg))))))); clear HO_4 BK229 HB; obtain ⟨HO_4, BK229, HB, BK237, GW237, GE237, NB229_237, NB237_229⟩ := n_; (try clear hb hbox hg); have hnb14 := NB237_229.out; have hnc14 := NB229_237.out; have hcz15_0 := cZ0 BK237; have hcz15_1 := cZ1 BK237; have hcz15_2 : w13.cell? ⟨gb237, 2, none⟩ = some (.int .i64 0) := (blk_cell BK237.out 2).trans rfl; have hcz15_3 : w13.cell? ⟨gb237, 3, none⟩ = some (.int .i64 0) := (blk_cell BK237.out 3).trans rfl; have hcz15_4 : w13.cell? ⟨gb237, 4, none⟩ = some (.slice none 0 0) := (blk_cell BK237.out 4).trans rfl; have hfz15_0 := fZ BK237 0; have hfz15_1 := fZ BK237 1; have hfz15_2 := fZ BK237 2; have hfz15_3 := fZ BK237 3; have hfz15_4 := fZ BK237 4))
      go_loopg [25] k1 (fun kq v25 w' => ∃ (x4_2 : List Int) (x25_2 : Int), v25 = .int .i64 x25_2 ∧ Aside0 (impl_owners.l1 kq x4_2 x17_1 l0_0 (l0_0.length : Int) x17_1 ((rd_T40 l0_0 x17_1).f4) (((rd_T40 l0_0 x17_1).f4).length : Int) x25_2 l0_0 l0_1 = some (r1, r2)) ∧ Aside0 (kq ≤ k1) ∧ Aside0 (Kd.R (Kd.int .i64) 3 w' w.heap.size (fun _ => True) v234 x4_2) ∧ Aside0 (w'.heap[gb229]? = some (.cells #[(.slice (some ad236) l0_0.length c0_0), (.slice A0_1 l0_1.length c0_1)] 30 (0, 0))) ∧ Aside0 (w'.heap[gb237]? = some (.cells #[.int .i64 ((rd_T40 l0_0 x17_1).f0), .int .i64 ((rd_T40 l0_0 x17_1).f1), .int .i64 ((rd_T40 l0_0 x17_1).f2), .int .i64 ((rd_T40 l0_0 x17_1).f3), (.slice A236_4 ((rd_T40 l0_0 x17_1).f4).length c236_4)] 40 (0, 0))) ∧ Aside0 (Below w.heap.size w w'))
      case atStart => exact ⟨(x4_1), (0), (by first | rfl | (simp; done) | (simp [*]; done) | (simp; exact (by intro l_; cases l_ <;> rfl : ∀ l_ : List UInt8, l_.isEmpty = !(l_ != [])) _)), H', ⟨Nat.le_refl _⟩, ⟨rP (Kd.R_mono (Kd.R_far (p := ⟨gb237, 4, none⟩) (Kd.R_far (p := ⟨gb237, 3, none⟩) (Kd.R_far (p := ⟨gb237, 2, none⟩) (Kd.R_far (p := ⟨gb237, 1, none⟩) (Kd.R_far (p := ⟨gb237, 0, none⟩) (Kd.R_types HO_4.out BK237.out (by decide)) (fun _ hk => hk.2) (.int .i64 ((rd_T40 l0_0 x17_1).f0))) (fun _ hk => hk.2) (.int .i64 ((rd_T40 l0_0 x17_1).f1))) (fun _ hk => hk.2) (.int .i64 ((rd_T40 l0_0 x17_1).f2))) (fun _ hk => hk.2) (.int .i64 ((rd_T40 l0_0 x17_1).f3))) (fun _ hk => hk.2) (.slice A236_4 ((rd_T40 l0_0 x17_1).f4).length c236_4)) (fun _ hk => trivial))⟩, ⟨kP BK229⟩, ⟨by (with_reducible repeat (first | apply bN | apply bD | apply bA)); refine blk_put (cs := #[.int .i64 ((rd_T40 l0_0 x17_1).f0), .int .i64 ((rd_T40 l0_0 x17_1).f1), .int .i64 ((rd_T40 l0_0 x17_1).f2), .int .i64 ((rd_T40 l0_0 x17_1).f3), .slice none 0 0]) ?_ 4 _ rfl; (with_reducible repeat (first | apply bN | apply bD | apply bA)); refine blk_put (cs := #[.int .i64 ((rd_T40 l0_0 x17_1).f0), .int .i64 ((rd_T40 l0_0 x17_1).f1), .int .i64 ((rd_T40 l0_0 x17_1).f2), .int .i64 0, .slice none 0 0]) ?_ 3 _ rfl; (with_reducible repeat (first | apply bN | apply bD | apply bA)); refine blk_put (cs := #[.int .i64 ((rd_T40 l0_0 x17_1).f0), .int .i64 ((rd_T40 l0_0 x17_1).f1), .int .i64 0, .int .i64 0, .slice none 0 0]) ?_ 2 _ rfl; (with_reducible repeat (first | apply bN | apply bD | apply bA)); refine blk_put (cs := #[.int .i64 ((rd_T40 l0_0 x17_1).f0), .int .i64 0, .int .i64 0, .int .i64 0, .slice none 0 0]) ?_ 1 _ rfl; (with_reducible repeat (first | apply bN | apply bD | apply bA)); refine blk_put (cs := #[.int .i64 0, .int .i64 0, .int .i64 0, .int .i64 0, .slice none 0 0]) ?_ 0 _ rfl; (with_reducible repeat (first | apply bN | apply bD | apply bA)); exact BK237.out⟩, ⟨bB⟩⟩
      case round =>
       clear H'
       try clear c1
       try clear c2
       try clear p2
       try clear q2
       try clear hx2
       try clear c3
       try clear c10
       try clear c10b0
       try clear c11
       try clear c11b0
       try clear c12
       try clear c12b0
       try clear c14
       try clear hcz15_0
       try clear hcz15_1
       try clear hcz15_2
       try clear hcz15_3
       try clear hcz15_4
       try clear hcz6_0
       try clear hcz6_1
       try clear hcz9_0
       try clear hcz9_1
       try clear hfz15_0
       try clear hfz15_1
       try clear hfz15_2
       try clear hfz15_3
       try clear hfz15_4
       try clear hfz6_0
       try clear hfz6_1
       try clear hfz9_0
       try clear hfz9_1
       try clear hx236_0
       try clear hx236_1
       try clear hx236_2
       try clear hx236_3
       try clear hx236_4
       try clear p2
       try clear p236
       try clear q236
       obtain ⟨x4_2, x25_2, rfl, HA, HK2, HO_4, BK229, BK237, HB⟩ := hrel
       cases gk with
       | zero => exact absurd HA.out (by simp [impl_owners.l1])
       | succ k2 =>
        have H := HA.out
        clear HA
        simp only [impl_owners.l1] at H
        by_cases c16 : x25_2 < (((rd_T40 l0_0 x17_1).f4).length : Int)
        ·rw [if_pos c16] at H
         have c16b0 : decide (x25_2 < (((rd_T40 l0_0 x17_1).f4).length : Int)) = true := decide_eq_true c16
         clear c16
         by_cases c17 : 0 ≤ x25_2
         ·rw [if_pos c17] at H
          have c17b0 : decide (0 ≤ x25_2) = true := decide_eq_true c17
          clear c17
          by_cases c18 : x25_2 < (((rd_T40 l0_0 x17_1).f4).length : Int)
          ·rw [if_pos c18] at H
           have c18b0 : decide (x25_2 < (((rd_T40 l0_0 x17_1).f4).length : Int)) = true := decide_eq_true c18
           clear c18
           by_cases c19 : (rd ((rd_T40 l0_0 x17_1).f4) x25_2) ≥ (l0_1.length : Int)
           ·rw [if_pos c19] at H
            have c19b0 : decide ((l0_1.length : Int) ≤ (rd ((rd_T40 l0_0 x17_1).f4) x25_2)) = true := decide_eq_true c19
            clear c19
            simp only [Option.some.injEq, Prod.mk.injEq] at H
            obtain ⟨rfl, rfl⟩ := H
            have p238 : 0 ≤ (x25_2 : Int) := dT
            have q238 : x25_2 < (((rd_T40 l0_0 x17_1).f4).length : Int) := dT
            obtain ⟨ad238, e238, hx238_0⟩ := Kd.at_int HR236_4.out x25_2 p238 q238
            cases e238
            replace hx238_0 := (HB.out.cell (World.block_lt_of_cell? w _ hx238_0)).trans hx238_0
            replace p238 := eq_true p238
            replace q238 := eq_true q238
            have hnb20 := NB229_237.out
            have hnc20 := NB237_229.out
            have hcz21_0 := cZ0 BK229
            have hcz21_1 := cZ1 BK229
            have hfz21_0 := fZ BK229 0
            have hfz21_1 := fZ BK229 1
            go_wp2
            go_ret2
            exact ⟨_, eW, by first | exact Kd.R_nil _ _ _ _ _ | exact Kd.N_nil _ _ _ _ _ | exact Kd.V_nil _ _ _ _ _ | exact Kd.Q_nil _ _ _ _ _ | exact Kd.S_nil _ _ _ _ _, bB⟩
           ·rw [if_neg c19] at H
            have c19b0 : decide ((l0_1.length : Int) ≤ (rd ((rd_T40 l0_0 x17_1).f4) x25_2)) = false := decide_eq_false c19
            clear c19
            by_cases c22 : 0 ≤ (rd ((rd_T40 l0_0 x17_1).f4) x25_2)
            ·rw [if_pos c22] at H
             have c22b0 : decide (0 ≤ (rd ((rd_T40 l0_0 x17_1).f4) x25_2)) = true := decide_eq_true c22
             clear c22
             by_cases c23 : (rd ((rd_T40 l0_0 x17_1).f4) x25_2) < (x4_2.length : Int)
             ·rw [if_pos c23] at H
              have c23b0 : decide ((rd ((rd_T40 l0_0 x17_1).f4) x25_2) < (x4_2.length : Int)) = true := decide_eq_true c23
              clear c23
              by_cases c24 : (rd x4_2 (rd ((rd_T40 l0_0 x17_1).f4) x25_2)) ≥ 0
              ·rw [if_pos c24] at H
               have c24b0 : decide (0 ≤ (rd x4_2 (rd ((rd_T40 l0_0 x17_1).f4) x25_2))) = true := decide_eq_true c24
               clear c24
               simp only [Option.some.injEq, Prod.mk.injEq] at H
               obtain ⟨rfl, rfl⟩ := H
               have p238 : 0 ≤ (x25_2 : Int) := dT
               have q238 : x25_2 < (((rd_T40 l0_0 x17_1).f4).length : Int) := dT
               obtain ⟨ad238, e238, hx238_0⟩ := Kd.at_int HR236_4.out x25_2 p238 q238
               cases e238
               replace hx238_0 := (HB.out.cell (World.block_lt_of_cell? w _ hx238_0)).trans hx238_0
               replace p238 := eq_true p238
               replace q238 := eq_true q238
               have hnb25 := NB229_237.out
               have hnc25 := NB237_229.out
               have hcz26_0 := cZ0 BK229
               have hcz26_1 := cZ1 BK229
               have hfz26_0 := fZ BK229 0
               have hfz26_1 := fZ BK229 1
               obtain ⟨Ao27, co27, eo27⟩ := Kd.R_slice HO_4.out
               subst eo27
               have p239 : 0 ≤ ((rd ((rd_T40 l0_0 x17_1).f4) x25_2) : Int) := dT
               have q239 : (rd ((rd_T40 l0_0 x17_1).f4) x25_2) < (x4_2.length : Int) := dT
               obtain ⟨ad239, e239, hx239_0⟩ := Kd.at_int (Kd.R_reads' HO_4.out).2.2 (rd ((rd_T40 l0_0 x17_1).f4) x25_2) p239 q239
               cases e239
               replace p239 := eq_true p239
               replace q239 := eq_true q239
               go_wp2
               go_ret2
               exact ⟨_, eW, by first | exact Kd.R_nil _ _ _ _ _ | exact Kd.N_nil _ _ _ _ _ | exact Kd.V_nil _ _ _ _ _ | exact Kd.Q_nil _ _ _ _ _ | exact Kd.S_nil _ _ _ _ _, bB⟩
              ·rw [if_neg c24] at H
               have c24b0 : decide (0 ≤ (rd x4_2 (rd ((rd_T40 l0_0 x17_1).f4) x25_2))) = false := decide_eq_false c24
               clear c24
               obtain ⟨y240, hy240⟩ : ∃ y_ : List Int, y_ = (x4_2.set ((rd ((rd_T40 l0_0 x17_1).f4) x25_2) : Int).toNat x17_1) := ⟨_, rfl⟩
               replace H : (impl_owners.l1 k2 y240 x17_1 l0_0 (l0_0.length : Int) x17_1 ((rd_T40 l0_0 x17_1).f4) (((rd_T40 l0_0 x17_1).f4).length : Int) (wrap64 (x25_2 + 1)) l0_0 l0_1) = some (r1, r2) := bQ hy240 H
               have Ny240 := aM hy240
               clear hy240
               have H' := aM H
               clear H
               have p238 : 0 ≤ (x25_2 : Int) := dT
               have q238 : x25_2 < (((rd_T40 l0_0 x17_1).f4).length : Int) := dT
               obtain ⟨ad238, e238, hx238_0⟩ := Kd.at_int HR236_4.out x25_2 p238 q238
               cases e238
               replace hx238_0 := (HB.out.cell (World.block_lt_of_cell? w _ hx238_0)).trans hx238_0
               replace p238 := eq_true p238
               replace q238 := eq_true q238
               have hnb29 := NB229_237.out
               have hnc29 := NB237_229.out
               have hcz30_0 := cZ0 BK229
               have hcz30_1 := cZ1 BK229
               have hfz30_0 := fZ BK229 0
               have hfz30_1 := fZ BK229 1
               obtain ⟨Ao31, co31, eo31⟩ := Kd.R_slice HO_4.out
               subst eo31
               have p239 : 0 ≤ ((rd ((rd_T40 l0_0 x17_1).f4) x25_2) : Int) := dT
               have q239 : (rd ((rd_T40 l0_0 x17_1).f4) x25_2) < (x4_2.length : Int) := dT
               obtain ⟨ad239, e239, hx239_0⟩ := Kd.at_int (Kd.R_reads' HO_4.out).2.2 (rd ((rd_T40 l0_0 x17_1).f4) x25_2) p239 q239
               cases e239
               replace p239 := eq_true p239
               replace q239 := eq_true q239
               have p28 : 0 ≤ ((rd ((rd_T40 l0_0 x17_1).f4) x25_2) : Int) := dT
               have q28 : ((rd ((rd_T40 l0_0 x17_1).f4) x25_2) : Int) < ((x4_2.length : Int) : Int) := dT
               obtain ⟨go28, co28, eo28, gb28, gl28, cl28, HG28⟩ := Kd.R_form HO_4.out (by omega)
               (first | cases eo28 | (injection eo28 with ea_ en_ ec_; (first | subst ea_ | (injection ea_ with ea_; subst ea_)); subst ec_; clear en_))
               have GB28 := aM gb28
               have GG28 := aM HG28
               clear gb28 gl28 HG28
               (first | simp only [add_plain] at hx239_0 | skip)
               obtain ⟨hx28_0, hf28_0⟩ := Kd.R_celln 0 HO_4.out ((rd ((rd_T40 l0_0 x17_1).f4) x25_2) : Int) p28 q28
               replace p28 := eq_true p28
               replace q28 := eq_true q28
               have HP32 := Kd.R_putg HO_4.out ((rd ((rd_T40 l0_0 x17_1).f4) x25_2) : Int) x17_1
               go_wp2_with (first | ((with_reducible refine gate_store (t := 3) (p := 44) rfl ?_); refine store_event (t := 3) (p := 44) (v := ?vo_w33) (w1 := (wr.setCell ⟨go28, ((rd ((rd_T40 l0_0 x17_1).f4) x25_2) : Int).toNat, none⟩ (.int .i64 x17_1))) ?hg ?ho ?hn ?hr ?_; (case ho => rfl); (case hg => rfl); (case hn => rfl); (case hr => first | (go_simp; done) | (go_simp; rfl)); intro w33 hw; have hg : wr.grownBy w33 (some go28) := (by rw [hw]; exact HP32.2); have hp_ : Kd.R (Kd.int .i64) 3 w33 w.heap.size (fun _ => True) (.slice (some ⟨go28, 0, none⟩) x4_2.length co31) y240 := (by rw [hw, Ny240.out]; exact HP32.1); clear HP32; have n_ := aI (aM (hp_)) (aI (aM (blk_grown (g := gb229) (o := .cells #[.slice (some ad236) l0_0.length c0_0, .slice A0_1 l0_1.length c0_1] 30 (0, 0)) (kP BK229) hg (Kd.R_ne HO_4.out BK229.out (by decide)))) (aI (aM (blk_grown (g := gb237) (o := .cells #[.int .i64 ((rd_T40 l0_0 x17_1).f0), .int .i64 ((rd_T40 l0_0 x17_1).f1), .int .i64 ((rd_T40 l0_0 x17_1).f2), .int .i64 ((rd_T40 l0_0 x17_1).f3), .slice (some ad238) ((rd_T40 l0_0 x17_1).f4).length c236_4] 40 (0, 0)) (kP BK237) hg (Kd.R_ne HO_4.out BK237.out (by decide)))) (aM ((by rw [hw]; exact below_set (HB.out) GB28.out : Below w.heap.size w w33))))); clear HO_4 BK229 BK237 HB; obtain ⟨HO_4, BK229, BK237, HB⟩ := n_; (try clear hw)))
               go_roundg k2
               case measure => have := HK1.out; have := HK2.out; omega
               case rel => exact ⟨(y240), (wrap64 (x25_2 + 1)), (by first | rfl | (simp; done) | (simp [*]; done) | (simp; exact (by intro l_; cases l_ <;> rfl : ∀ l_ : List UInt8, l_.isEmpty = !(l_ != [])) _)), H', ⟨by have := HK1.out; have := HK2.out; omega⟩, ⟨rP HO_4.out⟩, ⟨kP BK229⟩, ⟨kP BK237⟩, ⟨bB⟩⟩
             ·rw [if_neg c23] at H
              exact absurd H (by simp)
            ·rw [if_neg c22] at H
             exact absurd H (by simp)
          ·rw [if_neg c18] at H
           exact absurd H (by simp)
         ·rw [if_neg c17] at H
          exact absurd H (by simp)
        ·rw [if_neg c16] at H
         have c16b0 : decide (x25_2 < (((rd_T40 l0_0 x17_1).f4).length : Int)) = false := decide_eq_false c16
         clear c16
         have H' := aM H
         clear H
         go_wp2
         go_roundg k2
         case measure => have := HK1.out; have := HK2.out; omega
         case rel => exact ⟨(x4_2), (wrap64 (x17_1 + 1)), (by first | rfl | (simp; done) | (simp [*]; done) | (simp; exact (by intro l_; cases l_ <;> rfl : ∀ l_ : List UInt8, l_.isEmpty = !(l_ != [])) _)), H', ⟨by have := HK1.out; have := HK2.out; omega⟩, ⟨rP HO_4.out⟩, ⟨kP BK229⟩, ⟨bB⟩⟩
     ·rw [if_neg c12] at H
      exact absurd H (by simp)
    ·rw [if_neg c11] at H
     exact absurd H (by simp)
   ·rw [if_neg c10] at H
    have c10b0 : decide (x17_1 < (l0_0.length : Int)) = false := decide_eq_false c10
    clear c10
    simp only [Option.some.injEq, Prod.mk.injEq] at H
    obtain ⟨rfl, rfl⟩ := H
    go_wp2
    go_ret2
    exact ⟨_, eW, by (with_reducible repeat (first | apply Kd.R_alloc | apply Kd.R_drewN | apply Kd.R_drew)); exact HO_4.out, bB⟩

/-! ### slices_IndexFunc_ShapeOk_1: function 36 -/
def slices_IndexFunc_ShapeOk_1.l0 : Nat → List (S40) → Int → Int → Option (Int)
 | 0, _, _, _ => none
 | k + 1, x0, x7, x8 => if x8 < x7 then (if 0 ≤ x8 then (if x8 < (x0.length : Int) then ((impl_ShapeOk_1.f k ((rd_T40 x0 x8).f0) ((rd_T40 x0 x8).f1) ((rd_T40 x0 x8).f2) ((rd_T40 x0 x8).f3) ((rd_T40 x0 x8).f4)).bind fun t242 => (if t242 = true then (some x8) else (slices_IndexFunc_ShapeOk_1.l0 k x0 x7 (wrap64 (x8 + 1))))) else (none)) else (none)) else (some (-1))
def slices_IndexFunc_ShapeOk_1.f (k : Nat) (l0 : List (S40))  : Option (Int) := slices_IndexFunc_ShapeOk_1.l0 k l0 (l0.length : Int) 0
theorem slices_IndexFunc_ShapeOk_1.mono_l : ∀ k, (∀ y0 y1 y2, LeO (slices_IndexFunc_ShapeOk_1.l0 k y0 y1 y2) (slices_IndexFunc_ShapeOk_1.l0 (k + 1) y0 y1 y2))
 | 0 => fun _ _ _ r h => by simp [slices_IndexFunc_ShapeOk_1.l0] at h
 | k + 1 => by
  have ih0 := slices_IndexFunc_ShapeOk_1.mono_l k
  ·intro y0 y1 y2
   unfold slices_IndexFunc_ShapeOk_1.l0
   have m0_ := @impl_ShapeOk_1.mono
   exact mM
theorem slices_IndexFunc_ShapeOk_1.mono : ∀ a0 k, LeO (slices_IndexFunc_ShapeOk_1.f k a0) (slices_IndexFunc_ShapeOk_1.f (k + 1) a0) := by
 intro a0 k
 have ih0 := slices_IndexFunc_ShapeOk_1.mono_l k
 unfold slices_IndexFunc_ShapeOk_1.f
 have m0_ := @impl_ShapeOk_1.mono
 exact mM
set_option maxHeartbeats 8000000 in
set_option maxRecDepth 100000 in
theorem slices_IndexFunc_ShapeOk_1.calls (k : Nat) (A0 : Option Addr) (c0 : Nat) (l0 : List (S40))  (r : Int) (w : World) (hr0 : Kd.C k40 w A0 l0.length l0) (hc0 : l0.length ≤ c0) (h : slices_IndexFunc_ShapeOk_1.f k l0 = some r) :
  Calls Try.prog 36 #[.slice A0 l0.length c0, .func (.func 25) #[] #[]] w fun e w' => e = .returned (.int .i64 r) ∧ Below w.heap.size w w' := by
 have hu40 := Try.underlying40
 have HR0 := aM hr0
 have HC0 := aM hc0
 clear hr0 hc0
 have HB := aM (Below.refl w.heap.size w)
 unfold slices_IndexFunc_ShapeOk_1.f at h
 have H := h
 clear h
 have H' := aM H
 clear H
 go_enter Try.func36, Try.ntmps36
 go_wp2
 go_loopg [8] k (fun kq v8 w' => ∃ (x8_1 : Int), v8 = .int .i64 x8_1 ∧ Aside0 (slices_IndexFunc_ShapeOk_1.l0 kq l0 (l0.length : Int) x8_1 = some r) ∧ Aside0 (kq ≤ k) ∧ Aside0 (Below w.heap.size w w'))
 case atStart => exact ⟨(0), (by first | rfl | (simp; done) | (simp [*]; done) | (simp; exact (by intro l_; cases l_ <;> rfl : ∀ l_ : List UInt8, l_.isEmpty = !(l_ != [])) _)), H', ⟨Nat.le_refl _⟩, ⟨bB⟩⟩
 case round =>
  clear H'
  try clear c1
  try clear p2
  obtain ⟨x8_1, rfl, HA, HK1, HB⟩ := hrel
  cases gk with
  | zero => exact absurd HA.out (by simp [slices_IndexFunc_ShapeOk_1.l0])
  | succ k1 =>
   have H := HA.out
   clear HA
   simp only [slices_IndexFunc_ShapeOk_1.l0] at H
   by_cases c3 : x8_1 < (l0.length : Int)
   ·rw [if_pos c3] at H
    have c3b0 : decide (x8_1 < (l0.length : Int)) = true := decide_eq_true c3
    clear c3
    by_cases c4 : 0 ≤ x8_1
    ·rw [if_pos c4] at H
     have c4b0 : decide (0 ≤ x8_1) = true := decide_eq_true c4
     clear c4
     by_cases c5 : x8_1 < (l0.length : Int)
     ·rw [if_pos c5] at H
      have c5b0 : decide (x8_1 < (l0.length : Int)) = true := decide_eq_true c5
      clear c5
      replace H := Option.bind_eq_some_iff.mp H
      obtain ⟨t242, A60, H⟩ := H
      try dsimp only at H
      have A6 := aM A60
      clear A60
      by_cases c7 : t242 = true
      ·subst c7
       rw [if_pos rfl] at H
       obtain rfl := Option.some.inj H
       have p241 : 0 ≤ (x8_1 : Int) := dT
       have q241 : x8_1 < (l0.length : Int) := dT
       obtain ⟨ad241, A241_4, c241_4, e241, hx241_0, hx241_1, hx241_2, hx241_3, hx241_4, hl241_4, hi241_4⟩ := at_T40 HR0.out x8_1 p241 q241
       cases e241
       replace hx241_0 := (HB.out.cell (World.block_lt_of_cell? w _ hx241_0)).trans hx241_0
       replace hx241_1 := (HB.out.cell (World.block_lt_of_cell? w _ hx241_1)).trans hx241_1
       replace hx241_2 := (HB.out.cell (World.block_lt_of_cell? w _ hx241_2)).trans hx241_2
       replace hx241_3 := (HB.out.cell (World.block_lt_of_cell? w _ hx241_3)).trans hx241_3
       replace hx241_4 := (HB.out.cell (World.block_lt_of_cell? w _ hx241_4)).trans hx241_4
       have HR241_4 := aM hi241_4
       have HC241_4 := aM hl241_4
       clear hi241_4 hl241_4
       replace p241 := eq_true p241
       replace q241 := eq_true q241
       go_wp2_with (first | (go_at_call 25; (with_reducible refine (impl_ShapeOk_1.calls k1 ((rd_T40 l0 x8_1).f0) ((rd_T40 l0 x8_1).f1) ((rd_T40 l0 x8_1).f2) ((rd_T40 l0 x8_1).f3) _ _ ((rd_T40 l0 x8_1).f4) true _ ?side1 ?side2 A6.out).mono ?_); (case side1 => exact cS HR241_4 HB); (case side2 => exact HC241_4.out); rintro e w8 ⟨rfl, hb⟩; have n0_ := sB HB hb; clear HB; have HB := n0_; clear n0_; (try clear hb); (try clear hb2); (try clear hk); (try clear hi)))
       go_ret
       exact ⟨eW, bB⟩
      ·replace c7 := Bool.eq_false_iff.mpr c7
       subst c7
       rw [if_neg (show ¬ (false = true) by decide)] at H
       have H' := aM H
       clear H
       have p241 : 0 ≤ (x8_1 : Int) := dT
       have q241 : x8_1 < (l0.length : Int) := dT
       obtain ⟨ad241, A241_4, c241_4, e241, hx241_0, hx241_1, hx241_2, hx241_3, hx241_4, hl241_4, hi241_4⟩ := at_T40 HR0.out x8_1 p241 q241
       cases e241
       replace hx241_0 := (HB.out.cell (World.block_lt_of_cell? w _ hx241_0)).trans hx241_0
       replace hx241_1 := (HB.out.cell (World.block_lt_of_cell? w _ hx241_1)).trans hx241_1
       replace hx241_2 := (HB.out.cell (World.block_lt_of_cell? w _ hx241_2)).trans hx241_2
       replace hx241_3 := (HB.out.cell (World.block_lt_of_cell? w _ hx241_3)).trans hx241_3
       replace hx241_4 := (HB.out.cell (World.block_lt_of_cell? w _ hx241_4)).trans hx241_4
       have HR241_4 := aM hi241_4
       have HC241_4 := aM hl241_4
       clear hi241_4 hl241_4
       replace p241 := eq_true p241
       replace q241 := eq_true q241
       go_wp2_with (first | (go_at_call 25; (with_reducible refine (impl_ShapeOk_1.calls k1 ((rd_T40 l0 x8_1).f0) ((rd_T40 l0 x8_1).f1) ((rd_T40 l0 x8_1).f2) ((rd_T40 l0 x8_1).f3) _ _ ((rd_T40 l0 x8_1).f4) false _ ?side1 ?side2 A6.out).mono ?_); (case side1 => exact cS HR241_4 HB); (case side2 => exact HC241_4.out); rintro e w9 ⟨rfl, hb⟩; have n0_ := sB HB hb; clear HB; have HB := n0_; clear n0_; (try clear hb); (try clear hb2); (try clear hk); (try clear hi)))
       go_roundg k1
       case measure => have := HK1.out; omega
       case rel => exact ⟨(wrap64 (x8_1 + 1)), (by first | rfl | (simp; done) | (simp [*]; done) | (simp; exact (by intro l_; cases l_ <;> rfl : ∀ l_ : List UInt8, l_.isEmpty = !(l_ != [])) _)), H', ⟨by have := HK1.out; omega⟩, ⟨bB⟩⟩
     ·rw [if_neg c5] at H
      exact absurd H (by simp)
    ·rw [if_neg c4] at H
     exact absurd H (by simp)
   ·rw [if_neg c3] at H
    have c3b0 : decide (x8_1 < (l0.length : Int)) = false := decide_eq_false c3
    clear c3
    obtain rfl := Option.some.inj H
    go_wp2
    go_ret
    exact ⟨eW, bB⟩

/-! ### slices_ContainsFunc_ShapeOk_1: function 24 -/
def slices_ContainsFunc_ShapeOk_1.f (k : Nat) (l0 : List (S40))  : Option (Bool) := (slices_IndexFunc_ShapeOk_1.f k l0).bind fun t243 => (some (decide (t243 ≥ 0)))
theorem slices_ContainsFunc_ShapeOk_1.mono : ∀ a0 k, LeO (slices_ContainsFunc_ShapeOk_1.f k a0) (slices_ContainsFunc_ShapeOk_1.f (k + 1) a0) := by
 intro a0 k
 unfold slices_ContainsFunc_ShapeOk_1.f
 have m0_ := @slices_IndexFunc_ShapeOk_1.mono
 exact mM
set_option maxHeartbeats 8000000 in
set_option maxRecDepth 100000 in
theorem slices_ContainsFunc_ShapeOk_1.calls (k : Nat) (A0 : Option Addr) (c0 : Nat) (l0 : List (S40))  (r : Bool) (w : World) (hr0 : Kd.C k40 w A0 l0.length l0) (hc0 : l0.length ≤ c0) (h : slices_ContainsFunc_ShapeOk_1.f k l0 = some r) :
  Calls Try.prog 24 #[.slice A0 l0.length c0, .func (.func 25) #[] #[]] w fun e w' => e = .returned (.bool r) ∧ Below w.heap.size w w' := by
 have HR0 := aM hr0
 have HC0 := aM hc0
 clear hr0 hc0
 have HB := aM (Below.refl w.heap.size w)
 unfold slices_ContainsFunc_ShapeOk_1.f at h
 have H := h
 clear h
 replace H := Option.bind_eq_some_iff.mp H
 obtain ⟨t243, A30, H⟩ := H
 try dsimp only at H
 have A3 := aM A30
 clear A30
 obtain rfl := Option.some.inj H
 go_enter Try.func24, Try.ntmps24
 go_wp2_with (first | ((with_reducible refine gate_callee (f := 36) rfl ?_); refine gL (some 7) Try.func36 #[.slice A0 l0.length c0, .func (.func 25) #[] #[]] ?_; (with_reducible refine (slices_IndexFunc_ShapeOk_1.calls k _ _ l0  t243 _ ?side1 ?side2 A3.out).mono ?_); (case side1 => repeat (first | exact HR0.out | (with_reducible refine Kd.C_alloc ?_ _) | (with_reducible refine Kd.C_drewN ?_ _) | (with_reducible refine Kd.C_drew ?_))); (case side2 => exact HC0.out); rintro e w4 ⟨rfl, hb⟩; refine ⟨_, rfl, ?_⟩; have n0_ := sB HB hb; clear HB; have HB := n0_; clear n0_; (try clear hb); (try clear hb2); (try clear hk); (try clear hi)))
 go_ret
 exact ⟨eW, bB⟩

end Go.Proofs.Ytapliilimfgdjaa.PFnExactFreeOf
