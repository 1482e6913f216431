-- Written by xprint.py, a program of this session over the kit's print. Not trusted: Lean checks it.
import Derived.Test.YtadfimhielcmmaaPFnExactFsNewx0
namespace Go.Proofs.Ytadfimhielcmmaa.PFnExactFsNew
open Go.RowKit Go.Proofs.YtadfimhielcmmaaW.PrintWords Go.Proofs.YtadfimhielcmmaaW.PrintLast Go.Proofs.YtadfimhielcmmaaW.PrintMore
attribute [local go_sem] max2_int min2_int max_two min_two max_three min_three max_four min_four   -- for this text's walks alone
set_option linter.unusedVariables false
set_option linter.unusedSimpArgs false

/-! ### spec_l1In: function 23 -/
def spec_l1In.f (a0 : Int) (a1 : Int) (a2 : Int) : Option (Bool) := if a0 ≥ a1 then (some (decide (a0 ≤ a2))) else (some false)
set_option maxHeartbeats 8000000 in
set_option maxRecDepth 100000 in
theorem spec_l1In.calls (a0 : Int) (a1 : Int) (a2 : Int) (r : Bool) (w : World) (h : spec_l1In.f a0 a1 a2 = some r) :
  Calls Try.prog 23 #[.int .i64 a0, .int .i64 a1, .int .i64 a2] w fun e w' => e = .returned (.bool r) ∧ Drawn0 w w' := by
 unfold spec_l1In.f at h
 have H := h
 clear h
 by_cases c4 : a0 ≥ a1
 ·rw [if_pos c4] at H
  have c4b0 : decide (a1 ≤ a0) = true := decide_eq_true c4
  clear c4
  obtain rfl := Option.some.inj H
  go_enter Try.func23, Try.ntmps23
  go_wp2
  go_ret
  exact ⟨by first | rfl | (simp; done) | (simp [*]; done), by repeat (first | exact Drawn0.refl _ | apply Drawn0.step)⟩
 rw [if_neg c4] at H
 have c4b0 : decide (a1 ≤ a0) = false := decide_eq_false c4
 clear c4
 obtain rfl := Option.some.inj H
 go_enter Try.func23, Try.ntmps23
 go_wp2
 go_ret
 exact ⟨by first | rfl | (simp; done) | (simp [*]; done), by repeat (first | exact Drawn0.refl _ | apply Drawn0.step)⟩

/-! ### spec_FsNew: function 6 -/
def spec_FsNew.f (a0 : Int) (a1 : Int) : Option ((List (S33)) × List ByteArray × Bool) := (spec_l1In.f a0 2 10).bind fun t102 => (if t102 = true then ((spec_l1In.f a1 1 36).bind fun t103 => (if t103 = true then (if 0 ≤ a0 then (if (a0 : Int).toNat ≤ 5026338869833 then ((some (List.replicate (a0 : Int).toNat z33 : List (S33))).bind fun y104 => (if 0 ≤ a1 then (if (a1 : Int).toNat ≤ 17592186044416 then (if 0 < (y104.length : Int) then (some ((y104.set (0 : Int).toNat (⟨2, (rd_T33 y104 0).f1, (rd_T33 y104 0).f2, (rd_T33 y104 0).f3, (rd_T33 y104 0).f4⟩ : S33)), (List.replicate (a1 : Int).toNat (⟨#[]⟩ : ByteArray)), true)) else (none)) else (none)) else (none))) else (none)) else (none)) else (some (([] : List (S33)), ([] : List ByteArray), false)))) else (some (([] : List (S33)), ([] : List ByteArray), false)))
set_option maxHeartbeats 8000000 in
set_option maxRecDepth 100000 in
theorem spec_FsNew.calls (a0 : Int) (a1 : Int) (r1 : List (S33)) (r2 : List ByteArray) (r3 : Bool) (w : World) (h : spec_FsNew.f a0 a1 = some (r1, r2, r3)) :
  Calls Try.prog 6 #[.int .i64 a0, .int .i64 a1] w fun e w' => ∃ v0_ v1_ : Value, e = .returned (.tuple #[.agg #[v0_, v1_], .bool r3]) ∧ Kd.R k33 33 w' w.heap.size (fun _ => True) v0_ r1 ∧ Kd.R Kd.string 9 w' w.heap.size (fun _ => True) v1_ r2 ∧ Below w.heap.size w w' := by
 have hu25 := Try.underlying25
 have HB := aM (Below.refl w.heap.size w)
 unfold spec_FsNew.f at h
 have H := h
 clear h
 replace H := Option.bind_eq_some_iff.mp H
 obtain ⟨t102, A30, H⟩ := H
 try dsimp only at H
 have A3 := aM A30
 clear A30
 by_cases c4 : t102 = true
 ·subst c4
  rw [if_pos rfl] at H
  replace H := Option.bind_eq_some_iff.mp H
  obtain ⟨t103, A50, H⟩ := H
  try dsimp only at H
  have A5 := aM A50
  clear A50
  by_cases c6 : t103 = true
  ·subst c6
   rw [if_pos rfl] at H
   by_cases c7 : 0 ≤ a0
   ·rw [if_pos c7] at H
    have c7b0 := eq_true c7
    have c7b1 : decide (0 ≤ a0) = true := decide_eq_true c7
    clear c7
    by_cases c8 : (a0 : Int).toNat ≤ 5026338869833
    ·rw [if_pos c8] at H
     have c8b0 := eq_true c8
     have c8b1 : decide ((a0 : Int).toNat ≤ 5026338869833) = true := decide_eq_true c8
     clear c8
     obtain ⟨y104, hy104⟩ : ∃ y_ : List (S33), y_ = (List.replicate (a0 : Int).toNat z33) := ⟨_, rfl⟩
     replace H : (if 0 ≤ a1 then (if (a1 : Int).toNat ≤ 17592186044416 then (if 0 < (y104.length : Int) then (some ((y104.set (0 : Int).toNat (⟨2, (rd_T33 y104 0).f1, (rd_T33 y104 0).f2, (rd_T33 y104 0).f3, (rd_T33 y104 0).f4⟩ : S33)), (List.replicate (a1 : Int).toNat (⟨#[]⟩ : ByteArray)), true)) else (none)) else (none)) else (none)) = some (r1, r2, r3) := bQ hy104 H
     have Ny104 := aM hy104
     clear hy104
     by_cases c9 : 0 ≤ a1
     ·rw [if_pos c9] at H
      have c9b0 := eq_true c9
      have c9b1 : decide (0 ≤ a1) = true := decide_eq_true c9
      clear c9
      by_cases c10 : (a1 : Int).toNat ≤ 17592186044416
      ·rw [if_pos c10] at H
       have c10b0 := eq_true c10
       have c10b1 : decide ((a1 : Int).toNat ≤ 17592186044416) = true := decide_eq_true c10
       clear c10
       obtain ⟨y107, hy107⟩ : ∃ y_ : List ByteArray, y_ = (List.replicate (a1 : Int).toNat (⟨#[]⟩ : ByteArray)) := ⟨_, rfl⟩
       replace H : (if 0 < (y104.length : Int) then (some ((y104.set (0 : Int).toNat (⟨2, (rd_T33 y104 0).f1, (rd_T33 y104 0).f2, (rd_T33 y104 0).f3, (rd_T33 y104 0).f4⟩ : S33)), y107, true)) else (none)) = some (r1, r2, r3) := bQ hy107 H
       have Ny107 := aM hy107
       clear hy107
       by_cases c11 : 0 < (y104.length : Int)
       ·rw [if_pos c11] at H
        have c11b0 : decide (0 < (y104.length : Int)) = true := decide_eq_true c11
        have c11b1 : decide (0 < y104.length) = true := decide_eq_true (by omega)
        clear c11
        obtain ⟨y111, hy111⟩ : ∃ y_ : List (S33), y_ = (y104.set (0 : Int).toNat (⟨2, (rd_T33 y104 0).f1, (rd_T33 y104 0).f2, (rd_T33 y104 0).f3, (rd_T33 y104 0).f4⟩ : S33)) := ⟨_, rfl⟩
        replace H : (some (y111, y107, true)) = some (r1, r2, r3) := bQ hy111 H
        have Ny111 := aM hy111
        clear hy111
        simp only [Option.some.injEq, Prod.mk.injEq] at H
        obtain ⟨rfl, rfl, rfl⟩ := H
        go_enter Try.func6, Try.ntmps6
        try go_wp2_with (first | ((with_reducible refine gate_dst (N := 4) rfl ?_); refine bE 4 #[.slice none 0 0, .slice none 0 0] 25 ?_; intro gb101 hg w13 hbox hb; have n_ := aI (sB HB hb) (aI (aM hbox) (aI (gE HB hg) (gE HB hg))); clear HB; obtain ⟨HB, BK101, GW101, GE101⟩ := n_; (try clear hb hbox hg)) | ((with_reducible refine gate_callee (f := 23) rfl ?_); refine gL (some 8) Try.func23 #[.int .i64 a0, .int .i64 2, .int .i64 10] ?_; (with_reducible refine (spec_l1In.calls a0 2 10 true _ A3.out).mono ?_); rintro e w' ⟨rfl, ⟨nd, rfl⟩⟩; refine ⟨_, rfl, ?_⟩; (try (rw [drewN_self w13]; generalize hq_ : World.drewN w13 _ = w13; have n0_ : Aside0 (w13.heap[gb101]? = some (.cells #[.slice none 0 0, .slice none 0 0] 25 (0, 0))) := ⟨by rw [← hq_]; exact (kP BK101)⟩; have n1_ : Aside0 (Below w.heap.size w w13) := ⟨by rw [← hq_]; exact bB⟩; clear BK101 HB hq_; have BK101 := n0_; have HB := n1_; clear n0_ n1_))) | (go_at_call 23; (with_reducible refine (spec_l1In.calls a1 1 36 true _ A5.out).mono ?_); rintro e w' ⟨rfl, ⟨nd, rfl⟩⟩; (try (rw [drewN_self w13]; generalize hq_ : World.drewN w13 _ = w13; have n0_ : Aside0 (w13.heap[gb101]? = some (.cells #[.slice none 0 0, .slice none 0 0] 25 (0, 0))) := ⟨by rw [← hq_]; exact (kP BK101)⟩; have n1_ : Aside0 (Below w.heap.size w w13) := ⟨by rw [← hq_]; exact bB⟩; clear BK101 HB hq_; have BK101 := n0_; have HB := n1_; clear n0_ n1_))))
        have n_ := aI (aM (blk_drew BK101.out)) (aM (below_drew1 HB.out))
        clear BK101 HB
        obtain ⟨BK101, HB⟩ := n_
        refine start_ (n := 7) (S := fun w' => True) (ds := []) #[tF, tF, tF, tF, tF, tF, tF] (by kernel_rfl) rfl rfl trivial (fun hHeld => ?_)
        generalize w13.drew = w14 at BK101 HB hHeld ⊢
        refine pure_ (i := 0) (N := some 16) (v := ?_) (a' := ?_) #[tT, tF, tF, tF, tF, tF, tF] rfl rfl (by kernel_rfl) (fun _ _ _ h => h) (Or.inl ⟨by rfl, ?_⟩) ?_ ?_
        rotate_left
        ·intro w'
         go_simp
         with_reducible rfl
        rotate_left
        ·simp only [Act.put, List.setIfInBounds_toArray, List.set_cons_zero, List.set_cons_succ, i64_w, i32_w]
         rfl
        refine pure_ (i := 2) (N := some 18) (v := ?_) (a' := ?_) #[tT, tF, tT, tF, tF, tF, tF] rfl rfl (by kernel_rfl) (fun _ _ _ h => h) (Or.inl ⟨by rfl, ?_⟩) ?_ ?_
        rotate_left
        ·intro w'
         go_simp
         with_reducible rfl
        rotate_left
        ·simp only [Act.put, List.setIfInBounds_toArray, List.set_cons_zero, List.set_cons_succ, i64_w, i32_w]
         rfl
        refine join_ (σ := Value × Value × Nat) 1 #[true, true, true, true, true, true, false] (fun s_ => [(17, s_.1), (19, s_.2.1), (6, .pointer (some ⟨s_.2.2, 0, none⟩)), (20, .agg #[s_.1, s_.2.1])]) (fun s_ w' => (Kd.R k33 33 w' w.heap.size (fun _ => True) s_.1 y104) ∧ (Kd.R Kd.string 9 w' w.heap.size (fun _ => True) s_.2.1 y107) ∧ (w'.heap[gb101]? = some (.cells #[.slice none 0 0, .slice none 0 0] 25 (0, 0))) ∧ (w'.heap[s_.2.2]? = some (.cells #[.slice none 0 0, .slice none 0 0] 25 (0, 0))) ∧ (w.heap.size ≤ s_.2.2) ∧ (w.heap.size ≤ s_.2.2) ∧ (gb101 ≠ s_.2.2) ∧ (s_.2.2 ≠ gb101) ∧ (Below w.heap.size w w')) ?_ ?_
        rotate_left
        ·intro hJ1_3_5
         refine join_ (σ := Value × Value) 2 #[true, true, true, true, true, false, false] (fun s_ => [(17, s_.1), (19, s_.2), (20, .agg #[s_.1, s_.2])]) (fun s_ w' => (Kd.R k33 33 w' w.heap.size (fun _ => True) s_.1 y104) ∧ (Kd.R Kd.string 9 w' w.heap.size (fun _ => True) s_.2 y107) ∧ (w'.heap[gb101]? = some (.cells #[.slice none 0 0, .slice none 0 0] 25 (0, 0))) ∧ (Below w.heap.size w w')) ?_ ?_
         rotate_left
         ·intro hJ1_3
          refine join_ (σ := Value × Nat) 3 #[true, true, true, false, false, true, false] (fun s_ => [(17, s_.1), (6, .pointer (some ⟨s_.2, 0, none⟩))]) (fun s_ w' => (Kd.R k33 33 w' w.heap.size (fun _ => True) s_.1 y104) ∧ (w'.heap[gb101]? = some (.cells #[.slice none 0 0, .slice none 0 0] 25 (0, 0))) ∧ (w'.heap[s_.2]? = some (.cells #[.slice none 0 0, .slice none 0 0] 25 (0, 0))) ∧ (w.heap.size ≤ s_.2) ∧ (w.heap.size ≤ s_.2) ∧ (gb101 ≠ s_.2) ∧ (s_.2 ≠ gb101) ∧ (Below w.heap.size w w')) ?_ ?_
          rotate_left
          ·intro hJ1_5
           refine join_ (σ := Value × Nat) 3 #[true, false, true, true, false, true, false] (fun s_ => [(19, s_.1), (6, .pointer (some ⟨s_.2, 0, none⟩))]) (fun s_ w' => (Kd.R Kd.string 9 w' w.heap.size (fun _ => True) s_.1 y107) ∧ (w'.heap[gb101]? = some (.cells #[.slice none 0 0, .slice none 0 0] 25 (0, 0))) ∧ (w'.heap[s_.2]? = some (.cells #[.slice none 0 0, .slice none 0 0] 25 (0, 0))) ∧ (w.heap.size ≤ s_.2) ∧ (w.heap.size ≤ s_.2) ∧ (gb101 ≠ s_.2) ∧ (s_.2 ≠ gb101) ∧ (Below w.heap.size w w')) ?_ ?_
           rotate_left
           ·intro hJ3_5
            refine join_ (σ := Value) 4 #[true, true, true, false, false, false, false] (fun s_ => [(17, s_)]) (fun s_ w' => (Kd.R k33 33 w' w.heap.size (fun _ => True) s_ y104) ∧ (w'.heap[gb101]? = some (.cells #[.slice none 0 0, .slice none 0 0] 25 (0, 0))) ∧ (Below w.heap.size w w')) ?_ ?_
            rotate_left
            ·intro hJ1
             refine join_ (σ := Value) 4 #[true, false, true, true, false, false, false] (fun s_ => [(19, s_)]) (fun s_ w' => (Kd.R Kd.string 9 w' w.heap.size (fun _ => True) s_ y107) ∧ (w'.heap[gb101]? = some (.cells #[.slice none 0 0, .slice none 0 0] 25 (0, 0))) ∧ (Below w.heap.size w w')) ?_ ?_
             rotate_left
             ·intro hJ3
              refine join_ (σ := Nat) 4 #[true, false, true, false, false, true, false] (fun s_ => [(6, .pointer (some ⟨s_, 0, none⟩))]) (fun s_ w' => (w'.heap[gb101]? = some (.cells #[.slice none 0 0, .slice none 0 0] 25 (0, 0))) ∧ (w'.heap[s_]? = some (.cells #[.slice none 0 0, .slice none 0 0] 25 (0, 0))) ∧ (w.heap.size ≤ s_) ∧ (w.heap.size ≤ s_) ∧ (gb101 ≠ s_) ∧ (s_ ≠ gb101) ∧ (Below w.heap.size w w')) ?_ ?_
              rotate_left
              ·intro hJ5
               refine three_ (i := 1) (j := 3) (k := 5) (Ni := some 17) (Nj := some 19) (Nk := some 6) #[true, true, true, false, false, false, false] #[true, false, true, true, false, false, false] #[true, false, true, false, false, true, false] rfl rfl rfl rfl rfl rfl (by kernel_rfl) (by decide) (by decide) (by decide) (fun K hK => ?_) (fun K hK => ?_) (fun K hK => ?_)
               ·skip
                refine Kd.R_make_step k33 _ 33 (by rfl) (N := 17) rfl 22 _ _ rfl a0 rfl rfl Try.underlying22 (.agg #[(.int .i64 0), (.int .i64 0), (.int .i64 0), (.int .i64 0), (.slice none 0 0)]) 56 info33 rfl (by decide) (by omega) z33 (ok := fun _ => True) (okp := fun _ => True) (k33_mkM _ _ _ z33 ) (fun _ hk => hk) trivial (dT) (Nat.le_trans (Nat.mul_le_mul_right _ (dT : a0.toNat ≤ 5026338869833)) (by omega)) (Below.refl _ _) (Nat.le_refl _) ?_
                intro v105 w15 ho16 hb hg_ hnew_
                clear hg_ hnew_
                (first | rw [← Ny104.out] at ho16 | (simp only [Int.reduceToNat] at ho16; rw [← Ny104.out] at ho16))
                have n_ := aI (lR HB ho16) (aI (kB BK101 hb) (sB HB hb))
                clear BK101 HB
                obtain ⟨HO106, BK101, HB⟩ := n_
                clear hb ho16
                refine hK.out _ _ trivial (fun hHeld => ?_)
                clear hK K
                refine norm_ (a' := ?_) ?_ ?_
                rotate_left
                ·show Act.put _ (some 17) _ = _
                 simp only [Act.put, List.setIfInBounds_toArray, List.set_cons_zero, List.set_cons_succ, i64_w, i32_w]
                 rfl
                exact norm_ (by first | (simp only [putAll, Act.put, List.setIfInBounds_toArray, List.set_cons_zero, List.set_cons_succ]; done) | (simp only [putAll, Act.put, List.setIfInBounds_toArray, List.set_cons_zero, List.set_cons_succ]; rfl)) (hJ1 (v105) _ ⟨(rP HO106.out), (kP BK101), bB⟩)
               ·skip
                refine Kd.R_make_step Kd.string _ 9 (by rfl) (N := 19) rfl 23 _ _ rfl a1 rfl rfl Try.underlying23 (.string ⟨#[]⟩) 16 info9 rfl (by decide) (by omega) (⟨#[]⟩ : ByteArray) (ok := fun _ => True) (okp := fun _ => True) rfl (fun _ hk => hk) trivial (dT) (Nat.le_trans (Nat.mul_le_mul_right _ (dT : a1.toNat ≤ 17592186044416)) (by omega)) (Below.refl _ _) (Nat.le_refl _) ?_
                intro v108 w15 ho16 hb hg_ hnew_
                clear hg_ hnew_
                (first | rw [← Ny107.out] at ho16 | (simp only [Int.reduceToNat] at ho16; rw [← Ny107.out] at ho16))
                have n_ := aI (lR HB ho16) (aI (kB BK101 hb) (sB HB hb))
                clear BK101 HB
                obtain ⟨HO109, BK101, HB⟩ := n_
                clear hb ho16
                refine hK.out _ _ trivial (fun hHeld => ?_)
                clear hK K
                refine norm_ (a' := ?_) ?_ ?_
                rotate_left
                ·show Act.put _ (some 19) _ = _
                 simp only [Act.put, List.setIfInBounds_toArray, List.set_cons_zero, List.set_cons_succ, i64_w, i32_w]
                 rfl
                exact norm_ (by first | (simp only [putAll, Act.put, List.setIfInBounds_toArray, List.set_cons_zero, List.set_cons_succ]; done) | (simp only [putAll, Act.put, List.setIfInBounds_toArray, List.set_cons_zero, List.set_cons_succ]; rfl)) (hJ3 (v108) _ ⟨(rP HO109.out), (kP BK101), bB⟩)
               skip
               refine box_step ?hg (N := 6) ?hd (cs := #[.slice none 0 0, .slice none 0 0]) (t := 25) ?hr ?_; (case hd => rfl); (case hg => rfl); (case hr => first | (go_simp; done) | (go_simp; rfl))
               intro gb110 hg w15 hbox hb
               have n_ := aI (kB BK101 hb) (aI (sB HB hb) (aI (aM hbox) (aI (gE HB hg) (aI (gE HB hg) (aI (nL BK101 hg) (nG BK101 hg))))))
               clear BK101 HB
               obtain ⟨BK101, HB, BK110, GW110, GE110, NB101_110, NB110_101⟩ := n_
               clear hb hbox hg
               refine hK.out _ _ trivial (fun hHeld => ?_)
               clear hK K
               refine norm_ (a' := ?_) ?_ ?_
               rotate_left
               ·show Act.put _ (some 6) _ = _
                simp only [Act.put, List.setIfInBounds_toArray, List.set_cons_zero, List.set_cons_succ, i64_w, i32_w]
                rfl
               exact norm_ (by first | (simp only [putAll, Act.put, List.setIfInBounds_toArray, List.set_cons_zero, List.set_cons_succ]; done) | (simp only [putAll, Act.put, List.setIfInBounds_toArray, List.set_cons_zero, List.set_cons_succ]; rfl)) (hJ5 (gb110) _ ⟨(kP BK101), (kP BK110), GW110.out, GE110.out, NB101_110.out, NB110_101.out, bB⟩)
              skip
              rintro gb110 w16 ⟨h0_, h1_, h2_, h3_, h4_, h5_, h6_⟩
              have n0_ : Aside0 (w16.heap[gb101]? = some (.cells #[.slice none 0 0, .slice none 0 0] 25 (0, 0))) := ⟨h0_⟩
              have n1_ : Aside0 (w16.heap[gb110]? = some (.cells #[.slice none 0 0, .slice none 0 0] 25 (0, 0))) := ⟨h1_⟩
              have n2_ : Aside0 (w.heap.size ≤ gb110) := ⟨h2_⟩
              have n3_ : Aside0 (w.heap.size ≤ gb110) := ⟨h3_⟩
              have n4_ : Aside0 (gb101 ≠ gb110) := ⟨h4_⟩
              have n5_ : Aside0 (gb110 ≠ gb101) := ⟨h5_⟩
              have n6_ : Aside0 (Below w.heap.size w w16) := ⟨h6_⟩
              clear BK101
              clear HB
              clear h0_ h1_ h2_ h3_ h4_ h5_ h6_
              have BK101 := n0_
              have BK110 := n1_
              have GW110 := n2_
              have GE110 := n3_
              have NB101_110 := n4_
              have NB110_101 := n5_
              have HB := n6_
              clear n0_ n1_ n2_ n3_ n4_ n5_ n6_
              have hHeld := trivial
              refine norm_ (a' := ?_) ?_ ?_
              rotate_left
              ·simp only [putAll, Act.put, List.setIfInBounds_toArray, List.set_cons_zero, List.set_cons_succ]
               rfl
              refine two_ (i := 1) (j := 3) (Ni := some 17) (Nj := some 19) #[true, true, true, false, false, true, false] #[true, false, true, true, false, true, false] rfl rfl rfl rfl (by kernel_rfl) (by decide) (by decide) (fun K hK => ?_) (fun K hK => ?_)
              ·skip
               refine Kd.R_make_step k33 _ 33 (by rfl) (N := 17) rfl 22 _ _ rfl a0 rfl rfl Try.underlying22 (.agg #[(.int .i64 0), (.int .i64 0), (.int .i64 0), (.int .i64 0), (.slice none 0 0)]) 56 info33 rfl (by decide) (by omega) z33 (ok := fun _ => True) (okp := fun _ => True) (k33_mkM _ _ _ z33 ) (fun _ hk => hk) trivial (dT) (Nat.le_trans (Nat.mul_le_mul_right _ (dT : a0.toNat ≤ 5026338869833)) (by omega)) (Below.refl _ _) (Nat.le_refl _) ?_
               intro v105 w17 ho18 hb hg_ hnew_
               clear hg_ hnew_
               (first | rw [← Ny104.out] at ho18 | (simp only [Int.reduceToNat] at ho18; rw [← Ny104.out] at ho18))
               have n_ := aI (lR HB ho18) (aI (kB BK101 hb) (aI (kB BK110 hb) (sB HB hb)))
               clear BK101 BK110 HB
               obtain ⟨HO106, BK101, BK110, HB⟩ := n_
               clear hb ho18
               refine hK.out _ _ trivial (fun hHeld => ?_)
               clear hK K
               refine norm_ (a' := ?_) ?_ ?_
               rotate_left
               ·show Act.put _ (some 17) _ = _
                simp only [Act.put, List.setIfInBounds_toArray, List.set_cons_zero, List.set_cons_succ, i64_w, i32_w]
                rfl
               exact norm_ (by first | (simp only [putAll, Act.put, List.setIfInBounds_toArray, List.set_cons_zero, List.set_cons_succ]; done) | (simp only [putAll, Act.put, List.setIfInBounds_toArray, List.set_cons_zero, List.set_cons_succ]; rfl)) (hJ1_5 (v105, gb110) _ ⟨(rP HO106.out), (kP BK101), (kP BK110), GW110.out, GE110.out, NB101_110.out, NB110_101.out, bB⟩)
              skip
              refine Kd.R_make_step Kd.string _ 9 (by rfl) (N := 19) rfl 23 _ _ rfl a1 rfl rfl Try.underlying23 (.string ⟨#[]⟩) 16 info9 rfl (by decide) (by omega) (⟨#[]⟩ : ByteArray) (ok := fun _ => True) (okp := fun _ => True) rfl (fun _ hk => hk) trivial (dT) (Nat.le_trans (Nat.mul_le_mul_right _ (dT : a1.toNat ≤ 17592186044416)) (by omega)) (Below.refl _ _) (Nat.le_refl _) ?_
              intro v108 w17 ho18 hb hg_ hnew_
              clear hg_ hnew_
              (first | rw [← Ny107.out] at ho18 | (simp only [Int.reduceToNat] at ho18; rw [← Ny107.out] at ho18))
              have n_ := aI (lR HB ho18) (aI (kB BK101 hb) (aI (kB BK110 hb) (sB HB hb)))
              clear BK101 BK110 HB
              obtain ⟨HO109, BK101, BK110, HB⟩ := n_
              clear hb ho18
              refine hK.out _ _ trivial (fun hHeld => ?_)
              clear hK K
              refine norm_ (a' := ?_) ?_ ?_
              rotate_left
              ·show Act.put _ (some 19) _ = _
               simp only [Act.put, List.setIfInBounds_toArray, List.set_cons_zero, List.set_cons_succ, i64_w, i32_w]
               rfl
              exact norm_ (by first | (simp only [putAll, Act.put, List.setIfInBounds_toArray, List.set_cons_zero, List.set_cons_succ]; done) | (simp only [putAll, Act.put, List.setIfInBounds_toArray, List.set_cons_zero, List.set_cons_succ]; rfl)) (hJ3_5 (v108, gb110) _ ⟨(rP HO109.out), (kP BK101), (kP BK110), GW110.out, GE110.out, NB101_110.out, NB110_101.out, bB⟩)
             skip
             rintro v108 w17 ⟨h0_, h1_, h2_⟩
             have n0_ : Aside0 (Kd.R Kd.string 9 w17 w.heap.size (fun _ => True) v108 y107) := ⟨h0_⟩
             have n1_ : Aside0 (w17.heap[gb101]? = some (.cells #[.slice none 0 0, .slice none 0 0] 25 (0, 0))) := ⟨h1_⟩
             have n2_ : Aside0 (Below w.heap.size w w17) := ⟨h2_⟩
             clear BK101
             clear HB
             clear h0_ h1_ h2_
             have HO109 := n0_
             have BK101 := n1_
             have HB := n2_
             clear n0_ n1_ n2_
             have hHeld := trivial
             refine norm_ (a' := ?_) ?_ ?_
             rotate_left
             ·simp only [putAll, Act.put, List.setIfInBounds_toArray, List.set_cons_zero, List.set_cons_succ]
              rfl
             refine two_ (i := 1) (j := 5) (Ni := some 17) (Nj := some 6) #[true, true, true, true, false, false, false] #[true, false, true, true, false, true, false] rfl rfl rfl rfl (by kernel_rfl) (by decide) (by decide) (fun K hK => ?_) (fun K hK => ?_)
             ·skip
              refine Kd.R_make_step k33 _ 33 (by rfl) (N := 17) rfl 22 _ _ rfl a0 rfl rfl Try.underlying22 (.agg #[(.int .i64 0), (.int .i64 0), (.int .i64 0), (.int .i64 0), (.slice none 0 0)]) 56 info33 rfl (by decide) (by omega) z33 (ok := fun _ => True) (okp := fun _ => True) (k33_mkM _ _ _ z33 ) (fun _ hk => hk) trivial (dT) (Nat.le_trans (Nat.mul_le_mul_right _ (dT : a0.toNat ≤ 5026338869833)) (by omega)) (Below.refl _ _) (Nat.le_refl _) ?_
              intro v105 w18 ho19 hb hg_ hnew_
              clear hg_ hnew_
              (first | rw [← Ny104.out] at ho19 | (simp only [Int.reduceToNat] at ho19; rw [← Ny104.out] at ho19))
              have n_ := aI (rB HO109 hb) (aI (lR HB ho19) (aI (kB BK101 hb) (sB HB hb)))
              clear HO109 BK101 HB
              obtain ⟨HO109, HO106, BK101, HB⟩ := n_
              clear hb ho19
              obtain ⟨Ao20, co20, eo20⟩ := Kd.R_slice HO109.out
              (first | subst eo20 | (injection eo20 with f1_ f2_ f3_; have f4_ := f1_.symm; have f5_ := f3_.symm; clear f1_ f2_ f3_; subst f4_; subst f5_))
              obtain ⟨Ao21, co21, eo21⟩ := Kd.R_slice HO106.out
              (first | subst eo21 | (injection eo21 with f1_ f2_ f3_; have f4_ := f1_.symm; have f5_ := f3_.symm; clear f1_ f2_ f3_; subst f4_; subst f5_))
              refine hK.out _ _ trivial (fun hHeld => ?_)
              clear hK K
              refine norm_ (a' := ?_) ?_ ?_
              rotate_left
              ·show Act.put _ (some 17) _ = _
               simp only [Act.put, List.setIfInBounds_toArray, List.set_cons_zero, List.set_cons_succ, i64_w, i32_w]
               rfl
              refine pure_ (i := 4) (N := some 20) (v := ?_) (a' := ?_) #[tT, tT, tT, tT, tT, tF, tF] rfl rfl (by kernel_rfl) (fun _ _ _ h => h) (Or.inl ⟨by rfl, ?_⟩) ?_ ?_
              rotate_left
              ·intro w'
               go_simp
               with_reducible rfl
              rotate_left
              ·simp only [Act.put, List.setIfInBounds_toArray, List.set_cons_zero, List.set_cons_succ, i64_w, i32_w]
               rfl
              exact norm_ (by first | (simp only [putAll, Act.put, List.setIfInBounds_toArray, List.set_cons_zero, List.set_cons_succ]; done) | (simp only [putAll, Act.put, List.setIfInBounds_toArray, List.set_cons_zero, List.set_cons_succ]; rfl)) (hJ1_3 (.slice Ao21 y104.length co21, .slice Ao20 y107.length co20) _ ⟨(rP HO106.out), (rP HO109.out), (kP BK101), bB⟩)
             skip
             refine box_step ?hg (N := 6) ?hd (cs := #[.slice none 0 0, .slice none 0 0]) (t := 25) ?hr ?_; (case hd => rfl); (case hg => rfl); (case hr => first | (go_simp; done) | (go_simp; rfl))
             intro gb110 hg w18 hbox hb
             have n_ := aI (rB HO109 hb) (aI (kB BK101 hb) (aI (sB HB hb) (aI (aM hbox) (aI (gE HB hg) (aI (gE HB hg) (aI (nL BK101 hg) (nG BK101 hg)))))))
             clear HO109 BK101 HB
             obtain ⟨HO109, BK101, HB, BK110, GW110, GE110, NB101_110, NB110_101⟩ := n_
             clear hb hbox hg
             refine hK.out _ _ trivial (fun hHeld => ?_)
             clear hK K
             refine norm_ (a' := ?_) ?_ ?_
             rotate_left
             ·show Act.put _ (some 6) _ = _
              simp only [Act.put, List.setIfInBounds_toArray, List.set_cons_zero, List.set_cons_succ, i64_w, i32_w]
              rfl
             exact norm_ (by first | (simp only [putAll, Act.put, List.setIfInBounds_toArray, List.set_cons_zero, List.set_cons_succ]; done) | (simp only [putAll, Act.put, List.setIfInBounds_toArray, List.set_cons_zero, List.set_cons_succ]; rfl)) (hJ3_5 (v108, gb110) _ ⟨(rP HO109.out), (kP BK101), (kP BK110), GW110.out, GE110.out, NB101_110.out, NB110_101.out, bB⟩)
            skip
            rintro v105 w17 ⟨h0_, h1_, h2_⟩
            have n0_ : Aside0 (Kd.R k33 33 w17 w.heap.size (fun _ => True) v105 y104) := ⟨h0_⟩
            have n1_ : Aside0 (w17.heap[gb101]? = some (.cells #[.slice none 0 0, .slice none 0 0] 25 (0, 0))) := ⟨h1_⟩
            have n2_ : Aside0 (Below w.heap.size w w17) := ⟨h2_⟩
            clear BK101
            clear HB
            clear h0_ h1_ h2_
            have HO106 := n0_
            have BK101 := n1_
            have HB := n2_
            clear n0_ n1_ n2_
            have hHeld := trivial
            refine norm_ (a' := ?_) ?_ ?_
            rotate_left
            ·simp only [putAll, Act.put, List.setIfInBounds_toArray, List.set_cons_zero, List.set_cons_succ]
             rfl
            refine two_ (i := 3) (j := 5) (Ni := some 19) (Nj := some 6) #[true, true, true, true, false, false, false] #[true, true, true, false, false, true, false] rfl rfl rfl rfl (by kernel_rfl) (by decide) (by decide) (fun K hK => ?_) (fun K hK => ?_)
            ·skip
             refine Kd.R_make_step Kd.string _ 9 (by rfl) (N := 19) rfl 23 _ _ rfl a1 rfl rfl Try.underlying23 (.string ⟨#[]⟩) 16 info9 rfl (by decide) (by omega) (⟨#[]⟩ : ByteArray) (ok := fun _ => True) (okp := fun _ => True) rfl (fun _ hk => hk) trivial (dT) (Nat.le_trans (Nat.mul_le_mul_right _ (dT : a1.toNat ≤ 17592186044416)) (by omega)) (Below.refl _ _) (Nat.le_refl _) ?_
             intro v108 w18 ho19 hb hg_ hnew_
             clear hg_ hnew_
             (first | rw [← Ny107.out] at ho19 | (simp only [Int.reduceToNat] at ho19; rw [← Ny107.out] at ho19))
             have n_ := aI (rB HO106 hb) (aI (lR HB ho19) (aI (kB BK101 hb) (sB HB hb)))
             clear HO106 BK101 HB
             obtain ⟨HO106, HO109, BK101, HB⟩ := n_
             clear hb ho19
             obtain ⟨Ao20, co20, eo20⟩ := Kd.R_slice HO109.out
             (first | subst eo20 | (injection eo20 with f1_ f2_ f3_; have f4_ := f1_.symm; have f5_ := f3_.symm; clear f1_ f2_ f3_; subst f4_; subst f5_))
             obtain ⟨Ao21, co21, eo21⟩ := Kd.R_slice HO106.out
             (first | subst eo21 | (injection eo21 with f1_ f2_ f3_; have f4_ := f1_.symm; have f5_ := f3_.symm; clear f1_ f2_ f3_; subst f4_; subst f5_))
             refine hK.out _ _ trivial (fun hHeld => ?_)
             clear hK K
             refine norm_ (a' := ?_) ?_ ?_
             rotate_left
             ·show Act.put _ (some 19) _ = _
              simp only [Act.put, List.setIfInBounds_toArray, List.set_cons_zero, List.set_cons_succ, i64_w, i32_w]
              rfl
             refine pure_ (i := 4) (N := some 20) (v := ?_) (a' := ?_) #[tT, tT, tT, tT, tT, tF, tF] rfl rfl (by kernel_rfl) (fun _ _ _ h => h) (Or.inl ⟨by rfl, ?_⟩) ?_ ?_
             rotate_left
             ·intro w'
              go_simp
              with_reducible rfl
             rotate_left
             ·simp only [Act.put, List.setIfInBounds_toArray, List.set_cons_zero, List.set_cons_succ, i64_w, i32_w]
              rfl
             exact norm_ (by first | (simp only [putAll, Act.put, List.setIfInBounds_toArray, List.set_cons_zero, List.set_cons_succ]; done) | (simp only [putAll, Act.put, List.setIfInBounds_toArray, List.set_cons_zero, List.set_cons_succ]; rfl)) (hJ1_3 (.slice Ao21 y104.length co21, .slice Ao20 y107.length co20) _ ⟨(rP HO106.out), (rP HO109.out), (kP BK101), bB⟩)
            skip
            refine box_step ?hg (N := 6) ?hd (cs := #[.slice none 0 0, .slice none 0 0]) (t := 25) ?hr ?_; (case hd => rfl); (case hg => rfl); (case hr => first | (go_simp; done) | (go_simp; rfl))
            intro gb110 hg w18 hbox hb
            have n_ := aI (rB HO106 hb) (aI (kB BK101 hb) (aI (sB HB hb) (aI (aM hbox) (aI (gE HB hg) (aI (gE HB hg) (aI (nL BK101 hg) (nG BK101 hg)))))))
            clear HO106 BK101 HB
            obtain ⟨HO106, BK101, HB, BK110, GW110, GE110, NB101_110, NB110_101⟩ := n_
            clear hb hbox hg
            refine hK.out _ _ trivial (fun hHeld => ?_)
            clear hK K
            refine norm_ (a' := ?_) ?_ ?_
            rotate_left
            ·show Act.put _ (some 6) _ = _
             simp only [Act.put, List.setIfInBounds_toArray, List.set_cons_zero, List.set_cons_succ, i64_w, i32_w]
             rfl
            exact norm_ (by first | (simp only [putAll, Act.put, List.setIfInBounds_toArray, List.set_cons_zero, List.set_cons_succ]; done) | (simp only [putAll, Act.put, List.setIfInBounds_toArray, List.set_cons_zero, List.set_cons_succ]; rfl)) (hJ1_5 (v105, gb110) _ ⟨(rP HO106.out), (kP BK101), (kP BK110), GW110.out, GE110.out, NB101_110.out, NB110_101.out, bB⟩)
           skip
           rintro ⟨v108, gb110⟩ w18 ⟨h0_, h1_, h2_, h3_, h4_, h5_, h6_, h7_⟩
           have n0_ : Aside0 (Kd.R Kd.string 9 w18 w.heap.size (fun _ => True) v108 y107) := ⟨h0_⟩
           have n1_ : Aside0 (w18.heap[gb101]? = some (.cells #[.slice none 0 0, .slice none 0 0] 25 (0, 0))) := ⟨h1_⟩
           have n2_ : Aside0 (w18.heap[gb110]? = some (.cells #[.slice none 0 0, .slice none 0 0] 25 (0, 0))) := ⟨h2_⟩
           have n3_ : Aside0 (w.heap.size ≤ gb110) := ⟨h3_⟩
           have n4_ : Aside0 (w.heap.size ≤ gb110) := ⟨h4_⟩
           have n5_ : Aside0 (gb101 ≠ gb110) := ⟨h5_⟩
           have n6_ : Aside0 (gb110 ≠ gb101) := ⟨h6_⟩
           have n7_ : Aside0 (Below w.heap.size w w18) := ⟨h7_⟩
           clear BK101
           clear HB
           clear h0_ h1_ h2_ h3_ h4_ h5_ h6_ h7_
           have HO109 := n0_
           have BK101 := n1_
           have BK110 := n2_
           have GW110 := n3_
           have GE110 := n4_
           have NB101_110 := n5_
           have NB110_101 := n6_
           have HB := n7_
           clear n0_ n1_ n2_ n3_ n4_ n5_ n6_ n7_
           have hHeld := trivial
           refine norm_ (a' := ?_) ?_ ?_
           rotate_left
           ·simp only [putAll, Act.put, List.setIfInBounds_toArray, List.set_cons_zero, List.set_cons_succ]
            rfl
           refine one_ (i := 1) (N := some 17) #[tT, tT, tT, tT, tF, tT, tF] rfl rfl (by kernel_rfl) (by decide) (fun K hK => ?_)
           refine Kd.R_make_step k33 _ 33 (by rfl) (N := 17) rfl 22 _ _ rfl a0 rfl rfl Try.underlying22 (.agg #[(.int .i64 0), (.int .i64 0), (.int .i64 0), (.int .i64 0), (.slice none 0 0)]) 56 info33 rfl (by decide) (by omega) z33 (ok := fun _ => True) (okp := fun _ => True) (k33_mkM _ _ _ z33 ) (fun _ hk => hk) trivial (dT) (Nat.le_trans (Nat.mul_le_mul_right _ (dT : a0.toNat ≤ 5026338869833)) (by omega)) (Below.refl _ _) (Nat.le_refl _) ?_
           intro v105 w19 ho20 hb hg_ hnew_
           clear hg_ hnew_
           (first | rw [← Ny104.out] at ho20 | (simp only [Int.reduceToNat] at ho20; rw [← Ny104.out] at ho20))
           have n_ := aI (rB HO109 hb) (aI (lR HB ho20) (aI (kB BK101 hb) (aI (kB BK110 hb) (sB HB hb))))
           clear HO109 BK101 BK110 HB
           obtain ⟨HO109, HO106, BK101, BK110, HB⟩ := n_
           clear hb ho20
           obtain ⟨Ao21, co21, eo21⟩ := Kd.R_slice HO109.out
           (first | subst eo21 | (injection eo21 with f1_ f2_ f3_; have f4_ := f1_.symm; have f5_ := f3_.symm; clear f1_ f2_ f3_; subst f4_; subst f5_))
           obtain ⟨Ao22, co22, eo22⟩ := Kd.R_slice HO106.out
           (first | subst eo22 | (injection eo22 with f1_ f2_ f3_; have f4_ := f1_.symm; have f5_ := f3_.symm; clear f1_ f2_ f3_; subst f4_; subst f5_))
           refine hK.out _ _ trivial (fun hHeld => ?_)
           clear hK K
           refine norm_ (a' := ?_) ?_ ?_
           rotate_left
           ·show Act.put _ (some 17) _ = _
            simp only [Act.put, List.setIfInBounds_toArray, List.set_cons_zero, List.set_cons_succ, i64_w, i32_w]
            rfl
           refine pure_ (i := 4) (N := some 20) (v := ?_) (a' := ?_) #[tT, tT, tT, tT, tT, tT, tF] rfl rfl (by kernel_rfl) (fun _ _ _ h => h) (Or.inl ⟨by rfl, ?_⟩) ?_ ?_
           rotate_left
           ·intro w'
            go_simp
            with_reducible rfl
           rotate_left
           ·simp only [Act.put, List.setIfInBounds_toArray, List.set_cons_zero, List.set_cons_succ, i64_w, i32_w]
            rfl
           exact norm_ (by first | (simp only [putAll, Act.put, List.setIfInBounds_toArray, List.set_cons_zero, List.set_cons_succ]; done) | (simp only [putAll, Act.put, List.setIfInBounds_toArray, List.set_cons_zero, List.set_cons_succ]; rfl)) (hJ1_3_5 (.slice Ao22 y104.length co22, .slice Ao21 y107.length co21, gb110) _ ⟨(rP HO106.out), (rP HO109.out), (kP BK101), (kP BK110), GW110.out, GE110.out, NB101_110.out, NB110_101.out, bB⟩)
          skip
          rintro ⟨v105, gb110⟩ w18 ⟨h0_, h1_, h2_, h3_, h4_, h5_, h6_, h7_⟩
          have n0_ : Aside0 (Kd.R k33 33 w18 w.heap.size (fun _ => True) v105 y104) := ⟨h0_⟩
          have n1_ : Aside0 (w18.heap[gb101]? = some (.cells #[.slice none 0 0, .slice none 0 0] 25 (0, 0))) := ⟨h1_⟩
          have n2_ : Aside0 (w18.heap[gb110]? = some (.cells #[.slice none 0 0, .slice none 0 0] 25 (0, 0))) := ⟨h2_⟩
          have n3_ : Aside0 (w.heap.size ≤ gb110) := ⟨h3_⟩
          have n4_ : Aside0 (w.heap.size ≤ gb110) := ⟨h4_⟩
          have n5_ : Aside0 (gb101 ≠ gb110) := ⟨h5_⟩
          have n6_ : Aside0 (gb110 ≠ gb101) := ⟨h6_⟩
          have n7_ : Aside0 (Below w.heap.size w w18) := ⟨h7_⟩
          clear BK101
          clear HB
          clear h0_ h1_ h2_ h3_ h4_ h5_ h6_ h7_
          have HO106 := n0_
          have BK101 := n1_
          have BK110 := n2_
          have GW110 := n3_
          have GE110 := n4_
          have NB101_110 := n5_
          have NB110_101 := n6_
          have HB := n7_
          clear n0_ n1_ n2_ n3_ n4_ n5_ n6_ n7_
          have hHeld := trivial
          refine norm_ (a' := ?_) ?_ ?_
          rotate_left
          ·simp only [putAll, Act.put, List.setIfInBounds_toArray, List.set_cons_zero, List.set_cons_succ]
           rfl
          refine one_ (i := 3) (N := some 19) #[tT, tT, tT, tT, tF, tT, tF] rfl rfl (by kernel_rfl) (by decide) (fun K hK => ?_)
          refine Kd.R_make_step Kd.string _ 9 (by rfl) (N := 19) rfl 23 _ _ rfl a1 rfl rfl Try.underlying23 (.string ⟨#[]⟩) 16 info9 rfl (by decide) (by omega) (⟨#[]⟩ : ByteArray) (ok := fun _ => True) (okp := fun _ => True) rfl (fun _ hk => hk) trivial (dT) (Nat.le_trans (Nat.mul_le_mul_right _ (dT : a1.toNat ≤ 17592186044416)) (by omega)) (Below.refl _ _) (Nat.le_refl _) ?_
          intro v108 w19 ho20 hb hg_ hnew_
          clear hg_ hnew_
          (first | rw [← Ny107.out] at ho20 | (simp only [Int.reduceToNat] at ho20; rw [← Ny107.out] at ho20))
          have n_ := aI (rB HO106 hb) (aI (lR HB ho20) (aI (kB BK101 hb) (aI (kB BK110 hb) (sB HB hb))))
          clear HO106 BK101 BK110 HB
          obtain ⟨HO106, HO109, BK101, BK110, HB⟩ := n_
          clear hb ho20
          obtain ⟨Ao21, co21, eo21⟩ := Kd.R_slice HO109.out
          (first | subst eo21 | (injection eo21 with f1_ f2_ f3_; have f4_ := f1_.symm; have f5_ := f3_.symm; clear f1_ f2_ f3_; subst f4_; subst f5_))
          obtain ⟨Ao22, co22, eo22⟩ := Kd.R_slice HO106.out
          (first | subst eo22 | (injection eo22 with f1_ f2_ f3_; have f4_ := f1_.symm; have f5_ := f3_.symm; clear f1_ f2_ f3_; subst f4_; subst f5_))
          refine hK.out _ _ trivial (fun hHeld => ?_)
          clear hK K
          refine norm_ (a' := ?_) ?_ ?_
          rotate_left
          ·show Act.put _ (some 19) _ = _
           simp only [Act.put, List.setIfInBounds_toArray, List.set_cons_zero, List.set_cons_succ, i64_w, i32_w]
           rfl
          refine pure_ (i := 4) (N := some 20) (v := ?_) (a' := ?_) #[tT, tT, tT, tT, tT, tT, tF] rfl rfl (by kernel_rfl) (fun _ _ _ h => h) (Or.inl ⟨by rfl, ?_⟩) ?_ ?_
          rotate_left
          ·intro w'
           go_simp
           with_reducible rfl
          rotate_left
          ·simp only [Act.put, List.setIfInBounds_toArray, List.set_cons_zero, List.set_cons_succ, i64_w, i32_w]
           rfl
          exact norm_ (by first | (simp only [putAll, Act.put, List.setIfInBounds_toArray, List.set_cons_zero, List.set_cons_succ]; done) | (simp only [putAll, Act.put, List.setIfInBounds_toArray, List.set_cons_zero, List.set_cons_succ]; rfl)) (hJ1_3_5 (.slice Ao22 y104.length co22, .slice Ao21 y107.length co21, gb110) _ ⟨(rP HO106.out), (rP HO109.out), (kP BK101), (kP BK110), GW110.out, GE110.out, NB101_110.out, NB110_101.out, bB⟩)
         skip
         rintro ⟨v105, v108⟩ w21 ⟨h0_, h1_, h2_, h3_⟩
         have n0_ : Aside0 (Kd.R k33 33 w21 w.heap.size (fun _ => True) v105 y104) := ⟨h0_⟩
         have n1_ : Aside0 (Kd.R Kd.string 9 w21 w.heap.size (fun _ => True) v108 y107) := ⟨h1_⟩
         have n2_ : Aside0 (w21.heap[gb101]? = some (.cells #[.slice none 0 0, .slice none 0 0] 25 (0, 0))) := ⟨h2_⟩
         have n3_ : Aside0 (Below w.heap.size w w21) := ⟨h3_⟩
         clear BK101
         clear HB
         clear h0_ h1_ h2_ h3_
         have HO106 := n0_
         have HO109 := n1_
         have BK101 := n2_
         have HB := n3_
         clear n0_ n1_ n2_ n3_
         have hHeld := trivial
         obtain ⟨Ao22, co22, eo22⟩ := Kd.R_slice HO109.out
         (first | subst eo22 | (injection eo22 with f1_ f2_ f3_; have f4_ := f1_.symm; have f5_ := f3_.symm; clear f1_ f2_ f3_; subst f4_; subst f5_))
         obtain ⟨Ao23, co23, eo23⟩ := Kd.R_slice HO106.out
         (first | subst eo23 | (injection eo23 with f1_ f2_ f3_; have f4_ := f1_.symm; have f5_ := f3_.symm; clear f1_ f2_ f3_; subst f4_; subst f5_))
         refine norm_ (a' := ?_) ?_ ?_
         rotate_left
         ·simp only [putAll, Act.put, List.setIfInBounds_toArray, List.set_cons_zero, List.set_cons_succ]
          rfl
         refine one_ (i := 5) (N := some 6) #[tT, tT, tT, tT, tT, tT, tF] rfl rfl (by kernel_rfl) (by decide) (fun K hK => ?_)
         refine box_step ?hg (N := 6) ?hd (cs := #[.slice none 0 0, .slice none 0 0]) (t := 25) ?hr ?_; (case hd => rfl); (case hg => rfl); (case hr => first | (go_simp; done) | (go_simp; rfl))
         intro gb110 hg w24 hbox hb
         have n_ := aI (rB HO106 hb) (aI (rB HO109 hb) (aI (kB BK101 hb) (aI (sB HB hb) (aI (aM hbox) (aI (gE HB hg) (aI (gE HB hg) (aI (nL BK101 hg) (nG BK101 hg))))))))
         clear HO106 HO109 BK101 HB
         obtain ⟨HO106, HO109, BK101, HB, BK110, GW110, GE110, NB101_110, NB110_101⟩ := n_
         clear hb hbox hg
         refine hK.out _ _ trivial (fun hHeld => ?_)
         clear hK K
         refine norm_ (a' := ?_) ?_ ?_
         rotate_left
         ·show Act.put _ (some 6) _ = _
          simp only [Act.put, List.setIfInBounds_toArray, List.set_cons_zero, List.set_cons_succ, i64_w, i32_w]
          rfl
         exact norm_ (by first | (simp only [putAll, Act.put, List.setIfInBounds_toArray, List.set_cons_zero, List.set_cons_succ]; done) | (simp only [putAll, Act.put, List.setIfInBounds_toArray, List.set_cons_zero, List.set_cons_succ]; rfl)) (hJ1_3_5 (.slice Ao23 y104.length co23, .slice Ao22 y107.length co22, gb110) _ ⟨(rP HO106.out), (rP HO109.out), (kP BK101), (kP BK110), GW110.out, GE110.out, NB101_110.out, NB110_101.out, bB⟩)
        rintro ⟨v105, v108, gb110⟩ w22 ⟨h0_, h1_, h2_, h3_, h4_, h5_, h6_, h7_, h8_⟩
        have n0_ : Aside0 (Kd.R k33 33 w22 w.heap.size (fun _ => True) v105 y104) := ⟨h0_⟩
        have n1_ : Aside0 (Kd.R Kd.string 9 w22 w.heap.size (fun _ => True) v108 y107) := ⟨h1_⟩
        have n2_ : Aside0 (w22.heap[gb101]? = some (.cells #[.slice none 0 0, .slice none 0 0] 25 (0, 0))) := ⟨h2_⟩
        have n3_ : Aside0 (w22.heap[gb110]? = some (.cells #[.slice none 0 0, .slice none 0 0] 25 (0, 0))) := ⟨h3_⟩
        have n4_ : Aside0 (w.heap.size ≤ gb110) := ⟨h4_⟩
        have n5_ : Aside0 (w.heap.size ≤ gb110) := ⟨h5_⟩
        have n6_ : Aside0 (gb101 ≠ gb110) := ⟨h6_⟩
        have n7_ : Aside0 (gb110 ≠ gb101) := ⟨h7_⟩
        have n8_ : Aside0 (Below w.heap.size w w22) := ⟨h8_⟩
        clear BK101
        clear HB
        clear h0_ h1_ h2_ h3_ h4_ h5_ h6_ h7_ h8_
        have HO106 := n0_
        have HO109 := n1_
        have BK101 := n2_
        have BK110 := n3_
        have GW110 := n4_
        have GE110 := n5_
        have NB101_110 := n6_
        have NB110_101 := n7_
        have HB := n8_
        clear n0_ n1_ n2_ n3_ n4_ n5_ n6_ n7_ n8_
        have hHeld := trivial
        obtain ⟨Ao23, co23, eo23⟩ := Kd.R_slice HO109.out
        (first | subst eo23 | (injection eo23 with f1_ f2_ f3_; have f4_ := f1_.symm; have f5_ := f3_.symm; clear f1_ f2_ f3_; subst f4_; subst f5_))
        obtain ⟨Ao24, co24, eo24⟩ := Kd.R_slice HO106.out
        (first | subst eo24 | (injection eo24 with f1_ f2_ f3_; have f4_ := f1_.symm; have f5_ := f3_.symm; clear f1_ f2_ f3_; subst f4_; subst f5_))
        refine norm_ (a' := ?_) ?_ ?_
        rotate_left
        ·simp only [putAll, Act.put, List.setIfInBounds_toArray, List.set_cons_zero, List.set_cons_succ]
         rfl
        refine one_ (i := 6) (N := none) #[tT, tT, tT, tT, tT, tT, tT] rfl rfl (by kernel_rfl) (by decide) (fun K hK => ?_)
        have hs25 : w22.cell? ⟨gb110, 0, none⟩ = some (.slice none 0 0) := (blk_cell BK110.out 0).trans rfl
        have hfs25 := blk_frozen BK110.out 0
        have hns25_0 := NB101_110.out
        have hms25_0 := NB110_101.out
        have hs26 : w22.cell? ⟨gb110, 1, none⟩ = some (.slice none 0 0) := (blk_cell BK110.out 1).trans rfl
        have hfs26 := blk_frozen BK110.out 1
        have hns26_0 := NB101_110.out
        have hms26_0 := NB110_101.out
        refine skip_ (w1 := ?_) (by rfl) rfl ?_ ?_
        rotate_left
        ·go_simp
         rfl
        refine hK.out _ _ trivial (fun hHeld => ?_)
        clear hK K
        refine done_ (by kernel_rfl) ?_
        have n0_ : Aside0 (Kd.R k33 33 ((w22.setCell ⟨gb110, 0, none⟩ (.slice Ao24 y104.length co24)).setCell ⟨gb110, 1, none⟩ (.slice Ao23 y107.length co23)) w.heap.size (fun _ => True) (.slice Ao24 y104.length co24) y104) := ⟨rP (Kd.R_mono (Kd.R_far (p := ⟨gb110, 1, none⟩) (Kd.R_far (p := ⟨gb110, 0, none⟩) (Kd.R_types HO106.out BK110.out (by decide)) (fun _ hk => hk.2) (.slice Ao24 y104.length co24)) (fun _ hk => hk.2) (.slice Ao23 y107.length co23)) (fun _ hk => trivial))⟩
        have n1_ : Aside0 (Kd.R Kd.string 9 ((w22.setCell ⟨gb110, 0, none⟩ (.slice Ao24 y104.length co24)).setCell ⟨gb110, 1, none⟩ (.slice Ao23 y107.length co23)) w.heap.size (fun _ => True) (.slice Ao23 y107.length co23) y107) := ⟨rP (Kd.R_mono (Kd.R_far (p := ⟨gb110, 1, none⟩) (Kd.R_far (p := ⟨gb110, 0, none⟩) (Kd.R_types HO109.out BK110.out (by decide)) (fun _ hk => hk.2) (.slice Ao24 y104.length co24)) (fun _ hk => hk.2) (.slice Ao23 y107.length co23)) (fun _ hk => trivial))⟩
        have n2_ : Aside0 (((w22.setCell ⟨gb110, 0, none⟩ (.slice Ao24 y104.length co24)).setCell ⟨gb110, 1, none⟩ (.slice Ao23 y107.length co23)).heap[gb101]? = some (.cells #[.slice none 0 0, .slice none 0 0] 25 (0, 0))) := ⟨kP BK101⟩
        have n3_ : Aside0 (((w22.setCell ⟨gb110, 0, none⟩ (.slice Ao24 y104.length co24)).setCell ⟨gb110, 1, none⟩ (.slice Ao23 y107.length co23)).heap[gb110]? = some (.cells #[.slice Ao24 y104.length co24, .slice Ao23 y107.length co23] 25 (0, 0))) := ⟨by (with_reducible repeat (first | apply bN | apply bD | apply bA)); refine blk_put (cs := #[.slice Ao24 y104.length co24, .slice none 0 0]) ?_ 1 _ rfl; (with_reducible repeat (first | apply bN | apply bD | apply bA)); refine blk_put (cs := #[.slice none 0 0, .slice none 0 0]) ?_ 0 _ rfl; (with_reducible repeat (first | apply bN | apply bD | apply bA)); exact BK110.out⟩
        have n4_ : Aside0 (Below w.heap.size w ((w22.setCell ⟨gb110, 0, none⟩ (.slice Ao24 y104.length co24)).setCell ⟨gb110, 1, none⟩ (.slice Ao23 y107.length co23))) := ⟨bB⟩
        (try clear HO106)
        (try clear HO109)
        (try clear BK101)
        (try clear BK110)
        (try clear HB)
        generalize ((w22.setCell ⟨gb110, 0, none⟩ (.slice Ao24 y104.length co24)).setCell ⟨gb110, 1, none⟩ (.slice Ao23 y107.length co23)) = w27 at n0_ n1_ n2_ n3_ n4_ ⊢
        have HO106 := n0_
        have HO109 := n1_
        have BK101 := n2_
        have BK110 := n3_
        have HB := n4_
        clear n0_ n1_ n2_ n3_ n4_
        have hnb28 := NB110_101.out
        have hnc28 := NB101_110.out
        have hcz29_0 := cZ0 BK110
        have hcz29_1 := cZ1 BK110
        have hfz29_0 := fZ BK110 0
        have hfz29_1 := fZ BK110 1
        have p12 : 0 ≤ (0 : Int) := (by omega)
        have q12 : (0 : Int) < ((y104.length : Int) : Int) := dT
        have qi12 : (0 < y104.length) = True := eq_true (by omega)
        obtain ⟨go12, co12, eo12, gb12, gl12, cl12, HG12⟩ := Kd.R_form HO106.out (by omega)
        (first | cases eo12 | (injection eo12 with ea_ en_ ec_; (first | subst ea_ | (injection ea_ with ea_; subst ea_)); subst ec_; clear en_))
        have GB12 := aM gb12
        have GG12 := aM HG12
        clear gb12 gl12 HG12
        obtain ⟨ce12, hcl12, hM12, hcc12, hfr12⟩ := Kd.R_elem HO106.out z33 (0 : Int) p12 q12
        obtain rfl := k33_openM hM12
        have hx12_0 : w27.cell? ⟨go12, (0 : Int).toNat * 5, none⟩ = some (.int .i64 ((rd_T33 y104 0).f0)) := hcc12 0 _ rfl
        have hx12_1 : w27.cell? ⟨go12, (0 : Int).toNat * 5 + 1, none⟩ = some (.int .i64 ((rd_T33 y104 0).f1)) := hcc12 1 _ rfl
        have hx12_2 : w27.cell? ⟨go12, (0 : Int).toNat * 5 + 2, none⟩ = some (.int .i64 ((rd_T33 y104 0).f2)) := hcc12 2 _ rfl
        have hx12_3 : w27.cell? ⟨go12, (0 : Int).toNat * 5 + 3, none⟩ = some (.int .i64 ((rd_T33 y104 0).f3)) := hcc12 3 _ rfl
        have hx12_4 : w27.cell? ⟨go12, (0 : Int).toNat * 5 + 4, none⟩ = some (.slice none 0 0) := hcc12 4 _ rfl
        have hf12_0 : w27.frozen? ⟨go12, (0 : Int).toNat * 5, none⟩ = false := hfr12 0
        have hf12_1 : w27.frozen? ⟨go12, (0 : Int).toNat * 5 + 1, none⟩ = false := hfr12 1
        have hf12_2 : w27.frozen? ⟨go12, (0 : Int).toNat * 5 + 2, none⟩ = false := hfr12 2
        have hf12_3 : w27.frozen? ⟨go12, (0 : Int).toNat * 5 + 3, none⟩ = false := hfr12 3
        have hf12_4 : w27.frozen? ⟨go12, (0 : Int).toNat * 5 + 4, none⟩ = false := hfr12 4
        clear hcl12 hcc12 hfr12 hM12
        (try rw [show ((0 : Int)).toNat = 0 from rfl] at hx12_0)
        (try simp only [Nat.reduceMul, Nat.zero_mul, Nat.zero_add, Nat.reduceAdd] at hx12_0)
        (try rw [show ((0 : Int)).toNat = 0 from rfl] at hf12_0)
        (try simp only [Nat.reduceMul, Nat.zero_mul, Nat.zero_add, Nat.reduceAdd] at hf12_0)
        (try rw [show ((0 : Int)).toNat = 0 from rfl] at hx12_1)
        (try simp only [Nat.reduceMul, Nat.zero_mul, Nat.zero_add, Nat.reduceAdd] at hx12_1)
        (try rw [show ((0 : Int)).toNat = 0 from rfl] at hf12_1)
        (try simp only [Nat.reduceMul, Nat.zero_mul, Nat.zero_add, Nat.reduceAdd] at hf12_1)
        (try rw [show ((0 : Int)).toNat = 0 from rfl] at hx12_2)
        (try simp only [Nat.reduceMul, Nat.zero_mul, Nat.zero_add, Nat.reduceAdd] at hx12_2)
        (try rw [show ((0 : Int)).toNat = 0 from rfl] at hf12_2)
        (try simp only [Nat.reduceMul, Nat.zero_mul, Nat.zero_add, Nat.reduceAdd] at hf12_2)
        (try rw [show ((0 : Int)).toNat = 0 from rfl] at hx12_3)
        (try simp only [Nat.reduceMul, Nat.zero_mul, Nat.zero_add, Nat.reduceAdd] at hx12_3)
        (try rw [show ((0 : Int)).toNat = 0 from rfl] at hf12_3)
        (try simp only [Nat.reduceMul, Nat.zero_mul, Nat.zero_add, Nat.reduceAdd] at hf12_3)
        (try rw [show ((0 : Int)).toNat = 0 from rfl] at hx12_4)
        (try simp only [Nat.reduceMul, Nat.zero_mul, Nat.zero_add, Nat.reduceAdd] at hx12_4)
        (try rw [show ((0 : Int)).toNat = 0 from rfl] at hf12_4)
        (try simp only [Nat.reduceMul, Nat.zero_mul, Nat.zero_add, Nat.reduceAdd] at hf12_4)
        replace p12 := eq_true p12
        replace q12 := eq_true q12
        have HX30 := aM (show Kd.R k33 33 w27 w.heap.size (fun _ => True) (.slice (some ⟨go12, 0, none⟩) y104.length co24) y104 from (rP HO106.out))
        obtain ⟨ce30, hcl30, hM30, hcc30, hfr30⟩ := Kd.R_elem HX30.out z33 (0 : Int) (by omega) (by have h_ : (0 : Int) < ((y104.length : Int) : Int) := dT; first | exact h_ | (have e_ := (Kd.R_reads' HO106.out).1; omega) | simpa using h_)
        obtain rfl := k33_openM hM30
        have HP30 := Kd.R_seg HX30.out (0 : Int) (by omega) (by have h_ : (0 : Int) < ((y104.length : Int) : Int) := dT; first | exact h_ | (have e_ := (Kd.R_reads' HO106.out).1; omega) | simpa using h_) (seg := [.int .i64 2]) (j := 0) hcl30 hcc30 (show 1 ≤ 5 from by decide) (x' := (⟨2, (rd_T33 y104 0).f1, (rd_T33 y104 0).f2, (rd_T33 y104 0).f3, (rd_T33 y104 0).f4⟩ : S33)) (k33_mkM _ _ _ (⟨2, (rd_T33 y104 0).f1, (rd_T33 y104 0).f2, (rd_T33 y104 0).f3, (rd_T33 y104 0).f4⟩ : S33) ) (fun _ hk => hk)
        have hx30_0 := hcc30 0 _ rfl
        (try simp only [show (k33).sz = 5 from rfl, Nat.mul_one, Nat.add_zero] at hx30_0)
        (try rw [show ((0 : Int)).toNat = 0 from rfl] at hx30_0)
        (try simp only [Nat.reduceMul, Nat.zero_mul, Nat.zero_add, Nat.reduceAdd] at hx30_0)
        have hf30_0 := hfr30 0
        (try simp only [show (k33).sz = 5 from rfl, Nat.mul_one, Nat.add_zero] at hf30_0)
        (try rw [show ((0 : Int)).toNat = 0 from rfl] at hf30_0)
        (try simp only [Nat.reduceMul, Nat.zero_mul, Nat.zero_add, Nat.reduceAdd] at hf30_0)
        clear hcl30 hcc30 hfr30 hM30
        try go_wp2_with (first | ((with_reducible refine gate_store (t := 3) (p := 24) rfl ?_); refine store_event (t := 3) (p := 24) (v := ?vo_w31) (w1 := (w27.setCell ⟨go12, 0, none⟩ (.int .i64 2))) ?hg ?ho ?hn ?hr ?_; (case ho => rfl); (case hg => rfl); (case hn => rfl); (case hr => first | (go_simp; done) | (go_simp; rfl)); intro w31 hw; have hg : w27.grownBy w31 (some go12) := (by rw [hw]; exact HP30.2); have hp_ : Kd.R k33 33 w31 w.heap.size (fun _ => True) (.slice (some ⟨go12, 0, none⟩) y104.length co24) y111 := (by rw [hw, Ny111.out]; exact HP30.1); clear HP30; have n_ := aI (aM (blk_grown (g := gb101) (o := .cells #[.slice none 0 0, .slice none 0 0] 25 (0, 0)) (kP BK101) hg (Kd.R_ne HO106.out BK101.out (by decide)))) (aI (aM (hp_)) (aI (aM (Kd.R_over' (v := (.slice (some ⟨go12, 0, none⟩) y104.length co24)) (rP HO109.out) (Kd.R_typed HO106.out) (by decide) hg)) (aI (aM (blk_grown (g := gb110) (o := .cells #[.slice (some ⟨go12, 0, none⟩) y104.length co24, .slice Ao23 y107.length co23] 25 (0, 0)) (kP BK110) hg (Kd.R_ne HO106.out BK110.out (by decide)))) (aM ((by rw [hw]; exact below_set (HB.out) GB12.out : Below w.heap.size w w31)))))); clear BK101 HO106 HO109 BK110 HB; obtain ⟨BK101, HO106, HO109, BK110, HB⟩ := n_; (try clear hw); have hcz32_0 := cZ0 BK110; have hcz32_1 := cZ1 BK110; have hfz32_0 := fZ BK110 0; have hfz32_1 := fZ BK110 1; have hcz33_0 := cZ0 BK101; have hcz33_1 := cZ1 BK101; have hfz33_0 := fZ BK101 0; have hfz33_1 := fZ BK101 1))
        refine bodyPost_ret (results_ct rfl _ _ gb101 25 #[.slice (some ⟨go12, 0, none⟩) y104.length co24, .slice Ao23 y107.length co23] (0, 0) _ rfl (by (with_reducible repeat (first | apply bN | apply bD | apply bA)); refine blk_put (cs := #[.slice (some ⟨go12, 0, none⟩) y104.length co24, .slice none 0 0]) ?_ 1 _ rfl; (with_reducible repeat (first | apply bN | apply bD | apply bA)); refine blk_put (cs := #[.slice none 0 0, .slice none 0 0]) ?_ 0 _ rfl; (with_reducible repeat (first | apply bN | apply bD | apply bA)); exact BK101.out) Try.underlying25 rfl (by kernel_rfl)) rfl ?_
        exact ⟨_, _, eW, by (with_reducible repeat (first | apply Kd.R_alloc | apply Kd.R_drewN | apply Kd.R_drew)); exact Kd.R_mono (Kd.R_far (p := ⟨gb101, 1, none⟩) (Kd.R_far (p := ⟨gb101, 0, none⟩) (Kd.R_types HO106.out BK101.out (by decide)) (fun _ hk => hk.2) (.slice (some ⟨go12, 0, none⟩) y104.length co24)) (fun _ hk => hk.2) (.slice Ao23 y107.length co23)) (fun _ hk => trivial), by (with_reducible repeat (first | apply Kd.R_alloc | apply Kd.R_drewN | apply Kd.R_drew)); exact Kd.R_mono (Kd.R_far (p := ⟨gb101, 1, none⟩) (Kd.R_far (p := ⟨gb101, 0, none⟩) (Kd.R_types HO109.out BK101.out (by decide)) (fun _ hk => hk.2) (.slice (some ⟨go12, 0, none⟩) y104.length co24)) (fun _ hk => hk.2) (.slice Ao23 y107.length co23)) (fun _ hk => trivial), bB⟩
       rw [if_neg c11] at H
       exact absurd H (by simp)
      rw [if_neg c10] at H
      exact absurd H (by simp)
     rw [if_neg c9] at H
     exact absurd H (by simp)
    rw [if_neg c8] at H
    exact absurd H (by simp)
   rw [if_neg c7] at H
   exact absurd H (by simp)
  replace c6 := Bool.eq_false_iff.mpr c6
  subst c6
  rw [if_neg (show ¬ (false = true) by decide)] at H
  simp only [Option.some.injEq, Prod.mk.injEq] at H
  obtain ⟨rfl, rfl, rfl⟩ := H
  go_enter Try.func6, Try.ntmps6
  go_wp2_with (first | ((with_reducible refine gate_dst (N := 4) rfl ?_); refine bE 4 #[.slice none 0 0, .slice none 0 0] 25 ?_; intro gb101 hg w34 hbox hb; have n_ := aI (sB HB hb) (aI (aM hbox) (aI (gE HB hg) (gE HB hg))); clear HB; obtain ⟨HB, BK101, GW101, GE101⟩ := n_; (try clear hb hbox hg)) | ((with_reducible refine gate_callee (f := 23) rfl ?_); refine gL (some 8) Try.func23 #[.int .i64 a0, .int .i64 2, .int .i64 10] ?_; (with_reducible refine (spec_l1In.calls a0 2 10 true _ A3.out).mono ?_); rintro e w' ⟨rfl, ⟨nd, rfl⟩⟩; refine ⟨_, rfl, ?_⟩; (try (rw [drewN_self w34]; generalize hq_ : World.drewN w34 _ = w34; have n0_ : Aside0 (w34.heap[gb101]? = some (.cells #[.slice none 0 0, .slice none 0 0] 25 (0, 0))) := ⟨by rw [← hq_]; exact (kP BK101)⟩; have n1_ : Aside0 (Below w.heap.size w w34) := ⟨by rw [← hq_]; exact bB⟩; clear BK101 HB hq_; have BK101 := n0_; have HB := n1_; clear n0_ n1_))) | (go_at_call 23; (with_reducible refine (spec_l1In.calls a1 1 36 false _ A5.out).mono ?_); rintro e w' ⟨rfl, ⟨nd, rfl⟩⟩; (try (rw [drewN_self w34]; generalize hq_ : World.drewN w34 _ = w34; have n0_ : Aside0 (w34.heap[gb101]? = some (.cells #[.slice none 0 0, .slice none 0 0] 25 (0, 0))) := ⟨by rw [← hq_]; exact (kP BK101)⟩; have n1_ : Aside0 (Below w.heap.size w w34) := ⟨by rw [← hq_]; exact bB⟩; clear BK101 HB hq_; have BK101 := n0_; have HB := n1_; clear n0_ n1_)); have hcz35_0 := cZ0 BK101; have hcz35_1 := cZ1 BK101; have hfz35_0 := fZ BK101 0; have hfz35_1 := fZ BK101 1))
  refine bodyPost_ret (results_ct rfl _ _ gb101 25 #[.slice none 0 0, .slice none 0 0] (0, 0) _ rfl (by (with_reducible repeat (first | apply bN | apply bD | apply bA)); refine blk_put (cs := #[.slice none 0 0, .slice none 0 0]) ?_ 1 _ rfl; (with_reducible repeat (first | apply bN | apply bD | apply bA)); refine blk_put (cs := #[.slice none 0 0, .slice none 0 0]) ?_ 0 _ rfl; (with_reducible repeat (first | apply bN | apply bD | apply bA)); exact BK101.out) Try.underlying25 rfl (by kernel_rfl)) rfl ?_
  exact ⟨_, _, eW, by first | exact Kd.R_nil _ _ _ _ _ | exact Kd.N_nil _ _ _ _ _ | exact Kd.V_nil _ _ _ _ _ | exact Kd.Q_nil _ _ _ _ _ | exact Kd.S_nil _ _ _ _ _, by first | exact Kd.R_nil _ _ _ _ _ | exact Kd.N_nil _ _ _ _ _ | exact Kd.V_nil _ _ _ _ _ | exact Kd.Q_nil _ _ _ _ _ | exact Kd.S_nil _ _ _ _ _, bB⟩
 replace c4 := Bool.eq_false_iff.mpr c4
 subst c4
 rw [if_neg (show ¬ (false = true) by decide)] at H
 simp only [Option.some.injEq, Prod.mk.injEq] at H
 obtain ⟨rfl, rfl, rfl⟩ := H
 go_enter Try.func6, Try.ntmps6
 go_wp2_with (first | ((with_reducible refine gate_dst (N := 4) rfl ?_); refine bE 4 #[.slice none 0 0, .slice none 0 0] 25 ?_; intro gb101 hg w36 hbox hb; have n_ := aI (sB HB hb) (aI (aM hbox) (aI (gE HB hg) (gE HB hg))); clear HB; obtain ⟨HB, BK101, GW101, GE101⟩ := n_; (try clear hb hbox hg)) | ((with_reducible refine gate_callee (f := 23) rfl ?_); refine gL (some 8) Try.func23 #[.int .i64 a0, .int .i64 2, .int .i64 10] ?_; (with_reducible refine (spec_l1In.calls a0 2 10 false _ A3.out).mono ?_); rintro e w' ⟨rfl, ⟨nd, rfl⟩⟩; refine ⟨_, rfl, ?_⟩; (try (rw [drewN_self w36]; generalize hq_ : World.drewN w36 _ = w36; have n0_ : Aside0 (w36.heap[gb101]? = some (.cells #[.slice none 0 0, .slice none 0 0] 25 (0, 0))) := ⟨by rw [← hq_]; exact (kP BK101)⟩; have n1_ : Aside0 (Below w.heap.size w w36) := ⟨by rw [← hq_]; exact bB⟩; clear BK101 HB hq_; have BK101 := n0_; have HB := n1_; clear n0_ n1_)); have hcz37_0 := cZ0 BK101; have hcz37_1 := cZ1 BK101; have hfz37_0 := fZ BK101 0; have hfz37_1 := fZ BK101 1))
 refine bodyPost_ret (results_ct rfl _ _ gb101 25 #[.slice none 0 0, .slice none 0 0] (0, 0) _ rfl (by (with_reducible repeat (first | apply bN | apply bD | apply bA)); refine blk_put (cs := #[.slice none 0 0, .slice none 0 0]) ?_ 1 _ rfl; (with_reducible repeat (first | apply bN | apply bD | apply bA)); refine blk_put (cs := #[.slice none 0 0, .slice none 0 0]) ?_ 0 _ rfl; (with_reducible repeat (first | apply bN | apply bD | apply bA)); exact BK101.out) Try.underlying25 rfl (by kernel_rfl)) rfl ?_
 exact ⟨_, _, eW, by first | exact Kd.R_nil _ _ _ _ _ | exact Kd.N_nil _ _ _ _ _ | exact Kd.V_nil _ _ _ _ _ | exact Kd.Q_nil _ _ _ _ _ | exact Kd.S_nil _ _ _ _ _, by first | exact Kd.R_nil _ _ _ _ _ | exact Kd.N_nil _ _ _ _ _ | exact Kd.V_nil _ _ _ _ _ | exact Kd.Q_nil _ _ _ _ _ | exact Kd.S_nil _ _ _ _ _, bB⟩

/-! ### impl_within: function 24 -/
def impl_within.f (a0 : Int) (a1 : Int) (a2 : Int) : Option (Bool) := if a0 ≥ a1 then (some (decide (a0 ≤ a2))) else (some false)
set_option maxHeartbeats 8000000 in
set_option maxRecDepth 100000 in
theorem impl_within.calls (a0 : Int) (a1 : Int) (a2 : Int) (r : Bool) (w : World) (h : impl_within.f a0 a1 a2 = some r) :
  Calls Try.prog 24 #[.int .i64 a0, .int .i64 a1, .int .i64 a2] w fun e w' => e = .returned (.bool r) ∧ Drawn0 w w' := by
 unfold impl_within.f at h
 have H := h
 clear h
 by_cases c4 : a0 ≥ a1
 ·rw [if_pos c4] at H
  have c4b0 : decide (a1 ≤ a0) = true := decide_eq_true c4
  clear c4
  obtain rfl := Option.some.inj H
  go_enter Try.func24, Try.ntmps24
  go_wp2
  go_ret
  exact ⟨by first | rfl | (simp; done) | (simp [*]; done), by repeat (first | exact Drawn0.refl _ | apply Drawn0.step)⟩
 rw [if_neg c4] at H
 have c4b0 : decide (a1 ≤ a0) = false := decide_eq_false c4
 clear c4
 obtain rfl := Option.some.inj H
 go_enter Try.func24, Try.ntmps24
 go_wp2
 go_ret
 exact ⟨by first | rfl | (simp; done) | (simp [*]; done), by repeat (first | exact Drawn0.refl _ | apply Drawn0.step)⟩

end Go.Proofs.Ytadfimhielcmmaa.PFnExactFsNew
