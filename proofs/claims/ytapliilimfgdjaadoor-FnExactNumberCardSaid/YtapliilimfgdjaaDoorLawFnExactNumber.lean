/- The law of Number answers true for every string, and the tied card of it. Conditions: none but those of the card (three tables and two errors stand as the program's text lays them). -/
import Derived.Test.YtapliilimfgdjaaDoorCards
import Derived.Test.YtapliilimfgdjaaDoorTie
import Derived.Test.YtapliilimfgdjaaDoorWalkFnExactNumber
import Derived.Test.YtapliilimfgdjaaDoorPureFnExactNumber
import Derived.WalkKit
import Derived.ProofKit
import Derived.OpenShut
import Derived.LaidLaws
import Derived.Handed
import Derived.Lib.LaidTab
import Derived.SevenTiedAt
namespace Go.Proofs.YtapliilimfgdjaaDoor.Number
open Go Go.ChangeShapes Go.WideShapes Go.ChangeAt Go.RowKit Go.Proofs.YtapliilimfgdjaaDoor.Digits
open Go.ChangeMaps (open_string shut_string)
set_option linter.unusedVariables false
set_option linter.unusedSimpArgs false
theorem own : ownKnob Tryd.prog.godebug = none := by kernel_rfl
theorem tabType : (Tryd.prog.globals[2]?).map (·.type) = some 56 := by kernel_rfl
theorem tabEach : Tryd.prog.cellsOf 42 = 1 := by kernel_rfl
theorem tabAll : Tryd.prog.cellsOf 56 = 20 := by kernel_rfl
theorem errType0 : (Tryd.prog.globals[0]?).map (·.type) = some 29 := by kernel_rfl
theorem errType1 : (Tryd.prog.globals[1]?).map (·.type) = some 29 := by kernel_rfl
theorem laid_of {W : World} (h : laidMet Tryd.prog Rows.fnExactNumberRow.laid W) : Laid W := by
  obtain ⟨ps, ⟨_, _, _, _, _, _, _, _, _, _, ⟨_, _, _, _, _, _, _, _, _, _, ⟨g, t, cs, fuel, p, q, hg, ht, hvar, hd, ⟨g1, t1, cs1, fuel1, p1, q1, hg1, ht1, hvar1, hd1, ⟨g0, t0, cs0, fuel0, p0, q0, hg0, ht0, hvar0, hd0, _, _⟩, _⟩, _⟩, _⟩, _⟩, _⟩ := h
  refine ⟨?_, ?_, ?_⟩
  · obtain rfl := Option.some.inj (tabG.symm.trans hg)
    obtain rfl := Option.some.inj (tabType.symm.trans ht)
    unfold Tab Lib.TabIs
    rw [hvar, ← Lib.cells_of_tab (zs := Lib.pow10Tab) (k := .u64) Tryd.underlying56 Tryd.underlying42 tabEach tabAll hd]
  · obtain rfl := Option.some.inj (synG.symm.trans hg0)
    obtain rfl := Option.some.inj (errType0.symm.trans ht0)
    obtain ⟨_, u, v, e, _⟩ := iface_of_trod Tryd.underlying29 hd0
    exact ⟨u, v, by rw [hvar0]; congr 1; exact Array.toList_inj.1 e⟩
  · obtain rfl := Option.some.inj (ranG.symm.trans hg1)
    obtain rfl := Option.some.inj (errType1.symm.trans ht1)
    obtain ⟨_, u, v, e, _⟩ := iface_of_trod Tryd.underlying29 hd1
    exact ⟨u, v, by rw [hvar1]; congr 1; exact Array.toList_inj.1 e⟩
def vals : DataW Unit → Array Value
  | .agg l => (l.map fun d => match d with | .lit (.int k n) => Value.int k n | _ => .int .i64 0).toArray
  | _ => #[]
noncomputable def laidWorld (os : Os) : World :=
  let w0 := World.holding Tryd.prog os ⟨#[.cells #[.string ⟨#[118, 97, 108, 117, 101, 32, 111, 117, 116, 32, 111, 102, 32, 114, 97, 110, 103, 101]⟩] 64, .cells #[.string ⟨#[105, 110, 118, 97, 108, 105, 100, 32, 115, 121, 110, 116, 97, 120]⟩] 64], #[], []⟩
  let put (h : Array Obj) (g : Nat) (cs : Array Value) : Array Obj := h.modify g fun
    | .cells _ t frozen => .cells cs t frozen
    | o => o
  let h1 := put w0.heap 2 (vals Rows.laid_internal_strconv_uint64pow10)
  let h2 := put h1 3 (vals Rows.laid_math_bits_deBruijn32tab)
  let h3 := put h2 4 (vals Rows.laid_math_bits_deBruijn64tab)
  let N := (World.settled Tryd.prog os).heap.size
  let h4 := put h3 1 #[.iface 62 (.pointer (some ⟨N, 0, none⟩))]
  let h5 := put h4 0 #[.iface 62 (.pointer (some ⟨N + 1, 0, none⟩))]
  { w0 with heap := h5 }
set_option maxRecDepth 100000 in
theorem laid_met (os : Os) (args : Array Value) : laidMet Tryd.prog Rows.fnExactNumberRow.laid ((laidWorld os).forCall (fun _ _ => 0) ⟨#[], args, []⟩).memory :=
  laidMet_of_run' 8 (by kernel_rfl) (by kernel_rfl)
set_option maxRecDepth 100000 in
theorem lifted (os : Os) (started : os.Started) (H : Type) (enc : TypeId × Value → H) :
    ReturnsInHanded {} Tryd.checked os 4 .any (fun w args => (Rows.fnExactNumberSpec.pre enc Tryd.prog Tryd.f4 Rows.fnExactNumberRow.domain false w args ∧ laidMet Tryd.prog Rows.fnExactNumberRow.laid w) ∧ sizedMet enc Tryd.prog Tryd.f4 (OpenSpec.ofChange Rows.fnExactNumberSpec) false w args)
      (Rows.fnExactNumberSpec.post enc Tryd.prog Tryd.f4 false true false false) := by
  refine returnsInHanded_of_change_and (C := Tryd.checked) (X := fun w _ => laidMet Tryd.prog Rows.fnExactNumberRow.laid w) (fun _ _ _ hh h => h.of_heap hh) own started (by kernel_rfl) Tryd.func4
    (ChangeSpec.witness_at (enc := enc) (C := Tryd.checked) (os := os) (X := fun w _ => laidMet Tryd.prog Rows.fnExactNumberRow.laid w) false (laidWorld os) #[.string ⟨#[]⟩] 8 rfl (by kernel_rfl) (by kernel_rfl) (by kernel_rfl) (by kernel_rfl) (by kernel_rfl) (laid_met os _)) ?_
  intro W base args ds gs before hval0 hW hcnd0 _ hL _
  have hval : ∀ (j : Nat) t v, Tryd.f4.params[j]? = some t → args[j]? = some v → Value.okWide Tryd.prog W .any base t v := hval0
  have hW' := hW
  obtain ⟨p, q, hA0, hV, rfl, hfz, hnd⟩ := hW
  have hA : DataW.TrodAll enc Tryd.prog W 0 (fun _ => true) true Tryd.f4.params.toList args.toList ds p := hA0
  rw [Tryd.params4] at hA hval
  obtain ⟨v0, d0, rfl, rfl, h0⟩ := trodAll_one hA
  obtain ⟨rfl, rfl⟩ := trodVars_none hV
  obtain ⟨s, rfl, rfl, rfl, ws⟩ := open_string Tryd.underlying9 (hval 0 9 v0 rfl rfl) h0
  clear hA0 hval0
  by_cases c : s.size ≤ 1048576
  · obtain ⟨k0, hk0⟩ := PureN.Number_ev s
    refine (law_walk s c k0 _ _ (hk0 k0 (Nat.le_refl _)) rfl W (laid_of hL)).mono fun e W' ⟨he, hnx⟩ => ?_
    subst he
    exact ⟨_, rfl, _, _, _, [], [], [], hW', trodAll_mk1 (shut_bool Tryd.underlying4 _), trodAll_mk1 (shut_string Tryd.underlying9 ws), rfl, hnx.frame _, fun h => by cases h⟩
  · refine (law_long s (by omega) W).mono fun e W' ⟨he, hnx⟩ => ?_
    subst he
    exact ⟨_, rfl, _, _, _, [], [], [], hW', trodAll_mk1 (shut_bool Tryd.underlying4 _), trodAll_mk1 (shut_string Tryd.underlying9 ws), rfl, hnx.frame _, fun h => by cases h⟩
theorem row_holds : Rows.FnExactNumberSaid :=
  OpenClaim.holds_of_wide 4 Tryd.f4 rfl rfl rfl rfl rfl rfl rfl ⟨rfl, rfl, rfl, rfl, rfl⟩ rfl rfl rfl rfl rfl (by kernel_rfl) Tryd.func4 (by kernel_rfl)
    (of_decide_eq_true (by kernel_rfl)) (by unfold Func.isWrapper; first | (rw [if_pos (by decide +kernel)]; kernel_rfl) | (rw [if_neg (by decide +kernel)]; exact ⟨rfl, rfl⟩))
    (fun os started H enc _ => lifted os started H enc)
#print axioms row_holds
theorem card_holds : Rows.FnExactNumberCardSaid :=
  Claim7.holds_tied_plain_at .later [] [.data, .data, .data, .sentinel, .sentinel] true (true, "8cfc219a2613a772591e6daad8f199333c4cf60e87bdf1143f71e1b6fd29fec3") true
    row_holds (fun _ h => by cases h) (by kernel_rfl) (fun _ h => by cases h) fnExactNumber_row_tie rfl ⟨rfl, rfl⟩ (by kernel_rfl) rfl
    (fun f fn hf hfn => by
      obtain rfl : f = 4 := Option.some.inj ((show Tryd.prog.funcNamed "loop.example/g00483/laws.FnExactNumber" = some 4 by kernel_rfl).symm.trans hf) |>.symm
      obtain rfl : fn = Tryd.f4 := (Option.some.inj (Tryd.func4.symm.trans hfn)).symm
      exact ⟨by kernel_rfl, fun j t ht => by
        rw [Tryd.params4] at ht
        have h3 : t = 9 := by
          rcases j with _ | j
          · simpa using ht.symm
          · simp at ht
        subst h3
        exact (show Tryd.prog.wantsStandIn 9 = false by kernel_rfl)⟩)
    (by kernel_rfl)
#print axioms card_holds
end Go.Proofs.YtapliilimfgdjaaDoor.Number
namespace Go.Proofs.YtapliilimfgdjaaDoor
/-- The tied card, under a short name, for the claim. -/
theorem fnExactNumber_holds : Rows.FnExactNumberCardSaid := Number.card_holds
end Go.Proofs.YtapliilimfgdjaaDoor
