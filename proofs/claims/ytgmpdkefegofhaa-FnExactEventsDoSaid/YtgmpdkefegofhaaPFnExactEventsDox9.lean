-- Written by xprint.py, a program of this session over the kit's print. Not trusted: Lean checks it.
import Derived.Test.YtgmpdkefegofhaaPFnExactEventsDox0
import Derived.Test.YtgmpdkefegofhaaPFnExactEventsDox1
import Derived.Test.YtgmpdkefegofhaaPFnExactEventsDox2
import Derived.Test.YtgmpdkefegofhaaPFnExactEventsDox3
import Derived.Test.YtgmpdkefegofhaaPFnExactEventsDox5
import Derived.Test.YtgmpdkefegofhaaPFnExactEventsDox6
import Derived.Test.YtgmpdkefegofhaaPFnExactEventsDox7
import Derived.Test.YtgmpdkefegofhaaPFnExactEventsDox8
namespace Go.Proofs.Ytgmpdkefegofhaa.PFnExactEventsDo
open Go.RowKit Go.Proofs.YtgmpdkefegofhaaW.PrintWords Go.Proofs.YtgmpdkefegofhaaW.PrintLast Go.Proofs.YtgmpdkefegofhaaW.PrintMore
attribute [local go_sem] max2_int min2_int max_two min_two max_three min_three max_four min_four   -- for this text's walks alone
set_option linter.unusedVariables false
set_option linter.unusedSimpArgs false

/-! ### laws_FnExactEventsDo: function 9 -/
mutual
def laws_FnExactEventsDo.j0 : Nat → List (S91) → Int → List ByteArray → List (S111) → Option (Bool)
 | 0, _, _, _, _ => none
 | k + 1, x1, x5, x357000, x357001 => (laws_szEventS.f k x1 x5).bind fun t358 => (if t358 < 0 then (some true) else (laws_FnExactEventsDo.j1 k x1 x357000 x357001))
def laws_FnExactEventsDo.j1 : Nat → List (S91) → List ByteArray → List (S111) → Option (Bool)
 | 0, _, _, _ => none
 | k + 1, x1, x357000, x357001 => (laws_toDisk.f k x357000 x357001).bind fun bt359 => ((laws_toEventS.f k x1).bind fun t365 => ((spec_EventsDo.f k bt359.1 bt359.2 t365).bind fun bt368 => ((laws_toDisk.f k x357000 x357001).bind fun bt375 => ((laws_toEventS.f k x1).bind fun t382 => ((impl_EventsDo.f k bt375.1 bt375.2 t382).bind fun bt385 => ((laws_eqDisk.f k bt385.1 bt385.2 bt368.1 bt368.2).bind fun t392 => (if t392 = true then (laws_FnExactEventsDo.j2 k x1 t382 x357000 x357001 bt368.1 bt368.2 bt375.1 bt375.2 bt385.1 bt385.2) else (some false))))))))
def laws_FnExactEventsDo.j2 : Nat → List (S91) → List (S92) → List ByteArray → List (S111) → List ByteArray → List (S65) → List ByteArray → List (S65) → List ByteArray → List (S65) → Option (Bool)
 | 0, _, _, _, _, _, _, _, _, _, _ => none
 | k + 1, x1, x8, x357000, x357001, x375000, x375001, x382000, x382001, x392000, x392001 => (laws_toDisk.f k x357000 x357001).bind fun bt393 => ((laws_eqDisk.f k x382000 x382001 bt393.1 bt393.2).bind fun t399 => (if t399 = true then (laws_FnExactEventsDo.j3 k x1 x8 x357000 x357001 x375000 x375001 x382000 x382001 x392000 x392001) else (some false)))
def laws_FnExactEventsDo.j3 : Nat → List (S91) → List (S92) → List ByteArray → List (S111) → List ByteArray → List (S65) → List ByteArray → List (S65) → List ByteArray → List (S65) → Option (Bool)
 | 0, _, _, _, _, _, _, _, _, _, _ => none
 | k + 1, x1, x8, x357000, x357001, x375000, x375001, x382000, x382001, x392000, x392001 => (laws_toEventS.f k x1).bind fun t400 => ((laws_eqEventS.f k x8 t400).bind fun t403 => (if t403 = true then (laws_FnExactEventsDo.j4 k x1 x8 x357000 x357001 x375000 x375001 x382000 x382001 x392000 x392001) else (some false)))
def laws_FnExactEventsDo.j4 : Nat → List (S91) → List (S92) → List ByteArray → List (S111) → List ByteArray → List (S65) → List ByteArray → List (S65) → List ByteArray → List (S65) → Option (Bool)
 | 0, _, _, _, _, _, _, _, _, _, _ => none
 | k + 1, x1, x8, x357000, x357001, x375000, x375001, x382000, x382001, x392000, x392001 => (laws_markDisk.f k x382000 x382001 1).bind fun bt404 => ((laws_markEventS.f k x8 bt404.1).bind fun bt407 => (if bt407.1 < 0 then (laws_FnExactEventsDo.j5 k x1 true x357000 x357001 x375000 x375001 x392000 x392001) else ((laws_eqDisk.f k x392000 x392001 x375000 x375001).bind fun t409 => (laws_FnExactEventsDo.j5 k x1 (!t409) x357000 x357001 x375000 x375001 x392000 x392001))))
def laws_FnExactEventsDo.j5 : Nat → List (S91) → Bool → List ByteArray → List (S111) → List ByteArray → List (S65) → List ByteArray → List (S65) → Option (Bool)
 | 0, _, _, _, _, _, _, _, _ => none
 | k + 1, x1, x63, x357000, x357001, x375000, x375001, x392000, x392001 => if x63 = true then (some false) else (laws_FnExactEventsDo.j6 k x1 x357000 x357001 x375000 x375001 x392000 x392001)
def laws_FnExactEventsDo.j6 : Nat → List (S91) → List ByteArray → List (S111) → List ByteArray → List (S65) → List ByteArray → List (S65) → Option (Bool)
 | 0, _, _, _, _, _, _, _ => none
 | k + 1, x1, x357000, x357001, x375000, x375001, x392000, x392001 => (laws_markDisk.f k x392000 x392001 1).bind fun bt410 => ((laws_heldDisk.f k bt410.2.1 bt410.2.2 1).bind fun t413 => (if t413 < 0 then (some false) else (laws_FnExactEventsDo.j7 k x1 bt410.1 t413 x357000 x357001 x375000 x375001 bt410.2.1 bt410.2.2)))
def laws_FnExactEventsDo.j7 : Nat → List (S91) → Int → Int → List ByteArray → List (S111) → List ByteArray → List (S65) → List ByteArray → List (S65) → Option (Bool)
 | 0, _, _, _, _, _, _, _, _, _ => none
 | k + 1, x1, x11, x12, x357000, x357001, x375000, x375001, x392000, x392001 => if x12 = x11 then (laws_FnExactEventsDo.j8 k x1 x11 x357000 x357001 x375000 x375001 x392000 x392001) else (some false)
def laws_FnExactEventsDo.j8 : Nat → List (S91) → Int → List ByteArray → List (S111) → List ByteArray → List (S65) → List ByteArray → List (S65) → Option (Bool)
 | 0, _, _, _, _, _, _, _, _ => none
 | k + 1, x1, x11, x357000, x357001, x375000, x375001, x392000, x392001 => (laws_toDisk.f k x357000 x357001).bind fun bt414 => ((laws_toEventS.f k x1).bind fun t420 => ((impl_EventsDo.f k bt414.1 bt414.2 t420).bind fun bt423 => ((laws_eqDisk.f k bt423.1 bt423.2 x375000 x375001).bind fun t430 => (if t430 = true then (laws_FnExactEventsDo.j9 k x11 x392000 x392001) else (some false)))))
def laws_FnExactEventsDo.j9 : Nat → Int → List ByteArray → List (S65) → Option (Bool)
 | 0, _, _, _ => none
 | k + 1, x11, x392000, x392001 => (laws_heldDisk.f k x392000 x392001 1).bind fun t431 => (if t431 < 0 then (some false) else (if t431 = x11 then (some true) else (some false)))
end
def laws_FnExactEventsDo.f (k : Nat) (l0_0 : List ByteArray) (l0_1 : List (S111)) (l1 : List (S91)) : Option (Bool) := (laws_szDisk.f k l0_0 l0_1 1048576).bind fun t357 => (if t357 < 0 then (some true) else (laws_FnExactEventsDo.j0 k l1 t357 l0_0 l0_1))
theorem laws_FnExactEventsDo.mono_l : ∀ k, (∀ y0 y1 y2 y3, LeO (laws_FnExactEventsDo.j0 k y0 y1 y2 y3) (laws_FnExactEventsDo.j0 (k + 1) y0 y1 y2 y3)) ∧ (∀ y0 y1 y2, LeO (laws_FnExactEventsDo.j1 k y0 y1 y2) (laws_FnExactEventsDo.j1 (k + 1) y0 y1 y2)) ∧ (∀ y0 y1 y2 y3 y4 y5 y6 y7 y8 y9, LeO (laws_FnExactEventsDo.j2 k y0 y1 y2 y3 y4 y5 y6 y7 y8 y9) (laws_FnExactEventsDo.j2 (k + 1) y0 y1 y2 y3 y4 y5 y6 y7 y8 y9)) ∧ (∀ y0 y1 y2 y3 y4 y5 y6 y7 y8 y9, LeO (laws_FnExactEventsDo.j3 k y0 y1 y2 y3 y4 y5 y6 y7 y8 y9) (laws_FnExactEventsDo.j3 (k + 1) y0 y1 y2 y3 y4 y5 y6 y7 y8 y9)) ∧ (∀ y0 y1 y2 y3 y4 y5 y6 y7 y8 y9, LeO (laws_FnExactEventsDo.j4 k y0 y1 y2 y3 y4 y5 y6 y7 y8 y9) (laws_FnExactEventsDo.j4 (k + 1) y0 y1 y2 y3 y4 y5 y6 y7 y8 y9)) ∧ (∀ y0 y1 y2 y3 y4 y5 y6 y7, LeO (laws_FnExactEventsDo.j5 k y0 y1 y2 y3 y4 y5 y6 y7) (laws_FnExactEventsDo.j5 (k + 1) y0 y1 y2 y3 y4 y5 y6 y7)) ∧ (∀ y0 y1 y2 y3 y4 y5 y6, LeO (laws_FnExactEventsDo.j6 k y0 y1 y2 y3 y4 y5 y6) (laws_FnExactEventsDo.j6 (k + 1) y0 y1 y2 y3 y4 y5 y6)) ∧ (∀ y0 y1 y2 y3 y4 y5 y6 y7 y8, LeO (laws_FnExactEventsDo.j7 k y0 y1 y2 y3 y4 y5 y6 y7 y8) (laws_FnExactEventsDo.j7 (k + 1) y0 y1 y2 y3 y4 y5 y6 y7 y8)) ∧ (∀ y0 y1 y2 y3 y4 y5 y6 y7, LeO (laws_FnExactEventsDo.j8 k y0 y1 y2 y3 y4 y5 y6 y7) (laws_FnExactEventsDo.j8 (k + 1) y0 y1 y2 y3 y4 y5 y6 y7)) ∧ (∀ y0 y1 y2, LeO (laws_FnExactEventsDo.j9 k y0 y1 y2) (laws_FnExactEventsDo.j9 (k + 1) y0 y1 y2))
 | 0 => ⟨fun _ _ _ _ r h => by simp [laws_FnExactEventsDo.j0] at h, fun _ _ _ r h => by simp [laws_FnExactEventsDo.j1] at h, fun _ _ _ _ _ _ _ _ _ _ r h => by simp [laws_FnExactEventsDo.j2] at h, fun _ _ _ _ _ _ _ _ _ _ r h => by simp [laws_FnExactEventsDo.j3] at h, fun _ _ _ _ _ _ _ _ _ _ r h => by simp [laws_FnExactEventsDo.j4] at h, fun _ _ _ _ _ _ _ _ r h => by simp [laws_FnExactEventsDo.j5] at h, fun _ _ _ _ _ _ _ r h => by simp [laws_FnExactEventsDo.j6] at h, fun _ _ _ _ _ _ _ _ _ r h => by simp [laws_FnExactEventsDo.j7] at h, fun _ _ _ _ _ _ _ _ r h => by simp [laws_FnExactEventsDo.j8] at h, fun _ _ _ r h => by simp [laws_FnExactEventsDo.j9] at h⟩
 | k + 1 => by
  obtain ⟨ih0, ih1, ih2, ih3, ih4, ih5, ih6, ih7, ih8, ih9⟩ := laws_FnExactEventsDo.mono_l k
  refine ⟨?_, ?_, ?_, ?_, ?_, ?_, ?_, ?_, ?_, ?_⟩
  ·intro y0 y1 y2 y3
   unfold laws_FnExactEventsDo.j0
   repeat' first
   | (with_reducible exact ih0 _ _ _ _)
   | (with_reducible exact ih1 _ _ _)
   | (with_reducible exact ih2 _ _ _ _ _ _ _ _ _ _)
   | (with_reducible exact ih3 _ _ _ _ _ _ _ _ _ _)
   | (with_reducible exact ih4 _ _ _ _ _ _ _ _ _ _)
   | (with_reducible exact ih5 _ _ _ _ _ _ _ _)
   | (with_reducible exact ih6 _ _ _ _ _ _ _)
   | (with_reducible exact ih7 _ _ _ _ _ _ _ _ _)
   | (with_reducible exact ih8 _ _ _ _ _ _ _ _)
   | (with_reducible exact ih9 _ _ _)
   | (with_reducible exact impl_EventsDo.mono _ _ _ _)
   | (with_reducible exact laws_eqDisk.mono _ _ _ _ _)
   | (with_reducible exact laws_eqEventS.mono _ _ _)
   | (with_reducible exact laws_heldDisk.mono _ _ _ _)
   | (with_reducible exact laws_markDisk.mono _ _ _ _)
   | (with_reducible exact laws_markEventS.mono _ _ _)
   | (with_reducible exact laws_szDisk.mono _ _ _ _)
   | (with_reducible exact laws_szEventS.mono _ _ _)
   | (with_reducible exact laws_toDisk.mono _ _ _)
   | (with_reducible exact laws_toEventS.mono _ _)
   | (with_reducible exact spec_EventsDo.mono _ _ _ _)
   | (with_reducible exact LeO.refl _)
   | (with_reducible exact LeO.none _)
   | (with_reducible refine LeO.ite ?_ ?_)
   | (with_reducible refine LeO.bind ?_ (fun _ => ?_))
   | exact ih0 _ _ _ _
   | exact ih1 _ _ _
   | exact ih2 _ _ _ _ _ _ _ _ _ _
   | exact ih3 _ _ _ _ _ _ _ _ _ _
   | exact ih4 _ _ _ _ _ _ _ _ _ _
   | exact ih5 _ _ _ _ _ _ _ _
   | exact ih6 _ _ _ _ _ _ _
   | exact ih7 _ _ _ _ _ _ _ _ _
   | exact ih8 _ _ _ _ _ _ _ _
   | exact ih9 _ _ _
   | exact impl_EventsDo.mono _ _ _ _
   | exact laws_eqDisk.mono _ _ _ _ _
   | exact laws_eqEventS.mono _ _ _
   | exact laws_heldDisk.mono _ _ _ _
   | exact laws_markDisk.mono _ _ _ _
   | exact laws_markEventS.mono _ _ _
   | exact laws_szDisk.mono _ _ _ _
   | exact laws_szEventS.mono _ _ _
   | exact laws_toDisk.mono _ _ _
   | exact laws_toEventS.mono _ _
   | exact spec_EventsDo.mono _ _ _ _
   | exact LeO.none _
   | refine LeO.ite ?_ ?_
   | refine LeO.bind ?_ (fun _ => ?_)
  ·intro y0 y1 y2
   unfold laws_FnExactEventsDo.j1
   repeat' first
   | (with_reducible exact ih0 _ _ _ _)
   | (with_reducible exact ih1 _ _ _)
   | (with_reducible exact ih2 _ _ _ _ _ _ _ _ _ _)
   | (with_reducible exact ih3 _ _ _ _ _ _ _ _ _ _)
   | (with_reducible exact ih4 _ _ _ _ _ _ _ _ _ _)
   | (with_reducible exact ih5 _ _ _ _ _ _ _ _)
   | (with_reducible exact ih6 _ _ _ _ _ _ _)
   | (with_reducible exact ih7 _ _ _ _ _ _ _ _ _)
   | (with_reducible exact ih8 _ _ _ _ _ _ _ _)
   | (with_reducible exact ih9 _ _ _)
   | (with_reducible exact impl_EventsDo.mono _ _ _ _)
   | (with_reducible exact laws_eqDisk.mono _ _ _ _ _)
   | (with_reducible exact laws_eqEventS.mono _ _ _)
   | (with_reducible exact laws_heldDisk.mono _ _ _ _)
   | (with_reducible exact laws_markDisk.mono _ _ _ _)
   | (with_reducible exact laws_markEventS.mono _ _ _)
   | (with_reducible exact laws_szDisk.mono _ _ _ _)
   | (with_reducible exact laws_szEventS.mono _ _ _)
   | (with_reducible exact laws_toDisk.mono _ _ _)
   | (with_reducible exact laws_toEventS.mono _ _)
   | (with_reducible exact spec_EventsDo.mono _ _ _ _)
   | (with_reducible exact LeO.refl _)
   | (with_reducible exact LeO.none _)
   | (with_reducible refine LeO.ite ?_ ?_)
   | (with_reducible refine LeO.bind ?_ (fun _ => ?_))
   | exact ih0 _ _ _ _
   | exact ih1 _ _ _
   | exact ih2 _ _ _ _ _ _ _ _ _ _
   | exact ih3 _ _ _ _ _ _ _ _ _ _
   | exact ih4 _ _ _ _ _ _ _ _ _ _
   | exact ih5 _ _ _ _ _ _ _ _
   | exact ih6 _ _ _ _ _ _ _
   | exact ih7 _ _ _ _ _ _ _ _ _
   | exact ih8 _ _ _ _ _ _ _ _
   | exact ih9 _ _ _
   | exact impl_EventsDo.mono _ _ _ _
   | exact laws_eqDisk.mono _ _ _ _ _
   | exact laws_eqEventS.mono _ _ _
   | exact laws_heldDisk.mono _ _ _ _
   | exact laws_markDisk.mono _ _ _ _
   | exact laws_markEventS.mono _ _ _
   | exact laws_szDisk.mono _ _ _ _
   | exact laws_szEventS.mono _ _ _
   | exact laws_toDisk.mono _ _ _
   | exact laws_toEventS.mono _ _
   | exact spec_EventsDo.mono _ _ _ _
   | exact LeO.none _
   | refine LeO.ite ?_ ?_
   | refine LeO.bind ?_ (fun _ => ?_)
  ·intro y0 y1 y2 y3 y4 y5 y6 y7 y8 y9
   unfold laws_FnExactEventsDo.j2
   repeat' first
   | (with_reducible exact ih0 _ _ _ _)
   | (with_reducible exact ih1 _ _ _)
   | (with_reducible exact ih2 _ _ _ _ _ _ _ _ _ _)
   | (with_reducible exact ih3 _ _ _ _ _ _ _ _ _ _)
   | (with_reducible exact ih4 _ _ _ _ _ _ _ _ _ _)
   | (with_reducible exact ih5 _ _ _ _ _ _ _ _)
   | (with_reducible exact ih6 _ _ _ _ _ _ _)
   | (with_reducible exact ih7 _ _ _ _ _ _ _ _ _)
   | (with_reducible exact ih8 _ _ _ _ _ _ _ _)
   | (with_reducible exact ih9 _ _ _)
   | (with_reducible exact impl_EventsDo.mono _ _ _ _)
   | (with_reducible exact laws_eqDisk.mono _ _ _ _ _)
   | (with_reducible exact laws_eqEventS.mono _ _ _)
   | (with_reducible exact laws_heldDisk.mono _ _ _ _)
   | (with_reducible exact laws_markDisk.mono _ _ _ _)
   | (with_reducible exact laws_markEventS.mono _ _ _)
   | (with_reducible exact laws_szDisk.mono _ _ _ _)
   | (with_reducible exact laws_szEventS.mono _ _ _)
   | (with_reducible exact laws_toDisk.mono _ _ _)
   | (with_reducible exact laws_toEventS.mono _ _)
   | (with_reducible exact spec_EventsDo.mono _ _ _ _)
   | (with_reducible exact LeO.refl _)
   | (with_reducible exact LeO.none _)
   | (with_reducible refine LeO.ite ?_ ?_)
   | (with_reducible refine LeO.bind ?_ (fun _ => ?_))
   | exact ih0 _ _ _ _
   | exact ih1 _ _ _
   | exact ih2 _ _ _ _ _ _ _ _ _ _
   | exact ih3 _ _ _ _ _ _ _ _ _ _
   | exact ih4 _ _ _ _ _ _ _ _ _ _
   | exact ih5 _ _ _ _ _ _ _ _
   | exact ih6 _ _ _ _ _ _ _
   | exact ih7 _ _ _ _ _ _ _ _ _
   | exact ih8 _ _ _ _ _ _ _ _
   | exact ih9 _ _ _
   | exact impl_EventsDo.mono _ _ _ _
   | exact laws_eqDisk.mono _ _ _ _ _
   | exact laws_eqEventS.mono _ _ _
   | exact laws_heldDisk.mono _ _ _ _
   | exact laws_markDisk.mono _ _ _ _
   | exact laws_markEventS.mono _ _ _
   | exact laws_szDisk.mono _ _ _ _
   | exact laws_szEventS.mono _ _ _
   | exact laws_toDisk.mono _ _ _
   | exact laws_toEventS.mono _ _
   | exact spec_EventsDo.mono _ _ _ _
   | exact LeO.none _
   | refine LeO.ite ?_ ?_
   | refine LeO.bind ?_ (fun _ => ?_)
  ·intro y0 y1 y2 y3 y4 y5 y6 y7 y8 y9
   unfold laws_FnExactEventsDo.j3
   repeat' first
   | (with_reducible exact ih0 _ _ _ _)
   | (with_reducible exact ih1 _ _ _)
   | (with_reducible exact ih2 _ _ _ _ _ _ _ _ _ _)
   | (with_reducible exact ih3 _ _ _ _ _ _ _ _ _ _)
   | (with_reducible exact ih4 _ _ _ _ _ _ _ _ _ _)
   | (with_reducible exact ih5 _ _ _ _ _ _ _ _)
   | (with_reducible exact ih6 _ _ _ _ _ _ _)
   | (with_reducible exact ih7 _ _ _ _ _ _ _ _ _)
   | (with_reducible exact ih8 _ _ _ _ _ _ _ _)
   | (with_reducible exact ih9 _ _ _)
   | (with_reducible exact impl_EventsDo.mono _ _ _ _)
   | (with_reducible exact laws_eqDisk.mono _ _ _ _ _)
   | (with_reducible exact laws_eqEventS.mono _ _ _)
   | (with_reducible exact laws_heldDisk.mono _ _ _ _)
   | (with_reducible exact laws_markDisk.mono _ _ _ _)
   | (with_reducible exact laws_markEventS.mono _ _ _)
   | (with_reducible exact laws_szDisk.mono _ _ _ _)
   | (with_reducible exact laws_szEventS.mono _ _ _)
   | (with_reducible exact laws_toDisk.mono _ _ _)
   | (with_reducible exact laws_toEventS.mono _ _)
   | (with_reducible exact spec_EventsDo.mono _ _ _ _)
   | (with_reducible exact LeO.refl _)
   | (with_reducible exact LeO.none _)
   | (with_reducible refine LeO.ite ?_ ?_)
   | (with_reducible refine LeO.bind ?_ (fun _ => ?_))
   | exact ih0 _ _ _ _
   | exact ih1 _ _ _
   | exact ih2 _ _ _ _ _ _ _ _ _ _
   | exact ih3 _ _ _ _ _ _ _ _ _ _
   | exact ih4 _ _ _ _ _ _ _ _ _ _
   | exact ih5 _ _ _ _ _ _ _ _
   | exact ih6 _ _ _ _ _ _ _
   | exact ih7 _ _ _ _ _ _ _ _ _
   | exact ih8 _ _ _ _ _ _ _ _
   | exact ih9 _ _ _
   | exact impl_EventsDo.mono _ _ _ _
   | exact laws_eqDisk.mono _ _ _ _ _
   | exact laws_eqEventS.mono _ _ _
   | exact laws_heldDisk.mono _ _ _ _
   | exact laws_markDisk.mono _ _ _ _
   | exact laws_markEventS.mono _ _ _
   | exact laws_szDisk.mono _ _ _ _
   | exact laws_szEventS.mono _ _ _
   | exact laws_toDisk.mono _ _ _
   | exact laws_toEventS.mono _ _
   | exact spec_EventsDo.mono _ _ _ _
   | exact LeO.none _
   | refine LeO.ite ?_ ?_
   | refine LeO.bind ?_ (fun _ => ?_)
  ·intro y0 y1 y2 y3 y4 y5 y6 y7 y8 y9
   unfold laws_FnExactEventsDo.j4
   repeat' first
   | (with_reducible exact ih0 _ _ _ _)
   | (with_reducible exact ih1 _ _ _)
   | (with_reducible exact ih2 _ _ _ _ _ _ _ _ _ _)
   | (with_reducible exact ih3 _ _ _ _ _ _ _ _ _ _)
   | (with_reducible exact ih4 _ _ _ _ _ _ _ _ _ _)
   | (with_reducible exact ih5 _ _ _ _ _ _ _ _)
   | (with_reducible exact ih6 _ _ _ _ _ _ _)
   | (with_reducible exact ih7 _ _ _ _ _ _ _ _ _)
   | (with_reducible exact ih8 _ _ _ _ _ _ _ _)
   | (with_reducible exact ih9 _ _ _)
   | (with_reducible exact impl_EventsDo.mono _ _ _ _)
   | (with_reducible exact laws_eqDisk.mono _ _ _ _ _)
   | (with_reducible exact laws_eqEventS.mono _ _ _)
   | (with_reducible exact laws_heldDisk.mono _ _ _ _)
   | (with_reducible exact laws_markDisk.mono _ _ _ _)
   | (with_reducible exact laws_markEventS.mono _ _ _)
   | (with_reducible exact laws_szDisk.mono _ _ _ _)
   | (with_reducible exact laws_szEventS.mono _ _ _)
   | (with_reducible exact laws_toDisk.mono _ _ _)
   | (with_reducible exact laws_toEventS.mono _ _)
   | (with_reducible exact spec_EventsDo.mono _ _ _ _)
   | (with_reducible exact LeO.refl _)
   | (with_reducible exact LeO.none _)
   | (with_reducible refine LeO.ite ?_ ?_)
   | (with_reducible refine LeO.bind ?_ (fun _ => ?_))
   | exact ih0 _ _ _ _
   | exact ih1 _ _ _
   | exact ih2 _ _ _ _ _ _ _ _ _ _
   | exact ih3 _ _ _ _ _ _ _ _ _ _
   | exact ih4 _ _ _ _ _ _ _ _ _ _
   | exact ih5 _ _ _ _ _ _ _ _
   | exact ih6 _ _ _ _ _ _ _
   | exact ih7 _ _ _ _ _ _ _ _ _
   | exact ih8 _ _ _ _ _ _ _ _
   | exact ih9 _ _ _
   | exact impl_EventsDo.mono _ _ _ _
   | exact laws_eqDisk.mono _ _ _ _ _
   | exact laws_eqEventS.mono _ _ _
   | exact laws_heldDisk.mono _ _ _ _
   | exact laws_markDisk.mono _ _ _ _
   | exact laws_markEventS.mono _ _ _
   | exact laws_szDisk.mono _ _ _ _
   | exact laws_szEventS.mono _ _ _
   | exact laws_toDisk.mono _ _ _
   | exact laws_toEventS.mono _ _
   | exact spec_EventsDo.mono _ _ _ _
   | exact LeO.none _
   | refine LeO.ite ?_ ?_
   | refine LeO.bind ?_ (fun _ => ?_)
  ·intro y0 y1 y2 y3 y4 y5 y6 y7
   unfold laws_FnExactEventsDo.j5
   repeat' first
   | (with_reducible exact ih0 _ _ _ _)
   | (with_reducible exact ih1 _ _ _)
   | (with_reducible exact ih2 _ _ _ _ _ _ _ _ _ _)
   | (with_reducible exact ih3 _ _ _ _ _ _ _ _ _ _)
   | (with_reducible exact ih4 _ _ _ _ _ _ _ _ _ _)
   | (with_reducible exact ih5 _ _ _ _ _ _ _ _)
   | (with_reducible exact ih6 _ _ _ _ _ _ _)
   | (with_reducible exact ih7 _ _ _ _ _ _ _ _ _)
   | (with_reducible exact ih8 _ _ _ _ _ _ _ _)
   | (with_reducible exact ih9 _ _ _)
   | (with_reducible exact impl_EventsDo.mono _ _ _ _)
   | (with_reducible exact laws_eqDisk.mono _ _ _ _ _)
   | (with_reducible exact laws_eqEventS.mono _ _ _)
   | (with_reducible exact laws_heldDisk.mono _ _ _ _)
   | (with_reducible exact laws_markDisk.mono _ _ _ _)
   | (with_reducible exact laws_markEventS.mono _ _ _)
   | (with_reducible exact laws_szDisk.mono _ _ _ _)
   | (with_reducible exact laws_szEventS.mono _ _ _)
   | (with_reducible exact laws_toDisk.mono _ _ _)
   | (with_reducible exact laws_toEventS.mono _ _)
   | (with_reducible exact spec_EventsDo.mono _ _ _ _)
   | (with_reducible exact LeO.refl _)
   | (with_reducible exact LeO.none _)
   | (with_reducible refine LeO.ite ?_ ?_)
   | (with_reducible refine LeO.bind ?_ (fun _ => ?_))
   | exact ih0 _ _ _ _
   | exact ih1 _ _ _
   | exact ih2 _ _ _ _ _ _ _ _ _ _
   | exact ih3 _ _ _ _ _ _ _ _ _ _
   | exact ih4 _ _ _ _ _ _ _ _ _ _
   | exact ih5 _ _ _ _ _ _ _ _
   | exact ih6 _ _ _ _ _ _ _
   | exact ih7 _ _ _ _ _ _ _ _ _
   | exact ih8 _ _ _ _ _ _ _ _
   | exact ih9 _ _ _
   | exact impl_EventsDo.mono _ _ _ _
   | exact laws_eqDisk.mono _ _ _ _ _
   | exact laws_eqEventS.mono _ _ _
   | exact laws_heldDisk.mono _ _ _ _
   | exact laws_markDisk.mono _ _ _ _
   | exact laws_markEventS.mono _ _ _
   | exact laws_szDisk.mono _ _ _ _
   | exact laws_szEventS.mono _ _ _
   | exact laws_toDisk.mono _ _ _
   | exact laws_toEventS.mono _ _
   | exact spec_EventsDo.mono _ _ _ _
   | exact LeO.none _
   | refine LeO.ite ?_ ?_
   | refine LeO.bind ?_ (fun _ => ?_)
  ·intro y0 y1 y2 y3 y4 y5 y6
   unfold laws_FnExactEventsDo.j6
   repeat' first
   | (with_reducible exact ih0 _ _ _ _)
   | (with_reducible exact ih1 _ _ _)
   | (with_reducible exact ih2 _ _ _ _ _ _ _ _ _ _)
   | (with_reducible exact ih3 _ _ _ _ _ _ _ _ _ _)
   | (with_reducible exact ih4 _ _ _ _ _ _ _ _ _ _)
   | (with_reducible exact ih5 _ _ _ _ _ _ _ _)
   | (with_reducible exact ih6 _ _ _ _ _ _ _)
   | (with_reducible exact ih7 _ _ _ _ _ _ _ _ _)
   | (with_reducible exact ih8 _ _ _ _ _ _ _ _)
   | (with_reducible exact ih9 _ _ _)
   | (with_reducible exact impl_EventsDo.mono _ _ _ _)
   | (with_reducible exact laws_eqDisk.mono _ _ _ _ _)
   | (with_reducible exact laws_eqEventS.mono _ _ _)
   | (with_reducible exact laws_heldDisk.mono _ _ _ _)
   | (with_reducible exact laws_markDisk.mono _ _ _ _)
   | (with_reducible exact laws_markEventS.mono _ _ _)
   | (with_reducible exact laws_szDisk.mono _ _ _ _)
   | (with_reducible exact laws_szEventS.mono _ _ _)
   | (with_reducible exact laws_toDisk.mono _ _ _)
   | (with_reducible exact laws_toEventS.mono _ _)
   | (with_reducible exact spec_EventsDo.mono _ _ _ _)
   | (with_reducible exact LeO.refl _)
   | (with_reducible exact LeO.none _)
   | (with_reducible refine LeO.ite ?_ ?_)
   | (with_reducible refine LeO.bind ?_ (fun _ => ?_))
   | exact ih0 _ _ _ _
   | exact ih1 _ _ _
   | exact ih2 _ _ _ _ _ _ _ _ _ _
   | exact ih3 _ _ _ _ _ _ _ _ _ _
   | exact ih4 _ _ _ _ _ _ _ _ _ _
   | exact ih5 _ _ _ _ _ _ _ _
   | exact ih6 _ _ _ _ _ _ _
   | exact ih7 _ _ _ _ _ _ _ _ _
   | exact ih8 _ _ _ _ _ _ _ _
   | exact ih9 _ _ _
   | exact impl_EventsDo.mono _ _ _ _
   | exact laws_eqDisk.mono _ _ _ _ _
   | exact laws_eqEventS.mono _ _ _
   | exact laws_heldDisk.mono _ _ _ _
   | exact laws_markDisk.mono _ _ _ _
   | exact laws_markEventS.mono _ _ _
   | exact laws_szDisk.mono _ _ _ _
   | exact laws_szEventS.mono _ _ _
   | exact laws_toDisk.mono _ _ _
   | exact laws_toEventS.mono _ _
   | exact spec_EventsDo.mono _ _ _ _
   | exact LeO.none _
   | refine LeO.ite ?_ ?_
   | refine LeO.bind ?_ (fun _ => ?_)
  ·intro y0 y1 y2 y3 y4 y5 y6 y7 y8
   unfold laws_FnExactEventsDo.j7
   repeat' first
   | (with_reducible exact ih0 _ _ _ _)
   | (with_reducible exact ih1 _ _ _)
   | (with_reducible exact ih2 _ _ _ _ _ _ _ _ _ _)
   | (with_reducible exact ih3 _ _ _ _ _ _ _ _ _ _)
   | (with_reducible exact ih4 _ _ _ _ _ _ _ _ _ _)
   | (with_reducible exact ih5 _ _ _ _ _ _ _ _)
   | (with_reducible exact ih6 _ _ _ _ _ _ _)
   | (with_reducible exact ih7 _ _ _ _ _ _ _ _ _)
   | (with_reducible exact ih8 _ _ _ _ _ _ _ _)
   | (with_reducible exact ih9 _ _ _)
   | (with_reducible exact impl_EventsDo.mono _ _ _ _)
   | (with_reducible exact laws_eqDisk.mono _ _ _ _ _)
   | (with_reducible exact laws_eqEventS.mono _ _ _)
   | (with_reducible exact laws_heldDisk.mono _ _ _ _)
   | (with_reducible exact laws_markDisk.mono _ _ _ _)
   | (with_reducible exact laws_markEventS.mono _ _ _)
   | (with_reducible exact laws_szDisk.mono _ _ _ _)
   | (with_reducible exact laws_szEventS.mono _ _ _)
   | (with_reducible exact laws_toDisk.mono _ _ _)
   | (with_reducible exact laws_toEventS.mono _ _)
   | (with_reducible exact spec_EventsDo.mono _ _ _ _)
   | (with_reducible exact LeO.refl _)
   | (with_reducible exact LeO.none _)
   | (with_reducible refine LeO.ite ?_ ?_)
   | (with_reducible refine LeO.bind ?_ (fun _ => ?_))
   | exact ih0 _ _ _ _
   | exact ih1 _ _ _
   | exact ih2 _ _ _ _ _ _ _ _ _ _
   | exact ih3 _ _ _ _ _ _ _ _ _ _
   | exact ih4 _ _ _ _ _ _ _ _ _ _
   | exact ih5 _ _ _ _ _ _ _ _
   | exact ih6 _ _ _ _ _ _ _
   | exact ih7 _ _ _ _ _ _ _ _ _
   | exact ih8 _ _ _ _ _ _ _ _
   | exact ih9 _ _ _
   | exact impl_EventsDo.mono _ _ _ _
   | exact laws_eqDisk.mono _ _ _ _ _
   | exact laws_eqEventS.mono _ _ _
   | exact laws_heldDisk.mono _ _ _ _
   | exact laws_markDisk.mono _ _ _ _
   | exact laws_markEventS.mono _ _ _
   | exact laws_szDisk.mono _ _ _ _
   | exact laws_szEventS.mono _ _ _
   | exact laws_toDisk.mono _ _ _
   | exact laws_toEventS.mono _ _
   | exact spec_EventsDo.mono _ _ _ _
   | exact LeO.none _
   | refine LeO.ite ?_ ?_
   | refine LeO.bind ?_ (fun _ => ?_)
  ·intro y0 y1 y2 y3 y4 y5 y6 y7
   unfold laws_FnExactEventsDo.j8
   repeat' first
   | (with_reducible exact ih0 _ _ _ _)
   | (with_reducible exact ih1 _ _ _)
   | (with_reducible exact ih2 _ _ _ _ _ _ _ _ _ _)
   | (with_reducible exact ih3 _ _ _ _ _ _ _ _ _ _)
   | (with_reducible exact ih4 _ _ _ _ _ _ _ _ _ _)
   | (with_reducible exact ih5 _ _ _ _ _ _ _ _)
   | (with_reducible exact ih6 _ _ _ _ _ _ _)
   | (with_reducible exact ih7 _ _ _ _ _ _ _ _ _)
   | (with_reducible exact ih8 _ _ _ _ _ _ _ _)
   | (with_reducible exact ih9 _ _ _)
   | (with_reducible exact impl_EventsDo.mono _ _ _ _)
   | (with_reducible exact laws_eqDisk.mono _ _ _ _ _)
   | (with_reducible exact laws_eqEventS.mono _ _ _)
   | (with_reducible exact laws_heldDisk.mono _ _ _ _)
   | (with_reducible exact laws_markDisk.mono _ _ _ _)
   | (with_reducible exact laws_markEventS.mono _ _ _)
   | (with_reducible exact laws_szDisk.mono _ _ _ _)
   | (with_reducible exact laws_szEventS.mono _ _ _)
   | (with_reducible exact laws_toDisk.mono _ _ _)
   | (with_reducible exact laws_toEventS.mono _ _)
   | (with_reducible exact spec_EventsDo.mono _ _ _ _)
   | (with_reducible exact LeO.refl _)
   | (with_reducible exact LeO.none _)
   | (with_reducible refine LeO.ite ?_ ?_)
   | (with_reducible refine LeO.bind ?_ (fun _ => ?_))
   | exact ih0 _ _ _ _
   | exact ih1 _ _ _
   | exact ih2 _ _ _ _ _ _ _ _ _ _
   | exact ih3 _ _ _ _ _ _ _ _ _ _
   | exact ih4 _ _ _ _ _ _ _ _ _ _
   | exact ih5 _ _ _ _ _ _ _ _
   | exact ih6 _ _ _ _ _ _ _
   | exact ih7 _ _ _ _ _ _ _ _ _
   | exact ih8 _ _ _ _ _ _ _ _
   | exact ih9 _ _ _
   | exact impl_EventsDo.mono _ _ _ _
   | exact laws_eqDisk.mono _ _ _ _ _
   | exact laws_eqEventS.mono _ _ _
   | exact laws_heldDisk.mono _ _ _ _
   | exact laws_markDisk.mono _ _ _ _
   | exact laws_markEventS.mono _ _ _
   | exact laws_szDisk.mono _ _ _ _
   | exact laws_szEventS.mono _ _ _
   | exact laws_toDisk.mono _ _ _
   | exact laws_toEventS.mono _ _
   | exact spec_EventsDo.mono _ _ _ _
   | exact LeO.none _
   | refine LeO.ite ?_ ?_
   | refine LeO.bind ?_ (fun _ => ?_)
  ·intro y0 y1 y2
   unfold laws_FnExactEventsDo.j9
   repeat' first
   | (with_reducible exact ih0 _ _ _ _)
   | (with_reducible exact ih1 _ _ _)
   | (with_reducible exact ih2 _ _ _ _ _ _ _ _ _ _)
   | (with_reducible exact ih3 _ _ _ _ _ _ _ _ _ _)
   | (with_reducible exact ih4 _ _ _ _ _ _ _ _ _ _)
   | (with_reducible exact ih5 _ _ _ _ _ _ _ _)
   | (with_reducible exact ih6 _ _ _ _ _ _ _)
   | (with_reducible exact ih7 _ _ _ _ _ _ _ _ _)
   | (with_reducible exact ih8 _ _ _ _ _ _ _ _)
   | (with_reducible exact ih9 _ _ _)
   | (with_reducible exact impl_EventsDo.mono _ _ _ _)
   | (with_reducible exact laws_eqDisk.mono _ _ _ _ _)
   | (with_reducible exact laws_eqEventS.mono _ _ _)
   | (with_reducible exact laws_heldDisk.mono _ _ _ _)
   | (with_reducible exact laws_markDisk.mono _ _ _ _)
   | (with_reducible exact laws_markEventS.mono _ _ _)
   | (with_reducible exact laws_szDisk.mono _ _ _ _)
   | (with_reducible exact laws_szEventS.mono _ _ _)
   | (with_reducible exact laws_toDisk.mono _ _ _)
   | (with_reducible exact laws_toEventS.mono _ _)
   | (with_reducible exact spec_EventsDo.mono _ _ _ _)
   | (with_reducible exact LeO.refl _)
   | (with_reducible exact LeO.none _)
   | (with_reducible refine LeO.ite ?_ ?_)
   | (with_reducible refine LeO.bind ?_ (fun _ => ?_))
   | exact ih0 _ _ _ _
   | exact ih1 _ _ _
   | exact ih2 _ _ _ _ _ _ _ _ _ _
   | exact ih3 _ _ _ _ _ _ _ _ _ _
   | exact ih4 _ _ _ _ _ _ _ _ _ _
   | exact ih5 _ _ _ _ _ _ _ _
   | exact ih6 _ _ _ _ _ _ _
   | exact ih7 _ _ _ _ _ _ _ _ _
   | exact ih8 _ _ _ _ _ _ _ _
   | exact ih9 _ _ _
   | exact impl_EventsDo.mono _ _ _ _
   | exact laws_eqDisk.mono _ _ _ _ _
   | exact laws_eqEventS.mono _ _ _
   | exact laws_heldDisk.mono _ _ _ _
   | exact laws_markDisk.mono _ _ _ _
   | exact laws_markEventS.mono _ _ _
   | exact laws_szDisk.mono _ _ _ _
   | exact laws_szEventS.mono _ _ _
   | exact laws_toDisk.mono _ _ _
   | exact laws_toEventS.mono _ _
   | exact spec_EventsDo.mono _ _ _ _
   | exact LeO.none _
   | refine LeO.ite ?_ ?_
   | refine LeO.bind ?_ (fun _ => ?_)
theorem laws_FnExactEventsDo.mono : ∀ a0 a1 a2 k, LeO (laws_FnExactEventsDo.f k a0 a1 a2) (laws_FnExactEventsDo.f (k + 1) a0 a1 a2) := by
 intro a0 a1 a2 k
 obtain ⟨ih0, ih1, ih2, ih3, ih4, ih5, ih6, ih7, ih8, ih9⟩ := laws_FnExactEventsDo.mono_l k
 unfold laws_FnExactEventsDo.f
 repeat' first
   | (with_reducible exact ih0 _ _ _ _)
   | (with_reducible exact ih1 _ _ _)
   | (with_reducible exact ih2 _ _ _ _ _ _ _ _ _ _)
   | (with_reducible exact ih3 _ _ _ _ _ _ _ _ _ _)
   | (with_reducible exact ih4 _ _ _ _ _ _ _ _ _ _)
   | (with_reducible exact ih5 _ _ _ _ _ _ _ _)
   | (with_reducible exact ih6 _ _ _ _ _ _ _)
   | (with_reducible exact ih7 _ _ _ _ _ _ _ _ _)
   | (with_reducible exact ih8 _ _ _ _ _ _ _ _)
   | (with_reducible exact ih9 _ _ _)
   | (with_reducible exact impl_EventsDo.mono _ _ _ _)
   | (with_reducible exact laws_eqDisk.mono _ _ _ _ _)
   | (with_reducible exact laws_eqEventS.mono _ _ _)
   | (with_reducible exact laws_heldDisk.mono _ _ _ _)
   | (with_reducible exact laws_markDisk.mono _ _ _ _)
   | (with_reducible exact laws_markEventS.mono _ _ _)
   | (with_reducible exact laws_szDisk.mono _ _ _ _)
   | (with_reducible exact laws_szEventS.mono _ _ _)
   | (with_reducible exact laws_toDisk.mono _ _ _)
   | (with_reducible exact laws_toEventS.mono _ _)
   | (with_reducible exact spec_EventsDo.mono _ _ _ _)
   | (with_reducible exact LeO.refl _)
   | (with_reducible exact LeO.none _)
   | (with_reducible refine LeO.ite ?_ ?_)
   | (with_reducible refine LeO.bind ?_ (fun _ => ?_))
   | exact ih0 _ _ _ _
   | exact ih1 _ _ _
   | exact ih2 _ _ _ _ _ _ _ _ _ _
   | exact ih3 _ _ _ _ _ _ _ _ _ _
   | exact ih4 _ _ _ _ _ _ _ _ _ _
   | exact ih5 _ _ _ _ _ _ _ _
   | exact ih6 _ _ _ _ _ _ _
   | exact ih7 _ _ _ _ _ _ _ _ _
   | exact ih8 _ _ _ _ _ _ _ _
   | exact ih9 _ _ _
   | exact impl_EventsDo.mono _ _ _ _
   | exact laws_eqDisk.mono _ _ _ _ _
   | exact laws_eqEventS.mono _ _ _
   | exact laws_heldDisk.mono _ _ _ _
   | exact laws_markDisk.mono _ _ _ _
   | exact laws_markEventS.mono _ _ _
   | exact laws_szDisk.mono _ _ _ _
   | exact laws_szEventS.mono _ _ _
   | exact laws_toDisk.mono _ _ _
   | exact laws_toEventS.mono _ _
   | exact spec_EventsDo.mono _ _ _ _
   | exact LeO.none _
   | refine LeO.ite ?_ ?_
   | refine LeO.bind ?_ (fun _ => ?_)
set_option maxHeartbeats 8000000 in
set_option maxRecDepth 100000 in
theorem laws_FnExactEventsDo.calls (k : Nat) (A0_0 : Option Addr) (c0_0 : Nat) (l0_0 : List ByteArray) (A0_1 : Option Addr) (c0_1 : Nat) (l0_1 : List (S111)) (A1 : Option Addr) (c1 : Nat) (l1 : List (S91)) (r : Bool) (w : World) (hr0_0 : Kd.C Kd.string w A0_0 l0_0.length l0_0) (hc0_0 : l0_0.length ≤ c0_0) (hr0_1 : Kd.C k111 w A0_1 l0_1.length l0_1) (hc0_1 : l0_1.length ≤ c0_1) (hr1 : Kd.C k91 w A1 l1.length l1) (hc1 : l1.length ≤ c1) (h : laws_FnExactEventsDo.f k l0_0 l0_1 l1 = some r) :
  Calls Try.prog 9 #[.agg #[.slice A0_0 l0_0.length c0_0, .slice A0_1 l0_1.length c0_1], .slice A1 l1.length c1] w fun e w' => e = .returned (.bool r) ∧ Below w.heap.size w w' := by
 have hu25 := Try.underlying25
 have hu30 := Try.underlying30
 have HR0_0 := Aside0.mk hr0_0
 have HC0_0 := Aside0.mk hc0_0
 clear hr0_0 hc0_0
 have HR0_1 := Aside0.mk hr0_1
 have HC0_1 := Aside0.mk hc0_1
 clear hr0_1 hc0_1
 have HR1 := Aside0.mk hr1
 have HC1 := Aside0.mk hc1
 clear hr1 hc1
 have HB := Aside0.mk (Below.refl w.heap.size w)
 unfold laws_FnExactEventsDo.f at h
 have H := h
 clear h
 replace H := Option.bind_eq_some_iff.mp H
 obtain ⟨t357, A30, H⟩ := H
 try dsimp only at H
 have A3 := Aside0.mk A30
 clear A30
 have HC4 := Aside0.mk H
 clear H
 go_enter Try.func9, Try.ntmps9
 go_upto_if 18 with (first | ((with_reducible refine gate_dst (N := 2) rfl ?_); refine bE 2 #[.slice A0_0 l0_0.length c0_0, .slice A0_1 l0_1.length c0_1] 25 ?_; intro gb356 hg w5 hbox hb; have n_ := And.intro (sB HB hb) (And.intro (Aside0.mk hbox) (And.intro (gE HB hg) (gE HB hg))); clear HB; obtain ⟨HB, BK356, GW356, GE356⟩ := n_; (try clear hb hbox hg); have hcz6_0 := cZ0 BK356; have hcz6_1 := cZ1 BK356; have hfz6_0 := blk_frozen BK356.out 0; have hfz6_1 := blk_frozen BK356.out 1) | ((with_reducible refine gate_callee (f := 15) rfl ?_); refine gL (some 16) Try.func15 #[.agg #[.slice A0_0 l0_0.length c0_0, .slice A0_1 l0_1.length c0_1], .int .i64 1048576] ?_; (with_reducible refine (laws_szDisk.calls k _ _ l0_0 _ _ l0_1 1048576 t357 _ ?side1 ?side2 ?side3 ?side4 A3.out).mono ?_); (case side1 => exact cS HR0_0 HB); (case side2 => exact HC0_0.out); (case side3 => exact cS HR0_1 HB); (case side4 => exact HC0_1.out); rintro e w7 ⟨rfl, hb⟩; refine ⟨_, rfl, ?_⟩; have n_ := And.intro (kB BK356 hb) (sB HB hb); clear BK356 HB; obtain ⟨BK356, HB⟩ := n_; (try clear hb)))
 (try simp only [Act.put, List.setIfInBounds_toArray, List.set_cons_zero, List.set_cons_succ])
 go_cut [] (fun wc => ∃ (kq : Nat), Aside0 (laws_FnExactEventsDo.j0 kq l1 t357 l0_0 l0_1 = some r) ∧ Aside0 (kq ≤ k) ∧ Aside0 (wc.heap[gb356]? = some (.cells #[(.slice A0_0 l0_0.length c0_0), (.slice A0_1 l0_1.length c0_1)] 25 (0, 0))) ∧ Aside0 (Below w.heap.size w wc))
 case first =>
  have H := HC4.out
  clear HC4
  by_cases c8 : t357 < 0
  ·rw [if_pos c8] at H
   have c8b0 : decide (t357 < 0) = true := decide_eq_true c8
   clear c8
   (first | rw [c8b0] | (simp only [i64_w, i32_w]; rw [c8b0]) | rw [c8b1] | rw [c8b2] | skip)
   obtain rfl := Option.some.inj H
   go_wp2
   go_ret
   exact ⟨eW, bB⟩
  rw [if_neg c8] at H
  have c8b0 : decide (t357 < 0) = false := decide_eq_false c8
  clear c8
  (first | rw [c8b0] | (simp only [i64_w, i32_w]; rw [c8b0]) | rw [c8b1] | rw [c8b2] | skip)
  have H' := Aside0.mk H
  clear H
  go_wp2
  go_meet
  case rel => exact ⟨_, H', ⟨by first | omega | exact Nat.le_refl _⟩, ⟨kP BK356⟩, ⟨bB⟩⟩
 case rest =>
  clear HC4
  try clear c1
  try clear p2
  try clear c8
  try clear c8b0
  try clear c8b1
  try clear c8b2
  try clear hcz6_0
  try clear hcz6_1
  try clear hfz6_0
  try clear hfz6_1
  obtain ⟨kq, HA, HJ3, BK356, HB⟩ := hcut
  cases kq with
  | zero => exact absurd HA.out (by simp [laws_FnExactEventsDo.j0])
  | succ kj3 =>
   have H := HA.out
   clear HA
   simp only [laws_FnExactEventsDo.j0] at H
   replace H := Option.bind_eq_some_iff.mp H
   obtain ⟨t358, A90, H⟩ := H
   try dsimp only at H
   have A9 := Aside0.mk A90
   clear A90
   have HC10 := Aside0.mk H
   clear H
   go_upto_if 23 with (first | ((with_reducible refine gate_callee (f := 38) rfl ?_); refine gL (some 21) Try.func38 #[.slice A1 l1.length c1, .int .i64 t357] ?_; (with_reducible refine (laws_szEventS.calls kj3 _ _ l1 t357 t358 _ ?side1 ?side2 A9.out).mono ?_); (case side1 => exact cS HR1 HB); (case side2 => exact HC1.out); rintro e w11 ⟨rfl, hb⟩; refine ⟨_, rfl, ?_⟩; have n_ := And.intro (kB BK356 hb) (sB HB hb); clear BK356 HB; obtain ⟨BK356, HB⟩ := n_; (try clear hb)))
   (try simp only [Act.put, List.setIfInBounds_toArray, List.set_cons_zero, List.set_cons_succ])
   go_cut [] (fun wc => ∃ (kq : Nat), Aside0 (laws_FnExactEventsDo.j1 kq l1 l0_0 l0_1 = some r) ∧ Aside0 (kq ≤ kj3) ∧ Aside0 (wc.heap[gb356]? = some (.cells #[(.slice A0_0 l0_0.length c0_0), (.slice A0_1 l0_1.length c0_1)] 25 (0, 0))) ∧ Aside0 (Below w.heap.size w wc))
   case first =>
    have H := HC10.out
    clear HC10
    by_cases c12 : t358 < 0
    ·rw [if_pos c12] at H
     have c12b0 : decide (t358 < 0) = true := decide_eq_true c12
     clear c12
     (first | rw [c12b0] | (simp only [i64_w, i32_w]; rw [c12b0]) | rw [c12b1] | rw [c12b2] | skip)
     obtain rfl := Option.some.inj H
     go_wp2
     go_ret
     exact ⟨eW, bB⟩
    ·rw [if_neg c12] at H
     have c12b0 : decide (t358 < 0) = false := decide_eq_false c12
     clear c12
     (first | rw [c12b0] | (simp only [i64_w, i32_w]; rw [c12b0]) | rw [c12b1] | rw [c12b2] | skip)
     have H' := Aside0.mk H
     clear H
     go_wp2
     go_meet
     case rel => exact ⟨_, H', ⟨by have := HJ3.out; first | omega | exact Nat.le_refl _⟩, ⟨kP BK356⟩, ⟨bB⟩⟩
   case rest =>
    clear HC10
    try clear c1
    try clear p2
    try clear c3
    try clear c8
    try clear c8b0
    try clear c8b1
    try clear c8b2
    try clear c9
    try clear c12
    try clear c12b0
    try clear c12b1
    try clear c12b2
    try clear hcz6_0
    try clear hcz6_1
    try clear hfz6_0
    try clear hfz6_1
    try clear p2
    obtain ⟨kq, HA, HJ9, BK356, HB⟩ := hcut
    cases kq with
    | zero => exact absurd HA.out (by simp [laws_FnExactEventsDo.j1])
    | succ kj9 =>
     have H := HA.out
     clear HA
     simp only [laws_FnExactEventsDo.j1] at H
     replace H := Option.bind_eq_some_iff.mp H
     obtain ⟨⟨t359, t362⟩, A130, H⟩ := H
     try dsimp only at H
     have A13 := Aside0.mk A130
     clear A130
     replace H := Option.bind_eq_some_iff.mp H
     obtain ⟨t365, A140, H⟩ := H
     try dsimp only at H
     have A14 := Aside0.mk A140
     clear A140
     replace H := Option.bind_eq_some_iff.mp H
     obtain ⟨⟨t368, t371⟩, A150, H⟩ := H
     try dsimp only at H
     have A15 := Aside0.mk A150
     clear A150
     replace H := Option.bind_eq_some_iff.mp H
     obtain ⟨⟨t375, t378⟩, A160, H⟩ := H
     try dsimp only at H
     have A16 := Aside0.mk A160
     clear A160
     replace H := Option.bind_eq_some_iff.mp H
     obtain ⟨t382, A170, H⟩ := H
     try dsimp only at H
     have A17 := Aside0.mk A170
     clear A170
     replace H := Option.bind_eq_some_iff.mp H
     obtain ⟨⟨t385, t388⟩, A180, H⟩ := H
     try dsimp only at H
     have A18 := Aside0.mk A180
     clear A180
     replace H := Option.bind_eq_some_iff.mp H
     obtain ⟨t392, A190, H⟩ := H
     try dsimp only at H
     have A19 := Aside0.mk A190
     clear A190
     have HC20 := Aside0.mk H
     clear H
     have hcz21_0 := cZ0 BK356
     have hcz21_1 := cZ1 BK356
     have hfz21_0 := blk_frozen BK356.out 0
     have hfz21_1 := blk_frozen BK356.out 1
     go_upto_if 39 with (first | ((with_reducible refine gate_callee (f := 17) rfl ?_); refine gL (some 25) Try.func17 #[.agg #[.slice A0_0 l0_0.length c0_0, .slice A0_1 l0_1.length c0_1]] ?_; (with_reducible refine (laws_toDisk.calls kj9 _ _ l0_0 _ _ l0_1 t359 t362 _ ?side1 ?side2 ?side3 ?side4 A13.out).mono ?_); (case side1 => exact cS HR0_0 HB); (case side2 => exact HC0_0.out); (case side3 => exact cS HR0_1 HB); (case side4 => exact HC0_1.out); rintro e w22 ⟨v360, v363, rfl, ho0, ho1, hb⟩; refine ⟨_, rfl, ?_⟩; have n_ := And.intro (lR HB ho0) (And.intro (lR HB ho1) (And.intro (kB BK356 hb) (sB HB hb))); clear BK356 HB; obtain ⟨HO361, HO364, BK356, HB⟩ := n_; (try clear hb ho0 ho1)) | ((with_reducible refine gate_callee (f := 40) rfl ?_); refine gL (some 27) Try.func40 #[.slice A1 l1.length c1] ?_; (with_reducible refine (laws_toEventS.calls kj9 _ _ l1 t365 _ ?side1 ?side2 A14.out).mono ?_); (case side1 => exact cS HR1 HB); (case side2 => exact HC1.out); rintro e w23 ⟨v366, rfl, ho0, hb⟩; refine ⟨_, rfl, ?_⟩; have n_ := And.intro (rB HO361 hb) (And.intro (rB HO364 hb) (And.intro (lR HB ho0) (And.intro (kB BK356 hb) (sB HB hb)))); clear HO361 HO364 BK356 HB; obtain ⟨HO361, HO364, HO367, BK356, HB⟩ := n_; (try clear hb ho0); obtain ⟨Ao24, co24, eo24⟩ := Kd.R_slice HO361.out; subst eo24; obtain ⟨Ao25, co25, eo25⟩ := Kd.R_slice HO364.out; subst eo25; obtain ⟨Ao26, co26, eo26⟩ := Kd.R_slice HO367.out; subst eo26) | ((with_reducible refine gate_callee (f := 39) rfl ?_); refine gL (some 28) Try.func39 #[.agg #[.slice Ao24 t359.length co24, .slice Ao25 t362.length co25], .slice Ao26 t365.length co26] ?_; (with_reducible refine (spec_EventsDo.calls kj9 _ _ t359 _ _ t362 _ _ t365 t368 t371 _ ?side1 ?side2 ?side3 ?side4 ?side5 ?side6 A15.out).mono ?_); (case side1 => exact cR HO361); (case side2 => exact (Kd.R_reads' HO361.out).2.1); (case side3 => exact cR HO364); (case side4 => exact (Kd.R_reads' HO364.out).2.1); (case side5 => exact cR HO367); (case side6 => exact (Kd.R_reads' HO367.out).2.1); rintro e w27 ⟨v369, v372, rfl, ho0, ho1, hb⟩; refine ⟨_, rfl, ?_⟩; have n_ := And.intro (eR HO361 ho0 hb) (And.intro (eR HO364 ho1 hb) (And.intro (rB HO367 hb) (And.intro (Aside0.mk (Kd.R_lower (Kd.R_new' ho0 (rL HO361)) (zB HB))) (And.intro (Aside0.mk (Kd.R_lower (Kd.R_new' ho1 (rL HO364)) (zB HB))) (And.intro (kB BK356 hb) (sB HB hb)))))); clear HO361 HO364 HO367 BK356 HB; obtain ⟨HO361, HO364, HO367, HO370, HO373, BK356, HB⟩ := n_; (try clear hb ho0 ho1)) | ((with_reducible refine gate_dst (N := 6) rfl ?_); refine bE 6 #[.slice none 0 0, .slice none 0 0] 30 ?_; intro gb374 hg w28 hbox hb; have n_ := And.intro (rB HO361 hb) (And.intro (rB HO364 hb) (And.intro (rB HO367 hb) (And.intro (rB HO370 hb) (And.intro (rB HO373 hb) (And.intro (kB BK356 hb) (And.intro (sB HB hb) (And.intro (Aside0.mk hbox) (And.intro (gE HB hg) (And.intro (gE HB hg) (And.intro (nL BK356 hg) (nG BK356 hg))))))))))); clear HO361 HO364 HO367 HO370 HO373 BK356 HB; obtain ⟨HO361, HO364, HO367, HO370, HO373, BK356, HB, BK374, GW374, GE374, NB356_374, NB374_356⟩ := n_; (try clear hb hbox hg); obtain ⟨Ao29, co29, eo29⟩ := Kd.R_slice HO370.out; subst eo29; have hnb30 := NB374_356.out; have hnc30 := NB356_374.out; have hcz31_0 := cZ0 BK374; have hcz31_1 := cZ1 BK374; have hfz31_0 := blk_frozen BK374.out 0; have hfz31_1 := blk_frozen BK374.out 1; obtain ⟨Ao32, co32, eo32⟩ := Kd.R_slice HO373.out; subst eo32; have hcz33_0 := cZ0 BK356; have hcz33_1 := cZ1 BK356; have hfz33_0 := blk_frozen BK356.out 0; have hfz33_1 := blk_frozen BK356.out 1) | ((with_reducible refine gate_callee (f := 17) rfl ?_); refine gL (some 30) Try.func17 #[.agg #[.slice A0_0 l0_0.length c0_0, .slice A0_1 l0_1.length c0_1]] ?_; (with_reducible refine (laws_toDisk.calls kj9 _ _ l0_0 _ _ l0_1 t375 t378 _ ?side1 ?side2 ?side3 ?side4 A16.out).mono ?_); (case side1 => exact cS HR0_0 HB); (case side2 => exact HC0_0.out); (case side3 => exact cS HR0_1 HB); (case side4 => exact HC0_1.out); rintro e w34 ⟨v376, v379, rfl, ho0, ho1, hb⟩; refine ⟨_, rfl, ?_⟩; have n_ := And.intro (Aside0.mk (Kd.R_elder' (rP (Kd.R_mono (Kd.R_far (p := ⟨gb374, 1, none⟩) (Kd.R_far (p := ⟨gb374, 0, none⟩) (Kd.R_types HO361.out BK374.out (by decide)) (fun _ hk => hk.2) (.slice Ao29 t368.length co29)) (fun _ hk => hk.2) (.slice Ao32 t371.length co32)) (fun _ h_ => h_.1))) (Kd.R_base ho0) hb)) (And.intro (Aside0.mk (Kd.R_elder' (rP (Kd.R_mono (Kd.R_far (p := ⟨gb374, 1, none⟩) (Kd.R_far (p := ⟨gb374, 0, none⟩) (Kd.R_types HO364.out BK374.out (by decide)) (fun _ hk => hk.2) (.slice Ao29 t368.length co29)) (fun _ hk => hk.2) (.slice Ao32 t371.length co32)) (fun _ h_ => h_.1))) (Kd.R_base ho1) hb)) (And.intro (Aside0.mk (Kd.R_below (rP (Kd.R_mono (Kd.R_far (p := ⟨gb374, 1, none⟩) (Kd.R_far (p := ⟨gb374, 0, none⟩) (Kd.R_types HO367.out BK374.out (by decide)) (fun _ hk => hk.2) (.slice Ao29 t368.length co29)) (fun _ hk => hk.2) (.slice Ao32 t371.length co32)) (fun _ h_ => h_.1))) hb)) (And.intro (Aside0.mk (Kd.R_elder' (rP (Kd.R_mono (Kd.R_far (p := ⟨gb374, 1, none⟩) (Kd.R_far (p := ⟨gb374, 0, none⟩) (Kd.R_types HO370.out BK374.out (by decide)) (fun _ hk => hk.2) (.slice Ao29 t368.length co29)) (fun _ hk => hk.2) (.slice Ao32 t371.length co32)) (fun _ h_ => h_.1))) (Kd.R_base ho0) hb)) (And.intro (Aside0.mk (Kd.R_elder' (rP (Kd.R_mono (Kd.R_far (p := ⟨gb374, 1, none⟩) (Kd.R_far (p := ⟨gb374, 0, none⟩) (Kd.R_types HO373.out BK374.out (by decide)) (fun _ hk => hk.2) (.slice Ao29 t368.length co29)) (fun _ hk => hk.2) (.slice Ao32 t371.length co32)) (fun _ h_ => h_.1))) (Kd.R_base ho1) hb)) (And.intro (Aside0.mk (Kd.R_lower (Kd.R_new' (Kd.R_new' ho0 (Kd.R_lt (rP (Kd.R_mono (Kd.R_far (p := ⟨gb374, 1, none⟩) (Kd.R_far (p := ⟨gb374, 0, none⟩) (Kd.R_types HO361.out BK374.out (by decide)) (fun _ hk => hk.2) (.slice Ao29 t368.length co29)) (fun _ hk => hk.2) (.slice Ao32 t371.length co32)) (fun _ h_ => h_.1))))) (Kd.R_lt (rP (Kd.R_mono (Kd.R_far (p := ⟨gb374, 1, none⟩) (Kd.R_far (p := ⟨gb374, 0, none⟩) (Kd.R_types HO370.out BK374.out (by decide)) (fun _ hk => hk.2) (.slice Ao29 t368.length co29)) (fun _ hk => hk.2) (.slice Ao32 t371.length co32)) (fun _ h_ => h_.1))))) (zB HB))) (And.intro (Aside0.mk (Kd.R_lower (Kd.R_new' (Kd.R_new' ho1 (Kd.R_lt (rP (Kd.R_mono (Kd.R_far (p := ⟨gb374, 1, none⟩) (Kd.R_far (p := ⟨gb374, 0, none⟩) (Kd.R_types HO364.out BK374.out (by decide)) (fun _ hk => hk.2) (.slice Ao29 t368.length co29)) (fun _ hk => hk.2) (.slice Ao32 t371.length co32)) (fun _ h_ => h_.1))))) (Kd.R_lt (rP (Kd.R_mono (Kd.R_far (p := ⟨gb374, 1, none⟩) (Kd.R_far (p := ⟨gb374, 0, none⟩) (Kd.R_types HO373.out BK374.out (by decide)) (fun _ hk => hk.2) (.slice Ao29 t368.length co29)) (fun _ hk => hk.2) (.slice Ao32 t371.length co32)) (fun _ h_ => h_.1))))) (zB HB))) (And.intro (kB BK356 hb) (And.intro (Aside0.mk (blk_below (g := gb374) (o := .cells #[.slice Ao29 t368.length co29, .slice Ao32 t371.length co32] 30 (0, 0)) (by (with_reducible repeat (first | refine blk_drewN ?_ _ | refine blk_drew ?_ | refine blk_alloc ?_ _)); refine blk_put (cs := #[.slice Ao29 t368.length co29, .slice none 0 0]) ?_ 1 _ rfl; (with_reducible repeat (first | refine blk_drewN ?_ _ | refine blk_drew ?_ | refine blk_alloc ?_ _)); refine blk_put (cs := #[.slice none 0 0, .slice none 0 0]) ?_ 0 _ rfl; (with_reducible repeat (first | refine blk_drewN ?_ _ | refine blk_drew ?_ | refine blk_alloc ?_ _)); exact BK374.out) hb)) (sB HB hb))))))))); clear HO361 HO364 HO367 HO370 HO373 BK356 BK374 HB; obtain ⟨HO361, HO364, HO367, HO370, HO373, HO377, HO380, BK356, BK374, HB⟩ := n_; (try clear hb ho0 ho1)) | ((with_reducible refine gate_dst (N := 7) rfl ?_); refine bE 7 #[.slice none 0 0, .slice none 0 0] 30 ?_; intro gb381 hg w35 hbox hb; have n_ := And.intro (rB HO361 hb) (And.intro (rB HO364 hb) (And.intro (rB HO367 hb) (And.intro (rB HO370 hb) (And.intro (rB HO373 hb) (And.intro (rB HO377 hb) (And.intro (rB HO380 hb) (And.intro (kB BK356 hb) (And.intro (kB BK374 hb) (And.intro (sB HB hb) (And.intro (Aside0.mk hbox) (And.intro (gE HB hg) (And.intro (gE HB hg) (And.intro (nL BK356 hg) (And.intro (nG BK356 hg) (And.intro (nL BK374 hg) (nG BK374 hg)))))))))))))))); clear HO361 HO364 HO367 HO370 HO373 HO377 HO380 BK356 BK374 HB; obtain ⟨HO361, HO364, HO367, HO370, HO373, HO377, HO380, BK356, BK374, HB, BK381, GW381, GE381, NB356_381, NB381_356, NB374_381, NB381_374⟩ := n_; (try clear hb hbox hg); obtain ⟨Ao36, co36, eo36⟩ := Kd.R_slice HO377.out; subst eo36; have hnb37 := NB381_356.out; have hnc37 := NB356_381.out; have hnb38 := NB381_374.out; have hnc38 := NB374_381.out; have hcz39_0 := cZ0 BK381; have hcz39_1 := cZ1 BK381; have hfz39_0 := blk_frozen BK381.out 0; have hfz39_1 := blk_frozen BK381.out 1; obtain ⟨Ao40, co40, eo40⟩ := Kd.R_slice HO380.out; subst eo40) | ((with_reducible refine gate_callee (f := 40) rfl ?_); refine gL (some 32) Try.func40 #[.slice A1 l1.length c1] ?_; (with_reducible refine (laws_toEventS.calls kj9 _ _ l1 t382 _ ?side1 ?side2 A17.out).mono ?_); (case side1 => exact cS HR1 HB); (case side2 => exact HC1.out); rintro e w41 ⟨v383, rfl, ho0, hb⟩; refine ⟨_, rfl, ?_⟩; have n_ := And.intro (Aside0.mk (Kd.R_below (rP (Kd.R_mono (Kd.R_far (p := ⟨gb381, 1, none⟩) (Kd.R_far (p := ⟨gb381, 0, none⟩) (Kd.R_types HO361.out BK381.out (by decide)) (fun _ hk => hk.2) (.slice Ao36 t375.length co36)) (fun _ hk => hk.2) (.slice Ao40 t378.length co40)) (fun _ h_ => h_.1))) hb)) (And.intro (Aside0.mk (Kd.R_below (rP (Kd.R_mono (Kd.R_far (p := ⟨gb381, 1, none⟩) (Kd.R_far (p := ⟨gb381, 0, none⟩) (Kd.R_types HO364.out BK381.out (by decide)) (fun _ hk => hk.2) (.slice Ao36 t375.length co36)) (fun _ hk => hk.2) (.slice Ao40 t378.length co40)) (fun _ h_ => h_.1))) hb)) (And.intro (Aside0.mk (Kd.R_elder' (rP (Kd.R_mono (Kd.R_far (p := ⟨gb381, 1, none⟩) (Kd.R_far (p := ⟨gb381, 0, none⟩) (Kd.R_types HO367.out BK381.out (by decide)) (fun _ hk => hk.2) (.slice Ao36 t375.length co36)) (fun _ hk => hk.2) (.slice Ao40 t378.length co40)) (fun _ h_ => h_.1))) (Kd.R_base ho0) hb)) (And.intro (Aside0.mk (Kd.R_below (rP (Kd.R_mono (Kd.R_far (p := ⟨gb381, 1, none⟩) (Kd.R_far (p := ⟨gb381, 0, none⟩) (Kd.R_types HO370.out BK381.out (by decide)) (fun _ hk => hk.2) (.slice Ao36 t375.length co36)) (fun _ hk => hk.2) (.slice Ao40 t378.length co40)) (fun _ h_ => h_.1))) hb)) (And.intro (Aside0.mk (Kd.R_below (rP (Kd.R_mono (Kd.R_far (p := ⟨gb381, 1, none⟩) (Kd.R_far (p := ⟨gb381, 0, none⟩) (Kd.R_types HO373.out BK381.out (by decide)) (fun _ hk => hk.2) (.slice Ao36 t375.length co36)) (fun _ hk => hk.2) (.slice Ao40 t378.length co40)) (fun _ h_ => h_.1))) hb)) (And.intro (Aside0.mk (Kd.R_below (rP (Kd.R_mono (Kd.R_far (p := ⟨gb381, 1, none⟩) (Kd.R_far (p := ⟨gb381, 0, none⟩) (Kd.R_types HO377.out BK381.out (by decide)) (fun _ hk => hk.2) (.slice Ao36 t375.length co36)) (fun _ hk => hk.2) (.slice Ao40 t378.length co40)) (fun _ h_ => h_.1))) hb)) (And.intro (Aside0.mk (Kd.R_below (rP (Kd.R_mono (Kd.R_far (p := ⟨gb381, 1, none⟩) (Kd.R_far (p := ⟨gb381, 0, none⟩) (Kd.R_types HO380.out BK381.out (by decide)) (fun _ hk => hk.2) (.slice Ao36 t375.length co36)) (fun _ hk => hk.2) (.slice Ao40 t378.length co40)) (fun _ h_ => h_.1))) hb)) (And.intro (Aside0.mk (Kd.R_lower (Kd.R_new' ho0 (Kd.R_lt (rP (Kd.R_mono (Kd.R_far (p := ⟨gb381, 1, none⟩) (Kd.R_far (p := ⟨gb381, 0, none⟩) (Kd.R_types HO367.out BK381.out (by decide)) (fun _ hk => hk.2) (.slice Ao36 t375.length co36)) (fun _ hk => hk.2) (.slice Ao40 t378.length co40)) (fun _ h_ => h_.1))))) (zB HB))) (And.intro (kB BK356 hb) (And.intro (kB BK374 hb) (And.intro (Aside0.mk (blk_below (g := gb381) (o := .cells #[.slice Ao36 t375.length co36, .slice Ao40 t378.length co40] 30 (0, 0)) (by (with_reducible repeat (first | refine blk_drewN ?_ _ | refine blk_drew ?_ | refine blk_alloc ?_ _)); refine blk_put (cs := #[.slice Ao36 t375.length co36, .slice none 0 0]) ?_ 1 _ rfl; (with_reducible repeat (first | refine blk_drewN ?_ _ | refine blk_drew ?_ | refine blk_alloc ?_ _)); refine blk_put (cs := #[.slice none 0 0, .slice none 0 0]) ?_ 0 _ rfl; (with_reducible repeat (first | refine blk_drewN ?_ _ | refine blk_drew ?_ | refine blk_alloc ?_ _)); exact BK381.out) hb)) (sB HB hb))))))))))); clear HO361 HO364 HO367 HO370 HO373 HO377 HO380 BK356 BK374 BK381 HB; obtain ⟨HO361, HO364, HO367, HO370, HO373, HO377, HO380, HO384, BK356, BK374, BK381, HB⟩ := n_; (try clear hb ho0); have hcz42_0 := cZ0 BK381; have hcz42_1 := cZ1 BK381; have hfz42_0 := blk_frozen BK381.out 0; have hfz42_1 := blk_frozen BK381.out 1; obtain ⟨Ao43, co43, eo43⟩ := Kd.R_slice HO384.out; subst eo43) | ((with_reducible refine gate_callee (f := 41) rfl ?_); refine gL (some 35) Try.func41 #[.agg #[.slice Ao36 t375.length co36, .slice Ao40 t378.length co40], .slice Ao43 t382.length co43] ?_; (with_reducible refine (impl_EventsDo.calls kj9 _ _ t375 _ _ t378 _ _ t382 t385 t388 _ ?side1 ?side2 ?side3 ?side4 ?side5 ?side6 A18.out).mono ?_); (case side1 => exact cR HO377); (case side2 => exact (Kd.R_reads' HO377.out).2.1); (case side3 => exact cR HO380); (case side4 => exact (Kd.R_reads' HO380.out).2.1); (case side5 => exact cR HO384); (case side6 => exact (Kd.R_reads' HO384.out).2.1); rintro e w44 ⟨v386, v389, rfl, ho0, ho1, hb⟩; refine ⟨_, rfl, ?_⟩; have n_ := And.intro (eR HO361 ho0 hb) (And.intro (eR HO364 ho1 hb) (And.intro (rB HO367 hb) (And.intro (eR HO370 ho0 hb) (And.intro (eR HO373 ho1 hb) (And.intro (eR HO377 ho0 hb) (And.intro (eR HO380 ho1 hb) (And.intro (rB HO384 hb) (And.intro (Aside0.mk (Kd.R_lower (Kd.R_new' (Kd.R_new' (Kd.R_new' ho0 (rL HO361)) (rL HO370)) (rL HO377)) (zB HB))) (And.intro (Aside0.mk (Kd.R_lower (Kd.R_new' (Kd.R_new' (Kd.R_new' ho1 (rL HO364)) (rL HO373)) (rL HO380)) (zB HB))) (And.intro (kB BK356 hb) (And.intro (kB BK374 hb) (And.intro (kB BK381 hb) (sB HB hb))))))))))))); clear HO361 HO364 HO367 HO370 HO373 HO377 HO380 HO384 BK356 BK374 BK381 HB; obtain ⟨HO361, HO364, HO367, HO370, HO373, HO377, HO380, HO384, HO387, HO390, BK356, BK374, BK381, HB⟩ := n_; (try clear hb ho0 ho1)) | ((with_reducible refine gate_dst (N := 9) rfl ?_); refine bE 9 #[.slice none 0 0, .slice none 0 0] 30 ?_; intro gb391 hg w45 hbox hb; have n_ := And.intro (rB HO361 hb) (And.intro (rB HO364 hb) (And.intro (rB HO367 hb) (And.intro (rB HO370 hb) (And.intro (rB HO373 hb) (And.intro (rB HO377 hb) (And.intro (rB HO380 hb) (And.intro (rB HO384 hb) (And.intro (rB HO387 hb) (And.intro (rB HO390 hb) (And.intro (kB BK356 hb) (And.intro (kB BK374 hb) (And.intro (kB BK381 hb) (And.intro (sB HB hb) (And.intro (Aside0.mk hbox) (And.intro (gE HB hg) (And.intro (gE HB hg) (And.intro (nL BK356 hg) (And.intro (nG BK356 hg) (And.intro (nL BK374 hg) (And.intro (nG BK374 hg) (And.intro (nL BK381 hg) (nG BK381 hg)))))))))))))))))))))); clear HO361 HO364 HO367 HO370 HO373 HO377 HO380 HO384 HO387 HO390 BK356 BK374 BK381 HB; obtain ⟨HO361, HO364, HO367, HO370, HO373, HO377, HO380, HO384, HO387, HO390, BK356, BK374, BK381, HB, BK391, GW391, GE391, NB356_391, NB391_356, NB374_391, NB391_374, NB381_391, NB391_381⟩ := n_; (try clear hb hbox hg); obtain ⟨Ao46, co46, eo46⟩ := Kd.R_slice HO387.out; subst eo46; have hnb47 := NB391_356.out; have hnc47 := NB356_391.out; have hnb48 := NB391_374.out; have hnc48 := NB374_391.out; have hnb49 := NB391_381.out; have hnc49 := NB381_391.out; have hcz50_0 := cZ0 BK391; have hcz50_1 := cZ1 BK391; have hfz50_0 := blk_frozen BK391.out 0; have hfz50_1 := blk_frozen BK391.out 1; obtain ⟨Ao51, co51, eo51⟩ := Kd.R_slice HO390.out; subst eo51; have hcz52_0 := cZ0 BK374; have hcz52_1 := cZ1 BK374; have hfz52_0 := blk_frozen BK374.out 0; have hfz52_1 := blk_frozen BK374.out 1) | ((with_reducible refine gate_callee (f := 19) rfl ?_); refine gL (some 38) Try.func19 #[.agg #[.slice Ao46 t385.length co46, .slice Ao51 t388.length co51], .agg #[.slice Ao29 t368.length co29, .slice Ao32 t371.length co32]] ?_; (with_reducible refine (laws_eqDisk.calls kj9 _ _ t385 _ _ t388 _ _ t368 _ _ t371 t392 _ ?side1 ?side2 ?side3 ?side4 ?side5 ?side6 ?side7 ?side8 A19.out).mono ?_); (case side1 => refine (Kd.R_reads' (e := 9) (base := w.heap.size) (ok := fun k_ => (((True ∧ some k_ ≠ (.slice Ao24 t359.length co24 : Value).ownBlock) ∧ some k_ ≠ (.slice Ao29 t368.length co29 : Value).ownBlock) ∧ some k_ ≠ (.slice Ao36 t375.length co36 : Value).ownBlock)) (n := t385.length) (c := co46) ?_).2.2; exact (rP (Kd.R_mono (Kd.R_far (p := ⟨gb391, 1, none⟩) (Kd.R_far (p := ⟨gb391, 0, none⟩) (Kd.R_types HO387.out BK391.out (by decide)) (fun _ hk => hk.2) (.slice Ao46 t385.length co46)) (fun _ hk => hk.2) (.slice Ao51 t388.length co51)) (fun _ h_ => h_.1)))); (case side2 => exact (Kd.R_reads' HO387.out).2.1); (case side3 => refine (Kd.R_reads' (e := 65) (base := w.heap.size) (ok := fun k_ => (((True ∧ some k_ ≠ (.slice Ao25 t362.length co25 : Value).ownBlock) ∧ some k_ ≠ (.slice Ao32 t371.length co32 : Value).ownBlock) ∧ some k_ ≠ (.slice Ao40 t378.length co40 : Value).ownBlock)) (n := t388.length) (c := co51) ?_).2.2; exact (rP (Kd.R_mono (Kd.R_far (p := ⟨gb391, 1, none⟩) (Kd.R_far (p := ⟨gb391, 0, none⟩) (Kd.R_types HO390.out BK391.out (by decide)) (fun _ hk => hk.2) (.slice Ao46 t385.length co46)) (fun _ hk => hk.2) (.slice Ao51 t388.length co51)) (fun _ h_ => h_.1)))); (case side4 => exact (Kd.R_reads' HO390.out).2.1); (case side5 => refine (Kd.R_reads' (e := 9) (base := w.heap.size) (ok := fun k_ => (((True ∧ some k_ ≠ (.slice Ao24 t359.length co24 : Value).ownBlock) ∧ some k_ ≠ (.slice Ao36 t375.length co36 : Value).ownBlock) ∧ some k_ ≠ (.slice Ao46 t385.length co46 : Value).ownBlock)) (n := t368.length) (c := co29) ?_).2.2; exact (rP (Kd.R_mono (Kd.R_far (p := ⟨gb391, 1, none⟩) (Kd.R_far (p := ⟨gb391, 0, none⟩) (Kd.R_types HO370.out BK391.out (by decide)) (fun _ hk => hk.2) (.slice Ao46 t385.length co46)) (fun _ hk => hk.2) (.slice Ao51 t388.length co51)) (fun _ h_ => h_.1)))); (case side6 => exact (Kd.R_reads' HO370.out).2.1); (case side7 => refine (Kd.R_reads' (e := 65) (base := w.heap.size) (ok := fun k_ => (((True ∧ some k_ ≠ (.slice Ao25 t362.length co25 : Value).ownBlock) ∧ some k_ ≠ (.slice Ao40 t378.length co40 : Value).ownBlock) ∧ some k_ ≠ (.slice Ao51 t388.length co51 : Value).ownBlock)) (n := t371.length) (c := co32) ?_).2.2; exact (rP (Kd.R_mono (Kd.R_far (p := ⟨gb391, 1, none⟩) (Kd.R_far (p := ⟨gb391, 0, none⟩) (Kd.R_types HO373.out BK391.out (by decide)) (fun _ hk => hk.2) (.slice Ao46 t385.length co46)) (fun _ hk => hk.2) (.slice Ao51 t388.length co51)) (fun _ h_ => h_.1)))); (case side8 => exact (Kd.R_reads' HO373.out).2.1); rintro e w53 ⟨rfl, hb⟩; refine ⟨_, rfl, ?_⟩; have n_ := And.intro (Aside0.mk (Kd.R_below (rP (Kd.R_mono (Kd.R_far (p := ⟨gb391, 1, none⟩) (Kd.R_far (p := ⟨gb391, 0, none⟩) (Kd.R_types HO361.out BK391.out (by decide)) (fun _ hk => hk.2) (.slice Ao46 t385.length co46)) (fun _ hk => hk.2) (.slice Ao51 t388.length co51)) (fun _ h_ => h_.1))) hb)) (And.intro (Aside0.mk (Kd.R_below (rP (Kd.R_mono (Kd.R_far (p := ⟨gb391, 1, none⟩) (Kd.R_far (p := ⟨gb391, 0, none⟩) (Kd.R_types HO364.out BK391.out (by decide)) (fun _ hk => hk.2) (.slice Ao46 t385.length co46)) (fun _ hk => hk.2) (.slice Ao51 t388.length co51)) (fun _ h_ => h_.1))) hb)) (And.intro (Aside0.mk (Kd.R_below (rP (Kd.R_mono (Kd.R_far (p := ⟨gb391, 1, none⟩) (Kd.R_far (p := ⟨gb391, 0, none⟩) (Kd.R_types HO367.out BK391.out (by decide)) (fun _ hk => hk.2) (.slice Ao46 t385.length co46)) (fun _ hk => hk.2) (.slice Ao51 t388.length co51)) (fun _ h_ => h_.1))) hb)) (And.intro (Aside0.mk (Kd.R_below (rP (Kd.R_mono (Kd.R_far (p := ⟨gb391, 1, none⟩) (Kd.R_far (p := ⟨gb391, 0, none⟩) (Kd.R_types HO370.out BK391.out (by decide)) (fun _ hk => hk.2) (.slice Ao46 t385.length co46)) (fun _ hk => hk.2) (.slice Ao51 t388.length co51)) (fun _ h_ => h_.1))) hb)) (And.intro (Aside0.mk (Kd.R_below (rP (Kd.R_mono (Kd.R_far (p := ⟨gb391, 1, none⟩) (Kd.R_far (p := ⟨gb391, 0, none⟩) (Kd.R_types HO373.out BK391.out (by decide)) (fun _ hk => hk.2) (.slice Ao46 t385.length co46)) (fun _ hk => hk.2) (.slice Ao51 t388.length co51)) (fun _ h_ => h_.1))) hb)) (And.intro (Aside0.mk (Kd.R_below (rP (Kd.R_mono (Kd.R_far (p := ⟨gb391, 1, none⟩) (Kd.R_far (p := ⟨gb391, 0, none⟩) (Kd.R_types HO377.out BK391.out (by decide)) (fun _ hk => hk.2) (.slice Ao46 t385.length co46)) (fun _ hk => hk.2) (.slice Ao51 t388.length co51)) (fun _ h_ => h_.1))) hb)) (And.intro (Aside0.mk (Kd.R_below (rP (Kd.R_mono (Kd.R_far (p := ⟨gb391, 1, none⟩) (Kd.R_far (p := ⟨gb391, 0, none⟩) (Kd.R_types HO380.out BK391.out (by decide)) (fun _ hk => hk.2) (.slice Ao46 t385.length co46)) (fun _ hk => hk.2) (.slice Ao51 t388.length co51)) (fun _ h_ => h_.1))) hb)) (And.intro (Aside0.mk (Kd.R_below (rP (Kd.R_mono (Kd.R_far (p := ⟨gb391, 1, none⟩) (Kd.R_far (p := ⟨gb391, 0, none⟩) (Kd.R_types HO384.out BK391.out (by decide)) (fun _ hk => hk.2) (.slice Ao46 t385.length co46)) (fun _ hk => hk.2) (.slice Ao51 t388.length co51)) (fun _ h_ => h_.1))) hb)) (And.intro (Aside0.mk (Kd.R_below (rP (Kd.R_mono (Kd.R_far (p := ⟨gb391, 1, none⟩) (Kd.R_far (p := ⟨gb391, 0, none⟩) (Kd.R_types HO387.out BK391.out (by decide)) (fun _ hk => hk.2) (.slice Ao46 t385.length co46)) (fun _ hk => hk.2) (.slice Ao51 t388.length co51)) (fun _ h_ => h_.1))) hb)) (And.intro (Aside0.mk (Kd.R_below (rP (Kd.R_mono (Kd.R_far (p := ⟨gb391, 1, none⟩) (Kd.R_far (p := ⟨gb391, 0, none⟩) (Kd.R_types HO390.out BK391.out (by decide)) (fun _ hk => hk.2) (.slice Ao46 t385.length co46)) (fun _ hk => hk.2) (.slice Ao51 t388.length co51)) (fun _ h_ => h_.1))) hb)) (And.intro (kB BK356 hb) (And.intro (kB BK374 hb) (And.intro (kB BK381 hb) (And.intro (Aside0.mk (blk_below (g := gb391) (o := .cells #[.slice Ao46 t385.length co46, .slice Ao51 t388.length co51] 30 (0, 0)) (by (with_reducible repeat (first | refine blk_drewN ?_ _ | refine blk_drew ?_ | refine blk_alloc ?_ _)); refine blk_put (cs := #[.slice Ao46 t385.length co46, .slice none 0 0]) ?_ 1 _ rfl; (with_reducible repeat (first | refine blk_drewN ?_ _ | refine blk_drew ?_ | refine blk_alloc ?_ _)); refine blk_put (cs := #[.slice none 0 0, .slice none 0 0]) ?_ 0 _ rfl; (with_reducible repeat (first | refine blk_drewN ?_ _ | refine blk_drew ?_ | refine blk_alloc ?_ _)); exact BK391.out) hb)) (sB HB hb)))))))))))))); clear HO361 HO364 HO367 HO370 HO373 HO377 HO380 HO384 HO387 HO390 BK356 BK374 BK381 BK391 HB; obtain ⟨HO361, HO364, HO367, HO370, HO373, HO377, HO380, HO384, HO387, HO390, BK356, BK374, BK381, BK391, HB⟩ := n_; (try clear hb)))
     (try simp only [Act.put, List.setIfInBounds_toArray, List.set_cons_zero, List.set_cons_succ])
     go_cut [] (fun wc => ∃ (kq : Nat), Aside0 (laws_FnExactEventsDo.j2 kq l1 t382 l0_0 l0_1 t368 t371 t375 t378 t385 t388 = some r) ∧ Aside0 (kq ≤ kj9) ∧ Aside0 (Kd.R k92 92 wc w.heap.size (fun _ => True) (.slice Ao43 t382.length co43) t382) ∧ Aside0 (Kd.R Kd.string 9 wc w.heap.size (fun k_ => some k_ ≠ ((.slice Ao36 t375.length co36) : Value).ownBlock ∧ some k_ ≠ ((.slice Ao46 t385.length co46) : Value).ownBlock) (.slice Ao29 t368.length co29) t368) ∧ Aside0 (Kd.R k65 65 wc w.heap.size (fun k_ => some k_ ≠ ((.slice Ao40 t378.length co40) : Value).ownBlock ∧ some k_ ≠ ((.slice Ao51 t388.length co51) : Value).ownBlock) (.slice Ao32 t371.length co32) t371) ∧ Aside0 (Kd.R Kd.string 9 wc w.heap.size (fun k_ => some k_ ≠ ((.slice Ao29 t368.length co29) : Value).ownBlock ∧ some k_ ≠ ((.slice Ao46 t385.length co46) : Value).ownBlock) (.slice Ao36 t375.length co36) t375) ∧ Aside0 (Kd.R k65 65 wc w.heap.size (fun k_ => some k_ ≠ ((.slice Ao32 t371.length co32) : Value).ownBlock ∧ some k_ ≠ ((.slice Ao51 t388.length co51) : Value).ownBlock) (.slice Ao40 t378.length co40) t378) ∧ Aside0 (Kd.R Kd.string 9 wc w.heap.size (fun k_ => some k_ ≠ ((.slice Ao29 t368.length co29) : Value).ownBlock ∧ some k_ ≠ ((.slice Ao36 t375.length co36) : Value).ownBlock) (.slice Ao46 t385.length co46) t385) ∧ Aside0 (Kd.R k65 65 wc w.heap.size (fun k_ => some k_ ≠ ((.slice Ao32 t371.length co32) : Value).ownBlock ∧ some k_ ≠ ((.slice Ao40 t378.length co40) : Value).ownBlock) (.slice Ao51 t388.length co51) t388) ∧ Aside0 (wc.heap[gb356]? = some (.cells #[(.slice A0_0 l0_0.length c0_0), (.slice A0_1 l0_1.length c0_1)] 25 (0, 0))) ∧ Aside0 (wc.heap[gb374]? = some (.cells #[(.slice Ao29 t368.length co29), (.slice Ao32 t371.length co32)] 30 (0, 0))) ∧ Aside0 (wc.heap[gb381]? = some (.cells #[(.slice Ao36 t375.length co36), (.slice Ao40 t378.length co40)] 30 (0, 0))) ∧ Aside0 (wc.heap[gb391]? = some (.cells #[(.slice Ao46 t385.length co46), (.slice Ao51 t388.length co51)] 30 (0, 0))) ∧ Aside0 (Below w.heap.size w wc))
     case first =>
      have H := HC20.out
      clear HC20
      by_cases c54 : t392 = true
      ·subst c54
       rw [if_pos rfl] at H
       have H' := Aside0.mk H
       clear H
       go_wp2
       go_meet
       case rel => exact ⟨_, H', ⟨by have := HJ3.out; have := HJ9.out; first | omega | exact Nat.le_refl _⟩, ⟨rP (Kd.R_mono HO384.out (fun _ hk => trivial))⟩, ⟨rP (Kd.R_mono HO370.out (fun _ hk => ⟨hk.1.2, hk.2⟩))⟩, ⟨rP (Kd.R_mono HO373.out (fun _ hk => ⟨hk.1.2, hk.2⟩))⟩, ⟨rP (Kd.R_mono HO377.out (fun _ hk => ⟨hk.1.2, hk.2⟩))⟩, ⟨rP (Kd.R_mono HO380.out (fun _ hk => ⟨hk.1.2, hk.2⟩))⟩, ⟨rP (Kd.R_mono HO387.out (fun _ hk => ⟨hk.1.2, hk.2⟩))⟩, ⟨rP (Kd.R_mono HO390.out (fun _ hk => ⟨hk.1.2, hk.2⟩))⟩, ⟨kP BK356⟩, ⟨kP BK374⟩, ⟨kP BK381⟩, ⟨kP BK391⟩, ⟨bB⟩⟩
      ·replace c54 := Bool.eq_false_iff.mpr c54
       subst c54
       rw [if_neg (show ¬ (false = true) by decide)] at H
       obtain rfl := Option.some.inj H
       go_wp2
       go_ret
       exact ⟨eW, bB⟩
     case rest =>
      clear HC20
      try clear c1
      try clear p2
      try clear c3
      try clear c4
      try clear c5
      try clear c8
      try clear c8b0
      try clear c8b1
      try clear c8b2
      try clear c9
      try clear c12
      try clear c12b0
      try clear c12b1
      try clear c12b2
      try clear c15
      try clear c17
      try clear c19
      try clear c30
      try clear c37
      try clear c38
      try clear c39
      try clear c40
      try clear c41
      try clear c47
      try clear c48
      try clear c49
      try clear c54
      try clear hcz21_0
      try clear hcz21_1
      try clear hcz31_0
      try clear hcz31_1
      try clear hcz33_0
      try clear hcz33_1
      try clear hcz39_0
      try clear hcz39_1
      try clear hcz42_0
      try clear hcz42_1
      try clear hcz50_0
      try clear hcz50_1
      try clear hcz52_0
      try clear hcz52_1
      try clear hcz6_0
      try clear hcz6_1
      try clear hfz21_0
      try clear hfz21_1
      try clear hfz31_0
      try clear hfz31_1
      try clear hfz33_0
      try clear hfz33_1
      try clear hfz39_0
      try clear hfz39_1
      try clear hfz42_0
      try clear hfz42_1
      try clear hfz50_0
      try clear hfz50_1
      try clear hfz52_0
      try clear hfz52_1
      try clear hfz6_0
      try clear hfz6_1
      try clear p2
      obtain ⟨kq, HA, HJ19, HO_8, HO_375000, HO_375001, HO_382000, HO_382001, HO_392000, HO_392001, BK356, BK374, BK381, BK391, HB⟩ := hcut
      cases kq with
      | zero => exact absurd HA.out (by simp [laws_FnExactEventsDo.j2])
      | succ kj19 =>
       have H := HA.out
       clear HA
       simp only [laws_FnExactEventsDo.j2] at H
       replace H := Option.bind_eq_some_iff.mp H
       obtain ⟨⟨t393, t396⟩, A550, H⟩ := H
       try dsimp only at H
       have A55 := Aside0.mk A550
       clear A550
       replace H := Option.bind_eq_some_iff.mp H
       obtain ⟨t399, A560, H⟩ := H
       try dsimp only at H
       have A56 := Aside0.mk A560
       clear A560
       have HC57 := Aside0.mk H
       clear H
       try go_wp2
       have n0_ := Aside0.mk (Kd.R_drew HO_8.out)
       have n1_ := Aside0.mk (Kd.R_drew HO_375000.out)
       have n2_ := Aside0.mk (Kd.R_drew HO_375001.out)
       have n3_ := Aside0.mk (Kd.R_drew HO_382000.out)
       have n4_ := Aside0.mk (Kd.R_drew HO_382001.out)
       have n5_ := Aside0.mk (Kd.R_drew HO_392000.out)
       have n6_ := Aside0.mk (Kd.R_drew HO_392001.out)
       have n7_ := Aside0.mk (blk_drew BK356.out)
       have n8_ := Aside0.mk (blk_drew BK374.out)
       have n9_ := Aside0.mk (blk_drew BK381.out)
       have n10_ := Aside0.mk (blk_drew BK391.out)
       have n11_ := Aside0.mk (below_drew1 HB.out)
       clear HO_8
       clear HO_375000
       clear HO_375001
       clear HO_382000
       clear HO_382001
       clear HO_392000
       clear HO_392001
       clear BK356
       clear BK374
       clear BK381
       clear BK391
       clear HB
       have HO_8 := n0_
       have HO_375000 := n1_
       have HO_375001 := n2_
       have HO_382000 := n3_
       have HO_382001 := n4_
       have HO_392000 := n5_
       have HO_392001 := n6_
       have BK356 := n7_
       have BK374 := n8_
       have BK381 := n9_
       have BK391 := n10_
       have HB := n11_
       clear n0_ n1_ n2_ n3_ n4_ n5_ n6_ n7_ n8_ n9_ n10_ n11_
       refine start_ (n := 5) (S := fun w' => w'.cell? ⟨gb381, 0, none⟩ = some (.slice Ao36 t375.length co36) ∧ w'.cell? ⟨gb381, 1, none⟩ = some (.slice Ao40 t378.length co40) ∧ w'.cell? ⟨gb356, 0, none⟩ = some (.slice A0_0 l0_0.length c0_0) ∧ w'.cell? ⟨gb356, 1, none⟩ = some (.slice A0_1 l0_1.length c0_1)) (ds := []) #[false, false, false, false, false] (by kernel_rfl) rfl rfl ⟨(blk_cell BK381.out 0).trans rfl, (blk_cell BK381.out 1).trans rfl, (blk_cell BK356.out 0).trans rfl, (blk_cell BK356.out 1).trans rfl⟩ (fun hHeld => ?_)
       generalize wc.drew = w58 at HO_8 HO_375000 HO_375001 HO_382000 HO_382001 HO_392000 HO_392001 BK356 BK374 BK381 BK391 HB hHeld ⊢
       refine take_ (i := 0) (N := some 40) (v := ?_) (a' := ?_) #[true, false, false, false, false] rfl rfl (by kernel_rfl) (fun _ _ _ h => h) (Or.inl ⟨by rfl, ?_⟩) hHeld ?_ ?_
       rotate_left
       ·rintro w' ⟨s0, s1, s2, s3⟩
        go_simp
        with_reducible rfl
       rotate_left
       ·simp only [Act.put, List.setIfInBounds_toArray, List.set_cons_zero, List.set_cons_succ, i64_w, i32_w]
        rfl
       refine take_ (i := 1) (N := some 41) (v := ?_) (a' := ?_) #[true, true, false, false, false] rfl rfl (by kernel_rfl) (fun _ _ _ h => h) (Or.inl ⟨by rfl, ?_⟩) hHeld ?_ ?_
       rotate_left
       ·rintro w' ⟨s0, s1, s2, s3⟩
        go_simp
        with_reducible rfl
       rotate_left
       ·simp only [Act.put, List.setIfInBounds_toArray, List.set_cons_zero, List.set_cons_succ, i64_w, i32_w]
        rfl
       refine one_ (i := 2) (N := some 42) #[true, true, true, false, false] rfl rfl (by kernel_rfl) (by decide) (fun K hK => ?_)
       refine goes_ Try.func17 (by kernel_rfl) rfl #[.agg #[.slice A0_0 l0_0.length c0_0, .slice A0_1 l0_1.length c0_1]] (by rfl) rfl rfl (by (try simp only [List.map_toArray, List.map_cons, List.map_nil]); first | done | rfl | (simp only [List.length_drop, List.length_take]; rfl)) ?_
       with_reducible refine (laws_toDisk.calls kj19 _ _ l0_0 _ _ l0_1 t393 t396 _ ?side1 ?side2 ?side3 ?side4 A55.out).mono ?_
       (case side1 => exact cS HR0_0 HB)
       (case side2 => exact HC0_0.out)
       (case side3 => exact cS HR0_1 HB)
       (case side4 => exact HC0_1.out)
       rintro e w59 ⟨v394, v397, rfl, ho0, ho1, hb⟩
       refine ⟨_, rfl, ?_⟩
       have n0_ := rB HO_8 hb
       have n1_ := eR HO_375000 ho0 hb
       have n2_ := eR HO_375001 ho1 hb
       have n3_ := eR HO_382000 ho0 hb
       have n4_ := eR HO_382001 ho1 hb
       have n5_ := eR HO_392000 ho0 hb
       have n6_ := eR HO_392001 ho1 hb
       have n7_ := Aside0.mk (Kd.R_lower (Kd.R_new' (Kd.R_new' (Kd.R_new' ho0 (rL HO_375000)) (rL HO_382000)) (rL HO_392000)) (zB HB))
       have n8_ := Aside0.mk (Kd.R_lower (Kd.R_new' (Kd.R_new' (Kd.R_new' ho1 (rL HO_375001)) (rL HO_382001)) (rL HO_392001)) (zB HB))
       have n9_ := kB BK356 hb
       have n10_ := kB BK374 hb
       have n11_ := kB BK381 hb
       have n12_ := kB BK391 hb
       have n13_ := sB HB hb
       clear HO_8
       clear HO_375000
       clear HO_375001
       clear HO_382000
       clear HO_382001
       clear HO_392000
       clear HO_392001
       clear BK356
       clear BK374
       clear BK381
       clear BK391
       clear HB
       have HO_8 := n0_
       have HO_375000 := n1_
       have HO_375001 := n2_
       have HO_382000 := n3_
       have HO_382001 := n4_
       have HO_392000 := n5_
       have HO_392001 := n6_
       have HO395 := n7_
       have HO398 := n8_
       have BK356 := n9_
       have BK374 := n10_
       have BK381 := n11_
       have BK391 := n12_
       have HB := n13_
       clear n0_ n1_ n2_ n3_ n4_ n5_ n6_ n7_ n8_ n9_ n10_ n11_ n12_ n13_
       (try clear hb)
       (try clear hb2)
       (try clear hk)
       (try clear hi)
       (try clear ho0)
       (try clear ho1)
       obtain ⟨Ao60, co60, eo60⟩ := Kd.R_slice HO395.out
       (first | subst eo60 | (injection eo60 with f1_ f2_ f3_; have f4_ := f1_.symm; have f5_ := f3_.symm; clear f1_ f2_ f3_; subst f4_; subst f5_))
       obtain ⟨Ao61, co61, eo61⟩ := Kd.R_slice HO398.out
       (first | subst eo61 | (injection eo61 with f1_ f2_ f3_; have f4_ := f1_.symm; have f5_ := f3_.symm; clear f1_ f2_ f3_; subst f4_; subst f5_))
       refine hK.out _ _ ⟨(blk_cell BK381.out 0).trans rfl, (blk_cell BK381.out 1).trans rfl, (blk_cell BK356.out 0).trans rfl, (blk_cell BK356.out 1).trans rfl⟩ (fun hHeld => ?_)
       clear hK K
       refine norm_ (a' := ?_) ?_ ?_
       rotate_left
       ·show Act.put _ (some 42) _ = _
        simp only [Act.put, List.setIfInBounds_toArray, List.set_cons_zero, List.set_cons_succ, i64_w, i32_w]
        rfl
       refine one_ (i := 3) (N := some 43) #[true, true, true, true, false] rfl rfl (by kernel_rfl) (by decide) (fun K hK => ?_)
       refine goes_ Try.func19 (by kernel_rfl) rfl #[.agg #[.slice Ao36 t375.length co36, .slice Ao40 t378.length co40], .agg #[.slice Ao60 t393.length co60, .slice Ao61 t396.length co61]] (by rfl) rfl rfl (by (try simp only [List.map_toArray, List.map_cons, List.map_nil]); first | done | rfl | (simp only [List.length_drop, List.length_take]; rfl)) ?_
       with_reducible refine (laws_eqDisk.calls kj19 _ _ t375 _ _ t378 _ _ t393 _ _ t396 t399 _ ?side1 ?side2 ?side3 ?side4 ?side5 ?side6 ?side7 ?side8 A56.out).mono ?_
       (case side1 => exact cR HO_382000)
       (case side2 => exact (Kd.R_reads' HO_382000.out).2.1)
       (case side3 => exact cR HO_382001)
       (case side4 => exact (Kd.R_reads' HO_382001.out).2.1)
       (case side5 => exact cR HO395)
       (case side6 => exact (Kd.R_reads' HO395.out).2.1)
       (case side7 => exact cR HO398)
       (case side8 => exact (Kd.R_reads' HO398.out).2.1)
       rintro e w62 ⟨rfl, hb⟩
       refine ⟨_, rfl, ?_⟩
       have n0_ := rB HO_8 hb
       have n1_ := rB HO_375000 hb
       have n2_ := rB HO_375001 hb
       have n3_ := rB HO_382000 hb
       have n4_ := rB HO_382001 hb
       have n5_ := rB HO_392000 hb
       have n6_ := rB HO_392001 hb
       have n7_ := rB HO395 hb
       have n8_ := rB HO398 hb
       have n9_ := kB BK356 hb
       have n10_ := kB BK374 hb
       have n11_ := kB BK381 hb
       have n12_ := kB BK391 hb
       have n13_ := sB HB hb
       clear HO_8
       clear HO_375000
       clear HO_375001
       clear HO_382000
       clear HO_382001
       clear HO_392000
       clear HO_392001
       clear HO395
       clear HO398
       clear BK356
       clear BK374
       clear BK381
       clear BK391
       clear HB
       have HO_8 := n0_
       have HO_375000 := n1_
       have HO_375001 := n2_
       have HO_382000 := n3_
       have HO_382001 := n4_
       have HO_392000 := n5_
       have HO_392001 := n6_
       have HO395 := n7_
       have HO398 := n8_
       have BK356 := n9_
       have BK374 := n10_
       have BK381 := n11_
       have BK391 := n12_
       have HB := n13_
       clear n0_ n1_ n2_ n3_ n4_ n5_ n6_ n7_ n8_ n9_ n10_ n11_ n12_ n13_
       (try clear hb)
       (try clear hb2)
       (try clear hk)
       (try clear hi)
       refine hK.out _ _ ⟨(blk_cell BK381.out 0).trans rfl, (blk_cell BK381.out 1).trans rfl, (blk_cell BK356.out 0).trans rfl, (blk_cell BK356.out 1).trans rfl⟩ (fun hHeld => ?_)
       clear hK K
       refine norm_ (a' := ?_) ?_ ?_
       rotate_left
       ·show Act.put _ (some 43) _ = _
        simp only [Act.put, List.setIfInBounds_toArray, List.set_cons_zero, List.set_cons_succ, i64_w, i32_w]
        rfl
       refine pure_ (i := 4) (N := some 44) (v := ?_) (a' := ?_) #[true, true, true, true, true] rfl rfl (by kernel_rfl) (fun _ _ _ h => h) (Or.inl ⟨by rfl, ?_⟩) ?_ ?_
       rotate_left
       ·intro w'
        go_simp
        with_reducible rfl
       rotate_left
       ·simp only [Act.put, List.setIfInBounds_toArray, List.set_cons_zero, List.set_cons_succ, i64_w, i32_w]
        rfl
       refine done_ (by kernel_rfl) ?_
       go_upto_if 44 with (fail)
       go_cut [] (fun wc => ∃ (kq : Nat), Aside0 (laws_FnExactEventsDo.j3 kq l1 t382 l0_0 l0_1 t368 t371 t375 t378 t385 t388 = some r) ∧ Aside0 (kq ≤ kj19) ∧ Aside0 (Kd.R k92 92 wc w.heap.size (fun _ => True) (.slice Ao43 t382.length co43) t382) ∧ Aside0 (Kd.R Kd.string 9 wc w.heap.size (fun k_ => some k_ ≠ ((.slice Ao36 t375.length co36) : Value).ownBlock ∧ some k_ ≠ ((.slice Ao46 t385.length co46) : Value).ownBlock) (.slice Ao29 t368.length co29) t368) ∧ Aside0 (Kd.R k65 65 wc w.heap.size (fun k_ => some k_ ≠ ((.slice Ao40 t378.length co40) : Value).ownBlock ∧ some k_ ≠ ((.slice Ao51 t388.length co51) : Value).ownBlock) (.slice Ao32 t371.length co32) t371) ∧ Aside0 (Kd.R Kd.string 9 wc w.heap.size (fun k_ => some k_ ≠ ((.slice Ao29 t368.length co29) : Value).ownBlock ∧ some k_ ≠ ((.slice Ao46 t385.length co46) : Value).ownBlock) (.slice Ao36 t375.length co36) t375) ∧ Aside0 (Kd.R k65 65 wc w.heap.size (fun k_ => some k_ ≠ ((.slice Ao32 t371.length co32) : Value).ownBlock ∧ some k_ ≠ ((.slice Ao51 t388.length co51) : Value).ownBlock) (.slice Ao40 t378.length co40) t378) ∧ Aside0 (Kd.R Kd.string 9 wc w.heap.size (fun k_ => some k_ ≠ ((.slice Ao29 t368.length co29) : Value).ownBlock ∧ some k_ ≠ ((.slice Ao36 t375.length co36) : Value).ownBlock) (.slice Ao46 t385.length co46) t385) ∧ Aside0 (Kd.R k65 65 wc w.heap.size (fun k_ => some k_ ≠ ((.slice Ao32 t371.length co32) : Value).ownBlock ∧ some k_ ≠ ((.slice Ao40 t378.length co40) : Value).ownBlock) (.slice Ao51 t388.length co51) t388) ∧ Aside0 (wc.heap[gb356]? = some (.cells #[(.slice A0_0 l0_0.length c0_0), (.slice A0_1 l0_1.length c0_1)] 25 (0, 0))) ∧ Aside0 (wc.heap[gb374]? = some (.cells #[(.slice Ao29 t368.length co29), (.slice Ao32 t371.length co32)] 30 (0, 0))) ∧ Aside0 (wc.heap[gb381]? = some (.cells #[(.slice Ao36 t375.length co36), (.slice Ao40 t378.length co40)] 30 (0, 0))) ∧ Aside0 (wc.heap[gb391]? = some (.cells #[(.slice Ao46 t385.length co46), (.slice Ao51 t388.length co51)] 30 (0, 0))) ∧ Aside0 (Below w.heap.size w wc))
       case first =>
        have H := HC57.out
        clear HC57
        by_cases c63 : t399 = true
        ·subst c63
         rw [if_pos rfl] at H
         have H' := Aside0.mk H
         clear H
         go_wp2
         go_meet
         case rel => exact ⟨_, H', ⟨by have := HJ3.out; have := HJ9.out; have := HJ19.out; first | omega | exact Nat.le_refl _⟩, ⟨rP HO_8.out⟩, ⟨rP (Kd.R_mono HO_375000.out (fun _ hk => ⟨hk.1.1, hk.1.2⟩))⟩, ⟨rP (Kd.R_mono HO_375001.out (fun _ hk => ⟨hk.1.1, hk.1.2⟩))⟩, ⟨rP (Kd.R_mono HO_382000.out (fun _ hk => ⟨hk.1.1, hk.1.2⟩))⟩, ⟨rP (Kd.R_mono HO_382001.out (fun _ hk => ⟨hk.1.1, hk.1.2⟩))⟩, ⟨rP (Kd.R_mono HO_392000.out (fun _ hk => ⟨hk.1.1, hk.1.2⟩))⟩, ⟨rP (Kd.R_mono HO_392001.out (fun _ hk => ⟨hk.1.1, hk.1.2⟩))⟩, ⟨kP BK356⟩, ⟨kP BK374⟩, ⟨kP BK381⟩, ⟨kP BK391⟩, ⟨bB⟩⟩
        ·replace c63 := Bool.eq_false_iff.mpr c63
         subst c63
         rw [if_neg (show ¬ (false = true) by decide)] at H
         obtain rfl := Option.some.inj H
         go_wp2
         go_ret
         exact ⟨eW, bB⟩
       case rest =>
        clear HC57
        try clear c1
        try clear p2
        try clear c3
        try clear c4
        try clear c5
        try clear c6
        try clear c8
        try clear c8b0
        try clear c8b1
        try clear c8b2
        try clear c9
        try clear c12
        try clear c12b0
        try clear c12b1
        try clear c12b2
        try clear c15
        try clear c17
        try clear c19
        try clear c30
        try clear c37
        try clear c38
        try clear c39
        try clear c40
        try clear c41
        try clear c47
        try clear c48
        try clear c49
        try clear c54
        try clear c63
        try clear hcz21_0
        try clear hcz21_1
        try clear hcz31_0
        try clear hcz31_1
        try clear hcz33_0
        try clear hcz33_1
        try clear hcz39_0
        try clear hcz39_1
        try clear hcz42_0
        try clear hcz42_1
        try clear hcz50_0
        try clear hcz50_1
        try clear hcz52_0
        try clear hcz52_1
        try clear hcz6_0
        try clear hcz6_1
        try clear hfz21_0
        try clear hfz21_1
        try clear hfz31_0
        try clear hfz31_1
        try clear hfz33_0
        try clear hfz33_1
        try clear hfz39_0
        try clear hfz39_1
        try clear hfz42_0
        try clear hfz42_1
        try clear hfz50_0
        try clear hfz50_1
        try clear hfz52_0
        try clear hfz52_1
        try clear hfz6_0
        try clear hfz6_1
        try clear p2
        obtain ⟨kq, HA, HJ56, HO_8, HO_375000, HO_375001, HO_382000, HO_382001, HO_392000, HO_392001, BK356, BK374, BK381, BK391, HB⟩ := hcut
        cases kq with
        | zero => exact absurd HA.out (by simp [laws_FnExactEventsDo.j3])
        | succ kj56 =>
         have H := HA.out
         clear HA
         simp only [laws_FnExactEventsDo.j3] at H
         replace H := Option.bind_eq_some_iff.mp H
         obtain ⟨t400, A640, H⟩ := H
         try dsimp only at H
         have A64 := Aside0.mk A640
         clear A640
         replace H := Option.bind_eq_some_iff.mp H
         obtain ⟨t403, A650, H⟩ := H
         try dsimp only at H
         have A65 := Aside0.mk A650
         clear A650
         have HC66 := Aside0.mk H
         clear H
         go_upto_if 49 with (first | ((with_reducible refine gate_callee (f := 40) rfl ?_); refine gL (some 47) Try.func40 #[.slice A1 l1.length c1] ?_; (with_reducible refine (laws_toEventS.calls kj56 _ _ l1 t400 _ ?side1 ?side2 A64.out).mono ?_); (case side1 => exact cS HR1 HB); (case side2 => exact HC1.out); rintro e w67 ⟨v401, rfl, ho0, hb⟩; refine ⟨_, rfl, ?_⟩; have n_ := And.intro (eR HO_8 ho0 hb) (And.intro (rB HO_375000 hb) (And.intro (rB HO_375001 hb) (And.intro (rB HO_382000 hb) (And.intro (rB HO_382001 hb) (And.intro (rB HO_392000 hb) (And.intro (rB HO_392001 hb) (And.intro (Aside0.mk (Kd.R_lower (Kd.R_new' ho0 (rL HO_8)) (zB HB))) (And.intro (kB BK356 hb) (And.intro (kB BK374 hb) (And.intro (kB BK381 hb) (And.intro (kB BK391 hb) (sB HB hb)))))))))))); clear HO_8 HO_375000 HO_375001 HO_382000 HO_382001 HO_392000 HO_392001 BK356 BK374 BK381 BK391 HB; obtain ⟨HO_8, HO_375000, HO_375001, HO_382000, HO_382001, HO_392000, HO_392001, HO402, BK356, BK374, BK381, BK391, HB⟩ := n_; (try clear hb ho0); obtain ⟨Ao68, co68, eo68⟩ := Kd.R_slice HO402.out; subst eo68) | ((with_reducible refine gate_callee (f := 42) rfl ?_); refine gL (some 48) Try.func42 #[.slice Ao43 t382.length co43, .slice Ao68 t400.length co68] ?_; (with_reducible refine (laws_eqEventS.calls kj56 _ _ t382 _ _ t400 t403 _ ?side1 ?side2 ?side3 ?side4 A65.out).mono ?_); (case side1 => exact cR HO_8); (case side2 => exact (Kd.R_reads' HO_8.out).2.1); (case side3 => exact cR HO402); (case side4 => exact (Kd.R_reads' HO402.out).2.1); rintro e w69 ⟨rfl, hb⟩; refine ⟨_, rfl, ?_⟩; have n_ := And.intro (rB HO_8 hb) (And.intro (rB HO_375000 hb) (And.intro (rB HO_375001 hb) (And.intro (rB HO_382000 hb) (And.intro (rB HO_382001 hb) (And.intro (rB HO_392000 hb) (And.intro (rB HO_392001 hb) (And.intro (rB HO402 hb) (And.intro (kB BK356 hb) (And.intro (kB BK374 hb) (And.intro (kB BK381 hb) (And.intro (kB BK391 hb) (sB HB hb)))))))))))); clear HO_8 HO_375000 HO_375001 HO_382000 HO_382001 HO_392000 HO_392001 HO402 BK356 BK374 BK381 BK391 HB; obtain ⟨HO_8, HO_375000, HO_375001, HO_382000, HO_382001, HO_392000, HO_392001, HO402, BK356, BK374, BK381, BK391, HB⟩ := n_; (try clear hb)))
         (try simp only [Act.put, List.setIfInBounds_toArray, List.set_cons_zero, List.set_cons_succ])
         go_cut [] (fun wc => ∃ (kq : Nat), Aside0 (laws_FnExactEventsDo.j4 kq l1 t382 l0_0 l0_1 t368 t371 t375 t378 t385 t388 = some r) ∧ Aside0 (kq ≤ kj56) ∧ Aside0 (Kd.R k92 92 wc w.heap.size (fun _ => True) (.slice Ao43 t382.length co43) t382) ∧ Aside0 (Kd.R Kd.string 9 wc w.heap.size (fun k_ => some k_ ≠ ((.slice Ao36 t375.length co36) : Value).ownBlock ∧ some k_ ≠ ((.slice Ao46 t385.length co46) : Value).ownBlock) (.slice Ao29 t368.length co29) t368) ∧ Aside0 (Kd.R k65 65 wc w.heap.size (fun k_ => some k_ ≠ ((.slice Ao40 t378.length co40) : Value).ownBlock ∧ some k_ ≠ ((.slice Ao51 t388.length co51) : Value).ownBlock) (.slice Ao32 t371.length co32) t371) ∧ Aside0 (Kd.R Kd.string 9 wc w.heap.size (fun k_ => some k_ ≠ ((.slice Ao29 t368.length co29) : Value).ownBlock ∧ some k_ ≠ ((.slice Ao46 t385.length co46) : Value).ownBlock) (.slice Ao36 t375.length co36) t375) ∧ Aside0 (Kd.R k65 65 wc w.heap.size (fun k_ => some k_ ≠ ((.slice Ao32 t371.length co32) : Value).ownBlock ∧ some k_ ≠ ((.slice Ao51 t388.length co51) : Value).ownBlock) (.slice Ao40 t378.length co40) t378) ∧ Aside0 (Kd.R Kd.string 9 wc w.heap.size (fun k_ => some k_ ≠ ((.slice Ao29 t368.length co29) : Value).ownBlock ∧ some k_ ≠ ((.slice Ao36 t375.length co36) : Value).ownBlock) (.slice Ao46 t385.length co46) t385) ∧ Aside0 (Kd.R k65 65 wc w.heap.size (fun k_ => some k_ ≠ ((.slice Ao32 t371.length co32) : Value).ownBlock ∧ some k_ ≠ ((.slice Ao40 t378.length co40) : Value).ownBlock) (.slice Ao51 t388.length co51) t388) ∧ Aside0 (wc.heap[gb356]? = some (.cells #[(.slice A0_0 l0_0.length c0_0), (.slice A0_1 l0_1.length c0_1)] 25 (0, 0))) ∧ Aside0 (wc.heap[gb374]? = some (.cells #[(.slice Ao29 t368.length co29), (.slice Ao32 t371.length co32)] 30 (0, 0))) ∧ Aside0 (wc.heap[gb381]? = some (.cells #[(.slice Ao36 t375.length co36), (.slice Ao40 t378.length co40)] 30 (0, 0))) ∧ Aside0 (wc.heap[gb391]? = some (.cells #[(.slice Ao46 t385.length co46), (.slice Ao51 t388.length co51)] 30 (0, 0))) ∧ Aside0 (Below w.heap.size w wc))
         case first =>
          have H := HC66.out
          clear HC66
          by_cases c70 : t403 = true
          ·subst c70
           rw [if_pos rfl] at H
           have H' := Aside0.mk H
           clear H
           go_wp2
           go_meet
           case rel => exact ⟨_, H', ⟨by have := HJ3.out; have := HJ9.out; have := HJ19.out; have := HJ56.out; first | omega | exact Nat.le_refl _⟩, ⟨rP (Kd.R_mono HO_8.out (fun _ hk => trivial))⟩, ⟨rP HO_375000.out⟩, ⟨rP HO_375001.out⟩, ⟨rP HO_382000.out⟩, ⟨rP HO_382001.out⟩, ⟨rP HO_392000.out⟩, ⟨rP HO_392001.out⟩, ⟨kP BK356⟩, ⟨kP BK374⟩, ⟨kP BK381⟩, ⟨kP BK391⟩, ⟨bB⟩⟩
          ·replace c70 := Bool.eq_false_iff.mpr c70
           subst c70
           rw [if_neg (show ¬ (false = true) by decide)] at H
           obtain rfl := Option.some.inj H
           go_wp2
           go_ret
           exact ⟨eW, bB⟩
         case rest =>
          clear HC66
          try clear c1
          try clear p2
          try clear c3
          try clear c4
          try clear c5
          try clear c6
          try clear c7
          try clear c8
          try clear c8b0
          try clear c8b1
          try clear c8b2
          try clear c9
          try clear c12
          try clear c12b0
          try clear c12b1
          try clear c12b2
          try clear c15
          try clear c17
          try clear c19
          try clear c30
          try clear c37
          try clear c38
          try clear c39
          try clear c40
          try clear c41
          try clear c42
          try clear c47
          try clear c48
          try clear c49
          try clear c54
          try clear c63
          try clear c70
          try clear hcz21_0
          try clear hcz21_1
          try clear hcz31_0
          try clear hcz31_1
          try clear hcz33_0
          try clear hcz33_1
          try clear hcz39_0
          try clear hcz39_1
          try clear hcz42_0
          try clear hcz42_1
          try clear hcz50_0
          try clear hcz50_1
          try clear hcz52_0
          try clear hcz52_1
          try clear hcz6_0
          try clear hcz6_1
          try clear hfz21_0
          try clear hfz21_1
          try clear hfz31_0
          try clear hfz31_1
          try clear hfz33_0
          try clear hfz33_1
          try clear hfz39_0
          try clear hfz39_1
          try clear hfz42_0
          try clear hfz42_1
          try clear hfz50_0
          try clear hfz50_1
          try clear hfz52_0
          try clear hfz52_1
          try clear hfz6_0
          try clear hfz6_1
          try clear p2
          obtain ⟨kq, HA, HJ65, HO_8, HO_375000, HO_375001, HO_382000, HO_382001, HO_392000, HO_392001, BK356, BK374, BK381, BK391, HB⟩ := hcut
          cases kq with
          | zero => exact absurd HA.out (by simp [laws_FnExactEventsDo.j4])
          | succ kj65 =>
           have H := HA.out
           clear HA
           simp only [laws_FnExactEventsDo.j4] at H
           replace H := Option.bind_eq_some_iff.mp H
           obtain ⟨⟨t404, t405, t406⟩, A710, H⟩ := H
           try dsimp only at H
           have A71 := Aside0.mk A710
           clear A710
           replace H := Option.bind_eq_some_iff.mp H
           obtain ⟨⟨t407, t408⟩, A720, H⟩ := H
           try dsimp only at H
           have A72 := Aside0.mk A720
           clear A720
           have HC73 := Aside0.mk H
           clear H
           have hnb74 := NB381_356.out
           have hnc74 := NB356_381.out
           have hnb75 := NB381_374.out
           have hnc75 := NB374_381.out
           have hnb76 := NB381_391.out
           have hnc76 := NB391_381.out
           have hcz77_0 := cZ0 BK381
           have hcz77_1 := cZ1 BK381
           have hfz77_0 := blk_frozen BK381.out 0
           have hfz77_1 := blk_frozen BK381.out 1
           go_upto_region 21 with (first | ((with_reducible refine gate_callee (f := 25) rfl ?_); refine gL (some 52) Try.func25 #[.agg #[.slice Ao36 t375.length co36, .slice Ao40 t378.length co40], .int .i64 1] ?_; (with_reducible refine (laws_markDisk.calls kj65 (fun k_ => some k_ = (.slice Ao36 t375.length co36 : Value).ownBlock) (.slice Ao36 t375.length co36) t375 (fun k_ => some k_ = (.slice Ao40 t378.length co40 : Value).ownBlock) (.slice Ao40 t378.length co40) t378 1 t404 t405 t406 w _ ?side1 ?side2 ?side3 A71.out).mono ?_); (case side1 => repeat (first | (with_reducible first | exact HB.out | apply below_alloc | apply pw_below_drewN | apply below_drew1 | refine below_set ?_ GE356.out | refine below_set ?_ GE374.out | refine below_set ?_ GE381.out | refine below_set ?_ GE391.out) | exact HB.out)); (case side2 => exact Kd.R_tight rfl HO_382000.out); (case side3 => exact Kd.R_tight rfl HO_382001.out); rintro e w78 ⟨rfl, hy0, hy1, hb, hkp⟩; refine ⟨_, rfl, ?_⟩; have n_ := And.intro (Aside0.mk (Kd.R_mono (ok' := fun k_ => True) (Kd.R_keptB ((Kd.R_apart' (Kd.R_apart' HO_8.out (Kd.R_typed HO_382000.out) (by decide)) (Kd.R_typed HO_382001.out) (by decide))) hkp (fun k_ hk_ hs_ => Or.elim hs_ (fun e_ => (hk_.1.2) e_) (fun e_ => (hk_.2) e_))) (fun k_ hk_ => trivial))) (And.intro (Aside0.mk (Kd.R_mono (ok' := fun k_ => some k_ ≠ (.slice Ao36 t375.length co36 : Value).ownBlock ∧ some k_ ≠ (.slice Ao46 t385.length co46 : Value).ownBlock) (Kd.R_keptB ((Kd.R_apart' HO_375000.out (Kd.R_typed HO_382001.out) (by decide))) hkp (fun k_ hk_ hs_ => Or.elim hs_ (fun e_ => (hk_.1.1) e_) (fun e_ => (hk_.2) e_))) (fun k_ hk_ => ⟨hk_.1.1.1, hk_.1.1.2⟩))) (And.intro (Aside0.mk (Kd.R_mono (ok' := fun k_ => some k_ ≠ (.slice Ao40 t378.length co40 : Value).ownBlock ∧ some k_ ≠ (.slice Ao51 t388.length co51 : Value).ownBlock) (Kd.R_keptB ((Kd.R_apart' HO_375001.out (Kd.R_typed HO_382000.out) (by decide))) hkp (fun k_ hk_ hs_ => Or.elim hs_ (fun e_ => (hk_.2) e_) (fun e_ => (hk_.1.1) e_))) (fun k_ hk_ => ⟨hk_.1.1.1, hk_.1.1.2⟩))) (And.intro (Aside0.mk (Kd.R_reok rfl hy0 (fun k_ e_ => HO_382000.out.1 k_ e_))) (And.intro (Aside0.mk (Kd.R_reok rfl hy1 (fun k_ e_ => HO_382001.out.1 k_ e_))) (And.intro (Aside0.mk (Kd.R_mono (ok' := fun k_ => some k_ ≠ (.slice Ao29 t368.length co29 : Value).ownBlock ∧ some k_ ≠ (.slice Ao36 t375.length co36 : Value).ownBlock) (Kd.R_keptB ((Kd.R_apart' HO_392000.out (Kd.R_typed HO_382001.out) (by decide))) hkp (fun k_ hk_ hs_ => Or.elim hs_ (fun e_ => (hk_.1.2) e_) (fun e_ => (hk_.2) e_))) (fun k_ hk_ => ⟨hk_.1.1.1, hk_.1.1.2⟩))) (And.intro (Aside0.mk (Kd.R_mono (ok' := fun k_ => some k_ ≠ (.slice Ao32 t371.length co32 : Value).ownBlock ∧ some k_ ≠ (.slice Ao40 t378.length co40 : Value).ownBlock) (Kd.R_keptB ((Kd.R_apart' HO_392001.out (Kd.R_typed HO_382000.out) (by decide))) hkp (fun k_ hk_ hs_ => Or.elim hs_ (fun e_ => (hk_.2) e_) (fun e_ => (hk_.1.2) e_))) (fun k_ hk_ => ⟨hk_.1.1.1, hk_.1.1.2⟩))) (And.intro (Aside0.mk (blk_kept (kP BK356) hkp (fun hs_ => Or.elim hs_ (fun e_ => (fun e_ => (Kd.R_ne HO_382000.out BK356.out (by decide)) e_) e_) (fun e_ => (fun e_ => (Kd.R_ne HO_382001.out BK356.out (by decide)) e_) e_)))) (And.intro (Aside0.mk (blk_kept (kP BK374) hkp (fun hs_ => Or.elim hs_ (fun e_ => (fun e_ => (Kd.R_ne HO_382000.out BK374.out (by decide)) e_) e_) (fun e_ => (fun e_ => (Kd.R_ne HO_382001.out BK374.out (by decide)) e_) e_)))) (And.intro (Aside0.mk (blk_kept (kP BK381) hkp (fun hs_ => Or.elim hs_ (fun e_ => (fun e_ => (Kd.R_ne HO_382000.out BK381.out (by decide)) e_) e_) (fun e_ => (fun e_ => (Kd.R_ne HO_382001.out BK381.out (by decide)) e_) e_)))) (And.intro (Aside0.mk (blk_kept (kP BK391) hkp (fun hs_ => Or.elim hs_ (fun e_ => (fun e_ => (Kd.R_ne HO_382000.out BK391.out (by decide)) e_) e_) (fun e_ => (fun e_ => (Kd.R_ne HO_382001.out BK391.out (by decide)) e_) e_)))) (Aside0.mk (hb)))))))))))); clear HO_8 HO_375000 HO_375001 HO_382000 HO_382001 HO_392000 HO_392001 BK356 BK374 BK381 BK391 HB; obtain ⟨HO_8, HO_375000, HO_375001, HO_382000, HO_382001, HO_392000, HO_392001, BK356, BK374, BK381, BK391, HB⟩ := n_; (try clear hb hkp hy0 hy1)) | ((with_reducible refine gate_callee (f := 43) rfl ?_); refine gL (some 55) Try.func43 #[.slice Ao43 t382.length co43, .int .i64 t404] ?_; (with_reducible refine (laws_markEventS.calls kj65 (fun k_ => some k_ = (.slice Ao43 t382.length co43 : Value).ownBlock) (.slice Ao43 t382.length co43) t382 t404 t407 t408 w _ ?side1 ?side2 A72.out).mono ?_); (case side1 => repeat (first | (with_reducible first | exact HB.out | apply below_alloc | apply pw_below_drewN | apply below_drew1 | refine below_set ?_ GE356.out | refine below_set ?_ GE374.out | refine below_set ?_ GE381.out | refine below_set ?_ GE391.out) | exact HB.out)); (case side2 => exact Kd.R_tight rfl HO_8.out); rintro e w79 ⟨rfl, hy0, hb, hkp⟩; refine ⟨_, rfl, ?_⟩; have n_ := And.intro (Aside0.mk (Kd.R_reok rfl hy0 (fun k_ e_ => HO_8.out.1 k_ e_))) (And.intro (Aside0.mk (Kd.R_mono (ok' := fun k_ => some k_ ≠ (.slice Ao36 t375.length co36 : Value).ownBlock ∧ some k_ ≠ (.slice Ao46 t385.length co46 : Value).ownBlock) (Kd.R_keptB ((Kd.R_apart' HO_375000.out (Kd.R_typed HO_8.out) (by decide))) hkp (fun k_ hk_ hs_ => (hk_.2) hs_)) (fun k_ hk_ => ⟨hk_.1.1.1, hk_.1.1.2⟩))) (And.intro (Aside0.mk (Kd.R_mono (ok' := fun k_ => some k_ ≠ (.slice Ao40 t378.length co40 : Value).ownBlock ∧ some k_ ≠ (.slice Ao51 t388.length co51 : Value).ownBlock) (Kd.R_keptB ((Kd.R_apart' HO_375001.out (Kd.R_typed HO_8.out) (by decide))) hkp (fun k_ hk_ hs_ => (hk_.2) hs_)) (fun k_ hk_ => ⟨hk_.1.1.1, hk_.1.1.2⟩))) (And.intro (Aside0.mk (Kd.R_mono (ok' := fun k_ => some k_ ≠ (.slice Ao29 t368.length co29 : Value).ownBlock ∧ some k_ ≠ (.slice Ao46 t385.length co46 : Value).ownBlock) (Kd.R_keptB ((Kd.R_apart' HO_382000.out (Kd.R_typed HO_8.out) (by decide))) hkp (fun k_ hk_ hs_ => (hk_.2) hs_)) (fun k_ hk_ => ⟨hk_.1.1.1, hk_.1.1.2⟩))) (And.intro (Aside0.mk (Kd.R_mono (ok' := fun k_ => some k_ ≠ (.slice Ao32 t371.length co32 : Value).ownBlock ∧ some k_ ≠ (.slice Ao51 t388.length co51 : Value).ownBlock) (Kd.R_keptB ((Kd.R_apart' HO_382001.out (Kd.R_typed HO_8.out) (by decide))) hkp (fun k_ hk_ hs_ => (hk_.2) hs_)) (fun k_ hk_ => ⟨hk_.1.1.1, hk_.1.1.2⟩))) (And.intro (Aside0.mk (Kd.R_mono (ok' := fun k_ => some k_ ≠ (.slice Ao29 t368.length co29 : Value).ownBlock ∧ some k_ ≠ (.slice Ao36 t375.length co36 : Value).ownBlock) (Kd.R_keptB ((Kd.R_apart' HO_392000.out (Kd.R_typed HO_8.out) (by decide))) hkp (fun k_ hk_ hs_ => (hk_.2) hs_)) (fun k_ hk_ => ⟨hk_.1.1.1, hk_.1.1.2⟩))) (And.intro (Aside0.mk (Kd.R_mono (ok' := fun k_ => some k_ ≠ (.slice Ao32 t371.length co32 : Value).ownBlock ∧ some k_ ≠ (.slice Ao40 t378.length co40 : Value).ownBlock) (Kd.R_keptB ((Kd.R_apart' HO_392001.out (Kd.R_typed HO_8.out) (by decide))) hkp (fun k_ hk_ hs_ => (hk_.2) hs_)) (fun k_ hk_ => ⟨hk_.1.1.1, hk_.1.1.2⟩))) (And.intro (Aside0.mk (blk_kept (kP BK356) hkp (fun hs_ => (fun e_ => (Kd.R_ne HO_8.out BK356.out (by decide)) e_) hs_))) (And.intro (Aside0.mk (blk_kept (kP BK374) hkp (fun hs_ => (fun e_ => (Kd.R_ne HO_8.out BK374.out (by decide)) e_) hs_))) (And.intro (Aside0.mk (blk_kept (kP BK381) hkp (fun hs_ => (fun e_ => (Kd.R_ne HO_8.out BK381.out (by decide)) e_) hs_))) (And.intro (Aside0.mk (blk_kept (kP BK391) hkp (fun hs_ => (fun e_ => (Kd.R_ne HO_8.out BK391.out (by decide)) e_) hs_))) (Aside0.mk (hb)))))))))))); clear HO_8 HO_375000 HO_375001 HO_382000 HO_382001 HO_392000 HO_392001 BK356 BK374 BK381 BK391 HB; obtain ⟨HO_8, HO_375000, HO_375001, HO_382000, HO_382001, HO_392000, HO_392001, BK356, BK374, BK381, BK391, HB⟩ := n_; (try clear hb hkp hy0)))
           (try simp only [Act.put, List.setIfInBounds_toArray, List.set_cons_zero, List.set_cons_succ])
           go_cut [63] (fun v63 wc => ∃ (kq : Nat) (x63_72 : Bool), v63 = .bool x63_72 ∧ Aside0 (laws_FnExactEventsDo.j5 kq l1 x63_72 l0_0 l0_1 t368 t371 t385 t388 = some r) ∧ Aside0 (kq ≤ kj65) ∧ Aside0 (Kd.R Kd.string 9 wc w.heap.size (fun k_ => some k_ ≠ ((.slice Ao36 t375.length co36) : Value).ownBlock ∧ some k_ ≠ ((.slice Ao46 t385.length co46) : Value).ownBlock) (.slice Ao29 t368.length co29) t368) ∧ Aside0 (Kd.R k65 65 wc w.heap.size (fun k_ => some k_ ≠ ((.slice Ao40 t378.length co40) : Value).ownBlock ∧ some k_ ≠ ((.slice Ao51 t388.length co51) : Value).ownBlock) (.slice Ao32 t371.length co32) t371) ∧ Aside0 (Kd.R Kd.string 9 wc w.heap.size (fun k_ => some k_ ≠ ((.slice Ao29 t368.length co29) : Value).ownBlock ∧ some k_ ≠ ((.slice Ao46 t385.length co46) : Value).ownBlock) (.slice Ao36 t375.length co36) t405) ∧ Aside0 (Kd.R k65 65 wc w.heap.size (fun k_ => some k_ ≠ ((.slice Ao32 t371.length co32) : Value).ownBlock ∧ some k_ ≠ ((.slice Ao51 t388.length co51) : Value).ownBlock) (.slice Ao40 t378.length co40) t406) ∧ Aside0 (Kd.R Kd.string 9 wc w.heap.size (fun k_ => some k_ ≠ ((.slice Ao29 t368.length co29) : Value).ownBlock ∧ some k_ ≠ ((.slice Ao36 t375.length co36) : Value).ownBlock) (.slice Ao46 t385.length co46) t385) ∧ Aside0 (Kd.R k65 65 wc w.heap.size (fun k_ => some k_ ≠ ((.slice Ao32 t371.length co32) : Value).ownBlock ∧ some k_ ≠ ((.slice Ao40 t378.length co40) : Value).ownBlock) (.slice Ao51 t388.length co51) t388) ∧ Aside0 (wc.heap[gb356]? = some (.cells #[(.slice A0_0 l0_0.length c0_0), (.slice A0_1 l0_1.length c0_1)] 25 (0, 0))) ∧ Aside0 (wc.heap[gb374]? = some (.cells #[(.slice Ao29 t368.length co29), (.slice Ao32 t371.length co32)] 30 (0, 0))) ∧ Aside0 (wc.heap[gb381]? = some (.cells #[(.slice Ao36 t375.length co36), (.slice Ao40 t378.length co40)] 30 (0, 0))) ∧ Aside0 (wc.heap[gb391]? = some (.cells #[(.slice Ao46 t385.length co46), (.slice Ao51 t388.length co51)] 30 (0, 0))) ∧ Aside0 (Below w.heap.size w wc))
           case first =>
            have H := HC73.out
            clear HC73
            by_cases c80 : t407 < 0
            ·rw [if_pos c80] at H
             have c80b0 : decide (t407 < 0) = true := decide_eq_true c80
             clear c80
             (first | rw [c80b0] | (simp only [i64_w, i32_w]; rw [c80b0]) | rw [c80b1] | rw [c80b2] | skip)
             have H' := Aside0.mk H
             clear H
             go_wp2
             go_meet
             case rel => exact ⟨_, (true), (by first | rfl | (simp; done) | (simp [*]; done) | (simp; exact (by intro l_; cases l_ <;> rfl : ∀ l_ : List UInt8, l_.isEmpty = !(l_ != [])) _)), H', ⟨by have := HJ3.out; have := HJ9.out; have := HJ19.out; have := HJ56.out; have := HJ65.out; first | omega | exact Nat.le_refl _⟩, ⟨rP HO_375000.out⟩, ⟨rP HO_375001.out⟩, ⟨rP HO_382000.out⟩, ⟨rP HO_382001.out⟩, ⟨rP HO_392000.out⟩, ⟨rP HO_392001.out⟩, ⟨kP BK356⟩, ⟨kP BK374⟩, ⟨kP BK381⟩, ⟨kP BK391⟩, ⟨bB⟩⟩
            ·rw [if_neg c80] at H
             have c80b0 : decide (t407 < 0) = false := decide_eq_false c80
             clear c80
             (first | rw [c80b0] | (simp only [i64_w, i32_w]; rw [c80b0]) | rw [c80b1] | rw [c80b2] | skip)
             replace H := Option.bind_eq_some_iff.mp H
             obtain ⟨t409, A810, H⟩ := H
             try dsimp only at H
             have A81 := Aside0.mk A810
             clear A810
             have H' := Aside0.mk H
             clear H
             have hnb82 := NB391_356.out
             have hnc82 := NB356_391.out
             have hnb83 := NB391_374.out
             have hnc83 := NB374_391.out
             have hnb84 := NB391_381.out
             have hnc84 := NB381_391.out
             have hcz85_0 := cZ0 BK391
             have hcz85_1 := cZ1 BK391
             have hfz85_0 := blk_frozen BK391.out 0
             have hfz85_1 := blk_frozen BK391.out 1
             have hnb86 := NB374_356.out
             have hnc86 := NB356_374.out
             have hnb87 := NB374_381.out
             have hnc87 := NB381_374.out
             have hcz88_0 := cZ0 BK374
             have hcz88_1 := cZ1 BK374
             have hfz88_0 := blk_frozen BK374.out 0
             have hfz88_1 := blk_frozen BK374.out 1
             go_wp2_with (first | (go_at_call 19; (with_reducible refine (laws_eqDisk.calls kj65 _ _ t385 _ _ t388 _ _ t368 _ _ t371 t409 _ ?side1 ?side2 ?side3 ?side4 ?side5 ?side6 ?side7 ?side8 A81.out).mono ?_); (case side1 => exact cR HO_392000); (case side2 => exact (Kd.R_reads' HO_392000.out).2.1); (case side3 => exact cR HO_392001); (case side4 => exact (Kd.R_reads' HO_392001.out).2.1); (case side5 => exact cR HO_375000); (case side6 => exact (Kd.R_reads' HO_375000.out).2.1); (case side7 => exact cR HO_375001); (case side8 => exact (Kd.R_reads' HO_375001.out).2.1); rintro e w89 ⟨rfl, hb⟩; have n_ := And.intro (rB HO_8 hb) (And.intro (rB HO_375000 hb) (And.intro (rB HO_375001 hb) (And.intro (rB HO_382000 hb) (And.intro (rB HO_382001 hb) (And.intro (rB HO_392000 hb) (And.intro (rB HO_392001 hb) (And.intro (kB BK356 hb) (And.intro (kB BK374 hb) (And.intro (kB BK381 hb) (And.intro (kB BK391 hb) (sB HB hb))))))))))); clear HO_8 HO_375000 HO_375001 HO_382000 HO_382001 HO_392000 HO_392001 BK356 BK374 BK381 BK391 HB; obtain ⟨HO_8, HO_375000, HO_375001, HO_382000, HO_382001, HO_392000, HO_392001, BK356, BK374, BK381, BK391, HB⟩ := n_; (try clear hb)))
             go_meet
             case rel => exact ⟨_, (!t409), (by first | rfl | (simp; done) | (simp [*]; done) | (simp; exact (by intro l_; cases l_ <;> rfl : ∀ l_ : List UInt8, l_.isEmpty = !(l_ != [])) _)), H', ⟨by have := HJ3.out; have := HJ9.out; have := HJ19.out; have := HJ56.out; have := HJ65.out; first | omega | exact Nat.le_refl _⟩, ⟨rP HO_375000.out⟩, ⟨rP HO_375001.out⟩, ⟨rP HO_382000.out⟩, ⟨rP HO_382001.out⟩, ⟨rP HO_392000.out⟩, ⟨rP HO_392001.out⟩, ⟨kP BK356⟩, ⟨kP BK374⟩, ⟨kP BK381⟩, ⟨kP BK391⟩, ⟨bB⟩⟩
           case rest =>
            clear HC73
            try clear c1
            try clear c2
            try clear p2
            try clear c3
            try clear c4
            try clear c5
            try clear c6
            try clear c7
            try clear c8
            try clear c8b0
            try clear c8b1
            try clear c8b2
            try clear c9
            try clear c12
            try clear c12b0
            try clear c12b1
            try clear c12b2
            try clear c15
            try clear c17
            try clear c19
            try clear c25
            try clear c30
            try clear c37
            try clear c38
            try clear c39
            try clear c40
            try clear c41
            try clear c42
            try clear c43
            try clear c47
            try clear c48
            try clear c49
            try clear c54
            try clear c63
            try clear c70
            try clear c74
            try clear c75
            try clear c76
            try clear c80
            try clear c80b0
            try clear c80b1
            try clear c80b2
            try clear c82
            try clear c83
            try clear c84
            try clear c86
            try clear c87
            try clear hcz21_0
            try clear hcz21_1
            try clear hcz31_0
            try clear hcz31_1
            try clear hcz33_0
            try clear hcz33_1
            try clear hcz39_0
            try clear hcz39_1
            try clear hcz42_0
            try clear hcz42_1
            try clear hcz50_0
            try clear hcz50_1
            try clear hcz52_0
            try clear hcz52_1
            try clear hcz6_0
            try clear hcz6_1
            try clear hcz77_0
            try clear hcz77_1
            try clear hcz85_0
            try clear hcz85_1
            try clear hcz88_0
            try clear hcz88_1
            try clear hfz21_0
            try clear hfz21_1
            try clear hfz31_0
            try clear hfz31_1
            try clear hfz33_0
            try clear hfz33_1
            try clear hfz39_0
            try clear hfz39_1
            try clear hfz42_0
            try clear hfz42_1
            try clear hfz50_0
            try clear hfz50_1
            try clear hfz52_0
            try clear hfz52_1
            try clear hfz6_0
            try clear hfz6_1
            try clear hfz77_0
            try clear hfz77_1
            try clear hfz85_0
            try clear hfz85_1
            try clear hfz88_0
            try clear hfz88_1
            try clear p2
            obtain ⟨kq, x63_72, rfl, HA, HJ72, HO_375000, HO_375001, HO_382000, HO_382001, HO_392000, HO_392001, BK356, BK374, BK381, BK391, HB⟩ := hcut
            have hl382000_72 := (Kd.R_reads' HO_382000.out).1
            rw [hl382000_72] at HO_382000
            (try simp only [hl382000_72])
            (try simp only [hl382000_72] at BK356)
            (try simp only [hl382000_72] at BK374)
            (try simp only [hl382000_72] at BK381)
            (try simp only [hl382000_72] at BK391)
            (try simp only [hl382000_72] at HO_375000)
            (try simp only [hl382000_72] at HO_375001)
            (try simp only [hl382000_72] at HO_382001)
            (try simp only [hl382000_72] at HO_392000)
            (try simp only [hl382000_72] at HO_392001)
            have hl382001_72 := (Kd.R_reads' HO_382001.out).1
            rw [hl382001_72] at HO_382001
            (try simp only [hl382001_72])
            (try simp only [hl382001_72] at BK356)
            (try simp only [hl382001_72] at BK374)
            (try simp only [hl382001_72] at BK381)
            (try simp only [hl382001_72] at BK391)
            (try simp only [hl382001_72] at HO_375000)
            (try simp only [hl382001_72] at HO_375001)
            (try simp only [hl382001_72] at HO_382000)
            (try simp only [hl382001_72] at HO_392000)
            (try simp only [hl382001_72] at HO_392001)
            cases kq with
            | zero => exact absurd HA.out (by simp [laws_FnExactEventsDo.j5])
            | succ kj72 =>
             have H := HA.out
             clear HA
             simp only [laws_FnExactEventsDo.j5] at H
             have HC90 := Aside0.mk H
             clear H
             go_upto_if 63 with (fail)
             go_cut [] (fun wc => ∃ (kq : Nat), Aside0 (laws_FnExactEventsDo.j6 kq l1 l0_0 l0_1 t368 t371 t385 t388 = some r) ∧ Aside0 (kq ≤ kj72) ∧ Aside0 (Kd.R Kd.string 9 wc w.heap.size (fun k_ => some k_ ≠ ((.slice Ao36 t405.length co36) : Value).ownBlock ∧ some k_ ≠ ((.slice Ao46 t385.length co46) : Value).ownBlock) (.slice Ao29 t368.length co29) t368) ∧ Aside0 (Kd.R k65 65 wc w.heap.size (fun k_ => some k_ ≠ ((.slice Ao40 t406.length co40) : Value).ownBlock ∧ some k_ ≠ ((.slice Ao51 t388.length co51) : Value).ownBlock) (.slice Ao32 t371.length co32) t371) ∧ Aside0 (Kd.R Kd.string 9 wc w.heap.size (fun k_ => some k_ ≠ ((.slice Ao29 t368.length co29) : Value).ownBlock ∧ some k_ ≠ ((.slice Ao46 t385.length co46) : Value).ownBlock) (.slice Ao36 t405.length co36) t405) ∧ Aside0 (Kd.R k65 65 wc w.heap.size (fun k_ => some k_ ≠ ((.slice Ao32 t371.length co32) : Value).ownBlock ∧ some k_ ≠ ((.slice Ao51 t388.length co51) : Value).ownBlock) (.slice Ao40 t406.length co40) t406) ∧ Aside0 (Kd.R Kd.string 9 wc w.heap.size (fun k_ => some k_ ≠ ((.slice Ao29 t368.length co29) : Value).ownBlock ∧ some k_ ≠ ((.slice Ao36 t405.length co36) : Value).ownBlock) (.slice Ao46 t385.length co46) t385) ∧ Aside0 (Kd.R k65 65 wc w.heap.size (fun k_ => some k_ ≠ ((.slice Ao32 t371.length co32) : Value).ownBlock ∧ some k_ ≠ ((.slice Ao40 t406.length co40) : Value).ownBlock) (.slice Ao51 t388.length co51) t388) ∧ Aside0 (wc.heap[gb356]? = some (.cells #[(.slice A0_0 l0_0.length c0_0), (.slice A0_1 l0_1.length c0_1)] 25 (0, 0))) ∧ Aside0 (wc.heap[gb374]? = some (.cells #[(.slice Ao29 t368.length co29), (.slice Ao32 t371.length co32)] 30 (0, 0))) ∧ Aside0 (wc.heap[gb381]? = some (.cells #[(.slice Ao36 t405.length co36), (.slice Ao40 t406.length co40)] 30 (0, 0))) ∧ Aside0 (wc.heap[gb391]? = some (.cells #[(.slice Ao46 t385.length co46), (.slice Ao51 t388.length co51)] 30 (0, 0))) ∧ Aside0 (Below w.heap.size w wc))
             case first =>
              have H := HC90.out
              clear HC90
              by_cases c91 : x63_72 = true
              ·subst c91
               rw [if_pos rfl] at H
               obtain rfl := Option.some.inj H
               go_wp2
               go_ret
               exact ⟨eW, bB⟩
              ·replace c91 := Bool.eq_false_iff.mpr c91
               subst c91
               rw [if_neg (show ¬ (false = true) by decide)] at H
               have H' := Aside0.mk H
               clear H
               go_wp2
               go_meet
               case rel => exact ⟨_, H', ⟨by have := HJ3.out; have := HJ9.out; have := HJ19.out; have := HJ56.out; have := HJ65.out; have := HJ72.out; first | omega | exact Nat.le_refl _⟩, ⟨by (try simp only [hl382000_72]); (try simp only [hl382001_72]); (with_reducible repeat (first | apply Kd.R_alloc | apply Kd.R_drewN | apply Kd.R_drew)); exact HO_375000.out⟩, ⟨by (try simp only [hl382000_72]); (try simp only [hl382001_72]); (with_reducible repeat (first | apply Kd.R_alloc | apply Kd.R_drewN | apply Kd.R_drew)); exact HO_375001.out⟩, ⟨by (try simp only [hl382000_72]); (try simp only [hl382001_72]); (with_reducible repeat (first | apply Kd.R_alloc | apply Kd.R_drewN | apply Kd.R_drew)); exact HO_382000.out⟩, ⟨by (try simp only [hl382000_72]); (try simp only [hl382001_72]); (with_reducible repeat (first | apply Kd.R_alloc | apply Kd.R_drewN | apply Kd.R_drew)); exact HO_382001.out⟩, ⟨by (try simp only [hl382000_72]); (try simp only [hl382001_72]); (with_reducible repeat (first | apply Kd.R_alloc | apply Kd.R_drewN | apply Kd.R_drew)); exact HO_392000.out⟩, ⟨by (try simp only [hl382000_72]); (try simp only [hl382001_72]); (with_reducible repeat (first | apply Kd.R_alloc | apply Kd.R_drewN | apply Kd.R_drew)); exact HO_392001.out⟩, ⟨by (try simp only [hl382000_72]); (try simp only [hl382001_72]); (with_reducible repeat (first | refine blk_drewN ?_ _ | refine blk_drew ?_ | refine blk_alloc ?_ _)); exact BK356.out⟩, ⟨by (try simp only [hl382000_72]); (try simp only [hl382001_72]); (with_reducible repeat (first | refine blk_drewN ?_ _ | refine blk_drew ?_ | refine blk_alloc ?_ _)); exact BK374.out⟩, ⟨by (try simp only [hl382000_72]); (try simp only [hl382001_72]); (with_reducible repeat (first | refine blk_drewN ?_ _ | refine blk_drew ?_ | refine blk_alloc ?_ _)); exact BK381.out⟩, ⟨by (try simp only [hl382000_72]); (try simp only [hl382001_72]); (with_reducible repeat (first | refine blk_drewN ?_ _ | refine blk_drew ?_ | refine blk_alloc ?_ _)); exact BK391.out⟩, ⟨bB⟩⟩
             case rest =>
              clear HC90
              try clear c1
              try clear c2
              try clear p2
              try clear c3
              try clear c4
              try clear c5
              try clear c6
              try clear c7
              try clear c8
              try clear c8b0
              try clear c8b1
              try clear c8b2
              try clear c9
              try clear c12
              try clear c12b0
              try clear c12b1
              try clear c12b2
              try clear c15
              try clear c17
              try clear c19
              try clear c25
              try clear c30
              try clear c37
              try clear c38
              try clear c39
              try clear c40
              try clear c41
              try clear c42
              try clear c43
              try clear c47
              try clear c48
              try clear c49
              try clear c54
              try clear c63
              try clear c70
              try clear c74
              try clear c75
              try clear c76
              try clear c80
              try clear c80b0
              try clear c80b1
              try clear c80b2
              try clear c82
              try clear c83
              try clear c84
              try clear c86
              try clear c87
              try clear c91
              try clear hcz21_0
              try clear hcz21_1
              try clear hcz31_0
              try clear hcz31_1
              try clear hcz33_0
              try clear hcz33_1
              try clear hcz39_0
              try clear hcz39_1
              try clear hcz42_0
              try clear hcz42_1
              try clear hcz50_0
              try clear hcz50_1
              try clear hcz52_0
              try clear hcz52_1
              try clear hcz6_0
              try clear hcz6_1
              try clear hcz77_0
              try clear hcz77_1
              try clear hcz85_0
              try clear hcz85_1
              try clear hcz88_0
              try clear hcz88_1
              try clear hfz21_0
              try clear hfz21_1
              try clear hfz31_0
              try clear hfz31_1
              try clear hfz33_0
              try clear hfz33_1
              try clear hfz39_0
              try clear hfz39_1
              try clear hfz42_0
              try clear hfz42_1
              try clear hfz50_0
              try clear hfz50_1
              try clear hfz52_0
              try clear hfz52_1
              try clear hfz6_0
              try clear hfz6_1
              try clear hfz77_0
              try clear hfz77_1
              try clear hfz85_0
              try clear hfz85_1
              try clear hfz88_0
              try clear hfz88_1
              try clear p2
              obtain ⟨kq, HA, HJ89, HO_375000, HO_375001, HO_382000, HO_382001, HO_392000, HO_392001, BK356, BK374, BK381, BK391, HB⟩ := hcut
              cases kq with
              | zero => exact absurd HA.out (by simp [laws_FnExactEventsDo.j6])
              | succ kj89 =>
               have H := HA.out
               clear HA
               simp only [laws_FnExactEventsDo.j6] at H
               replace H := Option.bind_eq_some_iff.mp H
               obtain ⟨⟨t410, t411, t412⟩, A920, H⟩ := H
               try dsimp only at H
               have A92 := Aside0.mk A920
               clear A920
               replace H := Option.bind_eq_some_iff.mp H
               obtain ⟨t413, A930, H⟩ := H
               try dsimp only at H
               have A93 := Aside0.mk A930
               clear A930
               have HC94 := Aside0.mk H
               clear H
               have hnb95 := NB391_356.out
               have hnc95 := NB356_391.out
               have hnb96 := NB391_374.out
               have hnc96 := NB374_391.out
               have hnb97 := NB391_381.out
               have hnc97 := NB381_391.out
               have hcz98_0 := cZ0 BK391
               have hcz98_1 := cZ1 BK391
               have hfz98_0 := blk_frozen BK391.out 0
               have hfz98_1 := blk_frozen BK391.out 1
               go_upto_if 71 with (first | ((with_reducible refine gate_callee (f := 25) rfl ?_); refine gL (some 66) Try.func25 #[.agg #[.slice Ao46 t385.length co46, .slice Ao51 t388.length co51], .int .i64 1] ?_; (with_reducible refine (laws_markDisk.calls kj89 (fun k_ => some k_ = (.slice Ao46 t385.length co46 : Value).ownBlock) (.slice Ao46 t385.length co46) t385 (fun k_ => some k_ = (.slice Ao51 t388.length co51 : Value).ownBlock) (.slice Ao51 t388.length co51) t388 1 t410 t411 t412 w _ ?side1 ?side2 ?side3 A92.out).mono ?_); (case side1 => repeat (first | (with_reducible first | exact HB.out | apply below_alloc | apply pw_below_drewN | apply below_drew1 | refine below_set ?_ GE356.out | refine below_set ?_ GE374.out | refine below_set ?_ GE381.out | refine below_set ?_ GE391.out) | exact HB.out)); (case side2 => exact Kd.R_tight rfl HO_392000.out); (case side3 => exact Kd.R_tight rfl HO_392001.out); rintro e w99 ⟨rfl, hy0, hy1, hb, hkp⟩; refine ⟨_, rfl, ?_⟩; have n_ := And.intro (Aside0.mk (Kd.R_mono (ok' := fun k_ => some k_ ≠ (.slice Ao36 t405.length co36 : Value).ownBlock ∧ some k_ ≠ (.slice Ao46 t385.length co46 : Value).ownBlock) (Kd.R_keptB ((Kd.R_apart' HO_375000.out (Kd.R_typed HO_392001.out) (by decide))) hkp (fun k_ hk_ hs_ => Or.elim hs_ (fun e_ => (hk_.1.2) e_) (fun e_ => (hk_.2) e_))) (fun k_ hk_ => ⟨hk_.1.1.1, hk_.1.1.2⟩))) (And.intro (Aside0.mk (Kd.R_mono (ok' := fun k_ => some k_ ≠ (.slice Ao40 t406.length co40 : Value).ownBlock ∧ some k_ ≠ (.slice Ao51 t388.length co51 : Value).ownBlock) (Kd.R_keptB ((Kd.R_apart' HO_375001.out (Kd.R_typed HO_392000.out) (by decide))) hkp (fun k_ hk_ hs_ => Or.elim hs_ (fun e_ => (hk_.2) e_) (fun e_ => (hk_.1.2) e_))) (fun k_ hk_ => ⟨hk_.1.1.1, hk_.1.1.2⟩))) (And.intro (Aside0.mk (Kd.R_mono (ok' := fun k_ => some k_ ≠ (.slice Ao29 t368.length co29 : Value).ownBlock ∧ some k_ ≠ (.slice Ao46 t385.length co46 : Value).ownBlock) (Kd.R_keptB ((Kd.R_apart' HO_382000.out (Kd.R_typed HO_392001.out) (by decide))) hkp (fun k_ hk_ hs_ => Or.elim hs_ (fun e_ => (hk_.1.2) e_) (fun e_ => (hk_.2) e_))) (fun k_ hk_ => ⟨hk_.1.1.1, hk_.1.1.2⟩))) (And.intro (Aside0.mk (Kd.R_mono (ok' := fun k_ => some k_ ≠ (.slice Ao32 t371.length co32 : Value).ownBlock ∧ some k_ ≠ (.slice Ao51 t388.length co51 : Value).ownBlock) (Kd.R_keptB ((Kd.R_apart' HO_382001.out (Kd.R_typed HO_392000.out) (by decide))) hkp (fun k_ hk_ hs_ => Or.elim hs_ (fun e_ => (hk_.2) e_) (fun e_ => (hk_.1.2) e_))) (fun k_ hk_ => ⟨hk_.1.1.1, hk_.1.1.2⟩))) (And.intro (Aside0.mk (Kd.R_reok rfl hy0 (fun k_ e_ => HO_392000.out.1 k_ e_))) (And.intro (Aside0.mk (Kd.R_reok rfl hy1 (fun k_ e_ => HO_392001.out.1 k_ e_))) (And.intro (Aside0.mk (blk_kept (kP BK356) hkp (fun hs_ => Or.elim hs_ (fun e_ => (fun e_ => (Kd.R_ne HO_392000.out BK356.out (by decide)) e_) e_) (fun e_ => (fun e_ => (Kd.R_ne HO_392001.out BK356.out (by decide)) e_) e_)))) (And.intro (Aside0.mk (blk_kept (kP BK374) hkp (fun hs_ => Or.elim hs_ (fun e_ => (fun e_ => (Kd.R_ne HO_392000.out BK374.out (by decide)) e_) e_) (fun e_ => (fun e_ => (Kd.R_ne HO_392001.out BK374.out (by decide)) e_) e_)))) (And.intro (Aside0.mk (blk_kept (kP BK381) hkp (fun hs_ => Or.elim hs_ (fun e_ => (fun e_ => (Kd.R_ne HO_392000.out BK381.out (by decide)) e_) e_) (fun e_ => (fun e_ => (Kd.R_ne HO_392001.out BK381.out (by decide)) e_) e_)))) (And.intro (Aside0.mk (blk_kept (kP BK391) hkp (fun hs_ => Or.elim hs_ (fun e_ => (fun e_ => (Kd.R_ne HO_392000.out BK391.out (by decide)) e_) e_) (fun e_ => (fun e_ => (Kd.R_ne HO_392001.out BK391.out (by decide)) e_) e_)))) (Aside0.mk (hb))))))))))); clear HO_375000 HO_375001 HO_382000 HO_382001 HO_392000 HO_392001 BK356 BK374 BK381 BK391 HB; obtain ⟨HO_375000, HO_375001, HO_382000, HO_382001, HO_392000, HO_392001, BK356, BK374, BK381, BK391, HB⟩ := n_; (try clear hb hkp hy0 hy1); have hcz100_0 := cZ0 BK391; have hcz100_1 := cZ1 BK391; have hfz100_0 := blk_frozen BK391.out 0; have hfz100_1 := blk_frozen BK391.out 1) | ((with_reducible refine gate_callee (f := 30) rfl ?_); refine goesL_ (some 69) rfl rfl Try.func30 (by kernel_rfl) rfl #[.agg #[.slice Ao46 t411.length co46, .slice Ao51 t412.length co51], .int .i64 1] rfl (by (try simp only [List.map_toArray, List.map_cons, List.map_nil]); first | done | (rw [show t411.length = t385.length from (Kd.R_reads' HO_392000.out).1.symm, show t412.length = t388.length from (Kd.R_reads' HO_392001.out).1.symm] <;> rfl) | rfl | (simp only [List.length_drop, List.length_take]; rfl)) ?_; (with_reducible refine (laws_heldDisk.calls kj89 _ _ t411 _ _ t412 1 t413 _ ?side1 ?side2 ?side3 ?side4 A93.out).mono ?_); (case side1 => exact cR HO_392000); (case side2 => rw [show t411.length = t385.length from (Kd.R_reads' HO_392000.out).1.symm]; exact (Kd.R_reads' HO_392000.out).2.1); (case side3 => exact cR HO_392001); (case side4 => rw [show t412.length = t388.length from (Kd.R_reads' HO_392001.out).1.symm]; exact (Kd.R_reads' HO_392001.out).2.1); rintro e w101 ⟨rfl, hb⟩; refine ⟨_, rfl, ?_⟩; have n_ := And.intro (rB HO_375000 hb) (And.intro (rB HO_375001 hb) (And.intro (rB HO_382000 hb) (And.intro (rB HO_382001 hb) (And.intro (rB HO_392000 hb) (And.intro (rB HO_392001 hb) (And.intro (kB BK356 hb) (And.intro (kB BK374 hb) (And.intro (kB BK381 hb) (And.intro (kB BK391 hb) (sB HB hb)))))))))); clear HO_375000 HO_375001 HO_382000 HO_382001 HO_392000 HO_392001 BK356 BK374 BK381 BK391 HB; obtain ⟨HO_375000, HO_375001, HO_382000, HO_382001, HO_392000, HO_392001, BK356, BK374, BK381, BK391, HB⟩ := n_; (try clear hb)))
               (try simp only [Act.put, List.setIfInBounds_toArray, List.set_cons_zero, List.set_cons_succ])
               go_cut [] (fun wc => ∃ (kq : Nat), Aside0 (laws_FnExactEventsDo.j7 kq l1 t410 t413 l0_0 l0_1 t368 t371 t411 t412 = some r) ∧ Aside0 (kq ≤ kj89) ∧ Aside0 (Kd.R Kd.string 9 wc w.heap.size (fun k_ => some k_ ≠ ((.slice Ao36 t405.length co36) : Value).ownBlock ∧ some k_ ≠ ((.slice Ao46 t385.length co46) : Value).ownBlock) (.slice Ao29 t368.length co29) t368) ∧ Aside0 (Kd.R k65 65 wc w.heap.size (fun k_ => some k_ ≠ ((.slice Ao40 t406.length co40) : Value).ownBlock ∧ some k_ ≠ ((.slice Ao51 t388.length co51) : Value).ownBlock) (.slice Ao32 t371.length co32) t371) ∧ Aside0 (Kd.R Kd.string 9 wc w.heap.size (fun k_ => some k_ ≠ ((.slice Ao29 t368.length co29) : Value).ownBlock ∧ some k_ ≠ ((.slice Ao46 t385.length co46) : Value).ownBlock) (.slice Ao36 t405.length co36) t405) ∧ Aside0 (Kd.R k65 65 wc w.heap.size (fun k_ => some k_ ≠ ((.slice Ao32 t371.length co32) : Value).ownBlock ∧ some k_ ≠ ((.slice Ao51 t388.length co51) : Value).ownBlock) (.slice Ao40 t406.length co40) t406) ∧ Aside0 (Kd.R Kd.string 9 wc w.heap.size (fun k_ => some k_ ≠ ((.slice Ao29 t368.length co29) : Value).ownBlock ∧ some k_ ≠ ((.slice Ao36 t405.length co36) : Value).ownBlock) (.slice Ao46 t385.length co46) t411) ∧ Aside0 (Kd.R k65 65 wc w.heap.size (fun k_ => some k_ ≠ ((.slice Ao32 t371.length co32) : Value).ownBlock ∧ some k_ ≠ ((.slice Ao40 t406.length co40) : Value).ownBlock) (.slice Ao51 t388.length co51) t412) ∧ Aside0 (wc.heap[gb356]? = some (.cells #[(.slice A0_0 l0_0.length c0_0), (.slice A0_1 l0_1.length c0_1)] 25 (0, 0))) ∧ Aside0 (wc.heap[gb374]? = some (.cells #[(.slice Ao29 t368.length co29), (.slice Ao32 t371.length co32)] 30 (0, 0))) ∧ Aside0 (wc.heap[gb381]? = some (.cells #[(.slice Ao36 t405.length co36), (.slice Ao40 t406.length co40)] 30 (0, 0))) ∧ Aside0 (wc.heap[gb391]? = some (.cells #[(.slice Ao46 t385.length co46), (.slice Ao51 t388.length co51)] 30 (0, 0))) ∧ Aside0 (Below w.heap.size w wc))
               case first =>
                have H := HC94.out
                clear HC94
                by_cases c102 : t413 < 0
                ·rw [if_pos c102] at H
                 have c102b0 : decide (t413 < 0) = true := decide_eq_true c102
                 clear c102
                 (first | rw [c102b0] | (simp only [i64_w, i32_w]; rw [c102b0]) | rw [c102b1] | rw [c102b2] | skip)
                 obtain rfl := Option.some.inj H
                 go_wp2
                 go_ret
                 exact ⟨eW, bB⟩
                ·rw [if_neg c102] at H
                 have c102b0 : decide (t413 < 0) = false := decide_eq_false c102
                 clear c102
                 (first | rw [c102b0] | (simp only [i64_w, i32_w]; rw [c102b0]) | rw [c102b1] | rw [c102b2] | skip)
                 have H' := Aside0.mk H
                 clear H
                 go_wp2
                 go_meet
                 case rel => exact ⟨_, H', ⟨by have := HJ3.out; have := HJ9.out; have := HJ19.out; have := HJ56.out; have := HJ65.out; have := HJ72.out; have := HJ89.out; first | omega | exact Nat.le_refl _⟩, ⟨by (try simp only [hl382000_72]); (try simp only [hl382001_72]); (with_reducible repeat (first | apply Kd.R_alloc | apply Kd.R_drewN | apply Kd.R_drew)); exact HO_375000.out⟩, ⟨by (try simp only [hl382000_72]); (try simp only [hl382001_72]); (with_reducible repeat (first | apply Kd.R_alloc | apply Kd.R_drewN | apply Kd.R_drew)); exact HO_375001.out⟩, ⟨by (try simp only [hl382000_72]); (try simp only [hl382001_72]); (with_reducible repeat (first | apply Kd.R_alloc | apply Kd.R_drewN | apply Kd.R_drew)); exact HO_382000.out⟩, ⟨by (try simp only [hl382000_72]); (try simp only [hl382001_72]); (with_reducible repeat (first | apply Kd.R_alloc | apply Kd.R_drewN | apply Kd.R_drew)); exact HO_382001.out⟩, ⟨by (try simp only [hl382000_72]); (try simp only [hl382001_72]); (with_reducible repeat (first | apply Kd.R_alloc | apply Kd.R_drewN | apply Kd.R_drew)); exact HO_392000.out⟩, ⟨by (try simp only [hl382000_72]); (try simp only [hl382001_72]); (with_reducible repeat (first | apply Kd.R_alloc | apply Kd.R_drewN | apply Kd.R_drew)); exact HO_392001.out⟩, ⟨by (try simp only [hl382000_72]); (try simp only [hl382001_72]); (with_reducible repeat (first | refine blk_drewN ?_ _ | refine blk_drew ?_ | refine blk_alloc ?_ _)); exact BK356.out⟩, ⟨by (try simp only [hl382000_72]); (try simp only [hl382001_72]); (with_reducible repeat (first | refine blk_drewN ?_ _ | refine blk_drew ?_ | refine blk_alloc ?_ _)); exact BK374.out⟩, ⟨by (try simp only [hl382000_72]); (try simp only [hl382001_72]); (with_reducible repeat (first | refine blk_drewN ?_ _ | refine blk_drew ?_ | refine blk_alloc ?_ _)); exact BK381.out⟩, ⟨by (try simp only [hl382000_72]); (try simp only [hl382001_72]); (with_reducible repeat (first | refine blk_drewN ?_ _ | refine blk_drew ?_ | refine blk_alloc ?_ _)); exact BK391.out⟩, ⟨bB⟩⟩
               case rest =>
                clear HC94
                try clear c1
                try clear c2
                try clear p2
                try clear c3
                try clear c4
                try clear c5
                try clear c6
                try clear c7
                try clear c8
                try clear c8b0
                try clear c8b1
                try clear c8b2
                try clear c9
                try clear c10
                try clear c12
                try clear c12b0
                try clear c12b1
                try clear c12b2
                try clear c15
                try clear c17
                try clear c19
                try clear c25
                try clear c30
                try clear c37
                try clear c38
                try clear c39
                try clear c40
                try clear c41
                try clear c42
                try clear c43
                try clear c47
                try clear c48
                try clear c49
                try clear c54
                try clear c63
                try clear c70
                try clear c74
                try clear c75
                try clear c76
                try clear c80
                try clear c80b0
                try clear c80b1
                try clear c80b2
                try clear c82
                try clear c83
                try clear c84
                try clear c86
                try clear c87
                try clear c91
                try clear c95
                try clear c96
                try clear c97
                try clear c102
                try clear c102b0
                try clear c102b1
                try clear c102b2
                try clear hcz100_0
                try clear hcz100_1
                try clear hcz21_0
                try clear hcz21_1
                try clear hcz31_0
                try clear hcz31_1
                try clear hcz33_0
                try clear hcz33_1
                try clear hcz39_0
                try clear hcz39_1
                try clear hcz42_0
                try clear hcz42_1
                try clear hcz50_0
                try clear hcz50_1
                try clear hcz52_0
                try clear hcz52_1
                try clear hcz6_0
                try clear hcz6_1
                try clear hcz77_0
                try clear hcz77_1
                try clear hcz85_0
                try clear hcz85_1
                try clear hcz88_0
                try clear hcz88_1
                try clear hcz98_0
                try clear hcz98_1
                try clear hfz100_0
                try clear hfz100_1
                try clear hfz21_0
                try clear hfz21_1
                try clear hfz31_0
                try clear hfz31_1
                try clear hfz33_0
                try clear hfz33_1
                try clear hfz39_0
                try clear hfz39_1
                try clear hfz42_0
                try clear hfz42_1
                try clear hfz50_0
                try clear hfz50_1
                try clear hfz52_0
                try clear hfz52_1
                try clear hfz6_0
                try clear hfz6_1
                try clear hfz77_0
                try clear hfz77_1
                try clear hfz85_0
                try clear hfz85_1
                try clear hfz88_0
                try clear hfz88_1
                try clear hfz98_0
                try clear hfz98_1
                try clear p2
                obtain ⟨kq, HA, HJ93, HO_375000, HO_375001, HO_382000, HO_382001, HO_392000, HO_392001, BK356, BK374, BK381, BK391, HB⟩ := hcut
                have hl392000_93 := (Kd.R_reads' HO_392000.out).1
                rw [hl392000_93] at HO_392000
                (try simp only [hl392000_93])
                (try simp only [hl392000_93] at BK356)
                (try simp only [hl392000_93] at BK374)
                (try simp only [hl392000_93] at BK381)
                (try simp only [hl392000_93] at BK391)
                (try simp only [hl392000_93] at HO_375000)
                (try simp only [hl392000_93] at HO_375001)
                (try simp only [hl392000_93] at HO_382000)
                (try simp only [hl392000_93] at HO_382001)
                (try simp only [hl392000_93] at HO_392001)
                have hl392001_93 := (Kd.R_reads' HO_392001.out).1
                rw [hl392001_93] at HO_392001
                (try simp only [hl392001_93])
                (try simp only [hl392001_93] at BK356)
                (try simp only [hl392001_93] at BK374)
                (try simp only [hl392001_93] at BK381)
                (try simp only [hl392001_93] at BK391)
                (try simp only [hl392001_93] at HO_375000)
                (try simp only [hl392001_93] at HO_375001)
                (try simp only [hl392001_93] at HO_382000)
                (try simp only [hl392001_93] at HO_382001)
                (try simp only [hl392001_93] at HO_392000)
                cases kq with
                | zero => exact absurd HA.out (by simp [laws_FnExactEventsDo.j7])
                | succ kj93 =>
                 have H := HA.out
                 clear HA
                 simp only [laws_FnExactEventsDo.j7] at H
                 have HC103 := Aside0.mk H
                 clear H
                 go_upto_if 74 with (fail)
                 go_cut [] (fun wc => ∃ (kq : Nat), Aside0 (laws_FnExactEventsDo.j8 kq l1 t410 l0_0 l0_1 t368 t371 t411 t412 = some r) ∧ Aside0 (kq ≤ kj93) ∧ Aside0 (Kd.R Kd.string 9 wc w.heap.size (fun k_ => some k_ ≠ ((.slice Ao36 t405.length co36) : Value).ownBlock ∧ some k_ ≠ ((.slice Ao46 t411.length co46) : Value).ownBlock) (.slice Ao29 t368.length co29) t368) ∧ Aside0 (Kd.R k65 65 wc w.heap.size (fun k_ => some k_ ≠ ((.slice Ao40 t406.length co40) : Value).ownBlock ∧ some k_ ≠ ((.slice Ao51 t412.length co51) : Value).ownBlock) (.slice Ao32 t371.length co32) t371) ∧ Aside0 (Kd.R Kd.string 9 wc w.heap.size (fun k_ => some k_ ≠ ((.slice Ao29 t368.length co29) : Value).ownBlock ∧ some k_ ≠ ((.slice Ao46 t411.length co46) : Value).ownBlock) (.slice Ao36 t405.length co36) t405) ∧ Aside0 (Kd.R k65 65 wc w.heap.size (fun k_ => some k_ ≠ ((.slice Ao32 t371.length co32) : Value).ownBlock ∧ some k_ ≠ ((.slice Ao51 t412.length co51) : Value).ownBlock) (.slice Ao40 t406.length co40) t406) ∧ Aside0 (Kd.R Kd.string 9 wc w.heap.size (fun k_ => some k_ ≠ ((.slice Ao29 t368.length co29) : Value).ownBlock ∧ some k_ ≠ ((.slice Ao36 t405.length co36) : Value).ownBlock) (.slice Ao46 t411.length co46) t411) ∧ Aside0 (Kd.R k65 65 wc w.heap.size (fun k_ => some k_ ≠ ((.slice Ao32 t371.length co32) : Value).ownBlock ∧ some k_ ≠ ((.slice Ao40 t406.length co40) : Value).ownBlock) (.slice Ao51 t412.length co51) t412) ∧ Aside0 (wc.heap[gb356]? = some (.cells #[(.slice A0_0 l0_0.length c0_0), (.slice A0_1 l0_1.length c0_1)] 25 (0, 0))) ∧ Aside0 (wc.heap[gb374]? = some (.cells #[(.slice Ao29 t368.length co29), (.slice Ao32 t371.length co32)] 30 (0, 0))) ∧ Aside0 (wc.heap[gb381]? = some (.cells #[(.slice Ao36 t405.length co36), (.slice Ao40 t406.length co40)] 30 (0, 0))) ∧ Aside0 (wc.heap[gb391]? = some (.cells #[(.slice Ao46 t411.length co46), (.slice Ao51 t412.length co51)] 30 (0, 0))) ∧ Aside0 (Below w.heap.size w wc))
                 case first =>
                  have H := HC103.out
                  clear HC103
                  by_cases c104 : t413 = t410
                  ·rw [if_pos c104] at H
                   have c104b0 : (t413 == t410) = true := beq_iff_eq.mpr c104
                   have c104b1 : (t413 != t410) = false := bne_eq_false_iff_eq.mpr c104
                   clear c104
                   (first | rw [c104b0] | (simp only [i64_w, i32_w]; rw [c104b0]) | rw [c104b1] | rw [c104b2] | skip)
                   have H' := Aside0.mk H
                   clear H
                   go_wp2
                   go_meet
                   case rel => exact ⟨_, H', ⟨by have := HJ3.out; have := HJ9.out; have := HJ19.out; have := HJ56.out; have := HJ65.out; have := HJ72.out; have := HJ89.out; have := HJ93.out; first | omega | exact Nat.le_refl _⟩, ⟨by (try simp only [hl382000_72]); (try simp only [hl382001_72]); (try simp only [hl392000_93]); (try simp only [hl392001_93]); (with_reducible repeat (first | apply Kd.R_alloc | apply Kd.R_drewN | apply Kd.R_drew)); exact HO_375000.out⟩, ⟨by (try simp only [hl382000_72]); (try simp only [hl382001_72]); (try simp only [hl392000_93]); (try simp only [hl392001_93]); (with_reducible repeat (first | apply Kd.R_alloc | apply Kd.R_drewN | apply Kd.R_drew)); exact HO_375001.out⟩, ⟨by (try simp only [hl382000_72]); (try simp only [hl382001_72]); (try simp only [hl392000_93]); (try simp only [hl392001_93]); (with_reducible repeat (first | apply Kd.R_alloc | apply Kd.R_drewN | apply Kd.R_drew)); exact HO_382000.out⟩, ⟨by (try simp only [hl382000_72]); (try simp only [hl382001_72]); (try simp only [hl392000_93]); (try simp only [hl392001_93]); (with_reducible repeat (first | apply Kd.R_alloc | apply Kd.R_drewN | apply Kd.R_drew)); exact HO_382001.out⟩, ⟨by (try simp only [hl382000_72]); (try simp only [hl382001_72]); (try simp only [hl392000_93]); (try simp only [hl392001_93]); (with_reducible repeat (first | apply Kd.R_alloc | apply Kd.R_drewN | apply Kd.R_drew)); exact HO_392000.out⟩, ⟨by (try simp only [hl382000_72]); (try simp only [hl382001_72]); (try simp only [hl392000_93]); (try simp only [hl392001_93]); (with_reducible repeat (first | apply Kd.R_alloc | apply Kd.R_drewN | apply Kd.R_drew)); exact HO_392001.out⟩, ⟨by (try simp only [hl382000_72]); (try simp only [hl382001_72]); (try simp only [hl392000_93]); (try simp only [hl392001_93]); (with_reducible repeat (first | refine blk_drewN ?_ _ | refine blk_drew ?_ | refine blk_alloc ?_ _)); exact BK356.out⟩, ⟨by (try simp only [hl382000_72]); (try simp only [hl382001_72]); (try simp only [hl392000_93]); (try simp only [hl392001_93]); (with_reducible repeat (first | refine blk_drewN ?_ _ | refine blk_drew ?_ | refine blk_alloc ?_ _)); exact BK374.out⟩, ⟨by (try simp only [hl382000_72]); (try simp only [hl382001_72]); (try simp only [hl392000_93]); (try simp only [hl392001_93]); (with_reducible repeat (first | refine blk_drewN ?_ _ | refine blk_drew ?_ | refine blk_alloc ?_ _)); exact BK381.out⟩, ⟨by (try simp only [hl382000_72]); (try simp only [hl382001_72]); (try simp only [hl392000_93]); (try simp only [hl392001_93]); (with_reducible repeat (first | refine blk_drewN ?_ _ | refine blk_drew ?_ | refine blk_alloc ?_ _)); exact BK391.out⟩, ⟨bB⟩⟩
                  ·rw [if_neg c104] at H
                   have c104b0 : (t413 == t410) = false := beq_eq_false_iff_ne.mpr c104
                   have c104b1 : (t413 != t410) = true := bne_iff_ne.mpr c104
                   (first | rw [c104b0] | (simp only [i64_w, i32_w]; rw [c104b0]) | rw [c104b1] | rw [c104b2] | skip)
                   obtain rfl := Option.some.inj H
                   go_wp2
                   go_ret
                   exact ⟨eW, bB⟩
                 case rest =>
                  clear HC103
                  try clear c1
                  try clear c2
                  try clear p2
                  try clear c3
                  try clear c4
                  try clear c5
                  try clear c6
                  try clear c7
                  try clear c8
                  try clear c8b0
                  try clear c8b1
                  try clear c8b2
                  try clear c9
                  try clear c10
                  try clear c12
                  try clear c12b0
                  try clear c12b1
                  try clear c12b2
                  try clear c15
                  try clear c17
                  try clear c19
                  try clear c25
                  try clear c30
                  try clear c37
                  try clear c38
                  try clear c39
                  try clear c40
                  try clear c41
                  try clear c42
                  try clear c43
                  try clear c47
                  try clear c48
                  try clear c49
                  try clear c54
                  try clear c63
                  try clear c70
                  try clear c74
                  try clear c75
                  try clear c76
                  try clear c80
                  try clear c80b0
                  try clear c80b1
                  try clear c80b2
                  try clear c82
                  try clear c83
                  try clear c84
                  try clear c86
                  try clear c87
                  try clear c91
                  try clear c95
                  try clear c96
                  try clear c97
                  try clear c102
                  try clear c102b0
                  try clear c102b1
                  try clear c102b2
                  try clear c104
                  try clear c104b0
                  try clear c104b1
                  try clear c104b2
                  try clear hcz100_0
                  try clear hcz100_1
                  try clear hcz21_0
                  try clear hcz21_1
                  try clear hcz31_0
                  try clear hcz31_1
                  try clear hcz33_0
                  try clear hcz33_1
                  try clear hcz39_0
                  try clear hcz39_1
                  try clear hcz42_0
                  try clear hcz42_1
                  try clear hcz50_0
                  try clear hcz50_1
                  try clear hcz52_0
                  try clear hcz52_1
                  try clear hcz6_0
                  try clear hcz6_1
                  try clear hcz77_0
                  try clear hcz77_1
                  try clear hcz85_0
                  try clear hcz85_1
                  try clear hcz88_0
                  try clear hcz88_1
                  try clear hcz98_0
                  try clear hcz98_1
                  try clear hfz100_0
                  try clear hfz100_1
                  try clear hfz21_0
                  try clear hfz21_1
                  try clear hfz31_0
                  try clear hfz31_1
                  try clear hfz33_0
                  try clear hfz33_1
                  try clear hfz39_0
                  try clear hfz39_1
                  try clear hfz42_0
                  try clear hfz42_1
                  try clear hfz50_0
                  try clear hfz50_1
                  try clear hfz52_0
                  try clear hfz52_1
                  try clear hfz6_0
                  try clear hfz6_1
                  try clear hfz77_0
                  try clear hfz77_1
                  try clear hfz85_0
                  try clear hfz85_1
                  try clear hfz88_0
                  try clear hfz88_1
                  try clear hfz98_0
                  try clear hfz98_1
                  try clear p2
                  obtain ⟨kq, HA, HJ102, HO_375000, HO_375001, HO_382000, HO_382001, HO_392000, HO_392001, BK356, BK374, BK381, BK391, HB⟩ := hcut
                  cases kq with
                  | zero => exact absurd HA.out (by simp [laws_FnExactEventsDo.j8])
                  | succ kj102 =>
                   have H := HA.out
                   clear HA
                   simp only [laws_FnExactEventsDo.j8] at H
                   replace H := Option.bind_eq_some_iff.mp H
                   obtain ⟨⟨t414, t417⟩, A1050, H⟩ := H
                   try dsimp only at H
                   have A105 := Aside0.mk A1050
                   clear A1050
                   replace H := Option.bind_eq_some_iff.mp H
                   obtain ⟨t420, A1060, H⟩ := H
                   try dsimp only at H
                   have A106 := Aside0.mk A1060
                   clear A1060
                   replace H := Option.bind_eq_some_iff.mp H
                   obtain ⟨⟨t423, t426⟩, A1070, H⟩ := H
                   try dsimp only at H
                   have A107 := Aside0.mk A1070
                   clear A1070
                   replace H := Option.bind_eq_some_iff.mp H
                   obtain ⟨t430, A1080, H⟩ := H
                   try dsimp only at H
                   have A108 := Aside0.mk A1080
                   clear A1080
                   have HC109 := Aside0.mk H
                   clear H
                   have hnb110 := NB356_374.out
                   have hnc110 := NB374_356.out
                   have hnb111 := NB356_381.out
                   have hnc111 := NB381_356.out
                   have hnb112 := NB356_391.out
                   have hnc112 := NB391_356.out
                   have hcz113_0 := cZ0 BK356
                   have hcz113_1 := cZ1 BK356
                   have hfz113_0 := blk_frozen BK356.out 0
                   have hfz113_1 := blk_frozen BK356.out 1
                   go_upto_if 83 with (first | ((with_reducible refine gate_callee (f := 17) rfl ?_); refine gL (some 76) Try.func17 #[.agg #[.slice A0_0 l0_0.length c0_0, .slice A0_1 l0_1.length c0_1]] ?_; (with_reducible refine (laws_toDisk.calls kj102 _ _ l0_0 _ _ l0_1 t414 t417 _ ?side1 ?side2 ?side3 ?side4 A105.out).mono ?_); (case side1 => exact cS HR0_0 HB); (case side2 => exact HC0_0.out); (case side3 => exact cS HR0_1 HB); (case side4 => exact HC0_1.out); rintro e w114 ⟨v415, v418, rfl, ho0, ho1, hb⟩; refine ⟨_, rfl, ?_⟩; have n_ := And.intro (eR HO_375000 ho0 hb) (And.intro (eR HO_375001 ho1 hb) (And.intro (eR HO_382000 ho0 hb) (And.intro (eR HO_382001 ho1 hb) (And.intro (eR HO_392000 ho0 hb) (And.intro (eR HO_392001 ho1 hb) (And.intro (Aside0.mk (Kd.R_lower (Kd.R_new' (Kd.R_new' (Kd.R_new' ho0 (rL HO_375000)) (rL HO_382000)) (rL HO_392000)) (zB HB))) (And.intro (Aside0.mk (Kd.R_lower (Kd.R_new' (Kd.R_new' (Kd.R_new' ho1 (rL HO_375001)) (rL HO_382001)) (rL HO_392001)) (zB HB))) (And.intro (kB BK356 hb) (And.intro (kB BK374 hb) (And.intro (kB BK381 hb) (And.intro (kB BK391 hb) (sB HB hb)))))))))))); clear HO_375000 HO_375001 HO_382000 HO_382001 HO_392000 HO_392001 BK356 BK374 BK381 BK391 HB; obtain ⟨HO_375000, HO_375001, HO_382000, HO_382001, HO_392000, HO_392001, HO416, HO419, BK356, BK374, BK381, BK391, HB⟩ := n_; (try clear hb ho0 ho1)) | ((with_reducible refine gate_callee (f := 40) rfl ?_); refine gL (some 78) Try.func40 #[.slice A1 l1.length c1] ?_; (with_reducible refine (laws_toEventS.calls kj102 _ _ l1 t420 _ ?side1 ?side2 A106.out).mono ?_); (case side1 => exact cS HR1 HB); (case side2 => exact HC1.out); rintro e w115 ⟨v421, rfl, ho0, hb⟩; refine ⟨_, rfl, ?_⟩; have n_ := And.intro (rB HO_375000 hb) (And.intro (rB HO_375001 hb) (And.intro (rB HO_382000 hb) (And.intro (rB HO_382001 hb) (And.intro (rB HO_392000 hb) (And.intro (rB HO_392001 hb) (And.intro (rB HO416 hb) (And.intro (rB HO419 hb) (And.intro (lR HB ho0) (And.intro (kB BK356 hb) (And.intro (kB BK374 hb) (And.intro (kB BK381 hb) (And.intro (kB BK391 hb) (sB HB hb))))))))))))); clear HO_375000 HO_375001 HO_382000 HO_382001 HO_392000 HO_392001 HO416 HO419 BK356 BK374 BK381 BK391 HB; obtain ⟨HO_375000, HO_375001, HO_382000, HO_382001, HO_392000, HO_392001, HO416, HO419, HO422, BK356, BK374, BK381, BK391, HB⟩ := n_; (try clear hb ho0); obtain ⟨Ao116, co116, eo116⟩ := Kd.R_slice HO416.out; subst eo116; obtain ⟨Ao117, co117, eo117⟩ := Kd.R_slice HO419.out; subst eo117; obtain ⟨Ao118, co118, eo118⟩ := Kd.R_slice HO422.out; subst eo118) | ((with_reducible refine gate_callee (f := 41) rfl ?_); refine gL (some 79) Try.func41 #[.agg #[.slice Ao116 t414.length co116, .slice Ao117 t417.length co117], .slice Ao118 t420.length co118] ?_; (with_reducible refine (impl_EventsDo.calls kj102 _ _ t414 _ _ t417 _ _ t420 t423 t426 _ ?side1 ?side2 ?side3 ?side4 ?side5 ?side6 A107.out).mono ?_); (case side1 => exact cR HO416); (case side2 => exact (Kd.R_reads' HO416.out).2.1); (case side3 => exact cR HO419); (case side4 => exact (Kd.R_reads' HO419.out).2.1); (case side5 => exact cR HO422); (case side6 => exact (Kd.R_reads' HO422.out).2.1); rintro e w119 ⟨v424, v427, rfl, ho0, ho1, hb⟩; refine ⟨_, rfl, ?_⟩; have n_ := And.intro (eR HO_375000 ho0 hb) (And.intro (eR HO_375001 ho1 hb) (And.intro (eR HO_382000 ho0 hb) (And.intro (eR HO_382001 ho1 hb) (And.intro (eR HO_392000 ho0 hb) (And.intro (eR HO_392001 ho1 hb) (And.intro (eR HO416 ho0 hb) (And.intro (eR HO419 ho1 hb) (And.intro (rB HO422 hb) (And.intro (Aside0.mk (Kd.R_lower (Kd.R_new' (Kd.R_new' (Kd.R_new' (Kd.R_new' ho0 (rL HO_375000)) (rL HO_382000)) (rL HO_392000)) (rL HO416)) (zB HB))) (And.intro (Aside0.mk (Kd.R_lower (Kd.R_new' (Kd.R_new' (Kd.R_new' (Kd.R_new' ho1 (rL HO_375001)) (rL HO_382001)) (rL HO_392001)) (rL HO419)) (zB HB))) (And.intro (kB BK356 hb) (And.intro (kB BK374 hb) (And.intro (kB BK381 hb) (And.intro (kB BK391 hb) (sB HB hb))))))))))))))); clear HO_375000 HO_375001 HO_382000 HO_382001 HO_392000 HO_392001 HO416 HO419 HO422 BK356 BK374 BK381 BK391 HB; obtain ⟨HO_375000, HO_375001, HO_382000, HO_382001, HO_392000, HO_392001, HO416, HO419, HO422, HO425, HO428, BK356, BK374, BK381, BK391, HB⟩ := n_; (try clear hb ho0 ho1)) | ((with_reducible refine gate_dst (N := 13) rfl ?_); refine bE 13 #[.slice none 0 0, .slice none 0 0] 30 ?_; intro gb429 hg w120 hbox hb; have n_ := And.intro (rB HO_375000 hb) (And.intro (rB HO_375001 hb) (And.intro (rB HO_382000 hb) (And.intro (rB HO_382001 hb) (And.intro (rB HO_392000 hb) (And.intro (rB HO_392001 hb) (And.intro (rB HO416 hb) (And.intro (rB HO419 hb) (And.intro (rB HO422 hb) (And.intro (rB HO425 hb) (And.intro (rB HO428 hb) (And.intro (kB BK356 hb) (And.intro (kB BK374 hb) (And.intro (kB BK381 hb) (And.intro (kB BK391 hb) (And.intro (sB HB hb) (And.intro (Aside0.mk hbox) (And.intro (gE HB hg) (And.intro (gE HB hg) (And.intro (nL BK356 hg) (And.intro (nG BK356 hg) (And.intro (nL BK374 hg) (And.intro (nG BK374 hg) (And.intro (nL BK381 hg) (And.intro (nG BK381 hg) (And.intro (nL BK391 hg) (nG BK391 hg)))))))))))))))))))))))))); clear HO_375000 HO_375001 HO_382000 HO_382001 HO_392000 HO_392001 HO416 HO419 HO422 HO425 HO428 BK356 BK374 BK381 BK391 HB; obtain ⟨HO_375000, HO_375001, HO_382000, HO_382001, HO_392000, HO_392001, HO416, HO419, HO422, HO425, HO428, BK356, BK374, BK381, BK391, HB, BK429, GW429, GE429, NB356_429, NB429_356, NB374_429, NB429_374, NB381_429, NB429_381, NB391_429, NB429_391⟩ := n_; (try clear hb hbox hg); obtain ⟨Ao121, co121, eo121⟩ := Kd.R_slice HO425.out; subst eo121; have hnb122 := NB429_356.out; have hnc122 := NB356_429.out; have hnb123 := NB429_374.out; have hnc123 := NB374_429.out; have hnb124 := NB429_381.out; have hnc124 := NB381_429.out; have hnb125 := NB429_391.out; have hnc125 := NB391_429.out; have hcz126_0 := cZ0 BK429; have hcz126_1 := cZ1 BK429; have hfz126_0 := blk_frozen BK429.out 0; have hfz126_1 := blk_frozen BK429.out 1; obtain ⟨Ao127, co127, eo127⟩ := Kd.R_slice HO428.out; subst eo127; have hnb128 := NB374_381.out; have hnc128 := NB381_374.out; have hnb129 := NB374_391.out; have hnc129 := NB391_374.out; have hcz130_0 := cZ0 BK374; have hcz130_1 := cZ1 BK374; have hfz130_0 := blk_frozen BK374.out 0; have hfz130_1 := blk_frozen BK374.out 1) | ((with_reducible refine gate_callee (f := 19) rfl ?_); refine gL (some 82) Try.func19 #[.agg #[.slice Ao121 t423.length co121, .slice Ao127 t426.length co127], .agg #[.slice Ao29 t368.length co29, .slice Ao32 t371.length co32]] ?_; (with_reducible refine (laws_eqDisk.calls kj102 _ _ t423 _ _ t426 _ _ t368 _ _ t371 t430 _ ?side1 ?side2 ?side3 ?side4 ?side5 ?side6 ?side7 ?side8 A108.out).mono ?_); (case side1 => refine (Kd.R_reads' (e := 9) (base := w.heap.size) (ok := fun k_ => ((((True ∧ some k_ ≠ (.slice Ao29 t368.length co29 : Value).ownBlock) ∧ some k_ ≠ (.slice Ao36 t405.length co36 : Value).ownBlock) ∧ some k_ ≠ (.slice Ao46 t411.length co46 : Value).ownBlock) ∧ some k_ ≠ (.slice Ao116 t414.length co116 : Value).ownBlock)) (n := t423.length) (c := co121) ?_).2.2; exact (rP (Kd.R_mono (Kd.R_far (p := ⟨gb429, 1, none⟩) (Kd.R_far (p := ⟨gb429, 0, none⟩) (Kd.R_types HO425.out BK429.out (by decide)) (fun _ hk => hk.2) (.slice Ao121 t423.length co121)) (fun _ hk => hk.2) (.slice Ao127 t426.length co127)) (fun _ h_ => h_.1)))); (case side2 => exact (Kd.R_reads' HO425.out).2.1); (case side3 => refine (Kd.R_reads' (e := 65) (base := w.heap.size) (ok := fun k_ => ((((True ∧ some k_ ≠ (.slice Ao32 t371.length co32 : Value).ownBlock) ∧ some k_ ≠ (.slice Ao40 t406.length co40 : Value).ownBlock) ∧ some k_ ≠ (.slice Ao51 t412.length co51 : Value).ownBlock) ∧ some k_ ≠ (.slice Ao117 t417.length co117 : Value).ownBlock)) (n := t426.length) (c := co127) ?_).2.2; exact (rP (Kd.R_mono (Kd.R_far (p := ⟨gb429, 1, none⟩) (Kd.R_far (p := ⟨gb429, 0, none⟩) (Kd.R_types HO428.out BK429.out (by decide)) (fun _ hk => hk.2) (.slice Ao121 t423.length co121)) (fun _ hk => hk.2) (.slice Ao127 t426.length co127)) (fun _ h_ => h_.1)))); (case side4 => exact (Kd.R_reads' HO428.out).2.1); (case side5 => refine (Kd.R_reads' (e := 9) (base := w.heap.size) (ok := fun k_ => (((some k_ ≠ (.slice Ao36 t405.length co36 : Value).ownBlock ∧ some k_ ≠ (.slice Ao46 t411.length co46 : Value).ownBlock) ∧ some k_ ≠ (.slice Ao116 t414.length co116 : Value).ownBlock) ∧ some k_ ≠ (.slice Ao121 t423.length co121 : Value).ownBlock)) (n := t368.length) (c := co29) ?_).2.2; exact (rP (Kd.R_mono (Kd.R_far (p := ⟨gb429, 1, none⟩) (Kd.R_far (p := ⟨gb429, 0, none⟩) (Kd.R_types HO_375000.out BK429.out (by decide)) (fun _ hk => hk.2) (.slice Ao121 t423.length co121)) (fun _ hk => hk.2) (.slice Ao127 t426.length co127)) (fun _ h_ => h_.1)))); (case side6 => exact (Kd.R_reads' HO_375000.out).2.1); (case side7 => refine (Kd.R_reads' (e := 65) (base := w.heap.size) (ok := fun k_ => (((some k_ ≠ (.slice Ao40 t406.length co40 : Value).ownBlock ∧ some k_ ≠ (.slice Ao51 t412.length co51 : Value).ownBlock) ∧ some k_ ≠ (.slice Ao117 t417.length co117 : Value).ownBlock) ∧ some k_ ≠ (.slice Ao127 t426.length co127 : Value).ownBlock)) (n := t371.length) (c := co32) ?_).2.2; exact (rP (Kd.R_mono (Kd.R_far (p := ⟨gb429, 1, none⟩) (Kd.R_far (p := ⟨gb429, 0, none⟩) (Kd.R_types HO_375001.out BK429.out (by decide)) (fun _ hk => hk.2) (.slice Ao121 t423.length co121)) (fun _ hk => hk.2) (.slice Ao127 t426.length co127)) (fun _ h_ => h_.1)))); (case side8 => exact (Kd.R_reads' HO_375001.out).2.1); rintro e w131 ⟨rfl, hb⟩; refine ⟨_, rfl, ?_⟩; have n_ := And.intro (Aside0.mk (Kd.R_below (rP (Kd.R_mono (Kd.R_far (p := ⟨gb429, 1, none⟩) (Kd.R_far (p := ⟨gb429, 0, none⟩) (Kd.R_types HO_375000.out BK429.out (by decide)) (fun _ hk => hk.2) (.slice Ao121 t423.length co121)) (fun _ hk => hk.2) (.slice Ao127 t426.length co127)) (fun _ h_ => h_.1))) hb)) (And.intro (Aside0.mk (Kd.R_below (rP (Kd.R_mono (Kd.R_far (p := ⟨gb429, 1, none⟩) (Kd.R_far (p := ⟨gb429, 0, none⟩) (Kd.R_types HO_375001.out BK429.out (by decide)) (fun _ hk => hk.2) (.slice Ao121 t423.length co121)) (fun _ hk => hk.2) (.slice Ao127 t426.length co127)) (fun _ h_ => h_.1))) hb)) (And.intro (Aside0.mk (Kd.R_below (rP (Kd.R_mono (Kd.R_far (p := ⟨gb429, 1, none⟩) (Kd.R_far (p := ⟨gb429, 0, none⟩) (Kd.R_types HO_382000.out BK429.out (by decide)) (fun _ hk => hk.2) (.slice Ao121 t423.length co121)) (fun _ hk => hk.2) (.slice Ao127 t426.length co127)) (fun _ h_ => h_.1))) hb)) (And.intro (Aside0.mk (Kd.R_below (rP (Kd.R_mono (Kd.R_far (p := ⟨gb429, 1, none⟩) (Kd.R_far (p := ⟨gb429, 0, none⟩) (Kd.R_types HO_382001.out BK429.out (by decide)) (fun _ hk => hk.2) (.slice Ao121 t423.length co121)) (fun _ hk => hk.2) (.slice Ao127 t426.length co127)) (fun _ h_ => h_.1))) hb)) (And.intro (Aside0.mk (Kd.R_below (rP (Kd.R_mono (Kd.R_far (p := ⟨gb429, 1, none⟩) (Kd.R_far (p := ⟨gb429, 0, none⟩) (Kd.R_types HO_392000.out BK429.out (by decide)) (fun _ hk => hk.2) (.slice Ao121 t423.length co121)) (fun _ hk => hk.2) (.slice Ao127 t426.length co127)) (fun _ h_ => h_.1))) hb)) (And.intro (Aside0.mk (Kd.R_below (rP (Kd.R_mono (Kd.R_far (p := ⟨gb429, 1, none⟩) (Kd.R_far (p := ⟨gb429, 0, none⟩) (Kd.R_types HO_392001.out BK429.out (by decide)) (fun _ hk => hk.2) (.slice Ao121 t423.length co121)) (fun _ hk => hk.2) (.slice Ao127 t426.length co127)) (fun _ h_ => h_.1))) hb)) (And.intro (Aside0.mk (Kd.R_below (rP (Kd.R_mono (Kd.R_far (p := ⟨gb429, 1, none⟩) (Kd.R_far (p := ⟨gb429, 0, none⟩) (Kd.R_types HO416.out BK429.out (by decide)) (fun _ hk => hk.2) (.slice Ao121 t423.length co121)) (fun _ hk => hk.2) (.slice Ao127 t426.length co127)) (fun _ h_ => h_.1))) hb)) (And.intro (Aside0.mk (Kd.R_below (rP (Kd.R_mono (Kd.R_far (p := ⟨gb429, 1, none⟩) (Kd.R_far (p := ⟨gb429, 0, none⟩) (Kd.R_types HO419.out BK429.out (by decide)) (fun _ hk => hk.2) (.slice Ao121 t423.length co121)) (fun _ hk => hk.2) (.slice Ao127 t426.length co127)) (fun _ h_ => h_.1))) hb)) (And.intro (Aside0.mk (Kd.R_below (rP (Kd.R_mono (Kd.R_far (p := ⟨gb429, 1, none⟩) (Kd.R_far (p := ⟨gb429, 0, none⟩) (Kd.R_types HO422.out BK429.out (by decide)) (fun _ hk => hk.2) (.slice Ao121 t423.length co121)) (fun _ hk => hk.2) (.slice Ao127 t426.length co127)) (fun _ h_ => h_.1))) hb)) (And.intro (Aside0.mk (Kd.R_below (rP (Kd.R_mono (Kd.R_far (p := ⟨gb429, 1, none⟩) (Kd.R_far (p := ⟨gb429, 0, none⟩) (Kd.R_types HO425.out BK429.out (by decide)) (fun _ hk => hk.2) (.slice Ao121 t423.length co121)) (fun _ hk => hk.2) (.slice Ao127 t426.length co127)) (fun _ h_ => h_.1))) hb)) (And.intro (Aside0.mk (Kd.R_below (rP (Kd.R_mono (Kd.R_far (p := ⟨gb429, 1, none⟩) (Kd.R_far (p := ⟨gb429, 0, none⟩) (Kd.R_types HO428.out BK429.out (by decide)) (fun _ hk => hk.2) (.slice Ao121 t423.length co121)) (fun _ hk => hk.2) (.slice Ao127 t426.length co127)) (fun _ h_ => h_.1))) hb)) (And.intro (kB BK356 hb) (And.intro (kB BK374 hb) (And.intro (kB BK381 hb) (And.intro (kB BK391 hb) (And.intro (Aside0.mk (blk_below (g := gb429) (o := .cells #[.slice Ao121 t423.length co121, .slice Ao127 t426.length co127] 30 (0, 0)) (by (with_reducible repeat (first | refine blk_drewN ?_ _ | refine blk_drew ?_ | refine blk_alloc ?_ _)); refine blk_put (cs := #[.slice Ao121 t423.length co121, .slice none 0 0]) ?_ 1 _ rfl; (with_reducible repeat (first | refine blk_drewN ?_ _ | refine blk_drew ?_ | refine blk_alloc ?_ _)); refine blk_put (cs := #[.slice none 0 0, .slice none 0 0]) ?_ 0 _ rfl; (with_reducible repeat (first | refine blk_drewN ?_ _ | refine blk_drew ?_ | refine blk_alloc ?_ _)); exact BK429.out) hb)) (sB HB hb)))))))))))))))); clear HO_375000 HO_375001 HO_382000 HO_382001 HO_392000 HO_392001 HO416 HO419 HO422 HO425 HO428 BK356 BK374 BK381 BK391 BK429 HB; obtain ⟨HO_375000, HO_375001, HO_382000, HO_382001, HO_392000, HO_392001, HO416, HO419, HO422, HO425, HO428, BK356, BK374, BK381, BK391, BK429, HB⟩ := n_; (try clear hb)))
                   (try simp only [Act.put, List.setIfInBounds_toArray, List.set_cons_zero, List.set_cons_succ])
                   go_cut [] (fun wc => ∃ (kq : Nat), Aside0 (laws_FnExactEventsDo.j9 kq t410 t411 t412 = some r) ∧ Aside0 (kq ≤ kj102) ∧ Aside0 (Kd.R Kd.string 9 wc w.heap.size (fun k_ => some k_ ≠ ((.slice Ao36 t405.length co36) : Value).ownBlock ∧ some k_ ≠ ((.slice Ao46 t411.length co46) : Value).ownBlock ∧ some k_ ≠ ((.slice Ao121 t423.length co121) : Value).ownBlock) (.slice Ao29 t368.length co29) t368) ∧ Aside0 (Kd.R k65 65 wc w.heap.size (fun k_ => some k_ ≠ ((.slice Ao40 t406.length co40) : Value).ownBlock ∧ some k_ ≠ ((.slice Ao51 t412.length co51) : Value).ownBlock ∧ some k_ ≠ ((.slice Ao127 t426.length co127) : Value).ownBlock) (.slice Ao32 t371.length co32) t371) ∧ Aside0 (Kd.R Kd.string 9 wc w.heap.size (fun k_ => some k_ ≠ ((.slice Ao29 t368.length co29) : Value).ownBlock ∧ some k_ ≠ ((.slice Ao46 t411.length co46) : Value).ownBlock ∧ some k_ ≠ ((.slice Ao121 t423.length co121) : Value).ownBlock) (.slice Ao36 t405.length co36) t405) ∧ Aside0 (Kd.R k65 65 wc w.heap.size (fun k_ => some k_ ≠ ((.slice Ao32 t371.length co32) : Value).ownBlock ∧ some k_ ≠ ((.slice Ao51 t412.length co51) : Value).ownBlock ∧ some k_ ≠ ((.slice Ao127 t426.length co127) : Value).ownBlock) (.slice Ao40 t406.length co40) t406) ∧ Aside0 (Kd.R Kd.string 9 wc w.heap.size (fun k_ => some k_ ≠ ((.slice Ao29 t368.length co29) : Value).ownBlock ∧ some k_ ≠ ((.slice Ao36 t405.length co36) : Value).ownBlock ∧ some k_ ≠ ((.slice Ao121 t423.length co121) : Value).ownBlock) (.slice Ao46 t411.length co46) t411) ∧ Aside0 (Kd.R k65 65 wc w.heap.size (fun k_ => some k_ ≠ ((.slice Ao32 t371.length co32) : Value).ownBlock ∧ some k_ ≠ ((.slice Ao40 t406.length co40) : Value).ownBlock ∧ some k_ ≠ ((.slice Ao127 t426.length co127) : Value).ownBlock) (.slice Ao51 t412.length co51) t412) ∧ Aside0 (Kd.R Kd.string 9 wc w.heap.size (fun k_ => some k_ ≠ ((.slice Ao29 t368.length co29) : Value).ownBlock ∧ some k_ ≠ ((.slice Ao36 t405.length co36) : Value).ownBlock ∧ some k_ ≠ ((.slice Ao46 t411.length co46) : Value).ownBlock) (.slice Ao121 t423.length co121) t423) ∧ Aside0 (Kd.R k65 65 wc w.heap.size (fun k_ => some k_ ≠ ((.slice Ao32 t371.length co32) : Value).ownBlock ∧ some k_ ≠ ((.slice Ao40 t406.length co40) : Value).ownBlock ∧ some k_ ≠ ((.slice Ao51 t412.length co51) : Value).ownBlock) (.slice Ao127 t426.length co127) t426) ∧ Aside0 (wc.heap[gb356]? = some (.cells #[(.slice A0_0 l0_0.length c0_0), (.slice A0_1 l0_1.length c0_1)] 25 (0, 0))) ∧ Aside0 (wc.heap[gb374]? = some (.cells #[(.slice Ao29 t368.length co29), (.slice Ao32 t371.length co32)] 30 (0, 0))) ∧ Aside0 (wc.heap[gb381]? = some (.cells #[(.slice Ao36 t405.length co36), (.slice Ao40 t406.length co40)] 30 (0, 0))) ∧ Aside0 (wc.heap[gb391]? = some (.cells #[(.slice Ao46 t411.length co46), (.slice Ao51 t412.length co51)] 30 (0, 0))) ∧ Aside0 (wc.heap[gb429]? = some (.cells #[(.slice Ao121 t423.length co121), (.slice Ao127 t426.length co127)] 30 (0, 0))) ∧ Aside0 (Below w.heap.size w wc))
                   case first =>
                    have H := HC109.out
                    clear HC109
                    by_cases c132 : t430 = true
                    ·subst c132
                     rw [if_pos rfl] at H
                     have H' := Aside0.mk H
                     clear H
                     go_wp2
                     go_meet
                     case rel => exact ⟨_, H', ⟨by have := HJ3.out; have := HJ9.out; have := HJ19.out; have := HJ56.out; have := HJ65.out; have := HJ72.out; have := HJ89.out; have := HJ93.out; have := HJ102.out; first | omega | exact Nat.le_refl _⟩, ⟨by (try simp only [hl382000_72]); (try simp only [hl382001_72]); (try simp only [hl392000_93]); (try simp only [hl392001_93]); (with_reducible repeat (first | apply Kd.R_alloc | apply Kd.R_drewN | apply Kd.R_drew)); exact Kd.R_mono HO_375000.out (fun _ hk => ⟨hk.1.1.1, ⟨hk.1.1.2, hk.2⟩⟩)⟩, ⟨by (try simp only [hl382000_72]); (try simp only [hl382001_72]); (try simp only [hl392000_93]); (try simp only [hl392001_93]); (with_reducible repeat (first | apply Kd.R_alloc | apply Kd.R_drewN | apply Kd.R_drew)); exact Kd.R_mono HO_375001.out (fun _ hk => ⟨hk.1.1.1, ⟨hk.1.1.2, hk.2⟩⟩)⟩, ⟨by (try simp only [hl382000_72]); (try simp only [hl382001_72]); (try simp only [hl392000_93]); (try simp only [hl392001_93]); (with_reducible repeat (first | apply Kd.R_alloc | apply Kd.R_drewN | apply Kd.R_drew)); exact Kd.R_mono HO_382000.out (fun _ hk => ⟨hk.1.1.1, ⟨hk.1.1.2, hk.2⟩⟩)⟩, ⟨by (try simp only [hl382000_72]); (try simp only [hl382001_72]); (try simp only [hl392000_93]); (try simp only [hl392001_93]); (with_reducible repeat (first | apply Kd.R_alloc | apply Kd.R_drewN | apply Kd.R_drew)); exact Kd.R_mono HO_382001.out (fun _ hk => ⟨hk.1.1.1, ⟨hk.1.1.2, hk.2⟩⟩)⟩, ⟨by (try simp only [hl382000_72]); (try simp only [hl382001_72]); (try simp only [hl392000_93]); (try simp only [hl392001_93]); (with_reducible repeat (first | apply Kd.R_alloc | apply Kd.R_drewN | apply Kd.R_drew)); exact Kd.R_mono HO_392000.out (fun _ hk => ⟨hk.1.1.1, ⟨hk.1.1.2, hk.2⟩⟩)⟩, ⟨by (try simp only [hl382000_72]); (try simp only [hl382001_72]); (try simp only [hl392000_93]); (try simp only [hl392001_93]); (with_reducible repeat (first | apply Kd.R_alloc | apply Kd.R_drewN | apply Kd.R_drew)); exact Kd.R_mono HO_392001.out (fun _ hk => ⟨hk.1.1.1, ⟨hk.1.1.2, hk.2⟩⟩)⟩, ⟨by (try simp only [hl382000_72]); (try simp only [hl382001_72]); (try simp only [hl392000_93]); (try simp only [hl392001_93]); (with_reducible repeat (first | apply Kd.R_alloc | apply Kd.R_drewN | apply Kd.R_drew)); exact Kd.R_mono HO425.out (fun _ hk => ⟨hk.1.1.1.2, ⟨hk.1.1.2, hk.1.2⟩⟩)⟩, ⟨by (try simp only [hl382000_72]); (try simp only [hl382001_72]); (try simp only [hl392000_93]); (try simp only [hl392001_93]); (with_reducible repeat (first | apply Kd.R_alloc | apply Kd.R_drewN | apply Kd.R_drew)); exact Kd.R_mono HO428.out (fun _ hk => ⟨hk.1.1.1.2, ⟨hk.1.1.2, hk.1.2⟩⟩)⟩, ⟨by (try simp only [hl382000_72]); (try simp only [hl382001_72]); (try simp only [hl392000_93]); (try simp only [hl392001_93]); (with_reducible repeat (first | refine blk_drewN ?_ _ | refine blk_drew ?_ | refine blk_alloc ?_ _)); exact BK356.out⟩, ⟨by (try simp only [hl382000_72]); (try simp only [hl382001_72]); (try simp only [hl392000_93]); (try simp only [hl392001_93]); (with_reducible repeat (first | refine blk_drewN ?_ _ | refine blk_drew ?_ | refine blk_alloc ?_ _)); exact BK374.out⟩, ⟨by (try simp only [hl382000_72]); (try simp only [hl382001_72]); (try simp only [hl392000_93]); (try simp only [hl392001_93]); (with_reducible repeat (first | refine blk_drewN ?_ _ | refine blk_drew ?_ | refine blk_alloc ?_ _)); exact BK381.out⟩, ⟨by (try simp only [hl382000_72]); (try simp only [hl382001_72]); (try simp only [hl392000_93]); (try simp only [hl392001_93]); (with_reducible repeat (first | refine blk_drewN ?_ _ | refine blk_drew ?_ | refine blk_alloc ?_ _)); exact BK391.out⟩, ⟨by (try simp only [hl382000_72]); (try simp only [hl382001_72]); (try simp only [hl392000_93]); (try simp only [hl392001_93]); (with_reducible repeat (first | refine blk_drewN ?_ _ | refine blk_drew ?_ | refine blk_alloc ?_ _)); exact BK429.out⟩, ⟨bB⟩⟩
                    ·replace c132 := Bool.eq_false_iff.mpr c132
                     subst c132
                     rw [if_neg (show ¬ (false = true) by decide)] at H
                     obtain rfl := Option.some.inj H
                     go_wp2
                     go_ret
                     exact ⟨eW, bB⟩
                   case rest =>
                    clear HC109
                    try clear c1
                    try clear c2
                    try clear p2
                    try clear c3
                    try clear c4
                    try clear c5
                    try clear c6
                    try clear c7
                    try clear c8
                    try clear c8b0
                    try clear c8b1
                    try clear c8b2
                    try clear c9
                    try clear c10
                    try clear c11
                    try clear c12
                    try clear c12b0
                    try clear c12b1
                    try clear c12b2
                    try clear c13
                    try clear c15
                    try clear c17
                    try clear c19
                    try clear c25
                    try clear c30
                    try clear c37
                    try clear c38
                    try clear c39
                    try clear c40
                    try clear c41
                    try clear c42
                    try clear c43
                    try clear c47
                    try clear c48
                    try clear c49
                    try clear c54
                    try clear c63
                    try clear c70
                    try clear c74
                    try clear c75
                    try clear c76
                    try clear c80
                    try clear c80b0
                    try clear c80b1
                    try clear c80b2
                    try clear c82
                    try clear c83
                    try clear c84
                    try clear c86
                    try clear c87
                    try clear c91
                    try clear c95
                    try clear c96
                    try clear c97
                    try clear c102
                    try clear c102b0
                    try clear c102b1
                    try clear c102b2
                    try clear c104
                    try clear c104b0
                    try clear c104b1
                    try clear c104b2
                    try clear c110
                    try clear c111
                    try clear c112
                    try clear c122
                    try clear c123
                    try clear c124
                    try clear c125
                    try clear c128
                    try clear c129
                    try clear c132
                    try clear hcz100_0
                    try clear hcz100_1
                    try clear hcz113_0
                    try clear hcz113_1
                    try clear hcz126_0
                    try clear hcz126_1
                    try clear hcz130_0
                    try clear hcz130_1
                    try clear hcz21_0
                    try clear hcz21_1
                    try clear hcz31_0
                    try clear hcz31_1
                    try clear hcz33_0
                    try clear hcz33_1
                    try clear hcz39_0
                    try clear hcz39_1
                    try clear hcz42_0
                    try clear hcz42_1
                    try clear hcz50_0
                    try clear hcz50_1
                    try clear hcz52_0
                    try clear hcz52_1
                    try clear hcz6_0
                    try clear hcz6_1
                    try clear hcz77_0
                    try clear hcz77_1
                    try clear hcz85_0
                    try clear hcz85_1
                    try clear hcz88_0
                    try clear hcz88_1
                    try clear hcz98_0
                    try clear hcz98_1
                    try clear hfz100_0
                    try clear hfz100_1
                    try clear hfz113_0
                    try clear hfz113_1
                    try clear hfz126_0
                    try clear hfz126_1
                    try clear hfz130_0
                    try clear hfz130_1
                    try clear hfz21_0
                    try clear hfz21_1
                    try clear hfz31_0
                    try clear hfz31_1
                    try clear hfz33_0
                    try clear hfz33_1
                    try clear hfz39_0
                    try clear hfz39_1
                    try clear hfz42_0
                    try clear hfz42_1
                    try clear hfz50_0
                    try clear hfz50_1
                    try clear hfz52_0
                    try clear hfz52_1
                    try clear hfz6_0
                    try clear hfz6_1
                    try clear hfz77_0
                    try clear hfz77_1
                    try clear hfz85_0
                    try clear hfz85_1
                    try clear hfz88_0
                    try clear hfz88_1
                    try clear hfz98_0
                    try clear hfz98_1
                    try clear p2
                    obtain ⟨kq, HA, HJ108, HO_375000, HO_375001, HO_382000, HO_382001, HO_392000, HO_392001, HO_430000, HO_430001, BK356, BK374, BK381, BK391, BK429, HB⟩ := hcut
                    cases kq with
                    | zero => exact absurd HA.out (by simp [laws_FnExactEventsDo.j9])
                    | succ kj108 =>
                     have H := HA.out
                     clear HA
                     simp only [laws_FnExactEventsDo.j9] at H
                     replace H := Option.bind_eq_some_iff.mp H
                     obtain ⟨t431, A1330, H⟩ := H
                     try dsimp only at H
                     have A133 := Aside0.mk A1330
                     clear A1330
                     by_cases c134 : t431 < 0
                     ·rw [if_pos c134] at H
                      have c134b0 : decide (t431 < 0) = true := decide_eq_true c134
                      clear c134
                      obtain rfl := Option.some.inj H
                      have hnb135 := NB391_356.out
                      have hnc135 := NB356_391.out
                      have hnb136 := NB391_374.out
                      have hnc136 := NB374_391.out
                      have hnb137 := NB391_381.out
                      have hnc137 := NB381_391.out
                      have hnb138 := NB391_429.out
                      have hnc138 := NB429_391.out
                      have hcz139_0 := cZ0 BK391
                      have hcz139_1 := cZ1 BK391
                      have hfz139_0 := blk_frozen BK391.out 0
                      have hfz139_1 := blk_frozen BK391.out 1
                      go_wp2_with (first | ((with_reducible refine gate_callee (f := 30) rfl ?_); refine gL (some 86) Try.func30 #[.agg #[.slice Ao46 t411.length co46, .slice Ao51 t412.length co51], .int .i64 1] ?_; (with_reducible refine (laws_heldDisk.calls kj108 _ _ t411 _ _ t412 1 t431 _ ?side1 ?side2 ?side3 ?side4 A133.out).mono ?_); (case side1 => exact cR HO_392000); (case side2 => exact (Kd.R_reads' HO_392000.out).2.1); (case side3 => exact cR HO_392001); (case side4 => exact (Kd.R_reads' HO_392001.out).2.1); rintro e w140 ⟨rfl, hb⟩; refine ⟨_, rfl, ?_⟩; have n_ := And.intro (rB HO_375000 hb) (And.intro (rB HO_375001 hb) (And.intro (rB HO_382000 hb) (And.intro (rB HO_382001 hb) (And.intro (rB HO_392000 hb) (And.intro (rB HO_392001 hb) (And.intro (rB HO_430000 hb) (And.intro (rB HO_430001 hb) (And.intro (kB BK356 hb) (And.intro (kB BK374 hb) (And.intro (kB BK381 hb) (And.intro (kB BK391 hb) (And.intro (kB BK429 hb) (sB HB hb))))))))))))); clear HO_375000 HO_375001 HO_382000 HO_382001 HO_392000 HO_392001 HO_430000 HO_430001 BK356 BK374 BK381 BK391 BK429 HB; obtain ⟨HO_375000, HO_375001, HO_382000, HO_382001, HO_392000, HO_392001, HO_430000, HO_430001, BK356, BK374, BK381, BK391, BK429, HB⟩ := n_; (try clear hb)))
                      go_ret
                      exact ⟨eW, bB⟩
                     ·rw [if_neg c134] at H
                      have c134b0 : decide (t431 < 0) = false := decide_eq_false c134
                      clear c134
                      by_cases c141 : t431 = t410
                      ·rw [if_pos c141] at H
                       have c141b0 : (t431 == t410) = true := beq_iff_eq.mpr c141
                       have c141b1 : (t431 != t410) = false := bne_eq_false_iff_eq.mpr c141
                       clear c141
                       obtain rfl := Option.some.inj H
                       have hnb142 := NB391_356.out
                       have hnc142 := NB356_391.out
                       have hnb143 := NB391_374.out
                       have hnc143 := NB374_391.out
                       have hnb144 := NB391_381.out
                       have hnc144 := NB381_391.out
                       have hnb145 := NB391_429.out
                       have hnc145 := NB429_391.out
                       have hcz146_0 := cZ0 BK391
                       have hcz146_1 := cZ1 BK391
                       have hfz146_0 := blk_frozen BK391.out 0
                       have hfz146_1 := blk_frozen BK391.out 1
                       go_wp2_with (first | ((with_reducible refine gate_callee (f := 30) rfl ?_); refine gL (some 86) Try.func30 #[.agg #[.slice Ao46 t411.length co46, .slice Ao51 t412.length co51], .int .i64 1] ?_; (with_reducible refine (laws_heldDisk.calls kj108 _ _ t411 _ _ t412 1 t431 _ ?side1 ?side2 ?side3 ?side4 A133.out).mono ?_); (case side1 => exact cR HO_392000); (case side2 => exact (Kd.R_reads' HO_392000.out).2.1); (case side3 => exact cR HO_392001); (case side4 => exact (Kd.R_reads' HO_392001.out).2.1); rintro e w147 ⟨rfl, hb⟩; refine ⟨_, rfl, ?_⟩; have n_ := And.intro (rB HO_375000 hb) (And.intro (rB HO_375001 hb) (And.intro (rB HO_382000 hb) (And.intro (rB HO_382001 hb) (And.intro (rB HO_392000 hb) (And.intro (rB HO_392001 hb) (And.intro (rB HO_430000 hb) (And.intro (rB HO_430001 hb) (And.intro (kB BK356 hb) (And.intro (kB BK374 hb) (And.intro (kB BK381 hb) (And.intro (kB BK391 hb) (And.intro (kB BK429 hb) (sB HB hb))))))))))))); clear HO_375000 HO_375001 HO_382000 HO_382001 HO_392000 HO_392001 HO_430000 HO_430001 BK356 BK374 BK381 BK391 BK429 HB; obtain ⟨HO_375000, HO_375001, HO_382000, HO_382001, HO_392000, HO_392001, HO_430000, HO_430001, BK356, BK374, BK381, BK391, BK429, HB⟩ := n_; (try clear hb)))
                       go_ret
                       exact ⟨eW, bB⟩
                      ·rw [if_neg c141] at H
                       have c141b0 : (t431 == t410) = false := beq_eq_false_iff_ne.mpr c141
                       have c141b1 : (t431 != t410) = true := bne_iff_ne.mpr c141
                       obtain rfl := Option.some.inj H
                       have hnb148 := NB391_356.out
                       have hnc148 := NB356_391.out
                       have hnb149 := NB391_374.out
                       have hnc149 := NB374_391.out
                       have hnb150 := NB391_381.out
                       have hnc150 := NB381_391.out
                       have hnb151 := NB391_429.out
                       have hnc151 := NB429_391.out
                       have hcz152_0 := cZ0 BK391
                       have hcz152_1 := cZ1 BK391
                       have hfz152_0 := blk_frozen BK391.out 0
                       have hfz152_1 := blk_frozen BK391.out 1
                       go_wp2_with (first | ((with_reducible refine gate_callee (f := 30) rfl ?_); refine gL (some 86) Try.func30 #[.agg #[.slice Ao46 t411.length co46, .slice Ao51 t412.length co51], .int .i64 1] ?_; (with_reducible refine (laws_heldDisk.calls kj108 _ _ t411 _ _ t412 1 t431 _ ?side1 ?side2 ?side3 ?side4 A133.out).mono ?_); (case side1 => exact cR HO_392000); (case side2 => exact (Kd.R_reads' HO_392000.out).2.1); (case side3 => exact cR HO_392001); (case side4 => exact (Kd.R_reads' HO_392001.out).2.1); rintro e w153 ⟨rfl, hb⟩; refine ⟨_, rfl, ?_⟩; have n_ := And.intro (rB HO_375000 hb) (And.intro (rB HO_375001 hb) (And.intro (rB HO_382000 hb) (And.intro (rB HO_382001 hb) (And.intro (rB HO_392000 hb) (And.intro (rB HO_392001 hb) (And.intro (rB HO_430000 hb) (And.intro (rB HO_430001 hb) (And.intro (kB BK356 hb) (And.intro (kB BK374 hb) (And.intro (kB BK381 hb) (And.intro (kB BK391 hb) (And.intro (kB BK429 hb) (sB HB hb))))))))))))); clear HO_375000 HO_375001 HO_382000 HO_382001 HO_392000 HO_392001 HO_430000 HO_430001 BK356 BK374 BK381 BK391 BK429 HB; obtain ⟨HO_375000, HO_375001, HO_382000, HO_382001, HO_392000, HO_392001, HO_430000, HO_430001, BK356, BK374, BK381, BK391, BK429, HB⟩ := n_; (try clear hb)))
                       go_ret
                       exact ⟨eW, bB⟩

/-- THE ONE PURE STATEMENT of laws_FnExactEventsDo. -/
def laws_FnExactEventsDo.Pure : Prop := ∀ (l0_0 : List ByteArray) (l0_1 : List (S111)) (l1 : List (S91)), (l0_0.length ≤ maxLen ∧ ∀ x_ ∈ l0_0, x_.size ≤ maxLen) → (l0_1.length ≤ maxLen ∧ ∀ x_ ∈ l0_1, ((Lit.int .i64 x_.f0).wf = true ∧ x_.f1.size ≤ maxLen)) → (l1.length ≤ maxLen ∧ ∀ x_ ∈ l1, ((Lit.int .i64 x_.f0).wf = true ∧ (Lit.int .i64 x_.f1).wf = true ∧ x_.f2.size ≤ maxLen)) → ∃ k, laws_FnExactEventsDo.f k l0_0 l0_1 l1 = some true

end Go.Proofs.Ytgmpdkefegofhaa.PFnExactEventsDo
