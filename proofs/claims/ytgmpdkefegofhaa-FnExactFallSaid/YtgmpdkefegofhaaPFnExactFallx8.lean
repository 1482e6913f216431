-- Written by xprint.py, a program of this session over the kit's print. Not trusted: Lean checks it.
import Derived.Test.YtgmpdkefegofhaaPFnExactFallx0
import Derived.Test.YtgmpdkefegofhaaPFnExactFallx1
import Derived.Test.YtgmpdkefegofhaaPFnExactFallx2
import Derived.Test.YtgmpdkefegofhaaPFnExactFallx3
import Derived.Test.YtgmpdkefegofhaaPFnExactFallx5
import Derived.Test.YtgmpdkefegofhaaPFnExactFallx6
import Derived.Test.YtgmpdkefegofhaaPFnExactFallx7
namespace Go.Proofs.Ytgmpdkefegofhaa.PFnExactFall
open Go.RowKit Go.Proofs.YtgmpdkefegofhaaW.PrintWords Go.Proofs.YtgmpdkefegofhaaW.PrintLast Go.Proofs.YtgmpdkefegofhaaW.PrintMore
attribute [local go_sem] max2_int min2_int max_two min_two max_three min_three max_four min_four   -- for this text's walks alone
set_option linter.unusedVariables false
set_option linter.unusedSimpArgs false

/-! ### laws_FnExactFall: function 8 -/
mutual
def laws_FnExactFall.j0 : Nat → List Bool → List ByteArray → List (S111) → Option (Bool)
 | 0, _, _, _ => none
 | k + 1, x1, x219000, x219001 => (laws_szDisk.f k x219000 x219001 1048576).bind fun t219 => (if t219 < 0 then (some true) else (laws_FnExactFall.j1 k x1 x219000 x219001))
def laws_FnExactFall.j1 : Nat → List Bool → List ByteArray → List (S111) → Option (Bool)
 | 0, _, _, _ => none
 | k + 1, x1, x219000, x219001 => (laws_toDisk.f k x219000 x219001).bind fun bt220 => ((laws_toBoolS.f k x1).bind fun t226 => ((spec_Fall.f k bt220.1 bt220.2 t226).bind fun bt229 => ((laws_toDisk.f k x219000 x219001).bind fun bt236 => ((laws_toBoolS.f k x1).bind fun t243 => ((impl_Fall.f k bt236.1 bt236.2 t243).bind fun bt246 => ((laws_eqDisk.f k bt246.1 bt246.2 bt229.1 bt229.2).bind fun t253 => (if t253 = true then (laws_FnExactFall.j2 k x1 t243 x219000 x219001 bt229.1 bt229.2 bt236.1 bt236.2 bt246.1 bt246.2) else (some false))))))))
def laws_FnExactFall.j2 : Nat → List Bool → List Bool → List ByteArray → List (S111) → List ByteArray → List (S65) → List ByteArray → List (S65) → List ByteArray → List (S65) → Option (Bool)
 | 0, _, _, _, _, _, _, _, _, _, _ => none
 | k + 1, x1, x8, x219000, x219001, x236000, x236001, x243000, x243001, x253000, x253001 => (laws_toDisk.f k x219000 x219001).bind fun bt254 => ((laws_eqDisk.f k x243000 x243001 bt254.1 bt254.2).bind fun t260 => (if t260 = true then (laws_FnExactFall.j3 k x1 x8 x219000 x219001 x236000 x236001 x243000 x243001 x253000 x253001) else (some false)))
def laws_FnExactFall.j3 : Nat → List Bool → List Bool → List ByteArray → List (S111) → List ByteArray → List (S65) → List ByteArray → List (S65) → List ByteArray → List (S65) → Option (Bool)
 | 0, _, _, _, _, _, _, _, _, _, _ => none
 | k + 1, x1, x8, x219000, x219001, x236000, x236001, x243000, x243001, x253000, x253001 => (laws_toBoolS.f k x1).bind fun t261 => ((laws_eqBoolS.f k x8 t261).bind fun t264 => (if t264 = true then (laws_FnExactFall.j4 k x1 x8 x219000 x219001 x236000 x236001 x243000 x243001 x253000 x253001) else (some false)))
def laws_FnExactFall.j4 : Nat → List Bool → List Bool → List ByteArray → List (S111) → List ByteArray → List (S65) → List ByteArray → List (S65) → List ByteArray → List (S65) → Option (Bool)
 | 0, _, _, _, _, _, _, _, _, _, _ => none
 | k + 1, x1, x8, x219000, x219001, x236000, x236001, x243000, x243001, x253000, x253001 => (laws_markDisk.f k x243000 x243001 1).bind fun bt265 => ((laws_markBoolS.f k x8 bt265.1).bind fun bt268 => (if bt268.1 < 0 then (laws_FnExactFall.j5 k x1 true x219000 x219001 x236000 x236001 x253000 x253001) else ((laws_eqDisk.f k x253000 x253001 x236000 x236001).bind fun t270 => (laws_FnExactFall.j5 k x1 (!t270) x219000 x219001 x236000 x236001 x253000 x253001))))
def laws_FnExactFall.j5 : Nat → List Bool → Bool → List ByteArray → List (S111) → List ByteArray → List (S65) → List ByteArray → List (S65) → Option (Bool)
 | 0, _, _, _, _, _, _, _, _ => none
 | k + 1, x1, x61, x219000, x219001, x236000, x236001, x253000, x253001 => if x61 = true then (some false) else (laws_FnExactFall.j6 k x1 x219000 x219001 x236000 x236001 x253000 x253001)
def laws_FnExactFall.j6 : Nat → List Bool → List ByteArray → List (S111) → List ByteArray → List (S65) → List ByteArray → List (S65) → Option (Bool)
 | 0, _, _, _, _, _, _, _ => none
 | k + 1, x1, x219000, x219001, x236000, x236001, x253000, x253001 => (laws_markDisk.f k x253000 x253001 1).bind fun bt271 => ((laws_heldDisk.f k bt271.2.1 bt271.2.2 1).bind fun t274 => (if t274 < 0 then (some false) else (laws_FnExactFall.j7 k x1 bt271.1 t274 x219000 x219001 x236000 x236001 bt271.2.1 bt271.2.2)))
def laws_FnExactFall.j7 : Nat → List Bool → Int → Int → List ByteArray → List (S111) → List ByteArray → List (S65) → List ByteArray → List (S65) → Option (Bool)
 | 0, _, _, _, _, _, _, _, _, _ => none
 | k + 1, x1, x11, x12, x219000, x219001, x236000, x236001, x253000, x253001 => if x12 = x11 then (laws_FnExactFall.j8 k x1 x11 x219000 x219001 x236000 x236001 x253000 x253001) else (some false)
def laws_FnExactFall.j8 : Nat → List Bool → Int → List ByteArray → List (S111) → List ByteArray → List (S65) → List ByteArray → List (S65) → Option (Bool)
 | 0, _, _, _, _, _, _, _, _ => none
 | k + 1, x1, x11, x219000, x219001, x236000, x236001, x253000, x253001 => (laws_toDisk.f k x219000 x219001).bind fun bt275 => ((laws_toBoolS.f k x1).bind fun t281 => ((impl_Fall.f k bt275.1 bt275.2 t281).bind fun bt284 => ((laws_eqDisk.f k bt284.1 bt284.2 x236000 x236001).bind fun t291 => (if t291 = true then (laws_FnExactFall.j9 k x11 x253000 x253001) else (some false)))))
def laws_FnExactFall.j9 : Nat → Int → List ByteArray → List (S65) → Option (Bool)
 | 0, _, _, _ => none
 | k + 1, x11, x253000, x253001 => (laws_heldDisk.f k x253000 x253001 1).bind fun t292 => (if t292 < 0 then (some false) else (if t292 = x11 then (some true) else (some false)))
end
def laws_FnExactFall.f (k : Nat) (l0_0 : List ByteArray) (l0_1 : List (S111)) (l1 : List Bool) : Option (Bool) := if (l1.length : Int) > 1048576 then (some true) else (laws_FnExactFall.j0 k l1 l0_0 l0_1)
theorem laws_FnExactFall.mono_l : ∀ k, (∀ y0 y1 y2, LeO (laws_FnExactFall.j0 k y0 y1 y2) (laws_FnExactFall.j0 (k + 1) y0 y1 y2)) ∧ (∀ y0 y1 y2, LeO (laws_FnExactFall.j1 k y0 y1 y2) (laws_FnExactFall.j1 (k + 1) y0 y1 y2)) ∧ (∀ y0 y1 y2 y3 y4 y5 y6 y7 y8 y9, LeO (laws_FnExactFall.j2 k y0 y1 y2 y3 y4 y5 y6 y7 y8 y9) (laws_FnExactFall.j2 (k + 1) y0 y1 y2 y3 y4 y5 y6 y7 y8 y9)) ∧ (∀ y0 y1 y2 y3 y4 y5 y6 y7 y8 y9, LeO (laws_FnExactFall.j3 k y0 y1 y2 y3 y4 y5 y6 y7 y8 y9) (laws_FnExactFall.j3 (k + 1) y0 y1 y2 y3 y4 y5 y6 y7 y8 y9)) ∧ (∀ y0 y1 y2 y3 y4 y5 y6 y7 y8 y9, LeO (laws_FnExactFall.j4 k y0 y1 y2 y3 y4 y5 y6 y7 y8 y9) (laws_FnExactFall.j4 (k + 1) y0 y1 y2 y3 y4 y5 y6 y7 y8 y9)) ∧ (∀ y0 y1 y2 y3 y4 y5 y6 y7, LeO (laws_FnExactFall.j5 k y0 y1 y2 y3 y4 y5 y6 y7) (laws_FnExactFall.j5 (k + 1) y0 y1 y2 y3 y4 y5 y6 y7)) ∧ (∀ y0 y1 y2 y3 y4 y5 y6, LeO (laws_FnExactFall.j6 k y0 y1 y2 y3 y4 y5 y6) (laws_FnExactFall.j6 (k + 1) y0 y1 y2 y3 y4 y5 y6)) ∧ (∀ y0 y1 y2 y3 y4 y5 y6 y7 y8, LeO (laws_FnExactFall.j7 k y0 y1 y2 y3 y4 y5 y6 y7 y8) (laws_FnExactFall.j7 (k + 1) y0 y1 y2 y3 y4 y5 y6 y7 y8)) ∧ (∀ y0 y1 y2 y3 y4 y5 y6 y7, LeO (laws_FnExactFall.j8 k y0 y1 y2 y3 y4 y5 y6 y7) (laws_FnExactFall.j8 (k + 1) y0 y1 y2 y3 y4 y5 y6 y7)) ∧ (∀ y0 y1 y2, LeO (laws_FnExactFall.j9 k y0 y1 y2) (laws_FnExactFall.j9 (k + 1) y0 y1 y2))
 | 0 => ⟨fun _ _ _ r h => by simp [laws_FnExactFall.j0] at h, fun _ _ _ r h => by simp [laws_FnExactFall.j1] at h, fun _ _ _ _ _ _ _ _ _ _ r h => by simp [laws_FnExactFall.j2] at h, fun _ _ _ _ _ _ _ _ _ _ r h => by simp [laws_FnExactFall.j3] at h, fun _ _ _ _ _ _ _ _ _ _ r h => by simp [laws_FnExactFall.j4] at h, fun _ _ _ _ _ _ _ _ r h => by simp [laws_FnExactFall.j5] at h, fun _ _ _ _ _ _ _ r h => by simp [laws_FnExactFall.j6] at h, fun _ _ _ _ _ _ _ _ _ r h => by simp [laws_FnExactFall.j7] at h, fun _ _ _ _ _ _ _ _ r h => by simp [laws_FnExactFall.j8] at h, fun _ _ _ r h => by simp [laws_FnExactFall.j9] at h⟩
 | k + 1 => by
  obtain ⟨ih0, ih1, ih2, ih3, ih4, ih5, ih6, ih7, ih8, ih9⟩ := laws_FnExactFall.mono_l k
  refine ⟨?_, ?_, ?_, ?_, ?_, ?_, ?_, ?_, ?_, ?_⟩
  ·intro y0 y1 y2
   unfold laws_FnExactFall.j0
   repeat' first
   | (with_reducible exact ih0 _ _ _)
   | (with_reducible exact ih1 _ _ _)
   | (with_reducible exact ih2 _ _ _ _ _ _ _ _ _ _)
   | (with_reducible exact ih3 _ _ _ _ _ _ _ _ _ _)
   | (with_reducible exact ih4 _ _ _ _ _ _ _ _ _ _)
   | (with_reducible exact ih5 _ _ _ _ _ _ _ _)
   | (with_reducible exact ih6 _ _ _ _ _ _ _)
   | (with_reducible exact ih7 _ _ _ _ _ _ _ _ _)
   | (with_reducible exact ih8 _ _ _ _ _ _ _ _)
   | (with_reducible exact ih9 _ _ _)
   | (with_reducible exact impl_Fall.mono _ _ _ _)
   | (with_reducible exact laws_eqBoolS.mono _ _ _)
   | (with_reducible exact laws_eqDisk.mono _ _ _ _ _)
   | (with_reducible exact laws_heldDisk.mono _ _ _ _)
   | (with_reducible exact laws_markBoolS.mono _ _ _)
   | (with_reducible exact laws_markDisk.mono _ _ _ _)
   | (with_reducible exact laws_szDisk.mono _ _ _ _)
   | (with_reducible exact laws_toBoolS.mono _ _)
   | (with_reducible exact laws_toDisk.mono _ _ _)
   | (with_reducible exact spec_Fall.mono _ _ _ _)
   | (with_reducible exact LeO.refl _)
   | (with_reducible exact LeO.none _)
   | (with_reducible refine LeO.ite ?_ ?_)
   | (with_reducible refine LeO.bind ?_ (fun _ => ?_))
   | exact ih0 _ _ _
   | exact ih1 _ _ _
   | exact ih2 _ _ _ _ _ _ _ _ _ _
   | exact ih3 _ _ _ _ _ _ _ _ _ _
   | exact ih4 _ _ _ _ _ _ _ _ _ _
   | exact ih5 _ _ _ _ _ _ _ _
   | exact ih6 _ _ _ _ _ _ _
   | exact ih7 _ _ _ _ _ _ _ _ _
   | exact ih8 _ _ _ _ _ _ _ _
   | exact ih9 _ _ _
   | exact impl_Fall.mono _ _ _ _
   | exact laws_eqBoolS.mono _ _ _
   | exact laws_eqDisk.mono _ _ _ _ _
   | exact laws_heldDisk.mono _ _ _ _
   | exact laws_markBoolS.mono _ _ _
   | exact laws_markDisk.mono _ _ _ _
   | exact laws_szDisk.mono _ _ _ _
   | exact laws_toBoolS.mono _ _
   | exact laws_toDisk.mono _ _ _
   | exact spec_Fall.mono _ _ _ _
   | exact LeO.none _
   | refine LeO.ite ?_ ?_
   | refine LeO.bind ?_ (fun _ => ?_)
  ·intro y0 y1 y2
   unfold laws_FnExactFall.j1
   repeat' first
   | (with_reducible exact ih0 _ _ _)
   | (with_reducible exact ih1 _ _ _)
   | (with_reducible exact ih2 _ _ _ _ _ _ _ _ _ _)
   | (with_reducible exact ih3 _ _ _ _ _ _ _ _ _ _)
   | (with_reducible exact ih4 _ _ _ _ _ _ _ _ _ _)
   | (with_reducible exact ih5 _ _ _ _ _ _ _ _)
   | (with_reducible exact ih6 _ _ _ _ _ _ _)
   | (with_reducible exact ih7 _ _ _ _ _ _ _ _ _)
   | (with_reducible exact ih8 _ _ _ _ _ _ _ _)
   | (with_reducible exact ih9 _ _ _)
   | (with_reducible exact impl_Fall.mono _ _ _ _)
   | (with_reducible exact laws_eqBoolS.mono _ _ _)
   | (with_reducible exact laws_eqDisk.mono _ _ _ _ _)
   | (with_reducible exact laws_heldDisk.mono _ _ _ _)
   | (with_reducible exact laws_markBoolS.mono _ _ _)
   | (with_reducible exact laws_markDisk.mono _ _ _ _)
   | (with_reducible exact laws_szDisk.mono _ _ _ _)
   | (with_reducible exact laws_toBoolS.mono _ _)
   | (with_reducible exact laws_toDisk.mono _ _ _)
   | (with_reducible exact spec_Fall.mono _ _ _ _)
   | (with_reducible exact LeO.refl _)
   | (with_reducible exact LeO.none _)
   | (with_reducible refine LeO.ite ?_ ?_)
   | (with_reducible refine LeO.bind ?_ (fun _ => ?_))
   | exact ih0 _ _ _
   | exact ih1 _ _ _
   | exact ih2 _ _ _ _ _ _ _ _ _ _
   | exact ih3 _ _ _ _ _ _ _ _ _ _
   | exact ih4 _ _ _ _ _ _ _ _ _ _
   | exact ih5 _ _ _ _ _ _ _ _
   | exact ih6 _ _ _ _ _ _ _
   | exact ih7 _ _ _ _ _ _ _ _ _
   | exact ih8 _ _ _ _ _ _ _ _
   | exact ih9 _ _ _
   | exact impl_Fall.mono _ _ _ _
   | exact laws_eqBoolS.mono _ _ _
   | exact laws_eqDisk.mono _ _ _ _ _
   | exact laws_heldDisk.mono _ _ _ _
   | exact laws_markBoolS.mono _ _ _
   | exact laws_markDisk.mono _ _ _ _
   | exact laws_szDisk.mono _ _ _ _
   | exact laws_toBoolS.mono _ _
   | exact laws_toDisk.mono _ _ _
   | exact spec_Fall.mono _ _ _ _
   | exact LeO.none _
   | refine LeO.ite ?_ ?_
   | refine LeO.bind ?_ (fun _ => ?_)
  ·intro y0 y1 y2 y3 y4 y5 y6 y7 y8 y9
   unfold laws_FnExactFall.j2
   repeat' first
   | (with_reducible exact ih0 _ _ _)
   | (with_reducible exact ih1 _ _ _)
   | (with_reducible exact ih2 _ _ _ _ _ _ _ _ _ _)
   | (with_reducible exact ih3 _ _ _ _ _ _ _ _ _ _)
   | (with_reducible exact ih4 _ _ _ _ _ _ _ _ _ _)
   | (with_reducible exact ih5 _ _ _ _ _ _ _ _)
   | (with_reducible exact ih6 _ _ _ _ _ _ _)
   | (with_reducible exact ih7 _ _ _ _ _ _ _ _ _)
   | (with_reducible exact ih8 _ _ _ _ _ _ _ _)
   | (with_reducible exact ih9 _ _ _)
   | (with_reducible exact impl_Fall.mono _ _ _ _)
   | (with_reducible exact laws_eqBoolS.mono _ _ _)
   | (with_reducible exact laws_eqDisk.mono _ _ _ _ _)
   | (with_reducible exact laws_heldDisk.mono _ _ _ _)
   | (with_reducible exact laws_markBoolS.mono _ _ _)
   | (with_reducible exact laws_markDisk.mono _ _ _ _)
   | (with_reducible exact laws_szDisk.mono _ _ _ _)
   | (with_reducible exact laws_toBoolS.mono _ _)
   | (with_reducible exact laws_toDisk.mono _ _ _)
   | (with_reducible exact spec_Fall.mono _ _ _ _)
   | (with_reducible exact LeO.refl _)
   | (with_reducible exact LeO.none _)
   | (with_reducible refine LeO.ite ?_ ?_)
   | (with_reducible refine LeO.bind ?_ (fun _ => ?_))
   | exact ih0 _ _ _
   | exact ih1 _ _ _
   | exact ih2 _ _ _ _ _ _ _ _ _ _
   | exact ih3 _ _ _ _ _ _ _ _ _ _
   | exact ih4 _ _ _ _ _ _ _ _ _ _
   | exact ih5 _ _ _ _ _ _ _ _
   | exact ih6 _ _ _ _ _ _ _
   | exact ih7 _ _ _ _ _ _ _ _ _
   | exact ih8 _ _ _ _ _ _ _ _
   | exact ih9 _ _ _
   | exact impl_Fall.mono _ _ _ _
   | exact laws_eqBoolS.mono _ _ _
   | exact laws_eqDisk.mono _ _ _ _ _
   | exact laws_heldDisk.mono _ _ _ _
   | exact laws_markBoolS.mono _ _ _
   | exact laws_markDisk.mono _ _ _ _
   | exact laws_szDisk.mono _ _ _ _
   | exact laws_toBoolS.mono _ _
   | exact laws_toDisk.mono _ _ _
   | exact spec_Fall.mono _ _ _ _
   | exact LeO.none _
   | refine LeO.ite ?_ ?_
   | refine LeO.bind ?_ (fun _ => ?_)
  ·intro y0 y1 y2 y3 y4 y5 y6 y7 y8 y9
   unfold laws_FnExactFall.j3
   repeat' first
   | (with_reducible exact ih0 _ _ _)
   | (with_reducible exact ih1 _ _ _)
   | (with_reducible exact ih2 _ _ _ _ _ _ _ _ _ _)
   | (with_reducible exact ih3 _ _ _ _ _ _ _ _ _ _)
   | (with_reducible exact ih4 _ _ _ _ _ _ _ _ _ _)
   | (with_reducible exact ih5 _ _ _ _ _ _ _ _)
   | (with_reducible exact ih6 _ _ _ _ _ _ _)
   | (with_reducible exact ih7 _ _ _ _ _ _ _ _ _)
   | (with_reducible exact ih8 _ _ _ _ _ _ _ _)
   | (with_reducible exact ih9 _ _ _)
   | (with_reducible exact impl_Fall.mono _ _ _ _)
   | (with_reducible exact laws_eqBoolS.mono _ _ _)
   | (with_reducible exact laws_eqDisk.mono _ _ _ _ _)
   | (with_reducible exact laws_heldDisk.mono _ _ _ _)
   | (with_reducible exact laws_markBoolS.mono _ _ _)
   | (with_reducible exact laws_markDisk.mono _ _ _ _)
   | (with_reducible exact laws_szDisk.mono _ _ _ _)
   | (with_reducible exact laws_toBoolS.mono _ _)
   | (with_reducible exact laws_toDisk.mono _ _ _)
   | (with_reducible exact spec_Fall.mono _ _ _ _)
   | (with_reducible exact LeO.refl _)
   | (with_reducible exact LeO.none _)
   | (with_reducible refine LeO.ite ?_ ?_)
   | (with_reducible refine LeO.bind ?_ (fun _ => ?_))
   | exact ih0 _ _ _
   | exact ih1 _ _ _
   | exact ih2 _ _ _ _ _ _ _ _ _ _
   | exact ih3 _ _ _ _ _ _ _ _ _ _
   | exact ih4 _ _ _ _ _ _ _ _ _ _
   | exact ih5 _ _ _ _ _ _ _ _
   | exact ih6 _ _ _ _ _ _ _
   | exact ih7 _ _ _ _ _ _ _ _ _
   | exact ih8 _ _ _ _ _ _ _ _
   | exact ih9 _ _ _
   | exact impl_Fall.mono _ _ _ _
   | exact laws_eqBoolS.mono _ _ _
   | exact laws_eqDisk.mono _ _ _ _ _
   | exact laws_heldDisk.mono _ _ _ _
   | exact laws_markBoolS.mono _ _ _
   | exact laws_markDisk.mono _ _ _ _
   | exact laws_szDisk.mono _ _ _ _
   | exact laws_toBoolS.mono _ _
   | exact laws_toDisk.mono _ _ _
   | exact spec_Fall.mono _ _ _ _
   | exact LeO.none _
   | refine LeO.ite ?_ ?_
   | refine LeO.bind ?_ (fun _ => ?_)
  ·intro y0 y1 y2 y3 y4 y5 y6 y7 y8 y9
   unfold laws_FnExactFall.j4
   repeat' first
   | (with_reducible exact ih0 _ _ _)
   | (with_reducible exact ih1 _ _ _)
   | (with_reducible exact ih2 _ _ _ _ _ _ _ _ _ _)
   | (with_reducible exact ih3 _ _ _ _ _ _ _ _ _ _)
   | (with_reducible exact ih4 _ _ _ _ _ _ _ _ _ _)
   | (with_reducible exact ih5 _ _ _ _ _ _ _ _)
   | (with_reducible exact ih6 _ _ _ _ _ _ _)
   | (with_reducible exact ih7 _ _ _ _ _ _ _ _ _)
   | (with_reducible exact ih8 _ _ _ _ _ _ _ _)
   | (with_reducible exact ih9 _ _ _)
   | (with_reducible exact impl_Fall.mono _ _ _ _)
   | (with_reducible exact laws_eqBoolS.mono _ _ _)
   | (with_reducible exact laws_eqDisk.mono _ _ _ _ _)
   | (with_reducible exact laws_heldDisk.mono _ _ _ _)
   | (with_reducible exact laws_markBoolS.mono _ _ _)
   | (with_reducible exact laws_markDisk.mono _ _ _ _)
   | (with_reducible exact laws_szDisk.mono _ _ _ _)
   | (with_reducible exact laws_toBoolS.mono _ _)
   | (with_reducible exact laws_toDisk.mono _ _ _)
   | (with_reducible exact spec_Fall.mono _ _ _ _)
   | (with_reducible exact LeO.refl _)
   | (with_reducible exact LeO.none _)
   | (with_reducible refine LeO.ite ?_ ?_)
   | (with_reducible refine LeO.bind ?_ (fun _ => ?_))
   | exact ih0 _ _ _
   | exact ih1 _ _ _
   | exact ih2 _ _ _ _ _ _ _ _ _ _
   | exact ih3 _ _ _ _ _ _ _ _ _ _
   | exact ih4 _ _ _ _ _ _ _ _ _ _
   | exact ih5 _ _ _ _ _ _ _ _
   | exact ih6 _ _ _ _ _ _ _
   | exact ih7 _ _ _ _ _ _ _ _ _
   | exact ih8 _ _ _ _ _ _ _ _
   | exact ih9 _ _ _
   | exact impl_Fall.mono _ _ _ _
   | exact laws_eqBoolS.mono _ _ _
   | exact laws_eqDisk.mono _ _ _ _ _
   | exact laws_heldDisk.mono _ _ _ _
   | exact laws_markBoolS.mono _ _ _
   | exact laws_markDisk.mono _ _ _ _
   | exact laws_szDisk.mono _ _ _ _
   | exact laws_toBoolS.mono _ _
   | exact laws_toDisk.mono _ _ _
   | exact spec_Fall.mono _ _ _ _
   | exact LeO.none _
   | refine LeO.ite ?_ ?_
   | refine LeO.bind ?_ (fun _ => ?_)
  ·intro y0 y1 y2 y3 y4 y5 y6 y7
   unfold laws_FnExactFall.j5
   repeat' first
   | (with_reducible exact ih0 _ _ _)
   | (with_reducible exact ih1 _ _ _)
   | (with_reducible exact ih2 _ _ _ _ _ _ _ _ _ _)
   | (with_reducible exact ih3 _ _ _ _ _ _ _ _ _ _)
   | (with_reducible exact ih4 _ _ _ _ _ _ _ _ _ _)
   | (with_reducible exact ih5 _ _ _ _ _ _ _ _)
   | (with_reducible exact ih6 _ _ _ _ _ _ _)
   | (with_reducible exact ih7 _ _ _ _ _ _ _ _ _)
   | (with_reducible exact ih8 _ _ _ _ _ _ _ _)
   | (with_reducible exact ih9 _ _ _)
   | (with_reducible exact impl_Fall.mono _ _ _ _)
   | (with_reducible exact laws_eqBoolS.mono _ _ _)
   | (with_reducible exact laws_eqDisk.mono _ _ _ _ _)
   | (with_reducible exact laws_heldDisk.mono _ _ _ _)
   | (with_reducible exact laws_markBoolS.mono _ _ _)
   | (with_reducible exact laws_markDisk.mono _ _ _ _)
   | (with_reducible exact laws_szDisk.mono _ _ _ _)
   | (with_reducible exact laws_toBoolS.mono _ _)
   | (with_reducible exact laws_toDisk.mono _ _ _)
   | (with_reducible exact spec_Fall.mono _ _ _ _)
   | (with_reducible exact LeO.refl _)
   | (with_reducible exact LeO.none _)
   | (with_reducible refine LeO.ite ?_ ?_)
   | (with_reducible refine LeO.bind ?_ (fun _ => ?_))
   | exact ih0 _ _ _
   | exact ih1 _ _ _
   | exact ih2 _ _ _ _ _ _ _ _ _ _
   | exact ih3 _ _ _ _ _ _ _ _ _ _
   | exact ih4 _ _ _ _ _ _ _ _ _ _
   | exact ih5 _ _ _ _ _ _ _ _
   | exact ih6 _ _ _ _ _ _ _
   | exact ih7 _ _ _ _ _ _ _ _ _
   | exact ih8 _ _ _ _ _ _ _ _
   | exact ih9 _ _ _
   | exact impl_Fall.mono _ _ _ _
   | exact laws_eqBoolS.mono _ _ _
   | exact laws_eqDisk.mono _ _ _ _ _
   | exact laws_heldDisk.mono _ _ _ _
   | exact laws_markBoolS.mono _ _ _
   | exact laws_markDisk.mono _ _ _ _
   | exact laws_szDisk.mono _ _ _ _
   | exact laws_toBoolS.mono _ _
   | exact laws_toDisk.mono _ _ _
   | exact spec_Fall.mono _ _ _ _
   | exact LeO.none _
   | refine LeO.ite ?_ ?_
   | refine LeO.bind ?_ (fun _ => ?_)
  ·intro y0 y1 y2 y3 y4 y5 y6
   unfold laws_FnExactFall.j6
   repeat' first
   | (with_reducible exact ih0 _ _ _)
   | (with_reducible exact ih1 _ _ _)
   | (with_reducible exact ih2 _ _ _ _ _ _ _ _ _ _)
   | (with_reducible exact ih3 _ _ _ _ _ _ _ _ _ _)
   | (with_reducible exact ih4 _ _ _ _ _ _ _ _ _ _)
   | (with_reducible exact ih5 _ _ _ _ _ _ _ _)
   | (with_reducible exact ih6 _ _ _ _ _ _ _)
   | (with_reducible exact ih7 _ _ _ _ _ _ _ _ _)
   | (with_reducible exact ih8 _ _ _ _ _ _ _ _)
   | (with_reducible exact ih9 _ _ _)
   | (with_reducible exact impl_Fall.mono _ _ _ _)
   | (with_reducible exact laws_eqBoolS.mono _ _ _)
   | (with_reducible exact laws_eqDisk.mono _ _ _ _ _)
   | (with_reducible exact laws_heldDisk.mono _ _ _ _)
   | (with_reducible exact laws_markBoolS.mono _ _ _)
   | (with_reducible exact laws_markDisk.mono _ _ _ _)
   | (with_reducible exact laws_szDisk.mono _ _ _ _)
   | (with_reducible exact laws_toBoolS.mono _ _)
   | (with_reducible exact laws_toDisk.mono _ _ _)
   | (with_reducible exact spec_Fall.mono _ _ _ _)
   | (with_reducible exact LeO.refl _)
   | (with_reducible exact LeO.none _)
   | (with_reducible refine LeO.ite ?_ ?_)
   | (with_reducible refine LeO.bind ?_ (fun _ => ?_))
   | exact ih0 _ _ _
   | exact ih1 _ _ _
   | exact ih2 _ _ _ _ _ _ _ _ _ _
   | exact ih3 _ _ _ _ _ _ _ _ _ _
   | exact ih4 _ _ _ _ _ _ _ _ _ _
   | exact ih5 _ _ _ _ _ _ _ _
   | exact ih6 _ _ _ _ _ _ _
   | exact ih7 _ _ _ _ _ _ _ _ _
   | exact ih8 _ _ _ _ _ _ _ _
   | exact ih9 _ _ _
   | exact impl_Fall.mono _ _ _ _
   | exact laws_eqBoolS.mono _ _ _
   | exact laws_eqDisk.mono _ _ _ _ _
   | exact laws_heldDisk.mono _ _ _ _
   | exact laws_markBoolS.mono _ _ _
   | exact laws_markDisk.mono _ _ _ _
   | exact laws_szDisk.mono _ _ _ _
   | exact laws_toBoolS.mono _ _
   | exact laws_toDisk.mono _ _ _
   | exact spec_Fall.mono _ _ _ _
   | exact LeO.none _
   | refine LeO.ite ?_ ?_
   | refine LeO.bind ?_ (fun _ => ?_)
  ·intro y0 y1 y2 y3 y4 y5 y6 y7 y8
   unfold laws_FnExactFall.j7
   repeat' first
   | (with_reducible exact ih0 _ _ _)
   | (with_reducible exact ih1 _ _ _)
   | (with_reducible exact ih2 _ _ _ _ _ _ _ _ _ _)
   | (with_reducible exact ih3 _ _ _ _ _ _ _ _ _ _)
   | (with_reducible exact ih4 _ _ _ _ _ _ _ _ _ _)
   | (with_reducible exact ih5 _ _ _ _ _ _ _ _)
   | (with_reducible exact ih6 _ _ _ _ _ _ _)
   | (with_reducible exact ih7 _ _ _ _ _ _ _ _ _)
   | (with_reducible exact ih8 _ _ _ _ _ _ _ _)
   | (with_reducible exact ih9 _ _ _)
   | (with_reducible exact impl_Fall.mono _ _ _ _)
   | (with_reducible exact laws_eqBoolS.mono _ _ _)
   | (with_reducible exact laws_eqDisk.mono _ _ _ _ _)
   | (with_reducible exact laws_heldDisk.mono _ _ _ _)
   | (with_reducible exact laws_markBoolS.mono _ _ _)
   | (with_reducible exact laws_markDisk.mono _ _ _ _)
   | (with_reducible exact laws_szDisk.mono _ _ _ _)
   | (with_reducible exact laws_toBoolS.mono _ _)
   | (with_reducible exact laws_toDisk.mono _ _ _)
   | (with_reducible exact spec_Fall.mono _ _ _ _)
   | (with_reducible exact LeO.refl _)
   | (with_reducible exact LeO.none _)
   | (with_reducible refine LeO.ite ?_ ?_)
   | (with_reducible refine LeO.bind ?_ (fun _ => ?_))
   | exact ih0 _ _ _
   | exact ih1 _ _ _
   | exact ih2 _ _ _ _ _ _ _ _ _ _
   | exact ih3 _ _ _ _ _ _ _ _ _ _
   | exact ih4 _ _ _ _ _ _ _ _ _ _
   | exact ih5 _ _ _ _ _ _ _ _
   | exact ih6 _ _ _ _ _ _ _
   | exact ih7 _ _ _ _ _ _ _ _ _
   | exact ih8 _ _ _ _ _ _ _ _
   | exact ih9 _ _ _
   | exact impl_Fall.mono _ _ _ _
   | exact laws_eqBoolS.mono _ _ _
   | exact laws_eqDisk.mono _ _ _ _ _
   | exact laws_heldDisk.mono _ _ _ _
   | exact laws_markBoolS.mono _ _ _
   | exact laws_markDisk.mono _ _ _ _
   | exact laws_szDisk.mono _ _ _ _
   | exact laws_toBoolS.mono _ _
   | exact laws_toDisk.mono _ _ _
   | exact spec_Fall.mono _ _ _ _
   | exact LeO.none _
   | refine LeO.ite ?_ ?_
   | refine LeO.bind ?_ (fun _ => ?_)
  ·intro y0 y1 y2 y3 y4 y5 y6 y7
   unfold laws_FnExactFall.j8
   repeat' first
   | (with_reducible exact ih0 _ _ _)
   | (with_reducible exact ih1 _ _ _)
   | (with_reducible exact ih2 _ _ _ _ _ _ _ _ _ _)
   | (with_reducible exact ih3 _ _ _ _ _ _ _ _ _ _)
   | (with_reducible exact ih4 _ _ _ _ _ _ _ _ _ _)
   | (with_reducible exact ih5 _ _ _ _ _ _ _ _)
   | (with_reducible exact ih6 _ _ _ _ _ _ _)
   | (with_reducible exact ih7 _ _ _ _ _ _ _ _ _)
   | (with_reducible exact ih8 _ _ _ _ _ _ _ _)
   | (with_reducible exact ih9 _ _ _)
   | (with_reducible exact impl_Fall.mono _ _ _ _)
   | (with_reducible exact laws_eqBoolS.mono _ _ _)
   | (with_reducible exact laws_eqDisk.mono _ _ _ _ _)
   | (with_reducible exact laws_heldDisk.mono _ _ _ _)
   | (with_reducible exact laws_markBoolS.mono _ _ _)
   | (with_reducible exact laws_markDisk.mono _ _ _ _)
   | (with_reducible exact laws_szDisk.mono _ _ _ _)
   | (with_reducible exact laws_toBoolS.mono _ _)
   | (with_reducible exact laws_toDisk.mono _ _ _)
   | (with_reducible exact spec_Fall.mono _ _ _ _)
   | (with_reducible exact LeO.refl _)
   | (with_reducible exact LeO.none _)
   | (with_reducible refine LeO.ite ?_ ?_)
   | (with_reducible refine LeO.bind ?_ (fun _ => ?_))
   | exact ih0 _ _ _
   | exact ih1 _ _ _
   | exact ih2 _ _ _ _ _ _ _ _ _ _
   | exact ih3 _ _ _ _ _ _ _ _ _ _
   | exact ih4 _ _ _ _ _ _ _ _ _ _
   | exact ih5 _ _ _ _ _ _ _ _
   | exact ih6 _ _ _ _ _ _ _
   | exact ih7 _ _ _ _ _ _ _ _ _
   | exact ih8 _ _ _ _ _ _ _ _
   | exact ih9 _ _ _
   | exact impl_Fall.mono _ _ _ _
   | exact laws_eqBoolS.mono _ _ _
   | exact laws_eqDisk.mono _ _ _ _ _
   | exact laws_heldDisk.mono _ _ _ _
   | exact laws_markBoolS.mono _ _ _
   | exact laws_markDisk.mono _ _ _ _
   | exact laws_szDisk.mono _ _ _ _
   | exact laws_toBoolS.mono _ _
   | exact laws_toDisk.mono _ _ _
   | exact spec_Fall.mono _ _ _ _
   | exact LeO.none _
   | refine LeO.ite ?_ ?_
   | refine LeO.bind ?_ (fun _ => ?_)
  ·intro y0 y1 y2
   unfold laws_FnExactFall.j9
   repeat' first
   | (with_reducible exact ih0 _ _ _)
   | (with_reducible exact ih1 _ _ _)
   | (with_reducible exact ih2 _ _ _ _ _ _ _ _ _ _)
   | (with_reducible exact ih3 _ _ _ _ _ _ _ _ _ _)
   | (with_reducible exact ih4 _ _ _ _ _ _ _ _ _ _)
   | (with_reducible exact ih5 _ _ _ _ _ _ _ _)
   | (with_reducible exact ih6 _ _ _ _ _ _ _)
   | (with_reducible exact ih7 _ _ _ _ _ _ _ _ _)
   | (with_reducible exact ih8 _ _ _ _ _ _ _ _)
   | (with_reducible exact ih9 _ _ _)
   | (with_reducible exact impl_Fall.mono _ _ _ _)
   | (with_reducible exact laws_eqBoolS.mono _ _ _)
   | (with_reducible exact laws_eqDisk.mono _ _ _ _ _)
   | (with_reducible exact laws_heldDisk.mono _ _ _ _)
   | (with_reducible exact laws_markBoolS.mono _ _ _)
   | (with_reducible exact laws_markDisk.mono _ _ _ _)
   | (with_reducible exact laws_szDisk.mono _ _ _ _)
   | (with_reducible exact laws_toBoolS.mono _ _)
   | (with_reducible exact laws_toDisk.mono _ _ _)
   | (with_reducible exact spec_Fall.mono _ _ _ _)
   | (with_reducible exact LeO.refl _)
   | (with_reducible exact LeO.none _)
   | (with_reducible refine LeO.ite ?_ ?_)
   | (with_reducible refine LeO.bind ?_ (fun _ => ?_))
   | exact ih0 _ _ _
   | exact ih1 _ _ _
   | exact ih2 _ _ _ _ _ _ _ _ _ _
   | exact ih3 _ _ _ _ _ _ _ _ _ _
   | exact ih4 _ _ _ _ _ _ _ _ _ _
   | exact ih5 _ _ _ _ _ _ _ _
   | exact ih6 _ _ _ _ _ _ _
   | exact ih7 _ _ _ _ _ _ _ _ _
   | exact ih8 _ _ _ _ _ _ _ _
   | exact ih9 _ _ _
   | exact impl_Fall.mono _ _ _ _
   | exact laws_eqBoolS.mono _ _ _
   | exact laws_eqDisk.mono _ _ _ _ _
   | exact laws_heldDisk.mono _ _ _ _
   | exact laws_markBoolS.mono _ _ _
   | exact laws_markDisk.mono _ _ _ _
   | exact laws_szDisk.mono _ _ _ _
   | exact laws_toBoolS.mono _ _
   | exact laws_toDisk.mono _ _ _
   | exact spec_Fall.mono _ _ _ _
   | exact LeO.none _
   | refine LeO.ite ?_ ?_
   | refine LeO.bind ?_ (fun _ => ?_)
theorem laws_FnExactFall.mono : ∀ a0 a1 a2 k, LeO (laws_FnExactFall.f k a0 a1 a2) (laws_FnExactFall.f (k + 1) a0 a1 a2) := by
 intro a0 a1 a2 k
 obtain ⟨ih0, ih1, ih2, ih3, ih4, ih5, ih6, ih7, ih8, ih9⟩ := laws_FnExactFall.mono_l k
 unfold laws_FnExactFall.f
 repeat' first
   | (with_reducible exact ih0 _ _ _)
   | (with_reducible exact ih1 _ _ _)
   | (with_reducible exact ih2 _ _ _ _ _ _ _ _ _ _)
   | (with_reducible exact ih3 _ _ _ _ _ _ _ _ _ _)
   | (with_reducible exact ih4 _ _ _ _ _ _ _ _ _ _)
   | (with_reducible exact ih5 _ _ _ _ _ _ _ _)
   | (with_reducible exact ih6 _ _ _ _ _ _ _)
   | (with_reducible exact ih7 _ _ _ _ _ _ _ _ _)
   | (with_reducible exact ih8 _ _ _ _ _ _ _ _)
   | (with_reducible exact ih9 _ _ _)
   | (with_reducible exact impl_Fall.mono _ _ _ _)
   | (with_reducible exact laws_eqBoolS.mono _ _ _)
   | (with_reducible exact laws_eqDisk.mono _ _ _ _ _)
   | (with_reducible exact laws_heldDisk.mono _ _ _ _)
   | (with_reducible exact laws_markBoolS.mono _ _ _)
   | (with_reducible exact laws_markDisk.mono _ _ _ _)
   | (with_reducible exact laws_szDisk.mono _ _ _ _)
   | (with_reducible exact laws_toBoolS.mono _ _)
   | (with_reducible exact laws_toDisk.mono _ _ _)
   | (with_reducible exact spec_Fall.mono _ _ _ _)
   | (with_reducible exact LeO.refl _)
   | (with_reducible exact LeO.none _)
   | (with_reducible refine LeO.ite ?_ ?_)
   | (with_reducible refine LeO.bind ?_ (fun _ => ?_))
   | exact ih0 _ _ _
   | exact ih1 _ _ _
   | exact ih2 _ _ _ _ _ _ _ _ _ _
   | exact ih3 _ _ _ _ _ _ _ _ _ _
   | exact ih4 _ _ _ _ _ _ _ _ _ _
   | exact ih5 _ _ _ _ _ _ _ _
   | exact ih6 _ _ _ _ _ _ _
   | exact ih7 _ _ _ _ _ _ _ _ _
   | exact ih8 _ _ _ _ _ _ _ _
   | exact ih9 _ _ _
   | exact impl_Fall.mono _ _ _ _
   | exact laws_eqBoolS.mono _ _ _
   | exact laws_eqDisk.mono _ _ _ _ _
   | exact laws_heldDisk.mono _ _ _ _
   | exact laws_markBoolS.mono _ _ _
   | exact laws_markDisk.mono _ _ _ _
   | exact laws_szDisk.mono _ _ _ _
   | exact laws_toBoolS.mono _ _
   | exact laws_toDisk.mono _ _ _
   | exact spec_Fall.mono _ _ _ _
   | exact LeO.none _
   | refine LeO.ite ?_ ?_
   | refine LeO.bind ?_ (fun _ => ?_)
set_option maxHeartbeats 8000000 in
set_option maxRecDepth 100000 in
theorem laws_FnExactFall.calls (k : Nat) (A0_0 : Option Addr) (c0_0 : Nat) (l0_0 : List ByteArray) (A0_1 : Option Addr) (c0_1 : Nat) (l0_1 : List (S111)) (A1 : Option Addr) (c1 : Nat) (l1 : List Bool) (r : Bool) (w : World) (hr0_0 : Kd.C Kd.string w A0_0 l0_0.length l0_0) (hc0_0 : l0_0.length ≤ c0_0) (hr0_1 : Kd.C k111 w A0_1 l0_1.length l0_1) (hc0_1 : l0_1.length ≤ c0_1) (hr1 : Kd.C Kd.bool w A1 l1.length l1) (hc1 : l1.length ≤ c1) (h : laws_FnExactFall.f k l0_0 l0_1 l1 = some r) :
  Calls Try.prog 8 #[.agg #[.slice A0_0 l0_0.length c0_0, .slice A0_1 l0_1.length c0_1], .slice A1 l1.length c1] w fun e w' => e = .returned (.bool r) ∧ Below w.heap.size w w' := by
 have hu25 := Try.underlying25
 have hu30 := Try.underlying30
 have HR0_0 := Aside0.mk hr0_0
 have HC0_0 := Aside0.mk hc0_0
 clear hr0_0 hc0_0
 have HR0_1 := Aside0.mk hr0_1
 have HC0_1 := Aside0.mk hc0_1
 clear hr0_1 hc0_1
 have HR1 := Aside0.mk hr1
 have HC1 := Aside0.mk hc1
 clear hr1 hc1
 have HB := Aside0.mk (Below.refl w.heap.size w)
 have H : (if (l1.length : Int) > 1048576 then (some true) else (laws_FnExactFall.j0 k l1 l0_0 l0_1)) = some r := h
 clear h
 have HC3 := Aside0.mk H
 clear H
 go_enter Try.func8, Try.ntmps8
 go_upto_if 16 with (first | ((with_reducible refine gate_dst (N := 2) rfl ?_); refine box_event ?hg (N := 2) ?hd (cs := #[.slice A0_0 l0_0.length c0_0, .slice A0_1 l0_1.length c0_1]) (t := 25) ?hr ?_; (case hd => rfl); (case hg => rfl); (case hr => first | (go_simp; done) | (go_simp; rfl)); intro gb218 hg w4 hbox hb; have n0_ := Aside0.mk (below_step (by repeat (first | (with_reducible first | exact HB.out | apply below_alloc | apply pw_below_drewN | apply below_drew1) | exact HB.out)) hb); have n1_ := Aside0.mk (hbox); have n2_ := Aside0.mk ((by rw [hg]; exact (below_size (by repeat (first | (with_reducible first | exact HB.out | apply below_alloc | apply pw_below_drewN | apply below_drew1) | exact HB.out))) : w.heap.size ≤ gb218)); have n3_ := Aside0.mk ((by rw [hg]; exact (below_size (by repeat (first | (with_reducible first | exact HB.out | apply below_alloc | apply pw_below_drewN | apply below_drew1) | exact HB.out))) : w.heap.size ≤ gb218)); clear HB; have HB := n0_; have BK218 := n1_; have GW218 := n2_; have GE218 := n3_; clear n0_ n1_ n2_ n3_; clear hb hbox hg))
 (try simp only [Act.put, List.setIfInBounds_toArray, List.set_cons_zero, List.set_cons_succ])
 go_cut [] (fun wc => ∃ (kq : Nat), Aside0 (laws_FnExactFall.j0 kq l1 l0_0 l0_1 = some r) ∧ Aside0 (kq ≤ k) ∧ Aside0 (wc.heap[gb218]? = some (.cells #[(.slice A0_0 l0_0.length c0_0), (.slice A0_1 l0_1.length c0_1)] 25 (0, 0))) ∧ Aside0 (Below w.heap.size w wc))
 case first =>
  have H := HC3.out
  clear HC3
  by_cases c5 : (l1.length : Int) > 1048576
  ·rw [if_pos c5] at H
   have c5b0 : decide (1048576 < (l1.length : Int)) = true := decide_eq_true c5
   have c5b1 : decide (1048576 < l1.length) = true := decide_eq_true (by omega)
   clear c5
   (first | rw [c5b0] | (simp only [i64_w, i32_w]; rw [c5b0]) | rw [c5b1] | rw [c5b2] | skip)
   obtain rfl := Option.some.inj H
   go_wp2
   go_ret
   exact ⟨by first | rfl | (simp [errW_none, errW_some] <;> rfl) | (simp [*, errW_none, errW_some] <;> rfl), by repeat (first | (with_reducible first | exact HB.out | apply below_alloc | apply pw_below_drewN | apply below_drew1 | refine below_set ?_ GE218.out) | exact HB.out)⟩
  ·rw [if_neg c5] at H
   have c5b0 : decide (1048576 < (l1.length : Int)) = false := decide_eq_false c5
   have c5b1 : decide (1048576 < l1.length) = false := decide_eq_false (by omega)
   clear c5
   (first | rw [c5b0] | (simp only [i64_w, i32_w]; rw [c5b0]) | rw [c5b1] | rw [c5b2] | skip)
   have H' := Aside0.mk H
   clear H
   go_wp2
   go_meet
   case rel => exact ⟨_, H', ⟨by first | omega | exact Nat.le_refl _⟩, ⟨by (with_reducible repeat (first | apply bN | apply bD | apply bA)); exact BK218.out⟩, ⟨by repeat (first | (with_reducible first | exact HB.out | apply below_alloc | apply pw_below_drewN | apply below_drew1 | refine below_set ?_ GE218.out) | exact HB.out)⟩⟩
 case rest =>
  clear HC3
  try clear c1
  try clear p2
  try clear c5
  try clear c5b0
  try clear c5b1
  try clear c5b2
  obtain ⟨kq, HA, HJ2, BK218, HB⟩ := hcut
  cases kq with
  | zero => exact absurd HA.out (by simp [laws_FnExactFall.j0])
  | succ kj2 =>
   have H := HA.out
   clear HA
   simp only [laws_FnExactFall.j0] at H
   replace H := Option.bind_eq_some_iff.mp H
   obtain ⟨t219, A60, H⟩ := H
   replace H : (if t219 < 0 then (some true) else (laws_FnExactFall.j1 kj2 l1 l0_0 l0_1)) = some r := H
   have A6 := Aside0.mk A60
   clear A60
   have HC7 := Aside0.mk H
   clear H
   have hcz8_0 : wc.cell? ⟨gb218, 0, none⟩ = some (.slice A0_0 l0_0.length c0_0) := (blk_cell BK218.out 0).trans rfl
   have hcz8_1 : wc.cell? ⟨gb218, 1, none⟩ = some (.slice A0_1 l0_1.length c0_1) := (blk_cell BK218.out 1).trans rfl
   have hfz8_0 := blk_frozen BK218.out 0
   have hfz8_1 := blk_frozen BK218.out 1
   go_upto_if 21 with (first | ((with_reducible refine gate_callee (f := 15) rfl ?_); refine goesL_ (some 19) rfl rfl Try.func15 (by kernel_rfl) rfl #[.agg #[.slice A0_0 l0_0.length c0_0, .slice A0_1 l0_1.length c0_1], .int .i64 1048576] rfl (by (try simp only [List.map_toArray, List.map_cons, List.map_nil]); first | done | rfl | (simp only [List.length_drop, List.length_take]; rfl)) ?_; (with_reducible refine (laws_szDisk.calls kj2 _ _ l0_0 _ _ l0_1 1048576 t219 _ ?side1 ?side2 ?side3 ?side4 A6.out).mono ?_); (case side1 => repeat (first | exact (Kd.C_below HR0_0.out HB.out) | (with_reducible refine Kd.C_alloc ?_ _) | (with_reducible refine Kd.C_drewN ?_ _) | (with_reducible refine Kd.C_drew ?_))); (case side2 => exact HC0_0.out); (case side3 => repeat (first | exact (Kd.C_below HR0_1.out HB.out) | (with_reducible refine Kd.C_alloc ?_ _) | (with_reducible refine Kd.C_drewN ?_ _) | (with_reducible refine Kd.C_drew ?_))); (case side4 => exact HC0_1.out); rintro e w9 ⟨rfl, hb⟩; refine ⟨_, rfl, ?_⟩; have n0_ := Aside0.mk (blk_below (g := gb218) (o := _) (by (with_reducible repeat (first | apply bN | apply bD | apply bA)); exact BK218.out) hb); have n1_ := Aside0.mk (below_step (by repeat (first | (with_reducible first | exact HB.out | apply below_alloc | apply pw_below_drewN | apply below_drew1 | refine below_set ?_ GE218.out) | exact HB.out)) hb); clear BK218; clear HB; have BK218 := n0_; have HB := n1_; clear n0_ n1_; (try clear hb); (try clear hb2); (try clear hk); (try clear hi)))
   (try simp only [Act.put, List.setIfInBounds_toArray, List.set_cons_zero, List.set_cons_succ])
   go_cut [] (fun wc => ∃ (kq : Nat), Aside0 (laws_FnExactFall.j1 kq l1 l0_0 l0_1 = some r) ∧ Aside0 (kq ≤ kj2) ∧ Aside0 (wc.heap[gb218]? = some (.cells #[(.slice A0_0 l0_0.length c0_0), (.slice A0_1 l0_1.length c0_1)] 25 (0, 0))) ∧ Aside0 (Below w.heap.size w wc))
   case first =>
    have H := HC7.out
    clear HC7
    by_cases c10 : t219 < 0
    ·rw [if_pos c10] at H
     have c10b0 : decide (t219 < 0) = true := decide_eq_true c10
     clear c10
     (first | rw [c10b0] | (simp only [i64_w, i32_w]; rw [c10b0]) | rw [c10b1] | rw [c10b2] | skip)
     obtain rfl := Option.some.inj H
     go_wp2
     go_ret
     exact ⟨by first | rfl | (simp [errW_none, errW_some] <;> rfl) | (simp [*, errW_none, errW_some] <;> rfl), by repeat (first | (with_reducible first | exact HB.out | apply below_alloc | apply pw_below_drewN | apply below_drew1 | refine below_set ?_ GE218.out) | exact HB.out)⟩
    ·rw [if_neg c10] at H
     have c10b0 : decide (t219 < 0) = false := decide_eq_false c10
     clear c10
     (first | rw [c10b0] | (simp only [i64_w, i32_w]; rw [c10b0]) | rw [c10b1] | rw [c10b2] | skip)
     have H' := Aside0.mk H
     clear H
     go_wp2
     go_meet
     case rel => exact ⟨_, H', ⟨by have := HJ2.out; first | omega | exact Nat.le_refl _⟩, ⟨by (with_reducible repeat (first | apply bN | apply bD | apply bA)); exact BK218.out⟩, ⟨by repeat (first | (with_reducible first | exact HB.out | apply below_alloc | apply pw_below_drewN | apply below_drew1 | refine below_set ?_ GE218.out) | exact HB.out)⟩⟩
   case rest =>
    clear HC7
    try clear c1
    try clear p2
    try clear c5
    try clear c5b0
    try clear c5b1
    try clear c5b2
    try clear c8
    try clear c10
    try clear c10b0
    try clear c10b1
    try clear c10b2
    try clear hcz8_0
    try clear hcz8_1
    try clear hfz8_0
    try clear hfz8_1
    try clear p2
    obtain ⟨kq, HA, HJ6, BK218, HB⟩ := hcut
    cases kq with
    | zero => exact absurd HA.out (by simp [laws_FnExactFall.j1])
    | succ kj6 =>
     have H := HA.out
     clear HA
     simp only [laws_FnExactFall.j1] at H
     replace H := Option.bind_eq_some_iff.mp H
     obtain ⟨⟨t220, t223⟩, A110, H⟩ := H
     replace H : ((laws_toBoolS.f kj6 l1).bind fun t226 => ((spec_Fall.f kj6 t220 t223 t226).bind fun bt229 => ((laws_toDisk.f kj6 l0_0 l0_1).bind fun bt236 => ((laws_toBoolS.f kj6 l1).bind fun t243 => ((impl_Fall.f kj6 bt236.1 bt236.2 t243).bind fun bt246 => ((laws_eqDisk.f kj6 bt246.1 bt246.2 bt229.1 bt229.2).bind fun t253 => (if t253 = true then (laws_FnExactFall.j2 kj6 l1 t243 l0_0 l0_1 bt229.1 bt229.2 bt236.1 bt236.2 bt246.1 bt246.2) else (some false)))))))) = some r := H
     have A11 := Aside0.mk A110
     clear A110
     replace H := Option.bind_eq_some_iff.mp H
     obtain ⟨t226, A120, H⟩ := H
     replace H : ((spec_Fall.f kj6 t220 t223 t226).bind fun bt229 => ((laws_toDisk.f kj6 l0_0 l0_1).bind fun bt236 => ((laws_toBoolS.f kj6 l1).bind fun t243 => ((impl_Fall.f kj6 bt236.1 bt236.2 t243).bind fun bt246 => ((laws_eqDisk.f kj6 bt246.1 bt246.2 bt229.1 bt229.2).bind fun t253 => (if t253 = true then (laws_FnExactFall.j2 kj6 l1 t243 l0_0 l0_1 bt229.1 bt229.2 bt236.1 bt236.2 bt246.1 bt246.2) else (some false))))))) = some r := H
     have A12 := Aside0.mk A120
     clear A120
     replace H := Option.bind_eq_some_iff.mp H
     obtain ⟨⟨t229, t232⟩, A130, H⟩ := H
     replace H : ((laws_toDisk.f kj6 l0_0 l0_1).bind fun bt236 => ((laws_toBoolS.f kj6 l1).bind fun t243 => ((impl_Fall.f kj6 bt236.1 bt236.2 t243).bind fun bt246 => ((laws_eqDisk.f kj6 bt246.1 bt246.2 t229 t232).bind fun t253 => (if t253 = true then (laws_FnExactFall.j2 kj6 l1 t243 l0_0 l0_1 t229 t232 bt236.1 bt236.2 bt246.1 bt246.2) else (some false)))))) = some r := H
     have A13 := Aside0.mk A130
     clear A130
     replace H := Option.bind_eq_some_iff.mp H
     obtain ⟨⟨t236, t239⟩, A140, H⟩ := H
     replace H : ((laws_toBoolS.f kj6 l1).bind fun t243 => ((impl_Fall.f kj6 t236 t239 t243).bind fun bt246 => ((laws_eqDisk.f kj6 bt246.1 bt246.2 t229 t232).bind fun t253 => (if t253 = true then (laws_FnExactFall.j2 kj6 l1 t243 l0_0 l0_1 t229 t232 t236 t239 bt246.1 bt246.2) else (some false))))) = some r := H
     have A14 := Aside0.mk A140
     clear A140
     replace H := Option.bind_eq_some_iff.mp H
     obtain ⟨t243, A150, H⟩ := H
     replace H : ((impl_Fall.f kj6 t236 t239 t243).bind fun bt246 => ((laws_eqDisk.f kj6 bt246.1 bt246.2 t229 t232).bind fun t253 => (if t253 = true then (laws_FnExactFall.j2 kj6 l1 t243 l0_0 l0_1 t229 t232 t236 t239 bt246.1 bt246.2) else (some false)))) = some r := H
     have A15 := Aside0.mk A150
     clear A150
     replace H := Option.bind_eq_some_iff.mp H
     obtain ⟨⟨t246, t249⟩, A160, H⟩ := H
     replace H : ((laws_eqDisk.f kj6 t246 t249 t229 t232).bind fun t253 => (if t253 = true then (laws_FnExactFall.j2 kj6 l1 t243 l0_0 l0_1 t229 t232 t236 t239 t246 t249) else (some false))) = some r := H
     have A16 := Aside0.mk A160
     clear A160
     replace H := Option.bind_eq_some_iff.mp H
     obtain ⟨t253, A170, H⟩ := H
     replace H : (if t253 = true then (laws_FnExactFall.j2 kj6 l1 t243 l0_0 l0_1 t229 t232 t236 t239 t246 t249) else (some false)) = some r := H
     have A17 := Aside0.mk A170
     clear A170
     have HC18 := Aside0.mk H
     clear H
     have hcz19_0 : wc.cell? ⟨gb218, 0, none⟩ = some (.slice A0_0 l0_0.length c0_0) := (blk_cell BK218.out 0).trans rfl
     have hcz19_1 : wc.cell? ⟨gb218, 1, none⟩ = some (.slice A0_1 l0_1.length c0_1) := (blk_cell BK218.out 1).trans rfl
     have hfz19_0 := blk_frozen BK218.out 0
     have hfz19_1 := blk_frozen BK218.out 1
     go_upto_if 37 with (first | ((with_reducible refine gate_callee (f := 17) rfl ?_); refine goesL_ (some 23) rfl rfl Try.func17 (by kernel_rfl) rfl #[.agg #[.slice A0_0 l0_0.length c0_0, .slice A0_1 l0_1.length c0_1]] rfl (by (try simp only [List.map_toArray, List.map_cons, List.map_nil]); first | done | rfl | (simp only [List.length_drop, List.length_take]; rfl)) ?_; (with_reducible refine (laws_toDisk.calls kj6 _ _ l0_0 _ _ l0_1 t220 t223 _ ?side1 ?side2 ?side3 ?side4 A11.out).mono ?_); (case side1 => repeat (first | exact (Kd.C_below HR0_0.out HB.out) | (with_reducible refine Kd.C_alloc ?_ _) | (with_reducible refine Kd.C_drewN ?_ _) | (with_reducible refine Kd.C_drew ?_))); (case side2 => exact HC0_0.out); (case side3 => repeat (first | exact (Kd.C_below HR0_1.out HB.out) | (with_reducible refine Kd.C_alloc ?_ _) | (with_reducible refine Kd.C_drewN ?_ _) | (with_reducible refine Kd.C_drew ?_))); (case side4 => exact HC0_1.out); rintro e w20 ⟨v221, v224, rfl, ho0, ho1, hb⟩; refine ⟨_, rfl, ?_⟩; have n0_ := Aside0.mk (Kd.R_lower ho0 (below_size (by repeat (first | (with_reducible first | exact HB.out | apply below_alloc | apply pw_below_drewN | apply below_drew1 | refine below_set ?_ GE218.out) | exact HB.out)))); have n1_ := Aside0.mk (Kd.R_lower ho1 (below_size (by repeat (first | (with_reducible first | exact HB.out | apply below_alloc | apply pw_below_drewN | apply below_drew1 | refine below_set ?_ GE218.out) | exact HB.out)))); have n2_ := Aside0.mk (blk_below (g := gb218) (o := _) (by (with_reducible repeat (first | apply bN | apply bD | apply bA)); exact BK218.out) hb); have n3_ := Aside0.mk (below_step (by repeat (first | (with_reducible first | exact HB.out | apply below_alloc | apply pw_below_drewN | apply below_drew1 | refine below_set ?_ GE218.out) | exact HB.out)) hb); clear BK218; clear HB; have HO222 := n0_; have HO225 := n1_; have BK218 := n2_; have HB := n3_; clear n0_ n1_ n2_ n3_; (try clear hb); (try clear hb2); (try clear hk); (try clear hi); (try clear ho0); (try clear ho1)) | ((with_reducible refine gate_callee (f := 34) rfl ?_); refine goesL_ (some 25) rfl rfl Try.func34 (by kernel_rfl) rfl #[.slice A1 l1.length c1] rfl (by (try simp only [List.map_toArray, List.map_cons, List.map_nil]); first | done | rfl | (simp only [List.length_drop, List.length_take]; rfl)) ?_; (with_reducible refine (laws_toBoolS.calls kj6 _ _ l1 t226 _ ?side1 ?side2 A12.out).mono ?_); (case side1 => repeat (first | exact (Kd.C_below HR1.out HB.out) | (with_reducible refine Kd.C_alloc ?_ _) | (with_reducible refine Kd.C_drewN ?_ _) | (with_reducible refine Kd.C_drew ?_))); (case side2 => exact HC1.out); rintro e w21 ⟨v227, rfl, ho0, hb⟩; refine ⟨_, rfl, ?_⟩; have n0_ := Aside0.mk (Kd.R_below (by (with_reducible repeat (first | apply Kd.R_alloc | apply Kd.R_drewN | apply Kd.R_drew)); exact HO222.out) hb); have n1_ := Aside0.mk (Kd.R_below (by (with_reducible repeat (first | apply Kd.R_alloc | apply Kd.R_drewN | apply Kd.R_drew)); exact HO225.out) hb); have n2_ := Aside0.mk (Kd.R_lower ho0 (below_size (by repeat (first | (with_reducible first | exact HB.out | apply below_alloc | apply pw_below_drewN | apply below_drew1 | refine below_set ?_ GE218.out) | exact HB.out)))); have n3_ := Aside0.mk (blk_below (g := gb218) (o := _) (by (with_reducible repeat (first | apply bN | apply bD | apply bA)); exact BK218.out) hb); have n4_ := Aside0.mk (below_step (by repeat (first | (with_reducible first | exact HB.out | apply below_alloc | apply pw_below_drewN | apply below_drew1 | refine below_set ?_ GE218.out) | exact HB.out)) hb); clear HO222; clear HO225; clear BK218; clear HB; have HO222 := n0_; have HO225 := n1_; have HO228 := n2_; have BK218 := n3_; have HB := n4_; clear n0_ n1_ n2_ n3_ n4_; (try clear hb); (try clear hb2); (try clear hk); (try clear hi); (try clear ho0); obtain ⟨Ao22, co22, eo22⟩ := Kd.R_slice HO222.out; subst eo22; obtain ⟨Ao23, co23, eo23⟩ := Kd.R_slice HO225.out; subst eo23; obtain ⟨Ao24, co24, eo24⟩ := Kd.R_slice HO228.out; subst eo24) | ((with_reducible refine gate_callee (f := 33) rfl ?_); refine goesL_ (some 26) rfl rfl Try.func33 (by kernel_rfl) rfl #[.agg #[.slice Ao22 t220.length co22, .slice Ao23 t223.length co23], .slice Ao24 t226.length co24] rfl (by (try simp only [List.map_toArray, List.map_cons, List.map_nil]); first | done | rfl | (simp only [List.length_drop, List.length_take]; rfl)) ?_; (with_reducible refine (spec_Fall.calls kj6 _ _ t220 _ _ t223 _ _ t226 t229 t232 _ ?side1 ?side2 ?side3 ?side4 ?side5 ?side6 A13.out).mono ?_); (case side1 => repeat (first | exact (Kd.R_reads' HO222.out).2.2 | (with_reducible refine Kd.C_alloc ?_ _) | (with_reducible refine Kd.C_drewN ?_ _) | (with_reducible refine Kd.C_drew ?_))); (case side2 => exact (Kd.R_reads' HO222.out).2.1); (case side3 => repeat (first | exact (Kd.R_reads' HO225.out).2.2 | (with_reducible refine Kd.C_alloc ?_ _) | (with_reducible refine Kd.C_drewN ?_ _) | (with_reducible refine Kd.C_drew ?_))); (case side4 => exact (Kd.R_reads' HO225.out).2.1); (case side5 => repeat (first | exact (Kd.R_reads' HO228.out).2.2 | (with_reducible refine Kd.C_alloc ?_ _) | (with_reducible refine Kd.C_drewN ?_ _) | (with_reducible refine Kd.C_drew ?_))); (case side6 => exact (Kd.R_reads' HO228.out).2.1); rintro e w25 ⟨v230, v233, rfl, ho0, ho1, hb⟩; refine ⟨_, rfl, ?_⟩; have n0_ := Aside0.mk (Kd.R_elder' (by (with_reducible repeat (first | apply Kd.R_alloc | apply Kd.R_drewN | apply Kd.R_drew)); exact HO222.out) (Kd.R_base ho0) hb); have n1_ := Aside0.mk (Kd.R_elder' (by (with_reducible repeat (first | apply Kd.R_alloc | apply Kd.R_drewN | apply Kd.R_drew)); exact HO225.out) (Kd.R_base ho1) hb); have n2_ := Aside0.mk (Kd.R_below (by (with_reducible repeat (first | apply Kd.R_alloc | apply Kd.R_drewN | apply Kd.R_drew)); exact HO228.out) hb); have n3_ := Aside0.mk (Kd.R_lower (Kd.R_new' ho0 (Kd.R_lt (by (with_reducible repeat (first | apply Kd.R_alloc | apply Kd.R_drewN | apply Kd.R_drew)); exact HO222.out))) (below_size (by repeat (first | (with_reducible first | exact HB.out | apply below_alloc | apply pw_below_drewN | apply below_drew1 | refine below_set ?_ GE218.out) | exact HB.out)))); have n4_ := Aside0.mk (Kd.R_lower (Kd.R_new' ho1 (Kd.R_lt (by (with_reducible repeat (first | apply Kd.R_alloc | apply Kd.R_drewN | apply Kd.R_drew)); exact HO225.out))) (below_size (by repeat (first | (with_reducible first | exact HB.out | apply below_alloc | apply pw_below_drewN | apply below_drew1 | refine below_set ?_ GE218.out) | exact HB.out)))); have n5_ := Aside0.mk (blk_below (g := gb218) (o := _) (by (with_reducible repeat (first | apply bN | apply bD | apply bA)); exact BK218.out) hb); have n6_ := Aside0.mk (below_step (by repeat (first | (with_reducible first | exact HB.out | apply below_alloc | apply pw_below_drewN | apply below_drew1 | refine below_set ?_ GE218.out) | exact HB.out)) hb); clear HO222; clear HO225; clear HO228; clear BK218; clear HB; have HO222 := n0_; have HO225 := n1_; have HO228 := n2_; have HO231 := n3_; have HO234 := n4_; have BK218 := n5_; have HB := n6_; clear n0_ n1_ n2_ n3_ n4_ n5_ n6_; (try clear hb); (try clear hb2); (try clear hk); (try clear hi); (try clear ho0); (try clear ho1)) | ((with_reducible refine gate_dst (N := 6) rfl ?_); refine box_event ?hg (N := 6) ?hd (cs := #[.slice none 0 0, .slice none 0 0]) (t := 30) ?hr ?_; (case hd => rfl); (case hg => rfl); (case hr => first | (go_simp; done) | (go_simp; rfl)); intro gb235 hg w26 hbox hb; have n0_ := Aside0.mk (Kd.R_below (by (with_reducible repeat (first | apply Kd.R_alloc | apply Kd.R_drewN | apply Kd.R_drew)); exact HO222.out) hb); have n1_ := Aside0.mk (Kd.R_below (by (with_reducible repeat (first | apply Kd.R_alloc | apply Kd.R_drewN | apply Kd.R_drew)); exact HO225.out) hb); have n2_ := Aside0.mk (Kd.R_below (by (with_reducible repeat (first | apply Kd.R_alloc | apply Kd.R_drewN | apply Kd.R_drew)); exact HO228.out) hb); have n3_ := Aside0.mk (Kd.R_below (by (with_reducible repeat (first | apply Kd.R_alloc | apply Kd.R_drewN | apply Kd.R_drew)); exact HO231.out) hb); have n4_ := Aside0.mk (Kd.R_below (by (with_reducible repeat (first | apply Kd.R_alloc | apply Kd.R_drewN | apply Kd.R_drew)); exact HO234.out) hb); have n5_ := Aside0.mk (blk_below (g := gb218) (o := _) (by (with_reducible repeat (first | apply bN | apply bD | apply bA)); exact BK218.out) hb); have n6_ := Aside0.mk (below_step (by repeat (first | (with_reducible first | exact HB.out | apply below_alloc | apply pw_below_drewN | apply below_drew1 | refine below_set ?_ GE218.out) | exact HB.out)) hb); have n7_ := Aside0.mk (hbox); have n8_ := Aside0.mk ((by rw [hg]; exact (below_size (by repeat (first | (with_reducible first | exact HB.out | apply below_alloc | apply pw_below_drewN | apply below_drew1 | refine below_set ?_ GE218.out) | exact HB.out))) : w.heap.size ≤ gb235)); have n9_ := Aside0.mk ((by rw [hg]; exact (below_size (by repeat (first | (with_reducible first | exact HB.out | apply below_alloc | apply pw_below_drewN | apply below_drew1 | refine below_set ?_ GE218.out) | exact HB.out))) : w.heap.size ≤ gb235)); have n10_ := Aside0.mk ((by rw [hg]; exact Nat.ne_of_lt (blk_lt (g := gb218) (o := _) (by (with_reducible repeat (first | apply bN | apply bD | apply bA)); exact BK218.out)) : gb218 ≠ gb235)); have n11_ := Aside0.mk ((by rw [hg]; exact Nat.ne_of_gt (blk_lt (g := gb218) (o := _) (by (with_reducible repeat (first | apply bN | apply bD | apply bA)); exact BK218.out)) : gb235 ≠ gb218)); clear HO222; clear HO225; clear HO228; clear HO231; clear HO234; clear BK218; clear HB; have HO222 := n0_; have HO225 := n1_; have HO228 := n2_; have HO231 := n3_; have HO234 := n4_; have BK218 := n5_; have HB := n6_; have BK235 := n7_; have GW235 := n8_; have GE235 := n9_; have NB218_235 := n10_; have NB235_218 := n11_; clear n0_ n1_ n2_ n3_ n4_ n5_ n6_ n7_ n8_ n9_ n10_ n11_; clear hb hbox hg; obtain ⟨Ao27, co27, eo27⟩ := Kd.R_slice HO231.out; subst eo27; have hnb28 := NB235_218.out; have hnc28 := NB218_235.out; have hcz29_0 : w26.cell? ⟨gb235, 0, none⟩ = some (.slice none 0 0) := (blk_cell BK235.out 0).trans rfl; have hcz29_1 : w26.cell? ⟨gb235, 1, none⟩ = some (.slice none 0 0) := (blk_cell BK235.out 1).trans rfl; have hfz29_0 := blk_frozen BK235.out 0; have hfz29_1 := blk_frozen BK235.out 1; obtain ⟨Ao30, co30, eo30⟩ := Kd.R_slice HO234.out; subst eo30; have hcz31_0 : w26.cell? ⟨gb218, 0, none⟩ = some (.slice A0_0 l0_0.length c0_0) := (blk_cell BK218.out 0).trans rfl; have hcz31_1 : w26.cell? ⟨gb218, 1, none⟩ = some (.slice A0_1 l0_1.length c0_1) := (blk_cell BK218.out 1).trans rfl; have hfz31_0 := blk_frozen BK218.out 0; have hfz31_1 := blk_frozen BK218.out 1) | ((with_reducible refine gate_callee (f := 17) rfl ?_); refine goesL_ (some 28) rfl rfl Try.func17 (by kernel_rfl) rfl #[.agg #[.slice A0_0 l0_0.length c0_0, .slice A0_1 l0_1.length c0_1]] rfl (by (try simp only [List.map_toArray, List.map_cons, List.map_nil]); first | done | rfl | (simp only [List.length_drop, List.length_take]; rfl)) ?_; (with_reducible refine (laws_toDisk.calls kj6 _ _ l0_0 _ _ l0_1 t236 t239 _ ?side1 ?side2 ?side3 ?side4 A14.out).mono ?_); (case side1 => exact Kd.C_below HR0_0.out (by repeat (first | (with_reducible first | exact HB.out | apply below_alloc | apply pw_below_drewN | apply below_drew1 | refine below_set ?_ GE218.out | refine below_set ?_ GE235.out) | exact HB.out))); (case side2 => exact HC0_0.out); (case side3 => exact Kd.C_below HR0_1.out (by repeat (first | (with_reducible first | exact HB.out | apply below_alloc | apply pw_below_drewN | apply below_drew1 | refine below_set ?_ GE218.out | refine below_set ?_ GE235.out) | exact HB.out))); (case side4 => exact HC0_1.out); rintro e w32 ⟨v237, v240, rfl, ho0, ho1, hb⟩; refine ⟨_, rfl, ?_⟩; have n0_ := Aside0.mk (Kd.R_elder' (by (with_reducible repeat (first | apply Kd.R_alloc | apply Kd.R_drewN | apply Kd.R_drew)); exact (Kd.R_mono (Kd.R_far (p := ⟨gb235, 1, none⟩) (Kd.R_far (p := ⟨gb235, 0, none⟩) (Kd.R_types HO222.out BK235.out (by decide)) (fun _ hk => hk.2) (.slice Ao27 t229.length co27)) (fun _ hk => hk.2) (.slice Ao30 t232.length co30)) (fun _ h_ => h_.1))) (Kd.R_base ho0) hb); have n1_ := Aside0.mk (Kd.R_elder' (by (with_reducible repeat (first | apply Kd.R_alloc | apply Kd.R_drewN | apply Kd.R_drew)); exact (Kd.R_mono (Kd.R_far (p := ⟨gb235, 1, none⟩) (Kd.R_far (p := ⟨gb235, 0, none⟩) (Kd.R_types HO225.out BK235.out (by decide)) (fun _ hk => hk.2) (.slice Ao27 t229.length co27)) (fun _ hk => hk.2) (.slice Ao30 t232.length co30)) (fun _ h_ => h_.1))) (Kd.R_base ho1) hb); have n2_ := Aside0.mk (Kd.R_below (by (with_reducible repeat (first | apply Kd.R_alloc | apply Kd.R_drewN | apply Kd.R_drew)); exact (Kd.R_mono (Kd.R_far (p := ⟨gb235, 1, none⟩) (Kd.R_far (p := ⟨gb235, 0, none⟩) (Kd.R_types HO228.out BK235.out (by decide)) (fun _ hk => hk.2) (.slice Ao27 t229.length co27)) (fun _ hk => hk.2) (.slice Ao30 t232.length co30)) (fun _ h_ => h_.1))) hb); have n3_ := Aside0.mk (Kd.R_elder' (by (with_reducible repeat (first | apply Kd.R_alloc | apply Kd.R_drewN | apply Kd.R_drew)); exact (Kd.R_mono (Kd.R_far (p := ⟨gb235, 1, none⟩) (Kd.R_far (p := ⟨gb235, 0, none⟩) (Kd.R_types HO231.out BK235.out (by decide)) (fun _ hk => hk.2) (.slice Ao27 t229.length co27)) (fun _ hk => hk.2) (.slice Ao30 t232.length co30)) (fun _ h_ => h_.1))) (Kd.R_base ho0) hb); have n4_ := Aside0.mk (Kd.R_elder' (by (with_reducible repeat (first | apply Kd.R_alloc | apply Kd.R_drewN | apply Kd.R_drew)); exact (Kd.R_mono (Kd.R_far (p := ⟨gb235, 1, none⟩) (Kd.R_far (p := ⟨gb235, 0, none⟩) (Kd.R_types HO234.out BK235.out (by decide)) (fun _ hk => hk.2) (.slice Ao27 t229.length co27)) (fun _ hk => hk.2) (.slice Ao30 t232.length co30)) (fun _ h_ => h_.1))) (Kd.R_base ho1) hb); have n5_ := Aside0.mk (Kd.R_lower (Kd.R_new' (Kd.R_new' ho0 (Kd.R_lt (by (with_reducible repeat (first | apply Kd.R_alloc | apply Kd.R_drewN | apply Kd.R_drew)); exact (Kd.R_mono (Kd.R_far (p := ⟨gb235, 1, none⟩) (Kd.R_far (p := ⟨gb235, 0, none⟩) (Kd.R_types HO222.out BK235.out (by decide)) (fun _ hk => hk.2) (.slice Ao27 t229.length co27)) (fun _ hk => hk.2) (.slice Ao30 t232.length co30)) (fun _ h_ => h_.1))))) (Kd.R_lt (by (with_reducible repeat (first | apply Kd.R_alloc | apply Kd.R_drewN | apply Kd.R_drew)); exact (Kd.R_mono (Kd.R_far (p := ⟨gb235, 1, none⟩) (Kd.R_far (p := ⟨gb235, 0, none⟩) (Kd.R_types HO231.out BK235.out (by decide)) (fun _ hk => hk.2) (.slice Ao27 t229.length co27)) (fun _ hk => hk.2) (.slice Ao30 t232.length co30)) (fun _ h_ => h_.1))))) (below_size (by repeat (first | (with_reducible first | exact HB.out | apply below_alloc | apply pw_below_drewN | apply below_drew1 | refine below_set ?_ GE218.out | refine below_set ?_ GE235.out) | exact HB.out)))); have n6_ := Aside0.mk (Kd.R_lower (Kd.R_new' (Kd.R_new' ho1 (Kd.R_lt (by (with_reducible repeat (first | apply Kd.R_alloc | apply Kd.R_drewN | apply Kd.R_drew)); exact (Kd.R_mono (Kd.R_far (p := ⟨gb235, 1, none⟩) (Kd.R_far (p := ⟨gb235, 0, none⟩) (Kd.R_types HO225.out BK235.out (by decide)) (fun _ hk => hk.2) (.slice Ao27 t229.length co27)) (fun _ hk => hk.2) (.slice Ao30 t232.length co30)) (fun _ h_ => h_.1))))) (Kd.R_lt (by (with_reducible repeat (first | apply Kd.R_alloc | apply Kd.R_drewN | apply Kd.R_drew)); exact (Kd.R_mono (Kd.R_far (p := ⟨gb235, 1, none⟩) (Kd.R_far (p := ⟨gb235, 0, none⟩) (Kd.R_types HO234.out BK235.out (by decide)) (fun _ hk => hk.2) (.slice Ao27 t229.length co27)) (fun _ hk => hk.2) (.slice Ao30 t232.length co30)) (fun _ h_ => h_.1))))) (below_size (by repeat (first | (with_reducible first | exact HB.out | apply below_alloc | apply pw_below_drewN | apply below_drew1 | refine below_set ?_ GE218.out | refine below_set ?_ GE235.out) | exact HB.out)))); have n7_ := Aside0.mk (blk_below (g := gb218) (o := .cells #[.slice A0_0 l0_0.length c0_0, .slice A0_1 l0_1.length c0_1] 25 (0, 0)) (by (with_reducible repeat (first | apply bN | apply bD | apply bA)); refine blk_far ?_ NB218_235.out _; (with_reducible repeat (first | apply bN | apply bD | apply bA)); refine blk_far ?_ NB218_235.out _; (with_reducible repeat (first | apply bN | apply bD | apply bA)); exact BK218.out) hb); have n8_ := Aside0.mk (blk_below (g := gb235) (o := .cells #[.slice Ao27 t229.length co27, .slice Ao30 t232.length co30] 30 (0, 0)) (by (with_reducible repeat (first | apply bN | apply bD | apply bA)); refine blk_put (cs := #[.slice Ao27 t229.length co27, .slice none 0 0]) ?_ 1 _ rfl; (with_reducible repeat (first | apply bN | apply bD | apply bA)); refine blk_put (cs := #[.slice none 0 0, .slice none 0 0]) ?_ 0 _ rfl; (with_reducible repeat (first | apply bN | apply bD | apply bA)); exact BK235.out) hb); have n9_ := Aside0.mk (below_step (by repeat (first | (with_reducible first | exact HB.out | apply below_alloc | apply pw_below_drewN | apply below_drew1 | refine below_set ?_ GE218.out | refine below_set ?_ GE235.out) | exact HB.out)) hb); clear HO222; clear HO225; clear HO228; clear HO231; clear HO234; clear BK218; clear BK235; clear HB; have HO222 := n0_; have HO225 := n1_; have HO228 := n2_; have HO231 := n3_; have HO234 := n4_; have HO238 := n5_; have HO241 := n6_; have BK218 := n7_; have BK235 := n8_; have HB := n9_; clear n0_ n1_ n2_ n3_ n4_ n5_ n6_ n7_ n8_ n9_; (try clear hb); (try clear hb2); (try clear hk); (try clear hi); (try clear ho0); (try clear ho1)) | ((with_reducible refine gate_dst (N := 7) rfl ?_); refine box_event ?hg (N := 7) ?hd (cs := #[.slice none 0 0, .slice none 0 0]) (t := 30) ?hr ?_; (case hd => rfl); (case hg => rfl); (case hr => first | (go_simp; done) | (go_simp; rfl)); intro gb242 hg w33 hbox hb; have n0_ := Aside0.mk (Kd.R_below (by (with_reducible repeat (first | apply Kd.R_alloc | apply Kd.R_drewN | apply Kd.R_drew)); exact HO222.out) hb); have n1_ := Aside0.mk (Kd.R_below (by (with_reducible repeat (first | apply Kd.R_alloc | apply Kd.R_drewN | apply Kd.R_drew)); exact HO225.out) hb); have n2_ := Aside0.mk (Kd.R_below (by (with_reducible repeat (first | apply Kd.R_alloc | apply Kd.R_drewN | apply Kd.R_drew)); exact HO228.out) hb); have n3_ := Aside0.mk (Kd.R_below (by (with_reducible repeat (first | apply Kd.R_alloc | apply Kd.R_drewN | apply Kd.R_drew)); exact HO231.out) hb); have n4_ := Aside0.mk (Kd.R_below (by (with_reducible repeat (first | apply Kd.R_alloc | apply Kd.R_drewN | apply Kd.R_drew)); exact HO234.out) hb); have n5_ := Aside0.mk (Kd.R_below (by (with_reducible repeat (first | apply Kd.R_alloc | apply Kd.R_drewN | apply Kd.R_drew)); exact HO238.out) hb); have n6_ := Aside0.mk (Kd.R_below (by (with_reducible repeat (first | apply Kd.R_alloc | apply Kd.R_drewN | apply Kd.R_drew)); exact HO241.out) hb); have n7_ := Aside0.mk (blk_below (g := gb218) (o := _) (by (with_reducible repeat (first | apply bN | apply bD | apply bA)); exact BK218.out) hb); have n8_ := Aside0.mk (blk_below (g := gb235) (o := _) (by (with_reducible repeat (first | apply bN | apply bD | apply bA)); exact BK235.out) hb); have n9_ := Aside0.mk (below_step (by repeat (first | (with_reducible first | exact HB.out | apply below_alloc | apply pw_below_drewN | apply below_drew1 | refine below_set ?_ GE218.out | refine below_set ?_ GE235.out) | exact HB.out)) hb); have n10_ := Aside0.mk (hbox); have n11_ := Aside0.mk ((by rw [hg]; exact (below_size (by repeat (first | (with_reducible first | exact HB.out | apply below_alloc | apply pw_below_drewN | apply below_drew1 | refine below_set ?_ GE218.out | refine below_set ?_ GE235.out) | exact HB.out))) : w.heap.size ≤ gb242)); have n12_ := Aside0.mk ((by rw [hg]; exact (below_size (by repeat (first | (with_reducible first | exact HB.out | apply below_alloc | apply pw_below_drewN | apply below_drew1 | refine below_set ?_ GE218.out | refine below_set ?_ GE235.out) | exact HB.out))) : w.heap.size ≤ gb242)); have n13_ := Aside0.mk ((by rw [hg]; exact Nat.ne_of_lt (blk_lt (g := gb218) (o := _) (by (with_reducible repeat (first | apply bN | apply bD | apply bA)); exact BK218.out)) : gb218 ≠ gb242)); have n14_ := Aside0.mk ((by rw [hg]; exact Nat.ne_of_gt (blk_lt (g := gb218) (o := _) (by (with_reducible repeat (first | apply bN | apply bD | apply bA)); exact BK218.out)) : gb242 ≠ gb218)); have n15_ := Aside0.mk ((by rw [hg]; exact Nat.ne_of_lt (blk_lt (g := gb235) (o := _) (by (with_reducible repeat (first | apply bN | apply bD | apply bA)); exact BK235.out)) : gb235 ≠ gb242)); have n16_ := Aside0.mk ((by rw [hg]; exact Nat.ne_of_gt (blk_lt (g := gb235) (o := _) (by (with_reducible repeat (first | apply bN | apply bD | apply bA)); exact BK235.out)) : gb242 ≠ gb235)); clear HO222; clear HO225; clear HO228; clear HO231; clear HO234; clear HO238; clear HO241; clear BK218; clear BK235; clear HB; have HO222 := n0_; have HO225 := n1_; have HO228 := n2_; have HO231 := n3_; have HO234 := n4_; have HO238 := n5_; have HO241 := n6_; have BK218 := n7_; have BK235 := n8_; have HB := n9_; have BK242 := n10_; have GW242 := n11_; have GE242 := n12_; have NB218_242 := n13_; have NB242_218 := n14_; have NB235_242 := n15_; have NB242_235 := n16_; clear n0_ n1_ n2_ n3_ n4_ n5_ n6_ n7_ n8_ n9_ n10_ n11_ n12_ n13_ n14_ n15_ n16_; clear hb hbox hg; obtain ⟨Ao34, co34, eo34⟩ := Kd.R_slice HO238.out; subst eo34; have hnb35 := NB242_218.out; have hnc35 := NB218_242.out; have hnb36 := NB242_235.out; have hnc36 := NB235_242.out; have hcz37_0 : w33.cell? ⟨gb242, 0, none⟩ = some (.slice none 0 0) := (blk_cell BK242.out 0).trans rfl; have hcz37_1 : w33.cell? ⟨gb242, 1, none⟩ = some (.slice none 0 0) := (blk_cell BK242.out 1).trans rfl; have hfz37_0 := blk_frozen BK242.out 0; have hfz37_1 := blk_frozen BK242.out 1; obtain ⟨Ao38, co38, eo38⟩ := Kd.R_slice HO241.out; subst eo38) | ((with_reducible refine gate_callee (f := 34) rfl ?_); refine goesL_ (some 30) rfl rfl Try.func34 (by kernel_rfl) rfl #[.slice A1 l1.length c1] rfl (by (try simp only [List.map_toArray, List.map_cons, List.map_nil]); first | done | rfl | (simp only [List.length_drop, List.length_take]; rfl)) ?_; (with_reducible refine (laws_toBoolS.calls kj6 _ _ l1 t243 _ ?side1 ?side2 A15.out).mono ?_); (case side1 => exact Kd.C_below HR1.out (by repeat (first | (with_reducible first | exact HB.out | apply below_alloc | apply pw_below_drewN | apply below_drew1 | refine below_set ?_ GE218.out | refine below_set ?_ GE235.out | refine below_set ?_ GE242.out) | exact HB.out))); (case side2 => exact HC1.out); rintro e w39 ⟨v244, rfl, ho0, hb⟩; refine ⟨_, rfl, ?_⟩; have n0_ := Aside0.mk (Kd.R_below (by (with_reducible repeat (first | apply Kd.R_alloc | apply Kd.R_drewN | apply Kd.R_drew)); exact (Kd.R_mono (Kd.R_far (p := ⟨gb242, 1, none⟩) (Kd.R_far (p := ⟨gb242, 0, none⟩) (Kd.R_types HO222.out BK242.out (by decide)) (fun _ hk => hk.2) (.slice Ao34 t236.length co34)) (fun _ hk => hk.2) (.slice Ao38 t239.length co38)) (fun _ h_ => h_.1))) hb); have n1_ := Aside0.mk (Kd.R_below (by (with_reducible repeat (first | apply Kd.R_alloc | apply Kd.R_drewN | apply Kd.R_drew)); exact (Kd.R_mono (Kd.R_far (p := ⟨gb242, 1, none⟩) (Kd.R_far (p := ⟨gb242, 0, none⟩) (Kd.R_types HO225.out BK242.out (by decide)) (fun _ hk => hk.2) (.slice Ao34 t236.length co34)) (fun _ hk => hk.2) (.slice Ao38 t239.length co38)) (fun _ h_ => h_.1))) hb); have n2_ := Aside0.mk (Kd.R_elder' (by (with_reducible repeat (first | apply Kd.R_alloc | apply Kd.R_drewN | apply Kd.R_drew)); exact (Kd.R_mono (Kd.R_far (p := ⟨gb242, 1, none⟩) (Kd.R_far (p := ⟨gb242, 0, none⟩) (Kd.R_types HO228.out BK242.out (by decide)) (fun _ hk => hk.2) (.slice Ao34 t236.length co34)) (fun _ hk => hk.2) (.slice Ao38 t239.length co38)) (fun _ h_ => h_.1))) (Kd.R_base ho0) hb); have n3_ := Aside0.mk (Kd.R_below (by (with_reducible repeat (first | apply Kd.R_alloc | apply Kd.R_drewN | apply Kd.R_drew)); exact (Kd.R_mono (Kd.R_far (p := ⟨gb242, 1, none⟩) (Kd.R_far (p := ⟨gb242, 0, none⟩) (Kd.R_types HO231.out BK242.out (by decide)) (fun _ hk => hk.2) (.slice Ao34 t236.length co34)) (fun _ hk => hk.2) (.slice Ao38 t239.length co38)) (fun _ h_ => h_.1))) hb); have n4_ := Aside0.mk (Kd.R_below (by (with_reducible repeat (first | apply Kd.R_alloc | apply Kd.R_drewN | apply Kd.R_drew)); exact (Kd.R_mono (Kd.R_far (p := ⟨gb242, 1, none⟩) (Kd.R_far (p := ⟨gb242, 0, none⟩) (Kd.R_types HO234.out BK242.out (by decide)) (fun _ hk => hk.2) (.slice Ao34 t236.length co34)) (fun _ hk => hk.2) (.slice Ao38 t239.length co38)) (fun _ h_ => h_.1))) hb); have n5_ := Aside0.mk (Kd.R_below (by (with_reducible repeat (first | apply Kd.R_alloc | apply Kd.R_drewN | apply Kd.R_drew)); exact (Kd.R_mono (Kd.R_far (p := ⟨gb242, 1, none⟩) (Kd.R_far (p := ⟨gb242, 0, none⟩) (Kd.R_types HO238.out BK242.out (by decide)) (fun _ hk => hk.2) (.slice Ao34 t236.length co34)) (fun _ hk => hk.2) (.slice Ao38 t239.length co38)) (fun _ h_ => h_.1))) hb); have n6_ := Aside0.mk (Kd.R_below (by (with_reducible repeat (first | apply Kd.R_alloc | apply Kd.R_drewN | apply Kd.R_drew)); exact (Kd.R_mono (Kd.R_far (p := ⟨gb242, 1, none⟩) (Kd.R_far (p := ⟨gb242, 0, none⟩) (Kd.R_types HO241.out BK242.out (by decide)) (fun _ hk => hk.2) (.slice Ao34 t236.length co34)) (fun _ hk => hk.2) (.slice Ao38 t239.length co38)) (fun _ h_ => h_.1))) hb); have n7_ := Aside0.mk (Kd.R_lower (Kd.R_new' ho0 (Kd.R_lt (by (with_reducible repeat (first | apply Kd.R_alloc | apply Kd.R_drewN | apply Kd.R_drew)); exact (Kd.R_mono (Kd.R_far (p := ⟨gb242, 1, none⟩) (Kd.R_far (p := ⟨gb242, 0, none⟩) (Kd.R_types HO228.out BK242.out (by decide)) (fun _ hk => hk.2) (.slice Ao34 t236.length co34)) (fun _ hk => hk.2) (.slice Ao38 t239.length co38)) (fun _ h_ => h_.1))))) (below_size (by repeat (first | (with_reducible first | exact HB.out | apply below_alloc | apply pw_below_drewN | apply below_drew1 | refine below_set ?_ GE218.out | refine below_set ?_ GE235.out | refine below_set ?_ GE242.out) | exact HB.out)))); have n8_ := Aside0.mk (blk_below (g := gb218) (o := .cells #[.slice A0_0 l0_0.length c0_0, .slice A0_1 l0_1.length c0_1] 25 (0, 0)) (by (with_reducible repeat (first | apply bN | apply bD | apply bA)); refine blk_far ?_ NB218_242.out _; (with_reducible repeat (first | apply bN | apply bD | apply bA)); refine blk_far ?_ NB218_242.out _; (with_reducible repeat (first | apply bN | apply bD | apply bA)); exact BK218.out) hb); have n9_ := Aside0.mk (blk_below (g := gb235) (o := .cells #[.slice Ao27 t229.length co27, .slice Ao30 t232.length co30] 30 (0, 0)) (by (with_reducible repeat (first | apply bN | apply bD | apply bA)); refine blk_far ?_ NB235_242.out _; (with_reducible repeat (first | apply bN | apply bD | apply bA)); refine blk_far ?_ NB235_242.out _; (with_reducible repeat (first | apply bN | apply bD | apply bA)); exact BK235.out) hb); have n10_ := Aside0.mk (blk_below (g := gb242) (o := .cells #[.slice Ao34 t236.length co34, .slice Ao38 t239.length co38] 30 (0, 0)) (by (with_reducible repeat (first | apply bN | apply bD | apply bA)); refine blk_put (cs := #[.slice Ao34 t236.length co34, .slice none 0 0]) ?_ 1 _ rfl; (with_reducible repeat (first | apply bN | apply bD | apply bA)); refine blk_put (cs := #[.slice none 0 0, .slice none 0 0]) ?_ 0 _ rfl; (with_reducible repeat (first | apply bN | apply bD | apply bA)); exact BK242.out) hb); have n11_ := Aside0.mk (below_step (by repeat (first | (with_reducible first | exact HB.out | apply below_alloc | apply pw_below_drewN | apply below_drew1 | refine below_set ?_ GE218.out | refine below_set ?_ GE235.out | refine below_set ?_ GE242.out) | exact HB.out)) hb); clear HO222; clear HO225; clear HO228; clear HO231; clear HO234; clear HO238; clear HO241; clear BK218; clear BK235; clear BK242; clear HB; have HO222 := n0_; have HO225 := n1_; have HO228 := n2_; have HO231 := n3_; have HO234 := n4_; have HO238 := n5_; have HO241 := n6_; have HO245 := n7_; have BK218 := n8_; have BK235 := n9_; have BK242 := n10_; have HB := n11_; clear n0_ n1_ n2_ n3_ n4_ n5_ n6_ n7_ n8_ n9_ n10_ n11_; (try clear hb); (try clear hb2); (try clear hk); (try clear hi); (try clear ho0); have hcz40_0 : w39.cell? ⟨gb242, 0, none⟩ = some (.slice Ao34 t236.length co34) := (blk_cell BK242.out 0).trans rfl; have hcz40_1 : w39.cell? ⟨gb242, 1, none⟩ = some (.slice Ao38 t239.length co38) := (blk_cell BK242.out 1).trans rfl; have hfz40_0 := blk_frozen BK242.out 0; have hfz40_1 := blk_frozen BK242.out 1; obtain ⟨Ao41, co41, eo41⟩ := Kd.R_slice HO245.out; subst eo41) | ((with_reducible refine gate_callee (f := 35) rfl ?_); refine goesL_ (some 33) rfl rfl Try.func35 (by kernel_rfl) rfl #[.agg #[.slice Ao34 t236.length co34, .slice Ao38 t239.length co38], .slice Ao41 t243.length co41] rfl (by (try simp only [List.map_toArray, List.map_cons, List.map_nil]); first | done | rfl | (simp only [List.length_drop, List.length_take]; rfl)) ?_; (with_reducible refine (impl_Fall.calls kj6 _ _ t236 _ _ t239 _ _ t243 t246 t249 _ ?side1 ?side2 ?side3 ?side4 ?side5 ?side6 A16.out).mono ?_); (case side1 => repeat (first | exact (Kd.R_reads' HO238.out).2.2 | (with_reducible refine Kd.C_alloc ?_ _) | (with_reducible refine Kd.C_drewN ?_ _) | (with_reducible refine Kd.C_drew ?_))); (case side2 => exact (Kd.R_reads' HO238.out).2.1); (case side3 => repeat (first | exact (Kd.R_reads' HO241.out).2.2 | (with_reducible refine Kd.C_alloc ?_ _) | (with_reducible refine Kd.C_drewN ?_ _) | (with_reducible refine Kd.C_drew ?_))); (case side4 => exact (Kd.R_reads' HO241.out).2.1); (case side5 => repeat (first | exact (Kd.R_reads' HO245.out).2.2 | (with_reducible refine Kd.C_alloc ?_ _) | (with_reducible refine Kd.C_drewN ?_ _) | (with_reducible refine Kd.C_drew ?_))); (case side6 => exact (Kd.R_reads' HO245.out).2.1); rintro e w42 ⟨v247, v250, rfl, ho0, ho1, hb⟩; refine ⟨_, rfl, ?_⟩; have n0_ := Aside0.mk (Kd.R_elder' (by (with_reducible repeat (first | apply Kd.R_alloc | apply Kd.R_drewN | apply Kd.R_drew)); exact HO222.out) (Kd.R_base ho0) hb); have n1_ := Aside0.mk (Kd.R_elder' (by (with_reducible repeat (first | apply Kd.R_alloc | apply Kd.R_drewN | apply Kd.R_drew)); exact HO225.out) (Kd.R_base ho1) hb); have n2_ := Aside0.mk (Kd.R_below (by (with_reducible repeat (first | apply Kd.R_alloc | apply Kd.R_drewN | apply Kd.R_drew)); exact HO228.out) hb); have n3_ := Aside0.mk (Kd.R_elder' (by (with_reducible repeat (first | apply Kd.R_alloc | apply Kd.R_drewN | apply Kd.R_drew)); exact HO231.out) (Kd.R_base ho0) hb); have n4_ := Aside0.mk (Kd.R_elder' (by (with_reducible repeat (first | apply Kd.R_alloc | apply Kd.R_drewN | apply Kd.R_drew)); exact HO234.out) (Kd.R_base ho1) hb); have n5_ := Aside0.mk (Kd.R_elder' (by (with_reducible repeat (first | apply Kd.R_alloc | apply Kd.R_drewN | apply Kd.R_drew)); exact HO238.out) (Kd.R_base ho0) hb); have n6_ := Aside0.mk (Kd.R_elder' (by (with_reducible repeat (first | apply Kd.R_alloc | apply Kd.R_drewN | apply Kd.R_drew)); exact HO241.out) (Kd.R_base ho1) hb); have n7_ := Aside0.mk (Kd.R_below (by (with_reducible repeat (first | apply Kd.R_alloc | apply Kd.R_drewN | apply Kd.R_drew)); exact HO245.out) hb); have n8_ := Aside0.mk (Kd.R_lower (Kd.R_new' (Kd.R_new' (Kd.R_new' ho0 (Kd.R_lt (by (with_reducible repeat (first | apply Kd.R_alloc | apply Kd.R_drewN | apply Kd.R_drew)); exact HO222.out))) (Kd.R_lt (by (with_reducible repeat (first | apply Kd.R_alloc | apply Kd.R_drewN | apply Kd.R_drew)); exact HO231.out))) (Kd.R_lt (by (with_reducible repeat (first | apply Kd.R_alloc | apply Kd.R_drewN | apply Kd.R_drew)); exact HO238.out))) (below_size (by repeat (first | (with_reducible first | exact HB.out | apply below_alloc | apply pw_below_drewN | apply below_drew1 | refine below_set ?_ GE218.out | refine below_set ?_ GE235.out | refine below_set ?_ GE242.out) | exact HB.out)))); have n9_ := Aside0.mk (Kd.R_lower (Kd.R_new' (Kd.R_new' (Kd.R_new' ho1 (Kd.R_lt (by (with_reducible repeat (first | apply Kd.R_alloc | apply Kd.R_drewN | apply Kd.R_drew)); exact HO225.out))) (Kd.R_lt (by (with_reducible repeat (first | apply Kd.R_alloc | apply Kd.R_drewN | apply Kd.R_drew)); exact HO234.out))) (Kd.R_lt (by (with_reducible repeat (first | apply Kd.R_alloc | apply Kd.R_drewN | apply Kd.R_drew)); exact HO241.out))) (below_size (by repeat (first | (with_reducible first | exact HB.out | apply below_alloc | apply pw_below_drewN | apply below_drew1 | refine below_set ?_ GE218.out | refine below_set ?_ GE235.out | refine below_set ?_ GE242.out) | exact HB.out)))); have n10_ := Aside0.mk (blk_below (g := gb218) (o := _) (by (with_reducible repeat (first | apply bN | apply bD | apply bA)); exact BK218.out) hb); have n11_ := Aside0.mk (blk_below (g := gb235) (o := _) (by (with_reducible repeat (first | apply bN | apply bD | apply bA)); exact BK235.out) hb); have n12_ := Aside0.mk (blk_below (g := gb242) (o := _) (by (with_reducible repeat (first | apply bN | apply bD | apply bA)); exact BK242.out) hb); have n13_ := Aside0.mk (below_step (by repeat (first | (with_reducible first | exact HB.out | apply below_alloc | apply pw_below_drewN | apply below_drew1 | refine below_set ?_ GE218.out | refine below_set ?_ GE235.out | refine below_set ?_ GE242.out) | exact HB.out)) hb); clear HO222; clear HO225; clear HO228; clear HO231; clear HO234; clear HO238; clear HO241; clear HO245; clear BK218; clear BK235; clear BK242; clear HB; have HO222 := n0_; have HO225 := n1_; have HO228 := n2_; have HO231 := n3_; have HO234 := n4_; have HO238 := n5_; have HO241 := n6_; have HO245 := n7_; have HO248 := n8_; have HO251 := n9_; have BK218 := n10_; have BK235 := n11_; have BK242 := n12_; have HB := n13_; clear n0_ n1_ n2_ n3_ n4_ n5_ n6_ n7_ n8_ n9_ n10_ n11_ n12_ n13_; (try clear hb); (try clear hb2); (try clear hk); (try clear hi); (try clear ho0); (try clear ho1)) | ((with_reducible refine gate_dst (N := 9) rfl ?_); refine box_event ?hg (N := 9) ?hd (cs := #[.slice none 0 0, .slice none 0 0]) (t := 30) ?hr ?_; (case hd => rfl); (case hg => rfl); (case hr => first | (go_simp; done) | (go_simp; rfl)); intro gb252 hg w43 hbox hb; have n0_ := Aside0.mk (Kd.R_below (by (with_reducible repeat (first | apply Kd.R_alloc | apply Kd.R_drewN | apply Kd.R_drew)); exact HO222.out) hb); have n1_ := Aside0.mk (Kd.R_below (by (with_reducible repeat (first | apply Kd.R_alloc | apply Kd.R_drewN | apply Kd.R_drew)); exact HO225.out) hb); have n2_ := Aside0.mk (Kd.R_below (by (with_reducible repeat (first | apply Kd.R_alloc | apply Kd.R_drewN | apply Kd.R_drew)); exact HO228.out) hb); have n3_ := Aside0.mk (Kd.R_below (by (with_reducible repeat (first | apply Kd.R_alloc | apply Kd.R_drewN | apply Kd.R_drew)); exact HO231.out) hb); have n4_ := Aside0.mk (Kd.R_below (by (with_reducible repeat (first | apply Kd.R_alloc | apply Kd.R_drewN | apply Kd.R_drew)); exact HO234.out) hb); have n5_ := Aside0.mk (Kd.R_below (by (with_reducible repeat (first | apply Kd.R_alloc | apply Kd.R_drewN | apply Kd.R_drew)); exact HO238.out) hb); have n6_ := Aside0.mk (Kd.R_below (by (with_reducible repeat (first | apply Kd.R_alloc | apply Kd.R_drewN | apply Kd.R_drew)); exact HO241.out) hb); have n7_ := Aside0.mk (Kd.R_below (by (with_reducible repeat (first | apply Kd.R_alloc | apply Kd.R_drewN | apply Kd.R_drew)); exact HO245.out) hb); have n8_ := Aside0.mk (Kd.R_below (by (with_reducible repeat (first | apply Kd.R_alloc | apply Kd.R_drewN | apply Kd.R_drew)); exact HO248.out) hb); have n9_ := Aside0.mk (Kd.R_below (by (with_reducible repeat (first | apply Kd.R_alloc | apply Kd.R_drewN | apply Kd.R_drew)); exact HO251.out) hb); have n10_ := Aside0.mk (blk_below (g := gb218) (o := _) (by (with_reducible repeat (first | apply bN | apply bD | apply bA)); exact BK218.out) hb); have n11_ := Aside0.mk (blk_below (g := gb235) (o := _) (by (with_reducible repeat (first | apply bN | apply bD | apply bA)); exact BK235.out) hb); have n12_ := Aside0.mk (blk_below (g := gb242) (o := _) (by (with_reducible repeat (first | apply bN | apply bD | apply bA)); exact BK242.out) hb); have n13_ := Aside0.mk (below_step (by repeat (first | (with_reducible first | exact HB.out | apply below_alloc | apply pw_below_drewN | apply below_drew1 | refine below_set ?_ GE218.out | refine below_set ?_ GE235.out | refine below_set ?_ GE242.out) | exact HB.out)) hb); have n14_ := Aside0.mk (hbox); have n15_ := Aside0.mk ((by rw [hg]; exact (below_size (by repeat (first | (with_reducible first | exact HB.out | apply below_alloc | apply pw_below_drewN | apply below_drew1 | refine below_set ?_ GE218.out | refine below_set ?_ GE235.out | refine below_set ?_ GE242.out) | exact HB.out))) : w.heap.size ≤ gb252)); have n16_ := Aside0.mk ((by rw [hg]; exact (below_size (by repeat (first | (with_reducible first | exact HB.out | apply below_alloc | apply pw_below_drewN | apply below_drew1 | refine below_set ?_ GE218.out | refine below_set ?_ GE235.out | refine below_set ?_ GE242.out) | exact HB.out))) : w.heap.size ≤ gb252)); have n17_ := Aside0.mk ((by rw [hg]; exact Nat.ne_of_lt (blk_lt (g := gb218) (o := _) (by (with_reducible repeat (first | apply bN | apply bD | apply bA)); exact BK218.out)) : gb218 ≠ gb252)); have n18_ := Aside0.mk ((by rw [hg]; exact Nat.ne_of_gt (blk_lt (g := gb218) (o := _) (by (with_reducible repeat (first | apply bN | apply bD | apply bA)); exact BK218.out)) : gb252 ≠ gb218)); have n19_ := Aside0.mk ((by rw [hg]; exact Nat.ne_of_lt (blk_lt (g := gb235) (o := _) (by (with_reducible repeat (first | apply bN | apply bD | apply bA)); exact BK235.out)) : gb235 ≠ gb252)); have n20_ := Aside0.mk ((by rw [hg]; exact Nat.ne_of_gt (blk_lt (g := gb235) (o := _) (by (with_reducible repeat (first | apply bN | apply bD | apply bA)); exact BK235.out)) : gb252 ≠ gb235)); have n21_ := Aside0.mk ((by rw [hg]; exact Nat.ne_of_lt (blk_lt (g := gb242) (o := _) (by (with_reducible repeat (first | apply bN | apply bD | apply bA)); exact BK242.out)) : gb242 ≠ gb252)); have n22_ := Aside0.mk ((by rw [hg]; exact Nat.ne_of_gt (blk_lt (g := gb242) (o := _) (by (with_reducible repeat (first | apply bN | apply bD | apply bA)); exact BK242.out)) : gb252 ≠ gb242)); clear HO222; clear HO225; clear HO228; clear HO231; clear HO234; clear HO238; clear HO241; clear HO245; clear HO248; clear HO251; clear BK218; clear BK235; clear BK242; clear HB; have HO222 := n0_; have HO225 := n1_; have HO228 := n2_; have HO231 := n3_; have HO234 := n4_; have HO238 := n5_; have HO241 := n6_; have HO245 := n7_; have HO248 := n8_; have HO251 := n9_; have BK218 := n10_; have BK235 := n11_; have BK242 := n12_; have HB := n13_; have BK252 := n14_; have GW252 := n15_; have GE252 := n16_; have NB218_252 := n17_; have NB252_218 := n18_; have NB235_252 := n19_; have NB252_235 := n20_; have NB242_252 := n21_; have NB252_242 := n22_; clear n0_ n1_ n2_ n3_ n4_ n5_ n6_ n7_ n8_ n9_ n10_ n11_ n12_ n13_ n14_ n15_ n16_ n17_ n18_ n19_ n20_ n21_ n22_; clear hb hbox hg; obtain ⟨Ao44, co44, eo44⟩ := Kd.R_slice HO248.out; subst eo44; have hnb45 := NB252_218.out; have hnc45 := NB218_252.out; have hnb46 := NB252_235.out; have hnc46 := NB235_252.out; have hnb47 := NB252_242.out; have hnc47 := NB242_252.out; have hcz48_0 : w43.cell? ⟨gb252, 0, none⟩ = some (.slice none 0 0) := (blk_cell BK252.out 0).trans rfl; have hcz48_1 : w43.cell? ⟨gb252, 1, none⟩ = some (.slice none 0 0) := (blk_cell BK252.out 1).trans rfl; have hfz48_0 := blk_frozen BK252.out 0; have hfz48_1 := blk_frozen BK252.out 1; obtain ⟨Ao49, co49, eo49⟩ := Kd.R_slice HO251.out; subst eo49; have hcz50_0 : w43.cell? ⟨gb235, 0, none⟩ = some (.slice Ao27 t229.length co27) := (blk_cell BK235.out 0).trans rfl; have hcz50_1 : w43.cell? ⟨gb235, 1, none⟩ = some (.slice Ao30 t232.length co30) := (blk_cell BK235.out 1).trans rfl; have hfz50_0 := blk_frozen BK235.out 0; have hfz50_1 := blk_frozen BK235.out 1) | ((with_reducible refine gate_callee (f := 19) rfl ?_); refine goesL_ (some 36) rfl rfl Try.func19 (by kernel_rfl) rfl #[.agg #[.slice Ao44 t246.length co44, .slice Ao49 t249.length co49], .agg #[.slice Ao27 t229.length co27, .slice Ao30 t232.length co30]] rfl (by (try simp only [List.map_toArray, List.map_cons, List.map_nil]); first | done | rfl | (simp only [List.length_drop, List.length_take]; rfl)) ?_; (with_reducible refine (laws_eqDisk.calls kj6 _ _ t246 _ _ t249 _ _ t229 _ _ t232 t253 _ ?side1 ?side2 ?side3 ?side4 ?side5 ?side6 ?side7 ?side8 A17.out).mono ?_); (case side1 => refine (Kd.R_reads' (e := 9) (base := w.heap.size) (ok := fun k_ => (((True ∧ some k_ ≠ (.slice Ao22 t220.length co22 : Value).ownBlock) ∧ some k_ ≠ (.slice Ao27 t229.length co27 : Value).ownBlock) ∧ some k_ ≠ (.slice Ao34 t236.length co34 : Value).ownBlock)) (n := t246.length) (c := co44) ?_).2.2; exact (by (with_reducible repeat (first | apply Kd.R_alloc | apply Kd.R_drewN | apply Kd.R_drew)); exact (Kd.R_mono (Kd.R_far (p := ⟨gb252, 1, none⟩) (Kd.R_far (p := ⟨gb252, 0, none⟩) (Kd.R_types HO248.out BK252.out (by decide)) (fun _ hk => hk.2) (.slice Ao44 t246.length co44)) (fun _ hk => hk.2) (.slice Ao49 t249.length co49)) (fun _ h_ => h_.1)))); (case side2 => exact (Kd.R_reads' HO248.out).2.1); (case side3 => refine (Kd.R_reads' (e := 65) (base := w.heap.size) (ok := fun k_ => (((True ∧ some k_ ≠ (.slice Ao23 t223.length co23 : Value).ownBlock) ∧ some k_ ≠ (.slice Ao30 t232.length co30 : Value).ownBlock) ∧ some k_ ≠ (.slice Ao38 t239.length co38 : Value).ownBlock)) (n := t249.length) (c := co49) ?_).2.2; exact (by (with_reducible repeat (first | apply Kd.R_alloc | apply Kd.R_drewN | apply Kd.R_drew)); exact (Kd.R_mono (Kd.R_far (p := ⟨gb252, 1, none⟩) (Kd.R_far (p := ⟨gb252, 0, none⟩) (Kd.R_types HO251.out BK252.out (by decide)) (fun _ hk => hk.2) (.slice Ao44 t246.length co44)) (fun _ hk => hk.2) (.slice Ao49 t249.length co49)) (fun _ h_ => h_.1)))); (case side4 => exact (Kd.R_reads' HO251.out).2.1); (case side5 => refine (Kd.R_reads' (e := 9) (base := w.heap.size) (ok := fun k_ => (((True ∧ some k_ ≠ (.slice Ao22 t220.length co22 : Value).ownBlock) ∧ some k_ ≠ (.slice Ao34 t236.length co34 : Value).ownBlock) ∧ some k_ ≠ (.slice Ao44 t246.length co44 : Value).ownBlock)) (n := t229.length) (c := co27) ?_).2.2; exact (by (with_reducible repeat (first | apply Kd.R_alloc | apply Kd.R_drewN | apply Kd.R_drew)); exact (Kd.R_mono (Kd.R_far (p := ⟨gb252, 1, none⟩) (Kd.R_far (p := ⟨gb252, 0, none⟩) (Kd.R_types HO231.out BK252.out (by decide)) (fun _ hk => hk.2) (.slice Ao44 t246.length co44)) (fun _ hk => hk.2) (.slice Ao49 t249.length co49)) (fun _ h_ => h_.1)))); (case side6 => exact (Kd.R_reads' HO231.out).2.1); (case side7 => refine (Kd.R_reads' (e := 65) (base := w.heap.size) (ok := fun k_ => (((True ∧ some k_ ≠ (.slice Ao23 t223.length co23 : Value).ownBlock) ∧ some k_ ≠ (.slice Ao38 t239.length co38 : Value).ownBlock) ∧ some k_ ≠ (.slice Ao49 t249.length co49 : Value).ownBlock)) (n := t232.length) (c := co30) ?_).2.2; exact (by (with_reducible repeat (first | apply Kd.R_alloc | apply Kd.R_drewN | apply Kd.R_drew)); exact (Kd.R_mono (Kd.R_far (p := ⟨gb252, 1, none⟩) (Kd.R_far (p := ⟨gb252, 0, none⟩) (Kd.R_types HO234.out BK252.out (by decide)) (fun _ hk => hk.2) (.slice Ao44 t246.length co44)) (fun _ hk => hk.2) (.slice Ao49 t249.length co49)) (fun _ h_ => h_.1)))); (case side8 => exact (Kd.R_reads' HO234.out).2.1); rintro e w51 ⟨rfl, hb⟩; refine ⟨_, rfl, ?_⟩; have n0_ := Aside0.mk (Kd.R_below (by (with_reducible repeat (first | apply Kd.R_alloc | apply Kd.R_drewN | apply Kd.R_drew)); exact (Kd.R_mono (Kd.R_far (p := ⟨gb252, 1, none⟩) (Kd.R_far (p := ⟨gb252, 0, none⟩) (Kd.R_types HO222.out BK252.out (by decide)) (fun _ hk => hk.2) (.slice Ao44 t246.length co44)) (fun _ hk => hk.2) (.slice Ao49 t249.length co49)) (fun _ h_ => h_.1))) hb); have n1_ := Aside0.mk (Kd.R_below (by (with_reducible repeat (first | apply Kd.R_alloc | apply Kd.R_drewN | apply Kd.R_drew)); exact (Kd.R_mono (Kd.R_far (p := ⟨gb252, 1, none⟩) (Kd.R_far (p := ⟨gb252, 0, none⟩) (Kd.R_types HO225.out BK252.out (by decide)) (fun _ hk => hk.2) (.slice Ao44 t246.length co44)) (fun _ hk => hk.2) (.slice Ao49 t249.length co49)) (fun _ h_ => h_.1))) hb); have n2_ := Aside0.mk (Kd.R_below (by (with_reducible repeat (first | apply Kd.R_alloc | apply Kd.R_drewN | apply Kd.R_drew)); exact (Kd.R_mono (Kd.R_far (p := ⟨gb252, 1, none⟩) (Kd.R_far (p := ⟨gb252, 0, none⟩) (Kd.R_types HO228.out BK252.out (by decide)) (fun _ hk => hk.2) (.slice Ao44 t246.length co44)) (fun _ hk => hk.2) (.slice Ao49 t249.length co49)) (fun _ h_ => h_.1))) hb); have n3_ := Aside0.mk (Kd.R_below (by (with_reducible repeat (first | apply Kd.R_alloc | apply Kd.R_drewN | apply Kd.R_drew)); exact (Kd.R_mono (Kd.R_far (p := ⟨gb252, 1, none⟩) (Kd.R_far (p := ⟨gb252, 0, none⟩) (Kd.R_types HO231.out BK252.out (by decide)) (fun _ hk => hk.2) (.slice Ao44 t246.length co44)) (fun _ hk => hk.2) (.slice Ao49 t249.length co49)) (fun _ h_ => h_.1))) hb); have n4_ := Aside0.mk (Kd.R_below (by (with_reducible repeat (first | apply Kd.R_alloc | apply Kd.R_drewN | apply Kd.R_drew)); exact (Kd.R_mono (Kd.R_far (p := ⟨gb252, 1, none⟩) (Kd.R_far (p := ⟨gb252, 0, none⟩) (Kd.R_types HO234.out BK252.out (by decide)) (fun _ hk => hk.2) (.slice Ao44 t246.length co44)) (fun _ hk => hk.2) (.slice Ao49 t249.length co49)) (fun _ h_ => h_.1))) hb); have n5_ := Aside0.mk (Kd.R_below (by (with_reducible repeat (first | apply Kd.R_alloc | apply Kd.R_drewN | apply Kd.R_drew)); exact (Kd.R_mono (Kd.R_far (p := ⟨gb252, 1, none⟩) (Kd.R_far (p := ⟨gb252, 0, none⟩) (Kd.R_types HO238.out BK252.out (by decide)) (fun _ hk => hk.2) (.slice Ao44 t246.length co44)) (fun _ hk => hk.2) (.slice Ao49 t249.length co49)) (fun _ h_ => h_.1))) hb); have n6_ := Aside0.mk (Kd.R_below (by (with_reducible repeat (first | apply Kd.R_alloc | apply Kd.R_drewN | apply Kd.R_drew)); exact (Kd.R_mono (Kd.R_far (p := ⟨gb252, 1, none⟩) (Kd.R_far (p := ⟨gb252, 0, none⟩) (Kd.R_types HO241.out BK252.out (by decide)) (fun _ hk => hk.2) (.slice Ao44 t246.length co44)) (fun _ hk => hk.2) (.slice Ao49 t249.length co49)) (fun _ h_ => h_.1))) hb); have n7_ := Aside0.mk (Kd.R_below (by (with_reducible repeat (first | apply Kd.R_alloc | apply Kd.R_drewN | apply Kd.R_drew)); exact (Kd.R_mono (Kd.R_far (p := ⟨gb252, 1, none⟩) (Kd.R_far (p := ⟨gb252, 0, none⟩) (Kd.R_types HO245.out BK252.out (by decide)) (fun _ hk => hk.2) (.slice Ao44 t246.length co44)) (fun _ hk => hk.2) (.slice Ao49 t249.length co49)) (fun _ h_ => h_.1))) hb); have n8_ := Aside0.mk (Kd.R_below (by (with_reducible repeat (first | apply Kd.R_alloc | apply Kd.R_drewN | apply Kd.R_drew)); exact (Kd.R_mono (Kd.R_far (p := ⟨gb252, 1, none⟩) (Kd.R_far (p := ⟨gb252, 0, none⟩) (Kd.R_types HO248.out BK252.out (by decide)) (fun _ hk => hk.2) (.slice Ao44 t246.length co44)) (fun _ hk => hk.2) (.slice Ao49 t249.length co49)) (fun _ h_ => h_.1))) hb); have n9_ := Aside0.mk (Kd.R_below (by (with_reducible repeat (first | apply Kd.R_alloc | apply Kd.R_drewN | apply Kd.R_drew)); exact (Kd.R_mono (Kd.R_far (p := ⟨gb252, 1, none⟩) (Kd.R_far (p := ⟨gb252, 0, none⟩) (Kd.R_types HO251.out BK252.out (by decide)) (fun _ hk => hk.2) (.slice Ao44 t246.length co44)) (fun _ hk => hk.2) (.slice Ao49 t249.length co49)) (fun _ h_ => h_.1))) hb); have n10_ := Aside0.mk (blk_below (g := gb218) (o := .cells #[.slice A0_0 l0_0.length c0_0, .slice A0_1 l0_1.length c0_1] 25 (0, 0)) (by (with_reducible repeat (first | apply bN | apply bD | apply bA)); refine blk_far ?_ NB218_252.out _; (with_reducible repeat (first | apply bN | apply bD | apply bA)); refine blk_far ?_ NB218_252.out _; (with_reducible repeat (first | apply bN | apply bD | apply bA)); exact BK218.out) hb); have n11_ := Aside0.mk (blk_below (g := gb235) (o := .cells #[.slice Ao27 t229.length co27, .slice Ao30 t232.length co30] 30 (0, 0)) (by (with_reducible repeat (first | apply bN | apply bD | apply bA)); refine blk_far ?_ NB235_252.out _; (with_reducible repeat (first | apply bN | apply bD | apply bA)); refine blk_far ?_ NB235_252.out _; (with_reducible repeat (first | apply bN | apply bD | apply bA)); exact BK235.out) hb); have n12_ := Aside0.mk (blk_below (g := gb242) (o := .cells #[.slice Ao34 t236.length co34, .slice Ao38 t239.length co38] 30 (0, 0)) (by (with_reducible repeat (first | apply bN | apply bD | apply bA)); refine blk_far ?_ NB242_252.out _; (with_reducible repeat (first | apply bN | apply bD | apply bA)); refine blk_far ?_ NB242_252.out _; (with_reducible repeat (first | apply bN | apply bD | apply bA)); exact BK242.out) hb); have n13_ := Aside0.mk (blk_below (g := gb252) (o := .cells #[.slice Ao44 t246.length co44, .slice Ao49 t249.length co49] 30 (0, 0)) (by (with_reducible repeat (first | apply bN | apply bD | apply bA)); refine blk_put (cs := #[.slice Ao44 t246.length co44, .slice none 0 0]) ?_ 1 _ rfl; (with_reducible repeat (first | apply bN | apply bD | apply bA)); refine blk_put (cs := #[.slice none 0 0, .slice none 0 0]) ?_ 0 _ rfl; (with_reducible repeat (first | apply bN | apply bD | apply bA)); exact BK252.out) hb); have n14_ := Aside0.mk (below_step (by repeat (first | (with_reducible first | exact HB.out | apply below_alloc | apply pw_below_drewN | apply below_drew1 | refine below_set ?_ GE218.out | refine below_set ?_ GE235.out | refine below_set ?_ GE242.out | refine below_set ?_ GE252.out) | exact HB.out)) hb); clear HO222; clear HO225; clear HO228; clear HO231; clear HO234; clear HO238; clear HO241; clear HO245; clear HO248; clear HO251; clear BK218; clear BK235; clear BK242; clear BK252; clear HB; have HO222 := n0_; have HO225 := n1_; have HO228 := n2_; have HO231 := n3_; have HO234 := n4_; have HO238 := n5_; have HO241 := n6_; have HO245 := n7_; have HO248 := n8_; have HO251 := n9_; have BK218 := n10_; have BK235 := n11_; have BK242 := n12_; have BK252 := n13_; have HB := n14_; clear n0_ n1_ n2_ n3_ n4_ n5_ n6_ n7_ n8_ n9_ n10_ n11_ n12_ n13_ n14_; (try clear hb); (try clear hb2); (try clear hk); (try clear hi)))
     (try simp only [Act.put, List.setIfInBounds_toArray, List.set_cons_zero, List.set_cons_succ])
     go_cut [] (fun wc => ∃ (kq : Nat), Aside0 (laws_FnExactFall.j2 kq l1 t243 l0_0 l0_1 t229 t232 t236 t239 t246 t249 = some r) ∧ Aside0 (kq ≤ kj6) ∧ Aside0 (Kd.R Kd.bool 4 wc w.heap.size (fun _ => True) (.slice Ao41 t243.length co41) t243) ∧ Aside0 (Kd.R Kd.string 9 wc w.heap.size (fun k_ => some k_ ≠ ((.slice Ao34 t236.length co34) : Value).ownBlock ∧ some k_ ≠ ((.slice Ao44 t246.length co44) : Value).ownBlock) (.slice Ao27 t229.length co27) t229) ∧ Aside0 (Kd.R k65 65 wc w.heap.size (fun k_ => some k_ ≠ ((.slice Ao38 t239.length co38) : Value).ownBlock ∧ some k_ ≠ ((.slice Ao49 t249.length co49) : Value).ownBlock) (.slice Ao30 t232.length co30) t232) ∧ Aside0 (Kd.R Kd.string 9 wc w.heap.size (fun k_ => some k_ ≠ ((.slice Ao27 t229.length co27) : Value).ownBlock ∧ some k_ ≠ ((.slice Ao44 t246.length co44) : Value).ownBlock) (.slice Ao34 t236.length co34) t236) ∧ Aside0 (Kd.R k65 65 wc w.heap.size (fun k_ => some k_ ≠ ((.slice Ao30 t232.length co30) : Value).ownBlock ∧ some k_ ≠ ((.slice Ao49 t249.length co49) : Value).ownBlock) (.slice Ao38 t239.length co38) t239) ∧ Aside0 (Kd.R Kd.string 9 wc w.heap.size (fun k_ => some k_ ≠ ((.slice Ao27 t229.length co27) : Value).ownBlock ∧ some k_ ≠ ((.slice Ao34 t236.length co34) : Value).ownBlock) (.slice Ao44 t246.length co44) t246) ∧ Aside0 (Kd.R k65 65 wc w.heap.size (fun k_ => some k_ ≠ ((.slice Ao30 t232.length co30) : Value).ownBlock ∧ some k_ ≠ ((.slice Ao38 t239.length co38) : Value).ownBlock) (.slice Ao49 t249.length co49) t249) ∧ Aside0 (wc.heap[gb218]? = some (.cells #[(.slice A0_0 l0_0.length c0_0), (.slice A0_1 l0_1.length c0_1)] 25 (0, 0))) ∧ Aside0 (wc.heap[gb235]? = some (.cells #[(.slice Ao27 t229.length co27), (.slice Ao30 t232.length co30)] 30 (0, 0))) ∧ Aside0 (wc.heap[gb242]? = some (.cells #[(.slice Ao34 t236.length co34), (.slice Ao38 t239.length co38)] 30 (0, 0))) ∧ Aside0 (wc.heap[gb252]? = some (.cells #[(.slice Ao44 t246.length co44), (.slice Ao49 t249.length co49)] 30 (0, 0))) ∧ Aside0 (Below w.heap.size w wc))
     case first =>
      have H := HC18.out
      clear HC18
      by_cases c52 : t253 = true
      ·subst c52
       have H1 : (laws_FnExactFall.j2 kj6 l1 t243 l0_0 l0_1 t229 t232 t236 t239 t246 t249) = some r := by rw [if_pos rfl] at H; exact H
       clear H
       have H := H1
       clear H1
       have H' := Aside0.mk H
       clear H
       go_wp2
       go_meet
       case rel => exact ⟨_, H', ⟨by have := HJ2.out; have := HJ6.out; first | omega | exact Nat.le_refl _⟩, ⟨by (with_reducible repeat (first | apply Kd.R_alloc | apply Kd.R_drewN | apply Kd.R_drew)); exact Kd.R_mono HO245.out (fun _ hk => trivial)⟩, ⟨by (with_reducible repeat (first | apply Kd.R_alloc | apply Kd.R_drewN | apply Kd.R_drew)); exact Kd.R_mono HO231.out (fun _ hk => ⟨hk.1.2, hk.2⟩)⟩, ⟨by (with_reducible repeat (first | apply Kd.R_alloc | apply Kd.R_drewN | apply Kd.R_drew)); exact Kd.R_mono HO234.out (fun _ hk => ⟨hk.1.2, hk.2⟩)⟩, ⟨by (with_reducible repeat (first | apply Kd.R_alloc | apply Kd.R_drewN | apply Kd.R_drew)); exact Kd.R_mono HO238.out (fun _ hk => ⟨hk.1.2, hk.2⟩)⟩, ⟨by (with_reducible repeat (first | apply Kd.R_alloc | apply Kd.R_drewN | apply Kd.R_drew)); exact Kd.R_mono HO241.out (fun _ hk => ⟨hk.1.2, hk.2⟩)⟩, ⟨by (with_reducible repeat (first | apply Kd.R_alloc | apply Kd.R_drewN | apply Kd.R_drew)); exact Kd.R_mono HO248.out (fun _ hk => ⟨hk.1.2, hk.2⟩)⟩, ⟨by (with_reducible repeat (first | apply Kd.R_alloc | apply Kd.R_drewN | apply Kd.R_drew)); exact Kd.R_mono HO251.out (fun _ hk => ⟨hk.1.2, hk.2⟩)⟩, ⟨by (with_reducible repeat (first | apply bN | apply bD | apply bA)); exact BK218.out⟩, ⟨by (with_reducible repeat (first | apply bN | apply bD | apply bA)); exact BK235.out⟩, ⟨by (with_reducible repeat (first | apply bN | apply bD | apply bA)); exact BK242.out⟩, ⟨by (with_reducible repeat (first | apply bN | apply bD | apply bA)); exact BK252.out⟩, ⟨by repeat (first | (with_reducible first | exact HB.out | apply below_alloc | apply pw_below_drewN | apply below_drew1 | refine below_set ?_ GE218.out | refine below_set ?_ GE235.out | refine below_set ?_ GE242.out | refine below_set ?_ GE252.out) | exact HB.out)⟩⟩
      ·replace c52 := Bool.eq_false_iff.mpr c52
       subst c52
       have H1 : (some false) = some r := by rw [if_neg (show ¬ (false = true) by decide)] at H; exact H
       clear H
       have H := H1
       clear H1
       obtain rfl := Option.some.inj H
       go_wp2
       go_ret
       exact ⟨by first | rfl | (simp [errW_none, errW_some] <;> rfl) | (simp [*, errW_none, errW_some] <;> rfl), by repeat (first | (with_reducible first | exact HB.out | apply below_alloc | apply pw_below_drewN | apply below_drew1 | refine below_set ?_ GE218.out | refine below_set ?_ GE235.out | refine below_set ?_ GE242.out | refine below_set ?_ GE252.out) | exact HB.out)⟩
     case rest =>
      clear HC18
      try clear c1
      try clear c2
      try clear p2
      try clear c3
      try clear c4
      try clear c5
      try clear c5b0
      try clear c5b1
      try clear c5b2
      try clear c8
      try clear c10
      try clear c10b0
      try clear c10b1
      try clear c10b2
      try clear c15
      try clear c17
      try clear c19
      try clear c28
      try clear c33
      try clear c34
      try clear c35
      try clear c36
      try clear c45
      try clear c46
      try clear c47
      try clear c52
      try clear hcz19_0
      try clear hcz19_1
      try clear hcz29_0
      try clear hcz29_1
      try clear hcz31_0
      try clear hcz31_1
      try clear hcz37_0
      try clear hcz37_1
      try clear hcz40_0
      try clear hcz40_1
      try clear hcz48_0
      try clear hcz48_1
      try clear hcz50_0
      try clear hcz50_1
      try clear hcz8_0
      try clear hcz8_1
      try clear hfz19_0
      try clear hfz19_1
      try clear hfz29_0
      try clear hfz29_1
      try clear hfz31_0
      try clear hfz31_1
      try clear hfz37_0
      try clear hfz37_1
      try clear hfz40_0
      try clear hfz40_1
      try clear hfz48_0
      try clear hfz48_1
      try clear hfz50_0
      try clear hfz50_1
      try clear hfz8_0
      try clear hfz8_1
      try clear p2
      obtain ⟨kq, HA, HJ17, HO_8, HO_236000, HO_236001, HO_243000, HO_243001, HO_253000, HO_253001, BK218, BK235, BK242, BK252, HB⟩ := hcut
      cases kq with
      | zero => exact absurd HA.out (by simp [laws_FnExactFall.j2])
      | succ kj17 =>
       have H := HA.out
       clear HA
       simp only [laws_FnExactFall.j2] at H
       replace H := Option.bind_eq_some_iff.mp H
       obtain ⟨⟨t254, t257⟩, A530, H⟩ := H
       replace H : ((laws_eqDisk.f kj17 t236 t239 t254 t257).bind fun t260 => (if t260 = true then (laws_FnExactFall.j3 kj17 l1 t243 l0_0 l0_1 t229 t232 t236 t239 t246 t249) else (some false))) = some r := H
       have A53 := Aside0.mk A530
       clear A530
       replace H := Option.bind_eq_some_iff.mp H
       obtain ⟨t260, A540, H⟩ := H
       replace H : (if t260 = true then (laws_FnExactFall.j3 kj17 l1 t243 l0_0 l0_1 t229 t232 t236 t239 t246 t249) else (some false)) = some r := H
       have A54 := Aside0.mk A540
       clear A540
       have HC55 := Aside0.mk H
       clear H
       try go_wp2
       have n0_ := Aside0.mk (Kd.R_drew HO_8.out)
       have n1_ := Aside0.mk (Kd.R_drew HO_236000.out)
       have n2_ := Aside0.mk (Kd.R_drew HO_236001.out)
       have n3_ := Aside0.mk (Kd.R_drew HO_243000.out)
       have n4_ := Aside0.mk (Kd.R_drew HO_243001.out)
       have n5_ := Aside0.mk (Kd.R_drew HO_253000.out)
       have n6_ := Aside0.mk (Kd.R_drew HO_253001.out)
       have n7_ := Aside0.mk (blk_drew BK218.out)
       have n8_ := Aside0.mk (blk_drew BK235.out)
       have n9_ := Aside0.mk (blk_drew BK242.out)
       have n10_ := Aside0.mk (blk_drew BK252.out)
       have n11_ := Aside0.mk (below_drew1 HB.out)
       clear HO_8
       clear HO_236000
       clear HO_236001
       clear HO_243000
       clear HO_243001
       clear HO_253000
       clear HO_253001
       clear BK218
       clear BK235
       clear BK242
       clear BK252
       clear HB
       have HO_8 := n0_
       have HO_236000 := n1_
       have HO_236001 := n2_
       have HO_243000 := n3_
       have HO_243001 := n4_
       have HO_253000 := n5_
       have HO_253001 := n6_
       have BK218 := n7_
       have BK235 := n8_
       have BK242 := n9_
       have BK252 := n10_
       have HB := n11_
       clear n0_ n1_ n2_ n3_ n4_ n5_ n6_ n7_ n8_ n9_ n10_ n11_
       refine start_ (n := 5) (S := fun w' => w'.cell? ⟨gb242, 0, none⟩ = some (.slice Ao34 t236.length co34) ∧ w'.cell? ⟨gb242, 1, none⟩ = some (.slice Ao38 t239.length co38) ∧ w'.cell? ⟨gb218, 0, none⟩ = some (.slice A0_0 l0_0.length c0_0) ∧ w'.cell? ⟨gb218, 1, none⟩ = some (.slice A0_1 l0_1.length c0_1)) (ds := []) #[false, false, false, false, false] (by kernel_rfl) rfl rfl ⟨(blk_cell BK242.out 0).trans rfl, (blk_cell BK242.out 1).trans rfl, (blk_cell BK218.out 0).trans rfl, (blk_cell BK218.out 1).trans rfl⟩ (fun hHeld => ?_)
       generalize wc.drew = w56 at HO_8 HO_236000 HO_236001 HO_243000 HO_243001 HO_253000 HO_253001 BK218 BK235 BK242 BK252 HB hHeld ⊢
       refine take_ (i := 0) (N := some 38) (v := ?_) (a' := ?_) #[true, false, false, false, false] rfl rfl (by kernel_rfl) (fun _ _ _ h => h) (Or.inl ⟨by rfl, ?_⟩) hHeld ?_ ?_
       rotate_left
       ·rintro w' ⟨s0, s1, s2, s3⟩
        go_simp
        with_reducible rfl
       rotate_left
       ·simp only [Act.put, List.setIfInBounds_toArray, List.set_cons_zero, List.set_cons_succ, i64_w, i32_w]
        rfl
       refine take_ (i := 1) (N := some 39) (v := ?_) (a' := ?_) #[true, true, false, false, false] rfl rfl (by kernel_rfl) (fun _ _ _ h => h) (Or.inl ⟨by rfl, ?_⟩) hHeld ?_ ?_
       rotate_left
       ·rintro w' ⟨s0, s1, s2, s3⟩
        go_simp
        with_reducible rfl
       rotate_left
       ·simp only [Act.put, List.setIfInBounds_toArray, List.set_cons_zero, List.set_cons_succ, i64_w, i32_w]
        rfl
       refine one_ (i := 2) (N := some 40) #[true, true, true, false, false] rfl rfl (by kernel_rfl) (by decide) (fun K hK => ?_)
       refine goes_ Try.func17 (by kernel_rfl) rfl #[.agg #[.slice A0_0 l0_0.length c0_0, .slice A0_1 l0_1.length c0_1]] (by rfl) rfl rfl (by (try simp only [List.map_toArray, List.map_cons, List.map_nil]); first | done | rfl | (simp only [List.length_drop, List.length_take]; rfl)) ?_
       with_reducible refine (laws_toDisk.calls kj17 _ _ l0_0 _ _ l0_1 t254 t257 _ ?side1 ?side2 ?side3 ?side4 A53.out).mono ?_
       (case side1 => repeat (first | exact (Kd.C_below HR0_0.out HB.out) | (with_reducible refine Kd.C_alloc ?_ _) | (with_reducible refine Kd.C_drewN ?_ _) | (with_reducible refine Kd.C_drew ?_)))
       (case side2 => exact HC0_0.out)
       (case side3 => repeat (first | exact (Kd.C_below HR0_1.out HB.out) | (with_reducible refine Kd.C_alloc ?_ _) | (with_reducible refine Kd.C_drewN ?_ _) | (with_reducible refine Kd.C_drew ?_)))
       (case side4 => exact HC0_1.out)
       rintro e w57 ⟨v255, v258, rfl, ho0, ho1, hb⟩
       refine ⟨_, rfl, ?_⟩
       have n0_ := Aside0.mk (Kd.R_below (by (with_reducible repeat (first | apply Kd.R_alloc | apply Kd.R_drewN | apply Kd.R_drew)); exact HO_8.out) hb)
       have n1_ := Aside0.mk (Kd.R_elder' (by (with_reducible repeat (first | apply Kd.R_alloc | apply Kd.R_drewN | apply Kd.R_drew)); exact HO_236000.out) (Kd.R_base ho0) hb)
       have n2_ := Aside0.mk (Kd.R_elder' (by (with_reducible repeat (first | apply Kd.R_alloc | apply Kd.R_drewN | apply Kd.R_drew)); exact HO_236001.out) (Kd.R_base ho1) hb)
       have n3_ := Aside0.mk (Kd.R_elder' (by (with_reducible repeat (first | apply Kd.R_alloc | apply Kd.R_drewN | apply Kd.R_drew)); exact HO_243000.out) (Kd.R_base ho0) hb)
       have n4_ := Aside0.mk (Kd.R_elder' (by (with_reducible repeat (first | apply Kd.R_alloc | apply Kd.R_drewN | apply Kd.R_drew)); exact HO_243001.out) (Kd.R_base ho1) hb)
       have n5_ := Aside0.mk (Kd.R_elder' (by (with_reducible repeat (first | apply Kd.R_alloc | apply Kd.R_drewN | apply Kd.R_drew)); exact HO_253000.out) (Kd.R_base ho0) hb)
       have n6_ := Aside0.mk (Kd.R_elder' (by (with_reducible repeat (first | apply Kd.R_alloc | apply Kd.R_drewN | apply Kd.R_drew)); exact HO_253001.out) (Kd.R_base ho1) hb)
       have n7_ := Aside0.mk (Kd.R_lower (Kd.R_new' (Kd.R_new' (Kd.R_new' ho0 (Kd.R_lt (by (with_reducible repeat (first | apply Kd.R_alloc | apply Kd.R_drewN | apply Kd.R_drew)); exact HO_236000.out))) (Kd.R_lt (by (with_reducible repeat (first | apply Kd.R_alloc | apply Kd.R_drewN | apply Kd.R_drew)); exact HO_243000.out))) (Kd.R_lt (by (with_reducible repeat (first | apply Kd.R_alloc | apply Kd.R_drewN | apply Kd.R_drew)); exact HO_253000.out))) (below_size (by repeat (first | (with_reducible first | exact HB.out | apply below_alloc | apply pw_below_drewN | apply below_drew1 | refine below_set ?_ GE218.out | refine below_set ?_ GE235.out | refine below_set ?_ GE242.out | refine below_set ?_ GE252.out) | exact HB.out))))
       have n8_ := Aside0.mk (Kd.R_lower (Kd.R_new' (Kd.R_new' (Kd.R_new' ho1 (Kd.R_lt (by (with_reducible repeat (first | apply Kd.R_alloc | apply Kd.R_drewN | apply Kd.R_drew)); exact HO_236001.out))) (Kd.R_lt (by (with_reducible repeat (first | apply Kd.R_alloc | apply Kd.R_drewN | apply Kd.R_drew)); exact HO_243001.out))) (Kd.R_lt (by (with_reducible repeat (first | apply Kd.R_alloc | apply Kd.R_drewN | apply Kd.R_drew)); exact HO_253001.out))) (below_size (by repeat (first | (with_reducible first | exact HB.out | apply below_alloc | apply pw_below_drewN | apply below_drew1 | refine below_set ?_ GE218.out | refine below_set ?_ GE235.out | refine below_set ?_ GE242.out | refine below_set ?_ GE252.out) | exact HB.out))))
       have n9_ := Aside0.mk (blk_below (g := gb218) (o := _) (by (with_reducible repeat (first | apply bN | apply bD | apply bA)); exact BK218.out) hb)
       have n10_ := Aside0.mk (blk_below (g := gb235) (o := _) (by (with_reducible repeat (first | apply bN | apply bD | apply bA)); exact BK235.out) hb)
       have n11_ := Aside0.mk (blk_below (g := gb242) (o := _) (by (with_reducible repeat (first | apply bN | apply bD | apply bA)); exact BK242.out) hb)
       have n12_ := Aside0.mk (blk_below (g := gb252) (o := _) (by (with_reducible repeat (first | apply bN | apply bD | apply bA)); exact BK252.out) hb)
       have n13_ := Aside0.mk (below_step (by repeat (first | (with_reducible first | exact HB.out | apply below_alloc | apply pw_below_drewN | apply below_drew1 | refine below_set ?_ GE218.out | refine below_set ?_ GE235.out | refine below_set ?_ GE242.out | refine below_set ?_ GE252.out) | exact HB.out)) hb)
       clear HO_8
       clear HO_236000
       clear HO_236001
       clear HO_243000
       clear HO_243001
       clear HO_253000
       clear HO_253001
       clear BK218
       clear BK235
       clear BK242
       clear BK252
       clear HB
       have HO_8 := n0_
       have HO_236000 := n1_
       have HO_236001 := n2_
       have HO_243000 := n3_
       have HO_243001 := n4_
       have HO_253000 := n5_
       have HO_253001 := n6_
       have HO256 := n7_
       have HO259 := n8_
       have BK218 := n9_
       have BK235 := n10_
       have BK242 := n11_
       have BK252 := n12_
       have HB := n13_
       clear n0_ n1_ n2_ n3_ n4_ n5_ n6_ n7_ n8_ n9_ n10_ n11_ n12_ n13_
       (try clear hb)
       (try clear hb2)
       (try clear hk)
       (try clear hi)
       (try clear ho0)
       (try clear ho1)
       obtain ⟨Ao58, co58, eo58⟩ := Kd.R_slice HO256.out
       (first | subst eo58 | (injection eo58 with f1_ f2_ f3_; have f4_ := f1_.symm; have f5_ := f3_.symm; clear f1_ f2_ f3_; subst f4_; subst f5_))
       obtain ⟨Ao59, co59, eo59⟩ := Kd.R_slice HO259.out
       (first | subst eo59 | (injection eo59 with f1_ f2_ f3_; have f4_ := f1_.symm; have f5_ := f3_.symm; clear f1_ f2_ f3_; subst f4_; subst f5_))
       refine hK.out _ _ ⟨(blk_cell BK242.out 0).trans rfl, (blk_cell BK242.out 1).trans rfl, (blk_cell BK218.out 0).trans rfl, (blk_cell BK218.out 1).trans rfl⟩ (fun hHeld => ?_)
       clear hK K
       refine norm_ (a' := ?_) ?_ ?_
       rotate_left
       ·show Act.put _ (some 40) _ = _
        simp only [Act.put, List.setIfInBounds_toArray, List.set_cons_zero, List.set_cons_succ, i64_w, i32_w]
        rfl
       refine one_ (i := 3) (N := some 41) #[true, true, true, true, false] rfl rfl (by kernel_rfl) (by decide) (fun K hK => ?_)
       refine goes_ Try.func19 (by kernel_rfl) rfl #[.agg #[.slice Ao34 t236.length co34, .slice Ao38 t239.length co38], .agg #[.slice Ao58 t254.length co58, .slice Ao59 t257.length co59]] (by rfl) rfl rfl (by (try simp only [List.map_toArray, List.map_cons, List.map_nil]); first | done | rfl | (simp only [List.length_drop, List.length_take]; rfl)) ?_
       with_reducible refine (laws_eqDisk.calls kj17 _ _ t236 _ _ t239 _ _ t254 _ _ t257 t260 _ ?side1 ?side2 ?side3 ?side4 ?side5 ?side6 ?side7 ?side8 A54.out).mono ?_
       (case side1 => repeat (first | exact (Kd.R_reads' HO_243000.out).2.2 | (with_reducible refine Kd.C_alloc ?_ _) | (with_reducible refine Kd.C_drewN ?_ _) | (with_reducible refine Kd.C_drew ?_)))
       (case side2 => exact (Kd.R_reads' HO_243000.out).2.1)
       (case side3 => repeat (first | exact (Kd.R_reads' HO_243001.out).2.2 | (with_reducible refine Kd.C_alloc ?_ _) | (with_reducible refine Kd.C_drewN ?_ _) | (with_reducible refine Kd.C_drew ?_)))
       (case side4 => exact (Kd.R_reads' HO_243001.out).2.1)
       (case side5 => repeat (first | exact (Kd.R_reads' HO256.out).2.2 | (with_reducible refine Kd.C_alloc ?_ _) | (with_reducible refine Kd.C_drewN ?_ _) | (with_reducible refine Kd.C_drew ?_)))
       (case side6 => exact (Kd.R_reads' HO256.out).2.1)
       (case side7 => repeat (first | exact (Kd.R_reads' HO259.out).2.2 | (with_reducible refine Kd.C_alloc ?_ _) | (with_reducible refine Kd.C_drewN ?_ _) | (with_reducible refine Kd.C_drew ?_)))
       (case side8 => exact (Kd.R_reads' HO259.out).2.1)
       rintro e w60 ⟨rfl, hb⟩
       refine ⟨_, rfl, ?_⟩
       have n0_ := Aside0.mk (Kd.R_below (by (with_reducible repeat (first | apply Kd.R_alloc | apply Kd.R_drewN | apply Kd.R_drew)); exact HO_8.out) hb)
       have n1_ := Aside0.mk (Kd.R_below (by (with_reducible repeat (first | apply Kd.R_alloc | apply Kd.R_drewN | apply Kd.R_drew)); exact HO_236000.out) hb)
       have n2_ := Aside0.mk (Kd.R_below (by (with_reducible repeat (first | apply Kd.R_alloc | apply Kd.R_drewN | apply Kd.R_drew)); exact HO_236001.out) hb)
       have n3_ := Aside0.mk (Kd.R_below (by (with_reducible repeat (first | apply Kd.R_alloc | apply Kd.R_drewN | apply Kd.R_drew)); exact HO_243000.out) hb)
       have n4_ := Aside0.mk (Kd.R_below (by (with_reducible repeat (first | apply Kd.R_alloc | apply Kd.R_drewN | apply Kd.R_drew)); exact HO_243001.out) hb)
       have n5_ := Aside0.mk (Kd.R_below (by (with_reducible repeat (first | apply Kd.R_alloc | apply Kd.R_drewN | apply Kd.R_drew)); exact HO_253000.out) hb)
       have n6_ := Aside0.mk (Kd.R_below (by (with_reducible repeat (first | apply Kd.R_alloc | apply Kd.R_drewN | apply Kd.R_drew)); exact HO_253001.out) hb)
       have n7_ := Aside0.mk (Kd.R_below (by (with_reducible repeat (first | apply Kd.R_alloc | apply Kd.R_drewN | apply Kd.R_drew)); exact HO256.out) hb)
       have n8_ := Aside0.mk (Kd.R_below (by (with_reducible repeat (first | apply Kd.R_alloc | apply Kd.R_drewN | apply Kd.R_drew)); exact HO259.out) hb)
       have n9_ := Aside0.mk (blk_below (g := gb218) (o := _) (by (with_reducible repeat (first | apply bN | apply bD | apply bA)); exact BK218.out) hb)
       have n10_ := Aside0.mk (blk_below (g := gb235) (o := _) (by (with_reducible repeat (first | apply bN | apply bD | apply bA)); exact BK235.out) hb)
       have n11_ := Aside0.mk (blk_below (g := gb242) (o := _) (by (with_reducible repeat (first | apply bN | apply bD | apply bA)); exact BK242.out) hb)
       have n12_ := Aside0.mk (blk_below (g := gb252) (o := _) (by (with_reducible repeat (first | apply bN | apply bD | apply bA)); exact BK252.out) hb)
       have n13_ := Aside0.mk (below_step (by repeat (first | (with_reducible first | exact HB.out | apply below_alloc | apply pw_below_drewN | apply below_drew1 | refine below_set ?_ GE218.out | refine below_set ?_ GE235.out | refine below_set ?_ GE242.out | refine below_set ?_ GE252.out) | exact HB.out)) hb)
       clear HO_8
       clear HO_236000
       clear HO_236001
       clear HO_243000
       clear HO_243001
       clear HO_253000
       clear HO_253001
       clear HO256
       clear HO259
       clear BK218
       clear BK235
       clear BK242
       clear BK252
       clear HB
       have HO_8 := n0_
       have HO_236000 := n1_
       have HO_236001 := n2_
       have HO_243000 := n3_
       have HO_243001 := n4_
       have HO_253000 := n5_
       have HO_253001 := n6_
       have HO256 := n7_
       have HO259 := n8_
       have BK218 := n9_
       have BK235 := n10_
       have BK242 := n11_
       have BK252 := n12_
       have HB := n13_
       clear n0_ n1_ n2_ n3_ n4_ n5_ n6_ n7_ n8_ n9_ n10_ n11_ n12_ n13_
       (try clear hb)
       (try clear hb2)
       (try clear hk)
       (try clear hi)
       refine hK.out _ _ ⟨(blk_cell BK242.out 0).trans rfl, (blk_cell BK242.out 1).trans rfl, (blk_cell BK218.out 0).trans rfl, (blk_cell BK218.out 1).trans rfl⟩ (fun hHeld => ?_)
       clear hK K
       refine norm_ (a' := ?_) ?_ ?_
       rotate_left
       ·show Act.put _ (some 41) _ = _
        simp only [Act.put, List.setIfInBounds_toArray, List.set_cons_zero, List.set_cons_succ, i64_w, i32_w]
        rfl
       refine pure_ (i := 4) (N := some 42) (v := ?_) (a' := ?_) #[true, true, true, true, true] rfl rfl (by kernel_rfl) (fun _ _ _ h => h) (Or.inl ⟨by rfl, ?_⟩) ?_ ?_
       rotate_left
       ·intro w'
        go_simp
        with_reducible rfl
       rotate_left
       ·simp only [Act.put, List.setIfInBounds_toArray, List.set_cons_zero, List.set_cons_succ, i64_w, i32_w]
        rfl
       refine done_ (by kernel_rfl) ?_
       go_upto_if 42 with (fail)
       go_cut [] (fun wc => ∃ (kq : Nat), Aside0 (laws_FnExactFall.j3 kq l1 t243 l0_0 l0_1 t229 t232 t236 t239 t246 t249 = some r) ∧ Aside0 (kq ≤ kj17) ∧ Aside0 (Kd.R Kd.bool 4 wc w.heap.size (fun _ => True) (.slice Ao41 t243.length co41) t243) ∧ Aside0 (Kd.R Kd.string 9 wc w.heap.size (fun k_ => some k_ ≠ ((.slice Ao34 t236.length co34) : Value).ownBlock ∧ some k_ ≠ ((.slice Ao44 t246.length co44) : Value).ownBlock) (.slice Ao27 t229.length co27) t229) ∧ Aside0 (Kd.R k65 65 wc w.heap.size (fun k_ => some k_ ≠ ((.slice Ao38 t239.length co38) : Value).ownBlock ∧ some k_ ≠ ((.slice Ao49 t249.length co49) : Value).ownBlock) (.slice Ao30 t232.length co30) t232) ∧ Aside0 (Kd.R Kd.string 9 wc w.heap.size (fun k_ => some k_ ≠ ((.slice Ao27 t229.length co27) : Value).ownBlock ∧ some k_ ≠ ((.slice Ao44 t246.length co44) : Value).ownBlock) (.slice Ao34 t236.length co34) t236) ∧ Aside0 (Kd.R k65 65 wc w.heap.size (fun k_ => some k_ ≠ ((.slice Ao30 t232.length co30) : Value).ownBlock ∧ some k_ ≠ ((.slice Ao49 t249.length co49) : Value).ownBlock) (.slice Ao38 t239.length co38) t239) ∧ Aside0 (Kd.R Kd.string 9 wc w.heap.size (fun k_ => some k_ ≠ ((.slice Ao27 t229.length co27) : Value).ownBlock ∧ some k_ ≠ ((.slice Ao34 t236.length co34) : Value).ownBlock) (.slice Ao44 t246.length co44) t246) ∧ Aside0 (Kd.R k65 65 wc w.heap.size (fun k_ => some k_ ≠ ((.slice Ao30 t232.length co30) : Value).ownBlock ∧ some k_ ≠ ((.slice Ao38 t239.length co38) : Value).ownBlock) (.slice Ao49 t249.length co49) t249) ∧ Aside0 (wc.heap[gb218]? = some (.cells #[(.slice A0_0 l0_0.length c0_0), (.slice A0_1 l0_1.length c0_1)] 25 (0, 0))) ∧ Aside0 (wc.heap[gb235]? = some (.cells #[(.slice Ao27 t229.length co27), (.slice Ao30 t232.length co30)] 30 (0, 0))) ∧ Aside0 (wc.heap[gb242]? = some (.cells #[(.slice Ao34 t236.length co34), (.slice Ao38 t239.length co38)] 30 (0, 0))) ∧ Aside0 (wc.heap[gb252]? = some (.cells #[(.slice Ao44 t246.length co44), (.slice Ao49 t249.length co49)] 30 (0, 0))) ∧ Aside0 (Below w.heap.size w wc))
       case first =>
        have H := HC55.out
        clear HC55
        by_cases c61 : t260 = true
        ·subst c61
         have H1 : (laws_FnExactFall.j3 kj17 l1 t243 l0_0 l0_1 t229 t232 t236 t239 t246 t249) = some r := by rw [if_pos rfl] at H; exact H
         clear H
         have H := H1
         clear H1
         have H' := Aside0.mk H
         clear H
         go_wp2
         go_meet
         case rel => exact ⟨_, H', ⟨by have := HJ2.out; have := HJ6.out; have := HJ17.out; first | omega | exact Nat.le_refl _⟩, ⟨by (with_reducible repeat (first | apply Kd.R_alloc | apply Kd.R_drewN | apply Kd.R_drew)); exact HO_8.out⟩, ⟨by (with_reducible repeat (first | apply Kd.R_alloc | apply Kd.R_drewN | apply Kd.R_drew)); exact Kd.R_mono HO_236000.out (fun _ hk => ⟨hk.1.1, hk.1.2⟩)⟩, ⟨by (with_reducible repeat (first | apply Kd.R_alloc | apply Kd.R_drewN | apply Kd.R_drew)); exact Kd.R_mono HO_236001.out (fun _ hk => ⟨hk.1.1, hk.1.2⟩)⟩, ⟨by (with_reducible repeat (first | apply Kd.R_alloc | apply Kd.R_drewN | apply Kd.R_drew)); exact Kd.R_mono HO_243000.out (fun _ hk => ⟨hk.1.1, hk.1.2⟩)⟩, ⟨by (with_reducible repeat (first | apply Kd.R_alloc | apply Kd.R_drewN | apply Kd.R_drew)); exact Kd.R_mono HO_243001.out (fun _ hk => ⟨hk.1.1, hk.1.2⟩)⟩, ⟨by (with_reducible repeat (first | apply Kd.R_alloc | apply Kd.R_drewN | apply Kd.R_drew)); exact Kd.R_mono HO_253000.out (fun _ hk => ⟨hk.1.1, hk.1.2⟩)⟩, ⟨by (with_reducible repeat (first | apply Kd.R_alloc | apply Kd.R_drewN | apply Kd.R_drew)); exact Kd.R_mono HO_253001.out (fun _ hk => ⟨hk.1.1, hk.1.2⟩)⟩, ⟨by (with_reducible repeat (first | apply bN | apply bD | apply bA)); exact BK218.out⟩, ⟨by (with_reducible repeat (first | apply bN | apply bD | apply bA)); exact BK235.out⟩, ⟨by (with_reducible repeat (first | apply bN | apply bD | apply bA)); exact BK242.out⟩, ⟨by (with_reducible repeat (first | apply bN | apply bD | apply bA)); exact BK252.out⟩, ⟨by repeat (first | (with_reducible first | exact HB.out | apply below_alloc | apply pw_below_drewN | apply below_drew1 | refine below_set ?_ GE218.out | refine below_set ?_ GE235.out | refine below_set ?_ GE242.out | refine below_set ?_ GE252.out) | exact HB.out)⟩⟩
        ·replace c61 := Bool.eq_false_iff.mpr c61
         subst c61
         have H1 : (some false) = some r := by rw [if_neg (show ¬ (false = true) by decide)] at H; exact H
         clear H
         have H := H1
         clear H1
         obtain rfl := Option.some.inj H
         go_wp2
         go_ret
         exact ⟨by first | rfl | (simp [errW_none, errW_some] <;> rfl) | (simp [*, errW_none, errW_some] <;> rfl), by repeat (first | (with_reducible first | exact HB.out | apply below_alloc | apply pw_below_drewN | apply below_drew1 | refine below_set ?_ GE218.out | refine below_set ?_ GE235.out | refine below_set ?_ GE242.out | refine below_set ?_ GE252.out) | exact HB.out)⟩
       case rest =>
        clear HC55
        try clear c1
        try clear c2
        try clear p2
        try clear c3
        try clear c4
        try clear c5
        try clear c5b0
        try clear c5b1
        try clear c5b2
        try clear c6
        try clear c8
        try clear c10
        try clear c10b0
        try clear c10b1
        try clear c10b2
        try clear c15
        try clear c17
        try clear c19
        try clear c28
        try clear c33
        try clear c34
        try clear c35
        try clear c36
        try clear c45
        try clear c46
        try clear c47
        try clear c52
        try clear c61
        try clear hcz19_0
        try clear hcz19_1
        try clear hcz29_0
        try clear hcz29_1
        try clear hcz31_0
        try clear hcz31_1
        try clear hcz37_0
        try clear hcz37_1
        try clear hcz40_0
        try clear hcz40_1
        try clear hcz48_0
        try clear hcz48_1
        try clear hcz50_0
        try clear hcz50_1
        try clear hcz8_0
        try clear hcz8_1
        try clear hfz19_0
        try clear hfz19_1
        try clear hfz29_0
        try clear hfz29_1
        try clear hfz31_0
        try clear hfz31_1
        try clear hfz37_0
        try clear hfz37_1
        try clear hfz40_0
        try clear hfz40_1
        try clear hfz48_0
        try clear hfz48_1
        try clear hfz50_0
        try clear hfz50_1
        try clear hfz8_0
        try clear hfz8_1
        try clear p2
        obtain ⟨kq, HA, HJ54, HO_8, HO_236000, HO_236001, HO_243000, HO_243001, HO_253000, HO_253001, BK218, BK235, BK242, BK252, HB⟩ := hcut
        cases kq with
        | zero => exact absurd HA.out (by simp [laws_FnExactFall.j3])
        | succ kj54 =>
         have H := HA.out
         clear HA
         simp only [laws_FnExactFall.j3] at H
         replace H := Option.bind_eq_some_iff.mp H
         obtain ⟨t261, A620, H⟩ := H
         replace H : ((laws_eqBoolS.f kj54 t243 t261).bind fun t264 => (if t264 = true then (laws_FnExactFall.j4 kj54 l1 t243 l0_0 l0_1 t229 t232 t236 t239 t246 t249) else (some false))) = some r := H
         have A62 := Aside0.mk A620
         clear A620
         replace H := Option.bind_eq_some_iff.mp H
         obtain ⟨t264, A630, H⟩ := H
         replace H : (if t264 = true then (laws_FnExactFall.j4 kj54 l1 t243 l0_0 l0_1 t229 t232 t236 t239 t246 t249) else (some false)) = some r := H
         have A63 := Aside0.mk A630
         clear A630
         have HC64 := Aside0.mk H
         clear H
         go_upto_if 47 with (first | ((with_reducible refine gate_callee (f := 34) rfl ?_); refine goesL_ (some 45) rfl rfl Try.func34 (by kernel_rfl) rfl #[.slice A1 l1.length c1] rfl (by (try simp only [List.map_toArray, List.map_cons, List.map_nil]); first | done | rfl | (simp only [List.length_drop, List.length_take]; rfl)) ?_; (with_reducible refine (laws_toBoolS.calls kj54 _ _ l1 t261 _ ?side1 ?side2 A62.out).mono ?_); (case side1 => repeat (first | exact (Kd.C_below HR1.out HB.out) | (with_reducible refine Kd.C_alloc ?_ _) | (with_reducible refine Kd.C_drewN ?_ _) | (with_reducible refine Kd.C_drew ?_))); (case side2 => exact HC1.out); rintro e w65 ⟨v262, rfl, ho0, hb⟩; refine ⟨_, rfl, ?_⟩; have n0_ := Aside0.mk (Kd.R_elder' (by (with_reducible repeat (first | apply Kd.R_alloc | apply Kd.R_drewN | apply Kd.R_drew)); exact HO_8.out) (Kd.R_base ho0) hb); have n1_ := Aside0.mk (Kd.R_below (by (with_reducible repeat (first | apply Kd.R_alloc | apply Kd.R_drewN | apply Kd.R_drew)); exact HO_236000.out) hb); have n2_ := Aside0.mk (Kd.R_below (by (with_reducible repeat (first | apply Kd.R_alloc | apply Kd.R_drewN | apply Kd.R_drew)); exact HO_236001.out) hb); have n3_ := Aside0.mk (Kd.R_below (by (with_reducible repeat (first | apply Kd.R_alloc | apply Kd.R_drewN | apply Kd.R_drew)); exact HO_243000.out) hb); have n4_ := Aside0.mk (Kd.R_below (by (with_reducible repeat (first | apply Kd.R_alloc | apply Kd.R_drewN | apply Kd.R_drew)); exact HO_243001.out) hb); have n5_ := Aside0.mk (Kd.R_below (by (with_reducible repeat (first | apply Kd.R_alloc | apply Kd.R_drewN | apply Kd.R_drew)); exact HO_253000.out) hb); have n6_ := Aside0.mk (Kd.R_below (by (with_reducible repeat (first | apply Kd.R_alloc | apply Kd.R_drewN | apply Kd.R_drew)); exact HO_253001.out) hb); have n7_ := Aside0.mk (Kd.R_lower (Kd.R_new' ho0 (Kd.R_lt (by (with_reducible repeat (first | apply Kd.R_alloc | apply Kd.R_drewN | apply Kd.R_drew)); exact HO_8.out))) (below_size (by repeat (first | (with_reducible first | exact HB.out | apply below_alloc | apply pw_below_drewN | apply below_drew1 | refine below_set ?_ GE218.out | refine below_set ?_ GE235.out | refine below_set ?_ GE242.out | refine below_set ?_ GE252.out) | exact HB.out)))); have n8_ := Aside0.mk (blk_below (g := gb218) (o := _) (by (with_reducible repeat (first | apply bN | apply bD | apply bA)); exact BK218.out) hb); have n9_ := Aside0.mk (blk_below (g := gb235) (o := _) (by (with_reducible repeat (first | apply bN | apply bD | apply bA)); exact BK235.out) hb); have n10_ := Aside0.mk (blk_below (g := gb242) (o := _) (by (with_reducible repeat (first | apply bN | apply bD | apply bA)); exact BK242.out) hb); have n11_ := Aside0.mk (blk_below (g := gb252) (o := _) (by (with_reducible repeat (first | apply bN | apply bD | apply bA)); exact BK252.out) hb); have n12_ := Aside0.mk (below_step (by repeat (first | (with_reducible first | exact HB.out | apply below_alloc | apply pw_below_drewN | apply below_drew1 | refine below_set ?_ GE218.out | refine below_set ?_ GE235.out | refine below_set ?_ GE242.out | refine below_set ?_ GE252.out) | exact HB.out)) hb); clear HO_8; clear HO_236000; clear HO_236001; clear HO_243000; clear HO_243001; clear HO_253000; clear HO_253001; clear BK218; clear BK235; clear BK242; clear BK252; clear HB; have HO_8 := n0_; have HO_236000 := n1_; have HO_236001 := n2_; have HO_243000 := n3_; have HO_243001 := n4_; have HO_253000 := n5_; have HO_253001 := n6_; have HO263 := n7_; have BK218 := n8_; have BK235 := n9_; have BK242 := n10_; have BK252 := n11_; have HB := n12_; clear n0_ n1_ n2_ n3_ n4_ n5_ n6_ n7_ n8_ n9_ n10_ n11_ n12_; (try clear hb); (try clear hb2); (try clear hk); (try clear hi); (try clear ho0); obtain ⟨Ao66, co66, eo66⟩ := Kd.R_slice HO263.out; subst eo66) | ((with_reducible refine gate_callee (f := 36) rfl ?_); refine goesL_ (some 46) rfl rfl Try.func36 (by kernel_rfl) rfl #[.slice Ao41 t243.length co41, .slice Ao66 t261.length co66] rfl (by (try simp only [List.map_toArray, List.map_cons, List.map_nil]); first | done | rfl | (simp only [List.length_drop, List.length_take]; rfl)) ?_; (with_reducible refine (laws_eqBoolS.calls kj54 _ _ t243 _ _ t261 t264 _ ?side1 ?side2 ?side3 ?side4 A63.out).mono ?_); (case side1 => repeat (first | exact (Kd.R_reads' HO_8.out).2.2 | (with_reducible refine Kd.C_alloc ?_ _) | (with_reducible refine Kd.C_drewN ?_ _) | (with_reducible refine Kd.C_drew ?_))); (case side2 => exact (Kd.R_reads' HO_8.out).2.1); (case side3 => repeat (first | exact (Kd.R_reads' HO263.out).2.2 | (with_reducible refine Kd.C_alloc ?_ _) | (with_reducible refine Kd.C_drewN ?_ _) | (with_reducible refine Kd.C_drew ?_))); (case side4 => exact (Kd.R_reads' HO263.out).2.1); rintro e w' ⟨rfl, ⟨nd, rfl⟩⟩; refine ⟨_, rfl, ?_⟩))
         (try simp only [Act.put, List.setIfInBounds_toArray, List.set_cons_zero, List.set_cons_succ])
         go_cut [] (fun wc => ∃ (kq : Nat), Aside0 (laws_FnExactFall.j4 kq l1 t243 l0_0 l0_1 t229 t232 t236 t239 t246 t249 = some r) ∧ Aside0 (kq ≤ kj54) ∧ Aside0 (Kd.R Kd.bool 4 wc w.heap.size (fun _ => True) (.slice Ao41 t243.length co41) t243) ∧ Aside0 (Kd.R Kd.string 9 wc w.heap.size (fun k_ => some k_ ≠ ((.slice Ao34 t236.length co34) : Value).ownBlock ∧ some k_ ≠ ((.slice Ao44 t246.length co44) : Value).ownBlock) (.slice Ao27 t229.length co27) t229) ∧ Aside0 (Kd.R k65 65 wc w.heap.size (fun k_ => some k_ ≠ ((.slice Ao38 t239.length co38) : Value).ownBlock ∧ some k_ ≠ ((.slice Ao49 t249.length co49) : Value).ownBlock) (.slice Ao30 t232.length co30) t232) ∧ Aside0 (Kd.R Kd.string 9 wc w.heap.size (fun k_ => some k_ ≠ ((.slice Ao27 t229.length co27) : Value).ownBlock ∧ some k_ ≠ ((.slice Ao44 t246.length co44) : Value).ownBlock) (.slice Ao34 t236.length co34) t236) ∧ Aside0 (Kd.R k65 65 wc w.heap.size (fun k_ => some k_ ≠ ((.slice Ao30 t232.length co30) : Value).ownBlock ∧ some k_ ≠ ((.slice Ao49 t249.length co49) : Value).ownBlock) (.slice Ao38 t239.length co38) t239) ∧ Aside0 (Kd.R Kd.string 9 wc w.heap.size (fun k_ => some k_ ≠ ((.slice Ao27 t229.length co27) : Value).ownBlock ∧ some k_ ≠ ((.slice Ao34 t236.length co34) : Value).ownBlock) (.slice Ao44 t246.length co44) t246) ∧ Aside0 (Kd.R k65 65 wc w.heap.size (fun k_ => some k_ ≠ ((.slice Ao30 t232.length co30) : Value).ownBlock ∧ some k_ ≠ ((.slice Ao38 t239.length co38) : Value).ownBlock) (.slice Ao49 t249.length co49) t249) ∧ Aside0 (wc.heap[gb218]? = some (.cells #[(.slice A0_0 l0_0.length c0_0), (.slice A0_1 l0_1.length c0_1)] 25 (0, 0))) ∧ Aside0 (wc.heap[gb235]? = some (.cells #[(.slice Ao27 t229.length co27), (.slice Ao30 t232.length co30)] 30 (0, 0))) ∧ Aside0 (wc.heap[gb242]? = some (.cells #[(.slice Ao34 t236.length co34), (.slice Ao38 t239.length co38)] 30 (0, 0))) ∧ Aside0 (wc.heap[gb252]? = some (.cells #[(.slice Ao44 t246.length co44), (.slice Ao49 t249.length co49)] 30 (0, 0))) ∧ Aside0 (Below w.heap.size w wc))
         case first =>
          have H := HC64.out
          clear HC64
          by_cases c67 : t264 = true
          ·subst c67
           have H1 : (laws_FnExactFall.j4 kj54 l1 t243 l0_0 l0_1 t229 t232 t236 t239 t246 t249) = some r := by rw [if_pos rfl] at H; exact H
           clear H
           have H := H1
           clear H1
           have H' := Aside0.mk H
           clear H
           go_wp2
           go_meet
           case rel => exact ⟨_, H', ⟨by have := HJ2.out; have := HJ6.out; have := HJ17.out; have := HJ54.out; first | omega | exact Nat.le_refl _⟩, ⟨by (with_reducible repeat (first | apply Kd.R_alloc | apply Kd.R_drewN | apply Kd.R_drew)); exact Kd.R_mono HO_8.out (fun _ hk => trivial)⟩, ⟨by (with_reducible repeat (first | apply Kd.R_alloc | apply Kd.R_drewN | apply Kd.R_drew)); exact HO_236000.out⟩, ⟨by (with_reducible repeat (first | apply Kd.R_alloc | apply Kd.R_drewN | apply Kd.R_drew)); exact HO_236001.out⟩, ⟨by (with_reducible repeat (first | apply Kd.R_alloc | apply Kd.R_drewN | apply Kd.R_drew)); exact HO_243000.out⟩, ⟨by (with_reducible repeat (first | apply Kd.R_alloc | apply Kd.R_drewN | apply Kd.R_drew)); exact HO_243001.out⟩, ⟨by (with_reducible repeat (first | apply Kd.R_alloc | apply Kd.R_drewN | apply Kd.R_drew)); exact HO_253000.out⟩, ⟨by (with_reducible repeat (first | apply Kd.R_alloc | apply Kd.R_drewN | apply Kd.R_drew)); exact HO_253001.out⟩, ⟨by (with_reducible repeat (first | apply bN | apply bD | apply bA)); exact BK218.out⟩, ⟨by (with_reducible repeat (first | apply bN | apply bD | apply bA)); exact BK235.out⟩, ⟨by (with_reducible repeat (first | apply bN | apply bD | apply bA)); exact BK242.out⟩, ⟨by (with_reducible repeat (first | apply bN | apply bD | apply bA)); exact BK252.out⟩, ⟨by repeat (first | (with_reducible first | exact HB.out | apply below_alloc | apply pw_below_drewN | apply below_drew1 | refine below_set ?_ GE218.out | refine below_set ?_ GE235.out | refine below_set ?_ GE242.out | refine below_set ?_ GE252.out) | exact HB.out)⟩⟩
          ·replace c67 := Bool.eq_false_iff.mpr c67
           subst c67
           have H1 : (some false) = some r := by rw [if_neg (show ¬ (false = true) by decide)] at H; exact H
           clear H
           have H := H1
           clear H1
           obtain rfl := Option.some.inj H
           go_wp2
           go_ret
           exact ⟨by first | rfl | (simp [errW_none, errW_some] <;> rfl) | (simp [*, errW_none, errW_some] <;> rfl), by repeat (first | (with_reducible first | exact HB.out | apply below_alloc | apply pw_below_drewN | apply below_drew1 | refine below_set ?_ GE218.out | refine below_set ?_ GE235.out | refine below_set ?_ GE242.out | refine below_set ?_ GE252.out) | exact HB.out)⟩
         case rest =>
          clear HC64
          try clear c1
          try clear c2
          try clear p2
          try clear c3
          try clear c4
          try clear c5
          try clear c5b0
          try clear c5b1
          try clear c5b2
          try clear c6
          try clear c8
          try clear c10
          try clear c10b0
          try clear c10b1
          try clear c10b2
          try clear c15
          try clear c17
          try clear c19
          try clear c28
          try clear c33
          try clear c34
          try clear c35
          try clear c36
          try clear c45
          try clear c46
          try clear c47
          try clear c52
          try clear c61
          try clear c67
          try clear hcz19_0
          try clear hcz19_1
          try clear hcz29_0
          try clear hcz29_1
          try clear hcz31_0
          try clear hcz31_1
          try clear hcz37_0
          try clear hcz37_1
          try clear hcz40_0
          try clear hcz40_1
          try clear hcz48_0
          try clear hcz48_1
          try clear hcz50_0
          try clear hcz50_1
          try clear hcz8_0
          try clear hcz8_1
          try clear hfz19_0
          try clear hfz19_1
          try clear hfz29_0
          try clear hfz29_1
          try clear hfz31_0
          try clear hfz31_1
          try clear hfz37_0
          try clear hfz37_1
          try clear hfz40_0
          try clear hfz40_1
          try clear hfz48_0
          try clear hfz48_1
          try clear hfz50_0
          try clear hfz50_1
          try clear hfz8_0
          try clear hfz8_1
          try clear p2
          obtain ⟨kq, HA, HJ63, HO_8, HO_236000, HO_236001, HO_243000, HO_243001, HO_253000, HO_253001, BK218, BK235, BK242, BK252, HB⟩ := hcut
          cases kq with
          | zero => exact absurd HA.out (by simp [laws_FnExactFall.j4])
          | succ kj63 =>
           have H := HA.out
           clear HA
           simp only [laws_FnExactFall.j4] at H
           replace H := Option.bind_eq_some_iff.mp H
           obtain ⟨⟨t265, t266, t267⟩, A680, H⟩ := H
           replace H : ((laws_markBoolS.f kj63 t243 t265).bind fun bt268 => (if bt268.1 < 0 then (laws_FnExactFall.j5 kj63 l1 true l0_0 l0_1 t229 t232 t246 t249) else ((laws_eqDisk.f kj63 t246 t249 t229 t232).bind fun t270 => (laws_FnExactFall.j5 kj63 l1 (!t270) l0_0 l0_1 t229 t232 t246 t249)))) = some r := H
           have A68 := Aside0.mk A680
           clear A680
           replace H := Option.bind_eq_some_iff.mp H
           obtain ⟨⟨t268, t269⟩, A690, H⟩ := H
           replace H : (if t268 < 0 then (laws_FnExactFall.j5 kj63 l1 true l0_0 l0_1 t229 t232 t246 t249) else ((laws_eqDisk.f kj63 t246 t249 t229 t232).bind fun t270 => (laws_FnExactFall.j5 kj63 l1 (!t270) l0_0 l0_1 t229 t232 t246 t249))) = some r := H
           have A69 := Aside0.mk A690
           clear A690
           have HC70 := Aside0.mk H
           clear H
           have hnb71 := NB242_218.out
           have hnc71 := NB218_242.out
           have hnb72 := NB242_235.out
           have hnc72 := NB235_242.out
           have hnb73 := NB242_252.out
           have hnc73 := NB252_242.out
           have hcz74_0 : wc.cell? ⟨gb242, 0, none⟩ = some (.slice Ao34 t236.length co34) := (blk_cell BK242.out 0).trans rfl
           have hcz74_1 : wc.cell? ⟨gb242, 1, none⟩ = some (.slice Ao38 t239.length co38) := (blk_cell BK242.out 1).trans rfl
           have hfz74_0 := blk_frozen BK242.out 0
           have hfz74_1 := blk_frozen BK242.out 1
           go_upto_region 20 with (first | ((with_reducible refine gate_callee (f := 25) rfl ?_); refine goesL_ (some 50) rfl rfl Try.func25 (by kernel_rfl) rfl #[.agg #[.slice Ao34 t236.length co34, .slice Ao38 t239.length co38], .int .i64 1] rfl (by (try simp only [List.map_toArray, List.map_cons, List.map_nil]); first | done | rfl | (simp only [List.length_drop, List.length_take]; rfl)) ?_; (with_reducible refine (laws_markDisk.calls kj63 (fun k_ => some k_ = (.slice Ao34 t236.length co34 : Value).ownBlock) (.slice Ao34 t236.length co34) t236 (fun k_ => some k_ = (.slice Ao38 t239.length co38 : Value).ownBlock) (.slice Ao38 t239.length co38) t239 1 t265 t266 t267 w _ ?side1 ?side2 ?side3 A68.out).mono ?_); (case side1 => repeat (first | (with_reducible first | exact HB.out | apply below_alloc | apply pw_below_drewN | apply below_drew1 | refine below_set ?_ GE218.out | refine below_set ?_ GE235.out | refine below_set ?_ GE242.out | refine below_set ?_ GE252.out) | exact HB.out)); (case side2 => exact Kd.R_tight rfl HO_243000.out); (case side3 => exact Kd.R_tight rfl HO_243001.out); rintro e w75 ⟨rfl, hy0, hy1, hb, hkp⟩; refine ⟨_, rfl, ?_⟩; have n0_ := Aside0.mk (Kd.R_mono (ok' := fun k_ => True) (Kd.R_keptB ((Kd.R_apart' (Kd.R_apart' HO_8.out (Kd.R_typed HO_243000.out) (by decide)) (Kd.R_typed HO_243001.out) (by decide))) hkp (fun k_ hk_ hs_ => Or.elim hs_ (fun e_ => (hk_.1.2) e_) (fun e_ => (hk_.2) e_))) (fun k_ hk_ => trivial)); have n1_ := Aside0.mk (Kd.R_mono (ok' := fun k_ => some k_ ≠ (.slice Ao34 t236.length co34 : Value).ownBlock ∧ some k_ ≠ (.slice Ao44 t246.length co44 : Value).ownBlock) (Kd.R_keptB ((Kd.R_apart' HO_236000.out (Kd.R_typed HO_243001.out) (by decide))) hkp (fun k_ hk_ hs_ => Or.elim hs_ (fun e_ => (hk_.1.1) e_) (fun e_ => (hk_.2) e_))) (fun k_ hk_ => ⟨hk_.1.1.1, hk_.1.1.2⟩)); have n2_ := Aside0.mk (Kd.R_mono (ok' := fun k_ => some k_ ≠ (.slice Ao38 t239.length co38 : Value).ownBlock ∧ some k_ ≠ (.slice Ao49 t249.length co49 : Value).ownBlock) (Kd.R_keptB ((Kd.R_apart' HO_236001.out (Kd.R_typed HO_243000.out) (by decide))) hkp (fun k_ hk_ hs_ => Or.elim hs_ (fun e_ => (hk_.2) e_) (fun e_ => (hk_.1.1) e_))) (fun k_ hk_ => ⟨hk_.1.1.1, hk_.1.1.2⟩)); have n3_ := Aside0.mk (Kd.R_reok rfl hy0 (fun k_ e_ => HO_243000.out.1 k_ e_)); have n4_ := Aside0.mk (Kd.R_reok rfl hy1 (fun k_ e_ => HO_243001.out.1 k_ e_)); have n5_ := Aside0.mk (Kd.R_mono (ok' := fun k_ => some k_ ≠ (.slice Ao27 t229.length co27 : Value).ownBlock ∧ some k_ ≠ (.slice Ao34 t236.length co34 : Value).ownBlock) (Kd.R_keptB ((Kd.R_apart' HO_253000.out (Kd.R_typed HO_243001.out) (by decide))) hkp (fun k_ hk_ hs_ => Or.elim hs_ (fun e_ => (hk_.1.2) e_) (fun e_ => (hk_.2) e_))) (fun k_ hk_ => ⟨hk_.1.1.1, hk_.1.1.2⟩)); have n6_ := Aside0.mk (Kd.R_mono (ok' := fun k_ => some k_ ≠ (.slice Ao30 t232.length co30 : Value).ownBlock ∧ some k_ ≠ (.slice Ao38 t239.length co38 : Value).ownBlock) (Kd.R_keptB ((Kd.R_apart' HO_253001.out (Kd.R_typed HO_243000.out) (by decide))) hkp (fun k_ hk_ hs_ => Or.elim hs_ (fun e_ => (hk_.2) e_) (fun e_ => (hk_.1.2) e_))) (fun k_ hk_ => ⟨hk_.1.1.1, hk_.1.1.2⟩)); have n7_ := Aside0.mk (blk_kept (by (with_reducible repeat (first | apply bN | apply bD | apply bA)); exact BK218.out) hkp (fun hs_ => Or.elim hs_ (fun e_ => (fun e_ => (Kd.R_ne HO_243000.out BK218.out (by decide)) e_) e_) (fun e_ => (fun e_ => (Kd.R_ne HO_243001.out BK218.out (by decide)) e_) e_))); have n8_ := Aside0.mk (blk_kept (by (with_reducible repeat (first | apply bN | apply bD | apply bA)); exact BK235.out) hkp (fun hs_ => Or.elim hs_ (fun e_ => (fun e_ => (Kd.R_ne HO_243000.out BK235.out (by decide)) e_) e_) (fun e_ => (fun e_ => (Kd.R_ne HO_243001.out BK235.out (by decide)) e_) e_))); have n9_ := Aside0.mk (blk_kept (by (with_reducible repeat (first | apply bN | apply bD | apply bA)); exact BK242.out) hkp (fun hs_ => Or.elim hs_ (fun e_ => (fun e_ => (Kd.R_ne HO_243000.out BK242.out (by decide)) e_) e_) (fun e_ => (fun e_ => (Kd.R_ne HO_243001.out BK242.out (by decide)) e_) e_))); have n10_ := Aside0.mk (blk_kept (by (with_reducible repeat (first | apply bN | apply bD | apply bA)); exact BK252.out) hkp (fun hs_ => Or.elim hs_ (fun e_ => (fun e_ => (Kd.R_ne HO_243000.out BK252.out (by decide)) e_) e_) (fun e_ => (fun e_ => (Kd.R_ne HO_243001.out BK252.out (by decide)) e_) e_))); have n11_ := Aside0.mk (hb); clear HO_8; clear HO_236000; clear HO_236001; clear HO_243000; clear HO_243001; clear HO_253000; clear HO_253001; clear BK218; clear BK235; clear BK242; clear BK252; clear HB; have HO_8 := n0_; have HO_236000 := n1_; have HO_236001 := n2_; have HO_243000 := n3_; have HO_243001 := n4_; have HO_253000 := n5_; have HO_253001 := n6_; have BK218 := n7_; have BK235 := n8_; have BK242 := n9_; have BK252 := n10_; have HB := n11_; clear n0_ n1_ n2_ n3_ n4_ n5_ n6_ n7_ n8_ n9_ n10_ n11_; (try clear hb); (try clear hkp); (try clear hy0); (try clear hy1)) | ((with_reducible refine gate_callee (f := 37) rfl ?_); refine goesL_ (some 53) rfl rfl Try.func37 (by kernel_rfl) rfl #[.slice Ao41 t243.length co41, .int .i64 t265] rfl (by (try simp only [List.map_toArray, List.map_cons, List.map_nil]); first | done | rfl | (simp only [List.length_drop, List.length_take]; rfl)) ?_; (with_reducible refine (laws_markBoolS.calls kj63 (fun k_ => some k_ = (.slice Ao41 t243.length co41 : Value).ownBlock) (.slice Ao41 t243.length co41) t243 t265 t268 t269 w _ ?side1 ?side2 A69.out).mono ?_); (case side1 => repeat (first | (with_reducible first | exact HB.out | apply below_alloc | apply pw_below_drewN | apply below_drew1 | refine below_set ?_ GE218.out | refine below_set ?_ GE235.out | refine below_set ?_ GE242.out | refine below_set ?_ GE252.out) | exact HB.out)); (case side2 => exact Kd.R_tight rfl HO_8.out); rintro e w76 ⟨rfl, hy0, hb, hkp⟩; refine ⟨_, rfl, ?_⟩; have n0_ := Aside0.mk (Kd.R_reok rfl hy0 (fun k_ e_ => HO_8.out.1 k_ e_)); have n1_ := Aside0.mk (Kd.R_mono (ok' := fun k_ => some k_ ≠ (.slice Ao34 t236.length co34 : Value).ownBlock ∧ some k_ ≠ (.slice Ao44 t246.length co44 : Value).ownBlock) (Kd.R_keptB ((Kd.R_apart' HO_236000.out (Kd.R_typed HO_8.out) (by decide))) hkp (fun k_ hk_ hs_ => (hk_.2) hs_)) (fun k_ hk_ => ⟨hk_.1.1.1, hk_.1.1.2⟩)); have n2_ := Aside0.mk (Kd.R_mono (ok' := fun k_ => some k_ ≠ (.slice Ao38 t239.length co38 : Value).ownBlock ∧ some k_ ≠ (.slice Ao49 t249.length co49 : Value).ownBlock) (Kd.R_keptB ((Kd.R_apart' HO_236001.out (Kd.R_typed HO_8.out) (by decide))) hkp (fun k_ hk_ hs_ => (hk_.2) hs_)) (fun k_ hk_ => ⟨hk_.1.1.1, hk_.1.1.2⟩)); have n3_ := Aside0.mk (Kd.R_mono (ok' := fun k_ => some k_ ≠ (.slice Ao27 t229.length co27 : Value).ownBlock ∧ some k_ ≠ (.slice Ao44 t246.length co44 : Value).ownBlock) (Kd.R_keptB ((Kd.R_apart' HO_243000.out (Kd.R_typed HO_8.out) (by decide))) hkp (fun k_ hk_ hs_ => (hk_.2) hs_)) (fun k_ hk_ => ⟨hk_.1.1.1, hk_.1.1.2⟩)); have n4_ := Aside0.mk (Kd.R_mono (ok' := fun k_ => some k_ ≠ (.slice Ao30 t232.length co30 : Value).ownBlock ∧ some k_ ≠ (.slice Ao49 t249.length co49 : Value).ownBlock) (Kd.R_keptB ((Kd.R_apart' HO_243001.out (Kd.R_typed HO_8.out) (by decide))) hkp (fun k_ hk_ hs_ => (hk_.2) hs_)) (fun k_ hk_ => ⟨hk_.1.1.1, hk_.1.1.2⟩)); have n5_ := Aside0.mk (Kd.R_mono (ok' := fun k_ => some k_ ≠ (.slice Ao27 t229.length co27 : Value).ownBlock ∧ some k_ ≠ (.slice Ao34 t236.length co34 : Value).ownBlock) (Kd.R_keptB ((Kd.R_apart' HO_253000.out (Kd.R_typed HO_8.out) (by decide))) hkp (fun k_ hk_ hs_ => (hk_.2) hs_)) (fun k_ hk_ => ⟨hk_.1.1.1, hk_.1.1.2⟩)); have n6_ := Aside0.mk (Kd.R_mono (ok' := fun k_ => some k_ ≠ (.slice Ao30 t232.length co30 : Value).ownBlock ∧ some k_ ≠ (.slice Ao38 t239.length co38 : Value).ownBlock) (Kd.R_keptB ((Kd.R_apart' HO_253001.out (Kd.R_typed HO_8.out) (by decide))) hkp (fun k_ hk_ hs_ => (hk_.2) hs_)) (fun k_ hk_ => ⟨hk_.1.1.1, hk_.1.1.2⟩)); have n7_ := Aside0.mk (blk_kept (by (with_reducible repeat (first | apply bN | apply bD | apply bA)); exact BK218.out) hkp (fun hs_ => (fun e_ => (Kd.R_ne HO_8.out BK218.out (by decide)) e_) hs_)); have n8_ := Aside0.mk (blk_kept (by (with_reducible repeat (first | apply bN | apply bD | apply bA)); exact BK235.out) hkp (fun hs_ => (fun e_ => (Kd.R_ne HO_8.out BK235.out (by decide)) e_) hs_)); have n9_ := Aside0.mk (blk_kept (by (with_reducible repeat (first | apply bN | apply bD | apply bA)); exact BK242.out) hkp (fun hs_ => (fun e_ => (Kd.R_ne HO_8.out BK242.out (by decide)) e_) hs_)); have n10_ := Aside0.mk (blk_kept (by (with_reducible repeat (first | apply bN | apply bD | apply bA)); exact BK252.out) hkp (fun hs_ => (fun e_ => (Kd.R_ne HO_8.out BK252.out (by decide)) e_) hs_)); have n11_ := Aside0.mk (hb); clear HO_8; clear HO_236000; clear HO_236001; clear HO_243000; clear HO_243001; clear HO_253000; clear HO_253001; clear BK218; clear BK235; clear BK242; clear BK252; clear HB; have HO_8 := n0_; have HO_236000 := n1_; have HO_236001 := n2_; have HO_243000 := n3_; have HO_243001 := n4_; have HO_253000 := n5_; have HO_253001 := n6_; have BK218 := n7_; have BK235 := n8_; have BK242 := n9_; have BK252 := n10_; have HB := n11_; clear n0_ n1_ n2_ n3_ n4_ n5_ n6_ n7_ n8_ n9_ n10_ n11_; (try clear hb); (try clear hkp); (try clear hy0)))
           (try simp only [Act.put, List.setIfInBounds_toArray, List.set_cons_zero, List.set_cons_succ])
           go_cut [61] (fun v61 wc => ∃ (kq : Nat) (x61_69 : Bool), v61 = .bool x61_69 ∧ Aside0 (laws_FnExactFall.j5 kq l1 x61_69 l0_0 l0_1 t229 t232 t246 t249 = some r) ∧ Aside0 (kq ≤ kj63) ∧ Aside0 (Kd.R Kd.string 9 wc w.heap.size (fun k_ => some k_ ≠ ((.slice Ao34 t236.length co34) : Value).ownBlock ∧ some k_ ≠ ((.slice Ao44 t246.length co44) : Value).ownBlock) (.slice Ao27 t229.length co27) t229) ∧ Aside0 (Kd.R k65 65 wc w.heap.size (fun k_ => some k_ ≠ ((.slice Ao38 t239.length co38) : Value).ownBlock ∧ some k_ ≠ ((.slice Ao49 t249.length co49) : Value).ownBlock) (.slice Ao30 t232.length co30) t232) ∧ Aside0 (Kd.R Kd.string 9 wc w.heap.size (fun k_ => some k_ ≠ ((.slice Ao27 t229.length co27) : Value).ownBlock ∧ some k_ ≠ ((.slice Ao44 t246.length co44) : Value).ownBlock) (.slice Ao34 t236.length co34) t266) ∧ Aside0 (Kd.R k65 65 wc w.heap.size (fun k_ => some k_ ≠ ((.slice Ao30 t232.length co30) : Value).ownBlock ∧ some k_ ≠ ((.slice Ao49 t249.length co49) : Value).ownBlock) (.slice Ao38 t239.length co38) t267) ∧ Aside0 (Kd.R Kd.string 9 wc w.heap.size (fun k_ => some k_ ≠ ((.slice Ao27 t229.length co27) : Value).ownBlock ∧ some k_ ≠ ((.slice Ao34 t236.length co34) : Value).ownBlock) (.slice Ao44 t246.length co44) t246) ∧ Aside0 (Kd.R k65 65 wc w.heap.size (fun k_ => some k_ ≠ ((.slice Ao30 t232.length co30) : Value).ownBlock ∧ some k_ ≠ ((.slice Ao38 t239.length co38) : Value).ownBlock) (.slice Ao49 t249.length co49) t249) ∧ Aside0 (wc.heap[gb218]? = some (.cells #[(.slice A0_0 l0_0.length c0_0), (.slice A0_1 l0_1.length c0_1)] 25 (0, 0))) ∧ Aside0 (wc.heap[gb235]? = some (.cells #[(.slice Ao27 t229.length co27), (.slice Ao30 t232.length co30)] 30 (0, 0))) ∧ Aside0 (wc.heap[gb242]? = some (.cells #[(.slice Ao34 t236.length co34), (.slice Ao38 t239.length co38)] 30 (0, 0))) ∧ Aside0 (wc.heap[gb252]? = some (.cells #[(.slice Ao44 t246.length co44), (.slice Ao49 t249.length co49)] 30 (0, 0))) ∧ Aside0 (Below w.heap.size w wc))
           case first =>
            have H := HC70.out
            clear HC70
            by_cases c77 : t268 < 0
            ·rw [if_pos c77] at H
             have c77b0 : decide (t268 < 0) = true := decide_eq_true c77
             clear c77
             (first | rw [c77b0] | (simp only [i64_w, i32_w]; rw [c77b0]) | rw [c77b1] | rw [c77b2] | skip)
             have H' := Aside0.mk H
             clear H
             go_wp2
             go_meet
             case rel => exact ⟨_, (true), (by first | rfl | (simp; done) | (simp [*]; done) | (simp; exact (by intro l_; cases l_ <;> rfl : ∀ l_ : List UInt8, l_.isEmpty = !(l_ != [])) _)), H', ⟨by have := HJ2.out; have := HJ6.out; have := HJ17.out; have := HJ54.out; have := HJ63.out; first | omega | exact Nat.le_refl _⟩, ⟨by (with_reducible repeat (first | apply Kd.R_alloc | apply Kd.R_drewN | apply Kd.R_drew)); exact HO_236000.out⟩, ⟨by (with_reducible repeat (first | apply Kd.R_alloc | apply Kd.R_drewN | apply Kd.R_drew)); exact HO_236001.out⟩, ⟨by (with_reducible repeat (first | apply Kd.R_alloc | apply Kd.R_drewN | apply Kd.R_drew)); exact HO_243000.out⟩, ⟨by (with_reducible repeat (first | apply Kd.R_alloc | apply Kd.R_drewN | apply Kd.R_drew)); exact HO_243001.out⟩, ⟨by (with_reducible repeat (first | apply Kd.R_alloc | apply Kd.R_drewN | apply Kd.R_drew)); exact HO_253000.out⟩, ⟨by (with_reducible repeat (first | apply Kd.R_alloc | apply Kd.R_drewN | apply Kd.R_drew)); exact HO_253001.out⟩, ⟨by (with_reducible repeat (first | apply bN | apply bD | apply bA)); exact BK218.out⟩, ⟨by (with_reducible repeat (first | apply bN | apply bD | apply bA)); exact BK235.out⟩, ⟨by (with_reducible repeat (first | apply bN | apply bD | apply bA)); exact BK242.out⟩, ⟨by (with_reducible repeat (first | apply bN | apply bD | apply bA)); exact BK252.out⟩, ⟨by repeat (first | (with_reducible first | exact HB.out | apply below_alloc | apply pw_below_drewN | apply below_drew1 | refine below_set ?_ GE218.out | refine below_set ?_ GE235.out | refine below_set ?_ GE242.out | refine below_set ?_ GE252.out) | exact HB.out)⟩⟩
            ·rw [if_neg c77] at H
             have c77b0 : decide (t268 < 0) = false := decide_eq_false c77
             clear c77
             (first | rw [c77b0] | (simp only [i64_w, i32_w]; rw [c77b0]) | rw [c77b1] | rw [c77b2] | skip)
             replace H := Option.bind_eq_some_iff.mp H
             obtain ⟨t270, A780, H⟩ := H
             replace H : (laws_FnExactFall.j5 kj63 l1 (!t270) l0_0 l0_1 t229 t232 t246 t249) = some r := H
             have A78 := Aside0.mk A780
             clear A780
             have H' := Aside0.mk H
             clear H
             have hnb79 := NB252_218.out
             have hnc79 := NB218_252.out
             have hnb80 := NB252_235.out
             have hnc80 := NB235_252.out
             have hnb81 := NB252_242.out
             have hnc81 := NB242_252.out
             have hcz82_0 : w76.cell? ⟨gb252, 0, none⟩ = some (.slice Ao44 t246.length co44) := (blk_cell BK252.out 0).trans rfl
             have hcz82_1 : w76.cell? ⟨gb252, 1, none⟩ = some (.slice Ao49 t249.length co49) := (blk_cell BK252.out 1).trans rfl
             have hfz82_0 := blk_frozen BK252.out 0
             have hfz82_1 := blk_frozen BK252.out 1
             have hnb83 := NB235_218.out
             have hnc83 := NB218_235.out
             have hnb84 := NB235_242.out
             have hnc84 := NB242_235.out
             have hcz85_0 : w76.cell? ⟨gb235, 0, none⟩ = some (.slice Ao27 t229.length co27) := (blk_cell BK235.out 0).trans rfl
             have hcz85_1 : w76.cell? ⟨gb235, 1, none⟩ = some (.slice Ao30 t232.length co30) := (blk_cell BK235.out 1).trans rfl
             have hfz85_0 := blk_frozen BK235.out 0
             have hfz85_1 := blk_frozen BK235.out 1
             go_wp2_with (first | (go_at_call 19; (with_reducible refine (laws_eqDisk.calls kj63 _ _ t246 _ _ t249 _ _ t229 _ _ t232 t270 _ ?side1 ?side2 ?side3 ?side4 ?side5 ?side6 ?side7 ?side8 A78.out).mono ?_); (case side1 => repeat (first | exact (Kd.R_reads' HO_253000.out).2.2 | (with_reducible refine Kd.C_alloc ?_ _) | (with_reducible refine Kd.C_drewN ?_ _) | (with_reducible refine Kd.C_drew ?_))); (case side2 => exact (Kd.R_reads' HO_253000.out).2.1); (case side3 => repeat (first | exact (Kd.R_reads' HO_253001.out).2.2 | (with_reducible refine Kd.C_alloc ?_ _) | (with_reducible refine Kd.C_drewN ?_ _) | (with_reducible refine Kd.C_drew ?_))); (case side4 => exact (Kd.R_reads' HO_253001.out).2.1); (case side5 => repeat (first | exact (Kd.R_reads' HO_236000.out).2.2 | (with_reducible refine Kd.C_alloc ?_ _) | (with_reducible refine Kd.C_drewN ?_ _) | (with_reducible refine Kd.C_drew ?_))); (case side6 => exact (Kd.R_reads' HO_236000.out).2.1); (case side7 => repeat (first | exact (Kd.R_reads' HO_236001.out).2.2 | (with_reducible refine Kd.C_alloc ?_ _) | (with_reducible refine Kd.C_drewN ?_ _) | (with_reducible refine Kd.C_drew ?_))); (case side8 => exact (Kd.R_reads' HO_236001.out).2.1); rintro e w86 ⟨rfl, hb⟩; have n0_ := Aside0.mk (Kd.R_below (by (with_reducible repeat (first | apply Kd.R_alloc | apply Kd.R_drewN | apply Kd.R_drew)); exact HO_8.out) hb); have n1_ := Aside0.mk (Kd.R_below (by (with_reducible repeat (first | apply Kd.R_alloc | apply Kd.R_drewN | apply Kd.R_drew)); exact HO_236000.out) hb); have n2_ := Aside0.mk (Kd.R_below (by (with_reducible repeat (first | apply Kd.R_alloc | apply Kd.R_drewN | apply Kd.R_drew)); exact HO_236001.out) hb); have n3_ := Aside0.mk (Kd.R_below (by (with_reducible repeat (first | apply Kd.R_alloc | apply Kd.R_drewN | apply Kd.R_drew)); exact HO_243000.out) hb); have n4_ := Aside0.mk (Kd.R_below (by (with_reducible repeat (first | apply Kd.R_alloc | apply Kd.R_drewN | apply Kd.R_drew)); exact HO_243001.out) hb); have n5_ := Aside0.mk (Kd.R_below (by (with_reducible repeat (first | apply Kd.R_alloc | apply Kd.R_drewN | apply Kd.R_drew)); exact HO_253000.out) hb); have n6_ := Aside0.mk (Kd.R_below (by (with_reducible repeat (first | apply Kd.R_alloc | apply Kd.R_drewN | apply Kd.R_drew)); exact HO_253001.out) hb); have n7_ := Aside0.mk (blk_below (g := gb218) (o := _) (by (with_reducible repeat (first | apply bN | apply bD | apply bA)); exact BK218.out) hb); have n8_ := Aside0.mk (blk_below (g := gb235) (o := _) (by (with_reducible repeat (first | apply bN | apply bD | apply bA)); exact BK235.out) hb); have n9_ := Aside0.mk (blk_below (g := gb242) (o := _) (by (with_reducible repeat (first | apply bN | apply bD | apply bA)); exact BK242.out) hb); have n10_ := Aside0.mk (blk_below (g := gb252) (o := _) (by (with_reducible repeat (first | apply bN | apply bD | apply bA)); exact BK252.out) hb); have n11_ := Aside0.mk (below_step (by repeat (first | (with_reducible first | exact HB.out | apply below_alloc | apply pw_below_drewN | apply below_drew1 | refine below_set ?_ GE218.out | refine below_set ?_ GE235.out | refine below_set ?_ GE242.out | refine below_set ?_ GE252.out) | exact HB.out)) hb); clear HO_8; clear HO_236000; clear HO_236001; clear HO_243000; clear HO_243001; clear HO_253000; clear HO_253001; clear BK218; clear BK235; clear BK242; clear BK252; clear HB; have HO_8 := n0_; have HO_236000 := n1_; have HO_236001 := n2_; have HO_243000 := n3_; have HO_243001 := n4_; have HO_253000 := n5_; have HO_253001 := n6_; have BK218 := n7_; have BK235 := n8_; have BK242 := n9_; have BK252 := n10_; have HB := n11_; clear n0_ n1_ n2_ n3_ n4_ n5_ n6_ n7_ n8_ n9_ n10_ n11_; (try clear hb); (try clear hb2); (try clear hk); (try clear hi)))
             go_meet
             case rel => exact ⟨_, (!t270), (by first | rfl | (simp; done) | (simp [*]; done) | (simp; exact (by intro l_; cases l_ <;> rfl : ∀ l_ : List UInt8, l_.isEmpty = !(l_ != [])) _)), H', ⟨by have := HJ2.out; have := HJ6.out; have := HJ17.out; have := HJ54.out; have := HJ63.out; first | omega | exact Nat.le_refl _⟩, ⟨by (with_reducible repeat (first | apply Kd.R_alloc | apply Kd.R_drewN | apply Kd.R_drew)); exact HO_236000.out⟩, ⟨by (with_reducible repeat (first | apply Kd.R_alloc | apply Kd.R_drewN | apply Kd.R_drew)); exact HO_236001.out⟩, ⟨by (with_reducible repeat (first | apply Kd.R_alloc | apply Kd.R_drewN | apply Kd.R_drew)); exact HO_243000.out⟩, ⟨by (with_reducible repeat (first | apply Kd.R_alloc | apply Kd.R_drewN | apply Kd.R_drew)); exact HO_243001.out⟩, ⟨by (with_reducible repeat (first | apply Kd.R_alloc | apply Kd.R_drewN | apply Kd.R_drew)); exact HO_253000.out⟩, ⟨by (with_reducible repeat (first | apply Kd.R_alloc | apply Kd.R_drewN | apply Kd.R_drew)); exact HO_253001.out⟩, ⟨by (with_reducible repeat (first | apply bN | apply bD | apply bA)); exact BK218.out⟩, ⟨by (with_reducible repeat (first | apply bN | apply bD | apply bA)); exact BK235.out⟩, ⟨by (with_reducible repeat (first | apply bN | apply bD | apply bA)); exact BK242.out⟩, ⟨by (with_reducible repeat (first | apply bN | apply bD | apply bA)); exact BK252.out⟩, ⟨by repeat (first | (with_reducible first | exact HB.out | apply below_alloc | apply pw_below_drewN | apply below_drew1 | refine below_set ?_ GE218.out | refine below_set ?_ GE235.out | refine below_set ?_ GE242.out | refine below_set ?_ GE252.out) | exact HB.out)⟩⟩
           case rest =>
            clear HC70
            try clear c1
            try clear c2
            try clear p2
            try clear c3
            try clear c4
            try clear c5
            try clear c5b0
            try clear c5b1
            try clear c5b2
            try clear c6
            try clear c7
            try clear c8
            try clear c10
            try clear c10b0
            try clear c10b1
            try clear c10b2
            try clear c15
            try clear c17
            try clear c19
            try clear c25
            try clear c28
            try clear c33
            try clear c34
            try clear c35
            try clear c36
            try clear c37
            try clear c45
            try clear c46
            try clear c47
            try clear c52
            try clear c61
            try clear c67
            try clear c71
            try clear c72
            try clear c73
            try clear c77
            try clear c77b0
            try clear c77b1
            try clear c77b2
            try clear c79
            try clear c80
            try clear c81
            try clear c83
            try clear c84
            try clear hcz19_0
            try clear hcz19_1
            try clear hcz29_0
            try clear hcz29_1
            try clear hcz31_0
            try clear hcz31_1
            try clear hcz37_0
            try clear hcz37_1
            try clear hcz40_0
            try clear hcz40_1
            try clear hcz48_0
            try clear hcz48_1
            try clear hcz50_0
            try clear hcz50_1
            try clear hcz74_0
            try clear hcz74_1
            try clear hcz82_0
            try clear hcz82_1
            try clear hcz85_0
            try clear hcz85_1
            try clear hcz8_0
            try clear hcz8_1
            try clear hfz19_0
            try clear hfz19_1
            try clear hfz29_0
            try clear hfz29_1
            try clear hfz31_0
            try clear hfz31_1
            try clear hfz37_0
            try clear hfz37_1
            try clear hfz40_0
            try clear hfz40_1
            try clear hfz48_0
            try clear hfz48_1
            try clear hfz50_0
            try clear hfz50_1
            try clear hfz74_0
            try clear hfz74_1
            try clear hfz82_0
            try clear hfz82_1
            try clear hfz85_0
            try clear hfz85_1
            try clear hfz8_0
            try clear hfz8_1
            try clear p2
            obtain ⟨kq, x61_69, rfl, HA, HJ69, HO_236000, HO_236001, HO_243000, HO_243001, HO_253000, HO_253001, BK218, BK235, BK242, BK252, HB⟩ := hcut
            have hl243000_69 := (Kd.R_reads' HO_243000.out).1
            rw [hl243000_69] at HO_243000
            (try simp only [hl243000_69])
            (try simp only [hl243000_69] at BK218)
            (try simp only [hl243000_69] at BK235)
            (try simp only [hl243000_69] at BK242)
            (try simp only [hl243000_69] at BK252)
            (try simp only [hl243000_69] at HO_236000)
            (try simp only [hl243000_69] at HO_236001)
            (try simp only [hl243000_69] at HO_243001)
            (try simp only [hl243000_69] at HO_253000)
            (try simp only [hl243000_69] at HO_253001)
            have hl243001_69 := (Kd.R_reads' HO_243001.out).1
            rw [hl243001_69] at HO_243001
            (try simp only [hl243001_69])
            (try simp only [hl243001_69] at BK218)
            (try simp only [hl243001_69] at BK235)
            (try simp only [hl243001_69] at BK242)
            (try simp only [hl243001_69] at BK252)
            (try simp only [hl243001_69] at HO_236000)
            (try simp only [hl243001_69] at HO_236001)
            (try simp only [hl243001_69] at HO_243000)
            (try simp only [hl243001_69] at HO_253000)
            (try simp only [hl243001_69] at HO_253001)
            cases kq with
            | zero => exact absurd HA.out (by simp [laws_FnExactFall.j5])
            | succ kj69 =>
             have H := HA.out
             clear HA
             simp only [laws_FnExactFall.j5] at H
             have HC87 := Aside0.mk H
             clear H
             go_upto_if 61 with (fail)
             go_cut [] (fun wc => ∃ (kq : Nat), Aside0 (laws_FnExactFall.j6 kq l1 l0_0 l0_1 t229 t232 t246 t249 = some r) ∧ Aside0 (kq ≤ kj69) ∧ Aside0 (Kd.R Kd.string 9 wc w.heap.size (fun k_ => some k_ ≠ ((.slice Ao34 t266.length co34) : Value).ownBlock ∧ some k_ ≠ ((.slice Ao44 t246.length co44) : Value).ownBlock) (.slice Ao27 t229.length co27) t229) ∧ Aside0 (Kd.R k65 65 wc w.heap.size (fun k_ => some k_ ≠ ((.slice Ao38 t267.length co38) : Value).ownBlock ∧ some k_ ≠ ((.slice Ao49 t249.length co49) : Value).ownBlock) (.slice Ao30 t232.length co30) t232) ∧ Aside0 (Kd.R Kd.string 9 wc w.heap.size (fun k_ => some k_ ≠ ((.slice Ao27 t229.length co27) : Value).ownBlock ∧ some k_ ≠ ((.slice Ao44 t246.length co44) : Value).ownBlock) (.slice Ao34 t266.length co34) t266) ∧ Aside0 (Kd.R k65 65 wc w.heap.size (fun k_ => some k_ ≠ ((.slice Ao30 t232.length co30) : Value).ownBlock ∧ some k_ ≠ ((.slice Ao49 t249.length co49) : Value).ownBlock) (.slice Ao38 t267.length co38) t267) ∧ Aside0 (Kd.R Kd.string 9 wc w.heap.size (fun k_ => some k_ ≠ ((.slice Ao27 t229.length co27) : Value).ownBlock ∧ some k_ ≠ ((.slice Ao34 t266.length co34) : Value).ownBlock) (.slice Ao44 t246.length co44) t246) ∧ Aside0 (Kd.R k65 65 wc w.heap.size (fun k_ => some k_ ≠ ((.slice Ao30 t232.length co30) : Value).ownBlock ∧ some k_ ≠ ((.slice Ao38 t267.length co38) : Value).ownBlock) (.slice Ao49 t249.length co49) t249) ∧ Aside0 (wc.heap[gb218]? = some (.cells #[(.slice A0_0 l0_0.length c0_0), (.slice A0_1 l0_1.length c0_1)] 25 (0, 0))) ∧ Aside0 (wc.heap[gb235]? = some (.cells #[(.slice Ao27 t229.length co27), (.slice Ao30 t232.length co30)] 30 (0, 0))) ∧ Aside0 (wc.heap[gb242]? = some (.cells #[(.slice Ao34 t266.length co34), (.slice Ao38 t267.length co38)] 30 (0, 0))) ∧ Aside0 (wc.heap[gb252]? = some (.cells #[(.slice Ao44 t246.length co44), (.slice Ao49 t249.length co49)] 30 (0, 0))) ∧ Aside0 (Below w.heap.size w wc))
             case first =>
              have H := HC87.out
              clear HC87
              by_cases c88 : x61_69 = true
              ·subst c88
               have H1 : (some false) = some r := by rw [if_pos rfl] at H; exact H
               clear H
               have H := H1
               clear H1
               obtain rfl := Option.some.inj H
               go_wp2
               go_ret
               exact ⟨by first | rfl | (simp [errW_none, errW_some] <;> rfl) | (simp [*, errW_none, errW_some] <;> rfl), by repeat (first | (with_reducible first | exact HB.out | apply below_alloc | apply pw_below_drewN | apply below_drew1 | refine below_set ?_ GE218.out | refine below_set ?_ GE235.out | refine below_set ?_ GE242.out | refine below_set ?_ GE252.out) | exact HB.out)⟩
              ·replace c88 := Bool.eq_false_iff.mpr c88
               subst c88
               have H1 : (laws_FnExactFall.j6 kj69 l1 l0_0 l0_1 t229 t232 t246 t249) = some r := by rw [if_neg (show ¬ (false = true) by decide)] at H; exact H
               clear H
               have H := H1
               clear H1
               have H' := Aside0.mk H
               clear H
               go_wp2
               go_meet
               case rel => exact ⟨_, H', ⟨by have := HJ2.out; have := HJ6.out; have := HJ17.out; have := HJ54.out; have := HJ63.out; have := HJ69.out; first | omega | exact Nat.le_refl _⟩, ⟨by (try simp only [hl243000_69]); (try simp only [hl243001_69]); (with_reducible repeat (first | apply Kd.R_alloc | apply Kd.R_drewN | apply Kd.R_drew)); exact HO_236000.out⟩, ⟨by (try simp only [hl243000_69]); (try simp only [hl243001_69]); (with_reducible repeat (first | apply Kd.R_alloc | apply Kd.R_drewN | apply Kd.R_drew)); exact HO_236001.out⟩, ⟨by (try simp only [hl243000_69]); (try simp only [hl243001_69]); (with_reducible repeat (first | apply Kd.R_alloc | apply Kd.R_drewN | apply Kd.R_drew)); exact HO_243000.out⟩, ⟨by (try simp only [hl243000_69]); (try simp only [hl243001_69]); (with_reducible repeat (first | apply Kd.R_alloc | apply Kd.R_drewN | apply Kd.R_drew)); exact HO_243001.out⟩, ⟨by (try simp only [hl243000_69]); (try simp only [hl243001_69]); (with_reducible repeat (first | apply Kd.R_alloc | apply Kd.R_drewN | apply Kd.R_drew)); exact HO_253000.out⟩, ⟨by (try simp only [hl243000_69]); (try simp only [hl243001_69]); (with_reducible repeat (first | apply Kd.R_alloc | apply Kd.R_drewN | apply Kd.R_drew)); exact HO_253001.out⟩, ⟨by (try simp only [hl243000_69]); (try simp only [hl243001_69]); (with_reducible repeat (first | apply bN | apply bD | apply bA)); exact BK218.out⟩, ⟨by (try simp only [hl243000_69]); (try simp only [hl243001_69]); (with_reducible repeat (first | apply bN | apply bD | apply bA)); exact BK235.out⟩, ⟨by (try simp only [hl243000_69]); (try simp only [hl243001_69]); (with_reducible repeat (first | apply bN | apply bD | apply bA)); exact BK242.out⟩, ⟨by (try simp only [hl243000_69]); (try simp only [hl243001_69]); (with_reducible repeat (first | apply bN | apply bD | apply bA)); exact BK252.out⟩, ⟨by repeat (first | (with_reducible first | exact HB.out | apply below_alloc | apply pw_below_drewN | apply below_drew1 | refine below_set ?_ GE218.out | refine below_set ?_ GE235.out | refine below_set ?_ GE242.out | refine below_set ?_ GE252.out) | exact HB.out)⟩⟩
             case rest =>
              clear HC87
              try clear c1
              try clear c2
              try clear p2
              try clear c3
              try clear c4
              try clear c5
              try clear c5b0
              try clear c5b1
              try clear c5b2
              try clear c6
              try clear c7
              try clear c8
              try clear c10
              try clear c10b0
              try clear c10b1
              try clear c10b2
              try clear c15
              try clear c17
              try clear c19
              try clear c25
              try clear c28
              try clear c33
              try clear c34
              try clear c35
              try clear c36
              try clear c37
              try clear c45
              try clear c46
              try clear c47
              try clear c52
              try clear c61
              try clear c67
              try clear c71
              try clear c72
              try clear c73
              try clear c77
              try clear c77b0
              try clear c77b1
              try clear c77b2
              try clear c79
              try clear c80
              try clear c81
              try clear c83
              try clear c84
              try clear c88
              try clear hcz19_0
              try clear hcz19_1
              try clear hcz29_0
              try clear hcz29_1
              try clear hcz31_0
              try clear hcz31_1
              try clear hcz37_0
              try clear hcz37_1
              try clear hcz40_0
              try clear hcz40_1
              try clear hcz48_0
              try clear hcz48_1
              try clear hcz50_0
              try clear hcz50_1
              try clear hcz74_0
              try clear hcz74_1
              try clear hcz82_0
              try clear hcz82_1
              try clear hcz85_0
              try clear hcz85_1
              try clear hcz8_0
              try clear hcz8_1
              try clear hfz19_0
              try clear hfz19_1
              try clear hfz29_0
              try clear hfz29_1
              try clear hfz31_0
              try clear hfz31_1
              try clear hfz37_0
              try clear hfz37_1
              try clear hfz40_0
              try clear hfz40_1
              try clear hfz48_0
              try clear hfz48_1
              try clear hfz50_0
              try clear hfz50_1
              try clear hfz74_0
              try clear hfz74_1
              try clear hfz82_0
              try clear hfz82_1
              try clear hfz85_0
              try clear hfz85_1
              try clear hfz8_0
              try clear hfz8_1
              try clear p2
              obtain ⟨kq, HA, HJ86, HO_236000, HO_236001, HO_243000, HO_243001, HO_253000, HO_253001, BK218, BK235, BK242, BK252, HB⟩ := hcut
              cases kq with
              | zero => exact absurd HA.out (by simp [laws_FnExactFall.j6])
              | succ kj86 =>
               have H := HA.out
               clear HA
               simp only [laws_FnExactFall.j6] at H
               replace H := Option.bind_eq_some_iff.mp H
               obtain ⟨⟨t271, t272, t273⟩, A890, H⟩ := H
               replace H : ((laws_heldDisk.f kj86 t272 t273 1).bind fun t274 => (if t274 < 0 then (some false) else (laws_FnExactFall.j7 kj86 l1 t271 t274 l0_0 l0_1 t229 t232 t272 t273))) = some r := H
               have A89 := Aside0.mk A890
               clear A890
               replace H := Option.bind_eq_some_iff.mp H
               obtain ⟨t274, A900, H⟩ := H
               replace H : (if t274 < 0 then (some false) else (laws_FnExactFall.j7 kj86 l1 t271 t274 l0_0 l0_1 t229 t232 t272 t273)) = some r := H
               have A90 := Aside0.mk A900
               clear A900
               have HC91 := Aside0.mk H
               clear H
               have hnb92 := NB252_218.out
               have hnc92 := NB218_252.out
               have hnb93 := NB252_235.out
               have hnc93 := NB235_252.out
               have hnb94 := NB252_242.out
               have hnc94 := NB242_252.out
               have hcz95_0 : wc.cell? ⟨gb252, 0, none⟩ = some (.slice Ao44 t246.length co44) := (blk_cell BK252.out 0).trans rfl
               have hcz95_1 : wc.cell? ⟨gb252, 1, none⟩ = some (.slice Ao49 t249.length co49) := (blk_cell BK252.out 1).trans rfl
               have hfz95_0 := blk_frozen BK252.out 0
               have hfz95_1 := blk_frozen BK252.out 1
               go_upto_if 69 with (first | ((with_reducible refine gate_callee (f := 25) rfl ?_); refine goesL_ (some 64) rfl rfl Try.func25 (by kernel_rfl) rfl #[.agg #[.slice Ao44 t246.length co44, .slice Ao49 t249.length co49], .int .i64 1] rfl (by (try simp only [List.map_toArray, List.map_cons, List.map_nil]); first | done | rfl | (simp only [List.length_drop, List.length_take]; rfl)) ?_; (with_reducible refine (laws_markDisk.calls kj86 (fun k_ => some k_ = (.slice Ao44 t246.length co44 : Value).ownBlock) (.slice Ao44 t246.length co44) t246 (fun k_ => some k_ = (.slice Ao49 t249.length co49 : Value).ownBlock) (.slice Ao49 t249.length co49) t249 1 t271 t272 t273 w _ ?side1 ?side2 ?side3 A89.out).mono ?_); (case side1 => repeat (first | (with_reducible first | exact HB.out | apply below_alloc | apply pw_below_drewN | apply below_drew1 | refine below_set ?_ GE218.out | refine below_set ?_ GE235.out | refine below_set ?_ GE242.out | refine below_set ?_ GE252.out) | exact HB.out)); (case side2 => exact Kd.R_tight rfl HO_253000.out); (case side3 => exact Kd.R_tight rfl HO_253001.out); rintro e w96 ⟨rfl, hy0, hy1, hb, hkp⟩; refine ⟨_, rfl, ?_⟩; have n0_ := Aside0.mk (Kd.R_mono (ok' := fun k_ => some k_ ≠ (.slice Ao34 t266.length co34 : Value).ownBlock ∧ some k_ ≠ (.slice Ao44 t246.length co44 : Value).ownBlock) (Kd.R_keptB ((Kd.R_apart' HO_236000.out (Kd.R_typed HO_253001.out) (by decide))) hkp (fun k_ hk_ hs_ => Or.elim hs_ (fun e_ => (hk_.1.2) e_) (fun e_ => (hk_.2) e_))) (fun k_ hk_ => ⟨hk_.1.1.1, hk_.1.1.2⟩)); have n1_ := Aside0.mk (Kd.R_mono (ok' := fun k_ => some k_ ≠ (.slice Ao38 t267.length co38 : Value).ownBlock ∧ some k_ ≠ (.slice Ao49 t249.length co49 : Value).ownBlock) (Kd.R_keptB ((Kd.R_apart' HO_236001.out (Kd.R_typed HO_253000.out) (by decide))) hkp (fun k_ hk_ hs_ => Or.elim hs_ (fun e_ => (hk_.2) e_) (fun e_ => (hk_.1.2) e_))) (fun k_ hk_ => ⟨hk_.1.1.1, hk_.1.1.2⟩)); have n2_ := Aside0.mk (Kd.R_mono (ok' := fun k_ => some k_ ≠ (.slice Ao27 t229.length co27 : Value).ownBlock ∧ some k_ ≠ (.slice Ao44 t246.length co44 : Value).ownBlock) (Kd.R_keptB ((Kd.R_apart' HO_243000.out (Kd.R_typed HO_253001.out) (by decide))) hkp (fun k_ hk_ hs_ => Or.elim hs_ (fun e_ => (hk_.1.2) e_) (fun e_ => (hk_.2) e_))) (fun k_ hk_ => ⟨hk_.1.1.1, hk_.1.1.2⟩)); have n3_ := Aside0.mk (Kd.R_mono (ok' := fun k_ => some k_ ≠ (.slice Ao30 t232.length co30 : Value).ownBlock ∧ some k_ ≠ (.slice Ao49 t249.length co49 : Value).ownBlock) (Kd.R_keptB ((Kd.R_apart' HO_243001.out (Kd.R_typed HO_253000.out) (by decide))) hkp (fun k_ hk_ hs_ => Or.elim hs_ (fun e_ => (hk_.2) e_) (fun e_ => (hk_.1.2) e_))) (fun k_ hk_ => ⟨hk_.1.1.1, hk_.1.1.2⟩)); have n4_ := Aside0.mk (Kd.R_reok rfl hy0 (fun k_ e_ => HO_253000.out.1 k_ e_)); have n5_ := Aside0.mk (Kd.R_reok rfl hy1 (fun k_ e_ => HO_253001.out.1 k_ e_)); have n6_ := Aside0.mk (blk_kept (by (with_reducible repeat (first | apply bN | apply bD | apply bA)); exact BK218.out) hkp (fun hs_ => Or.elim hs_ (fun e_ => (fun e_ => (Kd.R_ne HO_253000.out BK218.out (by decide)) e_) e_) (fun e_ => (fun e_ => (Kd.R_ne HO_253001.out BK218.out (by decide)) e_) e_))); have n7_ := Aside0.mk (blk_kept (by (with_reducible repeat (first | apply bN | apply bD | apply bA)); exact BK235.out) hkp (fun hs_ => Or.elim hs_ (fun e_ => (fun e_ => (Kd.R_ne HO_253000.out BK235.out (by decide)) e_) e_) (fun e_ => (fun e_ => (Kd.R_ne HO_253001.out BK235.out (by decide)) e_) e_))); have n8_ := Aside0.mk (blk_kept (by (with_reducible repeat (first | apply bN | apply bD | apply bA)); exact BK242.out) hkp (fun hs_ => Or.elim hs_ (fun e_ => (fun e_ => (Kd.R_ne HO_253000.out BK242.out (by decide)) e_) e_) (fun e_ => (fun e_ => (Kd.R_ne HO_253001.out BK242.out (by decide)) e_) e_))); have n9_ := Aside0.mk (blk_kept (by (with_reducible repeat (first | apply bN | apply bD | apply bA)); exact BK252.out) hkp (fun hs_ => Or.elim hs_ (fun e_ => (fun e_ => (Kd.R_ne HO_253000.out BK252.out (by decide)) e_) e_) (fun e_ => (fun e_ => (Kd.R_ne HO_253001.out BK252.out (by decide)) e_) e_))); have n10_ := Aside0.mk (hb); clear HO_236000; clear HO_236001; clear HO_243000; clear HO_243001; clear HO_253000; clear HO_253001; clear BK218; clear BK235; clear BK242; clear BK252; clear HB; have HO_236000 := n0_; have HO_236001 := n1_; have HO_243000 := n2_; have HO_243001 := n3_; have HO_253000 := n4_; have HO_253001 := n5_; have BK218 := n6_; have BK235 := n7_; have BK242 := n8_; have BK252 := n9_; have HB := n10_; clear n0_ n1_ n2_ n3_ n4_ n5_ n6_ n7_ n8_ n9_ n10_; (try clear hb); (try clear hkp); (try clear hy0); (try clear hy1); have hcz97_0 : w96.cell? ⟨gb252, 0, none⟩ = some (.slice Ao44 t246.length co44) := (blk_cell BK252.out 0).trans rfl; have hcz97_1 : w96.cell? ⟨gb252, 1, none⟩ = some (.slice Ao49 t249.length co49) := (blk_cell BK252.out 1).trans rfl; have hfz97_0 := blk_frozen BK252.out 0; have hfz97_1 := blk_frozen BK252.out 1) | ((with_reducible refine gate_callee (f := 30) rfl ?_); refine goesL_ (some 67) rfl rfl Try.func30 (by kernel_rfl) rfl #[.agg #[.slice Ao44 t272.length co44, .slice Ao49 t273.length co49], .int .i64 1] rfl (by (try simp only [List.map_toArray, List.map_cons, List.map_nil]); first | done | (rw [show t272.length = t246.length from (Kd.R_reads' HO_253000.out).1.symm, show t273.length = t249.length from (Kd.R_reads' HO_253001.out).1.symm] <;> rfl) | rfl | (simp only [List.length_drop, List.length_take]; rfl)) ?_; (with_reducible refine (laws_heldDisk.calls kj86 _ _ t272 _ _ t273 1 t274 _ ?side1 ?side2 ?side3 ?side4 A90.out).mono ?_); (case side1 => repeat (first | exact (Kd.R_reads' HO_253000.out).2.2 | (with_reducible refine Kd.C_alloc ?_ _) | (with_reducible refine Kd.C_drewN ?_ _) | (with_reducible refine Kd.C_drew ?_))); (case side2 => rw [show t272.length = t246.length from (Kd.R_reads' HO_253000.out).1.symm]; exact (Kd.R_reads' HO_253000.out).2.1); (case side3 => repeat (first | exact (Kd.R_reads' HO_253001.out).2.2 | (with_reducible refine Kd.C_alloc ?_ _) | (with_reducible refine Kd.C_drewN ?_ _) | (with_reducible refine Kd.C_drew ?_))); (case side4 => rw [show t273.length = t249.length from (Kd.R_reads' HO_253001.out).1.symm]; exact (Kd.R_reads' HO_253001.out).2.1); rintro e w98 ⟨rfl, hb⟩; refine ⟨_, rfl, ?_⟩; have n0_ := Aside0.mk (Kd.R_below (by (with_reducible repeat (first | apply Kd.R_alloc | apply Kd.R_drewN | apply Kd.R_drew)); exact HO_236000.out) hb); have n1_ := Aside0.mk (Kd.R_below (by (with_reducible repeat (first | apply Kd.R_alloc | apply Kd.R_drewN | apply Kd.R_drew)); exact HO_236001.out) hb); have n2_ := Aside0.mk (Kd.R_below (by (with_reducible repeat (first | apply Kd.R_alloc | apply Kd.R_drewN | apply Kd.R_drew)); exact HO_243000.out) hb); have n3_ := Aside0.mk (Kd.R_below (by (with_reducible repeat (first | apply Kd.R_alloc | apply Kd.R_drewN | apply Kd.R_drew)); exact HO_243001.out) hb); have n4_ := Aside0.mk (Kd.R_below (by (with_reducible repeat (first | apply Kd.R_alloc | apply Kd.R_drewN | apply Kd.R_drew)); exact HO_253000.out) hb); have n5_ := Aside0.mk (Kd.R_below (by (with_reducible repeat (first | apply Kd.R_alloc | apply Kd.R_drewN | apply Kd.R_drew)); exact HO_253001.out) hb); have n6_ := Aside0.mk (blk_below (g := gb218) (o := _) (by (with_reducible repeat (first | apply bN | apply bD | apply bA)); exact BK218.out) hb); have n7_ := Aside0.mk (blk_below (g := gb235) (o := _) (by (with_reducible repeat (first | apply bN | apply bD | apply bA)); exact BK235.out) hb); have n8_ := Aside0.mk (blk_below (g := gb242) (o := _) (by (with_reducible repeat (first | apply bN | apply bD | apply bA)); exact BK242.out) hb); have n9_ := Aside0.mk (blk_below (g := gb252) (o := _) (by (with_reducible repeat (first | apply bN | apply bD | apply bA)); exact BK252.out) hb); have n10_ := Aside0.mk (below_step (by repeat (first | (with_reducible first | exact HB.out | apply below_alloc | apply pw_below_drewN | apply below_drew1 | refine below_set ?_ GE218.out | refine below_set ?_ GE235.out | refine below_set ?_ GE242.out | refine below_set ?_ GE252.out) | exact HB.out)) hb); clear HO_236000; clear HO_236001; clear HO_243000; clear HO_243001; clear HO_253000; clear HO_253001; clear BK218; clear BK235; clear BK242; clear BK252; clear HB; have HO_236000 := n0_; have HO_236001 := n1_; have HO_243000 := n2_; have HO_243001 := n3_; have HO_253000 := n4_; have HO_253001 := n5_; have BK218 := n6_; have BK235 := n7_; have BK242 := n8_; have BK252 := n9_; have HB := n10_; clear n0_ n1_ n2_ n3_ n4_ n5_ n6_ n7_ n8_ n9_ n10_; (try clear hb); (try clear hb2); (try clear hk); (try clear hi)))
               (try simp only [Act.put, List.setIfInBounds_toArray, List.set_cons_zero, List.set_cons_succ])
               go_cut [] (fun wc => ∃ (kq : Nat), Aside0 (laws_FnExactFall.j7 kq l1 t271 t274 l0_0 l0_1 t229 t232 t272 t273 = some r) ∧ Aside0 (kq ≤ kj86) ∧ Aside0 (Kd.R Kd.string 9 wc w.heap.size (fun k_ => some k_ ≠ ((.slice Ao34 t266.length co34) : Value).ownBlock ∧ some k_ ≠ ((.slice Ao44 t246.length co44) : Value).ownBlock) (.slice Ao27 t229.length co27) t229) ∧ Aside0 (Kd.R k65 65 wc w.heap.size (fun k_ => some k_ ≠ ((.slice Ao38 t267.length co38) : Value).ownBlock ∧ some k_ ≠ ((.slice Ao49 t249.length co49) : Value).ownBlock) (.slice Ao30 t232.length co30) t232) ∧ Aside0 (Kd.R Kd.string 9 wc w.heap.size (fun k_ => some k_ ≠ ((.slice Ao27 t229.length co27) : Value).ownBlock ∧ some k_ ≠ ((.slice Ao44 t246.length co44) : Value).ownBlock) (.slice Ao34 t266.length co34) t266) ∧ Aside0 (Kd.R k65 65 wc w.heap.size (fun k_ => some k_ ≠ ((.slice Ao30 t232.length co30) : Value).ownBlock ∧ some k_ ≠ ((.slice Ao49 t249.length co49) : Value).ownBlock) (.slice Ao38 t267.length co38) t267) ∧ Aside0 (Kd.R Kd.string 9 wc w.heap.size (fun k_ => some k_ ≠ ((.slice Ao27 t229.length co27) : Value).ownBlock ∧ some k_ ≠ ((.slice Ao34 t266.length co34) : Value).ownBlock) (.slice Ao44 t246.length co44) t272) ∧ Aside0 (Kd.R k65 65 wc w.heap.size (fun k_ => some k_ ≠ ((.slice Ao30 t232.length co30) : Value).ownBlock ∧ some k_ ≠ ((.slice Ao38 t267.length co38) : Value).ownBlock) (.slice Ao49 t249.length co49) t273) ∧ Aside0 (wc.heap[gb218]? = some (.cells #[(.slice A0_0 l0_0.length c0_0), (.slice A0_1 l0_1.length c0_1)] 25 (0, 0))) ∧ Aside0 (wc.heap[gb235]? = some (.cells #[(.slice Ao27 t229.length co27), (.slice Ao30 t232.length co30)] 30 (0, 0))) ∧ Aside0 (wc.heap[gb242]? = some (.cells #[(.slice Ao34 t266.length co34), (.slice Ao38 t267.length co38)] 30 (0, 0))) ∧ Aside0 (wc.heap[gb252]? = some (.cells #[(.slice Ao44 t246.length co44), (.slice Ao49 t249.length co49)] 30 (0, 0))) ∧ Aside0 (Below w.heap.size w wc))
               case first =>
                have H := HC91.out
                clear HC91
                by_cases c99 : t274 < 0
                ·rw [if_pos c99] at H
                 have c99b0 : decide (t274 < 0) = true := decide_eq_true c99
                 clear c99
                 (first | rw [c99b0] | (simp only [i64_w, i32_w]; rw [c99b0]) | rw [c99b1] | rw [c99b2] | skip)
                 obtain rfl := Option.some.inj H
                 go_wp2
                 go_ret
                 exact ⟨by first | rfl | (simp [errW_none, errW_some] <;> rfl) | (simp [*, errW_none, errW_some] <;> rfl), by repeat (first | (with_reducible first | exact HB.out | apply below_alloc | apply pw_below_drewN | apply below_drew1 | refine below_set ?_ GE218.out | refine below_set ?_ GE235.out | refine below_set ?_ GE242.out | refine below_set ?_ GE252.out) | exact HB.out)⟩
                ·rw [if_neg c99] at H
                 have c99b0 : decide (t274 < 0) = false := decide_eq_false c99
                 clear c99
                 (first | rw [c99b0] | (simp only [i64_w, i32_w]; rw [c99b0]) | rw [c99b1] | rw [c99b2] | skip)
                 have H' := Aside0.mk H
                 clear H
                 go_wp2
                 go_meet
                 case rel => exact ⟨_, H', ⟨by have := HJ2.out; have := HJ6.out; have := HJ17.out; have := HJ54.out; have := HJ63.out; have := HJ69.out; have := HJ86.out; first | omega | exact Nat.le_refl _⟩, ⟨by (try simp only [hl243000_69]); (try simp only [hl243001_69]); (with_reducible repeat (first | apply Kd.R_alloc | apply Kd.R_drewN | apply Kd.R_drew)); exact HO_236000.out⟩, ⟨by (try simp only [hl243000_69]); (try simp only [hl243001_69]); (with_reducible repeat (first | apply Kd.R_alloc | apply Kd.R_drewN | apply Kd.R_drew)); exact HO_236001.out⟩, ⟨by (try simp only [hl243000_69]); (try simp only [hl243001_69]); (with_reducible repeat (first | apply Kd.R_alloc | apply Kd.R_drewN | apply Kd.R_drew)); exact HO_243000.out⟩, ⟨by (try simp only [hl243000_69]); (try simp only [hl243001_69]); (with_reducible repeat (first | apply Kd.R_alloc | apply Kd.R_drewN | apply Kd.R_drew)); exact HO_243001.out⟩, ⟨by (try simp only [hl243000_69]); (try simp only [hl243001_69]); (with_reducible repeat (first | apply Kd.R_alloc | apply Kd.R_drewN | apply Kd.R_drew)); exact HO_253000.out⟩, ⟨by (try simp only [hl243000_69]); (try simp only [hl243001_69]); (with_reducible repeat (first | apply Kd.R_alloc | apply Kd.R_drewN | apply Kd.R_drew)); exact HO_253001.out⟩, ⟨by (try simp only [hl243000_69]); (try simp only [hl243001_69]); (with_reducible repeat (first | apply bN | apply bD | apply bA)); exact BK218.out⟩, ⟨by (try simp only [hl243000_69]); (try simp only [hl243001_69]); (with_reducible repeat (first | apply bN | apply bD | apply bA)); exact BK235.out⟩, ⟨by (try simp only [hl243000_69]); (try simp only [hl243001_69]); (with_reducible repeat (first | apply bN | apply bD | apply bA)); exact BK242.out⟩, ⟨by (try simp only [hl243000_69]); (try simp only [hl243001_69]); (with_reducible repeat (first | apply bN | apply bD | apply bA)); exact BK252.out⟩, ⟨by repeat (first | (with_reducible first | exact HB.out | apply below_alloc | apply pw_below_drewN | apply below_drew1 | refine below_set ?_ GE218.out | refine below_set ?_ GE235.out | refine below_set ?_ GE242.out | refine below_set ?_ GE252.out) | exact HB.out)⟩⟩
               case rest =>
                clear HC91
                try clear c1
                try clear c2
                try clear p2
                try clear c3
                try clear c4
                try clear c5
                try clear c5b0
                try clear c5b1
                try clear c5b2
                try clear c6
                try clear c7
                try clear c8
                try clear c9
                try clear c10
                try clear c10b0
                try clear c10b1
                try clear c10b2
                try clear c15
                try clear c17
                try clear c19
                try clear c25
                try clear c28
                try clear c30
                try clear c33
                try clear c34
                try clear c35
                try clear c36
                try clear c37
                try clear c45
                try clear c46
                try clear c47
                try clear c52
                try clear c61
                try clear c67
                try clear c71
                try clear c72
                try clear c73
                try clear c77
                try clear c77b0
                try clear c77b1
                try clear c77b2
                try clear c79
                try clear c80
                try clear c81
                try clear c83
                try clear c84
                try clear c88
                try clear c92
                try clear c93
                try clear c94
                try clear c99
                try clear c99b0
                try clear c99b1
                try clear c99b2
                try clear hcz19_0
                try clear hcz19_1
                try clear hcz29_0
                try clear hcz29_1
                try clear hcz31_0
                try clear hcz31_1
                try clear hcz37_0
                try clear hcz37_1
                try clear hcz40_0
                try clear hcz40_1
                try clear hcz48_0
                try clear hcz48_1
                try clear hcz50_0
                try clear hcz50_1
                try clear hcz74_0
                try clear hcz74_1
                try clear hcz82_0
                try clear hcz82_1
                try clear hcz85_0
                try clear hcz85_1
                try clear hcz8_0
                try clear hcz8_1
                try clear hcz95_0
                try clear hcz95_1
                try clear hcz97_0
                try clear hcz97_1
                try clear hfz19_0
                try clear hfz19_1
                try clear hfz29_0
                try clear hfz29_1
                try clear hfz31_0
                try clear hfz31_1
                try clear hfz37_0
                try clear hfz37_1
                try clear hfz40_0
                try clear hfz40_1
                try clear hfz48_0
                try clear hfz48_1
                try clear hfz50_0
                try clear hfz50_1
                try clear hfz74_0
                try clear hfz74_1
                try clear hfz82_0
                try clear hfz82_1
                try clear hfz85_0
                try clear hfz85_1
                try clear hfz8_0
                try clear hfz8_1
                try clear hfz95_0
                try clear hfz95_1
                try clear hfz97_0
                try clear hfz97_1
                try clear p2
                obtain ⟨kq, HA, HJ90, HO_236000, HO_236001, HO_243000, HO_243001, HO_253000, HO_253001, BK218, BK235, BK242, BK252, HB⟩ := hcut
                have hl253000_90 := (Kd.R_reads' HO_253000.out).1
                rw [hl253000_90] at HO_253000
                (try simp only [hl253000_90])
                (try simp only [hl253000_90] at BK218)
                (try simp only [hl253000_90] at BK235)
                (try simp only [hl253000_90] at BK242)
                (try simp only [hl253000_90] at BK252)
                (try simp only [hl253000_90] at HO_236000)
                (try simp only [hl253000_90] at HO_236001)
                (try simp only [hl253000_90] at HO_243000)
                (try simp only [hl253000_90] at HO_243001)
                (try simp only [hl253000_90] at HO_253001)
                have hl253001_90 := (Kd.R_reads' HO_253001.out).1
                rw [hl253001_90] at HO_253001
                (try simp only [hl253001_90])
                (try simp only [hl253001_90] at BK218)
                (try simp only [hl253001_90] at BK235)
                (try simp only [hl253001_90] at BK242)
                (try simp only [hl253001_90] at BK252)
                (try simp only [hl253001_90] at HO_236000)
                (try simp only [hl253001_90] at HO_236001)
                (try simp only [hl253001_90] at HO_243000)
                (try simp only [hl253001_90] at HO_243001)
                (try simp only [hl253001_90] at HO_253000)
                cases kq with
                | zero => exact absurd HA.out (by simp [laws_FnExactFall.j7])
                | succ kj90 =>
                 have H := HA.out
                 clear HA
                 simp only [laws_FnExactFall.j7] at H
                 have HC100 := Aside0.mk H
                 clear H
                 go_upto_if 72 with (fail)
                 go_cut [] (fun wc => ∃ (kq : Nat), Aside0 (laws_FnExactFall.j8 kq l1 t271 l0_0 l0_1 t229 t232 t272 t273 = some r) ∧ Aside0 (kq ≤ kj90) ∧ Aside0 (Kd.R Kd.string 9 wc w.heap.size (fun k_ => some k_ ≠ ((.slice Ao34 t266.length co34) : Value).ownBlock ∧ some k_ ≠ ((.slice Ao44 t272.length co44) : Value).ownBlock) (.slice Ao27 t229.length co27) t229) ∧ Aside0 (Kd.R k65 65 wc w.heap.size (fun k_ => some k_ ≠ ((.slice Ao38 t267.length co38) : Value).ownBlock ∧ some k_ ≠ ((.slice Ao49 t273.length co49) : Value).ownBlock) (.slice Ao30 t232.length co30) t232) ∧ Aside0 (Kd.R Kd.string 9 wc w.heap.size (fun k_ => some k_ ≠ ((.slice Ao27 t229.length co27) : Value).ownBlock ∧ some k_ ≠ ((.slice Ao44 t272.length co44) : Value).ownBlock) (.slice Ao34 t266.length co34) t266) ∧ Aside0 (Kd.R k65 65 wc w.heap.size (fun k_ => some k_ ≠ ((.slice Ao30 t232.length co30) : Value).ownBlock ∧ some k_ ≠ ((.slice Ao49 t273.length co49) : Value).ownBlock) (.slice Ao38 t267.length co38) t267) ∧ Aside0 (Kd.R Kd.string 9 wc w.heap.size (fun k_ => some k_ ≠ ((.slice Ao27 t229.length co27) : Value).ownBlock ∧ some k_ ≠ ((.slice Ao34 t266.length co34) : Value).ownBlock) (.slice Ao44 t272.length co44) t272) ∧ Aside0 (Kd.R k65 65 wc w.heap.size (fun k_ => some k_ ≠ ((.slice Ao30 t232.length co30) : Value).ownBlock ∧ some k_ ≠ ((.slice Ao38 t267.length co38) : Value).ownBlock) (.slice Ao49 t273.length co49) t273) ∧ Aside0 (wc.heap[gb218]? = some (.cells #[(.slice A0_0 l0_0.length c0_0), (.slice A0_1 l0_1.length c0_1)] 25 (0, 0))) ∧ Aside0 (wc.heap[gb235]? = some (.cells #[(.slice Ao27 t229.length co27), (.slice Ao30 t232.length co30)] 30 (0, 0))) ∧ Aside0 (wc.heap[gb242]? = some (.cells #[(.slice Ao34 t266.length co34), (.slice Ao38 t267.length co38)] 30 (0, 0))) ∧ Aside0 (wc.heap[gb252]? = some (.cells #[(.slice Ao44 t272.length co44), (.slice Ao49 t273.length co49)] 30 (0, 0))) ∧ Aside0 (Below w.heap.size w wc))
                 case first =>
                  have H := HC100.out
                  clear HC100
                  by_cases c101 : t274 = t271
                  ·rw [if_pos c101] at H
                   have c101b0 : (t274 == t271) = true := beq_iff_eq.mpr c101
                   have c101b1 : (t274 != t271) = false := bne_eq_false_iff_eq.mpr c101
                   clear c101
                   (first | rw [c101b0] | (simp only [i64_w, i32_w]; rw [c101b0]) | rw [c101b1] | rw [c101b2] | skip)
                   have H' := Aside0.mk H
                   clear H
                   go_wp2
                   go_meet
                   case rel => exact ⟨_, H', ⟨by have := HJ2.out; have := HJ6.out; have := HJ17.out; have := HJ54.out; have := HJ63.out; have := HJ69.out; have := HJ86.out; have := HJ90.out; first | omega | exact Nat.le_refl _⟩, ⟨by (try simp only [hl243000_69]); (try simp only [hl243001_69]); (try simp only [hl253000_90]); (try simp only [hl253001_90]); (with_reducible repeat (first | apply Kd.R_alloc | apply Kd.R_drewN | apply Kd.R_drew)); exact HO_236000.out⟩, ⟨by (try simp only [hl243000_69]); (try simp only [hl243001_69]); (try simp only [hl253000_90]); (try simp only [hl253001_90]); (with_reducible repeat (first | apply Kd.R_alloc | apply Kd.R_drewN | apply Kd.R_drew)); exact HO_236001.out⟩, ⟨by (try simp only [hl243000_69]); (try simp only [hl243001_69]); (try simp only [hl253000_90]); (try simp only [hl253001_90]); (with_reducible repeat (first | apply Kd.R_alloc | apply Kd.R_drewN | apply Kd.R_drew)); exact HO_243000.out⟩, ⟨by (try simp only [hl243000_69]); (try simp only [hl243001_69]); (try simp only [hl253000_90]); (try simp only [hl253001_90]); (with_reducible repeat (first | apply Kd.R_alloc | apply Kd.R_drewN | apply Kd.R_drew)); exact HO_243001.out⟩, ⟨by (try simp only [hl243000_69]); (try simp only [hl243001_69]); (try simp only [hl253000_90]); (try simp only [hl253001_90]); (with_reducible repeat (first | apply Kd.R_alloc | apply Kd.R_drewN | apply Kd.R_drew)); exact HO_253000.out⟩, ⟨by (try simp only [hl243000_69]); (try simp only [hl243001_69]); (try simp only [hl253000_90]); (try simp only [hl253001_90]); (with_reducible repeat (first | apply Kd.R_alloc | apply Kd.R_drewN | apply Kd.R_drew)); exact HO_253001.out⟩, ⟨by (try simp only [hl243000_69]); (try simp only [hl243001_69]); (try simp only [hl253000_90]); (try simp only [hl253001_90]); (with_reducible repeat (first | apply bN | apply bD | apply bA)); exact BK218.out⟩, ⟨by (try simp only [hl243000_69]); (try simp only [hl243001_69]); (try simp only [hl253000_90]); (try simp only [hl253001_90]); (with_reducible repeat (first | apply bN | apply bD | apply bA)); exact BK235.out⟩, ⟨by (try simp only [hl243000_69]); (try simp only [hl243001_69]); (try simp only [hl253000_90]); (try simp only [hl253001_90]); (with_reducible repeat (first | apply bN | apply bD | apply bA)); exact BK242.out⟩, ⟨by (try simp only [hl243000_69]); (try simp only [hl243001_69]); (try simp only [hl253000_90]); (try simp only [hl253001_90]); (with_reducible repeat (first | apply bN | apply bD | apply bA)); exact BK252.out⟩, ⟨by repeat (first | (with_reducible first | exact HB.out | apply below_alloc | apply pw_below_drewN | apply below_drew1 | refine below_set ?_ GE218.out | refine below_set ?_ GE235.out | refine below_set ?_ GE242.out | refine below_set ?_ GE252.out) | exact HB.out)⟩⟩
                  ·rw [if_neg c101] at H
                   have c101b0 : (t274 == t271) = false := beq_eq_false_iff_ne.mpr c101
                   have c101b1 : (t274 != t271) = true := bne_iff_ne.mpr c101
                   (first | rw [c101b0] | (simp only [i64_w, i32_w]; rw [c101b0]) | rw [c101b1] | rw [c101b2] | skip)
                   obtain rfl := Option.some.inj H
                   go_wp2
                   go_ret
                   exact ⟨by first | rfl | (simp [errW_none, errW_some] <;> rfl) | (simp [*, errW_none, errW_some] <;> rfl), by repeat (first | (with_reducible first | exact HB.out | apply below_alloc | apply pw_below_drewN | apply below_drew1 | refine below_set ?_ GE218.out | refine below_set ?_ GE235.out | refine below_set ?_ GE242.out | refine below_set ?_ GE252.out) | exact HB.out)⟩
                 case rest =>
                  clear HC100
                  try clear c1
                  try clear c2
                  try clear p2
                  try clear c3
                  try clear c4
                  try clear c5
                  try clear c5b0
                  try clear c5b1
                  try clear c5b2
                  try clear c6
                  try clear c7
                  try clear c8
                  try clear c9
                  try clear c10
                  try clear c10b0
                  try clear c10b1
                  try clear c10b2
                  try clear c15
                  try clear c17
                  try clear c19
                  try clear c25
                  try clear c28
                  try clear c30
                  try clear c33
                  try clear c34
                  try clear c35
                  try clear c36
                  try clear c37
                  try clear c45
                  try clear c46
                  try clear c47
                  try clear c52
                  try clear c61
                  try clear c67
                  try clear c71
                  try clear c72
                  try clear c73
                  try clear c77
                  try clear c77b0
                  try clear c77b1
                  try clear c77b2
                  try clear c79
                  try clear c80
                  try clear c81
                  try clear c83
                  try clear c84
                  try clear c88
                  try clear c92
                  try clear c93
                  try clear c94
                  try clear c99
                  try clear c99b0
                  try clear c99b1
                  try clear c99b2
                  try clear c101
                  try clear c101b0
                  try clear c101b1
                  try clear c101b2
                  try clear hcz19_0
                  try clear hcz19_1
                  try clear hcz29_0
                  try clear hcz29_1
                  try clear hcz31_0
                  try clear hcz31_1
                  try clear hcz37_0
                  try clear hcz37_1
                  try clear hcz40_0
                  try clear hcz40_1
                  try clear hcz48_0
                  try clear hcz48_1
                  try clear hcz50_0
                  try clear hcz50_1
                  try clear hcz74_0
                  try clear hcz74_1
                  try clear hcz82_0
                  try clear hcz82_1
                  try clear hcz85_0
                  try clear hcz85_1
                  try clear hcz8_0
                  try clear hcz8_1
                  try clear hcz95_0
                  try clear hcz95_1
                  try clear hcz97_0
                  try clear hcz97_1
                  try clear hfz19_0
                  try clear hfz19_1
                  try clear hfz29_0
                  try clear hfz29_1
                  try clear hfz31_0
                  try clear hfz31_1
                  try clear hfz37_0
                  try clear hfz37_1
                  try clear hfz40_0
                  try clear hfz40_1
                  try clear hfz48_0
                  try clear hfz48_1
                  try clear hfz50_0
                  try clear hfz50_1
                  try clear hfz74_0
                  try clear hfz74_1
                  try clear hfz82_0
                  try clear hfz82_1
                  try clear hfz85_0
                  try clear hfz85_1
                  try clear hfz8_0
                  try clear hfz8_1
                  try clear hfz95_0
                  try clear hfz95_1
                  try clear hfz97_0
                  try clear hfz97_1
                  try clear p2
                  obtain ⟨kq, HA, HJ99, HO_236000, HO_236001, HO_243000, HO_243001, HO_253000, HO_253001, BK218, BK235, BK242, BK252, HB⟩ := hcut
                  cases kq with
                  | zero => exact absurd HA.out (by simp [laws_FnExactFall.j8])
                  | succ kj99 =>
                   have H := HA.out
                   clear HA
                   simp only [laws_FnExactFall.j8] at H
                   replace H := Option.bind_eq_some_iff.mp H
                   obtain ⟨⟨t275, t278⟩, A1020, H⟩ := H
                   replace H : ((laws_toBoolS.f kj99 l1).bind fun t281 => ((impl_Fall.f kj99 t275 t278 t281).bind fun bt284 => ((laws_eqDisk.f kj99 bt284.1 bt284.2 t229 t232).bind fun t291 => (if t291 = true then (laws_FnExactFall.j9 kj99 t271 t272 t273) else (some false))))) = some r := H
                   have A102 := Aside0.mk A1020
                   clear A1020
                   replace H := Option.bind_eq_some_iff.mp H
                   obtain ⟨t281, A1030, H⟩ := H
                   replace H : ((impl_Fall.f kj99 t275 t278 t281).bind fun bt284 => ((laws_eqDisk.f kj99 bt284.1 bt284.2 t229 t232).bind fun t291 => (if t291 = true then (laws_FnExactFall.j9 kj99 t271 t272 t273) else (some false)))) = some r := H
                   have A103 := Aside0.mk A1030
                   clear A1030
                   replace H := Option.bind_eq_some_iff.mp H
                   obtain ⟨⟨t284, t287⟩, A1040, H⟩ := H
                   replace H : ((laws_eqDisk.f kj99 t284 t287 t229 t232).bind fun t291 => (if t291 = true then (laws_FnExactFall.j9 kj99 t271 t272 t273) else (some false))) = some r := H
                   have A104 := Aside0.mk A1040
                   clear A1040
                   replace H := Option.bind_eq_some_iff.mp H
                   obtain ⟨t291, A1050, H⟩ := H
                   replace H : (if t291 = true then (laws_FnExactFall.j9 kj99 t271 t272 t273) else (some false)) = some r := H
                   have A105 := Aside0.mk A1050
                   clear A1050
                   have HC106 := Aside0.mk H
                   clear H
                   have hnb107 := NB218_235.out
                   have hnc107 := NB235_218.out
                   have hnb108 := NB218_242.out
                   have hnc108 := NB242_218.out
                   have hnb109 := NB218_252.out
                   have hnc109 := NB252_218.out
                   have hcz110_0 : wc.cell? ⟨gb218, 0, none⟩ = some (.slice A0_0 l0_0.length c0_0) := (blk_cell BK218.out 0).trans rfl
                   have hcz110_1 : wc.cell? ⟨gb218, 1, none⟩ = some (.slice A0_1 l0_1.length c0_1) := (blk_cell BK218.out 1).trans rfl
                   have hfz110_0 := blk_frozen BK218.out 0
                   have hfz110_1 := blk_frozen BK218.out 1
                   go_upto_if 81 with (first | ((with_reducible refine gate_callee (f := 17) rfl ?_); refine goesL_ (some 74) rfl rfl Try.func17 (by kernel_rfl) rfl #[.agg #[.slice A0_0 l0_0.length c0_0, .slice A0_1 l0_1.length c0_1]] rfl (by (try simp only [List.map_toArray, List.map_cons, List.map_nil]); first | done | rfl | (simp only [List.length_drop, List.length_take]; rfl)) ?_; (with_reducible refine (laws_toDisk.calls kj99 _ _ l0_0 _ _ l0_1 t275 t278 _ ?side1 ?side2 ?side3 ?side4 A102.out).mono ?_); (case side1 => repeat (first | exact (Kd.C_below HR0_0.out HB.out) | (with_reducible refine Kd.C_alloc ?_ _) | (with_reducible refine Kd.C_drewN ?_ _) | (with_reducible refine Kd.C_drew ?_))); (case side2 => exact HC0_0.out); (case side3 => repeat (first | exact (Kd.C_below HR0_1.out HB.out) | (with_reducible refine Kd.C_alloc ?_ _) | (with_reducible refine Kd.C_drewN ?_ _) | (with_reducible refine Kd.C_drew ?_))); (case side4 => exact HC0_1.out); rintro e w111 ⟨v276, v279, rfl, ho0, ho1, hb⟩; refine ⟨_, rfl, ?_⟩; have n0_ := Aside0.mk (Kd.R_elder' (by (with_reducible repeat (first | apply Kd.R_alloc | apply Kd.R_drewN | apply Kd.R_drew)); exact HO_236000.out) (Kd.R_base ho0) hb); have n1_ := Aside0.mk (Kd.R_elder' (by (with_reducible repeat (first | apply Kd.R_alloc | apply Kd.R_drewN | apply Kd.R_drew)); exact HO_236001.out) (Kd.R_base ho1) hb); have n2_ := Aside0.mk (Kd.R_elder' (by (with_reducible repeat (first | apply Kd.R_alloc | apply Kd.R_drewN | apply Kd.R_drew)); exact HO_243000.out) (Kd.R_base ho0) hb); have n3_ := Aside0.mk (Kd.R_elder' (by (with_reducible repeat (first | apply Kd.R_alloc | apply Kd.R_drewN | apply Kd.R_drew)); exact HO_243001.out) (Kd.R_base ho1) hb); have n4_ := Aside0.mk (Kd.R_elder' (by (with_reducible repeat (first | apply Kd.R_alloc | apply Kd.R_drewN | apply Kd.R_drew)); exact HO_253000.out) (Kd.R_base ho0) hb); have n5_ := Aside0.mk (Kd.R_elder' (by (with_reducible repeat (first | apply Kd.R_alloc | apply Kd.R_drewN | apply Kd.R_drew)); exact HO_253001.out) (Kd.R_base ho1) hb); have n6_ := Aside0.mk (Kd.R_lower (Kd.R_new' (Kd.R_new' (Kd.R_new' ho0 (Kd.R_lt (by (with_reducible repeat (first | apply Kd.R_alloc | apply Kd.R_drewN | apply Kd.R_drew)); exact HO_236000.out))) (Kd.R_lt (by (with_reducible repeat (first | apply Kd.R_alloc | apply Kd.R_drewN | apply Kd.R_drew)); exact HO_243000.out))) (Kd.R_lt (by (with_reducible repeat (first | apply Kd.R_alloc | apply Kd.R_drewN | apply Kd.R_drew)); exact HO_253000.out))) (below_size (by repeat (first | (with_reducible first | exact HB.out | apply below_alloc | apply pw_below_drewN | apply below_drew1 | refine below_set ?_ GE218.out | refine below_set ?_ GE235.out | refine below_set ?_ GE242.out | refine below_set ?_ GE252.out) | exact HB.out)))); have n7_ := Aside0.mk (Kd.R_lower (Kd.R_new' (Kd.R_new' (Kd.R_new' ho1 (Kd.R_lt (by (with_reducible repeat (first | apply Kd.R_alloc | apply Kd.R_drewN | apply Kd.R_drew)); exact HO_236001.out))) (Kd.R_lt (by (with_reducible repeat (first | apply Kd.R_alloc | apply Kd.R_drewN | apply Kd.R_drew)); exact HO_243001.out))) (Kd.R_lt (by (with_reducible repeat (first | apply Kd.R_alloc | apply Kd.R_drewN | apply Kd.R_drew)); exact HO_253001.out))) (below_size (by repeat (first | (with_reducible first | exact HB.out | apply below_alloc | apply pw_below_drewN | apply below_drew1 | refine below_set ?_ GE218.out | refine below_set ?_ GE235.out | refine below_set ?_ GE242.out | refine below_set ?_ GE252.out) | exact HB.out)))); have n8_ := Aside0.mk (blk_below (g := gb218) (o := _) (by (with_reducible repeat (first | apply bN | apply bD | apply bA)); exact BK218.out) hb); have n9_ := Aside0.mk (blk_below (g := gb235) (o := _) (by (with_reducible repeat (first | apply bN | apply bD | apply bA)); exact BK235.out) hb); have n10_ := Aside0.mk (blk_below (g := gb242) (o := _) (by (with_reducible repeat (first | apply bN | apply bD | apply bA)); exact BK242.out) hb); have n11_ := Aside0.mk (blk_below (g := gb252) (o := _) (by (with_reducible repeat (first | apply bN | apply bD | apply bA)); exact BK252.out) hb); have n12_ := Aside0.mk (below_step (by repeat (first | (with_reducible first | exact HB.out | apply below_alloc | apply pw_below_drewN | apply below_drew1 | refine below_set ?_ GE218.out | refine below_set ?_ GE235.out | refine below_set ?_ GE242.out | refine below_set ?_ GE252.out) | exact HB.out)) hb); clear HO_236000; clear HO_236001; clear HO_243000; clear HO_243001; clear HO_253000; clear HO_253001; clear BK218; clear BK235; clear BK242; clear BK252; clear HB; have HO_236000 := n0_; have HO_236001 := n1_; have HO_243000 := n2_; have HO_243001 := n3_; have HO_253000 := n4_; have HO_253001 := n5_; have HO277 := n6_; have HO280 := n7_; have BK218 := n8_; have BK235 := n9_; have BK242 := n10_; have BK252 := n11_; have HB := n12_; clear n0_ n1_ n2_ n3_ n4_ n5_ n6_ n7_ n8_ n9_ n10_ n11_ n12_; (try clear hb); (try clear hb2); (try clear hk); (try clear hi); (try clear ho0); (try clear ho1)) | ((with_reducible refine gate_callee (f := 34) rfl ?_); refine goesL_ (some 76) rfl rfl Try.func34 (by kernel_rfl) rfl #[.slice A1 l1.length c1] rfl (by (try simp only [List.map_toArray, List.map_cons, List.map_nil]); first | done | rfl | (simp only [List.length_drop, List.length_take]; rfl)) ?_; (with_reducible refine (laws_toBoolS.calls kj99 _ _ l1 t281 _ ?side1 ?side2 A103.out).mono ?_); (case side1 => repeat (first | exact (Kd.C_below HR1.out HB.out) | (with_reducible refine Kd.C_alloc ?_ _) | (with_reducible refine Kd.C_drewN ?_ _) | (with_reducible refine Kd.C_drew ?_))); (case side2 => exact HC1.out); rintro e w112 ⟨v282, rfl, ho0, hb⟩; refine ⟨_, rfl, ?_⟩; have n0_ := Aside0.mk (Kd.R_below (by (with_reducible repeat (first | apply Kd.R_alloc | apply Kd.R_drewN | apply Kd.R_drew)); exact HO_236000.out) hb); have n1_ := Aside0.mk (Kd.R_below (by (with_reducible repeat (first | apply Kd.R_alloc | apply Kd.R_drewN | apply Kd.R_drew)); exact HO_236001.out) hb); have n2_ := Aside0.mk (Kd.R_below (by (with_reducible repeat (first | apply Kd.R_alloc | apply Kd.R_drewN | apply Kd.R_drew)); exact HO_243000.out) hb); have n3_ := Aside0.mk (Kd.R_below (by (with_reducible repeat (first | apply Kd.R_alloc | apply Kd.R_drewN | apply Kd.R_drew)); exact HO_243001.out) hb); have n4_ := Aside0.mk (Kd.R_below (by (with_reducible repeat (first | apply Kd.R_alloc | apply Kd.R_drewN | apply Kd.R_drew)); exact HO_253000.out) hb); have n5_ := Aside0.mk (Kd.R_below (by (with_reducible repeat (first | apply Kd.R_alloc | apply Kd.R_drewN | apply Kd.R_drew)); exact HO_253001.out) hb); have n6_ := Aside0.mk (Kd.R_below (by (with_reducible repeat (first | apply Kd.R_alloc | apply Kd.R_drewN | apply Kd.R_drew)); exact HO277.out) hb); have n7_ := Aside0.mk (Kd.R_below (by (with_reducible repeat (first | apply Kd.R_alloc | apply Kd.R_drewN | apply Kd.R_drew)); exact HO280.out) hb); have n8_ := Aside0.mk (Kd.R_lower ho0 (below_size (by repeat (first | (with_reducible first | exact HB.out | apply below_alloc | apply pw_below_drewN | apply below_drew1 | refine below_set ?_ GE218.out | refine below_set ?_ GE235.out | refine below_set ?_ GE242.out | refine below_set ?_ GE252.out) | exact HB.out)))); have n9_ := Aside0.mk (blk_below (g := gb218) (o := _) (by (with_reducible repeat (first | apply bN | apply bD | apply bA)); exact BK218.out) hb); have n10_ := Aside0.mk (blk_below (g := gb235) (o := _) (by (with_reducible repeat (first | apply bN | apply bD | apply bA)); exact BK235.out) hb); have n11_ := Aside0.mk (blk_below (g := gb242) (o := _) (by (with_reducible repeat (first | apply bN | apply bD | apply bA)); exact BK242.out) hb); have n12_ := Aside0.mk (blk_below (g := gb252) (o := _) (by (with_reducible repeat (first | apply bN | apply bD | apply bA)); exact BK252.out) hb); have n13_ := Aside0.mk (below_step (by repeat (first | (with_reducible first | exact HB.out | apply below_alloc | apply pw_below_drewN | apply below_drew1 | refine below_set ?_ GE218.out | refine below_set ?_ GE235.out | refine below_set ?_ GE242.out | refine below_set ?_ GE252.out) | exact HB.out)) hb); clear HO_236000; clear HO_236001; clear HO_243000; clear HO_243001; clear HO_253000; clear HO_253001; clear HO277; clear HO280; clear BK218; clear BK235; clear BK242; clear BK252; clear HB; have HO_236000 := n0_; have HO_236001 := n1_; have HO_243000 := n2_; have HO_243001 := n3_; have HO_253000 := n4_; have HO_253001 := n5_; have HO277 := n6_; have HO280 := n7_; have HO283 := n8_; have BK218 := n9_; have BK235 := n10_; have BK242 := n11_; have BK252 := n12_; have HB := n13_; clear n0_ n1_ n2_ n3_ n4_ n5_ n6_ n7_ n8_ n9_ n10_ n11_ n12_ n13_; (try clear hb); (try clear hb2); (try clear hk); (try clear hi); (try clear ho0); obtain ⟨Ao113, co113, eo113⟩ := Kd.R_slice HO277.out; subst eo113; obtain ⟨Ao114, co114, eo114⟩ := Kd.R_slice HO280.out; subst eo114; obtain ⟨Ao115, co115, eo115⟩ := Kd.R_slice HO283.out; subst eo115) | ((with_reducible refine gate_callee (f := 35) rfl ?_); refine goesL_ (some 77) rfl rfl Try.func35 (by kernel_rfl) rfl #[.agg #[.slice Ao113 t275.length co113, .slice Ao114 t278.length co114], .slice Ao115 t281.length co115] rfl (by (try simp only [List.map_toArray, List.map_cons, List.map_nil]); first | done | rfl | (simp only [List.length_drop, List.length_take]; rfl)) ?_; (with_reducible refine (impl_Fall.calls kj99 _ _ t275 _ _ t278 _ _ t281 t284 t287 _ ?side1 ?side2 ?side3 ?side4 ?side5 ?side6 A104.out).mono ?_); (case side1 => repeat (first | exact (Kd.R_reads' HO277.out).2.2 | (with_reducible refine Kd.C_alloc ?_ _) | (with_reducible refine Kd.C_drewN ?_ _) | (with_reducible refine Kd.C_drew ?_))); (case side2 => exact (Kd.R_reads' HO277.out).2.1); (case side3 => repeat (first | exact (Kd.R_reads' HO280.out).2.2 | (with_reducible refine Kd.C_alloc ?_ _) | (with_reducible refine Kd.C_drewN ?_ _) | (with_reducible refine Kd.C_drew ?_))); (case side4 => exact (Kd.R_reads' HO280.out).2.1); (case side5 => repeat (first | exact (Kd.R_reads' HO283.out).2.2 | (with_reducible refine Kd.C_alloc ?_ _) | (with_reducible refine Kd.C_drewN ?_ _) | (with_reducible refine Kd.C_drew ?_))); (case side6 => exact (Kd.R_reads' HO283.out).2.1); rintro e w116 ⟨v285, v288, rfl, ho0, ho1, hb⟩; refine ⟨_, rfl, ?_⟩; have n0_ := Aside0.mk (Kd.R_elder' (by (with_reducible repeat (first | apply Kd.R_alloc | apply Kd.R_drewN | apply Kd.R_drew)); exact HO_236000.out) (Kd.R_base ho0) hb); have n1_ := Aside0.mk (Kd.R_elder' (by (with_reducible repeat (first | apply Kd.R_alloc | apply Kd.R_drewN | apply Kd.R_drew)); exact HO_236001.out) (Kd.R_base ho1) hb); have n2_ := Aside0.mk (Kd.R_elder' (by (with_reducible repeat (first | apply Kd.R_alloc | apply Kd.R_drewN | apply Kd.R_drew)); exact HO_243000.out) (Kd.R_base ho0) hb); have n3_ := Aside0.mk (Kd.R_elder' (by (with_reducible repeat (first | apply Kd.R_alloc | apply Kd.R_drewN | apply Kd.R_drew)); exact HO_243001.out) (Kd.R_base ho1) hb); have n4_ := Aside0.mk (Kd.R_elder' (by (with_reducible repeat (first | apply Kd.R_alloc | apply Kd.R_drewN | apply Kd.R_drew)); exact HO_253000.out) (Kd.R_base ho0) hb); have n5_ := Aside0.mk (Kd.R_elder' (by (with_reducible repeat (first | apply Kd.R_alloc | apply Kd.R_drewN | apply Kd.R_drew)); exact HO_253001.out) (Kd.R_base ho1) hb); have n6_ := Aside0.mk (Kd.R_elder' (by (with_reducible repeat (first | apply Kd.R_alloc | apply Kd.R_drewN | apply Kd.R_drew)); exact HO277.out) (Kd.R_base ho0) hb); have n7_ := Aside0.mk (Kd.R_elder' (by (with_reducible repeat (first | apply Kd.R_alloc | apply Kd.R_drewN | apply Kd.R_drew)); exact HO280.out) (Kd.R_base ho1) hb); have n8_ := Aside0.mk (Kd.R_below (by (with_reducible repeat (first | apply Kd.R_alloc | apply Kd.R_drewN | apply Kd.R_drew)); exact HO283.out) hb); have n9_ := Aside0.mk (Kd.R_lower (Kd.R_new' (Kd.R_new' (Kd.R_new' (Kd.R_new' ho0 (Kd.R_lt (by (with_reducible repeat (first | apply Kd.R_alloc | apply Kd.R_drewN | apply Kd.R_drew)); exact HO_236000.out))) (Kd.R_lt (by (with_reducible repeat (first | apply Kd.R_alloc | apply Kd.R_drewN | apply Kd.R_drew)); exact HO_243000.out))) (Kd.R_lt (by (with_reducible repeat (first | apply Kd.R_alloc | apply Kd.R_drewN | apply Kd.R_drew)); exact HO_253000.out))) (Kd.R_lt (by (with_reducible repeat (first | apply Kd.R_alloc | apply Kd.R_drewN | apply Kd.R_drew)); exact HO277.out))) (below_size (by repeat (first | (with_reducible first | exact HB.out | apply below_alloc | apply pw_below_drewN | apply below_drew1 | refine below_set ?_ GE218.out | refine below_set ?_ GE235.out | refine below_set ?_ GE242.out | refine below_set ?_ GE252.out) | exact HB.out)))); have n10_ := Aside0.mk (Kd.R_lower (Kd.R_new' (Kd.R_new' (Kd.R_new' (Kd.R_new' ho1 (Kd.R_lt (by (with_reducible repeat (first | apply Kd.R_alloc | apply Kd.R_drewN | apply Kd.R_drew)); exact HO_236001.out))) (Kd.R_lt (by (with_reducible repeat (first | apply Kd.R_alloc | apply Kd.R_drewN | apply Kd.R_drew)); exact HO_243001.out))) (Kd.R_lt (by (with_reducible repeat (first | apply Kd.R_alloc | apply Kd.R_drewN | apply Kd.R_drew)); exact HO_253001.out))) (Kd.R_lt (by (with_reducible repeat (first | apply Kd.R_alloc | apply Kd.R_drewN | apply Kd.R_drew)); exact HO280.out))) (below_size (by repeat (first | (with_reducible first | exact HB.out | apply below_alloc | apply pw_below_drewN | apply below_drew1 | refine below_set ?_ GE218.out | refine below_set ?_ GE235.out | refine below_set ?_ GE242.out | refine below_set ?_ GE252.out) | exact HB.out)))); have n11_ := Aside0.mk (blk_below (g := gb218) (o := _) (by (with_reducible repeat (first | apply bN | apply bD | apply bA)); exact BK218.out) hb); have n12_ := Aside0.mk (blk_below (g := gb235) (o := _) (by (with_reducible repeat (first | apply bN | apply bD | apply bA)); exact BK235.out) hb); have n13_ := Aside0.mk (blk_below (g := gb242) (o := _) (by (with_reducible repeat (first | apply bN | apply bD | apply bA)); exact BK242.out) hb); have n14_ := Aside0.mk (blk_below (g := gb252) (o := _) (by (with_reducible repeat (first | apply bN | apply bD | apply bA)); exact BK252.out) hb); have n15_ := Aside0.mk (below_step (by repeat (first | (with_reducible first | exact HB.out | apply below_alloc | apply pw_below_drewN | apply below_drew1 | refine below_set ?_ GE218.out | refine below_set ?_ GE235.out | refine below_set ?_ GE242.out | refine below_set ?_ GE252.out) | exact HB.out)) hb); clear HO_236000; clear HO_236001; clear HO_243000; clear HO_243001; clear HO_253000; clear HO_253001; clear HO277; clear HO280; clear HO283; clear BK218; clear BK235; clear BK242; clear BK252; clear HB; have HO_236000 := n0_; have HO_236001 := n1_; have HO_243000 := n2_; have HO_243001 := n3_; have HO_253000 := n4_; have HO_253001 := n5_; have HO277 := n6_; have HO280 := n7_; have HO283 := n8_; have HO286 := n9_; have HO289 := n10_; have BK218 := n11_; have BK235 := n12_; have BK242 := n13_; have BK252 := n14_; have HB := n15_; clear n0_ n1_ n2_ n3_ n4_ n5_ n6_ n7_ n8_ n9_ n10_ n11_ n12_ n13_ n14_ n15_; (try clear hb); (try clear hb2); (try clear hk); (try clear hi); (try clear ho0); (try clear ho1)) | ((with_reducible refine gate_dst (N := 13) rfl ?_); refine box_event ?hg (N := 13) ?hd (cs := #[.slice none 0 0, .slice none 0 0]) (t := 30) ?hr ?_; (case hd => rfl); (case hg => rfl); (case hr => first | (go_simp; done) | (go_simp; rfl)); intro gb290 hg w117 hbox hb; have n0_ := Aside0.mk (Kd.R_below (by (with_reducible repeat (first | apply Kd.R_alloc | apply Kd.R_drewN | apply Kd.R_drew)); exact HO_236000.out) hb); have n1_ := Aside0.mk (Kd.R_below (by (with_reducible repeat (first | apply Kd.R_alloc | apply Kd.R_drewN | apply Kd.R_drew)); exact HO_236001.out) hb); have n2_ := Aside0.mk (Kd.R_below (by (with_reducible repeat (first | apply Kd.R_alloc | apply Kd.R_drewN | apply Kd.R_drew)); exact HO_243000.out) hb); have n3_ := Aside0.mk (Kd.R_below (by (with_reducible repeat (first | apply Kd.R_alloc | apply Kd.R_drewN | apply Kd.R_drew)); exact HO_243001.out) hb); have n4_ := Aside0.mk (Kd.R_below (by (with_reducible repeat (first | apply Kd.R_alloc | apply Kd.R_drewN | apply Kd.R_drew)); exact HO_253000.out) hb); have n5_ := Aside0.mk (Kd.R_below (by (with_reducible repeat (first | apply Kd.R_alloc | apply Kd.R_drewN | apply Kd.R_drew)); exact HO_253001.out) hb); have n6_ := Aside0.mk (Kd.R_below (by (with_reducible repeat (first | apply Kd.R_alloc | apply Kd.R_drewN | apply Kd.R_drew)); exact HO277.out) hb); have n7_ := Aside0.mk (Kd.R_below (by (with_reducible repeat (first | apply Kd.R_alloc | apply Kd.R_drewN | apply Kd.R_drew)); exact HO280.out) hb); have n8_ := Aside0.mk (Kd.R_below (by (with_reducible repeat (first | apply Kd.R_alloc | apply Kd.R_drewN | apply Kd.R_drew)); exact HO283.out) hb); have n9_ := Aside0.mk (Kd.R_below (by (with_reducible repeat (first | apply Kd.R_alloc | apply Kd.R_drewN | apply Kd.R_drew)); exact HO286.out) hb); have n10_ := Aside0.mk (Kd.R_below (by (with_reducible repeat (first | apply Kd.R_alloc | apply Kd.R_drewN | apply Kd.R_drew)); exact HO289.out) hb); have n11_ := Aside0.mk (blk_below (g := gb218) (o := _) (by (with_reducible repeat (first | apply bN | apply bD | apply bA)); exact BK218.out) hb); have n12_ := Aside0.mk (blk_below (g := gb235) (o := _) (by (with_reducible repeat (first | apply bN | apply bD | apply bA)); exact BK235.out) hb); have n13_ := Aside0.mk (blk_below (g := gb242) (o := _) (by (with_reducible repeat (first | apply bN | apply bD | apply bA)); exact BK242.out) hb); have n14_ := Aside0.mk (blk_below (g := gb252) (o := _) (by (with_reducible repeat (first | apply bN | apply bD | apply bA)); exact BK252.out) hb); have n15_ := Aside0.mk (below_step (by repeat (first | (with_reducible first | exact HB.out | apply below_alloc | apply pw_below_drewN | apply below_drew1 | refine below_set ?_ GE218.out | refine below_set ?_ GE235.out | refine below_set ?_ GE242.out | refine below_set ?_ GE252.out) | exact HB.out)) hb); have n16_ := Aside0.mk (hbox); have n17_ := Aside0.mk ((by rw [hg]; exact (below_size (by repeat (first | (with_reducible first | exact HB.out | apply below_alloc | apply pw_below_drewN | apply below_drew1 | refine below_set ?_ GE218.out | refine below_set ?_ GE235.out | refine below_set ?_ GE242.out | refine below_set ?_ GE252.out) | exact HB.out))) : w.heap.size ≤ gb290)); have n18_ := Aside0.mk ((by rw [hg]; exact (below_size (by repeat (first | (with_reducible first | exact HB.out | apply below_alloc | apply pw_below_drewN | apply below_drew1 | refine below_set ?_ GE218.out | refine below_set ?_ GE235.out | refine below_set ?_ GE242.out | refine below_set ?_ GE252.out) | exact HB.out))) : w.heap.size ≤ gb290)); have n19_ := Aside0.mk ((by rw [hg]; exact Nat.ne_of_lt (blk_lt (g := gb218) (o := _) (by (with_reducible repeat (first | apply bN | apply bD | apply bA)); exact BK218.out)) : gb218 ≠ gb290)); have n20_ := Aside0.mk ((by rw [hg]; exact Nat.ne_of_gt (blk_lt (g := gb218) (o := _) (by (with_reducible repeat (first | apply bN | apply bD | apply bA)); exact BK218.out)) : gb290 ≠ gb218)); have n21_ := Aside0.mk ((by rw [hg]; exact Nat.ne_of_lt (blk_lt (g := gb235) (o := _) (by (with_reducible repeat (first | apply bN | apply bD | apply bA)); exact BK235.out)) : gb235 ≠ gb290)); have n22_ := Aside0.mk ((by rw [hg]; exact Nat.ne_of_gt (blk_lt (g := gb235) (o := _) (by (with_reducible repeat (first | apply bN | apply bD | apply bA)); exact BK235.out)) : gb290 ≠ gb235)); have n23_ := Aside0.mk ((by rw [hg]; exact Nat.ne_of_lt (blk_lt (g := gb242) (o := _) (by (with_reducible repeat (first | apply bN | apply bD | apply bA)); exact BK242.out)) : gb242 ≠ gb290)); have n24_ := Aside0.mk ((by rw [hg]; exact Nat.ne_of_gt (blk_lt (g := gb242) (o := _) (by (with_reducible repeat (first | apply bN | apply bD | apply bA)); exact BK242.out)) : gb290 ≠ gb242)); have n25_ := Aside0.mk ((by rw [hg]; exact Nat.ne_of_lt (blk_lt (g := gb252) (o := _) (by (with_reducible repeat (first | apply bN | apply bD | apply bA)); exact BK252.out)) : gb252 ≠ gb290)); have n26_ := Aside0.mk ((by rw [hg]; exact Nat.ne_of_gt (blk_lt (g := gb252) (o := _) (by (with_reducible repeat (first | apply bN | apply bD | apply bA)); exact BK252.out)) : gb290 ≠ gb252)); clear HO_236000; clear HO_236001; clear HO_243000; clear HO_243001; clear HO_253000; clear HO_253001; clear HO277; clear HO280; clear HO283; clear HO286; clear HO289; clear BK218; clear BK235; clear BK242; clear BK252; clear HB; have HO_236000 := n0_; have HO_236001 := n1_; have HO_243000 := n2_; have HO_243001 := n3_; have HO_253000 := n4_; have HO_253001 := n5_; have HO277 := n6_; have HO280 := n7_; have HO283 := n8_; have HO286 := n9_; have HO289 := n10_; have BK218 := n11_; have BK235 := n12_; have BK242 := n13_; have BK252 := n14_; have HB := n15_; have BK290 := n16_; have GW290 := n17_; have GE290 := n18_; have NB218_290 := n19_; have NB290_218 := n20_; have NB235_290 := n21_; have NB290_235 := n22_; have NB242_290 := n23_; have NB290_242 := n24_; have NB252_290 := n25_; have NB290_252 := n26_; clear n0_ n1_ n2_ n3_ n4_ n5_ n6_ n7_ n8_ n9_ n10_ n11_ n12_ n13_ n14_ n15_ n16_ n17_ n18_ n19_ n20_ n21_ n22_ n23_ n24_ n25_ n26_; clear hb hbox hg; obtain ⟨Ao118, co118, eo118⟩ := Kd.R_slice HO286.out; subst eo118; have hnb119 := NB290_218.out; have hnc119 := NB218_290.out; have hnb120 := NB290_235.out; have hnc120 := NB235_290.out; have hnb121 := NB290_242.out; have hnc121 := NB242_290.out; have hnb122 := NB290_252.out; have hnc122 := NB252_290.out; have hcz123_0 : w117.cell? ⟨gb290, 0, none⟩ = some (.slice none 0 0) := (blk_cell BK290.out 0).trans rfl; have hcz123_1 : w117.cell? ⟨gb290, 1, none⟩ = some (.slice none 0 0) := (blk_cell BK290.out 1).trans rfl; have hfz123_0 := blk_frozen BK290.out 0; have hfz123_1 := blk_frozen BK290.out 1; obtain ⟨Ao124, co124, eo124⟩ := Kd.R_slice HO289.out; subst eo124; have hnb125 := NB235_242.out; have hnc125 := NB242_235.out; have hnb126 := NB235_252.out; have hnc126 := NB252_235.out; have hcz127_0 : w117.cell? ⟨gb235, 0, none⟩ = some (.slice Ao27 t229.length co27) := (blk_cell BK235.out 0).trans rfl; have hcz127_1 : w117.cell? ⟨gb235, 1, none⟩ = some (.slice Ao30 t232.length co30) := (blk_cell BK235.out 1).trans rfl; have hfz127_0 := blk_frozen BK235.out 0; have hfz127_1 := blk_frozen BK235.out 1) | ((with_reducible refine gate_callee (f := 19) rfl ?_); refine goesL_ (some 80) rfl rfl Try.func19 (by kernel_rfl) rfl #[.agg #[.slice Ao118 t284.length co118, .slice Ao124 t287.length co124], .agg #[.slice Ao27 t229.length co27, .slice Ao30 t232.length co30]] rfl (by (try simp only [List.map_toArray, List.map_cons, List.map_nil]); first | done | rfl | (simp only [List.length_drop, List.length_take]; rfl)) ?_; (with_reducible refine (laws_eqDisk.calls kj99 _ _ t284 _ _ t287 _ _ t229 _ _ t232 t291 _ ?side1 ?side2 ?side3 ?side4 ?side5 ?side6 ?side7 ?side8 A105.out).mono ?_); (case side1 => refine (Kd.R_reads' (e := 9) (base := w.heap.size) (ok := fun k_ => ((((True ∧ some k_ ≠ (.slice Ao27 t229.length co27 : Value).ownBlock) ∧ some k_ ≠ (.slice Ao34 t266.length co34 : Value).ownBlock) ∧ some k_ ≠ (.slice Ao44 t272.length co44 : Value).ownBlock) ∧ some k_ ≠ (.slice Ao113 t275.length co113 : Value).ownBlock)) (n := t284.length) (c := co118) ?_).2.2; exact (by (with_reducible repeat (first | apply Kd.R_alloc | apply Kd.R_drewN | apply Kd.R_drew)); exact (Kd.R_mono (Kd.R_far (p := ⟨gb290, 1, none⟩) (Kd.R_far (p := ⟨gb290, 0, none⟩) (Kd.R_types HO286.out BK290.out (by decide)) (fun _ hk => hk.2) (.slice Ao118 t284.length co118)) (fun _ hk => hk.2) (.slice Ao124 t287.length co124)) (fun _ h_ => h_.1)))); (case side2 => exact (Kd.R_reads' HO286.out).2.1); (case side3 => refine (Kd.R_reads' (e := 65) (base := w.heap.size) (ok := fun k_ => ((((True ∧ some k_ ≠ (.slice Ao30 t232.length co30 : Value).ownBlock) ∧ some k_ ≠ (.slice Ao38 t267.length co38 : Value).ownBlock) ∧ some k_ ≠ (.slice Ao49 t273.length co49 : Value).ownBlock) ∧ some k_ ≠ (.slice Ao114 t278.length co114 : Value).ownBlock)) (n := t287.length) (c := co124) ?_).2.2; exact (by (with_reducible repeat (first | apply Kd.R_alloc | apply Kd.R_drewN | apply Kd.R_drew)); exact (Kd.R_mono (Kd.R_far (p := ⟨gb290, 1, none⟩) (Kd.R_far (p := ⟨gb290, 0, none⟩) (Kd.R_types HO289.out BK290.out (by decide)) (fun _ hk => hk.2) (.slice Ao118 t284.length co118)) (fun _ hk => hk.2) (.slice Ao124 t287.length co124)) (fun _ h_ => h_.1)))); (case side4 => exact (Kd.R_reads' HO289.out).2.1); (case side5 => refine (Kd.R_reads' (e := 9) (base := w.heap.size) (ok := fun k_ => (((some k_ ≠ (.slice Ao34 t266.length co34 : Value).ownBlock ∧ some k_ ≠ (.slice Ao44 t272.length co44 : Value).ownBlock) ∧ some k_ ≠ (.slice Ao113 t275.length co113 : Value).ownBlock) ∧ some k_ ≠ (.slice Ao118 t284.length co118 : Value).ownBlock)) (n := t229.length) (c := co27) ?_).2.2; exact (by (with_reducible repeat (first | apply Kd.R_alloc | apply Kd.R_drewN | apply Kd.R_drew)); exact (Kd.R_mono (Kd.R_far (p := ⟨gb290, 1, none⟩) (Kd.R_far (p := ⟨gb290, 0, none⟩) (Kd.R_types HO_236000.out BK290.out (by decide)) (fun _ hk => hk.2) (.slice Ao118 t284.length co118)) (fun _ hk => hk.2) (.slice Ao124 t287.length co124)) (fun _ h_ => h_.1)))); (case side6 => exact (Kd.R_reads' HO_236000.out).2.1); (case side7 => refine (Kd.R_reads' (e := 65) (base := w.heap.size) (ok := fun k_ => (((some k_ ≠ (.slice Ao38 t267.length co38 : Value).ownBlock ∧ some k_ ≠ (.slice Ao49 t273.length co49 : Value).ownBlock) ∧ some k_ ≠ (.slice Ao114 t278.length co114 : Value).ownBlock) ∧ some k_ ≠ (.slice Ao124 t287.length co124 : Value).ownBlock)) (n := t232.length) (c := co30) ?_).2.2; exact (by (with_reducible repeat (first | apply Kd.R_alloc | apply Kd.R_drewN | apply Kd.R_drew)); exact (Kd.R_mono (Kd.R_far (p := ⟨gb290, 1, none⟩) (Kd.R_far (p := ⟨gb290, 0, none⟩) (Kd.R_types HO_236001.out BK290.out (by decide)) (fun _ hk => hk.2) (.slice Ao118 t284.length co118)) (fun _ hk => hk.2) (.slice Ao124 t287.length co124)) (fun _ h_ => h_.1)))); (case side8 => exact (Kd.R_reads' HO_236001.out).2.1); rintro e w128 ⟨rfl, hb⟩; refine ⟨_, rfl, ?_⟩; have n0_ := Aside0.mk (Kd.R_below (by (with_reducible repeat (first | apply Kd.R_alloc | apply Kd.R_drewN | apply Kd.R_drew)); exact (Kd.R_mono (Kd.R_far (p := ⟨gb290, 1, none⟩) (Kd.R_far (p := ⟨gb290, 0, none⟩) (Kd.R_types HO_236000.out BK290.out (by decide)) (fun _ hk => hk.2) (.slice Ao118 t284.length co118)) (fun _ hk => hk.2) (.slice Ao124 t287.length co124)) (fun _ h_ => h_.1))) hb); have n1_ := Aside0.mk (Kd.R_below (by (with_reducible repeat (first | apply Kd.R_alloc | apply Kd.R_drewN | apply Kd.R_drew)); exact (Kd.R_mono (Kd.R_far (p := ⟨gb290, 1, none⟩) (Kd.R_far (p := ⟨gb290, 0, none⟩) (Kd.R_types HO_236001.out BK290.out (by decide)) (fun _ hk => hk.2) (.slice Ao118 t284.length co118)) (fun _ hk => hk.2) (.slice Ao124 t287.length co124)) (fun _ h_ => h_.1))) hb); have n2_ := Aside0.mk (Kd.R_below (by (with_reducible repeat (first | apply Kd.R_alloc | apply Kd.R_drewN | apply Kd.R_drew)); exact (Kd.R_mono (Kd.R_far (p := ⟨gb290, 1, none⟩) (Kd.R_far (p := ⟨gb290, 0, none⟩) (Kd.R_types HO_243000.out BK290.out (by decide)) (fun _ hk => hk.2) (.slice Ao118 t284.length co118)) (fun _ hk => hk.2) (.slice Ao124 t287.length co124)) (fun _ h_ => h_.1))) hb); have n3_ := Aside0.mk (Kd.R_below (by (with_reducible repeat (first | apply Kd.R_alloc | apply Kd.R_drewN | apply Kd.R_drew)); exact (Kd.R_mono (Kd.R_far (p := ⟨gb290, 1, none⟩) (Kd.R_far (p := ⟨gb290, 0, none⟩) (Kd.R_types HO_243001.out BK290.out (by decide)) (fun _ hk => hk.2) (.slice Ao118 t284.length co118)) (fun _ hk => hk.2) (.slice Ao124 t287.length co124)) (fun _ h_ => h_.1))) hb); have n4_ := Aside0.mk (Kd.R_below (by (with_reducible repeat (first | apply Kd.R_alloc | apply Kd.R_drewN | apply Kd.R_drew)); exact (Kd.R_mono (Kd.R_far (p := ⟨gb290, 1, none⟩) (Kd.R_far (p := ⟨gb290, 0, none⟩) (Kd.R_types HO_253000.out BK290.out (by decide)) (fun _ hk => hk.2) (.slice Ao118 t284.length co118)) (fun _ hk => hk.2) (.slice Ao124 t287.length co124)) (fun _ h_ => h_.1))) hb); have n5_ := Aside0.mk (Kd.R_below (by (with_reducible repeat (first | apply Kd.R_alloc | apply Kd.R_drewN | apply Kd.R_drew)); exact (Kd.R_mono (Kd.R_far (p := ⟨gb290, 1, none⟩) (Kd.R_far (p := ⟨gb290, 0, none⟩) (Kd.R_types HO_253001.out BK290.out (by decide)) (fun _ hk => hk.2) (.slice Ao118 t284.length co118)) (fun _ hk => hk.2) (.slice Ao124 t287.length co124)) (fun _ h_ => h_.1))) hb); have n6_ := Aside0.mk (Kd.R_below (by (with_reducible repeat (first | apply Kd.R_alloc | apply Kd.R_drewN | apply Kd.R_drew)); exact (Kd.R_mono (Kd.R_far (p := ⟨gb290, 1, none⟩) (Kd.R_far (p := ⟨gb290, 0, none⟩) (Kd.R_types HO277.out BK290.out (by decide)) (fun _ hk => hk.2) (.slice Ao118 t284.length co118)) (fun _ hk => hk.2) (.slice Ao124 t287.length co124)) (fun _ h_ => h_.1))) hb); have n7_ := Aside0.mk (Kd.R_below (by (with_reducible repeat (first | apply Kd.R_alloc | apply Kd.R_drewN | apply Kd.R_drew)); exact (Kd.R_mono (Kd.R_far (p := ⟨gb290, 1, none⟩) (Kd.R_far (p := ⟨gb290, 0, none⟩) (Kd.R_types HO280.out BK290.out (by decide)) (fun _ hk => hk.2) (.slice Ao118 t284.length co118)) (fun _ hk => hk.2) (.slice Ao124 t287.length co124)) (fun _ h_ => h_.1))) hb); have n8_ := Aside0.mk (Kd.R_below (by (with_reducible repeat (first | apply Kd.R_alloc | apply Kd.R_drewN | apply Kd.R_drew)); exact (Kd.R_mono (Kd.R_far (p := ⟨gb290, 1, none⟩) (Kd.R_far (p := ⟨gb290, 0, none⟩) (Kd.R_types HO283.out BK290.out (by decide)) (fun _ hk => hk.2) (.slice Ao118 t284.length co118)) (fun _ hk => hk.2) (.slice Ao124 t287.length co124)) (fun _ h_ => h_.1))) hb); have n9_ := Aside0.mk (Kd.R_below (by (with_reducible repeat (first | apply Kd.R_alloc | apply Kd.R_drewN | apply Kd.R_drew)); exact (Kd.R_mono (Kd.R_far (p := ⟨gb290, 1, none⟩) (Kd.R_far (p := ⟨gb290, 0, none⟩) (Kd.R_types HO286.out BK290.out (by decide)) (fun _ hk => hk.2) (.slice Ao118 t284.length co118)) (fun _ hk => hk.2) (.slice Ao124 t287.length co124)) (fun _ h_ => h_.1))) hb); have n10_ := Aside0.mk (Kd.R_below (by (with_reducible repeat (first | apply Kd.R_alloc | apply Kd.R_drewN | apply Kd.R_drew)); exact (Kd.R_mono (Kd.R_far (p := ⟨gb290, 1, none⟩) (Kd.R_far (p := ⟨gb290, 0, none⟩) (Kd.R_types HO289.out BK290.out (by decide)) (fun _ hk => hk.2) (.slice Ao118 t284.length co118)) (fun _ hk => hk.2) (.slice Ao124 t287.length co124)) (fun _ h_ => h_.1))) hb); have n11_ := Aside0.mk (blk_below (g := gb218) (o := .cells #[.slice A0_0 l0_0.length c0_0, .slice A0_1 l0_1.length c0_1] 25 (0, 0)) (by (with_reducible repeat (first | apply bN | apply bD | apply bA)); refine blk_far ?_ NB218_290.out _; (with_reducible repeat (first | apply bN | apply bD | apply bA)); refine blk_far ?_ NB218_290.out _; (with_reducible repeat (first | apply bN | apply bD | apply bA)); exact BK218.out) hb); have n12_ := Aside0.mk (blk_below (g := gb235) (o := .cells #[.slice Ao27 t229.length co27, .slice Ao30 t232.length co30] 30 (0, 0)) (by (with_reducible repeat (first | apply bN | apply bD | apply bA)); refine blk_far ?_ NB235_290.out _; (with_reducible repeat (first | apply bN | apply bD | apply bA)); refine blk_far ?_ NB235_290.out _; (with_reducible repeat (first | apply bN | apply bD | apply bA)); exact BK235.out) hb); have n13_ := Aside0.mk (blk_below (g := gb242) (o := .cells #[.slice Ao34 t266.length co34, .slice Ao38 t267.length co38] 30 (0, 0)) (by (with_reducible repeat (first | apply bN | apply bD | apply bA)); refine blk_far ?_ NB242_290.out _; (with_reducible repeat (first | apply bN | apply bD | apply bA)); refine blk_far ?_ NB242_290.out _; (with_reducible repeat (first | apply bN | apply bD | apply bA)); exact BK242.out) hb); have n14_ := Aside0.mk (blk_below (g := gb252) (o := .cells #[.slice Ao44 t272.length co44, .slice Ao49 t273.length co49] 30 (0, 0)) (by (with_reducible repeat (first | apply bN | apply bD | apply bA)); refine blk_far ?_ NB252_290.out _; (with_reducible repeat (first | apply bN | apply bD | apply bA)); refine blk_far ?_ NB252_290.out _; (with_reducible repeat (first | apply bN | apply bD | apply bA)); exact BK252.out) hb); have n15_ := Aside0.mk (blk_below (g := gb290) (o := .cells #[.slice Ao118 t284.length co118, .slice Ao124 t287.length co124] 30 (0, 0)) (by (with_reducible repeat (first | apply bN | apply bD | apply bA)); refine blk_put (cs := #[.slice Ao118 t284.length co118, .slice none 0 0]) ?_ 1 _ rfl; (with_reducible repeat (first | apply bN | apply bD | apply bA)); refine blk_put (cs := #[.slice none 0 0, .slice none 0 0]) ?_ 0 _ rfl; (with_reducible repeat (first | apply bN | apply bD | apply bA)); exact BK290.out) hb); have n16_ := Aside0.mk (below_step (by repeat (first | (with_reducible first | exact HB.out | apply below_alloc | apply pw_below_drewN | apply below_drew1 | refine below_set ?_ GE218.out | refine below_set ?_ GE235.out | refine below_set ?_ GE242.out | refine below_set ?_ GE252.out | refine below_set ?_ GE290.out) | exact HB.out)) hb); clear HO_236000; clear HO_236001; clear HO_243000; clear HO_243001; clear HO_253000; clear HO_253001; clear HO277; clear HO280; clear HO283; clear HO286; clear HO289; clear BK218; clear BK235; clear BK242; clear BK252; clear BK290; clear HB; have HO_236000 := n0_; have HO_236001 := n1_; have HO_243000 := n2_; have HO_243001 := n3_; have HO_253000 := n4_; have HO_253001 := n5_; have HO277 := n6_; have HO280 := n7_; have HO283 := n8_; have HO286 := n9_; have HO289 := n10_; have BK218 := n11_; have BK235 := n12_; have BK242 := n13_; have BK252 := n14_; have BK290 := n15_; have HB := n16_; clear n0_ n1_ n2_ n3_ n4_ n5_ n6_ n7_ n8_ n9_ n10_ n11_ n12_ n13_ n14_ n15_ n16_; (try clear hb); (try clear hb2); (try clear hk); (try clear hi)))
                   (try simp only [Act.put, List.setIfInBounds_toArray, List.set_cons_zero, List.set_cons_succ])
                   go_cut [] (fun wc => ∃ (kq : Nat), Aside0 (laws_FnExactFall.j9 kq t271 t272 t273 = some r) ∧ Aside0 (kq ≤ kj99) ∧ Aside0 (Kd.R Kd.string 9 wc w.heap.size (fun k_ => some k_ ≠ ((.slice Ao34 t266.length co34) : Value).ownBlock ∧ some k_ ≠ ((.slice Ao44 t272.length co44) : Value).ownBlock ∧ some k_ ≠ ((.slice Ao118 t284.length co118) : Value).ownBlock) (.slice Ao27 t229.length co27) t229) ∧ Aside0 (Kd.R k65 65 wc w.heap.size (fun k_ => some k_ ≠ ((.slice Ao38 t267.length co38) : Value).ownBlock ∧ some k_ ≠ ((.slice Ao49 t273.length co49) : Value).ownBlock ∧ some k_ ≠ ((.slice Ao124 t287.length co124) : Value).ownBlock) (.slice Ao30 t232.length co30) t232) ∧ Aside0 (Kd.R Kd.string 9 wc w.heap.size (fun k_ => some k_ ≠ ((.slice Ao27 t229.length co27) : Value).ownBlock ∧ some k_ ≠ ((.slice Ao44 t272.length co44) : Value).ownBlock ∧ some k_ ≠ ((.slice Ao118 t284.length co118) : Value).ownBlock) (.slice Ao34 t266.length co34) t266) ∧ Aside0 (Kd.R k65 65 wc w.heap.size (fun k_ => some k_ ≠ ((.slice Ao30 t232.length co30) : Value).ownBlock ∧ some k_ ≠ ((.slice Ao49 t273.length co49) : Value).ownBlock ∧ some k_ ≠ ((.slice Ao124 t287.length co124) : Value).ownBlock) (.slice Ao38 t267.length co38) t267) ∧ Aside0 (Kd.R Kd.string 9 wc w.heap.size (fun k_ => some k_ ≠ ((.slice Ao27 t229.length co27) : Value).ownBlock ∧ some k_ ≠ ((.slice Ao34 t266.length co34) : Value).ownBlock ∧ some k_ ≠ ((.slice Ao118 t284.length co118) : Value).ownBlock) (.slice Ao44 t272.length co44) t272) ∧ Aside0 (Kd.R k65 65 wc w.heap.size (fun k_ => some k_ ≠ ((.slice Ao30 t232.length co30) : Value).ownBlock ∧ some k_ ≠ ((.slice Ao38 t267.length co38) : Value).ownBlock ∧ some k_ ≠ ((.slice Ao124 t287.length co124) : Value).ownBlock) (.slice Ao49 t273.length co49) t273) ∧ Aside0 (Kd.R Kd.string 9 wc w.heap.size (fun k_ => some k_ ≠ ((.slice Ao27 t229.length co27) : Value).ownBlock ∧ some k_ ≠ ((.slice Ao34 t266.length co34) : Value).ownBlock ∧ some k_ ≠ ((.slice Ao44 t272.length co44) : Value).ownBlock) (.slice Ao118 t284.length co118) t284) ∧ Aside0 (Kd.R k65 65 wc w.heap.size (fun k_ => some k_ ≠ ((.slice Ao30 t232.length co30) : Value).ownBlock ∧ some k_ ≠ ((.slice Ao38 t267.length co38) : Value).ownBlock ∧ some k_ ≠ ((.slice Ao49 t273.length co49) : Value).ownBlock) (.slice Ao124 t287.length co124) t287) ∧ Aside0 (wc.heap[gb218]? = some (.cells #[(.slice A0_0 l0_0.length c0_0), (.slice A0_1 l0_1.length c0_1)] 25 (0, 0))) ∧ Aside0 (wc.heap[gb235]? = some (.cells #[(.slice Ao27 t229.length co27), (.slice Ao30 t232.length co30)] 30 (0, 0))) ∧ Aside0 (wc.heap[gb242]? = some (.cells #[(.slice Ao34 t266.length co34), (.slice Ao38 t267.length co38)] 30 (0, 0))) ∧ Aside0 (wc.heap[gb252]? = some (.cells #[(.slice Ao44 t272.length co44), (.slice Ao49 t273.length co49)] 30 (0, 0))) ∧ Aside0 (wc.heap[gb290]? = some (.cells #[(.slice Ao118 t284.length co118), (.slice Ao124 t287.length co124)] 30 (0, 0))) ∧ Aside0 (Below w.heap.size w wc))
                   case first =>
                    have H := HC106.out
                    clear HC106
                    by_cases c129 : t291 = true
                    ·subst c129
                     have H1 : (laws_FnExactFall.j9 kj99 t271 t272 t273) = some r := by rw [if_pos rfl] at H; exact H
                     clear H
                     have H := H1
                     clear H1
                     have H' := Aside0.mk H
                     clear H
                     go_wp2
                     go_meet
                     case rel => exact ⟨_, H', ⟨by have := HJ2.out; have := HJ6.out; have := HJ17.out; have := HJ54.out; have := HJ63.out; have := HJ69.out; have := HJ86.out; have := HJ90.out; have := HJ99.out; first | omega | exact Nat.le_refl _⟩, ⟨by (try simp only [hl243000_69]); (try simp only [hl243001_69]); (try simp only [hl253000_90]); (try simp only [hl253001_90]); (with_reducible repeat (first | apply Kd.R_alloc | apply Kd.R_drewN | apply Kd.R_drew)); exact Kd.R_mono HO_236000.out (fun _ hk => ⟨hk.1.1.1, ⟨hk.1.1.2, hk.2⟩⟩)⟩, ⟨by (try simp only [hl243000_69]); (try simp only [hl243001_69]); (try simp only [hl253000_90]); (try simp only [hl253001_90]); (with_reducible repeat (first | apply Kd.R_alloc | apply Kd.R_drewN | apply Kd.R_drew)); exact Kd.R_mono HO_236001.out (fun _ hk => ⟨hk.1.1.1, ⟨hk.1.1.2, hk.2⟩⟩)⟩, ⟨by (try simp only [hl243000_69]); (try simp only [hl243001_69]); (try simp only [hl253000_90]); (try simp only [hl253001_90]); (with_reducible repeat (first | apply Kd.R_alloc | apply Kd.R_drewN | apply Kd.R_drew)); exact Kd.R_mono HO_243000.out (fun _ hk => ⟨hk.1.1.1, ⟨hk.1.1.2, hk.2⟩⟩)⟩, ⟨by (try simp only [hl243000_69]); (try simp only [hl243001_69]); (try simp only [hl253000_90]); (try simp only [hl253001_90]); (with_reducible repeat (first | apply Kd.R_alloc | apply Kd.R_drewN | apply Kd.R_drew)); exact Kd.R_mono HO_243001.out (fun _ hk => ⟨hk.1.1.1, ⟨hk.1.1.2, hk.2⟩⟩)⟩, ⟨by (try simp only [hl243000_69]); (try simp only [hl243001_69]); (try simp only [hl253000_90]); (try simp only [hl253001_90]); (with_reducible repeat (first | apply Kd.R_alloc | apply Kd.R_drewN | apply Kd.R_drew)); exact Kd.R_mono HO_253000.out (fun _ hk => ⟨hk.1.1.1, ⟨hk.1.1.2, hk.2⟩⟩)⟩, ⟨by (try simp only [hl243000_69]); (try simp only [hl243001_69]); (try simp only [hl253000_90]); (try simp only [hl253001_90]); (with_reducible repeat (first | apply Kd.R_alloc | apply Kd.R_drewN | apply Kd.R_drew)); exact Kd.R_mono HO_253001.out (fun _ hk => ⟨hk.1.1.1, ⟨hk.1.1.2, hk.2⟩⟩)⟩, ⟨by (try simp only [hl243000_69]); (try simp only [hl243001_69]); (try simp only [hl253000_90]); (try simp only [hl253001_90]); (with_reducible repeat (first | apply Kd.R_alloc | apply Kd.R_drewN | apply Kd.R_drew)); exact Kd.R_mono HO286.out (fun _ hk => ⟨hk.1.1.1.2, ⟨hk.1.1.2, hk.1.2⟩⟩)⟩, ⟨by (try simp only [hl243000_69]); (try simp only [hl243001_69]); (try simp only [hl253000_90]); (try simp only [hl253001_90]); (with_reducible repeat (first | apply Kd.R_alloc | apply Kd.R_drewN | apply Kd.R_drew)); exact Kd.R_mono HO289.out (fun _ hk => ⟨hk.1.1.1.2, ⟨hk.1.1.2, hk.1.2⟩⟩)⟩, ⟨by (try simp only [hl243000_69]); (try simp only [hl243001_69]); (try simp only [hl253000_90]); (try simp only [hl253001_90]); (with_reducible repeat (first | apply bN | apply bD | apply bA)); exact BK218.out⟩, ⟨by (try simp only [hl243000_69]); (try simp only [hl243001_69]); (try simp only [hl253000_90]); (try simp only [hl253001_90]); (with_reducible repeat (first | apply bN | apply bD | apply bA)); exact BK235.out⟩, ⟨by (try simp only [hl243000_69]); (try simp only [hl243001_69]); (try simp only [hl253000_90]); (try simp only [hl253001_90]); (with_reducible repeat (first | apply bN | apply bD | apply bA)); exact BK242.out⟩, ⟨by (try simp only [hl243000_69]); (try simp only [hl243001_69]); (try simp only [hl253000_90]); (try simp only [hl253001_90]); (with_reducible repeat (first | apply bN | apply bD | apply bA)); exact BK252.out⟩, ⟨by (try simp only [hl243000_69]); (try simp only [hl243001_69]); (try simp only [hl253000_90]); (try simp only [hl253001_90]); (with_reducible repeat (first | apply bN | apply bD | apply bA)); exact BK290.out⟩, ⟨by repeat (first | (with_reducible first | exact HB.out | apply below_alloc | apply pw_below_drewN | apply below_drew1 | refine below_set ?_ GE218.out | refine below_set ?_ GE235.out | refine below_set ?_ GE242.out | refine below_set ?_ GE252.out | refine below_set ?_ GE290.out) | exact HB.out)⟩⟩
                    ·replace c129 := Bool.eq_false_iff.mpr c129
                     subst c129
                     have H1 : (some false) = some r := by rw [if_neg (show ¬ (false = true) by decide)] at H; exact H
                     clear H
                     have H := H1
                     clear H1
                     obtain rfl := Option.some.inj H
                     go_wp2
                     go_ret
                     exact ⟨by first | rfl | (simp [errW_none, errW_some] <;> rfl) | (simp [*, errW_none, errW_some] <;> rfl), by repeat (first | (with_reducible first | exact HB.out | apply below_alloc | apply pw_below_drewN | apply below_drew1 | refine below_set ?_ GE218.out | refine below_set ?_ GE235.out | refine below_set ?_ GE242.out | refine below_set ?_ GE252.out | refine below_set ?_ GE290.out) | exact HB.out)⟩
                   case rest =>
                    clear HC106
                    try clear c1
                    try clear c2
                    try clear p2
                    try clear c3
                    try clear c4
                    try clear c5
                    try clear c5b0
                    try clear c5b1
                    try clear c5b2
                    try clear c6
                    try clear c7
                    try clear c8
                    try clear c9
                    try clear c10
                    try clear c10b0
                    try clear c10b1
                    try clear c10b2
                    try clear c11
                    try clear c12
                    try clear c15
                    try clear c17
                    try clear c19
                    try clear c25
                    try clear c28
                    try clear c30
                    try clear c33
                    try clear c34
                    try clear c35
                    try clear c36
                    try clear c37
                    try clear c45
                    try clear c46
                    try clear c47
                    try clear c52
                    try clear c61
                    try clear c67
                    try clear c71
                    try clear c72
                    try clear c73
                    try clear c77
                    try clear c77b0
                    try clear c77b1
                    try clear c77b2
                    try clear c79
                    try clear c80
                    try clear c81
                    try clear c83
                    try clear c84
                    try clear c88
                    try clear c92
                    try clear c93
                    try clear c94
                    try clear c99
                    try clear c99b0
                    try clear c99b1
                    try clear c99b2
                    try clear c101
                    try clear c101b0
                    try clear c101b1
                    try clear c101b2
                    try clear c107
                    try clear c108
                    try clear c109
                    try clear c119
                    try clear c120
                    try clear c121
                    try clear c122
                    try clear c125
                    try clear c126
                    try clear c129
                    try clear hcz110_0
                    try clear hcz110_1
                    try clear hcz123_0
                    try clear hcz123_1
                    try clear hcz127_0
                    try clear hcz127_1
                    try clear hcz19_0
                    try clear hcz19_1
                    try clear hcz29_0
                    try clear hcz29_1
                    try clear hcz31_0
                    try clear hcz31_1
                    try clear hcz37_0
                    try clear hcz37_1
                    try clear hcz40_0
                    try clear hcz40_1
                    try clear hcz48_0
                    try clear hcz48_1
                    try clear hcz50_0
                    try clear hcz50_1
                    try clear hcz74_0
                    try clear hcz74_1
                    try clear hcz82_0
                    try clear hcz82_1
                    try clear hcz85_0
                    try clear hcz85_1
                    try clear hcz8_0
                    try clear hcz8_1
                    try clear hcz95_0
                    try clear hcz95_1
                    try clear hcz97_0
                    try clear hcz97_1
                    try clear hfz110_0
                    try clear hfz110_1
                    try clear hfz123_0
                    try clear hfz123_1
                    try clear hfz127_0
                    try clear hfz127_1
                    try clear hfz19_0
                    try clear hfz19_1
                    try clear hfz29_0
                    try clear hfz29_1
                    try clear hfz31_0
                    try clear hfz31_1
                    try clear hfz37_0
                    try clear hfz37_1
                    try clear hfz40_0
                    try clear hfz40_1
                    try clear hfz48_0
                    try clear hfz48_1
                    try clear hfz50_0
                    try clear hfz50_1
                    try clear hfz74_0
                    try clear hfz74_1
                    try clear hfz82_0
                    try clear hfz82_1
                    try clear hfz85_0
                    try clear hfz85_1
                    try clear hfz8_0
                    try clear hfz8_1
                    try clear hfz95_0
                    try clear hfz95_1
                    try clear hfz97_0
                    try clear hfz97_1
                    try clear p2
                    obtain ⟨kq, HA, HJ105, HO_236000, HO_236001, HO_243000, HO_243001, HO_253000, HO_253001, HO_291000, HO_291001, BK218, BK235, BK242, BK252, BK290, HB⟩ := hcut
                    cases kq with
                    | zero => exact absurd HA.out (by simp [laws_FnExactFall.j9])
                    | succ kj105 =>
                     have H := HA.out
                     clear HA
                     simp only [laws_FnExactFall.j9] at H
                     replace H := Option.bind_eq_some_iff.mp H
                     obtain ⟨t292, A1300, H⟩ := H
                     replace H : (if t292 < 0 then (some false) else (if t292 = t271 then (some true) else (some false))) = some r := H
                     have A130 := Aside0.mk A1300
                     clear A1300
                     by_cases c131 : t292 < 0
                     ·rw [if_pos c131] at H
                      have c131b0 : decide (t292 < 0) = true := decide_eq_true c131
                      clear c131
                      obtain rfl := Option.some.inj H
                      have hnb132 := NB252_218.out
                      have hnc132 := NB218_252.out
                      have hnb133 := NB252_235.out
                      have hnc133 := NB235_252.out
                      have hnb134 := NB252_242.out
                      have hnc134 := NB242_252.out
                      have hnb135 := NB252_290.out
                      have hnc135 := NB290_252.out
                      have hcz136_0 : wc.cell? ⟨gb252, 0, none⟩ = some (.slice Ao44 t272.length co44) := (blk_cell BK252.out 0).trans rfl
                      have hcz136_1 : wc.cell? ⟨gb252, 1, none⟩ = some (.slice Ao49 t273.length co49) := (blk_cell BK252.out 1).trans rfl
                      have hfz136_0 := blk_frozen BK252.out 0
                      have hfz136_1 := blk_frozen BK252.out 1
                      go_wp2_with (first | ((with_reducible refine gate_callee (f := 30) rfl ?_); refine goesL_ (some 84) rfl rfl Try.func30 (by kernel_rfl) rfl #[.agg #[.slice Ao44 t272.length co44, .slice Ao49 t273.length co49], .int .i64 1] rfl (by (try simp only [List.map_toArray, List.map_cons, List.map_nil]); first | done | rfl | (simp only [List.length_drop, List.length_take]; rfl)) ?_; (with_reducible refine (laws_heldDisk.calls kj105 _ _ t272 _ _ t273 1 t292 _ ?side1 ?side2 ?side3 ?side4 A130.out).mono ?_); (case side1 => repeat (first | exact (Kd.R_reads' HO_253000.out).2.2 | (with_reducible refine Kd.C_alloc ?_ _) | (with_reducible refine Kd.C_drewN ?_ _) | (with_reducible refine Kd.C_drew ?_))); (case side2 => exact (Kd.R_reads' HO_253000.out).2.1); (case side3 => repeat (first | exact (Kd.R_reads' HO_253001.out).2.2 | (with_reducible refine Kd.C_alloc ?_ _) | (with_reducible refine Kd.C_drewN ?_ _) | (with_reducible refine Kd.C_drew ?_))); (case side4 => exact (Kd.R_reads' HO_253001.out).2.1); rintro e w137 ⟨rfl, hb⟩; refine ⟨_, rfl, ?_⟩; have n0_ := Aside0.mk (Kd.R_below (by (with_reducible repeat (first | apply Kd.R_alloc | apply Kd.R_drewN | apply Kd.R_drew)); exact HO_236000.out) hb); have n1_ := Aside0.mk (Kd.R_below (by (with_reducible repeat (first | apply Kd.R_alloc | apply Kd.R_drewN | apply Kd.R_drew)); exact HO_236001.out) hb); have n2_ := Aside0.mk (Kd.R_below (by (with_reducible repeat (first | apply Kd.R_alloc | apply Kd.R_drewN | apply Kd.R_drew)); exact HO_243000.out) hb); have n3_ := Aside0.mk (Kd.R_below (by (with_reducible repeat (first | apply Kd.R_alloc | apply Kd.R_drewN | apply Kd.R_drew)); exact HO_243001.out) hb); have n4_ := Aside0.mk (Kd.R_below (by (with_reducible repeat (first | apply Kd.R_alloc | apply Kd.R_drewN | apply Kd.R_drew)); exact HO_253000.out) hb); have n5_ := Aside0.mk (Kd.R_below (by (with_reducible repeat (first | apply Kd.R_alloc | apply Kd.R_drewN | apply Kd.R_drew)); exact HO_253001.out) hb); have n6_ := Aside0.mk (Kd.R_below (by (with_reducible repeat (first | apply Kd.R_alloc | apply Kd.R_drewN | apply Kd.R_drew)); exact HO_291000.out) hb); have n7_ := Aside0.mk (Kd.R_below (by (with_reducible repeat (first | apply Kd.R_alloc | apply Kd.R_drewN | apply Kd.R_drew)); exact HO_291001.out) hb); have n8_ := Aside0.mk (blk_below (g := gb218) (o := _) (by (with_reducible repeat (first | apply bN | apply bD | apply bA)); exact BK218.out) hb); have n9_ := Aside0.mk (blk_below (g := gb235) (o := _) (by (with_reducible repeat (first | apply bN | apply bD | apply bA)); exact BK235.out) hb); have n10_ := Aside0.mk (blk_below (g := gb242) (o := _) (by (with_reducible repeat (first | apply bN | apply bD | apply bA)); exact BK242.out) hb); have n11_ := Aside0.mk (blk_below (g := gb252) (o := _) (by (with_reducible repeat (first | apply bN | apply bD | apply bA)); exact BK252.out) hb); have n12_ := Aside0.mk (blk_below (g := gb290) (o := _) (by (with_reducible repeat (first | apply bN | apply bD | apply bA)); exact BK290.out) hb); have n13_ := Aside0.mk (below_step (by repeat (first | (with_reducible first | exact HB.out | apply below_alloc | apply pw_below_drewN | apply below_drew1 | refine below_set ?_ GE218.out | refine below_set ?_ GE235.out | refine below_set ?_ GE242.out | refine below_set ?_ GE252.out | refine below_set ?_ GE290.out) | exact HB.out)) hb); clear HO_236000; clear HO_236001; clear HO_243000; clear HO_243001; clear HO_253000; clear HO_253001; clear HO_291000; clear HO_291001; clear BK218; clear BK235; clear BK242; clear BK252; clear BK290; clear HB; have HO_236000 := n0_; have HO_236001 := n1_; have HO_243000 := n2_; have HO_243001 := n3_; have HO_253000 := n4_; have HO_253001 := n5_; have HO_291000 := n6_; have HO_291001 := n7_; have BK218 := n8_; have BK235 := n9_; have BK242 := n10_; have BK252 := n11_; have BK290 := n12_; have HB := n13_; clear n0_ n1_ n2_ n3_ n4_ n5_ n6_ n7_ n8_ n9_ n10_ n11_ n12_ n13_; (try clear hb); (try clear hb2); (try clear hk); (try clear hi)))
                      go_ret
                      exact ⟨by first | rfl | (simp [errW_none, errW_some] <;> rfl) | (simp [*, errW_none, errW_some] <;> rfl), by repeat (first | (with_reducible first | exact HB.out | apply below_alloc | apply pw_below_drewN | apply below_drew1 | refine below_set ?_ GE218.out | refine below_set ?_ GE235.out | refine below_set ?_ GE242.out | refine below_set ?_ GE252.out | refine below_set ?_ GE290.out) | exact HB.out)⟩
                     ·rw [if_neg c131] at H
                      have c131b0 : decide (t292 < 0) = false := decide_eq_false c131
                      clear c131
                      by_cases c138 : t292 = t271
                      ·rw [if_pos c138] at H
                       have c138b0 : (t292 == t271) = true := beq_iff_eq.mpr c138
                       have c138b1 : (t292 != t271) = false := bne_eq_false_iff_eq.mpr c138
                       clear c138
                       obtain rfl := Option.some.inj H
                       have hnb139 := NB252_218.out
                       have hnc139 := NB218_252.out
                       have hnb140 := NB252_235.out
                       have hnc140 := NB235_252.out
                       have hnb141 := NB252_242.out
                       have hnc141 := NB242_252.out
                       have hnb142 := NB252_290.out
                       have hnc142 := NB290_252.out
                       have hcz143_0 : wc.cell? ⟨gb252, 0, none⟩ = some (.slice Ao44 t272.length co44) := (blk_cell BK252.out 0).trans rfl
                       have hcz143_1 : wc.cell? ⟨gb252, 1, none⟩ = some (.slice Ao49 t273.length co49) := (blk_cell BK252.out 1).trans rfl
                       have hfz143_0 := blk_frozen BK252.out 0
                       have hfz143_1 := blk_frozen BK252.out 1
                       go_wp2_with (first | ((with_reducible refine gate_callee (f := 30) rfl ?_); refine goesL_ (some 84) rfl rfl Try.func30 (by kernel_rfl) rfl #[.agg #[.slice Ao44 t272.length co44, .slice Ao49 t273.length co49], .int .i64 1] rfl (by (try simp only [List.map_toArray, List.map_cons, List.map_nil]); first | done | rfl | (simp only [List.length_drop, List.length_take]; rfl)) ?_; (with_reducible refine (laws_heldDisk.calls kj105 _ _ t272 _ _ t273 1 t292 _ ?side1 ?side2 ?side3 ?side4 A130.out).mono ?_); (case side1 => repeat (first | exact (Kd.R_reads' HO_253000.out).2.2 | (with_reducible refine Kd.C_alloc ?_ _) | (with_reducible refine Kd.C_drewN ?_ _) | (with_reducible refine Kd.C_drew ?_))); (case side2 => exact (Kd.R_reads' HO_253000.out).2.1); (case side3 => repeat (first | exact (Kd.R_reads' HO_253001.out).2.2 | (with_reducible refine Kd.C_alloc ?_ _) | (with_reducible refine Kd.C_drewN ?_ _) | (with_reducible refine Kd.C_drew ?_))); (case side4 => exact (Kd.R_reads' HO_253001.out).2.1); rintro e w144 ⟨rfl, hb⟩; refine ⟨_, rfl, ?_⟩; have n0_ := Aside0.mk (Kd.R_below (by (with_reducible repeat (first | apply Kd.R_alloc | apply Kd.R_drewN | apply Kd.R_drew)); exact HO_236000.out) hb); have n1_ := Aside0.mk (Kd.R_below (by (with_reducible repeat (first | apply Kd.R_alloc | apply Kd.R_drewN | apply Kd.R_drew)); exact HO_236001.out) hb); have n2_ := Aside0.mk (Kd.R_below (by (with_reducible repeat (first | apply Kd.R_alloc | apply Kd.R_drewN | apply Kd.R_drew)); exact HO_243000.out) hb); have n3_ := Aside0.mk (Kd.R_below (by (with_reducible repeat (first | apply Kd.R_alloc | apply Kd.R_drewN | apply Kd.R_drew)); exact HO_243001.out) hb); have n4_ := Aside0.mk (Kd.R_below (by (with_reducible repeat (first | apply Kd.R_alloc | apply Kd.R_drewN | apply Kd.R_drew)); exact HO_253000.out) hb); have n5_ := Aside0.mk (Kd.R_below (by (with_reducible repeat (first | apply Kd.R_alloc | apply Kd.R_drewN | apply Kd.R_drew)); exact HO_253001.out) hb); have n6_ := Aside0.mk (Kd.R_below (by (with_reducible repeat (first | apply Kd.R_alloc | apply Kd.R_drewN | apply Kd.R_drew)); exact HO_291000.out) hb); have n7_ := Aside0.mk (Kd.R_below (by (with_reducible repeat (first | apply Kd.R_alloc | apply Kd.R_drewN | apply Kd.R_drew)); exact HO_291001.out) hb); have n8_ := Aside0.mk (blk_below (g := gb218) (o := _) (by (with_reducible repeat (first | apply bN | apply bD | apply bA)); exact BK218.out) hb); have n9_ := Aside0.mk (blk_below (g := gb235) (o := _) (by (with_reducible repeat (first | apply bN | apply bD | apply bA)); exact BK235.out) hb); have n10_ := Aside0.mk (blk_below (g := gb242) (o := _) (by (with_reducible repeat (first | apply bN | apply bD | apply bA)); exact BK242.out) hb); have n11_ := Aside0.mk (blk_below (g := gb252) (o := _) (by (with_reducible repeat (first | apply bN | apply bD | apply bA)); exact BK252.out) hb); have n12_ := Aside0.mk (blk_below (g := gb290) (o := _) (by (with_reducible repeat (first | apply bN | apply bD | apply bA)); exact BK290.out) hb); have n13_ := Aside0.mk (below_step (by repeat (first | (with_reducible first | exact HB.out | apply below_alloc | apply pw_below_drewN | apply below_drew1 | refine below_set ?_ GE218.out | refine below_set ?_ GE235.out | refine below_set ?_ GE242.out | refine below_set ?_ GE252.out | refine below_set ?_ GE290.out) | exact HB.out)) hb); clear HO_236000; clear HO_236001; clear HO_243000; clear HO_243001; clear HO_253000; clear HO_253001; clear HO_291000; clear HO_291001; clear BK218; clear BK235; clear BK242; clear BK252; clear BK290; clear HB; have HO_236000 := n0_; have HO_236001 := n1_; have HO_243000 := n2_; have HO_243001 := n3_; have HO_253000 := n4_; have HO_253001 := n5_; have HO_291000 := n6_; have HO_291001 := n7_; have BK218 := n8_; have BK235 := n9_; have BK242 := n10_; have BK252 := n11_; have BK290 := n12_; have HB := n13_; clear n0_ n1_ n2_ n3_ n4_ n5_ n6_ n7_ n8_ n9_ n10_ n11_ n12_ n13_; (try clear hb); (try clear hb2); (try clear hk); (try clear hi)))
                       go_ret
                       exact ⟨by first | rfl | (simp [errW_none, errW_some] <;> rfl) | (simp [*, errW_none, errW_some] <;> rfl), by repeat (first | (with_reducible first | exact HB.out | apply below_alloc | apply pw_below_drewN | apply below_drew1 | refine below_set ?_ GE218.out | refine below_set ?_ GE235.out | refine below_set ?_ GE242.out | refine below_set ?_ GE252.out | refine below_set ?_ GE290.out) | exact HB.out)⟩
                      ·rw [if_neg c138] at H
                       have c138b0 : (t292 == t271) = false := beq_eq_false_iff_ne.mpr c138
                       have c138b1 : (t292 != t271) = true := bne_iff_ne.mpr c138
                       obtain rfl := Option.some.inj H
                       have hnb145 := NB252_218.out
                       have hnc145 := NB218_252.out
                       have hnb146 := NB252_235.out
                       have hnc146 := NB235_252.out
                       have hnb147 := NB252_242.out
                       have hnc147 := NB242_252.out
                       have hnb148 := NB252_290.out
                       have hnc148 := NB290_252.out
                       have hcz149_0 : wc.cell? ⟨gb252, 0, none⟩ = some (.slice Ao44 t272.length co44) := (blk_cell BK252.out 0).trans rfl
                       have hcz149_1 : wc.cell? ⟨gb252, 1, none⟩ = some (.slice Ao49 t273.length co49) := (blk_cell BK252.out 1).trans rfl
                       have hfz149_0 := blk_frozen BK252.out 0
                       have hfz149_1 := blk_frozen BK252.out 1
                       go_wp2_with (first | ((with_reducible refine gate_callee (f := 30) rfl ?_); refine goesL_ (some 84) rfl rfl Try.func30 (by kernel_rfl) rfl #[.agg #[.slice Ao44 t272.length co44, .slice Ao49 t273.length co49], .int .i64 1] rfl (by (try simp only [List.map_toArray, List.map_cons, List.map_nil]); first | done | rfl | (simp only [List.length_drop, List.length_take]; rfl)) ?_; (with_reducible refine (laws_heldDisk.calls kj105 _ _ t272 _ _ t273 1 t292 _ ?side1 ?side2 ?side3 ?side4 A130.out).mono ?_); (case side1 => repeat (first | exact (Kd.R_reads' HO_253000.out).2.2 | (with_reducible refine Kd.C_alloc ?_ _) | (with_reducible refine Kd.C_drewN ?_ _) | (with_reducible refine Kd.C_drew ?_))); (case side2 => exact (Kd.R_reads' HO_253000.out).2.1); (case side3 => repeat (first | exact (Kd.R_reads' HO_253001.out).2.2 | (with_reducible refine Kd.C_alloc ?_ _) | (with_reducible refine Kd.C_drewN ?_ _) | (with_reducible refine Kd.C_drew ?_))); (case side4 => exact (Kd.R_reads' HO_253001.out).2.1); rintro e w150 ⟨rfl, hb⟩; refine ⟨_, rfl, ?_⟩; have n0_ := Aside0.mk (Kd.R_below (by (with_reducible repeat (first | apply Kd.R_alloc | apply Kd.R_drewN | apply Kd.R_drew)); exact HO_236000.out) hb); have n1_ := Aside0.mk (Kd.R_below (by (with_reducible repeat (first | apply Kd.R_alloc | apply Kd.R_drewN | apply Kd.R_drew)); exact HO_236001.out) hb); have n2_ := Aside0.mk (Kd.R_below (by (with_reducible repeat (first | apply Kd.R_alloc | apply Kd.R_drewN | apply Kd.R_drew)); exact HO_243000.out) hb); have n3_ := Aside0.mk (Kd.R_below (by (with_reducible repeat (first | apply Kd.R_alloc | apply Kd.R_drewN | apply Kd.R_drew)); exact HO_243001.out) hb); have n4_ := Aside0.mk (Kd.R_below (by (with_reducible repeat (first | apply Kd.R_alloc | apply Kd.R_drewN | apply Kd.R_drew)); exact HO_253000.out) hb); have n5_ := Aside0.mk (Kd.R_below (by (with_reducible repeat (first | apply Kd.R_alloc | apply Kd.R_drewN | apply Kd.R_drew)); exact HO_253001.out) hb); have n6_ := Aside0.mk (Kd.R_below (by (with_reducible repeat (first | apply Kd.R_alloc | apply Kd.R_drewN | apply Kd.R_drew)); exact HO_291000.out) hb); have n7_ := Aside0.mk (Kd.R_below (by (with_reducible repeat (first | apply Kd.R_alloc | apply Kd.R_drewN | apply Kd.R_drew)); exact HO_291001.out) hb); have n8_ := Aside0.mk (blk_below (g := gb218) (o := _) (by (with_reducible repeat (first | apply bN | apply bD | apply bA)); exact BK218.out) hb); have n9_ := Aside0.mk (blk_below (g := gb235) (o := _) (by (with_reducible repeat (first | apply bN | apply bD | apply bA)); exact BK235.out) hb); have n10_ := Aside0.mk (blk_below (g := gb242) (o := _) (by (with_reducible repeat (first | apply bN | apply bD | apply bA)); exact BK242.out) hb); have n11_ := Aside0.mk (blk_below (g := gb252) (o := _) (by (with_reducible repeat (first | apply bN | apply bD | apply bA)); exact BK252.out) hb); have n12_ := Aside0.mk (blk_below (g := gb290) (o := _) (by (with_reducible repeat (first | apply bN | apply bD | apply bA)); exact BK290.out) hb); have n13_ := Aside0.mk (below_step (by repeat (first | (with_reducible first | exact HB.out | apply below_alloc | apply pw_below_drewN | apply below_drew1 | refine below_set ?_ GE218.out | refine below_set ?_ GE235.out | refine below_set ?_ GE242.out | refine below_set ?_ GE252.out | refine below_set ?_ GE290.out) | exact HB.out)) hb); clear HO_236000; clear HO_236001; clear HO_243000; clear HO_243001; clear HO_253000; clear HO_253001; clear HO_291000; clear HO_291001; clear BK218; clear BK235; clear BK242; clear BK252; clear BK290; clear HB; have HO_236000 := n0_; have HO_236001 := n1_; have HO_243000 := n2_; have HO_243001 := n3_; have HO_253000 := n4_; have HO_253001 := n5_; have HO_291000 := n6_; have HO_291001 := n7_; have BK218 := n8_; have BK235 := n9_; have BK242 := n10_; have BK252 := n11_; have BK290 := n12_; have HB := n13_; clear n0_ n1_ n2_ n3_ n4_ n5_ n6_ n7_ n8_ n9_ n10_ n11_ n12_ n13_; (try clear hb); (try clear hb2); (try clear hk); (try clear hi)))
                       go_ret
                       exact ⟨by first | rfl | (simp [errW_none, errW_some] <;> rfl) | (simp [*, errW_none, errW_some] <;> rfl), by repeat (first | (with_reducible first | exact HB.out | apply below_alloc | apply pw_below_drewN | apply below_drew1 | refine below_set ?_ GE218.out | refine below_set ?_ GE235.out | refine below_set ?_ GE242.out | refine below_set ?_ GE252.out | refine below_set ?_ GE290.out) | exact HB.out)⟩

/-- THE ONE PURE STATEMENT of laws_FnExactFall. -/
def laws_FnExactFall.Pure : Prop := ∀ (l0_0 : List ByteArray) (l0_1 : List (S111)) (l1 : List Bool), (l0_0.length ≤ maxLen ∧ ∀ x_ ∈ l0_0, x_.size ≤ maxLen) → (l0_1.length ≤ maxLen ∧ ∀ x_ ∈ l0_1, ((Lit.int .i64 x_.f0).wf = true ∧ x_.f1.size ≤ maxLen)) → (l1.length ≤ maxLen ∧ ∀ x_ ∈ l1, True) → ∃ k, laws_FnExactFall.f k l0_0 l0_1 l1 = some true

end Go.Proofs.Ytgmpdkefegofhaa.PFnExactFall
