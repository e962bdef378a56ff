/- A part of the proof that the program's function answers true: lemmas (SoK5 to SoK5) on carrying the program out over names of memory objects. No condition. -/
import Derived.Test.YtmchinghfbdlkaaGreatDoorAe23
set_option linter.unusedVariables false
set_option linter.unusedSimpArgs false
set_option maxRecDepth 100000
namespace Go.Proofs.Ae
open Go.Proofs
theorem so28 : SoP 28 249 255 := by unfold SoP; kernel_rfl
theorem so29 : SoP 29 249 255 := by unfold SoP; kernel_rfl
theorem so30 : SoP 30 258 264 := by unfold SoP; kernel_rfl
theorem so31 : SoP 31 258 264 := by unfold SoP; kernel_rfl
theorem so32 : SoP 32 267 273 := by unfold SoP; kernel_rfl
theorem so33 : SoP 33 267 273 := by unfold SoP; kernel_rfl
end Go.Proofs.Ae
