/- A part of the proof that the program's function answers true: lemmas (SoK3 to SoK3) on carrying the program out over names of memory objects. No condition. -/
import Derived.Test.YtmchinghfbdlkaaGreatDoorAe21
set_option linter.unusedVariables false
set_option linter.unusedSimpArgs false
set_option maxRecDepth 100000
namespace Go.Proofs.Ae
open Go.Proofs
theorem so16 : SoP 16 195 201 := by unfold SoP; kernel_rfl
theorem so17 : SoP 17 195 201 := by unfold SoP; kernel_rfl
theorem so18 : SoP 18 204 210 := by unfold SoP; kernel_rfl
theorem so19 : SoP 19 204 210 := by unfold SoP; kernel_rfl
theorem so20 : SoP 20 213 219 := by unfold SoP; kernel_rfl
theorem so21 : SoP 21 213 219 := by unfold SoP; kernel_rfl
end Go.Proofs.Ae
