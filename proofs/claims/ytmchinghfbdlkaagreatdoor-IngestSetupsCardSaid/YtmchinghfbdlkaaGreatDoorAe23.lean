/- A part of the proof that the program's function answers true: lemmas (SoK4 to SoK4) on carrying the program out over names of memory objects. No condition. -/
import Derived.Test.YtmchinghfbdlkaaGreatDoorAe22
set_option linter.unusedVariables false
set_option linter.unusedSimpArgs false
set_option maxRecDepth 100000
namespace Go.Proofs.Ae
open Go.Proofs
theorem so22 : SoP 22 222 228 := by unfold SoP; kernel_rfl
theorem so23 : SoP 23 222 228 := by unfold SoP; kernel_rfl
theorem so24 : SoP 24 231 237 := by unfold SoP; kernel_rfl
theorem so25 : SoP 25 231 237 := by unfold SoP; kernel_rfl
theorem so26 : SoP 26 240 246 := by unfold SoP; kernel_rfl
theorem so27 : SoP 27 240 246 := by unfold SoP; kernel_rfl
end Go.Proofs.Ae
