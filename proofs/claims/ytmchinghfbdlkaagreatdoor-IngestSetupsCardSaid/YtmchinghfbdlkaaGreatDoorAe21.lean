/- A part of the proof that the program's function answers true: lemmas (SoK2 to SoK2) on carrying the program out over names of memory objects. No condition. -/
import Derived.Test.YtmchinghfbdlkaaGreatDoorAe20
set_option linter.unusedVariables false
set_option linter.unusedSimpArgs false
set_option maxRecDepth 100000
namespace Go.Proofs.Ae
open Go.Proofs
theorem so10 : SoP 10 168 174 := by unfold SoP; kernel_rfl
theorem so11 : SoP 11 168 174 := by unfold SoP; kernel_rfl
theorem so12 : SoP 12 177 183 := by unfold SoP; kernel_rfl
theorem so13 : SoP 13 177 183 := by unfold SoP; kernel_rfl
theorem so14 : SoP 14 186 192 := by unfold SoP; kernel_rfl
theorem so15 : SoP 15 186 192 := by unfold SoP; kernel_rfl
end Go.Proofs.Ae
