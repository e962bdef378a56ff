/- A part of the proof that the program's function answers true: lemmas (SoK8 to SoK8) on carrying the program out over names of memory objects. No condition. -/
import Derived.Test.YtmchinghfbdlkaaGreatDoorAe26
set_option linter.unusedVariables false
set_option linter.unusedSimpArgs false
set_option maxRecDepth 100000
namespace Go.Proofs.Ae
open Go.Proofs
theorem so46 : SoP 46 330 336 := by unfold SoP; kernel_rfl
theorem so47 : SoP 47 330 336 := by unfold SoP; kernel_rfl
theorem so48 : SoP 48 339 345 := by unfold SoP; kernel_rfl
theorem so49 : SoP 49 339 345 := by unfold SoP; kernel_rfl
theorem so50 : SoP 50 348 354 := by unfold SoP; kernel_rfl
theorem so51 : SoP 51 348 354 := by unfold SoP; kernel_rfl
end Go.Proofs.Ae
