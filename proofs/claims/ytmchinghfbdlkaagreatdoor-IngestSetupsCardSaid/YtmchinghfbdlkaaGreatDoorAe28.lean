/- A part of the proof that the program's function answers true: lemmas (SoK9 to SoK9) on carrying the program out over names of memory objects. No condition. -/
import Derived.Test.YtmchinghfbdlkaaGreatDoorAe27
set_option linter.unusedVariables false
set_option linter.unusedSimpArgs false
set_option maxRecDepth 100000
namespace Go.Proofs.Ae
open Go.Proofs
theorem so52 : SoP 52 357 363 := by unfold SoP; kernel_rfl
theorem so53 : SoP 53 357 363 := by unfold SoP; kernel_rfl
theorem so54 : SoP 54 366 372 := by unfold SoP; kernel_rfl
theorem so55 : SoP 55 366 372 := by unfold SoP; kernel_rfl
theorem so56 : SoP 56 375 381 := by unfold SoP; kernel_rfl
theorem so57 : SoP 57 375 381 := by unfold SoP; kernel_rfl
end Go.Proofs.Ae
