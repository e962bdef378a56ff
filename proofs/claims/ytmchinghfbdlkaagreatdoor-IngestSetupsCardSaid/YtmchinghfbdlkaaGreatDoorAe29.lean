/- A part of the proof that the program's function answers true: lemmas (SoK10 to SoK10) on carrying the program out over names of memory objects. No condition. -/
import Derived.Test.YtmchinghfbdlkaaGreatDoorAe28
set_option linter.unusedVariables false
set_option linter.unusedSimpArgs false
set_option maxRecDepth 100000
namespace Go.Proofs.Ae
open Go.Proofs
theorem so58 : SoP 58 384 390 := by unfold SoP; kernel_rfl
theorem so59 : SoP 59 384 390 := by unfold SoP; kernel_rfl
theorem so60 : SoP 60 393 399 := by unfold SoP; kernel_rfl
end Go.Proofs.Ae
