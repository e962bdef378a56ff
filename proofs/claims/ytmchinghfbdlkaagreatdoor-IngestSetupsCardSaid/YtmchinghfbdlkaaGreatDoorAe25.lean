/- A part of the proof that the program's function answers true: lemmas (SoK6 to SoK6) on carrying the program out over names of memory objects. No condition. -/
import Derived.Test.YtmchinghfbdlkaaGreatDoorAe24
set_option linter.unusedVariables false
set_option linter.unusedSimpArgs false
set_option maxRecDepth 100000
namespace Go.Proofs.Ae
open Go.Proofs
theorem so34 : SoP 34 276 282 := by unfold SoP; kernel_rfl
theorem so35 : SoP 35 276 282 := by unfold SoP; kernel_rfl
theorem so36 : SoP 36 285 291 := by unfold SoP; kernel_rfl
theorem so37 : SoP 37 285 291 := by unfold SoP; kernel_rfl
theorem so38 : SoP 38 294 300 := by unfold SoP; kernel_rfl
theorem so39 : SoP 39 294 300 := by unfold SoP; kernel_rfl
end Go.Proofs.Ae
