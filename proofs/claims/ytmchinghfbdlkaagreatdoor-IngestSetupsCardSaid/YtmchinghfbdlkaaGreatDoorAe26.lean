/- A part of the proof that the program's function answers true: lemmas (SoK7 to SoK7) on carrying the program out over names of memory objects. No condition. -/
import Derived.Test.YtmchinghfbdlkaaGreatDoorAe25
set_option linter.unusedVariables false
set_option linter.unusedSimpArgs false
set_option maxRecDepth 100000
namespace Go.Proofs.Ae
open Go.Proofs
theorem so40 : SoP 40 303 309 := by unfold SoP; kernel_rfl
theorem so41 : SoP 41 303 309 := by unfold SoP; kernel_rfl
theorem so42 : SoP 42 312 318 := by unfold SoP; kernel_rfl
theorem so43 : SoP 43 312 318 := by unfold SoP; kernel_rfl
theorem so44 : SoP 44 321 327 := by unfold SoP; kernel_rfl
theorem so45 : SoP 45 321 327 := by unfold SoP; kernel_rfl
end Go.Proofs.Ae
