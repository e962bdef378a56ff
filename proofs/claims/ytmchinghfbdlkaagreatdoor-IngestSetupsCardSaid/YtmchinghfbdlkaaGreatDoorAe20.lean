/- A part of the proof that the program's function answers true: lemmas (SoK1 to SoK1) on carrying the program out over names of memory objects. No condition. -/
import Derived.Test.YtmchinghfbdlkaaGreatDoorAe19
set_option linter.unusedVariables false
set_option linter.unusedSimpArgs false
set_option maxRecDepth 100000
namespace Go.Proofs.Ae
open Go.Proofs
theorem so4 : SoP 4 141 147 := by unfold SoP; kernel_rfl
theorem so5 : SoP 5 141 147 := by unfold SoP; kernel_rfl
theorem so6 : SoP 6 150 156 := by unfold SoP; kernel_rfl
theorem so7 : SoP 7 150 156 := by unfold SoP; kernel_rfl
theorem so8 : SoP 8 159 165 := by unfold SoP; kernel_rfl
theorem so9 : SoP 9 159 165 := by unfold SoP; kernel_rfl
theorem so0 : SoE 0 := by unfold SoE; kernel_rfl
theorem so1 : SoE 1 := by unfold SoE; kernel_rfl
theorem so2 : SoE 2 := by unfold SoE; kernel_rfl
theorem so3 : SoE 3 := by unfold SoE; kernel_rfl
end Go.Proofs.Ae
