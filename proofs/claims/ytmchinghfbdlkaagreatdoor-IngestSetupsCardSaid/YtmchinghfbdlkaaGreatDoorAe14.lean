/- A part of the proof that the program's function answers true: lemmas (AwS1 to AwS1) on carrying the program out over names of memory objects. No condition. -/
import Derived.Test.YtmchinghfbdlkaaGreatDoorAe13
set_option linter.unusedVariables false
set_option linter.unusedSimpArgs false
set_option maxRecDepth 100000
namespace Go.Proofs.Ae
open Go.Proofs
theorem aw_seg1 : segOut awI1 awD1 112 (Ae.lead tbA 100000 6 (codeOf Tryz.f4) ⟨.nil, [], false, 4⟩ s0) = some (awO1, awT1, 1463) := by kernel_rfl
theorem aw_ok1 : litOk awI1 awO1 awD1 1463 awT1 [0, 1, 2, 3, 4, 6, 7] = true := by kernel_rfl
end Go.Proofs.Ae
