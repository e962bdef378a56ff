/- A part of the proof that the program's function answers true: lemmas (AwS3 to AwS3) on carrying the program out over names of memory objects. No condition. -/
import Derived.Test.YtmchinghfbdlkaaGreatDoorAe15
set_option linter.unusedVariables false
set_option linter.unusedSimpArgs false
set_option maxRecDepth 100000
namespace Go.Proofs.Ae
open Go.Proofs
theorem aw_seg3 : segOut awI3 awD3 112 (Ae.lead tbA 100000 3 (dropN 7 (codeOf Tryz.f4)) ⟨litTm 0 awT2 .nil, [], false, 4⟩ (litSt awI2 awO2 awD2 2038)) = some (awO3, awT3, 2619) := by kernel_rfl
theorem aw_ok3 : litOk awI3 awO3 awD3 2619 awT3 [0, 1, 2, 3, 4, 6, 7] = true := by kernel_rfl
end Go.Proofs.Ae
