/- A part of the proof that the program's function answers true: lemmas (AwS2 to AwS2) on carrying the program out over names of memory objects. No condition. -/
import Derived.Test.YtmchinghfbdlkaaGreatDoorAe14
set_option linter.unusedVariables false
set_option linter.unusedSimpArgs false
set_option maxRecDepth 100000
namespace Go.Proofs.Ae
open Go.Proofs
theorem aw_seg2 : segOut awI2 awD2 112 (Ae.lead tbA 100000 1 (dropN 6 (codeOf Tryz.f4)) ⟨litTm 0 awT1 .nil, [], false, 4⟩ (litSt awI1 awO1 awD1 1463)) = some (awO2, awT2, 2038) := by kernel_rfl
theorem aw_ok2 : litOk awI2 awO2 awD2 2038 awT2 [0, 1, 2, 3, 4, 6, 7] = true := by kernel_rfl
end Go.Proofs.Ae
