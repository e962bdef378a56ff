/- A part of the proof that the program's function answers true: lemmas (AwS4 to AwS4) on carrying the program out over names of memory objects. No condition. -/
import Derived.Test.YtmchinghfbdlkaaGreatDoorAe16
set_option linter.unusedVariables false
set_option linter.unusedSimpArgs false
set_option maxRecDepth 100000
namespace Go.Proofs.Ae
open Go.Proofs
theorem aw_seg4 : segOut awI4 awD4 112 (Ae.lead tbA 100000 2 (dropN 10 (codeOf Tryz.f4)) ⟨litTm 0 awT3 .nil, [], false, 4⟩ (litSt awI3 awO3 awD3 2619)) = some (awO4, awT4, 3055) := by kernel_rfl
theorem aw_ok4 : litOk awI4 awO4 awD4 3055 awT4 [0, 1, 2, 3, 4, 6, 7] = true := by kernel_rfl
end Go.Proofs.Ae
