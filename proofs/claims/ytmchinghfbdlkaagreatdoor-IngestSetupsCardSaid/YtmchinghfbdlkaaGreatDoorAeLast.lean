/- This file proves the card of IngestSetups: for every set-up (an office's text and row of hubs, and a number of sectors) the given function 'farebox/fareboxlaw16.IngestSetups' returns true and leaves its arguments as they were. Conditions: those of the given row alone: the six listed package-level variables hold what the row lists, which the given tie ties to the program's text. -/
import Derived.Test.YtmchinghfbdlkaaGreatDoorAe31
import Derived.Test.YtmchinghfbdlkaaGreatDoorTie
import Derived.Test.YtmchinghfbdlkaaGreatDoorCards
import Derived.SevenTiedAt
set_option linter.unusedVariables false
set_option linter.unusedSimpArgs false
namespace Go.Proofs.YtmchinghfbdlkaaGreatDoor
open Go Go.RowKit
set_option maxRecDepth 100000
theorem ingestSetups_holds : Rows.IngestSetupsSaid :=
  OpenClaim.holds_of_wide 3 Tryz.f3 rfl rfl rfl rfl rfl rfl rfl ⟨rfl, rfl, rfl, rfl, rfl⟩ rfl rfl rfl rfl rfl (by kernel_rfl) Tryz.func3 (by kernel_rfl)
    (of_decide_eq_true (by kernel_rfl)) (by unfold Func.isWrapper; first | (rw [if_pos (by decide +kernel)]; kernel_rfl) | (rw [if_neg (by decide +kernel)]; exact ⟨rfl, rfl⟩))
    (fun os started H enc _ => Ae.ins_lifted os started H enc)
theorem ingestSetups_card : Rows.IngestSetupsCardSaid :=
  Claim7.holds_tied_plain_at .later [] [.data, .data, .handle, .data, .data, .data] true (true, "dcf4e2e1509c14c87de702d4f9c57fee7071a70de2993f95d3c7968e1218ddf6") true
    ingestSetups_holds (fun _ h => by cases h) (by kernel_rfl) (fun _ h => by cases h) ingestSetups_row_tie rfl ⟨rfl, rfl⟩ (by kernel_rfl) rfl
    (fun f fn hf hfn => by
      obtain rfl : f = 3 := Option.some.inj ((show Tryz.prog.funcNamed "farebox/fareboxlaw16.IngestSetups" = some 3 by kernel_rfl).symm.trans hf) |>.symm
      obtain rfl : fn = Tryz.f3 := (Option.some.inj (Tryz.func3.symm.trans hfn)).symm
      exact ⟨by kernel_rfl, fun j t ht => by
        rw [Tryz.params3] at ht
        have hm : t ∈ [24, 3] := by simpa using Array.mem_of_getElem? ht
        have hall : ([24, 3].all fun u => !Tryz.prog.wantsStandIn u) = true := by kernel_rfl
        exact (show Tryz.prog.wantsStandIn t = false by simpa using List.all_eq_true.1 hall t hm)⟩)
    (by kernel_rfl)
#print axioms ingestSetups_card
end Go.Proofs.YtmchinghfbdlkaaGreatDoor
