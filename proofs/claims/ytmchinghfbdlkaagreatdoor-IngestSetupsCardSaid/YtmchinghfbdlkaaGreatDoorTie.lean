/-
  DERIVED. GIVEN WITH THE SEED: THE PROGRAM's TIES (one call each: nine closed facts by the kernel) AND EACH ROW's TIE, after the 31st guide's Derived/Test/Toyas{Tie, Card}.lean. No idea stands in it: it is a product of the set-up. Laid BY PROGRAM, IN A SANDBOX (cutbox-door.mjs). By AI agents, Wed Nov 11 2026. No macro, syntax, notation, axiom, sorry.
-/
import Derived.Test.YtmchinghfbdlkaaGreatDoorRows
import Derived.LaidByTextLater
import Derived.SevenTiedAt
import Derived.LaidSub
import Derived.LaidOnce
namespace Go.Proofs.YtmchinghfbdlkaaGreatDoor
open Go
set_option maxRecDepth 100000
theorem seatTie1 : Tryz.prog.laidByTextLater [("farebox/fareboxref03.first", Rows.laid_farebox_fareboxref03_first), ("farebox/fareboxref03.k", Rows.laid_farebox_fareboxref03_k), ("errors.errorType", Rows.laid_errors_errorType), ("farebox/hash.start", Rows.laid_farebox_hash_start), ("farebox/hash.rounds", Rows.laid_farebox_hash_rounds), ("farebox/sum.nibble", Rows.laid_farebox_sum_nibble)] [.data, .data, .handle, .data, .data, .data] true :=
  Program.laidByTextLater_by_one 41 8 65 (by kernel_rfl) (by kernel_rfl) (by kernel_rfl) (by kernel_rfl) (by kernel_rfl) (by kernel_rfl) (fun _ _ => by kernel_rfl)
theorem noOwnUnsafe : Tryz.pinned.checked.prog.headLifts.contains "ownunsafe" = false := by kernel_rfl
theorem tie : Tryz.prog.laidByTextLater [("farebox/fareboxref03.first", Rows.laid_farebox_fareboxref03_first), ("farebox/fareboxref03.k", Rows.laid_farebox_fareboxref03_k), ("errors.errorType", Rows.laid_errors_errorType), ("farebox/hash.start", Rows.laid_farebox_hash_start), ("farebox/hash.rounds", Rows.laid_farebox_hash_rounds), ("farebox/sum.nibble", Rows.laid_farebox_sum_nibble)] [.data, .data, .handle, .data, .data, .data] true :=
  Program.laidByTextLater.sub seatTie1 ["farebox/fareboxref03.first", "farebox/fareboxref03.k", "errors.errorType", "farebox/hash.start", "farebox/hash.rounds", "farebox/sum.nibble"] (by kernel_rfl) (by kernel_rfl)
theorem ingestSetups_row_tie : Rows.ingestSetupsRow.laidByTextAt .later Tryz.pinned [.data, .data, .handle, .data, .data, .data] true :=
  OpenClaim.laidByTextAt_later rfl rfl tie noOwnUnsafe
theorem ingestSetupsUpto_row_tie : Rows.ingestSetupsUptoRow.laidByTextAt .later Tryz.pinned [.data, .data, .handle, .data, .data, .data] true :=
  OpenClaim.laidByTextAt_later rfl rfl tie noOwnUnsafe
end Go.Proofs.YtmchinghfbdlkaaGreatDoor
