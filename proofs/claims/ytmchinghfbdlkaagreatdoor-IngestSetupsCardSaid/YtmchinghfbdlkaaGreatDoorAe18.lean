/- A part of the proof that the program's function answers true: lemmas (AwL to AwL) on carrying the program out over names of memory objects. No condition. -/
import Derived.Test.YtmchinghfbdlkaaGreatDoorAe17
set_option linter.unusedVariables false
set_option linter.unusedSimpArgs false
set_option maxRecDepth 100000
namespace Go.Proofs.Ae
open Go.Proofs
noncomputable def awLast : Option (AX × AA × St) → Bool
  | some (x, a, _) => (match x with
    | .normal => true
    | .ret => true
    | _ => false) && (dfNil a.df && (match tmA a.tm 0 with
    | .bool b => b
    | _ => false))
  | none => false
theorem aw_last : awLast (evN tbA 100000 (dropN 12 (codeOf Tryz.f4)) ⟨litTm 0 awT4 .nil, [], false, 4⟩ (litSt awI4 awO4 awD4 3055)) = true := by kernel_rfl
end Go.Proofs.Ae
