/-
  The reference's exprFault, kind by kind (B).
-/
import Derived.Test.YtmngofgminlloaaGreatDoorTN09
set_option linter.unusedSimpArgs false
set_option linter.unusedVariables false
namespace Go.Proofs.YtmngofgminlloaaGreatDoor
open Go.RowKit Tw Go.Maps

end Go.Proofs.YtmngofgminlloaaGreatDoor
