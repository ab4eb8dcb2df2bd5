/- A part of the proof. -/
import Derived.Test.YtnflnicdjioflaaGreatDoorQmbq
set_option linter.unusedVariables false
set_option linter.unusedSimpArgs false
namespace Go.Proofs.YtnflnicdjioflaaGreatDoor
namespace Gn
open Sec
open Q21 (longsL usedL)
def zeros : List Int := List.replicate 128 0
set_option maxRecDepth 100000 in
theorem used_zeros : Sca.uN (usedL longsL zeros) = 0 := by decide +kernel
set_option maxRecDepth 100000 in
theorem secs_zeros : ((wL longsL zeros longsL.length).getD 0 w0).cost = 10 := by decide +kernel
end Gn

end Go.Proofs.YtnflnicdjioflaaGreatDoor
