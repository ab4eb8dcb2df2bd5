/- A part of the proof. -/
import Derived.Test.YtnflnicdjioflaaGreatDoorSxbh
set_option linter.unusedVariables false
set_option linter.unusedSimpArgs false
set_option maxRecDepth 100000
set_option maxHeartbeats 8000000
namespace Go.Proofs.YtnflnicdjioflaaGreatDoor
namespace Gn
open Sec
open Q21 (Xk Xo)
def zeros:List Int:=List.replicate 128 0
theorem Qch:Sca.uN (Xo Xk zeros)=0:=by decide+kernel
theorem Qcd:((wL Xk zeros Xk.length).getD 0 w0).cost =10:=by decide+kernel
end Gn

end Go.Proofs.YtnflnicdjioflaaGreatDoor
