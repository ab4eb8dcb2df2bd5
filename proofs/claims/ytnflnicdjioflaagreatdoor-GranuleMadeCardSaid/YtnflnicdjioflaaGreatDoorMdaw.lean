/- A part of the proof. -/
import Derived.Test.YtnflnicdjioflaaGreatDoorMdar
import Derived.Test.YtnflnicdjioflaaGreatDoorMdaf
set_option linter.unusedVariables false
set_option linter.unusedSimpArgs false
set_option maxRecDepth 100000
set_option maxHeartbeats 8000000
namespace Go.Proofs.YtnflnicdjioflaaGreatDoor
open Go.RowKit Go.Proofs.YtnflnicdjioflaaGreatDoorW.PrintWords Go.Proofs.YtnflnicdjioflaaGreatDoorW.PrintLast Go.Proofs.YtnflnicdjioflaaGreatDoorW.PrintMore
namespace Q21
attribute [local go_sem] Qi Qj Qk Ql Qg Qh
open Q15
open Q16 (KL Xr isW off wd Za Zn Zx J3 Q0 Kg)
open Bts (Kp P5 Gu Yx Ny)
theorem Fy {w W:World} {A:Option Addr} {xs:List (List Int)} (h:KL.C w A xs.length xs) (hc:G9 w A xs) (hb:Below w.heap.size w W):G9 W A xs:=fun k ad B c hk e hcl=>by
 obtain⟨ad',B',c',e',h1,_,_⟩:=Uh h (Below.refl _ _) hk;rw[e] at e';cases e';have h2:=cnx h1 hb;rw[h2] at hcl;cases hcl;exact hc k ad B c hk e h1
end Q21

end Go.Proofs.YtnflnicdjioflaaGreatDoor
