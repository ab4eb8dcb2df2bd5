/- A part of the proof. -/
import Derived.Test.YtnflnicdjioflaaGreatDoorMdba
set_option linter.unusedVariables false
set_option linter.unusedSimpArgs false
set_option maxRecDepth 100000
set_option maxHeartbeats 8000000
namespace Go.Proofs.YtnflnicdjioflaaGreatDoor
open Go.RowKit Go.Proofs.YtnflnicdjioflaaGreatDoorW.PrintWords Go.Proofs.YtnflnicdjioflaaGreatDoorW.PrintLast Go.Proofs.YtnflnicdjioflaaGreatDoorW.PrintMore
namespace Rq
attribute [local go_sem] Qi Qj Qk Ql Qg Qh
open Q15
def cntF (s:Nat):Int:=65536/((1+max ((s:Int)-95) (95-(s:Int)))*(1+max ((s:Int)-95) (95-(s:Int))))
def Ux:List Int:=(List.range 191).map cntF
def okL:Option (List Int)->Bool
 |some l=>decide (l.length=191)&&(l.all fun n=>decide (1<=n/\n<=16))&&decide (krI l<=65536)
 |none=>false
theorem okL_cnt:okL (plL Ux)=true:=by decide+kernel
theorem lens_ok: ∃fin,plL Ux=some fin/\fin.length=191/\(∀n∈fin,1<=n/\n<=16)/\krI fin<=65536:=by
 have h:=okL_cnt
 cases e:plL Ux with
 |none=>rw[e] at h;exact absurd h (by simp[okL])
 |some l=>
  rw[e] at h;simp only[okL,Bool.and_eq_true,decide_eq_true_eq,List.all_eq_true] at h;exact⟨l,rfl,h.1.1,h.1.2,h.2⟩
theorem cntF_bd (s:Nat) (hs:s<191):1<=cntF s/\cntF s<=65536:=by
 have h: ∀s:Nat,s<191->(1<=cntF s/\cntF s<=65536):=(by decide+kernel);exact h s hs
end Rq

end Go.Proofs.YtnflnicdjioflaaGreatDoor
