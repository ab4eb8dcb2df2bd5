/- A part of the proof. -/
import Derived.Test.YtnflnicdjioflaaGreatDoorSxbd
set_option linter.unusedVariables false
set_option linter.unusedSimpArgs false
set_option maxRecDepth 100000
set_option maxHeartbeats 8000000
namespace Go.Proofs.YtnflnicdjioflaaGreatDoor
open Go.RowKit Go.Proofs.YtnflnicdjioflaaGreatDoorW.PrintWords Go.Proofs.YtnflnicdjioflaaGreatDoorW.PrintLast Go.Proofs.YtnflnicdjioflaaGreatDoorW.PrintMore
namespace Sec
attribute [local go_sem] Qh Qi Qk Ql Qd Qe
open Q15
open Bts
open Bk
structure Tw (ws l:List Int) (s:List (Int×Int)):Prop where
 el: ∀p∈s,0<=p.1/\p.1<8/\1<=p.2/\p.2<=128
 adj:AdjS s
 len:(Qo s).length =ws.length
 fits: ∀j,j<ws.length->0<=Xe ws l (rd (Qo s) j).toNat j
def Ud (ws l:List Int) (s:List (Int×Int)):Int:=Z7 s+cbk (Xe ws l) 0 (Qo s)
theorem Tw.sl {ws l:List Int} {s:List (Int×Int)} (h:Tw ws l s):s.length<=ws.length:=by
 rw[<-h.len]
 have key: ∀s:List (Int×Int),(∀p∈s,1<=p.2)->s.length<=(Qo s).length :=by
  intro s
  induction s with
  |nil=>intro _;simp
  |cons p s ih=>
   intro h;have h1:=h p (by simp);have h2:=ih (fun q hq=>h q (by simp[hq]));rw[Gf,List.length_append,List.length_replicate,List.length_cons];omega
 exact key s (fun p hp=>(h.el p hp).2.2.1)
theorem Qay (A B:Option Addr) (c1 c2:Nat) (ws l:List Int) (As:Option Addr) (cs:Nat) (s:List (Int×Int)) (w:World) (hL:Xn w) (hr:(Kd.int .i64).C w A ws.length ws) (hr2:(Kd.int .i64).C w B l.length l) (hcap:l.length<=c2) (hok:Ok ws l) (h0:0<ws.length)
  (hs:Cells w As (Zt s)) (hR:Tw ws l s):
  Calls Tryz.prog 147 #[.slice A ws.length c1,.slice B l.length c2,.slice As s.length cs] w fun e w'=>e= .returned (.tuple #[.int .i64 (Ud ws l s),.int .i64 0])/\Below w.heap.size w w':=by
 have hb:=Below.refl w.heap.size w;have HC:=Qa.mk (fun(W:World) (hb:Below w.heap.size w W)=>Di A B c1 c2 ws l W (hL.below hb) (Kd.Qf hr hb) (Kd.Qf hr2 hb) hok);have HK:=Qa.mk (fun(W:World) (hb:Below w.heap.size w W)=>Qa0 A B c1 c2 ws l As cs s W (hL.below hb) (Kd.Qf hr hb) (Kd.Qf hr2 hb) hcap hok h0 (hs.below hb) hR.el (by have:=hR.sl;have:=hok.len;omega) hR.adj hR.len hR.fits);obtain⟨T,hT⟩: ∃T,T=Ud ws l s:=⟨_,rfl⟩;have hT2:Z7 s+cbk (Xe ws l) 0 (Qo s)=T:=(by rw[hT];rfl);rw[hT2] at HK;rw[<-hT];clear hL hr hr2 hcap hok h0 hs hR hT hT2;go_enter Tryz.func147,Tryz.ntmps147;go_wp2_with (first|(go_at_call 140;refine((HC.out _ hb)).mono ?_;rintro e w' ⟨rfl,hbn⟩;replace hb:=bnx hb hbn;clear hbn)|(go_at_call 191;refine((HK.out _ hb)).mono ?_;rintro e w' ⟨rfl,hbn⟩;replace hb:=bnx hb hbn;clear hbn));go_ret2;exact⟨rfl,hb⟩
theorem Qas {ws l:List Int} (hok:Ok ws l):Tw ws l ((wL ws l ws.length).getD 0 w0).secs /\Ud ws l ((wL ws l ws.length).getD 0 w0).secs =((wL ws l ws.length).getD 0 w0).cost :=by
 have h:=wL_ok hok ws.length (Nat.le_refl _);rw[Nat.sub_self] at h;refine⟨⟨h.el,h.adj,by rw[<-h.bk];have:=h.len;omega,fun j hj=> ?_⟩,?_⟩
 ·rw[<-h.bk]
  have:=h.fits j (by have:=h.len;omega)
  rwa [Nat.zero_add] at this
 ·unfold Ud
  rw[<-h.bk,h.cost]
end Sec

end Go.Proofs.YtnflnicdjioflaaGreatDoor
