/- A part of the proof. -/
import Derived.Test.YtnflnicdjioflaaGreatDoorMdbf
import Derived.Test.YtnflnicdjioflaaGreatDoorMdaz
set_option linter.unusedVariables false
set_option linter.unusedSimpArgs false
set_option maxRecDepth 100000
set_option maxHeartbeats 8000000
namespace Go.Proofs.YtnflnicdjioflaaGreatDoor
open Go.RowKit Go.Proofs.YtnflnicdjioflaaGreatDoorW.PrintWords Go.Proofs.YtnflnicdjioflaaGreatDoorW.PrintLast Go.Proofs.YtnflnicdjioflaaGreatDoorW.PrintMore
namespace Rq
attribute [local go_sem] Qi Qj Qk Ql Qg Qh
open Q15
open Q21
open Q16 (isW Q0)
open Gn (Kz)
open Sca (scE)
theorem H7 (A:Option Addr) (cap:Nat) (l:List Int) (w:World) (hr:(Kd.int .i64).C w A l.length l) (hl:l.length<=1000000):
  Calls Tryz.prog 92 #[.slice A l.length cap] w fun e w'=>e= .returned (.bool (Q16.rng (-1023) 1023 l))/\Below w.heap.size w w':=by
 have HR:=Qa.mk hr;have hlI:(l.length:Int)<=1000000:=(by omega);have HF:Qa (∀k,k<l.length-> ¬(-1023<=rd l k/\rd l k<=1023)->Q16.rng (-1023) 1023 l=false):=⟨fun k hk h=>List.all_eq_false.2 ⟨_,Qt l k hk,by simpa using h⟩⟩;have HT:Qa ((∀x∈l,-1023<=x/\x<=1023)->Q16.rng (-1023) 1023 l=true):=⟨fun h=>List.all_eq_true.2 fun x hx=>decide_eq_true (h x hx)⟩;obtain⟨b,hbe⟩: ∃b,b=Q16.rng (-1023) 1023 l:=⟨_,rfl⟩;rw[<-hbe] at HF HT ⊢;clear hr hl hbe;go_enter Tryz.func92,Tryz.ntmps92;go_wp2;go_loopw [7] (fun i wr=> ∃k:Nat,i= .int .i64 k/\k<=l.length/\Qa (∀x∈l.take k,-1023<=x/\x<=1023)/\Below w.heap.size w wr) (fun i _=>l.length-(intOf i).toNat)
 case atStart=>exact⟨0,rfl,by omega,⟨by simp⟩,Below.refl _ _⟩
 case round=>
  obtain⟨k,rfl,hk,ha,hb⟩:=hrel;by_cases hlt:k<l.length
  ·obtain⟨ad,rfl,hcell⟩:=Qq HR.out hb hlt
   have hT:=Qa.mk (Qx l k hlt);have hf:=HF.out k hlt;have hkI:(k:Int)<(l.length:Int):=(by omega);obtain⟨n,hx⟩: ∃n,n=rd l k:=⟨_,rfl⟩;rw[<-hx] at hcell hT hf;replace hf:=Qa.mk hf;clear hx;by_cases h1:n< -1023
   ·have hff:=Qa.mk (hf.out (by omega))
    go_wp2;go_ret;exact⟨by rw[hff.out];rfl,hb⟩
   ·by_cases h2:1023<n
    ·have hff:=Qa.mk (hf.out (by omega))
     have h1':decide (n< -1023)=false:=(by simpa using h1);go_wp2;go_ret;exact⟨by rw[hff.out];rfl,hb⟩
    ·have h1':decide (n< -1023)=false:=by simpa using h1
     have h2':decide (1023<n)=false:=(by simpa using h2);have h3:Qa (-1023<=n/\n<=1023):=⟨by omega⟩;clear h1 h2;go_wp2;go_roundw
     case rel=>exact⟨k+1,by go_num,by omega,⟨by
      rw[hT.out];intro x hx;rcases List.mem_append.1 hx with hx|hx
      ·exact ha.out x hx
      ·rw[List.mem_singleton.1 hx];exact h3.out⟩,hb⟩
     case measure=>simp[intOf];omega
  ·obtain rfl:k=l.length:=by omega
   have hA:=ha.out;rw[List.take_length] at hA;have hff:=Qa.mk (HT.out hA);clear ha hA;go_wp2;go_ret;exact⟨by rw[hff.out];rfl,hb⟩
theorem Sq (sh:Bool) (A1 A2 A3 A4 A:Option Addr) (n1 c1 c2 c3 c4 c:Nat) (ws sc qu fi:List Int) (w:World) (hr:(Kd.int .i64).C w A ws.length ws) (hW:isW ws=true) (h2:(Kd.int .i64).C w A2 sc.length sc) (h3:(Kd.int .i64).C w A3 qu.length qu) (h4:(Kd.int .i64).C w A4 fi.length fi)
  (l2:sc.length<=1000000) (l3:qu.length<=1000000) (l4:fi.length<=1000000) (hc3:qu.length<=c3) (hc9:c3<=9223372036854775807):
  Calls Tryz.prog 48 #[.agg #[.bool sh,.slice A1 n1 c1,.slice A2 sc.length c2,.slice A3 qu.length c3,.slice A4 fi.length c4],.slice A ws.length c] w fun e w'=>e= .returned (.bool (Kz ws sc qu fi))/\Below w.heap.size w w':=by
 obtain⟨W0,hW0⟩: ∃W0,W0=w.alloc (.cells #[.bool sh,.slice A1 n1 c1,.slice A2 sc.length c2,.slice A3 qu.length c3,.slice A4 fi.length c4] 46):=⟨_,rfl⟩;have hb0:Below w.heap.size w W0:=(by rw[hW0];exact(Below.refl _ _).alloc (Nat.le_refl _) _);have hB0:W0.heap[w.heap.size]? =some (.cells #[.bool sh,.slice A1 n1 c1,.slice A2 sc.length c2,.slice A3 qu.length c3,.slice A4 fi.length c4] 46 (0,0)):=(by rw[hW0];exact heap_alloc_new _ _);have k2:W0.cell? ⟨w.heap.size,2,none⟩=some (.slice A2 sc.length c2):=(by rw[Qb hB0];rfl);have k3:W0.cell? ⟨w.heap.size,3,none⟩=some (.slice A3 qu.length c3):=(by rw[Qb hB0];rfl);have k4:W0.cell? ⟨w.heap.size,4,none⟩=some (.slice A4 fi.length c4):=(by rw[Qb hB0];rfl);have HI:=Qa.mk (fun(W:World) (hb:Below w.heap.size w W)=>Tn A4 c4 fi W (Kd.Qe h4 hb) l4);have HV:=Qa.mk (fun(W:World) (hb:Below w.heap.size w W)=>H7 A3 c3 qu W (Kd.Qe h3 hb) l3);have hwl:(ws.length:Int)<=32:=(by have:=(Q0.1 hW).2.2;omega);have hsl:(sc.length:Int)<=1000000:=(by omega);have hql:(qu.length:Int)<=1000000:=(by omega);have hchk:Kz ws sc qu fi=(decide (sc.length=ws.length)&&(decide (qu.length=128)&&(Y6 fi&&(Q16.rng (-1023) 1023 qu&&decide (scE sc (Xb ws qu)=0))))):=rfl;obtain⟨R,hR⟩: ∃R,R=Kz ws sc qu fi:=⟨_,rfl⟩;rw[<-hR] at hchk ⊢;replace hR:=Qa.mk hR;by_cases e1:sc.length=ws.length
 ·have hne:((sc.length:Int) != (ws.length:Int))=false:=by rw[e1];simp
  have hne3:(sc.length != ws.length)=false:=(by rw[e1];simp);by_cases e2:qu.length=128
  ·rw[decide_eq_true e1,decide_eq_true e2,Bool.true_and,Bool.true_and] at hchk
   have hne2:((qu.length:Int) != 128)=false:=(by rw[e2];rfl);have hne4:(qu.length != 128)=false:=(by rw[e2];rfl);obtain⟨a3,rfl,-⟩:=Qq h3 (Below.refl _ _) (k:=0) (by omega);have HU:=Qa.mk (fun(W:World) (hb:Below w.heap.size w W)=>Qar A c ws a3 c3 qu W (Kd.Qe hr hb) hW (Kd.Qe h3 hb) e2 (by omega) hc9);have hul:=Y7 ws qu;obtain⟨us,hus⟩: ∃us,us=Xb ws qu:=⟨_,rfl⟩;rw[<-hus] at HU hul hchk;have HC:=Qa.mk (fun(W:World) (B:Option Addr) (cB:Nat) (hb:Below w.heap.size w W) (hg:Kd.bool.C W B us.length us)=>Qaq A2 B c2 cB sc us W (Kd.Qe h2 hb) hg (by omega) (by omega));have hus9:us.length<=1000000:=(by omega);replace e1:=Qa.mk e1;replace e2:=Qa.mk e2;replace hul:=Qa.mk hul;clear hr hW h2 h3 h4 l2 l3 l4 hus hc3 hc9
   cases hv:Q16.rng (-1023) 1023 qu with
   |false=>
    rw[hv] at HV hchk;rw[Bool.false_and,Bool.and_false] at hchk;replace hchk:=Qa.mk hchk;clear hv HU HC HI;go_enter Tryz.func48,Tryz.ntmps48;go_wp2_with fail;rw[<-hW0];refine(HV.out _ hb0).mono ?_;rintro e w' ⟨rfl,hbn⟩;replace hb0:=bnx hb0 hbn;clear hbn hW0;go_wp2_with fail;go_ret;exact⟨by rw[hchk.out];rfl,hb0⟩
   |true=>
    rw[hv] at HV hchk;rw[Bool.true_and] at hchk
    cases hf:Y6 fi with
    |false=>
     rw[hf] at HI hchk;rw[Bool.false_and] at hchk;replace hchk:=Qa.mk hchk;clear hv hf HU HC;go_enter Tryz.func48,Tryz.ntmps48;go_wp2_with fail;rw[<-hW0];refine(HV.out _ hb0).mono ?_;rintro e w' ⟨rfl,hbn⟩;replace hb0:=bnx hb0 hbn;replace k4:=cnx k4 hbn;clear hbn hW0 hB0 k2 k3;go_wp2_with fail;refine(HI.out _ hb0).mono ?_;rintro e w2 ⟨rfl,hbn⟩;replace hb0:=bnx hb0 hbn;clear hbn;go_wp2_with fail;go_ret;exact⟨by rw[hchk.out];rfl,hb0⟩
    |true=>
     rw[hf] at HI hchk;rw[Bool.true_and] at hchk;clear hv hf;obtain⟨E,hEe⟩: ∃E,E=scE sc us:=⟨_,rfl⟩;rw[<-hEe] at HC hchk;have hE3:Qa ((E==0)=R):=⟨by rw[hchk];simp[BEq.beq]⟩;clear hEe hchk;go_enter Tryz.func48,Tryz.ntmps48;go_wp2_with fail;rw[<-hW0];refine(HV.out _ hb0).mono ?_;rintro e w' ⟨rfl,hbn⟩;replace hb0:=bnx hb0 hbn;replace k2:=cnx k2 hbn;replace k3:=cnx k3 hbn;replace k4:=cnx k4 hbn;clear hbn hW0 hB0;go_wp2_with fail;refine(HI.out _ hb0).mono ?_;rintro e w2 ⟨rfl,hbn⟩;replace hb0:=bnx hb0 hbn;replace k2:=cnx k2 hbn;replace k3:=cnx k3 hbn;clear hbn k4;go_wp2_with fail;rw[e2.out];refine(HU.out _ hb0).mono ?_;rintro e w3 ⟨v,rfl,hRu,hbn⟩;obtain⟨Bu,cu,rfl,-,hCu⟩:=Kd.Qu hRu;replace hb0:=bnx hb0 hbn;replace k2:=cnx k2 hbn;have HC3:=Qa.mk (HC.out w3 Bu cu hb0 hCu);clear hRu hCu hbn k3 HC HU HI HV;go_wp2_with fail;refine HC3.out.mono ?_;rintro e w4 ⟨n,rfl,hbn⟩;replace hb0:=bnx hb0 hbn;clear hbn;go_wp2_with fail;go_ret;exact⟨by rw[<-hE3.out];rfl,hb0⟩
  ·rw[decide_eq_true e1,decide_eq_false e2,Bool.true_and,Bool.false_and] at hchk
   have hne2:((qu.length:Int) != 128)=true:=by simpa using fun h=>e2 (by omega)
   have hne4:(qu.length != 128)=true:=(by simpa using e2);replace hchk:=Qa.mk hchk;replace e1:=Qa.mk e1;replace e2:=Qa.mk e2;rw[hW0] at hb0;clear hr hW h2 h3 h4 l2 l3 l4 k2 k3 k4 hW0 hB0 HV HI hc3 hc9;go_enter Tryz.func48,Tryz.ntmps48;go_wp2_with fail;go_ret;exact⟨by rw[hchk.out];rfl,hb0⟩
 ·rw[decide_eq_false e1,Bool.false_and] at hchk
  have hne:((sc.length:Int) != (ws.length:Int))=true:=by simpa using fun h=>e1 (by omega)
  have hne3:(sc.length != ws.length)=true:=(by simpa using e1);replace hchk:=Qa.mk hchk;replace e1:=Qa.mk e1;rw[hW0] at hb0;clear hr hW h2 h3 h4 l2 l3 l4 k2 k3 k4 hW0 hB0 HV HI hc3 hc9;go_enter Tryz.func48,Tryz.ntmps48;go_wp2_with fail;go_ret;exact⟨by rw[hchk.out];rfl,hb0⟩
end Rq

end Go.Proofs.YtnflnicdjioflaaGreatDoor
