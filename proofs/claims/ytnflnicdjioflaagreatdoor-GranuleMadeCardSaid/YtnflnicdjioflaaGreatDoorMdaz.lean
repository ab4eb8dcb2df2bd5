/- A part of the proof. -/
import Derived.Test.YtnflnicdjioflaaGreatDoorMdax
set_option linter.unusedVariables false
set_option linter.unusedSimpArgs false
set_option maxRecDepth 100000
set_option maxHeartbeats 8000000
namespace Go.Proofs.YtnflnicdjioflaaGreatDoor
open Go.RowKit Go.Proofs.YtnflnicdjioflaaGreatDoorW.PrintWords Go.Proofs.YtnflnicdjioflaaGreatDoorW.PrintLast Go.Proofs.YtnflnicdjioflaaGreatDoorW.PrintMore
namespace Gn
attribute [local go_sem] Qi Qj Qk Ql Qg Qh
open Q15
open Q16 (isW Q0)
open Q21 (Qb Qf Xb Y7 Y6 J5 Uv)
open Bts
open Sca
def Kz (ws sc qu fi:List Int):Bool:=decide (sc.length=ws.length)&&(decide (qu.length=128)&&(Y6 fi&&(Q16.rng (-1023) 1023 qu&&decide (scE sc (Xb ws qu)=0))))
theorem CB_of {w:World} {g:Nat} {l:List Bool} {t:Nat} (h:w.heap[g]? =some (.cells (l.map Value.bool).toArray t (0,0))) (hl:l.length<=1000000):Kd.bool.C w (some ⟨g,0,none⟩) l.length l:=by
 refine Kd.Z4 (enc:=Value.bool) (h1:=fun _=>rfl) (d:=false) ⟨rfl,by omega,fun h0=>⟨_,rfl,fun j hj=> ?_⟩⟩;have e:(⟨g,0,none⟩:Addr).add j=⟨g,j,none⟩:=by simp[Addr.add];exact fun h=>h.symm
 rw[e,Qb h];simp[List.getD_eq_getElem?_getD,List.getElem?_eq_getElem hj]
theorem Hw (sh:Bool) (A1 A2 A3 A4 A:Option Addr) (n1 c1 c2 c3 c4 c:Nat) (ws sc qu fi:List Int) (w:World) (hr:(Kd.int .i64).C w A ws.length ws) (hW:isW ws=true) (h2:(Kd.int .i64).C w A2 sc.length sc) (h3:(Kd.int .i64).C w A3 qu.length qu) (h4:(Kd.int .i64).C w A4 fi.length fi)
  (l2:sc.length<=1000000) (l3:qu.length<=1000000) (l4:fi.length<=1000000):
  Calls Tryz.prog 67 #[.agg #[.bool sh,.slice A1 n1 c1,.slice A2 sc.length c2,.slice A3 qu.length c3,.slice A4 fi.length c4],.slice A ws.length c] w fun e w'=>e= .returned (.bool (Kz ws sc qu fi))/\Below w.heap.size w w':=by
 obtain⟨W0,hW0⟩: ∃W0,W0=w.alloc (.cells #[.bool sh,.slice A1 n1 c1,.slice A2 sc.length c2,.slice A3 qu.length c3,.slice A4 fi.length c4] 46):=⟨_,rfl⟩;have hb0:Below w.heap.size w W0:=(by rw[hW0];exact(Below.refl _ _).alloc (Nat.le_refl _) _);have hB0:W0.heap[w.heap.size]? =some (.cells #[.bool sh,.slice A1 n1 c1,.slice A2 sc.length c2,.slice A3 qu.length c3,.slice A4 fi.length c4] 46 (0,0)):=(by rw[hW0];exact heap_alloc_new _ _);have k2:W0.cell? ⟨w.heap.size,2,none⟩=some (.slice A2 sc.length c2):=(by rw[Qb hB0];rfl);have k3:W0.cell? ⟨w.heap.size,3,none⟩=some (.slice A3 qu.length c3):=(by rw[Qb hB0];rfl);have HI:=Qa.mk (fun(W:World) (hb:Below w.heap.size w W)=>J5 A4 c4 fi W (Kd.Qe h4 hb) l4);have HR3:=Qa.mk (fun(W:World) (hb:Below w.heap.size w W)=>Kd.Qe h3 hb);have hwl:(ws.length:Int)<=32:=(by have:=(Q0.1 hW).2.2;omega);have hsl:(sc.length:Int)<=1000000:=(by omega);have hql:(qu.length:Int)<=1000000:=(by omega);have hchk:Kz ws sc qu fi=(decide (sc.length=ws.length)&&(decide (qu.length=128)&&(Y6 fi&&(Q16.rng (-1023) 1023 qu&&decide (scE sc (Xb ws qu)=0))))):=rfl;obtain⟨R,hR⟩: ∃R,R=Kz ws sc qu fi:=⟨_,rfl⟩;rw[<-hR] at hchk ⊢;replace hR:=Qa.mk hR;by_cases e1:sc.length=ws.length
 ·by_cases e2:qu.length=128
  ·rw[decide_eq_true e1,decide_eq_true e2,Bool.true_and,Bool.true_and] at hchk
   obtain⟨a3,rfl,-⟩:=Qq h3 (Below.refl _ _) (k:=0) (by omega)
   have hw0:0<ws.length:=by
    cases ws with
    |nil=>have:=(Q0.1 hW).2.1;simp at this
    |cons x y=>simp
   have HU:=Qa.mk (fun(W:World) (hb:Below w.heap.size w W)=>Uv A c ws a3 c3 qu W (Kd.Qe hr hb) hW (Kd.Qe h3 hb) e2);have hul:=Y7 ws qu;obtain⟨us,hus⟩: ∃us,us=Xb ws qu:=⟨_,rfl⟩;rw[<-hus] at HU hul hchk;have HCy:=Qa.mk (fun(h:scE sc us=0) (W:World) (g:Nat) (hb:Below w.heap.size w W) (hg:Kd.bool.C W (some ⟨g,0,none⟩) us.length us)=>Ni A2 (some ⟨g,0,none⟩) c2 us.length sc us W (Kd.Qe h2 hb) hg (by omega) (by omega) (by omega) h);have HCn:=Qa.mk (fun(h:scE sc us≠0) (W:World) (g:Nat) (hb:Below w.heap.size w W) (hg:Kd.bool.C W (some ⟨g,0,none⟩) us.length us)=>Qep A2 (some ⟨g,0,none⟩) c2 us.length sc us W (Kd.Qe h2 hb) hg (by omega) (by omega) h);have hne:((sc.length:Int) != (ws.length:Int))=false:=(by rw[e1];simp);have hne2:((qu.length:Int) != 128)=false:=(by rw[e2];rfl);have hne3:(sc.length != ws.length)=false:=(by rw[e1];simp);have hne4:(qu.length != 128)=false:=(by rw[e2];rfl);have hus9:us.length<=1000000:=(by omega);replace e1:=Qa.mk e1;replace e2:=Qa.mk e2;replace hul:=Qa.mk hul
   cases hf:Y6 fi with
   |false=>
    rw[hf] at HI hchk;rw[Bool.false_and] at hchk;replace hchk:=Qa.mk hchk;clear hr hW h2 h3 h4 l2 l3 l4 HU HCy HCn hus hf hw0;go_enter Tryz.func67,Tryz.ntmps67;go_wp2_with fail;rw[<-hW0];refine(HI.out _ hb0).mono ?_;rintro e w' ⟨rfl,hbn⟩;replace hb0:=bnx hb0 hbn;clear hbn hW0;go_wp2_with fail;go_ret;exact⟨by rw[hchk.out];rfl,hb0⟩
   |true=>
    rw[hf] at HI hchk;rw[Bool.true_and] at hchk;replace hchk:=Qa.mk hchk;clear hr hW h2 h3 h4 l2 l3 l4 hus hf hw0;go_enter Tryz.func67,Tryz.ntmps67;go_wp2_with fail;rw[<-hW0];refine(HI.out _ hb0).mono ?_;rintro e w' ⟨rfl,hbn⟩;replace hb0:=bnx hb0 hbn;replace k2:=cnx k2 hbn;replace k3:=cnx k3 hbn;clear hbn hW0 hB0;go_wp2_with fail;go_loop [32] (fun i=> ∃k:Nat,i= .int .i64 k/\k<=qu.length/\Qa (Q16.rng (-1023) 1023 (qu.take k)=true)) (fun i=>qu.length-(intOf i).toNat)
    case atStart=>exact⟨0,rfl,by omega,⟨rfl⟩⟩
    case round=>
     obtain⟨k,rfl,hk,ha⟩:=hrel;by_cases hlt:k<qu.length
     ·obtain⟨ad,had,hcell⟩:=Qq (HR3.out _ hb0) (Below.refl _ _) hlt
      cases had;have hkI:(k:Int)<(qu.length:Int):=(by omega);have hno:=Qa.mk (fun h=>Q16.Pp (low:= -1023) (high:=1023) hlt h)
      have hT:Qa (Q16.rng (-1023) 1023 (qu.take (k+1))=decide (-1023<=rd qu k/\rd qu k<=1023)):=⟨by
       have:=ha.out;unfold Q16.rng at this ⊢;rw[Qx qu k hlt,List.all_append,this]
       simp⟩
      obtain⟨x,hx⟩: ∃x,x=rd qu k:=⟨_,rfl⟩;rw[<-hx] at hcell hno hT;have hlt':=Qa.mk hlt;clear hx hlt;by_cases hx1:x< -1023
      ·have t1:decide (x< -1023)=true:=decide_eq_true hx1
       have hE:Qa (R=false):=⟨by rw[hchk.out,hno.out (.inl hx1)];rfl⟩;clear hx1;go_wp2_with fail;go_ret;exact⟨by rw[hE.out];rfl,hb0⟩
      ·have t1:decide (x< -1023)=false:=decide_eq_false hx1
       by_cases hx2:1023<x
       ·have t2:decide (1023<x)=true:=decide_eq_true hx2
        have hE:Qa (R=false):=⟨by rw[hchk.out,hno.out (.inr hx2)];rfl⟩;clear hx1 hx2;go_wp2_with fail;go_ret;exact⟨by rw[hE.out];rfl,hb0⟩
       ·have t2:decide (1023<x)=false:=decide_eq_false hx2
        have hT2:Qa (Q16.rng (-1023) 1023 (qu.take (k+1))=true):=⟨by rw[hT.out];exact decide_eq_true (by omega)⟩;clear hx1 hx2 hT;go_wp2_with fail;go_round
        case rel=>exact⟨k+1,by go_num,hlt'.out,hT2⟩
        case measure=>have:=hlt'.out;simp[intOf];omega
     ·obtain rfl:k=qu.length:=by omega
      have hrg:=ha.out;rw[List.take_length] at hrg;have hchk2:Qa (R=decide (scE sc us=0)):=⟨by rw[hchk.out,hrg,Bool.true_and]⟩;clear ha hchk hrg hlt hk;go_wp2_with fail;rw[e2.out];refine(HU.out _ hb0).mono ?_;rintro e w2 ⟨g,rfl,hg,hgc,hbn⟩;have hC:=CB_of hgc hus9;replace hb0:=bnx hb0 hbn;replace k2:=cnx k2 hbn;by_cases hE:scE sc us=0
      ·have HC:=HCy.out hE w2 g hb0 hC
       rw[hul.out] at HC;replace HC:=Qa.mk HC;have hr9:Qa (R=true):=⟨by rw[hchk2.out];exact decide_eq_true hE⟩;clear hC hgc hE HCy HCn HU hbn hchk2 hg k3;go_wp2_with fail;refine HC.out.mono ?_;rintro e w3 ⟨rfl,hbn⟩;replace hb0:=bnx hb0 hbn;clear hbn;go_wp2_with fail;go_ret;exact⟨by rw[hr9.out];rfl,hb0⟩
      ·have HC:=HCn.out hE w2 g hb0 hC
       rw[hul.out] at HC;replace HC:=Qa.mk HC;have hr9:Qa (R=false):=⟨by rw[hchk2.out];exact decide_eq_false hE⟩;obtain⟨E,hEe⟩: ∃E,E=scE sc us:=⟨_,rfl⟩;rw[<-hEe] at HC hE;have hE2:(E==0)=false:=(by simpa using hE);clear hC hgc hE hEe HCy HCn HU hbn hchk2 hg k3;go_wp2_with fail;refine HC.out.mono ?_;rintro e w3 ⟨rfl,hbn⟩;replace hb0:=bnx hb0 hbn;clear hbn;go_wp2_with fail;go_ret;exact⟨by rw[hr9.out];rfl,hb0⟩
  ·rw[decide_eq_true e1,decide_eq_false e2,Bool.true_and,Bool.false_and] at hchk
   have hne:((sc.length:Int) != (ws.length:Int))=false:=(by rw[e1];simp);have hne3:(sc.length != ws.length)=false:=(by rw[e1];simp);have hne2:((qu.length:Int) != 128)=true:=by simpa using fun h=>e2 (by omega)
   have hne4:(qu.length != 128)=true:=(by simpa using e2);replace hchk:=Qa.mk hchk;replace e1:=Qa.mk e1;replace e2:=Qa.mk e2;rw[hW0] at hb0;clear hr hW h2 h3 h4 l2 l3 l4 k2 k3 hW0 hB0;go_enter Tryz.func67,Tryz.ntmps67;go_wp2_with fail;go_ret;exact⟨by rw[hchk.out];rfl,hb0⟩
 ·rw[decide_eq_false e1,Bool.false_and] at hchk
  have hne:((sc.length:Int) != (ws.length:Int))=true:=by simpa using fun h=>e1 (by omega)
  have hne3:(sc.length != ws.length)=true:=(by simpa using e1);replace hchk:=Qa.mk hchk;replace e1:=Qa.mk e1;rw[hW0] at hb0;clear hr hW h2 h3 h4 l2 l3 l4 k2 k3 hW0 hB0;go_enter Tryz.func67,Tryz.ntmps67;go_wp2_with fail;go_ret;exact⟨by rw[hchk.out];rfl,hb0⟩
end Gn

namespace Gn
attribute [local go_sem] Qi Qj Qk Ql Qg Qh
open Q15
open Q21
def ch0:Ch:=⟨false,[],[],[],[]⟩
def chK (g:Gr) (k:Nat):Ch:=g.chs.getD k ch0
theorem V6 {w W:World} {A:Option Addr} {xs:List Ch} (h:kCh.C w A xs.length xs) (hb:Below w.heap.size w W) {k:Nat} (hk:k<xs.length):
  ∃ad A1 c1 A2 c2 A3 c3 A4 c4,A=some ad/\(∀(j:Nat) (u:Value),[Value.bool (xs.getD k ch0).sh,.slice A1 (xs.getD k ch0).gr.length c1,.slice A2 (xs.getD k ch0).sc.length c2,.slice A3 (xs.getD k ch0).qu.length c3,.slice A4 (xs.getD k ch0).fi.length c4][j]? =some u->W.cell? (ad.add (k*5+j))=some u)/\
   (Kd.int .i64).C W A1 (xs.getD k ch0).gr.length (xs.getD k ch0).gr /\(Kd.int .i64).C W A2 (xs.getD k ch0).sc.length (xs.getD k ch0).sc /\(Kd.int .i64).C W A3 (xs.getD k ch0).qu.length (xs.getD k ch0).qu /\(Kd.int .i64).C W A4 (xs.getD k ch0).fi.length (xs.getD k ch0).fi :=by
 obtain⟨ad,c,e,_,hK,hc⟩:=Kd.Oi (Kd.Qe h hb) ch0 k (by omega) (by omega);have hK2:kCh.K W (xs.getD k ch0) c:=hK;obtain⟨A1,c1,A2,c2,A3,c3,A4,c4,rfl,l1,g1,l2,g2,l3,g3,l4,g4⟩:=I1 hK2;have hc': ∀(j:Nat) (u:Value),[Value.bool (xs.getD k ch0).sh,.slice A1 (xs.getD k ch0).gr.length c1,.slice A2 (xs.getD k ch0).sc.length c2,.slice A3 (xs.getD k ch0).qu.length c3,.slice A4 (xs.getD k ch0).fi.length c4][j]? =some u->W.cell? (ad.add ((k:Int).toNat *5+j))=some u:=hc;exact⟨ad,A1,c1,A2,c2,A3,c3,A4,c4,e,hc',g1,g2,g3,g4⟩
theorem Lj (AC M:Option Addr) (cC cM n m:Nat) (w:World) (hn:n<1\/2<n):
  Calls Tryz.prog 35 #[.agg #[.slice AC n cC,.slice M m cM]] w fun e w'=>e= .returned (.tuple #[.slice none 0 0,.bool false])/\Below w.heap.size w w':=by
 have hb:Below w.heap.size w (w.alloc (.cells #[.slice AC n cC,.slice M m cM] 31)):=(Below.refl _ _).alloc (Nat.le_refl _) _;have hu31:=Tryz.underlying31;rcases hn with hn|hn
 ·have t1:decide ((n:Int)<1)=true:=decide_eq_true (by omega)
  clear hn;go_enter Tryz.func35,Tryz.ntmps35;go_wp2_with fail;go_ret2;exact⟨rfl,hb⟩
 ·have t1:decide ((n:Int)<1)=false:=decide_eq_false (by omega)
  have t2:decide (2<(n:Int))=true:=decide_eq_true (by omega);clear hn;go_enter Tryz.func35,Tryz.ntmps35;go_wp2_with fail;go_ret2;exact⟨rfl,hb⟩
end Gn

namespace Gn
attribute [local go_sem] Qi Qj Qk Ql Qg Qh
open Q15
open Q21
theorem Mk (AC M:Option Addr) (cC cM:Nat) (g:Gr) (w:World) (hL:Laid w) (hc:kCh.C w AC g.chs.length g.chs) (hn:1<=g.chs.length/\g.chs.length<=2) (hd:Zd (chK g 0).sh (chK g 0).gr =false):
  Calls Tryz.prog 35 #[.agg #[.slice AC g.chs.length cC,.slice M g.mid.length cM]] w fun e w'=>e= .returned (.tuple #[.slice none 0 0,.bool false])/\Below w.heap.size w w':=by
 obtain⟨w1,hw1⟩: ∃w1,w1=w.alloc (.cells #[.slice AC g.chs.length cC,.slice M g.mid.length cM] 31):=⟨_,rfl⟩;have hb:Below w.heap.size w w1:=(by rw[hw1];exact(Below.refl _ _).alloc (Nat.le_refl _) _);have hu31:=Tryz.underlying31;have hu46:=Tryz.underlying46;obtain⟨ad,A1,c1,A2,c2,A3,c3,A4,c4,rfl,hcell,g1,-,-,-⟩:=V6 hc hb (k:=0) (by omega);have hx:chK g 0=g.chs.getD 0 ch0:=rfl;rw[<-hx] at hcell g1;have HW:=Qa.mk (fun(W:World) (hb2:Below w1.heap.size w1 W)=>X0 (chK g 0).sh A1 c1 (chK g 0).gr W (hL.below (bnx hb hb2)) (Kd.Qe g1 hb2));unfold K5 Vr at HW;rw[hd,if_neg (by decide),if_neg (by decide)] at HW;obtain⟨X,hX⟩: ∃X,X=chK g 0:=⟨_,rfl⟩;rw[<-hX] at hcell HW;have n0:w1.cell? ad=some (.bool X.sh):=(by simpa[Addr.add] using hcell 0 _ rfl);have n1:w1.cell? ⟨ad.block,ad.off+1,none⟩=some (.slice A1 X.gr.length c1):=(by simpa[Addr.add] using hcell 1 _ rfl);have n2:w1.cell? ⟨ad.block,ad.off+2,none⟩=some (.slice A2 X.sc.length c2):=(by simpa[Addr.add] using hcell 2 _ rfl);have n3:w1.cell? ⟨ad.block,ad.off+3,none⟩=some (.slice A3 X.qu.length c3):=(by simpa[Addr.add] using hcell 3 _ rfl);have n4:w1.cell? ⟨ad.block,ad.off+4,none⟩=some (.slice A4 X.fi.length c4):=(by simpa[Addr.add] using hcell 4 _ rfl);have t1:decide ((g.chs.length:Int)<1)=false:=decide_eq_false (by omega);have t2:decide (2<(g.chs.length:Int))=false:=decide_eq_false (by omega);have t3:(0:Int)<(g.chs.length:Int):=(by omega);rw[hw1] at n0 n1 n2 n3 n4;clear hcell hX hx hd hn hL hc g1;go_enter Tryz.func35,Tryz.ntmps35;go_wp2_with fail;rw[<-hw1];refine(HW.out _ ((Below.refl _ _).alloc (Nat.le_refl _) _)).mono ?_;rintro e w2 ⟨B,q,rfl,-,hbn⟩;have hb2:=bnx hb (bnx ((Below.refl w1.heap.size w1).alloc (Nat.le_refl _) (.cells #[.bool X.sh,.slice A1 X.gr.length c1,.slice A2 X.sc.length c2,.slice A3 X.qu.length c3,.slice A4 X.fi.length c4] 46)) hbn);clear hbn n0 n1 n2 n3 n4 hw1;go_wp2_with fail;go_ret2;exact⟨rfl,hb2⟩
theorem Oa (AC M:Option Addr) (cC cM:Nat) (g:Gr) (w:World) (hL:Laid w) (hc:kCh.C w AC g.chs.length g.chs) (hn:1<=g.chs.length/\g.chs.length<=2) (hd:Zd (chK g 0).sh (chK g 0).gr =true) (hm:(if(g.chs.length:Int)=1 then decide (g.mid.length=0) else decide ((g.mid.length:Int)=((Qm (chK g 0).sh (chK g 0).gr).length :Nat)))=false):
  Calls Tryz.prog 35 #[.agg #[.slice AC g.chs.length cC,.slice M g.mid.length cM]] w fun e w'=>e= .returned (.tuple #[.slice none 0 0,.bool false])/\Below w.heap.size w w':=by
 obtain⟨w1,hw1⟩: ∃w1,w1=w.alloc (.cells #[.slice AC g.chs.length cC,.slice M g.mid.length cM] 31):=⟨_,rfl⟩;have hb:Below w.heap.size w w1:=(by rw[hw1];exact(Below.refl _ _).alloc (Nat.le_refl _) _);have hu31:=Tryz.underlying31;have hu46:=Tryz.underlying46;obtain⟨ad,A1,c1,A2,c2,A3,c3,A4,c4,rfl,hcell,g1,-,-,-⟩:=V6 hc hb (k:=0) (by omega);have hx:chK g 0=g.chs.getD 0 ch0:=rfl;rw[<-hx] at hcell g1;have HW:=Qa.mk (fun(W:World) (hb2:Below w1.heap.size w1 W)=>X0 (chK g 0).sh A1 c1 (chK g 0).gr W (hL.below (bnx hb hb2)) (Kd.Qe g1 hb2));unfold K5 Vr at HW;rw[hd,if_pos rfl,if_pos rfl] at HW;obtain⟨X,hX⟩: ∃X,X=chK g 0:=⟨_,rfl⟩;rw[<-hX] at hcell HW hm;obtain⟨ws,hws⟩: ∃ws,ws=Qm X.sh X.gr:=⟨_,rfl⟩;rw[<-hws] at HW hm;have HM:=Qa.mk (fun(W:World)=>K8 M cM g.mid.length (g.chs.length:Int) (ws.length:Int) W);rw[hm] at HM;have n0:w1.cell? ad=some (.bool X.sh):=(by simpa[Addr.add] using hcell 0 _ rfl);have n1:w1.cell? ⟨ad.block,ad.off+1,none⟩=some (.slice A1 X.gr.length c1):=(by simpa[Addr.add] using hcell 1 _ rfl);have n2:w1.cell? ⟨ad.block,ad.off+2,none⟩=some (.slice A2 X.sc.length c2):=(by simpa[Addr.add] using hcell 2 _ rfl);have n3:w1.cell? ⟨ad.block,ad.off+3,none⟩=some (.slice A3 X.qu.length c3):=(by simpa[Addr.add] using hcell 3 _ rfl);have n4:w1.cell? ⟨ad.block,ad.off+4,none⟩=some (.slice A4 X.fi.length c4):=(by simpa[Addr.add] using hcell 4 _ rfl);have t1:decide ((g.chs.length:Int)<1)=false:=decide_eq_false (by omega);have t2:decide (2<(g.chs.length:Int))=false:=decide_eq_false (by omega);have t3:(0:Int)<(g.chs.length:Int):=(by omega);rw[hw1] at n0 n1 n2 n3 n4;clear hcell hX hx hd hn hL hc g1 hm hws;go_enter Tryz.func35,Tryz.ntmps35;go_wp2_with fail;rw[<-hw1];have hB1:w1.heap[w.heap.size]? =some (.cells #[.slice (some ad) g.chs.length cC,.slice M g.mid.length cM] 31 (0,0)):=(by rw[hw1];exact heap_alloc_new _ _);refine(HW.out _ ((Below.refl _ _).alloc (Nat.le_refl _) _)).mono ?_;rintro e w2 ⟨B,q,rfl,-,hbn⟩;have hb12:=bnx ((Below.refl w1.heap.size w1).alloc (Nat.le_refl _) (.cells #[.bool X.sh,.slice A1 X.gr.length c1,.slice A2 X.sc.length c2,.slice A3 X.qu.length c3,.slice A4 X.fi.length c4] 46)) hbn;have hb2:=bnx hb hb12;have z1:w2.cell? ⟨w.heap.size,1,none⟩=some (.slice M g.mid.length cM):=(by rw[Qb ((hb12.block _ (Qp hB1)).trans hB1)];rfl);clear hbn n0 n1 n2 n3 n4 hw1 hb hb12 hB1;go_wp2_with fail;refine(HM.out _).mono ?_;rintro e w3 ⟨rfl,hbn⟩;replace hb2:=bnx hb2 hbn;clear hbn z1;go_wp2_with fail;go_ret2;exact⟨rfl,hb2⟩
end Gn

end Go.Proofs.YtnflnicdjioflaaGreatDoor
