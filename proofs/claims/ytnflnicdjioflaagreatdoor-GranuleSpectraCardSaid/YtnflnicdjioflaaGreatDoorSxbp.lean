/- A part of the proof. -/
import Derived.Test.YtnflnicdjioflaaGreatDoorSxbo
set_option linter.unusedVariables false
set_option linter.unusedSimpArgs false
set_option maxRecDepth 100000
set_option maxHeartbeats 8000000
namespace Go.Proofs.YtnflnicdjioflaaGreatDoor
open Go.RowKit Go.Proofs.YtnflnicdjioflaaGreatDoorW.PrintWords Go.Proofs.YtnflnicdjioflaaGreatDoorW.PrintLast Go.Proofs.YtnflnicdjioflaaGreatDoorW.PrintMore
namespace Gn
attribute [local go_sem] Qh Qi Qk Ql Qd Qe
open Q15
open Q21
open Bk
open Sp (T9 spL)
open Rs (SpO spO spE Df Da Be)
theorem spO_few (g:Gr) (hl:g.chs.length<=4):(spO g).length <=1000000/\ ∀x∈spO g,x.length<=1000000:=by
 unfold spO
 split
 ·unfold spL
  refine⟨by simp;omega,fun x hx=> ?_⟩;obtain⟨j,-,rfl⟩:=List.mem_map.1 hx;unfold Sp.spJ;rw[Bd.Jl];omega
 ·exact⟨by simp,fun x hx=>by cases hx⟩
theorem D8 (w:World) (hL:Laid w) (hB:Xn w) (A M:Option Addr) (c m:Nat) (g:Gr) (hgC:kCh.C w A g.chs.length g.chs) (hmC:Kd.bool.C w M g.mid.length g.mid) (hcq:T9 w A g.chs):
  Calls Tryz.prog 4 #[.agg #[.slice A g.chs.length c,.slice M g.mid.length m]] w fun e w'=>e= .returned (.bool true)/\Below w.heap.size w w':=by
 have hu31:=Tryz.underlying31;have hB4:=size4 hB;have hgr:Gz w g A c M m:=⟨hgC,hmC⟩;have HAw:=Qa.mk (fun(W:World) (hb:Below w.heap.size w W)=>O0 W (hL.below hb) (hB.below hb) (by have:=hb.size;omega));have HFew:=Qa.mk (fun(W:World) (hb:Below w.heap.size w W)=>Qdj g A c M m W (hgr.below hb));have HS:=Qa.mk (fun(W:World) (hb:Below w.heap.size w W) (hs:Sm4 g)=>Da g A M c m W (hL.below hb) (hgr.below hb) (Uq hcq hgC hb) hs);have HS2:=Qa.mk (fun(W:World) (hb:Below w.heap.size w W) (hl:g.chs.length<=1000000) (hs:Sm4 g)=>Df g A M c m W (hgr.below hb) (Uq hcq hgC hb) hl hs);have hFo:=Qa.mk (spO_few g);obtain⟨w1,hw1⟩: ∃w1,w1=w.alloc (.cells #[.slice A g.chs.length c,.slice M g.mid.length m] 31):=⟨_,rfl⟩;have hb1:Below w.heap.size w w1:=(by rw[hw1];exact(Below.refl _ _).alloc (Nat.le_refl _) _);have hB1:w1.heap[w.heap.size]? =some (.cells #[.slice A g.chs.length c,.slice M g.mid.length m] 31 (0,0)):=(by rw[hw1];exact heap_alloc_new _ _);obtain⟨L,hLE⟩: ∃L,L=spO g:=⟨_,rfl⟩;obtain⟨E,hEE⟩: ∃E,E=spE g:=⟨_,rfl⟩;unfold SpO at HS HS2;rw[<-hLE] at HS HS2 hFo;rw[<-hEE] at HS HS2;unfold grV at HFew HS HS2;clear hgC hmC hcq hgr hL hB hB4 hLE hEE;go_enter Tryz.func4,Tryz.ntmps4;go_wp2_with fail;rw[<-hw1];refine(HFew.out _ hb1).mono ?_;rintro e w2 ⟨b,rfl,hfew,hb2⟩;have hB2:=(hb2.block _ (Qr hB1)).trans hB1;replace hb1:=bnx hb1 hb2;have b0:w2.cell? ⟨w.heap.size,0,none⟩=some (.slice A g.chs.length c):=(by rw[Qb hB2];rfl);have b1:w2.cell? ⟨w.heap.size,1,none⟩=some (.slice M g.mid.length m):=(by rw[Qb hB2];rfl);clear hb2 hw1 hB1 HFew hB2
 cases b with
 |false=>
  clear hfew b0 b1;go_wp2_with fail;refine(HAw.out _ hb1).mono ?_;rintro e w3 ⟨rfl,hb2⟩;replace hb1:=bnx hb1 hb2;clear hb2;go_wp2;go_ret;exact⟨rfl,hb1⟩
 |true=>
  obtain⟨h4,-,h5⟩:=hfew rfl;have hs4:Sm4 g:=fun x hx=>by have:=h5 x hx;omega
  have HSa:=Qa.mk (HS.out w2 hb1 hs4);have HSb:=Qa.mk (fun(W:World) (hb:Below w.heap.size w W)=>HS2.out W hb (by omega) hs4);have hF2:=Qa.mk (hFo.out h4);clear h4 h5 hs4 hfew HS HS2 hFo;go_wp2_with fail;refine HSa.out.mono ?_;rintro e w3 ⟨B1,q1,rfl,hK1,hb2⟩;replace b0:=cnx b0 hb2;replace b1:=cnx b1 hb2;replace hb1:=bnx hb1 hb2;clear hb2 HSa;go_wp2_with fail;refine(HSb.out _ hb1).mono ?_;rintro e w4 ⟨B2,q2,rfl,hK2,hb2⟩;have HSm:=Qa.mk (Be B1 B2 q1 q2 L w4 (Kd.Qf hK1 hb2) hK2 hF2.out.1 hF2.out.2);replace hb1:=bnx hb1 hb2;clear hb2 HSb hK1 hK2 b0 b1;go_wp2_with fail;refine HSm.out.mono ?_;rintro e w5 ⟨rfl,hb2⟩;replace hb1:=bnx hb1 hb2;have hEE:(E==E)=true:=(by simp);clear hb2 HSm;go_wp2_with fail;refine(HAw.out _ hb1).mono ?_;rintro e w6 ⟨rfl,hb2⟩;replace hb1:=bnx hb1 hb2;clear hb2;go_wp2_with fail;go_ret;exact⟨by simp,hb1⟩
end Gn

end Go.Proofs.YtnflnicdjioflaaGreatDoor
