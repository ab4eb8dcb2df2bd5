/- A part of the proof. -/
import Derived.Test.YtnflnicdjioflaaGreatDoorSxbk
import Derived.Test.YtnflnicdjioflaaGreatDoorSxbj
set_option linter.unusedVariables false
set_option linter.unusedSimpArgs false
set_option maxRecDepth 100000
set_option maxHeartbeats 8000000
namespace Go.Proofs.YtnflnicdjioflaaGreatDoor
open Go.RowKit Go.Proofs.YtnflnicdjioflaaGreatDoorW.PrintWords Go.Proofs.YtnflnicdjioflaaGreatDoorW.PrintLast Go.Proofs.YtnflnicdjioflaaGreatDoorW.PrintMore
namespace Gn
attribute [local go_sem] Qh Qi Qk Ql Qd Qe
open Q15
open Q21
open Bk
theorem Sn (n:Nat) (sh:Bool) (hn:0<n):chK (Fs n sh) 0=chS sh:=by
 unfold chK Fs
 cases n with
 |zero=>omega
 |succ n=>rfl
theorem sil1_ok:Jz (Fs 1 false)=true:=by
 refine Kz.2 ⟨by decide,?_,?_,?_⟩
 ·rw[Sn 1 false (by decide)];decide+kernel
 ·rw[Sn 1 false (by decide)];decide+kernel
 ·intro c hc
  obtain rfl:=List.mem_singleton.1 hc;rw[Sn 1 false (by decide)];refine⟨rfl,rfl,?_⟩
  decide+kernel
theorem Qet:Lm (Fs 1 false)=15:=by
 unfold Lm;rw[Sn 1 false (by decide)]
 show 1+(stN []:Int)+J4 (Fs 1 false)+([chS false].map (Vo Xk)).sum =15
 have h1:Vo Xk (chS false)=14:=by
  show 4+8*((0:Nat):Int)+((Sec.wL Xk zeros Xk.length).getD 0 Sec.w0).cost +Sca.Ya (chS false).sc (Xo Xk zeros)=14
  have h2:Sca.Ya (chS false).sc (Xo Xk zeros)=0:=by
   unfold Sca.Ya;rw[Qch];rfl
  rw[h2,Qcd];rfl
 rw[List.map_cons,List.map_nil,List.sum_cons,List.sum_nil,h1]
 decide+kernel
theorem dr0_no:validD ⟨false,[],[],[],[],[]⟩=false:=by decide+kernel
theorem bw_zero:BW 0:=fun base p q L A cap l w hw hB4 hL hr hl hcap hA hf hroom=>bWrite_3 base p q L 0 (by decide) A cap l w hw hB4 hL hr hl hcap hA hf hroom rfl (by decide)
theorem Qes: ∀p∈((Sec.wL Xk zeros Xk.length).getD 0 Sec.w0).secs,p.1.toNat=0:=by decide+kernel
theorem sil1_bw: ∀c∈(Fs 1 false).chs,∀p∈((Sec.wL (Qm (chK (Fs 1 false) 0).sh (chK (Fs 1 false) 0).gr) c.qu (Qm (chK (Fs 1 false) 0).sh (chK (Fs 1 false) 0).gr).length).getD 0 Sec.w0).secs,BW p.1.toNat:=by
 rw[Sn 1 false (by decide)];intro c hc;obtain rfl:=List.mem_singleton.1 hc;intro p hp;rw[Qes p hp];exact bw_zero
theorem O0 (w:World) (hL:Laid w) (hB:Xn w) (hB4:4<=w.heap.size):
  Calls Tryz.prog 8 #[] w fun e w'=>e= .returned (.bool true)/\Below w.heap.size w w':=by
 have hu31:=Tryz.underlying31;have hu26:=Tryz.underlying26;have HS:=Qa.mk (Mi 1 (.inl rfl) w hL);obtain⟨G,hG⟩: ∃G,G=Fs 1 false:=⟨_,rfl⟩;have hok:=sil1_ok;have hco:=Qet
 have hsm:Sm (Fs 1 false):=by
  intro x hx;obtain rfl:=List.mem_singleton.1 hx
  decide+kernel
 have hbw:=sil1_bw;rw[<-hG] at HS hok hco hsm hbw;have HCo:=Qa.mk (fun(W:World) (A M:Option Addr) (c m:Nat) (hb:Below w.heap.size w W) (h:Gz W G A c M m)=>Gy G A c M m W (hL.below hb) (hB.below hb) (by have:=hb.size;omega) h hsm hok hbw);rw[hco] at HCo;have HCh:=Qa.mk (fun(W:World) (A M:Option Addr) (c m:Nat) (hb:Below w.heap.size w W) (h:Gz W G A c M m)=>Vw G A c M m W (hL.below hb) h hsm);rw[hok] at HCh;simp only[if_true] at HCh;have HV:=Qa.mk (fun(W:World) (hb:Below w.heap.size w W)=>Ei ⟨false,[],[],[],[],[]⟩ ⟨none,0,none,0,none,0,none,0,none,0⟩ W (hL.below hb) ⟨Kd.Uc _ _,Kd.Uc _ _,Kd.Uc _ _,Kd.Uc _ _,Kd.Uc _ _⟩ (by decide+kernel));rw[dr0_no] at HV;unfold Jp at HV;simp only[List.length_nil] at HV;clear hL hB hB4 hG hok hco hsm hbw;go_enter Tryz.func8,Tryz.ntmps8;go_wp2_with fail;refine HS.out.mono ?_;intro e w1 hg;obtain⟨A,c,M,m,rfl,h1,h2,hb1⟩:=hg.reads;have hGA:Gz w1 G A c M m:=⟨h1,h2⟩;clear hg h1 h2 HS;go_wp2_with fail;obtain⟨w2,hw2⟩: ∃w2,w2=w1.alloc (.cells #[.slice A G.chs.length c,.slice M G.mid.length m] 31):=⟨_,rfl⟩;have hb12:Below w1.heap.size w1 w2:=(by rw[hw2];exact(Below.refl _ _).alloc (Nat.le_refl _) _);have hB2:w2.heap[w1.heap.size]? =some (.cells #[.slice A G.chs.length c,.slice M G.mid.length m] 31 (0,0)):=(by rw[hw2];exact heap_alloc_new _ _);have hb2:=bnx hb1 hb12;rw[<-hw2];refine(HCo.out w2 A M c m hb2 (hGA.below hb12)).mono ?_;rintro e w3 ⟨rfl,hb3⟩;have hG3:=Qa.mk ((hGA.below hb12).below hb3);have hB3:=(hb3.block _ (Qr hB2)).trans hB2;have z0:w3.cell? ⟨w1.heap.size,0,none⟩=some (.slice A G.chs.length c):=(by rw[Qb hB3];rfl);have z1:w3.cell? ⟨w1.heap.size,1,none⟩=some (.slice M G.mid.length m):=(by rw[Qb hB3];rfl);replace hb2:=bnx hb2 hb3;clear hw2 hb12 hB2 hb3 hB3 hb1 hGA HCo;go_wp2_with fail;refine(HCh.out w3 A M c m hb2 hG3.out).mono ?_;rintro e w4 ⟨rfl,hb4⟩;replace hb2:=bnx hb2 hb4;clear hb4 z0 z1 hG3 HCh;go_wp2_with fail;refine(HV.out w4 hb2).mono ?_;rintro e w5 ⟨rfl,hb5⟩;replace hb2:=bnx hb2 hb5;clear hb5 HV;go_wp2;go_ret;exact⟨rfl,hb2⟩
end Gn

namespace Gn
attribute [local go_sem] Qh Qi Qk Ql Qd Qe
open Q15
open Q21
open Sp (T9 Lf)
theorem Uq {w W:World} {A:Option Addr} {xs:List Ch} (h:T9 w A xs) (hC:kCh.C w A xs.length xs) (hb:Below w.heap.size w W):T9 W A xs:=fun k ad B c hk hA hc=>by
 obtain⟨ad2,A1,c1,A2,c2,A3,c3,A4,c4,e,hcell,-,-,-,-⟩:=Jt hC (Below.refl _ _) hk;rw[hA] at e;cases e;have h3:=cnx (hcell 3 _ rfl) hb;rw[hc] at h3
 injection h3 with h3
 injection h3 with _ _ e4
 rw[e4];exact h k ad A3 c3 hk hA (hcell 3 _ rfl)
theorem Qdj (g:Gr) (A:Option Addr) (c:Nat) (M:Option Addr) (m:Nat) (w:World) (h:Gz w g A c M m):
  Calls Tryz.prog 12 #[grV g A c M m] w fun e w'=> ∃b:Bool,e= .returned (.bool b)/\(b=true->g.chs.length<=4/\g.mid.length<=200/\ ∀x∈g.chs,x.gr.length<=200/\x.sc.length<=200/\x.qu.length<=400/\x.fi.length<=200)/\Below w.heap.size w w':=by
 have hu31:=Tryz.underlying31;have hu46:=Tryz.underlying46;obtain⟨xs,mid⟩:=g;unfold grV;have hC:=h.chs;dsimp only at hC ⊢;have HC:=Qa.mk hC;obtain⟨w1,hw1⟩: ∃w1,w1=w.alloc (.cells #[.slice A xs.length c,.slice M mid.length m] 31):=⟨_,rfl⟩;have hb:Below w.heap.size w w1:=(by rw[hw1];exact(Below.refl _ _).alloc (Nat.le_refl _) _);have hB1:w1.heap[w.heap.size]? =some (.cells #[.slice A xs.length c,.slice M mid.length m] 31 (0,0)):=(by rw[hw1];exact heap_alloc_new _ _);clear h hC;by_cases h4:xs.length<=4
 ·by_cases h5:mid.length<=200
  ·have t1:decide (4<(xs.length:Int))=false:=decide_eq_false (by omega)
   have t2:decide (200<(mid.length:Int))=false:=decide_eq_false (by omega);have hlI:(xs.length:Int)<=4:=(by omega);have H45:=Qa.mk (And.intro h4 h5);clear h4 h5;go_enter Tryz.func12,Tryz.ntmps12;go_wp2_with fail;rw[<-hw1];clear hw1;go_loopw [18] (fun i wr=> ∃k:Nat,i= .int .i64 k/\k<=xs.length/\Qa (∀x∈xs.take k,x.gr.length<=200/\x.sc.length<=200/\x.qu.length<=400/\x.fi.length<=200)/\Below w.heap.size w wr) (fun i _=>xs.length-(intOf i).toNat)
   case atStart=>exact⟨0,rfl,by omega,⟨by simp⟩,hb⟩
   case round=>
    obtain⟨k,rfl,hk,ha,hbr⟩:=hrel;clear hb;by_cases hlt:k<xs.length
    ·obtain⟨ad,A1,c1,A2,c2,A3,c3,A4,c4,rfl,hcell,-,-,-,-⟩:=Jt HC.out hbr hlt
     have hT:xs.take (k+1)=xs.take k++[xs.getD k ch0]:=(by rw[List.take_succ_eq_append_getElem hlt,List.getD_eq_getElem?_getD,List.getElem?_eq_getElem hlt];rfl);obtain⟨X,hX⟩: ∃X,X=xs.getD k ch0:=⟨_,rfl⟩;rw[<-hX] at hcell hT;have m0:wr.cell? (ad.add (k*5))=some (.bool X.sh):=hcell 0 _ rfl;have m1:=hcell 1 _ rfl;have m2:=hcell 2 _ rfl;have m3:=hcell 3 _ rfl;have m4:=hcell 4 _ rfl;rw[Lf] at m1 m2 m3 m4;have hkI:(k:Int)<(xs.length:Int):=(by omega);have hbn:=Qa.mk (hbr.trans (((Below.refl w.heap.size wr).alloc hbr.size (.cells #[.bool X.sh,.slice A1 X.gr.length c1,.slice A2 X.sc.length c2,.slice A3 X.qu.length c3,.slice A4 X.fi.length c4] 46))));have hltT:=Qa.mk hlt;replace hT:=Qa.mk hT;clear hX hcell hlt hk hbr;by_cases g1:X.gr.length<=200
     ·have u1:decide (200<(X.gr.length:Int))=false:=decide_eq_false (by omega)
      by_cases g2:X.sc.length<=200
      ·have u2:decide (200<(X.sc.length:Int))=false:=decide_eq_false (by omega)
       by_cases g3:X.qu.length<=400
       ·have u3:decide (400<(X.qu.length:Int))=false:=decide_eq_false (by omega)
        by_cases g4:X.fi.length<=200
        ·have u4:decide (200<(X.fi.length:Int))=false:=decide_eq_false (by omega)
         have hn:Qa (∀x∈xs.take (k+1),x.gr.length<=200/\x.sc.length<=200/\x.qu.length<=400/\x.fi.length<=200):=⟨fun x hx=>by
          rw[hT.out] at hx;rcases List.mem_append.1 hx with hx|hx
          ·exact ha.out x hx
          ·rw[List.mem_singleton.1 hx];exact⟨g1,g2,g3,g4⟩⟩
         clear g1 g2 g3 g4 ha;go_wp2;go_roundw
         case rel=>exact⟨k+1,by go_num,hltT.out,hn,hbn.out⟩
         case measure=>have:=hltT.out;simp[intOf];omega
        ·have u4:decide (200<(X.fi.length:Int))=true:=decide_eq_true (by omega)
         clear g1 g2 g3 g4;go_wp2;go_ret;exact⟨false,rfl,(fun e=>by cases e),hbn.out⟩
       ·have u3:decide (400<(X.qu.length:Int))=true:=decide_eq_true (by omega)
        clear g1 g2 g3;go_wp2;go_ret;exact⟨false,rfl,(fun e=>by cases e),hbn.out⟩
      ·have u2:decide (200<(X.sc.length:Int))=true:=decide_eq_true (by omega)
       clear g1 g2;go_wp2;go_ret;exact⟨false,rfl,(fun e=>by cases e),hbn.out⟩
     ·have u1:decide (200<(X.gr.length:Int))=true:=decide_eq_true (by omega)
      clear g1;go_wp2;go_ret;exact⟨false,rfl,(fun e=>by cases e),hbn.out⟩
    ·obtain rfl:k=xs.length:=by omega
     rw[List.take_length] at ha;clear hlt hk;go_wp2;go_ret;exact⟨true,rfl,fun _=>⟨H45.out.1,H45.out.2,ha.out⟩,hbr⟩
  ·have t1:decide (4<(xs.length:Int))=false:=decide_eq_false (by omega)
   have t2:decide (200<(mid.length:Int))=true:=decide_eq_true (by omega);clear h4 h5;go_enter Tryz.func12,Tryz.ntmps12;go_wp2_with fail;rw[<-hw1];go_ret;exact⟨false,rfl,(fun e=>by cases e),hb⟩
 ·have t1:decide (4<(xs.length:Int))=true:=decide_eq_true (by omega)
  clear h4;go_enter Tryz.func12,Tryz.ntmps12;go_wp2_with fail;rw[<-hw1];go_ret;exact⟨false,rfl,(fun e=>by cases e),hb⟩
end Gn

namespace Gn
attribute [local go_sem] Qh Qi Qk Ql Qd Qe
open Q15
open Q21
open Bk
open Q16 (KL isW Qx Zj)
theorem size4 {w:World} (hB:Xn w):4<=w.heap.size:=by
 have:=World.block_lt_of_cell? _ _ (hB.tab 0 (by decide));exact this
end Gn

end Go.Proofs.YtnflnicdjioflaaGreatDoor
