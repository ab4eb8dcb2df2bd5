/- A part of the proof. -/
import Derived.Test.YtnflnicdjioflaaGreatDoorSxbk
set_option linter.unusedVariables false
set_option linter.unusedSimpArgs false
set_option maxRecDepth 100000
set_option maxHeartbeats 8000000
namespace Go.Proofs.YtnflnicdjioflaaGreatDoor
open Go.RowKit Go.Proofs.YtnflnicdjioflaaGreatDoorW.PrintWords Go.Proofs.YtnflnicdjioflaaGreatDoorW.PrintLast Go.Proofs.YtnflnicdjioflaaGreatDoorW.PrintMore
namespace Rq
attribute [local go_sem] Qh Qi Qk Ql Qd Qe
open Q15
open Q21
open Gn
open Sp (T9)
theorem Qen (AC M:Option Addr) (cC cM:Nat) (xs:List Ch) (mid:List Bool) (w:World) (hl:xs.length<=1000000) (hn: ¬(1<=xs.length/\xs.length<=2)):
  Calls Tryz.prog 22 #[.agg #[.slice AC xs.length cC,.slice M mid.length cM]] w fun e w'=>e= .returned (.bool false)/\Below w.heap.size w w':=by
 have hb:Below w.heap.size w (w.alloc (.cells #[.slice AC xs.length cC,.slice M mid.length cM] 31)):=(Below.refl _ _).alloc (Nat.le_refl _) _;have hu31:=Tryz.underlying31;have hlI:(xs.length:Int)<=1000000:=(by omega);by_cases h1:(xs.length:Int)<1
 ·have t1:decide ((xs.length:Int)<1)=true:=decide_eq_true h1
  clear h1 hn hl;go_enter Tryz.func22,Tryz.ntmps22;go_wp2_with fail;go_ret;exact⟨rfl,hb⟩
 ·have t1:decide ((xs.length:Int)<1)=false:=decide_eq_false h1
  have t2:decide (2<(xs.length:Int))=true:=decide_eq_true (by omega);clear h1 hn hl;go_enter Tryz.func22,Tryz.ntmps22;go_wp2_with fail;go_ret;exact⟨rfl,hb⟩
theorem Qb7 (AC M:Option Addr) (cC cM:Nat) (xs:List Ch) (mid:List Bool) (w:World) (hc:kCh.C w AC xs.length xs) (hn:1<=xs.length/\xs.length<=2) (hd:Zc (xs.getD 0 ch0).sh (xs.getD 0 ch0).gr =false):
  Calls Tryz.prog 22 #[.agg #[.slice AC xs.length cC,.slice M mid.length cM]] w fun e w'=>e= .returned (.bool false)/\Below w.heap.size w w':=by
 obtain⟨w1,hw1⟩: ∃w1,w1=w.alloc (.cells #[.slice AC xs.length cC,.slice M mid.length cM] 31):=⟨_,rfl⟩;have hb:Below w.heap.size w w1:=(by rw[hw1];exact(Below.refl _ _).alloc (Nat.le_refl _) _);have hu31:=Tryz.underlying31;have hu46:=Tryz.underlying46;obtain⟨ad,A1,c1,A2,c2,A3,c3,A4,c4,rfl,hcell,g1,-,-,-⟩:=Jt hc hb (k:=0) (by omega);have HW:=Qa.mk (fun(W:World) (hb2:Below w1.heap.size w1 W)=>Q21.Xl (xs.getD 0 ch0).sh A1 c1 (xs.getD 0 ch0).gr W (Kd.Qf g1 hb2));unfold D7 Kb at HW;rw[hd,if_neg (by decide),if_neg (by decide)] at HW;obtain⟨X,hX⟩: ∃X,X=xs.getD 0 ch0:=⟨_,rfl⟩;rw[<-hX] at hcell HW;have n0:w1.cell? ad=some (.bool X.sh):=(by simpa[Addr.add] using hcell 0 _ rfl);have n1:w1.cell? ⟨ad.block,ad.off+1,none⟩=some (.slice A1 X.gr.length c1):=(by simpa[Addr.add] using hcell 1 _ rfl);have n2:w1.cell? ⟨ad.block,ad.off+2,none⟩=some (.slice A2 X.sc.length c2):=(by simpa[Addr.add] using hcell 2 _ rfl);have n3:w1.cell? ⟨ad.block,ad.off+3,none⟩=some (.slice A3 X.qu.length c3):=(by simpa[Addr.add] using hcell 3 _ rfl);have n4:w1.cell? ⟨ad.block,ad.off+4,none⟩=some (.slice A4 X.fi.length c4):=(by simpa[Addr.add] using hcell 4 _ rfl);have t1:decide ((xs.length:Int)<1)=false:=decide_eq_false (by omega);have t2:decide (2<(xs.length:Int))=false:=decide_eq_false (by omega);have t3:(0:Int)<(xs.length:Int):=(by omega);rw[hw1] at n0 n1 n2 n3 n4;clear hcell hX hd hn hc g1;go_enter Tryz.func22,Tryz.ntmps22;go_wp2_with fail;rw[<-hw1];obtain⟨w1b,hw1b⟩: ∃w1b,w1b=w1.alloc (.cells #[.bool X.sh,.slice A1 X.gr.length c1,.slice A2 X.sc.length c2,.slice A3 X.qu.length c3,.slice A4 X.fi.length c4] 46):=⟨_,rfl⟩;have hb1b:Below w1.heap.size w1 w1b:=(by rw[hw1b];exact(Below.refl _ _).alloc (Nat.le_refl _) _);rw[<-hw1b];clear hw1b;refine(HW.out _ hb1b).mono ?_;rintro e w2 ⟨B,q,rfl,-,hbn⟩;have hb2:=bnx hb (bnx hb1b hbn);clear hbn n0 n1 n2 n3 n4 hw1 hb hb1b;go_wp2_with fail;go_ret;exact⟨rfl,hb2⟩
theorem Nj (g:Gr) (AC M:Option Addr) (cC cM:Nat) (w:World) (hc:kCh.C w AC g.chs.length g.chs) (hq:T9 w AC g.chs) (hl:g.chs.length<=1000000) (hbd: ∀x∈g.chs,x.sc.length<=1000000/\x.qu.length<=1000000/\x.fi.length<=1000000/\x.gr.length<=1000000):
  Calls Tryz.prog 22 #[.agg #[.slice AC g.chs.length cC,.slice M g.mid.length cM]] w fun e w'=>e= .returned (.bool (Jz g))/\Below w.heap.size w w':=by
 obtain⟨xs,mid⟩:=g;by_cases hn:1<=xs.length/\xs.length<=2
 ·cases hd:Zc (xs.getD 0 ch0).sh (xs.getD 0 ch0).gr with
  |true=>exact Qeo AC M cC cM xs mid w hc hq hbd hn hd
  |false=>
   have e:Jz ⟨xs,mid⟩=false:=by
    unfold Jz;rw[show chK ⟨xs,mid⟩ 0=xs.getD 0 ch0 from rfl,hd,Bool.false_and,Bool.and_false]
   rw[e];exact Qb7 AC M cC cM xs mid w hc hn hd
 ·have e:Jz ⟨xs,mid⟩=false:=by
   unfold Jz;rw[decide_eq_false (show¬(1<=(⟨xs,mid⟩:Gr).chs.length /\(⟨xs,mid⟩:Gr).chs.length <=2) from hn),Bool.false_and]
  rw[e];exact Qen AC M cC cM xs mid w hl hn
end Rq

end Go.Proofs.YtnflnicdjioflaaGreatDoor
