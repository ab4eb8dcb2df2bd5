/- A part of the proof. -/
import Derived.Test.YtnflnicdjioflaaGreatDoorSxau
import Derived.Test.YtnflnicdjioflaaGreatDoorSxan
set_option linter.unusedVariables false
set_option linter.unusedSimpArgs false
set_option maxRecDepth 100000
set_option maxHeartbeats 8000000
namespace Go.Proofs.YtnflnicdjioflaaGreatDoor
open Go.RowKit Go.Proofs.YtnflnicdjioflaaGreatDoorW.PrintWords Go.Proofs.YtnflnicdjioflaaGreatDoorW.PrintLast Go.Proofs.YtnflnicdjioflaaGreatDoorW.PrintMore
namespace Sec
attribute [local go_sem] Qh Qi Qk Ql Qd Qe
open Q15
open Runs Go.Shelf
open Q16 (Q6 Za Yc)
open Q21 (Qb Qj)
open Bts
open Bk
attribute [local go_sem] Oper.semAt_some
theorem info_row:(Tryz.prog.info? 148).map (fun i=>(i.zero,i.size,i.bytes))=some (some (.agg (List.replicate 8 (.int .i64 0)).toArray),8,64):=by kernel_rfl
theorem Qcc (A B:Option Addr) (c1 c2:Nat) (ws l:List Int) (w:World) (hL:Xn w) (hr:(Kd.int .i64).C w A ws.length ws) (hr2:(Kd.int .i64).C w B l.length l) (hcap:l.length<=c2) (hok:Ok ws l) (h0:0<ws.length):
  Calls Tryz.prog 141 #[.slice A ws.length c1,.slice B l.length c2] w fun e w'=> ∃v,e= .returned v/\w'.ownsRow w.heap.size 148 8 v ws.length (J7 ws l ws.length)/\Below w.heap.size w w':=by
 have HO:=Qa.mk hok;have HR:=Qa.mk hr;have HR2:=Qa.mk hr2;have HL:=Qa.mk hL;have HC:=Qa.mk hcap
 have hBs:Qa (ws≠[]-> ∃bd,B=some bd):=⟨fun h=>by
  have h1:=Vr hok.wid;have h2:=hok.sum;have h3:0<ws.length:=List.length_pos_iff.2 h;obtain⟨bd,e,_⟩:=Qn hr2 (Below.refl _ _) (k:=0) (by omega)
  exact⟨bd,e⟩⟩
 have HG:Qa (∀g∈(w.heap.size+1)::(w.heap.size+1+1)::Zy A,g<w.heap.size+1+1+1):=⟨fun g hg=>by
  rcases List.mem_cons.1 hg with rfl|hg
  ·omega
  ·rcases List.mem_cons.1 hg with rfl|hg
   ·omega
   ·have:=Y3 hr h0 g hg
    omega⟩
 have HG0:Qa (∀g∈Zy A,g<w.heap.size):=⟨Y3 hr h0⟩;clear hr hr2 hL hok hcap h0;have hu:=Tryz.underlying163;refine(callsIn_wide (n:=3)).1 ?_;refine callsIn_of_wp_marks Tryz.func141 rfl trivial ?_ rfl;simp only[Tryz.ntmps141,List.size_toArray,List.length_cons,List.length_nil,Nat.reduceAdd,Nat.reduceSub,Array.replicate_succ,Array.replicate_zero,List.push_toArray,List.append_toArray,List.nil_append,List.cons_append];gi_wp2_with fail;obtain⟨W0,hW0⟩: ∃W0,W0=w.alloc (.cells #[.slice none 0 0] 143):=⟨_,rfl⟩;have hR0:=((Rws.start w).nil 148 8).alloc #[.slice none 0 0] 143;have hs0:W0.heap.size=w.heap.size+1:=(by rw[hW0];simp);simp only[List.nil_append,List.cons_append] at hR0;rw[<-hW0] at hR0 ⊢;clear hW0;refine⟨trivial,(callsIn_wide.2 (Kt A B ws.length c1 l.length c2 W0)).mono ?_⟩;rintro en W1 ⟨rfl,hW1⟩;have hR1:=(hR0.alloc #[.slice A ws.length c1] 22).alloc #[.slice B l.length c2] 22;have hs1:W1.heap.size=w.heap.size+1+1+1:=(by rw[hW1];simp[hs0]);simp only[World.size_alloc,List.nil_append,List.cons_append] at hR1;rw[<-hW1,hs0] at hR1;rw[hs0];clear hW1 hR0 hs0;have b1:W1.cell? ⟨w.heap.size+1,0,none⟩=some (.slice A ws.length c1):=(by rw[Qb (hR1.blk ⟨w.heap.size+1, #[.slice A ws.length c1],22⟩ (by simp)).1];rfl);have b2:W1.cell? ⟨w.heap.size+1+1,0,none⟩=some (.slice B l.length c2):=(by rw[Qb (hR1.blk ⟨w.heap.size+1+1, #[.slice B l.length c2],22⟩ (by simp)).1];rfl);replace hs1:=Qa.mk hs1;replace hR1:=Qa.mk hR1;have HA1:=Qa.mk (Kd.Qf HR.out hR1.out.below);gi_wp2_with fail
 refine Xw rfl (by omega) (gf:=192) (lb:= #[.pointer (some ⟨w.heap.size+1,0,none⟩),.pointer (some ⟨w.heap.size+1+1,0,none⟩)]) rfl trivial (enters_of Tryz.func192 (by kernel_rfl) rfl)
  (Kr Fence.wide _ trivial rfl (by omega) (w.heap.size+1) (w.heap.size+1+1) A B c1 c2 ws l HO.out HC.out W1 HA1.out hBs.out b1 b2)
  (fun h k=>h.trans k) ?keep (Below.refl _ _) (fun _=>rfl) (fun j W=> ∃v,Rws w W [⟨148,8,v,j,J7 ws l (j)⟩] [⟨w.heap.size, #[v],143⟩,⟨w.heap.size+1, #[.slice A ws.length c1],22⟩,⟨w.heap.size+1+1, #[.slice B l.length c2],22⟩]) ?own ?start ?round ?done
 case keep=>exact Qz.putObj (N:=W1.heap.size) (fun g hg=>by have:=HG.out g hg;have:=hs1.out;omega)
 case own=>exact fun j W W' row ⟨v,h⟩ hg hrow=>⟨v,Rws.Jf h hg (fun r e=>⟨by have:=(hrow r e).1;have:=hs1.out;omega,(hrow r e).2⟩)⟩
 case start=>exact⟨_,hR1.out⟩
 case round=>
  rintro L j W hI hj;obtain⟨v,hRw⟩:=hI;obtain⟨bd,hbd⟩:=hBs.out (fun e=>by rw[e] at hj;simp at hj);subst hbd;have hof:=Vz HO.out hj;have hbC:Qa (∀W',Below w.heap.size w W'->(Kd.int .i64).C W' (some (bd.add (V8 ws j))) (Xf ws l j).length (Xf ws l j)):=⟨fun W' hb=>V6 HO.out hj (Kd.Qf HR2.out hb)⟩;have hbA:Yk (Xf ws l j)=true:=Vk HO.out.vals j;have hbl:=Vl HO.out hj;have hsc:=Qa.mk (Gu ws l j);simp only[O1,gSl];obtain⟨ag,hag⟩: ∃ag,ag=bd.add (V8 ws j):=⟨_,rfl⟩;obtain⟨d,hd⟩: ∃d,d=(rd ws j).toNat :=⟨_,rfl⟩;obtain⟨x,hx⟩: ∃x,x=Xf ws l j:=⟨_,rfl⟩;rw[<-hx] at hbC hbA hbl hsc;rw[<-hag] at hbC ⊢;rw[<-hd] at hbl hof ⊢;have hd9:1<=d/\d<=128:=(by omega);have hxl:x.length<=128:=(by omega);rw[<-hbl];replace hRw:=Qa.mk hRw;have hjT:=Qa.mk hj;have hj9:(j:Int)<=128:=(by have:=HO.out.len;omega);clear hof hag hx hj hd hbl hd9;gi_wp2;have hal:=(Below.refl W.heap.size W).alloc (Nat.le_refl _) (.cells #[.int .i64 j,.slice (some ag) x.length x.length] 163);have hRa:=hRw.out.alloc #[.int .i64 j,.slice (some ag) x.length x.length] 163;simp only[List.nil_append,List.cons_append] at hRa
  have hsz:w.heap.size+1+1+1<=W.heap.size:=by
   have h1:=Array.getElem?_eq_some_iff.1 (hRw.out.blk ⟨w.heap.size+1+1, #[.slice (some bd) l.length c2],22⟩ (by simp)).1;obtain⟨h1,_⟩:=h1;dsimp only at h1;omega
  refine⟨(Zq hal).from _,Qz.step HG.out hsz hal,fun Z=>Rws w Z [⟨148,8,v,j,J7 ws l (j)⟩] [⟨w.heap.size, #[v],143⟩,⟨w.heap.size+1, #[.slice A ws.length c1],22⟩,⟨w.heap.size+1+1, #[.slice (some bd) l.length c2],22⟩,⟨W.heap.size, #[.int .i64 j,.slice (some ag) x.length x.length],163⟩],hRa,fun _ Z Z' row h hg hrow=>Rws.Jf h hg (fun r e=>⟨by have:=(hrow r e).1;have:=hs1.out;omega,(hrow r e).2⟩),?_⟩;clear hal hRa hRw hsz;obtain⟨g6,hg6⟩: ∃g6,g6=W.heap.size:=⟨_,rfl⟩;rw[<-hg6];rintro Z hRw;clear hg6;obtain⟨W,rfl⟩: ∃W:World,W=Z:=⟨_,rfl⟩;have HRW:=Qa.mk hRw;have hR7:=hRw.alloc (List.replicate 8 (Value.int .i64 0)).toArray 148;rw[<-Cm x] at hR7;simp only[List.nil_append,List.cons_append] at hR7;gi_wp2;obtain⟨W7,hW7⟩: ∃Z,Z=W.alloc (.cells (Uj x 0).toArray 148):=⟨_,rfl⟩;have hz7:(W.alloc (.cells #[.int .i64 0,.int .i64 0,.int .i64 0,.int .i64 0,.int .i64 0,.int .i64 0,.int .i64 0,.int .i64 0] 148))=W7:=(by rw[hW7,Cm];rfl);have hal7:Qa (Below W.heap.size W W7):=⟨by rw[hW7];exact(Below.refl _ _).alloc (Nat.le_refl _) _⟩;rw[<-hW7] at hR7;rw[hz7];clear hz7;obtain⟨g7,hg7⟩: ∃g7,g7=W.heap.size:=⟨_,rfl⟩;rw[<-hg7] at hR7;rw[<-hg7]
  have hgW:Qa (w.heap.size+1+1+1<=W.heap.size):=⟨by
   have h1:=Array.getElem?_eq_some_iff.1 (hRw.blk ⟨w.heap.size+1+1, #[.slice (some bd) l.length c2],22⟩ (by simp)).1;obtain⟨h1,_⟩:=h1;dsimp only at h1
   omega⟩
  have hgs:Qa (w.heap.size+1+1+1<=g7):=(by rw[hg7];exact hgW);replace hR7:=Qa.mk hR7;clear hW7 hg7 hRw;obtain⟨wo,hwo⟩: ∃wo:World,wo=W7:=⟨_,rfl⟩;rw[<-hwo] at hR7 hal7 ⊢;clear hwo W7;gi_loopw [15] (fun o wr=> ∃k:Nat,o= .int .i64 k/\k<=8/\Qa (Rws w wr [⟨148,8,v,j,J7 ws l (j)⟩] [⟨w.heap.size, #[v],143⟩,⟨w.heap.size+1, #[.slice A ws.length c1],22⟩,⟨w.heap.size+1+1, #[.slice (some bd) l.length c2],22⟩,⟨g6, #[.int .i64 j,.slice (some ag) x.length x.length],163⟩,⟨g7,(Uj x k).toArray,148⟩])/\Qa (KeepsOthers W wr/\Qz ((w.heap.size+1)::(w.heap.size+1+1)::Zy A) W wr)) (fun o _=>8-(intOf o).toNat)
  case atStart=>exact⟨0,rfl,by omega,hR7,⟨Zq hal7.out,Qz.step HG.out hgW.out hal7.out⟩⟩
  case round=>
   obtain⟨k,rfl,hk,hRr,hK⟩:=hrel;by_cases hlt:k<8
   ·have m6:wr.cell? ⟨g6,1,none⟩=some (.slice (some ag) x.length x.length):=by rw[Qb (hRr.out.blk ⟨g6, #[.int .i64 j,.slice (some ag) x.length x.length],163⟩ (by simp)).1];rfl
    have HCk:=Qa.mk (fun(W':World) (hb:Below wr.heap.size wr W')=>Ol k hlt (some ag) x.length x W' (HL.out.below (bnx hRr.out.below hb)) (hbC.out _ (bnx hRr.out.below hb)) (by omega) (Nat.le_refl _) hbA);have hst:=Qa.mk (rowN_set x hlt);have hnx:=Qa.mk (Qep x hlt);have hkI:(k:Int)<8:=(by omega);have hT:=Qa.mk hlt;clear hlt hk;gi_wp2_with fail;refine⟨trivial,(callsIn_wide.2 (HCk.out wr (Below.refl _ _))).mono ?_⟩;rintro en w1 ⟨c,E,rfl,hE,hb1⟩;have hR1:=Qa.mk (hRr.out.step hb1);have hK1:Qa (KeepsOthers W w1/\Qz ((w.heap.size+1)::(w.heap.size+1+1)::Zy A) W w1):=⟨hK.out.1.trans (Zq hb1),hK.out.2.trans (Qz.step HG.out (Nat.le_trans hgW.out hK.out.1.size) hb1)⟩;have h7:=(hR1.out.blk ⟨g7,(Uj x k).toArray,148⟩ (by simp)).1;have z7:w1.cell? ⟨g7,k,none⟩=some (.int .i64 0):=(by rw[Qb h7];exact hnx.out);have y7:=Qj h7 k;clear h7 m6 hb1 hK hRr
    have hfin:Qa (∀c,c=Q5 k x->Rws w (w1.setCell ⟨g7,k,none⟩ (.int .i64 c)) [⟨148,8,v,j,J7 ws l (j)⟩] [⟨w.heap.size, #[v],143⟩,⟨w.heap.size+1, #[.slice A ws.length c1],22⟩,⟨w.heap.size+1+1, #[.slice (some bd) l.length c2],22⟩,⟨g6, #[.int .i64 j,.slice (some ag) x.length x.length],163⟩,⟨g7,(Uj x (k+1)).toArray,148⟩]/\KeepsOthers W (w1.setCell ⟨g7,k,none⟩ (.int .i64 c))/\Qz ((w.heap.size+1)::(w.heap.size+1+1)::Zy A) W (w1.setCell ⟨g7,k,none⟩ (.int .i64 c))):=⟨fun c hc=>by
     have h:=Rws.set (G1:=[⟨w.heap.size, #[v],143⟩,⟨w.heap.size+1, #[.slice A ws.length c1],22⟩,⟨w.heap.size+1+1, #[.slice (some bd) l.length c2],22⟩,⟨g6, #[.int .i64 j,.slice (some ag) x.length x.length],163⟩]) (G2:=[]) (b:=⟨g7,(Uj x k).toArray,148⟩) hR1.out k (.int .i64 c);simp only[List.nil_append,List.cons_append,List.setIfInBounds_toArray] at h;rw[hc,hst.out] at h
     exact⟨by rw[hc];exact h,hK1.out.1.trans (KeepsOthers.setCell _ _ _),Qz.set HG.out hK1.out.2 (by simpa using hgs.out) _⟩⟩
    rcases hE with ⟨rfl,hc,-⟩|⟨rfl,hc,-⟩
    ·replace hc:=Qa.mk hc
     gi_wp2;go_roundw
     case rel=>exact⟨k+1,by go_num,hT.out,⟨(hfin.out _ hc.out).1⟩,⟨(hfin.out _ hc.out).2⟩⟩
     case measure=>have:=hT.out;simp[intOf];omega
    ·replace hc:=Qa.mk hc
     gi_wp2;go_roundw
     case rel=>exact⟨k+1,by go_num,hT.out,⟨(hfin.out _ hc.out.symm).1⟩,⟨(hfin.out _ hc.out.symm).2⟩⟩
     case measure=>have:=hT.out;simp[intOf];omega
   ·obtain rfl:k=8:=by omega
    have hv0:wr.cell? ⟨w.heap.size,0,none⟩=some v:=(by rw[Qb (hRr.out.blk ⟨w.heap.size, #[v],143⟩ (by simp)).1];rfl);have h7:=(hRr.out.blk ⟨g7,(Uj x 8).toArray,148⟩ (by simp)).1;have q0:wr.cell? ⟨g7,0,none⟩=some (.int .i64 (Q5 0 x)):=(by rw[Qb h7];rfl);have q1:wr.cell? ⟨g7,1,none⟩=some (.int .i64 (Q5 1 x)):=(by rw[Qb h7];rfl);have q2:wr.cell? ⟨g7,2,none⟩=some (.int .i64 (Q5 2 x)):=(by rw[Qb h7];rfl);have q3:wr.cell? ⟨g7,3,none⟩=some (.int .i64 (Q5 3 x)):=(by rw[Qb h7];rfl);have q4:wr.cell? ⟨g7,4,none⟩=some (.int .i64 (Q5 4 x)):=(by rw[Qb h7];rfl);have q5:wr.cell? ⟨g7,5,none⟩=some (.int .i64 (Q5 5 x)):=(by rw[Qb h7];rfl);have q6:wr.cell? ⟨g7,6,none⟩=some (.int .i64 (Q5 6 x)):=(by rw[Qb h7];rfl);have q7:wr.cell? ⟨g7,7,none⟩=some (.int .i64 (Q5 7 x)):=(by rw[Qb h7];rfl);have hRA:=Qa.mk (hRr.out.alloc #[.int .i64 (Q5 0 x),.int .i64 (Q5 1 x),.int .i64 (Q5 2 x),.int .i64 (Q5 3 x),.int .i64 (Q5 4 x),.int .i64 (Q5 5 x),.int .i64 (Q5 6 x),.int .i64 (Q5 7 x)] 148);have hj8:Qa ((j+1)*64<=140737488355328):=⟨by have:=hjT.out;have:=HO.out.len;omega⟩;clear h7 hlt hk;gi_wp2_with (refine appIn (wr:=w) (L1:=[]) (L2:=[]) (G:=_) rfl (.tmp 31) (.tmp 33) 143 148 rfl (.agg (List.replicate 8 (.int .i64 0)).toArray) 8 64 Tryz.underlying143 info_row rfl (by decide) (by decide) v j (J7 ws l j) rfl hRA.out ⟨wr.heap.size,0,none⟩ 1 1 [.int .i64 (Q5 0 x),.int .i64 (Q5 1 x),.int .i64 (Q5 2 x),.int .i64 (Q5 3 x),.int .i64 (Q5 4 x),.int .i64 (Q5 5 x),.int .i64 (Q5 6 x),.int .i64 (Q5 7 x)] rfl rfl (Gi _ _ _) (by simp[Value.oneCell']) hj8.out ?_;intro v1 wA hRA hgA hkA;have HRA:=Qa.mk hRA;have HKA:=Qa.mk hkA;clear hRA hgA hkA;obtain⟨A4,p4,hv4⟩:=Rz (HRA.out.row _ (List.mem_append_right _ (List.mem_cons_self)));dsimp only at hv4;subst hv4;have z0:wA.cell? ⟨w.heap.size,0,none⟩=some v:=(by rw[Qb (HRA.out.blk ⟨w.heap.size, #[v],143⟩ (by simp)).1];rfl);have y0:=Qj (HRA.out.blk ⟨w.heap.size, #[v],143⟩ (by simp)).1 0);have hfin2:=Rws.set (G1:=[]) (G2:=[⟨w.heap.size+1, #[.slice A ws.length c1],22⟩,⟨w.heap.size+1+1, #[.slice (some bd) l.length c2],22⟩,⟨g6, #[.int .i64 j,.slice (some ag) x.length x.length],163⟩,⟨g7,(Uj x 8).toArray,148⟩,⟨wr.heap.size, #[.int .i64 (Q5 0 x),.int .i64 (Q5 1 x),.int .i64 (Q5 2 x),.int .i64 (Q5 3 x),.int .i64 (Q5 4 x),.int .i64 (Q5 5 x),.int .i64 (Q5 6 x),.int .i64 (Q5 7 x)],148⟩]) (b:=⟨w.heap.size, #[v],143⟩) HRA.out 0 (.slice A4 (j+1) p4);simp only[List.setIfInBounds_toArray,List.set_cons_zero,List.nil_append,List.cons_append] at hfin2;have hcs8:J7 ws l j++[.int .i64 (Q5 0 x),.int .i64 (Q5 1 x),.int .i64 (Q5 2 x),.int .i64 (Q5 3 x),.int .i64 (Q5 4 x),.int .i64 (Q5 5 x),.int .i64 (Q5 6 x),.int .i64 (Q5 7 x)]=J7 ws l (j+1):=(by rw[hsc.out];rfl);rw[hcs8] at hfin2;refine⟨((hK.out.1.trans (KeepsOthers.alloc _ _)).trans (HKA.out.trans (KeepsOthers.setCell _ _ _))).from _,Qz.two (b1:=⟨w.heap.size+1, #[.slice A ws.length c1],22⟩) (b2:=⟨w.heap.size+1+1, #[.slice (some bd) l.length c2],22⟩) HRW.out hfin2 (by simp) (by simp) (by simp) (by simp) HG0.out,_,Rws.drop (L1:=[⟨148,8,.slice A4 (j+1) p4,j+1,J7 ws l (j+1)⟩]) (L2:=[]) (G:=[⟨w.heap.size, #[.slice A4 (j+1) p4],143⟩,⟨w.heap.size+1, #[.slice A ws.length c1],22⟩,⟨w.heap.size+1+1, #[.slice (some bd) l.length c2],22⟩]) (G2:=_) hfin2⟩
 case done=>
  rintro D W hD ⟨v,hRw⟩ hDf;have h1:=Rws.Jf hRw (grownBy_putObj' W D (.deferred none)) (fun r e=>by cases e;exact⟨by have:=hs1.out;omega,_,hDf,rfl⟩);have k0:W.cell? ⟨w.heap.size,0,none⟩=some v:=(by rw[Qb (hRw.blk ⟨w.heap.size, #[v],143⟩ (by simp)).1];rfl);have hro:=Qa.mk (h1.row ⟨148,8,v,ws.length,J7 ws l (ws.length)⟩ (by simp));have hbe:=Qa.mk h1.below;clear hRw h1;gi_wp2;refine⟨by simp,.inl ⟨_,_,rfl,run_takeDeferred hDf,?_⟩⟩;exact⟨v,by simp[results,Tryz.f141,go_sem],v,rfl,hro.out,hbe.out⟩
end Sec

namespace Sec
attribute [local go_sem] Qh Qi Qk Ql Qd Qe
open Q15
open Q21 (Qb Qj)
open Bts
open Bk (Z6)
def K8 (c1:Int) (l1:List Int) (c2:Int) (l2:List Int):Bool:=if c1=c2 then decide (cmpL l1 l2<0) else decide (c1<c2)
theorem Qbz (x1 x2:Int) (S1 S2 B1 B2:Option Addr) (n1 m1 n2 m2 k1 k2:Nat) (l1 l2:List Int) (w:World) (hr:(Kd.int .i64).C w B1 l1.length l1) (hr2:(Kd.int .i64).C w B2 l2.length l2) (h1:l1.length<=1000000) (h2:l2.length<=1000000):
  Calls Tryz.prog 146 #[.agg #[.int .i64 x1,.slice S1 n1 m1,.slice B1 l1.length k1],.agg #[.int .i64 x2,.slice S2 n2 m2,.slice B2 l2.length k2]] w fun e w'=>e= .returned (.bool (K8 x1 l1 x2 l2))/\Below w.heap.size w w':=by
 have hu:=Tryz.underlying150;have HC:=Qa.mk (fun(W:World) (hb:Below w.heap.size w W)=>Hu B1 B2 k1 k2 l1 l2 W (Kd.Qf hr hb) (Kd.Qf hr2 hb) h1 h2);obtain⟨W2,hW2⟩: ∃W2,W2=(w.alloc (.cells #[.int .i64 x1,.slice S1 n1 m1,.slice B1 l1.length k1] 150)).alloc (.cells #[.int .i64 x2,.slice S2 n2 m2,.slice B2 l2.length k2] 150):=⟨_,rfl⟩;have hb2:Qa (Below w.heap.size w W2):=⟨by rw[hW2];exact((Below.refl _ _).alloc (Nat.le_refl _) _).alloc (by simp) _⟩;have hR:=((Rws.start w).alloc #[.int .i64 x1,.slice S1 n1 m1,.slice B1 l1.length k1] 150).alloc #[.int .i64 x2,.slice S2 n2 m2,.slice B2 l2.length k2] 150;simp only[World.size_alloc,List.nil_append,List.cons_append] at hR;rw[<-hW2] at hR;have g1:=(hR.blk ⟨w.heap.size, #[.int .i64 x1,.slice S1 n1 m1,.slice B1 l1.length k1],150⟩ (by simp)).1;have g2:=(hR.blk ⟨w.heap.size+1, #[.int .i64 x2,.slice S2 n2 m2,.slice B2 l2.length k2],150⟩ (by simp)).1;have a0:W2.cell? ⟨w.heap.size,0,none⟩=some (.int .i64 x1):=(by rw[Qb g1];rfl);have a2:W2.cell? ⟨w.heap.size,2,none⟩=some (.slice B1 l1.length k1):=(by rw[Qb g1];rfl);have b0:W2.cell? ⟨w.heap.size+1,0,none⟩=some (.int .i64 x2):=(by rw[Qb g2];rfl);have b2:W2.cell? ⟨w.heap.size+1,2,none⟩=some (.slice B2 l2.length k2):=(by rw[Qb g2];rfl);clear hR g1 g2 hr hr2 h1 h2;obtain⟨C,hCe⟩: ∃C,C=cmpL l1 l2:=⟨_,rfl⟩;rw[<-hCe] at HC;have hL:Qa (K8 x1 l1 x2 l2=if x1=x2 then decide (C<0) else decide (x1<x2)):=⟨by rw[hCe];rfl⟩;clear hCe;by_cases hx:x1=x2
 ·rw[if_pos hx] at hL
  subst hx;go_enter Tryz.func146,Tryz.ntmps146;go_wp2_with fail;rw[<-hW2];clear hW2;have hbz:=hb2.out;go_wp2_with (first|(go_at_call 190;refine(HC.out _ hbz).mono ?_;rintro e w' ⟨rfl,hbn⟩;replace hbz:=bnx hbz hbn;clear hbn));go_ret;exact⟨by rw[hL.out];rfl,hbz⟩
 ·rw[if_neg hx] at hL
  have hne:(x1 != x2)=true:=bne_iff_ne.2 hx;clear hx;go_enter Tryz.func146,Tryz.ntmps146;go_wp2_with fail;rw[<-hW2];clear hW2;go_wp2_with fail;go_ret;exact⟨by rw[hL.out];rfl,hb2.out⟩
theorem O4 (x:Int) (S B:Option Addr) (n m q k:Nat) (w:World):
  Calls Tryz.prog 145 #[.pointer none,.agg #[.int .i64 x,.slice S n m,.slice B q k],.func (.func 146) #[] #[]] w fun e w'=>e= .returned (.pointer (some ⟨w.heap.size,0,none⟩))/\w'.heap[w.heap.size]? =some (.cells #[.int .i64 x,.slice S n m,.slice B q k] 150 (0,0))/\Below w.heap.size w w':=by
 have hu:=Tryz.underlying150;obtain⟨W2,hW2⟩: ∃W2,W2=w.alloc (.cells #[.int .i64 x,.slice S n m,.slice B q k] 150):=⟨_,rfl⟩;have hb2:Qa (Below w.heap.size w W2.drew):=⟨by rw[hW2];exact((Below.refl _ _).alloc (Nat.le_refl _) _).drew⟩;have hg:Qa (W2.drew.heap[w.heap.size]? =some (.cells #[.int .i64 x,.slice S n m,.slice B q k] 150 (0,0))):=⟨by rw[hW2];exact heap_alloc_new _ _⟩;go_enter Tryz.func145,Tryz.ntmps145;go_wp2_with fail;rw[<-hW2];clear hW2;refine Z6 (fun _=>True) (by kernel_rfl) trivial (fun hHeld=> ?_)
 (refine Tk.tk 0 (.pointer none) hHeld ?_)
 (refine Tk.tk 1 (.bool true) hHeld ?_)
 (refine Tk.tk 2 (.bool true) hHeld ?_)
 (refine Tk.tz 3 hHeld ?_)
 (refine Tk.tz 4 hHeld ?_)
 (refine Tk.tz 5 hHeld ?_)
 (refine Tk.tz 6 hHeld ?_)
 (refine Tk.tz 7 hHeld ?_)
 (refine wpAnyH_ready (rs:=[8]) (by kernel_rfl) (by simp) ?_;refine AllReadyH.cons rfl (fun K hK=> ?_) AllReadyH.nil;go_simp)
 (go_wp2_with fail;refine hK.out _ _ (trivial) (fun hHeld=> ?_);clear hK K;try simp only[Act.put,Tk.z1,Tk.z2,Tk.z3,Tk.z4,Tk.z5,Tk.z6])
 (refine Tk.tk 9 (.bool true) hHeld ?_)
 refine wpAnyH_done (by kernel_rfl) ?_ _;go_wp2;go_ret;exact⟨rfl,hg.out,hb2.out⟩
theorem O5 (g:Nat) (x y:Int) (S B S2 B2:Option Addr) (n m k n2 m2 k2:Nat) (l1 l2:List Int) (w:World) (hr:(Kd.int .i64).C w B l1.length l1) (hr2:(Kd.int .i64).C w B2 l2.length l2) (h1:l1.length<=1000000) (h2:l2.length<=1000000)
  (hg:w.heap[g]? =some (.cells #[.int .i64 y,.slice S2 n2 m2,.slice B2 l2.length k2] 150 (0,0))):
  Calls Tryz.prog 145 #[.pointer (some ⟨g,0,none⟩),.agg #[.int .i64 x,.slice S n m,.slice B l1.length k],.func (.func 146) #[] #[]] w fun e w'=>(K8 x l1 y l2=false/\e= .returned (.pointer (some ⟨g,0,none⟩))\/K8 x l1 y l2=true/\e= .returned (.pointer (some ⟨w.heap.size,0,none⟩))/\w'.heap[w.heap.size]? =some (.cells #[.int .i64 x,.slice S n m,.slice B l1.length k] 150 (0,0)))/\Below w.heap.size w w':=by
 have hu:=Tryz.underlying150;obtain⟨W2,hW2⟩: ∃W2,W2=w.alloc (.cells #[.int .i64 x,.slice S n m,.slice B l1.length k] 150):=⟨_,rfl⟩;have hb2:Below w.heap.size w W2.drew:=(by rw[hW2];exact((Below.refl _ _).alloc (Nat.le_refl _) _).drew);have hq:Qa (∀W,Below W2.drew.heap.size W2.drew W->W.heap[w.heap.size]? =some (.cells #[.int .i64 x,.slice S n m,.slice B l1.length k] 150 (0,0))/\W.heap[g]? =some (.cells #[.int .i64 y,.slice S2 n2 m2,.slice B2 l2.length k2] 150 (0,0))/\Below w.heap.size w W):=⟨fun W hb=>⟨Qv (show W2.drew.heap[w.heap.size]? =_ by rw[hW2];exact heap_alloc_new _ _) hb,Qv (Qv hg hb2) hb,bnx hb2 hb⟩⟩;obtain⟨g1,g2,g3⟩:=hq.out W2.drew (Below.refl _ _);have a0:W2.drew.cell? ⟨w.heap.size,0,none⟩=some (.int .i64 x):=(by rw[Qb g1];rfl);have a1:W2.drew.cell? ⟨w.heap.size,1,none⟩=some (.slice S n m):=(by rw[Qb g1];rfl);have a2:W2.drew.cell? ⟨w.heap.size,2,none⟩=some (.slice B l1.length k):=(by rw[Qb g1];rfl);have b0:W2.drew.cell? ⟨g,0,none⟩=some (.int .i64 y):=(by rw[Qb g2];rfl);have b1:W2.drew.cell? ⟨g,1,none⟩=some (.slice S2 n2 m2):=(by rw[Qb g2];rfl);have b2:W2.drew.cell? ⟨g,2,none⟩=some (.slice B2 l2.length k2):=(by rw[Qb g2];rfl);have HC:=Qa.mk (Qbz x y S S2 B B2 n m n2 m2 k k2 l1 l2 W2.drew (Kd.Qf hr g3) (Kd.Qf hr2 g3) h1 h2);obtain⟨Z,hZ⟩: ∃Z,Z=K8 x l1 y l2:=⟨_,rfl⟩;rw[<-hZ] at HC ⊢;clear g1 g2 g3 hg hr hr2 h1 h2 hb2 hZ;go_enter Tryz.func145,Tryz.ntmps145;go_wp2_with fail;rw[<-hW2];clear hW2;refine Z6 (fun W=>W.cell? ⟨w.heap.size,0,none⟩=some (.int .i64 x)/\W.cell? ⟨w.heap.size,1,none⟩=some (.slice S n m)/\W.cell? ⟨w.heap.size,2,none⟩=some (.slice B l1.length k)/\W.cell? ⟨g,0,none⟩=some (.int .i64 y)/\W.cell? ⟨g,1,none⟩=some (.slice S2 n2 m2)/\W.cell? ⟨g,2,none⟩=some (.slice B2 l2.length k2)) (by kernel_rfl) ⟨a0,a1,a2,b0,b1,b2⟩ (fun hHeld=> ?_)
 (refine Tk.tk 0 (.pointer (some ⟨g,0,none⟩)) hHeld ?_)
 (refine Tk.tk 1 (.bool false) hHeld ?_)
 (refine Tk.tk 2 (.bool false) hHeld ?_)
 (refine Tk.tk 3 (.func (.func 146) #[] #[]) hHeld ?_)
 (refine Tk.tk 4 (.agg #[.int .i64 x,.slice S n m,.slice B l1.length k]) hHeld ?_)
 (refine Tk.tk 5 (.pointer (some ⟨g,0,none⟩)) hHeld ?_)
 (refine Tk.tk 6 (.pointer (some ⟨g,0,none⟩)) hHeld ?_)
 (refine Tk.tk 7 (.agg #[.int .i64 y,.slice S2 n2 m2,.slice B2 l2.length k2]) hHeld ?_)
 (refine wpAnyH_ready (rs:=[8]) (by kernel_rfl) (by simp) ?_;refine AllReadyH.cons rfl (fun K hK=> ?_) AllReadyH.nil;go_simp)
 refine HC.out.mono ?_;rintro e w1 ⟨rfl,hb1⟩;obtain⟨q1,q2,q3⟩:=hq.out w1 hb1;replace q1:=Qa.mk q1;replace q3:=Qa.mk q3
 (go_wp2_with fail;refine hK.out _ _ (⟨cnx a0 hb1,cnx a1 hb1,cnx a2 hb1,cnx b0 hb1,cnx b1 hb1,cnx b2 hb1⟩) (fun hHeld=> ?_);clear hK K;try simp only[Act.put,Tk.z1,Tk.z2,Tk.z3,Tk.z4,Tk.z5,Tk.z6])
 (refine Tk.tk 9 (.bool Z) hHeld ?_)
 refine wpAnyH_done (by kernel_rfl) ?_ _;clear a0 a1 a2 b0 b1 b2 q2 hHeld HC hq
 cases Z with
 |true=>
  go_wp2;go_ret;exact⟨⟨rfl,q1.out⟩,q3.out⟩
 |false=>
  go_wp2;go_ret;exact⟨rfl,q3.out⟩
end Sec

namespace Sec
attribute [local go_sem] Qh Qi Qk Ql Qd Qe
open Q15
open Bk
structure Wy where
 cost:Int
 secs:List (Int×Int)
 books:List Int
def w0:Wy:=⟨0,[],[]⟩
def J3 (k t:Nat) (s:Int) (r:Wy):Wy:=⟨3+Xb ((t+1:Nat):Int)+s+r.cost,((k:Int),((t+1:Nat):Int))::r.secs,List.replicate (t+1) (k:Int)++r.books⟩
def Uh (top:Option Wy) (tot:Int):Bool:=match top with|some a=>decide (a.cost<tot)|none=>false
def headW (r:Wy) (k:Nat):Bool:=decide (r.books.head?=some (k:Int))
def betW (top:Option Wy) (b:Wy):Wy:=match top with|none=>b|some a=>if K8 b.cost b.books a.cost a.books=true then b else a
def U9 (top:Option Wy) (k t:Nat) (s:Int) (r:Wy):Option Wy:=if(Uh top (J3 k t s r).cost ||headW r k)=true then top else some (betW top (J3 k t s r))
def jL (c:Nat->Int) (l:List Wy) (k:Nat):Nat->Nat->Int->Option Wy->Option Wy
 |0,_,_,top=>top
 |m+1,t,s,top=>if c t<0 then top else jL c l k m (t+1) (s+c t) (U9 top k t (s+c t) (l.getD t w0))
def kTo (c:Nat->Nat->Int) (l:List Wy) (m q:Nat):Option Wy:=(List.range q).foldl (fun top k=>jL (c k) l k m 0 0 top) none
theorem K6 (c:Nat->Nat->Int) (l:List Wy) (m q:Nat):kTo c l m (q+1)=jL (c q) l q m 0 0 (kTo c l m q):=by simp[kTo,List.range_succ,List.foldl_append]
def cB (ws l:List Int) (m:Nat):Nat->Nat->Int:=fun k t=>Q5 k (Xf ws l (ws.length-m+t))
def wL (ws l:List Int):Nat->List Wy
 |0=>[w0]
 |m+1=>(kTo (cB ws l (m+1)) (wL ws l m) (m+1) 8).getD w0::wL ws l m
theorem Sw (ws l:List Int): ∀(m t:Nat),t<=m->(wL ws l m).getD t w0=(wL ws l (m-t)).getD 0 w0
 |0,t,h=>by
         obtain rfl:t=0:=(by omega);rfl
 |m+1,0,_=>rfl
 |m+1,t+1,h=>by
  show(wL ws l m).getD t w0=_
  rw[Sw ws l m t (by omega),show m+1-(t+1)=m-t by omega]
structure Ym (m:Nat) (r:Wy):Prop where
 lo:0<=r.cost
 hi:r.cost<=14000*m
 bl:r.books.length=m
 sl:r.secs.length<=m
theorem Dt {n:Nat} (h1:1<=n) (h:n<=128):1<=Xb (n:Int)/\Xb (n:Int)<=15:=by
 have h2:n.log2<=7:=by
  have:n.log2<8:=(Nat.log2_lt (by omega)).2 (by omega);omega
 unfold Xb;rw[Int.toNat_natCast];omega
theorem Qdt {M k t:Nat} {s:Int} {r:Wy} (hM:M<=128) (ht:t+1<=M) (hr:Ym (M-(t+1)) r) (h0:0<=s) (h1:s<=13312*((t+1:Nat):Int)):Ym M (J3 k t s r):=by
 obtain⟨a,b,c,d⟩:=hr;have hg:=Dt (n:=t+1) (by omega) (by omega);refine⟨?_,?_,?_,?_⟩
 ·show 0<=3+Xb ((t+1:Nat):Int)+s+r.cost
  omega
 ·show 3+Xb ((t+1:Nat):Int)+s+r.cost<=14000*(M:Int)
  have:((M-(t+1):Nat):Int)=(M:Int)-((t+1:Nat):Int):=(by omega);rw[this] at b;omega
 ·show(List.replicate (t+1) (k:Int)++r.books).length =M
  rw[List.length_append,List.length_replicate,c];omega
 ·show r.secs.length+1<=M
  omega
theorem bet_good {M:Nat} {top:Option Wy} {b:Wy} (ht: ∀a,top=some a->Ym M a) (hb:Ym M b):Ym M (betW top b):=by
 cases top with
 |none=>exact hb
 |some a=>
  show Ym M (if K8 b.cost b.books a.cost a.books=true then b else a)
  by_cases h:K8 b.cost b.books a.cost a.books=true
  ·rw[if_pos h];exact hb
  ·rw[if_neg h];exact ht a rfl
theorem Ci {M k t:Nat} {s:Int} {r:Wy} {top:Option Wy} (hM:M<=128) (ht:t+1<=M) (hr:Ym (M-(t+1)) r) (h0:0<=s) (h1:s<=13312*((t+1:Nat):Int)) (htop: ∀a,top=some a->Ym M a): ∀a,U9 top k t s r=some a->Ym M a:=by
 intro a ha;unfold U9 at ha;by_cases h:(Uh top (J3 k t s r).cost ||headW r k)=true
 ·rw[if_pos h] at ha
  exact htop a ha
 ·rw[if_neg h] at ha
  cases ha;exact bet_good htop (Qdt hM ht hr h0 h1)
theorem Qc3 {M k:Nat} {c:Nat->Int} {l:List Wy} (hM:M<=128) (hl: ∀t,t+1<=M->Ym (M-(t+1)) (l.getD t w0)) (hc: ∀t,t<M->c t<=13312): ∀(m t:Nat) (s:Int) (top:Option Wy),t+m=M->0<=s->s<=13312*(t:Int)->(∀a,top=some a->Ym M a)-> ∀a,jL c l k m t s top=some a->Ym M a
 |0,_,_,top,_,_,_,ht=>ht
 |m+1,t,s,top,hm,h0,h1,ht=>by
  intro a ha;rw[jL] at ha;by_cases hn:c t<0
  ·rw[if_pos hn] at ha
   exact ht a ha
  ·rw[if_neg hn] at ha
   have hct:=hc t (by omega);refine Qc3 hM hl hc m (t+1) (s+c t) _ (by omega) (by omega) (by push_cast;omega) (Ci hM (by omega) (hl t (by omega)) (by omega) (by push_cast;omega) ht) a ha
theorem Rv {M:Nat} {c:Nat->Nat->Int} {l:List Wy} (hM:M<=128) (hl: ∀t,t+1<=M->Ym (M-(t+1)) (l.getD t w0)): ∀q,(∀k t,k<q->t<M->c k t<=13312)-> ∀a,kTo c l M q=some a->Ym M a
 |0,_=>fun a ha=>by cases ha
 |q+1,hc=>fun a ha=>by
  rw[K6] at ha;exact Qc3 hM hl (fun t ht=>hc q t (by omega) ht) M 0 0 _ (by omega) (Int.le_refl _) (by omega) (Rv hM hl q (fun k t hk=>hc k t (by omega))) a ha
theorem Es {c:Nat->Int} {l:List Wy} {k:Nat}: ∀(m t:Nat) (s:Int) (top:Option Wy),(∀u,t<=u->u<t+(m+1)->0<=c u)->(l.getD (t+m) w0).books =[]->jL c l k (m+1) t s top≠none
 |0,t,s,top,hc,hb=>by
  rw[jL,if_neg (by have:=hc t (Nat.le_refl _) (by omega);omega),jL];rw[Nat.add_zero] at hb;unfold U9;have hh:headW (l.getD t w0) k=false:=(by unfold headW;rw[hb];rfl);rw[hh,Bool.or_false]
  cases top with
  |none=>simp[Uh]
  |some a=>
   by_cases h2:Uh (some a) (J3 k t (s+c t) (l.getD t w0)).cost =true
   ·rw[if_pos h2];simp
   ·rw[if_neg h2];simp
 |m+1,t,s,top,hc,hb=>by
  rw[jL,if_neg (by have:=hc t (Nat.le_refl _) (by omega);omega)];exact Es m (t+1) _ _ (fun u h1 h2=>hc u (by omega) (by omega)) (by rw[show t+1+m=t+(m+1) by omega];exact hb)
theorem fit7 {x:List Int}:Ke 7 x=true:=by
 unfold Ke F4;rw[show Jb 7=1 from rfl,show Gc 7=true from rfl];simp[Nat.mod_one]
theorem O7 {ws l:List Int} (hok:Ok ws l) {m:Nat} (hm:m<=ws.length) {k t:Nat} (hk:k<8) (ht:t<m): -1<=cB ws l m k t/\cB ws l m k t<=13312/\(k=7->0<=cB ws l m k t):=by
 have h1:=Py hk (Vk (ws:=ws) hok.vals (ws.length-m+t));have h2:=Vl hok (j:=ws.length-m+t) (by omega);have h3:=Vz hok (j:=ws.length-m+t) (by omega);unfold cB;refine⟨h1.1,by omega,fun h7=> ?_⟩;subst h7;have h4:=O9 hk (Vk (ws:=ws) hok.vals (ws.length-m+t));unfold Q5;rw[if_pos fit7];exact h4.1
theorem Qdg (ws l:List Int) (m:Nat):(wL ws l (m+1)).getD 0 w0=(kTo (cB ws l (m+1)) (wL ws l m) (m+1) 8).getD w0:=rfl
theorem Qdf {ws l:List Int} (hok:Ok ws l): ∀m,m<=ws.length->Ym m ((wL ws l m).getD 0 w0)/\(m=0->((wL ws l m).getD 0 w0).books =[])
 |0,_=>⟨⟨by simp[wL,w0],by simp[wL,w0],rfl,Nat.le_refl _⟩,fun _=>rfl⟩
 |m+1,h=>by
  refine⟨?_,fun h=>by omega⟩;rw[Qdg];have hM:m+1<=128:=by have:=hok.len;omega
  have hl: ∀t,t+1<=m+1->Ym (m+1-(t+1)) ((wL ws l m).getD t w0):=fun t ht=>by
   rw[Sw ws l m t (by omega),show m+1-(t+1)=m-t by omega];exact(Qdf hok (m-t) (by omega)).1
  have hb:((wL ws l m).getD (0+m) w0).books =[]:=by
   rw[Nat.zero_add,Sw ws l m m (Nat.le_refl _),Nat.sub_self];rfl
  have hne:kTo (cB ws l (m+1)) (wL ws l m) (m+1) 8≠none:=by
   rw[K6];exact Es m 0 0 _ (fun u _ hu=>(O7 hok h (by omega) (by omega)).2.2 rfl) hb
  cases hk:kTo (cB ws l (m+1)) (wL ws l m) (m+1) 8 with
  |none=>exact absurd hk hne
  |some a=>exact Rv hM hl 8 (fun k t hk ht=>(O7 hok h hk (by omega)).2.1) a hk
theorem wL_all {ws l:List Int} (hok:Ok ws l) {m:Nat} (h:m<=ws.length) {t:Nat} (ht:t<=m):Ym (m-t) ((wL ws l m).getD t w0):=by
 rw[Sw ws l m t ht];exact(Qdf hok (m-t) (by omega)).1
theorem kTo_ne {ws l:List Int} (hok:Ok ws l) {m:Nat} (h:m+1<=ws.length): ∃a,kTo (cB ws l (m+1)) (wL ws l m) (m+1) 8=some a/\(wL ws l (m+1)).getD 0 w0=a:=by
 have hb:((wL ws l m).getD (0+m) w0).books =[]:=by
  rw[Nat.zero_add,Sw ws l m m (Nat.le_refl _),Nat.sub_self];rfl
 have hne:kTo (cB ws l (m+1)) (wL ws l m) (m+1) 8≠none:=by
  rw[K6];exact Es m 0 0 _ (fun u _ hu=>(O7 hok h (by omega) (by omega)).2.2 rfl) hb
 cases hk:kTo (cB ws l (m+1)) (wL ws l m) (m+1) 8 with
 |none=>exact absurd hk hne
 |some a=>exact⟨a,rfl,by rw[Qdg,hk];rfl⟩
end Sec

end Go.Proofs.YtnflnicdjioflaaGreatDoor
