/- A part of the proof. -/
import Derived.Test.YtnflnicdjioflaaGreatDoorSxbk
set_option linter.unusedVariables false
set_option linter.unusedSimpArgs false
set_option maxRecDepth 100000
set_option maxHeartbeats 8000000
namespace Go.Proofs.YtnflnicdjioflaaGreatDoor
open Go.RowKit Go.Proofs.YtnflnicdjioflaaGreatDoorW.PrintWords Go.Proofs.YtnflnicdjioflaaGreatDoorW.PrintLast Go.Proofs.YtnflnicdjioflaaGreatDoorW.PrintMore
namespace Rs
attribute [local go_sem] Qh Qi Qk Ql Qd Qe
open Q15
open Q21
open Gn
open Bk (Z6)
open Q16 (isW Qx Zj Fb KL)
open St (Zr Va Vb at_ Ki sV)
open Bd (Z9)
open Bts
open Sp
attribute [local go_sem] Oper.semAt_some
abbrev slV (F P:Nat->Nat) (j:Nat):Value:= .slice (some ⟨F j,0,none⟩) 128 (P j)
abbrev slG (F:Nat->Nat) (U:Nat->Array Value) (k:Nat):List Blk:=(List.range k).map fun j=>⟨F j,U j,3⟩
abbrev slC (F P:Nat->Nat) (k:Nat):List Value:=(List.range k).map (slV F P)
theorem sl_new (F P:Nat->Nat) (U:Nat->Array Value) (k g p:Nat) (u:Array Value):slG F U k++[⟨g,u,3⟩]=slG (fun j=>if j=k then g else F j) (fun j=>if j=k then u else U j) (k+1)/\slC F P k++[.slice (some ⟨g,0,none⟩) 128 p]=slC (fun j=>if j=k then g else F j) (fun j=>if j=k then p else P j) (k+1):=by
 unfold slG slC;rw[List.range_succ,List.map_append,List.map_append];refine⟨?_,?_⟩
 ·congr 1
  ·refine List.map_congr_left fun j hj=> ?_
   dsimp only;rw[if_neg (by have:=List.mem_range.1 hj;omega),if_neg (by have:=List.mem_range.1 hj;omega)]
  ·simp
 ·congr 1
  ·refine List.map_congr_left fun j hj=> ?_
   dsimp only[slV];rw[if_neg (by have:=List.mem_range.1 hj;omega),if_neg (by have:=List.mem_range.1 hj;omega)]
  ·simp
theorem BL_map (l:List Int):BL (l.map (Value.int .i64)).toArray l:=fun j hj=>by simp[rd,hj]
theorem midJ_len (g:Gr) (ws:List Int) (j:Nat):(Y2 g ws j).length =128:=by
 unfold Y2
 split
 ·rw[List.length_map]
  split
  ·unfold St.Va;rw[List.length_map,List.length_range];exact Ze _ _ _
  ·unfold St.Vb;rw[List.length_map,List.length_range];exact Ze _ _ _
 ·exact Ze _ _ _
theorem KL_of {w:World} {gz n:Nat} {cu:Array Value} {F P:Nat->Nat} {U:Nat->Array Value} {Y:Nat->List Int} (h:w.heap[gz]? =some (.cells cu 22 (0,0))) (hc: ∀j,j<n->cu[j]? =some (slV F P j)) (hF: ∀j,j<n->w.heap[F j]? =some (.cells (U j) 3 (0,0))/\BL (U j) (Y j)) (hP: ∀j,j<n->128<=P j) (hY: ∀j,(Y j).length =128) (hn:n<=1000000):KL.C w (some ⟨gz,0,none⟩) n ((List.range n).map Y):=by
 refine⟨by simp,by omega,fun _=>⟨_,rfl,fun j p hj=> ?_⟩⟩;rw[List.getElem?_map] at hj;obtain⟨i,hi,rfl⟩:=Option.map_eq_some_iff.1 hj;obtain⟨hlt,he⟩:=List.getElem?_eq_some_iff.1 hi;simp at hlt he;subst he;obtain⟨h1,h2⟩:=hF j hlt;refine⟨[slV F P j],rfl,⟨_,_,by rw[hY],by rw[hY];exact hP j hlt,BL_C h1 h2 (by rw[hY];omega)⟩,fun i u hu=> ?_⟩
 have hi0:i=0:=by
  rcases Nat.eq_zero_or_pos i with e|e
  ·exact e
  ·have:=(List.getElem?_eq_some_iff.1 hu).1;simp at this;omega
 subst hi0;cases hu;rw[show j*KL.sz+0=j from Nat.mul_one j,add_plain,Qb h];exact hc j hlt
theorem Sj (xs:List Ch) (mid:List Bool) (A M:Option Addr) (c m:Nat) (w:World) (hc:kCh.C w A xs.length xs) (hmC:Kd.bool.C w M mid.length mid) (hg:Jz ⟨xs,mid⟩=true) (hcq:T9 w A xs):
  Calls Tryz.prog 41 #[.agg #[.slice A xs.length c,.slice M mid.length m]] w fun e w'=> ∃B q,e= .returned (.slice B xs.length q)/\KL.C w' B xs.length (spL ⟨xs,mid⟩)/\Below w.heap.size w w':=by
 have hG:=Kz.1 hg;have hn:=hG.n;have hdv:=hG.div;dsimp only at hn;have hC:=Qa.mk hc;have hM:=Qa.mk hmC;have hws:=Yw hG.div;have hmid:=hG.mid
 have HF:=Qa.mk (fun k (hk:k<xs.length)=>(show ChF (Qm (chK ⟨xs,mid⟩ 0).sh (chK ⟨xs,mid⟩ 0).gr) (xs.getD k ch0)/\((xs.getD k ch0).sh =(chK ⟨xs,mid⟩ 0).sh /\(xs.getD k ch0).gr =(chK ⟨xs,mid⟩ 0).gr)/\(xs.getD k ch0).sc.length =(Qm (chK ⟨xs,mid⟩ 0).sh (chK ⟨xs,mid⟩ 0).gr).length by
  have hm:xs.getD k ch0∈xs:=(by rw[List.getD_eq_getElem?_getD,List.getElem?_eq_getElem hk];exact List.getElem_mem _);obtain⟨e1,e2,e3⟩:=hG.ch _ hm;have h4:=Ea hws e3;refine⟨h4,⟨e1,e2⟩,?_⟩
  rw[h4.sc,Yz]))
 obtain⟨w1,hw1⟩: ∃w1,w1=w.alloc (.cells #[.slice A xs.length c,.slice M mid.length m] 31):=⟨_,rfl⟩;have hb:Below w.heap.size w w1:=(by rw[hw1];exact(Below.refl _ _).alloc (Nat.le_refl _) _);have hu31:=Tryz.underlying31;have hu46:=Tryz.underlying46;obtain⟨ad,A1,c1,A2,c2,A3,c3,A4,c4,rfl,hcell,g1,-,-,-⟩:=Jt hc hb (k:=0) (by omega);have HW:=Qa.mk (fun(W:World) (hb2:Below w1.heap.size w1 W)=>Q21.Xl (xs.getD 0 ch0).sh A1 c1 (xs.getD 0 ch0).gr W (Kd.Qf g1 hb2));unfold D7 Kb at HW;rw[show Zc (xs.getD 0 ch0).sh (xs.getD 0 ch0).gr =true from hdv,if_pos rfl,if_pos rfl] at HW;have hX0:chK ⟨xs,mid⟩ 0=xs.getD 0 ch0:=rfl;have hY:Qa (∀j,spJ ⟨xs,mid⟩ (Qm (chK ⟨xs,mid⟩ 0).sh (chK ⟨xs,mid⟩ 0).gr) j=Z9 (xs.getD j ch0).sh (xs.getD j ch0).gr (Y2 ⟨xs,mid⟩ (Qm (chK ⟨xs,mid⟩ 0).sh (chK ⟨xs,mid⟩ 0).gr) j) 128):=⟨fun j=>rfl⟩;have hSL:Qa (spL ⟨xs,mid⟩=(List.range xs.length).map (spJ ⟨xs,mid⟩ (Qm (chK ⟨xs,mid⟩ 0).sh (chK ⟨xs,mid⟩ 0).gr))):=⟨rfl⟩;obtain⟨SL,hSLE⟩: ∃SL,SL=spL ⟨xs,mid⟩:=⟨_,rfl⟩;rw[<-hSLE] at hSL ⊢;rw[hX0] at hws hmid HF hY hSL hdv;obtain⟨X0,hX⟩: ∃X,X=xs.getD 0 ch0:=⟨_,rfl⟩;rw[<-hX] at hcell HW hws hmid HF hY hSL hdv g1;obtain⟨ws,hwsE⟩: ∃ws,ws=Qm X0.sh X0.gr:=⟨_,rfl⟩;rw[<-hwsE] at HW hws hmid HF hY hSL;have HDv:=Qa.mk hdv;have HQ:=Qa.mk hcq;have HWs:=Qa.mk hws;have HMo:=Qa.mk hmid;have HG1:=Qa.mk g1;have hmo:Tryz.prog.follows .mixedOrders =true:=(by kernel_rfl);have hnI:1<=(xs.length:Int)/\(xs.length:Int)<=2:=(by omega);have HN:=Qa.mk hn;have t3:(0:Int)<(xs.length:Int):=(by omega);have n0:w1.cell? ad=some (.bool X0.sh):=(by simpa[Addr.add] using hcell 0 _ rfl);have n1:w1.cell? ⟨ad.block,ad.off+1,none⟩=some (.slice A1 X0.gr.length c1):=(by simpa[Addr.add] using hcell 1 _ rfl);have n2:w1.cell? ⟨ad.block,ad.off+2,none⟩=some (.slice A2 X0.sc.length c2):=(by simpa[Addr.add] using hcell 2 _ rfl);have n3:w1.cell? ⟨ad.block,ad.off+3,none⟩=some (.slice A3 X0.qu.length c3):=(by simpa[Addr.add] using hcell 3 _ rfl);have n4:w1.cell? ⟨ad.block,ad.off+4,none⟩=some (.slice A4 X0.fi.length c4):=(by simpa[Addr.add] using hcell 4 _ rfl);rw[hw1] at n0 n1 n2 n3 n4;clear hcell hX hdv hn hc g1 hws hwsE hmC hg hG hcq hmid hSLE hX0;go_enter Tryz.func41,Tryz.ntmps41;go_wp2_with fail;rw[<-hw1];have hB1:w1.heap[w.heap.size]? =some (.cells #[.slice (some ad) xs.length c,.slice M mid.length m] 31 (0,0)):=(by rw[hw1];exact heap_alloc_new _ _);obtain⟨w1b,hw1b⟩: ∃w1b,w1b=w1.alloc (.cells #[.bool X0.sh,.slice A1 X0.gr.length c1,.slice A2 X0.sc.length c2,.slice A3 X0.qu.length c3,.slice A4 X0.fi.length c4] 46):=⟨_,rfl⟩;have hb1b:Below w1.heap.size w1 w1b:=(by rw[hw1b];exact(Below.refl _ _).alloc (Nat.le_refl _) _);have hBb:w1b.heap[w1.heap.size]? =some (.cells #[.bool X0.sh,.slice A1 X0.gr.length c1,.slice A2 X0.sc.length c2,.slice A3 X0.qu.length c3,.slice A4 X0.fi.length c4] 46 (0,0)):=(by rw[hw1b];exact heap_alloc_new _ _);rw[<-hw1b];clear hw1b;refine(HW.out _ hb1b).mono ?_;rintro e w2 ⟨B,q,rfl,hCw,hbn⟩;have hb12:=bnx hb1b hbn;have hb02:=Qa.mk (bnx hb hb12);have z1:w2.cell? ⟨w.heap.size,1,none⟩=some (.slice M mid.length m):=(by rw[Qb ((hb12.block _ (Qr hB1)).trans hB1)];rfl);have z0:w2.cell? ⟨w.heap.size,0,none⟩=some (.slice (some ad) xs.length c):=(by rw[Qb ((hb12.block _ (Qr hB1)).trans hB1)];rfl);have y0:w2.cell? ⟨w1.heap.size,0,none⟩=some (.bool X0.sh):=(by rw[Qb ((hbn.block _ (Qr hBb)).trans hBb)];rfl);have y1:w2.cell? ⟨w1.heap.size,1,none⟩=some (.slice A1 X0.gr.length c1):=(by rw[Qb ((hbn.block _ (Qr hBb)).trans hBb)];rfl);have hBr:=Qa.mk (fun(W:World) (hb:Below w2.heap.size w2 W)=>Kd.Qf hCw hb);have HG2:=Qa.mk (fun(W:World) (hb:Below w2.heap.size w2 W)=>Kd.Qf HG1.out (bnx hb12 hb));obtain⟨b5,hb5⟩: ∃b5,b5=w1.heap.size:=⟨_,rfl⟩;have hb5':w.heap.size+1=b5:=(by rw[hb5,hw1];simp);rw[<-hb5] at y0 y1;rw[hb5'];have HZ:=Qa.mk (And.intro z0 (And.intro z1 (And.intro y0 y1)));clear hb5' hbn n0 n1 n2 n3 n4 hw1 hb hB1 hBb hb5 hb1b hb12 hCw HW HG1 y0 y1 z1;go_wp2_with fail;go_loopw [6,31] (fun x i wr=> ∃(k:Nat) (F P:Nat->Nat) (U:Nat->Array Value),i= .int .i64 k/\k<=xs.length/\Qa (Rws w2 wr [⟨22,1,x,k,slC F P k⟩] (slG F U k))/\Qa (∀j,j<k->BL (U j) (Vd ws (xs.getD j ch0))/\128<=P j)) (fun _ i _=>xs.length-(intOf i).toNat)
 case atStart=>exact⟨0,fun _=>0,fun _=>0,fun _=> #[],rfl,by omega,⟨(Rws.start w2).nil 22 1⟩,⟨fun j hj=>by omega⟩⟩
 case round=>
  obtain⟨k,F,P,U,rfl,hk,hRw,hUL⟩:=hrel;clear z0;by_cases hlt:k<xs.length
  ·have hbw:=bnx hb02.out hRw.out.below
   obtain⟨_,A1,c1,A2,c2,A3,c3,A4,c4,e,hcell,g1,g2,g3,g4⟩:=Jt hC.out hbw hlt;cases e;have hq9:=HQ.out k ad A3 c3 hlt rfl;obtain⟨_,B1,d1,B2,d2,B3,d3,B4,d4,e,hcell0,-,-,-,-⟩:=Jt hC.out (Below.refl _ _) hlt;cases e;have hq8:=cnx (hcell0 3 _ rfl) hbw;rw[hcell 3 _ rfl] at hq8
   injection hq8 with hq8
   rw[hq8] at hq9;obtain⟨q1,q2⟩:=hq9 (hcell0 3 _ rfl)
   injection hq8 with e3 _ e4
   subst e3 e4;clear hcell0;obtain⟨f1,f2,f3⟩:=HF.out k hlt;have hck:=fun j (hj:j<ws.length)=>chkB HWs.out f1 f3 hj
   have hvl:=Qa4 HWs.out f1.q hck;have hvb:=Qde hck
   have hfil:Ye (xs.getD k ch0).fi =true:=by
    unfold Ye;simp only[Bool.and_eq_true,decide_eq_true_eq];exact⟨f1.fl,List.all_eq_true.2 fun x hx=>by simpa using f1.fv x hx⟩
   have hRJ:=Qa.mk (show(Vd ws (xs.getD k ch0)).length =128 from Ze _ _ _);obtain⟨X,hX⟩: ∃X,X=xs.getD k ch0:=⟨_,rfl⟩;have hRX:Vd ws (xs.getD k ch0)=Yr (Qy X.fi) (Uk ws X) 128:=(by rw[hX];rfl);rw[<-hX] at hcell g1 g2 g3 g4 f1 f2 f3 hck hvl hvb hfil q1;have herr:Fb (-1023) 1023 0 95 X.qu ws X.sc=0:=Qcw HWs.out f1.q f3 f1.ok.vals (List.all_eq_true.2 fun x hx=>by simpa using Sca.Dz f1.e x hx);have HV:=Qa.mk (fun(W:World) (hb:Below wr.heap.size wr W)=>Q16.Qap A3 B A2 c3 q c2 X.qu ws X.sc W (Kd.Qf g3 hb) (hBr.out W (bnx hRw.out.below hb)) (Kd.Qf g2 hb) q1 q2 herr);have HS:=Qa.mk (fun(W:World) (hb:Below wr.heap.size wr W) (A9:Option Addr) (c9:Nat) (hv:(Kd.int .i64).C W A9 (Uk ws X).length (Uk ws X))=>Ht A9 A4 c9 c4 (Uk ws X) X.fi W hv (Kd.Qf g4 hb) hfil (by omega) (fun x hx=>by have:=hvb x hx;omega));rw[hvl] at HS;have m0:wr.cell? (ad.add (k*5))=some (.bool X.sh):=hcell 0 _ rfl;have m1:=hcell 1 _ rfl;have m2:=hcell 2 _ rfl;have m3:=hcell 3 _ rfl;have m4:=hcell 4 _ rfl;rw[Lf] at m1 m2 m3 m4;have z0:=cnx HZ.out.1 hRw.out.below;have hkI:(k:Int)<(xs.length:Int):=(by omega);have hT:=Qa.mk hlt;replace hvl:=Qa.mk hvl;clear hX hck hvb hfil q1 q2 f1 f2 f3 hcell hlt hk herr g1 g2 g3 g4;go_wp2_with fail;obtain⟨W9,hW9⟩: ∃W9,W9=wr.alloc (.cells #[.bool X.sh,.slice A1 X.gr.length c1,.slice A2 X.sc.length c2,.slice A3 X.qu.length c3,.slice A4 X.fi.length c4] 46):=⟨_,rfl⟩;have hbW9:Below wr.heap.size wr W9:=(by rw[hW9];exact(Below.refl _ _).alloc (Nat.le_refl _) _);have hR9:=Rws.blkc hRw.out hbW9 (b:=⟨wr.heap.size, #[.bool X.sh,.slice A1 X.gr.length c1,.slice A2 X.sc.length c2,.slice A3 X.qu.length c3,.slice A4 X.fi.length c4],46⟩) (by rw[hW9];exact heap_alloc_new _ _) (Nat.le_refl _);obtain⟨b9,hb9⟩: ∃b9,b9=wr.heap.size:=⟨_,rfl⟩;rw[<-hW9,<-hb9];rw[<-hb9] at hR9;refine(HV.out W9 hbW9).mono ?_;rintro en W10 ⟨v,rfl,hv,hb10⟩;obtain⟨A9,c9,rfl,-,hv9⟩:=Kd.Qs hv;have hR10:=hR9.step hb10;have hbw10:=bnx hbW9 hb10;have hvl9:((List.range ws.length).map fun k=>Zn (Zj X.qu ws k) (rd X.sc k)).flatten.length =128:=hvl.out;have HS2:=Qa.mk (HS.out W10 hbw10 A9 c9 (by rw[<-hvl.out];exact hv9));rw[hvl9];have u4:W10.cell? ⟨b9,4,none⟩=some (.slice A4 X.fi.length c4):=(by rw[Qb (hR10.blk ⟨b9, #[.bool X.sh,.slice A1 X.gr.length c1,.slice A2 X.sc.length c2,.slice A3 X.qu.length c3,.slice A4 X.fi.length c4],46⟩ (by simp)).1];rfl);clear hW9 hR9 hb10 hv hv9 hvl9 m0 m1 m2 m3 m4 z0 HV HS hbW9 hb9;replace hR10:=Qa.mk hR10;replace hbw10:=Qa.mk hbw10;go_wp2_with fail;refine HS2.out.mono ?_;rintro en W11 ⟨vr,rfl,hvr,hb11⟩;rw[<-hRX] at hvr;obtain⟨gr,cr,Ur,hvE,hgs,hgr,hBr9,-,hcr⟩:=Ko hvr (by rw[hRJ.out];omega);rw[hRJ.out] at hcr;rw[hRJ.out] at hvE;subst hvE;have hR11:=Rws.blkc hR10.out hb11 (b:=⟨gr,Ur,3⟩) hgr hgs;replace hR11:=Rws.sub hR11 (G':=slG F U k++[⟨gr,Ur,3⟩]) (List.Sublist.append (List.sublist_append_left _ _) (List.Sublist.refl _));have hRl:=Qa.mk (hR11.alloc #[.slice (some ⟨gr,0,none⟩) 128 cr] 22);have hl9:Qa ((k+1)*24<=140737488355328):=⟨by have:=hT.out;have:=HN.out.2;omega⟩
   have hUn:Qa (∀j,j<k+1->BL (if j=k then Ur else U j) (Vd ws (xs.getD j ch0))/\128<=(if j=k then cr else P j)):=⟨fun j hj=>by
    by_cases e:j=k
    ·rw[if_pos e,if_pos e,e];exact⟨hBr9,hcr⟩
    ·rw[if_neg e,if_neg e];exact hUL.out j (by omega)⟩
   clear hgr hgs hb11 hR11 hR10 hbw10 HS2 u4 hvr hBr9 hUL hcr;go_wp2_with (first|(at_builtin;refine Kq (wr:=w2) (L1:=[]) (L2:=[]) (G:=_) rfl (.tmp 44) (.tmp 49) 24 22 rfl (.slice none 0 0) 1 24 Tryz.underlying24 Qcz rfl (by decide) (by decide) u6 k (slC F P k) rfl hRl.out ⟨W11.heap.size,0,none⟩ 1 1 [.slice (some ⟨gr,0,none⟩) 128 cr] rfl rfl (Gi _ _ _) (by simp[Value.oneCell']) hl9.out ?_;intro v1 wA hRA hgA hkA;have HRA:=Qa.mk hRA;have HKA:=Qa.mk hkA;clear hRA hgA hkA;obtain⟨A4,p4,hv4⟩:=Rz (HRA.out.row _ (List.mem_append_right _ (List.mem_cons_self)));dsimp only at hv4;subst hv4;skip));obtain⟨n1,n2⟩:=sl_new F P U k gr cr Ur;have hfin:=Qa.mk (Rws.sub HRA.out (List.sublist_append_left _ _));rw[n1,n2] at hfin;go_roundw
   case rel=>exact⟨k+1,fun j=>if j=k then gr else F j,fun j=>if j=k then cr else P j,fun j=>if j=k then Ur else U j,by go_num,hT.out,hfin,hUn⟩
   case measure=>have:=hT.out;simp[intOf];omega
  ·obtain rfl:k=xs.length:=by omega
   obtain⟨go,cp,cur,rfl,hR2,hcj⟩:=Rws.unrow hRw.out HN.out.1;have hcF:Qa (∀j,j<xs.length->cur[j]? =some (slV F P j)):=⟨fun j hj=>by rw[hcj j hj];unfold slC;simp[hj]⟩
   have hFj:Qa (∀j,j<xs.length->wr.heap[F j]? =some (.cells (U j) 3 (0,0))/\F j≠go):=⟨fun j hj=>by
    have hm:(⟨F j,U j,3⟩:Blk)∈slG F U xs.length:=List.mem_map.2 ⟨j,List.mem_range.2 hj,rfl⟩
    exact⟨(hR2.blk _ (List.mem_cons_of_mem _ hm)).1,fun e=>(List.pairwise_cons.1 hR2.gs).1 _ hm e.symm⟩⟩
   have hgo:=Qa.mk (hR2.blk ⟨go,cur,22⟩ (by simp));have hbw:=Qa.mk hR2.below;have z1':=cnx HZ.out.2.1 hR2.below;clear hlt hk hRw hR2 hcj;by_cases h2:xs.length=2
   case' pos=>
    have hd2:((xs.length:Int)==2)=true:=(by rw[h2];rfl);have h2I:(1:Int)<(xs.length:Int):=(by omega);have hne: ¬xs=[]:=fun e=>by rw[e] at h2;simp at h2
    obtain⟨r0,hr0⟩: ∃r,r=Vd ws (xs.getD 0 ch0):=⟨_,rfl⟩;obtain⟨r1,hr1⟩: ∃r,r=Vd ws (xs.getD 1 ch0):=⟨_,rfl⟩;have hF0:=(hFj.out 0 (by omega)).1;have hF1:=(hFj.out 1 (by omega)).1;have hU0:=(hUL.out 0 (by omega)).1;have hU1:=(hUL.out 1 (by omega)).1;rw[<-hr0] at hU0;rw[<-hr1] at hU1;have l0:r0.length=128:=(by rw[hr0];exact Ze _ _ _);have l1:r1.length=128:=by rw[hr1];exact Ze _ _ _
    have hml:mid.length=ws.length:=by
     have:=HMo.out;unfold K9 at this;rw[if_neg (by omega)] at this;have:=of_decide_eq_true this;omega
    have HPt:=Qa.mk (fun(W:World) (hb:Below wr.heap.size wr W)=>Qan (some ⟨F 0,0,none⟩) (some ⟨F 1,0,none⟩) B M (P 0) (P 1) q m r0 r1 ws mid W (Kd.Qf (BL_C hF0 hU0 (by omega)) hb) (Kd.Qf (BL_C hF1 hU1 (by omega)) hb) (hBr.out W (bnx hbw.out hb)) (Kd.Qf hM.out (bnx hb02.out (bnx hbw.out hb))) HWs.out l0 l1 hml (fun k hk=>by
     have b0:=Jq _ _ 128 _ (show rd r0 (k:Nat)∈Yr (Qy (xs.getD 0 ch0).fi) (Uk ws (xs.getD 0 ch0)) 128 by rw[<-show r0=Yr (Qy (xs.getD 0 ch0).fi) (Uk ws (xs.getD 0 ch0)) 128 from hr0];exact Qp r0 k (by omega));have b1:=Jq _ _ 128 _ (show rd r1 (k:Nat)∈Yr (Qy (xs.getD 1 ch0).fi) (Uk ws (xs.getD 1 ch0)) 128 by rw[<-show r1=Yr (Qy (xs.getD 1 ch0).fi) (Uk ws (xs.getD 1 ch0)) 128 from hr1];exact Qp r1 k (by omega))
     omega))
    rw[l0,l1] at HPt;obtain⟨X,hX⟩: ∃X,X=Va r0 r1 (Zr ws mid ws.length):=⟨_,rfl⟩;obtain⟨Y,hYE⟩: ∃Y,Y=Vb r0 r1 (Zr ws mid ws.length):=⟨_,rfl⟩;have lX:X.length=128:=(by rw[hX];unfold St.Va;rw[List.length_map,List.length_range,l0]);have lY:Y.length=128:=by rw[hYE];unfold St.Vb;rw[List.length_map,List.length_range,l0]
    have hmj:Qa (Y2 ⟨xs,mid⟩ ws 0=X.map Z5/\Y2 ⟨xs,mid⟩ ws 1=Y.map Z5):=⟨by
     unfold Y2;dsimp only;rw[if_pos h2,if_pos h2,if_pos rfl,if_neg (by decide),hX,hYE,hr0,hr1]
     exact⟨rfl,rfl⟩⟩
    rw[<-hX,<-hYE] at HPt;replace lX:=Qa.mk lX;replace lY:=Qa.mk lY;have h2':=Qa.mk h2;have k0:wr.cell? ⟨go,0,none⟩=some (slV F P 0):=(by rw[Qb hgo.out.1];exact hcF.out 0 (by omega));have k1:wr.cell? ⟨go,1,none⟩=some (slV F P 1):=(by rw[Qb hgo.out.1];exact hcF.out 1 (by omega));clear h2 hr0 hr1 hF0 hF1 hU0 hU1 l0 l1 hml hX hYE;go_wp2_with fail;refine Z6 (fun W=>W.cell? ⟨go,0,none⟩=some (slV F P 0)/\W.cell? ⟨go,1,none⟩=some (slV F P 1)/\W.cell? ⟨w.heap.size,1,none⟩=some (.slice M mid.length m)) hmo ⟨k0,k1,z1'⟩ (fun hHeld=> ?_)
    (refine Tk.tk 0 (.slice (some ⟨go,0,none⟩) xs.length cp) hHeld ?_)
    (refine Tk.tk 1 (.pointer (some ⟨go,0,none⟩)) hHeld ?_)
    (refine Tk.tk 2 (slV F P 0) hHeld ?_)
    (refine Tk.tk 3 (.slice (some ⟨go,0,none⟩) xs.length cp) hHeld ?_)
    (refine Tk.tk 4 (.pointer (some ⟨go,1,none⟩)) hHeld ?_)
    (refine Tk.tk 5 (slV F P 1) hHeld ?_)
    (refine Tk.tk 6 (.slice B ws.length q) hHeld ?_)
    (refine Tk.tk 7 (.pointer (some ⟨w.heap.size,1,none⟩)) hHeld ?_)
    (refine Tk.tk 8 (.slice M mid.length m) hHeld ?_)
    (refine wpAnyH_ready (rs:=[9]) (by kernel_rfl) (by simp) ?_;refine AllReadyH.cons rfl (fun K hK=> ?_) AllReadyH.nil;go_simp)
    refine(HPt.out _ (Below.refl _ _).drew).mono ?_;rintro en W2 ⟨vx,vy,rfl,hvx,hvy,hb2⟩;obtain⟨gx,px,Ux,hvxE,-,hgx,hBx,-,-⟩:=Ko hvx (by rw[lX.out];omega);obtain⟨gy,py,Uy,hvyE,-,hgy,hBy,-,-⟩:=Ko hvy (by rw[lY.out];omega);rw[lX.out] at hvxE;rw[lY.out] at hvyE;subst hvxE hvyE;have hb2':=bnx (Below.refl wr.heap.size wr).drew hb2
    (go_wp2_with fail;refine hK.out _ _ (⟨cnx k0 hb2',cnx k1 hb2',cnx z1' hb2'⟩) (fun hHeld=> ?_);clear hK K;try simp only[Act.put,Tk.z1,Tk.z2,Tk.z3,Tk.z4,Tk.z5,Tk.z6])
    (refine Tk.tk 10 (.tuple #[.slice (some ⟨gx,0,none⟩) 128 px,.slice (some ⟨gy,0,none⟩) 128 py,.int .i64 0]) hHeld ?_)
    (refine Tk.tk 11 (.slice (some ⟨gx,0,none⟩) 128 px) hHeld ?_)
    (refine Tk.tk 12 (.slice (some ⟨gy,0,none⟩) 128 py) hHeld ?_)
    (refine Tk.tk 13 (.int .i64 0) hHeld ?_)
    (refine Tk.tk 14 (.slice (some ⟨gx,0,none⟩) 128 px) hHeld ?_)
    (refine Tk.tk 15 (.slice (some ⟨gy,0,none⟩) 128 py) hHeld ?_)
    (refine Tk.tk 16 (.int .i64 0) hHeld ?_)
    refine wpAnyH_done (by kernel_rfl) ?_ _;have hCx:=Qa.mk (fun(W:World) (hb:Below W2.heap.size W2 W)=>Kl (some ⟨gx,0,none⟩) px X W (Kd.Qf (BL_C hgx hBx (by rw[lX.out];decide)) hb) (by rw[lX.out];decide));have hCy:=Qa.mk (fun(W:World) (hb:Below W2.heap.size W2 W)=>Kl (some ⟨gy,0,none⟩) py Y W (Kd.Qf (BL_C hgy hBy (by rw[lY.out];decide)) hb) (by rw[lY.out];decide));rw[lX.out] at hCx;rw[lY.out] at hCy;replace hb2':=Qa.mk hb2';clear hgx hgy hBx hBy hvx hvy hb2 hHeld k0 k1 HPt z1';go_wp2_with fail;refine(hCx.out W2 (Below.refl _ _)).mono ?_;rintro en W3 ⟨v3,rfl,hv3,hb3⟩;obtain⟨h0,p0,U0,hv3E,hs0,hh0,hB0,-,hp0⟩:=Ko hv3 (by rw[List.length_map,lX.out];omega);rw[List.length_map,lX.out] at hv3E hp0;subst hv3E;go_wp2_with fail;refine(hCy.out W3 hb3).mono ?_;rintro en W4 ⟨v4,rfl,hv4,hb4⟩;obtain⟨h1,p1,U1,hv4E,hs1,hh1,hB1,-,hp1⟩:=Ko hv4 (by rw[List.length_map,lY.out];omega);rw[List.length_map,lY.out] at hv4E hp1;subst hv4E;have hb04:=bnx hb2'.out (bnx hb3 hb4);have e0:=(hb4.block _ (Qr hh0)).trans hh0;have hgl:=Qr hgo.out.1;have hls:wr.heap.size<=W2.heap.size:=hb2'.out.size;have hls3:W2.heap.size<=W3.heap.size:=hb3.size;have hne0:h0≠go:=(by omega);have hne1:h1≠go:=(by omega);have hG4:=Qv hgo.out.1 hb04;have s0:W4.cell? ⟨go,0,none⟩=some (slV F P 0):=(by rw[Qb hG4];exact hcF.out 0 (by have:=HN.out.1;omega));have s1:W4.cell? ⟨go,1,none⟩=some (slV F P 1):=(by rw[Qb hG4];exact hcF.out 1 (by have:=h2'.out;omega));have f0:=Qj hG4 0;have f1:=Qj hG4 1;have hcs0:0<cur.size:=(Array.getElem?_eq_some_iff.1 (hcF.out 0 (by have:=HN.out.1;omega))).1;have hcs1:1<cur.size:=(Array.getElem?_eq_some_iff.1 (hcF.out 1 (by have:=h2'.out;omega))).1;have hG5:=Q9 (Q9 hG4 0 (.slice (some ⟨h0,0,none⟩) 128 p0)) 1 (.slice (some ⟨h1,0,none⟩) 128 p1)
    have hx0:Qa (∀j,j<xs.length->((cur.setIfInBounds 0 (.slice (some ⟨h0,0,none⟩) 128 p0)).setIfInBounds 1 (.slice (some ⟨h1,0,none⟩) 128 p1))[j]? =some (.slice (some ⟨if j=0 then h0 else h1,0,none⟩) 128 (if j=0 then p0 else p1))):=⟨fun j hj=>by
     rw[h2'.out] at hj;have:j=0\/j=1:=(by omega);rcases this with rfl|rfl
     ·simp[hcs0]
     ·simp[hcs1]⟩
    have hx1:Qa (∀j,j<xs.length->(((W4.setCell ⟨go,0,none⟩ (.slice (some ⟨h0,0,none⟩) 128 p0)).setCell ⟨go,1,none⟩ (.slice (some ⟨h1,0,none⟩) 128 p1)).heap[if j=0 then h0 else h1]? =some (.cells (if j=0 then U0 else U1) 3 (0,0))/\(if j=0 then h0 else h1)≠go)/\BL (if j=0 then U0 else U1) (Y2 ⟨xs,mid⟩ ws j)/\128<=(if j=0 then p0 else p1)):=⟨fun j hj=>by
     rw[h2'.out] at hj;have hj2:j=0\/j=1:=(by omega);rcases hj2 with rfl|rfl
     ·rw[if_pos rfl,if_pos rfl,if_pos rfl,hmj.out.1]
      exact⟨⟨X4 (X4 e0 (p:=⟨go,0,none⟩) hne0 _) (p:=⟨go,1,none⟩) hne0 _,hne0⟩,hB0,hp0⟩
     ·rw[if_neg (by decide),if_neg (by decide),if_neg (by decide),hmj.out.2]
      exact⟨⟨X4 (X4 hh1 (p:=⟨go,0,none⟩) hne1 _) (p:=⟨go,1,none⟩) hne1 _,hne1⟩,hB1,hp1⟩⟩
    have hbz:=Qa.mk (((bnx hbw.out hb04).setCell (p:=⟨go,0,none⟩) hgo.out.2 (.slice (some ⟨h0,0,none⟩) 128 p0)).setCell (p:=⟨go,1,none⟩) hgo.out.2 (.slice (some ⟨h1,0,none⟩) 128 p1));have hgz:=Qa.mk (And.intro hG5 hgo.out.2);obtain⟨Wz,hWz⟩: ∃W,W=(W4.setCell ⟨go,0,none⟩ (.slice (some ⟨h0,0,none⟩) 128 p0)).setCell ⟨go,1,none⟩ (.slice (some ⟨h1,0,none⟩) 128 p1):=⟨_,rfl⟩;rw[<-hWz] at hbz hgz hx1;obtain⟨curz,hcE⟩: ∃c,c=(cur.setIfInBounds 0 (.slice (some ⟨h0,0,none⟩) 128 p0)).setIfInBounds 1 (.slice (some ⟨h1,0,none⟩) 128 p1):=⟨_,rfl⟩;rw[<-hcE] at hgz hx0;obtain⟨Fz,hFzE⟩: ∃F:Nat->Nat,F=fun j=>if j=0 then h0 else h1:=⟨_,rfl⟩
    obtain⟨Pz,hPzE⟩: ∃P:Nat->Nat,P=fun j=>if j=0 then p0 else p1:=⟨_,rfl⟩
    obtain⟨Uz,hUzE⟩: ∃U:Nat->Array Value,U=fun j=>if j=0 then U0 else U1:=⟨_,rfl⟩
    have hcz:Qa (∀j,j<xs.length->curz[j]? =some (slV Fz Pz j)):=⟨fun j hj=>by rw[hFzE,hPzE];exact hx0.out j hj⟩;have hFz:Qa (∀j,j<xs.length->(Wz.heap[Fz j]? =some (.cells (Uz j) 3 (0,0))/\Fz j≠go)/\BL (Uz j) (Y2 ⟨xs,mid⟩ ws j)/\128<=Pz j):=⟨fun j hj=>by rw[hFzE,hPzE,hUzE];exact hx1.out j hj⟩;clear hx0 hx1 hFzE hPzE hUzE hcE hh0 hh1 hs0 hs1 e0 hgl hls hls3 hne0 hne1 hG4 hG5 hcs0 hcs1 hb04 hB0 hB1 hp0 hp1 hv3 hv4 hb3 hb4 hmj hCx hCy;go_wp2_with fail;rw[<-hWz];clear hWz s0 s1 f0 f1 hgo hcF hFj hbw
   case' neg=>
    have hd2:((xs.length:Int)==2)=false:=(by simpa using (show¬(xs.length:Int)=2 by omega));have hmj:Qa (∀j,Y2 ⟨xs,mid⟩ ws j=Vd ws (xs.getD j ch0)):=⟨fun j=>by unfold Y2;rw[if_neg h2];rfl⟩;have hFz:Qa (∀j,j<xs.length->(wr.heap[F j]? =some (.cells (U j) 3 (0,0))/\F j≠go)/\BL (U j) (Y2 ⟨xs,mid⟩ ws j)/\128<=P j):=⟨fun j hj=>by rw[hmj.out];exact⟨hFj.out j hj,hUL.out j hj⟩⟩;clear h2 hmj;go_wp2_with fail;obtain⟨Wz,rfl⟩: ∃W:World,W=wr:=⟨_,rfl⟩;obtain⟨Fz,rfl⟩: ∃F':Nat->Nat,F'=F:=⟨_,rfl⟩;obtain⟨Pz,rfl⟩: ∃F':Nat->Nat,F'=P:=⟨_,rfl⟩;obtain⟨Uz,rfl⟩: ∃F':Nat->Array Value,F'=U:=⟨_,rfl⟩;obtain⟨curz,rfl⟩: ∃c:Array Value,c=cur:=⟨_,rfl⟩;have hbz:=hbw;have hgz:=hgo;have hcz:=hcF;clear hgo hcF hFj hbw z1'
   all_goals
    clear hUL;go_loopw [79] (fun i wr=> ∃(k:Nat) (cu:Array Value) (F P:Nat->Nat) (U:Nat->Array Value),i= .int .i64 k/\k<=xs.length/\Qa (wr.heap[go]? =some (.cells cu 22 (0,0))/\(∀j,j<xs.length->cu[j]? =some (slV F P j))/\(∀j,j<xs.length->(wr.heap[F j]? =some (.cells (U j) 3 (0,0))/\F j≠go)/\BL (U j) (if j<k then spJ ⟨xs,mid⟩ ws j else Y2 ⟨xs,mid⟩ ws j)/\128<=P j))/\Qa (Kp go none Wz wr)) (fun i _=>xs.length-(intOf i).toNat)
    case atStart=>exact⟨0,curz,Fz,Pz,Uz,rfl,by omega,⟨hgz.out.1,hcz.out,fun j hj=>by rw[if_neg (by omega)];exact hFz.out j hj⟩,⟨Kp.refl _ _ _⟩⟩
    case round=>
     obtain⟨k,cu,F,P,U,rfl,hk,hI,hK⟩:=hrel;have hbr:=hbz.out.trans (hK.out.below (B:=w2.heap.size) hgz.out.2 (fun k e=>by cases e) hbz.out.size);by_cases hlt:k<xs.length
     ·obtain⟨i1,i2,i3⟩:=hI.out
      obtain⟨-,⟨f1,f2⟩,-⟩:=HF.out k hlt;obtain⟨⟨hfk,-⟩,hbk,-⟩:=i3 k hlt;rw[if_neg (by omega)] at hbk;have hzl:=midJ_len ⟨xs,mid⟩ ws k;have hyk:=hY.out k;rw[f1,f2] at hyk;obtain⟨Z,hZE⟩: ∃Z,Z=Y2 ⟨xs,mid⟩ ws k:=⟨_,rfl⟩;rw[<-hZE] at hbk hzl hyk;have hck:=i2 k hlt;have HSc:=Qa.mk (fun(W:World) (hb:Below wr.heap.size wr W)=>R9 A1 (some ⟨F k,0,none⟩) c1 (P k) X0.sh X0.gr Z W (HG2.out W (bnx hbr hb)) HDv.out (Kd.Qf (BL_C hfk hbk (by omega)) hb) hzl);rw[hzl,<-hyk] at HSc;have sg:wr.cell? ⟨go,k,none⟩=some (slV F P k):=(by rw[Qb i1];exact hck);obtain⟨-,-,y0,y1⟩:=HZ.out;replace y0:=cnx y0 hbr;replace y1:=cnx y1 hbr;have hkI:(k:Int)<(xs.length:Int):=(by omega);have hT:=Qa.mk hlt;clear hfk hbk hzl hyk hZE f1 f2 hbr hlt hk;go_wp2_with fail;refine(HSc.out _ (Below.refl _ _)).mono ?_;rintro en W10 ⟨gs,rfl,hgs,hgs2,hb10⟩;have hG10:=Qv i1 hb10;have fz:=Qj hG10 k;have zk:=cnx sg hb10;have hcu:k<cu.size:=(Array.getElem?_eq_some_iff.1 hck).1;have hG11:=Q9 hG10 k (sV gs);have hgsl:gs≠go:=by have:=Qr i1;omega
      have hIn:Qa ((W10.setCell ⟨go,k,none⟩ (sV gs)).heap[go]? =some (.cells (cu.setIfInBounds k (sV gs)) 22 (0,0))/\(∀j,j<xs.length->(cu.setIfInBounds k (sV gs))[j]? =some (slV (fun j=>if j=k then gs else F j) (fun j=>if j=k then 128 else P j) j))/\(∀j,j<xs.length->((W10.setCell ⟨go,k,none⟩ (sV gs)).heap[if j=k then gs else F j]? =some (.cells (if j=k then((spJ ⟨xs,mid⟩ ws j).map (Value.int .i64)).toArray else U j) 3 (0,0))/\(if j=k then gs else F j)≠go)/\BL (if j=k then((spJ ⟨xs,mid⟩ ws j).map (Value.int .i64)).toArray else U j) (if j<k+1 then spJ ⟨xs,mid⟩ ws j else Y2 ⟨xs,mid⟩ ws j)/\128<=(if j=k then 128 else P j))):=⟨hG11,fun j hj=>by
       by_cases e:j=k
       ·subst e;rw[Array.getElem?_setIfInBounds,if_pos rfl,if_pos hcu];dsimp only[slV];rw[if_pos rfl,if_pos rfl]
       ·rw[Array.getElem?_setIfInBounds,if_neg (Ne.symm e)];dsimp only[slV];rw[if_neg e,if_neg e];exact i2 j hj,fun j hj=>by
       by_cases e:j=k
       ·subst e
        rw[if_pos rfl,if_pos rfl,if_pos rfl,if_pos (by omega)];exact⟨⟨X4 hgs (p:=⟨go,j,none⟩) hgsl _,hgsl⟩,BL_map _,Nat.le_refl _⟩
       ·obtain⟨⟨p1,p2⟩,p3,p4⟩:=i3 j hj
        rw[if_neg e,if_neg e,if_neg e];refine⟨⟨X4 (Qv p1 hb10) (p:=⟨go,k,none⟩) p2 _,p2⟩,?_,p4⟩;by_cases e2:j<k
        ·rw[if_pos e2] at p3;rw[if_pos (by omega)];exact p3
        ·rw[if_neg e2] at p3;rw[if_neg (by omega)];exact p3⟩
      have hKn:=Qa.mk ((hK.out.Zk (hb10.mono hK.out.size)).Dj k (sV gs));clear hG11 hG10 hgs hgs2 hb10 sg y0 y1 i1 i2 i3 HSc hck hcu hgsl hI hK;go_wp2_with fail;go_roundw
      case rel=>exact⟨k+1,_,fun j=>if j=k then gs else F j,fun j=>if j=k then 128 else P j,fun j=>if j=k then((spJ ⟨xs,mid⟩ ws j).map (Value.int .i64)).toArray else U j,by go_num,hT.out,hIn,hKn⟩
      case measure=>have:=hT.out;simp[intOf];omega
     ·obtain rfl:k=xs.length:=by omega
      obtain⟨i1,i2,i3⟩:=hI.out;have hfin:=Qa.mk (And.intro (KL_of (Y:=spJ ⟨xs,mid⟩ ws) i1 i2 (fun j hj=>⟨(i3 j hj).1.1,by have:=(i3 j hj).2.1;rwa [if_pos hj] at this⟩) (fun j hj=>(i3 j hj).2.2) (fun j=>Bd.Jl _ _ _ 128) (by have:=HN.out.2;omega)) (bnx hb02.out hbr));rw[<-hSL.out] at hfin;clear i1 i2 i3 hI hK hlt hk hbr;go_wp2_with fail;go_ret;exact⟨_,_,rfl,hfin.out.1,hfin.out.2⟩
end Rs

end Go.Proofs.YtnflnicdjioflaaGreatDoor
