/- A part of the proof. -/
import Derived.Test.YtnflnicdjioflaaGreatDoorSxat
import Derived.BigRegionIn
set_option linter.unusedVariables false
set_option linter.unusedSimpArgs false
set_option maxRecDepth 100000
set_option maxHeartbeats 8000000
namespace Go.Proofs.YtnflnicdjioflaaGreatDoor
open Go.RowKit Go.Proofs.YtnflnicdjioflaaGreatDoorW.PrintWords Go.Proofs.YtnflnicdjioflaaGreatDoorW.PrintLast Go.Proofs.YtnflnicdjioflaaGreatDoorW.PrintMore
namespace Bk
attribute [local go_sem] Qh Qi Qk Ql Qd Qe
open Q15
open Runs Go.Shelf
open Q16 (Q6 Za Yc)
open Bts (Rws Row Blk Kp Wr WrP Yi)
attribute [local go_sem] Oper.semAt_some
def Td (B1 B2:Nat) (A B:World):Prop:=B.heap[B1]? =A.heap[B1]? /\B.heap[B2]? =A.heap[B2]?
theorem Td.trans {B1 B2:Nat} {A B C:World} (h:Td B1 B2 A B) (k:Td B1 B2 B C):Td B1 B2 A C:=⟨k.1.trans h.1,k.2.trans h.2⟩
theorem Td.putObj {B1 B2 N:Nat} (h1:B1<N) (h2:B2<N) (W:World) (l:Nat) (o o':Obj) (hl:N<=l) (ho:W.heap[l]? =some o) (hc:o.isCells=false) (hw:o.isWalk=false):Td B1 B2 W (W.putObj l o'):=
 ⟨World.putObj_heap_other (by omega),World.putObj_heap_other (by omega)⟩
theorem Mm (F:Fence) (n:Nat) (hF:F.fn 221) (hro:F.round=none) (hn:1<=n) (B1 B2:Nat) (A:Option Addr) (cap len d:Nat) (hd:1<=d/\d<=4) (hl:len<=1000000) (hcap:len<=cap) (hA:0<len-> ∃ad,A=some ad) (w:World)
  (c1:w.cell? ⟨B1,0,none⟩=some (.int .i64 d)) (c2:w.cell? ⟨B2,0,none⟩=some (.slice A len cap)):
  Yd F n Tryz.prog 221 #[.pointer (some ⟨B1,0,none⟩),.pointer (some ⟨B2,0,none⟩)] (fun k=> #[gSl A (k*d) d]) (Td B1 B2) (len/d) w:=fun L J W hW hY h0 hJd=>by
 clear hJd;have d1:=cnx c1 hW;have d2:=cnx c2 hW;have HY:=Qa.mk hY;have HA:=Qa.mk hA;have hlI:(len:Int)<=1000000:=(by omega);have hcI:(len:Int)<=(cap:Int):=(by omega);have hdI:1<=(d:Int)/\(d:Int)<=4:=by omega
 have hDV:Qa (∀k p:Nat,p=k*d->(p+d<=len->k<len/d)/\(p<=len-> ¬p+d<=len->k=len/d)):=⟨fun k p hp=>by
  subst hp;refine⟨fun h=> ?_,fun h1 h2=> ?_⟩
  ·have:k+1<=len/d:=(Nat.le_div_iff_mul_le (by omega)).2 (by rw[Nat.add_mul];omega)
   omega
  ·refine Nat.le_antisymm ((Nat.le_div_iff_mul_le (by omega)).2 h1) ?_
   have h3:len/d<k+1:=(Nat.div_lt_iff_lt_mul (by omega)).2 (by rw[Nat.add_mul];omega)
   omega⟩
 clear hY c1 c2 hl hA;refine callsIn_of_wp Tryz.func221 rfl hF ?_ hro;simp only[Tryz.ntmps221,List.size_toArray,List.length_cons,List.length_nil,Nat.reduceAdd,Nat.reduceSub,Array.replicate_succ,Array.replicate_zero,List.push_toArray,List.append_toArray,List.nil_append,List.cons_append];gi_wp2;gi_loopw [4] (fun i wr=> ∃k p:Nat,i= .int .i64 p/\p<=len/\Qa (p=k*d)/\wr.cell? ⟨B1,0,none⟩=some (.int .i64 d)/\wr.cell? ⟨B2,0,none⟩=some (.slice A len cap)/\Qa (J k wr)) (fun i _=>len-(intOf i).toNat)
 case atStart=>exact⟨0,0,rfl,by omega,⟨by omega⟩,d1,d2,⟨h0⟩⟩
 case round=>
  obtain⟨k,p,rfl,hp,hpk,e1,e2,hJ⟩:=hrel;clear d1 d2;have hpI:(p:Int)<=1000000:=(by omega);by_cases hlt:p+d<=len
  ·have hltI:(p:Int)+(d:Int)<=(len:Int):=by omega
   obtain⟨ad,rfl⟩:=HA.out (by omega);obtain⟨fn,tmps,assign,body,hy,hR⟩:=HY.out k wr ((hDV.out k p hpk.out).1 hlt) hJ.out;rw[<-hpk.out] at hy;have hT:=Qa.mk hlt;have hR2:=Qa.mk hR;simp only[gSl] at hy;clear hR hlt hp;gi_wp2;refine hR2.out.mono ?_;rintro e W3 ⟨rfl,hJ3,hk3⟩;have b1:=(Q6 hk3.1).trans e1;have b2:=(Q6 hk3.2).trans e2;replace hJ3:=Qa.mk hJ3;have hq9:Qa (p+d=(k+1)*d):=⟨by rw[hpk.out,Nat.add_mul];omega⟩;clear hR2 e1 e2 hk3 hy;gi_wp2;go_roundw
   case rel=>exact⟨k+1,p+d,by go_num,hT.out,hq9,b1,b2,hJ3⟩
   case measure=>have:=hT.out;simp[intOf];omega
  ·have hnl: ¬(p:Int)+(d:Int)<=(len:Int):=by omega
   have hK:=Qa.mk ((hDV.out k p hpk.out).2 hp hlt);clear hlt;gi_wp2;go_end0;refine⟨⟨_,rfl⟩,?_⟩;rw[<-hK.out];exact hJ.out
def Ps (p:Nat) (q:Option Nat) (W:World) (bs:List Blk):Prop:= ∀b∈bs,W.heap[b.g]? =some (.cells b.cs b.t (0,0))/\b.g≠p/\some b.g≠q
theorem q_ne {q q':Option Nat} {W:World} {g:Nat} (hq:q'=q\/ ∃g,q'=some g/\W.heap.size<=g) (hg:g<W.heap.size) (h:some g≠q):some g≠q':=by
 rcases hq with e|⟨z,e,hz⟩
 ·rw[e];exact h
 ·rw[e]
  intro h2;have:=Option.some.inj h2;omega
theorem Ps.kp {p:Nat} {q q':Option Nat} {W W':World} {bs:List Blk} (h:Ps p q W bs) (hk:Kp p q W W') (hq:q'=q\/ ∃g,q'=some g/\W.heap.size<=g):Ps p q' W' bs:=fun b hb=>by
 obtain⟨h1,h2,h3⟩:=h b hb;exact⟨hk.blk h1 h2 h3,h2,q_ne hq (Array.getElem?_eq_some_iff.1 h1).1 h3⟩
def Y1 (p:Nat) (q:Option Nat) (W:World) (A:Option Addr) (n:Nat) (xs:List Int):Prop:=(Kd.int .i64).C W A n xs/\ ∀ad,A=some ad->0<n->ad.block≠p/\some ad.block≠q
theorem Y1.kp {p:Nat} {q q':Option Nat} {W W':World} {A:Option Addr} {n:Nat} {xs:List Int} (h:Y1 p q W A n xs) (hk:Kp p q W W') (hq:q'=q\/ ∃g,q'=some g/\W.heap.size<=g):Y1 p q' W' A n xs:=by
 obtain⟨h1,h2⟩:=h;have h3:=Kd.Xm (enc:=Value.int .i64) (h1:=fun _=>rfl) (d:=(0:Int)) h1;obtain⟨r1,r2,r3⟩:=h3;refine⟨Kd.Zu (d:=(0:Int)) ⟨r1,r2,fun h0=> ?_⟩,fun ad e h0=> ?_⟩
 ·obtain⟨ad,e,hc⟩:=r3 h0
  obtain⟨g1,g2⟩:=h2 ad e h0;exact⟨ad,e,fun j hj=>hk.cell (hc j hj) (by rw[add_block];exact g1) (by rw[add_block];exact g2)⟩
 ·obtain⟨g1,g2⟩:=h2 ad e h0
  obtain⟨ad',e',hc⟩:=r3 h0;rw[e] at e';cases e';have:=World.block_lt_of_cell? _ _ (hc 0 h0);rw[add_block] at this;exact⟨g1,q_ne hq this g2⟩
theorem Y1.step {p:Nat} {q:Option Nat} {W W':World} {A:Option Addr} {n:Nat} {xs:List Int} (h:Y1 p q W A n xs) (hb:Below W.heap.size W W'):Y1 p q W' A n xs:=⟨Kd.Qf h.1 hb,h.2⟩
theorem Ps.step {p:Nat} {q:Option Nat} {W W':World} {bs:List Blk} (h:Ps p q W bs) (hb:Below W.heap.size W W'):Ps p q W' bs:=h.kp (Kp.of_below hb p q) (.inl rfl)
theorem WrP.step {base p:Nat} {q:Option Nat} {L:List Int} {W W1 W2:World} (h:WrP base p q L W W1) (hb:Below W1.heap.size W1 W2):WrP base p q L W W2:=by
 obtain⟨q1,h1,h2,h3⟩:=h;exact⟨q1,h1.step hb,h2,h3.Zk (hb.mono h3.size)⟩
theorem ownB_of {base p:Nat} {q:Option Nat} {L:List Int} {w W:World} {bs:List Blk} (hw:Wr w base p q L) (h: ∀b∈bs,W.heap[b.g]? =some (.cells b.cs b.t (0,0))/\w.heap.size<=b.g):Ps p q W bs:=fun b hb=>by
 obtain⟨h1,h2⟩:=h b hb;exact⟨h1,by have:=Bts.Wr.plt hw;omega,fun e=>by have:=(Bts.Wr.Ni hw _ e.symm).2;omega⟩
theorem Ef {base p:Nat} {q:Option Nat} {L:List Int} {w W:World} {A:Option Addr} {n:Nat} {xs:List Int} (hw:Wr w base p q L) (h:(Kd.int .i64).C W A n xs) (hA: ∀ad,A=some ad->w.heap.size<=ad.block):Y1 p q W A n xs:=
 ⟨h,fun ad e _=>⟨by have:=Bts.Wr.plt hw;have:=hA ad e;omega,fun e2=>by have:=(Bts.Wr.Ni hw _ e2.symm).2;have:=hA ad e;omega⟩⟩
theorem WrP.turn {base p:Nat} {q:Option Nat} {L:List Int} {w W W1:World} {row:Option Nat} (h:WrP base p q L w W) (hg:W.grownBy W1 row) (hr: ∀r,row=some r->w.heap.size<=r/\ ∃o:Obj,W.heap[r]? =some o/\o.isCells=false):WrP base p q L w W1:=by
 obtain⟨q',e0,e1,e2⟩:=h;exact⟨q',e0.turn hg (fun r e=>(hr r e).2),e1,e2.grown hg (fun r e=>(hr r e).1)⟩
theorem WrP.next {base p:Nat} {q q1:Option Nat} {L:List Int} {W W1 W2:World} (hq:q1=q\/ ∃g,q1=some g/\W.heap.size<=g) (hk:Kp p q W W1) (h2:WrP base p q1 L W1 W2):WrP base p q L W W2:=Bts.WrP.trans hk hq h2
theorem G9 {base p:Nat} {q:Option Nat} {L:List Int} {v n:Nat} {w:World} (hw:Wr w base p q L) (hn:n<=32) (hv:v<2^n) (hr:L.length+n<=1048576):
  Calls Tryz.prog 84 #[.pointer (some ⟨p,0,none⟩),.int .i64 v,.int .i64 n] w fun e w'=> ∃E:Int,e= .returned (.int .i64 E)/\WrP base p q (L++Bts.Yj v n) w w':=
 (Bts.Qdl base p q L v n w hw hn hv).mono fun e w' ⟨he,h⟩=>⟨_,he,by
  have e2:Bts.Ka L (Bts.Yj v n)=L++Bts.Yj v n:=by unfold Bts.Ka;rw[if_neg (by rw[Bts.Yf];omega)]
  rw[<-e2];exact h⟩
theorem Qba {base p:Nat} {q:Option Nat} {L:List Int} {v:Nat} {w:World} (hw:Wr w base p q L) (h0:1<=v) (h1:v<2097152) (hr:(L.length:Int)+Xb v<=1048576):
  Calls Tryz.prog 148 #[.pointer (some ⟨p,0,none⟩),.int .i64 v] w fun e w'=> ∃E:Int,e= .returned (.int .i64 E)/\WrP base p q (L++Bts.Bn v) w w':=
 (Bts.Oo base p q L v w hw h0 h1).mono fun e w' ⟨he,h⟩=>⟨_,he,by
  have e2:Bts.Ka L (Bts.Bn v)=L++Bts.Bn v:=by
   unfold Bts.Ka;rw[if_neg];rw[Bts.Rh];unfold Xb at hr;rw[Int.toNat_natCast] at hr;omega
  rw[<-e2];exact h⟩
theorem Qd6 (v:Nat):((Bts.Bn v).length :Int)=Xb v:=by
 rw[Bts.Rh];unfold Xb;rw[Int.toNat_natCast]
 push_cast
 rfl
theorem Ia {k:Nat} (hk:k<8) {l:List Int} (h:Yk l=true) {i j:Nat} (hij:i<=j):Zb k l i<=Zb k l j:=by
 induction j with
 |zero=>
      obtain rfl:i=0:=(by omega);exact Int.le_refl _
 |succ j ih=>
  by_cases e:i=j+1
  ·rw[e];exact Int.le_refl _
  ·have h1:=ih (by omega)
   have h2:=Rf hk (g:=Kg (Jb k) l j) (by unfold Kg;rw[List.length_take];have:=Uu k;omega) (Pb h);simp only[Zb];omega
theorem sum_mono {f:Int->Int} {g:List Int} (h: ∀x∈g,0<=f x) {i j:Nat} (hij:i<=j):((g.take i).map f).sum <=((g.take j).map f).sum :=by
 induction g generalizing i j with
 |nil=>simp
 |cons x g ih=>
  cases j with
  |zero=>
       obtain rfl:i=0:=(by omega);exact Int.le_refl _
  |succ j=>
   cases i with
   |zero=>
    have h1:=ih (fun y hy=>h y (by simp[hy])) (i:=0) (j:=j) (by omega);have h2:=h x (by simp);simp only[List.take_zero,List.map_nil,List.sum_nil,List.take_succ_cons,List.map_cons,List.sum_cons] at h1 ⊢;omega
   |succ i=>
    have h1:=ih (fun y hy=>h y (by simp[hy])) (i:=i) (j:=j) (by omega);simp only[List.take_succ_cons,List.map_cons,List.sum_cons];omega
theorem far_grp {p:Nat} {q:Option Nat} {W:World} {ad:Addr} {l:List Int} {d j:Nat} (hd:1<=d) (h:Y1 p q W (some ad) l.length l) (hj:j*d+d<=l.length):Y1 p q W (some (ad.add (j*d))) (Kg d l j).length (Kg d l j):=
 ⟨grp_C hd h.1 hj,fun a e _=>by
  injection e with e
  rw[<-e,add_block]
  exact h.2 ad rfl (by omega)⟩
theorem Qdi (k:Nat) (hk:k<8) (A:Option Addr) (cap:Nat) (w:World) (hr:(Kd.int .i64).C w A (Y8 k).length (Y8 k)):
  Calls Tryz.prog 151 #[.slice A (Y8 k).length cap] w fun e w'=> ∃(A':Option Addr) (n c:Nat) (E:Int),e= .returned (.tuple #[.slice A' n c,.int .i64 E])/\(0<k->n=(Y8 k).length /\(Kd.int .i64).C w' A' n (Pre.Ji (Y8 k))/\ ∀ad,A'=some ad->w.heap.size<=ad.block)/\Below w.heap.size w w':=by
 have hl:(Y8 k).length <=1000000:=by
  rw[L8];have: ∀k,k<8->(Vh k).length <=256:=(by decide+kernel);have:=this k hk;omega
 by_cases h0:0<k
 ·refine(Pre.Le A cap (Y8 k) w hr (lens_pre k hk h0)).mono ?_
  rintro e w' ⟨v,rfl,hR,hb⟩;have hbd:=(Kd.Zd hR).1;obtain⟨A',c,rfl,_,hC⟩:=Kd.Qs hR;rw[Pre.Ut] at hC;exact⟨A',_,c,0,rfl,fun _=>⟨Pre.Ut _,by rw[Pre.Ut];exact hC,fun ad e=>by subst e;exact(hbd ad.block rfl).2.1⟩,hb⟩
 ·obtain rfl:k=0:=by omega
  refine(Pre.Codes_no A cap (Y8 0) w hr hl Qec).mono ?_;rintro e w' ⟨rfl,hb⟩;exact⟨none,0,0,_,rfl,fun h=>absurd h (by omega),hb⟩
end Bk

namespace Sec
attribute [local go_sem] Qh Qi Qk Ql Qd Qe
open Q15
open Bk
structure Ok (ws l:List Int):Prop where
 wid: ∀x∈ws,1<=x/\x<=128
 len:ws.length<=128
 sum:ws.sum=l.length
 vals:Yk l=true
theorem Vr {ws:List Int} (h: ∀x∈ws,1<=x/\x<=128):ws.length<=ws.sum/\ws.sum<=128*ws.length:=by
 induction ws with
 |nil=>simp
 |cons x ws ih=>
  have h1:=h x (by simp);have h2:=ih (fun y hy=>h y (by simp[hy]));simp only[List.sum_cons,List.length_cons]
  push_cast
  omega
theorem Qar (A:Option Addr) (cap:Nat) (ws l:List Int) (w:World) (hr:(Kd.int .i64).C w A ws.length ws) (hok:Ok ws l):
  Calls Tryz.prog 185 #[.slice A ws.length cap] w fun e w'=>e= .returned (.tuple #[.int .i64 l.length,.bool true])/\Below w.heap.size w w':=by
 have HR:=Qa.mk hr;have hlI:(ws.length:Int)<=128:=(by have:=hok.len;omega);have HW:Qa (∀k,k<ws.length->1<=rd ws k/\rd ws k<=128):=⟨fun k hk=>hok.wid _ (Qp ws k hk)⟩
 have HB:Qa (∀k,0<=(ws.take k).sum /\(ws.take k).sum <=16384):=⟨fun k=>by
  have h:=Vr (ws:=ws.take k) (fun x hx=>hok.wid x (List.mem_of_mem_take hx));have h2:(ws.take k).length <=ws.length:=(by rw[List.length_take];omega);have:=hok.len
  omega⟩
 have HE:=Qa.mk hok.sum;obtain⟨N,hN⟩: ∃N:Int,N=l.length:=⟨_,rfl⟩;rw[<-hN] at HE ⊢;clear hr hok hN;go_enter Tryz.func185,Tryz.ntmps185;go_wp2;go_loopw [4,9] (fun s i wr=> ∃(k:Nat) (z:Int),s= .int .i64 z/\i= .int .i64 k/\k<=ws.length/\Qa (z=(ws.take k).sum)/\Below w.heap.size w wr) (fun _ i _=>ws.length-(intOf i).toNat)
 case atStart=>exact⟨0,0,rfl,rfl,by omega,⟨by simp⟩,Below.refl _ _⟩
 case round=>
  obtain⟨k,z,rfl,rfl,hk,hz,hb⟩:=hrel;by_cases hlt:k<ws.length
  ·obtain⟨ad,rfl,hcell⟩:=Qn HR.out hb hlt
   have hkI:(k:Int)<(ws.length:Int):=(by omega);have hx9:=HW.out k hlt;have h1:=HB.out k;rw[<-hz.out] at h1;have hT:Qa ((ws.take (k+1)).sum =z+rd ws k):=⟨by rw[Qu ws k hlt,List.sum_append,hz.out];simp⟩;obtain⟨x,hx⟩: ∃x,x=rd ws k:=⟨_,rfl⟩;rw[<-hx] at hcell hx9 hT;have t1:decide (x<1)=false:=decide_eq_false (by omega);have t2:decide (128<x)=false:=decide_eq_false (by omega);clear hx;go_wp2;go_roundw
   case rel=>exact⟨k+1,z+x,by go_num,by go_num,by omega,⟨by rw[hT.out]⟩,hb⟩
   case measure=>simp[intOf];omega
  ·obtain rfl:k=ws.length:=by omega
   have hz2:=hz.out;rw[List.take_length,HE.out] at hz2;have hzN:=Qa.mk hz2;clear hz hz2;go_wp2;go_ret2;exact⟨by rw[hzN.out];rfl,hb⟩
theorem Di (A B:Option Addr) (c1 c2:Nat) (ws l:List Int) (w:World) (hL:Xn w) (hr:(Kd.int .i64).C w A ws.length ws) (hr2:(Kd.int .i64).C w B l.length l) (hok:Ok ws l):
  Calls Tryz.prog 140 #[.slice A ws.length c1,.slice B l.length c2] w fun e w'=>e= .returned (.int .i64 0)/\Below w.heap.size w w':=by
 have hb:=Below.refl w.heap.size w;have HR:=Qa.mk (Qar A c1 ws l w hr hok);have hl9:l.length<=1000000:=(by have:=Vr hok.wid;have:=hok.len;have:=hok.sum;omega);have HF:=Qa.mk (fun(W:World) (hb:Below w.heap.size w W)=>Fits_yes 0 (by omega) B c2 l W (hL.below hb) (Kd.Qf hr2 hb) hl9 hok.vals);obtain⟨F,hF⟩: ∃F,F=Ke 0 l:=⟨_,rfl⟩;rw[<-hF] at HF;clear hr hr2 hok hF hL hl9;go_enter Tryz.func140,Tryz.ntmps140;go_wp2_with (first|(go_at_call 185;refine(HR.out).mono ?_;rintro e w' ⟨rfl,hbn⟩;replace hb:=bnx hb hbn;clear hbn)|(go_at_call 186;refine((HF.out _ hb)).mono ?_;rintro e w' ⟨rfl,hbn⟩;replace hb:=bnx hb hbn;clear hbn));go_ret;exact⟨rfl,hb⟩
theorem Ns (v:Int) (w:World) (h0: -1000000<=v) (h1:v<=1000000):
  Calls Tryz.prog 142 #[.int .i64 v] w fun e w'=>e= .returned (.int .i64 (Xb v))/\Below w.heap.size w w':=by
 have hb:=Below.refl w.heap.size w;obtain⟨G,hG⟩: ∃G,G=Xb v:=⟨_,rfl⟩;rw[<-hG];replace hG:=Qa.mk hG;go_enter Tryz.func142,Tryz.ntmps142;go_wp2;go_loopw [0,3] (fun x o wr=> ∃u n:Int,x= .int .i64 u/\o= .int .i64 n/\ -1000000<=u/\u<=1000000/\1<=n/\n+2*u<=2000100/\n<=2000100/\Qa (G+1=n+Xb u)/\Below w.heap.size w wr) (fun x _ _=>(intOf x).toNat)
 case atStart=>exact⟨v,1,rfl,rfl,h0,h1,by omega,by omega,by omega,⟨by rw[hG.out];omega⟩,hb⟩
 case round=>
  obtain⟨u,n,rfl,rfl,hu0,hu1,hn0,hnu,hn1,hg,hb⟩:=hrel;by_cases h2:1<u
  ·have hs:=Qa.mk (Lu h2)
   have hd:Int.tdiv u 2=u/2:=Int.tdiv_eq_ediv_of_nonneg (by omega);obtain⟨q,hq⟩: ∃q,q=u/2:=⟨_,rfl⟩;rw[<-hq] at hs hd;have hq1:1<=q/\q+1<=u:=(by omega);clear hq;go_wp2;go_roundw
   case rel=>exact⟨q,n+2,by go_num,by go_num,by omega,by omega,by omega,by omega,by omega,⟨by have:=hg.out;have:=hs.out;omega⟩,hb⟩
   case measure=>simp[intOf];omega
  ·have hs:=Qa.mk (Im (v:=u) (by omega))
   have hr:Qa (n=G):=⟨by have:=hg.out;have:=hs.out;omega⟩;go_wp2;go_ret;exact⟨by rw[<-hr.out];rfl,hb⟩
end Sec

namespace Sec
attribute [local go_sem] Qh Qi Qk Ql Qd Qe
open Q15
open Runs Go.Shelf
open Q16 (Q6 Za Yc)
open Bk
attribute [local go_sem] Oper.semAt_some
def Qz (gs:List Nat) (A B:World):Prop:= ∀g∈gs,B.heap[g]? =A.heap[g]?
theorem Qz.refl (gs:List Nat) (A:World):Qz gs A A:=fun _ _=>rfl
theorem Qz.trans {gs:List Nat} {A B C:World} (h:Qz gs A B) (k:Qz gs B C):Qz gs A C:=fun g hg=>(k g hg).trans (h g hg)
theorem Qz.putObj {gs:List Nat} {N:Nat} (h1: ∀g∈gs,g<N) (W:World) (l:Nat) (o o':Obj) (hl:N<=l) (ho:W.heap[l]? =some o) (hc:o.isCells=false) (hw:o.isWalk=false):Qz gs W (W.putObj l o'):=
 fun g hg=>World.putObj_heap_other (by have:=h1 g hg;omega)
theorem Dq {A B:World} {a:Addr} {v:Value} (h:B.heap[a.block]? =A.heap[a.block]?) (hc:A.cell? a=some v):B.cell? a=some v:=by
 simpa[World.cell?,h] using hc
def Zy:Option Addr->List Nat
 |some a=>[a.block]
 |none=>[]
theorem V4 {A B:World} {ad:Option Addr} {n:Nat} {xs:List Int} (h:(Kd.int .i64).C A ad n xs) (hk: ∀g∈Zy ad,B.heap[g]? =A.heap[g]?):(Kd.int .i64).C B ad n xs:=by
 obtain⟨r1,r2,r3⟩:=Kd.Xm (enc:=Value.int .i64) (h1:=fun _=>rfl) (d:=(0:Int)) h;refine Kd.Zu (d:=(0:Int)) ⟨r1,r2,fun h0=> ?_⟩;obtain⟨a,rfl,hc⟩:=r3 h0;exact⟨a,rfl,fun j hj=>Dq (by rw[add_block];exact hk _ (by simp[Zy])) (hc j hj)⟩
def V8 (ws:List Int) (k:Nat):Nat:=(ws.take k).sum.toNat
theorem Ca {ws:List Int} (h: ∀x∈ws,1<=x/\x<=128) {k:Nat} (hk:k<ws.length):((V8 ws (k+1):Nat):Int)=V8 ws k+rd ws k/\V8 ws (k+1)<=ws.sum.toNat:=by
 have h1:=Vr (ws:=ws.take k) (fun x hx=>h x (List.mem_of_mem_take hx));have h2:=h _ (Qp ws k hk);have h3:(ws.take (k+1)).sum =(ws.take k).sum +rd ws k:=(by rw[Qu ws k hk,List.sum_append];simp);have h4:ws.sum=(ws.take (k+1)).sum +(ws.drop (k+1)).sum :=(by rw[<-List.sum_append,List.take_append_drop]);have h5:=Vr (ws:=ws.drop (k+1)) (fun x hx=>h x (List.mem_of_mem_drop hx));unfold V8;omega
def O1 (B:Option Addr) (ws:List Int) (k:Nat):Value:= .agg #[.int .i64 k,gSl B (V8 ws k) (rd ws k).toNat]
theorem Kr (F:Fence) (n:Nat) (hF:F.fn 192) (hro:F.round=none) (hn:1<=n) (B1 B2:Nat) (A B:Option Addr) (ca cb:Nat) (ws l:List Int) (hok:Ok ws l) (hcap:l.length<=cb) (w:World) (hr:(Kd.int .i64).C w A ws.length ws) (hB:ws≠[]-> ∃bd,B=some bd)
  (c1:w.cell? ⟨B1,0,none⟩=some (.slice A ws.length ca)) (c2:w.cell? ⟨B2,0,none⟩=some (.slice B l.length cb)):
  Yd F n Tryz.prog 192 #[.pointer (some ⟨B1,0,none⟩),.pointer (some ⟨B2,0,none⟩)] (fun k=> #[O1 B ws k]) (Qz (B1::B2::Zy A)) ws.length w:=fun L J W hW hY h0 hJd=>by
 clear hJd;have d1:=cnx c1 hW;have d2:=cnx c2 hW;have HR:=Qa.mk (Kd.Qf hr hW);have HY:=Qa.mk hY;have HB:=Qa.mk hB
 have HO:Qa (∀k,k<ws.length->((V8 ws (k+1):Nat):Int)=V8 ws k+rd ws k/\V8 ws (k+1)<=l.length/\1<=rd ws k/\rd ws k<=128):=⟨fun k hk=>by
  have h1:=Ca hok.wid hk;have h2:=hok.wid _ (Qp ws k hk);have h3:=hok.sum
  exact⟨h1.1,by omega,h2.1,h2.2⟩⟩
 have hlI:(ws.length:Int)<=128:=(by have:=hok.len;omega);have hlL:(l.length:Int)<=16384:=(by have:=Vr hok.wid;have:=hok.len;have:=hok.sum;omega);have hcI:(l.length:Int)<=(cb:Int):=(by omega);have hlt0:Qa (∀k,k<ws.length->ws≠[]):=⟨fun k hk e=>by rw[e] at hk;simp at hk⟩;clear hY c1 c2 hr hB hok;refine callsIn_of_wp Tryz.func192 rfl hF ?_ hro;simp only[Tryz.ntmps192,List.size_toArray,List.length_cons,List.length_nil,Nat.reduceAdd,Nat.reduceSub,Array.replicate_succ,Array.replicate_zero,List.push_toArray,List.append_toArray,List.nil_append,List.cons_append];gi_wp2;gi_loopw [4,9] (fun x i wr=> ∃k p:Nat,i= .int .i64 k/\x= .int .i64 p/\k<=ws.length/\p<=l.length/\Qa (p=V8 ws k)/\wr.cell? ⟨B1,0,none⟩=some (.slice A ws.length ca)/\wr.cell? ⟨B2,0,none⟩=some (.slice B l.length cb)/\Qa ((Kd.int .i64).C wr A ws.length ws)/\Qa (J k wr)) (fun _ i _=>ws.length-(intOf i).toNat)
 case atStart=>exact⟨0,0,rfl,rfl,by omega,by omega,⟨by unfold V8;simp⟩,d1,d2,HR,⟨h0⟩⟩
 case round=>
  obtain⟨k,p,rfl,rfl,hk,hp,hpk,e1,e2,hC,hJ⟩:=hrel;clear d1 d2;have hpI:(p:Int)<=16384:=(by omega);by_cases hlt:k<ws.length
  ·have hkI:(k:Int)<(ws.length:Int):=by omega
   obtain⟨ad,rfl,hcell⟩:=Qn hC.out (Below.refl _ _) hlt;obtain⟨bd,rfl⟩:=HB.out (hlt0.out k hlt);obtain⟨o1,o2,o3,o4⟩:=HO.out k hlt;rw[<-hpk.out] at o1;obtain⟨fn,tmps,assign,body,hy,hR⟩:=HY.out k wr hlt hJ.out;simp only[O1,gSl] at hy;rw[<-hpk.out] at hy;obtain⟨d,hd⟩:=Int.eq_ofNat_of_zero_le (show 0<=rd ws k by omega);rw[hd] at hcell o1 o3 o4 hy;rw[Int.toNat_natCast] at hy;have hpd:Qa (V8 ws (k+1)=p+d):=⟨by omega⟩;have hle:(p:Int)+(d:Int)<=(l.length:Int):=(by omega);have hle2:=Qa.mk (show p+d<=l.length by omega);have hT:=Qa.mk hlt;have hR2:=Qa.mk hR;clear hR hlt hp o1 o2 hd;gi_wp2;refine hR2.out.mono ?_;rintro e W3 ⟨rfl,hJ3,hk3⟩;have b1:=(Q6 (hk3 B1 (by simp))).trans e1;have b2:=(Q6 (hk3 B2 (by simp))).trans e2;have hC3:=Qa.mk (V4 hC.out (fun g hg=>hk3 g (by simp[hg])));replace hJ3:=Qa.mk hJ3;clear hR2 e1 e2 hk3 hy;gi_wp2;go_roundw
   case rel=>exact⟨k+1,p+d,by go_num,by go_num,hT.out,hle2.out,⟨hpd.out.symm⟩,b1,b2,hC3,hJ3⟩
   case measure=>have:=hT.out;simp[intOf];omega
  ·obtain rfl:k=ws.length:=by omega
   gi_wp2;go_end0;exact⟨⟨_,rfl⟩,hJ.out⟩
theorem Kt (A B:Option Addr) (n c n2 c2:Nat) (w:World):
  Calls Tryz.prog 149 #[.slice A n c,.slice B n2 c2] w fun en w'=>en= .returned (.func (.func 192) #[] #[.pointer (some ⟨w.heap.size,0,none⟩),.pointer (some ⟨w.heap.size+1,0,none⟩)])/\w'=(w.alloc (.cells #[.slice A n c] 22)).alloc (.cells #[.slice B n2 c2] 22):=by
 go_enter Tryz.func149,Tryz.ntmps149;go_wp2;go_ret;exact⟨rfl,rfl⟩
end Sec

namespace Bd
attribute [local go_sem] Qh Qi Qk Ql Qd Qe
open Q15
open Runs Go.Shelf
open Q21
open Sec (Qz V4 Zy)
section
variable {F:Fence} {n:Nat} {P:Program} {md:Region.Mode} {ops:Array Oper} {Q:Exit->Act->World->Prop} {oi:Oper} {fuel:Nat} {listed l':Array Bool} {a a':Act} {w:World}
theorem tf (i:Nat) (v:Value) (hro:F.round=none) (h:wpAnyIn F n P md ops Q fuel l' a' w) (hi:ops[i]? =some oi:=by rfl)
  (hs:Region.noSelect ops=true:=by kernel_rfl) (hf:Region.free md ops listed i=true:=by kernel_rfl) (hr:(Region.ready md ops listed).contains i=true:=by kernel_rfl) (hQ: ∀c a w,Q (.panic c) (a.put oi.dst v) w->Q (.panic c) a w:=by exact fun _ _ _ h=>h)
  (hy:YieldsFenced P ops oi v a:=by exact⟨Or.inl ⟨by rfl,fun w=>by go_simp⟩,fun w=>by rfl⟩)
  (ha:a.put oi.dst v=a':=by(try simp only[Act.put,Tk.z1,Tk.z2,Tk.z3,Tk.z4,Tk.z5,Tk.z6]);(try rfl))
  (hl:listed.setIfInBounds i true=l':=by(try simp only[List.setIfInBounds_toArray,List.set_cons_zero,List.set_cons_succ]);(try rfl)):wpAnyIn F n P md ops Q (fuel+1) listed a w:=by
 subst ha hl;exact wpAnyIn_take hro hi hs hf hr hQ hy h
end
def frB (j:Nat):Nat:=[0,2,4,8,16].getD j 0
def wB (j:Nat):Nat:=[2,2,4,8].getD j 0
def posG (n F m:Nat):Nat:=
 if m<n*2 then(F+m/2)*16+m%2
 else if m<n*4 then(F+(m-n*2)/2)*16+2+(m-n*2)%2
 else if m<n*8 then(F+(m-n*4)/4)*16+4+(m-n*4)%4
 else(F+(m-n*8)/8)*16+8+(m-n*8)%8
def posS:List Int->Nat->Nat->Nat
 |[],_,_=>0
 |n::g,F,m=>if m<16*n.toNat then posG n.toNat F m else posS g (F+n.toNat) (m-16*n.toNat)
def Gp (sh:Bool) (g:List Int) (m:Nat):Nat:=if sh then posS g 0 m else m
def Vf (g:List Int) (k:Nat):Nat:=(g.take k).sum.toNat
theorem E9 {n F i j:Nat} (hj:j<4) (hi:i<n*wB j):posG n F (n*frB j+i)=(F+i/wB j)*16+frB j+i%wB j:=by
 unfold posG;have h4:j=0\/j=1\/j=2\/j=3:=(by omega);rcases h4 with rfl|rfl|rfl|rfl<;>simp only[wB,frB,List.getD_cons_zero,List.getD_cons_succ] at hi ⊢
 ·rw[if_pos (by omega)];simp
 ·rw[if_neg (by omega),if_pos (by omega)];simp
 ·rw[if_neg (by omega),if_neg (by omega),if_pos (by omega)];simp
 ·rw[if_neg (by omega),if_neg (by omega),if_neg (by omega)];simp
theorem Ph: ∀{g:List Int} (F:Nat) {k:Nat} (hk:k<g.length) (h1: ∀x∈g,1<=x) {m:Nat},m<16*(rd g k).toNat ->posS g F (16*Vf g k+m)=posG (rd g k).toNat (F+Vf g k) m
 |[],_,_,hk,_,_,_=>by simp at hk
 |n::g,F,0,_,h1,m,hm=>by
  have hr:rd (n::g) (0:Nat)=n:=rfl;rw[hr] at hm ⊢;unfold posS Vf;simp only[List.take_zero,List.sum_nil,Int.toNat_zero,Nat.mul_zero,Nat.zero_add,Nat.add_zero];rw[if_pos hm]
 |n::g,F,k+1,hk,h1,m,hm=>by
  have hr:rd (n::g) ((k+1:Nat):Int)=rd g k:=by
   unfold rd;simp
  have hn:=h1 n (by simp);have h2: ∀x∈g,1<=x:=fun x hx=>h1 x (by simp[hx])
  have hpos:=Q16.Vg (l:=g.take k) (fun x hx=>h2 x (List.mem_of_mem_take hx))
  have hs:Vf (n::g) (k+1)=n.toNat+Vf g k:=by
   unfold Vf;rw[List.take_succ_cons,List.sum_cons];omega
  rw[hr] at hm ⊢;rw[hs];unfold posS;rw[if_neg (by omega),show 16*(n.toNat+Vf g k)+m-16*n.toNat=16*Vf g k+m by omega,Ph (F+n.toNat) (by simpa using hk) h2 hm,Nat.add_assoc]
theorem Fu {g:List Int} (h1: ∀x∈g,1<=x/\x<=8) {k:Nat} (hk:k<g.length):Vf g (k+1)=Vf g k+(rd g k).toNat /\Vf g (k+1)<=g.sum.toNat:=by
 have h2: ∀x∈g,1<=x:=fun x hx=>(h1 x hx).1
 have hpos:=Q16.Vg (l:=g.take k) (fun x hx=>h2 x (List.mem_of_mem_take hx));have hd:=Q16.Vg (l:=g.drop (k+1)) (fun x hx=>h2 x (List.mem_of_mem_drop hx));have hr:=h2 _ (Qp g k hk);have h3:(g.take (k+1)).sum =(g.take k).sum +rd g k:=(by rw[Qu g k hk,List.sum_append];simp);have h4:g.sum=(g.take (k+1)).sum +(g.drop (k+1)).sum :=(by rw[<-List.sum_append,List.take_append_drop]);unfold Vf;omega
theorem Aa {sh:Bool} {g:List Int} (hd:Zc sh g=true): ∀m,m<128->Gp sh g m<128:=by
 intro m hm
 cases sh with
 |false=>exact hm
 |true=>
  obtain⟨-,h1,h3⟩:=Xr.1 hd
  have key: ∀(l:List Int) (F m:Nat),(∀x∈l,1<=x/\x<=8)->m<16*l.sum.toNat->F+l.sum.toNat<=8->posS l F m<128:=by
   intro l
   induction l with
   |nil=>intro F m _ h _;simp at h
   |cons n l ih=>
    intro F m h hm hF;have hn:=h n (by simp);have hp:=Q16.Vg (l:=l) (fun x hx=>(h x (by simp[hx])).1);rw[List.sum_cons] at hm hF;unfold posS
    split
    ·rename_i h2
     unfold posG
     split
     ·omega
     ·split
      ·omega
      ·split
       ·omega
       ·omega
    ·exact ih _ _ (fun x hx=>h x (by simp[hx])) (by omega) (by omega)
  exact key g 0 m h1 (by omega) (by omega)
theorem short4 {w:World} (h:(Kd.int .i64).C w (some ⟨1,0,none⟩) 4 Y9):w.cell? ⟨1,0,none⟩=some (.int .i64 2)/\w.cell? ⟨1,1,none⟩=some (.int .i64 2)/\w.cell? ⟨1,2,none⟩=some (.int .i64 4)/\w.cell? ⟨1,3,none⟩=some (.int .i64 8):=by
 have h2: ∀(k:Nat),k<4->w.cell? ((⟨1,0,none⟩:Addr).add k)=some (.int .i64 (rd Y9 k)):=fun k hk=>by
  obtain⟨ad,e,h3⟩:=Qn (w1:=w) (l:=Y9) h (Below.refl _ _) (k:=k) hk;cases e;exact h3
 exact⟨h2 0 (by decide),h2 1 (by decide),h2 2 (by decide),h2 3 (by decide)⟩
theorem Qad (F:Fence) (n:Nat) (hF:F.fn 176) (hro:F.round=none) (hn:1<=n) (B1 B2:Nat) (sh:Bool) (A:Option Addr) (ca:Nat) (gs:List Int) (hd:Zc sh gs=true) (w:World) (hL:Laid w) (hr:(Kd.int .i64).C w A gs.length gs)
  (c1:w.cell? ⟨B1,0,none⟩=some (.bool sh)) (c2:w.cell? ⟨B2,0,none⟩=some (.slice A gs.length ca)) (Ls:List Nat) (hLs:0<gs.length-> ∀g∈Zy A,g∈Ls):
  Yd F n Tryz.prog 176 #[.pointer (some ⟨B1,0,none⟩),.pointer (some ⟨B2,0,none⟩)] (fun m=> #[.int .i64 (Gp sh gs m:Nat)]) (Qz (1::Ls)) 128 w:=fun L J W hW hY h0 hJd=>by
 have d1:=cnx c1 hW;have d2:=cnx c2 hW;have HLs:=Qa.mk hLs;have HY:=Qa.mk hY;replace hJd:=Qa.mk hJd;have HL:=Qa.mk (hL.below hW);have HR:=Qa.mk (Kd.Qf hr hW);clear hY c1 c2 hr hL hLs
 cases sh with
 |false=>
  refine callsIn_of_wp Tryz.func176 rfl hF ?_ hro;simp only[Tryz.ntmps176,List.size_toArray,List.length_cons,List.length_nil,Nat.reduceAdd,Nat.reduceSub,Array.replicate_succ,Array.replicate_zero,List.push_toArray,List.append_toArray,List.nil_append,List.cons_append];gi_wp2;gi_loopw [14] (fun i wr=> ∃k:Nat,i= .int .i64 k/\k<=128/\Qa (J k wr)) (fun i _=>128-(intOf i).toNat)
  case atStart=>exact⟨0,rfl,by omega,⟨h0⟩⟩
  case round=>
   obtain⟨k,rfl,hk,hJ⟩:=hrel;clear d1 d2;by_cases hlt:k<128
   ·have hkI:(k:Int)<128:=by omega
    obtain⟨fn,tmps,assign,body,hy,hR⟩:=HY.out k wr hlt hJ.out;rw[show Gp false gs k=k from rfl] at hy;have hR2:=Qa.mk hR;have hT:=Qa.mk hlt;clear hR hlt hk;gi_wp2;refine hR2.out.mono ?_;rintro e W3 ⟨rfl,hJ3,hk3⟩;replace hJ3:=Qa.mk hJ3;clear hR2 hk3 hy;gi_wp2;go_roundw
    case rel=>exact⟨k+1,by go_num,hT.out,hJ3⟩
    case measure=>have:=hT.out;simp[intOf];omega
   ·obtain rfl:k=128:=by omega
    gi_wp2
    (try simp only[Exit.inBlock,Exit.then])
    refine bodyPost_ret (results_none rfl _ _ _) rfl ?_;exact⟨⟨_,rfl⟩,hJ.out⟩
 |true=>
  obtain⟨i1,i2,i3⟩:=Xr.1 hd;have hgI:(gs.length:Int)<=8:=(by omega);have hS:=Qa.mk (fun k (hk:k<gs.length)=>Fu i2 hk);have hP:=Qa.mk (fun k (hk:k<gs.length) m hm=>Ph (g:=gs) 0 hk (fun x hx=>(i2 x hx).1) (m:=m) hm);have hI:=Qa.mk (fun k (hk:k<gs.length)=>i2 _ (Qp gs k hk));replace i3:=Qa.mk i3;have hend:Qa (16*Vf gs gs.length=128):=⟨by unfold Vf;rw[List.take_length,i3.out];rfl⟩;have x0: ∀w,(Instr.index 172 (.agg #[.int .i64 2,.int .i64 2,.int .i64 4,.int .i64 8]) (.int .i64 0)).run Tryz.prog w= .ok (.int .i64 2) w:=fun _=>by kernel_rfl
  have x1: ∀w,(Instr.index 172 (.agg #[.int .i64 2,.int .i64 2,.int .i64 4,.int .i64 8]) (.int .i64 1)).run Tryz.prog w= .ok (.int .i64 2) w:=fun _=>by kernel_rfl
  have x2: ∀w,(Instr.index 172 (.agg #[.int .i64 2,.int .i64 2,.int .i64 4,.int .i64 8]) (.int .i64 2)).run Tryz.prog w= .ok (.int .i64 4) w:=fun _=>by kernel_rfl
  have x3: ∀w,(Instr.index 172 (.agg #[.int .i64 2,.int .i64 2,.int .i64 4,.int .i64 8]) (.int .i64 3)).run Tryz.prog w= .ok (.int .i64 8) w:=fun _=>by kernel_rfl
  have hX:Qa (∀j,j<4-> ∀w,(Instr.index 172 (.agg #[.int .i64 2,.int .i64 2,.int .i64 4,.int .i64 8]) (.int .i64 (j:Nat))).run Tryz.prog w= .ok (.int .i64 (wB j:Nat)) w):=⟨fun j hj=>by
   have h4:j=0\/j=1\/j=2\/j=3:=(by omega);rcases h4 with rfl|rfl|rfl|rfl
   ·exact fun w=>x0 w
   ·exact fun w=>x1 w
   ·exact fun w=>x2 w
   ·exact fun w=>x3 w⟩
  clear x0 x1 x2 x3 hd i1 i2;refine callsIn_of_wp Tryz.func176 rfl hF ?_ hro;simp only[Tryz.ntmps176,List.size_toArray,List.length_cons,List.length_nil,Nat.reduceAdd,Nat.reduceSub,Array.replicate_succ,Array.replicate_zero,List.push_toArray,List.append_toArray,List.nil_append,List.cons_append];gi_wp2;gi_loopw [5,24] (fun x i wr=> ∃k f:Nat,i= .int .i64 k/\x= .int .i64 f/\k<=gs.length/\f<=8/\Qa (f=Vf gs k)/\Qa ((Kd.int .i64).C wr A gs.length gs/\(Kd.int .i64).C wr (some ⟨1,0,none⟩) 4 Y9)/\Qa (J (16*Vf gs k) wr)) (fun _ i _=>gs.length-(intOf i).toNat)
  case atStart=>exact⟨0,0,rfl,rfl,by omega,by omega,⟨by simp[Vf]⟩,⟨HR.out,HL.out.shorts⟩,⟨by simpa[Vf] using h0⟩⟩
  case round=>
   obtain⟨k,f,rfl,rfl,hk,hf,hfk,hC,hJ⟩:=hrel;clear d1 d2;by_cases hlt:k<gs.length
   ·have hkI:(k:Int)<(gs.length:Int):=by omega
    obtain⟨ad,rfl,hcell⟩:=Qn hC.out.1 (Below.refl _ _) hlt;obtain⟨s0,s1,s2,s3⟩:=short4 hC.out.2;obtain⟨o1,o2⟩:=hS.out k hlt;have o3:=hI.out k hlt;have hPk:=Qa.mk (hP.out k hlt);rw[<-hfk.out] at hPk o1 hJ;obtain⟨d,hdE⟩: ∃d:Nat,(d:Int)=rd gs k:=⟨(rd gs k).toNat,by omega⟩;rw[<-hdE] at hcell o1 o3 hPk;rw[Int.toNat_natCast] at o1 hPk;have hfd:f+d<=8:=(by have:=i3.out;omega);have hT:=Qa.mk hlt;replace o1:=Qa.mk o1;clear hdE hlt hk o2;gi_wp2_with fail;obtain⟨wo,rfl⟩: ∃wo:World,wo=wr:=⟨_,rfl⟩;gi_loopw [8,29] (fun x i wr=> ∃j r:Nat,i= .int .i64 j/\x= .int .i64 r/\j<=4/\r<=16/\Qa (r=frB j)/\Qa ((Kd.int .i64).C wr (some ad) gs.length gs/\(Kd.int .i64).C wr (some ⟨1,0,none⟩) 4 Y9)/\Qa (J (16*f+d*frB j) wr)) (fun _ i _=>4-(intOf i).toNat)
    case atStart=>exact⟨0,0,rfl,rfl,by omega,by omega,⟨rfl⟩,hC,hJ⟩
    case round=>
     obtain⟨j,r,rfl,rfl,hj,hr,hrj,hC2,hJ2⟩:=hrel;clear hC hJ hcell s0 s1 s2 s3;by_cases hjt:j<4
     ·have hjI:(j:Int)<4:=by omega
      have hidx:=hX.out j hjt
      have hwb:2<=wB j/\wB j<=8/\frB (j+1)=frB j+wB j/\frB (j+1)<=16:=by
       have h4:j=0\/j=1\/j=2\/j=3:=(by omega);rcases h4 with rfl|rfl|rfl|rfl<;>decide
      have hpg:=Qa.mk (fun i (hi:i<d*wB j)=>E9 (n:=d) (F:=0+f) (j:=j) hjt hi);rw[<-hrj.out] at hwb hpg hJ2;obtain⟨q,hq⟩: ∃q,q=wB j:=⟨_,rfl⟩;rw[<-hq] at hidx hwb hpg;obtain⟨N,hN⟩: ∃N,N=d*q:=⟨_,rfl⟩;have hNI:(d:Int)*(q:Int)=(N:Int):=(by rw[hN];push_cast;rfl);have hNd:d*r+N=d*(r+q):=(by rw[hN,Nat.mul_add]);have hN9:d*(r+q)<=d*16:=Nat.mul_le_mul_left d (by omega);have hNN:N<=128:=(by omega);rw[<-hN] at hpg;have hjT:=Qa.mk hjt;obtain⟨b1,b2,b3,b4⟩:=hwb;rw[b3] at b4;replace b3:=Qa.mk b3;have b0: ¬(q:Int)=0:=(by omega);have hNdT:=Qa.mk hNd;have hN9T:=Qa.mk hN9;clear hq hN hjt hj hNd hN9;gi_wp2_with fail;obtain⟨wp,rfl⟩: ∃wp:World,wp=wr:=⟨_,rfl⟩;gi_loopw [35] (fun x wr=> ∃i:Nat,x= .int .i64 i/\i<=N/\Qa ((Kd.int .i64).C wr (some ad) gs.length gs/\(Kd.int .i64).C wr (some ⟨1,0,none⟩) 4 Y9)/\Qa (J (16*f+(d*r+i)) wr)) (fun x _=>N-(intOf x).toNat)
      case atStart=>exact⟨0,rfl,by omega,hC2,⟨by rw[Nat.add_zero];exact hJ2.out⟩⟩
      case round=>
       obtain⟨i,rfl,hi,hC3,hJ3⟩:=hrel;clear hC2 hJ2;by_cases hit:i<N
       ·have hiI:(i:Int)<(N:Int):=by omega
        have hiq:(i:Int).tdiv (q:Int)=((i/q:Nat):Int):=(by rw[Int.ofNat_tdiv]);have hir:(i:Int).tmod (q:Int)=((i%q:Nat):Int):=(by rw[Int.ofNat_tmod]);have hm:16*f+(d*r+i)<128:=(by have:=hNdT.out;have:=hN9T.out;omega);obtain⟨fn,tmps,assign,body,hy,hR⟩:=HY.out _ wr.drew hm (hJd.out _ _ hJ3.out)
        have hpos:Gp true gs (16*f+(d*r+i))=(f+i/q)*16+r+i%q:=by
         show posS gs 0 _=_
         rw[hPk.out _ (by have:=hNdT.out;have:=hN9T.out;omega),hpg.out i hit,Nat.zero_add]
        rw[hpos] at hy;have hql:i/q<=i:=Nat.div_le_self _ _;have hrl:i%q<=i:=Nat.mod_le _ _;obtain⟨a,ha⟩: ∃a,a=i/q:=⟨_,rfl⟩;obtain⟨b,hb⟩: ∃b,b=i%q:=⟨_,rfl⟩;rw[<-ha] at hiq hy hql;rw[<-hb] at hir hy hrl
        push_cast at hy
        have hR2:=Qa.mk hR;have hiT:=Qa.mk hit;have hql9:(a:Int)<=128/\(b:Int)<=128:=(by omega);have w1:IntKind.i64.wrap ((f:Int)+(a:Int))=(f:Int)+(a:Int):=IntWalk.i64_in _ (by omega);have w2:IntKind.i64.wrap (((f:Int)+(a:Int))*16)=((f:Int)+(a:Int))*16:=IntWalk.i64_in _ (by omega);have w3:IntKind.i64.wrap (((f:Int)+(a:Int))*16+(r:Int))=((f:Int)+(a:Int))*16+(r:Int):=IntWalk.i64_in _ (by omega);have w4:IntKind.i64.wrap (((f:Int)+(a:Int))*16+(r:Int)+(b:Int))=((f:Int)+(a:Int))*16+(r:Int)+(b:Int):=IntWalk.i64_in _ (by omega);have b0': ¬q=0:=(by omega);have w0:IntKind.i64.wrap (a:Int)=(a:Int):=IntWalk.i64_in _ (by omega);have w9:IntKind.i64.wrap (b:Int)=(b:Int):=IntWalk.i64_in _ (by omega);clear hR hit hi hm ha hb hpos hql hrl;gi_wp2_with fail;refine wpIn_region_any (by kernel_rfl) ?_
        change wpAnyIn _ _ _ _ _ _ _ _ _ (World.drew _)
        refine tf 0 (.func (.yield L) #[] #[]) hro ?_;refine tf 1 (.int .i64 f) hro ?_;refine tf 2 (.int .i64 i) hro ?_;refine tf 3 (.int .i64 q) hro ?_;refine tf 4 (.int .i64 a) hro ?_;refine tf 5 (.int .i64 (f+a)) hro ?_;refine tf 6 (.int .i64 ((f+a)*16)) hro ?_;refine tf 7 (.int .i64 r) hro ?_;refine tf 8 (.int .i64 ((f+a)*16+r)) hro ?_;refine tf 9 (.int .i64 i) hro ?_;refine tf 10 (.int .i64 q) hro ?_;refine tf 11 (.int .i64 b) hro ?_;refine tf 12 (.int .i64 ((f+a)*16+r+b)) hro ?_;refine wpAnyIn_ready (rs:=[13]) (by kernel_rfl) (by simp) ?_;refine AllReadyIn.cons rfl (fun K hK=> ?_) AllReadyIn.nil;gi_wp2_with fail;refine hR2.out.mono ?_;rintro e W3 ⟨rfl,hJ4,hk3⟩
        have hC4:=Qa.mk (And.intro (V4 (Kd.Qf hC3.out.1 (Below.refl _ _).drew) (fun g hg=>hk3 g (List.mem_cons_of_mem _ (HLs.out (by have:=hT.out;omega) g hg)))) (V4 (Kd.Qf hC3.out.2 (Below.refl _ _).drew) (fun g hg=>by
         obtain rfl:=List.mem_singleton.1 hg
         exact hk3 1 (by simp))))
        replace hJ4:=Qa.mk hJ4;clear hR2 hk3 hy;refine hK _ _ ?_;clear hK K
        try simp only[Act.put,List.setIfInBounds_toArray,List.set_cons_zero,List.set_cons_succ]
        refine tf 14 (.bool false) hro ?_;refine wpAnyIn_done (by kernel_rfl) ?_ _;gi_wp2;go_roundw
        case rel=>exact⟨i+1,by go_num,hiT.out,hC4,hJ4⟩
        case measure=>have:=hiT.out;simp[intOf];omega
       ·obtain rfl:i=N:=by omega
        have hJ4:Qa (J (16*f+d*(r+q)) wr):=⟨by rw[<-hNdT.out];exact hJ3.out⟩;clear hit hi hJ3;gi_wp2;go_roundw
        case rel=>exact⟨j+1,r+q,by go_num,by go_num,hjT.out,by omega,⟨b3.out.symm⟩,hC3,by rw[b3.out];exact hJ4⟩
        case measure=>have:=hjT.out;simp[intOf];omega
     ·obtain rfl:j=4:=by omega
      have hJ3:Qa (J (16*Vf gs (k+1)) wr):=⟨by rw[o1.out,show 16*(f+d)=16*f+d*frB 4 by simp[frB];omega];exact hJ2.out⟩;clear hjt hj;gi_wp2;go_roundw
      case rel=>exact⟨k+1,f+d,by go_num,by go_num,hT.out,hfd,⟨o1.out.symm⟩,hC2,hJ3⟩
      case measure=>have:=hT.out;simp[intOf];omega
   ·obtain rfl:k=gs.length:=by omega
    rw[hend.out] at hJ;gi_wp2;go_end0;exact⟨⟨_,rfl⟩,hJ.out⟩
end Bd

namespace St
attribute [local go_sem] Qh Qi Qk Ql Qd Qe
open Q15
open Runs Go.Shelf
open Q16 (isW Qx off wd Q7)
open Sec (Qz V4 Zy)
open Bts (Rws Blk)
def Jd (p:Nat) (f g:List Int):List Int:=f.take p++g.drop p
theorem L9 (f g:List Int):Jd 0 f g=g:=by simp[Jd]
theorem I6 {p:Nat} {f g:List Int} (h:f.length=g.length) (hp:g.length<=p):Jd p f g=f:=by unfold Jd;rw[List.drop_eq_nil_of_le hp,List.take_of_length_le (by omega),List.append_nil]
theorem I7 {p:Nat} {f g:List Int} (h:f.length=g.length) (hp:p<g.length):(Jd p f g).set p (rd f p)=Jd (p+1) f g:=by
 have h1:(f.take p).length =p:=(by rw[List.length_take];omega);unfold Jd;rw[List.set_append_right _ _ (by omega),h1,Nat.sub_self,List.drop_eq_getElem_cons hp,List.set_cons_zero,Qu f p (by omega),List.append_assoc];rfl
theorem Qed {p:Nat} {f g:List Int} (h:f.length=g.length) (hp:p<g.length) (he:rd f p=rd g p):Jd p f g=Jd (p+1) f g:=by
 unfold Jd;rw[List.drop_eq_getElem_cons hp,Qu f p (by omega),List.append_assoc,he,Yl g p hp];rfl
theorem Gh {p:Nat} {f g:List Int} (h:f.length=g.length): ∀d,p+d<=g.length->(∀i,p<=i->i<p+d->rd f i=rd g i)->Jd p f g=Jd (p+d) f g
 |0,_,_=>rfl
 |d+1,hd,he=>by rw[Gh h d (by omega) (fun i h1 h2=>he i h1 (by omega)),Qed h (by omega) (he (p+d) (by omega) (by omega))];rfl
theorem rd_mix {p i:Nat} {f g:List Int} (h:f.length=g.length) (hi:p<=i) (hg:i<g.length):(Jd p f g)[i]? =some (rd g i):=by
 unfold Jd;rw[List.getElem?_append_right (by rw[List.length_take];omega),List.length_take,List.getElem?_drop,show p+(i-min p f.length)=i by omega,Yl g i hg];simp[hg]
theorem at_ {wr w:World} {L:List Bts.Row} {G:List Blk} (h:Rws wr w L G) (i:Nat) {b:Blk} (hi:G[i]? =some b):w.heap[b.g]? =some (.cells b.cs b.t (0,0)):=(h.blk b (List.mem_of_getElem? hi)).1
theorem ge_ {wr w:World} {L:List Bts.Row} {G:List Blk} (h:Rws wr w L G) (i:Nat) {b:Blk} (hi:G[i]? =some b):wr.heap.size<=b.g:=(h.blk b (List.mem_of_getElem? hi)).2
theorem Ki {wr w:World} {L:List Bts.Row} {G:List Blk} (h:Rws wr w L G) (i:Nat) {b:Blk} (hi:G[i]? =some b) (j:Nat) (u:Value):Rws wr (w.setCell ⟨b.g,j,none⟩ u) L (G.set i ⟨b.g,b.cs.setIfInBounds j u,b.t⟩):=by
 obtain⟨hlt,he⟩:=List.getElem?_eq_some_iff.1 hi;have e:G=G.take i++b::G.drop (i+1):=(by rw[<-he,<-List.drop_eq_getElem_cons hlt,List.take_append_drop]);have e2:G.set i ⟨b.g,b.cs.setIfInBounds j u,b.t⟩=G.take i++⟨b.g,b.cs.setIfInBounds j u,b.t⟩::G.drop (i+1):=(by rw[List.set_eq_take_append_cons_drop,if_pos hlt]);rw[e] at h;rw[e2];exact Bts.Rws.set h j u
theorem Qbq (F:Fence) (n:Nat) (hF:F.fn 209) (hro:F.round=none) (hn:1<=n) (B1:Nat) (A:Option Addr) (ca:Nat) (ws:List Int) (hw:isW ws=true) (w:World) (hr:(Kd.int .i64).C w A ws.length ws)
  (c1:w.cell? ⟨B1,0,none⟩=some (.slice A ws.length ca)):
  Yd F n Tryz.prog 209 #[.pointer (some ⟨B1,0,none⟩)] (fun k=> #[.int .i64 (off ws k:Nat),.int .i64 (off ws (k+1):Nat)]) (Qz (Zy A)) ws.length w:=fun L J W hW hY h0 hJd=>by
 clear hJd;have d1:=cnx c1 hW;have HR:=Qa.mk (Kd.Qf hr hW);have HY:=Qa.mk hY;have HO:=Qa.mk (fun k (hk:k<ws.length)=>Q7 hw hk);have hlI:(ws.length:Int)<=32:=(by have:=(Qx.1 hw).2.2;omega);clear hY c1 hr hw;refine callsIn_of_wp Tryz.func209 rfl hF ?_ hro;simp only[Tryz.ntmps209,List.size_toArray,List.length_cons,List.length_nil,Nat.reduceAdd,Nat.reduceSub,Array.replicate_succ,Array.replicate_zero,List.push_toArray,List.append_toArray,List.nil_append,List.cons_append];gi_wp2;gi_loopw [3,8] (fun x i wr=> ∃k p:Nat,i= .int .i64 k/\x= .int .i64 p/\k<=ws.length/\p<=128/\Qa (p=off ws k)/\Qa ((Kd.int .i64).C wr A ws.length ws)/\Qa (J k wr)) (fun _ i _=>ws.length-(intOf i).toNat)
 case atStart=>exact⟨0,0,rfl,rfl,by omega,by omega,⟨by unfold off;simp⟩,HR,⟨h0⟩⟩
 case round=>
  obtain⟨k,p,rfl,rfl,hk,hp,hpk,hC,hJ⟩:=hrel;clear d1;have hpI:(p:Int)<=128:=(by omega);by_cases hlt:k<ws.length
  ·have hkI:(k:Int)<(ws.length:Int):=by omega
   obtain⟨ad,rfl,hcell⟩:=Qn hC.out (Below.refl _ _) hlt;obtain⟨o1,o2,o3,o4⟩:=HO.out k hlt;obtain⟨fn,tmps,assign,body,hy,hR⟩:=HY.out k wr hlt hJ.out;rw[<-hpk.out] at o1 o3 hy;obtain⟨d,hd⟩: ∃d,d=wd ws k:=⟨_,rfl⟩;rw[<-hd] at o1 o2 o3 o4;rw[o4] at hcell;rw[o1] at hy;have hpd:Qa (p+d=off ws (k+1)):=⟨by omega⟩;have hle2:=Qa.mk o3;have hdI:(d:Int)<=128:=(by omega);have hT:=Qa.mk hlt;have hR2:=Qa.mk hR
   push_cast at hy
   clear hR hlt hp o1 o2 o3 o4 hd;gi_wp2;refine hR2.out.mono ?_;rintro e W3 ⟨rfl,hJ3,hk3⟩;have hC3:=Qa.mk (V4 hC.out (fun g hg=>hk3 g hg));replace hJ3:=Qa.mk hJ3;clear hR2 hk3 hy;gi_wp2;go_roundw
   case rel=>exact⟨k+1,p+d,by go_num,by go_num,hT.out,hle2.out,hpd,hC3,hJ3⟩
   case measure=>have:=hT.out;simp[intOf];omega
  ·obtain rfl:k=ws.length:=by omega
   gi_wp2;go_end0;exact⟨⟨_,rfl⟩,hJ.out⟩
theorem Qbr (A:Option Addr) (n c:Nat) (w:World):
  Calls Tryz.prog 174 #[.slice A n c] w fun en w'=>en= .returned (.func (.func 209) #[] #[.pointer (some ⟨w.heap.size,0,none⟩)])/\w'=w.alloc (.cells #[.slice A n c] 22):=by
 go_enter Tryz.func174,Tryz.ntmps174;go_wp2;go_ret;exact⟨rfl,rfl⟩
end St

namespace Sec
attribute [local go_sem] Qh Qi Qk Ql Qd Qe
open Q15
open Runs Go.Shelf
open Q16 (Q6 Za Yc)
open Q21 (Qb Qj)
open Bts
open Bk
def Xf (ws l:List Int) (j:Nat):List Int:=(l.drop (V8 ws j)).take (rd ws j).toNat
def Q5 (k:Nat) (x:List Int):Int:=if Ke k x=true then Yp k x else-1
def Uj (x:List Int) (n:Nat):List Value:=(List.range 8).map fun k=> .int .i64 (if k<n then Q5 k x else 0)
def J7 (ws l:List Int) (n:Nat):List Value:=((List.range n).map fun j=>Uj (Xf ws l j) 8).flatten
theorem Dh (x:List Int) (n:Nat):(Uj x n).length =8:=by simp[Uj]
theorem Cm (x:List Int):Uj x 0=List.replicate 8 (.int .i64 0):=by unfold Uj;rfl
theorem rowN_set (x:List Int) {n:Nat} (h:n<8):(Uj x n).set n (.int .i64 (Q5 n x))=Uj x (n+1):=by
 apply List.ext_getElem
 ·simp[Dh]
 ·intro i h1 h2
  simp only[Dh] at h2;rw[List.getElem_set];simp only[Uj,List.getElem_map,List.getElem_range];by_cases hi:n=i
  ·subst hi;simp
  ·rw[if_neg hi]
   by_cases hl:i<n
   ·rw[if_pos hl,if_pos (by omega)]
   ·rw[if_neg hl,if_neg (by omega)]
theorem rowN_at (x:List Int) {k:Nat} (h:k<8):(Uj x 8)[k]? =some (.int .i64 (Q5 k x)):=by
 rw[List.getElem?_eq_getElem (by rw[Dh];exact h)];simp[Uj,h]
theorem Qep (x:List Int) {n:Nat} (h:n<8):(Uj x n).toArray[n]? =some (.int .i64 0):=by
 rw[List.getElem?_toArray,List.getElem?_eq_getElem (by rw[Dh];exact h)];simp[Uj]
theorem Gu (ws l:List Int) (n:Nat):J7 ws l (n+1)=J7 ws l n++Uj (Xf ws l n) 8:=by simp[J7,List.range_succ]
theorem Dy (ws l:List Int): ∀n,(J7 ws l n).length =n*8
 |0=>rfl
 |n+1=>by rw[Gu,List.length_append,Dy ws l n,Dh];omega
theorem Qaw (ws l:List Int) {j k:Nat} (hk:k<8): ∀n,j<n->(J7 ws l n)[8*j+k]? =some (.int .i64 (Q5 k (Xf ws l j)))
 |0,h=>by omega
 |n+1,h=>by
  rw[Gu];by_cases hj:j<n
  ·rw[List.getElem?_append_left (by rw[Dy];omega)]
   exact Qaw ws l hk n hj
  ·obtain rfl:j=n:=by omega
   rw[List.getElem?_append_right (by rw[Dy];omega),Dy,show 8*j+k-j*8=k by omega];exact rowN_at _ hk
theorem Vz {ws l:List Int} (hok:Ok ws l) {j:Nat} (hj:j<ws.length):V8 ws j+(rd ws j).toNat <=l.length/\1<=(rd ws j).toNat /\(rd ws j).toNat <=128/\rd ws j=((rd ws j).toNat :Nat):=by
 have h1:=Ca hok.wid hj;have h2:=hok.wid _ (Qp ws j hj);have h3:=hok.sum;omega
theorem Vl {ws l:List Int} (hok:Ok ws l) {j:Nat} (hj:j<ws.length):(Xf ws l j).length =(rd ws j).toNat :=by
 have:=Vz hok hj;unfold Xf;rw[List.length_take,List.length_drop];omega
theorem Vk {ws l:List Int} (h:Yk l=true) (j:Nat):Yk (Xf ws l j)=true:=by
 unfold Yk Q16.rng at h ⊢;refine List.all_eq_true.2 fun x hx=>List.all_eq_true.1 h x ?_
 exact List.mem_of_mem_drop (List.mem_of_mem_take hx)
theorem sub_C {w:World} {ad:Addr} {l:List Int} {o d:Nat} (hr:(Kd.int .i64).C w (some ad) l.length l) (h:o+d<=l.length) (hd:1<=d):(Kd.int .i64).C w (some (ad.add o)) d ((l.drop o).take d):=by
 have h9:o=o*1:=(by omega);obtain⟨r1,r2,r3⟩:=Kd.Xm (enc:=Value.int .i64) (h1:=fun _=>rfl) (d:=(0:Int)) hr;have hl:((l.drop o).take d).length =d:=(by rw[List.length_take,List.length_drop];omega);refine Kd.Zu (d:=(0:Int)) ⟨hl,by omega,fun h0=> ?_⟩;obtain⟨a,ha,hc⟩:=r3 (by omega);cases ha;refine⟨_,rfl,fun j hj=> ?_⟩;have h2:=hc (o+j) (by omega)
 have e1:(ad.add o).add j=ad.add (o+j):=by
  unfold Addr.add;by_cases g1:o=0
  ·subst g1;simp
  ·by_cases g2:j=0
   ·subst g2;simp[g1]
   ·simp[g1,g2,Nat.add_assoc]
 rw[e1]
 have e2:((l.drop o).take d).getD j 0=l.getD (o+j) 0:=by
  rw[List.getD_eq_getElem?_getD,List.getD_eq_getElem?_getD,List.getElem?_take_of_lt hj,List.getElem?_drop]
 rw[e2];exact h2
theorem V6 {ws l:List Int} (hok:Ok ws l) {j:Nat} (hj:j<ws.length) {w:World} {ad:Addr} (hr:(Kd.int .i64).C w (some ad) l.length l):(Kd.int .i64).C w (some (ad.add (V8 ws j))) (Xf ws l j).length (Xf ws l j):=by
 have h:=Vz hok hj;rw[Vl hok hj];exact sub_C hr h.1 h.2.1
theorem O9 {k:Nat} (hk:k<8) {x:List Int} (h:Yk x=true):0<=Yp k x/\Yp k x<=104*x.length:=by
 have h1:=Yy hk h (x.length/Jb k);have h2:x.length/Jb k<=x.length:=Nat.div_le_self _ _;unfold Yp;omega
theorem Py {k:Nat} (hk:k<8) {x:List Int} (h:Yk x=true): -1<=Q5 k x/\Q5 k x<=104*x.length:=by
 have:=O9 hk h;unfold Q5;by_cases hf:Ke k x=true
 ·rw[if_pos hf];omega
 ·rw[if_neg hf];omega
theorem Ol (k:Nat) (hk:k<8) (A:Option Addr) (cap:Nat) (l:List Int) (w:World) (hL:Xn w) (hr:(Kd.int .i64).C w A l.length l) (hl:l.length<=1000) (hcap:l.length<=cap) (hA:Yk l=true):
  Calls Tryz.prog 187 #[.int .i64 k,.slice A l.length cap] w fun e w'=> ∃c E:Int,e= .returned (.tuple #[.int .i64 c,.int .i64 E])/\(E=0/\c=Q5 k l/\Ke k l=true\/E=4/\Q5 k l= -1/\Ke k l=false)/\Below w.heap.size w w':=by
 cases hf:Ke k l with
 |true=>
  refine(Gy k hk A cap l w hL hr hl hcap hA hf).mono ?_;rintro e w' ⟨rfl,hb⟩;exact⟨_,_,rfl,.inl ⟨rfl,by unfold Q5;rw[if_pos hf],rfl⟩,hb⟩
 |false=>
  refine(Cost_bad k hk A cap l w hL hr hl hA hf).mono ?_;rintro e w' ⟨rfl,hb⟩;exact⟨_,_,rfl,.inr ⟨rfl,by unfold Q5;rw[if_neg (by rw[hf];simp)],rfl⟩,hb⟩
theorem Rws.Jf {wr w w1:World} {L:List Row} {G:List Blk} {row:Option Nat} (h:Rws wr w L G) (hg:w.grownBy w1 row) (hr: ∀r,row=some r->wr.heap.size<=r/\ ∃o:Obj,w.heap[r]? =some o/\o.isCells=false):Rws wr w1 L G:=
 ⟨h.below.grown hg h.below.size (fun r e=>(hr r e).1),fun q hq=>Cg (h.row q hq) hg (by
  cases hb:q.v.ownBlock with
  |none=>exact .inl rfl
  |some b=>
   refine .inr fun e=> ?_
   obtain⟨_,o,ho,hc⟩:=hr b e.symm;obtain⟨_,h2⟩:=h.row q hq;rcases h2 with ⟨hv,_⟩|⟨g,cap,cur,hv,_,hg2,_⟩
   ·rw[hv] at hb;cases hb
   ·rw[hv] at hb
    cases hb;rw[hg2] at ho;cases ho
    cases hc),h.pair,fun b hb=>⟨Yi (h.blk b hb).1 hg (fun r e=>(hr r e).2),(h.blk b hb).2⟩,h.far,h.gs⟩
theorem Qz.of {wr W W1:World} {gs:List Nat} (h0:Below wr.heap.size wr W) (h1:Below wr.heap.size wr W1) (h: ∀g∈gs,g<wr.heap.size\/ ∃o,W.heap[g]? =some o/\W1.heap[g]? =some o):Qz gs W W1:=fun g hg=>by
 rcases h g hg with h|⟨o,e1,e2⟩
 ·rw[h1.block g h,h0.block g h]
 ·rw[e1,e2]
theorem Qz.step {gs:List Nat} {W W1:World} {N:Nat} (h: ∀g∈gs,g<N) (hN:N<=W.heap.size) (hb:Below W.heap.size W W1):Qz gs W W1:=fun g hg=>hb.block g (by have:=h g hg;omega)
theorem Qz.set {gs:List Nat} {W W1:World} {N:Nat} (h: ∀g∈gs,g<N) (hk:Qz gs W W1) {p:Addr} (hp:N<=p.block) (u:Value):Qz gs W (W1.setCell p u):=fun g hg=>(Below.heap_setCell W1 p u g (by have:=h g hg;omega)).trans (hk g hg)
theorem Qz.two {wr W W1:World} {L L1:List Row} {G G1:List Blk} {b1 b2:Blk} {gs:List Nat} (h:Rws wr W L G) (h1:Rws wr W1 L1 G1) (m1:b1∈G) (m2:b2∈G) (n1:b1∈G1) (n2:b2∈G1) (hg: ∀g∈gs,g<wr.heap.size):Qz (b1.g::b2.g::gs) W W1:=
 Qz.of h.below h1.below fun g hm=>by
  rcases List.mem_cons.1 hm with rfl|hm
  ·exact .inr ⟨_,(h.blk b1 m1).1,(h1.blk b1 n1).1⟩
  ·rcases List.mem_cons.1 hm with rfl|hm
   ·exact .inr ⟨_,(h.blk b2 m2).1,(h1.blk b2 n2).1⟩
   ·exact .inl (hg g hm)
theorem Y3 {w:World} {A:Option Addr} {n:Nat} {xs:List Int} (h:(Kd.int .i64).C w A n xs) (h0:0<xs.length): ∀g∈Zy A,g<w.heap.size:=fun g hg=>by
 obtain⟨r1,r2,r3⟩:=Kd.Xm (enc:=Value.int .i64) (h1:=fun _=>rfl) (d:=(0:Int)) h;obtain⟨a,rfl,hc⟩:=r3 (by omega);have:=World.block_lt_of_cell? _ _ (hc 0 (by omega));rw[add_block] at this;rw[List.mem_singleton.1 hg];exact this
end Sec

namespace Sca
attribute [local go_sem] Qh Qi Qk Ql Qd Qe
open Q15
open Runs Go.Shelf
open Q16 (Q6 Za Yc)
open Sec (Qz Zy Dq)
attribute [local go_sem] Oper.semAt_some
theorem CB_same {A B:World} {ad:Option Addr} {n:Nat} {xs:List Bool} (h:Kd.bool.C A ad n xs) (hk: ∀g∈Zy ad,B.heap[g]? =A.heap[g]?):Kd.bool.C B ad n xs:=by
 obtain⟨r1,r2,r3⟩:=Kd.Xm (enc:=Value.bool) (h1:=fun _=>rfl) (d:=false) h;refine Kd.Zu (d:=false) ⟨r1,r2,fun h0=> ?_⟩;obtain⟨a,rfl,hc⟩:=r3 h0;exact⟨a,rfl,fun j hj=>Dq (by rw[add_block];exact hk _ (by simp[Zy])) (hc j hj)⟩
def uix (us:List Bool) (k:Nat):List Nat:=(List.range k).filter fun i=>us.getD i false
def uN (us:List Bool):Nat:=(uix us us.length).length
def uAt (us:List Bool) (m:Nat):Nat:=(uix us us.length).getD m 0
def uBe (us:List Bool) (m:Nat):Int:=if m=0 then-1 else uAt us (m-1)
theorem Sv (us:List Bool) (k:Nat):uix us (k+1)=if us.getD k false=true then uix us k++[k] else uix us k:=by
 unfold uix;rw[List.range_succ,List.filter_append];by_cases h:us.getD k false=true
 ·rw[if_pos h];simpa[List.getD_eq_getElem?_getD] using h
 ·rw[if_neg h];simpa[List.getD_eq_getElem?_getD] using h
theorem Qdd (us:List Bool) (k:Nat): ∀j,uix us k <+: uix us (k+j)
 |0=>List.prefix_refl _
 |j+1=>by
  refine(Qdd us k j).trans ?_;rw[<-Nat.add_assoc,Sv]
  split
  ·exact List.prefix_append _ _
  ·exact List.prefix_refl _
theorem uix_at {us:List Bool} {k:Nat} (hk:k<us.length) (h:us.getD k false=true):(uix us k).length <uN us/\uAt us (uix us k).length =k:=by
 have hp:=Qdd us (k+1) (us.length-(k+1));rw[show k+1+(us.length-(k+1))=us.length by omega,Sv,if_pos h] at hp;obtain⟨t,ht⟩:=hp;unfold uN uAt;rw[<-ht];simp[List.getD_eq_getElem?_getD,List.append_assoc]
theorem uix_len (us:List Bool) (k:Nat):(uix us k).length <=k:=by
 have:=List.length_filter_le (fun i=>us.getD i false) (List.range k);simpa[uix] using this
theorem Dk {us:List Bool} {m:Nat} (h:m<uN us):uAt us m<us.length/\us.getD (uAt us m) false=true:=by
 have hm:uAt us m∈uix us us.length:=by
  unfold uAt;rw[List.getD_eq_getElem?_getD,List.getElem?_eq_getElem h];exact List.getElem_mem _
 have:=List.mem_filter.1 hm;exact⟨List.mem_range.1 this.1,this.2⟩
theorem Sy (F:Fence) (n:Nat) (hF:F.fn 199) (hro:F.round=none) (hn:1<=n) (B1:Nat) (A:Option Addr) (ca:Nat) (us:List Bool) (h128:us.length<=128) (w:World) (hr:Kd.bool.C w A us.length us)
  (c1:w.cell? ⟨B1,0,none⟩=some (.slice A us.length ca)):
  Yd F n Tryz.prog 199 #[.pointer (some ⟨B1,0,none⟩)] (fun m=> #[.int .i64 (uAt us m),.int .i64 (uBe us m)]) (Qz (Zy A)) (uN us) w:=fun L J W hW hY h0 hJd=>by
 clear hJd;have d1:=cnx c1 hW;have HR:Qa (Kd.bool.C W A us.length us):=⟨Kd.Qf hr hW⟩;have HY:=Qa.mk hY;have hlI:(us.length:Int)<=128:=(by omega);clear hY c1 hr h128;refine callsIn_of_wp Tryz.func199 rfl hF ?_ hro;simp only[Tryz.ntmps199,List.size_toArray,List.length_cons,List.length_nil,Nat.reduceAdd,Nat.reduceSub,Array.replicate_succ,Array.replicate_zero,List.push_toArray,List.append_toArray,List.nil_append,List.cons_append];gi_wp2;gi_loopw [3,8] (fun x i wr=> ∃(k:Nat) (z:Int),i= .int .i64 k/\x= .int .i64 z/\k<=us.length/\Qa (z=uBe us (uix us k).length)/\Qa (Kd.bool.C wr A us.length us)/\Qa (J (uix us k).length wr)) (fun _ i _=>us.length-(intOf i).toNat)
 case atStart=>exact⟨0,-1,rfl,rfl,by omega,⟨rfl⟩,HR,⟨h0⟩⟩
 case round=>
  obtain⟨k,z,rfl,rfl,hk,hz,hC,hJ⟩:=hrel;clear d1;by_cases hlt:k<us.length
  ·have hkI:(k:Int)<(us.length:Int):=by omega
   obtain⟨ad,rfl,hcell⟩:=Yv hC.out (Below.refl _ _) hlt;have hT:=Qa.mk hlt;have hS:=Sv us k
   cases hu:us.getD k false with
   |false=>
    rw[hu] at hcell hS;have hS2:Qa (uix us (k+1)=uix us k):=⟨hS⟩;clear hS hu hlt;gi_wp2;go_roundw
    case rel=>exact⟨k+1,z,by go_num,rfl,hT.out,⟨by rw[hS2.out];exact hz.out⟩,hC,⟨by rw[hS2.out];exact hJ.out⟩⟩
    case measure=>have:=hT.out;simp[intOf];omega
   |true=>
    obtain⟨hm,hat⟩:=uix_at hlt hu;rw[hu] at hcell hS;rw[if_pos rfl] at hS;obtain⟨fn,tmps,assign,body,hy,hR⟩:=HY.out _ wr hm hJ.out;rw[hat,<-hz.out] at hy;have hS2:Qa ((uix us (k+1)).length =(uix us k).length +1):=⟨by rw[hS];simp⟩;have hb2:Qa (uBe us ((uix us k).length +1)=k):=⟨by unfold uBe;rw[if_neg (by omega),Nat.add_sub_cancel,hat]⟩;have hR2:=Qa.mk hR;clear hR hlt hS hu hm hat;gi_wp2;refine hR2.out.mono ?_;rintro e W3 ⟨rfl,hJ3,hk3⟩;have hC3:=Qa.mk (CB_same hC.out (fun g hg=>hk3 g hg));replace hJ3:=Qa.mk hJ3;clear hR2 hk3 hy;gi_wp2;go_roundw
    case rel=>exact⟨k+1,k,by go_num,rfl,hT.out,⟨by rw[hS2.out];exact hb2.out.symm⟩,hC3,⟨by rw[hS2.out];exact hJ3.out⟩⟩
    case measure=>have:=hT.out;simp[intOf];omega
  ·obtain rfl:k=us.length:=by omega
   gi_wp2;go_end0;exact⟨⟨_,rfl⟩,hJ.out⟩
theorem Sz (A:Option Addr) (n c:Nat) (w:World):
  Calls Tryz.prog 153 #[.slice A n c] w fun en w'=>en= .returned (.func (.func 199) #[] #[.pointer (some ⟨w.heap.size,0,none⟩)])/\w'=w.alloc (.cells #[.slice A n c] 23):=by
 go_enter Tryz.func153,Tryz.ntmps153;go_wp2;go_ret;exact⟨rfl,rfl⟩
end Sca

namespace Gn
attribute [local go_sem] Qh Qi Qk Ql Qd Qe
open Q15
open Runs Go.Shelf
open Sec (Qz Zy Dq V4 Vr)
open Sca (Yv)
attribute [local go_sem] Oper.semAt_some
def oneI (b:Bool):Int:=if b then 1 else 0
theorem Cb (b:Bool) (w:World):
  Calls Tryz.prog 85 #[.bool b] w fun e w'=>e= .returned (.int .i64 (oneI b))/\w'=w:=by
 cases b with
 |true=>
  go_enter Tryz.func85,Tryz.ntmps85;go_wp2;go_ret;exact⟨rfl,rfl⟩
 |false=>
  go_enter Tryz.func85,Tryz.ntmps85;go_wp2;go_ret;exact⟨rfl,rfl⟩
theorem Oq (A:Option Addr) (cap:Nat) (l:List Bool) (v:Bool) (w:World) (hr:Kd.bool.C w A l.length l) (hl:l.length<=1000000):
  Calls Tryz.prog 184 #[.slice A l.length cap,.bool v] w fun e w'=> ∃i:Int,e= .returned (.int .i64 i)/\decide (0<=i)=l.contains v/\Below w.heap.size w w':=by
 have HR:=Qa.mk hr;have hlI:(l.length:Int)<=1000000:=(by omega);clear hr hl;go_enter Tryz.func184,Tryz.ntmps184;go_wp2;go_loopw [8] (fun i wr=> ∃k:Nat,i= .int .i64 k/\k<=l.length/\Qa ((l.take k).contains v=false)/\Below w.heap.size w wr) (fun i _=>l.length-(intOf i).toNat)
 case atStart=>exact⟨0,rfl,by omega,⟨by simp⟩,Below.refl _ _⟩
 case round=>
  obtain⟨k,rfl,hk,ha,hb⟩:=hrel;by_cases hlt:k<l.length
  ·obtain⟨ad,rfl,hcell⟩:=Yv HR.out hb hlt
   have hltI:(k:Int)<(l.length:Int):=(by omega);have hT:l.take (k+1)=l.take k++[l.getD k false]:=(by rw[List.take_succ_eq_append_getElem hlt,List.getD_eq_getElem?_getD,List.getElem?_eq_getElem hlt];rfl);have hm:l.getD k false∈l:=(by rw[List.getD_eq_getElem?_getD,List.getElem?_eq_getElem hlt];exact List.getElem_mem hlt);obtain⟨x,hx⟩: ∃x,x=l.getD k false:=⟨_,rfl⟩;rw[<-hx] at hcell hT hm;replace hT:=Qa.mk hT;replace hm:=Qa.mk hm;have hlt':=Qa.mk hlt;clear hx hlt;by_cases hv:v=x
   ·have hE:(v==x)=true:=by rw[hv];exact beq_self_eq_true _
    have hv':=Qa.mk hv;clear hv;go_wp2;go_ret;refine⟨_,rfl,?_,hb⟩;rw[decide_eq_true (by omega)];have:=hm.out;rw[<-hv'.out] at this;exact(List.contains_iff_mem.2 this).symm
   ·have hE:(v==x)=false:=by simpa using hv
    have hv':=Qa.mk hv;clear hv;go_wp2;go_roundw
    case rel=>exact⟨k+1,by go_num,hlt'.out,⟨by
     have h1:=ha.out;rw[hT.out]
     cases hc:(l.take k++[x]).contains v with
     |false=>rfl
     |true=>
      rcases List.mem_append.1 (List.contains_iff_mem.1 hc) with h|h
      ·rw[List.contains_iff_mem.2 h] at h1
       cases h1
      ·exact absurd (List.mem_singleton.1 h) hv'.out⟩,hb⟩
    case measure=>have:=hlt'.out;simp[intOf];omega
  ·obtain rfl:k=l.length:=by omega
   have h1:=ha.out;rw[List.take_length] at h1;replace h1:=Qa.mk h1;clear ha;go_wp2;go_ret;exact⟨-1,rfl,by rw[h1.out];rfl,hb⟩
theorem Pp (A:Option Addr) (cap:Nat) (l:List Bool) (v:Bool) (w:World) (hr:Kd.bool.C w A l.length l) (hl:l.length<=1000000):
  Calls Tryz.prog 139 #[.slice A l.length cap,.bool v] w fun e w'=>e= .returned (.bool (l.contains v))/\Below w.heap.size w w':=by
 have HI:=Qa.mk (Oq A cap l v w hr hl);obtain⟨C,hC⟩: ∃C,C=l.contains v:=⟨_,rfl⟩;rw[<-hC] at HI ⊢;clear hr hl hC;go_enter Tryz.func139,Tryz.ntmps139;go_wp2_with fail;refine HI.out.mono ?_;rintro e w' ⟨i,rfl,hi,hb⟩;have hi':=Qa.mk hi;clear hi;go_wp2;go_ret;exact⟨by rw[<-hi'.out];rfl,hb⟩
def midI (l:List Bool):Int:=if l.contains true=false then 0 else if l.contains false=false then 1 else 2
theorem midI_bd (l:List Bool):0<=midI l/\midI l<=2:=by
 unfold midI
 split
 ·decide
 ·split<;>decide
theorem Ms (A:Option Addr) (cap:Nat) (l:List Bool) (w:World) (hr:Kd.bool.C w A l.length l) (hl:l.length<=1000000):
  Calls Tryz.prog 87 #[.slice A l.length cap] w fun e w'=>e= .returned (.int .i64 (midI l))/\Below w.heap.size w w':=by
 have HC:=Qa.mk (fun(v:Bool) (W:World) (hb:Below w.heap.size w W)=>Pp A cap l v W (Kd.Qf hr hb) hl);have hb:=Below.refl w.heap.size w;have hm:midI l=if l.contains true=false then 0 else if l.contains false=false then 1 else 2:=rfl;obtain⟨M,hM⟩: ∃M,M=midI l:=⟨_,rfl⟩;have HT:=Qa.mk (HC.out true);have HF:=Qa.mk (HC.out false);rw[<-hM] at hm ⊢;obtain⟨T,hT⟩: ∃T,T=l.contains true:=⟨_,rfl⟩;obtain⟨F,hF⟩: ∃F,F=l.contains false:=⟨_,rfl⟩;rw[<-hT] at HT hm;rw[<-hF] at HF hm;replace hm:=Qa.mk hm;clear hr hl HC hM hT hF
 cases T with
 |false=>
  go_enter Tryz.func87,Tryz.ntmps87;go_wp2_with (first|(go_at_call 139;refine((HT.out _ hb)).mono ?_;rintro e w' ⟨rfl,hbn⟩;replace hb:=bnx hb hbn;clear hbn));go_ret;exact⟨by rw[hm.out];rfl,hb⟩
 |true=>
  cases F with
  |false=>
   go_enter Tryz.func87,Tryz.ntmps87;go_wp2_with fail;refine((HT.out _ hb)).mono ?_;rintro e w' ⟨rfl,hbn⟩;replace hb:=bnx hb hbn;clear hbn;go_wp2_with fail;refine((HF.out _ hb)).mono ?_;rintro e w' ⟨rfl,hbn⟩;replace hb:=bnx hb hbn;clear hbn;go_wp2;go_ret;exact⟨by rw[hm.out];rfl,hb⟩
  |true=>
   go_enter Tryz.func87,Tryz.ntmps87;go_wp2_with fail;refine((HT.out _ hb)).mono ?_;rintro e w' ⟨rfl,hbn⟩;replace hb:=bnx hb hbn;clear hbn;go_wp2_with fail;refine((HF.out _ hb)).mono ?_;rintro e w' ⟨rfl,hbn⟩;replace hb:=bnx hb hbn;clear hbn;go_wp2;go_ret;exact⟨by rw[hm.out];rfl,hb⟩
def stV (gs:List Int) (m:Nat):Int:=if(List.range gs.length).any (fun k=>decide ((gs.take k).sum =((m+1:Nat):Int)))=true then 1 else 0
theorem stV_bd (gs:List Int) (m:Nat):stV gs m=0\/stV gs m=1:=by
 unfold stV
 split
 ·exact .inr rfl
 ·exact .inl rfl
def Vu (gs:List Int) (k:Nat):Nat:=(gs.take k).sum.toNat
theorem Ff {gs:List Int} (h: ∀x∈gs,1<=x/\x<=128) {k:Nat} (hk:k<gs.length):((Vu gs (k+1):Nat):Int)=Vu gs k+rd gs k/\1<=rd gs k:=by
 have h1:=Vr (ws:=gs.take k) (fun x hx=>h x (List.mem_of_mem_take hx));have h2:=h _ (Qp gs k hk);have h3:(gs.take (k+1)).sum =(gs.take k).sum +rd gs k:=(by rw[Qu gs k hk,List.sum_append];simp);unfold Vu;omega
theorem Uf {gs:List Int} (h: ∀x∈gs,1<=x/\x<=128) (k:Nat): ∀d,k+d<=gs.length->Vu gs k+d<=Vu gs (k+d)
 |0,_=>Nat.le_refl _
 |d+1,hd=>by
  have h1:=Uf h k d (by omega);have h2:=Ff h (k:=k+d) (by omega)
  show Vu gs k+(d+1)<=Vu gs (k+d+1)
  omega
theorem Nc {gs:List Int} (h: ∀x∈gs,1<=x/\x<=128) (k:Nat):(gs.take k).sum =(Vu gs k:Nat):=by
 have h1:=Vr (ws:=gs.take k) (fun x hx=>h x (List.mem_of_mem_take hx));unfold Vu;omega
theorem stV_at {gs:List Int} (h: ∀x∈gs,1<=x/\x<=128) {k i:Nat} (hk:k<gs.length) (hi:(i:Int)<rd gs k) (hb:0<Vu gs k+i):stV gs (Vu gs k+i-1)=if i=0 then 1 else 0:=by
 unfold stV;by_cases h0:i=0
 ·rw[if_pos h0,if_pos]
  refine List.any_eq_true.2 ⟨k,List.mem_range.2 hk,decide_eq_true ?_⟩;rw[Nc h k];omega
 ·rw[if_neg h0,if_neg]
  intro h1;obtain⟨j,hj,h2⟩:=List.any_eq_true.1 h1;have hj:=List.mem_range.1 hj;have h2:=of_decide_eq_true h2;rw[Nc h j] at h2;have h3:=Ff h hk;rcases Nat.lt_or_ge k j with hkj|hkj
  ·have:=Uf h (k+1) (j-(k+1)) (by omega)
   rw[show k+1+(j-(k+1))=j by omega] at this;omega
  ·have:=Uf h j (k-j) (by omega)
   rw[show j+(k-j)=k by omega] at this;omega
def stN (gs:List Int):Nat:=Vu gs gs.length-1
theorem Wn (F:Fence) (n:Nat) (hF:F.fn 138) (hro:F.round=none) (hn:1<=n) (B1:Nat) (A:Option Addr) (ca:Nat) (gs:List Int) (h8: ∀x∈gs,1<=x/\x<=128) (hl:gs.length<=128) (w:World) (hr:(Kd.int .i64).C w A gs.length gs)
  (c1:w.cell? ⟨B1,0,none⟩=some (.slice A gs.length ca)) (Ls:List Nat) (hLs:0<gs.length-> ∀g∈Zy A,g∈Ls):
  Yd F n Tryz.prog 138 #[.pointer (some ⟨B1,0,none⟩)] (fun m=> #[.int .i64 (stV gs m)]) (Qz Ls) (stN gs) w:=fun L J W hW hY h0 hJd=>by
 clear hJd;have HLs:=Qa.mk hLs;clear hLs;have d1:=cnx c1 hW;have HR:Qa ((Kd.int .i64).C W A gs.length gs):=⟨Kd.Qf hr hW⟩;have HY:=Qa.mk hY;have H8:=Qa.mk h8;have hlI:(gs.length:Int)<=128:=(by omega);clear hY c1 hr hl h8;refine callsIn_of_wp Tryz.func138 rfl hF ?_ hro;simp only[Tryz.ntmps138,List.size_toArray,List.length_cons,List.length_nil,Nat.reduceAdd,Nat.reduceSub,Array.replicate_succ,Array.replicate_zero,List.push_toArray,List.append_toArray,List.nil_append,List.cons_append];gi_wp2;gi_loopw [9] (fun i wr=> ∃k:Nat,i= .int .i64 k/\k<=gs.length/\Qa ((Kd.int .i64).C wr A gs.length gs)/\Qa (J (Vu gs k-1) wr)) (fun i _=>gs.length-(intOf i).toNat)
 case atStart=>exact⟨0,rfl,by omega,HR,⟨by simpa[Vu] using h0⟩⟩
 case round=>
  obtain⟨k,rfl,hk,hC,hJ⟩:=hrel;clear d1;by_cases hlt:k<gs.length
  ·have hkI:(k:Int)<(gs.length:Int):=by omega
   obtain⟨ad,rfl,hcell⟩:=Qn hC.out (Below.refl _ _) hlt;obtain⟨o1,o2⟩:=Ff H8.out hlt;have o3:=(H8.out _ (Qp gs k hlt)).2;obtain⟨d,hd⟩: ∃d:Nat,(d:Int)=rd gs k:=⟨(rd gs k).toNat,by omega⟩;have hsv:=Qa.mk (fun(i:Nat) (hi:i<d) (hb:0<Vu gs k+i)=>stV_at H8.out hlt (i:=i) (by omega) hb);have hend:=Uf H8.out (k+1) (gs.length-(k+1)) (by omega);rw[show k+1+(gs.length-(k+1))=gs.length by omega] at hend;have hk0:Qa (k=0->Vu gs k=0):=⟨fun h=>by subst h;simp[Vu]⟩;have hk1:=Uf H8.out 0 k (by omega);rw[Nat.zero_add,show Vu gs 0=0 by simp[Vu]] at hk1;rw[<-hd] at hcell o1 o2 o3;obtain⟨o,ho⟩: ∃o,o=Vu gs k:=⟨_,rfl⟩;obtain⟨o',ho'⟩: ∃o',o'=Vu gs (k+1):=⟨_,rfl⟩;rw[<-ho] at hJ hsv o1 hk0 hk1;rw[<-ho'] at o1 hend;have hN:Qa (o+d<=stN gs+1):=⟨by unfold stN;omega⟩;have hoo:Qa (o'=o+d):=⟨by omega⟩;have hT:=Qa.mk hlt;replace ho':=Qa.mk ho';replace hk1:=Qa.mk hk1;have hdI:(d:Int)<=128:=o3;clear ho hlt hd hend o1 o2 o3;gi_wp2;obtain⟨wo,rfl⟩: ∃wo:World,wo=wr:=⟨_,rfl⟩;gi_loopw [15] (fun i wr=> ∃j:Nat,i= .int .i64 j/\j<=d/\Qa ((Kd.int .i64).C wr (some ad) gs.length gs)/\Qa (J (o+j-1) wr)) (fun i _=>d-(intOf i).toNat)
   case atStart=>exact⟨0,rfl,by omega,hC,hJ⟩
   case round=>
    obtain⟨j,rfl,hj,hC2,hJ2⟩:=hrel;clear hC hJ hcell;by_cases hjt:j<d
    ·have hjI:(j:Int)<(d:Int):=by omega
     have hjT:=Qa.mk hjt;by_cases hb0:0<o+j
     ·have hm:o+j-1<stN gs:=by have:=hN.out;omega
      obtain⟨fn,tmps,assign,body,hy,hR⟩:=HY.out _ wr hm hJ2.out;rw[hsv.out j hjt hb0] at hy;have hR2:=Qa.mk hR;have hnx:Qa (o+j-1+1=o+(j+1)-1):=⟨by omega⟩
      have hpos:decide (0<(k:Int)+(j:Int))=true:=decide_eq_true (by
       have:=hk0.out
       omega)
      clear hR hm hjt hb0;by_cases hj0:j=0
      ·rw[if_pos hj0] at hy
       have hj1:((j:Int)==0)=true:=(by rw[hj0];rfl);clear hj0;gi_wp2;refine hR2.out.mono ?_;rintro e W3 ⟨rfl,hJ3,hk3⟩;rw[hnx.out] at hJ3;have hC3:=Qa.mk (V4 hC2.out (fun g hg=>hk3 g (HLs.out (by have:=hT.out;omega) g hg)));replace hJ3:=Qa.mk hJ3;clear hR2 hk3 hy;gi_wp2;go_roundw
       case rel=>exact⟨j+1,by go_num,hjT.out,hC3,hJ3⟩
       case measure=>have:=hjT.out;simp[intOf];omega
      ·rw[if_neg hj0] at hy
       have hj1:((j:Int)==0)=false:=(by simpa using hj0);clear hj0;gi_wp2;refine hR2.out.mono ?_;rintro e W3 ⟨rfl,hJ3,hk3⟩;rw[hnx.out] at hJ3;have hC3:=Qa.mk (V4 hC2.out (fun g hg=>hk3 g (HLs.out (by have:=hT.out;omega) g hg)));replace hJ3:=Qa.mk hJ3;clear hR2 hk3 hy;gi_wp2;go_roundw
       case rel=>exact⟨j+1,by go_num,hjT.out,hC3,hJ3⟩
       case measure=>have:=hjT.out;simp[intOf];omega
     ·have hj1:((j:Int)==0)=true:=by rw[show j=0 by omega];rfl
      have hpos:decide (0<(k:Int)+(j:Int))=false:=decide_eq_false (by
       have:=hk1.out
       omega)
      have hJ3:Qa (J (o+(j+1)-1) wr):=⟨by rw[show o+(j+1)-1=o+j-1 by omega];exact hJ2.out⟩;clear hb0 hjt;gi_wp2;refine⟨fun f hf=>(by cases hf),?_⟩;gi_wp2;go_roundw
      case rel=>exact⟨j+1,by go_num,hjT.out,hC2,hJ3⟩
      case measure=>have:=hjT.out;simp[intOf];omega
    ·obtain rfl:j=d:=by omega
     have hJ3:Qa (J (Vu gs (k+1)-1) wr):=⟨by rw[<-ho'.out,hoo.out];exact hJ2.out⟩;clear hjt hj hsv;gi_wp2;go_roundw
     case rel=>exact⟨k+1,by go_num,hT.out,hC2,hJ3⟩
     case measure=>have:=hT.out;simp[intOf];omega
  ·obtain rfl:k=gs.length:=by omega
   gi_wp2;go_end0;exact⟨⟨_,rfl⟩,hJ.out⟩
end Gn

namespace Bk
attribute [local go_sem] Qh Qi Qk Ql Qd Qe
open Bts
def BW (k:Nat):Prop:= ∀(base p:Nat) (q:Option Nat) (L:List Int) (A:Option Addr) (cap:Nat) (l:List Int) (w:World) (hw:Wr w base p q L) (hB4:4<=base) (hL:Xn w) (hr:Y1 p q w A l.length l) (hl:l.length<=1000) (hcap:l.length<=cap) (hA:Yk l=true) (hf:Ke k l=true) (hroom:(L.length:Int)+Yp k l<=1048576),
  Calls Tryz.prog 150 #[.pointer (some ⟨p,0,none⟩),.int .i64 k,.slice A l.length cap] w fun e w'=>e= .returned (.int .i64 0)/\ ∃bs:List Int,(bs.length:Int)=Yp k l/\WrP base p q (L++bs) w w'
end Bk

namespace Bk
attribute [local go_sem] Qh Qi Qk Ql Qd Qe
open Q15
open Runs Go.Shelf
open Q16 (Q6 Za Yc)
open Q21 (Qb Qj)
open Bts
attribute [local go_sem] Oper.semAt_some
theorem bWrite_3 (base p:Nat) (q:Option Nat) (L:List Int) (k:Nat) (hk:k<8) (A:Option Addr) (cap:Nat) (l:List Int) (w:World) (hw:Wr w base p q L) (hB4:4<=base) (hL:Xn w) (hr:Y1 p q w A l.length l) (hl:l.length<=1000) (hcap:l.length<=cap) (hA:Yk l=true) (hf:Ke k l=true) (hroom:(L.length:Int)+Yp k l<=1048576) (hesc:Gc k=false) (hk0: ¬0<k):
  Calls Tryz.prog 150 #[.pointer (some ⟨p,0,none⟩),.int .i64 k,.slice A l.length cap] w fun e w'=>e= .returned (.int .i64 0)/\ ∃bs:List Int,(bs.length:Int)=Yp k l/\WrP base p q (L++bs) w w':=by
 have hkI:(k:Int)<8:=(by omega);have hu:=Tryz.underlying194;have HR:=Qa.mk hr;have hl':=Qa.mk hl;have HL:=Qa.mk hL;have HW:=Qa.mk hw;have HCost:=Qa.mk (fun(W:World) (hb:Below w.heap.size w W)=>Gy k hk A cap l W (hL.below hb) (Kd.Qf hr.1 hb) hl hcap hA hf);have HLn:=Qa.mk (fun(W:World) (hb:Below w.heap.size w W)=>Dm base p q L W (hw.step hb))
 have hc9:0<=Yp k l/\Yp k l<=104000:=by
  have h1:=Yy hk hA (l.length/Jb k);have h2:l.length/Jb k<=l.length:=Nat.div_le_self _ _;unfold Yp;omega
 have hroom':=Qa.mk hroom;obtain⟨C,hC⟩: ∃C,C=Yp k l:=⟨_,rfl⟩;rw[<-hC] at HCost hc9;have hrc:(L.length:Int)+C<=1048576:=(by rw[hC];exact hroom);replace hC:=Qa.mk hC;obtain⟨Z,hZ⟩: ∃Z:Int,Z=L.length:=⟨_,rfl⟩;have hz9:0<=Z/\Z<=2000000:=(by omega);have hzc:Qa (decide (1048576<Z+C)=false):=⟨decide_eq_false (by omega)⟩;rw[<-hZ] at HLn;replace hZ:=Qa.mk hZ;clear hrc hroom hr hl hL hw;have hmo:Tryz.prog.follows .mixedOrders =true:=(by kernel_rfl);refine(callsIn_wide (n:=3)).1 ?_;refine callsIn_of_wp_marks Tryz.func150 rfl trivial ?_ rfl;simp only[Tryz.ntmps150,List.size_toArray,List.length_cons,List.length_nil,Nat.reduceAdd,Nat.reduceSub,Array.replicate_succ,Array.replicate_zero,List.push_toArray,List.append_toArray,List.nil_append,List.cons_append];gi_wp2_with fail;obtain⟨W0,hW0⟩: ∃W0,W0=(w.alloc (.cells #[.pointer (some ⟨p,0,none⟩)] 69)).alloc (.cells #[.int .i64 k] 3):=⟨_,rfl⟩;have hb0:Below w.heap.size w W0:=(by rw[hW0];exact((Below.refl _ _).alloc (Nat.le_refl _) _).alloc (by simp) _);have c3:W0.cell? ⟨w.heap.size,0,none⟩=some (.pointer (some ⟨p,0,none⟩)):=(by rw[hW0];simp[go_sem]);have c4:W0.cell? ⟨w.heap.size+1,0,none⟩=some (.int .i64 k):=(by rw[hW0];simp[go_sem]);have hR0:=((Rws.start w).alloc #[.pointer (some ⟨p,0,none⟩)] 69).alloc #[.int .i64 k] 3;simp only[World.size_alloc,List.nil_append,List.cons_append] at hR0;rw[<-hW0] at hR0;have h3:=(hR0.blk ⟨w.heap.size, #[.pointer (some ⟨p,0,none⟩)],69⟩ (by simp)).1;have h4:=(hR0.blk ⟨w.heap.size+1, #[.int .i64 k],3⟩ (by simp)).1;dsimp only at h3 h4;clear hR0;rw[<-hW0];clear hW0;refine⟨trivial,(callsIn_wide.2 (HCost.out W0 hb0)).mono ?_⟩;rintro en w1 ⟨rfl,hb1⟩;replace c3:=cnx c3 hb1;replace c4:=cnx c4 hb1;replace h3:=Qv h3 hb1;replace h4:=Qv h4 hb1;replace hb0:=bnx hb0 hb1;clear hb1;gi_wp2_with fail;refine⟨trivial,(callsIn_wide.2 (HLn.out w1 hb0)).mono ?_⟩;rintro en w2 ⟨rfl,hw2⟩;subst hw2;replace hzc:=hzc.out;have hLz:=HL.out.below hb0;obtain⟨l1,l2,l3⟩:=hLz.form k hk;obtain⟨d,hde⟩: ∃d,d=Jb k:=⟨_,rfl⟩;obtain⟨m,hme⟩: ∃m,m=Xt k:=⟨_,rfl⟩;obtain⟨e,hee⟩: ∃e,e=Gc k:=⟨_,rfl⟩;rw[<-hde] at l1;rw[<-hme] at l2;rw[<-hee] at l3;have hd9:=Uu k;have hm9:=Vp k;rw[<-hde] at hd9;rw[<-hme] at hm9;replace hde:=Qa.mk hde;replace hme:=Qa.mk hme;replace hee:=Qa.mk hee;replace hLz:=Qa.mk hLz;obtain⟨W3,hW3⟩: ∃W3,W3=w1:=⟨_,rfl⟩;rw[<-hW3] at hb0 c3 c4 h3 h4 hLz l1 l2 l3 ⊢;clear hW3;gi_wp2_with fail;clear hzc;have HLen0:=fun(W:World) (hb:Below W3.heap.size W3 W)=>Mr k hk W (hLz.out.below hb)
 obtain⟨lz,hlz⟩: ∃lz,lz=Y8 k:=⟨_,rfl⟩;rw[<-hlz] at HLen0;have HLen:=Qa.mk HLen0;clear HLen0;replace hlz:=Qa.mk hlz;have hS:Qa (∀w':World,Below W3.heap.size W3 w'->w'.cell? ⟨2,k*3,none⟩=some (.int .i64 d)/\w'.cell? ⟨2,k*3+1,none⟩=some (.int .i64 m)/\w'.cell? ⟨2,k*3+2,none⟩=some (.bool e)/\w'.cell? ⟨w.heap.size+1,0,none⟩=some (.int .i64 k)):=⟨fun w' hb=>⟨cnx l1 hb,cnx l2 hb,cnx l3 hb,cnx c4 hb⟩⟩;refine Go.wpIn_wide.2 (wp_region_noPanic (Qt (S:=fun w'=>w'.cell? ⟨2,k*3,none⟩=some (.int .i64 d)/\w'.cell? ⟨2,k*3+1,none⟩=some (.int .i64 m)/\w'.cell? ⟨2,k*3+2,none⟩=some (.bool e)/\w'.cell? ⟨w.heap.size+1,0,none⟩=some (.int .i64 k)) (ds:=[]) hmo (hS.out _ (Below.refl _ _).drew) (fun hHeld=> ?_)));clear l1 l2 l3
 (refine Tk.tl 0 (.int .i64 k) hHeld ?_)
 (refine Tk.tl 1 (.pointer (some ⟨2,k*3,none⟩)) hHeld ?_)
 (refine Tk.tl 2 (.agg #[.int .i64 d,.int .i64 m,.bool e]) hHeld ?_)
 (refine Tk.tl 3 (.int .i64 k) hHeld ?_)
 have hRw:Qa (Rws W3 W3.drew [] []):=⟨(Rws.start W3).drew⟩;refine join_ (σ:=Value×Nat×Nat) 2 #[true,true,true,true,true,true,true,false,false] (fun s=>[(38,s.1),(9,.pointer (some ⟨s.2.1,0,none⟩)),(10,.pointer (some ⟨s.2.2,0,none⟩))]) (fun s w'=>Rws W3 w' [rI 3 s.1 lz] [⟨s.2.1, #[.int .i64 0,.int .i64 0,.bool false],194⟩,⟨s.2.2, #[.slice none 0 0],22⟩]) ?_ ?_
 ·intro s xj hRw
  obtain⟨v4,n5,n6⟩:=s;replace hRw:=Qa.mk hRw;simp only[Fp,Act.put,Tk.z1,Tk.z2,Tk.z3,Tk.z4,Tk.z5,Tk.z6] at hRw ⊢
  (refine Qg (rs:=[7]) (by kernel_rfl) (by simp) ?_;refine Qc.cons rfl (by decide) (fun K hK=> ?_) Qc.nil)
  have hG:=(hRw.out.blk ⟨n5, #[.int .i64 0,.int .i64 0,.bool false],194⟩ (by simp)).1;have z0:xj.cell? ⟨n5,0,none⟩=some (.int .i64 0):=(by rw[Yo hG];rfl);have y0:=Qj hG 0;have z1:xj.cell? ⟨n5,1,none⟩=some (.int .i64 0):=(by rw[Yo hG];rfl);have y1:=Qj hG 1;have z2:xj.cell? ⟨n5,2,none⟩=some (.bool false):=(by rw[Yo hG];rfl);have y2:=Qj hG 2;have hRx:=hRw.out;clear hG;replace hRx:=Rws.set (G1:=[]) (G2:=[⟨n6, #[.slice none 0 0],22⟩]) (b:=⟨n5, #[.int .i64 0,.int .i64 0,.bool false],194⟩) hRx 0 (.int .i64 d);simp only[List.setIfInBounds_toArray,List.set_cons_zero,List.set_cons_succ,List.nil_append,List.cons_append] at hRx;replace hRx:=Rws.set (G1:=[]) (G2:=[⟨n6, #[.slice none 0 0],22⟩]) (b:=⟨n5, #[.int .i64 d,.int .i64 0,.bool false],194⟩) hRx 1 (.int .i64 m);simp only[List.setIfInBounds_toArray,List.set_cons_zero,List.set_cons_succ,List.nil_append,List.cons_append] at hRx;replace hRx:=Rws.set (G1:=[]) (G2:=[⟨n6, #[.slice none 0 0],22⟩]) (b:=⟨n5, #[.int .i64 d,.int .i64 m,.bool false],194⟩) hRx 2 (.bool e);simp only[List.setIfInBounds_toArray,List.set_cons_zero,List.set_cons_succ,List.nil_append,List.cons_append] at hRx;replace hRx:=Qa.mk hRx;go_simp;go_wp2_with fail;refine hK.out _ _ (hS.out _ hRx.out.below) (fun hHeld=> ?_);clear hK K
  try simp only[Act.put,Tk.z1,Tk.z2,Tk.z3,Tk.z4,Tk.z5,Tk.z6]
  obtain⟨x7,hxN⟩: ∃x,x=(((xj.setCell ⟨n5,0,none⟩ (.int .i64 d)).setCell ⟨n5,1,none⟩ (.int .i64 m)).setCell ⟨n5,2,none⟩ (.bool e)):=⟨_,rfl⟩;have hRy:=hRx.out;rw[<-hxN] at hRy ⊢;replace hRw:=Qa.mk hRy;clear hxN hRx hRy z0 y0 z1 y1 z2 y2
  (refine Qg (rs:=[8]) (by kernel_rfl) (by simp) ?_;refine Qc.cons rfl (by decide) (fun K hK=> ?_) Qc.nil)
  obtain⟨A4,p4,h4e⟩:=Kd.Jm (Pv (hRw.out.row (rI 3 v4 lz) (by simp)));subst h4e;have hG:=(hRw.out.blk ⟨n6, #[.slice none 0 0],22⟩ (by simp)).1;have z0:x7.cell? ⟨n6,0,none⟩=some (.slice none 0 0):=(by rw[Yo hG];rfl);have y0:=Qj hG 0;have hRx:=hRw.out;clear hG;replace hRx:=Rws.set (G1:=[⟨n5, #[.int .i64 d,.int .i64 m,.bool e],194⟩]) (G2:=[]) (b:=⟨n6, #[.slice none 0 0],22⟩) hRx 0 ((.slice A4 lz.length p4));simp only[List.setIfInBounds_toArray,List.set_cons_zero,List.set_cons_succ,List.nil_append,List.cons_append] at hRx;replace hRx:=Qa.mk hRx;go_simp;go_wp2_with fail;refine hK.out _ _ (hS.out _ hRx.out.below) (fun hHeld=> ?_);clear hK K
  try simp only[Act.put,Tk.z1,Tk.z2,Tk.z3,Tk.z4,Tk.z5,Tk.z6]
  obtain⟨x8,hxN⟩: ∃x,x=(x7.setCell ⟨n6,0,none⟩ ((.slice A4 lz.length p4))):=⟨_,rfl⟩;have hRy:=hRx.out;rw[<-hxN] at hRy ⊢;replace hRw:=Qa.mk hRy;clear hxN hRx hRy z0 y0;refine Qq (by kernel_rfl) ?_ _;clear hHeld;refine NoPanic.normal ?_;obtain⟨W5,hW5⟩: ∃W5,W5=x8:=⟨_,rfl⟩;rw[<-hW5] at hRw ⊢;clear hW5;have hR5:=hRw.out;have hb5:=hR5.below;have G5:=hR5.blk ⟨n5, #[.int .i64 d,.int .i64 m,.bool e],194⟩ (by simp);have G6:=hR5.blk ⟨n6, #[.slice A4 lz.length p4],22⟩ (by simp);have hlR:=Pv (hR5.row (rI 3 (.slice A4 lz.length p4) lz) (by simp))
  have hl4: ∀ad,A4=some ad->w.heap.size<=ad.block:=fun ad e=>by
   subst e;have:=((Kd.Zd hlR).1 ad.block rfl).2.1;have:=hb0.size;omega
  obtain⟨A4',p4',e4,_,hC4⟩:=Kd.Qs hlR;cases e4;have g60:W5.cell? ⟨n6,0,none⟩=some (.slice A4 lz.length p4):=(by rw[Qb G6.1];rfl);have g50:W5.cell? ⟨n5,0,none⟩=some (.int .i64 d):=(by rw[Qb G5.1];rfl);have g51:W5.cell? ⟨n5,1,none⟩=some (.int .i64 m):=(by rw[Qb G5.1];rfl);have g52:W5.cell? ⟨n5,2,none⟩=some (.bool e):=(by rw[Qb G5.1];rfl);have HCo:=Qdi k hk A4 p4 W5 (by rw[<-hlz.out];exact hC4);rw[<-hlz.out] at HCo;replace HCo:=Qa.mk HCo;replace G5:=Qa.mk G5;replace G6:=Qa.mk G6;replace hl4:=Qa.mk hl4;replace hC4:=Qa.mk hC4;clear hlR hR5 hRw hHeld;gi_wp2_with fail;refine⟨trivial,(callsIn_wide.2 HCo.out).mono ?_⟩;rintro en W6 ⟨A6,m6,c6,E6,rfl,hcd,hb6⟩;replace hcd:=Qa.mk hcd;replace g50:=cnx g50 hb6;replace g51:=cnx g51 hb6;replace g52:=cnx g52 hb6;have hz5:=World.block_lt_of_cell? _ _ g50;dsimp only at hz5;clear g60;gi_wp2_with fail;obtain⟨n11,hn11⟩: ∃n11,n11=W6.heap.size:=⟨_,rfl⟩;obtain⟨W7,hW7⟩: ∃W7,W7=W6.alloc (.cells #[.slice A6 m6 c6] 22):=⟨_,rfl⟩;have hR7:=(Rws.start W6).alloc #[.slice A6 m6 c6] 22;simp only[List.nil_append,List.cons_append] at hR7;rw[<-hW7,<-hn11] at hR7;rw[<-hW7,<-hn11];refine⟨trivial,(callsIn_wide.2 (Bp d m e A l.length cap W7)).mono ?_⟩;rintro en Wc ⟨rfl,hWc⟩;obtain⟨n12,hn12⟩: ∃n12,n12=W7.heap.size:=⟨_,rfl⟩;have hsc:Wc.heap.size=n12+2:=(by rw[hWc,hn12];simp);have hRc:=(hR7.alloc #[.int .i64 d,.int .i64 m,.bool e] 194).alloc #[.slice A l.length cap] 22;simp only[World.size_alloc,List.nil_append,List.cons_append] at hRc;rw[<-hWc,<-hn12] at hRc;rw[<-hn12];have b12:Wc.cell? ⟨n12,0,none⟩=some (.int .i64 d):=(by rw[Qb (hRc.blk ⟨n12, #[.int .i64 d,.int .i64 m,.bool e],194⟩ (by simp)).1];rfl);have b13:Wc.cell? ⟨n12+1,0,none⟩=some (.slice A l.length cap):=(by rw[Qb (hRc.blk ⟨n12+1, #[.slice A l.length cap],22⟩ (by simp)).1];rfl);have hb56:=bnx (bnx hb5 hb6) hRc.below;have hbc:Below w.heap.size w Wc:=bnx hb0 hb56
  have hOwn:Ps p q Wc [⟨w.heap.size, #[.pointer (some ⟨p,0,none⟩)],69⟩,⟨w.heap.size+1, #[.int .i64 k],3⟩,⟨n5, #[.int .i64 d,.int .i64 m,.bool e],194⟩,⟨n6, #[.slice A4 lz.length p4],22⟩,⟨n11, #[.slice A6 m6 c6],22⟩,⟨n12, #[.int .i64 d,.int .i64 m,.bool e],194⟩,⟨n12+1, #[.slice A l.length cap],22⟩]:=ownB_of HW.out (fun b hb=>by
   have s0:=hb0.size;have s5:=hb5.size;have s6:=hb6.size;have r5:=G5.out.2;have r6:=G6.out.2;have r11:=(hRc.blk ⟨n11, #[.slice A6 m6 c6],22⟩ (by simp)).2;have r12:=(hRc.blk ⟨n12, #[.int .i64 d,.int .i64 m,.bool e],194⟩ (by simp)).2;dsimp only at r5 r6 r11 r12;simp only[List.mem_cons,List.not_mem_nil,or_false] at hb;rcases hb with rfl|rfl|rfl|rfl|rfl|rfl|rfl
   ·exact⟨Qv h3 hb56,Nat.le_refl _⟩
   ·exact⟨Qv h4 hb56,by simp⟩
   ·exact⟨Qv G5.out.1 (bnx hb6 hRc.below),by dsimp only;omega⟩
   ·exact⟨Qv G6.out.1 (bnx hb6 hRc.below),by dsimp only;omega⟩
   ·exact⟨(hRc.blk ⟨n11, #[.slice A6 m6 c6],22⟩ (by simp)).1,by dsimp only;omega⟩
   ·exact⟨(hRc.blk ⟨n12, #[.int .i64 d,.int .i64 m,.bool e],194⟩ (by simp)).1,by dsimp only;omega⟩
   ·exact⟨(hRc.blk ⟨n12+1, #[.slice A l.length cap],22⟩ (by simp)).1,by dsimp only;omega⟩)
  have hFl:Y1 p q Wc A l.length l:=HR.out.step hbc;have hFz:Y1 p q Wc A4 lz.length lz:=Ef HW.out (Kd.Qf hC4.out (bnx hb6 hRc.below)) hl4.out
  have hFw:0<k->m6=lz.length/\Y1 p q Wc A6 m6 (Pre.Ji lz):=fun h0=>by
   obtain⟨e1,e2,e3⟩:=hcd.out h0;exact⟨e1,Ef HW.out (Kd.Qf e2 hRc.below) (fun ad e=>by have:=e3 ad e;have:=hb0.size;have:=hb5.size;omega)⟩
  have hWrc:=HW.out.step hbc;replace hOwn:=Qa.mk hOwn;replace hFl:=Qa.mk hFl;replace hFz:=Qa.mk hFz;replace hFw:=Qa.mk hFw;replace hWrc:=Qa.mk hWrc;replace hbc:=Qa.mk hbc;replace hsc:=Qa.mk hsc;clear hW7 hn11 hWc hn12 hR7 hRc hb56 hcd hC4 hl4 G5 G6 h3 h4 c3 c4 g50 g51 g52 hz5 hb5 hb6 HR HCo hb0;gi_wp2_with fail
  have hAs:Qa (0<l.length-> ∃ad,A=some ad):=⟨fun h=>by
   obtain⟨ad,e,_⟩:=Qn hFl.out.1 (Below.refl _ _) h
   exact⟨ad,e⟩⟩
  refine Yt rfl (by omega) (gf:=221) (lb:= #[.pointer (some ⟨n12,0,none⟩),.pointer (some ⟨n12+1,0,none⟩)]) rfl trivial (enters_of Tryz.func221 (by kernel_rfl) rfl)
   (Mm Fence.wide _ trivial rfl (by omega) n12 (n12+1) A cap l.length d hd9 (by have:=hl'.out;omega) hcap hAs.out Wc b12 b13)
   (fun h k=>h.trans k) (fun W l' o o' hl'=>Td.putObj (N:=Wc.heap.size) (by have:=hsc.out;omega) (by have:=hsc.out;omega) W l' o o' hl') (Below.refl _ _) (fun _=>rfl)
   (fun j W=> ∃bs:List Int,(bs.length:Int)=Zb k l j/\WrP base p q (L++bs) Wc W)
   ?own ?start
   (fun j=>{tmps:= #[.pointer (some ⟨p,0,none⟩),.int .i64 k,.slice A l.length cap,.pointer (some ⟨w.heap.size,0,none⟩),.pointer (some ⟨w.heap.size+1,0,none⟩),undef,.int .i64 0,.int .i64 C,.int .i64 0,.pointer (some ⟨n5,0,none⟩),.pointer (some ⟨n6,0,none⟩),.pointer (some ⟨n11,0,none⟩),.int .i64 E6,gSl A (j*d) d,undef,undef,undef,undef,.pointer (some ⟨p,0,none⟩),.bool false,.tuple #[.int .i64 C,.int .i64 0],.int .i64 k,.slice A l.length cap,.tuple #[.int .i64 C,.int .i64 0],.int .i64 C,.int .i64 0,.int .i64 0,.bool false,undef,.pointer (some ⟨p,0,none⟩),.int .i64 Z,.int .i64 C,.int .i64 (Z+C),.bool false,.int .i64 k,.pointer (some ⟨2,k*3,none⟩),.agg #[.int .i64 d,.int .i64 m,.bool e],.int .i64 k,.slice A4 lz.length p4,.tuple #[.slice A6 m6 c6,.int .i64 E6],.slice A4 lz.length p4,.tuple #[.slice A6 m6 c6,.int .i64 E6],.slice A6 m6 c6,.int .i64 E6,.agg #[.int .i64 d,.int .i64 m,.bool e],.slice A l.length cap,.func (.func 221) #[] #[.pointer (some ⟨n12,0,none⟩),.pointer (some ⟨n12+1,0,none⟩)],gSl A (j*d) d,undef,undef,undef,undef,undef,undef,undef,undef,undef,undef,undef,undef,undef,undef,undef,undef,undef,undef,undef,undef,undef,undef,undef,undef,undef,undef,undef,undef,undef,undef,undef,undef,undef,undef,undef,undef,undef,undef,undef,undef,undef,undef,undef,undef,undef,undef],defers:=[]}) ?assign ?body ?done
  case own=>exact fun j W W' row ⟨bs,e1,e2⟩ hg hrow=>⟨bs,e1,WrP.turn e2 hg (fun r e=>⟨(hrow r e).1,(hrow r e).2⟩)⟩
  case start=>exact⟨[],rfl,by rw[List.append_nil];exact Bts.WrP.refl hWrc.out⟩
  case assign=>
   intro l' j W K _ hK;gi_wp2;exact hK
  case body=>
   rintro Lr j W ⟨bs,hbs,q1,hWr,hq1,hkp⟩ hj;obtain⟨ad,rfl⟩:=hAs.out (by have:=El hd9.1 hj;omega);have hjd:=El hd9.1 hj;have hO:=hOwn.out.kp hkp hq1;have hFl1:=hFl.out.kp hkp hq1;have hFz1:=hFz.out.kp hkp hq1;have hFw1:0<k->m6=lz.length/\Y1 p q1 W A6 m6 (Pre.Ji lz):=fun h0=>⟨(hFw.out h0).1,(hFw.out h0).2.kp hkp hq1⟩
   have hGf:=far_grp hd9.1 hFl1 hjd;have hgl:=Qcy hjd;have hga:=Pb (d:=d) (j:=j) hA;have hst:Zb k l (j+1)=Zb k l j+F5 k (Kg d l j):=(by rw[hde.out];rfl);have hmono:Zb k l (j+1)<=Yp k l:=Ia hk hA (show j+1<=l.length/Jb k by rw[<-hde.out];exact hj);have hc09:=Yy hk hA j;obtain⟨ag,hag⟩: ∃ag,ag=ad.add (j*d):=⟨_,rfl⟩;obtain⟨gr,hgr⟩: ∃gr,gr=Kg d l j:=⟨_,rfl⟩;rw[<-hag,<-hgr] at hGf;rw[<-hgr] at hgl hga hst;obtain⟨c0,hc0⟩: ∃c0,c0=Zb k l j:=⟨_,rfl⟩;rw[<-hc0] at hst hbs hc09;obtain⟨bT,hbTe⟩: ∃bT:Nat->Int,bT=fun i=>((gr.take i).map (Jw m e)).sum :=⟨_,rfl⟩
   have hbT0:bT 0=0:=(by rw[hbTe];simp);have hbTs: ∀i,i<d->bT (i+1)=bT i+Jw m e (rd gr i):=fun i hi=>by rw[hbTe];dsimp only;rw[Qu gr i (by omega),List.map_append,List.sum_append];simp
   have hbTm: ∀i,i<=d->bT i<=bT d:=fun i hi=>by rw[hbTe];exact sum_mono (fun x hx=>(H6 hm9 (Y5 hga hx)).1) hi
   have hbTd:bT d=besS k gr:=(by rw[hbTe,<-hgl];dsimp only;rw[List.take_length,hme.out,hee.out];rfl);have hwb:=Qcn hk gr;have hE:F5 k gr=(if 0<k then wlI k gr else 0)+besS k gr:=rfl;obtain⟨E0,hE0⟩: ∃E0:Int,E0=(if 0<k then wlI k gr else 0):=⟨_,rfl⟩;rw[<-hE0] at hE;obtain⟨L1,hL1⟩: ∃L1,L1=L++bs:=⟨_,rfl⟩;rw[<-hL1] at hWr;have hL1l:(L1.length:Int)=L.length+c0:=(by rw[hL1,List.length_append,<-hbs];push_cast;rfl);have hRm:(L1.length:Int)+(E0+bT d)<=1048576:=(by have:=hroom'.out;omega);have hfin: ∀bs2:List Int,(bs2.length:Int)=E0+bT d->((bs++bs2).length :Int)=Zb k l (j+1):=fun bs2 h=>by rw[List.length_append];push_cast;omega
   simp only[gSl];rw[<-hag];have q3:W.cell? ⟨w.heap.size,0,none⟩=some (.pointer (some ⟨p,0,none⟩)):=(by rw[Qb (hO ⟨w.heap.size, #[.pointer (some ⟨p,0,none⟩)],69⟩ (by simp)).1];rfl);have q4:W.cell? ⟨w.heap.size+1,0,none⟩=some (.int .i64 k):=(by rw[Qb (hO ⟨w.heap.size+1, #[.int .i64 k],3⟩ (by simp)).1];rfl);have q50:W.cell? ⟨n5,0,none⟩=some (.int .i64 d):=(by rw[Qb (hO ⟨n5, #[.int .i64 d,.int .i64 m,.bool e],194⟩ (by simp)).1];rfl);have q51:W.cell? ⟨n5,1,none⟩=some (.int .i64 m):=(by rw[Qb (hO ⟨n5, #[.int .i64 d,.int .i64 m,.bool e],194⟩ (by simp)).1];rfl);have q52:W.cell? ⟨n5,2,none⟩=some (.bool e):=(by rw[Qb (hO ⟨n5, #[.int .i64 d,.int .i64 m,.bool e],194⟩ (by simp)).1];rfl);have q60:W.cell? ⟨n6,0,none⟩=some (.slice A4 lz.length p4):=(by rw[Qb (hO ⟨n6, #[.slice A4 lz.length p4],22⟩ (by simp)).1];rfl);have q11:W.cell? ⟨n11,0,none⟩=some (.slice A6 m6 c6):=(by rw[Qb (hO ⟨n11, #[.slice A6 m6 c6],22⟩ (by simp)).1];rfl);have hz5:=World.block_lt_of_cell? _ _ q50;dsimp only at hz5;replace hO:=Qa.mk hO;replace hGf:=Qa.mk hGf;replace hWr:=Qa.mk hWr;replace hq1:=Qa.mk hq1;replace hkp:=Qa.mk hkp;replace hbT0:=Qa.mk hbT0;replace hbTs:=Qa.mk hbTs;replace hbTm:=Qa.mk hbTm;replace hRm:=Qa.mk hRm;replace hfin:=Qa.mk hfin;replace hga:=Qa.mk hga;replace hbs:=Qa.mk hbs;replace hL1:=Qa.mk hL1;clear hbTe hbTd hst hc0 hgr hag hmono hFl1 hjd hj hL1l hroom';have hgl:=Qa.mk hgl;obtain rfl:e=false:=(by rw[hee.out];exact hesc);have hk0I:decide ((0:Int)<(k:Int))=false:=decide_eq_false (by omega);have hP3:Qa (∃b2:List Int,(b2.length:Int)=E0+bT 0/\WrP base p q1 (L1++b2) W W):=⟨[],by rw[hbT0.out,hE0,if_neg hk0];rfl,by rw[List.append_nil];exact Bts.WrP.refl hWr.out⟩;clear hFw1 hFz1 hwb hE0 hE;gi_wp2_with fail;obtain⟨wz,hwz⟩: ∃wz:World,wz=W:=⟨_,rfl⟩;have hPz:Qa (∃b2:List Int,(b2.length:Int)=E0+bT 0/\WrP base p q1 (L1++b2) W wz):=(by rw[hwz];exact hP3);rw[<-hwz];clear hwz hP3 q3 q4 q50 q51 q52 q60 q11 hz5;gi_wp2_with fail;obtain⟨wo,hwo⟩: ∃wo:World,wo=wz:=⟨_,rfl⟩;rw[<-hwo] at hPz ⊢;clear hwo;gi_loopw [65] (fun x wr=> ∃i:Nat,x= .int .i64 i/\i<=d/\Qa (∃b2:List Int,(b2.length:Int)=E0+bT i/\WrP base p q1 (L1++b2) W wr)) (fun x _=>d-(intOf x).toNat)
   case atStart=>exact⟨0,rfl,by omega,hPz⟩
   case round=>
    obtain⟨i,rfl,hi,hrl⟩:=hrel;obtain⟨b2,hb2,q2,hWr2,hq2,hkp2⟩:=hrl.out;replace hb2:=Qa.mk hb2;replace hWr2:=Qa.mk hWr2;replace hq2:=Qa.mk hq2;replace hkp2:=Qa.mk hkp2;by_cases hlt:i<d
    ·have hO2:=hO.out.kp hkp2.out hq2.out
     have hG2:=hGf.out.kp hkp2.out hq2.out;obtain⟨ad2,had2,hcell⟩:=Qn hG2.1 (Below.refl _ _) (show i<gr.length by have:=hgl.out;omega);cases had2;have hv:=Y5 hga.out (Qp gr i (by have:=hgl.out;omega));have hbs1:=hbTs.out i hlt;have hbm:=hbTm.out (i+1) (by omega);have hrm:=hRm.out;have hb2l:=hb2.out;obtain⟨v,hve⟩: ∃v,v=rd gr i:=⟨_,rfl⟩;rw[<-hve] at hcell hbs1 hv;have hiI:(i:Int)<(d:Int):=(by omega);have r3:wr.cell? ⟨w.heap.size,0,none⟩=some (.pointer (some ⟨p,0,none⟩)):=(by rw[Qb (hO2 ⟨w.heap.size, #[.pointer (some ⟨p,0,none⟩)],69⟩ (by simp)).1];rfl);replace hO2:=Qa.mk hO2;clear hG2 hve;by_cases hv0:v=0
     ·have hz0:Qa (bT (i+1)=bT i):=⟨by rw[hbs1];unfold Jw;rw[if_pos hv0];omega⟩
      clear hbs1 hbm hrm hb2l;subst hv0;gi_wp2;go_roundw
      case rel=>exact⟨i+1,by go_num,by omega,⟨b2,by rw[hb2.out,hz0.out],q2,hWr2.out,hq2.out,hkp2.out⟩⟩
      case measure=>simp[intOf];omega
     ·have hvn:(v==0)=false:=by simpa using hv0
      by_cases hneg:v<0
      ·have hb91:1<=Jw m false v:=by unfold Jw;rw[if_neg hv0];split<;>first|(unfold Xb;omega)|omega
       have HP1:Calls Tryz.prog 84 #[.pointer (some ⟨p,0,none⟩),.int .i64 1,.int .i64 1] wr fun en w'=> ∃E:Int,en= .returned (.int .i64 E)/\WrP base p q2 (L1++b2++Yj 1 1) wr w':=G9 (v:=1) (n:=1) hWr2.out (by omega) (by omega) (by rw[List.length_append];omega)
       replace HP1:=Qa.mk HP1;replace hbs1:=Qa.mk hbs1;replace hbm:=Qa.mk hbm;replace hrm:=Qa.mk hrm;replace hb2l:=Qa.mk hb2l;replace hb91:=Qa.mk hb91;gi_wp2_with fail;refine⟨trivial,CallsIn.inRound Lr (callsIn_wide.2 (HP1.out.mono ?_))⟩;rintro en W3 ⟨E3,rfl,q3,hWr3,hq3,hkp3⟩;have hO3:=hO2.out.kp hkp3 hq3;have s3:W3.cell? ⟨w.heap.size,0,none⟩=some (.pointer (some ⟨p,0,none⟩)):=(by rw[Qb (hO3 ⟨w.heap.size, #[.pointer (some ⟨p,0,none⟩)],69⟩ (by simp)).1];rfl);have s50:W3.cell? ⟨n5,0,none⟩=some (.int .i64 d):=(by rw[Qb (hO3 ⟨n5, #[.int .i64 d,.int .i64 m,.bool false],194⟩ (by simp)).1];rfl);have s51:W3.cell? ⟨n5,1,none⟩=some (.int .i64 m):=(by rw[Qb (hO3 ⟨n5, #[.int .i64 d,.int .i64 m,.bool false],194⟩ (by simp)).1];rfl);have s52:W3.cell? ⟨n5,2,none⟩=some (.bool false):=(by rw[Qb (hO3 ⟨n5, #[.int .i64 d,.int .i64 m,.bool false],194⟩ (by simp)).1];rfl);have hn1:(Yj 1 1).length =1:=Yf _ _;obtain⟨B3,hB3⟩: ∃B3,B3=b2++Yj 1 1:=⟨_,rfl⟩;have hB3l:(B3.length:Int)=E0+bT i+1:=(by rw[hB3,List.length_append];have:=hb2.out;push_cast;omega);rw[List.append_assoc,<-hB3] at hWr3;clear hB3 hn1;replace hWr3:=Qa.mk hWr3;replace hq3:=Qa.mk hq3;replace hkp3:=Qa.mk hkp3;replace hB3l:=Qa.mk hB3l;clear HP1 hO3;gi_wp2_with fail;refine Held.Xd (fun w'=>w'.cell? ⟨n5,1,none⟩=some (.int .i64 m)/\w'.cell? ⟨n5,2,none⟩=some (.bool false)/\Below W3.heap.size W3 w') hmo (by kernel_rfl) (fun⟨_,_,h⟩=>h) ⟨s51,s52,(Below.refl _ _).drew⟩ (fun hHeld=> ?_)
       (refine Tk.tk 0 (.pointer (some ⟨n5,2,none⟩)) hHeld ?_)
       (refine Tk.tk 1 (.bool false) hHeld ?_)
       (refine Tk.tk 2 (.bool false) hHeld ?_)
       (refine Tk.tz 3 hHeld ?_)
       (refine Tk.tz 4 hHeld ?_)
       (refine Tk.tz 5 hHeld ?_)
       (refine Tk.tz 6 hHeld ?_)
       (refine Tk.tz 7 hHeld ?_)
       (refine Tk.tk 8 (.bool false) hHeld ?_)
       refine wpAnyH_done (by kernel_rfl) ?_ _;obtain⟨u51,u52,hh⟩:=hHeld;have hbq:bT (i+1)=bT i+1:=(by rw[hbs1.out];unfold Jw;rw[if_neg hv0,if_neg (by simp)]);have hnew:Qa (∃b2:List Int,(b2.length:Int)=E0+bT (i+1)/\WrP base p q1 (L1++b2) W _):=⟨B3,by rw[hB3l.out,hbq];omega,WrP.step (Bts.WrP.trans hkp2.out hq2.out ⟨q3,hWr3.out,hq3.out,hkp3.out⟩) hh⟩;clear s3 s50 s51 s52 u51 u52 hh hbq;gi_wp2;go_roundw
       case rel=>exact⟨i+1,by go_num,by omega,hnew⟩
       case measure=>simp[intOf];omega
      ·have hneg':0<=v:=by omega
       have hb91:1<=Jw m false v:=(by unfold Jw;rw[if_neg hv0];split<;>first|(unfold Xb;omega)|omega);have HP1:Calls Tryz.prog 84 #[.pointer (some ⟨p,0,none⟩),.int .i64 0,.int .i64 1] wr fun en w'=> ∃E:Int,en= .returned (.int .i64 E)/\WrP base p q2 (L1++b2++Yj 0 1) wr w':=G9 (v:=0) (n:=1) hWr2.out (by omega) (by omega) (by rw[List.length_append];omega)
       replace HP1:=Qa.mk HP1;replace hbs1:=Qa.mk hbs1;replace hbm:=Qa.mk hbm;replace hrm:=Qa.mk hrm;replace hb2l:=Qa.mk hb2l;replace hb91:=Qa.mk hb91;gi_wp2_with fail;refine⟨trivial,CallsIn.inRound Lr (callsIn_wide.2 (HP1.out.mono ?_))⟩;rintro en W3 ⟨E3,rfl,q3,hWr3,hq3,hkp3⟩;have hO3:=hO2.out.kp hkp3 hq3;have s3:W3.cell? ⟨w.heap.size,0,none⟩=some (.pointer (some ⟨p,0,none⟩)):=(by rw[Qb (hO3 ⟨w.heap.size, #[.pointer (some ⟨p,0,none⟩)],69⟩ (by simp)).1];rfl);have s50:W3.cell? ⟨n5,0,none⟩=some (.int .i64 d):=(by rw[Qb (hO3 ⟨n5, #[.int .i64 d,.int .i64 m,.bool false],194⟩ (by simp)).1];rfl);have s51:W3.cell? ⟨n5,1,none⟩=some (.int .i64 m):=(by rw[Qb (hO3 ⟨n5, #[.int .i64 d,.int .i64 m,.bool false],194⟩ (by simp)).1];rfl);have s52:W3.cell? ⟨n5,2,none⟩=some (.bool false):=(by rw[Qb (hO3 ⟨n5, #[.int .i64 d,.int .i64 m,.bool false],194⟩ (by simp)).1];rfl);have hn1:(Yj 0 1).length =1:=Yf _ _;obtain⟨B3,hB3⟩: ∃B3,B3=b2++Yj 0 1:=⟨_,rfl⟩;have hB3l:(B3.length:Int)=E0+bT i+1:=(by rw[hB3,List.length_append];have:=hb2.out;push_cast;omega);rw[List.append_assoc,<-hB3] at hWr3;clear hB3 hn1;replace hWr3:=Qa.mk hWr3;replace hq3:=Qa.mk hq3;replace hkp3:=Qa.mk hkp3;replace hB3l:=Qa.mk hB3l;clear HP1 hO3;gi_wp2_with fail;refine Held.Xd (fun w'=>w'.cell? ⟨n5,1,none⟩=some (.int .i64 m)/\w'.cell? ⟨n5,2,none⟩=some (.bool false)/\Below W3.heap.size W3 w') hmo (by kernel_rfl) (fun⟨_,_,h⟩=>h) ⟨s51,s52,(Below.refl _ _).drew⟩ (fun hHeld=> ?_)
       (refine Tk.tk 0 (.pointer (some ⟨n5,2,none⟩)) hHeld ?_)
       (refine Tk.tk 1 (.bool false) hHeld ?_)
       (refine Tk.tk 2 (.bool false) hHeld ?_)
       (refine Tk.tz 3 hHeld ?_)
       (refine Tk.tz 4 hHeld ?_)
       (refine Tk.tz 5 hHeld ?_)
       (refine Tk.tz 6 hHeld ?_)
       (refine Tk.tz 7 hHeld ?_)
       (refine Tk.tk 8 (.bool false) hHeld ?_)
       refine wpAnyH_done (by kernel_rfl) ?_ _;obtain⟨u51,u52,hh⟩:=hHeld;have hbq:bT (i+1)=bT i+1:=(by rw[hbs1.out];unfold Jw;rw[if_neg hv0,if_neg (by simp)]);have hnew:Qa (∃b2:List Int,(b2.length:Int)=E0+bT (i+1)/\WrP base p q1 (L1++b2) W _):=⟨B3,by rw[hB3l.out,hbq];omega,WrP.step (Bts.WrP.trans hkp2.out hq2.out ⟨q3,hWr3.out,hq3.out,hkp3.out⟩) hh⟩;clear s3 s50 s51 s52 u51 u52 hh hbq;gi_wp2;go_roundw
       case rel=>exact⟨i+1,by go_num,by omega,hnew⟩
       case measure=>simp[intOf];omega
    ·obtain rfl:d=i:=by omega
     gi_wp2;refine⟨(Vy hkp2.out hWr.out).from _,?_,bs++b2,hfin.out b2 hb2.out,?_⟩
     ·have hB:=hO.out.kp hkp2.out hq2.out
      have g12:=(hO.out ⟨n12, #[.int .i64 d,.int .i64 m,.bool false],194⟩ (by simp)).1;have g13:=(hO.out ⟨n12+1, #[.slice (some ad) l.length cap],22⟩ (by simp)).1;have k12:=(hB ⟨n12, #[.int .i64 d,.int .i64 m,.bool false],194⟩ (by simp)).1;have k13:=(hB ⟨n12+1, #[.slice (some ad) l.length cap],22⟩ (by simp)).1;exact⟨k12.trans g12.symm,k13.trans g13.symm⟩
     ·rw[<-List.append_assoc,<-hL1.out]
      exact Bts.WrP.trans hkp.out hq1.out ⟨q2,hWr2.out,hq2.out,hkp2.out⟩
  case done=>
   rintro D W hD ⟨bs,hbs,hP⟩ hDf;have hgD:=grownBy_putObj' W D (.deferred none);have h1:=WrP.turn hP hgD (fun r e=>by cases e;exact⟨hD,_,hDf,rfl⟩);have hfin:Qa (∃bs:List Int,(bs.length:Int)=Yp k l/\WrP base p q (L++bs) w (W.putObj D (.deferred none))):=⟨bs,by rw[hbs,hde.out];rfl,Bts.WrP.trans (Kp.of_below hbc.out p q) (.inl rfl) h1⟩;clear h1 hP hbs;gi_wp2;refine⟨by simp,.inl ⟨_,_,rfl,run_takeDeferred hDf,?_⟩⟩;exact⟨.int .i64 0,by simp[results,Tryz.f150,go_sem],rfl,hfin.out⟩
 ·intro hJ1
  replace hJ1:=Qa.mk hJ1;refine Qg (rs:=[4,5,6]) (by kernel_rfl) (by simp) ?_;refine Qc.cons rfl (by decide) (fun K hK=> ?_) (Qc.cons rfl (by decide) (fun K hK=> ?_) (Qc.cons rfl (by decide) (fun K hK=> ?_) (Qc.nil)))
  ·go_simp
   refine(HLen.out _ hRw.out.below).mono ?_;rintro e x4 ⟨v4,rfl,Rn,hbn⟩;have hRx:=hRw.out.call hbn (r:=rI 3 v4 lz) (Kd.Yg Rn) (Nat.le_refl _);clear Rn hbn;go_wp2_with fail;refine hK.out _ _ (hS.out _ hRx.below) (fun hHeld=> ?_);clear hK K
   try simp only[Act.put,Tk.z1,Tk.z2,Tk.z3,Tk.z4,Tk.z5,Tk.z6]
   simp only[List.nil_append,List.cons_append] at hRx;replace hRw:=Qa.mk hRx;clear hRx;refine Qg (rs:=[5,6]) (by kernel_rfl) (by simp) ?_;refine Qc.cons rfl (by decide) (fun K hK=> ?_) (Qc.cons rfl (by decide) (fun K hK=> ?_) (Qc.nil))
   ·refine Zo (w1:=x4.alloc (.cells #[.int .i64 0,.int .i64 0,.bool false] 194)) (v:= .pointer (some ⟨x4.heap.size,0,none⟩)) (by kernel_rfl) rfl (by kernel_rfl) ?_
    have hRx:=hRw.out.alloc #[.int .i64 0,.int .i64 0,.bool false] 194;refine hK.out _ _ (hS.out _ hRx.below) (fun hHeld=> ?_);clear hK K
    try simp only[Act.put,Tk.z1,Tk.z2,Tk.z3,Tk.z4,Tk.z5,Tk.z6]
    obtain⟨x5,hxN⟩: ∃x,x=x4.alloc (.cells #[.int .i64 0,.int .i64 0,.bool false] 194):=⟨_,rfl⟩;obtain⟨n5,hnN⟩: ∃n,n=x4.heap.size:=⟨_,rfl⟩;rw[<-hxN] at hRx ⊢;rw[<-hnN] at hRx ⊢;clear hxN hnN;simp only[List.nil_append,List.cons_append] at hRx;replace hRw:=Qa.mk hRx;clear hRx
    (refine Qg (rs:=[6]) (by kernel_rfl) (by simp) ?_;refine Qc.cons rfl (by decide) (fun K hK=> ?_) Qc.nil)
    refine Zo (w1:=x5.alloc (.cells #[.slice none 0 0] 22)) (v:= .pointer (some ⟨x5.heap.size,0,none⟩)) (by kernel_rfl) rfl (by kernel_rfl) ?_;have hRx:=hRw.out.alloc #[.slice none 0 0] 22;refine hK.out _ _ (hS.out _ hRx.below) (fun hHeld=> ?_);clear hK K
    try simp only[Act.put,Tk.z1,Tk.z2,Tk.z3,Tk.z4,Tk.z5,Tk.z6]
    obtain⟨x6,hxN⟩: ∃x,x=x5.alloc (.cells #[.slice none 0 0] 22):=⟨_,rfl⟩;obtain⟨n6,hnN⟩: ∃n,n=x5.heap.size:=⟨_,rfl⟩;rw[<-hxN] at hRx ⊢;rw[<-hnN] at hRx ⊢;clear hxN hnN;simp only[List.nil_append,List.cons_append] at hRx;replace hRw:=Qa.mk hRx;clear hRx;exact U8 (by kernel_rfl) (by kernel_rfl) (hJ1.out (v4,n5,n6) _ hRw.out)
   ·refine Zo (w1:=x4.alloc (.cells #[.slice none 0 0] 22)) (v:= .pointer (some ⟨x4.heap.size,0,none⟩)) (by kernel_rfl) rfl (by kernel_rfl) ?_
    have hRx:=hRw.out.alloc #[.slice none 0 0] 22;refine hK.out _ _ (hS.out _ hRx.below) (fun hHeld=> ?_);clear hK K
    try simp only[Act.put,Tk.z1,Tk.z2,Tk.z3,Tk.z4,Tk.z5,Tk.z6]
    obtain⟨x6,hxN⟩: ∃x,x=x4.alloc (.cells #[.slice none 0 0] 22):=⟨_,rfl⟩;obtain⟨n6,hnN⟩: ∃n,n=x4.heap.size:=⟨_,rfl⟩;rw[<-hxN] at hRx ⊢;rw[<-hnN] at hRx ⊢;clear hxN hnN;simp only[List.nil_append,List.cons_append] at hRx;replace hRw:=Qa.mk hRx;clear hRx
    (refine Qg (rs:=[5]) (by kernel_rfl) (by simp) ?_;refine Qc.cons rfl (by decide) (fun K hK=> ?_) Qc.nil)
    refine Zo (w1:=x6.alloc (.cells #[.int .i64 0,.int .i64 0,.bool false] 194)) (v:= .pointer (some ⟨x6.heap.size,0,none⟩)) (by kernel_rfl) rfl (by kernel_rfl) ?_;have hRx:=hRw.out.alloc #[.int .i64 0,.int .i64 0,.bool false] 194;refine hK.out _ _ (hS.out _ hRx.below) (fun hHeld=> ?_);clear hK K
    try simp only[Act.put,Tk.z1,Tk.z2,Tk.z3,Tk.z4,Tk.z5,Tk.z6]
    obtain⟨x5,hxN⟩: ∃x,x=x6.alloc (.cells #[.int .i64 0,.int .i64 0,.bool false] 194):=⟨_,rfl⟩;obtain⟨n5,hnN⟩: ∃n,n=x6.heap.size:=⟨_,rfl⟩;rw[<-hxN] at hRx ⊢;rw[<-hnN] at hRx ⊢;clear hxN hnN;simp only[List.nil_append,List.cons_append] at hRx;replace hRx:=Rws.intoG (G1:=[]) (G2:=[⟨n6, #[.slice none 0 0],22⟩]) (b:=⟨n5, #[.int .i64 0,.int .i64 0,.bool false],194⟩) hRx;simp only[List.nil_append,List.cons_append] at hRx;replace hRw:=Qa.mk hRx;clear hRx;exact U8 (by kernel_rfl) (by kernel_rfl) (hJ1.out (v4,n5,n6) _ hRw.out)
  ·refine Zo (w1:=W3.drew.alloc (.cells #[.int .i64 0,.int .i64 0,.bool false] 194)) (v:= .pointer (some ⟨W3.drew.heap.size,0,none⟩)) (by kernel_rfl) rfl (by kernel_rfl) ?_
   have hRx:=hRw.out.alloc #[.int .i64 0,.int .i64 0,.bool false] 194;refine hK.out _ _ (hS.out _ hRx.below) (fun hHeld=> ?_);clear hK K
   try simp only[Act.put,Tk.z1,Tk.z2,Tk.z3,Tk.z4,Tk.z5,Tk.z6]
   obtain⟨x5,hxN⟩: ∃x,x=W3.drew.alloc (.cells #[.int .i64 0,.int .i64 0,.bool false] 194):=⟨_,rfl⟩;obtain⟨n5,hnN⟩: ∃n,n=W3.drew.heap.size:=⟨_,rfl⟩;rw[<-hxN] at hRx ⊢;rw[<-hnN] at hRx ⊢;clear hxN hnN;simp only[List.nil_append,List.cons_append] at hRx;replace hRw:=Qa.mk hRx;clear hRx;refine Qg (rs:=[4,6]) (by kernel_rfl) (by simp) ?_;refine Qc.cons rfl (by decide) (fun K hK=> ?_) (Qc.cons rfl (by decide) (fun K hK=> ?_) (Qc.nil))
   ·go_simp
    refine(HLen.out _ hRw.out.below).mono ?_;rintro e x4 ⟨v4,rfl,Rn,hbn⟩;have hRx:=hRw.out.call hbn (r:=rI 3 v4 lz) (Kd.Yg Rn) (Nat.le_refl _);clear Rn hbn;go_wp2_with fail;refine hK.out _ _ (hS.out _ hRx.below) (fun hHeld=> ?_);clear hK K
    try simp only[Act.put,Tk.z1,Tk.z2,Tk.z3,Tk.z4,Tk.z5,Tk.z6]
    simp only[List.nil_append,List.cons_append] at hRx;replace hRw:=Qa.mk hRx;clear hRx
    (refine Qg (rs:=[6]) (by kernel_rfl) (by simp) ?_;refine Qc.cons rfl (by decide) (fun K hK=> ?_) Qc.nil)
    refine Zo (w1:=x4.alloc (.cells #[.slice none 0 0] 22)) (v:= .pointer (some ⟨x4.heap.size,0,none⟩)) (by kernel_rfl) rfl (by kernel_rfl) ?_;have hRx:=hRw.out.alloc #[.slice none 0 0] 22;refine hK.out _ _ (hS.out _ hRx.below) (fun hHeld=> ?_);clear hK K
    try simp only[Act.put,Tk.z1,Tk.z2,Tk.z3,Tk.z4,Tk.z5,Tk.z6]
    obtain⟨x6,hxN⟩: ∃x,x=x4.alloc (.cells #[.slice none 0 0] 22):=⟨_,rfl⟩;obtain⟨n6,hnN⟩: ∃n,n=x4.heap.size:=⟨_,rfl⟩;rw[<-hxN] at hRx ⊢;rw[<-hnN] at hRx ⊢;clear hxN hnN;simp only[List.nil_append,List.cons_append] at hRx;replace hRw:=Qa.mk hRx;clear hRx;exact U8 (by kernel_rfl) (by kernel_rfl) (hJ1.out (v4,n5,n6) _ hRw.out)
   ·refine Zo (w1:=x5.alloc (.cells #[.slice none 0 0] 22)) (v:= .pointer (some ⟨x5.heap.size,0,none⟩)) (by kernel_rfl) rfl (by kernel_rfl) ?_
    have hRx:=hRw.out.alloc #[.slice none 0 0] 22;refine hK.out _ _ (hS.out _ hRx.below) (fun hHeld=> ?_);clear hK K
    try simp only[Act.put,Tk.z1,Tk.z2,Tk.z3,Tk.z4,Tk.z5,Tk.z6]
    obtain⟨x6,hxN⟩: ∃x,x=x5.alloc (.cells #[.slice none 0 0] 22):=⟨_,rfl⟩;obtain⟨n6,hnN⟩: ∃n,n=x5.heap.size:=⟨_,rfl⟩;rw[<-hxN] at hRx ⊢;rw[<-hnN] at hRx ⊢;clear hxN hnN;simp only[List.nil_append,List.cons_append] at hRx;replace hRw:=Qa.mk hRx;clear hRx
    (refine Qg (rs:=[4]) (by kernel_rfl) (by simp) ?_;refine Qc.cons rfl (by decide) (fun K hK=> ?_) Qc.nil)
    go_simp;refine(HLen.out _ hRw.out.below).mono ?_;rintro e x4 ⟨v4,rfl,Rn,hbn⟩;have hRx:=hRw.out.call hbn (r:=rI 3 v4 lz) (Kd.Yg Rn) (Nat.le_refl _);clear Rn hbn;go_wp2_with fail;refine hK.out _ _ (hS.out _ hRx.below) (fun hHeld=> ?_);clear hK K
    try simp only[Act.put,Tk.z1,Tk.z2,Tk.z3,Tk.z4,Tk.z5,Tk.z6]
    simp only[List.nil_append,List.cons_append] at hRx;replace hRw:=Qa.mk hRx;clear hRx;exact U8 (by kernel_rfl) (by kernel_rfl) (hJ1.out (v4,n5,n6) _ hRw.out)
  ·refine Zo (w1:=W3.drew.alloc (.cells #[.slice none 0 0] 22)) (v:= .pointer (some ⟨W3.drew.heap.size,0,none⟩)) (by kernel_rfl) rfl (by kernel_rfl) ?_
   have hRx:=hRw.out.alloc #[.slice none 0 0] 22;refine hK.out _ _ (hS.out _ hRx.below) (fun hHeld=> ?_);clear hK K
   try simp only[Act.put,Tk.z1,Tk.z2,Tk.z3,Tk.z4,Tk.z5,Tk.z6]
   obtain⟨x6,hxN⟩: ∃x,x=W3.drew.alloc (.cells #[.slice none 0 0] 22):=⟨_,rfl⟩;obtain⟨n6,hnN⟩: ∃n,n=W3.drew.heap.size:=⟨_,rfl⟩;rw[<-hxN] at hRx ⊢;rw[<-hnN] at hRx ⊢;clear hxN hnN;simp only[List.nil_append,List.cons_append] at hRx;replace hRw:=Qa.mk hRx;clear hRx;refine Qg (rs:=[4,5]) (by kernel_rfl) (by simp) ?_;refine Qc.cons rfl (by decide) (fun K hK=> ?_) (Qc.cons rfl (by decide) (fun K hK=> ?_) (Qc.nil))
   ·go_simp
    refine(HLen.out _ hRw.out.below).mono ?_;rintro e x4 ⟨v4,rfl,Rn,hbn⟩;have hRx:=hRw.out.call hbn (r:=rI 3 v4 lz) (Kd.Yg Rn) (Nat.le_refl _);clear Rn hbn;go_wp2_with fail;refine hK.out _ _ (hS.out _ hRx.below) (fun hHeld=> ?_);clear hK K
    try simp only[Act.put,Tk.z1,Tk.z2,Tk.z3,Tk.z4,Tk.z5,Tk.z6]
    simp only[List.nil_append,List.cons_append] at hRx;replace hRw:=Qa.mk hRx;clear hRx
    (refine Qg (rs:=[5]) (by kernel_rfl) (by simp) ?_;refine Qc.cons rfl (by decide) (fun K hK=> ?_) Qc.nil)
    refine Zo (w1:=x4.alloc (.cells #[.int .i64 0,.int .i64 0,.bool false] 194)) (v:= .pointer (some ⟨x4.heap.size,0,none⟩)) (by kernel_rfl) rfl (by kernel_rfl) ?_;have hRx:=hRw.out.alloc #[.int .i64 0,.int .i64 0,.bool false] 194;refine hK.out _ _ (hS.out _ hRx.below) (fun hHeld=> ?_);clear hK K
    try simp only[Act.put,Tk.z1,Tk.z2,Tk.z3,Tk.z4,Tk.z5,Tk.z6]
    obtain⟨x5,hxN⟩: ∃x,x=x4.alloc (.cells #[.int .i64 0,.int .i64 0,.bool false] 194):=⟨_,rfl⟩;obtain⟨n5,hnN⟩: ∃n,n=x4.heap.size:=⟨_,rfl⟩;rw[<-hxN] at hRx ⊢;rw[<-hnN] at hRx ⊢;clear hxN hnN;simp only[List.nil_append,List.cons_append] at hRx;replace hRx:=Rws.intoG (G1:=[]) (G2:=[⟨n6, #[.slice none 0 0],22⟩]) (b:=⟨n5, #[.int .i64 0,.int .i64 0,.bool false],194⟩) hRx;simp only[List.nil_append,List.cons_append] at hRx;replace hRw:=Qa.mk hRx;clear hRx;exact U8 (by kernel_rfl) (by kernel_rfl) (hJ1.out (v4,n5,n6) _ hRw.out)
   ·refine Zo (w1:=x6.alloc (.cells #[.int .i64 0,.int .i64 0,.bool false] 194)) (v:= .pointer (some ⟨x6.heap.size,0,none⟩)) (by kernel_rfl) rfl (by kernel_rfl) ?_
    have hRx:=hRw.out.alloc #[.int .i64 0,.int .i64 0,.bool false] 194;refine hK.out _ _ (hS.out _ hRx.below) (fun hHeld=> ?_);clear hK K
    try simp only[Act.put,Tk.z1,Tk.z2,Tk.z3,Tk.z4,Tk.z5,Tk.z6]
    obtain⟨x5,hxN⟩: ∃x,x=x6.alloc (.cells #[.int .i64 0,.int .i64 0,.bool false] 194):=⟨_,rfl⟩;obtain⟨n5,hnN⟩: ∃n,n=x6.heap.size:=⟨_,rfl⟩;rw[<-hxN] at hRx ⊢;rw[<-hnN] at hRx ⊢;clear hxN hnN;simp only[List.nil_append,List.cons_append] at hRx;replace hRx:=Rws.intoG (G1:=[]) (G2:=[⟨n6, #[.slice none 0 0],22⟩]) (b:=⟨n5, #[.int .i64 0,.int .i64 0,.bool false],194⟩) hRx;simp only[List.nil_append,List.cons_append] at hRx;replace hRw:=Qa.mk hRx;clear hRx
    (refine Qg (rs:=[4]) (by kernel_rfl) (by simp) ?_;refine Qc.cons rfl (by decide) (fun K hK=> ?_) Qc.nil)
    go_simp;refine(HLen.out _ hRw.out.below).mono ?_;rintro e x4 ⟨v4,rfl,Rn,hbn⟩;have hRx:=hRw.out.call hbn (r:=rI 3 v4 lz) (Kd.Yg Rn) (Nat.le_refl _);clear Rn hbn;go_wp2_with fail;refine hK.out _ _ (hS.out _ hRx.below) (fun hHeld=> ?_);clear hK K
    try simp only[Act.put,Tk.z1,Tk.z2,Tk.z3,Tk.z4,Tk.z5,Tk.z6]
    simp only[List.nil_append,List.cons_append] at hRx;replace hRw:=Qa.mk hRx;clear hRx;exact U8 (by kernel_rfl) (by kernel_rfl) (hJ1.out (v4,n5,n6) _ hRw.out)
end Bk

end Go.Proofs.YtnflnicdjioflaaGreatDoor
