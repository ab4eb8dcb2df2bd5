/- A part of the proof. -/
import Derived.Test.YtnflnicdjioflaaGreatDoorSxae
set_option linter.unusedVariables false
set_option linter.unusedSimpArgs false
set_option maxRecDepth 100000
set_option maxHeartbeats 8000000
namespace Go.Proofs.YtnflnicdjioflaaGreatDoor
open Go.RowKit Go.Proofs.YtnflnicdjioflaaGreatDoorW.PrintWords Go.Proofs.YtnflnicdjioflaaGreatDoorW.PrintLast Go.Proofs.YtnflnicdjioflaaGreatDoorW.PrintMore
namespace Pre
attribute [local go_sem] Qh Qi Qk Ql Qd Qe
open Q15
open Q21 (J6 Dn Xx)
def F3 (n:Int):Int:=if 0<n then 65536/2^n.toNat else 0
def J5 (l:List Int):Int:=(l.map F3).sum
def Kh (l:List Int):Int:=if(decide (256<l.length)|| !Q16.rng 0 16 l)=true then 1 else if J5 l=0 then 5 else if 65536<J5 l then 4 else 0
theorem Ig (n:Int):0<=F3 n/\F3 n<=65536:=by
 unfold F3;by_cases h:0<n
 ·rw[if_pos h]
  have hp:(0:Int)<2^n.toNat:=Int.pow_pos (by omega);exact⟨Int.ediv_nonneg (by omega) (by omega),Int.ediv_le_self _ (by omega)⟩
 ·rw[if_neg h];omega
theorem Ie (l:List Int):0<=J5 l/\J5 l<=65536*l.length:=by
 unfold J5
 induction l with
 |nil=>simp
 |cons a t ih=>
  have:=Ig a;simp only[List.map_cons,List.sum_cons,List.length_cons];omega
theorem Qbt (l:List Int) {k:Nat} (hk:k<l.length):J5 (l.take (k+1))=J5 (l.take k)+F3 (rd l k):=by
 rw[Qu l k hk];unfold J5;rw[List.map_append,List.sum_append];simp
theorem Qbl (x:Int) (w:World):
  Calls Tryz.prog 224 #[.int .i64 x] w fun e w'=>e= .returned (.bool (J6 0 16 x))/\Below w.heap.size w w':=by
 have hb:=Below.refl w.heap.size w
 have HX:=Qa.mk (show(x<0->J6 0 16 x=true)/\(16<x->J6 0 16 x=true)/\(¬x<0-> ¬16<x->J6 0 16 x=false) by
  unfold J6;simp only[decide_eq_true_eq,decide_eq_false_iff_not]
  omega)
 by_cases h0:x<0
 ·go_enter Tryz.func224,Tryz.ntmps224
  go_wp2;go_ret;exact⟨by rw[HX.out.1 h0];rfl,hb⟩
 ·by_cases h1:16<x
  ·have t1:decide (x<0)=false:=decide_eq_false h0
   have t2:decide (16<x)=true:=decide_eq_true h1;go_enter Tryz.func224,Tryz.ntmps224;go_wp2;go_ret;exact⟨by rw[HX.out.2.1 h1];rfl,hb⟩
  ·have t1:decide (x<0)=false:=decide_eq_false h0
   have t2:decide (16<x)=false:=decide_eq_false h1;have hE:=Qa.mk (HX.out.2.2 h0 h1);clear h0 h1;go_enter Tryz.func224,Tryz.ntmps224;go_wp2;go_ret;exact⟨by rw[hE.out];rfl,hb⟩
theorem chk1_fn (w:World) (x:Int):Kn 224 #[] #[] w x (J6 0 16 x):=fun W hb=>Qbl x W
theorem Eh (A:Option Addr) (cap:Nat) (l:List Int) (w:World) (hr:(Kd.int .i64).C w A l.length l) (hl:l.length<=256) (h16: ∀n∈l,0<=n/\n<=16):
  Calls Tryz.prog 225 #[.slice A l.length cap] w fun e w'=>e= .returned (.int .i64 (J5 l))/\Below w.heap.size w w':=by
 have hlI:(l.length:Int)<=256:=(by omega);have HR:=Qa.mk hr;have H16:=Qa.mk h16;have HB:=Qa.mk (fun k=>Ie (l.take k));clear hr h16 hl;go_enter Tryz.func225,Tryz.ntmps225;go_wp2_with fail;go_loop [3,8] (fun s i=> ∃k:Nat,i= .int .i64 k/\k<=l.length/\s= .int .i64 (J5 (l.take k))) (fun _ i=>l.length-(intOf i).toNat)
 case atStart=>exact⟨0,rfl,by omega,rfl⟩
 case round=>
  obtain⟨k,rfl,hk,rfl⟩:=hrel;by_cases hlt:k<l.length
  ·obtain⟨ad,rfl,hcell⟩:=Qn HR.out (Below.refl _ _) hlt
   have hkI:(k:Int)<(l.length:Int):=(by omega);have hT:=Qbt l hlt;have hx:=H16.out _ (Qp l k hlt);have hbd:=HB.out k;have htl:((l.take k).length :Int)<=256:=(by rw[List.length_take];omega);obtain⟨s,hs⟩: ∃s,s=J5 (l.take k):=⟨_,rfl⟩;rw[<-hs] at hbd hT ⊢;have hsb:0<=s/\s<=16777216:=(by omega);obtain⟨x,hxe⟩: ∃x,x=rd l k:=⟨_,rfl⟩;rw[<-hxe] at hx hcell hT;have hfb:=Ig x;clear hbd htl hs hxe;by_cases h0:0<x
   ·have hfo:F3 x=65536/2^x.toNat:=by unfold F3;rw[if_pos h0]
    have hT':Qa (J5 (l.take (k+1))=s+65536/2^x.toNat):=⟨by rw[hT,hfo]⟩;rw[hfo] at hfb;obtain⟨y,hy⟩: ∃y,(65536:Int)/2^x.toNat=y:=⟨_,rfl⟩;rw[hy] at hfb hT';clear hT hfo;have hlt':=Qa.mk hlt;clear hlt;go_wp2_with fail;go_round
    case rel=>exact⟨k+1,by go_num,hlt'.out,by rw[hT'.out]⟩
    case measure=>have:=hlt'.out;simp[intOf];omega
   ·have hT':Qa (J5 (l.take (k+1))=s):=⟨by rw[hT];unfold F3;rw[if_neg h0];omega⟩
    have hlt':=Qa.mk hlt;clear hT hfb hlt;go_wp2_with fail;go_round
    case rel=>exact⟨k+1,by go_num,hlt'.out,by rw[hT'.out]⟩
    case measure=>have:=hlt'.out;simp[intOf];omega
  ·obtain rfl:k=l.length:=by omega
   rw[List.take_length];go_wp2_with fail;go_ret;exact⟨rfl,Below.refl _ _⟩
theorem Vw (A:Option Addr) (cap:Nat) (l:List Int) (w:World) (hr:(Kd.int .i64).C w A l.length l) (hl:l.length<=1000000):
  Calls Tryz.prog 197 #[.slice A l.length cap] w fun e w'=>e= .returned (.int .i64 (Kh l))/\Below w.heap.size w w':=by
 have HC:=Qa.mk (Xx 224 #[] #[] (J6 0 16) A cap l w (enters_of Tryz.func224 (by kernel_rfl) rfl) hr (by omega) (fun x _=>chk1_fn w x));rw[Dn] at HC;have hlI:(l.length:Int)<=1000000:=(by omega);have hb:=Below.refl w.heap.size w;by_cases h6:256<l.length
 ·have t1:decide (256<(l.length:Int))=true:=decide_eq_true (by omega)
  have hE:Qa (Kh l=1):=⟨by unfold Kh;rw[decide_eq_true h6];rfl⟩;clear hr HC h6;go_enter Tryz.func197,Tryz.ntmps197;go_wp2_with fail;go_ret;exact⟨by rw[hE.out];rfl,hb⟩
 ·have t1:decide (256<(l.length:Int))=false:=decide_eq_false (by omega)
  cases hq:Q16.rng 0 16 l with
  |false=>
   have hE:Qa (Kh l=1):=⟨by unfold Kh;rw[hq];simp⟩;rw[hq] at HC;clear hr hq;go_enter Tryz.func197,Tryz.ntmps197;go_wp2_with fail;refine HC.out.mono ?_;rintro e w1 ⟨rfl,hbn⟩;go_wp2_with fail;go_ret;exact⟨by rw[hE.out];rfl,hbn⟩
  |true=>
   have h16: ∀n∈l,0<=n/\n<=16:=fun n hn=>by
    have:=List.all_eq_true.1 hq n hn;simpa using this
   have HF:=Qa.mk (fun(W:World) (hb:Below w.heap.size w W)=>Eh A cap l W (Kd.Qf hr hb) (by omega) h16);have hE:Qa (Kh l=if J5 l=0 then 5 else if 65536<J5 l then 4 else 0):=⟨by unfold Kh;rw[hq,decide_eq_false h6];rfl⟩;have hbd:=Ie l;rw[hq] at HC;obtain⟨f,hf⟩: ∃f,f=J5 l:=⟨_,rfl⟩;rw[<-hf] at HF hE hbd;have hfb:0<=f/\f<=65536000000:=(by omega);clear hr hq hf hbd h6 h16;by_cases h0:f=0
   ·have t2:(f==0)=true:=by rw[beq_iff_eq];exact h0
    have hE2:Qa (Kh l=5):=⟨by rw[hE.out,if_pos h0]⟩;clear hE h0;go_enter Tryz.func197,Tryz.ntmps197;go_wp2_with fail;refine HC.out.mono ?_;rintro e w1 ⟨rfl,hbn⟩;go_wp2_with fail;refine(HF.out _ hbn).mono ?_;rintro e w2 ⟨rfl,hbn2⟩;replace hbn:=bnx hbn hbn2;clear hbn2;go_wp2_with fail;go_ret;exact⟨by rw[hE2.out];rfl,hbn⟩
   ·have t2:(f==0)=false:=by rw[beq_eq_false_iff_ne];exact h0
    by_cases h1:65536<f
    ·have t3:decide (65536<f)=true:=decide_eq_true h1
     have hE2:Qa (Kh l=4):=⟨by rw[hE.out,if_neg h0,if_pos h1]⟩;clear hE h0 h1;go_enter Tryz.func197,Tryz.ntmps197;go_wp2_with fail;refine HC.out.mono ?_;rintro e w1 ⟨rfl,hbn⟩;go_wp2_with fail;refine(HF.out _ hbn).mono ?_;rintro e w2 ⟨rfl,hbn2⟩;replace hbn:=bnx hbn hbn2;clear hbn2;go_wp2_with fail;go_ret;exact⟨by rw[hE2.out];rfl,hbn⟩
    ·have t3:decide (65536<f)=false:=decide_eq_false h1
     have hE2:Qa (Kh l=0):=⟨by rw[hE.out,if_neg h0,if_neg h1]⟩;clear hE h0 h1;go_enter Tryz.func197,Tryz.ntmps197;go_wp2_with fail;refine HC.out.mono ?_;rintro e w1 ⟨rfl,hbn⟩;go_wp2_with fail;refine(HF.out _ hbn).mono ?_;rintro e w2 ⟨rfl,hbn2⟩;replace hbn:=bnx hbn hbn2;clear hbn2;go_wp2_with fail;go_ret;exact⟨by rw[hE2.out];rfl,hbn⟩
end Pre

namespace Pre
attribute [local go_sem] Qh Qi Qk Ql Qd Qe
open Q15
open Runs Go.Shelf
open Q16 (Q6 Za)
attribute [local go_sem] Oper.semAt_some
def Tc (l:List Int) (n m:Nat):List Nat:=(List.range m).filter fun i=>decide (rd l i=n)
def J8 (l:List Int) (j:Nat):List Nat:=((List.range j).map fun a=>Tc l (a+1) l.length).flatten
def Yb (l:List Int) (j m:Nat):List Nat:=J8 l j++Tc l (j+1) m
def Xc (l:List Int):List Nat:=J8 l 16
def Qac (l:List Int) (k:Nat):Nat:=(Xc l).getD k 0
theorem Cn (l:List Int) (n m:Nat):Tc l n (m+1)=if rd l m=n then Tc l n m++[m] else Tc l n m:=by
 unfold Tc;rw[List.range_succ,List.filter_append];by_cases h:rd l m=n
 ·rw[if_pos h];simp[h]
 ·rw[if_neg h];simp[h]
theorem U5 (l:List Int) (j:Nat):J8 l (j+1)=J8 l j++Tc l (j+1) l.length:=by
 unfold J8;rw[List.range_succ,List.map_append,List.flatten_append];simp
theorem Gl (l:List Int) (j:Nat):Yb l j 0=J8 l j:=by simp[Yb,Tc]
theorem Cf (l:List Int) (j:Nat):Yb l j l.length=Yb l (j+1) 0:=by rw[Gl,U5];rfl
theorem Gj (l:List Int) (j m:Nat):Yb l j (m+1)=if rd l m=((j+1:Nat):Int) then Yb l j m++[m] else Yb l j m:=by
 unfold Yb;rw[Cn];by_cases h:rd l m=((j+1:Nat):Int)
 ·rw[if_pos h,if_pos h,List.append_assoc]
 ·rw[if_neg h,if_neg h]
theorem Qav (l:List Int) (n m:Nat): ∀k,Tc l n m <+: Tc l n (m+k)
 |0=>List.prefix_refl _
 |k+1=>by
  refine(Qav l n m k).trans ?_;rw[<-Nat.add_assoc,Cn];by_cases h:rd l (m+k:Nat)=n
  ·rw[if_pos h];exact List.prefix_append _ _
  ·rw[if_neg h];exact List.prefix_refl _
theorem Cr (l:List Int) (j:Nat): ∀k,J8 l j <+: J8 l (j+k)
 |0=>List.prefix_refl _
 |k+1=>by
  refine(Cr l j k).trans ?_;rw[<-Nat.add_assoc,U5];exact List.prefix_append _ _
theorem Qef {l:List Int} {j m:Nat} (hj:j<16) (hm:m<=l.length):Yb l j m <+: Xc l:=by
 have h1:Yb l j m <+: Yb l j l.length:=by
  unfold Yb;have:=Qav l (j+1) m (l.length-m);rw[show m+(l.length-m)=l.length by omega] at this;exact(List.prefix_append_right_inj _).2 this
 have h2:=Cr l (j+1) (16-(j+1));rw[show j+1+(16-(j+1))=16 by omega] at h2;rw[Cf,Gl] at h1;exact h1.trans h2
theorem ord_at {l:List Int} {j m:Nat} (hj:j<16) (hm:m<l.length) (h:rd l m=((j+1:Nat):Int)):(Yb l j m).length <(Xc l).length /\(Xc l).getD (Yb l j m).length 0=m:=by
 have h1:=Qef hj (show m+1<=l.length by omega);rw[Gj,if_pos h] at h1;obtain⟨t,ht⟩:=h1;rw[<-ht];simp
theorem ordL_mem {l:List Int} {i:Nat} (h:i∈Xc l):i<l.length/\1<=rd l i/\rd l i<=16:=by
 unfold Xc J8 Tc at h;simp only[List.mem_flatten,List.mem_map,List.mem_range] at h;obtain⟨_,⟨a,ha,rfl⟩,h⟩:=h;simp at h;omega
def Vx (S B1:Nat) (A B:World):Prop:=Below S A B/\B.heap[B1]? =A.heap[B1]?
theorem Vx.trans {S B1:Nat} {A B C:World} (h:Vx S B1 A B) (k:Vx S B1 B C):Vx S B1 A C:=⟨h.1.trans k.1,k.2.trans h.2⟩
theorem Vx.putObj {S B1 N:Nat} (h0:S<=N) (h1:B1<N) (W:World) (l:Nat) (o o':Obj) (hl:N<=l) (ho:W.heap[l]? =some o) (hc:o.isCells=false) (hw:o.isWalk=false):Vx S B1 W (W.putObj l o'):=
 ⟨(Below.refl S W).grown (grownBy_putObj' W l o') (by have:=(Array.getElem?_eq_some_iff.1 ho).1;omega) (fun k e=>by cases e;omega),World.putObj_heap_other (by omega)⟩
theorem Mv (F:Fence) (n:Nat) (hF:F.fn 234) (hro:F.round=none) (hn:1<=n) (B1:Nat) (A1:Option Addr) (cap:Nat) (l:List Int) (hl:l.length<=256) (wS w:World) (hr:(Kd.int .i64).C wS A1 l.length l) (hS:Below wS.heap.size wS w)
  (c1:w.cell? ⟨B1,0,none⟩=some (.slice A1 l.length cap)):
  Yd F n Tryz.prog 234 #[.pointer (some ⟨B1,0,none⟩)] (fun k=> #[.int .i64 (Qac l k:Nat)]) (Vx wS.heap.size B1) (Xc l).length w:=fun L J W hW hY h0 hJd=>by
 clear hJd;have d1:=cnx c1 hW;have hS':=bnx hS hW;have HR:=Qa.mk hr;have HY:=Qa.mk hY;have hlI:(l.length:Int)<=256:=(by omega);clear hY c1 hr hl;refine callsIn_of_wp Tryz.func234 rfl hF ?_ hro;simp only[Tryz.ntmps234,List.size_toArray,List.length_cons,List.length_nil,Nat.reduceAdd,Nat.reduceSub,Array.replicate_succ,Array.replicate_zero,List.push_toArray,List.append_toArray,List.nil_append,List.cons_append];gi_wp2;gi_loopw [3] (fun i wr=> ∃j:Nat,i= .int .i64 ((j:Int)+1)/\j<=16/\wr.cell? ⟨B1,0,none⟩=some (.slice A1 l.length cap)/\Qa (Below wS.heap.size wS wr)/\Qa (J (Yb l j 0).length wr)) (fun i _=>17-(intOf i).toNat)
 case atStart=>exact⟨0,rfl,by omega,d1,⟨hS'⟩,⟨by simpa[Yb,Tc,J8] using h0⟩⟩
 case round=>
  obtain⟨j,rfl,hj,e1,hb,hJs⟩:=hrel;clear d1 hS';have hjI:(j:Int)<=16:=(by omega);by_cases hlt:j<16
  ·have hjI2:(j:Int)+1<=16:=by omega
   have hj16:=Qa.mk hlt;clear hlt hj;gi_wp2;gi_loopw [12] (fun i wr=> ∃m:Nat,i= .int .i64 m/\m<=l.length/\wr.cell? ⟨B1,0,none⟩=some (.slice A1 l.length cap)/\Qa (Below wS.heap.size wS wr)/\Qa (J (Yb l j m).length wr)) (fun i _=>l.length-(intOf i).toNat)
   case atStart=>exact⟨0,rfl,by omega,e1,hb,hJs⟩
   case round=>
    obtain⟨m,rfl,hm,e1',hb',hJm⟩:=hrel;clear e1 hb hJs;by_cases hltm:m<l.length
    ·obtain⟨ad,rfl,hcell⟩:=Qn HR.out hb'.out hltm
     have hmI:(m:Int)<(l.length:Int):=(by omega);have hltm':=Qa.mk hltm;by_cases he:rd l m=((j+1:Nat):Int)
     ·obtain⟨q1,q2⟩:=ord_at hj16.out hltm he
      obtain⟨fn,tmps,assign,body,hy,hR⟩:=HY.out (Yb l j m).length wr q1 hJm.out;rw[show Qac l (Yb l j m).length =m from q2] at hy;have hT:=Qa.mk (show(Yb l j (m+1)).length =(Yb l j m).length +1 by rw[Gj,if_pos he];simp);have he2:(rd l m)=(j:Int)+1:=(by rw[he];omega);rw[he2] at hcell;have hR2:=Qa.mk hR;clear hR he he2 q1 q2 hltm;gi_wp2;refine hR2.out.mono ?_;rintro e W3 ⟨rfl,hJ3,hk3⟩;have b1:=(Q6 hk3.2).trans e1';have hb3:=Qa.mk (hb'.out.trans hk3.1);replace hJ3:=Qa.mk hJ3;clear hR2 e1' hk3 hy;gi_wp2;go_roundw
      case rel=>exact⟨m+1,by go_num,hltm'.out,b1,hb3,⟨by rw[hT.out];exact hJ3.out⟩⟩
      case measure=>have:=hltm'.out;simp[intOf];omega
     ·have hT:=Qa.mk (show(Yb l j (m+1)).length =(Yb l j m).length by rw[Gj,if_neg he])
      obtain⟨x,hx⟩: ∃x,x=rd l m:=⟨_,rfl⟩;rw[<-hx] at hcell he;have t1:(x==(j:Int)+1)=false:=(by rw[beq_eq_false_iff_ne];omega);clear hx he hltm;gi_wp2;refine⟨fun f hf=>(by cases hf),?_⟩;gi_wp2;go_roundw
      case rel=>exact⟨m+1,by go_num,hltm'.out,e1',hb',⟨by rw[hT.out];exact hJm.out⟩⟩
      case measure=>have:=hltm'.out;simp[intOf];omega
    ·obtain rfl:m=l.length:=by omega
     have hJn:=Qa.mk (show J (Yb l (j+1) 0).length wr by rw[<-Cf];exact hJm.out);gi_wp2;go_roundw
     case rel=>exact⟨j+1,by go_num,by have:=hj16.out;omega,e1',hb',hJn⟩
     case measure=>have:=hj16.out;simp[intOf];omega
  ·obtain rfl:j=16:=by omega
   gi_wp2;go_end0;refine⟨⟨_,rfl⟩,?_⟩;have h:=hJs.out;rw[Gl] at h;exact h
theorem Mw (A:Option Addr) (n c:Nat) (w:World):
  Calls Tryz.prog 226 #[.slice A n c] w fun e w'=>e= .returned (.func (.func 234) #[] #[.pointer (some ⟨w.heap.size,0,none⟩)])/\w'=w.alloc (.cells #[.slice A n c] 22):=by
 go_enter Tryz.func226,Tryz.ntmps226;go_wp2;go_ret;exact⟨rfl,rfl⟩
end Pre

namespace Pre
attribute [local go_sem] Qh Qi Qk Ql Qd Qe
open Q15
def V7 (l:List Int) (s:Int×Int) (i:Nat):Int×Int:=(rd l i,(if s.1=0 then 0 else s.2+1)*2^(rd l i-s.1).toNat)
def Zv (l:List Int):Nat->(Int×Int)×List (Int×Int)
 |0=>((0,0),List.replicate l.length (0,0))
 |k+1=>let i:=(Xc l).getD k 0;let s:=V7 l (Zv l k).1 i;(s,(Zv l k).2.set i s)
def Ji (l:List Int):List Int:=(Zv l (Xc l).length).2.map (·.2)
theorem Ul (l:List Int): ∀k,(Zv l k).2.length =l.length
 |0=>by simp[Zv]
 |k+1=>by simp[Zv,Ul l k]
theorem Ut (l:List Int):(Ji l).length =l.length:=by simp[Ji,Ul]
theorem rowO_len (l:List Int) (n m:Nat):(Tc l n m).length <=m:=by
 unfold Tc;exact Nat.le_trans (List.length_filter_le _ _) (by simp)
theorem Cq (l:List Int): ∀j,(J8 l j).length <=j*l.length
 |0=>by simp[J8]
 |j+1=>by
  rw[U5,List.length_append,Nat.succ_mul];have:=Cq l j;have:=rowO_len l (j+1) l.length;omega
theorem Nn (l:List Int): ∀j,(J8 l j).Pairwise (fun a b:Nat=>rd l a<=rd l b)/\ ∀a∈J8 l j,rd l (a:Nat)<=j
 |0=>by simp[J8]
 |j+1=>by
  obtain⟨h1,h2⟩:=Nn l j;rw[U5]
  have h3: ∀a∈Tc l (j+1) l.length,rd l a=((j+1:Nat):Int):=fun a ha=>by
   unfold Tc at ha;simp only[List.mem_filter,decide_eq_true_eq] at ha;exact ha.2
  refine⟨List.pairwise_append.2 ⟨h1,?_,fun a ha b hb=> ?_⟩,fun a ha=> ?_⟩
  ·refine List.Pairwise.imp_of_mem (R:=fun _ _=>True) (fun ha hb _=> ?_) (List.pairwise_of_forall (fun _ _=>trivial))
   rw[h3 _ ha,h3 _ hb];exact Int.le_refl _
  ·have:=h2 a ha
   rw[h3 b hb];omega
  ·rcases List.mem_append.1 ha with ha|ha
   ·have:=h2 a ha
    omega
   ·rw[h3 a ha]
    exact Int.le_refl _
theorem Ce {l:List Int} {k:Nat} (hk:k<(Xc l).length):(Xc l).getD k 0<l.length/\1<=rd l ((Xc l).getD k 0:Nat)/\rd l ((Xc l).getD k 0:Nat)<=16:=by
 have h:(Xc l).getD k 0∈Xc l:=by
  rw[List.getD_eq_getElem?_getD,List.getElem?_eq_getElem hk];exact List.getElem_mem hk
 exact ordL_mem h
theorem Qc7 {l:List Int} {k:Nat} (hk:k+1<(Xc l).length):rd l ((Xc l).getD k 0:Nat)<=rd l ((Xc l).getD (k+1) 0:Nat):=by
 have h:=List.pairwise_iff_getElem.1 (Nn l 16).1 k (k+1) (by have:Xc l=J8 l 16:=rfl;rw[<-this];omega) hk (by omega);simp only[List.getD_eq_getElem?_getD,List.getElem?_eq_getElem hk,List.getElem?_eq_getElem (show k<(Xc l).length by omega),Option.getD_some];exact h
theorem Po (l:List Int): ∀k,k<=(Xc l).length ->0<=(Zv l k).1.1/\(Zv l k).1.1<=16/\0<=(Zv l k).1.2/\(Zv l k).1.2<=k*2^(Zv l k).1.1.toNat /\(k=0->(Zv l k).1=(0,0))/\(0<k->(Zv l k).1.1=rd l ((Xc l).getD (k-1) 0:Nat)/\1<=(Zv l k).1.1)
 |0,_=>by simp[Zv]
 |k+1,hk=>by
  obtain⟨h1,h2,h3,h4,h5,h6⟩:=Po l k (by omega);obtain⟨g1,g2,g3⟩:=Ce (show k<(Xc l).length by omega)
  have hle:(Zv l k).1.1<=rd l ((Xc l).getD k 0:Nat):=by
   by_cases h0:k=0
   ·rw[h5 h0];simp only;omega
   ·rw[(h6 (by omega)).1]
    have:=Qc7 (show k-1+1<(Xc l).length by omega);rw[show k-1+1=k by omega] at this;exact this
  simp only[Zv,V7];obtain⟨n,hn⟩: ∃n,n=rd l ((Xc l).getD k 0:Nat):=⟨_,rfl⟩;rw[<-hn] at g2 g3 hle ⊢;obtain⟨s,hs⟩: ∃s,s=(Zv l k).1:=⟨_,rfl⟩;rw[<-hs] at h1 h2 h3 h4 h5 h6 hle ⊢;have hp:(0:Int)<2^(n-s.1).toNat :=Int.pow_pos (by omega);have hp1:(0:Int)<2^s.1.toNat:=Int.pow_pos (by omega);have hpp:(2:Int)^s.1.toNat*2^(n-s.1).toNat =2^n.toNat:=(by rw[<-Int.pow_add];congr 1;omega);refine⟨by omega,by omega,?_,?_,by omega,fun _=>⟨by simp[hn],by omega⟩⟩
  ·exact Int.mul_nonneg (by by_cases h0:s.1=0<;>simp[h0];omega) (by omega)
  ·rw[<-hpp,<-Int.mul_assoc]
   refine Int.mul_le_mul_of_nonneg_right ?_ (by omega);by_cases h0:s.1=0
   ·rw[if_pos h0]
    have:(0:Int)<=((k+1:Nat):Int)*2^s.1.toNat:=Int.mul_nonneg (by omega) (by omega);omega
   ·rw[if_neg h0]
    push_cast
    rw[Int.add_mul];omega
theorem S9 {l:List Int} (hl:l.length<=256) {k:Nat} (hk:k<=(Xc l).length):(Zv l k).1.2<=268435456:=by
 obtain⟨h1,h2,h3,h4,_⟩:=Po l k hk;have hk2:k<=4096:=(by have h:(Xc l).length <=16*l.length:=Cq l 16;omega);have hp:(2:Nat)^(Zv l k).1.1.toNat <=2^16:=Nat.pow_le_pow_right (by omega) (by omega);have hp2:((2^(Zv l k).1.1.toNat :Nat):Int)=2^(Zv l k).1.1.toNat :=by simp
 have hpI:(2:Int)^(Zv l k).1.1.toNat <=65536:=by
  rw[<-hp2];have:(2:Nat)^16=65536:=(by decide);omega
 have hpI0:(0:Int)<2^(Zv l k).1.1.toNat :=Int.pow_pos (by omega);have h5:(k:Int)*2^(Zv l k).1.1.toNat <=4096*65536:=Int.mul_le_mul (by omega) hpI (by omega) (by omega);omega
def Zi (ps:List (Int×Int)):Array Value:=(ps.map fun p=>[Value.int .i64 p.1,Value.int .i64 p.2]).flatten.toArray
theorem Fj {ps:List (Int×Int)} {k:Nat} (hk:k<ps.length):(Zi ps)[2*k]? =some (.int .i64 (ps[k]).1)/\(Zi ps)[2*k+1]? =some (.int .i64 (ps[k]).2):=by
 unfold Zi
 induction ps generalizing k with
 |nil=>simp at hk
 |cons f t ih=>
  cases k with
  |zero=>simp
  |succ k=>
   have h:=ih (k:=k) (by simpa using hk);simp only[List.map_cons,List.flatten_cons,List.getElem?_toArray] at h ⊢;rw[show 2*(k+1)=2*k+2 by omega,show 2*k+2+1=(2*k+1)+2 by omega];rw[List.getElem?_append_right (by simp),List.getElem?_append_right (by simp)];simpa using h
theorem R4 (ps:List (Int×Int)) (p:Int×Int): ∀k,((Zi ps).setIfInBounds (2*k) (.int .i64 p.1)).setIfInBounds (2*k+1) (.int .i64 p.2)=Zi (ps.set k p):=by
 unfold Zi;simp only[List.setIfInBounds_toArray]
 induction ps with
 |nil=>intro k;simp
 |cons f t ih=>
  intro k
  cases k with
  |zero=>simp
  |succ k=>
   have h:=ih k;simp only[List.map_cons,List.flatten_cons,List.set_cons_succ,List.cons_append,List.nil_append];rw[show 2*(k+1)=2*k+1+1 by omega,show 2*k+1+1+1=(2*k+1)+1+1 by omega];simp only[List.set_cons_succ];have h2:=congrArg Array.toList h;simp only at h2;rw[h2]
end Pre

end Go.Proofs.YtnflnicdjioflaaGreatDoor
