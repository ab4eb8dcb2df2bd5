/- A part of the proof. -/
import Derived.Test.YtnflnicdjioflaaGreatDoorSxaf
import Derived.Test.YtnflnicdjioflaaGreatDoorSxag
set_option linter.unusedVariables false
set_option linter.unusedSimpArgs false
set_option maxRecDepth 100000
set_option maxHeartbeats 8000000
namespace Go.Proofs.YtnflnicdjioflaaGreatDoor
open Go.RowKit Go.Proofs.YtnflnicdjioflaaGreatDoorW.PrintWords Go.Proofs.YtnflnicdjioflaaGreatDoorW.PrintLast Go.Proofs.YtnflnicdjioflaaGreatDoorW.PrintMore
namespace Q21
attribute [local go_sem] Qh Qi Qk Ql Qd Qe
open Q15
theorem Ua (f:List Int) (k:Int):Qy (f++[k])=Tq (Qy f) k:=by
 unfold Qy;rw[List.foldl_append];rfl
theorem Ha (f:List Int) (hf: ∀x∈f,-127<=x/\x<=127): ∀j:Nat,j<=f.length-> ∀x∈Qy (f.take j),-(4096*(2:Int)^j)<=x/\x<=4096*(2:Int)^j
 |0,_=>fun x hx=>by simp[Qy] at hx
 |j+1,hj=>by
  have h1:=Ha f hf j (by omega);rw[Qu f j (by omega),Ua]
  have hp:(1:Int)<=2^j:=by
   have:1<=2^j:=Nat.one_le_two_pow
   exact_mod_cast this
  have h2:=stepF_bd (M:=4096*(2:Int)^j) (hf _ (Qp f j (by omega))) (by omega) h1;intro x hx;have:=h2 x hx;rw[Int.pow_succ];omega
theorem Vj (f:List Int) (hf: ∀x∈f,-127<=x/\x<=127) (hn:f.length<=12) {j:Nat} (hj:j<=f.length): ∀x∈Qy (f.take j),-16777216<=x/\x<=16777216:=fun x hx=>by
 have h1:=Ha f hf j hj x hx;have h2:(2:Int)^j<=4096:=(by decide: ∀j,j<13->(2:Int)^j<=4096) j (by omega);omega
theorem M9 (A:Option Addr) (cap:Nat) (l:List Int) (w:World) (hr:(Kd.int .i64).C w A l.length l) (hl:l.length<=12) (hf: ∀x∈l,-127<=x/\x<=127):
  Calls Tryz.prog 119 #[.slice A l.length cap] w fun e w'=> ∃v,e= .returned v/\(Kd.int .i64).R 3 w' w.heap.size (fun _=>True) v (Qy l)/\Below w.heap.size w w':=by
 have HR:=Qa.mk hr;have hlI:(l.length:Int)<=12:=(by omega);have HLim:=Qa.mk (fun j hj=>Vj l hf hl (j:=j) hj);have HF:=Qa.mk (fun j (hj:j<l.length)=>hf _ (Qp l j hj));have HS:=Qa.mk (fun(j:Nat) (hj:j<l.length)=>(Ua (l.take j) (rd l j)));clear hr hf hl;go_enter Tryz.func119,Tryz.ntmps119;go_wp2_with fail;obtain⟨W,hW⟩: ∃W,W=w.alloc (.cells #[.slice none 0 0] 22):=⟨_,rfl⟩;have hB:W.heap[w.heap.size]? =some (.cells #[.slice none 0 0] 22 (0,0)):=(by rw[hW];exact heap_alloc_new _ _);have hb:Below w.heap.size w W:=(by rw[hW];exact(Below.refl _ _).alloc (Nat.le_refl _) _);rw[<-hW];obtain⟨B,hBe⟩: ∃B,B=w.heap.size:=⟨_,rfl⟩;rw[<-hBe] at hB hb ⊢;have hBe':=Qa.mk hBe;have hB':=Qa.mk hB;have hb':=Qa.mk hb;clear hW hBe hB hb;go_loopw [10] (fun i wr=> ∃j:Nat,i= .int .i64 j/\j<=l.length/\Qa (∃v,wr.heap[B]? =some (.cells #[v] 22 (0,0))/\(Kd.int .i64).R 3 wr (B+1) (fun _=>True) v (Qy (l.take j)))/\Qa (Below B w wr)) (fun i _=>l.length-(intOf i).toNat)
 case atStart=>exact⟨0,rfl,by omega,⟨⟨_,hB'.out,Kd.Zx _ _ _ _ _⟩⟩,hb'⟩
 case round=>
  obtain⟨j,rfl,hj,ho,hbL⟩:=hrel;by_cases hlt:j<l.length
  ·obtain⟨v,hv1,hv2⟩:=ho.out
   have hbw:Below w.heap.size w wr:=(by rw[<-hBe'.out];exact hbL.out);obtain⟨ad,rfl,hcell⟩:=Qn HR.out hbw hlt;have hjI:(j:Int)<(l.length:Int):=(by omega);have hk:=HF.out j hlt;have hT:=HS.out j hlt;have HC:=Gw B v (Qy (l.take j)) (rd l j) 16777216 wr hv1 hv2 (by rw[Vi,List.length_take];omega) hk (by decide) (by decide) (HLim.out j hj);rw[<-hT,<-Qu l j hlt] at HC;replace HC:=Qa.mk HC;obtain⟨k,hkk⟩: ∃k,k=rd l j:=⟨_,rfl⟩;rw[<-hkk] at hcell HC;clear hv1 hv2 hbw hT hkk ho hk;go_wp2_with fail;refine HC.out.mono ?_;rintro e w' ⟨rfl,⟨v',hv1,hv2⟩,hbn⟩;have ho2:Qa (∃v,w'.heap[B]? =some (.cells #[v] 22 (0,0))/\(Kd.int .i64).R 3 w' (B+1) (fun _=>True) v (Qy (l.take (j+1)))):=⟨⟨v',hv1,hv2⟩⟩;have hb2:Qa (Below B w w'):=⟨hbL.out.trans hbn⟩;clear hv1 hv2 hbn HC hbL;go_wp2_with fail;go_roundw
   case rel=>exact⟨j+1,by go_num,by omega,ho2,hb2⟩
   case measure=>simp[intOf];omega
  ·obtain rfl:j=l.length:=by omega
   obtain⟨v,hv1,hv2⟩:=ho.out;rw[List.take_length] at hv2;obtain⟨A5,p5,rfl,-,-⟩:=Kd.Qs hv2;have c1:wr.cell? ⟨B,0,none⟩=some (.slice A5 (Qy l).length p5):=(by rw[Qb hv1];rfl);have hv2':=Qa.mk hv2;clear hv1 hv2 ho;go_wp2_with fail;go_ret;exact⟨_,rfl,by rw[<-hBe'.out];exact Kd.Zz hv2'.out (Nat.le_succ B),by rw[<-hBe'.out];exact hbL.out⟩
def wgtE (l:List Int):Int:=if Ye l then 0 else 1
def wgtL (l:List Int):List Int:=if Ye l then Qy l else[]
theorem K3 {l:List Int} (h:Ye l=true):l.length<=12/\ ∀x∈l,-127<=x/\x<=127:=by
 unfold Ye at h;rw[Bool.and_eq_true] at h;refine⟨of_decide_eq_true h.1,fun x hx=> ?_⟩;have:=List.all_eq_true.1 h.2 x hx;exact of_decide_eq_true this
theorem Jn (A:Option Addr) (cap:Nat) (l:List Int) (w:World) (hr:(Kd.int .i64).C w A l.length l) (hl:l.length<=1000000):
  Calls Tryz.prog 71 #[.slice A l.length cap] w (Outs (wgtL l) (wgtE l) w):=by
 have hb:=Below.refl w.heap.size w;have HC:=Rm A cap l w hr hl;unfold wgtL wgtE
 cases hd:Ye l with
 |false=>
  rw[hd] at HC;replace HC:=Qa.mk HC;rw[if_neg (by decide),if_neg (by decide)];clear hd hr hl;go_enter Tryz.func71,Tryz.ntmps71;go_wp2_with (first|(go_at_call 118;refine(HC.out).mono ?_;rintro e w' ⟨rfl,hbn⟩;replace hb:=bnx hb hbn;clear hbn));go_ret2;exact⟨none,0,rfl,Kd.Uc _ _,hb⟩
 |true=>
  rw[hd] at HC;obtain⟨h12,hf⟩:=K3 hd;have HW:=Qa.mk (fun(W:World) (hb:Below w.heap.size w W)=>M9 A cap l W (Kd.Qf hr hb) h12 hf);replace HC:=Qa.mk HC;rw[if_pos rfl,if_pos rfl];obtain⟨L,hLL⟩: ∃L,L=Qy l:=⟨_,rfl⟩;rw[<-hLL] at HW ⊢;clear hd hr h12 hf hLL hl;go_enter Tryz.func71,Tryz.ntmps71;go_wp2_with (first|(go_at_call 118;refine(HC.out).mono ?_;rintro e w' ⟨rfl,hbn⟩;replace hb:=bnx hb hbn;clear hbn));refine(HW.out _ hb).mono ?_;rintro e w1 ⟨v,rfl,hR,hbn⟩;replace hb:=bnx hb hbn;obtain⟨B5,p5,rfl,-,hC5⟩:=Kd.Qs hR;replace hC5:=Qa.mk hC5;clear hbn hR;go_wp2_with fail;go_ret2;exact⟨_,_,rfl,hC5.out,hb⟩
end Q21

namespace Q21
attribute [local go_sem] Qh Qi Qk Ql Qd Qe
open Q15
theorem Sk (A:Option Addr) (cap:Nat) (l:List Int) (w:World) (hr:(Kd.int .i64).C w A l.length l) (hl:l.length<=12) (hf: ∀x∈l,-127<=x/\x<=127):
  Calls Tryz.prog 179 #[.slice A l.length cap] w fun e w'=> ∃v,e= .returned v/\(Kd.int .i64).R 3 w' w.heap.size (fun _=>True) v (Qy l)/\Below w.heap.size w w':=by
 have HR:=Qa.mk hr;have hlI:(l.length:Int)<=12:=(by omega);have HLim:=Qa.mk (fun j hj=>Vj l hf hl (j:=j) hj);have HF:=Qa.mk (fun j (hj:j<l.length)=>hf _ (Qp l j hj));have HS:=Qa.mk (fun(j:Nat) (hj:j<l.length)=>(Ua (l.take j) (rd l j)));have hmo:=Qa.mk (show Tryz.prog.follows .mixedOrders =true by kernel_rfl);clear hr hf hl;go_enter Tryz.func179,Tryz.ntmps179;go_wp2_with fail;go_loopw [3,10] (fun o i wr=> ∃j:Nat,i= .int .i64 j/\j<=l.length/\Qa ((Kd.int .i64).R 3 wr w.heap.size (fun _=>True) o (Qy (l.take j)))/\Qa (Below w.heap.size w wr)) (fun _ i _=>l.length-(intOf i).toNat)
 case atStart=>exact⟨0,rfl,by omega,⟨Kd.Zx _ _ _ _ _⟩,⟨Below.refl _ _⟩⟩
 case round=>
  obtain⟨j,rfl,hj,ho,hbL⟩:=hrel;by_cases hlt:j<l.length
  ·obtain⟨ad,rfl,hcell⟩:=Qn HR.out hbL.out hlt
   have hjI:(j:Int)<(l.length:Int):=(by omega);have hk:=HF.out j hlt;have hT:Qy (l.take (j+1))=Tq (Qy (l.take j)) (rd l j):=(by rw[Qu l j hlt,HS.out j hlt]);have hlm:=HLim.out j hj;obtain⟨B3,p3,rfl,-,hC3⟩:=Kd.Qs ho.out;have hal:(Qy (l.take j)).length <=12:=(by rw[Vi,List.length_take];omega);obtain⟨a,ha⟩: ∃a,a=Qy (l.take j):=⟨_,rfl⟩;rw[<-ha] at hC3 hT hlm hal ⊢;obtain⟨k,hkk⟩: ∃k,k=rd l j:=⟨_,rfl⟩;rw[<-hkk] at hcell hk hT;have HMM:=Qa.mk (fun i (hi:i<a.length)=>hlm _ (Qp a i hi));have hnI:(a.length:Int)<=12:=(by omega);replace hT:=Qa.mk hT;replace hC3:=Qa.mk hC3;have hk':=Qa.mk hk;have hs32:IntKind.i64.wrap (32*k)=32*k:=IntWalk.i64_in _ (by omega);clear ha hkk ho hlm hal hk;go_wp2_with fail;obtain⟨wi,hwi⟩: ∃wi,wi=wr:=⟨_,rfl⟩;subst hwi;go_loopw [6,16] (fun o i wr=> ∃m:Nat,i= .int .i64 m/\m<=a.length/\Qa ((Kd.int .i64).R 3 wr wi.heap.size (fun _=>True) o ((List.range m).map (Vt a k)))/\Qa (Below wi.heap.size wi wr)) (fun _ i _=>a.length-(intOf i).toNat)
   case atStart=>exact⟨0,rfl,by omega,⟨Kd.Zx _ _ _ _ _⟩,⟨Below.refl _ _⟩⟩
   case round=>
    obtain⟨m,rfl,hm,hq,hbM⟩:=hrel;by_cases hlm:m<a.length
    ·obtain⟨ad3,rfl,c2⟩:=Qn hC3.out hbM.out hlm
     obtain⟨n,hn⟩: ∃n,n=a.length-1-m:=⟨_,rfl⟩;obtain⟨ad4,e4,c3⟩:=Qn hC3.out hbM.out (k:=n) (by omega);cases e4;have hb1:=Qa.mk (World.block_lt_of_cell? _ _ c2);have hnI2:(a.length:Int)-1-(m:Int)=(n:Int):=(by omega);have b1:=HMM.out m hlm;have b2:=HMM.out n (by omega);have hnew:Vt a k m=rd a m+rnd (k*rd a (n:Int)):=(by unfold Vt;rw[hn]);have HT2:Qa ((List.range (m+1)).map (Vt a k)=(List.range m).map (Vt a k)++[Vt a k m]):=⟨by rw[List.range_succ,List.map_append];rfl⟩;obtain⟨y,hy⟩: ∃y,y=rd a (n:Int):=⟨_,rfl⟩;rw[<-hy] at c3 b2 hnew;obtain⟨x,hx⟩: ∃x,x=rd a m:=⟨_,rfl⟩;rw[<-hx] at c2 b1 hnew;have hpb:=Ah hk'.out b2;have hrb:=Qcb hk'.out b2;have HRd:=fun W=>Qb2 (k*y) W (by omega) (by omega)
     obtain⟨z,hz⟩: ∃z,z=rnd (k*y):=⟨_,rfl⟩;rw[<-hz] at HRd hrb hnew;have hsum:IntKind.i64.wrap (x+z)=Vt a k m:=(by rw[hnew];exact IntWalk.i64_in _ (by omega));obtain⟨nv,hnv⟩: ∃nv,nv=Vt a k m:=⟨_,rfl⟩;rw[<-hnv] at hsum HT2;obtain⟨q,hqe⟩: ∃q,q=(List.range m).map (Vt a k):=⟨_,rfl⟩;have hql:q.length<=12:=(by rw[hqe];simp;omega);rw[<-hqe] at hq HT2;have hmul:IntKind.i64.wrap (k*y)=k*y:=IntWalk.i64_in _ (by omega);have h20:IntKind.i64.wrap ((a.length:Int)-1)=(a.length:Int)-1:=IntWalk.i64_in _ (by omega);have h22:IntKind.i64.wrap ((a.length:Int)-1-(m:Int))=(n:Int):=(by rw[hnI2];exact IntWalk.i64_in _ (by omega));have hml:(n:Int)<(a.length:Int):=(by omega);have hmI:(m:Int)<(a.length:Int):=(by omega);have hlen:Qa ((q.length+1)*8<=140737488355328):=⟨by omega⟩;replace HRd:=Qa.mk HRd;have hdr:Qa (Below wr.heap.size wr wr.drew):=⟨(Below.refl _ _).drew⟩;clear hn hy hx hz hnv hnew hpb hrb b1 b2 hnI2 hqe hql;go_wp2_with fail;refine Qt (S:=fun w'=>w'.cell? (ad3.add m)=some (.int .i64 x)/\w'.cell? (ad3.add n)=some (.int .i64 y)) (ds:=[19]) hmo.out ⟨c2,c3⟩ (fun hHeld=> ?_)
     (refine Tk.tl 0 (u6) hHeld ?_)
     (refine Tk.tl 1 (.slice (some ad3) a.length p3) hHeld ?_)
     (refine Tk.tl 2 (.int .i64 m) hHeld ?_)
     (refine Tk.tl 3 (.pointer (some (ad3.add m))) hHeld ?_)
     (refine Tk.tl 4 (.int .i64 x) hHeld ?_)
     (refine Tk.tl 5 (.int .i64 k) hHeld ?_)
     (refine Tk.tl 6 (.slice (some ad3) a.length p3) hHeld ?_)
     (refine Tk.tl 7 (.slice (some ad3) a.length p3) hHeld ?_)
     (refine Tk.tl 8 (.int .i64 a.length) hHeld ?_)
     (refine Tk.tl 9 (.int .i64 ((a.length:Int)-1)) hHeld ?_)
     (refine Tk.tl 10 (.int .i64 m) hHeld ?_)
     (refine Tk.tl 11 (.int .i64 n) hHeld ?_)
     (refine Tk.tl 12 (.pointer (some (ad3.add n))) hHeld ?_)
     (refine Tk.tl 13 (.int .i64 y) hHeld ?_)
     (refine Tk.tl 14 (.int .i64 (k*y)) hHeld ?_)
     (refine Qg (rs:=[15]) (by kernel_rfl) (by simp) ?_;refine Qc.cons rfl (by decide) (fun K hK=> ?_) Qc.nil)
     go_simp;refine(HRd.out _).mono ?_;rintro e w7 ⟨rfl,hb7⟩;replace hb7:=bnx hdr.out hb7;have hR8:=Kd.Q4 hq.out hb7;have d2:=cnx c2 hb7;have d3:=cnx c3 hb7;have hB8:=bnx hbM.out hb7;clear hb7
     (go_wp2_with fail;refine hK.out _ _ (⟨d2,d3⟩) (fun hHeld=> ?_);clear hK K;try simp only[Act.put,Tk.z1,Tk.z2,Tk.z3,Tk.z4,Tk.z5,Tk.z6])
     (refine Tk.tl 16 (.int .i64 nv) hHeld ?_)
     (refine Qg (rs:=[17]) (by kernel_rfl) (by simp) ?_;refine Qc.cons rfl (by decide) (fun K hK=> ?_) Qc.nil)
     go_simp
     (go_wp2_with fail;refine hK.out _ _ (⟨Xa _ hHeld.1,Xa _ hHeld.2⟩) (fun hHeld=> ?_);clear hK K;try simp only[Act.put,Tk.z1,Tk.z2,Tk.z3,Tk.z4,Tk.z5,Tk.z6])
     (refine Qg (rs:=[18]) (by kernel_rfl) (by simp) ?_;refine Qc.cons rfl (by decide) (fun K hK=> ?_) Qc.nil)
     refine Kd.V5 (Kd.int .i64) (w0:=wi) wi.heap.size rfl (.tmp 19) (.tmp 36) 22 3 (.int .i64 0) 8 rfl Tryz.underlying22 Qw rfl (by decide) (by decide) u6 q nv [.int .i64 nv] (fun _=>True) (fun _=>False) rfl rfl rfl (fun _ hk=>hk.elim) (fun _ _=>trivial) hR8 hB8 hB8.size hlen.out ?_;intro v1 w9 hR9 hB9 hg9 hat9
     have f2:w9.cell? (ad3.add m)=some (.int .i64 x):=hg9.cell d2 (fun e=>by
      have h1:=((Kd.Zd hR8).1 _ e.symm).2.1;obtain⟨ad5,e5,h5⟩:=Qn hC3.out (Below.refl _ _) hlm;cases e5;have:=World.block_lt_of_cell? _ _ h5
      omega)
     have f3:w9.cell? (ad3.add n)=some (.int .i64 y):=hg9.cell d3 (fun e=>by
      have h1:=((Kd.Zd hR8).1 _ e.symm).2.1;obtain⟨ad5,e5,h5⟩:=Qn hC3.out (Below.refl _ _) hlm;cases e5;have:=World.block_lt_of_cell? _ _ h5;rw[add_block] at this h1
      omega)
     replace hR9:=Qa.mk hR9;replace hB9:=Qa.mk hB9;clear hg9 hat9 hR8 hB8 hHeld d2 d3 c2 c3
     (go_wp2_with fail;refine hK.out _ _ (⟨f2,f3⟩) (fun hHeld=> ?_);clear hK K;try simp only[Act.put,Tk.z1,Tk.z2,Tk.z3,Tk.z4,Tk.z5,Tk.z6])
     (refine Qg (rs:=[19]) (by kernel_rfl) (by simp) ?_;refine Qc.Zl rfl (by decide) (fun K hK=> ?_) Qc.nil)
     go_simp;go_wp2_with fail;refine hK.out _ _ ?_;clear hK K
     try simp only[Act.put,List.setIfInBounds_toArray,List.set_cons_zero,List.set_cons_succ]
     refine Qq (by kernel_rfl) ?_ _;go_wp2_with fail;go_roundw
     case rel=>exact⟨m+1,by go_num,by omega,⟨by rw[HT2.out];exact hR9.out⟩,hB9⟩
     case measure=>simp[intOf];omega
    ·obtain rfl:m=a.length:=by omega
     have hlen:Qa ((((List.range a.length).map (Vt a k)).length +1)*8<=140737488355328):=⟨by simp;omega⟩;have hst:Qa ((List.range a.length).map (Vt a k)++[32*k]=Tq a k):=⟨rfl⟩;obtain⟨q,hqe⟩: ∃q,q=(List.range a.length).map (Vt a k):=⟨_,rfl⟩;rw[<-hqe] at hq hlen hst;clear hqe;go_wp2_with (first|(at_builtin;refine Kd.Q3 (Kd.int .i64) (w0:=wi) wi.heap.size rfl (.tmp 39) (.tmp 42) 22 3 (.int .i64 0) 8 rfl Tryz.underlying22 Qw rfl (by decide) (by omega) u6 q ((32*k)) [.int .i64 ((32*k))] (fun _=>True) (fun _=>False) rfl rfl rfl (fun _ hk=>hk.elim) (fun _ _=>trivial) hq.out hbM.out hbM.out.size hlen.out ?_;intro v1 wA hoA hbA hgA hatA;have HOA:=Qa.mk hoA;have HBA:=Qa.mk hbA;clear hoA hbA hgA hatA));go_roundw
     case rel=>exact⟨j+1,by go_num,by omega,⟨by rw[hT.out,<-hst.out];exact Kd.Zz HOA.out hbL.out.size⟩,⟨bnx hbL.out HBA.out⟩⟩
     case measure=>simp[intOf];omega
  ·obtain rfl:j=l.length:=by omega
   have ho':=ho.out;rw[List.take_length] at ho';obtain⟨A5,p5,rfl,-,-⟩:=Kd.Qs ho';replace ho':=Qa.mk ho';clear ho;go_wp2_with fail;go_ret;exact⟨_,rfl,ho'.out,hbL.out⟩
end Q21

namespace Q21
attribute [local go_sem] Qh Qi Qk Ql Qd Qe
open Q15
open Q16 (isW off wd Q7 Zj Z8 V6 Qx)
section
variable {α:Type} {enc:α->Value} {w:World} {g t:Nat} {l:List α}
theorem bk_cell (h:w.heap[g]? =some (.cells (l.map enc).toArray t (0,0))) {i:Nat} {x:α} (hx:l[i]? =some x):w.cell? ⟨g,i,none⟩=some (enc x):=by
 rw[Yo h];simp[hx]
theorem bk_set (h:w.heap[g]? =some (.cells (l.map enc).toArray t (0,0))) (i:Nat) (u:α):(w.setCell ⟨g,i,none⟩ (enc u)).heap[g]? =some (.cells ((l.set i u).map enc).toArray t (0,0)):=by
 rw[Q9 h,List.map_set];simp
theorem bk_new (w:World) (t n:Nat) (x:α):(w.alloc (.cells (madeCells #[enc x] n) t)).heap[w.heap.size]? =some (.cells ((List.replicate n x).map enc).toArray t (0,0)):=by
 have e:madeCells #[enc x] n=((List.replicate n x).map enc).toArray :=by
  apply Array.ext
  ·simp[madeCells]
  ·intro i h1 h2
   simp[madeCells,Nat.mod_one]
 rw[e];exact heap_alloc_new _ _
end
def Dl (l c:List Int) (k:Nat):Bool:=(Zj c l k).any fun v=>decide (v≠0)
def Xo (l c:List Int):List Bool:=(List.range l.length).map (Dl l c)
def Y0 (l c:List Int) (k m:Nat):List Bool:=(List.range l.length).map fun i=>if i<k then Dl l c i else if i=k then((Zj c l k).take m).any fun v=>decide (v≠0) else false
theorem Yz (l c:List Int):(Xo l c).length =l.length:=by simp[Xo]
theorem Qcg (l c:List Int):Y0 l c 0 0=List.replicate l.length false:=by
 apply List.ext_getElem
 ·simp[Y0]
 ·intro i h1 h2
  simp only[Y0,List.getElem_map,List.getElem_range,List.take_zero,List.any_nil,List.getElem_replicate,Nat.not_lt_zero,if_false]
  split<;>rfl
theorem Qey (l c:List Int) (m:Nat):Y0 l c l.length m=Xo l c:=by
 apply List.ext_getElem
 ·simp[Y0,Xo]
 ·intro i h1 h2
  have h:i<l.length:=(by simpa[Y0] using h1);simp[Y0,Xo,h]
theorem Qce {l c:List Int} {k:Nat} {m:Nat} (hm:(Zj c l k).length <=m):Y0 l c k m=Y0 l c (k+1) 0:=by
 apply List.ext_getElem
 ·simp[Y0]
 ·intro i h1 h2
  simp only[Y0,List.getElem_map,List.getElem_range,List.take_of_length_le hm,List.take_zero,List.any_nil];by_cases h:i<k
  ·rw[if_pos h,if_pos (by omega)]
  ·by_cases h3:i=k
   ·subst h3
    rw[if_neg h,if_pos rfl,if_pos (by omega)];rfl
   ·rw[if_neg h,if_neg h3,if_neg (by omega)]
    split<;>rfl
theorem usedM_at {l c:List Int} {k m:Nat} (hk:k<l.length):(Y0 l c k m)[k]? =some (((Zj c l k).take m).any fun v=>decide (v≠0)):=by
 simp[Y0,hk]
theorem Qcr {l c:List Int} (hc:c.length=128) (hl:isW l=true) {k:Nat} (hk:k<l.length) {m:Nat} (hm:m<wd l k):(Zj c l k).take (m+1)=(Zj c l k).take m++[rd c (off l k+m:Nat)]:=by
 have h1:=Z8 hc hl hk;have h2:=Q7 hl hk;rw[List.take_add_one]
 congr 1
 rw[List.getElem?_eq_getElem (by omega)];simp only[Zj,List.getElem_take,List.getElem_drop,Option.toList_some,rd,Int.toNat_natCast];rw[List.getD_eq_getElem?_getD,List.getElem?_eq_getElem (by omega)];rfl
theorem Qcf {l c:List Int} (hc:c.length=128) (hl:isW l=true) {k:Nat} (hk:k<l.length) {m:Nat} (hm:m<wd l k):
  Y0 l c k (m+1)=(Y0 l c k m).set k ((((Zj c l k).take m).any fun v=>decide (v≠0))||decide (rd c (off l k+m:Nat)≠0)):=by
 apply List.ext_getElem
 ·simp[Y0]
 ·intro i h1 h2
  rw[List.getElem_set];simp only[Y0,List.getElem_map,List.getElem_range,Qcr hc hl hk hm,List.any_append,List.any_cons,List.any_nil,Bool.or_false];by_cases h:k=i
  ·subst h
   rw[if_neg (by omega),if_pos rfl,if_pos rfl]
  ·rw[if_neg h]
   by_cases h3:i<k
   ·rw[if_pos h3,if_pos h3]
   ·rw[if_neg h3,if_neg (fun e=>h e.symm),if_neg h3,if_neg (fun e=>h e.symm)]
theorem Qc5 {l:List Int} (h:isW l=true):off l l.length=128:=by
 unfold off;rw[List.take_length,(Qx.1 h).2.1];rfl
theorem Tx (A:Option Addr) (cap:Nat) (l:List Int) (a:Addr) (c1:Nat) (c:List Int) (w:World) (hr:(Kd.int .i64).C w A l.length l) (hl:isW l=true) (hr1:(Kd.int .i64).C w (some a) c.length c) (hc:c.length=128):
  Calls Tryz.prog 30 #[.slice A l.length cap,.slice (some a) 128 c1] w fun e w'=> ∃g,e= .returned (.tuple #[.slice (some ⟨g,0,none⟩) l.length l.length,.int .i64 0])/\w.heap.size<=g/\w'.heap[g]? =some (.cells ((Xo l c).map Value.bool).toArray 4 (0,0))/\Below w.heap.size w w':=by
 have HR:=Qa.mk hr;have HR1:=Qa.mk hr1;have h32:=(Qx.1 hl).2.2;have hlI:(l.length:Int)<=32:=(by omega);have hlI2:decide ((128:Int)<(l.length:Int))=false:=decide_eq_false (by omega);have HO:=Qa.mk (fun k (hk:k<l.length)=>Q7 hl hk);have hoA:=Qa.mk (Qc5 hl);have HS:=Qa.mk (fun(k:Nat) (hk:k<l.length) (m:Nat) (hm:m<wd l k)=>Qcf hc hl hk hm);have HBL:=Qa.mk (fun(k:Nat) (hk:k<l.length)=>Z8 hc hl hk);have hmk:=M3 (P:=Tryz.prog) 23 4 (.bool false) 1 Tryz.underlying23 Du rfl (by decide) l.length (by omega);have hcL:=Qa.mk hc;clear hr hr1 hl h32 hc;go_enter Tryz.func30,Tryz.ntmps30;go_wp2_with fail;go_loopw [6,15] (fun s i wr=> ∃(k:Nat) (z:Int),i= .int .i64 k/\s= .int .i64 z/\k<=l.length/\0<=z/\z<=128/\Qa (z=(off l k:Nat))/\Qa (Below w.heap.size w wr)) (fun _ i _=>l.length-(intOf i).toNat)
 case atStart=>exact⟨0,0,rfl,rfl,by omega,by omega,by omega,⟨by simp[off]⟩,⟨Below.refl _ _⟩⟩
 case round=>
  obtain⟨k,z,rfl,rfl,hk,hz0,hz1,hz,hb⟩:=hrel;by_cases hlt:k<l.length
  ·obtain⟨ad,rfl,hcell⟩:=Qn HR.out hb.out hlt
   obtain⟨h1,h2,h3,h4⟩:=HO.out k hlt;have hzv:=hz.out;have hx:rd l k=((off l (k+1):Nat):Int)-z/\1<=rd l k/\rd l k<=128/\z+rd l k<=128:=(by omega);obtain⟨n,hn⟩: ∃n,n=rd l k:=⟨_,rfl⟩;rw[<-hn] at hx hcell;obtain⟨hx1,hx2,hx3,hx4⟩:=hx;have hx1':=Qa.mk hx1;have hkI:(k:Int)<(l.length:Int):=(by omega);clear h1 h2 h3 h4 hn hzv hz hx1;go_wp2_with fail;go_roundw
   case rel=>exact⟨k+1,z+n,by go_num,rfl,by omega,by omega,by omega,⟨by have:=hx1'.out;omega⟩,hb⟩
   case measure=>simp[intOf];omega
  ·obtain rfl:k=l.length:=by omega
   obtain rfl:z=128:=(by rw[hz.out,hoA.out];rfl);clear hz hz0 hz1;have hb':=hb;go_wp2_with fail;obtain⟨W1,hW1⟩: ∃W,W=wr.alloc (.cells (madeCells #[Value.bool false] l.length) 4):=⟨_,rfl⟩;have hB1:W1.heap[wr.heap.size]? =some (.cells ((Y0 l c 0 0).map Value.bool).toArray 4 (0,0)):=(by rw[hW1,Qcg];exact bk_new wr _ _ false);have hb1:Below w.heap.size w W1:=(by rw[hW1];exact hb.out.alloc hb.out.size _);rw[<-hW1];have hg0:Qa (w.heap.size<=wr.heap.size):=⟨hb.out.size⟩;obtain⟨g,hg⟩: ∃g,g=wr.heap.size:=⟨_,rfl⟩;rw[<-hg] at hB1 hg0 ⊢;replace hB1:=Qa.mk hB1;replace hb1:=Qa.mk hb1;clear hW1 hg hb hmk;go_loopw [10,43] (fun s i wr=> ∃(k:Nat),i= .int .i64 k/\s= .int .i64 ((off l k:Nat):Int)/\k<=l.length/\Qa (wr.heap[g]? =some (.cells ((Y0 l c k 0).map Value.bool).toArray 4 (0,0)))/\Qa (Below w.heap.size w wr)) (fun _ i _=>l.length-(intOf i).toNat)
   case atStart=>exact⟨0,rfl,by simp[off],by omega,hB1,hb1⟩
   case round=>
    obtain⟨k,rfl,rfl,hk,hB,hb⟩:=hrel;by_cases hlt:k<l.length
    ·obtain⟨ad,rfl,hcell⟩:=Qn HR.out hb.out hlt
     obtain⟨h1,h2,h3,h4⟩:=HO.out k hlt;have hkI:(k:Int)<(l.length:Int):=(by omega);rw[h4] at hcell;have hbl:=HBL.out k hlt;have HN:=Qa.mk (Qce (l:=l) (c:=c) (k:=k) (m:=wd l k) (by omega));have h1':=Qa.mk h1;obtain⟨n,hn⟩: ∃n,n=wd l k:=⟨_,rfl⟩;obtain⟨o,ho⟩: ∃o,o=off l k:=⟨_,rfl⟩;have hS:=HS.out k hlt;rw[<-hn] at hcell hS HN h1' h2 h3;rw[<-ho] at hS h1' h3 ⊢;replace hS:=Qa.mk hS;have hltk:=Qa.mk hlt;have ho':=Qa.mk ho;clear h1 h4 hbl hn ho;go_wp2_with fail;go_loopw [10,49] (fun s i wr=> ∃(m:Nat),i= .int .i64 m/\s= .int .i64 ((o+m:Nat):Int)/\m<=n/\Qa (wr.heap[g]? =some (.cells ((Y0 l c k m).map Value.bool).toArray 4 (0,0)))/\Qa (Below w.heap.size w wr)) (fun _ i _=>n-(intOf i).toNat)
     case atStart=>exact⟨0,rfl,rfl,by omega,hB,hb⟩
     case round=>
      obtain⟨m,rfl,rfl,hm,hB,hb⟩:=hrel;by_cases hlm:m<n
      ·have hom:o+m<128:=by omega
       obtain⟨ad,e1,c2⟩:=Qn HR1.out hb.out (k:=o+m) (by have:=hcL.out;omega);cases e1;have c1:=bk_cell hB.out (usedM_at (l:=l) (c:=c) (m:=m) hltk.out);have f1:=P5 hB.out k;have hst:=hS.out m hlm;have hmI:(m:Int)<(n:Int):=(by omega);obtain⟨x,hx⟩: ∃x,x=rd c (o+m:Nat):=⟨_,rfl⟩;rw[<-hx] at c2 hst;obtain⟨v,hv⟩: ∃v,v=((Zj c l k).take m).any fun v=>decide (v≠0):=⟨_,rfl⟩
       rw[<-hv] at c1 hst;have hkg:=Qa.mk (fun(u:Bool)=>bk_set hB.out k u);have hbs:=Qa.mk (fun(u:Bool)=>Below.setCell hb.out (p:=⟨g,k,none⟩) hg0.out (.bool u));clear hx hv hB hb;have hmn:Qa (m+1<=n):=⟨hlm⟩;have hmeas:Qa (m<n):=⟨hlm⟩;cases v
       ·by_cases hx0:x=0
        ·have hn0:(x != 0)=false:=by simp[hx0]
         rw[decide_eq_false (by simpa using hx0)] at hst;replace hst:=Qa.mk hst;clear hx0 hlm;go_wp2_with fail;go_roundw
         case rel=>exact⟨m+1,by go_num,by go_num,hmn.out,⟨by rw[hst.out];exact hkg.out false⟩,⟨hbs.out false⟩⟩
         case measure=>have:=hmeas.out;simp[intOf];omega
        ·have hn0:(x != 0)=true:=by simpa using hx0
         rw[decide_eq_true (by simpa using hx0)] at hst;replace hst:=Qa.mk hst;clear hx0 hlm;go_wp2_with fail;go_roundw
         case rel=>exact⟨m+1,by go_num,by go_num,hmn.out,⟨by rw[hst.out];exact hkg.out true⟩,⟨hbs.out true⟩⟩
         case measure=>have:=hmeas.out;simp[intOf];omega
       ·rw[Bool.true_or] at hst
        replace hst:=Qa.mk hst;clear hlm;go_wp2_with fail;go_roundw
        case rel=>exact⟨m+1,by go_num,by go_num,hmn.out,⟨by rw[hst.out];exact hkg.out true⟩,⟨hbs.out true⟩⟩
        case measure=>have:=hmeas.out;simp[intOf];omega
      ·obtain rfl:m=n:=by omega
       rw[HN.out] at hB;have hoo:o+m=off l (k+1):=(by rw[h1'.out]);rw[hoo];clear hoo;go_wp2_with fail;go_roundw
       case rel=>exact⟨k+1,by go_num,rfl,by omega,hB,hb⟩
       case measure=>simp[intOf];omega
    ·obtain rfl:k=l.length:=by omega
     rw[Qey] at hB;go_wp2_with fail;go_ret2;exact⟨g,rfl,hg0.out,hB.out,hb.out⟩
end Q21

namespace Rq
attribute [local go_sem] Qh Qi Qk Ql Qd Qe
open Q15 (bnx cnx Xa)
abbrev It:=Int×Int
def kIt:Kd It:=Kd.pair (Kd.int .i64) (Kd.int .i64)
theorem Pf:(Tryz.prog.info? 225).map (fun i=>(i.zero,i.size,i.bytes))=some (some (.agg #[.int .i64 0,.int .i64 0]),2,16):=by kernel_rfl
theorem kIt_K {w:World} {x:It} {cs:List Value} (h:kIt.K w x cs):cs=[.int .i64 x.1,.int .i64 x.2]:=by
 obtain⟨c0,c1,rfl,h0,h1⟩:=h;have h0':c0=[.int .i64 x.1]:=h0;have h1':c1=[.int .i64 x.2]:=h1;rw[h0',h1'];rfl
theorem kIt_M (w:World) (base:Nat) (ok:Nat->Prop) (x:It):kIt.M w base ok x [.int .i64 x.1,.int .i64 x.2]:=⟨[.int .i64 x.1],[.int .i64 x.2],rfl,rfl,rfl⟩
def it0:It:=(0,0)
theorem F6 {w W:World} {A:Option Addr} {xs:List It} (h:kIt.C w A xs.length xs) (hb:Below w.heap.size w W) {k:Nat} (hk:k<xs.length):
  ∃ad,A=some ad/\W.cell? (ad.add (k*2))=some (.int .i64 (xs.getD k it0).1)/\W.cell? (ad.add (k*2+1))=some (.int .i64 (xs.getD k it0).2):=by
 obtain⟨ad,c,e,_,hK,hc⟩:=Kd.Oj (Kd.Qf h hb) it0 k (by omega) (by omega);have hK2:kIt.K W (xs.getD k it0) c:=hK;have e2:=kIt_K hK2;subst e2;have h0:=hc 0 _ rfl;have h1:=hc 1 _ rfl;exact⟨ad,e,h0,h1⟩
def Q8:List It->List It
 |a::b::r=>(a.1+b.1,-1)::Q8 r
 |_=>[]
theorem Zp: ∀l:List It,(Q8 l).length =l.length/2
 |[]=>rfl
 |[_]=>by simp[Q8]
 |_::_::r=>by
  rw[Q8,List.length_cons,Zp r];simp only[List.length_cons];omega
theorem Qah: ∀(l:List It) (k:Nat),2*k+1<l.length->(Q8 l)[k]? =some ((l.getD (2*k) it0).1+(l.getD (2*k+1) it0).1,-1)
 |[],k,h=>by simp at h
 |[_],k,h=>by simp at h
 |a::b::r,0,h=>rfl
 |a::b::r,k+1,h=>by
  simp only[List.length_cons] at h;rw[Q8,List.getElem?_cons_succ,Qah r k (by omega),show 2*(k+1)=2*k+1+1 from by omega,show 2*k+1+1+1=2*k+1+1+1 from rfl];rfl
theorem Qb5 (l:List It) (k:Nat) (h:2*k+1<l.length):(Q8 l).take (k+1)=(Q8 l).take k++[((l.getD (2*k) it0).1+(l.getD (2*k+1) it0).1,-1)]:=by
 rw[List.take_add_one,Qah l k h];rfl
def Wt (l:List It):Prop:= ∀x∈l,0<=x.1/\x.1<=4611686018427387903
theorem Wt.at {l:List It} (h:Wt l) {k:Nat} (hk:k<l.length):0<=(l.getD k it0).1/\(l.getD k it0).1<=4611686018427387903:=by
 rw[List.getD_eq_getElem?_getD,List.getElem?_eq_getElem hk];exact h _ (List.getElem_mem hk)
theorem R5 (A:Option Addr) (cap:Nat) (l:List It) (w:World) (hr:kIt.C w A l.length l) (hl:l.length<=100000) (hw:Wt l):
  Calls Tryz.prog 236 #[.slice A l.length cap] w fun e w'=> ∃v,e= .returned v/\kIt.R 225 w' w.heap.size (fun _=>True) v (Q8 l)/\Below w.heap.size w w':=by
 have HR:=Qa.mk hr;have hlI:(l.length:Int)<=100000:=(by omega);have HW:=Qa.mk (fun(k:Nat) (hk:k<l.length)=>hw.at hk);have HT:=Qa.mk (fun(k:Nat) (hk:2*k+1<l.length)=>Qb5 l k hk);have HL:=Qa.mk (Zp l);have hmo:=Qa.mk (show Tryz.prog.follows .mixedOrders =true by kernel_rfl);clear hr hw;go_enter Tryz.func236,Tryz.ntmps236;go_wp2_with fail;go_loopw [3,4] (fun o i wr=> ∃k j:Nat,i= .int .i64 j/\Qa (j=2*k)/\j<=l.length/\Qa (kIt.R 225 wr w.heap.size (fun _=>True) o ((Q8 l).take k))/\Qa (Below w.heap.size w wr)) (fun _ i _=>l.length-(intOf i).toNat)
 case atStart=>exact⟨0,0,rfl,⟨rfl⟩,by omega,⟨Kd.Zx _ _ _ _ _⟩,⟨Below.refl _ _⟩⟩
 case round=>
  obtain⟨k,j,rfl,hj2,hj,ho,hbL⟩:=hrel;by_cases hlt:j+1<l.length
  ·obtain⟨ad,rfl,c1,-⟩:=F6 HR.out hbL.out (k:=j) (by omega)
   obtain⟨ad',e',c2,-⟩:=F6 HR.out hbL.out (k:=j+1) hlt;cases e';have hjI:(j:Int)+1<(l.length:Int):=(by omega);have hjI0:(j:Int)<(l.length:Int):=(by omega);have b1:=HW.out j (by omega);have b2:=HW.out (j+1) hlt;have ht:=HT.out k (by have:=hj2.out;omega);rw[show 2*k=j from hj2.out.symm] at ht;obtain⟨x,hx⟩: ∃x,x=(l.getD j it0).1:=⟨_,rfl⟩;obtain⟨y,hy⟩: ∃y,y=(l.getD (j+1) it0).1:=⟨_,rfl⟩;rw[<-hx] at b1 c1 ht;rw[<-hy] at b2 c2 ht;obtain⟨q,hqe⟩: ∃q,q=(Q8 l).take k:=⟨_,rfl⟩
   have hql:q.length<=100000:=by
    have:=HL.out;rw[hqe,List.length_take];omega
   rw[<-hqe] at ho ht;have h20:IntKind.i64.wrap ((j:Int)+1)=((j+1:Nat):Int):=(by rw[IntWalk.i64_in _ (by omega)];rfl);have hlen:Qa ((q.length+1)*16<=140737488355328):=⟨by omega⟩;have hn1:((j+1:Nat):Int)<(l.length:Int):=(by omega);obtain⟨n,hn⟩: ∃n,n=j+1:=⟨_,rfl⟩;rw[<-hn] at c2 h20 hn1;obtain⟨z,hz⟩: ∃z,z=x+y:=⟨_,rfl⟩;have hsum:IntKind.i64.wrap (x+y)=z:=(by rw[hz];exact IntWalk.i64_in _ (by omega));rw[<-hz] at ht;replace ht:=Qa.mk ht;replace hn:=Qa.mk hn;clear hx hy hqe hql b1 b2 hz;go_wp2_with fail;refine Qt (S:=fun w'=>w'.cell? (ad.add (j*2))=some (.int .i64 x)/\w'.cell? (ad.add (n*2))=some (.int .i64 y)) (ds:=[16]) hmo.out ⟨c1,c2⟩ (fun hHeld=> ?_)
   (refine Tk.tl 0 (u3) hHeld ?_)
   (refine Tk.tl 1 (.slice (some ad) l.length cap) hHeld ?_)
   (refine Tk.tl 2 (.int .i64 j) hHeld ?_)
   (refine Tk.tl 3 (.pointer (some (ad.add (j*2)))) hHeld ?_)
   (refine Tk.tl 4 (.pointer (some (ad.add (j*2)))) hHeld ?_)
   (refine Tk.tl 5 (.int .i64 x) hHeld ?_)
   (refine Tk.tl 6 (.slice (some ad) l.length cap) hHeld ?_)
   (refine Tk.tl 7 (.int .i64 j) hHeld ?_)
   (refine Tk.tl 8 (.int .i64 n) hHeld ?_)
   (refine Tk.tl 9 (.pointer (some (ad.add (n*2)))) hHeld ?_)
   (refine Tk.tl 10 (.pointer (some (ad.add (n*2)))) hHeld ?_)
   (refine Tk.tl 11 (.int .i64 y) hHeld ?_)
   (refine Tk.tl 12 (.int .i64 z) hHeld ?_)
   (refine Tk.tl 13 (.agg #[.int .i64 z,.int .i64 (-1)]) hHeld ?_)
   (refine Qg (rs:=[14]) (by kernel_rfl) (by simp) ?_;refine Qc.cons rfl (by decide) (fun K hK=> ?_) Qc.nil)
   go_simp;have hdr:Below wr.heap.size wr wr.drew:=(Below.refl _ _).drew;have HRd:=Kd.Q4 ho.out hdr;have hBd:=bnx hbL.out hdr;have d1:=cnx c1 hdr;have d2:=cnx c2 hdr
   (go_wp2_with fail;refine hK.out _ _ (⟨Xa _ hHeld.1,Xa _ hHeld.2⟩) (fun hHeld=> ?_);clear hK K;try simp only[Act.put,Tk.z1,Tk.z2,Tk.z3,Tk.z4,Tk.z5,Tk.z6])
   (refine Qg (rs:=[15]) (by kernel_rfl) (by simp) ?_;refine Qc.cons rfl (by decide) (fun K hK=> ?_) Qc.nil)
   refine Kd.V5 kIt (w0:=w) w.heap.size rfl (.tmp 12) (.tmp 26) 223 225 (.agg #[.int .i64 0,.int .i64 0]) 16 rfl Tryz.underlying223 Pf rfl (by decide) (by decide) u3 q (z,-1) [.int .i64 z,.int .i64 (-1)] (fun _=>True) (fun _=>False) rfl rfl (kIt_M _ _ _ _) (fun _ hk=>hk.elim) (fun _ _=>trivial) HRd hBd hBd.size hlen.out ?_;intro v1 w9 hR9 hB9 hg9 hat9
   have hlo:ad.block<w.heap.size:=by
    obtain⟨ad5,e5,h5,-⟩:=F6 HR.out (Below.refl _ _) (k:=j) (by omega);cases e5;simpa only[add_block] using World.block_lt_of_cell? _ _ h5
   have hne:some ad.block≠u3.ownBlock:=fun e=>by
    have h1:=((Kd.Zd HRd).1 _ e.symm).2.1;omega
   have f1:w9.cell? (ad.add (j*2))=some (.int .i64 x):=hg9.cell d1 (by rw[add_block];exact hne);have f2:w9.cell? (ad.add (n*2))=some (.int .i64 y):=hg9.cell d2 (by rw[add_block];exact hne);replace hR9:=Qa.mk hR9;replace hB9:=Qa.mk hB9;clear hg9 hat9 HRd hBd hHeld d1 d2 c1 c2 hne hlo
   (go_wp2_with fail;refine hK.out _ _ (⟨f1,f2⟩) (fun hHeld=> ?_);clear hK K;try simp only[Act.put,Tk.z1,Tk.z2,Tk.z3,Tk.z4,Tk.z5,Tk.z6])
   (refine Qg (rs:=[16]) (by kernel_rfl) (by simp) ?_;refine Qc.Zl rfl (by decide) (fun K hK=> ?_) Qc.nil)
   go_simp;go_wp2_with fail;refine hK.out _ _ ?_;clear hK K
   try simp only[Act.put,List.setIfInBounds_toArray,List.set_cons_zero,List.set_cons_succ]
   refine Qq (by kernel_rfl) ?_ _;have h40:IntKind.i64.wrap ((j:Int)+2)=((j+2:Nat):Int):=(by rw[IntWalk.i64_in _ (by omega)];rfl);go_wp2_with fail;go_roundw
   case rel=>exact⟨k+1,j+2,rfl,⟨by have:=hj2.out;omega⟩,by omega,⟨by rw[ht.out];exact hR9.out⟩,hB9⟩
   case measure=>simp[intOf];omega
  ·have hjI: ¬(j:Int)+1<(l.length:Int):=by omega
   have h20:IntKind.i64.wrap ((j:Int)+1)=(j:Int)+1:=IntWalk.i64_in _ (by omega);have hall:(Q8 l).take k=Q8 l:=List.take_of_length_le (by have:=HL.out;have:=hj2.out;omega);rw[hall] at ho;clear hall;go_wp2_with fail;go_ret;exact⟨_,rfl,ho.out,hbL.out⟩
end Rq

end Go.Proofs.YtnflnicdjioflaaGreatDoor
