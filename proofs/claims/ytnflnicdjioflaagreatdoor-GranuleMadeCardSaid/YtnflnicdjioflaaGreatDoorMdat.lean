/- A part of the proof. -/
import Derived.Test.YtnflnicdjioflaaGreatDoorMdao
import Derived.Shelf.Bits.Mul64
import Derived.Lib.AppendZerosOnto
set_option linter.unusedVariables false
set_option linter.unusedSimpArgs false
set_option maxRecDepth 100000
set_option maxHeartbeats 8000000
namespace Go.Proofs.YtnflnicdjioflaaGreatDoor
open Go.RowKit Go.Proofs.YtnflnicdjioflaaGreatDoorW.PrintWords Go.Proofs.YtnflnicdjioflaaGreatDoorW.PrintLast Go.Proofs.YtnflnicdjioflaaGreatDoorW.PrintMore
namespace Sec
attribute [local go_sem] Qi Qj Qk Ql Qg Qh
open Q15
theorem Qab (n:Nat) (hn:n<=1000000) (w:World):
  Calls Tryz.prog 217 #[.int .u64 1,.int .u64 n] w fun e w'=>e= .returned (.tuple #[.int .u64 0,.int .u64 n])/\w'=w:=by
 have m1:bits .and .u64 (1:Int) 4294967295=1:=by decide
 have m2:bits .and .u64 (n:Int) 4294967295=(n:Int):=by
  rw[Go.Proofs.Mul64.maskN n (by omega),Nat.mod_eq_of_lt (by omega)]
 have m0:bits .and .u64 (0:Int) 4294967295=0:=(by decide);have d2:(n:Int)/4294967296=0:=Int.ediv_eq_zero_of_lt (by omega) (by omega);have w1:IntKind.u64.wrap (n:Int)=(n:Int):=(by rw[IntKind.wrap_u64];omega);clear hn;go_enter Tryz.func217,Tryz.ntmps217;go_wp2;go_ret2;exact⟨rfl,rfl⟩
theorem Qea (n:Nat) (hn:n<=1000000) (w:World):
  Calls Tryz.prog 188 #[.int .u64 1,.int .u64 n] w fun e w'=>e= .returned (.tuple #[.int .u64 0,.int .u64 n])/\w'=w:=by
 have HM:=Qa.mk (fun W=>Qab n hn W);clear hn;go_enter Tryz.func188,Tryz.ntmps188;go_wp2_with (first|(go_at_call 217;refine(HM.out _).mono ?_;rintro e w' ⟨rfl,rfl⟩));go_ret2;exact⟨rfl,rfl⟩
end Sec

namespace Sec
attribute [local go_sem] Qi Qj Qk Ql Qg Qh
open Q15
open Bk (Z6)
open Q21 (Qb Qf)
def Dh (k:Int) (n c:Nat):List Value:=List.replicate n (.int .i64 k)++List.replicate (c-n) (.int .i64 0)
theorem Qao {k:Int} {n c:Nat} (h:n<=c):(Dh k n c).length =c:=by simp[Dh];omega
theorem Qc8 {k:Int} {n c j:Nat} (h:n<=c) (hj:j<n):(Dh k n c)[j]? =some (.int .i64 k):=by
  unfold Dh;rw[List.getElem?_append_left (by simpa using hj),List.getElem?_replicate,if_pos hj]
theorem Qeh (k:Int) (n m c:Nat):(Dh k n c).take n++List.replicate m (.int .i64 k)++(Dh k n c).drop (n+m)=Dh k (n+m) c:=by
  unfold Dh;rw[List.take_append,List.drop_append];simp[List.take_replicate,List.drop_replicate,<-List.replicate_append_replicate];omega
theorem O4 {g B:Nat} (hB:B<=g): ∀(vs:List Value) (o:Nat) (w:World),Below B w (w.setCells g o vs)
  |[],o,w=>Below.refl _ _
  |v::r,o,w=>by
    rw[World.setCells];exact((Below.refl B w).setCell (p:=⟨g,o,none⟩) hB v).trans (O4 hB r (o+1) _)
theorem Qcr (k:Int) (g n m c:Nat) (a:Addr) (sl sc:Nat) (dl dc:Nat) (W:World) (h:W.heap[g]? =some (.cells (Dh k n c).toArray 3 (0,0))) (hn:n<=c) (hm:m=Nat.min sl dl) (hd:n+m<=c) (hsrc: ∀j,j<m->W.cell? (a.add j)=some (.int .i64 k)):
    ∃W',(∀ty,(Builtin.copy_ #[22,22] ty #[.slice (some ⟨g,n,none⟩) dl dc,.slice (some a) sl sc]).run Tryz.prog W= .ok (.int .i64 m) W')/\W'.heap[g]? =some (.cells (Dh k (n+m) c).toArray 3 (0,0))/\ ∀B,B<=g->B<=W.heap.size->Below B W W':=by
  have hl:(List.replicate m (Value.int .i64 k)).length =m:=(by simp);obtain⟨cur',h3,h4,h5⟩:=U7 (List.replicate m (Value.int .i64 k)) n W _ h (by rw[hl];simp[Qao hn];omega);refine⟨W.setCells g n (List.replicate m (Value.int .i64 k)),fun ty=> ?_,?_,fun B hB hW=> ?_⟩
  · have hr:=run_copy_cells (P:=Tryz.prog) W 22 22 ty 3 g n dl dc a sl sc (List.replicate m (Value.int .i64 k)) Tryz.underlying22 (by kernel_rfl) (by rw[hl];exact hm)
      (fun j v hv=>by
        have hj:j<m:=by
          rcases Nat.lt_or_ge j m with h|h
          · exact h
          · rw[List.getElem?_eq_none (by simpa using h)] at hv
            cases hv
        rw[List.getElem?_replicate,if_pos hj] at hv;cases hv
        exact hsrc j hj)
      (fun j hj=>by rw[Qb h];rw[hl] at hj;simp[Qao hn];omega) (fun j _=>Qf h _) (by intro u hu;rw[List.eq_of_mem_replicate hu];rfl)
    rw[hl] at hr;exact hr
  · rw[h3]
    congr 2
    apply Array.toList_inj.1
    rw[h5,hl];exact Qeh k n m c
  · exact O4 hB _ _ _
theorem Ym (c:Nat) (hc:c<=1000000): ∀W:World,(Instr.makeSlice 22 (.int .i64 (c:Int)) (.int .i64 (c:Int))).run Tryz.prog W= .ok (.slice (some ⟨W.heap.size,0,none⟩) c c) (W.alloc (.cells (List.replicate c (Value.int .i64 0)).toArray 3)):=fun W=>by
  rw[Pre.Bn 22 3 (.int .i64 0) 1 8 Tryz.underlying22 Zg c (by decide) (by omega) W]
  congr 3
  show madeCells #[.int .i64 0] (c*1)=_
  apply Array.ext
  · simp[size_madeCells]
  · intro i h1 h2
    simp[madeCells,Nat.mod_one]
theorem Nf (A:Option Addr) (cap:Nat) (k:Int) (c:Nat) (w:World) (hr:(Kd.int .i64).C w A 1 [k]) (h1:1<=c) (h2:c<=1000000):
    Calls Tryz.prog 143 #[.slice A 1 cap,.int .i64 c] w fun e w'=> ∃g,e= .returned (.slice (some ⟨g,0,none⟩) c c)/\w'.heap[g]? =some (.cells (Dh k c c).toArray 3 (0,0))/\w.heap.size<=g/\Below w.heap.size w w':=by
  have hcI:1<=(c:Int)/\(c:Int)<=1000000:=(by omega);have HM:=Qa.mk (fun W=>Qea c h2 W);have HK:=Ym c h2;have hcu:IntKind.u64.wrap (c:Int)=(c:Int):=(by rw[IntKind.wrap_u64];omega);obtain⟨ad,rfl,hcell⟩:=Qq (l:=[k]) hr (Below.refl _ _) (k:=0) (by simp);have hc0:rd [k] (0:Nat)=k:=rfl;rw[hc0] at hcell;obtain⟨W1,hW1⟩: ∃W1,W1=w.alloc (.cells (List.replicate c (Value.int .i64 0)).toArray 3):=⟨_,rfl⟩;have hKw:=HK w;rw[<-hW1] at hKw;have hb1:Below w.heap.size w W1:=by rw[hW1];exact(Below.refl _ _).alloc (Nat.le_refl _) _
  have hg1:W1.heap[w.heap.size]? =some (.cells (Dh k 0 c).toArray 3 (0,0)):=by
    rw[hW1,heap_alloc_new];simp[Dh]
  have hcell1:=cnx hcell hb1
  have hsrc0: ∀j,j<1->W1.cell? (ad.add j)=some (.int .i64 k):=fun j hj=>by
    obtain rfl:j=0:=(by omega);exact hcell1
  obtain⟨W2,hcp,hg2,hb2⟩:=Qcr k w.heap.size 0 1 c ad 1 cap c c W1 hg1 (by omega) (show 1=Nat.min 1 c from(Nat.min_eq_left h1).symm) (by omega) hsrc0;have hbz:=hb1.trans (hb2 w.heap.size (Nat.le_refl _) hb1.size)
  have hstep:Qa (∀n,1<=n->n<c-> ∀wr:World,wr.heap[w.heap.size]? =some (.cells (Dh k n c).toArray 3 (0,0))->w.heap.size<=wr.heap.size-> ∃(m:Nat) (W':World),1<=m/\n+m<=c/\(∀ty,(Builtin.copy_ #[22,22] ty #[.slice (some ⟨w.heap.size,n,none⟩) (c-n) (c-n),.slice (some ⟨w.heap.size,0,none⟩) n c]).run Tryz.prog wr= .ok (.int .i64 m) W')/\W'.heap[w.heap.size]? =some (.cells (Dh k (n+m) c).toArray 3 (0,0))/\Below w.heap.size wr W'):=⟨fun n q1 q2 wr hg hs=>by
    obtain⟨W',e1,e2,e3⟩:=Qcr k w.heap.size n (Nat.min n (c-n)) c ⟨w.heap.size,0,none⟩ n c (c-n) (c-n) wr hg (by omega) rfl (by have h9:Nat.min n (c-n)<=c-n:=Nat.min_le_right n (c-n);omega) (fun j hj=>by
      have hj2:j<n:=Nat.lt_of_lt_of_le hj (Nat.min_le_left _ _)
      rw[show(⟨w.heap.size,0,none⟩:Addr).add j=⟨w.heap.size,j,none⟩ by
        unfold Addr.add;by_cases h0:j=0
        · simp[h0]
        · simp[h0],Qb hg]
      have:=Qc8 (k:=k) (n:=n) (c:=c) (by omega) hj2
      simpa using this)
    exact⟨Nat.min n (c-n),W',by
                                     rcases Nat.le_total n (c-n) with h|h
                                     · rw[show Nat.min n (c-n)=n from Nat.min_eq_left h];exact q1
                                     · rw[show Nat.min n (c-n)=c-n from Nat.min_eq_right h];omega,by have h9:Nat.min n (c-n)<=c-n:=Nat.min_le_right n (c-n);omega,e1,e2,e3 _ (Nat.le_refl _) hs⟩⟩
  replace hg2:=Qa.mk hg2;replace hbz:=Qa.mk hbz;have hcx:Qa (1<=c):=⟨h1⟩;clear HK hW1 hr hb2 hg1 hb1 hsrc0 hcell hc0 h1 h2;go_enter Tryz.func143,Tryz.ntmps143;go_wp2_with (first|(go_at_call 188;refine(HM.out _).mono ?_;rintro e w' ⟨rfl,hw'⟩;rw[hw'];clear hw'));go_loopw [8] (fun x wr=> ∃n:Nat,x= .int .i64 n/\1<=n/\n<=c/\Qa (wr.heap[w.heap.size]? =some (.cells (Dh k n c).toArray 3 (0,0)))/\Below w.heap.size w wr) (fun x _=>c-(intOf x).toNat)
  case atStart=>exact⟨1,rfl,by omega,hcx.out,hg2,hbz.out⟩
  case round=>
    obtain⟨n,rfl,hn1,hn2,hg,hb⟩:=hrel;by_cases hlt:n<c
    · obtain⟨m,W',e1,e2,e3,e4,e5⟩:=hstep.out n hn1 hlt wr.drew hg.out hb.size
      have hnI:(n:Int)<(c:Int):=(by omega);have hcn: ¬c=n:=(by omega);have hmI:(n:Int)+(m:Int)<=(c:Int):=(by omega);have hw1:IntKind.i64.wrap ((n:Int)+(m:Int))=(n:Int)+(m:Int):=IntWalk.i64_in _ (by omega);have he4:=Qa.mk e4;have hbn:=Qa.mk (hb.trans ((Below.refl w.heap.size wr).drew.trans e5));have hq:=Qa.mk (And.intro e1 e2);clear e4 e5 e1 e2 hg hcp hKw;go_wp2_with fail;refine Z6 (fun _=>True) (by kernel_rfl) trivial (fun hHeld=> ?_)
      (refine Tk.tk 0 (.int .i64 n) hHeld ?_)
      (refine Tk.tk 1 (.slice (some ⟨w.heap.size,0,none⟩) c c) hHeld ?_)
      (refine Tk.tk 2 (.int .i64 n) hHeld ?_)
      (refine Tk.tk 3 (.slice (some ⟨w.heap.size,n,none⟩) (c-n) (c-n)) hHeld ?_)
      (refine Tk.tk 4 (.slice (some ⟨w.heap.size,0,none⟩) c c) hHeld ?_)
      (refine Tk.tk 5 (.int .i64 n) hHeld ?_)
      (refine Tk.tk 6 (.slice (some ⟨w.heap.size,0,none⟩) n c) hHeld ?_)
      (refine wpAnyH_ready (rs:=[7]) (by kernel_rfl) (by simp) ?_;refine AllReadyH.cons rfl (fun K hK=> ?_) AllReadyH.nil;go_simp)
      (go_wp2_with fail;refine hK.out _ _ (trivial) (fun hHeld=> ?_);clear hK K;try simp only[Act.put,Tk.z1,Tk.z2,Tk.z3,Tk.z4,Tk.z5,Tk.z6])
      (refine Tk.tk 8 (.int .i64 (n+m)) hHeld ?_)
      (refine Tk.tk 9 (.int .i64 (n+m)) hHeld ?_)
      refine wpAnyH_done (by kernel_rfl) ?_ _;go_wp2;go_roundw
      case rel=>exact⟨n+m,by go_num,by omega,hq.out.2,he4,hbn.out⟩
      case measure=>have:=hq.out;simp[intOf];omega
    · obtain rfl:n=c:=by omega
      have hb2:=hb;clear hcp hKw;go_wp2;go_ret;exact⟨_,rfl,hg.out,Nat.le_refl _,hb2⟩
end Sec

namespace Sp
attribute [local go_sem] Qi Qj Qk Ql Qg Qh
open Q15
open Q21
def Tm (ws y:List Int) (n:Nat):Nat->Int
 |0=>0
 |i+1=>Tm ws y n i+(if i<n then rd ws i*rd y (n-1-i:Nat) else 0)
def U4 (ws d:List Int):Nat->List Int
 |0=>[]
 |n+1=>U4 ws d n++[Jw (rd d n+rnd4 (-(Tm ws (U4 ws d n) n ws.length)))]
theorem Xk (ws d:List Int): ∀n,(U4 ws d n).length =n
 |0=>rfl
 |n+1=>by rw[U4,List.length_append,Xk ws d n];rfl
theorem Dy (ws d:List Int): ∀n,∀x∈U4 ws d n,-2097152<=x/\x<=2097152
 |0,x,hx=>by cases hx
 |n+1,x,hx=>by
  rcases List.mem_append.1 hx with h|h
  ·exact Dy ws d n x h
  ·rw[List.mem_singleton.1 h];exact Ia _
theorem Sb {a b:Int} (ha: -16777216<=a/\a<=16777216) (hb: -2097152<=b/\b<=2097152): -35184372088832<=a*b/\a*b<=35184372088832:=by
 have h:=Nat.mul_le_mul (show a.natAbs<=16777216 by omega) (show b.natAbs<=2097152 by omega);rw[<-Int.natAbs_mul] at h;obtain⟨c,hc⟩: ∃c,c=a*b:=⟨_,rfl⟩;rw[<-hc] at h ⊢;omega
theorem Qap {ws y:List Int} (hw: ∀x∈ws,-16777216<=x/\x<=16777216) (hy: ∀x∈y,-2097152<=x/\x<=2097152) {n:Nat} (hn:n<=y.length): ∀i,i<=ws.length-> -(35184372088832*(i:Int))<=Tm ws y n i/\Tm ws y n i<=35184372088832*(i:Int)
 |0,_=>by simp[Tm]
 |i+1,hi=>by
  have h1:=Qap hw hy hn i (by omega);unfold Tm
  split
  ·have h2:=Sb (hw _ (Qt ws i (by omega))) (hy _ (Qt y (n-1-i) (by omega)))
   push_cast
   omega
  ·push_cast
   omega
def yL (ws d:List Int) (n:Nat):List Int:=U4 ws d n++List.replicate (d.length-n) 0
theorem yL_len {ws d:List Int} {n:Nat} (hn:n<=d.length):(yL ws d n).length =d.length:=by
 unfold yL;rw[List.length_append,Xk,List.length_replicate];omega
theorem rd_yL {ws d:List Int} {n j:Nat} (hj:j<n):rd (yL ws d n) j=rd (U4 ws d n) j:=by
 unfold yL;rw[Jr _ _ (by rw[List.length_append,Xk];omega),Jr _ _ (by rw[Xk];exact hj),List.getElem_append_left (by rw[Xk];exact hj)]
theorem yL_set {ws d:List Int} {n:Nat} (hn:n<d.length):(yL ws d n).set n (Jw (rd d n+rnd4 (-(Tm ws (U4 ws d n) n ws.length))))=yL ws d (n+1):=by
 unfold yL;rw[List.set_append_right _ _ (by rw[Xk];exact Nat.le_refl _),Xk,Nat.sub_self,show d.length-n=(d.length-(n+1))+1 by omega,List.replicate_succ,List.set_cons_zero]
 show _=(U4 ws d n++[_])++_
 rw[List.append_assoc];rfl
theorem Sr (A B:Option Addr) (c1 c2:Nat) (d fi:List Int) (w:World) (hr:(Kd.int .i64).C w A d.length d) (hr2:(Kd.int .i64).C w B fi.length fi) (hf:Jy fi=true) (hd:d.length<=1000) (hv: ∀x∈d,-1099511627776<=x/\x<=1099511627776):
  Calls Tryz.prog 37 #[.slice A d.length c1,.slice B fi.length c2] w fun e w'=> ∃g,e= .returned (.slice (some ⟨g,0,none⟩) d.length d.length)/\w'.heap[g]? =some (.cells ((U4 (Zh fi) d d.length).map (Value.int .i64)).toArray 3 (0,0))/\w.heap.size<=g/\Below w.heap.size w w':=by
 have HR:=Qa.mk hr;have hfi:=hf;unfold Jy at hfi;simp only[Bool.and_eq_true,decide_eq_true_eq] at hfi;have hfl:=hfi.1;have hfv: ∀x∈fi,-127<=x/\x<=127:=fun x hx=>of_decide_eq_true (List.all_eq_true.1 hfi.2 x hx)
 have HW:=Qa.mk (Te B c2 fi w hr2 (by omega));unfold wgtL wgtE at HW;rw[hf,if_pos rfl,if_pos rfl] at HW;have HWb:=Qa.mk (fun x hx=>Nu fi hfv hfl (j:=fi.length) (Nat.le_refl _) x (by rw[List.take_length];exact hx));have hwl:=Nt fi;obtain⟨ws,hws⟩: ∃ws,ws=Zh fi:=⟨_,rfl⟩;rw[<-hws] at HW HWb hwl ⊢;have hwlI:(ws.length:Int)<=12:=(by omega);have hdI:(d.length:Int)<=1000:=(by omega);have HV:=Qa.mk hv;have hmk: ∀W:World,(Instr.makeSlice 22 (.int .i64 (d.length:Int)) (.int .i64 (d.length:Int))).run Tryz.prog W= .ok (.slice (some ⟨W.heap.size,0,none⟩) d.length d.length) (W.alloc (.cells (List.replicate d.length (Value.int .i64 0)).toArray 3)):=Sec.Ym d.length (by omega);obtain⟨Z0,hZ0⟩: ∃Z0,Z0=(List.replicate d.length (Value.int .i64 0)).toArray :=⟨_,rfl⟩;rw[<-hZ0] at hmk;replace hZ0:=Qa.mk hZ0;have hb:=Below.refl w.heap.size w;clear hr hr2 hf hfi hfl hfv hv hws hd hwl;go_enter Tryz.func37,Tryz.ntmps37;go_wp2_with fail;refine HW.out.mono ?_;rintro e w1 ⟨C,q,rfl,hC,hb1⟩;have HC:=Qa.mk hC;replace hb:=bnx hb hb1;clear hb1 hC HW;go_wp2_with fail;obtain⟨g,hg⟩: ∃g,g=w1.heap.size:=⟨_,rfl⟩;obtain⟨W2,hW2⟩: ∃W2,W2=w1.alloc (.cells Z0 3):=⟨_,rfl⟩;have hb2:Below w1.heap.size w1 W2:=by rw[hW2];exact(Below.refl _ _).alloc (Nat.le_refl _) _
 have hG2:W2.heap[g]? =some (.cells ((yL ws d 0).map (Value.int .i64)).toArray 3 (0,0)):=by
  rw[hW2,hg];refine(heap_alloc_new _ _).trans ?_;rw[hZ0.out];simp[yL,U4]
 have hgw:=Qa.mk (show w.heap.size<=g by rw[hg];exact hb.size);have HFin:=Qa.mk (fun(W:World) (h:Bts.Kp g none W2 W)=>And.intro (hb.trans ((hb2.mono hb.size).trans (h.below (B:=w.heap.size) hgw.out (fun k e=>by cases e) (by have:=hb.size;have:=hb2.size;omega)))) (Kd.Qe HC.out (hb2.trans (h.below (B:=w1.heap.size) (by omega) (fun k e=>by cases e) hb2.size))));rw[<-hW2,<-hg];clear hW2 hg hb hb2 hmk HC;go_loopw [25] (fun i wr=> ∃n:Nat,i= .int .i64 n/\n<=d.length/\Qa (wr.heap[g]? =some (.cells ((yL ws d n).map (Value.int .i64)).toArray 3 (0,0)))/\Qa (Bts.Kp g none W2 wr)) (fun i _=>d.length-(intOf i).toNat)
 case atStart=>exact⟨0,rfl,by omega,⟨hG2⟩,⟨Bts.Kp.refl _ _ _⟩⟩
 case round=>
  obtain⟨n,rfl,hn,hG,hKp⟩:=hrel;obtain⟨hbw,hCw⟩:=HFin.out _ hKp.out;clear hG2;by_cases hlt:n<d.length
  ·obtain⟨ad,rfl,hcell⟩:=Qq HR.out hbw hlt
   have hnI:(n:Int)<(d.length:Int):=(by omega);have hv:=HV.out _ (Qt d n hlt);have hyl:=yL_len (ws:=ws) (Nat.le_of_lt hlt);have hPb:=Qa.mk (fun i hi=>Qap HWb.out (Dy ws d n) (by rw[Xk];exact Nat.le_refl _) i hi);have hset:=Qa.mk (yL_set (ws:=ws) hlt);have hY:=Qa.mk (fun(j:Nat) (hj:j<n)=>Dy ws d n _ (Qt _ j (by rw[Xk];exact hj)));obtain⟨x,hx⟩: ∃x,x=rd d n:=⟨_,rfl⟩;rw[<-hx] at hcell hv hset;obtain⟨y,hy⟩: ∃y,y=U4 ws d n:=⟨_,rfl⟩;rw[<-hy] at hPb hset hY;have hyr:=Qa.mk (fun(j:Nat) (hj:j<n)=>(show rd (yL ws d n) j=rd y j by rw[hy];exact rd_yL hj));obtain⟨Z,hZ⟩: ∃Z,Z=yL ws d n:=⟨_,rfl⟩;rw[<-hZ] at hG hyl hset hyr;have hlt':=Qa.mk hlt;have hCw':=Qa.mk hCw;clear hx hy hZ hlt hn hCw;go_wp2_with fail;go_loop [10,32] (fun s i=> ∃(j:Nat) (z:Int),s= .int .i64 z/\i= .int .i64 j/\j<=ws.length/\Qa (z=Tm ws y n j)) (fun _ i=>ws.length-(intOf i).toNat)
   case atStart=>exact⟨0,0,rfl,rfl,by omega,⟨rfl⟩⟩
   case round=>
    obtain⟨j,z,rfl,rfl,hj,hz⟩:=hrel;by_cases hjt:j<ws.length
    ·obtain⟨ad2,rfl,e1⟩:=Qq hCw'.out (Below.refl _ _) hjt
     have hjI:(j:Int)<(ws.length:Int):=(by omega);have hjT:=Qa.mk hjt;have hwv:=HWb.out _ (Qt ws j hjt);have hzb:=hPb.out j (by omega);rw[<-hz.out] at hzb;have hnx:Tm ws y n (j+1)=Tm ws y n j+(if j<n then rd ws j*rd y (n-1-j:Nat) else 0):=rfl;rw[<-hz.out] at hnx;obtain⟨a,ha⟩: ∃a,a=rd ws j:=⟨_,rfl⟩;rw[<-ha] at e1 hwv hnx;by_cases hjn:j<n
     ·have t39:decide ((j:Int)<(n:Int))=true:=decide_eq_true (by omega)
      obtain⟨k,hk⟩: ∃k:Nat,k=n-1-j:=⟨_,rfl⟩;have hkI:(n:Int)-1-(j:Int)=(k:Int):=(by omega);have hb9:=hY.out k (by omega);have hkl:k<Z.length:=by omega
      have e2:wr.cell? ⟨g,k,none⟩=some (.int .i64 (rd y k)):=by
       rw[Qb hG.out,<-hyr.out k (by omega),Jr _ _ hkl];simp[hkl]
      rw[if_pos hjn,<-hk] at hnx;obtain⟨b,hbv⟩: ∃b,b=rd y k:=⟨_,rfl⟩;rw[<-hbv] at e2 hb9 hnx;have hm9:=Sb hwv hb9;obtain⟨m,hm⟩: ∃m,m=a*b:=⟨_,rfl⟩;rw[<-hm] at hm9 hnx;have hm':a*b=m:=hm.symm;have hkd:(k:Int)<(d.length:Int):=(by omega);have hjw:(j:Int)<=12:=(by omega);have hz9: -1125899906842624<=z/\z<=1125899906842624:=(by omega);replace hnx:=Qa.mk hnx;clear hjt hzb ha hk hbv hm hb9 hwv hkl hjn;go_wp2_with fail;go_round
      case rel=>exact⟨j+1,z+m,rfl,by go_num,hjT.out,⟨hnx.out.symm⟩⟩
      case measure=>have:=hjT.out;simp[intOf];omega
     ·have t39:decide ((j:Int)<(n:Int))=false:=decide_eq_false (by omega)
      have t39':decide (j<n)=false:=decide_eq_false hjn;have hle:n<=j:=(by omega);rw[if_neg hjn,Int.add_zero] at hnx;replace hnx:=Qa.mk hnx;have hjw:(j:Int)<=12:=(by omega);clear hjt hzb ha hwv hjn;go_wp2;go_round
      case rel=>exact⟨j+1,z,rfl,by go_num,hjT.out,⟨hnx.out.symm⟩⟩
      case measure=>have:=hjT.out;simp[intOf];omega
    ·obtain rfl:j=ws.length:=by omega
     have hzb:=hPb.out ws.length (Nat.le_refl _);rw[<-hz.out] at hzb hset;have hz9: -1125899906842624<=z/\z<=1125899906842624:=(by omega);have hzr: -562949953421312<= -z/\ -z<=562949953421312:=(by omega);have HRd:=Qa.mk (fun(W:World)=>Ox (-z) W hzr.1 hzr.2);have hrb:=rnd4_bd (a:= -z) (m:=562949953421312) (by omega);obtain⟨r,hr⟩: ∃r,r=rnd4 (-z):=⟨_,rfl⟩;rw[<-hr] at HRd hset hrb;have HCl:=Qa.mk (fun(W:World)=>Rh (x+r) W);obtain⟨u,hu⟩: ∃u,u=Jw (x+r):=⟨_,rfl⟩;rw[<-hu] at HCl hset;replace hset:=Qa.mk hset.out;clear hjt hj hzb hr hu hzr;go_wp2_with fail;refine(HRd.out _).mono ?_;rintro e w5 ⟨rfl,hb5⟩;have hG5:=(hb5.block _ (Qp hG.out)).trans hG.out;clear HRd;go_wp2_with fail;refine(HCl.out _).mono ?_;rintro e w6 ⟨rfl,hb6⟩;have hG6:=(hb6.block _ (Qp hG5)).trans hG5;have hK6:=hKp.out.Zl ((bnx hb5 hb6).mono hKp.out.size);have hnl:n<Z.length:=(by have:=hlt'.out;omega);have z6:w6.cell? ⟨g,n,none⟩=some (.int .i64 Z[n]):=(by rw[Qb hG6];simp[hnl]);have y6:=Qf hG6 n;have hG7:=Q3 hG6 n (.int .i64 u)
     have hG8:Qa ((w6.setCell ⟨g,n,none⟩ (.int .i64 u)).heap[g]? =some (.cells ((yL ws d (n+1)).map (Value.int .i64)).toArray 3 (0,0))):=⟨by
      rw[hG7,<-hset.out]
      simp⟩
     have hK8:=Qa.mk (hK6.Km n (.int .i64 u));obtain⟨q6,hq6⟩: ∃q6,q6=Z[n]:=⟨_,rfl⟩;rw[<-hq6] at z6;clear hq6 hG5 hG6 hG7 hK6 hb5 hb6 hnl HCl;go_wp2_with fail;go_roundw
     case rel=>exact⟨n+1,by go_num,hlt'.out,hG8,hK8⟩
     case measure=>have:=hlt'.out;simp[intOf];omega
  ·obtain rfl:n=d.length:=by omega
   have hfin:Qa (wr.heap[g]? =some (.cells ((U4 ws d d.length).map (Value.int .i64)).toArray 3 (0,0))):=⟨by
    have:=hG.out;unfold yL at this
    rwa [Nat.sub_self,List.replicate_zero,List.append_nil] at this⟩
   clear hlt hn hG hKp hCw;go_wp2;go_ret;exact⟨g,rfl,hfin.out,hgw.out,hbw⟩
end Sp

namespace Sp
attribute [local go_sem] Qi Qj Qk Ql Qg Qh
open Q15
open Q21
def clL (l:List Int) (n:Nat):List Int:=(l.take n).map Jw++List.replicate (l.length-n) 0
theorem clL_len {l:List Int} {n:Nat} (hn:n<=l.length):(clL l n).length =l.length:=by
 unfold clL;rw[List.length_append,List.length_map,List.length_take,List.length_replicate];omega
theorem clL_set {l:List Int} {n:Nat} (hn:n<l.length):(clL l n).set n (Jw (rd l n))=clL l (n+1):=by
 have h1:((l.take n).map Jw).length =n:=(by rw[List.length_map,List.length_take];omega);unfold clL;rw[List.set_append_right _ _ (by rw[h1];exact Nat.le_refl _),h1,Nat.sub_self,show l.length-n=(l.length-(n+1))+1 by omega,List.replicate_succ,List.set_cons_zero,Qx l n hn,List.map_append,List.append_assoc];rfl
theorem clL_all (l:List Int):clL l l.length=l.map Jw:=by
 unfold clL;rw[List.take_length,Nat.sub_self,List.replicate_zero,List.append_nil]
theorem Tg (A:Option Addr) (c1:Nat) (d:List Int) (w:World) (hr:(Kd.int .i64).C w A d.length d) (hd:d.length<=1000):
  Calls Tryz.prog 39 #[.slice A d.length c1] w fun e w'=> ∃g,e= .returned (.slice (some ⟨g,0,none⟩) d.length d.length)/\w'.heap[g]? =some (.cells ((d.map Jw).map (Value.int .i64)).toArray 3 (0,0))/\w.heap.size<=g/\Below w.heap.size w w':=by
 have HR:=Qa.mk hr;have hdI:(d.length:Int)<=1000:=(by omega);have hmk: ∀W:World,(Instr.makeSlice 22 (.int .i64 (d.length:Int)) (.int .i64 (d.length:Int))).run Tryz.prog W= .ok (.slice (some ⟨W.heap.size,0,none⟩) d.length d.length) (W.alloc (.cells (List.replicate d.length (Value.int .i64 0)).toArray 3)):=Sec.Ym d.length (by omega);obtain⟨Z0,hZ0⟩: ∃Z0,Z0=(List.replicate d.length (Value.int .i64 0)).toArray :=⟨_,rfl⟩;rw[<-hZ0] at hmk;replace hZ0:=Qa.mk hZ0;clear hr hd;go_enter Tryz.func39,Tryz.ntmps39;go_wp2_with fail;obtain⟨g,hg⟩: ∃g,g=w.heap.size:=⟨_,rfl⟩;obtain⟨W2,hW2⟩: ∃W2,W2=w.alloc (.cells Z0 3):=⟨_,rfl⟩;have hb2:Below w.heap.size w W2:=by rw[hW2];exact(Below.refl _ _).alloc (Nat.le_refl _) _
 have hG2:W2.heap[g]? =some (.cells ((clL d 0).map (Value.int .i64)).toArray 3 (0,0)):=by
  rw[hW2,hg];refine(heap_alloc_new _ _).trans ?_;rw[hZ0.out];simp[clL]
 have hgw:=Qa.mk (show w.heap.size<=g by rw[hg];exact Nat.le_refl _);have HFin:=Qa.mk (fun(W:World) (h:Bts.Kp g none W2 W)=>hb2.trans (h.below (B:=w.heap.size) hgw.out (fun k e=>by cases e) hb2.size));rw[<-hW2,<-hg];clear hW2 hg hb2 hmk;go_loopw [11] (fun i wr=> ∃n:Nat,i= .int .i64 n/\n<=d.length/\Qa (wr.heap[g]? =some (.cells ((clL d n).map (Value.int .i64)).toArray 3 (0,0)))/\Qa (Bts.Kp g none W2 wr)) (fun i _=>d.length-(intOf i).toNat)
 case atStart=>exact⟨0,rfl,by omega,⟨hG2⟩,⟨Bts.Kp.refl _ _ _⟩⟩
 case round=>
  obtain⟨n,rfl,hn,hG,hKp⟩:=hrel;have hbw:=HFin.out _ hKp.out;clear hG2;by_cases hlt:n<d.length
  ·obtain⟨ad,rfl,hcell⟩:=Qq HR.out hbw hlt
   have hnI:(n:Int)<(d.length:Int):=(by omega);have hyl:=clL_len (Nat.le_of_lt hlt);have hset:=Qa.mk (clL_set hlt);obtain⟨x,hx⟩: ∃x,x=rd d n:=⟨_,rfl⟩;rw[<-hx] at hcell hset;obtain⟨Z,hZ⟩: ∃Z,Z=clL d n:=⟨_,rfl⟩;rw[<-hZ] at hG hyl hset;have hlt':=Qa.mk hlt;have HCl:=Qa.mk (fun(W:World)=>Rh x W);obtain⟨u,hu⟩: ∃u,u=Jw x:=⟨_,rfl⟩;rw[<-hu] at HCl hset;clear hx hZ hlt hn hu;go_wp2_with fail;refine(HCl.out _).mono ?_;rintro e w6 ⟨rfl,hb6⟩;have hG6:=(hb6.block _ (Qp hG.out)).trans hG.out;have hK6:=hKp.out.Zl (hb6.mono hKp.out.size);have hnl:n<Z.length:=(by have:=hlt'.out;omega);have z6:w6.cell? ⟨g,n,none⟩=some (.int .i64 Z[n]):=(by rw[Qb hG6];simp[hnl]);have y6:=Qf hG6 n;have hG7:=Q3 hG6 n (.int .i64 u)
   have hG8:Qa ((w6.setCell ⟨g,n,none⟩ (.int .i64 u)).heap[g]? =some (.cells ((clL d (n+1)).map (Value.int .i64)).toArray 3 (0,0))):=⟨by
    rw[hG7,<-hset.out]
    simp⟩
   have hK8:=Qa.mk (hK6.Km n (.int .i64 u));obtain⟨q6,hq6⟩: ∃q6,q6=Z[n]:=⟨_,rfl⟩;rw[<-hq6] at z6;clear hq6 hG6 hG7 hK6 hb6 hnl HCl;go_wp2_with fail;go_roundw
   case rel=>exact⟨n+1,by go_num,hlt'.out,hG8,hK8⟩
   case measure=>have:=hlt'.out;simp[intOf];omega
  ·obtain rfl:n=d.length:=by omega
   have hfin:Qa (wr.heap[g]? =some (.cells ((d.map Jw).map (Value.int .i64)).toArray 3 (0,0))):=⟨by
    have:=hG.out
    rwa [clL_all] at this⟩
   clear hlt hn hG hKp;go_wp2;go_ret;exact⟨g,rfl,hfin.out,hgw.out,hbw⟩
end Sp

namespace Sec
attribute [local go_sem] Qi Qj Qk Ql Qg Qh
open Q15
theorem grow_own (w W:World) (G:Nat) (cs:Array Value) (hs:cs.size=G) (hG:G<=maxLen) (hW:W=w.drew.alloc (.cells cs 3)):
  (Kd.int .i64).R 3 W w.heap.size (fun _=>True) (.slice (some ⟨w.heap.size,0,none⟩) 0 G) []:=by
 refine Kd.Vm (enc:=Value.int .i64) (h1:=fun _=>rfl) ?_ (fun _ _=>trivial);refine⟨rfl,.inr ⟨w.heap.size,G,cs,rfl,Nat.le_refl _,?_,Nat.zero_le _,hG,by simpa using hs,rfl⟩⟩;rw[hW];exact heap_alloc_new _ _
theorem M4 (n:Nat) (w:World) (h1:1<=n) (h2:n<=1000000):
  Calls Tryz.prog 218 #[.slice none 0 0,.int .i64 n] w fun e w'=> ∃G,e= .returned (.slice (some ⟨w.heap.size,0,none⟩) 0 G)/\n<=G/\(Kd.int .i64).R 3 w' w.heap.size (fun _=>True) (.slice (some ⟨w.heap.size,0,none⟩) 0 G) []/\Below w.heap.size w w':=by
 obtain⟨i0,hi0,hz0⟩:=Option.map_eq_some_iff.1 Zg;simp only[Prod.mk.injEq] at hz0;obtain⟨hz1,hz2,hz3⟩:=hz0;have hold:(Builtin.firstCells i0.size 0 (.slice none 0 0)).run Tryz.prog w.drew= .ok ([]:List Value).toArray w.drew:=run_firstCells_none w.drew i0.size 0 0 0
 have hrz: ∀ty,(Builtin.append_ #[22,3] ty #[.slice none 0 0,.int .i64 (n:Int)]).run Tryz.prog w=_:=fun ty=>
  Lib.run_append_grow_zeros w 22 3 ty 3 i0 (.int .i64 0) .i64 .i64 Tryz.underlying22 Tryz.underlying3 hi0 hz1 none 0 0 [] hold n (by omega) (by omega) (by omega) (by omega) (by rw[hz3];omega)
   (by rw[Nat.zero_add,hz3];exact growslice_fits (by omega) (by omega))
 have hGn:=grownCap_ge w (0+n) 0 3;have hGm:=grownCap_le_maxLen w (0+n) 0 3 (by unfold maxLen;omega);rw[Nat.zero_add] at hrz hGn hGm;obtain⟨G,hG⟩: ∃G,G=grownCap w n 0 3:=⟨_,rfl⟩;rw[<-hG] at hrz hGn hGm;obtain⟨W,hW⟩: ∃W,W=w.drew.alloc (.cells (([]:List Value).toArray ++Builtin.zeroCells (Value.int .i64 0).cells n++Builtin.zeroCells (Value.int .i64 0).cells (G-n)) 3):=⟨_,rfl⟩
 have hR:=Qa.mk (grow_own w W G _ (by
  simp[Builtin.zeroCells,Value.cells]
  omega) hGm hW)
 have hB:Qa (Below w.heap.size w W):=⟨by rw[hW];exact(Below.refl _ _).drew.alloc (Nat.le_refl _) _⟩;rw[<-hW] at hrz;have hG9:(G:Int)<=9223372036854775807:=(by unfold maxLen at hGm;omega);have hnI:1<=(n:Int)/\(n:Int)<=1000000:=(by omega);have hGN:=Qa.mk hGn;clear hold hW hG hGn hGm h1 h2;go_enter Tryz.func218,Tryz.ntmps218;go_wp2_with (at_builtin;refine Lib.wpList_append_run _ rfl _ _ _ _ rfl _ _ rfl rfl _ _ (hrz _) ?_);go_ret;exact⟨G,rfl,hGN.out,hR.out,hB.out⟩
theorem Mx (g cg:Nat) (A B:Option Addr) (ca cb:Nat) (a b:List Int) (w:World) (h0:w.cell? ⟨g,0,none⟩=some (.slice A a.length ca)) (h1:w.cell? ⟨g,1,none⟩=some (.slice B b.length cb))
  (hr:(Kd.int .i64).C w A a.length a) (hr2:(Kd.int .i64).C w B b.length b) (h2:1<=a.length) (h3:a.length+b.length<=1000000):
  Calls Tryz.prog 189 #[.slice (some ⟨g,0,none⟩) 2 cg] w fun e w'=> ∃v,e= .returned v/\(Kd.int .i64).R 3 w' w.heap.size (fun _=>True) v (a++b)/\Below w.heap.size w w':=by
 have haI:(a.length:Int)<=1000000:=(by omega);have hbI:(b.length:Int)<=1000000:=(by omega);have hsI:1<=(a.length:Int)+(b.length:Int)/\(a.length:Int)+(b.length:Int)<=1000000:=(by omega);have HG:=Qa.mk (fun W=>M4 (a.length+b.length) W (by omega) h3);have HA:=Qa.mk hr;have HB:=Qa.mk hr2;have hlen:=Qa.mk h3;have H0:Qa (∀W:World,Below w.heap.size w W->W.cell? ⟨g,0,none⟩=some (.slice A a.length ca)/\W.cell? ⟨g,1,none⟩=some (.slice B b.length cb)):=⟨fun W hb=>⟨cnx h0 hb,cnx h1 hb⟩⟩;clear hr hr2 h2 h3 h0 h1;have hw:IntKind.i64.wrap ((a.length:Int)+(b.length:Int))=((a.length+b.length:Nat):Int):=(by rw[IntWalk.i64_in _ (by omega)];push_cast;rfl);go_enter Tryz.func189,Tryz.ntmps189;go_wp2;go_loopw [3,11] (fun s i wr=> ∃k:Nat,i= .int .i64 k/\k<=2/\s= .int .i64 (if k=0 then 0 else if k=1 then(a.length:Int) else((a.length+b.length:Nat):Int))/\Below w.heap.size w wr) (fun _ i _=>2-(intOf i).toNat)
 case atStart=>exact⟨0,rfl,by omega,rfl,Below.refl _ _⟩
 case round=>
  obtain⟨k,rfl,hk,rfl,hb⟩:=hrel;obtain⟨c0,c1⟩:=H0.out _ hb;rcases k with _|_|k
  ·clear c1
   go_wp2;go_roundw
   case rel=>exact⟨1,by go_num,by omega,by simp,hb⟩
   case measure=>simp[intOf]
  ·clear c0
   go_wp2;go_roundw
   case rel=>exact⟨2,by go_num,by omega,by simp,hb⟩
   case measure=>simp[intOf]
  ·obtain rfl:k=0:=by omega
   obtain⟨wo,rfl⟩: ∃wo:World,wo=wr:=⟨_,rfl⟩;clear c0 c1;go_wp2_with (first|(go_at_call 218;refine(HG.out _).mono ?_;rintro e w1 ⟨G,rfl,-,hR,hb1⟩;have HR:=Qa.mk hR;clear hR));go_loopw [6,27] (fun s i wr=> ∃k:Nat,i= .int .i64 k/\k<=2/\Qa ((Kd.int .i64).R 3 wr wo.heap.size (fun _=>True) s (if k=0 then[] else if k=1 then a else a++b))/\Qa (Below wo.heap.size wo wr)) (fun _ i _=>2-(intOf i).toNat)
   case atStart=>exact⟨0,rfl,by omega,HR,⟨hb1⟩⟩
   case round=>
    obtain⟨k,rfl,hk,hR',hb'⟩:=hrel;obtain⟨c0,c1⟩:=H0.out _ (bnx hb hb'.out);rcases k with _|_|k
    ·clear c1
     have hRk:Qa ((Kd.int .i64).R 3 wr wo.heap.size (fun _=>True) u6 []):=⟨by simpa using hR'.out⟩;have hC:=Qa.mk (Kd.Qe HA.out (bnx hb hb'.out));go_wp2_with (at_builtin;refine Kd.X8 (Kd.int .i64) (Rr:=(Kd.int .i64).K wr) (w0:=wo) wo.heap.size rfl (.tmp 31) (.tmp 32) 22 3 (.int .i64 0) 8 rfl Tryz.underlying22 Zg rfl (by decide) (by decide) u6 [] a A a.length ca (fun _=>True) (fun _=>False) rfl rfl hRk.out hC.out (fun _ _ h=>h) (fun _ h=>h.elim) (fun _ _=>trivial) hb'.out hb'.out.size (by have:=hlen.out;simp only[List.length_nil];omega) ?_;intro v1 wA hoA hbA hgA hatA;have HOA:=Qa.mk hoA;have HBA:=Qa.mk hbA;clear hoA hgA hatA hbA);go_roundw
     case rel=>exact⟨1,by go_num,by omega,HOA,HBA⟩
     case measure=>simp[intOf]
    ·clear c0
     have hRk:Qa ((Kd.int .i64).R 3 wr wo.heap.size (fun _=>True) u6 a):=⟨by simpa using hR'.out⟩;have hC:=Qa.mk (Kd.Qe HB.out (bnx hb hb'.out));go_wp2_with (at_builtin;refine Kd.X8 (Kd.int .i64) (Rr:=(Kd.int .i64).K wr) (w0:=wo) wo.heap.size rfl (.tmp 31) (.tmp 32) 22 3 (.int .i64 0) 8 rfl Tryz.underlying22 Zg rfl (by decide) (by decide) u6 a b B b.length cb (fun _=>True) (fun _=>False) rfl rfl hRk.out hC.out (fun _ _ h=>h) (fun _ h=>h.elim) (fun _ _=>trivial) hb'.out hb'.out.size (by have:=hlen.out;omega) ?_;intro v1 wA hoA hbA hgA hatA;have HOA:=Qa.mk hoA;have HBA:=Qa.mk hbA;clear hoA hgA hatA hbA);go_roundw
     case rel=>exact⟨2,by go_num,by omega,HOA,HBA⟩
     case measure=>simp[intOf]
    ·obtain rfl:k=0:=by omega
     clear c0 c1;go_wp2;go_ret;exact⟨_,rfl,Kd.Zo (by simpa using hR'.out) hb.size,bnx hb hb'.out⟩
end Sec

end Go.Proofs.YtnflnicdjioflaaGreatDoor
