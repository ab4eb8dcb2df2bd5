/- A part of the proof. -/
import Derived.Test.YtnflnicdjioflaaGreatDoorSxba
set_option linter.unusedVariables false
set_option linter.unusedSimpArgs false
set_option maxRecDepth 100000
set_option maxHeartbeats 8000000
namespace Go.Proofs.YtnflnicdjioflaaGreatDoor
open Go.RowKit Go.Proofs.YtnflnicdjioflaaGreatDoorW.PrintWords Go.Proofs.YtnflnicdjioflaaGreatDoorW.PrintLast Go.Proofs.YtnflnicdjioflaaGreatDoorW.PrintMore
namespace Rq
attribute [local go_sem] Qh Qi Qk Ql Qd Qe
open Q15
open Q21
open St (at_ ge_ Ki sV)
open Bts (Rws Blk Rws.start Cells)
theorem R6 (A:Option Addr) (cap:Nat) (cs fin:List Int) (w:World) (hr:(Kd.int .i64).C w A cs.length cs) (h2:2<=cs.length) (hl:cs.length<=256) (hc: ∀c∈cs,1<=c/\c<=1073741824) (hp:plL cs=some fin):
  Calls Tryz.prog 227 #[.slice A cs.length cap,.int .i64 16] w fun e w'=> ∃g:Nat,e= .returned (.tuple #[.slice (some ⟨g,0,none⟩) cs.length cs.length,.int .i64 0])/\Rws w w' [] [⟨g,(fin.map (Value.int .i64)).toArray,3⟩]:=by
 have hlI:(cs.length:Int)<=256:=(by omega);have h2I:(2:Int)<=(cs.length:Int):=(by omega);have hl':=Qa.mk (And.intro h2 hl);have HR:=Qa.mk hr;have HC:=Qa.mk (fun(k:Nat) (hk:k<cs.length)=>hc _ (Qp cs k hk));have HP:=Qa.mk hp;have hmo:=Qa.mk (show Tryz.prog.follows .mixedOrders =true by kernel_rfl);have hmk:=Sec.X9 cs.length (by omega);obtain⟨Z0,hZ0⟩: ∃Z0,Z0=(List.replicate cs.length (Value.int .i64 0)).toArray :=⟨_,rfl⟩;rw[<-hZ0] at hmk;have hZ:Qa (Z0=((List.replicate cs.length (0:Int)).map (Value.int .i64)).toArray):=⟨by rw[hZ0];simp⟩;clear hr h2 hl hc hp hZ0;go_enter Tryz.func227,Tryz.ntmps227;go_wp2_with fail;go_loop [6,37] (fun s i=> ∃k:Nat,i= .int .i64 k/\k<=cs.length/\s= .int .i64 k) (fun _ i=>cs.length-(intOf i).toNat)
 case atStart=>exact⟨0,rfl,by omega,rfl⟩
 case round=>
  obtain⟨k,rfl,hk,rfl⟩:=hrel;by_cases hlt:k<cs.length
  ·obtain⟨ad,rfl,hcell⟩:=Qn HR.out (Below.refl _ _) hlt
   have hkI:(k:Int)<(cs.length:Int):=(by omega);have hx:=HC.out k hlt;obtain⟨x,hxe⟩: ∃x,x=rd cs k:=⟨_,rfl⟩;rw[<-hxe] at hx hcell;clear hxe;have h0:0<x:=(by omega);have h9: ¬x<0:=(by omega);have h17: ¬1073741824<x:=(by omega);have hk1:IntKind.i64.wrap ((k:Int)+1)=((k+1:Nat):Int):=(by rw[IntWalk.i64_in _ (by omega)];rfl);replace hlt:=Qa.mk hlt;go_wp2_with fail;go_round
   case rel=>exact⟨k+1,by go_num,hlt.out,by go_num⟩
   case measure=>have:=hlt.out;simp[intOf];omega
  ·obtain rfl:k=cs.length:=by omega
   have n1:((cs.length:Int)==0)=false:=(by simpa using (by omega:(cs.length:Int)≠0));have n2:((cs.length:Int)==1)=false:=(by simpa using (by omega:(cs.length:Int)≠1));go_wp2_with fail;clear hk hlt;go_loopw [9,60] (fun o i wr=> ∃(k:Nat) (B:Option Addr) (c:Nat),i= .int .i64 k/\o= .slice B k c/\k<=cs.length/\Qa (k<=c/\c<=9223372036854775807)/\Qa ((Kd.int .i64).C wr B (osL cs k).length (osL cs k))/\Qa (Below w.heap.size w wr)) (fun _ i _=>cs.length-(intOf i).toNat)
   case atStart=>exact⟨0,none,0,rfl,rfl,by omega,⟨by omega⟩,⟨Kd.Uc _ _⟩,⟨Below.refl _ _⟩⟩
   case round=>
    obtain⟨k,B,c,rfl,rfl,hk,hcc,hB,hb⟩:=hrel;by_cases hlt:k<cs.length
    ·obtain⟨ad,rfl,hcell⟩:=Qn HR.out hb.out hlt
     have hkI:(k:Int)<(cs.length:Int):=(by omega);have hx:=HC.out k hlt;obtain⟨x,hxe⟩: ∃x,x=rd cs k:=⟨_,rfl⟩;rw[<-hxe] at hx hcell;have h0:0<x:=(by omega);replace hxe:=Qa.mk hxe;have hlt':=Qa.mk hlt;replace hx:=Qa.mk hx;clear hlt hk;go_wp2_with fail;go_loop [12] (fun o=> ∃a:Nat,o= .int .i64 a/\a<=k/\Qa (At (rd cs k,(k:Int)) (Vv cs k) (k-a))) (fun o=>(intOf o).toNat)
     case atStart=>exact⟨k,rfl,by omega,⟨by rw[Nat.sub_self];exact At_zero _ _⟩⟩
     case round=>
      obtain⟨a,rfl,ha,hA⟩:=hrel;have hO:=Ug cs k
      have hst:(¬(0:Int)<(a:Int)/\decide (0<a)=false/\a=0)\/ ∃(m t:Nat) (y:Int) (bd:Addr),a=m+1/\B=some bd/\wr.cell? (bd.add m)=some (.int .i64 t)/\(t:Int)<(cs.length:Int)/\wr.cell? (ad.add t)=some (.int .i64 y)/\y=((Vv cs k).getD (k-a) it0).1:=by
       rcases a with _|m
       ·exact .inl ⟨by omega,by simp,rfl⟩
       ·obtain⟨q1,q2,q3,q4⟩:=osL_at cs (k:=k) (at':=m) (by omega)
        obtain⟨bd,eB,cB⟩:=Qn hB.out (Below.refl _ _) (k:=m) (by rw[Nf];omega);obtain⟨t,ht⟩: ∃t:Nat,(t:Int)=rd (osL cs k) m:=⟨(rd (osL cs k) m).toNat,by omega⟩;rw[<-ht] at q2 q3 q4 cB;obtain⟨ad',e',c2⟩:=Qn HR.out hb.out (k:=t) (by have:=hlt'.out;omega);cases e';exact .inr ⟨m,t,rd cs t,bd,rfl,eB,cB,by omega,c2,by rw[q2,show k-(m+1)=k-1-m from by omega]⟩
      by_cases hgo:0<a/\x<((Vv cs k).getD (k-a) it0).1
      ·rcases hst with ⟨h1,_⟩|⟨m,t,y,bd,rfl,rfl,c1,i1,c2,hy⟩
       ·omega
       ·have hgt:=hgo.2
        rw[<-hy] at hgt
        have hA2:Qa (At (rd cs k,(k:Int)) (Vv cs k) (k-m)):=⟨by
         have:=At_step hA.out (by rw[hO];omega) (by rw[show(rd cs (k:Int),(k:Int)).1=x from hxe.out.symm];exact hgo.2)
         rwa [show k-(m+1)+1=k-m from by omega] at this⟩
        have w1:IntKind.i64.wrap (((m+1:Nat):Int)-1)=(m:Int):=(by rw[IntWalk.i64_in _ (by omega)];omega);have j1:(m:Int)<(k:Int):=(by omega);have j2:(0:Int)<((m+1:Nat):Int):=(by omega);have j3:decide (0<m+1)=true:=(by simp);replace hO:=Qa.mk hO;replace hy:=Qa.mk hy;replace hgo:=Qa.mk hgo;obtain⟨a,ha2⟩: ∃a,a=m+1:=⟨_,rfl⟩;rw[<-ha2] at w1 j2 j3 ha hA ⊢;replace ha2:=Qa.mk ha2;go_wp2_with fail;go_round
        case rel=>exact⟨m,by go_num,by omega,hA2⟩
        case measure=>have:=ha2.out;simp[intOf];omega
      ·have hI:Qa (osL cs (k+1)=(osL cs k).take a++((k:Int)::(osL cs k).drop a)):=⟨by
        have h:=osL_succ cs (r:=k-a) (by omega) (At_end hA.out (by omega) (fun h h2=>hgo ⟨by omega,by rw[hxe.out];exact h2⟩))
        rwa [show k-(k-a)=a from by omega] at h⟩
       have hex:(¬(0:Int)<(a:Int)/\decide (0<a)=false)\/ ∃(m t:Nat) (y:Int) (bd:Addr),B=some bd/\wr.cell? (bd.add m)=some (.int .i64 t)/\(t:Int)<(cs.length:Int)/\wr.cell? (ad.add t)=some (.int .i64 y)/\ ¬x<y/\decide (x<y)=false/\IntKind.i64.wrap ((a:Int)-1)=(m:Int)/\(m:Int)<(k:Int)/\(0:Int)<(a:Int)/\decide (0<a)=true:=by
        rcases hst with ⟨h1,h2,-⟩|⟨m,t,y,bd,ha2,hB2,c1,i1,c2,hy⟩
        ·exact .inl ⟨h1,h2⟩
        ·have hxy: ¬x<y:=fun h=>hgo ⟨by omega,by rw[<-hy];exact h⟩
         exact .inr ⟨m,t,y,bd,hB2,c1,i1,c2,hxy,decide_eq_false hxy,by rw[IntWalk.i64_in _ (by omega)];omega,by omega,by omega,decide_eq_true (by omega)⟩
       have hkk:=Nf cs k;have T1:=Kd.C_take hB.out (m:=a) (by omega);have T2:=Kd.C_drop hB.out (m:=a) (c:=c) (by omega) (by have:=hcc.out;omega);have hk1:=Nf cs (k+1);obtain⟨P,hP⟩: ∃P,P=(osL cs k).take a:=⟨_,rfl⟩;obtain⟨Q,hQ⟩: ∃Q,Q=(osL cs k).drop a:=⟨_,rfl⟩;have hPl:Qa (a=P.length):=⟨by rw[hP,List.length_take];omega⟩;have hQl:Qa (k-a=Q.length):=⟨by rw[hQ,List.length_drop];omega⟩;rw[<-hP] at T1 hI;rw[<-hQ] at T2 hI;rw[show(Kd.int .i64).sz =1 from rfl] at T2;simp only[Nat.mul_one] at T2;replace T1:=Qa.mk T1;replace T2:=Qa.mk T2;have i5:(a:Int)<=(k:Int):=(by omega);have i6:(k:Int)<=(c:Int):=(by have:=hcc.out;omega);have i7:(a:Int)<=(c:Int):=(by omega);have i8:(c:Int)<=9223372036854775807:=(by have:=hcc.out;omega);have h100:Qa (k<=256):=⟨by have:=hl'.out;have:=hlt'.out;omega⟩;replace hkk:=Qa.mk hkk;replace hk1:=Qa.mk hk1;clear hP hQ hgo hst hO hA hB;rcases hex with ⟨h1,h3⟩|⟨m,t,y,bd,rfl,c1,i1,c2,hxy,hxy2,w1,j1,j2,j3⟩
       all_goals go_wp2_with fail
       rotate_left
       obtain⟨B,hB⟩: ∃B,B=some bd:=⟨_,rfl⟩;rw[<-hB] at T1 T2 ⊢;clear hB
       rotate_left
       all_goals
        refine Qt (S:=fun _=>True) (ds:=[11]) hmo.out trivial (fun hHeld=> ?_)
        (refine Tk.tl 0 (.slice B k c) hHeld ?_)
        (refine Tk.tl 1 (.int .i64 a) hHeld ?_)
        (refine Tk.tl 2 (.int .i64 a) hHeld ?_)
        (refine Tk.tl 3 (.slice B a a) hHeld ?_)
        (refine Tk.tl 4 (.int .i64 k) hHeld ?_)
        (refine Tk.tl 6 (.slice B k c) hHeld ?_)
        (refine Tk.tl 7 (.int .i64 a) hHeld ?_)
        (refine Tk.tl 8 (.slice (if c=a then B else B.map (·.add a)) (k-a) (c-a)) hHeld ?_)
        obtain⟨Bq,hBq⟩: ∃Bq,Bq=(if c=a then B else B.map (·.add a)):=⟨_,rfl⟩;rw[<-hBq] at T2 ⊢;clear hBq
        (refine Qg (rs:=[5]) (by kernel_rfl) (by simp) ?_;refine Qc.cons rfl (by decide) (fun K hK=> ?_) Qc.nil)
        go_simp
        (go_wp2_with fail;refine hK.out _ _ (trivial) (fun hHeld=> ?_);clear hK K;try simp only[Act.put,Tk.z1,Tk.z2,Tk.z3,Tk.z4,Tk.z5,Tk.z6])
        have hb5:Below wr.heap.size wr (wr.drew.alloc (.cells #[.int .i64 k] 3)):=(Below.refl _ _).drew.alloc (Nat.le_refl _) _
        have hS5:(Kd.int .i64).C (wr.drew.alloc (.cells #[.int .i64 k] 3)) (some ⟨wr.heap.size,0,none⟩) [(k:Int)].length [(k:Int)]:=by
         refine Tu (fun _=>⟨_,rfl,fun j u hj=> ?_⟩) (by simp)
         cases j with
         |zero=>
          have:Value.int .i64 k=u:=(by simpa using hj);subst this;rw[Lg];exact Qb (heap_alloc_new wr.drew _) 0
         |succ j=>simp at hj
        (refine Qg (rs:=[9]) (by kernel_rfl) (by simp) ?_;refine Qc.cons rfl (by decide) (fun K hK=> ?_) Qc.nil)
        refine Lh (by kernel_rfl) (.tmp 90) (.tmp 93) rfl (some ⟨wr.heap.size,0,none⟩) [(k:Int)] 1 rfl rfl hS5 Bq Q (k-a) (c-a) rfl hQl.out (Kd.Qf T2.out hb5) (by have:=hQl.out;have:=h100.out;simp only[List.length_singleton];omega) ?_;intro A6 c6 w6 hb6 hC6 hc6 hc6b;replace hb6:=bnx hb5 hb6;have hT6:=Kd.Qf T1.out hb6;clear hS5 hb5
        (go_wp2_with fail;refine hK.out _ _ (trivial) (fun hHeld=> ?_);clear hK K;try simp only[Act.put,Tk.z1,Tk.z2,Tk.z3,Tk.z4,Tk.z5,Tk.z6])
        (refine Qg (rs:=[10]) (by kernel_rfl) (by simp) ?_;refine Qc.cons rfl (by decide) (fun K hK=> ?_) Qc.nil)
        refine Lh (by kernel_rfl) (.tmp 88) (.tmp 94) rfl B P a rfl hPl.out hT6 A6 ([(k:Int)]++Q) (1+(k-a)) c6 rfl (by rw[List.length_append,<-hQl.out];rfl) hC6 (by have:=hPl.out;have:=hQl.out;have:=h100.out;simp only[List.length_append,List.length_singleton];omega) ?_;intro A7 c7 w7 hb7 hC7 hc7 hc7b;replace hb7:=bnx hb6 hb7;have hO7:Qa ((Kd.int .i64).C w7 A7 (osL cs (k+1)).length (osL cs (k+1))):=⟨by rw[hI.out];exact hC7⟩;have hb8:=Qa.mk (bnx hb.out hb7);have e7:a+(1+(k-a))=k+1:=(by omega);rw[e7] at hc7 ⊢;have hc8:Qa (k+1<=c7/\c7<=9223372036854775807):=⟨hc7,hc7b⟩;clear hb7 hC7 hc7 hc7b hb6 hT6 hC6 hc6 hc6b e7
        (go_wp2_with fail;refine hK.out _ _ (trivial) (fun hHeld=> ?_);clear hK K;try simp only[Act.put,Tk.z1,Tk.z2,Tk.z3,Tk.z4,Tk.z5,Tk.z6])
        (refine Qg (rs:=[11]) (by kernel_rfl) (by simp) ?_;refine Qc.Zl rfl (by decide) (fun K hK=> ?_) Qc.nil)
        go_simp;go_wp2_with fail;refine hK.out _ _ ?_;clear hK K
        try simp only[Act.put,List.setIfInBounds_toArray,List.set_cons_zero,List.set_cons_succ]
        refine Qq (by kernel_rfl) ?_ _;go_wp2_with fail;go_roundw
        case rel=>exact⟨k+1,A7,c7,by go_num,rfl,hlt'.out,hc8,hO7,hb8⟩
        case measure=>have:=hlt'.out;simp[intOf];omega
    ·obtain rfl:k=cs.length:=by omega
     clear hk hlt;go_wp2_with fail;obtain⟨bd,rfl,-⟩:=Qn hB.out (Below.refl _ _) (k:=0) (by rw[Nf];omega);have hRz:=((Rws.start w).step hb.out).alloc Z0 3;simp only[List.nil_append] at hRz;rw[hZ.out] at hRz;obtain⟨W2,hW2⟩: ∃W2,W2=wr.alloc (.cells Z0 3):=⟨_,rfl⟩;rw[show wr.alloc (.cells ((List.replicate cs.length (0:Int)).map (Value.int .i64)).toArray 3)=W2 from by rw[hW2,hZ.out]] at hRz;have hb2:Below wr.heap.size wr W2:=by rw[hW2];exact(Below.refl _ _).alloc (Nat.le_refl _) _
     have hOc:=Qa.mk (fun W (hbW:Below W2.heap.size W2 W) (k:Nat) (hk:k<cs.length)=>(show W.cell? (bd.add k)=some (.int .i64 (rd (osL cs cs.length) k)) by
      obtain⟨ad,e,h⟩:=Qn hB.out (bnx hb2 hbW) (k:=k) (by rw[Nf];exact hk);cases e
      exact h))
     have hbw2:=Qa.mk (bnx hb.out hb2);obtain⟨g,hg⟩: ∃g,g=wr.heap.size:=⟨_,rfl⟩;rw[<-hg] at hRz ⊢;rw[<-hW2];replace hRz:=Qa.mk hRz;clear hW2 hmk hZ hB hb hb2 hg;go_loopw [14,110] (fun o i wr=> ∃k:Nat,i= .int .i64 k/\k<=cs.length/\Qa (kIt.R 225 wr W2.heap.size (fun _=>True) o ((Y6 cs).take k))/\Qa (Below W2.heap.size W2 wr)) (fun _ i _=>cs.length-(intOf i).toNat)
     case atStart=>exact⟨0,rfl,by omega,⟨Kd.Zx _ _ _ _ _⟩,⟨Below.refl _ _⟩⟩
     case round=>
      obtain⟨k,rfl,hk,ho,hb⟩:=hrel;by_cases hlt:k<cs.length
      ·have c1:=hOc.out _ hb.out k hlt
       obtain⟨t0,t1⟩:=os_bd cs hlt;have hT:=O8 cs hlt;obtain⟨t,ht⟩: ∃t:Nat,(t:Int)=rd (osL cs cs.length) k:=⟨(rd (osL cs cs.length) k).toNat,by omega⟩;rw[<-ht] at c1 t0 t1 hT;obtain⟨ad,rfl,c2⟩:=Qn HR.out (bnx hbw2.out hb.out) (k:=t) (by omega);obtain⟨y,hy⟩: ∃y,y=rd cs t:=⟨_,rfl⟩;rw[<-hy] at c2 hT;obtain⟨q,hq⟩: ∃q,q=(Y6 cs).take k:=⟨_,rfl⟩;have hlen:Qa ((q.length+1)*16<=140737488355328):=⟨by rw[hq,List.length_take];omega⟩;rw[<-hq] at ho hT;have hkI:(k:Int)<(cs.length:Int):=(by omega);replace hT:=Qa.mk hT;replace hlt:=Qa.mk hlt;clear hq hy ht hk;go_wp2_with (first|(at_builtin;refine Kd.Q3 kIt (w0:=W2) W2.heap.size rfl (.tmp 114) (.tmp 121) 223 225 (.agg #[.int .i64 0,.int .i64 0]) 16 rfl Tryz.underlying223 Pf rfl (by decide) (by decide) u14 q (y,t) [.int .i64 y,.int .i64 t] (fun _=>True) (fun _=>False) rfl rfl (kIt_M _ _ _ _) (fun _ hk=>hk.elim) (fun _ _=>trivial) ho.out hb.out hb.out.size hlen.out ?_;intro v1 wA hoA hbA hgA hatA;have HOA:=Qa.mk hoA;have HBA:=Qa.mk hbA;clear hoA hbA hgA hatA));go_roundw
       case rel=>exact⟨k+1,by go_num,hlt.out,⟨by rw[hT.out];exact HOA.out⟩,HBA⟩
       case measure=>have:=hlt.out;simp[intOf];omega
      ·obtain rfl:k=cs.length:=by omega
       have ho':Qa (kIt.R 225 wr W2.heap.size (fun _=>True) u14 (Y6 cs)):=⟨by rw[<-List.take_of_length_le (show(Y6 cs).length <=cs.length from Nat.le_of_eq (Gb cs))];exact ho.out⟩;obtain⟨co,hco⟩: ∃co,co=Y6 cs:=⟨_,rfl⟩;have hcl:Qa (co.length=cs.length):=⟨by rw[hco,Gb]⟩
       have HP2:Qa (J9 ((List.range 16).map (Ve co)).reverse (2*cs.length-2) (List.replicate cs.length 0)=some fin):=⟨by
        have h:=HP.out;unfold plL at h;rw[<-hco,show Si co 15 co=Si co 15 (Ve co 0) from rfl,Co] at h
        simpa using h⟩
       have HW:=Qa.mk (fun(i:Nat) (hi:i<16)=>Rc HP2.out (Ve co i) (by simp only[List.mem_reverse,List.mem_map,List.mem_range];exact⟨i,hi,rfl⟩));have HL:=Qa.mk (Qau co);rw[<-hco] at ho';obtain⟨Ac,pc,rfl,hle,hCo⟩:=Kd.Qs ho'.out;have ho2:=ho';obtain⟨n,hn⟩: ∃n,n=co.length:=⟨_,rfl⟩;have hR3:=Qa.mk (R_lit1 (e:=223) ho'.out hb.out.size);rw[<-hn] at hR3 ⊢;replace hle:=Qa.mk hle;replace hCo:=Qa.mk hCo;replace hn:=Qa.mk hn;clear hk hlt ho hOc ho' hco HP;go_wp2_with fail;obtain⟨wo,hwo⟩: ∃wo,wo=wr:=⟨_,rfl⟩;subst hwo
       have hCo3:Qa (kIt.R 225 (wo.alloc (.cells #[.slice Ac n pc] 223)) W2.heap.size (fun j=>True/\some j≠(Value.slice (some ⟨wo.heap.size,0,none⟩) 1 1).ownBlock) (.slice Ac n pc) co):=⟨by
        refine Kd.Q4 (Kd.Xz (Kd.Zd (by rw[hn.out];exact ho2.out)) (fun j hj=>⟨trivial,fun he=> ?_⟩)) (Ku (Below.refl _ _) _);have h3:j=wo.heap.size:=(by simpa[Value.ownBlock] using he);have:=hj.2.2.1
        omega⟩
       obtain⟨W3,hW3⟩: ∃W3,W3=wo.alloc (.cells #[.slice Ac n pc] 223):=⟨_,rfl⟩;have hb3:Qa (Below W2.heap.size W2 W3):=⟨by rw[hW3];exact hb.out.alloc hb.out.size _⟩;rw[<-hW3] at hR3 hCo3 ⊢;clear hW3 hb hCo ho2;go_loopw [17,128] (fun o i wr=> ∃k:Nat,i= .int .i64 k/\k<=15/\Qa (kRw.R 223 wr W2.heap.size (fun _=>True) o ((List.range (k+1)).map (Ve co)))/\Qa (kIt.R 225 wr W2.heap.size (fun j=>True/\some j≠o.ownBlock) (.slice Ac n pc) co)/\Qa (Below W2.heap.size W2 wr)) (fun _ i _=>15-(intOf i).toNat)
       case atStart=>exact⟨0,rfl,by omega,hR3,hCo3,hb3⟩
       case round=>
        obtain⟨k,rfl,hk,hR,hCo,hb⟩:=hrel;by_cases hlt:k<15
        ·have hkI:(k:Int)<15:=by omega
         have hw:=HW.out k (by omega);have hl2:=HL.out k;have hl3:=HL.out (k+1);have hT:(List.range (k+1+1)).map (Ve co)=(List.range (k+1)).map (Ve co)++[J2 co (Q8 (Ve co k))]:=(by rw[List.range_succ,List.map_append];rfl);obtain⟨L,hL⟩: ∃L,L=(List.range (k+1)).map (Ve co):=⟨_,rfl⟩;have hLl:L.length=k+1:=(by rw[hL];simp);have hLk:L.getD k []=Ve co k:=(by rw[hL,List.getD_eq_getElem?_getD];simp);rw[<-hL] at hR hT;obtain⟨r,hr⟩: ∃r,r=Ve co k:=⟨_,rfl⟩;rw[<-hr] at hw hl2 hT hLk;have hpl:=Zp r;obtain⟨A3,c3,rfl,hle3,hC3⟩:=Kd.Qs hR.out;obtain⟨a3,Ak,ck,rfl,cK,hck,hCk⟩:=kRw_at hC3 (Below.refl _ _) (k:=k) (by omega);rw[hLk] at cK hck hCk;rw[hLl] at hle3;have HPk:=Qa.mk (R5 Ak ck r wr hCk (by have:=hcl.out;have:=hl'.out;omega) hw);obtain⟨rn,hrn⟩: ∃rn,rn=r.length:=⟨_,rfl⟩;rw[<-hrn] at cK HPk;have e1:((L.length:Nat):Int)=(k:Int)+1:=(by omega);have e2:(k:Int)<(L.length:Int):=(by omega);obtain⟨Ll,hLl2⟩: ∃Ll,Ll=L.length:=⟨_,rfl⟩;rw[<-hLl2] at hR hCo e1 e2 ⊢;replace hlt:=Qa.mk hlt;replace hT:=Qa.mk hT;replace hLl:=Qa.mk hLl;replace hLl2:=Qa.mk hLl2;replace hl2:=Qa.mk hl2;replace hpl:=Qa.mk hpl;clear hL hLk hr hw hl3 hC3 hck hCk hrn hk;go_wp2_with fail;refine HPk.out.mono ?_;rintro e w1 ⟨v,rfl,hv,hb1⟩;obtain⟨Ap,cp,rfl,hlp,hCp⟩:=Kd.Qs hv;have hCw:=Kd.Q4 hCo.out hb1
         have hCc:kIt.C w1 Ac co.length co:=by
          obtain⟨Ac',pc',e',hle',hCc⟩:=Kd.Qs hCw;cases e';exact hCc
         have HMg:=Qa.mk (Eu Ac Ap pc cp co (Q8 r) w1 hCc hCp (by have:=hpl.out;have:=hl2.out;have:=hcl.out;have:=hl'.out;omega) hle.out hlp);rw[<-hn.out] at HMg;obtain⟨pn,hpn⟩: ∃pn,pn=(Q8 r).length :=⟨_,rfl⟩;rw[<-hpn] at HMg ⊢;clear hv hCp hCw hCc hlp hpn;go_wp2_with fail;refine HMg.out.mono ?_;rintro e w2 ⟨v2,rfl,hv2,hb2⟩;obtain⟨A8,c8,rfl,-,-⟩:=Kd.Qs hv2;have hb12:=bnx hb1 hb2;have hvM:kRw.M w2 W2.heap.size (fun j=>wr.heap.size<=j) (J2 co (Q8 r)) [.slice A8 (J2 co (Q8 r)).length c8]:=⟨_,rfl,Kd.Zz (Kd.Xz (Kd.Zd hv2) (fun j hj=>by have:=hj.2.1;have:=hb1.size;omega)) (by have:=hb.out.size;have:=hb1.size;omega)⟩;have hokp: ∀j,wr.heap.size<=j->True/\some j≠(Value.slice (some a3) Ll c3).ownBlock :=fun j hj=>⟨trivial,fun e=>by have:=((Kd.Zd hR.out).1 j e.symm).2.2.1;omega⟩
         have hR2:=Kd.Q4 hR.out hb12;have hB2:=bnx hb.out hb12;have hCo2:=Kd.Q4 hCo.out hb12;have hlen:(L.length+1)*24<=140737488355328:=(by have:=hLl.out;have:=hlt.out;omega);obtain⟨mn,hmn⟩: ∃mn,mn=(J2 co (Q8 r)).length :=⟨_,rfl⟩;rw[<-hmn] at hvM ⊢;replace hvM:=Qa.mk hvM;replace hokp:=Qa.mk hokp;replace hR2:=Qa.mk hR2;replace hB2:=Qa.mk hB2;replace hCo2:=Qa.mk hCo2;replace hlen:=Qa.mk hlen;clear hv2 hmn hb1 hb2 hb12;go_wp2_with (first|(at_builtin;refine Kd.Q3 kRw (w0:=W2) W2.heap.size rfl (.tmp 131) (.tmp 139) 226 223 (.slice none 0 0) 24 rfl Tryz.underlying226 info_rw rfl (by decide) (by decide) (.slice (some a3) Ll c3) L (J2 co (Q8 r)) [.slice A8 mn c8] (fun _=>True) (fun j=>wr.heap.size<=j) rfl rfl hvM.out hokp.out (fun _ _=>trivial) hR2.out hB2.out hB2.out.size hlen.out ?_;intro v1 wA hoA hbA hgA hatA;have HCA:=Qa.mk (Kd.R_after hCo2.out hgA hatA);have HOA:=Qa.mk hoA;have HBA:=Qa.mk hbA;clear hoA hbA hgA hatA));go_roundw
         case rel=>exact⟨k+1,by go_num,hlt.out,⟨by rw[hT.out];exact HOA.out⟩,HCA,HBA⟩
         case measure=>have:=hlt.out;simp[intOf];omega
        ·obtain rfl:k=15:=by omega
         clear hk hlt hCo hCo3 hR3 hb3;have hR4:=Kd.Xz (Kd.Zd hR.out) (ok':=fun j=>True/\W2.heap.size<=j) (fun j hj=>⟨trivial,hj.2.1⟩);obtain⟨L,hL⟩: ∃L,L=(List.range (15+1)).map (Ve co):=⟨_,rfl⟩;have hLl:L.length=16:=by rw[hL];simp
         have hLk: ∀k,k<16->L.getD k []=Ve co k:=fun k hk=>by
          rw[hL,List.getD_eq_getElem?_getD,List.getElem?_map,List.getElem?_range (by omega)];rfl
         rw[<-hL] at hR4 hR;obtain⟨A3,c3,rfl,hle3,-⟩:=Kd.Qs hR.out;obtain⟨g3,c3,e3,-,-,-⟩:=Kd.R_form hR.out (show 0<L.length by omega);cases e3;rw[hLl] at hR4 ⊢;have hRw0:=Qa.mk (hRz.out.step hb.out)
         have hgW:Qa (g<W2.heap.size):=⟨by
          have h:W2.heap[g]? =some (.cells _ _ (0,0)):=at_ hRz.out 0 rfl;by_cases h0:g<W2.heap.size
          ·exact h0
          ·rw[Array.getElem?_eq_none (by omega)] at h
           cases h⟩
         replace hR4:=Qa.mk hR4;replace hLk:=Qa.mk hLk;have w1:IntKind.i64.wrap (2*(cs.length:Int))=2*(cs.length:Int):=IntWalk.i64_in _ (by omega);have w2:IntKind.i64.wrap (2*(cs.length:Int)-2)=2*(cs.length:Int)-2:=IntWalk.i64_in _ (by omega);clear hL hR hle3 hLl hRz;go_wp2_with fail;obtain⟨wo2,hwo2⟩: ∃wo2,wo2=wr:=⟨_,rfl⟩;subst hwo2;go_loopw [19,20] (fun u v wr=> ∃(f j:Nat) (out:List Int),u= .int .i64 f/\v= .int .i64 ((j:Int)-1)/\j<=16/\Qa (J9 ((List.range j).map (Ve co)).reverse f out=some fin)/\Qa (out.length=cs.length)/\Qa (kRw.R 223 wr W2.heap.size (fun j=>True/\W2.heap.size<=j) (.slice (some ⟨g3,0,none⟩) 16 c3) L)/\Qa (Rws w wr [] [⟨g,(out.map (Value.int .i64)).toArray,3⟩])) (fun _ v _=>(intOf v+1).toNat)
         case atStart=>exact⟨2*cs.length-2,16,_,by rw[show((2*cs.length-2:Nat):Int)=2*(cs.length:Int)-2 from by omega],rfl,by omega,HP2,⟨by simp⟩,hR4,hRw0⟩
         case round=>
          obtain⟨f,j,out,rfl,rfl,hj,hF,hol,hR,hRw⟩:=hrel;clear hR4 hRw0;rcases j with _|m
          ·have he:out=fin:=by have:=hF.out;simpa[J9] using this
           subst he;simp only[Int.natCast_zero,Int.zero_sub];go_wp2_with fail;go_ret2;exact⟨g,rfl,hRw.out⟩
          ·have hmI:(m:Int)<=15:=by omega
           have hF2:=hF.out;rw[List.range_succ,List.map_append,List.reverse_append,List.map_singleton,List.reverse_singleton,List.singleton_append] at hF2;obtain⟨f1,f2,f4,f3⟩:=Bl hF2;have hlk:=hLk.out m (by omega);have hl2:=HL.out m;obtain⟨r,hr⟩: ∃r,r=Ve co m:=⟨_,rfl⟩;rw[<-hr] at f1 f2 f3 hlk hl2;obtain⟨cv,-,⟨v5,rfl,hRr⟩,hcv⟩:=Kd.R_get hR.out [] (m:Int) (by omega) (by omega);have hcell:=hcv 0 _ rfl;rw[Int.toNat_natCast,hlk] at hRr;obtain⟨Ak,ck,rfl,hck,-⟩:=Kd.Qs hRr
           replace hcell:wr.cell? ⟨g3,m,none⟩=some (.slice Ak r.length ck):=by
            rw[<-hcell];unfold Addr.add;by_cases h0:m=0<;>simp[h0,kRw,Kd.slice]
           replace hRr:Qa (kIt.R 225 wr W2.heap.size (fun j=>W2.heap.size<=j) (.slice Ak r.length ck) r):=⟨Kd.Xz hRr (fun j hj=>hj.1.2)⟩;have w3:IntKind.i64.wrap (((m+1:Nat):Int)-1)=(m:Int):=(by rw[IntWalk.i64_in _ (by omega)];omega);have w4:((m+1:Nat):Int)-1=(m:Int):=(by omega);have w5:IntKind.i64.wrap ((m:Int)-1)=(m:Int)-1:=IntWalk.i64_in _ (by omega);have i1:(f:Int)<=(r.length:Int):=(by omega);have i2:(r.length:Int)<=(ck:Int):=(by omega);have i3:(f:Int)<=(ck:Int):=(by omega);have i4:(f:Int)<=1000000:=(by have:=hcl.out;have:=hl'.out;omega);have hmI2:(m:Int)<16:=(by omega);rw[w4];replace f1:=Qa.mk f1;replace f2:=Qa.mk f2;replace f3:=Qa.mk f3;replace f4:=Qa.mk f4;obtain⟨rn,hrn⟩: ∃rn,rn=r.length:=⟨_,rfl⟩;rw[<-hrn] at hcell hRr i1 i2;replace hrn:=Qa.mk hrn;replace hj:=Qa.mk hj;clear hF hF2 hlk hl2 hr hcv hck w4;go_wp2_with fail;obtain⟨wo3,hwo3⟩: ∃wo3,wo3=wr:=⟨_,rfl⟩;subst hwo3;go_loopw [21,158] (fun u v wr=> ∃k:Nat,u= .int .i64 (Kw (r.take k):Nat)/\v= .int .i64 k/\k<=f/\Qa (kIt.R 225 wr W2.heap.size (fun j=>W2.heap.size<=j) (.slice Ak rn ck) r)/\Qa (kRw.R 223 wr W2.heap.size (fun j=>True/\W2.heap.size<=j) (.slice (some ⟨g3,0,none⟩) 16 c3) L)/\Qa (Rws w wr [] [⟨g,((Xv out (r.take k)).map (Value.int .i64)).toArray,3⟩])) (fun _ v _=>f-(intOf v).toNat)
           case atStart=>exact⟨0,rfl,rfl,by omega,hRr,hR,hRw⟩
           case round=>
            obtain⟨k,rfl,rfl,hk,hRr,hR,hRw⟩:=hrel;by_cases hlt:k<f
            ·have hkr:k<r.length:=by have:=f1.out;omega
             obtain⟨A',c',e',-,hCr⟩:=Kd.Qs hRr.out;cases e';obtain⟨ak,rfl,c1,c2⟩:=F6 hCr (Below.refl _ _) hkr;obtain⟨ga,rfl⟩:=Kd.R_head hRr.out
             have hT1:Kw (r.take (k+1))=Kw (r.take k)+if(r.getD k it0).2<0 then 1 else 0:=by
              rw[List.take_add_one,List.getElem?_eq_getElem hkr,List.getD_eq_getElem?_getD,List.getElem?_eq_getElem hkr];exact Qdx _ _
             have hT2:Xv out (r.take (k+1))=if(r.getD k it0).2<0 then Xv out (r.take k) else(Xv out (r.take k)).set (r.getD k it0).2.toNat (rd (Xv out (r.take k)) (r.getD k it0).2+1):=by
              rw[List.take_add_one,List.getElem?_eq_getElem hkr,List.getD_eq_getElem?_getD,List.getElem?_eq_getElem hkr];exact Tz _ _ _
             have hs9:=okR_at f2.out hkr;have hbl:=Dp (r.take k) out
             have hcn:Kw (r.take k)<=k:=by
              unfold Kw;exact Nat.le_trans (List.length_filter_le _ _) (by rw[List.length_take];omega)
             obtain⟨x1,hx1⟩: ∃x,x=(r.getD k it0).1:=⟨_,rfl⟩;obtain⟨x2,hx2⟩: ∃x,x=(r.getD k it0).2:=⟨_,rfl⟩;rw[<-hx1] at c1;rw[<-hx2] at c2 hT1 hT2 hs9;obtain⟨bo,hbo⟩: ∃b,b=Xv out (r.take k):=⟨_,rfl⟩;obtain⟨cp,hcp⟩: ∃c,c=Kw (r.take k):=⟨_,rfl⟩;rw[<-hbo] at hT2 hbl hRw;rw[<-hcp] at hT1 hcn ⊢;replace c1:wr.cell? ⟨ga,k*2,none⟩=some (.int .i64 x1):=(by rw[<-c1];unfold Addr.add;by_cases h0:k*2=0<;>simp[h0]);replace c2:wr.cell? ⟨ga,k*2+1,none⟩=some (.int .i64 x2):=(by rw[<-c2];simp[Addr.add]);have hkI:(k:Int)<(f:Int):=(by omega);have hgw:g<wr.heap.size:=Nat.lt_of_lt_of_le hgW.out (Nat.le_of_lt (Nat.lt_of_le_of_lt ((Kd.R_base hR.out) g3 rfl) ((Kd.R_lt hR.out) g3 rfl)));replace hbl:=Qa.mk hbl;replace hT1:=Qa.mk hT1;replace hT2:=Qa.mk hT2;replace hlt:=Qa.mk hlt;replace hcn:=Qa.mk hcn;replace hs9:=Qa.mk hs9;clear hx1 hx2 hcp hCr hkr hk;replace hbo:=Qa.mk hbo;by_cases hn:x2<0
             ·go_wp2_with fail
              go_roundw
              case rel=>exact⟨k+1,by rw[hT1.out,if_pos hn,IntWalk.wrap64_in _ (by have:=hcn.out;have:=hlt.out;omega)];rfl,by go_num,hlt.out,⟨Kd.Hz hRr.out _⟩,⟨Kd.Hz hR.out _⟩,⟨by rw[hT2.out,if_pos hn];exact hRw.out.step ((Below.refl _ _).alloc (Nat.le_refl _) _)⟩⟩
              case measure=>have:=hlt.out;simp[intOf];omega
             ·have hvb:=P6 (r.take k) out 1000000 (okO_rd f4.out) x2
              have htl:((r.take k).length :Int)<=1000000:=(by rw[List.length_take];have:=hlt.out;omega);rw[<-hbo.out] at hvb;obtain⟨s,rfl⟩: ∃s:Nat,x2=(s:Int):=⟨x2.toNat,by omega⟩;have gO:=at_ hRw.out 0 rfl;have hsl:s<cs.length:=(by have:=hs9.out;have:=hol.out;omega);obtain⟨v,hv⟩: ∃v,v=rd bo (s:Int):=⟨_,rfl⟩;rw[<-hv] at hvb hT2
              have m1:wr.cell? ⟨g,s,none⟩=some (.int .i64 v):=by
               rw[Qb gO,hv];have:s<bo.length:=(by rw[hbl.out,hol.out];exact hsl);simp[rd,List.getD_eq_getElem?_getD,this]
              have m2:=Qj gO s;have hsI:(s:Int)<(cs.length:Int):=(by omega);have w7:IntKind.i64.wrap (v+1)=v+1:=IntWalk.i64_in _ (by omega);have hT3:Qa (Xv out (r.take (k+1))=bo.set s (v+1)):=⟨by rw[hT2.out,if_neg hn];rfl⟩;have hT4:Qa (Kw (r.take (k+1))=cp):=⟨by rw[hT1.out,if_neg hn];rfl⟩;have hne:g≠wr.heap.size:=(by omega);clear hvb htl gO hv hsl;go_wp2_with fail;have hfar: ∀j,W2.heap.size<=j->j≠g:=fun j hj=>by have:=hgW.out;omega
              go_roundw
              case rel=>exact⟨k+1,by rw[hT4.out],by go_num,hlt.out,⟨Kd.Hz (Kd.U7 hRr.out (p:=⟨g,s,none⟩) (fun j hj=>hfar j hj) _) _⟩,⟨Kd.Hz (Kd.U7 hR.out (p:=⟨g,s,none⟩) (fun j hj=>hfar j hj.2) _) _⟩,⟨by rw[hT3.out];exact(Em hRw.out s (v+1)).step ((Below.refl _ _).alloc (Nat.le_refl _) _)⟩⟩
              case measure=>have:=hlt.out;simp[intOf];omega
            ·obtain rfl:k=f:=by omega
             have hcn:Kw (r.take k)<=k:=by
              unfold Kw;exact Nat.le_trans (List.length_filter_le _ _) (by rw[List.length_take];omega)
             have w8:IntKind.i64.wrap (2*((Kw (r.take k):Nat):Int))=((2*Kw (r.take k):Nat):Int):=(by exact(IntWalk.i64_in _ (by omega)).trans (by omega));have hbl:=Qa.mk (Dp (r.take k) out);obtain⟨cp,hcp⟩: ∃c,c=Kw (r.take k):=⟨_,rfl⟩;rw[<-hcp] at w8 hcn f3 ⊢;clear hcp hk hlt;go_wp2_with fail;go_roundw
             case rel=>exact⟨2*cp,m,Xv out (r.take k),rfl,rfl,by have:=hj.out;omega,f3,⟨by rw[hbl.out];exact hol.out⟩,hR,hRw⟩
             case measure=>(simp[intOf])
end Rq

end Go.Proofs.YtnflnicdjioflaaGreatDoor
