/- A part of the proof. -/
import Derived.Test.YtnflnicdjioflaaGreatDoorSxah
import Derived.Test.YtnflnicdjioflaaGreatDoorSxaj
set_option linter.unusedVariables false
set_option linter.unusedSimpArgs false
set_option maxRecDepth 100000
set_option maxHeartbeats 8000000
namespace Go.Proofs.YtnflnicdjioflaaGreatDoor
open Go.RowKit Go.Proofs.YtnflnicdjioflaaGreatDoorW.PrintWords Go.Proofs.YtnflnicdjioflaaGreatDoorW.PrintLast Go.Proofs.YtnflnicdjioflaaGreatDoorW.PrintMore
namespace Pre
attribute [local go_sem] Qh Qi Qk Ql Qd Qe
open Q15
open Runs Go.Shelf
open Q16 (Q6 Za Yc)
open Q21 (Qb Qj)
open Bts (Rws Row Blk Yi)
attribute [local go_sem] Oper.semAt_some
theorem Rws.turn {wr w w1:World} {G:List Blk} {row:Option Nat} (h:Rws wr w [] G) (hg:w.grownBy w1 row) (hr: ∀r,row=some r->wr.heap.size<=r/\ ∃o:Obj,w.heap[r]? =some o/\o.isCells=false):Rws wr w1 [] G:=
 ⟨h.below.grown hg h.below.size (fun r e=>(hr r e).1),by simp,.nil,fun b hb=>⟨Yi (h.blk b hb).1 hg (fun r e=>(hr r e).2),(h.blk b hb).2⟩,by simp,h.gs⟩
theorem Qd8:(Tryz.prog.info? 204).map (fun i=>(i.zero,i.size,i.bytes))=some (some (.agg #[.int .i64 0,.int .i64 0]),2,16):=by kernel_rfl
theorem Qag (n:Nat):madeCells #[.int .i64 0,.int .i64 0] (n*2)=Zi (List.replicate n (0,0)):=by
 apply Array.ext'
 induction n with
 |zero=>simp[madeCells,Zi]
 |succ n ih=>
  unfold Zi at ih ⊢;rw[List.replicate_succ',List.map_append,List.flatten_append];simp only[List.toList_toArray] at ih ⊢;rw[<-ih];unfold madeCells;rw[show(n+1)*2=n*2+1+1 by omega,Array.range_succ,Array.range_succ];simp[Nat.add_mod]
theorem Qb1 (n:Nat) (hn:n<=1000000): ∀W:World,(Instr.makeSlice 201 (.int .i64 (n:Int)) (.int .i64 (n:Int))).run Tryz.prog W= .ok (.slice (some ⟨W.heap.size,0,none⟩) n n) (W.alloc (.cells (Zi (List.replicate n (0,0))) 204)):=fun W=>by
 rw[<-Qag];exact Na 201 204 (.agg #[.int .i64 0,.int .i64 0]) 2 16 Tryz.underlying201 Qd8 n (by decide) hn W
theorem Qa8 (A:Option Addr) (cap:Nat) (l:List Int) (w:World) (hr:(Kd.int .i64).C w A l.length l) (hl:l.length<=256):
  Calls Tryz.prog 198 #[.slice A l.length cap] w fun e w'=> ∃g,e= .returned (.slice (some ⟨g,0,none⟩) l.length l.length)/\w'.heap[g]? =some (.cells (Zi (Zv l (Xc l).length).2) 204 (0,0))/\w.heap.size<=g/\Below w.heap.size w w':=by
 have hlI:(l.length:Int)<=256:=(by omega);have hu:=Tryz.underlying204;have HR:=Qa.mk hr;have hl':=Qa.mk hl;refine(callsIn_wide (n:=3)).1 ?_;refine callsIn_of_wp_marks Tryz.func198 rfl trivial ?_ rfl;simp only[Tryz.ntmps198,List.size_toArray,List.length_cons,List.length_nil,Nat.reduceAdd,Nat.reduceSub,Array.replicate_succ,Array.replicate_zero,List.push_toArray,List.append_toArray,List.nil_append,List.cons_append];have hmk:=Qb1 l.length (by omega);obtain⟨P0,hP0⟩: ∃P0,P0=Zi (List.replicate l.length (0,0)):=⟨_,rfl⟩;rw[<-hP0] at hmk;replace hP0:=Qa.mk hP0;clear hl hr;gi_wp2_with fail;obtain⟨W6,hW6⟩: ∃W6,W6=(((w.alloc (.cells #[.slice A l.length cap] 22)).alloc (.cells P0 204)).alloc (.cells #[.slice (some ⟨w.heap.size+1,0,none⟩) l.length l.length] 201)).alloc (.cells #[.int .i64 0,.int .i64 0] 204):=⟨_,rfl⟩
 have hR6:Rws w W6 [] [⟨w.heap.size, #[.slice A l.length cap],22⟩,⟨w.heap.size+1,P0,204⟩,⟨w.heap.size+1+1, #[.slice (some ⟨w.heap.size+1,0,none⟩) l.length l.length],201⟩,⟨w.heap.size+1+1+1, #[.int .i64 0,.int .i64 0],204⟩]:=by
  have h:=((((Bts.Rws.start w).alloc #[.slice A l.length cap] 22).alloc P0 204).alloc #[.slice (some ⟨w.heap.size+1,0,none⟩) l.length l.length] 201).alloc #[.int .i64 0,.int .i64 0] 204;simp only[World.size_alloc,List.nil_append,List.cons_append] at h;rw[hW6];exact h
 have hs6:W6.heap.size=w.heap.size+1+1+1+1:=(by rw[hW6];simp);rw[<-hW6];clear hW6 hmk;refine⟨trivial,(callsIn_wide.2 (Mw A l.length cap W6)).mono ?_⟩;rintro e W7 ⟨rfl,hW7⟩
 have hR7:Rws w W7 [] [⟨w.heap.size, #[.slice A l.length cap],22⟩,⟨w.heap.size+1,P0,204⟩,⟨w.heap.size+1+1, #[.slice (some ⟨w.heap.size+1,0,none⟩) l.length l.length],201⟩,⟨w.heap.size+1+1+1, #[.int .i64 0,.int .i64 0],204⟩,⟨W6.heap.size, #[.slice A l.length cap],22⟩]:=by
  have h:=hR6.alloc #[.slice A l.length cap] 22;simp only[List.nil_append,List.cons_append] at h;rw[hW7];exact h
 have hs7:W7.heap.size=w.heap.size+5:=(by rw[hW7];simp;omega);have b7:W7.cell? ⟨W6.heap.size,0,none⟩=some (.slice A l.length cap):=(by rw[Qb (hR7.blk ⟨W6.heap.size, #[.slice A l.length cap],22⟩ (by simp)).1];rfl);rw[hs6] at hR7 b7 ⊢;replace hs7:=Qa.mk hs7;replace hR7:=Qa.mk hR7;clear hW7 hR6 hs6;gi_wp2_with fail;have hmo:Tryz.prog.follows .mixedOrders =true:=by kernel_rfl
 refine Yt rfl (by omega) (gf:=234) (lb:= #[.pointer (some ⟨w.heap.size+1+1+1+1,0,none⟩)]) rfl trivial (enters_of Tryz.func234 (by kernel_rfl) rfl)
  (Mv Fence.wide _ trivial rfl (by omega) (w.heap.size+1+1+1+1) A cap l hl'.out w W7 HR.out hR7.out.below b7)
  (fun h k=>h.trans k) (fun W l' o o' hl'=>Vx.putObj (N:=W7.heap.size) (by have:=hs7.out;omega) (by have:=hs7.out;omega) W l' o o' hl') (Below.refl _ _) (fun _=>rfl)
  (fun k W=>Rws w W [] [⟨w.heap.size, #[.slice A l.length cap],22⟩,⟨w.heap.size+1,Zi (Zv l k).2,204⟩,⟨w.heap.size+1+1, #[.slice (some ⟨w.heap.size+1,0,none⟩) l.length l.length],201⟩,⟨w.heap.size+1+1+1, #[.int .i64 (Zv l k).1.1,.int .i64 (Zv l k).1.2],204⟩,⟨w.heap.size+1+1+1+1, #[.slice A l.length cap],22⟩])
  ?own ?start
  (fun k=>{tmps:= #[.slice A l.length cap,.pointer (some ⟨w.heap.size,0,none⟩),.slice none 0 0,.pointer (some ⟨w.heap.size+1+1,0,none⟩),.pointer (some ⟨w.heap.size+1+1+1,0,none⟩),.int .i64 (Qac l k:Nat),.slice A l.length cap,.int .i64 l.length,.slice (some ⟨w.heap.size+1,0,none⟩) l.length l.length,.agg #[.int .i64 0,.int .i64 0],.slice A l.length cap,.func (.func 234) #[] #[.pointer (some ⟨w.heap.size+1+1+1+1,0,none⟩)],.int .i64 (Qac l k:Nat),undef,undef,undef,undef,undef,undef,undef,undef,undef,undef,undef,undef,undef,undef,undef,undef,undef,undef,undef,undef,undef,undef,undef,undef,undef,undef,undef],defers:=[]}) ?assign ?body ?done
 case own=>exact fun k W W' row h hg hrow=>Rws.turn h hg (fun r e=>⟨by have:=(hrow r e).1;have:=hs7.out;omega,(hrow r e).2⟩)
 case start=>rw[hP0.out] at hR7;exact hR7.out
 case assign=>
  intro l' k W K _ hK;gi_wp2;exact hK
 case body=>
  rintro L k W hRw hk;obtain⟨i1,i2,i3⟩:=Ce hk;obtain⟨i,hi⟩: ∃i,i=Qac l k:=⟨_,rfl⟩;have hi':(Xc l).getD k 0=i:=hi.symm;have hbd:=Po l k (by omega);have hbd1:=Po l (k+1) (by omega);have hsm:=S9 hl'.out (show k<=(Xc l).length by omega);have hsm1:=S9 hl'.out (show k+1<=(Xc l).length by omega);have hstp:Zv l (k+1)=(V7 l (Zv l k).1 i,(Zv l k).2.set i (V7 l (Zv l k).1 i)):=(by rw[hi];rfl);rw[hi'] at i1 i2 i3;rw[<-hi]
  have hle:(Zv l k).1.1<=rd l (i:Nat):=by
   by_cases h0:k=0
   ·rw[hbd.2.2.2.2.1 h0];simp only;omega
   ·rw[(hbd.2.2.2.2.2 (by omega)).1,<-hi']
    have:=Qc7 (show k-1+1<(Xc l).length by omega);rw[show k-1+1=k by omega] at this;exact this
  have e1:=Yo (hRw.blk ⟨w.heap.size, #[.slice A l.length cap],22⟩ (by simp)).1 0;have g4:=(hRw.blk ⟨w.heap.size+1+1+1, #[.int .i64 (Zv l k).1.1,.int .i64 (Zv l k).1.2],204⟩ (by simp)).1;have gO:=(hRw.blk ⟨w.heap.size+1,Zi (Zv l k).2,204⟩ (by simp)).1;have g3:=(hRw.blk ⟨w.heap.size+1+1, #[.slice (some ⟨w.heap.size+1,0,none⟩) l.length l.length],201⟩ (by simp)).1;obtain⟨ad,hA,hcell⟩:=Qn HR.out hRw.below i1;subst hA;obtain⟨q,hq⟩: ∃q,q=Zv l k:=⟨_,rfl⟩;obtain⟨⟨n0,c0⟩,out⟩:=q;rw[<-hq] at hbd hsm hstp hle g4 gO hRw;obtain⟨n1,hn1⟩: ∃n1,n1=rd l (i:Nat):=⟨_,rfl⟩;rw[<-hn1] at i2 i3 hle hcell;dsimp only at hbd hsm hle g4 gO;have m1:W.cell? ⟨w.heap.size,0,none⟩=some (.slice (some ad) l.length cap):=e1;have m40:W.cell? ⟨w.heap.size+1+1+1,0,none⟩=some (.int .i64 n0):=(by rw[Qb g4];rfl);have m41:W.cell? ⟨w.heap.size+1+1+1,1,none⟩=some (.int .i64 c0):=(by rw[Qb g4];rfl);have f40:=Qj g4 0;have f41:=Qj g4 1;have hiI:(i:Int)<(l.length:Int):=(by omega);clear e1;by_cases h0:k=0
  ·have hz0:n0=0/\c0=0:=by
    have h:=hbd.2.2.2.2.1 h0;cases h;exact⟨rfl,rfl⟩
   obtain⟨hz1,hz2⟩:=hz0;subst hz1;subst hz2;replace h0:=Qa.mk h0;replace hi:=Qa.mk hi;replace hi':=Qa.mk hi';replace hn1:=Qa.mk hn1;replace hq:=Qa.mk hq;replace hbd:=Qa.mk hbd;replace hbd1:=Qa.mk hbd1;replace hstp:=Qa.mk hstp;replace hRw:=Qa.mk hRw;gi_wp2_with fail;replace hi:=hi.out;replace hi':=hi'.out;replace hn1:=hn1.out;replace hq:=hq.out;replace hbd:=hbd.out;replace hbd1:=hbd1.out;replace hstp:=hstp.out;replace hRw:=hRw.out;obtain⟨c,hcdef⟩: ∃c:Int,(if(0:Int)=0 then 0 else(0:Int)+1)=c:=⟨_,rfl⟩;have hc:c=0:=(by rw[<-hcdef];rfl);obtain⟨W1,hW1⟩: ∃W1,W1=W:=⟨_,rfl⟩;rw[<-hW1];have hRw1:=hRw;rw[<-hW1] at hRw1
   have hcell1:W1.cell? (ad.add i)=some (.int .i64 n1):=by
    obtain⟨ad',e',h'⟩:=Qn HR.out hRw1.below i1;cases e';rw[<-hn1] at h';exact h'
   have hkeep1:KeepsOthers W W1:=by rw[hW1];exact KeepsOthers.refl _
   have hkk1:Vx w.heap.size (w.heap.size+1+1+1+1) W W1:=by
    rw[hW1];exact⟨Below.refl _ W,rfl⟩
   have hb7:=True.intro;have hcC:=True.intro;clear m40 m41 f40 f41 g4 gO;have hpp:(0:Int)<2^(n1-(0:Int)).toNat :=Int.pow_pos (by omega)
   have hst1:V7 l ((0:Int),(0:Int)) i=(n1,c*2^(n1-(0:Int)).toNat):=by
    unfold V7;rw[<-hn1,hcdef]
   rw[hst1] at hstp;rw[hstp] at hbd1 hsm1;dsimp only at hbd1 hsm1;obtain⟨c1,hc1⟩: ∃c1,c*2^(n1-(0:Int)).toNat =c1:=⟨_,rfl⟩;rw[hc1] at hbd1 hsm1 hstp;have hc1b:0<=c1/\c1<=268435456:=⟨hbd1.2.2.1,hsm1⟩;have hsub:IntKind.i64.wrap (n1-(0:Int))=n1-(0:Int):=IntWalk.i64_in _ (by omega);have hshw:IntKind.i64.wrap c1=c1:=IntWalk.i64_in _ (by omega);have hdI:0<=n1-(0:Int)/\n1-(0:Int)<=16:=(by omega);obtain⟨dd,hdd⟩: ∃dd,n1-(0:Int)=dd:=⟨_,rfl⟩;rw[hdd] at hsub hdI hc1;have mc:W1.cell? (ad.add i)=some (.int .i64 n1):=hcell1;have hRx:Rws w W1 [] [⟨w.heap.size, #[.slice (some ad) l.length cap],22⟩,⟨w.heap.size+1,Zi out,204⟩,⟨w.heap.size+1+1, #[.slice (some ⟨w.heap.size+1,0,none⟩) l.length l.length],201⟩,⟨w.heap.size+1+1+1, #[.int .i64 (0:Int),.int .i64 c],204⟩,⟨w.heap.size+1+1+1+1, #[.slice (some ad) l.length cap],22⟩]:=(by rw[hc];exact hRw1);clear hc;have g4:=(hRx.blk ⟨w.heap.size+1+1+1, #[.int .i64 (0:Int),.int .i64 c],204⟩ (by simp)).1;have n40:W1.cell? ⟨w.heap.size+1+1+1,0,none⟩=some (.int .i64 (0:Int)):=(by rw[Qb g4];rfl);have n41:W1.cell? ⟨w.heap.size+1+1+1,1,none⟩=some (.int .i64 c):=(by rw[Qb g4];rfl);have nn1:W1.cell? ⟨w.heap.size,0,none⟩=some (.slice (some ad) l.length cap):=(by rw[Qb (hRx.blk ⟨w.heap.size, #[.slice (some ad) l.length cap],22⟩ (by simp)).1];rfl);have hko1:KeepsOthers W W1:=hkeep1;have hkp1:Vx w.heap.size (w.heap.size+1+1+1+1) W W1:=hkk1;replace hRx:=Qa.mk hRx;replace hko1:=Qa.mk hko1;replace hkp1:=Qa.mk hkp1;replace hstp:=Qa.mk hstp;have houtl:=Qa.mk (show out.length=l.length by have:=Ul l k;rw[<-hq] at this;exact this);clear hRw hRw1 hcell1 hkeep1 hkk1 g4 hbd hbd1 hsm hsm1 hst1 hcdef hle hpp hq hW1 hn1 hi hi' i1 m1 hcell hb7;refine Held.Zm (fun w'=>w'.cell? ⟨w.heap.size,0,none⟩=some (.slice (some ad) l.length cap)/\w'.cell? (ad.add i)=some (.int .i64 n1)/\w'.cell? ⟨w.heap.size+1+1+1,0,none⟩=some (.int .i64 (0:Int))/\w'.cell? ⟨w.heap.size+1+1+1,1,none⟩=some (.int .i64 c)) [15] hmo (by kernel_rfl) (fun⟨_,_,h⟩=>h) ⟨nn1,mc,n40,n41⟩ (fun hHeld=> ?_)
   (refine Tk.tl 0 (.slice (some ad) l.length cap) hHeld ?_)
   (refine Tk.tl 1 (.int .i64 i) hHeld ?_)
   (refine Tk.tl 2 (.pointer (some (ad.add i))) hHeld ?_)
   (refine Tk.tl 3 (.int .i64 n1) hHeld ?_)
   (refine Tk.tl 4 (.pointer (some ⟨w.heap.size+1+1+1,1,none⟩)) hHeld ?_)
   (refine Tk.tl 5 (.int .i64 c) hHeld ?_)
   (refine Tk.tl 6 (.slice (some ad) l.length cap) hHeld ?_)
   (refine Tk.tl 7 (.int .i64 i) hHeld ?_)
   (refine Tk.tl 8 (.pointer (some (ad.add i))) hHeld ?_)
   (refine Tk.tl 9 (.int .i64 n1) hHeld ?_)
   (refine Tk.tl 10 (.pointer (some ⟨w.heap.size+1+1+1,0,none⟩)) hHeld ?_)
   (refine Tk.tl 11 (.int .i64 (0:Int)) hHeld ?_)
   (refine Tk.tl 12 (.int .i64 dd) hHeld ?_)
   (refine Tk.tl 13 (.int .i64 c1) hHeld ?_)
   have G4:=(hRx.out.blk ⟨w.heap.size+1+1+1, #[.int .i64 (0:Int),.int .i64 c],204⟩ (by simp)).1;have y40:=Qj G4 0;have y41:=Qj G4 1
   (refine Qg (rs:=[14]) (by kernel_rfl) (by simp) ?_;refine Qc.cons rfl (by decide) (fun K hK=> ?_) Qc.nil)
   refine Zo (w1:=W1.drew) (v:= .agg #[.int .i64 n1,.int .i64 c1]) (by kernel_rfl) rfl (by kernel_rfl) ?_;refine hK.out _ _ hHeld (fun hHeld=> ?_);clear hK K;try simp only[Act.put,Tk.z1,Tk.z2,Tk.z3,Tk.z4,Tk.z5,Tk.z6]
   (refine Qg (rs:=[15]) (by kernel_rfl) (by simp) ?_;refine Qc.Zl rfl (by decide) (fun K hK=> ?_) Qc.nil)
   go_simp;go_wp2_with fail;refine hK.out _ _ ?_;clear hK K
   try simp only[Act.put,Tk.z1,Tk.z2,Tk.z3,Tk.z4,Tk.z5,Tk.z6]
   refine Qq (by kernel_rfl) ?_ _;obtain⟨W2,hW2⟩: ∃W2,W2=((W1.setCell ⟨w.heap.size+1+1+1,0,none⟩ (.int .i64 n1)).setCell ⟨w.heap.size+1+1+1,1,none⟩ (.int .i64 c1)).drew :=⟨_,rfl⟩
   have hR2:Rws w W2 [] [⟨w.heap.size, #[.slice (some ad) l.length cap],22⟩,⟨w.heap.size+1,Zi out,204⟩,⟨w.heap.size+1+1, #[.slice (some ⟨w.heap.size+1,0,none⟩) l.length l.length],201⟩,⟨w.heap.size+1+1+1, #[.int .i64 n1,.int .i64 c1],204⟩,⟨w.heap.size+1+1+1+1, #[.slice (some ad) l.length cap],22⟩]:=by
    rw[hW2];exact(Bts.Rws.set (G1:=[⟨w.heap.size, #[.slice (some ad) l.length cap],22⟩,⟨w.heap.size+1,Zi out,204⟩,⟨w.heap.size+1+1, #[.slice (some ⟨w.heap.size+1,0,none⟩) l.length l.length],201⟩]) (G2:=[⟨w.heap.size+1+1+1+1, #[.slice (some ad) l.length cap],22⟩]) (b:=⟨w.heap.size+1+1+1, #[.int .i64 n1,.int .i64 c],204⟩) (Bts.Rws.set (G1:=[⟨w.heap.size, #[.slice (some ad) l.length cap],22⟩,⟨w.heap.size+1,Zi out,204⟩,⟨w.heap.size+1+1, #[.slice (some ⟨w.heap.size+1,0,none⟩) l.length l.length],201⟩]) (G2:=[⟨w.heap.size+1+1+1+1, #[.slice (some ad) l.length cap],22⟩]) (b:=⟨w.heap.size+1+1+1, #[.int .i64 (0:Int),.int .i64 c],204⟩) hRx.out 0 (.int .i64 n1)) 1 (.int .i64 c1)).drew
   have hko2:KeepsOthers W W2:=by
    rw[hW2];have h:=(hko1.out.trans (KeepsOthers.setCell W1 ⟨w.heap.size+1+1+1,0,none⟩ (.int .i64 n1))).trans (KeepsOthers.setCell (W1.setCell ⟨w.heap.size+1+1+1,0,none⟩ (.int .i64 n1)) ⟨w.heap.size+1+1+1,1,none⟩ (.int .i64 c1));exact⟨h.size,h.same⟩
   have hkp2:Vx w.heap.size (w.heap.size+1+1+1+1) W W2:=by
    rw[hW2];exact⟨((hkp1.out.1.setCell (p:=⟨w.heap.size+1+1+1,0,none⟩) (by simp only;omega) _).setCell (p:=⟨w.heap.size+1+1+1,1,none⟩) (by simp only;omega) _).drew,((Below.heap_setCell _ _ _ _ (by simp only;omega)).trans (Below.heap_setCell _ _ _ _ (by simp only;omega))).trans hkp1.out.2⟩
   rw[<-hW2];have G5:=(hR2.blk ⟨w.heap.size+1+1+1, #[.int .i64 n1,.int .i64 c1],204⟩ (by simp)).1;have G3:=(hR2.blk ⟨w.heap.size+1+1, #[.slice (some ⟨w.heap.size+1,0,none⟩) l.length l.length],201⟩ (by simp)).1;have GO:=(hR2.blk ⟨w.heap.size+1,Zi out,204⟩ (by simp)).1;have p40:W2.cell? ⟨w.heap.size+1+1+1,0,none⟩=some (.int .i64 n1):=(by rw[Qb G5];rfl);have p41:W2.cell? ⟨w.heap.size+1+1+1,1,none⟩=some (.int .i64 c1):=(by rw[Qb G5];rfl);have p3:W2.cell? ⟨w.heap.size+1+1,0,none⟩=some (.slice (some ⟨w.heap.size+1,0,none⟩) l.length l.length):=(by rw[Qb G3];rfl);obtain⟨o1,o2⟩:=Fj (ps:=out) (k:=i) (by rw[houtl.out];omega);have po0:W2.cell? ⟨w.heap.size+1,i*2,none⟩=some (.int .i64 (out[i]'(by rw[houtl.out];omega)).1):=(by rw[Qb GO,Nat.mul_comm];exact o1);have po1:W2.cell? ⟨w.heap.size+1,i*2+1,none⟩=some (.int .i64 (out[i]'(by rw[houtl.out];omega)).2):=(by rw[Qb GO,Nat.mul_comm];exact o2);have fo0:=Qj GO (i*2);have fo1:=Qj GO (i*2+1);obtain⟨u0,hu0⟩: ∃u0,u0=(out[i]'(by rw[houtl.out];omega)).1:=⟨_,rfl⟩;obtain⟨u1,hu1⟩: ∃u1,u1=(out[i]'(by rw[houtl.out];omega)).2:=⟨_,rfl⟩;rw[<-hu0] at po0;rw[<-hu1] at po1;replace hR2:=Qa.mk hR2;replace hko2:=Qa.mk hko2;replace hkp2:=Qa.mk hkp2;clear hW2 hHeld mc n40 n41 nn1 hRx hko1 hkp1 G4 G5 G3 GO y40 y41 o1 o2 hu0 hu1 hc1 hc1b hshw hdI hsub hdd hcC;gi_wp2_with fail;refine⟨((hko2.out.trans (KeepsOthers.setCell _ _ _)).trans (KeepsOthers.setCell _ _ _)).from _,⟨(hkp2.out.1.setCell (p:=⟨w.heap.size+1,i*2,none⟩) (by simp only;omega) _).setCell (p:=⟨w.heap.size+1,i*2+1,none⟩) (by simp only;omega) _,((Below.heap_setCell _ _ _ _ (by simp only;omega)).trans (Below.heap_setCell _ _ _ _ (by simp only;omega))).trans hkp2.out.2⟩,?_⟩;have h2:=Bts.Rws.set (G1:=[⟨w.heap.size, #[.slice (some ad) l.length cap],22⟩]) (G2:=[⟨w.heap.size+1+1, #[.slice (some ⟨w.heap.size+1,0,none⟩) l.length l.length],201⟩,⟨w.heap.size+1+1+1, #[.int .i64 n1,.int .i64 c1],204⟩,⟨w.heap.size+1+1+1+1, #[.slice (some ad) l.length cap],22⟩]) (b:=⟨w.heap.size+1,(Zi out).setIfInBounds (i*2) (.int .i64 n1),204⟩) (Bts.Rws.set (G1:=[⟨w.heap.size, #[.slice (some ad) l.length cap],22⟩]) (G2:=[⟨w.heap.size+1+1, #[.slice (some ⟨w.heap.size+1,0,none⟩) l.length l.length],201⟩,⟨w.heap.size+1+1+1, #[.int .i64 n1,.int .i64 c1],204⟩,⟨w.heap.size+1+1+1+1, #[.slice (some ad) l.length cap],22⟩]) (b:=⟨w.heap.size+1,Zi out,204⟩) hR2.out (i*2) (.int .i64 n1)) (i*2+1) (.int .i64 c1);have h3:=R4 out (n1,c1) i;rw[Nat.mul_comm 2 i] at h3;dsimp only at h2;rw[h3] at h2
   have h4:Rws w ((W2.setCell ⟨w.heap.size+1,i*2,none⟩ (.int .i64 n1)).setCell ⟨w.heap.size+1,i*2+1,none⟩ (.int .i64 c1)) [] [⟨w.heap.size, #[.slice (some ad) l.length cap],22⟩,⟨w.heap.size+1,Zi (Zv l (k+1)).2,204⟩,⟨w.heap.size+1+1, #[.slice (some ⟨w.heap.size+1,0,none⟩) l.length l.length],201⟩,⟨w.heap.size+1+1+1, #[.int .i64 (Zv l (k+1)).1.1,.int .i64 (Zv l (k+1)).1.2],204⟩,⟨w.heap.size+1+1+1+1, #[.slice (some ad) l.length cap],22⟩]:=by
    rw[hstp.out];exact h2
   exact h4
  ·have hn0:1<=n0:=(hbd.2.2.2.2.2 (by omega)).2
   have hc0:0<=c0:=hbd.2.2.1;replace hi:=Qa.mk hi;replace hi':=Qa.mk hi';replace hn1:=Qa.mk hn1;replace hq:=Qa.mk hq;replace hbd:=Qa.mk hbd;replace hbd1:=Qa.mk hbd1;replace hstp:=Qa.mk hstp;replace hRw:=Qa.mk hRw;gi_wp2_with fail;replace hi:=hi.out;replace hi':=hi'.out;replace hn1:=hn1.out;replace hq:=hq.out;replace hbd:=hbd.out;replace hbd1:=hbd1.out;replace hstp:=hstp.out;replace hRw:=hRw.out;obtain⟨c,hcdef⟩: ∃c,(if n0=0 then 0 else c0+1)=c:=⟨_,rfl⟩;have hc:c0+1=c:=(by rw[<-hcdef,if_neg (by omega)]);rw[hc];obtain⟨W1,hW1⟩: ∃W1,W1=W.setCell ⟨w.heap.size+1+1+1,1,none⟩ (.int .i64 c):=⟨_,rfl⟩;rw[<-hW1];have hRw1:=Bts.Rws.set (G1:=[⟨w.heap.size, #[.slice (some ad) l.length cap],22⟩,⟨w.heap.size+1,Zi out,204⟩,⟨w.heap.size+1+1, #[.slice (some ⟨w.heap.size+1,0,none⟩) l.length l.length],201⟩]) (G2:=[⟨w.heap.size+1+1+1+1, #[.slice (some ad) l.length cap],22⟩]) (b:=⟨w.heap.size+1+1+1, #[.int .i64 n0,.int .i64 c0],204⟩) hRw 1 (.int .i64 c);rw[<-hW1] at hRw1
   have hcell1:W1.cell? (ad.add i)=some (.int .i64 n1):=by
    obtain⟨ad',e',h'⟩:=Qn HR.out hRw1.below i1;cases e';rw[<-hn1] at h';exact h'
   have hkeep1:KeepsOthers W W1:=by rw[hW1];exact KeepsOthers.setCell _ _ _
   have hkk1:Vx w.heap.size (w.heap.size+1+1+1+1) W W1:=by
    rw[hW1];exact⟨(Below.refl _ W).setCell (p:=⟨w.heap.size+1+1+1,1,none⟩) (by simp only;omega) _,Below.heap_setCell _ _ _ _ (by simp only;omega)⟩
   have hb7:=True.intro;have hcC:=True.intro;clear m40 m41 f40 f41 g4 gO;have hpp:(0:Int)<2^(n1-n0).toNat :=Int.pow_pos (by omega)
   have hst1:V7 l (n0,c0) i=(n1,c*2^(n1-n0).toNat):=by
    unfold V7;rw[<-hn1,hcdef]
   rw[hst1] at hstp;rw[hstp] at hbd1 hsm1;dsimp only at hbd1 hsm1;obtain⟨c1,hc1⟩: ∃c1,c*2^(n1-n0).toNat =c1:=⟨_,rfl⟩;rw[hc1] at hbd1 hsm1 hstp;have hc1b:0<=c1/\c1<=268435456:=⟨hbd1.2.2.1,hsm1⟩;have hsub:IntKind.i64.wrap (n1-n0)=n1-n0:=IntWalk.i64_in _ (by omega);have hshw:IntKind.i64.wrap c1=c1:=IntWalk.i64_in _ (by omega);have hdI:0<=n1-n0/\n1-n0<=16:=(by omega);obtain⟨dd,hdd⟩: ∃dd,n1-n0=dd:=⟨_,rfl⟩;rw[hdd] at hsub hdI hc1;have mc:W1.cell? (ad.add i)=some (.int .i64 n1):=hcell1;have hRx:Rws w W1 [] [⟨w.heap.size, #[.slice (some ad) l.length cap],22⟩,⟨w.heap.size+1,Zi out,204⟩,⟨w.heap.size+1+1, #[.slice (some ⟨w.heap.size+1,0,none⟩) l.length l.length],201⟩,⟨w.heap.size+1+1+1, #[.int .i64 n0,.int .i64 c],204⟩,⟨w.heap.size+1+1+1+1, #[.slice (some ad) l.length cap],22⟩]:=hRw1;have g4:=(hRx.blk ⟨w.heap.size+1+1+1, #[.int .i64 n0,.int .i64 c],204⟩ (by simp)).1;have n40:W1.cell? ⟨w.heap.size+1+1+1,0,none⟩=some (.int .i64 n0):=(by rw[Qb g4];rfl);have n41:W1.cell? ⟨w.heap.size+1+1+1,1,none⟩=some (.int .i64 c):=(by rw[Qb g4];rfl);have nn1:W1.cell? ⟨w.heap.size,0,none⟩=some (.slice (some ad) l.length cap):=(by rw[Qb (hRx.blk ⟨w.heap.size, #[.slice (some ad) l.length cap],22⟩ (by simp)).1];rfl);have hko1:KeepsOthers W W1:=hkeep1;have hkp1:Vx w.heap.size (w.heap.size+1+1+1+1) W W1:=hkk1;replace hRx:=Qa.mk hRx;replace hko1:=Qa.mk hko1;replace hkp1:=Qa.mk hkp1;replace hstp:=Qa.mk hstp;have houtl:=Qa.mk (show out.length=l.length by have:=Ul l k;rw[<-hq] at this;exact this);clear hRw hRw1 hcell1 hkeep1 hkk1 g4 hbd hbd1 hsm hsm1 hst1 hcdef hle hpp hq hW1 hn1 hi hi' i1 m1 hcell hb7;refine Held.Zm (fun w'=>w'.cell? ⟨w.heap.size,0,none⟩=some (.slice (some ad) l.length cap)/\w'.cell? (ad.add i)=some (.int .i64 n1)/\w'.cell? ⟨w.heap.size+1+1+1,0,none⟩=some (.int .i64 n0)/\w'.cell? ⟨w.heap.size+1+1+1,1,none⟩=some (.int .i64 c)) [15] hmo (by kernel_rfl) (fun⟨_,_,h⟩=>h) ⟨nn1,mc,n40,n41⟩ (fun hHeld=> ?_)
   (refine Tk.tl 0 (.slice (some ad) l.length cap) hHeld ?_)
   (refine Tk.tl 1 (.int .i64 i) hHeld ?_)
   (refine Tk.tl 2 (.pointer (some (ad.add i))) hHeld ?_)
   (refine Tk.tl 3 (.int .i64 n1) hHeld ?_)
   (refine Tk.tl 4 (.pointer (some ⟨w.heap.size+1+1+1,1,none⟩)) hHeld ?_)
   (refine Tk.tl 5 (.int .i64 c) hHeld ?_)
   (refine Tk.tl 6 (.slice (some ad) l.length cap) hHeld ?_)
   (refine Tk.tl 7 (.int .i64 i) hHeld ?_)
   (refine Tk.tl 8 (.pointer (some (ad.add i))) hHeld ?_)
   (refine Tk.tl 9 (.int .i64 n1) hHeld ?_)
   (refine Tk.tl 10 (.pointer (some ⟨w.heap.size+1+1+1,0,none⟩)) hHeld ?_)
   (refine Tk.tl 11 (.int .i64 n0) hHeld ?_)
   (refine Tk.tl 12 (.int .i64 dd) hHeld ?_)
   (refine Tk.tl 13 (.int .i64 c1) hHeld ?_)
   have G4:=(hRx.out.blk ⟨w.heap.size+1+1+1, #[.int .i64 n0,.int .i64 c],204⟩ (by simp)).1;have y40:=Qj G4 0;have y41:=Qj G4 1
   (refine Qg (rs:=[14]) (by kernel_rfl) (by simp) ?_;refine Qc.cons rfl (by decide) (fun K hK=> ?_) Qc.nil)
   refine Zo (w1:=W1.drew) (v:= .agg #[.int .i64 n1,.int .i64 c1]) (by kernel_rfl) rfl (by kernel_rfl) ?_;refine hK.out _ _ hHeld (fun hHeld=> ?_);clear hK K;try simp only[Act.put,Tk.z1,Tk.z2,Tk.z3,Tk.z4,Tk.z5,Tk.z6]
   (refine Qg (rs:=[15]) (by kernel_rfl) (by simp) ?_;refine Qc.Zl rfl (by decide) (fun K hK=> ?_) Qc.nil)
   go_simp;go_wp2_with fail;refine hK.out _ _ ?_;clear hK K
   try simp only[Act.put,Tk.z1,Tk.z2,Tk.z3,Tk.z4,Tk.z5,Tk.z6]
   refine Qq (by kernel_rfl) ?_ _;obtain⟨W2,hW2⟩: ∃W2,W2=((W1.setCell ⟨w.heap.size+1+1+1,0,none⟩ (.int .i64 n1)).setCell ⟨w.heap.size+1+1+1,1,none⟩ (.int .i64 c1)).drew :=⟨_,rfl⟩
   have hR2:Rws w W2 [] [⟨w.heap.size, #[.slice (some ad) l.length cap],22⟩,⟨w.heap.size+1,Zi out,204⟩,⟨w.heap.size+1+1, #[.slice (some ⟨w.heap.size+1,0,none⟩) l.length l.length],201⟩,⟨w.heap.size+1+1+1, #[.int .i64 n1,.int .i64 c1],204⟩,⟨w.heap.size+1+1+1+1, #[.slice (some ad) l.length cap],22⟩]:=by
    rw[hW2];exact(Bts.Rws.set (G1:=[⟨w.heap.size, #[.slice (some ad) l.length cap],22⟩,⟨w.heap.size+1,Zi out,204⟩,⟨w.heap.size+1+1, #[.slice (some ⟨w.heap.size+1,0,none⟩) l.length l.length],201⟩]) (G2:=[⟨w.heap.size+1+1+1+1, #[.slice (some ad) l.length cap],22⟩]) (b:=⟨w.heap.size+1+1+1, #[.int .i64 n1,.int .i64 c],204⟩) (Bts.Rws.set (G1:=[⟨w.heap.size, #[.slice (some ad) l.length cap],22⟩,⟨w.heap.size+1,Zi out,204⟩,⟨w.heap.size+1+1, #[.slice (some ⟨w.heap.size+1,0,none⟩) l.length l.length],201⟩]) (G2:=[⟨w.heap.size+1+1+1+1, #[.slice (some ad) l.length cap],22⟩]) (b:=⟨w.heap.size+1+1+1, #[.int .i64 n0,.int .i64 c],204⟩) hRx.out 0 (.int .i64 n1)) 1 (.int .i64 c1)).drew
   have hko2:KeepsOthers W W2:=by
    rw[hW2];have h:=(hko1.out.trans (KeepsOthers.setCell W1 ⟨w.heap.size+1+1+1,0,none⟩ (.int .i64 n1))).trans (KeepsOthers.setCell (W1.setCell ⟨w.heap.size+1+1+1,0,none⟩ (.int .i64 n1)) ⟨w.heap.size+1+1+1,1,none⟩ (.int .i64 c1));exact⟨h.size,h.same⟩
   have hkp2:Vx w.heap.size (w.heap.size+1+1+1+1) W W2:=by
    rw[hW2];exact⟨((hkp1.out.1.setCell (p:=⟨w.heap.size+1+1+1,0,none⟩) (by simp only;omega) _).setCell (p:=⟨w.heap.size+1+1+1,1,none⟩) (by simp only;omega) _).drew,((Below.heap_setCell _ _ _ _ (by simp only;omega)).trans (Below.heap_setCell _ _ _ _ (by simp only;omega))).trans hkp1.out.2⟩
   rw[<-hW2];have G5:=(hR2.blk ⟨w.heap.size+1+1+1, #[.int .i64 n1,.int .i64 c1],204⟩ (by simp)).1;have G3:=(hR2.blk ⟨w.heap.size+1+1, #[.slice (some ⟨w.heap.size+1,0,none⟩) l.length l.length],201⟩ (by simp)).1;have GO:=(hR2.blk ⟨w.heap.size+1,Zi out,204⟩ (by simp)).1;have p40:W2.cell? ⟨w.heap.size+1+1+1,0,none⟩=some (.int .i64 n1):=(by rw[Qb G5];rfl);have p41:W2.cell? ⟨w.heap.size+1+1+1,1,none⟩=some (.int .i64 c1):=(by rw[Qb G5];rfl);have p3:W2.cell? ⟨w.heap.size+1+1,0,none⟩=some (.slice (some ⟨w.heap.size+1,0,none⟩) l.length l.length):=(by rw[Qb G3];rfl);obtain⟨o1,o2⟩:=Fj (ps:=out) (k:=i) (by rw[houtl.out];omega);have po0:W2.cell? ⟨w.heap.size+1,i*2,none⟩=some (.int .i64 (out[i]'(by rw[houtl.out];omega)).1):=(by rw[Qb GO,Nat.mul_comm];exact o1);have po1:W2.cell? ⟨w.heap.size+1,i*2+1,none⟩=some (.int .i64 (out[i]'(by rw[houtl.out];omega)).2):=(by rw[Qb GO,Nat.mul_comm];exact o2);have fo0:=Qj GO (i*2);have fo1:=Qj GO (i*2+1);obtain⟨u0,hu0⟩: ∃u0,u0=(out[i]'(by rw[houtl.out];omega)).1:=⟨_,rfl⟩;obtain⟨u1,hu1⟩: ∃u1,u1=(out[i]'(by rw[houtl.out];omega)).2:=⟨_,rfl⟩;rw[<-hu0] at po0;rw[<-hu1] at po1;replace hR2:=Qa.mk hR2;replace hko2:=Qa.mk hko2;replace hkp2:=Qa.mk hkp2;clear hW2 hHeld mc n40 n41 nn1 hRx hko1 hkp1 G4 G5 G3 GO y40 y41 o1 o2 hu0 hu1 hc1 hc1b hshw hdI hsub hdd hc hcC;gi_wp2_with fail;refine⟨((hko2.out.trans (KeepsOthers.setCell _ _ _)).trans (KeepsOthers.setCell _ _ _)).from _,⟨(hkp2.out.1.setCell (p:=⟨w.heap.size+1,i*2,none⟩) (by simp only;omega) _).setCell (p:=⟨w.heap.size+1,i*2+1,none⟩) (by simp only;omega) _,((Below.heap_setCell _ _ _ _ (by simp only;omega)).trans (Below.heap_setCell _ _ _ _ (by simp only;omega))).trans hkp2.out.2⟩,?_⟩;have h2:=Bts.Rws.set (G1:=[⟨w.heap.size, #[.slice (some ad) l.length cap],22⟩]) (G2:=[⟨w.heap.size+1+1, #[.slice (some ⟨w.heap.size+1,0,none⟩) l.length l.length],201⟩,⟨w.heap.size+1+1+1, #[.int .i64 n1,.int .i64 c1],204⟩,⟨w.heap.size+1+1+1+1, #[.slice (some ad) l.length cap],22⟩]) (b:=⟨w.heap.size+1,(Zi out).setIfInBounds (i*2) (.int .i64 n1),204⟩) (Bts.Rws.set (G1:=[⟨w.heap.size, #[.slice (some ad) l.length cap],22⟩]) (G2:=[⟨w.heap.size+1+1, #[.slice (some ⟨w.heap.size+1,0,none⟩) l.length l.length],201⟩,⟨w.heap.size+1+1+1, #[.int .i64 n1,.int .i64 c1],204⟩,⟨w.heap.size+1+1+1+1, #[.slice (some ad) l.length cap],22⟩]) (b:=⟨w.heap.size+1,Zi out,204⟩) hR2.out (i*2) (.int .i64 n1)) (i*2+1) (.int .i64 c1);have h3:=R4 out (n1,c1) i;rw[Nat.mul_comm 2 i] at h3;dsimp only at h2;rw[h3] at h2
   have h4:Rws w ((W2.setCell ⟨w.heap.size+1,i*2,none⟩ (.int .i64 n1)).setCell ⟨w.heap.size+1,i*2+1,none⟩ (.int .i64 c1)) [] [⟨w.heap.size, #[.slice (some ad) l.length cap],22⟩,⟨w.heap.size+1,Zi (Zv l (k+1)).2,204⟩,⟨w.heap.size+1+1, #[.slice (some ⟨w.heap.size+1,0,none⟩) l.length l.length],201⟩,⟨w.heap.size+1+1+1, #[.int .i64 (Zv l (k+1)).1.1,.int .i64 (Zv l (k+1)).1.2],204⟩,⟨w.heap.size+1+1+1+1, #[.slice (some ad) l.length cap],22⟩]:=by
    rw[hstp.out];exact h2
   exact h4
 case done=>
  rintro D W hD hRw hDf;have hgD:=grownBy_putObj' W D (.deferred none);have hsz:=hs7.out;have h1:Rws w (W.putObj D (.deferred none)) [] _:=Rws.turn hRw hgD (fun r e=>by cases e;exact⟨by omega,_,hDf,rfl⟩);have G3:=(h1.blk ⟨w.heap.size+1+1, #[.slice (some ⟨w.heap.size+1,0,none⟩) l.length l.length],201⟩ (by simp)).1;have GO:=(h1.blk ⟨w.heap.size+1,Zi (Zv l (Xc l).length).2,204⟩ (by simp)).1;have p3:(W.putObj D (.deferred none)).cell? ⟨w.heap.size+1+1,0,none⟩=some (.slice (some ⟨w.heap.size+1,0,none⟩) l.length l.length):=(by rw[Qb G3];rfl);have hb:=h1.below;have G3':=(hRw.blk ⟨w.heap.size+1+1, #[.slice (some ⟨w.heap.size+1,0,none⟩) l.length l.length],201⟩ (by simp)).1;have p3':W.cell? ⟨w.heap.size+1+1,0,none⟩=some (.slice (some ⟨w.heap.size+1,0,none⟩) l.length l.length):=(by rw[Qb G3'];rfl);clear G3';replace GO:=Qa.mk GO;clear G3;gi_wp2;refine⟨by simp,.inl ⟨_,_,rfl,run_takeDeferred hDf,?_⟩⟩;exact⟨.slice (some ⟨w.heap.size+1,0,none⟩) l.length l.length,by simp[results,Tryz.f198,go_sem],w.heap.size+1,rfl,GO.out,by omega,hb⟩
end Pre

end Go.Proofs.YtnflnicdjioflaaGreatDoor
