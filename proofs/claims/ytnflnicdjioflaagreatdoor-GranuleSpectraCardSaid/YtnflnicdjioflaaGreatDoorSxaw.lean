/- A part of the proof. -/
import Derived.Test.YtnflnicdjioflaaGreatDoorSxau
import Derived.Scope
set_option linter.unusedVariables false
set_option linter.unusedSimpArgs false
set_option maxRecDepth 100000
set_option maxHeartbeats 8000000
namespace Go.Proofs.YtnflnicdjioflaaGreatDoor
open Go.RowKit Go.Proofs.YtnflnicdjioflaaGreatDoorW.PrintWords Go.Proofs.YtnflnicdjioflaaGreatDoorW.PrintLast Go.Proofs.YtnflnicdjioflaaGreatDoorW.PrintMore
namespace St
attribute [local go_sem] Qh Qi Qk Ql Qd Qe
open Q15
open Runs Go.Shelf
open Q16 (isW Qx off wd Q7)
open Q21 (Qb Qj)
open Sec (Qz V4 Zy Y3)
open Sca (Yv)
open Bts (Rws Blk Rws.start U8)
attribute [local go_sem] Oper.semAt_some
theorem sets_ {wr:World} {G:List Blk} (i:Nat): ∀(vs:List Value) (o:Nat) (w:World) (b:Blk),Rws wr w [] G->G[i]? =some b-> ∃cs,Rws wr (w.setCells b.g o vs) [] (G.set i ⟨b.g,cs,b.t⟩)
 |[],o,w,b,h,hi=>⟨b.cs,by
  have e:G.set i ⟨b.g,b.cs,b.t⟩=G:=by
   obtain⟨hlt,he⟩:=List.getElem?_eq_some_iff.1 hi;rw[show(⟨b.g,b.cs,b.t⟩:Blk)=G[i] from he.symm,List.set_getElem_self]
  rw[e];exact h⟩
 |v::r,o,w,b,h,hi=>by
  have hlt:=(List.getElem?_eq_some_iff.1 hi).1;obtain⟨cs,h2⟩:=sets_ (G:=G.set i ⟨b.g,b.cs.setIfInBounds o v,b.t⟩) i r (o+1) _ ⟨b.g,b.cs.setIfInBounds o v,b.t⟩ (Ki h i hi o v) (by simp[hlt]);exact⟨cs,by rw[List.set_set] at h2;exact h2⟩
theorem copy_ {wr w:World} {G:List Blk} (h:Rws wr w [] G) (i:Nat) {g:Nat} {cs:Array Value} (hi:G[i]? =some ⟨g,cs,3⟩) {l:List Int} (hcs:cs.size=l.length) {A:Addr} {ca:Nat} (hC: ∀j,j<l.length->w.cell? (A.add j)=some (.int .i64 (rd l j))):
  ∃W',(∀ty,(Builtin.copy_ #[22,22] ty #[.slice (some ⟨g,0,none⟩) l.length l.length,.slice (some A) l.length ca]).run Tryz.prog w= .ok (.int .i64 l.length) W')/\Rws wr W' [] (G.set i ⟨g,(l.map (Value.int .i64)).toArray,3⟩):=by
 have hl:(l.map (Value.int .i64)).length =l.length:=(by simp);have hg:=at_ h i hi;obtain⟨cur',h3,h4,h5⟩:=U6 (l.map (Value.int .i64)) 0 w _ hg (by rw[hl];dsimp only;omega);obtain⟨cs2,h6⟩:=sets_ i (l.map (Value.int .i64)) 0 w _ h hi;refine⟨w.setCells g 0 (l.map (Value.int .i64)),fun ty=> ?_,?_⟩
 ·have hr:=run_copy_cells (P:=Tryz.prog) w 22 22 ty 3 g 0 l.length l.length A l.length ca (l.map (Value.int .i64)) Tryz.underlying22 (by kernel_rfl) (by rw[hl];exact(Nat.min_self _).symm)
   (fun j v hv=>by
    rw[List.getElem?_map] at hv;obtain⟨x,hx,rfl⟩:=Option.map_eq_some_iff.1 hv;obtain⟨hj,rfl⟩:=List.getElem?_eq_some_iff.1 hx
    rw[hC j hj,Yl l j hj])
   (fun j hj=>by rw[hl] at hj;rw[Qb hg];dsimp only;simp;omega) (fun j _=>Qj hg _) (by intro u hu;obtain⟨x,-,rfl⟩:=List.mem_map.1 hu;rfl)
  rw[hl] at hr;exact hr
 ·have e:cs2=(l.map (Value.int .i64)).toArray :=by
   have hlt:=(List.getElem?_eq_some_iff.1 hi).1;have h7:=at_ h6 i (b:=⟨g,cs2,3⟩) (by simp[hlt]);rw[h3] at h7;have e1:cur'=cs2:=(by injection h7 with h7;injection h7);rw[<-e1]
   apply Array.toList_inj.1
   rw[h5];have:cs.toList.length=l.length:=(by simpa using hcs);simp[this]
  rw[<-e];exact h6
abbrev cpG (n:Nat) (va vb vm vh vx vy:Value):List Blk:=[⟨n, #[va],22⟩,⟨n+1, #[vb],22⟩,⟨n+1+1, #[vm],23⟩,⟨n+1+1+1, #[vh],92⟩,⟨n+1+1+1+1, #[vx],22⟩,⟨n+1+1+1+1+1, #[vy],22⟩]
abbrev iB (g:Nat) (l:List Int):Blk:=⟨g,(l.map (Value.int .i64)).toArray,3⟩
abbrev sV (g:Nat):Value:= .slice (some ⟨g,0,none⟩) 128 128
theorem Ec (A B C M:Option Addr) (ca cb cc cm:Nat) (l r ws fx fy:List Int) (mid:List Bool) (w:World) (hl:(Kd.int .i64).C w A l.length l) (hr:(Kd.int .i64).C w B r.length r) (hC:(Kd.int .i64).C w C ws.length ws) (hM:Kd.bool.C w M mid.length mid) (hw:isW ws=true) (l1:l.length=128) (l2:r.length=128) (l3:mid.length=ws.length)
  (hv: ∀k:Nat,k<128->(-4294967296<=rd l k/\rd l k<=4294967296)/\(-4294967296<=rd r k/\rd r k<=4294967296)) (x1:fx.length=128) (y1:fy.length=128)
  (hf: ∀k,k<ws.length-> ∀i,off ws k<=i->i<off ws (k+1)->rd fx i=(if mid.getD k false=true then Nt (rd l i) (rd r i) else rd l i)/\rd fy i=(if mid.getD k false=true then Tp (rd l i) (rd r i) else rd r i)):
  Calls Tryz.prog 124 #[.slice A l.length ca,.slice B r.length cb,.slice C ws.length cc,.slice M mid.length cm,.func (.func 75) #[] #[]] w fun e w'=> ∃gx gy,e= .returned (.tuple #[sV gx,sV gy])/\w'.heap[gx]? =some (.cells (fx.map (Value.int .i64)).toArray 3 (0,0))/\w'.heap[gy]? =some (.cells (fy.map (Value.int .i64)).toArray 3 (0,0))/\w.heap.size<=gx/\w.heap.size<=gy/\gx≠gy/\Below w.heap.size w w':=by
 obtain⟨al,rfl,-⟩:=Qn hl (Below.refl _ _) (k:=0) (by omega);obtain⟨ar,rfl,-⟩:=Qn hr (Below.refl _ _) (k:=0) (by omega);have HL:=Qa.mk (fun W (hb:Below w.heap.size w W) k (hk:k<128)=>(show W.cell? (al.add k)=some (.int .i64 (rd l k)) by obtain⟨a,e,c⟩:=Qn hl hb (k:=k) (by omega);cases e;exact c));have HR:=Qa.mk (fun W (hb:Below w.heap.size w W) k (hk:k<128)=>(show W.cell? (ar.add k)=some (.int .i64 (rd r k)) by obtain⟨a,e,c⟩:=Qn hr hb (k:=k) (by omega);cases e;exact c));have HM:=Qa.mk (fun W (hb:Below w.heap.size w W) k (hk:k<ws.length)=>Yv hM hb (k:=k) (by omega));have HCC:=Qa.mk (fun W (hb:Below w.heap.size w W)=>Kd.Qf hC hb)
 have hws0:0<ws.length:=by
  obtain⟨-,h,-⟩:=Qx.1 hw;rcases Nat.eq_zero_or_pos ws.length with h0|h0
  ·rw[List.length_eq_zero_iff.1 h0] at h;simp at h
  ·exact h0
 have HG:=Qa.mk (Y3 hC hws0);have HV:=Qa.mk hv;have HF:=Qa.mk hf;obtain⟨am,rfl,-⟩:=HM.out w (Below.refl _ _) 0 hws0;have HW:=Qa.mk hw;have HO:=Qa.mk (fun k (hk:k<ws.length)=>Q7 hw hk);have hwl:(ws.length:Int)<=32:=(by have:=(Qx.1 hw).2.2;omega);have hmk: ∀W:World,(Instr.makeSlice 22 (.int .i64 (128:Int)) (.int .i64 (128:Int))).run Tryz.prog W= .ok (sV W.heap.size) (W.alloc (.cells (List.replicate 128 (Value.int .i64 0)).toArray 3)):=Sec.X9 128 (by omega);obtain⟨Z0,hZ0⟩: ∃Z0,Z0=(List.replicate 128 (Value.int .i64 0)).toArray :=⟨_,rfl⟩;rw[<-hZ0] at hmk;have hZs:=Qa.mk (show Z0.size=128 by rw[hZ0];simp);have hmo:Tryz.prog.follows .mixedOrders =true:=(by kernel_rfl);rw[l1,l2,l3];replace x1:=Qa.mk x1;replace y1:=Qa.mk y1;replace l1:=Qa.mk l1;replace l2:=Qa.mk l2;clear hl hr hC hM hw hv hf hZ0 l3;refine(callsIn_wide (n:=3)).1 ?_;refine callsIn_of_wp_marks Tryz.func124 rfl trivial ?_ rfl;simp only[Tryz.ntmps124,List.size_toArray,List.length_cons,List.length_nil,Nat.reduceAdd,Nat.reduceSub,Array.replicate_succ,Array.replicate_zero,List.push_toArray,List.append_toArray,List.nil_append,List.cons_append];gi_wp2_with fail;have hR0:=((((((Rws.start w).alloc #[.slice (some al) 128 ca] 22).alloc #[.slice (some ar) 128 cb] 22).alloc #[.slice (some am) ws.length cm] 23).alloc #[.func (.func 75) #[] #[]] 92).alloc #[.slice none 0 0] 22).alloc #[.slice none 0 0] 22;simp only[World.size_alloc,List.nil_append,List.cons_append] at hR0;obtain⟨W0,hW0⟩: ∃W0,W0=(((((w.alloc (.cells #[.slice (some al) 128 ca] 22)).alloc (.cells #[.slice (some ar) 128 cb] 22)).alloc (.cells #[.slice (some am) ws.length cm] 23)).alloc (.cells #[.func (.func 75) #[] #[]] 92)).alloc (.cells #[.slice none 0 0] 22)).alloc (.cells #[.slice none 0 0] 22):=⟨_,rfl⟩;rw[<-hW0] at hR0 ⊢;clear hW0;obtain⟨va,hva⟩: ∃v,v=Value.slice (some al) 128 ca:=⟨_,rfl⟩;obtain⟨vb,hvb⟩: ∃v,v=Value.slice (some ar) 128 cb:=⟨_,rfl⟩;obtain⟨vm,hvm⟩: ∃v,v=Value.slice (some am) ws.length cm:=⟨_,rfl⟩;obtain⟨vh,hvh⟩: ∃v,v=Value.func (.func 75) #[] #[]:=⟨_,rfl⟩
 have hS:Qa (∀(vx vy:Value) (X:List Blk) (W:World),Rws w W [] (cpG w.heap.size va vb vm vh vx vy++X)->W.cell? ⟨w.heap.size,0,none⟩=some va/\W.cell? ⟨w.heap.size+1,0,none⟩=some vb/\W.cell? ⟨w.heap.size+1+1,0,none⟩=some vm/\W.cell? ⟨w.heap.size+1+1+1,0,none⟩=some vh/\W.cell? ⟨w.heap.size+1+1+1+1,0,none⟩=some vx/\W.cell? ⟨w.heap.size+1+1+1+1+1,0,none⟩=some vy):=⟨fun vx vy X W h=>
  ⟨by rw[Qb (at_ h 0 rfl)];rfl,by rw[Qb (at_ h 1 rfl)];rfl,by rw[Qb (at_ h 2 rfl)];rfl,by rw[Qb (at_ h 3 rfl)];rfl,by rw[Qb (at_ h 4 rfl)];rfl,by rw[Qb (at_ h 5 rfl)];rfl⟩⟩
 rw[<-hva,<-hvb,<-hvm,<-hvh] at hR0 ⊢;refine Go.wpIn_wide.2 (wp_scope_straight ((Go.wpIn_wide (n:=3)).1 ?_));refine wpIn_seq ?_;refine Go.wpIn_wide.2 (wp_region_noPanic (Qt (S:=fun W=>W.cell? ⟨w.heap.size,0,none⟩=some va/\W.cell? ⟨w.heap.size+1,0,none⟩=some vb) (ds:=[]) hmo (by have:=hS.out _ _ [] _ hR0.drew;exact⟨this.1,this.2.1⟩) (fun hHeld=> ?_)))
 have hT:Qa (∀(vx vy:Value) (X:List Blk) (W:World),Rws w W [] (cpG w.heap.size va vb vm vh vx vy++X)->W.cell? ⟨w.heap.size+1+1+1+1,0,none⟩=some vx/\W.frozen? ⟨w.heap.size+1+1+1+1,0,none⟩=false/\W.cell? ⟨w.heap.size+1+1+1+1+1,0,none⟩=some vy/\W.frozen? ⟨w.heap.size+1+1+1+1+1,0,none⟩=false/\
   (∀u,Rws w (W.setCell ⟨w.heap.size+1+1+1+1,0,none⟩ u) [] (cpG w.heap.size va vb vm vh u vy++X))/\(∀u,Rws w (W.setCell ⟨w.heap.size+1+1+1+1+1,0,none⟩ u) [] (cpG w.heap.size va vb vm vh vx u++X))):=⟨fun vx vy X W h=>
  ⟨(hS.out vx vy X W h).2.2.2.2.1,Qj (at_ h 4 rfl) 0,(hS.out vx vy X W h).2.2.2.2.2,Qj (at_ h 5 rfl) 0,fun u=>Ki h 4 rfl 0 u,fun u=>Ki h 5 rfl 0 u⟩⟩
 have hP:=Qa.mk (fun(vx vy:Value) (X:List Blk) (W:World) h=>(show W.cell? ⟨w.heap.size,0,none⟩=some va/\W.cell? ⟨w.heap.size+1,0,none⟩=some vb from⟨(hS.out vx vy X W h).1,(hS.out vx vy X W h).2.1⟩));subst hva hvb hvm hvh;replace hR0:=hR0.drew;obtain⟨W1,hW1⟩: ∃W1,W1=W0.drew:=⟨_,rfl⟩;rw[<-hW1] at hR0 hHeld ⊢;clear hW1
 (refine Tk.tl 0 (.slice (some al) 128 ca) hHeld ?_)
 (refine Tk.tl 1 (.int .i64 128) hHeld ?_)
 (refine Tk.tl 3 (.slice (some ar) 128 cb) hHeld ?_)
 (refine Tk.tl 4 (.int .i64 128) hHeld ?_)
 refine join_ (σ:=Nat×Nat) 0 #[true,true,true,true,true,true,true,true] (fun s=>[(18,sV s.1),(21,sV s.2)]) (fun s W=>Rws w W [] (cpG w.heap.size (.slice (some al) 128 ca) (.slice (some ar) 128 cb) (.slice (some am) ws.length cm) (.func (.func 75) #[] #[]) (sV s.1) (sV s.2)++[⟨s.1,Z0,3⟩,⟨s.2,Z0,3⟩])) ?_ ?_
 ·rintro⟨gx,gy⟩ W hRw
  dsimp only at hRw ⊢;simp only[Fp,Act.put,List.setIfInBounds_toArray,List.set_cons_zero,List.set_cons_succ];refine Qq (by kernel_rfl) ?_ _;refine NoPanic.normal ?_;clear hHeld hR0 hP hmk;obtain⟨W2,hc1,hR2⟩:=copy_ (A:=al) (ca:=ca) hRw 6 rfl (l:=l) (by rw[hZs.out,l1.out]) (fun j hj=>HL.out _ hRw.below j (by rw[<-l1.out];exact hj));obtain⟨W3,hc2,hR3⟩:=copy_ (A:=ar) (ca:=cb) hR2 7 rfl (l:=r) (by rw[hZs.out,l2.out]) (fun j hj=>HR.out _ hR2.below j (by rw[<-l2.out];exact hj));rw[l1.out] at hc1;rw[l2.out] at hc2;obtain⟨z0,z1,-,-,z4,z5⟩:=hS.out _ _ _ _ hRw;obtain⟨q0,q1,-,-,q4,q5⟩:=hS.out _ _ _ _ hR2;replace hR3:=Qa.mk (show Rws w W3 [] (cpG w.heap.size (.slice (some al) 128 ca) (.slice (some ar) 128 cb) (.slice (some am) ws.length cm) (.func (.func 75) #[] #[]) (sV gx) (sV gy)++[iB gx l,iB gy r]) from hR3)
  have hgxy:=Qa.mk (show gx≠gy by
   have:=List.pairwise_append.1 hR3.out.gs;have h:=List.pairwise_cons.1 this.2.1
   exact h.1 (iB gy r) (by simp))
  clear hRw hR2;gi_wp2_with fail;refine wpIn_label ?_
  rename_i hK
  refine hK _ _ ?_;clear hK;have hR4:=hR3.out.alloc #[.int .i64 0] 3;obtain⟨gb,hgb⟩: ∃g,g=W3.heap.size:=⟨_,rfl⟩;obtain⟨W4,hW4⟩: ∃W,W=W3.alloc (.cells #[.int .i64 0] 3):=⟨_,rfl⟩;rw[<-hW4,<-hgb] at hR4;rw[<-hgb,<-hW4];have hgb9:=Qa.mk (show w.heap.size+1+1+1+1+1<gb by rw[hgb];exact Qr (at_ hR3.out 5 rfl));clear hW4 hgb hc1 hc2 z0 z1 z4 z5 q0 q1 q4 q5 hT hR3 W3 W2 W1 W0;gi_wp2_with fail;refine⟨trivial,(callsIn_wide.2 (Qbr C ws.length cc W4)).mono ?_⟩;rintro en W5 ⟨rfl,hW5⟩;have hb5:Below W4.heap.size W4 W5:=(by rw[hW5];exact(Below.refl _ _).alloc (Nat.le_refl _) _);have hR5:=hR4.step hb5;have b5:W5.cell? ⟨W4.heap.size,0,none⟩=some (.slice C ws.length cc):=(by rw[hW5];go_simp);have hC5:=HCC.out W5 hR5.below;have hs5:=Qa.mk hR5.below.size;clear hW5 hR4 hb5;obtain⟨ge,hge⟩: ∃g,g=W4.heap.size:=⟨_,rfl⟩;rw[<-hge] at b5 ⊢;clear hge W4;gi_wp2_with fail
  refine Xw rfl (by omega) (gf:=209) (lb:= #[.pointer (some ⟨ge,0,none⟩)]) rfl trivial (enters_of Tryz.func209 (by kernel_rfl) rfl)
   (Qbq Fence.wide _ trivial rfl (by omega) ge C cc ws HW.out W5 hC5 b5)
   (fun h k=>h.trans k) ?keep (Below.refl _ _) (fun _=>rfl) (fun k W=>Rws w W [] (cpG w.heap.size (.slice (some al) 128 ca) (.slice (some ar) 128 cb) (.slice (some am) ws.length cm) (.func (.func 75) #[] #[]) (sV gx) (sV gy)++[iB gx (Jd (off ws k) fx l),iB gy (Jd (off ws k) fy r),⟨gb, #[.int .i64 k],3⟩])) ?own ?start ?round ?done
  case keep=>exact Qz.putObj (N:=W5.heap.size) (fun g hg=>by have:=HG.out g hg;have:=hs5.out;omega)
  case own=>exact fun j W W' row h hg hrow=>Sec.Rws.Jf h hg (fun r e=>⟨by have:=(hrow r e).1;have:=hs5.out;omega,(hrow r e).2⟩)
  case start=>rw[show off ws 0=0 by simp[off],L9,L9];exact hR5
  case round=>
   rintro L k W hRw hk;have hBk:=Qa.mk (HF.out k hk);obtain⟨o1,o2,o3,-⟩:=HO.out k hk;obtain⟨_,e,cm1⟩:=HM.out W hRw.below k hk;cases e;obtain⟨p,hp⟩: ∃p,p=off ws k:=⟨_,rfl⟩;obtain⟨d,hd⟩: ∃d,d=wd ws k:=⟨_,rfl⟩;rw[<-hp,<-hd] at o1 o3;rw[<-hd] at o2;rw[<-hp] at hRw hBk ⊢;rw[o1] at hBk ⊢;have hkI:(k:Int)<(ws.length:Int):=(by omega);obtain⟨mk,hmk⟩: ∃b,b=mid.getD k false:=⟨_,rfl⟩;rw[<-hmk] at cm1 hBk
   push_cast
   have hkT:=Qa.mk hk;replace o1:=Qa.mk o1;clear hp hd hk;gi_wp2_with fail;refine⟨(KeepsOthers.refl W).from _,Qz.refl _ _,fun Z=>Rws w Z [] (cpG w.heap.size (.slice (some al) 128 ca) (.slice (some ar) 128 cb) (.slice (some am) ws.length cm) (.func (.func 75) #[] #[]) (sV gx) (sV gy)++[iB gx (Jd p fx l),iB gy (Jd p fy r),⟨gb, #[.int .i64 k],3⟩]),hRw,fun _ Z Z' row h hg hrow=>Sec.Rws.Jf h hg (fun r e=>⟨by have:=(hrow r e).1;have:=hs5.out;omega,(hrow r e).2⟩),?_⟩;clear hRw;rintro Z hRw;obtain⟨-,-,z2,-⟩:=hS.out _ _ _ _ hRw;have z8:Z.cell? ⟨gb,0,none⟩=some (.int .i64 k):=(by rw[Qb (at_ hRw 8 rfl)];rfl);have y8:=Qj (at_ hRw 8 rfl) 0;have hR1:=Ki hRw 8 rfl 0 (.int .i64 ((k:Int)+1));have hg2:gb≠w.heap.size+1+1:=(by have:=hgb9.out;omega);obtain⟨_,e,cm2⟩:=HM.out _ hR1.below k hkT.out;cases e;replace hR1:=Qa.mk (show Rws w (Z.setCell ⟨gb,0,none⟩ (.int .i64 ((k:Int)+1))) [] (cpG w.heap.size (.slice (some al) 128 ca) (.slice (some ar) 128 cb) (.slice (some am) ws.length cm) (.func (.func 75) #[] #[]) (sV gx) (sV gy)++[iB gx (Jd p fx l),iB gy (Jd p fy r),⟨gb, #[.int .i64 ((k:Int)+1)],3⟩]) from hR1);have hK1:Qa (KeepsOthers Z (Z.setCell ⟨gb,0,none⟩ (.int .i64 ((k:Int)+1)))/\Qz (Zy C) Z (Z.setCell ⟨gb,0,none⟩ (.int .i64 ((k:Int)+1)))):=⟨KeepsOthers.setCell _ _ _,Sec.Qz.set HG.out (Qz.refl _ _) (by have:=hgb9.out;dsimp only;omega) _⟩;rw[<-hmk] at cm2;clear hmk cm1
   cases mk with
   |false=>
    have e1:=Gh (p:=p) (x1.out.trans l1.out.symm) d (by rw[l1.out];exact o3) (fun i h1 h2=>by simpa using (hBk.out i h1 h2).1);have e2:=Gh (p:=p) (y1.out.trans l2.out.symm) d (by rw[l2.out];exact o3) (fun i h1 h2=>by simpa using (hBk.out i h1 h2).2);rw[e1,e2] at hR1;clear e1 e2 hRw;gi_wp2;exact⟨hK1.out.1.from _,hK1.out.2,by dsimp only;rw[o1.out];exact hR1.out⟩
   |true=>
    simp only[if_true] at hBk;clear hRw;gi_wp2_with fail;clear z2 z8 y8 cm2 hg2;obtain⟨V1,hV1⟩: ∃V,V=Z.setCell ⟨gb,0,none⟩ (.int .i64 ((k:Int)+1)):=⟨_,rfl⟩;rw[<-hV1] at hR1 hK1 ⊢;clear hV1;gi_loopw [15] (fun i wr=> ∃q:Nat,i= .int .i64 q/\p<=q/\q<=p+d/\Qa (Rws w wr [] (cpG w.heap.size (.slice (some al) 128 ca) (.slice (some ar) 128 cb) (.slice (some am) ws.length cm) (.func (.func 75) #[] #[]) (sV gx) (sV gy)++[iB gx (Jd q fx l),iB gy (Jd q fy r),⟨gb, #[.int .i64 ((k:Int)+1)],3⟩]))/\Qa (KeepsOthers Z wr/\Qz (Zy C) Z wr)) (fun i _=>p+d-(intOf i).toNat)
    case atStart=>exact⟨p,rfl,Nat.le_refl _,by omega,hR1,hK1⟩
    case round=>
     obtain⟨q,rfl,hq1,hq2,hRq,hKq⟩:=hrel;clear hR1 hK1;by_cases hlt:q<p+d
     ·have hltI:(q:Int)<(p:Int)+(d:Int):=by omega
      have hq9:(q:Int)<=127:=(by omega);have hq8: ¬(128:Int)<=(q:Int):=(by omega);obtain⟨f1,f2⟩:=hBk.out q hq1 hlt;have hq128:q<128:=(by omega);obtain⟨v1,v2⟩:=HV.out q hq128;have HS:=Qa.mk (fun(W:World)=>Ox (rd l q) (rd r q) W v1 v2);rw[<-f1,<-f2] at HS;obtain⟨z0,z1,-,z3,z4,z5⟩:=hS.out _ _ _ _ hRq.out;have c1:=HL.out _ hRq.out.below q hq128;have c2:=HR.out _ hRq.out.below q hq128;have e1:=Qa.mk (I7 (p:=q) (x1.out.trans l1.out.symm) (by rw[l1.out];exact hq128));have e2:=Qa.mk (I7 (p:=q) (y1.out.trans l2.out.symm) (by rw[l2.out];exact hq128));have n1:=Qa.mk (rd_mix (p:=q) (i:=q) (x1.out.trans l1.out.symm) (Nat.le_refl _) (by rw[l1.out];exact hq128));have n2:=Qa.mk (rd_mix (p:=q) (i:=q) (y1.out.trans l2.out.symm) (Nat.le_refl _) (by rw[l2.out];exact hq128));obtain⟨a,ha⟩: ∃a,a=rd l q:=⟨_,rfl⟩;obtain⟨b,hb⟩: ∃b,b=rd r q:=⟨_,rfl⟩;obtain⟨x,hx⟩: ∃x,x=rd fx q:=⟨_,rfl⟩;obtain⟨y,hy⟩: ∃y,y=rd fy q:=⟨_,rfl⟩;rw[<-ha,<-hb,<-hx,<-hy] at HS;rw[<-ha] at c1 n1;rw[<-hb] at c2 n2;rw[<-hx] at e1;rw[<-hy] at e2;have hqT:=Qa.mk hlt;have hq28:=Qa.mk hq128;have hq1':=Qa.mk hq1;replace ha:=Qa.mk ha;replace hb:=Qa.mk hb;clear hx hy f1 f2 v1 v2 hlt hq1 hq2 hq128;gi_wp2_with fail;refine Held.Zm (fun W=>W.cell? ⟨w.heap.size,0,none⟩=some (.slice (some al) 128 ca)/\W.cell? ⟨w.heap.size+1,0,none⟩=some (.slice (some ar) 128 cb)/\W.cell? ⟨w.heap.size+1+1+1,0,none⟩=some (.func (.func 75) #[] #[])/\W.cell? ⟨w.heap.size+1+1+1+1,0,none⟩=some (sV gx)/\W.cell? ⟨w.heap.size+1+1+1+1+1,0,none⟩=some (sV gy)/\W.cell? (al.add q)=some (.int .i64 a)/\W.cell? (ar.add q)=some (.int .i64 b)) [] hmo (by kernel_rfl) (fun⟨_,_,h⟩=>h) ⟨z0,z1,z3,z4,z5,c1,c2⟩ (fun hHeld=> ?_);clear z0 z1 z3 z4 z5 c1 c2
      (refine Tk.tl 0 (sV gx) hHeld ?_)
      (refine Tk.tl 1 (.int .i64 q) hHeld ?_)
      (refine Tk.tl 2 (sV gy) hHeld ?_)
      (refine Tk.tl 3 (.int .i64 q) hHeld ?_)
      (refine Tk.tl 4 (.func (.func 75) #[] #[]) hHeld ?_)
      (refine Tk.tl 5 (.slice (some al) 128 ca) hHeld ?_)
      (refine Tk.tl 6 (.int .i64 q) hHeld ?_)
      (refine Tk.tl 7 (.pointer (some (al.add q))) hHeld ?_)
      (refine Tk.tl 8 (.int .i64 a) hHeld ?_)
      (refine Tk.tl 9 (.slice (some ar) 128 cb) hHeld ?_)
      (refine Tk.tl 10 (.int .i64 q) hHeld ?_)
      (refine Tk.tl 11 (.pointer (some (ar.add q))) hHeld ?_)
      (refine Tk.tl 12 (.int .i64 b) hHeld ?_)
      (refine Qg (rs:=[13]) (by kernel_rfl) (by simp) ?_;refine Qc.cons rfl (by decide) (fun K hK=> ?_) Qc.nil)
      go_simp;refine(HS.out _).mono ?_;rintro e V2 ⟨rfl,hb2⟩;have hR2:=hRq.out.drew.step hb2;have hK2:=hKq.out.1.trans (Zq (bnx (Below.refl _ _).drew hb2));have hL2:=hKq.out.2.trans (Sec.Qz.step HG.out hRq.out.below.size (bnx (Below.refl _ _).drew hb2));obtain⟨z0,z1,-,z3,z4,z5⟩:=hS.out _ _ _ _ hR2;have c1:=HL.out _ hR2.below q hq28.out;have c2:=HR.out _ hR2.below q hq28.out;rw[<-ha.out] at c1;rw[<-hb.out] at c2
      (go_wp2_with fail;refine hK.out _ _ (⟨z0,z1,z3,z4,z5,c1,c2⟩) (fun hHeld=> ?_);clear hK K;try simp only[Act.put,Tk.z1,Tk.z2,Tk.z3,Tk.z4,Tk.z5,Tk.z6])
      clear z0 z1 z3 z4 z5 c1 c2 hb2
      (refine Tk.tl 14 (.tuple #[.int .i64 x,.int .i64 y,.int .i64 0]) hHeld ?_)
      (refine Tk.tl 15 (.int .i64 x) hHeld ?_)
      (refine Tk.tl 16 (.int .i64 y) hHeld ?_)
      (refine Tk.tl 17 (.int .i64 0) hHeld ?_)
      (refine Tk.tl 18 (.pointer (some ⟨gx,q,none⟩)) hHeld ?_)
      (refine Qg (rs:=[19]) (by kernel_rfl) (by simp) ?_;refine Qc.cons rfl (by decide) (fun K hK=> ?_) Qc.nil)
      have gX:=at_ hR2 6 rfl;have zx:V2.cell? ⟨gx,q,none⟩=some (.int .i64 a):=(by rw[Qb gX];simp[n1.out]);have yx:=Qj gX q;have hR3:=Ki hR2 6 rfl q (.int .i64 x);obtain⟨z0,z1,-,z3,z4,z5⟩:=hS.out _ _ _ _ hR3;have c1:=HL.out _ hR3.below q hq28.out;have c2:=HR.out _ hR3.below q hq28.out;rw[<-ha.out] at c1;rw[<-hb.out] at c2;have hq3:=And.intro z0 (And.intro z1 (And.intro z3 (And.intro z4 (And.intro z5 (And.intro c1 c2)))));clear z0 z1 z3 z4 z5 c1 c2 gX;replace hq3:=Qa.mk hq3;go_simp
      (go_wp2_with fail;refine hK.out _ _ (hq3.out) (fun hHeld=> ?_);clear hK K;try simp only[Act.put,Tk.z1,Tk.z2,Tk.z3,Tk.z4,Tk.z5,Tk.z6])
      (refine Tk.tl 20 (.pointer (some ⟨gy,q,none⟩)) hHeld ?_)
      obtain⟨V3,hV3⟩: ∃V,V=V2.setCell ⟨gx,q,none⟩ (.int .i64 x):=⟨_,rfl⟩;have hE1:((List.map (Value.int .i64) (Jd q fx l)).toArray.setIfInBounds q (.int .i64 x))=(List.map (Value.int .i64) (Jd (q+1) fx l)).toArray :=(by rw[<-e1.out];simp);have hE2:((List.map (Value.int .i64) (Jd q fy r)).toArray.setIfInBounds q (.int .i64 y))=(List.map (Value.int .i64) (Jd (q+1) fy r)).toArray :=by rw[<-e2.out];simp
      try dsimp only at hR3
      rw[hE1] at hR3;rw[<-hV3] at hR3 ⊢;have hK3:=hK2.trans (KeepsOthers.setCell V2 ⟨gx,q,none⟩ (.int .i64 x));have hL3:=Sec.Qz.set HG.out hL2 (p:=⟨gx,q,none⟩) (ge_ hR2 6 rfl) (.int .i64 x);rw[<-hV3] at hK3 hL3;replace hR3:=Qa.mk (show Rws w V3 [] (cpG w.heap.size (.slice (some al) 128 ca) (.slice (some ar) 128 cb) (.slice (some am) ws.length cm) (.func (.func 75) #[] #[]) (sV gx) (sV gy)++[iB gx (Jd (q+1) fx l),iB gy (Jd q fy r),⟨gb, #[.int .i64 ((k:Int)+1)],3⟩]) from hR3);clear hV3 hE1 hR2 hK2 hL2 hHeld zx yx hq3
      (refine Qg (rs:=[21]) (by kernel_rfl) (by simp) ?_;refine Qc.cons rfl (by decide) (fun K hK=> ?_) Qc.nil)
      have gY:=at_ hR3.out 7 rfl;have zy:V3.cell? ⟨gy,q,none⟩=some (.int .i64 b):=(by rw[Qb gY];simp[n2.out]);have yy:=Qj gY q;have hR4:=Ki hR3.out 7 rfl q (.int .i64 y)
      try dsimp only at hR4
      rw[hE2] at hR4;have hK4:=hK3.trans (KeepsOthers.setCell V3 ⟨gy,q,none⟩ (.int .i64 y));have hL4:=Sec.Qz.set HG.out hL3 (p:=⟨gy,q,none⟩) (ge_ hR3.out 7 rfl) (.int .i64 y);replace hR4:=Qa.mk hR4;obtain⟨z0,z1,-,z3,z4,z5⟩:=hS.out _ _ _ _ hR4.out;have c1:=HL.out _ hR4.out.below q hq28.out;have c2:=HR.out _ hR4.out.below q hq28.out;rw[<-ha.out] at c1;rw[<-hb.out] at c2;have hq4:=Qa.mk (And.intro z0 (And.intro z1 (And.intro z3 (And.intro z4 (And.intro z5 (And.intro c1 c2))))));clear hE2 gY hK3 hL3 z0 z1 z3 z4 z5 c1 c2;go_simp
      (go_wp2_with fail;refine hK.out _ _ (hq4.out) (fun hHeld=> ?_);clear hK K;try simp only[Act.put,Tk.z1,Tk.z2,Tk.z3,Tk.z4,Tk.z5,Tk.z6])
      clear zy yy hHeld hq4;refine Qq (by kernel_rfl) ?_ _;replace hK4:=Qa.mk hK4;replace hL4:=Qa.mk hL4;gi_wp2;go_roundw
      case rel=>exact⟨q+1,by go_num,Nat.le_succ_of_le hq1'.out,hqT.out,hR4,⟨hK4.out,hL4.out⟩⟩
      case measure=>have:=hqT.out;simp[intOf];omega
     ·obtain rfl:q=p+d:=by omega
      gi_wp2;exact⟨hKq.out.1.from _,hKq.out.2,by dsimp only;rw[o1.out];exact hRq.out⟩
  case done=>
   rintro D W hD hRw hDf;have h1:=Sec.Rws.Jf hRw (grownBy_putObj' W D (.deferred none)) (fun r e=>by cases e;exact⟨by have:=hs5.out;omega,_,hDf,rfl⟩);have hoff:off ws ws.length=128:=(by unfold off;rw[List.take_length,(Qx.1 HW.out).2.1];rfl);rw[hoff,I6 (x1.out.trans l1.out.symm) (by rw[l1.out];exact Nat.le_refl _),I6 (y1.out.trans l2.out.symm) (by rw[l2.out];exact Nat.le_refl _)] at h1 hRw;have hR1:=hRw.drew;have hx:=at_ hR1 4 rfl;have hy:=at_ hR1 5 rfl
   have hD4:D≠w.heap.size+1+1+1+1:=fun e=>by
    have h4:=at_ hRw 4 rfl;dsimp only at h4;rw[<-e,hDf] at h4;cases h4
   have hD5:D≠w.heap.size+1+1+1+1+1:=fun e=>by
    have h4:=at_ hRw 5 rfl;dsimp only at h4;rw[<-e,hDf] at h4;cases h4
   clear h1;gi_wp2_with fail;refine Go.wpIn_wide.2 (wp_region_noPanic (Qt (S:=fun W=>W.cell? ⟨w.heap.size+1+1+1+1,0,none⟩=some (sV gx)/\W.cell? ⟨w.heap.size+1+1+1+1+1,0,none⟩=some (sV gy)) (ds:=[]) hmo ⟨(hS.out _ _ _ _ hR1).2.2.2.2.1,(hS.out _ _ _ _ hR1).2.2.2.2.2⟩ (fun hHeld=> ?_)));obtain⟨V,hV⟩: ∃V,V=W.drew:=⟨_,rfl⟩;have hDV:V.heap[D]? =some (.deferred (some [])):=(by rw[hV];exact hDf);rw[<-hV] at hR1 hx hy hHeld ⊢;clear hV hRw hDf W
   (refine Tk.tl 0 (sV gx) hHeld ?_)
   (refine Tk.tl 1 (sV gy) hHeld ?_)
   (refine Qg (rs:=[2]) (by kernel_rfl) (by simp) ?_;refine Qc.cons rfl (by decide) (fun K hK=> ?_) Qc.nil)
   have y4:=Qj hx 0;have hR2:=Ki hR1 4 rfl 0 (sV gx);have hq2:=Qa.mk (And.intro (hS.out _ _ _ _ hR2).2.2.2.2.1 (hS.out _ _ _ _ hR2).2.2.2.2.2);go_simp
   (go_wp2_with fail;refine hK.out _ _ (hq2.out) (fun hHeld=> ?_);clear hK K;try simp only[Act.put,Tk.z1,Tk.z2,Tk.z3,Tk.z4,Tk.z5,Tk.z6])
   clear hq2 y4
   (refine Qg (rs:=[3]) (by kernel_rfl) (by simp) ?_;refine Qc.cons rfl (by decide) (fun K hK=> ?_) Qc.nil)
   have hy2:=at_ hR2 5 rfl;have y5:=Qj hy2 0;have hR3:=Ki hR2 5 rfl 0 (sV gy);have hq3:=Qa.mk (And.intro (hS.out _ _ _ _ hR3).2.2.2.2.1 (hS.out _ _ _ _ hR3).2.2.2.2.2);dsimp only at hR2 hy2 y5 hR3;go_simp
   (go_wp2_with fail;refine hK.out _ _ (hq3.out) (fun hHeld=> ?_);clear hK K;try simp only[Act.put,Tk.z1,Tk.z2,Tk.z3,Tk.z4,Tk.z5,Tk.z6])
   clear hq3 y5 hy2;refine Qq (by kernel_rfl) ?_ _;refine NoPanic.normal ?_
   have hD3:((V.setCell ⟨w.heap.size+1+1+1+1,0,none⟩ (sV gx)).setCell ⟨w.heap.size+1+1+1+1+1,0,none⟩ (sV gy)).heap[D]? =some (.deferred (some [])):=by
    rw[Xh _ _ hD5,Xh _ _ hD4];exact hDV
   obtain⟨U,hU⟩: ∃U,U=((V.setCell ⟨w.heap.size+1+1+1+1,0,none⟩ (sV gx)).setCell ⟨w.heap.size+1+1+1+1+1,0,none⟩ (sV gy)):=⟨_,rfl⟩;rw[<-hU] at hD3 hR3 hHeld ⊢;have h1:=Sec.Rws.Jf hR3 (grownBy_putObj' U D (.deferred none)) (fun r e=>by cases e;exact⟨by have:=hs5.out;omega,_,hD3,rfl⟩);clear hU hR2 hR1 hx hy hDV;gi_wp2;refine⟨by simp,.inl ⟨_,_,rfl,run_takeDeferred hD3,?_⟩⟩;obtain⟨-,-,-,-,z4,z5⟩:=hS.out _ _ _ _ h1;exact⟨.tuple #[sV gx,sV gy],by simp[results,Tryz.f124,go_sem,asAddr,Tryz.underlying22,z4,z5],gx,gy,rfl,at_ h1 6 rfl,at_ h1 7 rfl,ge_ h1 6 rfl,ge_ h1 7 rfl,hgxy.out,h1.below⟩
 ·intro hJ
  replace hJ:=Qa.mk hJ;refine Qg (rs:=[2,5]) (by kernel_rfl) (by simp) ?_;refine Qc.cons rfl (by decide) (fun K hK=> ?_) (Qc.cons rfl (by decide) (fun K hK=> ?_) Qc.nil)
  ·refine Zo (w1:=W1.alloc (.cells Z0 3)) (v:=sV W1.heap.size) (by kernel_rfl) rfl (by go_simp) ?_
   have hR2:=hR0.alloc Z0 3;refine hK.out _ _ (hP.out _ _ _ _ hR2) (fun hHeld=> ?_);clear hK K;simp only[Act.put,List.setIfInBounds_toArray,List.set_cons_zero,List.set_cons_succ];obtain⟨g2,hg2⟩: ∃g,g=W1.heap.size:=⟨_,rfl⟩;obtain⟨W2,hW2⟩: ∃W,W=W1.alloc (.cells Z0 3):=⟨_,rfl⟩;rw[<-hW2,<-hg2] at hR2;rw[<-hg2,<-hW2];rw[<-hW2] at hHeld;clear hW2 hg2;refine Qg (rs:=[5,6]) (by kernel_rfl) (by simp) ?_;refine Qc.cons rfl (by decide) (fun K hK=> ?_) (Qc.cons rfl (by decide) (fun K hK=> ?_) Qc.nil)
   ·refine Zo (w1:=W2.alloc (.cells Z0 3)) (v:=sV W2.heap.size) (by kernel_rfl) rfl (by go_simp) ?_
    have hR3:=hR2.alloc Z0 3;refine hK.out _ _ (hP.out _ _ _ _ hR3) (fun hHeld=> ?_);clear hK K;simp only[Act.put,List.setIfInBounds_toArray,List.set_cons_zero,List.set_cons_succ];obtain⟨g5,hg5⟩: ∃g,g=W2.heap.size:=⟨_,rfl⟩;obtain⟨W3,hW3⟩: ∃W,W=W2.alloc (.cells Z0 3):=⟨_,rfl⟩;rw[<-hW3,<-hg5] at hR3;rw[<-hg5,<-hW3];rw[<-hW3] at hHeld;clear hW3 hg5
    (refine Qg (rs:=[6]) (by kernel_rfl) (by simp) ?_;refine Qc.cons rfl (by decide) (fun K hK=> ?_) Qc.nil)
    obtain⟨z4,y4,z5,y5,s4,s5⟩:=hT.out _ _ _ _ hR3;have hR4:=s4 (sV g2);go_simp;go_wp2_with fail;refine hK.out _ _ (hP.out _ _ _ _ hR4) (fun hHeld=> ?_);clear hK K z4 y4 z5 y5 s4 s5
    try simp only[Act.put,List.setIfInBounds_toArray,List.set_cons_zero,List.set_cons_succ]
    (refine Qg (rs:=[7]) (by kernel_rfl) (by simp) ?_;refine Qc.cons rfl (by decide) (fun K hK=> ?_) Qc.nil)
    obtain⟨z4,y4,z5,y5,s4,s5⟩:=hT.out _ _ _ _ hR4;have hR5:=s5 (sV g5);go_simp;go_wp2_with fail;refine hK.out _ _ (hP.out _ _ _ _ hR5) (fun hHeld=> ?_);clear hK K z4 y4 z5 y5 s4 s5
    try simp only[Act.put,List.setIfInBounds_toArray,List.set_cons_zero,List.set_cons_succ]
    exact U8 (by kernel_rfl) (by kernel_rfl) (hJ.out (g2,g5) _ hR5)
   ·obtain⟨z4,y4,z5,y5,s4,s5⟩:=hT.out _ _ _ _ hR2
    have hR3:=s4 (sV g2);go_simp;go_wp2_with fail;refine hK.out _ _ (hP.out _ _ _ _ hR3) (fun hHeld=> ?_);clear hK K z4 y4 z5 y5 s4 s5
    try simp only[Act.put,List.setIfInBounds_toArray,List.set_cons_zero,List.set_cons_succ]
    obtain⟨W3,hW3⟩: ∃W,W=W2.setCell ⟨w.heap.size+1+1+1+1,0,none⟩ (sV g2):=⟨_,rfl⟩;rw[<-hW3] at hR3 hHeld ⊢;clear hW3
    (refine Qg (rs:=[5]) (by kernel_rfl) (by simp) ?_;refine Qc.cons rfl (by decide) (fun K hK=> ?_) Qc.nil)
    refine Zo (w1:=W3.alloc (.cells Z0 3)) (v:=sV W3.heap.size) (by kernel_rfl) rfl (by go_simp) ?_;have hR4:=hR3.alloc Z0 3;refine hK.out _ _ (hP.out _ _ _ _ hR4) (fun hHeld=> ?_);clear hK K;simp only[Act.put,List.setIfInBounds_toArray,List.set_cons_zero,List.set_cons_succ];obtain⟨g5,hg5⟩: ∃g,g=W3.heap.size:=⟨_,rfl⟩;obtain⟨W4,hW4⟩: ∃W,W=W3.alloc (.cells Z0 3):=⟨_,rfl⟩;rw[<-hW4,<-hg5] at hR4;rw[<-hg5,<-hW4];rw[<-hW4] at hHeld;clear hW4 hg5
    (refine Qg (rs:=[7]) (by kernel_rfl) (by simp) ?_;refine Qc.cons rfl (by decide) (fun K hK=> ?_) Qc.nil)
    obtain⟨z4,y4,z5,y5,s4,s5⟩:=hT.out _ _ _ _ hR4;have hR5:=s5 (sV g5);go_simp;go_wp2_with fail;refine hK.out _ _ (hP.out _ _ _ _ hR5) (fun hHeld=> ?_);clear hK K z4 y4 z5 y5 s4 s5
    try simp only[Act.put,List.setIfInBounds_toArray,List.set_cons_zero,List.set_cons_succ]
    exact U8 (by kernel_rfl) (by kernel_rfl) (hJ.out (g2,g5) _ hR5)
  ·refine Zo (w1:=W1.alloc (.cells Z0 3)) (v:=sV W1.heap.size) (by kernel_rfl) rfl (by go_simp) ?_
   have hR2:=hR0.alloc Z0 3;refine hK.out _ _ (hP.out _ _ _ _ hR2) (fun hHeld=> ?_);clear hK K;simp only[Act.put,List.setIfInBounds_toArray,List.set_cons_zero,List.set_cons_succ];obtain⟨g5,hg5⟩: ∃g,g=W1.heap.size:=⟨_,rfl⟩;obtain⟨W2,hW2⟩: ∃W,W=W1.alloc (.cells Z0 3):=⟨_,rfl⟩;rw[<-hW2,<-hg5] at hR2;rw[<-hg5,<-hW2];rw[<-hW2] at hHeld;clear hW2 hg5
   (refine Qg (rs:=[2]) (by kernel_rfl) (by simp) ?_;refine Qc.cons rfl (by decide) (fun K hK=> ?_) Qc.nil)
   refine Zo (w1:=W2.alloc (.cells Z0 3)) (v:=sV W2.heap.size) (by kernel_rfl) rfl (by go_simp) ?_;have hR3:=hR2.alloc Z0 3;refine hK.out _ _ (hP.out _ _ _ _ hR3) (fun hHeld=> ?_);clear hK K;simp only[Act.put,List.setIfInBounds_toArray,List.set_cons_zero,List.set_cons_succ];obtain⟨g2,hg2⟩: ∃g,g=W2.heap.size:=⟨_,rfl⟩;obtain⟨W3,hW3⟩: ∃W,W=W2.alloc (.cells Z0 3):=⟨_,rfl⟩;rw[<-hW3,<-hg2] at hR3;rw[<-hg2,<-hW3];rw[<-hW3] at hHeld;clear hW3 hg2;replace hR3:=Bts.Rws.perm (G':=cpG w.heap.size (.slice (some al) 128 ca) (.slice (some ar) 128 cb) (.slice (some am) ws.length cm) (.func (.func 75) #[] #[]) (.slice none 0 0) (.slice none 0 0)++[⟨g2,Z0,3⟩,⟨g5,Z0,3⟩]) hR3 (List.Perm.refl _) (by rw[List.append_assoc];exact List.Perm.append_left _ (List.Perm.swap _ _ _))
   (refine Qg (rs:=[6]) (by kernel_rfl) (by simp) ?_;refine Qc.cons rfl (by decide) (fun K hK=> ?_) Qc.nil)
   obtain⟨z4,y4,z5,y5,s4,s5⟩:=hT.out _ _ _ _ hR3;have hR4:=s4 (sV g2);go_simp;go_wp2_with fail;refine hK.out _ _ (hP.out _ _ _ _ hR4) (fun hHeld=> ?_);clear hK K z4 y4 z5 y5 s4 s5
   try simp only[Act.put,List.setIfInBounds_toArray,List.set_cons_zero,List.set_cons_succ]
   (refine Qg (rs:=[7]) (by kernel_rfl) (by simp) ?_;refine Qc.cons rfl (by decide) (fun K hK=> ?_) Qc.nil)
   obtain⟨z4,y4,z5,y5,s4,s5⟩:=hT.out _ _ _ _ hR4;have hR5:=s5 (sV g5);go_simp;go_wp2_with fail;refine hK.out _ _ (hP.out _ _ _ _ hR5) (fun hHeld=> ?_);clear hK K z4 y4 z5 y5 s4 s5
   try simp only[Act.put,List.setIfInBounds_toArray,List.set_cons_zero,List.set_cons_succ]
   exact U8 (by kernel_rfl) (by kernel_rfl) (hJ.out (g2,g5) _ hR5)
end St

end Go.Proofs.YtnflnicdjioflaaGreatDoor
