/- A part of the proof. -/
import Derived.Test.YtnflnicdjioflaaGreatDoorSxaw
import Derived.Test.YtnflnicdjioflaaGreatDoorSxax
set_option linter.unusedVariables false
set_option linter.unusedSimpArgs false
set_option maxRecDepth 100000
set_option maxHeartbeats 8000000
namespace Go.Proofs.YtnflnicdjioflaaGreatDoor
open Go.RowKit Go.Proofs.YtnflnicdjioflaaGreatDoorW.PrintWords Go.Proofs.YtnflnicdjioflaaGreatDoorW.PrintLast Go.Proofs.YtnflnicdjioflaaGreatDoorW.PrintMore
namespace Bd
attribute [local go_sem] Qh Qi Qk Ql Qd Qe
open Q15
open Runs Go.Shelf
open Q21
open Sec (Qz Zy Y3)
open St (at_ ge_ Ki sV)
open Bts (Rws Blk Rws.start)
attribute [local go_sem] Oper.semAt_some
def Z9 (sh:Bool) (g c:List Int):Nat->List Int
 |0=>List.replicate 128 0
 |k+1=>(Z9 sh g c k).set (Gp sh g k) (rd c k)
theorem Jl (sh:Bool) (g c:List Int): ∀k,(Z9 sh g c k).length =128
 |0=>by simp[Z9]
 |k+1=>by rw[Z9,List.length_set,Jl sh g c k]
theorem Ui (B g i p:Nat) (a:Addr) (ca:Nat) (x v:Int) (w:World) (hB:w.cell? ⟨B,0,none⟩=some (.slice (some a) 128 ca)) (hc:w.cell? (a.add i)=some (.int .i64 x)) (hi:i<128) (hp:p<128) (hz:w.cell? ⟨g,p,none⟩=some (.int .i64 v)) (hf:w.frozen? ⟨g,p,none⟩=false):
  Calls Tryz.prog 77 #[sV g,.int .i64 i,.int .i64 p,.pointer (some ⟨B,0,none⟩)] w fun e w'=>(∃v,e= .returned v)/\w'=w.setCell ⟨g,p,none⟩ (.int .i64 x):=by
 have h1:(i:Int)<=127:=(by omega);have h2:(p:Int)<=127:=(by omega);have h3: ¬(128:Int)<=i:=(by omega);have h4: ¬(128:Int)<=p:=(by omega);clear hi hp;go_enter Tryz.func77,Tryz.ntmps77;go_wp2;go_end0;exact⟨⟨_,rfl⟩,rfl⟩
theorem Qae (sh:Bool) (A:Option Addr) (n c:Nat) (w:World):
  Calls Tryz.prog 126 #[.bool sh,.slice A n c] w fun en w'=>en= .returned (.func (.func 176) #[] #[.pointer (some ⟨w.heap.size,0,none⟩),.pointer (some ⟨w.heap.size+1,0,none⟩)])/\w'=(w.alloc (.cells #[.bool sh] 4)).alloc (.cells #[.slice A n c] 22):=by
 go_enter Tryz.func126,Tryz.ntmps126;go_wp2;go_ret;exact⟨rfl,rfl⟩
abbrev mvG (b0 gx b2 gi Bc:Nat) (X:List Int) (k:Nat):List Blk:=[⟨b0, #[.func (.func 77) #[] #[.pointer (some ⟨Bc,0,none⟩)]],94⟩,⟨gx,(X.map (Value.int .i64)).toArray,3⟩,⟨b2, #[sV gx],22⟩,⟨gi, #[.int .i64 k],3⟩]
theorem I8 (Bc:Nat) (A C:Option Addr) (ca cc:Nat) (sh:Bool) (gs c:List Int) (w:World) (hL:Laid w) (hr:(Kd.int .i64).C w A gs.length gs) (hd:Zc sh gs=true) (hc:(Kd.int .i64).C w C c.length c) (h128:c.length=128) (hB:w.cell? ⟨Bc,0,none⟩=some (.slice C c.length cc)):
  Calls Tryz.prog 76 #[.slice C c.length cc,.bool sh,.slice A gs.length ca,.func (.func 77) #[] #[.pointer (some ⟨Bc,0,none⟩)]] w fun e w'=> ∃g,e= .returned (.tuple #[sV g,.int .i64 0])/\w'.heap[g]? =some (.cells ((Z9 sh gs c 128).map (Value.int .i64)).toArray 3 (0,0))/\w.heap.size<=g/\Below w.heap.size w w':=by
 obtain⟨al,rfl,-⟩:=Qn hc (Below.refl _ _) (k:=0) (by omega);have HC:=Qa.mk (fun W (hb:Below w.heap.size w W) k (hk:k<128)=>(show W.cell? (al.add k)=some (.int .i64 (rd c k)) by obtain⟨a,e,q⟩:=Qn hc hb (k:=k) (by omega);cases e;exact q));have HR:=Qa.mk (fun W (hb:Below w.heap.size w W)=>Kd.Qf hr hb);have HL:=Qa.mk (fun W (hb:Below w.heap.size w W)=>hL.below hb);rw[h128] at hB;have HB:=Qa.mk (fun W (hb:Below w.heap.size w W)=>cnx hB hb);have hCk:=Ju sh A ca gs
 have hG:Qa (∃Ls:List Nat,(0<gs.length-> ∀g∈Zy A,g∈Ls)/\ ∀g∈1::Ls,g<w.heap.size):=⟨by
  have h1:1<w.heap.size:=World.block_lt_of_cell? w _ hL.short.1;by_cases h0:0<gs.length
  ·refine⟨Zy A,fun _ _ h=>h,fun g hg=> ?_⟩
   rcases List.mem_cons.1 hg with rfl|hg
   ·exact h1
   ·exact Y3 hr h0 g hg
  ·exact⟨[],fun h=>absurd h h0,fun g hg=>by rw[List.mem_singleton.1 hg];exact h1⟩⟩
 obtain⟨Ls,hLs,HG⟩:=hG.out;replace hLs:=Qa.mk hLs;replace HG:=Qa.mk HG;have HP:=Qa.mk (Aa hd);have hD:=Qa.mk hd;have hmk: ∀W:World,(Instr.makeSlice 22 (.int .i64 (128:Int)) (.int .i64 (128:Int))).run Tryz.prog W= .ok (sV W.heap.size) (W.alloc (.cells (List.replicate 128 (Value.int .i64 0)).toArray 3)):=Sec.X9 128 (by omega);obtain⟨Z0,hZ0⟩: ∃Z0,Z0=(List.replicate 128 (Value.int .i64 0)).toArray :=⟨_,rfl⟩;rw[<-hZ0] at hmk;have hZ:Qa (Z0=((Z9 sh gs c 0).map (Value.int .i64)).toArray):=⟨by rw[hZ0];simp[Z9]⟩;have hdT:(if Zc sh gs=true then(0:Int) else 1)=0:=if_pos hd;rw[h128];have HCk:=Qa.mk (fun W (hb:Below w.heap.size w W)=>hCk W (HR.out W hb));rw[hdT] at HCk;clear hL hr hd hc h128 hB hCk hG hZ0 hdT;refine(callsIn_wide (n:=3)).1 ?_;refine callsIn_of_wp_marks Tryz.func76 rfl trivial ?_ rfl;simp only[Tryz.ntmps76,List.size_toArray,List.length_cons,List.length_nil,Nat.reduceAdd,Nat.reduceSub,Array.replicate_succ,Array.replicate_zero,List.push_toArray,List.append_toArray,List.nil_append,List.cons_append];gi_wp2_with fail;obtain⟨W0,hW0⟩: ∃W0,W0=w.alloc (.cells #[.func (.func 77) #[] #[.pointer (some ⟨Bc,0,none⟩)]] 94):=⟨_,rfl⟩;have hR0:=(Rws.start w).alloc #[.func (.func 77) #[] #[.pointer (some ⟨Bc,0,none⟩)]] 94;simp only[List.nil_append] at hR0;rw[<-hW0] at hR0 ⊢;clear hW0;refine⟨trivial,(callsIn_wide.2 (HCk.out W0 hR0.below)).mono ?_⟩;rintro en W1 ⟨rfl,hb1⟩;have hR1:=(((hR0.step hb1).alloc Z0 3).alloc #[sV W1.heap.size] 22).alloc #[.int .i64 0] 3;simp only[World.size_alloc,List.nil_append,List.cons_append] at hR1;clear hR0 hb1;gi_wp2_with fail;obtain⟨W2,hW2⟩: ∃W,W=((W1.alloc (.cells Z0 3)).alloc (.cells #[sV W1.heap.size] 22)).alloc (.cells #[.int .i64 0] 3):=⟨_,rfl⟩;rw[<-hW2] at hR1 ⊢;clear hW2;obtain⟨gx,hgx⟩: ∃g,g=W1.heap.size:=⟨_,rfl⟩;rw[<-hgx] at hR1 ⊢;have hgw:=Qa.mk (show w.heap.size<=gx from ge_ hR1 1 rfl);obtain⟨b2,hb2⟩: ∃g,g=gx+1:=⟨_,rfl⟩;obtain⟨gi,hgi⟩: ∃g,g=b2+1:=⟨_,rfl⟩;rw[<-hb2,<-hgi] at hR1 ⊢;rw[hZ.out] at hR1;clear hgx hmk W1 hb2 hgi;refine⟨trivial,(callsIn_wide.2 (Qae sh A gs.length ca W2)).mono ?_⟩;rintro en W3 ⟨rfl,hW3⟩;have hb3:Below W2.heap.size W2 W3:=(by rw[hW3];exact((Below.refl _ _).alloc (Nat.le_refl _) _).alloc (by simp) _);have hR3:=hR1.step hb3;have e1:W3.cell? ⟨W2.heap.size,0,none⟩=some (.bool sh):=(by rw[hW3];go_simp);have e2:W3.cell? ⟨W2.heap.size+1,0,none⟩=some (.slice A gs.length ca):=(by rw[hW3];go_simp);have hr3:=HR.out W3 hR3.below;have hL3:=HL.out W3 hR3.below;have hs3:=Qa.mk hR3.below.size;clear hW3 hR1 hb3;obtain⟨B1,hB1⟩: ∃g,g=W2.heap.size:=⟨_,rfl⟩;rw[<-hB1] at e1 e2 ⊢;clear hB1 W2;gi_wp2_with fail
 refine Xw rfl (by omega) (gf:=176) (lb:= #[.pointer (some ⟨B1,0,none⟩),.pointer (some ⟨B1+1,0,none⟩)]) rfl trivial (enters_of Tryz.func176 (by kernel_rfl) rfl)
  (Qad Fence.wide _ trivial rfl (by omega) B1 (B1+1) sh A ca gs hD.out W3 hL3 hr3 e1 e2 Ls hLs.out)
  (fun h k=>h.trans k) ?keep (Below.refl _ _) (fun _=>rfl) (fun k W=>Rws w W [] (mvG w.heap.size gx b2 gi Bc (Z9 sh gs c k) k)) ?own ?start ?round ?done
 case keep=>exact Qz.putObj (N:=W3.heap.size) (fun g hg=>by have:=HG.out g hg;have:=hs3.out;omega)
 case own=>exact fun j W W' row h hg hrow=>Sec.Rws.Jf h hg (fun r e=>⟨by have:=(hrow r e).1;have:=hs3.out;omega,(hrow r e).2⟩)
 case start=>exact hR3
 case round=>
  rintro L k W hRw hk;have hp:=HP.out k hk;have hkT:=Qa.mk hk;obtain⟨p,hpE⟩: ∃p,p=Gp sh gs k:=⟨_,rfl⟩;have hst:Qa (Z9 sh gs c (k+1)=(Z9 sh gs c k).set p (rd c k)):=⟨by rw[hpE];rfl⟩;rw[<-hpE] at hp ⊢;have hkI:(k:Int)<=127:=(by omega);clear hpE hk;gi_wp2_with fail;refine⟨(KeepsOthers.refl W).from _,Qz.refl _ _,fun Z=>Rws w Z [] (mvG w.heap.size gx b2 gi Bc (Z9 sh gs c k) k),hRw,fun _ Z Z' row h hg hrow=>Sec.Rws.Jf h hg (fun r e=>⟨by have:=(hrow r e).1;have:=hs3.out;omega,(hrow r e).2⟩),?_⟩;clear hRw;rintro Z hRw;have z0:Z.cell? ⟨w.heap.size,0,none⟩=some (.func (.func 77) #[] #[.pointer (some ⟨Bc,0,none⟩)]):=(by rw[Qb (at_ hRw 0 rfl)];rfl);have z2:Z.cell? ⟨b2,0,none⟩=some (sV gx):=(by rw[Qb (at_ hRw 2 rfl)];rfl);have z3:Z.cell? ⟨gi,0,none⟩=some (.int .i64 k):=(by rw[Qb (at_ hRw 3 rfl)];rfl);obtain⟨X,hX⟩: ∃X,X=Z9 sh gs c k:=⟨_,rfl⟩;have hXl:X.length=128:=(by rw[hX,Jl]);rw[<-hX] at hRw hst;have hpl:p<X.length:=(by omega);have zp:Z.cell? ⟨gx,p,none⟩=some (.int .i64 X[p]):=(by rw[Qb (at_ hRw 1 rfl)];simp[hpl]);have HPt:=Qa.mk (Ui Bc gx k p al cc (rd c k) X[p] Z (HB.out Z hRw.below) (HC.out Z hRw.below k hkT.out) hkT.out hp zp (Qj (at_ hRw 1 rfl) p));have hR4:=Ki hRw 1 rfl p (.int .i64 (rd c k));have hK4:=KeepsOthers.setCell Z ⟨gx,p,none⟩ (.int .i64 (rd c k));have hL4:=Sec.Qz.set (gs:=1::Ls) HG.out (Qz.refl _ Z) (p:=⟨gx,p,none⟩) hgw.out (.int .i64 (rd c k));have hXE:((List.map (Value.int .i64) X).toArray.setIfInBounds p (.int .i64 (rd c k)))=(List.map (Value.int .i64) (Z9 sh gs c (k+1))).toArray :=(by rw[hst.out];simp);dsimp only at hR4;rw[hXE] at hR4;obtain⟨V,hV⟩: ∃V,V=Z.setCell ⟨gx,p,none⟩ (.int .i64 (rd c k)):=⟨_,rfl⟩;rw[<-hV] at hR4 hK4 hL4 HPt;replace hR4:=Qa.mk (show Rws w V [] (mvG w.heap.size gx b2 gi Bc (Z9 sh gs c (k+1)) k) from hR4);clear hX hXl hst hXE zp hRw hV hp hpl;gi_wp2_with fail;refine⟨trivial,CallsIn.inRound L (callsIn_wide.2 (HPt.out.mono ?_))⟩;rintro en V' ⟨⟨v,rfl⟩,rfl⟩;have y3:V'.cell? ⟨gi,0,none⟩=some (.int .i64 k):=(by rw[Qb (at_ hR4.out 3 rfl)];rfl);have f3:=Qj (at_ hR4.out 3 rfl) 0;have hR5:=Qa.mk (Ki hR4.out 3 rfl 0 (.int .i64 ((k:Int)+1)));have hK5:=Qa.mk (hK4.trans (KeepsOthers.setCell V' ⟨gi,0,none⟩ (.int .i64 ((k:Int)+1))));have hL5:=Qa.mk (Sec.Qz.set HG.out hL4 (p:=⟨gi,0,none⟩) (ge_ hR4.out 3 rfl) (.int .i64 ((k:Int)+1)));clear hR4 hK4 hL4 HPt z0 z2 z3;gi_wp2;exact⟨hK5.out.from _,hL5.out,hR5.out⟩
 case done=>
  rintro D W hD hRw hDf;have hbe:=Qa.mk (Sec.Rws.Jf hRw (grownBy_putObj' W D (.deferred none)) (fun r e=>by cases e;exact⟨by have:=hs3.out;omega,_,hDf,rfl⟩));have z2:W.cell? ⟨b2,0,none⟩=some (sV gx):=(by rw[Qb (at_ hRw 2 rfl)];rfl);clear hRw;gi_wp2;refine⟨by simp,.inl ⟨_,_,rfl,run_takeDeferred hDf,?_⟩⟩;exact⟨.tuple #[sV gx,.int .i64 0],by simp[results,Tryz.f76,go_sem],gx,rfl,at_ hbe.out 1 rfl,hgw.out,hbe.out.below⟩
theorem Mg (A C:Option Addr) (ca cc:Nat) (sh:Bool) (gs c:List Int) (w:World) (hL:Laid w) (hr:(Kd.int .i64).C w A gs.length gs) (hd:Zc sh gs=true) (hc:(Kd.int .i64).C w C c.length c) (h128:c.length=128):
  Calls Tryz.prog 40 #[.slice C c.length cc,.bool sh,.slice A gs.length ca] w fun e w'=> ∃g,e= .returned (.tuple #[sV g,.int .i64 0])/\w'.heap[g]? =some (.cells ((Z9 sh gs c 128).map (Value.int .i64)).toArray 3 (0,0))/\w.heap.size<=g/\Below w.heap.size w w':=by
 obtain⟨W0,hW0⟩: ∃W0,W0=w.alloc (.cells #[.slice C c.length cc] 22):=⟨_,rfl⟩;have hb:Below w.heap.size w W0:=(by rw[hW0];exact(Below.refl _ _).alloc (Nat.le_refl _) _);have c0:W0.cell? ⟨w.heap.size,0,none⟩=some (.slice C c.length cc):=(by rw[hW0];simp[go_sem]);have HM:=Qa.mk (I8 w.heap.size A C ca cc sh gs c W0 (hL.below hb) (Kd.Qf hr hb) hd (Kd.Qf hc hb) h128 c0);clear hL hr hd hc h128;go_enter Tryz.func40,Tryz.ntmps40;go_wp2_with fail;rw[<-hW0];refine HM.out.mono ?_;rintro e w1 ⟨g,rfl,h1,h2,h3⟩;have hf:=Qa.mk (And.intro h1 (And.intro (Nat.le_trans hb.size h2) (bnx hb h3)));clear h1 h2 h3 HM hW0 c0 hb;go_wp2;go_ret2;exact⟨g,rfl,hf.out⟩
end Bd

namespace Sec
attribute [local go_sem] Qh Qi Qk Ql Qd Qe
open Q15
open Bk
def Qo (s:List (Int×Int)):List Int:=(s.map fun p=>List.replicate p.2.toNat p.1).flatten
theorem Gf (p:Int×Int) (s:List (Int×Int)):Qo (p::s)=List.replicate p.2.toNat p.1++Qo s:=rfl
def cbk (C:Nat->Nat->Int):Nat->List Int->Int
 |_,[]=>0
 |o,b::bs=>C b.toNat o+cbk C (o+1) bs
def sumC (C:Nat->Nat->Int) (k:Nat) (o:Nat):Nat->Int
 |0=>0
 |t+1=>sumC C k o t+C k (o+t)
theorem H7 (C:Nat->Nat->Int): ∀(a b:List Int) (o:Nat),cbk C o (a++b)=cbk C o a+cbk C (o+a.length) b
 |[],b,o=>by simp[cbk]
 |x::a,b,o=>by
  show C x.toNat o+cbk C (o+1) (a++b)=(C x.toNat o+cbk C (o+1) a)+cbk C (o+(a.length+1)) b
  rw[H7 C a b (o+1),show o+(a.length+1)=o+1+a.length by omega];omega
theorem Qcs (C:Nat->Nat->Int) (k:Nat) (o:Nat): ∀t,cbk C o (List.replicate t (k:Int))=sumC C k o t
 |0=>rfl
 |t+1=>by
  rw[List.replicate_succ',H7,Qcs C k o t,List.length_replicate];simp[cbk,sumC]
def Z7 (s:List (Int×Int)):Int:=(s.map fun p=>3+Xb p.2).sum
def AdjS:List (Int×Int)->Prop
 |[]=>True
 |[_]=>True
 |p::q::s=>p.1≠q.1/\AdjS (q::s)
structure OkS (C:Nat->Nat->Int) (n o:Nat) (r:Wy):Prop where
 el: ∀p∈r.secs,0<=p.1/\p.1<8/\1<=p.2/\p.2<=128
 adj:AdjS r.secs
 bk:r.books=Qo r.secs
 len:o+r.books.length=n
 cost:r.cost=Z7 r.secs+cbk C o r.books
 fits: ∀j,j<r.books.length->0<=C (rd r.books j).toNat (o+j)
theorem cand_ok {C:Nat->Nat->Int} {n o k t:Nat} {s:Int} {r:Wy} (hk:k<8) (ht:t+1<=128) (hr:OkS C n (o+(t+1)) r) (hs:s=sumC C k o (t+1)) (hf: ∀u,u<t+1->0<=C k (o+u)) (hh:headW r k=false):OkS C n o (J3 k t s r):=by
 obtain⟨a1,a2,a3,a4,a5,a6⟩:=hr;have hn2:((t+1:Nat):Int).toNat =t+1:=Int.toNat_natCast _;refine⟨?_,?_,?_,?_,?_,?_⟩
 ·intro p hp
  rcases List.mem_cons.1 hp with rfl|hp
  ·exact⟨by omega,by omega,by omega,by omega⟩
  ·exact a1 p hp
 ·show AdjS (((k:Int),((t+1:Nat):Int))::r.secs)
  cases hq:r.secs with
  |nil=>trivial
  |cons q s'=>
   refine⟨fun e=> ?_,by rw[<-hq];exact a2⟩;have hq1:=a1 q (by rw[hq];simp);unfold headW at hh;rw[a3,hq,Gf,show q.2.toNat=(q.2.toNat-1)+1 by omega,List.replicate_succ] at hh;dsimp only at e;rw[<-e] at hh;simp at hh
 ·show List.replicate (t+1) (k:Int)++r.books=Qo (((k:Int),((t+1:Nat):Int))::r.secs)
  rw[Gf,a3];rfl
 ·show o+(List.replicate (t+1) (k:Int)++r.books).length =n
  rw[List.length_append,List.length_replicate];omega
 ·show 3+Xb ((t+1:Nat):Int)+s+r.cost=Z7 (((k:Int),((t+1:Nat):Int))::r.secs)+cbk C o (List.replicate (t+1) (k:Int)++r.books)
  rw[H7,Qcs,List.length_replicate,hs,a5]
  show _=3+Xb ((t+1:Nat):Int)+Z7 r.secs+_
  omega
 ·intro j hj
  show 0<=C (rd (List.replicate (t+1) (k:Int)++r.books) j).toNat (o+j)
  have hj':j<(List.replicate (t+1) (k:Int)++r.books).length :=hj;rw[List.length_append,List.length_replicate] at hj';unfold rd;rw[Int.toNat_natCast,List.getD_eq_getElem?_getD];by_cases h:j<t+1
  ·rw[List.getElem?_append_left (by simpa using h),List.getElem?_replicate,if_pos h]
   exact hf j h
  ·rw[List.getElem?_append_right (by simpa using Nat.le_of_not_lt h),List.length_replicate]
   have:=a6 (j-(t+1)) (by omega);unfold rd at this;rw[Int.toNat_natCast,List.getD_eq_getElem?_getD] at this;rw[show o+j=o+(t+1)+(j-(t+1)) by omega];exact this
theorem pick_ok {C:Nat->Nat->Int} {n o k t:Nat} {s:Int} {r:Wy} {top:Option Wy} (hk:k<8) (ht:t+1<=128) (hr:OkS C n (o+(t+1)) r) (hs:s=sumC C k o (t+1)) (hf: ∀u,u<t+1->0<=C k (o+u)) (htop: ∀a,top=some a->OkS C n o a): ∀a,U9 top k t s r=some a->OkS C n o a:=by
 intro a ha;unfold U9 at ha
 cases h:(Uh top (J3 k t s r).cost ||headW r k) with
 |true=>rw[if_pos h] at ha;exact htop a ha
 |false=>
  rw[if_neg (by rw[h];simp)] at ha;cases ha
  have hc:=cand_ok hk ht hr hs hf (by cases hh:headW r k with
   |false=>rfl
   |true=>rw[hh,Bool.or_true] at h;cases h)
  cases top with
  |none=>exact hc
  |some a=>
   show OkS C n o (if K8 (J3 k t s r).cost (J3 k t s r).books a.cost a.books=true then J3 k t s r else a)
   by_cases h2:K8 (J3 k t s r).cost (J3 k t s r).books a.cost a.books=true
   ·rw[if_pos h2];exact hc
   ·rw[if_neg h2];exact htop a rfl
theorem jL_ok {C:Nat->Nat->Int} {n o k:Nat} {l:List Wy} (hk:k<8) (hM: ∀t,o+t<n->t+1<=128) (hl: ∀t,o+t<n->OkS C n (o+(t+1)) (l.getD t w0)): ∀(m t:Nat) (s:Int) (top:Option Wy),o+t+m=n->s=sumC C k o t->(∀u,u<t->0<=C k (o+u))->(∀a,top=some a->OkS C n o a)-> ∀a,jL (fun t=>C k (o+t)) l k m t s top=some a->OkS C n o a
 |0,_,_,top,_,_,_,h=>h
 |m+1,t,s,top,hm,hs,hf,ht=>by
  intro a ha;rw[jL] at ha;by_cases hn:C k (o+t)<0
  ·rw[if_pos hn] at ha
   exact ht a ha
  ·rw[if_neg hn] at ha
   have hs2:s+C k (o+t)=sumC C k o (t+1):=by rw[hs];rfl
   have hf2: ∀u,u<t+1->0<=C k (o+u):=fun u hu=>by
    by_cases h:u<t
    ·exact hf u h
    ·obtain rfl:u=t:=by omega
     omega
   exact jL_ok hk hM hl m (t+1) _ _ (by omega) hs2 hf2 (pick_ok hk (hM t (by omega)) (hl t (by omega)) hs2 hf2 ht) a ha
def Xe (ws l:List Int):Nat->Nat->Int:=fun k j=>Q5 k (Xf ws l j)
theorem kTo_ok {ws l:List Int} {m:Nat} {L:List Wy} (hok:Ok ws l) (hm:m+1<=ws.length) (hl: ∀t,t<=m->OkS (Xe ws l) ws.length (ws.length-(m+1)+(t+1)) (L.getD t w0)): ∀q,q<=8-> ∀a,kTo (cB ws l (m+1)) L (m+1) q=some a->OkS (Xe ws l) ws.length (ws.length-(m+1)) a
 |0,_=>fun a ha=>by cases ha
 |q+1,hq=>fun a ha=>by
  rw[K6] at ha;exact jL_ok (C:=Xe ws l) (o:=ws.length-(m+1)) (k:=q) (by omega) (fun t ht=>by have:=hok.len;omega) (fun t ht=>hl t (by omega)) (m+1) 0 0 _ (by omega) rfl (fun u hu=>by omega) (kTo_ok hok hm hl q (by omega)) a ha
theorem wL_ok {ws l:List Int} (hok:Ok ws l): ∀m,m<=ws.length->OkS (Xe ws l) ws.length (ws.length-m) ((wL ws l m).getD 0 w0)
 |0,_=>⟨fun p hp=>(by cases hp),trivial,rfl,(by simp[wL,w0]),rfl,fun j hj=>(by simp[wL,w0] at hj)⟩
 |m+1,h=>by
  obtain⟨a,ha,he⟩:=kTo_ne hok (m:=m) h;rw[he];refine kTo_ok hok h (fun t ht=> ?_) 8 (Nat.le_refl _) a ha;rw[Sw ws l m t ht];have:=wL_ok hok (m-t) (by omega)
  rwa [show ws.length-(m+1)+(t+1)=ws.length-(m-t) by omega]
end Sec

end Go.Proofs.YtnflnicdjioflaaGreatDoor
