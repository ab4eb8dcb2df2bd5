/- A part of the proof. -/
import Derived.Test.YtnflnicdjioflaaGreatDoorMdax
set_option linter.unusedVariables false
set_option linter.unusedSimpArgs false
set_option maxRecDepth 100000
set_option maxHeartbeats 8000000
namespace Go.Proofs.YtnflnicdjioflaaGreatDoor
open Go.RowKit Go.Proofs.YtnflnicdjioflaaGreatDoorW.PrintWords Go.Proofs.YtnflnicdjioflaaGreatDoorW.PrintLast Go.Proofs.YtnflnicdjioflaaGreatDoorW.PrintMore
namespace St
attribute [local go_sem] Qi Qj Qk Ql Qg Qh
open Q15
open Q16 (isW Q0 off wd Za)
def Y5 (ws:List Int) (mid:List Bool):Nat->List Bool
 |0=>[]
 |k+1=>Y5 ws mid k++List.replicate (wd ws k) (mid.getD k false)
def Hy (l r:List Int) (fl:List Bool):List Int:=(List.range l.length).map fun i=>if fl.getD i false=true then sideL (rd l i) (rd r i) else rd l i
def Hz (l r:List Int) (fl:List Bool):List Int:=(List.range l.length).map fun i=>if fl.getD i false=true then Qa4 (rd l i) (rd r i) else rd r i
theorem N9 {ws:List Int} (hw:isW ws=true) (mid:List Bool): ∀k,k<=ws.length->(Y5 ws mid k).length =off ws k
 |0,_=>by simp[Y5,off]
 |k+1,hk=>by rw[Y5,List.length_append,N9 hw mid k (by omega),List.length_replicate,(Za hw (by omega)).1]
theorem Ij {ws:List Int} (hw:isW ws=true) (mid:List Bool) {k i:Nat} (h1:off ws k<=i) (h2:i<off ws (k+1)): ∀n,k<n->n<=ws.length->(Y5 ws mid n).getD i false=mid.getD k false
 |0,h,_=>absurd h (by omega)
 |n+1,h,hn=>by
  have hl:=N9 hw mid n (by omega);have hm:=N9 hw mid (k+1) (by omega);unfold Y5;rw[List.getD_eq_getElem?_getD];by_cases hk:k<n
  ·have h3:=Ij hw mid h1 h2 n hk (by omega)
   rw[List.getD_eq_getElem?_getD] at h3;rw[List.getElem?_append_left ?_,h3]
   have:off ws (k+1)<=off ws n:=by
    have hmono: ∀d,k+1+d<=ws.length->off ws (k+1)<=off ws (k+1+d):=fun d=>by
     induction d with
     |zero=>intro _;exact Nat.le_refl _
     |succ d ih=>intro hd;have:=ih (by omega);have:=(Za hw (k:=k+1+d) (by omega)).1;rw[<-Nat.add_assoc,this];omega
    have:=hmono (n-(k+1)) (by omega)
    rwa [show k+1+(n-(k+1))=n by omega] at this
   omega
  ·obtain rfl:k=n:=by omega
   rw[(Za hw (by omega:k<ws.length)).1] at h2;rw[List.getElem?_append_right (by omega),hl,List.getElem?_replicate,if_pos (by omega)];rfl
theorem rd_map {n:Nat} {f:Nat->Int} {i:Nat} (h:i<n):rd ((List.range n).map f) i=f i:=by rw[Jr _ _ (by simpa using h)];simp
theorem par_at {l r ws:List Int} {mid:List Bool} (hw:isW ws=true) (h1:l.length=128): ∀k,k<ws.length-> ∀i,off ws k<=i->i<off ws (k+1)->
  rd (Hy l r (Y5 ws mid ws.length)) i=(if mid.getD k false=true then sideL (rd l i) (rd r i) else rd l i)/\rd (Hz l r (Y5 ws mid ws.length)) i=(if mid.getD k false=true then Qa4 (rd l i) (rd r i) else rd r i):=fun k hk i hi hi2=>by
 have h3:=Ij hw mid hi hi2 ws.length hk (Nat.le_refl _);obtain⟨o1,o2,o3,-⟩:=Za hw hk;have hi9:i<l.length:=(by omega);unfold Hy Hz;rw[rd_map hi9,rd_map hi9,h3];exact⟨rfl,rfl⟩
def POut (l r ws:List Int) (mid:List Bool) (w:World) (e:Ending) (w':World):Prop:=
 ∃gx gy,e= .returned (.tuple #[sV gx,sV gy,.int .i64 0])/\w'.heap[gx]? =some (.cells ((Hy l r (Y5 ws mid ws.length)).map (Value.int .i64)).toArray 3 (0,0))/\w'.heap[gy]? =some (.cells ((Hz l r (Y5 ws mid ws.length)).map (Value.int .i64)).toArray 3 (0,0))/\w.heap.size<=gx/\w.heap.size<=gy/\gx≠gy/\Below w.heap.size w w'
theorem Qbe (A B C M:Option Addr) (ca cb cc cm:Nat) (l r ws:List Int) (mid:List Bool) (w:World) (hl:(Kd.int .i64).C w A l.length l) (hr:(Kd.int .i64).C w B r.length r) (hC:(Kd.int .i64).C w C ws.length ws) (hM:Kd.bool.C w M mid.length mid) (hw:isW ws=true) (l1:l.length=128) (l2:r.length=128) (l3:mid.length=ws.length)
  (hv: ∀k:Nat,k<128->(-8388608<=rd l k/\rd l k<=8388608)/\(-8388608<=rd r k/\rd r k<=8388608)):
  Calls Tryz.prog 38 #[.slice A l.length ca,.slice B r.length cb,.slice C ws.length cc,.slice M mid.length cm] w (POut l r ws mid w):=by
 have key: ∀W:World,Below w.heap.size w W->Calls Tryz.prog 74 #[.slice A l.length ca,.slice B r.length cb,.slice C ws.length cc,.slice M mid.length cm,.int .i64 8388608,.func (.func 75) #[] #[]] W (POut l r ws mid W):=fun W hb=>by
  have HK:=Qa.mk (Qdr A B C ca cb cc l r ws 8388608 W (Kd.Qe hl hb) (Kd.Qe hr hb) (Kd.Qe hC hb) hw l1 l2 (by omega) hv);have hx1:(Hy l r (Y5 ws mid ws.length)).length =128:=(by unfold Hy;rw[List.length_map,List.length_range,l1]);have hy1:(Hz l r (Y5 ws mid ws.length)).length =128:=(by unfold Hz;rw[List.length_map,List.length_range,l1]);have hpa:=par_at (r:=r) (mid:=mid) hw l1;obtain⟨fx,hfx⟩: ∃f,f=Hy l r (Y5 ws mid ws.length):=⟨_,rfl⟩;obtain⟨fy,hfy⟩: ∃f,f=Hz l r (Y5 ws mid ws.length):=⟨_,rfl⟩;unfold POut;rw[<-hfx] at hx1 hpa ⊢;rw[<-hfy] at hy1 hpa ⊢
  have hv2: ∀k:Nat,k<128->(-4294967296<=rd l k/\rd l k<=4294967296)/\(-4294967296<=rd r k/\rd r k<=4294967296):=fun k hk=>by
   have:=hv k hk;omega
  clear hfx hfy;have HCp:=Qa.mk (fun(V:World) (hb2:Below W.heap.size W V)=>Em A B C M ca cb cc cm l r ws fx fy mid V (Kd.Qe (Kd.Qe hl hb) hb2) (Kd.Qe (Kd.Qe hr hb) hb2) (Kd.Qe (Kd.Qe hC hb) hb2) (Kd.Qe (Kd.Qe hM hb) hb2) hw l1 l2 l3 hv2 hx1 hy1 hpa);have hn:((mid.length:Int) != (ws.length:Int))=false:=(by rw[bne_eq_false_iff_eq];omega);clear hl hr hC hM hv hv2 hb l1 l2 l3 hpa hx1 hy1 hw;go_enter Tryz.func74,Tryz.ntmps74;go_wp2_with fail;refine HK.out.mono ?_;rintro e W1 ⟨rfl,hb1⟩;go_wp2_with fail;refine(HCp.out _ hb1).mono ?_;rintro e W2 ⟨gx,gy,rfl,h1,h2,h3,h4,h5,hb2⟩;replace hb1:=hb1;have hb3:=bnx hb1 hb2;have hs:=hb1.size;have hfin:=Qa.mk (And.intro h1 (And.intro h2 (And.intro (Nat.le_trans hs h3) (And.intro (Nat.le_trans hs h4) (And.intro h5 hb3)))));clear h1 h2 h3 h4 h5 hb1 hb2 hb3 hs HK HCp;go_wp2;go_ret3;exact⟨gx,gy,rfl,hfin.out⟩
 have HK:=Qa.mk key;have hb:=Below.refl w.heap.size w;clear key hl hr hC hM hv l1 l2 l3 hw;unfold POut at*;go_enter Tryz.func38,Tryz.ntmps38;go_wp2_with fail;refine(HK.out _ hb).mono ?_;rintro e W2 ⟨gx,gy,rfl,hfin⟩;replace hfin:=Qa.mk hfin;go_wp2;go_ret3;exact⟨gx,gy,rfl,hfin.out⟩
end St

namespace Bd
attribute [local go_sem] Qi Qj Qk Ql Qg Qh
open Q15
open Runs Go.Shelf
open Q21
open Sec (Qy Zv Ja)
open St (at_ ge_ Gl sV)
open Bts (Rws Blk Rws.start)
attribute [local go_sem] Oper.semAt_some
def Ye (sh:Bool) (g c:List Int):Nat->List Int
 |0=>List.replicate 128 0
 |k+1=>(Ye sh g c k).set (posL sh g k) (rd c k)
theorem Fu (sh:Bool) (g c:List Int): ∀k,(Ye sh g c k).length =128
 |0=>by simp[Ye]
 |k+1=>by rw[Ye,List.length_set,Fu sh g c k]
theorem Ur (B g i p:Nat) (a:Addr) (ca:Nat) (x v:Int) (w:World) (hB:w.cell? ⟨B,0,none⟩=some (.slice (some a) 128 ca)) (hc:w.cell? (a.add i)=some (.int .i64 x)) (hi:i<128) (hp:p<128) (hz:w.cell? ⟨g,p,none⟩=some (.int .i64 v)) (hf:w.frozen? ⟨g,p,none⟩=false):
  Calls Tryz.prog 77 #[sV g,.int .i64 i,.int .i64 p,.pointer (some ⟨B,0,none⟩)] w fun e w'=>(∃v,e= .returned v)/\w'=w.setCell ⟨g,p,none⟩ (.int .i64 x):=by
 have h1:(i:Int)<=127:=(by omega);have h2:(p:Int)<=127:=(by omega);have h3: ¬(128:Int)<=i:=(by omega);have h4: ¬(128:Int)<=p:=(by omega);clear hi hp;go_enter Tryz.func77,Tryz.ntmps77;go_wp2;go_end0;exact⟨⟨_,rfl⟩,rfl⟩
theorem Qag (sh:Bool) (A:Option Addr) (n c:Nat) (w:World):
  Calls Tryz.prog 126 #[.bool sh,.slice A n c] w fun en w'=>en= .returned (.func (.func 176) #[] #[.pointer (some ⟨w.heap.size,0,none⟩),.pointer (some ⟨w.heap.size+1,0,none⟩)])/\w'=(w.alloc (.cells #[.bool sh] 4)).alloc (.cells #[.slice A n c] 22):=by
 go_enter Tryz.func126,Tryz.ntmps126;go_wp2;go_ret;exact⟨rfl,rfl⟩
abbrev mvG (b0 gx b2 gi Bc:Nat) (X:List Int) (k:Nat):List Blk:=[⟨b0, #[.func (.func 77) #[] #[.pointer (some ⟨Bc,0,none⟩)]],94⟩,⟨gx,(X.map (Value.int .i64)).toArray,3⟩,⟨b2, #[sV gx],22⟩,⟨gi, #[.int .i64 k],3⟩]
theorem Qaa (Bc:Nat) (A C:Option Addr) (ca cc:Nat) (sh:Bool) (gs c:List Int) (w:World) (hL:Laid w) (hr:(Kd.int .i64).C w A gs.length gs) (hd:Zd sh gs=true) (hc:(Kd.int .i64).C w C c.length c) (h128:c.length=128) (hB:w.cell? ⟨Bc,0,none⟩=some (.slice C c.length cc)):
  Calls Tryz.prog 76 #[.slice C c.length cc,.bool sh,.slice A gs.length ca,.func (.func 77) #[] #[.pointer (some ⟨Bc,0,none⟩)]] w fun e w'=> ∃g,e= .returned (.tuple #[sV g,.int .i64 0])/\w'.heap[g]? =some (.cells ((Ye sh gs c 128).map (Value.int .i64)).toArray 3 (0,0))/\w.heap.size<=g/\Below w.heap.size w w':=by
 obtain⟨al,rfl,-⟩:=Qq hc (Below.refl _ _) (k:=0) (by omega);have HC:=Qa.mk (fun W (hb:Below w.heap.size w W) k (hk:k<128)=>(show W.cell? (al.add k)=some (.int .i64 (rd c k)) by obtain⟨a,e,q⟩:=Qq hc hb (k:=k) (by omega);cases e;exact q));have HR:=Qa.mk (fun W (hb:Below w.heap.size w W)=>Kd.Qe hr hb);have HL:=Qa.mk (fun W (hb:Below w.heap.size w W)=>hL.below hb);rw[h128] at hB;have HB:=Qa.mk (fun W (hb:Below w.heap.size w W)=>cnx hB hb);have hCk:=Yi sh A ca gs
 have hG:Qa (∃Ls:List Nat,(0<gs.length-> ∀g∈Zv A,g∈Ls)/\ ∀g∈1::Ls,g<w.heap.size):=⟨by
  have h1:1<w.heap.size:=World.block_lt_of_cell? w _ hL.short.1;by_cases h0:0<gs.length
  ·refine⟨Zv A,fun _ _ h=>h,fun g hg=> ?_⟩
   rcases List.mem_cons.1 hg with rfl|hg
   ·exact h1
   ·exact Ja hr h0 g hg
  ·exact⟨[],fun h=>absurd h h0,fun g hg=>by rw[List.mem_singleton.1 hg];exact h1⟩⟩
 obtain⟨Ls,hLs,HG⟩:=hG.out;replace hLs:=Qa.mk hLs;replace HG:=Qa.mk HG;have HP:=Qa.mk (posL_bd hd);have hD:=Qa.mk hd;have hmk: ∀W:World,(Instr.makeSlice 22 (.int .i64 (128:Int)) (.int .i64 (128:Int))).run Tryz.prog W= .ok (sV W.heap.size) (W.alloc (.cells (List.replicate 128 (Value.int .i64 0)).toArray 3)):=Sec.Ym 128 (by omega);obtain⟨Z0,hZ0⟩: ∃Z0,Z0=(List.replicate 128 (Value.int .i64 0)).toArray :=⟨_,rfl⟩;rw[<-hZ0] at hmk;have hZ:Qa (Z0=((Ye sh gs c 0).map (Value.int .i64)).toArray):=⟨by rw[hZ0];simp[Ye]⟩;have hdT:(if Zd sh gs=true then(0:Int) else 1)=0:=if_pos hd;rw[h128];have HCk:=Qa.mk (fun W (hb:Below w.heap.size w W)=>hCk W (HR.out W hb));rw[hdT] at HCk;clear hL hr hd hc h128 hB hCk hG hZ0 hdT;refine(callsIn_wide (n:=3)).1 ?_;refine callsIn_of_wp_marks Tryz.func76 rfl trivial ?_ rfl;simp only[Tryz.ntmps76,List.size_toArray,List.length_cons,List.length_nil,Nat.reduceAdd,Nat.reduceSub,Array.replicate_succ,Array.replicate_zero,List.push_toArray,List.append_toArray,List.nil_append,List.cons_append];gi_wp2_with fail;obtain⟨W0,hW0⟩: ∃W0,W0=w.alloc (.cells #[.func (.func 77) #[] #[.pointer (some ⟨Bc,0,none⟩)]] 94):=⟨_,rfl⟩;have hR0:=(Rws.start w).alloc #[.func (.func 77) #[] #[.pointer (some ⟨Bc,0,none⟩)]] 94;simp only[List.nil_append] at hR0;rw[<-hW0] at hR0 ⊢;clear hW0;refine⟨trivial,(callsIn_wide.2 (HCk.out W0 hR0.below)).mono ?_⟩;rintro en W1 ⟨rfl,hb1⟩;have hR1:=(((hR0.step hb1).alloc Z0 3).alloc #[sV W1.heap.size] 22).alloc #[.int .i64 0] 3;simp only[World.size_alloc,List.nil_append,List.cons_append] at hR1;clear hR0 hb1;gi_wp2_with fail;obtain⟨W2,hW2⟩: ∃W,W=((W1.alloc (.cells Z0 3)).alloc (.cells #[sV W1.heap.size] 22)).alloc (.cells #[.int .i64 0] 3):=⟨_,rfl⟩;rw[<-hW2] at hR1 ⊢;clear hW2;obtain⟨gx,hgx⟩: ∃g,g=W1.heap.size:=⟨_,rfl⟩;rw[<-hgx] at hR1 ⊢;have hgw:=Qa.mk (show w.heap.size<=gx from ge_ hR1 1 rfl);obtain⟨b2,hb2⟩: ∃g,g=gx+1:=⟨_,rfl⟩;obtain⟨gi,hgi⟩: ∃g,g=b2+1:=⟨_,rfl⟩;rw[<-hb2,<-hgi] at hR1 ⊢;rw[hZ.out] at hR1;clear hgx hmk W1 hb2 hgi;refine⟨trivial,(callsIn_wide.2 (Qag sh A gs.length ca W2)).mono ?_⟩;rintro en W3 ⟨rfl,hW3⟩;have hb3:Below W2.heap.size W2 W3:=(by rw[hW3];exact((Below.refl _ _).alloc (Nat.le_refl _) _).alloc (by simp) _);have hR3:=hR1.step hb3;have e1:W3.cell? ⟨W2.heap.size,0,none⟩=some (.bool sh):=(by rw[hW3];go_simp);have e2:W3.cell? ⟨W2.heap.size+1,0,none⟩=some (.slice A gs.length ca):=(by rw[hW3];go_simp);have hr3:=HR.out W3 hR3.below;have hL3:=HL.out W3 hR3.below;have hs3:=Qa.mk hR3.below.size;clear hW3 hR1 hb3;obtain⟨B1,hB1⟩: ∃g,g=W2.heap.size:=⟨_,rfl⟩;rw[<-hB1] at e1 e2 ⊢;clear hB1 W2;gi_wp2_with fail
 refine Xw rfl (by omega) (gf:=176) (lb:= #[.pointer (some ⟨B1,0,none⟩),.pointer (some ⟨B1+1,0,none⟩)]) rfl trivial (enters_of Tryz.func176 (by kernel_rfl) rfl)
  (Qaf Fence.wide _ trivial rfl (by omega) B1 (B1+1) sh A ca gs hD.out W3 hL3 hr3 e1 e2 Ls hLs.out)
  (fun h k=>h.trans k) ?keep (Below.refl _ _) (fun _=>rfl) (fun k W=>Rws w W [] (mvG w.heap.size gx b2 gi Bc (Ye sh gs c k) k)) ?own ?start ?round ?done
 case keep=>exact Qy.putObj (N:=W3.heap.size) (fun g hg=>by have:=HG.out g hg;have:=hs3.out;omega)
 case own=>exact fun j W W' row h hg hrow=>Sec.Rws.Jo h hg (fun r e=>⟨by have:=(hrow r e).1;have:=hs3.out;omega,(hrow r e).2⟩)
 case start=>exact hR3
 case round=>
  rintro L k W hRw hk;have hp:=HP.out k hk;have hkT:=Qa.mk hk;obtain⟨p,hpE⟩: ∃p,p=posL sh gs k:=⟨_,rfl⟩;have hst:Qa (Ye sh gs c (k+1)=(Ye sh gs c k).set p (rd c k)):=⟨by rw[hpE];rfl⟩;rw[<-hpE] at hp ⊢;have hkI:(k:Int)<=127:=(by omega);clear hpE hk;gi_wp2_with fail;refine⟨(KeepsOthers.refl W).from _,Qy.refl _ _,fun Z=>Rws w Z [] (mvG w.heap.size gx b2 gi Bc (Ye sh gs c k) k),hRw,fun _ Z Z' row h hg hrow=>Sec.Rws.Jo h hg (fun r e=>⟨by have:=(hrow r e).1;have:=hs3.out;omega,(hrow r e).2⟩),?_⟩;clear hRw;rintro Z hRw;have z0:Z.cell? ⟨w.heap.size,0,none⟩=some (.func (.func 77) #[] #[.pointer (some ⟨Bc,0,none⟩)]):=(by rw[Qb (at_ hRw 0 rfl)];rfl);have z2:Z.cell? ⟨b2,0,none⟩=some (sV gx):=(by rw[Qb (at_ hRw 2 rfl)];rfl);have z3:Z.cell? ⟨gi,0,none⟩=some (.int .i64 k):=(by rw[Qb (at_ hRw 3 rfl)];rfl);obtain⟨X,hX⟩: ∃X,X=Ye sh gs c k:=⟨_,rfl⟩;have hXl:X.length=128:=(by rw[hX,Fu]);rw[<-hX] at hRw hst;have hpl:p<X.length:=(by omega);have zp:Z.cell? ⟨gx,p,none⟩=some (.int .i64 X[p]):=(by rw[Qb (at_ hRw 1 rfl)];simp[hpl]);have HPt:=Qa.mk (Ur Bc gx k p al cc (rd c k) X[p] Z (HB.out Z hRw.below) (HC.out Z hRw.below k hkT.out) hkT.out hp zp (Qf (at_ hRw 1 rfl) p));have hR4:=Gl hRw 1 rfl p (.int .i64 (rd c k));have hK4:=KeepsOthers.setCell Z ⟨gx,p,none⟩ (.int .i64 (rd c k));have hL4:=Sec.Qy.set (gs:=1::Ls) HG.out (Qy.refl _ Z) (p:=⟨gx,p,none⟩) hgw.out (.int .i64 (rd c k));have hXE:((List.map (Value.int .i64) X).toArray.setIfInBounds p (.int .i64 (rd c k)))=(List.map (Value.int .i64) (Ye sh gs c (k+1))).toArray :=(by rw[hst.out];simp);dsimp only at hR4;rw[hXE] at hR4;obtain⟨V,hV⟩: ∃V,V=Z.setCell ⟨gx,p,none⟩ (.int .i64 (rd c k)):=⟨_,rfl⟩;rw[<-hV] at hR4 hK4 hL4 HPt;replace hR4:=Qa.mk (show Rws w V [] (mvG w.heap.size gx b2 gi Bc (Ye sh gs c (k+1)) k) from hR4);clear hX hXl hst hXE zp hRw hV hp hpl;gi_wp2_with fail;refine⟨trivial,CallsIn.inRound L (callsIn_wide.2 (HPt.out.mono ?_))⟩;rintro en V' ⟨⟨v,rfl⟩,rfl⟩;have y3:V'.cell? ⟨gi,0,none⟩=some (.int .i64 k):=(by rw[Qb (at_ hR4.out 3 rfl)];rfl);have f3:=Qf (at_ hR4.out 3 rfl) 0;have hR5:=Qa.mk (Gl hR4.out 3 rfl 0 (.int .i64 ((k:Int)+1)));have hK5:=Qa.mk (hK4.trans (KeepsOthers.setCell V' ⟨gi,0,none⟩ (.int .i64 ((k:Int)+1))));have hL5:=Qa.mk (Sec.Qy.set HG.out hL4 (p:=⟨gi,0,none⟩) (ge_ hR4.out 3 rfl) (.int .i64 ((k:Int)+1)));clear hR4 hK4 hL4 HPt z0 z2 z3;gi_wp2;exact⟨hK5.out.from _,hL5.out,hR5.out⟩
 case done=>
  rintro D W hD hRw hDf;have hbe:=Qa.mk (Sec.Rws.Jo hRw (grownBy_putObj' W D (.deferred none)) (fun r e=>by cases e;exact⟨by have:=hs3.out;omega,_,hDf,rfl⟩));have z2:W.cell? ⟨b2,0,none⟩=some (sV gx):=(by rw[Qb (at_ hRw 2 rfl)];rfl);clear hRw;gi_wp2;refine⟨by simp,.inl ⟨_,_,rfl,run_takeDeferred hDf,?_⟩⟩;exact⟨.tuple #[sV gx,.int .i64 0],by simp[results,Tryz.f76,go_sem],gx,rfl,at_ hbe.out 1 rfl,hgw.out,hbe.out.below⟩
theorem Ms (A C:Option Addr) (ca cc:Nat) (sh:Bool) (gs c:List Int) (w:World) (hL:Laid w) (hr:(Kd.int .i64).C w A gs.length gs) (hd:Zd sh gs=true) (hc:(Kd.int .i64).C w C c.length c) (h128:c.length=128):
  Calls Tryz.prog 40 #[.slice C c.length cc,.bool sh,.slice A gs.length ca] w fun e w'=> ∃g,e= .returned (.tuple #[sV g,.int .i64 0])/\w'.heap[g]? =some (.cells ((Ye sh gs c 128).map (Value.int .i64)).toArray 3 (0,0))/\w.heap.size<=g/\Below w.heap.size w w':=by
 obtain⟨W0,hW0⟩: ∃W0,W0=w.alloc (.cells #[.slice C c.length cc] 22):=⟨_,rfl⟩;have hb:Below w.heap.size w W0:=(by rw[hW0];exact(Below.refl _ _).alloc (Nat.le_refl _) _);have c0:W0.cell? ⟨w.heap.size,0,none⟩=some (.slice C c.length cc):=(by rw[hW0];simp[go_sem]);have HM:=Qa.mk (Qaa w.heap.size A C ca cc sh gs c W0 (hL.below hb) (Kd.Qe hr hb) hd (Kd.Qe hc hb) h128 c0);clear hL hr hd hc h128;go_enter Tryz.func40,Tryz.ntmps40;go_wp2_with fail;rw[<-hW0];refine HM.out.mono ?_;rintro e w1 ⟨g,rfl,h1,h2,h3⟩;have hf:=Qa.mk (And.intro h1 (And.intro (Nat.le_trans hb.size h2) (bnx hb h3)));clear h1 h2 h3 HM hW0 c0 hb;go_wp2;go_ret2;exact⟨g,rfl,hf.out⟩
end Bd

end Go.Proofs.YtnflnicdjioflaaGreatDoor
