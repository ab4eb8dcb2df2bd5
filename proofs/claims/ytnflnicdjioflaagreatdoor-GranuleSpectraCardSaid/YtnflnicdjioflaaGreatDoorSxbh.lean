/- A part of the proof. -/
import Derived.Test.YtnflnicdjioflaaGreatDoorSxbg
set_option linter.unusedVariables false
set_option linter.unusedSimpArgs false
set_option maxRecDepth 100000
set_option maxHeartbeats 8000000
namespace Go.Proofs.YtnflnicdjioflaaGreatDoor
open Go.RowKit Go.Proofs.YtnflnicdjioflaaGreatDoorW.PrintWords Go.Proofs.YtnflnicdjioflaaGreatDoorW.PrintLast Go.Proofs.YtnflnicdjioflaaGreatDoorW.PrintMore
namespace Sec
attribute [local go_sem] Qh Qi Qk Ql Qd Qe
open Q15
open Q21 (Qb Qj)
open Bts
open Bk
theorem Wr.other {w w1:World} {base p g:Nat} {q:Option Nat} {l:List Int} (h:Wr w base p q l) (hg:w.grownBy w1 (some g)) (hp:g≠p) (hq:some g≠q):Wr w1 base p q l:=by
 obtain⟨v,hB,hR,e,rest⟩:=h;refine⟨v,?_,?_,e,rest⟩
 ·exact(hg.block p (Qr hB) (fun e=>hp (Option.some.inj e).symm)).trans hB
 ·have h1:=Kd.Js (enc:=Value.int .u8) (h1:=fun _=>rfl) (ok:=fun k=>some k=v.ownBlock) (Kd.Yg (enc:=Value.int .u8) (h1:=fun _=>rfl) hR) (fun k hk=>hk.symm)
  have h2:=Kd.Cw h1 (fun k hk hlt=>hg.block k hlt (fun e2=>hq (by rw[e,<-hk];exact e2.symm)));exact Kd.Xz h2 (fun _ _=>trivial)
theorem Mq (w:World) (a:Addr) (u:Value):w.grownBy (w.setCell a u) (some a.block):=
 ⟨rfl,rfl,rfl,by simp[World.setCell],fun k hk hne=>Below.heap_setCell w a u k (fun e=>hne (by rw[e]))⟩
structure StW (w:World) (base p:Nat) (q:Option Nat) (L:List Int) (n:Int) (G:List Blk) (W:World):Prop where
 ex: ∃(bs:List Int) (q1:Option Nat),(bs.length:Int)=n/\Wr W base p q1 (L++bs)/\(q1=q\/ ∃g,q1=some g/\w.heap.size<=g)/\Ps p q1 W G
 kp:Kp p q w W
 ge: ∀b∈G,w.heap.size<=b.g
 gs:G.Pairwise (fun a b=>a.g≠b.g)
variable {w W W1:World} {base p:Nat} {q:Option Nat} {L:List Int} {n m:Int} {G G1 G2:List Blk}
theorem StW.start (hw:Wr w base p q L):StW w base p q L 0 [] w:=⟨⟨[],q,rfl,by rw[List.append_nil];exact hw,.inl rfl,fun b hb=>by cases hb⟩,Kp.refl _ _ _,fun b hb=>(by cases hb),.nil⟩
theorem StW.step (h:StW w base p q L n G W) (hb:Below W.heap.size W W1):StW w base p q L n G W1:=by
 obtain⟨⟨bs,q1,h1,h2,h3,h4⟩,h5,h6,h7⟩:=h;exact⟨⟨bs,q1,h1,h2.step hb,h3,h4.step hb⟩,h5.Zk (hb.mono h5.size),h6,h7⟩
theorem StW.turn {row:Option Nat} (h:StW w base p q L n G W) (hg:W.grownBy W1 row) (hr: ∀r,row=some r->w.heap.size<=r/\ ∃o:Obj,W.heap[r]? =some o/\o.isCells=false):StW w base p q L n G W1:=by
 obtain⟨⟨bs,q1,h1,h2,h3,h4⟩,h5,h6,h7⟩:=h;refine⟨⟨bs,q1,h1,h2.turn hg (fun r e=>(hr r e).2),h3,fun b hb=> ?_⟩,h5.grown hg (fun r e=>(hr r e).1),h6,h7⟩;obtain⟨g1,g2,g3⟩:=h4 b hb;exact⟨Yi g1 hg (fun r e=>(hr r e).2),g2,g3⟩
theorem StW.alloc (h:StW w base p q L n G W) (cs:Array Value) (t:Nat):StW w base p q L n (G++[⟨W.heap.size,cs,t⟩]) (W.alloc (.cells cs t)):=by
 obtain⟨⟨bs,q1,h1,h2,h3,h4⟩,h5,h6,h7⟩:=h;have hb:Below W.heap.size W (W.alloc (.cells cs t)):=(Below.refl _ _).alloc (Nat.le_refl _) _;refine⟨⟨bs,q1,h1,h2.step hb,h3,fun b hm=> ?_⟩,h5.Zk (hb.mono h5.size),fun b hm=> ?_,?_⟩
 ·rcases List.mem_append.1 hm with hm|hm
  ·exact h4.step hb b hm
  ·rw[List.mem_singleton.1 hm]
   refine⟨heap_alloc_new _ _,?_,fun e=> ?_⟩
   ·have:=h2.plt
    show W.heap.size≠p
    omega
   ·have:=(h2.Ni W.heap.size e.symm).2
    omega
 ·rcases List.mem_append.1 hm with hm|hm
  ·exact h6 b hm
  ·rw[List.mem_singleton.1 hm]
   exact h5.size
 ·refine List.pairwise_append.2 ⟨h7,List.pairwise_singleton _ _,fun a ha c hc=> ?_⟩
  rw[List.mem_singleton.1 hc];have:=Qr (h4 a ha).1
  show a.g≠W.heap.size
  omega
theorem StW.set {b:Blk} (h:StW w base p q L n (G1++b::G2) W) (i:Nat) (u:Value):StW w base p q L n (G1++⟨b.g,b.cs.setIfInBounds i u,b.t⟩::G2) (W.setCell ⟨b.g,i,none⟩ u):=by
 obtain⟨⟨bs,q1,h1,h2,h3,h4⟩,h5,h6,h7⟩:=h;obtain⟨k1,k2,k3⟩:=h4 b (by simp);have hpw:=List.pairwise_append.1 h7;have hpc:=List.pairwise_cons.1 hpw.2.1;refine⟨⟨bs,q1,h1,Wr.other h2 (Mq _ _ _) k2 k3,h3,fun c hc=> ?_⟩,h5.setQ (.inr (h6 b (by simp))) i u,fun c hc=> ?_,?_⟩
 ·have hoth: ∀c∈G1++G2,c.g≠b.g:=fun c hc=>by
   rcases List.mem_append.1 hc with hc|hc
   ·exact hpw.2.2 c hc b (by simp)
   ·exact fun e=>hpc.1 c hc e.symm
  have hfar: ∀c∈G1++G2,(W.setCell ⟨b.g,i,none⟩ u).heap[c.g]? =some (.cells c.cs c.t (0,0))/\c.g≠p/\some c.g≠q1:=fun c hc=>by
   obtain⟨j1,j2,j3⟩:=h4 c (by rcases List.mem_append.1 hc with h|h<;>simp[h]);exact⟨X4 j1 (p:=⟨b.g,i,none⟩) (hoth c hc) u,j2,j3⟩
  rcases List.mem_append.1 hc with hc|hc
  ·exact hfar c (by simp[hc])
  ·rcases List.mem_cons.1 hc with rfl|hc
   ·exact⟨Q9 k1 i u,k2,k3⟩
   ·exact hfar c (by simp[hc])
 ·rcases List.mem_append.1 hc with hc|hc
  ·exact h6 c (by simp[hc])
  ·rcases List.mem_cons.1 hc with rfl|hc
   ·exact h6 b (by simp)
   ·exact h6 c (by simp[hc])
 ·refine List.pairwise_append.2 ⟨hpw.1,List.pairwise_cons.2 ⟨hpc.1,hpc.2⟩,fun a ha c hc=> ?_⟩
  rcases List.mem_cons.1 hc with rfl|hc
  ·exact hpw.2.2 a ha b (by simp)
  ·exact hpw.2.2 a ha c (by simp[hc])
theorem StW.drop (h:StW w base p q L n (G1++G2) W):StW w base p q L n G1 W:=by
 obtain⟨⟨bs,q1,h1,h2,h3,h4⟩,h5,h6,h7⟩:=h;exact⟨⟨bs,q1,h1,h2,h3,fun b hb=>h4 b (by simp[hb])⟩,h5,fun b hb=>h6 b (by simp[hb]),(List.pairwise_append.1 h7).1⟩
theorem StW.blk (h:StW w base p q L n G W) {b:Blk} (hb:b∈G):W.heap[b.g]? =some (.cells b.cs b.t (0,0)):=by
 obtain⟨⟨bs,q1,h1,h2,h3,h4⟩,_⟩:=h;exact(h4 b hb).1
theorem StW.wrote {q1:Option Nat} {bs more:List Int} (h1:(bs.length:Int)=n) (h3:q1=q\/ ∃g,q1=some g/\w.heap.size<=g) (h4:Ps p q1 W G) (h5:Kp p q w W) (h6: ∀b∈G,w.heap.size<=b.g) (h7:G.Pairwise (fun a b=>a.g≠b.g))
  (hP:WrP base p q1 (L++bs++more) W W1) (hm:(more.length:Int)=m):StW w base p q L (n+m) G W1:=by
 obtain⟨q2,k1,k2,k3⟩:=hP;refine⟨⟨bs++more,q2,by rw[List.length_append,<-h1,<-hm];push_cast;rfl,by rw[<-List.append_assoc];exact k1,?_,h4.kp k3 k2⟩,h5.trans k3 h3,h6,h7⟩;rcases k2 with e|⟨g,e,hg⟩
 ·rw[e];exact h3
 ·exact .inr ⟨g,e,Nat.le_trans h5.size hg⟩
theorem StW.far (h:StW w base p q L n G W) {A:Option Addr} {k:Nat} {xs:List Int} (hA:Y1 p q w A k xs): ∃(bs:List Int) (q1:Option Nat),(bs.length:Int)=n/\Wr W base p q1 (L++bs)/\(q1=q\/ ∃g,q1=some g/\w.heap.size<=g)/\Ps p q1 W G/\Y1 p q1 W A k xs:=by
 obtain⟨⟨bs,q1,h1,h2,h3,h4⟩,h5,h6,h7⟩:=h;exact⟨bs,q1,h1,h2,h3,h4,hA.kp h5 h3⟩
theorem StW.keeps (h:StW w base p q L n G W) {q1:Option Nat} {bs:List Int} (hw:Wr W base p q1 bs) {xs:List Int} (hP:WrP base p q1 xs W W1):KeepsOthers W W1:=by
 obtain⟨q2,_,_,k3⟩:=hP;exact Vy k3 hw
theorem StW.keepL {b1 b2:Blk} {gs:List Nat} {n1:Int} {G1:List Blk} (h:StW w base p q L n G W) (h1:StW w base p q L n1 G1 W1) (m1:b1∈G) (m2:b2∈G) (n1':b1∈G1) (n2:b2∈G1) (hg: ∀g∈gs,g<w.heap.size/\g≠p/\some g≠q):Qz (b1.g::b2.g::gs) W W1:=fun g hm=>by
 rcases List.mem_cons.1 hm with rfl|hm
 ·rw[h.blk m1,h1.blk n1']
 ·rcases List.mem_cons.1 hm with rfl|hm
  ·rw[h.blk m2,h1.blk n2]
  ·obtain⟨a,b,c⟩:=hg g hm
   rw[h1.kp.block g a b c,h.kp.block g a b c]
theorem Cells.far {A:Option Addr} {cs:List Value} (h:Cells w A cs) (hk:Kp p q w W) (hA: ∀ad,A=some ad->ad.block≠p/\some ad.block≠q):Cells W A cs:=fun hn=>by
 obtain⟨ad,e,hc⟩:=h hn;obtain⟨a,b⟩:=hA ad e;exact⟨ad,e,fun j u hj=>hk.cell (hc j u hj) (by rw[add_block];exact a) (by rw[add_block];exact b)⟩
def Gm (o n j:Nat):Nat:=max o (min j (o+n))
theorem cbk_nn {C:Nat->Nat->Int} {b:List Int} (h: ∀j,j<b.length->0<=C (rd b j).toNat j): ∀j d,j+d<=b.length->cbk C 0 (b.take j)<=cbk C 0 (b.take (j+d))
 |j,0,_=>Int.le_refl _
 |j,d+1,hd=>by
  have h1:=cbk_nn h j d (by omega);have h2:=h (j+d) (by omega);rw[<-Nat.add_assoc,Bh _ _ (by omega)];omega
theorem Iu {s:List (Int×Int)} (h: ∀p∈s,1<=p.2/\p.2<=128): ∀j d,j+d<=s.length->Z7 (s.take j)<=Z7 (s.take (j+d))
 |j,0,_=>Int.le_refl _
 |j,d+1,hd=>by
  have h1:=Iu h j d (by omega);have h2:=h _ (List.getElem_mem (show j+d<s.length by omega));have h3:=Dt (n:=(s[j+d]).2.toNat) (by omega) (by omega);rw[show(((s[j+d]).2.toNat :Nat):Int)=(s[j+d]).2 by omega] at h3;rw[<-Nat.add_assoc,Gg _ (by omega)];omega
theorem Qc9 {ws l:List Int} {s:List (Int×Int)} (h:Tw ws l s) {k j:Nat} (hk:k<=s.length) (hj:j<=ws.length):Z7 (s.take k)+cbk (Xe ws l) 0 ((Qo s).take j)<=Ud ws l s:=by
 have h1:=Iu (s:=s) (fun p hp=>by have:=h.el p hp;omega) k (s.length-k) (by omega);have h2:=cbk_nn (C:=Xe ws l) (b:=Qo s) (fun j hj=>h.fits j (by rw[<-h.len];exact hj)) j (ws.length-j) (by rw[h.len];omega);rw[show k+(s.length-k)=s.length by omega,List.take_length] at h1;rw[show j+(ws.length-j)=ws.length by omega,show(Qo s).take ws.length=Qo s by rw[<-h.len,List.take_length]] at h2;unfold Ud;omega
theorem flat_at {s:List (Int×Int)} (h: ∀p∈s,1<=p.2) {k:Nat} (hk:k<s.length) {j:Nat} (h1:(Qo (s.take k)).length <=j) (h2:j<(Qo (s.take k)).length +(s[k]).2.toNat):rd (Qo s) j=(s[k]).1:=by
 have hsplit:s=s.take k++s[k]::s.drop (k+1):=by rw[<-List.drop_eq_getElem_cons hk,List.take_append_drop]
 have e:Qo s=Qo (s.take k)++(List.replicate (s[k]).2.toNat (s[k]).1++Qo (s.drop (k+1))):=(congrArg Qo hsplit).trans (by
  unfold Qo
  rw[List.map_append,List.flatten_append,List.map_cons,List.flatten_cons])
 rw[e];unfold rd;rw[Int.toNat_natCast,List.getD_eq_getElem?_getD,List.getElem?_append_right h1,List.getElem?_append_left (by rw[List.length_replicate];omega),List.getElem?_replicate,if_pos (by omega)];rfl
theorem Qby {w W:World} {b:Nat} (h:Xn w) (hb:Below b w W) (h4:4<=b):Xn W:=
 ⟨fun k hk=>by
  obtain⟨a,b',c⟩:=h.form k hk
  exact⟨(hb.cell (p:=⟨2,_,none⟩) (by simp;omega)).trans a,(hb.cell (p:=⟨2,_,none⟩) (by simp;omega)).trans b',(hb.cell (p:=⟨2,_,none⟩) (by simp;omega)).trans c⟩,fun k hk=>(hb.cell (p:=⟨3,_,none⟩) (by simp;omega)).trans (h.tab k hk)⟩
theorem StW.laid {w W:World} {base p:Nat} {q:Option Nat} {L:List Int} {n:Int} {G:List Blk} (h:StW w base p q L n G W) (hw:Wr w base p q L) (hL:Xn w) (h4:4<=base):Xn W:=
 Qby hL (h.kp.below hw.base (fun k e=>(hw.Ni k e).1) (by have:=hw.base;have:=hw.plt;omega)) h4
theorem Qds {k:Nat} {x:List Int} (h:0<=Q5 k x):Ke k x=true/\Yp k x=Q5 k x:=by
 unfold Q5 at h ⊢;by_cases hf:Ke k x=true
 ·rw[if_pos hf];exact⟨hf,rfl⟩
 ·rw[if_neg hf] at h;omega
theorem band_far {p:Nat} {q:Option Nat} {W:World} {bd:Addr} {ws l:List Int} (hok:Ok ws l) {j:Nat} (hj:j<ws.length) (h:Y1 p q W (some bd) l.length l):Y1 p q W (some (bd.add (V8 ws j))) (Xf ws l j).length (Xf ws l j):=
 ⟨V6 hok hj h.1,fun ad e _=>by
  cases e;rw[add_block]
  exact h.2 bd rfl (by have:=Vz hok hj;omega)⟩
end Sec

namespace Sca
attribute [local go_sem] Qh Qi Qk Ql Qd Qe
open Q15
open Runs Go.Shelf
open Q16 (Q6 Za Yc)
open Q21 (Qb Qj)
open Bts
open Bk
open Sec
attribute [local go_sem] Oper.semAt_some
def wrdL:List Int:=Pre.Ji Ta
theorem Nz:wrdL.length=191:=by unfold wrdL;rw[Pre.Ut];exact Bz
theorem lenL_pre:Pre.Kh Ta=0:=by decide+kernel
theorem lenL_ok:Pre.Oc Ta=true:=by decide+kernel
theorem wrd_at {d:Int} (h0: -95<=d) (h1:d<=95): ∃v n:Nat,(v:Int)=rd wrdL ((d+95).toNat :Nat)/\(n:Int)=U3 d/\v<2^n/\n<=15:=by
 have h:=Pre.words_lt lenL_ok (s:=(d+95).toNat) (by rw[Bz];omega);have hb:=Dw h0 h1;have e:rd Ta (((d+95).toNat :Nat):Int)=U3 d:=(by unfold U3;rw[show(((d+95).toNat :Nat):Int)=d+95 by omega]);rw[e] at h;refine⟨(rd wrdL ((d+95).toNat :Nat)).toNat,(U3 d).toNat,Int.toNat_of_nonneg h.1,by omega,?_,by omega⟩;have h2:=h.2;unfold wrdL;have:((2^(U3 d).toNat :Nat):Int)=2^(U3 d).toNat :=(by push_cast;rfl);have h3:=h.1;omega
theorem _root_.Go.Proofs.YtnflnicdjioflaaGreatDoor.Sec.StW.keep0 {w W W1:World} {base p:Nat} {q:Option Nat} {L:List Int} {n n1:Int} {G G1:List Blk} {gs:List Nat} (h:StW w base p q L n G W) (h1:StW w base p q L n1 G1 W1) (hg: ∀g∈gs,g<w.heap.size/\g≠p/\some g≠q):Qz gs W W1:=fun g hm=>by
 obtain⟨a,b,c⟩:=hg g hm;rw[h1.kp.block g a b c,h.kp.block g a b c]
theorem _root_.Go.Proofs.YtnflnicdjioflaaGreatDoor.Sec.StW.wr {w W:World} {base p:Nat} {q:Option Nat} {L:List Int} {n:Int} {G:List Blk} (h:StW w base p q L n G W): ∃(bs:List Int) (q1:Option Nat),(bs.length:Int)=n/\Wr W base p q1 (L++bs)/\(∀(more:List Int) (m:Int) (W1:World),WrP base p q1 (L++bs++more) W W1->(more.length:Int)=m->StW w base p q L (n+m) G W1/\KeepsOthers W W1):=by
 obtain⟨bs,q1,h1,h2,h3,h4⟩:=h.ex;exact⟨bs,q1,h1,h2,fun more m W1 hP hm=>⟨StW.wrote h1 h3 h4 h.kp h.ge h.gs hP hm,h.keeps h2 hP⟩⟩
theorem _root_.Go.Proofs.YtnflnicdjioflaaGreatDoor.Sec.StW.put {w W W':World} {base p:Nat} {q:Option Nat} {L:List Int} {n:Int} {G:List Blk} (h:StW w base p q L n G W) {v k:Nat} (hk:k<=32) (hv:v<2^k) (hroom:(L.length:Int)+n+k<=1048576) (hb:Below W.heap.size W W'):
  Calls Tryz.prog 84 #[.pointer (some ⟨p,0,none⟩),.int .i64 v,.int .i64 k] W' fun e w'=> ∃E:Int,e= .returned (.int .i64 E)/\StW w base p q L (n+k) G w'/\KeepsOthers W w':=by
 obtain⟨bs,q1,i1,i2,i3⟩:=h.wr;refine(G9 (v:=v) (n:=k) (i2.step hb) hk hv (by rw[List.length_append];omega)).mono ?_;rintro e w' ⟨E,rfl,hP⟩;exact⟨E,rfl,i3 _ k w' (WrP.next (.inl rfl) (Kp.of_below hb p q1) hP) (by rw[Yf])⟩
theorem Qaz {ss:List Int} {us:List Bool} (hl:ss.length=us.length) (h: ∀x∈ss,0<=x/\x<=95) (j:Nat): ∀d,j+d<=uN us->scT ss us j<=scT ss us (j+d)
 |0,_=>Int.le_refl _
 |d+1,hd=>by
  have h1:=Qaz hl h j d (by omega);have h2:=(Dk (us:=us) (m:=j+d) (by omega)).1;have h3:=h _ (Qp ss (uAt us (j+d)) (by omega));have h0:scT ss us (j+(d+1))=scT ss us (j+d)+(if j+d=0 then 7 else U3 (rd ss (uAt us (j+d))-rd ss (uAt us (j+d-1)))):=rfl;rw[h0]
  split
  ·omega
  ·have h4:=(Dk (us:=us) (m:=j+d-1) (by omega)).1
   have h5:=h _ (Qp ss (uAt us (j+d-1)) (by omega));have h6:=Dw (d:=rd ss (uAt us (j+d))-rd ss (uAt us (j+d-1))) (by omega) (by omega);omega
theorem M7 (base p:Nat) (q:Option Nat) (L:List Int) (A B:Option Addr) (c1 c2:Nat) (ss:List Int) (us:List Bool) (w:World) (hw:Wr w base p q L) (hr:Y1 p q w A ss.length ss) (hr2:Kd.bool.C w B us.length us) (hB: ∀g∈Zy B,g≠p/\some g≠q) (hl:ss.length=us.length) (h128:us.length<=128) (h0:0<us.length) (he:scE ss us=0) (hroom:(L.length:Int)+Ya ss us<=1048576):
  Calls Tryz.prog 91 #[.pointer (some ⟨p,0,none⟩),.slice A ss.length c1,.slice B us.length c2] w fun e w'=>e= .returned (.int .i64 0)/\ ∃bs:List Int,(bs.length:Int)=Ya ss us/\WrP base p q (L++bs) w w':=by
 have HCo:=Qa.mk (fun(W:World) (hb:Below w.heap.size w W)=>Nq A B c1 c2 ss us W (Kd.Qf hr.1 hb) (Kd.Qf hr2 hb) hl h128 h0 he);have HA:=Qa.mk hr;have HB:=Qa.mk hr2;have HG:Qa (∀g∈Zy B,g<w.heap.size/\g≠p/\some g≠q):=⟨fun g hg=>⟨N7 hr2 h0 g hg,hB g hg⟩⟩;have HS:=Qa.mk (Dz he);have HL:=Qa.mk hl;have H128:=Qa.mk h128;have HW:=Qa.mk hw;have hmo:Tryz.prog.follows .mixedOrders =true:=(by kernel_rfl);have hcS:0<=Ya ss us:=(Sl hl HS.out (uN us) (Nat.le_refl _)).1;have hCSd:Qa (Ya ss us=scT ss us (uN us)):=⟨rfl⟩;obtain⟨CS,hCS⟩: ∃CS,CS=Ya ss us:=⟨_,rfl⟩;rw[<-hCS] at HCo hroom hcS hCSd ⊢;have hLn:=Qa.mk (fun(W:World) (h:Wr W base p q L)=>Dm base p q L W h);obtain⟨Z,hZ⟩: ∃Z:Int,Z=L.length:=⟨_,rfl⟩;rw[<-hZ] at hLn hroom;have hZ0:0<=Z:=(by omega);have htest:decide (1048576<Z+CS)=false:=decide_eq_false (by omega);replace htest:=Qa.mk htest;replace hZ:=Qa.mk hZ;have hroomI:Z<=2000000/\CS<=2000000:=(by omega);replace hroom:=Qa.mk hroom;clear hr hr2 hl h128 h0 he hw hB hCS;refine(callsIn_wide (n:=3)).1 ?_;refine callsIn_of_wp_marks Tryz.func91 rfl trivial ?_ rfl;simp only[Tryz.ntmps91,List.size_toArray,List.length_cons,List.length_nil,Nat.reduceAdd,Nat.reduceSub,Array.replicate_succ,Array.replicate_zero,List.push_toArray,List.append_toArray,List.nil_append,List.cons_append];gi_wp2_with fail;obtain⟨W0,hW0⟩: ∃W0,W0=(w.alloc (.cells #[.pointer (some ⟨p,0,none⟩)] 69)).alloc (.cells #[.slice A ss.length c1] 22):=⟨_,rfl⟩;have hR0:=((Rws.start w).alloc #[.pointer (some ⟨p,0,none⟩)] 69).alloc #[.slice A ss.length c1] 22;simp only[World.size_alloc,List.nil_append,List.cons_append] at hR0;rw[<-hW0] at hR0 ⊢;clear hW0;refine⟨trivial,(callsIn_wide.2 (HCo.out W0 hR0.below)).mono ?_⟩;rintro en W1 ⟨rfl,hb1⟩;have hR1:=hR0.step hb1;have z3:W1.cell? ⟨w.heap.size,0,none⟩=some (.pointer (some ⟨p,0,none⟩)):=(by rw[Qb (hR1.blk ⟨w.heap.size, #[.pointer (some ⟨p,0,none⟩)],69⟩ (by simp)).1];rfl);clear hR0 hb1 HCo;gi_wp2_with fail;refine⟨trivial,(callsIn_wide.2 (hLn.out W1 (HW.out.step hR1.below))).mono ?_⟩;rintro en W2 ⟨rfl,rfl⟩;replace htest:=htest.out;gi_wp2_with fail;refine⟨trivial,(callsIn_wide.2 (Mf W1)).mono ?_⟩;rintro en W2 ⟨vl,rfl,hRl,hb2⟩;obtain⟨Al,cl,rfl,-,hCl⟩:=Kd.Qs hRl;have hR2:=hR1.step hb2;clear hRl;replace hCl:=Qa.mk hCl;gi_wp2_with fail;refine⟨trivial,(callsIn_wide.2 (Pre.Le Al cl Ta W2 hCl.out lenL_pre)).mono ?_⟩;rintro en W3 ⟨v9,rfl,hR9,hb3⟩;have hbd9:=(Kd.Zd hR9).1;obtain⟨A9,c9,rfl,-,hC9⟩:=Kd.Qs hR9;have hw9:(Pre.Ji Ta).length =191:=Nz;rw[hw9] at hC9 ⊢
 have hA9: ∀ad,A9=some ad->w.heap.size<=ad.block:=fun ad e=>by
  subst e;have:=(hbd9 ad.block rfl).2.1;have:=hR2.below.size;omega
 have hR3:=hR2.step hb3;obtain⟨g9,hg9⟩: ∃g9,g9=W3.heap.size:=⟨_,rfl⟩;have hg9w:w.heap.size<=g9:=(by rw[hg9];exact hR3.below.size);have hR4:=hR3.alloc #[.slice A9 191 c9] 22;have hC9':=Kd.Qf hC9 ((Below.refl W3.heap.size W3).alloc (Nat.le_refl _) (.cells #[.slice A9 191 c9] 22));simp only[List.nil_append,List.cons_append] at hR4;clear hR9 hbd9 hCl hb2 hb3 hR1 hR2 hR3 hw9 hC9;replace hC9':=Qa.mk hC9';replace hA9:=Qa.mk hA9;gi_wp2_with fail;rw[<-hg9] at hR4;rw[<-hg9];obtain⟨W4,hW4⟩: ∃W4,W4=W3.alloc (.cells #[.slice A9 191 c9] 22):=⟨_,rfl⟩;have hC4:=hC9'.out;rw[<-hW4] at hR4 hC4;rw[<-hW4];clear hC9' hg9 hW4 z3;refine⟨trivial,(callsIn_wide.2 (Sz B us.length c2 W4)).mono ?_⟩;rintro en V ⟨rfl,hV⟩;obtain⟨g10,hg10⟩: ∃g10,g10=W4.heap.size:=⟨_,rfl⟩;have hRv:=hR4.alloc #[.slice B us.length c2] 23;have hbv:=(Below.refl W4.heap.size W4).alloc (Nat.le_refl _) (.cells #[.slice B us.length c2] 23);simp only[List.nil_append,List.cons_append] at hRv;rw[<-hV,<-hg10] at hRv;rw[<-hV] at hbv;rw[<-hg10];have hfar:Qa (∀g,w.heap.size<=g->g≠p/\some g≠q):=⟨fun g hg=>⟨fun e=>by have:=Wr.plt HW.out;omega,fun e=>by have:=(Wr.Ni HW.out _ e.symm).2;omega⟩⟩;have zV3:V.cell? ⟨w.heap.size,0,none⟩=some (.pointer (some ⟨p,0,none⟩)):=(by rw[Qb (hRv.blk ⟨w.heap.size, #[.pointer (some ⟨p,0,none⟩)],69⟩ (by simp)).1];rfl);have zV4:V.cell? ⟨w.heap.size+1,0,none⟩=some (.slice A ss.length c1):=(by rw[Qb (hRv.blk ⟨w.heap.size+1, #[.slice A ss.length c1],22⟩ (by simp)).1];rfl);have zV9:V.cell? ⟨g9,0,none⟩=some (.slice A9 191 c9):=(by rw[Qb (hRv.blk ⟨g9, #[.slice A9 191 c9],22⟩ (by simp)).1];rfl);have b10:V.cell? ⟨g10,0,none⟩=some (.slice B us.length c2):=by rw[Qb (hRv.blk ⟨g10, #[.slice B us.length c2],23⟩ (by simp)).1];rfl
 have HK:Qa (∀(n:Int) (W:World),StW V base p q L n [] W->W.cell? ⟨w.heap.size,0,none⟩=some (.pointer (some ⟨p,0,none⟩))/\W.cell? ⟨w.heap.size+1,0,none⟩=some (.slice A ss.length c1)/\W.cell? ⟨g9,0,none⟩=some (.slice A9 191 c9)):=⟨fun n W h=>
  ⟨h.kp.cell zV3 (hfar.out _ (Nat.le_refl _)).1 (hfar.out _ (Nat.le_refl _)).2,h.kp.cell zV4 (hfar.out _ (Nat.le_succ _)).1 (hfar.out _ (Nat.le_succ _)).2,h.kp.cell zV9 (hfar.out _ hg9w).1 (hfar.out _ hg9w).2⟩⟩
 have hFA:=HA.out.step hRv.below
 have hF9:Y1 p q V A9 wrdL.length wrdL:=by
  rw[Nz];exact Ef HW.out (Kd.Qf hC4 hbv) hA9.out
 have HFA:=Qa.mk (fun(n:Int) (W:World) (h:StW V base p q L n [] W)=>(hFA.kp h.kp (q':=q) (.inl rfl)).1);have HF9:=Qa.mk (fun(n:Int) (W:World) (h:StW V base p q L n [] W)=>(hF9.kp h.kp (q':=q) (.inl rfl)).1);have hWv:=Qa.mk (HW.out.step hRv.below);have hVb:=Qa.mk hRv.below;have HBv:=Qa.mk (Kd.Qf HB.out hRv.below)
 have HGv:Qa (∀g∈Zy B,g<V.heap.size/\g≠p/\some g≠q):=⟨fun g hg=>by
  have:=HG.out g hg;have:=hVb.out.size
  exact⟨by omega,(HG.out g hg).2⟩⟩
 clear hV hg10 hR4 hC4 hRv hbv hFA hF9 hA9 zV3 zV4 zV9 hLn;gi_wp2_with fail
 refine Xw rfl (by omega) (gf:=199) (lb:= #[.pointer (some ⟨g10,0,none⟩)]) rfl trivial (enters_of Tryz.func199 (by kernel_rfl) rfl)
  (Sy Fence.wide _ trivial rfl (by omega) g10 B c2 us H128.out V HBv.out b10)
  (fun h k=>h.trans k) ?keep (Below.refl _ _) (fun _=>rfl) (fun j W=>StW V base p q L (scT ss us j) [] W) ?own ?start ?round ?done
 case keep=>exact Qz.putObj (N:=V.heap.size) (fun g hg=>(HGv.out g hg).1)
 case own=>exact fun j W W' row h hg hrow=>h.turn hg (fun r e=>⟨(hrow r e).1,(hrow r e).2⟩)
 case start=>exact StW.start hWv.out
 case round=>
  rintro Lr j W hSt hj;obtain⟨hi1,-⟩:=Dk hj;have hbd:=Sl HL.out HS.out j (by omega);have hj9:j<=128:=(by have:=uN_le us;have:=H128.out;omega);have hst:scT ss us (j+1)=scT ss us j+(if j=0 then 7 else U3 (rd ss (uAt us j)-rd ss (uAt us (j-1)))):=rfl;have hmn:=Qaz HL.out HS.out (j+1) (uN us-(j+1)) (by omega);rw[show j+1+(uN us-(j+1))=uN us by omega,<-hCSd.out] at hmn;have hrm:=hroom.out;have hZe:=hZ.out;rw[<-HL.out] at hi1;have v1:=HS.out _ (Qp ss (uAt us j) hi1);rcases j with _|j
  ·have hu0:uBe us 0= -1:=rfl
   rw[hu0];rw[if_pos rfl,show scT ss us 0=0 from rfl] at hst;obtain⟨ad,had,q1⟩:=Qn (HFA.out _ _ hSt) (Below.refl _ _) hi1
   have hq1:Qa (∀(n:Int) (W:World),StW V base p q L n [] W->W.cell? (ad.add (uAt us 0))=some (.int .i64 (rd ss (uAt us 0)))):=⟨fun n W h=>by
    obtain⟨ad2,e,q⟩:=Qn (HFA.out _ _ h) (Below.refl _ _) hi1;rw[had] at e;cases e
    exact q⟩
   obtain⟨o,ho⟩: ∃o:Nat,o=uAt us 0:=⟨_,rfl⟩;rw[<-ho] at hi1 hq1 v1;rw[<-ho];obtain⟨x,hx⟩: ∃x:Nat,(x:Int)=rd ss (o:Nat):=⟨(rd ss (o:Nat)).toNat,by omega⟩;rw[<-hx] at hq1 v1;have hsI:(o:Int)<(ss.length:Int):=(by omega);subst had;clear ho hbd hj hu0 hj9 q1 hx hi1;gi_wp2;refine⟨(KeepsOthers.refl W).from _,Qz.refl _ _,fun Z=>StW V base p q L 0 [] Z,hSt,fun _ Z Z' row h hg hrow=>h.turn hg (fun r e=>⟨(hrow r e).1,(hrow r e).2⟩),?_⟩;clear hSt;rintro Zw hSw;obtain⟨z3,z4,z9⟩:=HK.out _ _ hSw;have e1:=hq1.out _ _ hSw;have hPt:=Qa.mk (fun(W':World) (hb:Below Zw.heap.size Zw W')=>hSw.put (v:=x) (k:=7) (by omega) (by omega) (by push_cast;omega) hb);have hst':Qa (scT ss us (0+1)=0+(7:Nat)):=⟨hst⟩;replace hSw:=Qa.mk hSw;clear hst hmn hrm hZe v1 hZ0 hroomI hcS;gi_wp2_with fail;refine Held.Xd (fun W'=>W'.cell? ⟨w.heap.size,0,none⟩=some (.pointer (some ⟨p,0,none⟩))/\W'.cell? ⟨w.heap.size+1,0,none⟩=some (.slice (some ad) ss.length c1)/\W'.cell? (ad.add o)=some (.int .i64 x)) hmo (by kernel_rfl) (fun⟨_,_,h⟩=>h) ⟨z3,z4,e1⟩ (fun hHeld=> ?_);have hbD:Below Zw.heap.size Zw Zw.drew:=(Below.refl _ _).drew;obtain⟨ZD,hZD⟩: ∃ZD,ZD=Zw.drew:=⟨_,rfl⟩;rw[<-hZD] at hHeld hbD ⊢;clear hZD
   (refine Tk.tk 0 (.pointer (some ⟨p,0,none⟩)) hHeld ?_)
   (refine Tk.tk 1 (.slice (some ad) ss.length c1) hHeld ?_)
   (refine Tk.tk 2 (.int .i64 o) hHeld ?_)
   (refine Tk.tk 3 (.pointer (some (ad.add o))) hHeld ?_)
   (refine Tk.tk 4 (.int .i64 x) hHeld ?_)
   (refine wpAnyH_ready (rs:=[5]) (by kernel_rfl) (by simp) ?_;refine AllReadyH.cons rfl (fun K hK=> ?_) AllReadyH.nil;go_simp)
   refine(hPt.out _ hbD).mono ?_;rintro en w5 ⟨E,rfl,hS5,hK5⟩;obtain⟨y3,y4,y9⟩:=HK.out _ _ hS5
   (go_wp2_with fail;refine hK.out _ _ (⟨y3,y4,hq1.out _ _ hS5⟩) (fun hHeld=> ?_);clear hK K;try simp only[Act.put,Tk.z1,Tk.z2,Tk.z3,Tk.z4,Tk.z5,Tk.z6])
   refine wpAnyH_done (by kernel_rfl) ?_ _;have hkl:=StW.keep0 hSw.out hS5 HGv.out;replace hS5:=Qa.mk hS5;replace hK5:=Qa.mk hK5;replace hkl:=Qa.mk hkl;clear hHeld z3 z4 z9 e1 y3 y4 y9 hPt;gi_wp2;exact⟨hK5.out.from _,hkl.out,by show StW V base p q L (scT ss us (0+1)) [] _;rw[hst'.out];exact hS5.out⟩
  ·have hi2:=(Dk (us:=us) (m:=j) (by omega)).1
   rw[<-HL.out] at hi2;have v2:=HS.out _ (Qp ss (uAt us j) hi2);have hu1:uBe us (j+1)=(uAt us j:Nat):=rfl;rw[hu1];rw[if_neg (by omega),Nat.add_sub_cancel] at hst;obtain⟨ad,had,-⟩:=Qn (HFA.out _ _ hSt) (Below.refl _ _) hi1
   have hq1:Qa (∀(n:Int) (W:World),StW V base p q L n [] W->W.cell? (ad.add (uAt us (j+1)))=some (.int .i64 (rd ss (uAt us (j+1))))/\W.cell? (ad.add (uAt us j))=some (.int .i64 (rd ss (uAt us j)))):=⟨fun n W h=>by
    obtain⟨ad2,e,q⟩:=Qn (HFA.out _ _ h) (Below.refl _ _) hi1;obtain⟨ad3,e3,q3⟩:=Qn (HFA.out _ _ h) (Below.refl _ _) hi2;rw[had] at e e3;cases e;cases e3
    exact⟨q,q3⟩⟩
   obtain⟨o,ho⟩: ∃o:Nat,o=uAt us (j+1):=⟨_,rfl⟩;obtain⟨p',hp'⟩: ∃p':Nat,p'=uAt us j:=⟨_,rfl⟩;rw[<-ho] at hi1 hq1 v1 hst;rw[<-hp'] at hi2 hq1 v2 hst;rw[<-ho,<-hp'];obtain⟨x,hx⟩: ∃x,x=rd ss (o:Nat):=⟨_,rfl⟩;obtain⟨y,hy⟩: ∃y,y=rd ss (p':Nat):=⟨_,rfl⟩;rw[<-hx] at hq1 v1 hst;rw[<-hy] at hq1 v2 hst;obtain⟨vw,nw,hvw,hnw,hvlt,hn15⟩:=wrd_at (d:=x-y) (by omega) (by omega);have hLn:=Qa.mk (fun(W:World)=>U4 (x-y) W (by omega) (by omega));rw[<-hnw] at hst hLn;obtain⟨wi,hwi⟩: ∃wi:Nat,(wi:Int)=x-y+95:=⟨(x-y+95).toNat,by omega⟩;have hwi9:wi<wrdL.length:=(by rw[Nz];omega);rw[show(x-y+95).toNat =wi by omega] at hvw;obtain⟨ad9,had9,-⟩:=Qn (HF9.out _ _ hSt) (Below.refl _ _) hwi9
   have hq9:Qa (∀(n:Int) (W:World),StW V base p q L n [] W->W.cell? (ad9.add wi)=some (.int .i64 vw)):=⟨fun n W h=>by
    obtain⟨ad2,e,q⟩:=Qn (HF9.out _ _ h) (Below.refl _ _) hwi9;rw[had9] at e;cases e;rw[hvw]
    exact q⟩
   obtain⟨sm,hsm⟩: ∃sm,sm=scT ss us (j+1):=⟨_,rfl⟩;rw[<-hsm] at hst hbd hSt;have hsI:(o:Int)<(ss.length:Int)/\(p':Int)<(ss.length:Int):=(by omega);have hwI:wi<191/\(wi:Int)<191:=(by rw[Nz] at hwi9;omega);have hI1:IntKind.i64.wrap (x-y)=x-y:=IntWalk.i64_in _ (by omega);have hI2:IntKind.i64.wrap (x-y+95)=(wi:Int):=(by rw[hwi];exact IntWalk.i64_in _ (by omega));have hp0:decide ((p':Int)<0)=false:=decide_eq_false (by omega);have hst':Qa (scT ss us (j+1+1)=sm+nw):=⟨hst⟩;have hrmP:Qa ((L.length:Int)+sm+nw<=1048576):=⟨by omega⟩;have hvlt':=Qa.mk hvlt;have hn15':=Qa.mk hn15;have hxy: -95<=x-y/\x-y<=95:=(by omega);subst had;subst had9;replace hwi:=Qa.mk hwi;clear ho hp' hbd hj hu1 hj9 hx hy hi1 hi2 hvw hnw hwi9 hsm hst hmn hrm hZe v1 v2 hZ0 hroomI hcS hvlt hn15;gi_wp2;refine⟨(KeepsOthers.refl W).from _,Qz.refl _ _,fun Z=>StW V base p q L sm [] Z,hSt,fun _ Z Z' row h hg hrow=>h.turn hg (fun r e=>⟨(hrow r e).1,(hrow r e).2⟩),?_⟩;clear hSt;rintro Zw hSw;obtain⟨z3,z4,z9⟩:=HK.out _ _ hSw;obtain⟨e1,e2⟩:=hq1.out _ _ hSw;have e9:=hq9.out _ _ hSw;have hPt:=Qa.mk (fun(W':World) (hb:Below Zw.heap.size Zw W')=>hSw.put (v:=vw) (k:=nw) (by have:=hn15'.out;omega) hvlt'.out hrmP.out hb);replace hSw:=Qa.mk hSw;gi_wp2_with fail;refine Held.Xd (fun W'=>W'.cell? ⟨w.heap.size+1,0,none⟩=some (.slice (some ad) ss.length c1)/\W'.cell? (ad.add o)=some (.int .i64 x)/\W'.cell? (ad.add p')=some (.int .i64 y)) hmo (by kernel_rfl) (fun⟨_,_,h⟩=>h) ⟨z4,e1,e2⟩ (fun hHeld=> ?_);have hbD:Below Zw.heap.size Zw Zw.drew:=(Below.refl _ _).drew;obtain⟨ZD,hZD⟩: ∃ZD,ZD=Zw.drew:=⟨_,rfl⟩;rw[<-hZD] at hHeld hbD ⊢
   (refine Tk.tk 0 (.slice (some ad) ss.length c1) hHeld ?_)
   (refine Tk.tk 1 (.int .i64 o) hHeld ?_)
   (refine Tk.tk 2 (.pointer (some (ad.add o))) hHeld ?_)
   (refine Tk.tk 3 (.int .i64 x) hHeld ?_)
   (refine Tk.tk 4 (.slice (some ad) ss.length c1) hHeld ?_)
   (refine Tk.tk 5 (.int .i64 p') hHeld ?_)
   (refine Tk.tk 6 (.pointer (some (ad.add p'))) hHeld ?_)
   (refine Tk.tk 7 (.int .i64 y) hHeld ?_)
   (refine Tk.tk 8 (.int .i64 (x-y)) hHeld ?_)
   (refine Tk.tk 9 (.int .i64 (x-y)) hHeld ?_)
   refine wpAnyH_done (by kernel_rfl) ?_ _;have y3:=cnx z3 hbD;have y9:=cnx z9 hbD;have f9:=cnx e9 hbD;clear hHeld z3 z4 z9 e1 e2 e9 hZD;gi_wp2_with fail;refine Held.Xd (fun W'=>W'.cell? ⟨w.heap.size,0,none⟩=some (.pointer (some ⟨p,0,none⟩))/\W'.cell? ⟨g9,0,none⟩=some (.slice (some ad9) 191 c9)/\W'.cell? (ad9.add wi)=some (.int .i64 vw)) hmo (by kernel_rfl) (fun⟨_,_,h⟩=>h) ⟨y3,y9,f9⟩ (fun hHeld=> ?_);have hbE:Below Zw.heap.size Zw ZD.drew:=hbD.drew;obtain⟨ZE,hZE⟩: ∃ZE,ZE=ZD.drew:=⟨_,rfl⟩;rw[<-hZE] at hHeld hbE ⊢;clear hZE y3 y9 f9
   (refine Tk.tk 0 (.pointer (some ⟨p,0,none⟩)) hHeld ?_)
   (refine Tk.tk 1 (.slice (some ad9) 191 c9) hHeld ?_)
   (refine Tk.tk 2 (.int .i64 (x-y)) hHeld ?_)
   (refine Tk.tk 3 (.int .i64 wi) hHeld ?_)
   (refine Tk.tk 4 (.pointer (some (ad9.add wi))) hHeld ?_)
   (refine Tk.tk 5 (.int .i64 vw) hHeld ?_)
   (refine Tk.tk 6 (.int .i64 (x-y)) hHeld ?_)
   (refine wpAnyH_ready (rs:=[7]) (by kernel_rfl) (by simp) ?_;refine AllReadyH.cons rfl (fun K hK=> ?_) AllReadyH.nil;go_simp)
   refine(hLn.out _).mono ?_;rintro en w1 ⟨rfl,hw1⟩;rw[hw1];clear hw1
   (go_wp2_with fail;refine hK.out _ _ (hHeld) (fun hHeld=> ?_);clear hK K;try simp only[Act.put,Tk.z1,Tk.z2,Tk.z3,Tk.z4,Tk.z5,Tk.z6])
   (refine wpAnyH_ready (rs:=[8]) (by kernel_rfl) (by simp) ?_;refine AllReadyH.cons rfl (fun K hK=> ?_) AllReadyH.nil;go_simp)
   refine(hPt.out _ hbE).mono ?_;rintro en w5 ⟨E,rfl,hS5,hK5⟩;obtain⟨y3,y4,y9⟩:=HK.out _ _ hS5
   (go_wp2_with fail;refine hK.out _ _ (⟨y3,y9,hq9.out _ _ hS5⟩) (fun hHeld=> ?_);clear hK K;try simp only[Act.put,Tk.z1,Tk.z2,Tk.z3,Tk.z4,Tk.z5,Tk.z6])
   refine wpAnyH_done (by kernel_rfl) ?_ _;have hkl:=StW.keep0 hSw.out hS5 HGv.out;replace hS5:=Qa.mk hS5;replace hK5:=Qa.mk hK5;replace hkl:=Qa.mk hkl;clear hHeld y3 y4 y9 hPt;gi_wp2;exact⟨hK5.out.from _,hkl.out,by show StW V base p q L (scT ss us (j+1+1)) [] _;rw[hst'.out];exact hS5.out⟩
 case done=>
  rintro D W hD hSt hDf;have hS2:=hSt.turn (grownBy_putObj' W D (.deferred none)) (fun r e=>by cases e;exact⟨hD,_,hDf,rfl⟩);obtain⟨⟨bs,q1,i1,i2,i3,-⟩,i5,-,-⟩:=hS2;rw[<-hCSd.out] at i1;replace i1:=Qa.mk i1;replace i2:=Qa.mk i2;replace i3:=Qa.mk i3;replace i5:=Qa.mk i5;clear hSt;gi_wp2;refine⟨by simp,.inl ⟨_,_,rfl,run_takeDeferred hDf,?_⟩⟩;exact⟨.int .i64 0,by simp[results,Tryz.f91,go_sem],rfl,bs,i1.out,q1,i2.out,i3.out.imp id (fun⟨g,e,h⟩=>⟨g,e,Nat.le_trans hVb.out.size h⟩),(Kp.of_below hVb.out p q).trans i5.out (.inl rfl)⟩
end Sca

namespace Sec
attribute [local go_sem] Qh Qi Qk Ql Qd Qe
open Q15
open Runs Go.Shelf
open Q16 (Q6 Za Yc)
open Q21 (Qb Qj)
open Bts
open Bk
attribute [local go_sem] Oper.semAt_some
theorem Wi (base p:Nat) (q:Option Nat) (L:List Int) (A B:Option Addr) (c1 c2:Nat) (ws l:List Int) (As:Option Addr) (cs:Nat) (s:List (Int×Int)) (w:World) (hw:Wr w base p q L) (hB4:4<=base) (hL:Xn w) (hr:Y1 p q w A ws.length ws) (hr2:Y1 p q w B l.length l) (hcap:l.length<=c2) (hok:Ok ws l) (h0:0<ws.length)
  (hs:Cells w As (Zt s)) (hsf: ∀ad,As=some ad->ad.block≠p/\some ad.block≠q) (hR:Tw ws l s) (hroom:(L.length:Int)+Ud ws l s<=1048576) (hBW: ∀p∈s,BW p.1.toNat):
  Calls Tryz.prog 90 #[.pointer (some ⟨p,0,none⟩),.slice A ws.length c1,.slice B l.length c2,.slice As s.length cs] w fun e w'=>e= .returned (.int .i64 0)/\ ∃bs:List Int,(bs.length:Int)=Ud ws l s/\WrP base p q (L++bs) w w':=by
 obtain⟨bd,rfl,_⟩:=Qn hr2.1 (Below.refl _ _) (k:=0) (by have:=Vr hok.wid;have:=hok.sum;omega);have HO:=Qa.mk hok;have HBW:=Qa.mk hBW;clear hBW;have HA:=Qa.mk hr;have HA2:=Qa.mk hr2;have HL:=Qa.mk hL;have HC:=Qa.mk hcap;have HS:=Qa.mk hs;have HSf:=Qa.mk hsf;have HRs:=Qa.mk hR;have HW:=Qa.mk hw;have HB4:=Qa.mk hB4;have hslI:(s.length:Int)<=128:=(by have:=hR.sl;have:=hok.len;omega);have hnI:(ws.length:Int)<=128:=(by have:=hok.len;omega);have HCo:=Qa.mk (fun(W:World) (hb:Below w.heap.size w W)=>Qay A (some bd) c1 c2 ws l As cs s W (hL.below hb) (Kd.Qf hr.1 hb) (Kd.Qf hr2.1 hb) hcap hok h0 (hs.below hb) hR);have hcS:0<=Ud ws l s:=(by have:=Qc9 hR (k:=0) (j:=0) (Nat.zero_le _) (Nat.zero_le _);simpa[Z7,cbk] using this);obtain⟨CS,hCS⟩: ∃CS,CS=Ud ws l s:=⟨_,rfl⟩;rw[<-hCS] at HCo hroom hcS ⊢;have hLn:=Qa.mk (fun(W:World) (h:Wr W base p q L)=>Dm base p q L W h);obtain⟨Z,hZ⟩: ∃Z:Int,Z=L.length:=⟨_,rfl⟩;rw[<-hZ] at hLn hroom;have hZ0:0<=Z:=(by omega);have htest:decide (1048576<Z+CS)=false:=decide_eq_false (by omega);replace htest:=Qa.mk htest;replace hCS:=Qa.mk hCS;replace hZ:=Qa.mk hZ;replace hroom:=Qa.mk hroom;have hroomI:Z<=2000000/\CS<=2000000:=(by have:=hroom.out;omega);have hu:=Tryz.underlying163;have hu2:=Tryz.underlying153;have hmo:Tryz.prog.follows .mixedOrders =true:=by kernel_rfl
 have HG0:Qa (∀g∈Zy A,g<w.heap.size/\g≠p/\some g≠q):=⟨fun g hg=>by
  refine⟨Y3 hr.1 h0 g hg,?_⟩
  cases A with
  |none=>cases hg
  |some a=>
   rw[List.mem_singleton.1 hg]
   exact hr.2 a rfl h0⟩
 clear hr hr2 hL hok hcap hs hsf hR hw hB4;refine(callsIn_wide (n:=3)).1 ?_;refine callsIn_of_wp_marks Tryz.func90 rfl trivial ?_ rfl;simp only[Tryz.ntmps90,List.size_toArray,List.length_cons,List.length_nil,Nat.reduceAdd,Nat.reduceSub,Array.replicate_succ,Array.replicate_zero,List.push_toArray,List.append_toArray,List.nil_append,List.cons_append];gi_wp2_with fail;obtain⟨W0,hW0⟩: ∃W0,W0=w.alloc (.cells #[.pointer (some ⟨p,0,none⟩)] 69):=⟨_,rfl⟩;have hS0:=(StW.start HW.out).alloc #[.pointer (some ⟨p,0,none⟩)] 69;have hb0:=(Below.refl w.heap.size w).alloc (Nat.le_refl _) (.cells #[.pointer (some ⟨p,0,none⟩)] 69);simp only[List.nil_append,List.cons_append] at hS0;rw[<-hW0] at hS0 hb0 ⊢;clear hW0;refine⟨trivial,(callsIn_wide.2 (HCo.out W0 hb0)).mono ?_⟩;rintro en W1 ⟨rfl,hb1⟩;have hS1:=hS0.step hb1;have z4:W1.cell? ⟨w.heap.size,0,none⟩=some (.pointer (some ⟨p,0,none⟩)):=(by rw[Qb (hS1.blk (b:=⟨w.heap.size, #[.pointer (some ⟨p,0,none⟩)],69⟩) (by simp))];rfl);have hW1:Wr W1 base p q L:=(HW.out.step hb0).step hb1;replace hS1:=Qa.mk hS1;clear hS0 hb0 hb1;gi_wp2_with fail;refine⟨trivial,(callsIn_wide.2 (hLn.out W1 hW1)).mono ?_⟩;rintro en W2 ⟨rfl,rfl⟩;replace htest:=htest.out;clear hW1;gi_wp2_with fail;obtain⟨g11,hg11⟩: ∃g11,g11=W1.heap.size:=⟨_,rfl⟩;obtain⟨wo,hwo⟩: ∃wo,wo=W1.alloc (.cells #[.int .i64 0] 3):=⟨_,rfl⟩;have hS2:=hS1.out.alloc #[.int .i64 0] 3;simp only[List.nil_append,List.cons_append] at hS2;rw[<-hg11,<-hwo] at hS2;rw[<-hg11,<-hwo];replace hS2:=Qa.mk hS2;clear hg11 hwo hS1 z4 htest HCo hLn;refine wpIn_loop (fun a wr=> ∃(k:Nat) (Ds:List Nat) (u13 u14 u35 u36 u37 u38 u39 u40 u41 u42 u43 u44 u45 u46 u47 u48 u49 u50 u51 u52 u53 u54 u55 u56 u57 u58 u59 u60 u61 u62 u63 u64 u65 u66 u67 u68 u69 u70 u71 u72 u73:Value),k<=s.length/\Qa (StW w base p q L (Z7 (s.take k)+cbk (Xe ws l) 0 ((Qo s).take (Qo (s.take k)).length)) [⟨w.heap.size, #[.pointer (some ⟨p,0,none⟩)],69⟩,⟨g11, #[.int .i64 ((Qo (s.take k)).length :Nat)],3⟩] wr)/\Qa (Marks w.heap.size Ds wr)/\a={tmps:= #[.pointer (some ⟨p,0,none⟩),.slice A ws.length c1,.slice (some bd) l.length c2,.slice As s.length cs,.pointer (some ⟨w.heap.size,0,none⟩),undef,undef,undef,.int .i64 0,.int .i64 CS,.int .i64 0,.pointer (some ⟨g11,0,none⟩),undef,u13,u14,.pointer (some ⟨p,0,none⟩),.bool false,.tuple #[.int .i64 CS,.int .i64 0],.slice A ws.length c1,.slice (some bd) l.length c2,.slice As s.length cs,.tuple #[.int .i64 CS,.int .i64 0],.int .i64 CS,.int .i64 0,.int .i64 0,.bool false,undef,.pointer (some ⟨p,0,none⟩),.int .i64 Z,.int .i64 CS,.int .i64 (Z+CS),.bool false,.slice As s.length cs,.int .i64 s.length,.int .i64 k,u35,u36,u37,u38,u39,u40,u41,u42,u43,u44,u45,u46,u47,u48,u49,u50,u51,u52,u53,u54,u55,u56,u57,u58,u59,u60,u61,u62,u63,u64,u65,u66,u67,u68,u69,u70,u71,u72,u73],defers:=Ds.map markD}) (fun a _=>s.length-(intOf (a.tmps.getD 34 undef)).toNat) ?start ?round
 case start=>exact⟨0,[],_,_,_,_,_,_,_,_,_,_,_,_,_,_,_,_,_,_,_,_,_,_,_,_,_,_,_,_,_,_,_,_,_,_,_,_,_,_,_,_,_,Nat.zero_le _,⟨by simpa[Z7,cbk,Qo] using hS2.out⟩,⟨List.nodup_nil,fun D hD=>by cases hD⟩,rfl⟩
 case round=>
  rintro a wr ⟨k,Ds,u13,u14,u35,u36,u37,u38,u39,u40,u41,u42,u43,u44,u45,u46,u47,u48,u49,u50,u51,u52,u53,u54,u55,u56,u57,u58,u59,u60,u61,u62,u63,u64,u65,u66,u67,u68,u69,u70,u71,u72,u73,hk,hSt,hMk,rfl⟩;clear hS2 wo;by_cases hlt:k<s.length
  ·obtain⟨ad,had,m1,m2⟩:=Wj (Cells.far HS.out hSt.out.kp HSf.out) hlt
   subst had;rw[Zf] at m2;obtain⟨e1,e2,e3,e4⟩:=HRs.out.el _ (List.getElem_mem hlt);have hst:=Gg s hlt;have hft:=Re s hlt;have hfl:=Ky s (k+1);rw[HRs.out.len] at hfl;have hfa:=Qa.mk (fun j h1 h2=>flat_at (fun p hp=>(HRs.out.el p hp).2.2.1) hlt (j:=j) h1 h2);obtain⟨bk,hbk⟩: ∃bk:Nat,(bk:Int)=(s[k]).1:=⟨(s[k]).1.toNat,by omega⟩;have hBWk:=Qa.mk (show BW bk from by have h9:=HBW.out _ (List.getElem_mem hlt);rwa [<-hbk,Int.toNat_natCast] at h9);obtain⟨nb,hnb⟩: ∃nb:Nat,(nb:Int)=(s[k]).2:=⟨(s[k]).2.toNat,by omega⟩;rw[<-hbk] at m1 e1 e2 hfa hft;rw[<-hnb] at m2 e3 e4 hst hfa hft;rw[Int.toNat_natCast] at hfa hft;obtain⟨o,ho⟩: ∃o,o=(Qo (s.take k)).length :=⟨_,rfl⟩;rw[<-ho] at hSt hfa;have hfl2:o+nb<=ws.length:=(by rw[hft,List.length_append,List.length_replicate,<-ho] at hfl;exact hfl);have hon:(Qo (s.take (k+1))).length =o+nb:=(by rw[hft,List.length_append,List.length_replicate,<-ho]);obtain⟨h1,hh1⟩: ∃h1,h1=Z7 (s.take (k+1)):=⟨_,rfl⟩;have hlt':=Qa.mk hlt;have hkI:(k:Int)<(s.length:Int):=(by omega);have hoI:(o:Int)+(nb:Int)<=128:=(by omega);have hpl:=Qa.mk (fun(k' j:Nat) (h:k'<=s.length) (h2:j<=ws.length)=>Qc9 HRs.out h h2);have hS4:=hSt.out.alloc #[.int .i64 bk,.int .i64 nb] 153;simp only[List.nil_append,List.cons_append] at hS4;have hM4:=hMk.out.keep (KeepsOthers.alloc wr (.cells #[.int .i64 bk,.int .i64 nb] 153));obtain⟨g13,hg13⟩: ∃g13,g13=wr.heap.size:=⟨_,rfl⟩;obtain⟨W4,hW4⟩: ∃W4,W4=wr.alloc (.cells #[.int .i64 bk,.int .i64 nb] 153):=⟨_,rfl⟩;rw[<-hg13,<-hW4] at hS4;rw[<-hW4] at hM4;have z4:wr.cell? ⟨w.heap.size,0,none⟩=some (.pointer (some ⟨p,0,none⟩)):=(by rw[Qb (hSt.out.blk (b:=⟨w.heap.size, #[.pointer (some ⟨p,0,none⟩)],69⟩) (by simp))];rfl);have z4l:w.heap.size<wr.heap.size:=World.block_lt_of_cell? _ _ z4;obtain⟨c0,hc0⟩: ∃c0,c0=cbk (Xe ws l) 0 ((Qo s).take o):=⟨_,rfl⟩;obtain⟨h0',hh0⟩: ∃h0',h0'=Z7 (s.take k):=⟨_,rfl⟩;rw[<-hc0,<-hh0] at hS4;rw[<-hh0,<-hh1] at hst;have hrm1:Z+(h1+c0)<=1048576:=(by have:=hpl.out (k+1) o (by omega) (by omega);have:=hroom.out;rw[hh1,hc0];have:=hCS.out;omega);have hgb:1<=Xb (nb:Int)/\Xb (nb:Int)<=15:=Dt (by omega) (by omega);obtain⟨bs,q1,i1,i2,i3,i4⟩:=hS4.ex;have hPt:=G9 (v:=bk) (n:=3) i2 (by omega) (by omega) (by rw[List.length_append];have:=hZ.out;omega);replace hPt:=Qa.mk hPt;replace i2:=Qa.mk i2;replace i3:=Qa.mk i3;replace i4:=Qa.mk i4;replace i1:=Qa.mk i1;replace hS4:=Qa.mk hS4;replace hM4:=Qa.mk hM4;replace hc0:=Qa.mk hc0;replace hh0:=Qa.mk hh0;replace hh1:=Qa.mk hh1;replace ho:=Qa.mk ho;replace hon:=Qa.mk hon;clear hbk hnb;replace hst:=Qa.mk hst;clear hft hfl hlt hk hSt hMk;gi_wp2_with fail;rw[<-hW4,<-hg13];clear hW4 hg13 m1 m2;refine⟨trivial,(callsIn_wide.2 hPt.out).mono ?_⟩;rintro en W5 ⟨Ep,rfl,hP5⟩;have hS5:=StW.wrote (m:=3) i1.out i3.out i4.out hS4.out.kp hS4.out.ge hS4.out.gs hP5 (by rw[Yf];rfl);have hM5:=hM4.out.keep (hS4.out.keeps i2.out hP5);clear hP5 hPt i1 i2 i3 i4 hS4 hM4 z4 z4l;have z4:W5.cell? ⟨w.heap.size,0,none⟩=some (.pointer (some ⟨p,0,none⟩)):=(by rw[Qb (hS5.blk (b:=⟨w.heap.size, #[.pointer (some ⟨p,0,none⟩)],69⟩) (by simp))];rfl);have z13:W5.cell? ⟨g13,1,none⟩=some (.int .i64 nb):=(by rw[Qb (hS5.blk (b:=⟨g13, #[.int .i64 bk,.int .i64 nb],153⟩) (by simp))];rfl);obtain⟨bs,q1,i1,i2,i3,i4⟩:=hS5.ex;have hGm:=Qba (v:=nb) i2 (by omega) (by omega) (by rw[List.length_append];have:=hZ.out;have:=hst.out;push_cast;omega);replace hGm:=Qa.mk hGm;replace i2:=Qa.mk i2;replace i3:=Qa.mk i3;replace i4:=Qa.mk i4;replace i1:=Qa.mk i1;replace hS5:=Qa.mk hS5;replace hM5:=Qa.mk hM5;gi_wp2_with fail;refine⟨trivial,(callsIn_wide.2 hGm.out).mono ?_⟩;rintro en W6 ⟨Eg,rfl,hP6⟩;have hS6:=StW.wrote (m:=Xb (nb:Int)) i1.out i3.out i4.out hS5.out.kp hS5.out.ge hS5.out.gs hP6 (Qd6 nb);have hM6:=hM5.out.keep (hS5.out.keeps i2.out hP6);rw[show h0'+c0+3+Xb (nb:Int)=h1+c0 by have:=hst.out;omega] at hS6;clear hP6 hGm i1 i2 i3 i4 hS5 hM5 z4 z13;obtain⟨g1,hg1⟩: ∃g1,g1=W6.heap.size:=⟨_,rfl⟩;gi_wp2_with fail;refine⟨trivial,(callsIn_wide.2 (Kt A (some bd) ws.length c1 l.length c2 W6)).mono ?_⟩;rintro en W7 ⟨rfl,hW7⟩;have hS7:=(hS6.alloc #[.slice A ws.length c1] 22).alloc #[.slice (some bd) l.length c2] 22;have hM7:=(hM6.keep (KeepsOthers.alloc _ (.cells #[.slice A ws.length c1] 22))).keep (KeepsOthers.alloc _ (.cells #[.slice (some bd) l.length c2] 22));have hs7:W7.heap.size=g1+1+1:=(by rw[hW7,hg1];simp);simp only[World.size_alloc,List.nil_append,List.cons_append] at hS7;rw[<-hW7,<-hg1] at hS7;rw[<-hW7] at hM7;rw[<-hg1];have hg1w:w.heap.size<=g1:=(by rw[hg1];exact hS6.kp.size);clear hW7 hg1 hS6 hM6;have b1:W7.cell? ⟨g1,0,none⟩=some (.slice A ws.length c1):=(by rw[Qb (hS7.blk (b:=⟨g1, #[.slice A ws.length c1],22⟩) (by simp))];rfl);have b2:W7.cell? ⟨g1+1,0,none⟩=some (.slice (some bd) l.length c2):=(by rw[Qb (hS7.blk (b:=⟨(g1+1), #[.slice (some bd) l.length c2],22⟩) (by simp))];rfl);have HA7:=Qa.mk ((HA.out.kp hS7.kp (q':=q) (.inl rfl)).1);have hMlt:Qa (∀D∈Ds,D<W7.heap.size):=⟨fun D hD=>(Array.getElem?_eq_some_iff.1 (hM7.2 D hD).2).1⟩;replace hs7:=Qa.mk hs7;replace hS7:=Qa.mk hS7;replace hM7:=Qa.mk hM7
   have HG:Qa (∀g∈g1::(g1+1)::Zy A,g<W7.heap.size):=⟨fun g hg=>by
    rw[hs7.out];rcases List.mem_cons.1 hg with rfl|hg
    ·omega
    ·rcases List.mem_cons.1 hg with rfl|hg
     ·omega
     ·have:=HG0.out g hg;omega⟩
   gi_wp2_with fail
   refine Xw rfl (by omega) (gf:=192) (lb:= #[.pointer (some ⟨g1,0,none⟩),.pointer (some ⟨g1+1,0,none⟩)]) rfl trivial (enters_of Tryz.func192 (by kernel_rfl) rfl)
    (Kr Fence.wide _ trivial rfl (by omega) g1 (g1+1) A (some bd) c1 c2 ws l HO.out HC.out W7 HA7.out (fun _=>⟨bd,rfl⟩) b1 b2)
    (fun h k=>h.trans k) ?keep (Below.refl _ _) (fun _=>rfl) (fun j W=>StW w base p q L (h1+cbk (Xe ws l) 0 ((Qo s).take (Gm o nb j))) [⟨w.heap.size, #[.pointer (some ⟨p,0,none⟩)],69⟩,⟨g11, #[.int .i64 (o:Nat)],3⟩,⟨g13, #[.int .i64 bk,.int .i64 nb],153⟩,⟨g1, #[.slice A ws.length c1],22⟩,⟨(g1+1), #[.slice (some bd) l.length c2],22⟩] W/\Marks w.heap.size Ds W) ?own ?rstart ?rround ?rdone
   case keep=>exact Qz.putObj (N:=W7.heap.size) HG.out
   case own=>
    rintro j W W' row ⟨h,hm⟩ hg hrow;refine⟨h.turn hg (fun r e=>⟨by have:=(hrow r e).1;have:=hs7.out;omega,(hrow r e).2⟩),hm.1,fun D hD=>⟨(hm.2 D hD).1,(hg.block D (Array.getElem?_eq_some_iff.1 (hm.2 D hD).2).1 (fun e=> ?_)).trans (hm.2 D hD).2⟩⟩;have:=(hrow D e.symm).1;have:=hMlt.out D hD;omega
   case rstart=>exact⟨by rw[show Gm o nb 0=o by unfold Gm;omega,<-hc0.out];exact hS7.out,hM7.out⟩
   case rround=>
    rintro Lr j W ⟨hSw,hMw⟩ hj;have hof:=Vz HO.out hj;have hbA:Yk (Xf ws l j)=true:=Vk HO.out.vals j;have hbl:=Vl HO.out hj;have hBF:Qa (∀(W':World) (q':Option Nat),Y1 p q' W' (some bd) l.length l->Y1 p q' W' (some (bd.add (V8 ws j))) (Xf ws l j).length (Xf ws l j)):=⟨fun W' q' h=>band_far HO.out hj h⟩;have hft:=HRs.out.fits j hj;have hcb:=Bh (Xe ws l) (Qo s) (k:=j) (by rw[HRs.out.len];exact hj);have hcc:Xe ws l (rd (Qo s) j).toNat j=Q5 (rd (Qo s) j).toNat (Xf ws l j):=rfl;rw[hcc] at hft hcb;simp only[O1,gSl];obtain⟨ag,hag⟩: ∃ag,ag=bd.add (V8 ws j):=⟨_,rfl⟩;obtain⟨d,hd⟩: ∃d,d=(rd ws j).toNat :=⟨_,rfl⟩;obtain⟨x,hx⟩: ∃x,x=Xf ws l j:=⟨_,rfl⟩;rw[<-hx] at hBF hbA hbl hft hcb;rw[<-hag] at hBF ⊢;rw[<-hd] at hbl hof ⊢;have hxl:x.length<=128:=(by omega);rw[<-hbl];have hjT:=Qa.mk hj;have hj9:(j:Int)<(ws.length:Int):=(by omega);replace hft:=Qa.mk hft;replace hcb:=Qa.mk hcb;clear hof hag hx hj hd hbl hcc;gi_wp2;have hal:=(Below.refl W.heap.size W).alloc (Nat.le_refl _) (.cells #[.int .i64 j,.slice (some ag) x.length x.length] 163);have hSa:=hSw.alloc #[.int .i64 j,.slice (some ag) x.length x.length] 163;simp only[List.nil_append,List.cons_append] at hSa
    have hszW:W7.heap.size<=W.heap.size:=by
     have h9:=Qr (hSw.blk (b:=⟨(g1+1), #[.slice (some bd) l.length c2],22⟩) (by simp));dsimp only at h9;have:=hs7.out;omega
    refine⟨(Zq hal).from _,Qz.step HG.out hszW hal,fun Z=>StW w base p q L (h1+cbk (Xe ws l) 0 ((Qo s).take (Gm o nb j))) [⟨w.heap.size, #[.pointer (some ⟨p,0,none⟩)],69⟩,⟨g11, #[.int .i64 (o:Nat)],3⟩,⟨g13, #[.int .i64 bk,.int .i64 nb],153⟩,⟨g1, #[.slice A ws.length c1],22⟩,⟨(g1+1), #[.slice (some bd) l.length c2],22⟩,⟨W.heap.size, #[.int .i64 j,.slice (some ag) x.length x.length],163⟩] Z/\Marks w.heap.size Ds Z,⟨hSa,hMw.keep (KeepsOthers.alloc _ _)⟩,?_,?_⟩
    ·rintro _ Z Z' row ⟨h,hm⟩ hg hrow
     refine⟨h.turn hg (fun r e=>⟨by have:=(hrow r e).1;have:=hs7.out;omega,(hrow r e).2⟩),hm.1,fun D hD=>⟨(hm.2 D hD).1,(hg.block D (Array.getElem?_eq_some_iff.1 (hm.2 D hD).2).1 (fun e=> ?_)).trans (hm.2 D hD).2⟩⟩;have:=(hrow D e.symm).1;have:=hMlt.out D hD;omega
    clear hal hSa hszW hSw hMw;obtain⟨g14,hg14⟩: ∃g14,g14=W.heap.size:=⟨_,rfl⟩;rw[<-hg14];rintro Z ⟨hSw,hMw⟩;clear hg14;obtain⟨W,rfl⟩: ∃W:World,W=Z:=⟨_,rfl⟩;have z4:W.cell? ⟨w.heap.size,0,none⟩=some (.pointer (some ⟨p,0,none⟩)):=(by rw[Qb (hSw.blk (b:=⟨w.heap.size, #[.pointer (some ⟨p,0,none⟩)],69⟩) (by simp))];rfl);have z11:W.cell? ⟨g11,0,none⟩=some (.int .i64 (o:Nat)):=(by rw[Qb (hSw.blk (b:=⟨g11, #[.int .i64 (o:Nat)],3⟩) (by simp))];rfl);have za:W.cell? ⟨g13,0,none⟩=some (.int .i64 bk):=(by rw[Qb (hSw.blk (b:=⟨g13, #[.int .i64 bk,.int .i64 nb],153⟩) (by simp))];rfl);have zb:W.cell? ⟨g13,1,none⟩=some (.int .i64 nb):=(by rw[Qb (hSw.blk (b:=⟨g13, #[.int .i64 bk,.int .i64 nb],153⟩) (by simp))];rfl);have ya:W.cell? ⟨g14,0,none⟩=some (.int .i64 j):=(by rw[Qb (hSw.blk (b:=⟨g14, #[.int .i64 j,.slice (some ag) x.length x.length],163⟩) (by simp))];rfl);have yb:W.cell? ⟨g14,1,none⟩=some (.slice (some ag) x.length x.length):=(by rw[Qb (hSw.blk (b:=⟨g14, #[.int .i64 j,.slice (some ag) x.length x.length],163⟩) (by simp))];rfl);have hdr: ∀(n:Int) (W':World),StW w base p q L (n) [⟨w.heap.size, #[.pointer (some ⟨p,0,none⟩)],69⟩,⟨g11, #[.int .i64 (o:Nat)],3⟩,⟨g13, #[.int .i64 bk,.int .i64 nb],153⟩,⟨g1, #[.slice A ws.length c1],22⟩,⟨(g1+1), #[.slice (some bd) l.length c2],22⟩,⟨g14, #[.int .i64 j,.slice (some ag) x.length x.length],163⟩] W'->StW w base p q L (n) [⟨w.heap.size, #[.pointer (some ⟨p,0,none⟩)],69⟩,⟨g11, #[.int .i64 (o:Nat)],3⟩,⟨g13, #[.int .i64 bk,.int .i64 nb],153⟩,⟨g1, #[.slice A ws.length c1],22⟩,⟨(g1+1), #[.slice (some bd) l.length c2],22⟩] W':=fun n W' h=>StW.drop (G1:=[⟨w.heap.size, #[.pointer (some ⟨p,0,none⟩)],69⟩,⟨g11, #[.int .i64 (o:Nat)],3⟩,⟨g13, #[.int .i64 bk,.int .i64 nb],153⟩,⟨g1, #[.slice A ws.length c1],22⟩,⟨(g1+1), #[.slice (some bd) l.length c2],22⟩]) (G2:=[⟨g14, #[.int .i64 j,.slice (some ag) x.length x.length],163⟩]) h
    replace hdr:=Qa.mk hdr;by_cases hlo:j<o
    ·have hpo:Qa (Gm o nb (j+1)=Gm o nb j):=⟨by unfold Gm;omega⟩
     have hlo':decide (o<=j)=false:=decide_eq_false (by omega);replace hSw:=Qa.mk hSw;replace hMw:=Qa.mk hMw;clear hlo;gi_wp2;exact⟨(KeepsOthers.refl W).from _,Qz.refl _ _,by rw[hpo.out];exact hdr.out _ _ hSw.out,hMw.out⟩
    ·by_cases hhi:j<o+nb
     ·have hrd:=hfa.out j (by omega) hhi
      have hpj:Qa (Gm o nb (j+1)=j+1/\Gm o nb j=j):=⟨by unfold Gm;omega⟩;rw[hrd,Int.toNat_natCast] at hft hcb;obtain⟨hfit,hcB⟩:=Qds hft.out;have hrm:=hpl.out (k+1) (j+1) (by have:=hlt'.out;omega) (by omega);rw[hcb.out,<-hh1.out,<-hCS.out] at hrm;rw[hpj.out.2] at hSw;obtain⟨bs,q1,i1,i2,i3,i4,hF⟩:=hSw.far HA2.out;have hWb:=hBWk.out base p q1 (L++bs) (some ag) x.length x W i2 HB4.out (hSw.laid HW.out HL.out HB4.out) (hBF.out W q1 hF) (by omega) (Nat.le_refl _) hbA hfit (by rw[List.length_append,hcB];have:=hroom.out;have:=hZ.out;push_cast;omega);have hiI:(o:Int)<=(j:Int)/\(j:Int)<(o:Int)+(nb:Int):=(by omega);have hlo2:o<=j:=(by omega);replace hWb:=Qa.mk hWb;replace i1:=Qa.mk i1;replace i2:=Qa.mk i2;replace i3:=Qa.mk i3;replace i4:=Qa.mk i4;replace hSw:=Qa.mk hSw;replace hMw:=Qa.mk hMw;replace hfit:=Qa.mk hfit;replace hcB:=Qa.mk hcB;replace hrd:=Qa.mk hrd;clear hlo hrm hF;gi_wp2_with fail;refine⟨trivial,CallsIn.inRound Lr (callsIn_wide.2 (hWb.out.mono ?_))⟩;rintro en W9 ⟨rfl,bs2,hb2,hP9⟩;have hS9:=StW.wrote (m:=Yp bk x) i1.out i3.out i4.out hSw.out.kp hSw.out.ge hSw.out.gs hP9 hb2;have hK9:=hSw.out.keeps i2.out hP9;rw[show h1+cbk (Xe ws l) 0 ((Qo s).take j)+Yp bk x=h1+cbk (Xe ws l) 0 ((Qo s).take (j+1)) by rw[hcb.out,hcB.out];omega] at hS9;have hkl:=StW.keepL (b1:=⟨g1, #[.slice A ws.length c1],22⟩) (b2:=⟨(g1+1), #[.slice (some bd) l.length c2],22⟩) hSw.out hS9 (by simp) (by simp) (by simp) (by simp) HG0.out;replace hS9:=Qa.mk hS9;replace hK9:=Qa.mk hK9;replace hkl:=Qa.mk hkl;clear hP9 hb2 hWb i1 i2 i3 i4 z4 z11 za zb ya yb;gi_wp2;exact⟨hK9.out.from _,hkl.out,by rw[hpj.out.1];exact hdr.out _ _ hS9.out,hMw.out.keep hK9.out⟩
     ·have hpo:Qa (Gm o nb (j+1)=Gm o nb j):=⟨by unfold Gm;omega⟩
      have hlo2:o<=j:=(by omega);have hhi':decide ((j:Int)<(o:Int)+(nb:Int))=false:=decide_eq_false (by omega);have hhi2:decide (j<o+nb)=false:=decide_eq_false (by omega);replace hSw:=Qa.mk hSw;replace hMw:=Qa.mk hMw;clear hlo hhi;gi_wp2;exact⟨(KeepsOthers.refl W).from _,Qz.refl _ _,by rw[hpo.out];exact hdr.out _ _ hSw.out,hMw.out⟩
   case rdone=>
    rintro D W hD ⟨hSw,hMw⟩ hDf;rw[show Gm o nb ws.length=o+nb by unfold Gm;omega] at hSw;have z11:W.cell? ⟨g11,0,none⟩=some (.int .i64 (o:Nat)):=(by rw[Qb (hSw.blk (b:=⟨g11, #[.int .i64 (o:Nat)],3⟩) (by simp))];rfl);have y11:=Qj (hSw.blk (b:=⟨g11, #[.int .i64 (o:Nat)],3⟩) (by simp)) 0;have zb:W.cell? ⟨g13,1,none⟩=some (.int .i64 nb):=(by rw[Qb (hSw.blk (b:=⟨g13, #[.int .i64 bk,.int .i64 nb],153⟩) (by simp))];rfl);have hSf:=StW.set (G1:=[⟨w.heap.size, #[.pointer (some ⟨p,0,none⟩)],69⟩]) (G2:=[⟨g13, #[.int .i64 bk,.int .i64 nb],153⟩,⟨g1, #[.slice A ws.length c1],22⟩,⟨(g1+1), #[.slice (some bd) l.length c2],22⟩]) (b:=⟨g11, #[.int .i64 (o:Nat)],3⟩) hSw 0 (.int .i64 ((o:Int)+(nb:Int)));simp only[List.nil_append,List.cons_append,List.setIfInBounds_toArray,List.set_cons_zero] at hSf;have hSg:=Qa.mk (StW.drop (G1:=[⟨w.heap.size, #[.pointer (some ⟨p,0,none⟩)],69⟩,⟨g11, #[.int .i64 ((o:Int)+(nb:Int))],3⟩]) (G2:=[⟨g13, #[.int .i64 bk,.int .i64 nb],153⟩,⟨g1, #[.slice A ws.length c1],22⟩,⟨(g1+1), #[.slice (some bd) l.length c2],22⟩]) hSf);have hMg:=Qa.mk ((hMw.cons (D:=D) (by have:=hs7.out;omega) hDf (fun D' hD'=>by have:=hMlt.out D' hD';omega)).keep (KeepsOthers.setCell W ⟨g11,0,none⟩ (.int .i64 ((o:Int)+(nb:Int)))));have hcast:Qa (((Qo (s.take (k+1))).length :Int)=(o:Int)+(nb:Int)):=⟨by rw[hon.out];push_cast;rfl⟩;clear hSw hMw hSf hDf;gi_wp2;refine⟨⟨k+1,hlt'.out,?_,D::Ds,hMg,by push_cast;rfl,rfl⟩,?_⟩
    ·exact⟨by rw[hcast.out,hon.out,<-hh1.out];exact hSg.out⟩
    ·simp[intOf]
     have:=hlt'.out;omega
  ·obtain rfl:k=s.length:=by omega
   rw[List.take_length,HRs.out.len,show(Qo s).take ws.length=Qo s by rw[<-HRs.out.len,List.take_length]] at hSt;gi_wp2;refine Bw (B:=w.heap.size) (J:=fun W=>StW w base p q L (Z7 s+cbk (Xe ws l) 0 (Qo s)) [⟨w.heap.size, #[.pointer (some ⟨p,0,none⟩)],69⟩,⟨g11, #[.int .i64 (ws.length:Nat)],3⟩] W) ?_ ?_ Ds wr hMk.out hSt.out
   ·intro W D hJ hB hDf
    exact hJ.turn (grownBy_putObj' W D (.deferred none)) (fun r e=>by cases e;exact⟨hB,_,hDf,rfl⟩)
   ·intro W hJ
    obtain⟨⟨bs,q1,i1,i2,i3,-⟩,i5,-,-⟩:=hJ;exact⟨.int .i64 0,by simp[results,Tryz.f90,go_sem],rfl,bs,by rw[i1,hCS.out];rfl,q1,i2,i3,i5⟩
end Sec

end Go.Proofs.YtnflnicdjioflaaGreatDoor
