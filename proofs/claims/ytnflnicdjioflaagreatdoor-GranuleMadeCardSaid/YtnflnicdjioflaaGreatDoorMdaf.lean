/- A part of the proof. -/
import Derived.Test.YtnflnicdjioflaaGreatDoorMdad
set_option linter.unusedVariables false
set_option linter.unusedSimpArgs false
set_option maxRecDepth 100000
set_option maxHeartbeats 8000000
namespace Go.Proofs.YtnflnicdjioflaaGreatDoor
open Go.RowKit Go.Proofs.YtnflnicdjioflaaGreatDoorW.PrintWords Go.Proofs.YtnflnicdjioflaaGreatDoorW.PrintLast Go.Proofs.YtnflnicdjioflaaGreatDoorW.PrintMore
namespace Bts
attribute [local go_sem] Qi Qj Qk Ql Qg Qh
open Q15 (cnx bnx)
structure Row where
 e:Nat
 sz:Nat
 v:Value
 n:Nat
 cs:List Value
structure Blk where
 g:Nat
 cs:Array Value
 t:Nat
structure Rws (wr w:World) (L:List Row) (G:List Blk):Prop where
 below:Below wr.heap.size wr w
 row: ∀r∈L,w.ownsRow wr.heap.size r.e r.sz r.v r.n r.cs
 pair:L.Pairwise (fun a b=>a.v.ownBlock=none\/a.v.ownBlock≠b.v.ownBlock)
 blk: ∀b∈G,w.heap[b.g]? =some (.cells b.cs b.t (0,0))/\wr.heap.size<=b.g
 far: ∀r∈L,∀b∈G,r.v.ownBlock≠some b.g
 gs:G.Pairwise (fun a b=>a.g≠b.g)
variable {wr w w1:World} {L L1 L2:List Row} {G G1 G2:List Blk}
theorem Rws.start (w:World):Rws w w [] []:=⟨Below.refl _ _,by simp,.nil,by simp,by simp,.nil⟩
theorem Rws.step (h:Rws wr w L G) (hb:Below w.heap.size w w1):Rws wr w1 L G:=
 ⟨bnx h.below hb,fun r hr=>Na (h.row r hr) hb,h.pair,fun b hb'=>⟨Qv (h.blk b hb').1 hb,(h.blk b hb').2⟩,h.far,h.gs⟩
theorem Rws.drew (h:Rws wr w L G):Rws wr w.drew L G:=h.step (Below.refl _ _).drew
theorem Rws.call (h:Rws wr w L G) (hb:Below w.heap.size w w1) {r:Row} {b:Nat} (ho:w1.ownsRow b r.e r.sz r.v r.n r.cs) (hbs:w.heap.size<=b):Rws wr w1 (L++[r]) G:=by
 have h1:=h.step hb;refine⟨h1.below,fun q hq=> ?_,?_,h1.blk,fun q hq g hg=> ?_,h1.gs⟩
 ·rcases List.mem_append.1 hq with hq|hq
  ·exact h1.row q hq
  ·rw[List.mem_singleton.1 hq]
   exact Kd.Qee ho (fun k hk=>by have:=Yw ho k hk;have:=h.below.size;omega)
 ·refine List.pairwise_append.2 ⟨h1.pair,List.pairwise_singleton _ _,fun a ha c hc=> ?_⟩
  rw[List.mem_singleton.1 hc]
  cases hav:a.v.ownBlock with
  |none=>exact .inl rfl
  |some k=>
   refine .inr fun e=> ?_
   have:=Fh (h.row a ha) k hav;have:=Yw ho k e.symm;omega
 ·rcases List.mem_append.1 hq with hq|hq
  ·exact h1.far q hq g hg
  ·rw[List.mem_singleton.1 hq]
   intro e;have:=Qp (h.blk g hg).1;have:=Yw ho g.g e;omega
theorem Rws.alloc (h:Rws wr w L G) (cs:Array Value) (t:Nat):Rws wr (w.alloc (.cells cs t)) L (G++[⟨w.heap.size,cs,t⟩]):=by
 have hb:Below w.heap.size w (w.alloc (.cells cs t)):=(Below.refl _ _).alloc (Nat.le_refl _) _;have h1:=h.step hb;refine⟨h1.below,h1.row,h1.pair,fun b hb=> ?_,fun r hr b hb=> ?_,?_⟩
 ·rcases List.mem_append.1 hb with hb|hb
  ·exact h1.blk b hb
  ·rw[List.mem_singleton.1 hb]
   exact⟨heap_alloc_new _ _,h.below.size⟩
 ·rcases List.mem_append.1 hb with hb|hb
  ·exact h1.far r hr b hb
  ·rw[List.mem_singleton.1 hb]
   intro e;have:w.heap.size<w.heap.size:=Fh (h.row r hr) _ e;omega
 ·refine List.pairwise_append.2 ⟨h1.gs,List.pairwise_singleton _ _,fun a ha c hc=> ?_⟩
  rw[List.mem_singleton.1 hc];have:=Qp (h.blk a ha).1
  show a.g≠w.heap.size
  omega
theorem Rws.app {r:Row} (h:Rws wr w (L1++r::L2) G) {r1:Row} (ho:w1.ownsRow wr.heap.size r1.e r1.sz r1.v r1.n r1.cs) (hb:Below wr.heap.size wr w1) (hg:w.grownBy w1 r.v.ownBlock)
  (hat:r1.v.ownBlock=r.v.ownBlock\/ ∃b,r1.v.ownBlock=some b/\w.heap.size<=b):Rws wr w1 (L1++r1::L2) G:=by
 have hpw:=List.pairwise_append.1 h.pair;have hpc:=List.pairwise_cons.1 hpw.2.1
 have key: ∀q:Row,(q.v.ownBlock=none\/q.v.ownBlock≠r.v.ownBlock)->w.ownsRow wr.heap.size q.e q.sz q.v q.n q.cs->(q.v.ownBlock=none\/q.v.ownBlock≠r1.v.ownBlock)/\w1.ownsRow wr.heap.size q.e q.sz q.v q.n q.cs:=fun q hq ho=>by
  refine⟨?_,Ct ho hg hq⟩;rcases hat with e|⟨b,e,hle⟩
  ·rw[e];exact hq
  ·cases hqv:q.v.ownBlock with
   |none=>exact .inl rfl
   |some k=>
    refine .inr fun e2=> ?_
    have:=Fh ho k hqv;rw[e] at e2;cases e2;omega
 have hq: ∀q∈L1++L2,q.v.ownBlock=none\/q.v.ownBlock≠r.v.ownBlock:=fun q hq=>by
  rcases List.mem_append.1 hq with hq|hq
  ·exact hpw.2.2 q hq r (by simp)
  ·rcases hpc.1 q hq with e|e
   ·cases hqv:q.v.ownBlock with
    |none=>exact .inl rfl
    |some k=>rw[e];exact .inr (by simp)
   ·exact .inr (fun e2=>e e2.symm)
 refine⟨hb,fun q hq'=> ?_,?_,fun b hb'=> ?_,fun q hq' b hb'=> ?_,h.gs⟩
 ·rcases List.mem_append.1 hq' with h1|h1
  ·exact(key q (hq q (by simp[h1])) (h.row q (by simp[h1]))).2
  ·rcases List.mem_cons.1 h1 with rfl|h1
   ·exact ho
   ·exact(key q (hq q (by simp[h1])) (h.row q (by simp[h1]))).2
 ·refine List.pairwise_append.2 ⟨hpw.1,List.pairwise_cons.2 ⟨fun q h1=> ?_,hpc.2⟩,fun a ha c hc=> ?_⟩
  ·have:=(key q (hq q (by simp[h1])) (h.row q (by simp[h1]))).1
   cases hrv:r1.v.ownBlock with
   |none=>exact .inl rfl
   |some k=>
    refine .inr fun e=> ?_
    rcases this with e2|e2
    ·rw[e2] at e;cases e
    ·exact e2 (by rw[hrv];exact e.symm)
  ·rcases List.mem_cons.1 hc with rfl|hc
   ·exact(key a (hq a (by simp[ha])) (h.row a (by simp[ha]))).1
   ·exact hpw.2.2 a ha c (by simp[hc])
 ·have h1:=h.blk b hb'
  refine⟨(hg.block b.g (Qp h1.1) (fun e=>h.far r (by simp) b hb' e.symm)).trans h1.1,h1.2⟩
 ·have hfar: ∀q∈L1++r::L2,q.v.ownBlock≠some b.g:=fun q hq=>h.far q hq b hb'
  rcases List.mem_append.1 hq' with h1|h1
  ·exact hfar q (by simp[h1])
  ·rcases List.mem_cons.1 h1 with rfl|h1
   ·rcases hat with e|⟨k,e,hle⟩
    ·rw[e];exact hfar r (by simp)
    ·rw[e]
     intro e2;cases e2;have:=Qp (h.blk b hb').1;omega
   ·exact hfar q (by simp[h1])
theorem Rws.set {b:Blk} (h:Rws wr w L (G1++b::G2)) (i:Nat) (u:Value):Rws wr (w.setCell ⟨b.g,i,none⟩ u) L (G1++⟨b.g,b.cs.setIfInBounds i u,b.t⟩::G2):=by
 have hpw:=List.pairwise_append.1 h.gs;have hpc:=List.pairwise_cons.1 hpw.2.1;have hb:=h.blk b (by simp);refine⟨h.below.setCell (p:=⟨b.g,i,none⟩) hb.2 u,fun r hr=>Qah (h.row r hr) (fun e=>h.far r hr b (by simp) e.symm) u,h.pair,fun c hc=> ?_,fun r hr c hc=> ?_,?_⟩
 ·have hne: ∀c∈G1++G2,c.g≠b.g:=fun c hc=>by
   rcases List.mem_append.1 hc with hc|hc
   ·exact hpw.2.2 c hc b (by simp)
   ·exact fun e=>hpc.1 c hc e.symm
  rcases List.mem_append.1 hc with h1|h1
  ·exact⟨Js (h.blk c (by simp[h1])).1 (p:=⟨b.g,i,none⟩) (hne c (by simp[h1])) u,(h.blk c (by simp[h1])).2⟩
  ·rcases List.mem_cons.1 h1 with rfl|h1
   ·exact⟨Q3 hb.1 i u,hb.2⟩
   ·exact⟨Js (h.blk c (by simp[h1])).1 (p:=⟨b.g,i,none⟩) (hne c (by simp[h1])) u,(h.blk c (by simp[h1])).2⟩
 ·rcases List.mem_append.1 hc with h1|h1
  ·exact h.far r hr c (by simp[h1])
  ·rcases List.mem_cons.1 h1 with rfl|h1
   ·exact h.far r hr b (by simp)
   ·exact h.far r hr c (by simp[h1])
 ·refine List.pairwise_append.2 ⟨hpw.1,List.pairwise_cons.2 ⟨hpc.1,hpc.2⟩,fun a ha c hc=> ?_⟩
  rcases List.mem_cons.1 hc with rfl|hc
  ·exact hpw.2.2 a ha b (by simp)
  ·exact hpw.2.2 a ha c (by simp[hc])
theorem Rws.perm {L':List Row} {G':List Blk} (h:Rws wr w L G) (p:L.Perm L') (p2:G.Perm G'):Rws wr w L' G':=
 ⟨h.below,fun r hr=>h.row r (p.mem_iff.2 hr),(p.pairwise_iff (fun{a b} hab=>by
   rcases hab with e|e
   ·cases hb:b.v.ownBlock with
    |none=>exact .inl rfl
    |some k=>rw[e];exact .inr (by simp)
   ·exact .inr (fun e2=>e e2.symm))).1 h.pair,fun b hb=>h.blk b (p2.mem_iff.2 hb),fun r hr b hb=>h.far r (p.mem_iff.2 hr) b (p2.mem_iff.2 hb),(p2.pairwise_iff (fun{a b} hab e=>hab e.symm)).1 h.gs⟩
theorem Rws.nil (h:Rws wr w L G) (e sz:Nat):Rws wr w (L++[⟨e,sz,.slice none 0 0,0,[]⟩]) G:=
 h.call (Below.refl _ _) (r:=⟨e,sz,.slice none 0 0,0,[]⟩) (Qc5 w w.heap.size e sz) (Nat.le_refl _)
theorem Ka {P:Program} {md:Region.Mode} {ops:Array Oper} {Q:Exit->Act->World->Prop} {S:World->Prop} {ds:List Nat} {n:Nat} {l l':Array Bool} {a a':Act} {w:World} (hl:l=l') (ha:a=a') (h:Go.Proofs.YtnflnicdjioflaaGreatDoorW.PrintLast.Qz P md ops Q S ds n l' a' w):Go.Proofs.YtnflnicdjioflaaGreatDoorW.PrintLast.Qz P md ops Q S ds n l a w:=by
 subst hl;subst ha;exact h
abbrev rI (e:Nat) (v:Value) (xs:List Int):Row:=⟨e,1,v,xs.length,encs (Value.int .i64) xs⟩
theorem P6 {e b:Nat} {v:Value} {xs:List Int} (h:w.ownsRow b e 1 v xs.length (encs (Value.int .i64) xs)):(Kd.int .i64).R e w b (fun k=>some k=v.ownBlock) v xs:=Kd.Vm h (fun k e=>e.symm)
end Bts

end Go.Proofs.YtnflnicdjioflaaGreatDoor
