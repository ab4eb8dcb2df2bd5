/- A part of the proof. -/
import Derived.Test.YtnflnicdjioflaaGreatDoorSxaj
import Derived.Test.YtnflnicdjioflaaGreatDoorSxai
import Derived.Lib.AppendZeros
import Derived.RangeFuncOwn
import Derived.Laws.Append
set_option linter.unusedVariables false
set_option linter.unusedSimpArgs false
set_option maxRecDepth 100000
set_option maxHeartbeats 8000000
namespace Go.Proofs.YtnflnicdjioflaaGreatDoor
open Go.RowKit Go.Proofs.YtnflnicdjioflaaGreatDoorW.PrintWords Go.Proofs.YtnflnicdjioflaaGreatDoorW.PrintLast Go.Proofs.YtnflnicdjioflaaGreatDoorW.PrintMore
namespace Bts
attribute [local go_sem] Qh Qi Qk Ql Qd Qe
open Q15 (cnx bnx)
variable {P:Program} {wr W:World} {L L1 L2:List Row} {G G2:List Blk}
theorem Gi (W:World) (news:List Value) (e:Nat): ∀j u,news[j]? =some u->(W.alloc (.cells news.toArray e)).cell? ((⟨W.heap.size,0,none⟩:Addr).add j)=some u:=by
 simpa using World.news_of_block (cs:=news.toArray) (t:=e) (fr:=(0,0)) (heap_alloc_new W (.cells news.toArray e))
theorem Rz {W:World} {base e sz n:Nat} {v:Value} {xs:List Value} (h:W.ownsRow base e sz v n xs): ∃A c,v= .slice A n c:=by
 rcases h.2 with ⟨hv,rfl⟩|⟨g,cap,cur,hv,_⟩
 ·exact⟨_,_,hv⟩
 ·exact⟨_,_,hv⟩
theorem Qeh {base e sz n:Nat} {v:Value} {xs:List Value} {W1:World} (h:W.ownsRow base e sz v n xs) (hg:W.grownBy W1 v.ownBlock):KeepsOthers W W1:=
 KeepsOthers.of_grownBy hg (fun j o hj ho=>by
  rcases h.2 with ⟨hv,_⟩|⟨g,cap,cur,hv,_,hg2,_⟩
  ·rw[hv] at hj;cases hj
  ·rw[hv] at hj
   cases hj;rw[hg2] at ho;cases ho
   rfl)
theorem Rws.drop (h:Rws wr W (L1++L2) (G++G2)):Rws wr W L1 G:=
 ⟨h.below,fun r hr=>h.row r (by simp[hr]),(List.pairwise_append.1 h.pair).1,fun b hb=>h.blk b (by simp[hb]),fun r hr b hb=>h.far r (by simp[hr]) b (by simp[hb]),(List.pairwise_append.1 h.gs).1⟩
theorem Qcq (t ty e:TypeId) (z:Value) (sz bytes:Nat) (ht:P.underlying t=some (.slice e)) (hinfo:(P.info? e).map (fun i=>(i.zero,i.size,i.bytes))=some (some z,sz,bytes)) (hz:z.cells.size=sz) (hs0:0<sz) (hb0:0<bytes)
  (v:Value) (n:Nat) (xs:List Value) (h:Rws wr W (L1++⟨e,sz,v,n,xs⟩::L2) G) (ad:Addr) (m c:Nat) (news:List Value) (hn:news.length=m*sz)
  (hc: ∀j u,news[j]? =some u->W.cell? (ad.add j)=some u) (h1: ∀u∈news,u.oneCell'=true) (hl:(n+m)*bytes<=140737488355328):
  ∃v1 w1,(Builtin.append_ #[t,t] ty #[v,.slice (some ad) m c]).run P W= .ok v1 w1/\Rws wr w1 (L1++⟨e,sz,v1,n+m,xs++news⟩::L2) G/\W.grownBy w1 v.ownBlock/\KeepsOthers W w1:=by
 obtain⟨i,hi,hzz⟩:=Option.map_eq_some_iff.1 hinfo;simp only[Prod.mk.injEq] at hzz;obtain⟨hz1,hz2,hz3⟩:=hzz;have ho:W.ownsRow wr.heap.size e sz v n xs:=h.row ⟨e,sz,v,n,xs⟩ (by simp);have hlen:n+m<=140737488355328:=Nat.le_trans (Nat.le_mul_of_pos_right _ hb0) hl;obtain⟨v1,w1,hrun,r1,r2,_,r4⟩:=run_append_own_at (P:=P) W wr.heap.size t ty e i z sz bytes ht hi hz1 hz2 hz3 hz hs0 v n xs ho ad m c news hn hc h1 (by unfold maxLen;omega) hl h.below.size;refine⟨v1,w1,hrun,?_,r2,Qeh ho r2⟩
 exact Rws.app (r:=⟨e,sz,v,n,xs⟩) (r1:=⟨e,sz,v1,n+m,xs++news⟩) h r1 (h.below.grown r2 h.below.size (fun r er=>Yq ho r er)) r2 (by
  rcases r4 with e4|e4
  ·exact .inl e4
  ·exact .inr ⟨_,e4,Nat.le_refl _⟩)
theorem appIn {F:Fence} {n0:Nat} {ops:Array Oper} {rest:List Oper} {o:Oper} {a:Act} {Q:Exit->Act->World->Prop}
  (hg:o.guard=none) (s x:Operand) (t e:TypeId) (hop:o.op=Op.call {callee:=Callee.builtin Builtin.append,args:= #[s,x],argTypes:= #[t,t]}) (z:Value) (sz bytes:Nat)
  (ht:P.underlying t=some (.slice e)) (hinfo:(P.info? e).map (fun i=>(i.zero,i.size,i.bytes))=some (some z,sz,bytes)) (hz:z.cells.size=sz) (hs0:0<sz) (hb0:0<bytes)
  (v:Value) (n:Nat) (xs:List Value) (hs:a.eval s=v) (h:Rws wr W (L1++⟨e,sz,v,n,xs⟩::L2) G) (ad:Addr) (m c:Nat) (news:List Value) (hx:a.eval x= .slice (some ad) m c) (hn:news.length=m*sz)
  (hc: ∀j u,news[j]? =some u->W.cell? (ad.add j)=some u) (h1: ∀u∈news,u.oneCell'=true) (hl:(n+m)*bytes<=140737488355328)
  (hK: ∀v1 w1,Rws wr w1 (L1++⟨e,sz,v1,n+m,xs++news⟩::L2) G->W.grownBy w1 v.ownBlock->KeepsOthers W w1->wpListIn F n0 P ops Q rest (a.put o.dst v1) w1):
  wpListIn F n0 P ops Q (o::rest) a W:=by
 refine wpListIn_plain hg fun K hK'=> ?_
 obtain⟨v',w',hrun,r1,r2,r3⟩:=Qcq (P:=P) t o.type e z sz bytes ht hinfo hz hs0 hb0 v n xs h ad m c news hn hc h1 hl;unfold Oper.wpIn;refine⟨?_,?_⟩
 ·simp[Oper.about,hop,resolve,Target.leads,Sem.run_pure]
 ·rw[Oper.semAt_plain F _ _ (by rw[hop];intro c hc';cases hc')]
  simp[execOp,hop,resolve,invoke,builtin,hs,hx,hrun,Result.andThen];exact hK' _ _ (hK v' w' r1 r2 r3)
theorem Kq {ops:Array Oper} {rest:List Oper} {o:Oper} {a:Act} {Q:Exit->Act->World->Prop}
  (hg:o.guard=none) (s x:Operand) (t e:TypeId) (hop:o.op=Op.call {callee:=Callee.builtin Builtin.append,args:= #[s,x],argTypes:= #[t,t]}) (z:Value) (sz bytes:Nat)
  (ht:P.underlying t=some (.slice e)) (hinfo:(P.info? e).map (fun i=>(i.zero,i.size,i.bytes))=some (some z,sz,bytes)) (hz:z.cells.size=sz) (hs0:0<sz) (hb0:0<bytes)
  (v:Value) (n:Nat) (xs:List Value) (hs:a.eval s=v) (h:Rws wr W (L1++⟨e,sz,v,n,xs⟩::L2) G) (ad:Addr) (m c:Nat) (news:List Value) (hx:a.eval x= .slice (some ad) m c) (hn:news.length=m*sz)
  (hc: ∀j u,news[j]? =some u->W.cell? (ad.add j)=some u) (h1: ∀u∈news,u.oneCell'=true) (hl:(n+m)*bytes<=140737488355328)
  (hK: ∀v1 w1,Rws wr w1 (L1++⟨e,sz,v1,n+m,xs++news⟩::L2) G->W.grownBy w1 v.ownBlock->KeepsOthers W w1->wpList P ops Q rest (a.put o.dst v1) w1):
  wpList P ops Q (o::rest) a W:=by
 obtain⟨v',w',hrun,r1,r2,r3⟩:=Qcq (P:=P) t o.type e z sz bytes ht hinfo hz hs0 hb0 v n xs h ad m c news hn hc h1 hl;exact Lib.wpList_append_run _ hg s x t t hop _ _ hs hx v' w' hrun (hK v' w' r1 r2 r3)
end Bts

namespace Bts
attribute [local go_sem] Qh Qi Qk Ql Qd Qe
open Q15 (cnx bnx)
variable {P:Program} {W:World}
def Cells (w:World) (A:Option Addr) (cs:List Value):Prop:=cs≠[]-> ∃ad,A=some ad/\ ∀j u,cs[j]? =some u->w.cell? (ad.add j)=some u
theorem Cells.below {w w1:World} {A:Option Addr} {cs:List Value} (h:Cells w A cs) (hb:Below w.heap.size w w1):Cells w1 A cs:=fun hn=>by
 obtain⟨ad,e,hc⟩:=h hn;exact⟨ad,e,fun j u hj=>cnx (hc j u hj) hb⟩
def Typed (w:World) (A:Option Addr) (t:Nat):Prop:= ∀ad,A=some ad-> ∃cells,w.heap[ad.block]? =some (.cells cells t (0,0))
theorem Typed.below {w w1:World} {A:Option Addr} {t:Nat} (h:Typed w A t) (hb:Below w.heap.size w w1):Typed w1 A t:=fun ad e=>by
 obtain⟨cs,hc⟩:=h ad e;exact⟨cs,Qv hc hb⟩
theorem Typed.ne {w:World} {A:Option Addr} {t t' g:Nat} {cs:Array Value} (h:Typed w A t) (hg:w.heap[g]? =some (.cells cs t' (0,0))) (ht:t≠t'): ∀ad,A=some ad->ad.block≠g:=fun ad e hbl=>by
 obtain⟨cs2,hc⟩:=h ad e;rw[hbl,hg] at hc;cases hc;exact ht rfl
theorem Np (t ty e:TypeId) (i:TypeInfo) (ht:P.underlying t=some (.slice e)) (hi:P.info? e=some i) (b A:Option Addr) (n c q:Nat) (hc:n<=c) (w:World):
  (Builtin.append_ #[t,t] ty #[.slice b n c,.slice A 0 q]).run P w= .ok (.slice b n c) w:=by
 cases b<;>cases A<;>simp[Builtin.append_,run_underlying ht,sizeOf,typeInfo,hi,Builtin.lenOf,Builtin.firstCells,loadCells,loadCellsFrom,hc,storeCells]
theorem app_full (t ty e:TypeId) (z:Value) (sz bytes:Nat) (ht:P.underlying t=some (.slice e)) (hinfo:(P.info? e).map (fun i=>(i.zero,i.size,i.bytes))=some (some z,sz,bytes)) (hs0:0<sz) (hb0:0<bytes)
  (b:Addr) (n:Nat) (olds:List Value) (hlo:olds.length=n*sz) (hol:Cells W (some b) olds) (A:Option Addr) (m c:Nat) (news:List Value) (hl:news.length=m*sz) (hn:Cells W A news) (hbig:(n+m)*bytes<=140737488355328):
  ∃A' c' w1,(Builtin.append_ #[t,t] ty #[.slice (some b) n n,.slice A m c]).run P W= .ok (.slice A' (n+m) c') w1/\Below W.heap.size W w1/\Cells w1 A' (olds++news)/\(A'=some b\/ ∃ad,A'=some ad/\W.heap.size<=ad.block/\ ∃cells,w1.heap[ad.block]? =some (.cells cells e (0,0))):=by
 obtain⟨i,hi,hzz⟩:=Option.map_eq_some_iff.1 hinfo;simp only[Prod.mk.injEq] at hzz;obtain⟨hz1,hz2,hz3⟩:=hzz;subst hz2;have hlen:n+m<=140737488355328:=Nat.le_trans (Nat.le_mul_of_pos_right _ hb0) hbig;by_cases hm:m=0
 ·subst hm
  obtain rfl:news=[]:=List.eq_nil_of_length_eq_zero (by simpa using hl);exact⟨some b,n,W,Np t ty e i ht hi (some b) A n n c (Nat.le_refl _) W,Below.refl _ _,by rw[List.append_nil];exact hol,.inl rfl⟩
 ·have hne:news≠[]:=fun e2=>by
   rw[e2] at hl;have:=Nat.mul_pos (Nat.pos_of_ne_zero hm) hs0;simp at hl;omega
  obtain⟨a,rfl,ha⟩:=hn hne
  have hr:=run_append_grow (P:=P) W t ty e i z ht hi hz1 b n n olds hlo (fun j v hj=>by
   have h0:olds≠[]:=fun e2=>by rw[e2] at hj;simp at hj
   obtain⟨b',e2,hb'⟩:=hol h0;cases e2
   exact hb' j v hj) a m c news hl ha (by omega) (by omega) (growslice_fits (by omega) (by rw[hz3];exact hbig))
  refine⟨_,_,_,hr,(Below.refl _ _).drew.alloc (Nat.le_refl _) _,fun _=>⟨_,rfl,fun j u hj=> ?_⟩,.inr ⟨_,rfl,Nat.le_refl _,_,heap_alloc_new W.drew _⟩⟩;have h9:=heap_alloc_new W.drew (.cells (olds.toArray++news.toArray++Builtin.zeroCells z.cells (grownCap W (n+m) n e-(n+m))) e)
  have e9:((⟨W.heap.size,0,none⟩:Addr).add j)=⟨W.heap.size,j,none⟩:=by
   unfold Addr.add;by_cases h0:j=0
   ·simp[h0]
   ·simp[h0]
  rw[e9];refine(Go.Proofs.YtnflnicdjioflaaGreatDoor.Q21.Qb h9 j).trans ?_;rw[Array.getElem?_append_left]
  ·rw[List.append_toArray]
   simpa using hj
  ·have:=(List.getElem?_eq_some_iff.1 hj).1
   simpa using this
theorem Qdp {ops:Array Oper} {o:Oper} {a:Act} {Q:Exit->Act->World->Prop} {Kc:Act->World->Prop} (hw:Region.wanted o (yielded ops a.tmps)=true)
  (s x:Operand) (t e:TypeId) (hop:o.op=Op.call {callee:=Callee.builtin Builtin.append,args:= #[s,x],argTypes:= #[t,t]}) (z:Value) (sz bytes:Nat)
  (ht:P.underlying t=some (.slice e)) (hinfo:(P.info? e).map (fun i=>(i.zero,i.size,i.bytes))=some (some z,sz,bytes)) (hs0:0<sz) (hb0:0<bytes)
  (b:Addr) (n:Nat) (olds:List Value) (hs:a.eval s= .slice (some b) n n) (hlo:olds.length=n*sz) (hol:Cells W (some b) olds) (A:Option Addr) (m c:Nat) (news:List Value) (hx:a.eval x= .slice A m c) (hl:news.length=m*sz) (hn:Cells W A news) (hbig:(n+m)*bytes<=140737488355328)
  (hK: ∀A' c' w1,Below W.heap.size W w1->Cells w1 A' (olds++news)->(A'=some b\/ ∃ad,A'=some ad/\W.heap.size<=ad.block/\ ∃cells,w1.heap[ad.block]? =some (.cells cells e (0,0)))->Kc (a.put o.dst (.slice A' (n+m) c')) w1):
  if Region.wanted o (yielded ops a.tmps)=true then Oper.wp P o a W Kc Q else Kc (a.put o.dst undef) W:=by
 rw[if_pos hw];obtain⟨A',c',w1,hrun,r1,r2,r3⟩:=app_full (P:=P) t o.type e z sz bytes ht hinfo hs0 hb0 b n olds hlo hol A m c news hl hn hbig;unfold Oper.wp;simp[execOp,hop,resolve,invoke,builtin,hs,hx,hrun,Result.andThen,Oper.upon];exact hK A' c' w1 r1 r2 r3
end Bts

namespace Rq
attribute [local go_sem] Qh Qi Qk Ql Qd Qe
open Q15 (bnx cnx Xa)
def mg:Nat->List It->List It->List It
 |0,_,_=>[]
 |n+1,y::ys,[]=>y::mg n ys []
 |n+1,[],z::zs=>z::mg n [] zs
 |_+1,[],[]=>[]
 |n+1,y::ys,z::zs=>if y.1<=z.1 then y::mg n ys (z::zs) else z::mg n (y::ys) zs
def J2 (ys zs:List It):List It:=mg (ys.length+zs.length) ys zs
theorem Rw: ∀(n:Nat) (ys zs:List It),(mg n ys zs).length <=n
 |0,_,_=>by simp[mg]
 |n+1,y::ys,[]=>by simpa[mg] using Rw n ys []
 |n+1,[],z::zs=>by simpa[mg] using Rw n [] zs
 |n+1,[],[]=>by simp[mg]
 |n+1,y::ys,z::zs=>by
  rw[mg]
  split
  ·simpa using Rw n ys (z::zs)
  ·simpa using Rw n (y::ys) zs
theorem mg_coin {n:Nat} {y:It} {ys zs:List It} (h:zs=[]\/ ∃z zs',zs=z::zs'/\y.1<=z.1):mg (n+1) (y::ys) zs=y::mg n ys zs:=by
 rcases h with rfl|⟨z,zs',rfl,h⟩
 ·rfl
 ·rw[mg,if_pos h]
theorem mg_pack {n:Nat} {z:It} {ys zs:List It} (h:ys=[]\/ ∃y ys',ys=y::ys'/\ ¬y.1<=z.1):mg (n+1) ys (z::zs)=z::mg n ys zs:=by
 rcases h with rfl|⟨y,ys',rfl,h⟩
 ·rfl
 ·rw[mg,if_neg h]
theorem Lg (a:Addr):a.add 0=a:=by simp[Addr.add]
def lenV:Value->Nat
 | .slice _ n _=>n
 |_=>0
theorem Qc2 {w:World} {a:Addr} {n:Nat} {y:It} {ys:List It} (h:kIt.C w (some a) n (y::ys)) (hn:n=ys.length+1) (c:Nat) (hc:n<=c):
  kIt.C w (if c=1 then some a else some ⟨a.block,a.off+2,none⟩) ys.length ys:=by
 subst hn;rw[show(⟨a.block,a.off+2,none⟩:Addr)=a.add 2 from by simp[Addr.add]];refine⟨rfl,by have:=h.2.1;omega,fun hl=> ?_⟩;rw[if_neg (by omega)];obtain⟨ad,e,hc2⟩:=h.2.2 (by omega);cases e;refine⟨_,rfl,fun j p hj=> ?_⟩;obtain⟨cs,h1,h2,h3⟩:=hc2 (j+1) p (by simpa using hj);refine⟨cs,h1,h2,fun i u hu=> ?_⟩;have h4:=h3 i u hu;rw[Addr.add_add]
 have e9:(j+1)*kIt.sz+i=2+(j*kIt.sz+i):=by
  have:kIt.sz=2:=rfl;rw[this];omega
 rw[<-e9];exact h4
theorem Eu (A B:Option Addr) (ca cb:Nat) (xs ps:List It) (w:World) (hA:kIt.C w A xs.length xs) (hB:kIt.C w B ps.length ps) (hl:xs.length+ps.length<=100000) (hca:xs.length<=ca) (hcb:ps.length<=cb):
  Calls Tryz.prog 235 #[.slice A xs.length ca,.slice B ps.length cb] w fun e w'=> ∃v,e= .returned v/\kIt.R 225 w' w.heap.size (fun _=>True) v (J2 xs ps)/\Below w.heap.size w w':=by
 have hmo:=Qa.mk (show Tryz.prog.follows .mixedOrders =true by kernel_rfl);have HA:=Qa.mk hA;have HB:=Qa.mk hB;have hlA:=Qa.mk hl;have hcA:=Qa.mk hca;have hcB:=Qa.mk hcb;clear hA hB hl hca hcb;go_enter Tryz.func235,Tryz.ntmps235;go_wp2_with fail;go_loopw [0,1,5] (fun u v o wr=> ∃(ys zs q:List It) (X Y:Option Addr) (c d:Nat),u= .slice X ys.length c/\v= .slice Y zs.length d/\Qa (kIt.C w X ys.length ys/\ys.length<=c)/\Qa (kIt.C w Y zs.length zs/\zs.length<=d)/\Qa (q.length+(ys.length+zs.length)<=100000)/\Qa (q++mg (ys.length+zs.length) ys zs=J2 xs ps)/\Qa (kIt.R 225 wr w.heap.size (fun _=>True) o q)/\Qa (Below w.heap.size w wr)) (fun u v _ _=>lenV u+lenV v)
 case atStart=>exact⟨xs,ps,[],A,B,ca,cb,rfl,rfl,⟨HA.out,hcA.out⟩,⟨HB.out,hcB.out⟩,⟨by have:=hlA.out;simpa using this⟩,⟨rfl⟩,⟨Kd.Zx _ _ _ _ _⟩,⟨Below.refl _ _⟩⟩
 case round=>
  obtain⟨ys,zs,q,X,Y,c,d,rfl,rfl,hX,hY,hq,hm,ho,hbL⟩:=hrel;clear HA HB hlA hcA hcB
  have hst:(ys=[]/\zs=[])\/(∃y l,ys=y::l/\(zs=[]\/ ∃z zs',zs=z::zs'/\y.1<=z.1))\/(∃z l,zs=z::l/\(ys=[]\/ ∃y ys',ys=y::ys'/\ ¬y.1<=z.1)):=by
   cases ys with
   |nil=>
    cases zs with
    |nil=>exact .inl ⟨rfl,rfl⟩
    |cons z zs=>exact .inr (.inr ⟨z,zs,rfl,.inl rfl⟩)
   |cons y ys=>
    cases zs with
    |nil=>exact .inr (.inl ⟨y,ys,rfl,.inl rfl⟩)
    |cons z zs=>
     by_cases h:y.1<=z.1
     ·exact .inr (.inl ⟨y,ys,rfl,.inr ⟨z,zs,rfl,h⟩⟩)
     ·exact .inr (.inr ⟨z,zs,rfl,.inr ⟨y,ys,rfl,h⟩⟩)
  rcases hst with ⟨rfl,rfl⟩|hst|hst
  ·have ho':Qa (kIt.R 225 wr w.heap.size (fun _=>True) u5 (J2 xs ps)):=⟨by rw[<-hm.out];simpa[mg] using ho.out⟩
   clear ho hm hX hY;simp only[List.length_nil];go_wp2_with fail;go_ret;exact⟨_,rfl,ho'.out,hbL.out⟩
  ·obtain⟨⟨x1,x2⟩,l,rfl,hz⟩:=hst
   obtain⟨ad,rfl,c1,c2⟩:=F6 hX.out.1 hbL.out (k:=0) (by simp);rw[Nat.zero_mul,Lg] at c1
   have c3:wr.cell? ⟨ad.block,ad.off+1,none⟩=some (.int .i64 x2):=by
    rw[show some (Value.int .i64 x2)=_ from c2.symm];simp[Addr.add]
   replace c1:wr.cell? ad=some (.int .i64 x1):=c1;have hq':=hq.out;have hm':=hm.out;obtain⟨m,hmm⟩: ∃m,m=(((x1,x2):It)::l).length :=⟨_,rfl⟩;have h1:m=l.length+1:=(by rw[hmm];rfl);have hX':=hX.out;rw[<-hmm] at hX' hq' ⊢;rw[show(((x1,x2):It)::l).length +zs.length=(l.length+zs.length)+1 from by rw[List.length_cons];omega,mg_coin hz] at hm';rw[show q++(x1,x2)::mg (l.length+zs.length) l zs=(q++[(x1,x2)])++mg (l.length+zs.length) l zs from by simp] at hm';have hm9:=Qa.mk hm';have ht:=Qa.mk (Qc2 hX'.1 h1 c hX'.2);have htc:Qa (l.length<=c-1):=⟨by have:=hX'.2;omega⟩;have hb1:m-1=l.length:=(by omega);have hq9:Qa ((q++[((x1,x2):It)]).length +(l.length+zs.length)<=100000):=⟨by rw[List.length_append,List.length_singleton];omega⟩;have hlen:Qa ((q.length+1)*16<=140737488355328):=⟨by omega⟩;have g1:(0:Int)<(m:Int):=(by omega);have g3:(m:Int)<=(c:Int):=(by have:=hX'.2;omega);have g5:(1:Int)<=(m:Int):=(by omega);have g6:((m:Int)==0)=false:=(by simpa using (by omega:m≠0));have g12:decide (0<m)=true:=decide_eq_true (by omega)
   have hz2:(zs.length=0/\IntKind.i64.wrap (m:Int)=m)\/ ∃(p:Nat) (adz:Addr) (z1:Int),zs.length=p/\Y=some adz/\wr.cell? adz=some (.int .i64 z1)/\decide (x1<=z1)=true/\((p:Int)==0)=false/\decide (0<p)=true/\(0:Int)<(p:Int)/\(0:Int)<(m:Int)+(p:Int)/\IntKind.i64.wrap ((m:Int)+(p:Int))=(m:Int)+(p:Int):=by
    rcases hz with rfl|⟨⟨z1,z2⟩,zl,rfl,hz⟩
    ·exact .inl ⟨rfl,IntWalk.i64_in _ (by omega)⟩
    ·obtain⟨adz,e,c5,-⟩:=F6 hY.out.1 hbL.out (k:=0) (by simp)
     rw[Nat.zero_mul,Lg] at c5;have h9:((((z1,z2):It)::zl).length :Int)=zl.length+1:=(by simp);refine .inr ⟨_,adz,z1,rfl,e,c5,by simpa using hz,?_,decide_eq_true (by simp),by omega,by omega,?_⟩
     ·simpa using (by omega:((((z1,z2):It)::zl).length :Int)≠0)
     ·rw[IntWalk.i64_in _ (by omega)]
   replace hX':=Qa.mk hX';replace hq':=Qa.mk hq';replace h1:=Qa.mk h1;replace hmm:=Qa.mk hmm;replace hb1:=Qa.mk hb1;obtain⟨p,hp⟩: ∃p,p=zs.length:=⟨_,rfl⟩;clear hq hm hm' hz c2 hX;rw[<-hp] at hz2 ⊢;replace hp:=Qa.mk hp;rcases hz2 with ⟨rfl,g7⟩|⟨p',adz,z1,rfl,rfl,c5,g7,g8,g13,g9,g10,g11⟩
   all_goals
    go_wp2_with fail;go_quiet (fail);have hd0:Below wr.heap.size wr (wr.drewN nq):=(Below.refl _ _).trans ⟨rfl,rfl,rfl,Nat.le_refl _,fun _ _=>rfl⟩;have ho2:=Qa.mk (Kd.Q4 ho.out hd0);have hb2:=Qa.mk (bnx hbL.out hd0);replace c1:=cnx c1 hd0;replace c3:=cnx c3 hd0;clear ho hbL hd0;obtain⟨wq,hwq⟩: ∃wq,wq=wr.drewN nq:=⟨_,rfl⟩;rw[<-hwq] at ho2 hb2 c1 c3 ⊢;clear hwq;go_wp2_with (first|(at_builtin;refine Kd.Q3 kIt (w0:=w) w.heap.size rfl (.tmp 31) (.tmp 35) 223 225 (.agg #[.int .i64 0,.int .i64 0]) 16 rfl Tryz.underlying223 Pf rfl (by decide) (by decide) u5 q (x1,x2) [.int .i64 x1,.int .i64 x2] (fun _=>True) (fun _=>False) rfl rfl (kIt_M _ _ _ _) (fun _ hk=>hk.elim) (fun _ _=>trivial) ho2.out hb2.out hb2.out.size hlen.out ?_;intro v1 wA hoA hbA hgA hatA;have HOA:=Qa.mk hoA;have HBA:=Qa.mk hbA;clear hoA hbA hgA hatA));go_roundw
    case rel=>exact⟨l,zs,q++[(x1,x2)],_,_,c-1,d,by rw[hb1.out],by rw[hp.out],⟨ht.out,htc.out⟩,hY,hq9,hm9,HOA,HBA⟩
    case measure=>simp[lenV];omega
  ·obtain⟨⟨x1,x2⟩,l,rfl,hz⟩:=hst
   obtain⟨ad,rfl,c1,c2⟩:=F6 hY.out.1 hbL.out (k:=0) (by simp);rw[Nat.zero_mul,Lg] at c1
   have c3:wr.cell? ⟨ad.block,ad.off+1,none⟩=some (.int .i64 x2):=by
    rw[show some (Value.int .i64 x2)=_ from c2.symm];simp[Addr.add]
   replace c1:wr.cell? ad=some (.int .i64 x1):=c1;have hq':=hq.out;have hm':=hm.out;obtain⟨m,hmm⟩: ∃m,m=(((x1,x2):It)::l).length :=⟨_,rfl⟩;have h1:m=l.length+1:=(by rw[hmm];rfl);have hX':=hY.out;rw[<-hmm] at hX' hq' ⊢;rw[show ys.length+(((x1,x2):It)::l).length =(l.length+ys.length)+1 from by rw[List.length_cons];omega,mg_pack hz] at hm';rw[show q++(x1,x2)::mg (l.length+ys.length) ys l=(q++[(x1,x2)])++mg (l.length+ys.length) ys l from by simp] at hm';have hm9:=Qa.mk hm';have ht:=Qa.mk (Qc2 hX'.1 h1 d hX'.2);have htc:Qa (l.length<=d-1):=⟨by have:=hX'.2;omega⟩;have hb1:m-1=l.length:=(by omega);have hq9:Qa ((q++[((x1,x2):It)]).length +(l.length+ys.length)<=100000):=⟨by rw[List.length_append,List.length_singleton];omega⟩;have hlen:Qa ((q.length+1)*16<=140737488355328):=⟨by omega⟩;have g1:(0:Int)<(m:Int):=(by omega);have g3:(m:Int)<=(d:Int):=(by have:=hX'.2;omega);have g5:(1:Int)<=(m:Int):=(by omega);have g6:((m:Int)==0)=false:=(by simpa using (by omega:m≠0));have g12:decide (0<m)=true:=decide_eq_true (by omega)
   have hz2:(ys.length=0/\IntKind.i64.wrap (m:Int)=m)\/ ∃(p:Nat) (adz:Addr) (z1:Int),ys.length=p/\X=some adz/\wr.cell? adz=some (.int .i64 z1)/\decide (z1<=x1)=false/\((p:Int)==0)=false/\decide (0<p)=true/\(0:Int)<(p:Int)/\(0:Int)<(p:Int)+(m:Int)/\IntKind.i64.wrap ((p:Int)+(m:Int))=(p:Int)+(m:Int):=by
    rcases hz with rfl|⟨⟨z1,z2⟩,zl,rfl,hz⟩
    ·exact .inl ⟨rfl,IntWalk.i64_in _ (by omega)⟩
    ·obtain⟨adz,e,c5,-⟩:=F6 hX.out.1 hbL.out (k:=0) (by simp)
     rw[Nat.zero_mul,Lg] at c5;have h9:((((z1,z2):It)::zl).length :Int)=zl.length+1:=(by simp);refine .inr ⟨_,adz,z1,rfl,e,c5,by simpa using hz,?_,decide_eq_true (by simp),by omega,by omega,?_⟩
     ·simpa using (by omega:((((z1,z2):It)::zl).length :Int)≠0)
     ·rw[IntWalk.i64_in _ (by omega)]
   replace hX':=Qa.mk hX';replace hq':=Qa.mk hq';replace h1:=Qa.mk h1;replace hmm:=Qa.mk hmm;replace hb1:=Qa.mk hb1;obtain⟨p,hp⟩: ∃p,p=ys.length:=⟨_,rfl⟩;clear hq hm hm' hz c2 hY;rw[<-hp] at hz2 ⊢;replace hp:=Qa.mk hp;rcases hz2 with ⟨rfl,g7⟩|⟨p',adz,z1,rfl,rfl,c5,g7,g8,g13,g9,g10,g11⟩
   all_goals
    go_wp2_with fail;go_quiet (fail);have hd0:Below wr.heap.size wr (wr.drewN nq):=(Below.refl _ _).trans ⟨rfl,rfl,rfl,Nat.le_refl _,fun _ _=>rfl⟩;have ho2:=Qa.mk (Kd.Q4 ho.out hd0);have hb2:=Qa.mk (bnx hbL.out hd0);replace c1:=cnx c1 hd0;replace c3:=cnx c3 hd0;clear ho hbL hd0;obtain⟨wq,hwq⟩: ∃wq,wq=wr.drewN nq:=⟨_,rfl⟩;rw[<-hwq] at ho2 hb2 c1 c3 ⊢;clear hwq;go_wp2_with (first|(at_builtin;refine Kd.Q3 kIt (w0:=w) w.heap.size rfl (.tmp 39) (.tmp 43) 223 225 (.agg #[.int .i64 0,.int .i64 0]) 16 rfl Tryz.underlying223 Pf rfl (by decide) (by decide) u5 q (x1,x2) [.int .i64 x1,.int .i64 x2] (fun _=>True) (fun _=>False) rfl rfl (kIt_M _ _ _ _) (fun _ hk=>hk.elim) (fun _ _=>trivial) ho2.out hb2.out hb2.out.size hlen.out ?_;intro v1 wA hoA hbA hgA hatA;have HOA:=Qa.mk hoA;have HBA:=Qa.mk hbA;clear hoA hbA hgA hatA));go_roundw
    case rel=>exact⟨ys,l,q++[(x1,x2)],_,_,c,d-1,by rw[hp.out],by rw[hb1.out],hX,⟨ht.out,htc.out⟩,⟨by rw[Nat.add_comm ys.length];exact hq9.out⟩,⟨by rw[Nat.add_comm ys.length];exact hm9.out⟩,HOA,HBA⟩
    case measure=>simp[lenV];omega
end Rq

end Go.Proofs.YtnflnicdjioflaaGreatDoor
