/- A part of the proof. -/
import Derived.Test.YtnflnicdjioflaaGreatDoorMdav
import Derived.Test.YtnflnicdjioflaaGreatDoorMdai
import Derived.Test.YtnflnicdjioflaaGreatDoorMdat
import Derived.Test.YtnflnicdjioflaaGreatDoorMdar
import Derived.Scope
import Derived.BigRegionIn
import Derived.Laws.IdiomStrings
set_option linter.unusedVariables false
set_option linter.unusedSimpArgs false
set_option maxRecDepth 100000
set_option maxHeartbeats 8000000
namespace Go.Proofs.YtnflnicdjioflaaGreatDoor
open Go.RowKit Go.Proofs.YtnflnicdjioflaaGreatDoorW.PrintWords Go.Proofs.YtnflnicdjioflaaGreatDoorW.PrintLast Go.Proofs.YtnflnicdjioflaaGreatDoorW.PrintMore
namespace Sec
attribute [local go_sem] Qi Qj Qk Ql Qg Qh
open Q15
open Runs Go.Shelf
open Q16 (Q6 Zc Yf)
open Bk
attribute [local go_sem] Oper.semAt_some
def Qy (gs:List Nat) (A B:World):Prop:= ∀g∈gs,B.heap[g]? =A.heap[g]?
theorem Qy.refl (gs:List Nat) (A:World):Qy gs A A:=fun _ _=>rfl
theorem Qy.trans {gs:List Nat} {A B C:World} (h:Qy gs A B) (k:Qy gs B C):Qy gs A C:=fun g hg=>(k g hg).trans (h g hg)
theorem Qy.putObj {gs:List Nat} {N:Nat} (h1: ∀g∈gs,g<N) (W:World) (l:Nat) (o o':Obj) (hl:N<=l) (ho:W.heap[l]? =some o) (hc:o.isCells=false) (hw:o.isWalk=false):Qy gs W (W.putObj l o'):=
 fun g hg=>World.putObj_heap_other (by have:=h1 g hg;omega)
theorem Dt {A B:World} {a:Addr} {v:Value} (h:B.heap[a.block]? =A.heap[a.block]?) (hc:A.cell? a=some v):B.cell? a=some v:=by
 simpa[World.cell?,h] using hc
def Zv:Option Addr->List Nat
 |some a=>[a.block]
 |none=>[]
theorem V9 {A B:World} {ad:Option Addr} {n:Nat} {xs:List Int} (h:(Kd.int .i64).C A ad n xs) (hk: ∀g∈Zv ad,B.heap[g]? =A.heap[g]?):(Kd.int .i64).C B ad n xs:=by
 obtain⟨r1,r2,r3⟩:=Kd.Xn (enc:=Value.int .i64) (h1:=fun _=>rfl) (d:=(0:Int)) h;refine Kd.Z4 (d:=(0:Int)) ⟨r1,r2,fun h0=> ?_⟩;obtain⟨a,rfl,hc⟩:=r3 h0;exact⟨a,rfl,fun j hj=>Dt (by rw[add_block];exact hk _ (by simp[Zv])) (hc j hj)⟩
def Ue (ws:List Int) (k:Nat):Nat:=(ws.take k).sum.toNat
theorem Co {ws:List Int} (h: ∀x∈ws,1<=x/\x<=128) {k:Nat} (hk:k<ws.length):((Ue ws (k+1):Nat):Int)=Ue ws k+rd ws k/\Ue ws (k+1)<=ws.sum.toNat:=by
 have h1:=Vw (ws:=ws.take k) (fun x hx=>h x (List.mem_of_mem_take hx));have h2:=h _ (Qt ws k hk);have h3:(ws.take (k+1)).sum =(ws.take k).sum +rd ws k:=(by rw[Qx ws k hk,List.sum_append];simp);have h4:ws.sum=(ws.take (k+1)).sum +(ws.drop (k+1)).sum :=(by rw[<-List.sum_append,List.take_append_drop]);have h5:=Vw (ws:=ws.drop (k+1)) (fun x hx=>h x (List.mem_of_mem_drop hx));unfold Ue;omega
def O3 (B:Option Addr) (ws:List Int) (k:Nat):Value:= .agg #[.int .i64 k,gSl B (Ue ws k) (rd ws k).toNat]
theorem Ku (F:Fence) (n:Nat) (hF:F.fn 192) (hro:F.round=none) (hn:1<=n) (B1 B2:Nat) (A B:Option Addr) (ca cb:Nat) (ws l:List Int) (hok:Ok ws l) (hcap:l.length<=cb) (w:World) (hr:(Kd.int .i64).C w A ws.length ws) (hB:ws≠[]-> ∃bd,B=some bd)
  (c1:w.cell? ⟨B1,0,none⟩=some (.slice A ws.length ca)) (c2:w.cell? ⟨B2,0,none⟩=some (.slice B l.length cb)):
  Yg F n Tryz.prog 192 #[.pointer (some ⟨B1,0,none⟩),.pointer (some ⟨B2,0,none⟩)] (fun k=> #[O3 B ws k]) (Qy (B1::B2::Zv A)) ws.length w:=fun L J W hW hY h0 hJd=>by
 clear hJd;have d1:=cnx c1 hW;have d2:=cnx c2 hW;have HR:=Qa.mk (Kd.Qe hr hW);have HY:=Qa.mk hY;have HB:=Qa.mk hB
 have HO:Qa (∀k,k<ws.length->((Ue ws (k+1):Nat):Int)=Ue ws k+rd ws k/\Ue ws (k+1)<=l.length/\1<=rd ws k/\rd ws k<=128):=⟨fun k hk=>by
  have h1:=Co hok.wid hk;have h2:=hok.wid _ (Qt ws k hk);have h3:=hok.sum
  exact⟨h1.1,by omega,h2.1,h2.2⟩⟩
 have hlI:(ws.length:Int)<=128:=(by have:=hok.len;omega);have hlL:(l.length:Int)<=16384:=(by have:=Vw hok.wid;have:=hok.len;have:=hok.sum;omega);have hcI:(l.length:Int)<=(cb:Int):=(by omega);have hlt0:Qa (∀k,k<ws.length->ws≠[]):=⟨fun k hk e=>by rw[e] at hk;simp at hk⟩;clear hY c1 c2 hr hB hok;refine callsIn_of_wp Tryz.func192 rfl hF ?_ hro;simp only[Tryz.ntmps192,List.size_toArray,List.length_cons,List.length_nil,Nat.reduceAdd,Nat.reduceSub,Array.replicate_succ,Array.replicate_zero,List.push_toArray,List.append_toArray,List.nil_append,List.cons_append];gi_wp2;gi_loopw [4,9] (fun x i wr=> ∃k p:Nat,i= .int .i64 k/\x= .int .i64 p/\k<=ws.length/\p<=l.length/\Qa (p=Ue ws k)/\wr.cell? ⟨B1,0,none⟩=some (.slice A ws.length ca)/\wr.cell? ⟨B2,0,none⟩=some (.slice B l.length cb)/\Qa ((Kd.int .i64).C wr A ws.length ws)/\Qa (J k wr)) (fun _ i _=>ws.length-(intOf i).toNat)
 case atStart=>exact⟨0,0,rfl,rfl,by omega,by omega,⟨by unfold Ue;simp⟩,d1,d2,HR,⟨h0⟩⟩
 case round=>
  obtain⟨k,p,rfl,rfl,hk,hp,hpk,e1,e2,hC,hJ⟩:=hrel;clear d1 d2;have hpI:(p:Int)<=16384:=(by omega);by_cases hlt:k<ws.length
  ·have hkI:(k:Int)<(ws.length:Int):=by omega
   obtain⟨ad,rfl,hcell⟩:=Qq hC.out (Below.refl _ _) hlt;obtain⟨bd,rfl⟩:=HB.out (hlt0.out k hlt);obtain⟨o1,o2,o3,o4⟩:=HO.out k hlt;rw[<-hpk.out] at o1;obtain⟨fn,tmps,assign,body,hy,hR⟩:=HY.out k wr hlt hJ.out;simp only[O3,gSl] at hy;rw[<-hpk.out] at hy;obtain⟨d,hd⟩:=Int.eq_ofNat_of_zero_le (show 0<=rd ws k by omega);rw[hd] at hcell o1 o3 o4 hy;rw[Int.toNat_natCast] at hy;have hpd:Qa (Ue ws (k+1)=p+d):=⟨by omega⟩;have hle:(p:Int)+(d:Int)<=(l.length:Int):=(by omega);have hle2:=Qa.mk (show p+d<=l.length by omega);have hT:=Qa.mk hlt;have hR2:=Qa.mk hR;clear hR hlt hp o1 o2 hd;gi_wp2;refine hR2.out.mono ?_;rintro e W3 ⟨rfl,hJ3,hk3⟩;have b1:=(Q6 (hk3 B1 (by simp))).trans e1;have b2:=(Q6 (hk3 B2 (by simp))).trans e2;have hC3:=Qa.mk (V9 hC.out (fun g hg=>hk3 g (by simp[hg])));replace hJ3:=Qa.mk hJ3;clear hR2 e1 e2 hk3 hy;gi_wp2;go_roundw
   case rel=>exact⟨k+1,p+d,by go_num,by go_num,hT.out,hle2.out,⟨hpd.out.symm⟩,b1,b2,hC3,hJ3⟩
   case measure=>have:=hT.out;simp[intOf];omega
  ·obtain rfl:k=ws.length:=by omega
   gi_wp2;go_end0;exact⟨⟨_,rfl⟩,hJ.out⟩
theorem Kv (A B:Option Addr) (n c n2 c2:Nat) (w:World):
  Calls Tryz.prog 149 #[.slice A n c,.slice B n2 c2] w fun en w'=>en= .returned (.func (.func 192) #[] #[.pointer (some ⟨w.heap.size,0,none⟩),.pointer (some ⟨w.heap.size+1,0,none⟩)])/\w'=(w.alloc (.cells #[.slice A n c] 22)).alloc (.cells #[.slice B n2 c2] 22):=by
 go_enter Tryz.func149,Tryz.ntmps149;go_wp2;go_ret;exact⟨rfl,rfl⟩
end Sec

namespace St
attribute [local go_sem] Qi Qj Qk Ql Qg Qh
open Q15
open Runs Go.Shelf
open Q16 (isW Q0 off wd Za)
open Sec (Qy V9 Zv)
open Bts (Rws Blk)
def Jn (p:Nat) (f g:List Int):List Int:=f.take p++g.drop p
theorem Cn (f g:List Int):Jn 0 f g=g:=by simp[Jn]
theorem I8 {p:Nat} {f g:List Int} (h:f.length=g.length) (hp:g.length<=p):Jn p f g=f:=by unfold Jn;rw[List.drop_eq_nil_of_le hp,List.take_of_length_le (by omega),List.append_nil]
theorem I9 {p:Nat} {f g:List Int} (h:f.length=g.length) (hp:p<g.length):(Jn p f g).set p (rd f p)=Jn (p+1) f g:=by
 have h1:(f.take p).length =p:=(by rw[List.length_take];omega);unfold Jn;rw[List.set_append_right _ _ (by omega),h1,Nat.sub_self,List.drop_eq_getElem_cons hp,List.set_cons_zero,Qx f p (by omega),List.append_assoc];rfl
theorem Qd9 {p:Nat} {f g:List Int} (h:f.length=g.length) (hp:p<g.length) (he:rd f p=rd g p):Jn p f g=Jn (p+1) f g:=by
 unfold Jn;rw[List.drop_eq_getElem_cons hp,Qx f p (by omega),List.append_assoc,he,Jr g p hp];rfl
theorem Gd {p:Nat} {f g:List Int} (h:f.length=g.length): ∀d,p+d<=g.length->(∀i,p<=i->i<p+d->rd f i=rd g i)->Jn p f g=Jn (p+d) f g
 |0,_,_=>rfl
 |d+1,hd,he=>by rw[Gd h d (by omega) (fun i h1 h2=>he i h1 (by omega)),Qd9 h (by omega) (he (p+d) (by omega) (by omega))];rfl
theorem rd_mix {p i:Nat} {f g:List Int} (h:f.length=g.length) (hi:p<=i) (hg:i<g.length):(Jn p f g)[i]? =some (rd g i):=by
 unfold Jn;rw[List.getElem?_append_right (by rw[List.length_take];omega),List.length_take,List.getElem?_drop,show p+(i-min p f.length)=i by omega,Jr g i hg];simp[hg]
theorem at_ {wr w:World} {L:List Bts.Row} {G:List Blk} (h:Rws wr w L G) (i:Nat) {b:Blk} (hi:G[i]? =some b):w.heap[b.g]? =some (.cells b.cs b.t (0,0)):=(h.blk b (List.mem_of_getElem? hi)).1
theorem ge_ {wr w:World} {L:List Bts.Row} {G:List Blk} (h:Rws wr w L G) (i:Nat) {b:Blk} (hi:G[i]? =some b):wr.heap.size<=b.g:=(h.blk b (List.mem_of_getElem? hi)).2
theorem Gl {wr w:World} {L:List Bts.Row} {G:List Blk} (h:Rws wr w L G) (i:Nat) {b:Blk} (hi:G[i]? =some b) (j:Nat) (u:Value):Rws wr (w.setCell ⟨b.g,j,none⟩ u) L (G.set i ⟨b.g,b.cs.setIfInBounds j u,b.t⟩):=by
 obtain⟨hlt,he⟩:=List.getElem?_eq_some_iff.1 hi;have e:G=G.take i++b::G.drop (i+1):=(by rw[<-he,<-List.drop_eq_getElem_cons hlt,List.take_append_drop]);have e2:G.set i ⟨b.g,b.cs.setIfInBounds j u,b.t⟩=G.take i++⟨b.g,b.cs.setIfInBounds j u,b.t⟩::G.drop (i+1):=(by rw[List.set_eq_take_append_cons_drop,if_pos hlt]);rw[e] at h;rw[e2];exact Bts.Rws.set h j u
theorem Qbp (F:Fence) (n:Nat) (hF:F.fn 209) (hro:F.round=none) (hn:1<=n) (B1:Nat) (A:Option Addr) (ca:Nat) (ws:List Int) (hw:isW ws=true) (w:World) (hr:(Kd.int .i64).C w A ws.length ws)
  (c1:w.cell? ⟨B1,0,none⟩=some (.slice A ws.length ca)):
  Yg F n Tryz.prog 209 #[.pointer (some ⟨B1,0,none⟩)] (fun k=> #[.int .i64 (off ws k:Nat),.int .i64 (off ws (k+1):Nat)]) (Qy (Zv A)) ws.length w:=fun L J W hW hY h0 hJd=>by
 clear hJd;have d1:=cnx c1 hW;have HR:=Qa.mk (Kd.Qe hr hW);have HY:=Qa.mk hY;have HO:=Qa.mk (fun k (hk:k<ws.length)=>Za hw hk);have hlI:(ws.length:Int)<=32:=(by have:=(Q0.1 hw).2.2;omega);clear hY c1 hr hw;refine callsIn_of_wp Tryz.func209 rfl hF ?_ hro;simp only[Tryz.ntmps209,List.size_toArray,List.length_cons,List.length_nil,Nat.reduceAdd,Nat.reduceSub,Array.replicate_succ,Array.replicate_zero,List.push_toArray,List.append_toArray,List.nil_append,List.cons_append];gi_wp2;gi_loopw [3,8] (fun x i wr=> ∃k p:Nat,i= .int .i64 k/\x= .int .i64 p/\k<=ws.length/\p<=128/\Qa (p=off ws k)/\Qa ((Kd.int .i64).C wr A ws.length ws)/\Qa (J k wr)) (fun _ i _=>ws.length-(intOf i).toNat)
 case atStart=>exact⟨0,0,rfl,rfl,by omega,by omega,⟨by unfold off;simp⟩,HR,⟨h0⟩⟩
 case round=>
  obtain⟨k,p,rfl,rfl,hk,hp,hpk,hC,hJ⟩:=hrel;clear d1;have hpI:(p:Int)<=128:=(by omega);by_cases hlt:k<ws.length
  ·have hkI:(k:Int)<(ws.length:Int):=by omega
   obtain⟨ad,rfl,hcell⟩:=Qq hC.out (Below.refl _ _) hlt;obtain⟨o1,o2,o3,o4⟩:=HO.out k hlt;obtain⟨fn,tmps,assign,body,hy,hR⟩:=HY.out k wr hlt hJ.out;rw[<-hpk.out] at o1 o3 hy;obtain⟨d,hd⟩: ∃d,d=wd ws k:=⟨_,rfl⟩;rw[<-hd] at o1 o2 o3 o4;rw[o4] at hcell;rw[o1] at hy;have hpd:Qa (p+d=off ws (k+1)):=⟨by omega⟩;have hle2:=Qa.mk o3;have hdI:(d:Int)<=128:=(by omega);have hT:=Qa.mk hlt;have hR2:=Qa.mk hR
   push_cast at hy
   clear hR hlt hp o1 o2 o3 o4 hd;gi_wp2;refine hR2.out.mono ?_;rintro e W3 ⟨rfl,hJ3,hk3⟩;have hC3:=Qa.mk (V9 hC.out (fun g hg=>hk3 g hg));replace hJ3:=Qa.mk hJ3;clear hR2 hk3 hy;gi_wp2;go_roundw
   case rel=>exact⟨k+1,p+d,by go_num,by go_num,hT.out,hle2.out,hpd,hC3,hJ3⟩
   case measure=>have:=hT.out;simp[intOf];omega
  ·obtain rfl:k=ws.length:=by omega
   gi_wp2;go_end0;exact⟨⟨_,rfl⟩,hJ.out⟩
theorem Qbq (A:Option Addr) (n c:Nat) (w:World):
  Calls Tryz.prog 174 #[.slice A n c] w fun en w'=>en= .returned (.func (.func 209) #[] #[.pointer (some ⟨w.heap.size,0,none⟩)])/\w'=w.alloc (.cells #[.slice A n c] 22):=by
 go_enter Tryz.func174,Tryz.ntmps174;go_wp2;go_ret;exact⟨rfl,rfl⟩
end St

namespace Sec
attribute [local go_sem] Qi Qj Qk Ql Qg Qh
open Q15
open Runs Go.Shelf
open Q16 (Q6 Zc Yf)
open Q21 (Qb Qf)
open Bts
open Bk
def Xe (ws l:List Int) (j:Nat):List Int:=(l.drop (Ue ws j)).take (rd ws j).toNat
def Q5 (k:Nat) (x:List Int):Int:=if Ki k x=true then Yt k x else-1
def Us (x:List Int) (n:Nat):List Value:=(List.range 8).map fun k=> .int .i64 (if k<n then Q5 k x else 0)
def Vb (ws l:List Int) (n:Nat):List Value:=((List.range n).map fun j=>Us (Xe ws l j) 8).flatten
theorem Dj (x:List Int) (n:Nat):(Us x n).length =8:=by simp[Us]
theorem Cw (x:List Int):Us x 0=List.replicate 8 (.int .i64 0):=by unfold Us;rfl
theorem rowN_set (x:List Int) {n:Nat} (h:n<8):(Us x n).set n (.int .i64 (Q5 n x))=Us x (n+1):=by
 apply List.ext_getElem
 ·simp[Dj]
 ·intro i h1 h2
  simp only[Dj] at h2;rw[List.getElem_set];simp only[Us,List.getElem_map,List.getElem_range];by_cases hi:n=i
  ·subst hi;simp
  ·rw[if_neg hi]
   by_cases hl:i<n
   ·rw[if_pos hl,if_pos (by omega)]
   ·rw[if_neg hl,if_neg (by omega)]
theorem rowN_at (x:List Int) {k:Nat} (h:k<8):(Us x 8)[k]? =some (.int .i64 (Q5 k x)):=by
 rw[List.getElem?_eq_getElem (by rw[Dj];exact h)];simp[Us,h]
theorem Qen (x:List Int) {n:Nat} (h:n<8):(Us x n).toArray[n]? =some (.int .i64 0):=by
 rw[List.getElem?_toArray,List.getElem?_eq_getElem (by rw[Dj];exact h)];simp[Us]
theorem Gj (ws l:List Int) (n:Nat):Vb ws l (n+1)=Vb ws l n++Us (Xe ws l n) 8:=by simp[Vb,List.range_succ]
theorem Dz (ws l:List Int): ∀n,(Vb ws l n).length =n*8
 |0=>rfl
 |n+1=>by rw[Gj,List.length_append,Dz ws l n,Dj];omega
theorem Qay (ws l:List Int) {j k:Nat} (hk:k<8): ∀n,j<n->(Vb ws l n)[8*j+k]? =some (.int .i64 (Q5 k (Xe ws l j)))
 |0,h=>by omega
 |n+1,h=>by
  rw[Gj];by_cases hj:j<n
  ·rw[List.getElem?_append_left (by rw[Dz];omega)]
   exact Qay ws l hk n hj
  ·obtain rfl:j=n:=by omega
   rw[List.getElem?_append_right (by rw[Dz];omega),Dz,show 8*j+k-j*8=k by omega];exact rowN_at _ hk
theorem V8 {ws l:List Int} (hok:Ok ws l) {j:Nat} (hj:j<ws.length):Ue ws j+(rd ws j).toNat <=l.length/\1<=(rd ws j).toNat /\(rd ws j).toNat <=128/\rd ws j=((rd ws j).toNat :Nat):=by
 have h1:=Co hok.wid hj;have h2:=hok.wid _ (Qt ws j hj);have h3:=hok.sum;omega
theorem Vl {ws l:List Int} (hok:Ok ws l) {j:Nat} (hj:j<ws.length):(Xe ws l j).length =(rd ws j).toNat :=by
 have:=V8 hok hj;unfold Xe;rw[List.length_take,List.length_drop];omega
theorem Vk {ws l:List Int} (h:Yo l=true) (j:Nat):Yo (Xe ws l j)=true:=by
 unfold Yo Q16.rng at h ⊢;refine List.all_eq_true.2 fun x hx=>List.all_eq_true.1 h x ?_
 exact List.mem_of_mem_drop (List.mem_of_mem_take hx)
theorem sub_C {w:World} {ad:Addr} {l:List Int} {o d:Nat} (hr:(Kd.int .i64).C w (some ad) l.length l) (h:o+d<=l.length) (hd:1<=d):(Kd.int .i64).C w (some (ad.add o)) d ((l.drop o).take d):=by
 have h9:o=o*1:=(by omega);obtain⟨r1,r2,r3⟩:=Kd.Xn (enc:=Value.int .i64) (h1:=fun _=>rfl) (d:=(0:Int)) hr;have hl:((l.drop o).take d).length =d:=(by rw[List.length_take,List.length_drop];omega);refine Kd.Z4 (d:=(0:Int)) ⟨hl,by omega,fun h0=> ?_⟩;obtain⟨a,ha,hc⟩:=r3 (by omega);cases ha;refine⟨_,rfl,fun j hj=> ?_⟩;have h2:=hc (o+j) (by omega)
 have e1:(ad.add o).add j=ad.add (o+j):=by
  unfold Addr.add;by_cases g1:o=0
  ·subst g1;simp
  ·by_cases g2:j=0
   ·subst g2;simp[g1]
   ·simp[g1,g2,Nat.add_assoc]
 rw[e1]
 have e2:((l.drop o).take d).getD j 0=l.getD (o+j) 0:=by
  rw[List.getD_eq_getElem?_getD,List.getD_eq_getElem?_getD,List.getElem?_take_of_lt hj,List.getElem?_drop]
 rw[e2];exact h2
theorem J3 {ws l:List Int} (hok:Ok ws l) {j:Nat} (hj:j<ws.length) {w:World} {ad:Addr} (hr:(Kd.int .i64).C w (some ad) l.length l):(Kd.int .i64).C w (some (ad.add (Ue ws j))) (Xe ws l j).length (Xe ws l j):=by
 have h:=V8 hok hj;rw[Vl hok hj];exact sub_C hr h.1 h.2.1
theorem Ic {k:Nat} (hk:k<8) {x:List Int} (h:Yo x=true):0<=Yt k x/\Yt k x<=104*x.length:=by
 have h1:=Y4 hk h (x.length/Jl k);have h2:x.length/Jl k<=x.length:=Nat.div_le_self _ _;unfold Yt;omega
theorem P9 {k:Nat} (hk:k<8) {x:List Int} (h:Yo x=true): -1<=Q5 k x/\Q5 k x<=104*x.length:=by
 have:=Ic hk h;unfold Q5;by_cases hf:Ki k x=true
 ·rw[if_pos hf];omega
 ·rw[if_neg hf];omega
theorem Ol (k:Nat) (hk:k<8) (A:Option Addr) (cap:Nat) (l:List Int) (w:World) (hL:Xp w) (hr:(Kd.int .i64).C w A l.length l) (hl:l.length<=1000) (hcap:l.length<=cap) (hA:Yo l=true):
  Calls Tryz.prog 187 #[.int .i64 k,.slice A l.length cap] w fun e w'=> ∃c E:Int,e= .returned (.tuple #[.int .i64 c,.int .i64 E])/\(E=0/\c=Q5 k l/\Ki k l=true\/E=4/\Q5 k l= -1/\Ki k l=false)/\Below w.heap.size w w':=by
 cases hf:Ki k l with
 |true=>
  refine(Gs k hk A cap l w hL hr hl hcap hA hf).mono ?_;rintro e w' ⟨rfl,hb⟩;exact⟨_,_,rfl,.inl ⟨rfl,by unfold Q5;rw[if_pos hf],rfl⟩,hb⟩
 |false=>
  refine(Cost_bad k hk A cap l w hL hr hl hA hf).mono ?_;rintro e w' ⟨rfl,hb⟩;exact⟨_,_,rfl,.inr ⟨rfl,by unfold Q5;rw[if_neg (by rw[hf];simp)],rfl⟩,hb⟩
theorem Rws.Jo {wr w w1:World} {L:List Row} {G:List Blk} {row:Option Nat} (h:Rws wr w L G) (hg:w.grownBy w1 row) (hr: ∀r,row=some r->wr.heap.size<=r/\ ∃o:Obj,w.heap[r]? =some o/\o.isCells=false):Rws wr w1 L G:=
 ⟨h.below.grown hg h.below.size (fun r e=>(hr r e).1),fun q hq=>Ct (h.row q hq) hg (by
  cases hb:q.v.ownBlock with
  |none=>exact .inl rfl
  |some b=>
   refine .inr fun e=> ?_
   obtain⟨_,o,ho,hc⟩:=hr b e.symm;obtain⟨_,h2⟩:=h.row q hq;rcases h2 with ⟨hv,_⟩|⟨g,cap,cur,hv,_,hg2,_⟩
   ·rw[hv] at hb;cases hb
   ·rw[hv] at hb
    cases hb;rw[hg2] at ho;cases ho
    cases hc),h.pair,fun b hb=>⟨Yl (h.blk b hb).1 hg (fun r e=>(hr r e).2),(h.blk b hb).2⟩,h.far,h.gs⟩
theorem Qy.of {wr W W1:World} {gs:List Nat} (h0:Below wr.heap.size wr W) (h1:Below wr.heap.size wr W1) (h: ∀g∈gs,g<wr.heap.size\/ ∃o,W.heap[g]? =some o/\W1.heap[g]? =some o):Qy gs W W1:=fun g hg=>by
 rcases h g hg with h|⟨o,e1,e2⟩
 ·rw[h1.block g h,h0.block g h]
 ·rw[e1,e2]
theorem Qy.step {gs:List Nat} {W W1:World} {N:Nat} (h: ∀g∈gs,g<N) (hN:N<=W.heap.size) (hb:Below W.heap.size W W1):Qy gs W W1:=fun g hg=>hb.block g (by have:=h g hg;omega)
theorem Qy.set {gs:List Nat} {W W1:World} {N:Nat} (h: ∀g∈gs,g<N) (hk:Qy gs W W1) {p:Addr} (hp:N<=p.block) (u:Value):Qy gs W (W1.setCell p u):=fun g hg=>(Below.heap_setCell W1 p u g (by have:=h g hg;omega)).trans (hk g hg)
theorem Qy.two {wr W W1:World} {L L1:List Row} {G G1:List Blk} {b1 b2:Blk} {gs:List Nat} (h:Rws wr W L G) (h1:Rws wr W1 L1 G1) (m1:b1∈G) (m2:b2∈G) (n1:b1∈G1) (n2:b2∈G1) (hg: ∀g∈gs,g<wr.heap.size):Qy (b1.g::b2.g::gs) W W1:=
 Qy.of h.below h1.below fun g hm=>by
  rcases List.mem_cons.1 hm with rfl|hm
  ·exact .inr ⟨_,(h.blk b1 m1).1,(h1.blk b1 n1).1⟩
  ·rcases List.mem_cons.1 hm with rfl|hm
   ·exact .inr ⟨_,(h.blk b2 m2).1,(h1.blk b2 n2).1⟩
   ·exact .inl (hg g hm)
theorem Ja {w:World} {A:Option Addr} {n:Nat} {xs:List Int} (h:(Kd.int .i64).C w A n xs) (h0:0<xs.length): ∀g∈Zv A,g<w.heap.size:=fun g hg=>by
 obtain⟨r1,r2,r3⟩:=Kd.Xn (enc:=Value.int .i64) (h1:=fun _=>rfl) (d:=(0:Int)) h;obtain⟨a,rfl,hc⟩:=r3 (by omega);have:=World.block_lt_of_cell? _ _ (hc 0 (by omega));rw[add_block] at this;rw[List.mem_singleton.1 hg];exact this
end Sec

namespace St
attribute [local go_sem] Qi Qj Qk Ql Qg Qh
open Q15
open Runs Go.Shelf
open Q16 (isW Q0 off wd Za)
open Q21 (Qb Qf)
open Sec (Qy V9 Zv Ja)
open Sca (Y0)
open Bts (Rws Blk Rws.start Ka)
attribute [local go_sem] Oper.semAt_some
theorem sets_ {wr:World} {G:List Blk} (i:Nat): ∀(vs:List Value) (o:Nat) (w:World) (b:Blk),Rws wr w [] G->G[i]? =some b-> ∃cs,Rws wr (w.setCells b.g o vs) [] (G.set i ⟨b.g,cs,b.t⟩)
 |[],o,w,b,h,hi=>⟨b.cs,by
  have e:G.set i ⟨b.g,b.cs,b.t⟩=G:=by
   obtain⟨hlt,he⟩:=List.getElem?_eq_some_iff.1 hi;rw[show(⟨b.g,b.cs,b.t⟩:Blk)=G[i] from he.symm,List.set_getElem_self]
  rw[e];exact h⟩
 |v::r,o,w,b,h,hi=>by
  have hlt:=(List.getElem?_eq_some_iff.1 hi).1;obtain⟨cs,h2⟩:=sets_ (G:=G.set i ⟨b.g,b.cs.setIfInBounds o v,b.t⟩) i r (o+1) _ ⟨b.g,b.cs.setIfInBounds o v,b.t⟩ (Gl h i hi o v) (by simp[hlt]);exact⟨cs,by rw[List.set_set] at h2;exact h2⟩
theorem copy_ {wr w:World} {G:List Blk} (h:Rws wr w [] G) (i:Nat) {g:Nat} {cs:Array Value} (hi:G[i]? =some ⟨g,cs,3⟩) {l:List Int} (hcs:cs.size=l.length) {A:Addr} {ca:Nat} (hC: ∀j,j<l.length->w.cell? (A.add j)=some (.int .i64 (rd l j))):
  ∃W',(∀ty,(Builtin.copy_ #[22,22] ty #[.slice (some ⟨g,0,none⟩) l.length l.length,.slice (some A) l.length ca]).run Tryz.prog w= .ok (.int .i64 l.length) W')/\Rws wr W' [] (G.set i ⟨g,(l.map (Value.int .i64)).toArray,3⟩):=by
 have hl:(l.map (Value.int .i64)).length =l.length:=(by simp);have hg:=at_ h i hi;obtain⟨cur',h3,h4,h5⟩:=U7 (l.map (Value.int .i64)) 0 w _ hg (by rw[hl];dsimp only;omega);obtain⟨cs2,h6⟩:=sets_ i (l.map (Value.int .i64)) 0 w _ h hi;refine⟨w.setCells g 0 (l.map (Value.int .i64)),fun ty=> ?_,?_⟩
 ·have hr:=run_copy_cells (P:=Tryz.prog) w 22 22 ty 3 g 0 l.length l.length A l.length ca (l.map (Value.int .i64)) Tryz.underlying22 (by kernel_rfl) (by rw[hl];exact(Nat.min_self _).symm)
   (fun j v hv=>by
    rw[List.getElem?_map] at hv;obtain⟨x,hx,rfl⟩:=Option.map_eq_some_iff.1 hv;obtain⟨hj,rfl⟩:=List.getElem?_eq_some_iff.1 hx
    rw[hC j hj,Jr l j hj])
   (fun j hj=>by rw[hl] at hj;rw[Qb hg];dsimp only;simp;omega) (fun j _=>Qf hg _) (by intro u hu;obtain⟨x,-,rfl⟩:=List.mem_map.1 hu;rfl)
  rw[hl] at hr;exact hr
 ·have e:cs2=(l.map (Value.int .i64)).toArray :=by
   have hlt:=(List.getElem?_eq_some_iff.1 hi).1;have h7:=at_ h6 i (b:=⟨g,cs2,3⟩) (by simp[hlt]);rw[h3] at h7;have e1:cur'=cs2:=(by injection h7 with h7;injection h7);rw[<-e1]
   apply Array.toList_inj.1
   rw[h5];have:cs.toList.length=l.length:=(by simpa using hcs);simp[this]
  rw[<-e];exact h6
abbrev cpG (n:Nat) (va vb vm vh vx vy:Value):List Blk:=[⟨n, #[va],22⟩,⟨n+1, #[vb],22⟩,⟨n+1+1, #[vm],23⟩,⟨n+1+1+1, #[vh],92⟩,⟨n+1+1+1+1, #[vx],22⟩,⟨n+1+1+1+1+1, #[vy],22⟩]
abbrev iB (g:Nat) (l:List Int):Blk:=⟨g,(l.map (Value.int .i64)).toArray,3⟩
abbrev sV (g:Nat):Value:= .slice (some ⟨g,0,none⟩) 128 128
theorem Em (A B C M:Option Addr) (ca cb cc cm:Nat) (l r ws fx fy:List Int) (mid:List Bool) (w:World) (hl:(Kd.int .i64).C w A l.length l) (hr:(Kd.int .i64).C w B r.length r) (hC:(Kd.int .i64).C w C ws.length ws) (hM:Kd.bool.C w M mid.length mid) (hw:isW ws=true) (l1:l.length=128) (l2:r.length=128) (l3:mid.length=ws.length)
  (hv: ∀k:Nat,k<128->(-4294967296<=rd l k/\rd l k<=4294967296)/\(-4294967296<=rd r k/\rd r k<=4294967296)) (x1:fx.length=128) (y1:fy.length=128)
  (hf: ∀k,k<ws.length-> ∀i,off ws k<=i->i<off ws (k+1)->rd fx i=(if mid.getD k false=true then sideL (rd l i) (rd r i) else rd l i)/\rd fy i=(if mid.getD k false=true then Qa4 (rd l i) (rd r i) else rd r i)):
  Calls Tryz.prog 124 #[.slice A l.length ca,.slice B r.length cb,.slice C ws.length cc,.slice M mid.length cm,.func (.func 75) #[] #[]] w fun e w'=> ∃gx gy,e= .returned (.tuple #[sV gx,sV gy])/\w'.heap[gx]? =some (.cells (fx.map (Value.int .i64)).toArray 3 (0,0))/\w'.heap[gy]? =some (.cells (fy.map (Value.int .i64)).toArray 3 (0,0))/\w.heap.size<=gx/\w.heap.size<=gy/\gx≠gy/\Below w.heap.size w w':=by
 obtain⟨al,rfl,-⟩:=Qq hl (Below.refl _ _) (k:=0) (by omega);obtain⟨ar,rfl,-⟩:=Qq hr (Below.refl _ _) (k:=0) (by omega);have HL:=Qa.mk (fun W (hb:Below w.heap.size w W) k (hk:k<128)=>(show W.cell? (al.add k)=some (.int .i64 (rd l k)) by obtain⟨a,e,c⟩:=Qq hl hb (k:=k) (by omega);cases e;exact c));have HR:=Qa.mk (fun W (hb:Below w.heap.size w W) k (hk:k<128)=>(show W.cell? (ar.add k)=some (.int .i64 (rd r k)) by obtain⟨a,e,c⟩:=Qq hr hb (k:=k) (by omega);cases e;exact c));have HM:=Qa.mk (fun W (hb:Below w.heap.size w W) k (hk:k<ws.length)=>Y0 hM hb (k:=k) (by omega));have HCC:=Qa.mk (fun W (hb:Below w.heap.size w W)=>Kd.Qe hC hb)
 have hws0:0<ws.length:=by
  obtain⟨-,h,-⟩:=Q0.1 hw;rcases Nat.eq_zero_or_pos ws.length with h0|h0
  ·rw[List.length_eq_zero_iff.1 h0] at h;simp at h
  ·exact h0
 have HG:=Qa.mk (Ja hC hws0);have HV:=Qa.mk hv;have HF:=Qa.mk hf;obtain⟨am,rfl,-⟩:=HM.out w (Below.refl _ _) 0 hws0;have HW:=Qa.mk hw;have HO:=Qa.mk (fun k (hk:k<ws.length)=>Za hw hk);have hwl:(ws.length:Int)<=32:=(by have:=(Q0.1 hw).2.2;omega);have hmk: ∀W:World,(Instr.makeSlice 22 (.int .i64 (128:Int)) (.int .i64 (128:Int))).run Tryz.prog W= .ok (sV W.heap.size) (W.alloc (.cells (List.replicate 128 (Value.int .i64 0)).toArray 3)):=Sec.Ym 128 (by omega);obtain⟨Z0,hZ0⟩: ∃Z0,Z0=(List.replicate 128 (Value.int .i64 0)).toArray :=⟨_,rfl⟩;rw[<-hZ0] at hmk;have hZs:=Qa.mk (show Z0.size=128 by rw[hZ0];simp);have hmo:Tryz.prog.follows .mixedOrders =true:=(by kernel_rfl);rw[l1,l2,l3];replace x1:=Qa.mk x1;replace y1:=Qa.mk y1;replace l1:=Qa.mk l1;replace l2:=Qa.mk l2;clear hl hr hC hM hw hv hf hZ0 l3;refine(callsIn_wide (n:=3)).1 ?_;refine callsIn_of_wp_marks Tryz.func124 rfl trivial ?_ rfl;simp only[Tryz.ntmps124,List.size_toArray,List.length_cons,List.length_nil,Nat.reduceAdd,Nat.reduceSub,Array.replicate_succ,Array.replicate_zero,List.push_toArray,List.append_toArray,List.nil_append,List.cons_append];gi_wp2_with fail;have hR0:=((((((Rws.start w).alloc #[.slice (some al) 128 ca] 22).alloc #[.slice (some ar) 128 cb] 22).alloc #[.slice (some am) ws.length cm] 23).alloc #[.func (.func 75) #[] #[]] 92).alloc #[.slice none 0 0] 22).alloc #[.slice none 0 0] 22;simp only[World.size_alloc,List.nil_append,List.cons_append] at hR0;obtain⟨W0,hW0⟩: ∃W0,W0=(((((w.alloc (.cells #[.slice (some al) 128 ca] 22)).alloc (.cells #[.slice (some ar) 128 cb] 22)).alloc (.cells #[.slice (some am) ws.length cm] 23)).alloc (.cells #[.func (.func 75) #[] #[]] 92)).alloc (.cells #[.slice none 0 0] 22)).alloc (.cells #[.slice none 0 0] 22):=⟨_,rfl⟩;rw[<-hW0] at hR0 ⊢;clear hW0;obtain⟨va,hva⟩: ∃v,v=Value.slice (some al) 128 ca:=⟨_,rfl⟩;obtain⟨vb,hvb⟩: ∃v,v=Value.slice (some ar) 128 cb:=⟨_,rfl⟩;obtain⟨vm,hvm⟩: ∃v,v=Value.slice (some am) ws.length cm:=⟨_,rfl⟩;obtain⟨vh,hvh⟩: ∃v,v=Value.func (.func 75) #[] #[]:=⟨_,rfl⟩
 have hS:Qa (∀(vx vy:Value) (X:List Blk) (W:World),Rws w W [] (cpG w.heap.size va vb vm vh vx vy++X)->W.cell? ⟨w.heap.size,0,none⟩=some va/\W.cell? ⟨w.heap.size+1,0,none⟩=some vb/\W.cell? ⟨w.heap.size+1+1,0,none⟩=some vm/\W.cell? ⟨w.heap.size+1+1+1,0,none⟩=some vh/\W.cell? ⟨w.heap.size+1+1+1+1,0,none⟩=some vx/\W.cell? ⟨w.heap.size+1+1+1+1+1,0,none⟩=some vy):=⟨fun vx vy X W h=>
  ⟨by rw[Qb (at_ h 0 rfl)];rfl,by rw[Qb (at_ h 1 rfl)];rfl,by rw[Qb (at_ h 2 rfl)];rfl,by rw[Qb (at_ h 3 rfl)];rfl,by rw[Qb (at_ h 4 rfl)];rfl,by rw[Qb (at_ h 5 rfl)];rfl⟩⟩
 rw[<-hva,<-hvb,<-hvm,<-hvh] at hR0 ⊢;refine Go.wpIn_wide.2 (wp_scope_straight ((Go.wpIn_wide (n:=3)).1 ?_));refine wpIn_seq ?_;refine Go.wpIn_wide.2 (wp_region_noPanic (Qr (S:=fun W=>W.cell? ⟨w.heap.size,0,none⟩=some va/\W.cell? ⟨w.heap.size+1,0,none⟩=some vb) (ds:=[]) hmo (by have:=hS.out _ _ [] _ hR0.drew;exact⟨this.1,this.2.1⟩) (fun hHeld=> ?_)))
 have hT:Qa (∀(vx vy:Value) (X:List Blk) (W:World),Rws w W [] (cpG w.heap.size va vb vm vh vx vy++X)->W.cell? ⟨w.heap.size+1+1+1+1,0,none⟩=some vx/\W.frozen? ⟨w.heap.size+1+1+1+1,0,none⟩=false/\W.cell? ⟨w.heap.size+1+1+1+1+1,0,none⟩=some vy/\W.frozen? ⟨w.heap.size+1+1+1+1+1,0,none⟩=false/\
   (∀u,Rws w (W.setCell ⟨w.heap.size+1+1+1+1,0,none⟩ u) [] (cpG w.heap.size va vb vm vh u vy++X))/\(∀u,Rws w (W.setCell ⟨w.heap.size+1+1+1+1+1,0,none⟩ u) [] (cpG w.heap.size va vb vm vh vx u++X))):=⟨fun vx vy X W h=>
  ⟨(hS.out vx vy X W h).2.2.2.2.1,Qf (at_ h 4 rfl) 0,(hS.out vx vy X W h).2.2.2.2.2,Qf (at_ h 5 rfl) 0,fun u=>Gl h 4 rfl 0 u,fun u=>Gl h 5 rfl 0 u⟩⟩
 have hP:=Qa.mk (fun(vx vy:Value) (X:List Blk) (W:World) h=>(show W.cell? ⟨w.heap.size,0,none⟩=some va/\W.cell? ⟨w.heap.size+1,0,none⟩=some vb from⟨(hS.out vx vy X W h).1,(hS.out vx vy X W h).2.1⟩));subst hva hvb hvm hvh;replace hR0:=hR0.drew;obtain⟨W1,hW1⟩: ∃W1,W1=W0.drew:=⟨_,rfl⟩;rw[<-hW1] at hR0 hHeld ⊢;clear hW1
 (refine Tk.tl 0 (.slice (some al) 128 ca) hHeld ?_)
 (refine Tk.tl 1 (.int .i64 128) hHeld ?_)
 (refine Tk.tl 3 (.slice (some ar) 128 cb) hHeld ?_)
 (refine Tk.tl 4 (.int .i64 128) hHeld ?_)
 refine join_ (σ:=Nat×Nat) 0 #[true,true,true,true,true,true,true,true] (fun s=>[(18,sV s.1),(21,sV s.2)]) (fun s W=>Rws w W [] (cpG w.heap.size (.slice (some al) 128 ca) (.slice (some ar) 128 cb) (.slice (some am) ws.length cm) (.func (.func 75) #[] #[]) (sV s.1) (sV s.2)++[⟨s.1,Z0,3⟩,⟨s.2,Z0,3⟩])) ?_ ?_
 ·rintro⟨gx,gy⟩ W hRw
  dsimp only at hRw ⊢;simp only[Fq,Act.put,List.setIfInBounds_toArray,List.set_cons_zero,List.set_cons_succ];refine Qo (by kernel_rfl) ?_ _;refine NoPanic.normal ?_;clear hHeld hR0 hP hmk;obtain⟨W2,hc1,hR2⟩:=copy_ (A:=al) (ca:=ca) hRw 6 rfl (l:=l) (by rw[hZs.out,l1.out]) (fun j hj=>HL.out _ hRw.below j (by rw[<-l1.out];exact hj));obtain⟨W3,hc2,hR3⟩:=copy_ (A:=ar) (ca:=cb) hR2 7 rfl (l:=r) (by rw[hZs.out,l2.out]) (fun j hj=>HR.out _ hR2.below j (by rw[<-l2.out];exact hj));rw[l1.out] at hc1;rw[l2.out] at hc2;obtain⟨z0,z1,-,-,z4,z5⟩:=hS.out _ _ _ _ hRw;obtain⟨q0,q1,-,-,q4,q5⟩:=hS.out _ _ _ _ hR2;replace hR3:=Qa.mk (show Rws w W3 [] (cpG w.heap.size (.slice (some al) 128 ca) (.slice (some ar) 128 cb) (.slice (some am) ws.length cm) (.func (.func 75) #[] #[]) (sV gx) (sV gy)++[iB gx l,iB gy r]) from hR3)
  have hgxy:=Qa.mk (show gx≠gy by
   have:=List.pairwise_append.1 hR3.out.gs;have h:=List.pairwise_cons.1 this.2.1
   exact h.1 (iB gy r) (by simp))
  clear hRw hR2;gi_wp2_with fail;refine wpIn_label ?_
  rename_i hK
  refine hK _ _ ?_;clear hK;have hR4:=hR3.out.alloc #[.int .i64 0] 3;obtain⟨gb,hgb⟩: ∃g,g=W3.heap.size:=⟨_,rfl⟩;obtain⟨W4,hW4⟩: ∃W,W=W3.alloc (.cells #[.int .i64 0] 3):=⟨_,rfl⟩;rw[<-hW4,<-hgb] at hR4;rw[<-hgb,<-hW4];have hgb9:=Qa.mk (show w.heap.size+1+1+1+1+1<gb by rw[hgb];exact Qp (at_ hR3.out 5 rfl));clear hW4 hgb hc1 hc2 z0 z1 z4 z5 q0 q1 q4 q5 hT hR3 W3 W2 W1 W0;gi_wp2_with fail;refine⟨trivial,(callsIn_wide.2 (Qbq C ws.length cc W4)).mono ?_⟩;rintro en W5 ⟨rfl,hW5⟩;have hb5:Below W4.heap.size W4 W5:=(by rw[hW5];exact(Below.refl _ _).alloc (Nat.le_refl _) _);have hR5:=hR4.step hb5;have b5:W5.cell? ⟨W4.heap.size,0,none⟩=some (.slice C ws.length cc):=(by rw[hW5];go_simp);have hC5:=HCC.out W5 hR5.below;have hs5:=Qa.mk hR5.below.size;clear hW5 hR4 hb5;obtain⟨ge,hge⟩: ∃g,g=W4.heap.size:=⟨_,rfl⟩;rw[<-hge] at b5 ⊢;clear hge W4;gi_wp2_with fail
  refine Xw rfl (by omega) (gf:=209) (lb:= #[.pointer (some ⟨ge,0,none⟩)]) rfl trivial (enters_of Tryz.func209 (by kernel_rfl) rfl)
   (Qbp Fence.wide _ trivial rfl (by omega) ge C cc ws HW.out W5 hC5 b5)
   (fun h k=>h.trans k) ?keep (Below.refl _ _) (fun _=>rfl) (fun k W=>Rws w W [] (cpG w.heap.size (.slice (some al) 128 ca) (.slice (some ar) 128 cb) (.slice (some am) ws.length cm) (.func (.func 75) #[] #[]) (sV gx) (sV gy)++[iB gx (Jn (off ws k) fx l),iB gy (Jn (off ws k) fy r),⟨gb, #[.int .i64 k],3⟩])) ?own ?start ?round ?done
  case keep=>exact Qy.putObj (N:=W5.heap.size) (fun g hg=>by have:=HG.out g hg;have:=hs5.out;omega)
  case own=>exact fun j W W' row h hg hrow=>Sec.Rws.Jo h hg (fun r e=>⟨by have:=(hrow r e).1;have:=hs5.out;omega,(hrow r e).2⟩)
  case start=>rw[show off ws 0=0 by simp[off],Cn,Cn];exact hR5
  case round=>
   rintro L k W hRw hk;have hBk:=Qa.mk (HF.out k hk);obtain⟨o1,o2,o3,-⟩:=HO.out k hk;obtain⟨_,e,cm1⟩:=HM.out W hRw.below k hk;cases e;obtain⟨p,hp⟩: ∃p,p=off ws k:=⟨_,rfl⟩;obtain⟨d,hd⟩: ∃d,d=wd ws k:=⟨_,rfl⟩;rw[<-hp,<-hd] at o1 o3;rw[<-hd] at o2;rw[<-hp] at hRw hBk ⊢;rw[o1] at hBk ⊢;have hkI:(k:Int)<(ws.length:Int):=(by omega);obtain⟨mk,hmk⟩: ∃b,b=mid.getD k false:=⟨_,rfl⟩;rw[<-hmk] at cm1 hBk
   push_cast
   have hkT:=Qa.mk hk;replace o1:=Qa.mk o1;clear hp hd hk;gi_wp2_with fail;refine⟨(KeepsOthers.refl W).from _,Qy.refl _ _,fun Z=>Rws w Z [] (cpG w.heap.size (.slice (some al) 128 ca) (.slice (some ar) 128 cb) (.slice (some am) ws.length cm) (.func (.func 75) #[] #[]) (sV gx) (sV gy)++[iB gx (Jn p fx l),iB gy (Jn p fy r),⟨gb, #[.int .i64 k],3⟩]),hRw,fun _ Z Z' row h hg hrow=>Sec.Rws.Jo h hg (fun r e=>⟨by have:=(hrow r e).1;have:=hs5.out;omega,(hrow r e).2⟩),?_⟩;clear hRw;rintro Z hRw;obtain⟨-,-,z2,-⟩:=hS.out _ _ _ _ hRw;have z8:Z.cell? ⟨gb,0,none⟩=some (.int .i64 k):=(by rw[Qb (at_ hRw 8 rfl)];rfl);have y8:=Qf (at_ hRw 8 rfl) 0;have hR1:=Gl hRw 8 rfl 0 (.int .i64 ((k:Int)+1));have hg2:gb≠w.heap.size+1+1:=(by have:=hgb9.out;omega);obtain⟨_,e,cm2⟩:=HM.out _ hR1.below k hkT.out;cases e;replace hR1:=Qa.mk (show Rws w (Z.setCell ⟨gb,0,none⟩ (.int .i64 ((k:Int)+1))) [] (cpG w.heap.size (.slice (some al) 128 ca) (.slice (some ar) 128 cb) (.slice (some am) ws.length cm) (.func (.func 75) #[] #[]) (sV gx) (sV gy)++[iB gx (Jn p fx l),iB gy (Jn p fy r),⟨gb, #[.int .i64 ((k:Int)+1)],3⟩]) from hR1);have hK1:Qa (KeepsOthers Z (Z.setCell ⟨gb,0,none⟩ (.int .i64 ((k:Int)+1)))/\Qy (Zv C) Z (Z.setCell ⟨gb,0,none⟩ (.int .i64 ((k:Int)+1)))):=⟨KeepsOthers.setCell _ _ _,Sec.Qy.set HG.out (Qy.refl _ _) (by have:=hgb9.out;dsimp only;omega) _⟩;rw[<-hmk] at cm2;clear hmk cm1
   cases mk with
   |false=>
    have e1:=Gd (p:=p) (x1.out.trans l1.out.symm) d (by rw[l1.out];exact o3) (fun i h1 h2=>by simpa using (hBk.out i h1 h2).1);have e2:=Gd (p:=p) (y1.out.trans l2.out.symm) d (by rw[l2.out];exact o3) (fun i h1 h2=>by simpa using (hBk.out i h1 h2).2);rw[e1,e2] at hR1;clear e1 e2 hRw;gi_wp2;exact⟨hK1.out.1.from _,hK1.out.2,by dsimp only;rw[o1.out];exact hR1.out⟩
   |true=>
    simp only[if_true] at hBk;clear hRw;gi_wp2_with fail;clear z2 z8 y8 cm2 hg2;obtain⟨V1,hV1⟩: ∃V,V=Z.setCell ⟨gb,0,none⟩ (.int .i64 ((k:Int)+1)):=⟨_,rfl⟩;rw[<-hV1] at hR1 hK1 ⊢;clear hV1;gi_loopw [15] (fun i wr=> ∃q:Nat,i= .int .i64 q/\p<=q/\q<=p+d/\Qa (Rws w wr [] (cpG w.heap.size (.slice (some al) 128 ca) (.slice (some ar) 128 cb) (.slice (some am) ws.length cm) (.func (.func 75) #[] #[]) (sV gx) (sV gy)++[iB gx (Jn q fx l),iB gy (Jn q fy r),⟨gb, #[.int .i64 ((k:Int)+1)],3⟩]))/\Qa (KeepsOthers Z wr/\Qy (Zv C) Z wr)) (fun i _=>p+d-(intOf i).toNat)
    case atStart=>exact⟨p,rfl,Nat.le_refl _,by omega,hR1,hK1⟩
    case round=>
     obtain⟨q,rfl,hq1,hq2,hRq,hKq⟩:=hrel;clear hR1 hK1;by_cases hlt:q<p+d
     ·have hltI:(q:Int)<(p:Int)+(d:Int):=by omega
      have hq9:(q:Int)<=127:=(by omega);have hq8: ¬(128:Int)<=(q:Int):=(by omega);obtain⟨f1,f2⟩:=hBk.out q hq1 hlt;have hq128:q<128:=(by omega);obtain⟨v1,v2⟩:=HV.out q hq128;have HS:=Qa.mk (fun(W:World)=>Oy (rd l q) (rd r q) W v1 v2);rw[<-f1,<-f2] at HS;obtain⟨z0,z1,-,z3,z4,z5⟩:=hS.out _ _ _ _ hRq.out;have c1:=HL.out _ hRq.out.below q hq128;have c2:=HR.out _ hRq.out.below q hq128;have e1:=Qa.mk (I9 (p:=q) (x1.out.trans l1.out.symm) (by rw[l1.out];exact hq128));have e2:=Qa.mk (I9 (p:=q) (y1.out.trans l2.out.symm) (by rw[l2.out];exact hq128));have n1:=Qa.mk (rd_mix (p:=q) (i:=q) (x1.out.trans l1.out.symm) (Nat.le_refl _) (by rw[l1.out];exact hq128));have n2:=Qa.mk (rd_mix (p:=q) (i:=q) (y1.out.trans l2.out.symm) (Nat.le_refl _) (by rw[l2.out];exact hq128));obtain⟨a,ha⟩: ∃a,a=rd l q:=⟨_,rfl⟩;obtain⟨b,hb⟩: ∃b,b=rd r q:=⟨_,rfl⟩;obtain⟨x,hx⟩: ∃x,x=rd fx q:=⟨_,rfl⟩;obtain⟨y,hy⟩: ∃y,y=rd fy q:=⟨_,rfl⟩;rw[<-ha,<-hb,<-hx,<-hy] at HS;rw[<-ha] at c1 n1;rw[<-hb] at c2 n2;rw[<-hx] at e1;rw[<-hy] at e2;have hqT:=Qa.mk hlt;have hq28:=Qa.mk hq128;have hq1':=Qa.mk hq1;replace ha:=Qa.mk ha;replace hb:=Qa.mk hb;clear hx hy f1 f2 v1 v2 hlt hq1 hq2 hq128;gi_wp2_with fail;refine Held.Zm (fun W=>W.cell? ⟨w.heap.size,0,none⟩=some (.slice (some al) 128 ca)/\W.cell? ⟨w.heap.size+1,0,none⟩=some (.slice (some ar) 128 cb)/\W.cell? ⟨w.heap.size+1+1+1,0,none⟩=some (.func (.func 75) #[] #[])/\W.cell? ⟨w.heap.size+1+1+1+1,0,none⟩=some (sV gx)/\W.cell? ⟨w.heap.size+1+1+1+1+1,0,none⟩=some (sV gy)/\W.cell? (al.add q)=some (.int .i64 a)/\W.cell? (ar.add q)=some (.int .i64 b)) [] hmo (by kernel_rfl) (fun⟨_,_,h⟩=>h) ⟨z0,z1,z3,z4,z5,c1,c2⟩ (fun hHeld=> ?_);clear z0 z1 z3 z4 z5 c1 c2
      (refine Tk.tl 0 (sV gx) hHeld ?_)
      (refine Tk.tl 1 (.int .i64 q) hHeld ?_)
      (refine Tk.tl 2 (sV gy) hHeld ?_)
      (refine Tk.tl 3 (.int .i64 q) hHeld ?_)
      (refine Tk.tl 4 (.func (.func 75) #[] #[]) hHeld ?_)
      (refine Tk.tl 5 (.slice (some al) 128 ca) hHeld ?_)
      (refine Tk.tl 6 (.int .i64 q) hHeld ?_)
      (refine Tk.tl 7 (.pointer (some (al.add q))) hHeld ?_)
      (refine Tk.tl 8 (.int .i64 a) hHeld ?_)
      (refine Tk.tl 9 (.slice (some ar) 128 cb) hHeld ?_)
      (refine Tk.tl 10 (.int .i64 q) hHeld ?_)
      (refine Tk.tl 11 (.pointer (some (ar.add q))) hHeld ?_)
      (refine Tk.tl 12 (.int .i64 b) hHeld ?_)
      (refine Qd (rs:=[13]) (by kernel_rfl) (by simp) ?_;refine Qc.cons rfl (by decide) (fun K hK=> ?_) Qc.nil)
      go_simp;refine(HS.out _).mono ?_;rintro e V2 ⟨rfl,hb2⟩;have hR2:=hRq.out.drew.step hb2;have hK2:=hKq.out.1.trans (Zr (bnx (Below.refl _ _).drew hb2));have hL2:=hKq.out.2.trans (Sec.Qy.step HG.out hRq.out.below.size (bnx (Below.refl _ _).drew hb2));obtain⟨z0,z1,-,z3,z4,z5⟩:=hS.out _ _ _ _ hR2;have c1:=HL.out _ hR2.below q hq28.out;have c2:=HR.out _ hR2.below q hq28.out;rw[<-ha.out] at c1;rw[<-hb.out] at c2
      (go_wp2_with fail;refine hK.out _ _ (⟨z0,z1,z3,z4,z5,c1,c2⟩) (fun hHeld=> ?_);clear hK K;try simp only[Act.put,Tk.z1,Tk.z2,Tk.z3,Tk.z4,Tk.z5,Tk.z6])
      clear z0 z1 z3 z4 z5 c1 c2 hb2
      (refine Tk.tl 14 (.tuple #[.int .i64 x,.int .i64 y,.int .i64 0]) hHeld ?_)
      (refine Tk.tl 15 (.int .i64 x) hHeld ?_)
      (refine Tk.tl 16 (.int .i64 y) hHeld ?_)
      (refine Tk.tl 17 (.int .i64 0) hHeld ?_)
      (refine Tk.tl 18 (.pointer (some ⟨gx,q,none⟩)) hHeld ?_)
      (refine Qd (rs:=[19]) (by kernel_rfl) (by simp) ?_;refine Qc.cons rfl (by decide) (fun K hK=> ?_) Qc.nil)
      have gX:=at_ hR2 6 rfl;have zx:V2.cell? ⟨gx,q,none⟩=some (.int .i64 a):=(by rw[Qb gX];simp[n1.out]);have yx:=Qf gX q;have hR3:=Gl hR2 6 rfl q (.int .i64 x);obtain⟨z0,z1,-,z3,z4,z5⟩:=hS.out _ _ _ _ hR3;have c1:=HL.out _ hR3.below q hq28.out;have c2:=HR.out _ hR3.below q hq28.out;rw[<-ha.out] at c1;rw[<-hb.out] at c2;have hq3:=And.intro z0 (And.intro z1 (And.intro z3 (And.intro z4 (And.intro z5 (And.intro c1 c2)))));clear z0 z1 z3 z4 z5 c1 c2 gX;replace hq3:=Qa.mk hq3;go_simp
      (go_wp2_with fail;refine hK.out _ _ (hq3.out) (fun hHeld=> ?_);clear hK K;try simp only[Act.put,Tk.z1,Tk.z2,Tk.z3,Tk.z4,Tk.z5,Tk.z6])
      (refine Tk.tl 20 (.pointer (some ⟨gy,q,none⟩)) hHeld ?_)
      obtain⟨V3,hV3⟩: ∃V,V=V2.setCell ⟨gx,q,none⟩ (.int .i64 x):=⟨_,rfl⟩;have hE1:((List.map (Value.int .i64) (Jn q fx l)).toArray.setIfInBounds q (.int .i64 x))=(List.map (Value.int .i64) (Jn (q+1) fx l)).toArray :=(by rw[<-e1.out];simp);have hE2:((List.map (Value.int .i64) (Jn q fy r)).toArray.setIfInBounds q (.int .i64 y))=(List.map (Value.int .i64) (Jn (q+1) fy r)).toArray :=by rw[<-e2.out];simp
      try dsimp only at hR3
      rw[hE1] at hR3;rw[<-hV3] at hR3 ⊢;have hK3:=hK2.trans (KeepsOthers.setCell V2 ⟨gx,q,none⟩ (.int .i64 x));have hL3:=Sec.Qy.set HG.out hL2 (p:=⟨gx,q,none⟩) (ge_ hR2 6 rfl) (.int .i64 x);rw[<-hV3] at hK3 hL3;replace hR3:=Qa.mk (show Rws w V3 [] (cpG w.heap.size (.slice (some al) 128 ca) (.slice (some ar) 128 cb) (.slice (some am) ws.length cm) (.func (.func 75) #[] #[]) (sV gx) (sV gy)++[iB gx (Jn (q+1) fx l),iB gy (Jn q fy r),⟨gb, #[.int .i64 ((k:Int)+1)],3⟩]) from hR3);clear hV3 hE1 hR2 hK2 hL2 hHeld zx yx hq3
      (refine Qd (rs:=[21]) (by kernel_rfl) (by simp) ?_;refine Qc.cons rfl (by decide) (fun K hK=> ?_) Qc.nil)
      have gY:=at_ hR3.out 7 rfl;have zy:V3.cell? ⟨gy,q,none⟩=some (.int .i64 b):=(by rw[Qb gY];simp[n2.out]);have yy:=Qf gY q;have hR4:=Gl hR3.out 7 rfl q (.int .i64 y)
      try dsimp only at hR4
      rw[hE2] at hR4;have hK4:=hK3.trans (KeepsOthers.setCell V3 ⟨gy,q,none⟩ (.int .i64 y));have hL4:=Sec.Qy.set HG.out hL3 (p:=⟨gy,q,none⟩) (ge_ hR3.out 7 rfl) (.int .i64 y);replace hR4:=Qa.mk hR4;obtain⟨z0,z1,-,z3,z4,z5⟩:=hS.out _ _ _ _ hR4.out;have c1:=HL.out _ hR4.out.below q hq28.out;have c2:=HR.out _ hR4.out.below q hq28.out;rw[<-ha.out] at c1;rw[<-hb.out] at c2;have hq4:=Qa.mk (And.intro z0 (And.intro z1 (And.intro z3 (And.intro z4 (And.intro z5 (And.intro c1 c2))))));clear hE2 gY hK3 hL3 z0 z1 z3 z4 z5 c1 c2;go_simp
      (go_wp2_with fail;refine hK.out _ _ (hq4.out) (fun hHeld=> ?_);clear hK K;try simp only[Act.put,Tk.z1,Tk.z2,Tk.z3,Tk.z4,Tk.z5,Tk.z6])
      clear zy yy hHeld hq4;refine Qo (by kernel_rfl) ?_ _;replace hK4:=Qa.mk hK4;replace hL4:=Qa.mk hL4;gi_wp2;go_roundw
      case rel=>exact⟨q+1,by go_num,Nat.le_succ_of_le hq1'.out,hqT.out,hR4,⟨hK4.out,hL4.out⟩⟩
      case measure=>have:=hqT.out;simp[intOf];omega
     ·obtain rfl:q=p+d:=by omega
      gi_wp2;exact⟨hKq.out.1.from _,hKq.out.2,by dsimp only;rw[o1.out];exact hRq.out⟩
  case done=>
   rintro D W hD hRw hDf;have h1:=Sec.Rws.Jo hRw (grownBy_putObj' W D (.deferred none)) (fun r e=>by cases e;exact⟨by have:=hs5.out;omega,_,hDf,rfl⟩);have hoff:off ws ws.length=128:=(by unfold off;rw[List.take_length,(Q0.1 HW.out).2.1];rfl);rw[hoff,I8 (x1.out.trans l1.out.symm) (by rw[l1.out];exact Nat.le_refl _),I8 (y1.out.trans l2.out.symm) (by rw[l2.out];exact Nat.le_refl _)] at h1 hRw;have hR1:=hRw.drew;have hx:=at_ hR1 4 rfl;have hy:=at_ hR1 5 rfl
   have hD4:D≠w.heap.size+1+1+1+1:=fun e=>by
    have h4:=at_ hRw 4 rfl;dsimp only at h4;rw[<-e,hDf] at h4;cases h4
   have hD5:D≠w.heap.size+1+1+1+1+1:=fun e=>by
    have h4:=at_ hRw 5 rfl;dsimp only at h4;rw[<-e,hDf] at h4;cases h4
   clear h1;gi_wp2_with fail;refine Go.wpIn_wide.2 (wp_region_noPanic (Qr (S:=fun W=>W.cell? ⟨w.heap.size+1+1+1+1,0,none⟩=some (sV gx)/\W.cell? ⟨w.heap.size+1+1+1+1+1,0,none⟩=some (sV gy)) (ds:=[]) hmo ⟨(hS.out _ _ _ _ hR1).2.2.2.2.1,(hS.out _ _ _ _ hR1).2.2.2.2.2⟩ (fun hHeld=> ?_)));obtain⟨V,hV⟩: ∃V,V=W.drew:=⟨_,rfl⟩;have hDV:V.heap[D]? =some (.deferred (some [])):=(by rw[hV];exact hDf);rw[<-hV] at hR1 hx hy hHeld ⊢;clear hV hRw hDf W
   (refine Tk.tl 0 (sV gx) hHeld ?_)
   (refine Tk.tl 1 (sV gy) hHeld ?_)
   (refine Qd (rs:=[2]) (by kernel_rfl) (by simp) ?_;refine Qc.cons rfl (by decide) (fun K hK=> ?_) Qc.nil)
   have y4:=Qf hx 0;have hR2:=Gl hR1 4 rfl 0 (sV gx);have hq2:=Qa.mk (And.intro (hS.out _ _ _ _ hR2).2.2.2.2.1 (hS.out _ _ _ _ hR2).2.2.2.2.2);go_simp
   (go_wp2_with fail;refine hK.out _ _ (hq2.out) (fun hHeld=> ?_);clear hK K;try simp only[Act.put,Tk.z1,Tk.z2,Tk.z3,Tk.z4,Tk.z5,Tk.z6])
   clear hq2 y4
   (refine Qd (rs:=[3]) (by kernel_rfl) (by simp) ?_;refine Qc.cons rfl (by decide) (fun K hK=> ?_) Qc.nil)
   have hy2:=at_ hR2 5 rfl;have y5:=Qf hy2 0;have hR3:=Gl hR2 5 rfl 0 (sV gy);have hq3:=Qa.mk (And.intro (hS.out _ _ _ _ hR3).2.2.2.2.1 (hS.out _ _ _ _ hR3).2.2.2.2.2);dsimp only at hR2 hy2 y5 hR3;go_simp
   (go_wp2_with fail;refine hK.out _ _ (hq3.out) (fun hHeld=> ?_);clear hK K;try simp only[Act.put,Tk.z1,Tk.z2,Tk.z3,Tk.z4,Tk.z5,Tk.z6])
   clear hq3 y5 hy2;refine Qo (by kernel_rfl) ?_ _;refine NoPanic.normal ?_
   have hD3:((V.setCell ⟨w.heap.size+1+1+1+1,0,none⟩ (sV gx)).setCell ⟨w.heap.size+1+1+1+1+1,0,none⟩ (sV gy)).heap[D]? =some (.deferred (some [])):=by
    rw[Xh _ _ hD5,Xh _ _ hD4];exact hDV
   obtain⟨U,hU⟩: ∃U,U=((V.setCell ⟨w.heap.size+1+1+1+1,0,none⟩ (sV gx)).setCell ⟨w.heap.size+1+1+1+1+1,0,none⟩ (sV gy)):=⟨_,rfl⟩;rw[<-hU] at hD3 hR3 hHeld ⊢;have h1:=Sec.Rws.Jo hR3 (grownBy_putObj' U D (.deferred none)) (fun r e=>by cases e;exact⟨by have:=hs5.out;omega,_,hD3,rfl⟩);clear hU hR2 hR1 hx hy hDV;gi_wp2;refine⟨by simp,.inl ⟨_,_,rfl,run_takeDeferred hD3,?_⟩⟩;obtain⟨-,-,-,-,z4,z5⟩:=hS.out _ _ _ _ h1;exact⟨.tuple #[sV gx,sV gy],by simp[results,Tryz.f124,go_sem,asAddr,Tryz.underlying22,z4,z5],gx,gy,rfl,at_ h1 6 rfl,at_ h1 7 rfl,ge_ h1 6 rfl,ge_ h1 7 rfl,hgxy.out,h1.below⟩
 ·intro hJ
  replace hJ:=Qa.mk hJ;refine Qd (rs:=[2,5]) (by kernel_rfl) (by simp) ?_;refine Qc.cons rfl (by decide) (fun K hK=> ?_) (Qc.cons rfl (by decide) (fun K hK=> ?_) Qc.nil)
  ·refine Zi (w1:=W1.alloc (.cells Z0 3)) (v:=sV W1.heap.size) (by kernel_rfl) rfl (by go_simp) ?_
   have hR2:=hR0.alloc Z0 3;refine hK.out _ _ (hP.out _ _ _ _ hR2) (fun hHeld=> ?_);clear hK K;simp only[Act.put,List.setIfInBounds_toArray,List.set_cons_zero,List.set_cons_succ];obtain⟨g2,hg2⟩: ∃g,g=W1.heap.size:=⟨_,rfl⟩;obtain⟨W2,hW2⟩: ∃W,W=W1.alloc (.cells Z0 3):=⟨_,rfl⟩;rw[<-hW2,<-hg2] at hR2;rw[<-hg2,<-hW2];rw[<-hW2] at hHeld;clear hW2 hg2;refine Qd (rs:=[5,6]) (by kernel_rfl) (by simp) ?_;refine Qc.cons rfl (by decide) (fun K hK=> ?_) (Qc.cons rfl (by decide) (fun K hK=> ?_) Qc.nil)
   ·refine Zi (w1:=W2.alloc (.cells Z0 3)) (v:=sV W2.heap.size) (by kernel_rfl) rfl (by go_simp) ?_
    have hR3:=hR2.alloc Z0 3;refine hK.out _ _ (hP.out _ _ _ _ hR3) (fun hHeld=> ?_);clear hK K;simp only[Act.put,List.setIfInBounds_toArray,List.set_cons_zero,List.set_cons_succ];obtain⟨g5,hg5⟩: ∃g,g=W2.heap.size:=⟨_,rfl⟩;obtain⟨W3,hW3⟩: ∃W,W=W2.alloc (.cells Z0 3):=⟨_,rfl⟩;rw[<-hW3,<-hg5] at hR3;rw[<-hg5,<-hW3];rw[<-hW3] at hHeld;clear hW3 hg5
    (refine Qd (rs:=[6]) (by kernel_rfl) (by simp) ?_;refine Qc.cons rfl (by decide) (fun K hK=> ?_) Qc.nil)
    obtain⟨z4,y4,z5,y5,s4,s5⟩:=hT.out _ _ _ _ hR3;have hR4:=s4 (sV g2);go_simp;go_wp2_with fail;refine hK.out _ _ (hP.out _ _ _ _ hR4) (fun hHeld=> ?_);clear hK K z4 y4 z5 y5 s4 s5
    try simp only[Act.put,List.setIfInBounds_toArray,List.set_cons_zero,List.set_cons_succ]
    (refine Qd (rs:=[7]) (by kernel_rfl) (by simp) ?_;refine Qc.cons rfl (by decide) (fun K hK=> ?_) Qc.nil)
    obtain⟨z4,y4,z5,y5,s4,s5⟩:=hT.out _ _ _ _ hR4;have hR5:=s5 (sV g5);go_simp;go_wp2_with fail;refine hK.out _ _ (hP.out _ _ _ _ hR5) (fun hHeld=> ?_);clear hK K z4 y4 z5 y5 s4 s5
    try simp only[Act.put,List.setIfInBounds_toArray,List.set_cons_zero,List.set_cons_succ]
    exact Ka (by kernel_rfl) (by kernel_rfl) (hJ.out (g2,g5) _ hR5)
   ·obtain⟨z4,y4,z5,y5,s4,s5⟩:=hT.out _ _ _ _ hR2
    have hR3:=s4 (sV g2);go_simp;go_wp2_with fail;refine hK.out _ _ (hP.out _ _ _ _ hR3) (fun hHeld=> ?_);clear hK K z4 y4 z5 y5 s4 s5
    try simp only[Act.put,List.setIfInBounds_toArray,List.set_cons_zero,List.set_cons_succ]
    obtain⟨W3,hW3⟩: ∃W,W=W2.setCell ⟨w.heap.size+1+1+1+1,0,none⟩ (sV g2):=⟨_,rfl⟩;rw[<-hW3] at hR3 hHeld ⊢;clear hW3
    (refine Qd (rs:=[5]) (by kernel_rfl) (by simp) ?_;refine Qc.cons rfl (by decide) (fun K hK=> ?_) Qc.nil)
    refine Zi (w1:=W3.alloc (.cells Z0 3)) (v:=sV W3.heap.size) (by kernel_rfl) rfl (by go_simp) ?_;have hR4:=hR3.alloc Z0 3;refine hK.out _ _ (hP.out _ _ _ _ hR4) (fun hHeld=> ?_);clear hK K;simp only[Act.put,List.setIfInBounds_toArray,List.set_cons_zero,List.set_cons_succ];obtain⟨g5,hg5⟩: ∃g,g=W3.heap.size:=⟨_,rfl⟩;obtain⟨W4,hW4⟩: ∃W,W=W3.alloc (.cells Z0 3):=⟨_,rfl⟩;rw[<-hW4,<-hg5] at hR4;rw[<-hg5,<-hW4];rw[<-hW4] at hHeld;clear hW4 hg5
    (refine Qd (rs:=[7]) (by kernel_rfl) (by simp) ?_;refine Qc.cons rfl (by decide) (fun K hK=> ?_) Qc.nil)
    obtain⟨z4,y4,z5,y5,s4,s5⟩:=hT.out _ _ _ _ hR4;have hR5:=s5 (sV g5);go_simp;go_wp2_with fail;refine hK.out _ _ (hP.out _ _ _ _ hR5) (fun hHeld=> ?_);clear hK K z4 y4 z5 y5 s4 s5
    try simp only[Act.put,List.setIfInBounds_toArray,List.set_cons_zero,List.set_cons_succ]
    exact Ka (by kernel_rfl) (by kernel_rfl) (hJ.out (g2,g5) _ hR5)
  ·refine Zi (w1:=W1.alloc (.cells Z0 3)) (v:=sV W1.heap.size) (by kernel_rfl) rfl (by go_simp) ?_
   have hR2:=hR0.alloc Z0 3;refine hK.out _ _ (hP.out _ _ _ _ hR2) (fun hHeld=> ?_);clear hK K;simp only[Act.put,List.setIfInBounds_toArray,List.set_cons_zero,List.set_cons_succ];obtain⟨g5,hg5⟩: ∃g,g=W1.heap.size:=⟨_,rfl⟩;obtain⟨W2,hW2⟩: ∃W,W=W1.alloc (.cells Z0 3):=⟨_,rfl⟩;rw[<-hW2,<-hg5] at hR2;rw[<-hg5,<-hW2];rw[<-hW2] at hHeld;clear hW2 hg5
   (refine Qd (rs:=[2]) (by kernel_rfl) (by simp) ?_;refine Qc.cons rfl (by decide) (fun K hK=> ?_) Qc.nil)
   refine Zi (w1:=W2.alloc (.cells Z0 3)) (v:=sV W2.heap.size) (by kernel_rfl) rfl (by go_simp) ?_;have hR3:=hR2.alloc Z0 3;refine hK.out _ _ (hP.out _ _ _ _ hR3) (fun hHeld=> ?_);clear hK K;simp only[Act.put,List.setIfInBounds_toArray,List.set_cons_zero,List.set_cons_succ];obtain⟨g2,hg2⟩: ∃g,g=W2.heap.size:=⟨_,rfl⟩;obtain⟨W3,hW3⟩: ∃W,W=W2.alloc (.cells Z0 3):=⟨_,rfl⟩;rw[<-hW3,<-hg2] at hR3;rw[<-hg2,<-hW3];rw[<-hW3] at hHeld;clear hW3 hg2;replace hR3:=Bts.Rws.perm (G':=cpG w.heap.size (.slice (some al) 128 ca) (.slice (some ar) 128 cb) (.slice (some am) ws.length cm) (.func (.func 75) #[] #[]) (.slice none 0 0) (.slice none 0 0)++[⟨g2,Z0,3⟩,⟨g5,Z0,3⟩]) hR3 (List.Perm.refl _) (by rw[List.append_assoc];exact List.Perm.append_left _ (List.Perm.swap _ _ _))
   (refine Qd (rs:=[6]) (by kernel_rfl) (by simp) ?_;refine Qc.cons rfl (by decide) (fun K hK=> ?_) Qc.nil)
   obtain⟨z4,y4,z5,y5,s4,s5⟩:=hT.out _ _ _ _ hR3;have hR4:=s4 (sV g2);go_simp;go_wp2_with fail;refine hK.out _ _ (hP.out _ _ _ _ hR4) (fun hHeld=> ?_);clear hK K z4 y4 z5 y5 s4 s5
   try simp only[Act.put,List.setIfInBounds_toArray,List.set_cons_zero,List.set_cons_succ]
   (refine Qd (rs:=[7]) (by kernel_rfl) (by simp) ?_;refine Qc.cons rfl (by decide) (fun K hK=> ?_) Qc.nil)
   obtain⟨z4,y4,z5,y5,s4,s5⟩:=hT.out _ _ _ _ hR4;have hR5:=s5 (sV g5);go_simp;go_wp2_with fail;refine hK.out _ _ (hP.out _ _ _ _ hR5) (fun hHeld=> ?_);clear hK K z4 y4 z5 y5 s4 s5
   try simp only[Act.put,List.setIfInBounds_toArray,List.set_cons_zero,List.set_cons_succ]
   exact Ka (by kernel_rfl) (by kernel_rfl) (hJ.out (g2,g5) _ hR5)
end St

namespace Bd
attribute [local go_sem] Qi Qj Qk Ql Qg Qh
open Q15
open Runs Go.Shelf
open Q21
open Sec (Qy V9 Zv)
section
variable {F:Fence} {n:Nat} {P:Program} {md:Region.Mode} {ops:Array Oper} {Q:Exit->Act->World->Prop} {oi:Oper} {fuel:Nat} {listed l':Array Bool} {a a':Act} {w:World}
theorem tf (i:Nat) (v:Value) (hro:F.round=none) (h:wpAnyIn F n P md ops Q fuel l' a' w) (hi:ops[i]? =some oi:=by rfl)
  (hs:Region.noSelect ops=true:=by kernel_rfl) (hf:Region.free md ops listed i=true:=by kernel_rfl) (hr:(Region.ready md ops listed).contains i=true:=by kernel_rfl) (hQ: ∀c a w,Q (.panic c) (a.put oi.dst v) w->Q (.panic c) a w:=by exact fun _ _ _ h=>h)
  (hy:YieldsFenced P ops oi v a:=by exact⟨Or.inl ⟨by rfl,fun w=>by go_simp⟩,fun w=>by rfl⟩)
  (ha:a.put oi.dst v=a':=by(try simp only[Act.put,Tk.z1,Tk.z2,Tk.z3,Tk.z4,Tk.z5,Tk.z6]);(try rfl))
  (hl:listed.setIfInBounds i true=l':=by(try simp only[List.setIfInBounds_toArray,List.set_cons_zero,List.set_cons_succ]);(try rfl)):wpAnyIn F n P md ops Q (fuel+1) listed a w:=by
 subst ha hl;exact wpAnyIn_take hro hi hs hf hr hQ hy h
end
def frB (j:Nat):Nat:=[0,2,4,8,16].getD j 0
def wB (j:Nat):Nat:=[2,2,4,8].getD j 0
def posG (n F m:Nat):Nat:=
 if m<n*2 then(F+m/2)*16+m%2
 else if m<n*4 then(F+(m-n*2)/2)*16+2+(m-n*2)%2
 else if m<n*8 then(F+(m-n*4)/4)*16+4+(m-n*4)%4
 else(F+(m-n*8)/8)*16+8+(m-n*8)%8
def posS:List Int->Nat->Nat->Nat
 |[],_,_=>0
 |n::g,F,m=>if m<16*n.toNat then posG n.toNat F m else posS g (F+n.toNat) (m-16*n.toNat)
def posL (sh:Bool) (g:List Int) (m:Nat):Nat:=if sh then posS g 0 m else m
def U8 (g:List Int) (k:Nat):Nat:=(g.take k).sum.toNat
theorem posG_at {n F i j:Nat} (hj:j<4) (hi:i<n*wB j):posG n F (n*frB j+i)=(F+i/wB j)*16+frB j+i%wB j:=by
 unfold posG;have h4:j=0\/j=1\/j=2\/j=3:=(by omega);rcases h4 with rfl|rfl|rfl|rfl<;>simp only[wB,frB,List.getD_cons_zero,List.getD_cons_succ] at hi ⊢
 ·rw[if_pos (by omega)];simp
 ·rw[if_neg (by omega),if_pos (by omega)];simp
 ·rw[if_neg (by omega),if_neg (by omega),if_pos (by omega)];simp
 ·rw[if_neg (by omega),if_neg (by omega),if_neg (by omega)];simp
theorem Qc7: ∀{g:List Int} (F:Nat) {k:Nat} (hk:k<g.length) (h1: ∀x∈g,1<=x) {m:Nat},m<16*(rd g k).toNat ->posS g F (16*U8 g k+m)=posG (rd g k).toNat (F+U8 g k) m
 |[],_,_,hk,_,_,_=>by simp at hk
 |n::g,F,0,_,h1,m,hm=>by
  have hr:rd (n::g) (0:Nat)=n:=rfl;rw[hr] at hm ⊢;unfold posS U8;simp only[List.take_zero,List.sum_nil,Int.toNat_zero,Nat.mul_zero,Nat.zero_add,Nat.add_zero];rw[if_pos hm]
 |n::g,F,k+1,hk,h1,m,hm=>by
  have hr:rd (n::g) ((k+1:Nat):Int)=rd g k:=by
   unfold rd;simp
  have hn:=h1 n (by simp);have h2: ∀x∈g,1<=x:=fun x hx=>h1 x (by simp[hx])
  have hpos:=Q16.Vi (l:=g.take k) (fun x hx=>h2 x (List.mem_of_mem_take hx))
  have hs:U8 (n::g) (k+1)=n.toNat+U8 g k:=by
   unfold U8;rw[List.take_succ_cons,List.sum_cons];omega
  rw[hr] at hm ⊢;rw[hs];unfold posS;rw[if_neg (by omega),show 16*(n.toNat+U8 g k)+m-16*n.toNat=16*U8 g k+m by omega,Qc7 (F+n.toNat) (by simpa using hk) h2 hm,Nat.add_assoc]
theorem Qet {g:List Int} (h1: ∀x∈g,1<=x/\x<=8) {k:Nat} (hk:k<g.length):U8 g (k+1)=U8 g k+(rd g k).toNat /\U8 g (k+1)<=g.sum.toNat:=by
 have h2: ∀x∈g,1<=x:=fun x hx=>(h1 x hx).1
 have hpos:=Q16.Vi (l:=g.take k) (fun x hx=>h2 x (List.mem_of_mem_take hx));have hd:=Q16.Vi (l:=g.drop (k+1)) (fun x hx=>h2 x (List.mem_of_mem_drop hx));have hr:=h2 _ (Qt g k hk);have h3:(g.take (k+1)).sum =(g.take k).sum +rd g k:=(by rw[Qx g k hk,List.sum_append];simp);have h4:g.sum=(g.take (k+1)).sum +(g.drop (k+1)).sum :=(by rw[<-List.sum_append,List.take_append_drop]);unfold U8;omega
theorem posL_bd {sh:Bool} {g:List Int} (hd:Zd sh g=true): ∀m,m<128->posL sh g m<128:=by
 intro m hm
 cases sh with
 |false=>exact hm
 |true=>
  obtain⟨-,h1,h3⟩:=X9.1 hd
  have key: ∀(l:List Int) (F m:Nat),(∀x∈l,1<=x/\x<=8)->m<16*l.sum.toNat->F+l.sum.toNat<=8->posS l F m<128:=by
   intro l
   induction l with
   |nil=>intro F m _ h _;simp at h
   |cons n l ih=>
    intro F m h hm hF;have hn:=h n (by simp);have hp:=Q16.Vi (l:=l) (fun x hx=>(h x (by simp[hx])).1);rw[List.sum_cons] at hm hF;unfold posS
    split
    ·rename_i h2
     unfold posG
     split
     ·omega
     ·split
      ·omega
      ·split
       ·omega
       ·omega
    ·exact ih _ _ (fun x hx=>h x (by simp[hx])) (by omega) (by omega)
  exact key g 0 m h1 (by omega) (by omega)
theorem short4 {w:World} (h:(Kd.int .i64).C w (some ⟨1,0,none⟩) 4 Ji):w.cell? ⟨1,0,none⟩=some (.int .i64 2)/\w.cell? ⟨1,1,none⟩=some (.int .i64 2)/\w.cell? ⟨1,2,none⟩=some (.int .i64 4)/\w.cell? ⟨1,3,none⟩=some (.int .i64 8):=by
 have h2: ∀(k:Nat),k<4->w.cell? ((⟨1,0,none⟩:Addr).add k)=some (.int .i64 (rd Ji k)):=fun k hk=>by
  obtain⟨ad,e,h3⟩:=Qq (w1:=w) (l:=Ji) h (Below.refl _ _) (k:=k) hk;cases e;exact h3
 exact⟨h2 0 (by decide),h2 1 (by decide),h2 2 (by decide),h2 3 (by decide)⟩
theorem Qaf (F:Fence) (n:Nat) (hF:F.fn 176) (hro:F.round=none) (hn:1<=n) (B1 B2:Nat) (sh:Bool) (A:Option Addr) (ca:Nat) (gs:List Int) (hd:Zd sh gs=true) (w:World) (hL:Laid w) (hr:(Kd.int .i64).C w A gs.length gs)
  (c1:w.cell? ⟨B1,0,none⟩=some (.bool sh)) (c2:w.cell? ⟨B2,0,none⟩=some (.slice A gs.length ca)) (Ls:List Nat) (hLs:0<gs.length-> ∀g∈Zv A,g∈Ls):
  Yg F n Tryz.prog 176 #[.pointer (some ⟨B1,0,none⟩),.pointer (some ⟨B2,0,none⟩)] (fun m=> #[.int .i64 (posL sh gs m:Nat)]) (Qy (1::Ls)) 128 w:=fun L J W hW hY h0 hJd=>by
 have d1:=cnx c1 hW;have d2:=cnx c2 hW;have HLs:=Qa.mk hLs;have HY:=Qa.mk hY;replace hJd:=Qa.mk hJd;have HL:=Qa.mk (hL.below hW);have HR:=Qa.mk (Kd.Qe hr hW);clear hY c1 c2 hr hL hLs
 cases sh with
 |false=>
  refine callsIn_of_wp Tryz.func176 rfl hF ?_ hro;simp only[Tryz.ntmps176,List.size_toArray,List.length_cons,List.length_nil,Nat.reduceAdd,Nat.reduceSub,Array.replicate_succ,Array.replicate_zero,List.push_toArray,List.append_toArray,List.nil_append,List.cons_append];gi_wp2;gi_loopw [14] (fun i wr=> ∃k:Nat,i= .int .i64 k/\k<=128/\Qa (J k wr)) (fun i _=>128-(intOf i).toNat)
  case atStart=>exact⟨0,rfl,by omega,⟨h0⟩⟩
  case round=>
   obtain⟨k,rfl,hk,hJ⟩:=hrel;clear d1 d2;by_cases hlt:k<128
   ·have hkI:(k:Int)<128:=by omega
    obtain⟨fn,tmps,assign,body,hy,hR⟩:=HY.out k wr hlt hJ.out;rw[show posL false gs k=k from rfl] at hy;have hR2:=Qa.mk hR;have hT:=Qa.mk hlt;clear hR hlt hk;gi_wp2;refine hR2.out.mono ?_;rintro e W3 ⟨rfl,hJ3,hk3⟩;replace hJ3:=Qa.mk hJ3;clear hR2 hk3 hy;gi_wp2;go_roundw
    case rel=>exact⟨k+1,by go_num,hT.out,hJ3⟩
    case measure=>have:=hT.out;simp[intOf];omega
   ·obtain rfl:k=128:=by omega
    gi_wp2
    (try simp only[Exit.inBlock,Exit.then])
    refine bodyPost_ret (results_none rfl _ _ _) rfl ?_;exact⟨⟨_,rfl⟩,hJ.out⟩
 |true=>
  obtain⟨i1,i2,i3⟩:=X9.1 hd;have hgI:(gs.length:Int)<=8:=(by omega);have hS:=Qa.mk (fun k (hk:k<gs.length)=>Qet i2 hk);have hP:=Qa.mk (fun k (hk:k<gs.length) m hm=>Qc7 (g:=gs) 0 hk (fun x hx=>(i2 x hx).1) (m:=m) hm);have hI:=Qa.mk (fun k (hk:k<gs.length)=>i2 _ (Qt gs k hk));replace i3:=Qa.mk i3;have hend:Qa (16*U8 gs gs.length=128):=⟨by unfold U8;rw[List.take_length,i3.out];rfl⟩;have x0: ∀w,(Instr.index 172 (.agg #[.int .i64 2,.int .i64 2,.int .i64 4,.int .i64 8]) (.int .i64 0)).run Tryz.prog w= .ok (.int .i64 2) w:=fun _=>by kernel_rfl
  have x1: ∀w,(Instr.index 172 (.agg #[.int .i64 2,.int .i64 2,.int .i64 4,.int .i64 8]) (.int .i64 1)).run Tryz.prog w= .ok (.int .i64 2) w:=fun _=>by kernel_rfl
  have x2: ∀w,(Instr.index 172 (.agg #[.int .i64 2,.int .i64 2,.int .i64 4,.int .i64 8]) (.int .i64 2)).run Tryz.prog w= .ok (.int .i64 4) w:=fun _=>by kernel_rfl
  have x3: ∀w,(Instr.index 172 (.agg #[.int .i64 2,.int .i64 2,.int .i64 4,.int .i64 8]) (.int .i64 3)).run Tryz.prog w= .ok (.int .i64 8) w:=fun _=>by kernel_rfl
  have hX:Qa (∀j,j<4-> ∀w,(Instr.index 172 (.agg #[.int .i64 2,.int .i64 2,.int .i64 4,.int .i64 8]) (.int .i64 (j:Nat))).run Tryz.prog w= .ok (.int .i64 (wB j:Nat)) w):=⟨fun j hj=>by
   have h4:j=0\/j=1\/j=2\/j=3:=(by omega);rcases h4 with rfl|rfl|rfl|rfl
   ·exact fun w=>x0 w
   ·exact fun w=>x1 w
   ·exact fun w=>x2 w
   ·exact fun w=>x3 w⟩
  clear x0 x1 x2 x3 hd i1 i2;refine callsIn_of_wp Tryz.func176 rfl hF ?_ hro;simp only[Tryz.ntmps176,List.size_toArray,List.length_cons,List.length_nil,Nat.reduceAdd,Nat.reduceSub,Array.replicate_succ,Array.replicate_zero,List.push_toArray,List.append_toArray,List.nil_append,List.cons_append];gi_wp2;gi_loopw [5,24] (fun x i wr=> ∃k f:Nat,i= .int .i64 k/\x= .int .i64 f/\k<=gs.length/\f<=8/\Qa (f=U8 gs k)/\Qa ((Kd.int .i64).C wr A gs.length gs/\(Kd.int .i64).C wr (some ⟨1,0,none⟩) 4 Ji)/\Qa (J (16*U8 gs k) wr)) (fun _ i _=>gs.length-(intOf i).toNat)
  case atStart=>exact⟨0,0,rfl,rfl,by omega,by omega,⟨by simp[U8]⟩,⟨HR.out,HL.out.shorts⟩,⟨by simpa[U8] using h0⟩⟩
  case round=>
   obtain⟨k,f,rfl,rfl,hk,hf,hfk,hC,hJ⟩:=hrel;clear d1 d2;by_cases hlt:k<gs.length
   ·have hkI:(k:Int)<(gs.length:Int):=by omega
    obtain⟨ad,rfl,hcell⟩:=Qq hC.out.1 (Below.refl _ _) hlt;obtain⟨s0,s1,s2,s3⟩:=short4 hC.out.2;obtain⟨o1,o2⟩:=hS.out k hlt;have o3:=hI.out k hlt;have hPk:=Qa.mk (hP.out k hlt);rw[<-hfk.out] at hPk o1 hJ;obtain⟨d,hdE⟩: ∃d:Nat,(d:Int)=rd gs k:=⟨(rd gs k).toNat,by omega⟩;rw[<-hdE] at hcell o1 o3 hPk;rw[Int.toNat_natCast] at o1 hPk;have hfd:f+d<=8:=(by have:=i3.out;omega);have hT:=Qa.mk hlt;replace o1:=Qa.mk o1;clear hdE hlt hk o2;gi_wp2_with fail;obtain⟨wo,rfl⟩: ∃wo:World,wo=wr:=⟨_,rfl⟩;gi_loopw [8,29] (fun x i wr=> ∃j r:Nat,i= .int .i64 j/\x= .int .i64 r/\j<=4/\r<=16/\Qa (r=frB j)/\Qa ((Kd.int .i64).C wr (some ad) gs.length gs/\(Kd.int .i64).C wr (some ⟨1,0,none⟩) 4 Ji)/\Qa (J (16*f+d*frB j) wr)) (fun _ i _=>4-(intOf i).toNat)
    case atStart=>exact⟨0,0,rfl,rfl,by omega,by omega,⟨rfl⟩,hC,hJ⟩
    case round=>
     obtain⟨j,r,rfl,rfl,hj,hr,hrj,hC2,hJ2⟩:=hrel;clear hC hJ hcell s0 s1 s2 s3;by_cases hjt:j<4
     ·have hjI:(j:Int)<4:=by omega
      have hidx:=hX.out j hjt
      have hwb:2<=wB j/\wB j<=8/\frB (j+1)=frB j+wB j/\frB (j+1)<=16:=by
       have h4:j=0\/j=1\/j=2\/j=3:=(by omega);rcases h4 with rfl|rfl|rfl|rfl<;>decide
      have hpg:=Qa.mk (fun i (hi:i<d*wB j)=>posG_at (n:=d) (F:=0+f) (j:=j) hjt hi);rw[<-hrj.out] at hwb hpg hJ2;obtain⟨q,hq⟩: ∃q,q=wB j:=⟨_,rfl⟩;rw[<-hq] at hidx hwb hpg;obtain⟨N,hN⟩: ∃N,N=d*q:=⟨_,rfl⟩;have hNI:(d:Int)*(q:Int)=(N:Int):=(by rw[hN];push_cast;rfl);have hNd:d*r+N=d*(r+q):=(by rw[hN,Nat.mul_add]);have hN9:d*(r+q)<=d*16:=Nat.mul_le_mul_left d (by omega);have hNN:N<=128:=(by omega);rw[<-hN] at hpg;have hjT:=Qa.mk hjt;obtain⟨b1,b2,b3,b4⟩:=hwb;rw[b3] at b4;replace b3:=Qa.mk b3;have b0: ¬(q:Int)=0:=(by omega);have hNdT:=Qa.mk hNd;have hN9T:=Qa.mk hN9;clear hq hN hjt hj hNd hN9;gi_wp2_with fail;obtain⟨wp,rfl⟩: ∃wp:World,wp=wr:=⟨_,rfl⟩;gi_loopw [35] (fun x wr=> ∃i:Nat,x= .int .i64 i/\i<=N/\Qa ((Kd.int .i64).C wr (some ad) gs.length gs/\(Kd.int .i64).C wr (some ⟨1,0,none⟩) 4 Ji)/\Qa (J (16*f+(d*r+i)) wr)) (fun x _=>N-(intOf x).toNat)
      case atStart=>exact⟨0,rfl,by omega,hC2,⟨by rw[Nat.add_zero];exact hJ2.out⟩⟩
      case round=>
       obtain⟨i,rfl,hi,hC3,hJ3⟩:=hrel;clear hC2 hJ2;by_cases hit:i<N
       ·have hiI:(i:Int)<(N:Int):=by omega
        have hiq:(i:Int).tdiv (q:Int)=((i/q:Nat):Int):=(by rw[Int.ofNat_tdiv]);have hir:(i:Int).tmod (q:Int)=((i%q:Nat):Int):=(by rw[Int.ofNat_tmod]);have hm:16*f+(d*r+i)<128:=(by have:=hNdT.out;have:=hN9T.out;omega);obtain⟨fn,tmps,assign,body,hy,hR⟩:=HY.out _ wr.drew hm (hJd.out _ _ hJ3.out)
        have hpos:posL true gs (16*f+(d*r+i))=(f+i/q)*16+r+i%q:=by
         show posS gs 0 _=_
         rw[hPk.out _ (by have:=hNdT.out;have:=hN9T.out;omega),hpg.out i hit,Nat.zero_add]
        rw[hpos] at hy;have hql:i/q<=i:=Nat.div_le_self _ _;have hrl:i%q<=i:=Nat.mod_le _ _;obtain⟨a,ha⟩: ∃a,a=i/q:=⟨_,rfl⟩;obtain⟨b,hb⟩: ∃b,b=i%q:=⟨_,rfl⟩;rw[<-ha] at hiq hy hql;rw[<-hb] at hir hy hrl
        push_cast at hy
        have hR2:=Qa.mk hR;have hiT:=Qa.mk hit;have hql9:(a:Int)<=128/\(b:Int)<=128:=(by omega);have w1:IntKind.i64.wrap ((f:Int)+(a:Int))=(f:Int)+(a:Int):=IntWalk.i64_in _ (by omega);have w2:IntKind.i64.wrap (((f:Int)+(a:Int))*16)=((f:Int)+(a:Int))*16:=IntWalk.i64_in _ (by omega);have w3:IntKind.i64.wrap (((f:Int)+(a:Int))*16+(r:Int))=((f:Int)+(a:Int))*16+(r:Int):=IntWalk.i64_in _ (by omega);have w4:IntKind.i64.wrap (((f:Int)+(a:Int))*16+(r:Int)+(b:Int))=((f:Int)+(a:Int))*16+(r:Int)+(b:Int):=IntWalk.i64_in _ (by omega);have b0': ¬q=0:=(by omega);have w0:IntKind.i64.wrap (a:Int)=(a:Int):=IntWalk.i64_in _ (by omega);have w9:IntKind.i64.wrap (b:Int)=(b:Int):=IntWalk.i64_in _ (by omega);clear hR hit hi hm ha hb hpos hql hrl;gi_wp2_with fail;refine wpIn_region_any (by kernel_rfl) ?_
        change wpAnyIn _ _ _ _ _ _ _ _ _ (World.drew _)
        refine tf 0 (.func (.yield L) #[] #[]) hro ?_;refine tf 1 (.int .i64 f) hro ?_;refine tf 2 (.int .i64 i) hro ?_;refine tf 3 (.int .i64 q) hro ?_;refine tf 4 (.int .i64 a) hro ?_;refine tf 5 (.int .i64 (f+a)) hro ?_;refine tf 6 (.int .i64 ((f+a)*16)) hro ?_;refine tf 7 (.int .i64 r) hro ?_;refine tf 8 (.int .i64 ((f+a)*16+r)) hro ?_;refine tf 9 (.int .i64 i) hro ?_;refine tf 10 (.int .i64 q) hro ?_;refine tf 11 (.int .i64 b) hro ?_;refine tf 12 (.int .i64 ((f+a)*16+r+b)) hro ?_;refine wpAnyIn_ready (rs:=[13]) (by kernel_rfl) (by simp) ?_;refine AllReadyIn.cons rfl (fun K hK=> ?_) AllReadyIn.nil;gi_wp2_with fail;refine hR2.out.mono ?_;rintro e W3 ⟨rfl,hJ4,hk3⟩
        have hC4:=Qa.mk (And.intro (V9 (Kd.Qe hC3.out.1 (Below.refl _ _).drew) (fun g hg=>hk3 g (List.mem_cons_of_mem _ (HLs.out (by have:=hT.out;omega) g hg)))) (V9 (Kd.Qe hC3.out.2 (Below.refl _ _).drew) (fun g hg=>by
         obtain rfl:=List.mem_singleton.1 hg
         exact hk3 1 (by simp))))
        replace hJ4:=Qa.mk hJ4;clear hR2 hk3 hy;refine hK _ _ ?_;clear hK K
        try simp only[Act.put,List.setIfInBounds_toArray,List.set_cons_zero,List.set_cons_succ]
        refine tf 14 (.bool false) hro ?_;refine wpAnyIn_done (by kernel_rfl) ?_ _;gi_wp2;go_roundw
        case rel=>exact⟨i+1,by go_num,hiT.out,hC4,hJ4⟩
        case measure=>have:=hiT.out;simp[intOf];omega
       ·obtain rfl:i=N:=by omega
        have hJ4:Qa (J (16*f+d*(r+q)) wr):=⟨by rw[<-hNdT.out];exact hJ3.out⟩;clear hit hi hJ3;gi_wp2;go_roundw
        case rel=>exact⟨j+1,r+q,by go_num,by go_num,hjT.out,by omega,⟨b3.out.symm⟩,hC3,by rw[b3.out];exact hJ4⟩
        case measure=>have:=hjT.out;simp[intOf];omega
     ·obtain rfl:j=4:=by omega
      have hJ3:Qa (J (16*U8 gs (k+1)) wr):=⟨by rw[o1.out,show 16*(f+d)=16*f+d*frB 4 by simp[frB];omega];exact hJ2.out⟩;clear hjt hj;gi_wp2;go_roundw
      case rel=>exact⟨k+1,f+d,by go_num,by go_num,hT.out,hfd,⟨o1.out.symm⟩,hC2,hJ3⟩
      case measure=>have:=hT.out;simp[intOf];omega
   ·obtain rfl:k=gs.length:=by omega
    rw[hend.out] at hJ;gi_wp2;go_end0;exact⟨⟨_,rfl⟩,hJ.out⟩
end Bd

namespace Sca
attribute [local go_sem] Qi Qj Qk Ql Qg Qh
open Q15
open Runs Go.Shelf
open Q16 (Q6 Zc Yf)
open Sec (Qy Zv Dt)
attribute [local go_sem] Oper.semAt_some
theorem CB_same {A B:World} {ad:Option Addr} {n:Nat} {xs:List Bool} (h:Kd.bool.C A ad n xs) (hk: ∀g∈Zv ad,B.heap[g]? =A.heap[g]?):Kd.bool.C B ad n xs:=by
 obtain⟨r1,r2,r3⟩:=Kd.Xn (enc:=Value.bool) (h1:=fun _=>rfl) (d:=false) h;refine Kd.Z4 (d:=false) ⟨r1,r2,fun h0=> ?_⟩;obtain⟨a,rfl,hc⟩:=r3 h0;exact⟨a,rfl,fun j hj=>Dt (by rw[add_block];exact hk _ (by simp[Zv])) (hc j hj)⟩
def uix (us:List Bool) (k:Nat):List Nat:=(List.range k).filter fun i=>us.getD i false
def uN (us:List Bool):Nat:=(uix us us.length).length
def uAt (us:List Bool) (m:Nat):Nat:=(uix us us.length).getD m 0
def uBe (us:List Bool) (m:Nat):Int:=if m=0 then-1 else uAt us (m-1)
theorem Me (us:List Bool) (k:Nat):uix us (k+1)=if us.getD k false=true then uix us k++[k] else uix us k:=by
 unfold uix;rw[List.range_succ,List.filter_append];by_cases h:us.getD k false=true
 ·rw[if_pos h];simpa[List.getD_eq_getElem?_getD] using h
 ·rw[if_neg h];simpa[List.getD_eq_getElem?_getD] using h
theorem Qdd (us:List Bool) (k:Nat): ∀j,uix us k <+: uix us (k+j)
 |0=>List.prefix_refl _
 |j+1=>by
  refine(Qdd us k j).trans ?_;rw[<-Nat.add_assoc,Me]
  split
  ·exact List.prefix_append _ _
  ·exact List.prefix_refl _
theorem uix_at {us:List Bool} {k:Nat} (hk:k<us.length) (h:us.getD k false=true):(uix us k).length <uN us/\uAt us (uix us k).length =k:=by
 have hp:=Qdd us (k+1) (us.length-(k+1));rw[show k+1+(us.length-(k+1))=us.length by omega,Me,if_pos h] at hp;obtain⟨t,ht⟩:=hp;unfold uN uAt;rw[<-ht];simp[List.getD_eq_getElem?_getD,List.append_assoc]
theorem uix_len (us:List Bool) (k:Nat):(uix us k).length <=k:=by
 have:=List.length_filter_le (fun i=>us.getD i false) (List.range k);simpa[uix] using this
theorem Dl {us:List Bool} {m:Nat} (h:m<uN us):uAt us m<us.length/\us.getD (uAt us m) false=true:=by
 have hm:uAt us m∈uix us us.length:=by
  unfold uAt;rw[List.getD_eq_getElem?_getD,List.getElem?_eq_getElem h];exact List.getElem_mem _
 have:=List.mem_filter.1 hm;exact⟨List.mem_range.1 this.1,this.2⟩
theorem Mg (F:Fence) (n:Nat) (hF:F.fn 199) (hro:F.round=none) (hn:1<=n) (B1:Nat) (A:Option Addr) (ca:Nat) (us:List Bool) (h128:us.length<=128) (w:World) (hr:Kd.bool.C w A us.length us)
  (c1:w.cell? ⟨B1,0,none⟩=some (.slice A us.length ca)):
  Yg F n Tryz.prog 199 #[.pointer (some ⟨B1,0,none⟩)] (fun m=> #[.int .i64 (uAt us m),.int .i64 (uBe us m)]) (Qy (Zv A)) (uN us) w:=fun L J W hW hY h0 hJd=>by
 clear hJd;have d1:=cnx c1 hW;have HR:Qa (Kd.bool.C W A us.length us):=⟨Kd.Qe hr hW⟩;have HY:=Qa.mk hY;have hlI:(us.length:Int)<=128:=(by omega);clear hY c1 hr h128;refine callsIn_of_wp Tryz.func199 rfl hF ?_ hro;simp only[Tryz.ntmps199,List.size_toArray,List.length_cons,List.length_nil,Nat.reduceAdd,Nat.reduceSub,Array.replicate_succ,Array.replicate_zero,List.push_toArray,List.append_toArray,List.nil_append,List.cons_append];gi_wp2;gi_loopw [3,8] (fun x i wr=> ∃(k:Nat) (z:Int),i= .int .i64 k/\x= .int .i64 z/\k<=us.length/\Qa (z=uBe us (uix us k).length)/\Qa (Kd.bool.C wr A us.length us)/\Qa (J (uix us k).length wr)) (fun _ i _=>us.length-(intOf i).toNat)
 case atStart=>exact⟨0,-1,rfl,rfl,by omega,⟨rfl⟩,HR,⟨h0⟩⟩
 case round=>
  obtain⟨k,z,rfl,rfl,hk,hz,hC,hJ⟩:=hrel;clear d1;by_cases hlt:k<us.length
  ·have hkI:(k:Int)<(us.length:Int):=by omega
   obtain⟨ad,rfl,hcell⟩:=Y0 hC.out (Below.refl _ _) hlt;have hT:=Qa.mk hlt;have hS:=Me us k
   cases hu:us.getD k false with
   |false=>
    rw[hu] at hcell hS;have hS2:Qa (uix us (k+1)=uix us k):=⟨hS⟩;clear hS hu hlt;gi_wp2;go_roundw
    case rel=>exact⟨k+1,z,by go_num,rfl,hT.out,⟨by rw[hS2.out];exact hz.out⟩,hC,⟨by rw[hS2.out];exact hJ.out⟩⟩
    case measure=>have:=hT.out;simp[intOf];omega
   |true=>
    obtain⟨hm,hat⟩:=uix_at hlt hu;rw[hu] at hcell hS;rw[if_pos rfl] at hS;obtain⟨fn,tmps,assign,body,hy,hR⟩:=HY.out _ wr hm hJ.out;rw[hat,<-hz.out] at hy;have hS2:Qa ((uix us (k+1)).length =(uix us k).length +1):=⟨by rw[hS];simp⟩;have hb2:Qa (uBe us ((uix us k).length +1)=k):=⟨by unfold uBe;rw[if_neg (by omega),Nat.add_sub_cancel,hat]⟩;have hR2:=Qa.mk hR;clear hR hlt hS hu hm hat;gi_wp2;refine hR2.out.mono ?_;rintro e W3 ⟨rfl,hJ3,hk3⟩;have hC3:=Qa.mk (CB_same hC.out (fun g hg=>hk3 g hg));replace hJ3:=Qa.mk hJ3;clear hR2 hk3 hy;gi_wp2;go_roundw
    case rel=>exact⟨k+1,k,by go_num,rfl,hT.out,⟨by rw[hS2.out];exact hb2.out.symm⟩,hC3,⟨by rw[hS2.out];exact hJ3.out⟩⟩
    case measure=>have:=hT.out;simp[intOf];omega
  ·obtain rfl:k=us.length:=by omega
   gi_wp2;go_end0;exact⟨⟨_,rfl⟩,hJ.out⟩
theorem Mh (A:Option Addr) (n c:Nat) (w:World):
  Calls Tryz.prog 153 #[.slice A n c] w fun en w'=>en= .returned (.func (.func 199) #[] #[.pointer (some ⟨w.heap.size,0,none⟩)])/\w'=w.alloc (.cells #[.slice A n c] 23):=by
 go_enter Tryz.func153,Tryz.ntmps153;go_wp2;go_ret;exact⟨rfl,rfl⟩
end Sca

namespace Gn
attribute [local go_sem] Qi Qj Qk Ql Qg Qh
open Q15
open Runs Go.Shelf
open Sec (Qy Zv Dt V9 Vw)
open Sca (Y0)
attribute [local go_sem] Oper.semAt_some
def oneI (b:Bool):Int:=if b then 1 else 0
theorem Cq (b:Bool) (w:World):
  Calls Tryz.prog 85 #[.bool b] w fun e w'=>e= .returned (.int .i64 (oneI b))/\w'=w:=by
 cases b with
 |true=>
  go_enter Tryz.func85,Tryz.ntmps85;go_wp2;go_ret;exact⟨rfl,rfl⟩
 |false=>
  go_enter Tryz.func85,Tryz.ntmps85;go_wp2;go_ret;exact⟨rfl,rfl⟩
theorem Ot (A:Option Addr) (cap:Nat) (l:List Bool) (v:Bool) (w:World) (hr:Kd.bool.C w A l.length l) (hl:l.length<=1000000):
  Calls Tryz.prog 184 #[.slice A l.length cap,.bool v] w fun e w'=> ∃i:Int,e= .returned (.int .i64 i)/\decide (0<=i)=l.contains v/\Below w.heap.size w w':=by
 have HR:=Qa.mk hr;have hlI:(l.length:Int)<=1000000:=(by omega);clear hr hl;go_enter Tryz.func184,Tryz.ntmps184;go_wp2;go_loopw [8] (fun i wr=> ∃k:Nat,i= .int .i64 k/\k<=l.length/\Qa ((l.take k).contains v=false)/\Below w.heap.size w wr) (fun i _=>l.length-(intOf i).toNat)
 case atStart=>exact⟨0,rfl,by omega,⟨by simp⟩,Below.refl _ _⟩
 case round=>
  obtain⟨k,rfl,hk,ha,hb⟩:=hrel;by_cases hlt:k<l.length
  ·obtain⟨ad,rfl,hcell⟩:=Y0 HR.out hb hlt
   have hltI:(k:Int)<(l.length:Int):=(by omega);have hT:l.take (k+1)=l.take k++[l.getD k false]:=(by rw[List.take_succ_eq_append_getElem hlt,List.getD_eq_getElem?_getD,List.getElem?_eq_getElem hlt];rfl);have hm:l.getD k false∈l:=(by rw[List.getD_eq_getElem?_getD,List.getElem?_eq_getElem hlt];exact List.getElem_mem hlt);obtain⟨x,hx⟩: ∃x,x=l.getD k false:=⟨_,rfl⟩;rw[<-hx] at hcell hT hm;replace hT:=Qa.mk hT;replace hm:=Qa.mk hm;have hlt':=Qa.mk hlt;clear hx hlt;by_cases hv:v=x
   ·have hE:(v==x)=true:=by rw[hv];exact beq_self_eq_true _
    have hv':=Qa.mk hv;clear hv;go_wp2;go_ret;refine⟨_,rfl,?_,hb⟩;rw[decide_eq_true (by omega)];have:=hm.out;rw[<-hv'.out] at this;exact(List.contains_iff_mem.2 this).symm
   ·have hE:(v==x)=false:=by simpa using hv
    have hv':=Qa.mk hv;clear hv;go_wp2;go_roundw
    case rel=>exact⟨k+1,by go_num,hlt'.out,⟨by
     have h1:=ha.out;rw[hT.out]
     cases hc:(l.take k++[x]).contains v with
     |false=>rfl
     |true=>
      rcases List.mem_append.1 (List.contains_iff_mem.1 hc) with h|h
      ·rw[List.contains_iff_mem.2 h] at h1
       cases h1
      ·exact absurd (List.mem_singleton.1 h) hv'.out⟩,hb⟩
    case measure=>have:=hlt'.out;simp[intOf];omega
  ·obtain rfl:k=l.length:=by omega
   have h1:=ha.out;rw[List.take_length] at h1;replace h1:=Qa.mk h1;clear ha;go_wp2;go_ret;exact⟨-1,rfl,by rw[h1.out];rfl,hb⟩
theorem Pv (A:Option Addr) (cap:Nat) (l:List Bool) (v:Bool) (w:World) (hr:Kd.bool.C w A l.length l) (hl:l.length<=1000000):
  Calls Tryz.prog 139 #[.slice A l.length cap,.bool v] w fun e w'=>e= .returned (.bool (l.contains v))/\Below w.heap.size w w':=by
 have HI:=Qa.mk (Ot A cap l v w hr hl);obtain⟨C,hC⟩: ∃C,C=l.contains v:=⟨_,rfl⟩;rw[<-hC] at HI ⊢;clear hr hl hC;go_enter Tryz.func139,Tryz.ntmps139;go_wp2_with fail;refine HI.out.mono ?_;rintro e w' ⟨i,rfl,hi,hb⟩;have hi':=Qa.mk hi;clear hi;go_wp2;go_ret;exact⟨by rw[<-hi'.out];rfl,hb⟩
def midI (l:List Bool):Int:=if l.contains true=false then 0 else if l.contains false=false then 1 else 2
theorem midI_bd (l:List Bool):0<=midI l/\midI l<=2:=by
 unfold midI
 split
 ·decide
 ·split<;>decide
theorem M8 (A:Option Addr) (cap:Nat) (l:List Bool) (w:World) (hr:Kd.bool.C w A l.length l) (hl:l.length<=1000000):
  Calls Tryz.prog 87 #[.slice A l.length cap] w fun e w'=>e= .returned (.int .i64 (midI l))/\Below w.heap.size w w':=by
 have HC:=Qa.mk (fun(v:Bool) (W:World) (hb:Below w.heap.size w W)=>Pv A cap l v W (Kd.Qe hr hb) hl);have hb:=Below.refl w.heap.size w;have hm:midI l=if l.contains true=false then 0 else if l.contains false=false then 1 else 2:=rfl;obtain⟨M,hM⟩: ∃M,M=midI l:=⟨_,rfl⟩;have HT:=Qa.mk (HC.out true);have HF:=Qa.mk (HC.out false);rw[<-hM] at hm ⊢;obtain⟨T,hT⟩: ∃T,T=l.contains true:=⟨_,rfl⟩;obtain⟨F,hF⟩: ∃F,F=l.contains false:=⟨_,rfl⟩;rw[<-hT] at HT hm;rw[<-hF] at HF hm;replace hm:=Qa.mk hm;clear hr hl HC hM hT hF
 cases T with
 |false=>
  go_enter Tryz.func87,Tryz.ntmps87;go_wp2_with (first|(go_at_call 139;refine((HT.out _ hb)).mono ?_;rintro e w' ⟨rfl,hbn⟩;replace hb:=bnx hb hbn;clear hbn));go_ret;exact⟨by rw[hm.out];rfl,hb⟩
 |true=>
  cases F with
  |false=>
   go_enter Tryz.func87,Tryz.ntmps87;go_wp2_with fail;refine((HT.out _ hb)).mono ?_;rintro e w' ⟨rfl,hbn⟩;replace hb:=bnx hb hbn;clear hbn;go_wp2_with fail;refine((HF.out _ hb)).mono ?_;rintro e w' ⟨rfl,hbn⟩;replace hb:=bnx hb hbn;clear hbn;go_wp2;go_ret;exact⟨by rw[hm.out];rfl,hb⟩
  |true=>
   go_enter Tryz.func87,Tryz.ntmps87;go_wp2_with fail;refine((HT.out _ hb)).mono ?_;rintro e w' ⟨rfl,hbn⟩;replace hb:=bnx hb hbn;clear hbn;go_wp2_with fail;refine((HF.out _ hb)).mono ?_;rintro e w' ⟨rfl,hbn⟩;replace hb:=bnx hb hbn;clear hbn;go_wp2;go_ret;exact⟨by rw[hm.out];rfl,hb⟩
def stV (gs:List Int) (m:Nat):Int:=if(List.range gs.length).any (fun k=>decide ((gs.take k).sum =((m+1:Nat):Int)))=true then 1 else 0
theorem stV_bd (gs:List Int) (m:Nat):stV gs m=0\/stV gs m=1:=by
 unfold stV
 split
 ·exact .inr rfl
 ·exact .inl rfl
def Vy (gs:List Int) (k:Nat):Nat:=(gs.take k).sum.toNat
theorem Ff {gs:List Int} (h: ∀x∈gs,1<=x/\x<=128) {k:Nat} (hk:k<gs.length):((Vy gs (k+1):Nat):Int)=Vy gs k+rd gs k/\1<=rd gs k:=by
 have h1:=Vw (ws:=gs.take k) (fun x hx=>h x (List.mem_of_mem_take hx));have h2:=h _ (Qt gs k hk);have h3:(gs.take (k+1)).sum =(gs.take k).sum +rd gs k:=(by rw[Qx gs k hk,List.sum_append];simp);unfold Vy;omega
theorem Um {gs:List Int} (h: ∀x∈gs,1<=x/\x<=128) (k:Nat): ∀d,k+d<=gs.length->Vy gs k+d<=Vy gs (k+d)
 |0,_=>Nat.le_refl _
 |d+1,hd=>by
  have h1:=Um h k d (by omega);have h2:=Ff h (k:=k+d) (by omega)
  show Vy gs k+(d+1)<=Vy gs (k+d+1)
  omega
theorem Bv {gs:List Int} (h: ∀x∈gs,1<=x/\x<=128) (k:Nat):(gs.take k).sum =(Vy gs k:Nat):=by
 have h1:=Vw (ws:=gs.take k) (fun x hx=>h x (List.mem_of_mem_take hx));unfold Vy;omega
theorem stV_at {gs:List Int} (h: ∀x∈gs,1<=x/\x<=128) {k i:Nat} (hk:k<gs.length) (hi:(i:Int)<rd gs k) (hb:0<Vy gs k+i):stV gs (Vy gs k+i-1)=if i=0 then 1 else 0:=by
 unfold stV;by_cases h0:i=0
 ·rw[if_pos h0,if_pos]
  refine List.any_eq_true.2 ⟨k,List.mem_range.2 hk,decide_eq_true ?_⟩;rw[Bv h k];omega
 ·rw[if_neg h0,if_neg]
  intro h1;obtain⟨j,hj,h2⟩:=List.any_eq_true.1 h1;have hj:=List.mem_range.1 hj;have h2:=of_decide_eq_true h2;rw[Bv h j] at h2;have h3:=Ff h hk;rcases Nat.lt_or_ge k j with hkj|hkj
  ·have:=Um h (k+1) (j-(k+1)) (by omega)
   rw[show k+1+(j-(k+1))=j by omega] at this;omega
  ·have:=Um h j (k-j) (by omega)
   rw[show j+(k-j)=k by omega] at this;omega
def stN (gs:List Int):Nat:=Vy gs gs.length-1
theorem Wn (F:Fence) (n:Nat) (hF:F.fn 138) (hro:F.round=none) (hn:1<=n) (B1:Nat) (A:Option Addr) (ca:Nat) (gs:List Int) (h8: ∀x∈gs,1<=x/\x<=128) (hl:gs.length<=128) (w:World) (hr:(Kd.int .i64).C w A gs.length gs)
  (c1:w.cell? ⟨B1,0,none⟩=some (.slice A gs.length ca)) (Ls:List Nat) (hLs:0<gs.length-> ∀g∈Zv A,g∈Ls):
  Yg F n Tryz.prog 138 #[.pointer (some ⟨B1,0,none⟩)] (fun m=> #[.int .i64 (stV gs m)]) (Qy Ls) (stN gs) w:=fun L J W hW hY h0 hJd=>by
 clear hJd;have HLs:=Qa.mk hLs;clear hLs;have d1:=cnx c1 hW;have HR:Qa ((Kd.int .i64).C W A gs.length gs):=⟨Kd.Qe hr hW⟩;have HY:=Qa.mk hY;have H8:=Qa.mk h8;have hlI:(gs.length:Int)<=128:=(by omega);clear hY c1 hr hl h8;refine callsIn_of_wp Tryz.func138 rfl hF ?_ hro;simp only[Tryz.ntmps138,List.size_toArray,List.length_cons,List.length_nil,Nat.reduceAdd,Nat.reduceSub,Array.replicate_succ,Array.replicate_zero,List.push_toArray,List.append_toArray,List.nil_append,List.cons_append];gi_wp2;gi_loopw [9] (fun i wr=> ∃k:Nat,i= .int .i64 k/\k<=gs.length/\Qa ((Kd.int .i64).C wr A gs.length gs)/\Qa (J (Vy gs k-1) wr)) (fun i _=>gs.length-(intOf i).toNat)
 case atStart=>exact⟨0,rfl,by omega,HR,⟨by simpa[Vy] using h0⟩⟩
 case round=>
  obtain⟨k,rfl,hk,hC,hJ⟩:=hrel;clear d1;by_cases hlt:k<gs.length
  ·have hkI:(k:Int)<(gs.length:Int):=by omega
   obtain⟨ad,rfl,hcell⟩:=Qq hC.out (Below.refl _ _) hlt;obtain⟨o1,o2⟩:=Ff H8.out hlt;have o3:=(H8.out _ (Qt gs k hlt)).2;obtain⟨d,hd⟩: ∃d:Nat,(d:Int)=rd gs k:=⟨(rd gs k).toNat,by omega⟩;have hsv:=Qa.mk (fun(i:Nat) (hi:i<d) (hb:0<Vy gs k+i)=>stV_at H8.out hlt (i:=i) (by omega) hb);have hend:=Um H8.out (k+1) (gs.length-(k+1)) (by omega);rw[show k+1+(gs.length-(k+1))=gs.length by omega] at hend;have hk0:Qa (k=0->Vy gs k=0):=⟨fun h=>by subst h;simp[Vy]⟩;have hk1:=Um H8.out 0 k (by omega);rw[Nat.zero_add,show Vy gs 0=0 by simp[Vy]] at hk1;rw[<-hd] at hcell o1 o2 o3;obtain⟨o,ho⟩: ∃o,o=Vy gs k:=⟨_,rfl⟩;obtain⟨o',ho'⟩: ∃o',o'=Vy gs (k+1):=⟨_,rfl⟩;rw[<-ho] at hJ hsv o1 hk0 hk1;rw[<-ho'] at o1 hend;have hN:Qa (o+d<=stN gs+1):=⟨by unfold stN;omega⟩;have hoo:Qa (o'=o+d):=⟨by omega⟩;have hT:=Qa.mk hlt;replace ho':=Qa.mk ho';replace hk1:=Qa.mk hk1;have hdI:(d:Int)<=128:=o3;clear ho hlt hd hend o1 o2 o3;gi_wp2;obtain⟨wo,rfl⟩: ∃wo:World,wo=wr:=⟨_,rfl⟩;gi_loopw [15] (fun i wr=> ∃j:Nat,i= .int .i64 j/\j<=d/\Qa ((Kd.int .i64).C wr (some ad) gs.length gs)/\Qa (J (o+j-1) wr)) (fun i _=>d-(intOf i).toNat)
   case atStart=>exact⟨0,rfl,by omega,hC,hJ⟩
   case round=>
    obtain⟨j,rfl,hj,hC2,hJ2⟩:=hrel;clear hC hJ hcell;by_cases hjt:j<d
    ·have hjI:(j:Int)<(d:Int):=by omega
     have hjT:=Qa.mk hjt;by_cases hb0:0<o+j
     ·have hm:o+j-1<stN gs:=by have:=hN.out;omega
      obtain⟨fn,tmps,assign,body,hy,hR⟩:=HY.out _ wr hm hJ2.out;rw[hsv.out j hjt hb0] at hy;have hR2:=Qa.mk hR;have hnx:Qa (o+j-1+1=o+(j+1)-1):=⟨by omega⟩
      have hpos:decide (0<(k:Int)+(j:Int))=true:=decide_eq_true (by
       have:=hk0.out
       omega)
      clear hR hm hjt hb0;by_cases hj0:j=0
      ·rw[if_pos hj0] at hy
       have hj1:((j:Int)==0)=true:=(by rw[hj0];rfl);clear hj0;gi_wp2;refine hR2.out.mono ?_;rintro e W3 ⟨rfl,hJ3,hk3⟩;rw[hnx.out] at hJ3;have hC3:=Qa.mk (V9 hC2.out (fun g hg=>hk3 g (HLs.out (by have:=hT.out;omega) g hg)));replace hJ3:=Qa.mk hJ3;clear hR2 hk3 hy;gi_wp2;go_roundw
       case rel=>exact⟨j+1,by go_num,hjT.out,hC3,hJ3⟩
       case measure=>have:=hjT.out;simp[intOf];omega
      ·rw[if_neg hj0] at hy
       have hj1:((j:Int)==0)=false:=(by simpa using hj0);clear hj0;gi_wp2;refine hR2.out.mono ?_;rintro e W3 ⟨rfl,hJ3,hk3⟩;rw[hnx.out] at hJ3;have hC3:=Qa.mk (V9 hC2.out (fun g hg=>hk3 g (HLs.out (by have:=hT.out;omega) g hg)));replace hJ3:=Qa.mk hJ3;clear hR2 hk3 hy;gi_wp2;go_roundw
       case rel=>exact⟨j+1,by go_num,hjT.out,hC3,hJ3⟩
       case measure=>have:=hjT.out;simp[intOf];omega
     ·have hj1:((j:Int)==0)=true:=by rw[show j=0 by omega];rfl
      have hpos:decide (0<(k:Int)+(j:Int))=false:=decide_eq_false (by
       have:=hk1.out
       omega)
      have hJ3:Qa (J (o+(j+1)-1) wr):=⟨by rw[show o+(j+1)-1=o+j-1 by omega];exact hJ2.out⟩;clear hb0 hjt;gi_wp2;refine⟨fun f hf=>(by cases hf),?_⟩;gi_wp2;go_roundw
      case rel=>exact⟨j+1,by go_num,hjT.out,hC2,hJ3⟩
      case measure=>have:=hjT.out;simp[intOf];omega
    ·obtain rfl:j=d:=by omega
     have hJ3:Qa (J (Vy gs (k+1)-1) wr):=⟨by rw[<-ho'.out,hoo.out];exact hJ2.out⟩;clear hjt hj hsv;gi_wp2;go_roundw
     case rel=>exact⟨k+1,by go_num,hT.out,hC2,hJ3⟩
     case measure=>have:=hT.out;simp[intOf];omega
  ·obtain rfl:k=gs.length:=by omega
   gi_wp2;go_end0;exact⟨⟨_,rfl⟩,hJ.out⟩
end Gn

namespace Gn
attribute [local go_sem] Qi Qj Qk Ql Qg Qh
open Q15
open Q21 (Qb Qf)
open Bts
def strL (gs:List Int):List UInt8:=gs.map fun n=>UInt8.ofNat (48+n.toNat)
def strG (gs:List Int):ByteArray:=⟨(strL gs).toArray⟩
def Ky (gs:List Int):List Int:=gs.map fun n=>48+n
theorem Qdv (gs:List Int) (h8: ∀x∈gs,1<=x/\x<=8) (a:Option Addr) (p:Nat) (W:World) (hC:(Kd.int .u8).C W a (Ky gs).length (Ky gs)):
  (convert 107 9 (.slice a (Ky gs).length p)).run Tryz.prog W= .ok (.string (strG gs)) W:=by
 obtain⟨r1,r2,r3⟩:=Kd.Xn (enc:=Value.int .u8) (h1:=fun _=>rfl) (d:=(0:Int)) hC;have hl:(Ky gs).length =(strL gs).length :=(by simp[Ky,strL]);by_cases h0:0<(Ky gs).length
 ·obtain⟨ad,rfl,hc⟩:=r3 h0
  rw[hl];refine run_convert_bytes_back (P:=Tryz.prog) W 107 9 5 ad p (strL gs) Tryz.underlying107 Tryz.underlying5 Tryz.underlying9 (fun j hj=> ?_);rw[hc j (by omega)];have hg:j<gs.length:=(by simpa[strL] using hj);have hb:=h8 _ (List.getElem_mem hg);simp only[strL,Ky,List.getElem_map,List.getD_eq_getElem?_getD,List.getElem?_map,List.getElem?_eq_getElem hg,Option.map_some,Option.getD_some,UInt8.toNat_ofNat']
  congr 2
  omega
 ·have hn:gs=[]:=by
   cases gs with
   |nil=>rfl
   |cons a b=>simp[Ky] at h0
  subst hn
  cases a with
  |none=>exact run_convert_bytes_nil (P:=Tryz.prog) (w:=W) 107 5 Tryz.underlying107 Tryz.underlying5 0 p 9 Tryz.underlying9
  |some ad=>exact run_convert_bytes_back (P:=Tryz.prog) W 107 9 5 ad p [] Tryz.underlying107 Tryz.underlying5 Tryz.underlying9 (fun j hj=>by simp at hj)
theorem Uk (sh:Bool) (A:Option Addr) (cap:Nat) (gs:List Int) (w:World) (hr:(Kd.int .i64).C w A gs.length gs) (h8: ∀x∈gs,1<=x/\x<=8) (hl:gs.length<=8):
  Calls Tryz.prog 66 #[.bool sh,.slice A gs.length cap] w fun e w'=>e= .returned (.agg #[.bool sh,.string (strG gs)])/\Below w.heap.size w w':=by
 obtain⟨W0,hW0⟩: ∃W0,W0=w.alloc (.cells #[.bool false,.string ⟨#[]⟩] 86):=⟨_,rfl⟩;have hb0:Below w.heap.size w W0:=(by rw[hW0];exact(Below.refl _ _).alloc (Nat.le_refl _) _);have HR:=Qa.mk (Kd.Qe hr hb0);have hB0:W0.heap[w.heap.size]? =some (.cells #[.bool false,.string ⟨#[]⟩] 86 (0,0)):=(by rw[hW0];exact heap_alloc_new _ _);have H8:=Qa.mk h8;have hlI:(gs.length:Int)<=8:=(by omega);have hu:=Tryz.underlying86;obtain⟨S,hS⟩: ∃S,S=strG gs:=⟨_,rfl⟩;rw[<-hS];replace hS:=Qa.mk hS;clear hr h8 hl;go_enter Tryz.func66,Tryz.ntmps66;go_wp2;rw[<-hW0];clear hW0;go_loopw [5,10] (fun o i wr=> ∃k:Nat,i= .int .i64 k/\k<=gs.length/\Qa ((Kd.int .u8).R 5 wr W0.heap.size (fun _=>True) o ((Ky gs).take k))/\Below W0.heap.size W0 wr) (fun _ i _=>gs.length-(intOf i).toNat)
 case atStart=>exact⟨0,rfl,by omega,⟨Kd.Xd _ _ _ _ _⟩,Below.refl _ _⟩
 case round=>
  obtain⟨k,rfl,hk,ho,hb⟩:=hrel;by_cases hlt:k<gs.length
  ·obtain⟨ad,rfl,hcell⟩:=Qq HR.out hb hlt
   have hltI:(k:Int)<(gs.length:Int):=(by omega);obtain⟨q1,q2⟩:=H8.out _ (Qt gs k hlt)
   have hT:(Ky gs).take (k+1)=(Ky gs).take k++[48+rd gs k]:=by
    unfold Ky;rw[<-List.map_take,<-List.map_take,Qx gs k hlt,List.map_append];rfl
   have hYl:((Ky gs).take k).length <=8:=(by rw[List.length_take];omega);obtain⟨Y,hY⟩: ∃Y,Y=(Ky gs).take k:=⟨_,rfl⟩;rw[<-hY] at ho hT hYl;obtain⟨x,hx⟩: ∃x,x=rd gs k:=⟨_,rfl⟩;rw[<-hx] at hcell q1 q2 hT;replace hT:=Qa.mk hT;have hlt':=Qa.mk hlt
   have f0:bits BinOp.and IntKind.i64 x 63=x:=by
    have:x=1\/x=2\/x=3\/x=4\/x=5\/x=6\/x=7\/x=8:=(by omega);rcases this with rfl|rfl|rfl|rfl|rfl|rfl|rfl|rfl<;>decide+kernel
   have f1:(48+x)%256=48+x:=(by omega);clear hY hx hlt;go_wp2_with (first|(at_builtin;refine Kd.Zb (Kd.int .u8) (w0:=W0) W0.heap.size rfl (.tmp 14) (.tmp 19) 107 5 (.int .u8 0) 1 rfl Tryz.underlying107 Bi rfl (by decide) (by omega) u5 Y (48+x) [.int .u8 (48+x)] (fun _=>True) (fun _=>False) rfl rfl rfl (fun _ hk=>hk.elim) (fun _ _=>trivial) ho.out hb hb.size (by omega) ?_;intro v1 wA hoA hbA hgA hatA;have HOA:=Qa.mk hoA;have HBA:=Qa.mk hbA;clear hoA hbA hgA hatA));go_roundw
   case rel=>exact⟨k+1,by go_num,hlt'.out,⟨by rw[hT.out];exact HOA.out⟩,HBA.out⟩
   case measure=>have:=hlt'.out;simp[intOf];omega
  ·obtain rfl:k=gs.length:=by omega
   have hR:=ho.out;rw[List.take_of_length_le (by simp[Ky])] at hR;obtain⟨a5,p5,rfl,hbd,hC⟩:=Kd.Qu hR;have hcv:=Qdv gs H8.out a5 p5 wr hC;have hB:=(hb.block w.heap.size (Qp hB0)).trans hB0;have z4:wr.cell? ⟨w.heap.size,0,none⟩=some (.bool false):=(by rw[Qb hB];rfl);have y4:=Qf hB 0;have z5:wr.cell? ⟨w.heap.size,1,none⟩=some (.string ⟨#[]⟩):=(by rw[Qb hB];rfl);have y5:=Qf hB 1;have hbw:=hb0.trans (hb.mono hb0.size);rw[<-hS.out] at hcv;have hlen:(Ky gs).length =gs.length:=(by simp[Ky]);rw[hlen] at hcv;rw[hlen];replace hB:=Qa.mk hB;clear hR ho hbd hC hS hlen H8 hlt hk;go_wp2_with fail
   (try simp only[Exit.inBlock,Exit.then]);refine bodyPost_ret (Su rfl (.cell w.heap.size 86 #[.bool sh,.string S] (0,0) _ rfl (Q3 (Q3 hB.out 0 _) 1 _) hu rfl (by kernel_rfl) .nil)) rfl ?_
   exact⟨rfl,(hbw.setCell (p:=⟨w.heap.size,0,none⟩) (Nat.le_refl _) _).setCell (p:=⟨w.heap.size,1,none⟩) (Nat.le_refl _) _⟩
end Gn

namespace Sca
attribute [local go_sem] Qi Qj Qk Ql Qg Qh
open Q15
open Runs Go.Shelf
open Q16 (Q6 Zc Yf)
open Q21 (Qb Qf)
open Bts
open Sec
attribute [local go_sem] Oper.semAt_some
def scT (ss:List Int) (us:List Bool):Nat->Int
 |0=>0
 |m+1=>scT ss us m+(if m=0 then 7 else U1 (rd ss (uAt us m)-rd ss (uAt us (m-1))))
def Yb (ss:List Int) (us:List Bool):Int:=scT ss us (uN us)
theorem Nj {ss:List Int} {us:List Bool} (h:scE ss us=0): ∀x∈ss,0<=x/\x<=95:=fun x hx=>by
 unfold scE at h
 split at h
 ·rename_i h1
  have:=List.all_eq_true.1 h1 x hx;simpa[isS] using this
 ·omega
theorem uN_le (us:List Bool):uN us<=us.length:=uix_len us us.length
theorem Sy {ss:List Int} {us:List Bool} (hl:ss.length=us.length) (h: ∀x∈ss,0<=x/\x<=95): ∀m,m<=uN us->0<=scT ss us m/\scT ss us m<=15*m
 |0,_=>by simp[scT]
 |m+1,hm=>by
  have h1:=Sy hl h m (by omega);have h2:=(Dl (us:=us) (m:=m) (by omega)).1;have h3:=h _ (Qt ss (uAt us m) (by omega));unfold scT
  split
  ·push_cast;omega
  ·have h4:=(Dl (us:=us) (m:=m-1) (by omega)).1
   have h5:=h _ (Qt ss (uAt us (m-1)) (by omega));have h6:=Dx (d:=rd ss (uAt us m)-rd ss (uAt us (m-1))) (by omega) (by omega)
   push_cast;omega
theorem Nw {w:World} {A:Option Addr} {n:Nat} {xs:List Bool} (h:Kd.bool.C w A n xs) (h0:0<xs.length): ∀g∈Zv A,g<w.heap.size:=fun g hg=>by
 obtain⟨r1,r2,r3⟩:=Kd.Xn (enc:=Value.bool) (h1:=fun _=>rfl) (d:=false) h;obtain⟨a,rfl,hc⟩:=r3 (by omega);have:=World.block_lt_of_cell? _ _ (hc 0 (by omega));rw[add_block] at this;rw[List.mem_singleton.1 hg];exact this
theorem Qep (A B:Option Addr) (c1 c2:Nat) (ss:List Int) (us:List Bool) (w:World) (hr:(Kd.int .i64).C w A ss.length ss) (hr2:Kd.bool.C w B us.length us) (hl:ss.length=us.length) (h128:us.length<=128) (he:scE ss us≠0):
  Calls Tryz.prog 114 #[.slice A ss.length c1,.slice B us.length c2] w fun e w'=>e= .returned (.tuple #[.int .i64 0,.int .i64 (scE ss us)])/\Below w.heap.size w w':=by
 have HC:=Qa.mk (fun(W:World) (hb:Below w.heap.size w W)=>Tf A B c1 c2 ss us W (Kd.Qe hr hb) (Kd.Qe hr2 hb) hl h128);have hb1:=(Below.refl w.heap.size w).alloc (Nat.le_refl _) (.cells #[.slice A ss.length c1] 22);obtain⟨E,hE⟩: ∃E,E=scE ss us:=⟨_,rfl⟩;rw[<-hE] at he HC ⊢;have hne:(E != 0)=true:=(by simpa using he);clear hr hr2 he hE hl h128;go_enter Tryz.func114,Tryz.ntmps114;go_wp2_with (first|(go_at_call 169;refine(HC.out _ hb1).mono ?_;rintro e w' ⟨rfl,hbn⟩;have hb:=bnx hb1 hbn;clear hbn hb1));go_ret2;exact⟨rfl,hb⟩
theorem Ni (A B:Option Addr) (c1 c2:Nat) (ss:List Int) (us:List Bool) (w:World) (hr:(Kd.int .i64).C w A ss.length ss) (hr2:Kd.bool.C w B us.length us) (hl:ss.length=us.length) (h128:us.length<=128) (h0:0<us.length) (he:scE ss us=0):
  Calls Tryz.prog 114 #[.slice A ss.length c1,.slice B us.length c2] w fun e w'=>e= .returned (.tuple #[.int .i64 (Yb ss us),.int .i64 0])/\Below w.heap.size w w':=by
 have HC:=Qa.mk (fun(W:World) (hb:Below w.heap.size w W)=>Tf A B c1 c2 ss us W (Kd.Qe hr hb) (Kd.Qe hr2 hb) hl h128);rw[he] at HC;have HR:=Qa.mk hr;have HR2:=Qa.mk hr2;have HG:=Qa.mk (Nw hr2 h0);have HS:=Qa.mk (Nj he);have HL:=Qa.mk hl;have H128:=Qa.mk h128;have hmo:Tryz.prog.follows .mixedOrders =true:=(by kernel_rfl);clear hr hr2 he hl h128 h0;refine(callsIn_wide (n:=3)).1 ?_;refine callsIn_of_wp_marks Tryz.func114 rfl trivial ?_ rfl;simp only[Tryz.ntmps114,List.size_toArray,List.length_cons,List.length_nil,Nat.reduceAdd,Nat.reduceSub,Array.replicate_succ,Array.replicate_zero,List.push_toArray,List.append_toArray,List.nil_append,List.cons_append];gi_wp2_with fail;obtain⟨W0,hW0⟩: ∃W0,W0=w.alloc (.cells #[.slice A ss.length c1] 22):=⟨_,rfl⟩;have hR0:=(Rws.start w).alloc #[.slice A ss.length c1] 22;simp only[World.size_alloc,List.nil_append,List.cons_append] at hR0;rw[<-hW0] at hR0 ⊢;clear hW0;refine⟨trivial,(callsIn_wide.2 (HC.out W0 hR0.below)).mono ?_⟩;rintro en W1 ⟨rfl,hb1⟩;have hR1:=hR0.step hb1;obtain⟨g7,hg7⟩: ∃g7,g7=W1.heap.size:=⟨_,rfl⟩;have hg7w:w.heap.size<=g7:=(by rw[hg7];exact hR1.below.size);have hR2:=hR1.alloc #[.int .i64 0] 3;simp only[World.size_alloc,List.nil_append,List.cons_append] at hR2;rw[<-hg7] at hR2;clear hR0 hb1;gi_wp2_with fail;rw[<-hg7];obtain⟨W2,hW2⟩: ∃W2,W2=W1.alloc (.cells #[.int .i64 0] 3):=⟨_,rfl⟩;have hs2:W2.heap.size=g7+1:=(by rw[hW2,hg7];simp);rw[<-hW2] at hR2 ⊢;clear hW2 hR1 hg7;refine⟨trivial,(callsIn_wide.2 (Mh B us.length c2 W2)).mono ?_⟩;rintro en W3 ⟨rfl,hW3⟩;have hs3:W3.heap.size=g7+1+1:=(by rw[hW3];simp[hs2]);have hR3:=hR2.alloc #[.slice B us.length c2] 23;simp only[World.size_alloc,List.nil_append,List.cons_append] at hR3;rw[<-hW3,hs2] at hR3;rw[hs2];have b8:W3.cell? ⟨g7+1,0,none⟩=some (.slice B us.length c2):=(by rw[Qb (hR3.blk ⟨(g7+1), #[.slice B us.length c2],23⟩ (by simp)).1];rfl);have HB3:=Qa.mk (Kd.Qe HR2.out hR3.below);replace hs3:=Qa.mk hs3;replace hR3:=Qa.mk hR3;clear hW3 hR2 hs2;gi_wp2_with fail
 refine Xw rfl (by omega) (gf:=199) (lb:= #[.pointer (some ⟨g7+1,0,none⟩)]) rfl trivial (enters_of Tryz.func199 (by kernel_rfl) rfl)
  (Mg Fence.wide _ trivial rfl (by omega) (g7+1) B c2 us H128.out W3 HB3.out b8)
  (fun h k=>h.trans k) ?keep (Below.refl _ _) (fun _=>rfl) (fun j W=>Rws w W [] [⟨w.heap.size, #[.slice A ss.length c1],22⟩,⟨g7, #[.int .i64 (scT ss us j)],3⟩,⟨(g7+1), #[.slice B us.length c2],23⟩]) ?own ?start ?round ?done
 case keep=>exact Qy.putObj (N:=W3.heap.size) (fun g hg=>by have:=HG.out g hg;have:=hs3.out;omega)
 case own=>exact fun j W W' row h hg hrow=>Rws.Jo h hg (fun r e=>⟨by have:=(hrow r e).1;have:=hs3.out;omega,(hrow r e).2⟩)
 case start=>exact hR3.out
 case round=>
  rintro L j W hRw hj;obtain⟨hi1,-⟩:=Dl hj;have hbd:=Sy HL.out HS.out j (by omega);have hj9:j<=128:=(by have:=uN_le us;have:=H128.out;omega);have hst:scT ss us (j+1)=scT ss us j+(if j=0 then 7 else U1 (rd ss (uAt us j)-rd ss (uAt us (j-1)))):=rfl;obtain⟨sn,hsn⟩: ∃sn,sn=scT ss us (j+1):=⟨_,rfl⟩;rw[<-hsn] at hst;replace hsn:=Qa.mk hsn;rcases j with _|j
  ·have hu0:uBe us 0= -1:=rfl
   rw[hu0];rw[if_pos rfl,show scT ss us 0=0 from rfl] at hst;rw[show scT ss us 0=0 from rfl] at hRw;obtain⟨o,ho⟩: ∃o:Nat,o=uAt us 0:=⟨_,rfl⟩;rw[<-ho];clear ho hbd hj hi1 hu0 hj9;gi_wp2;refine⟨(KeepsOthers.refl W).from _,Qy.refl _ _,fun Z=>Rws w Z [] [⟨w.heap.size, #[.slice A ss.length c1],22⟩,⟨g7, #[.int .i64 (0)],3⟩,⟨(g7+1), #[.slice B us.length c2],23⟩],hRw,fun _ Z Z' row h hg hrow=>Rws.Jo h hg (fun r e=>⟨by have:=(hrow r e).1;have:=hs3.out;omega,(hrow r e).2⟩),?_⟩;clear hRw;rintro Z hRw;have z7:Z.cell? ⟨g7,0,none⟩=some (.int .i64 0):=(by rw[Qb (hRw.blk ⟨g7, #[.int .i64 (0)],3⟩ (by simp)).1];rfl);have y7:=Qf (hRw.blk ⟨g7, #[.int .i64 (0)],3⟩ (by simp)).1 0;have hfin:=Rws.set (G1:=[⟨w.heap.size, #[.slice A ss.length c1],22⟩]) (G2:=[⟨(g7+1), #[.slice B us.length c2],23⟩]) (b:=⟨g7, #[.int .i64 (0)],3⟩) hRw 0 (.int .i64 7);simp only[List.nil_append,List.cons_append,List.setIfInBounds_toArray,List.set_cons_zero] at hfin;have hst':Qa (sn=7):=⟨by omega⟩;have hK5:=Qa.mk (KeepsOthers.setCell Z ⟨g7,0,none⟩ (.int .i64 7));replace hfin:=Qa.mk hfin;clear hst hRw;gi_wp2;exact⟨hK5.out.from _,Qy.set HG.out (Qy.refl _ _) (by exact hg7w) _,by show Rws w _ [] [⟨w.heap.size, #[.slice A ss.length c1],22⟩,⟨g7, #[.int .i64 (scT ss us (0+1))],3⟩,⟨(g7+1), #[.slice B us.length c2],23⟩];rw[<-hsn.out,hst'.out];exact hfin.out⟩
  ·obtain⟨hi2,-⟩:=Dl (us:=us) (m:=j) (by omega)
   have hu1:uBe us (j+1)=(uAt us j:Nat):=rfl;rw[hu1];rw[if_neg (by omega),Nat.add_sub_cancel] at hst;rw[<-HL.out] at hi1 hi2;have v1:=HS.out _ (Qt ss (uAt us (j+1)) hi1);have v2:=HS.out _ (Qt ss (uAt us j) hi2);obtain⟨ad,rfl,q1⟩:=Qq HR.out hRw.below hi1;obtain⟨ad',had,q2⟩:=Qq HR.out hRw.below hi2;cases had;obtain⟨o,ho⟩: ∃o:Nat,o=uAt us (j+1):=⟨_,rfl⟩;obtain⟨p,hp⟩: ∃p:Nat,p=uAt us j:=⟨_,rfl⟩;rw[<-ho] at hi1 q1 v1 hst ⊢;rw[<-hp] at hi2 q2 v2 hst ⊢;obtain⟨x,hx⟩: ∃x,x=rd ss (o:Nat):=⟨_,rfl⟩;obtain⟨y,hy⟩: ∃y,y=rd ss (p:Nat):=⟨_,rfl⟩;rw[<-hx] at q1 v1 hst;rw[<-hy] at q2 v2 hst;obtain⟨sm,hsm⟩: ∃sm,sm=scT ss us (j+1):=⟨_,rfl⟩;rw[<-hsm] at hst hbd hRw;have hlb:=Dx (d:=x-y) (by omega) (by omega);have hLn:=Qa.mk (fun(W:World)=>U2 (x-y) W (by omega) (by omega));obtain⟨ln,hln⟩: ∃ln,ln=U1 (x-y):=⟨_,rfl⟩;rw[<-hln] at hst hlb hLn;have hI1:IntKind.i64.wrap (x-y)=x-y:=IntWalk.i64_in _ (by omega);have hsb:0<=sm/\sm<=2000000:=(by omega);subst hst;have hI2:IntKind.i64.wrap (sm+ln)=sm+ln:=IntWalk.i64_in _ (by omega);have hssI:(o:Int)<(ss.length:Int)/\(p:Int)<(ss.length:Int):=by omega
   have hq1:Qa (∀Z,Below w.heap.size w Z->Z.cell? (ad.add o)=some (.int .i64 x)):=⟨fun Z hb=>by
    obtain⟨ad2,e,q⟩:=Qq HR.out hb hi1;cases e;rw[<-hx] at q
    exact q⟩
   have hq2:Qa (∀Z,Below w.heap.size w Z->Z.cell? (ad.add p)=some (.int .i64 y)):=⟨fun Z hb=>by
    obtain⟨ad2,e,q⟩:=Qq HR.out hb hi2;cases e;rw[<-hy] at q
    exact q⟩
   have ho1:decide ((p:Int)<0)=false:=decide_eq_false (by omega);clear ho hp hbd hj hi1 hi2 hj9 hu1 hx hy hln hsm q1 q2 v1 v2;gi_wp2;refine⟨(KeepsOthers.refl W).from _,Qy.refl _ _,fun Z=>Rws w Z [] [⟨w.heap.size, #[.slice (some ad) ss.length c1],22⟩,⟨g7, #[.int .i64 (sm)],3⟩,⟨(g7+1), #[.slice B us.length c2],23⟩],hRw,fun _ Z Z' row h hg hrow=>Rws.Jo h hg (fun r e=>⟨by have:=(hrow r e).1;have:=hs3.out;omega,(hrow r e).2⟩),?_⟩;clear hRw;rintro Z hRw;have z2:Z.cell? ⟨w.heap.size,0,none⟩=some (.slice (some ad) ss.length c1):=(by rw[Qb (hRw.blk ⟨w.heap.size, #[.slice (some ad) ss.length c1],22⟩ (by simp)).1];rfl);have z7:Z.cell? ⟨g7,0,none⟩=some (.int .i64 sm):=(by rw[Qb (hRw.blk ⟨g7, #[.int .i64 (sm)],3⟩ (by simp)).1];rfl);have e1:=hq1.out _ hRw.below;have e2:=hq2.out _ hRw.below;replace hRw:=Qa.mk hRw;gi_wp2_with fail;refine Held.Zm (fun W'=>W'.cell? ⟨w.heap.size,0,none⟩=some (.slice (some ad) ss.length c1)/\W'.cell? ⟨g7,0,none⟩=some (.int .i64 sm)/\W'.cell? (ad.add o)=some (.int .i64 x)/\W'.cell? (ad.add p)=some (.int .i64 y)/\Below Z.heap.size Z W') [12] hmo (by kernel_rfl) (fun⟨_,_,h⟩=>h) ⟨z2,z7,e1,e2,(Below.refl _ _).drew⟩ (fun hHeld=> ?_);obtain⟨ZD,hZD⟩: ∃ZD,ZD=Z.drew:=⟨_,rfl⟩;rw[<-hZD] at hHeld ⊢;clear hZD
   (refine Tk.tl 0 (.int .i64 sm) hHeld ?_)
   (refine Tk.tl 1 (.slice (some ad) ss.length c1) hHeld ?_)
   (refine Tk.tl 2 (.int .i64 o) hHeld ?_)
   (refine Tk.tl 3 (.pointer (some (ad.add o))) hHeld ?_)
   (refine Tk.tl 4 (.int .i64 x) hHeld ?_)
   (refine Tk.tl 5 (.slice (some ad) ss.length c1) hHeld ?_)
   (refine Tk.tl 6 (.int .i64 p) hHeld ?_)
   (refine Tk.tl 7 (.pointer (some (ad.add p))) hHeld ?_)
   (refine Tk.tl 8 (.int .i64 y) hHeld ?_)
   (refine Tk.tl 9 (.int .i64 (x-y)) hHeld ?_)
   (refine Qd (rs:=[10]) (by kernel_rfl) (by simp) ?_;refine Qc.cons rfl (by decide) (fun K hK=> ?_) Qc.nil)
   go_simp;refine(hLn.out _).mono ?_;rintro en w1 ⟨rfl,hw1⟩;rw[hw1];clear hw1;go_wp2_with fail;refine hK.out _ _ hHeld (fun hHeld=> ?_);clear hK K
   try simp only[Act.put,Tk.z1,Tk.z2,Tk.z3,Tk.z4,Tk.z5,Tk.z6]
   (refine Tk.tl 11 (.int .i64 (sm+ln)) hHeld ?_)
   have hRs:=hRw.out.step hHeld.2.2.2.2;have G7:=(hRs.blk ⟨g7, #[.int .i64 (sm)],3⟩ (by simp)).1;have y7:=Qf G7 0;have z7':=hHeld.2.1;have hRn:=Rws.set (G1:=[⟨w.heap.size, #[.slice (some ad) ss.length c1],22⟩]) (G2:=[⟨(g7+1), #[.slice B us.length c2],23⟩]) (b:=⟨g7, #[.int .i64 (sm)],3⟩) hRs 0 (.int .i64 (sm+ln));simp only[List.setIfInBounds_toArray,List.set_cons_zero,List.nil_append,List.cons_append] at hRn;have hK5:KeepsOthers Z (ZD.setCell ⟨g7,0,none⟩ (.int .i64 (sm+ln))):=(Zr hHeld.2.2.2.2).trans (KeepsOthers.setCell _ ⟨g7,0,none⟩ (.int .i64 (sm+ln)));have hkl:Qy (Zv B) Z (ZD.setCell ⟨g7,0,none⟩ (.int .i64 (sm+ln))):=Qy.set HG.out (Qy.step HG.out hRw.out.below.size hHeld.2.2.2.2) (by exact hg7w) _;obtain⟨wn,hwn⟩: ∃wn,wn=ZD.setCell ⟨g7,0,none⟩ (.int .i64 (sm+ln)):=⟨_,rfl⟩;rw[<-hwn] at hRn hK5 hkl;replace hRn:=Qa.mk hRn;replace hK5:=Qa.mk hK5;replace hkl:=Qa.mk hkl;replace hwn:=Qa.mk hwn;clear hRs G7
   (refine Qd (rs:=[12]) (by kernel_rfl) (by simp) ?_;refine Qc.Zp rfl (by decide) (fun K hK=> ?_) Qc.nil)
   go_simp;go_wp2_with fail;refine hK.out _ _ ?_;clear hK K
   try simp only[Act.put,Tk.z1,Tk.z2,Tk.z3,Tk.z4,Tk.z5,Tk.z6]
   refine Qo (by kernel_rfl) ?_ _;rw[<-hwn.out];clear hHeld hwn z2 z7 e1 e2 z7' y7;gi_wp2;exact⟨hK5.out.from _,hkl.out,by show Rws w _ [] [⟨w.heap.size, #[.slice (some ad) ss.length c1],22⟩,⟨g7, #[.int .i64 (scT ss us (j+1+1))],3⟩,⟨(g7+1), #[.slice B us.length c2],23⟩];rw[<-hsn.out];exact hRn.out⟩
 case done=>
  rintro D W hD hRw hDf;have z7:W.cell? ⟨g7,0,none⟩=some (.int .i64 (scT ss us (uN us))):=(by rw[Qb (hRw.blk ⟨g7, #[.int .i64 (scT ss us (uN us))],3⟩ (by simp)).1];rfl);have hq:=hRw.below;have hCS:Qa (Yb ss us=scT ss us (uN us)):=⟨rfl⟩;obtain⟨tt,htt⟩: ∃tt,tt=scT ss us (uN us):=⟨_,rfl⟩;rw[<-htt] at z7 hCS;have hbe:=Qa.mk (Rws.Jo hRw (grownBy_putObj' W D (.deferred none)) (fun r e=>by cases e;exact⟨by have:=hs3.out;omega,_,hDf,rfl⟩)).below;clear htt hRw hq;gi_wp2;refine⟨by simp,.inl ⟨_,_,rfl,run_takeDeferred hDf,?_⟩⟩;exact⟨.tuple #[.int .i64 tt,.int .i64 0],by simp[results,Tryz.f114,go_sem],by rw[hCS.out],hbe.out⟩
end Sca

namespace Sec
attribute [local go_sem] Qi Qj Qk Ql Qg Qh
open Q15
open Runs Go.Shelf
open Q16 (Q6 Zc Yf)
open Q21 (Qb Qf)
open Bts
open Bk
attribute [local go_sem] Oper.semAt_some
theorem info_row:(Tryz.prog.info? 148).map (fun i=>(i.zero,i.size,i.bytes))=some (some (.agg (List.replicate 8 (.int .i64 0)).toArray),8,64):=by kernel_rfl
theorem Qca (A B:Option Addr) (c1 c2:Nat) (ws l:List Int) (w:World) (hL:Xp w) (hr:(Kd.int .i64).C w A ws.length ws) (hr2:(Kd.int .i64).C w B l.length l) (hcap:l.length<=c2) (hok:Ok ws l) (h0:0<ws.length):
  Calls Tryz.prog 141 #[.slice A ws.length c1,.slice B l.length c2] w fun e w'=> ∃v,e= .returned v/\w'.ownsRow w.heap.size 148 8 v ws.length (Vb ws l ws.length)/\Below w.heap.size w w':=by
 have HO:=Qa.mk hok;have HR:=Qa.mk hr;have HR2:=Qa.mk hr2;have HL:=Qa.mk hL;have HC:=Qa.mk hcap
 have hBs:Qa (ws≠[]-> ∃bd,B=some bd):=⟨fun h=>by
  have h1:=Vw hok.wid;have h2:=hok.sum;have h3:0<ws.length:=List.length_pos_iff.2 h;obtain⟨bd,e,_⟩:=Qq hr2 (Below.refl _ _) (k:=0) (by omega)
  exact⟨bd,e⟩⟩
 have HG:Qa (∀g∈(w.heap.size+1)::(w.heap.size+1+1)::Zv A,g<w.heap.size+1+1+1):=⟨fun g hg=>by
  rcases List.mem_cons.1 hg with rfl|hg
  ·omega
  ·rcases List.mem_cons.1 hg with rfl|hg
   ·omega
   ·have:=Ja hr h0 g hg
    omega⟩
 have HG0:Qa (∀g∈Zv A,g<w.heap.size):=⟨Ja hr h0⟩;clear hr hr2 hL hok hcap h0;have hu:=Tryz.underlying163;refine(callsIn_wide (n:=3)).1 ?_;refine callsIn_of_wp_marks Tryz.func141 rfl trivial ?_ rfl;simp only[Tryz.ntmps141,List.size_toArray,List.length_cons,List.length_nil,Nat.reduceAdd,Nat.reduceSub,Array.replicate_succ,Array.replicate_zero,List.push_toArray,List.append_toArray,List.nil_append,List.cons_append];gi_wp2_with fail;obtain⟨W0,hW0⟩: ∃W0,W0=w.alloc (.cells #[.slice none 0 0] 143):=⟨_,rfl⟩;have hR0:=((Rws.start w).nil 148 8).alloc #[.slice none 0 0] 143;have hs0:W0.heap.size=w.heap.size+1:=(by rw[hW0];simp);simp only[List.nil_append,List.cons_append] at hR0;rw[<-hW0] at hR0 ⊢;clear hW0;refine⟨trivial,(callsIn_wide.2 (Kv A B ws.length c1 l.length c2 W0)).mono ?_⟩;rintro en W1 ⟨rfl,hW1⟩;have hR1:=(hR0.alloc #[.slice A ws.length c1] 22).alloc #[.slice B l.length c2] 22;have hs1:W1.heap.size=w.heap.size+1+1+1:=(by rw[hW1];simp[hs0]);simp only[World.size_alloc,List.nil_append,List.cons_append] at hR1;rw[<-hW1,hs0] at hR1;rw[hs0];clear hW1 hR0 hs0;have b1:W1.cell? ⟨w.heap.size+1,0,none⟩=some (.slice A ws.length c1):=(by rw[Qb (hR1.blk ⟨w.heap.size+1, #[.slice A ws.length c1],22⟩ (by simp)).1];rfl);have b2:W1.cell? ⟨w.heap.size+1+1,0,none⟩=some (.slice B l.length c2):=(by rw[Qb (hR1.blk ⟨w.heap.size+1+1, #[.slice B l.length c2],22⟩ (by simp)).1];rfl);replace hs1:=Qa.mk hs1;replace hR1:=Qa.mk hR1;have HA1:=Qa.mk (Kd.Qe HR.out hR1.out.below);gi_wp2_with fail
 refine Xw rfl (by omega) (gf:=192) (lb:= #[.pointer (some ⟨w.heap.size+1,0,none⟩),.pointer (some ⟨w.heap.size+1+1,0,none⟩)]) rfl trivial (enters_of Tryz.func192 (by kernel_rfl) rfl)
  (Ku Fence.wide _ trivial rfl (by omega) (w.heap.size+1) (w.heap.size+1+1) A B c1 c2 ws l HO.out HC.out W1 HA1.out hBs.out b1 b2)
  (fun h k=>h.trans k) ?keep (Below.refl _ _) (fun _=>rfl) (fun j W=> ∃v,Rws w W [⟨148,8,v,j,Vb ws l (j)⟩] [⟨w.heap.size, #[v],143⟩,⟨w.heap.size+1, #[.slice A ws.length c1],22⟩,⟨w.heap.size+1+1, #[.slice B l.length c2],22⟩]) ?own ?start ?round ?done
 case keep=>exact Qy.putObj (N:=W1.heap.size) (fun g hg=>by have:=HG.out g hg;have:=hs1.out;omega)
 case own=>exact fun j W W' row ⟨v,h⟩ hg hrow=>⟨v,Rws.Jo h hg (fun r e=>⟨by have:=(hrow r e).1;have:=hs1.out;omega,(hrow r e).2⟩)⟩
 case start=>exact⟨_,hR1.out⟩
 case round=>
  rintro L j W hI hj;obtain⟨v,hRw⟩:=hI;obtain⟨bd,hbd⟩:=hBs.out (fun e=>by rw[e] at hj;simp at hj);subst hbd;have hof:=V8 HO.out hj;have hbC:Qa (∀W',Below w.heap.size w W'->(Kd.int .i64).C W' (some (bd.add (Ue ws j))) (Xe ws l j).length (Xe ws l j)):=⟨fun W' hb=>J3 HO.out hj (Kd.Qe HR2.out hb)⟩;have hbA:Yo (Xe ws l j)=true:=Vk HO.out.vals j;have hbl:=Vl HO.out hj;have hsc:=Qa.mk (Gj ws l j);simp only[O3,gSl];obtain⟨ag,hag⟩: ∃ag,ag=bd.add (Ue ws j):=⟨_,rfl⟩;obtain⟨d,hd⟩: ∃d,d=(rd ws j).toNat :=⟨_,rfl⟩;obtain⟨x,hx⟩: ∃x,x=Xe ws l j:=⟨_,rfl⟩;rw[<-hx] at hbC hbA hbl hsc;rw[<-hag] at hbC ⊢;rw[<-hd] at hbl hof ⊢;have hd9:1<=d/\d<=128:=(by omega);have hxl:x.length<=128:=(by omega);rw[<-hbl];replace hRw:=Qa.mk hRw;have hjT:=Qa.mk hj;have hj9:(j:Int)<=128:=(by have:=HO.out.len;omega);clear hof hag hx hj hd hbl hd9;gi_wp2;have hal:=(Below.refl W.heap.size W).alloc (Nat.le_refl _) (.cells #[.int .i64 j,.slice (some ag) x.length x.length] 163);have hRa:=hRw.out.alloc #[.int .i64 j,.slice (some ag) x.length x.length] 163;simp only[List.nil_append,List.cons_append] at hRa
  have hsz:w.heap.size+1+1+1<=W.heap.size:=by
   have h1:=Array.getElem?_eq_some_iff.1 (hRw.out.blk ⟨w.heap.size+1+1, #[.slice (some bd) l.length c2],22⟩ (by simp)).1;obtain⟨h1,_⟩:=h1;dsimp only at h1;omega
  refine⟨(Zr hal).from _,Qy.step HG.out hsz hal,fun Z=>Rws w Z [⟨148,8,v,j,Vb ws l (j)⟩] [⟨w.heap.size, #[v],143⟩,⟨w.heap.size+1, #[.slice A ws.length c1],22⟩,⟨w.heap.size+1+1, #[.slice (some bd) l.length c2],22⟩,⟨W.heap.size, #[.int .i64 j,.slice (some ag) x.length x.length],163⟩],hRa,fun _ Z Z' row h hg hrow=>Rws.Jo h hg (fun r e=>⟨by have:=(hrow r e).1;have:=hs1.out;omega,(hrow r e).2⟩),?_⟩;clear hal hRa hRw hsz;obtain⟨g6,hg6⟩: ∃g6,g6=W.heap.size:=⟨_,rfl⟩;rw[<-hg6];rintro Z hRw;clear hg6;obtain⟨W,rfl⟩: ∃W:World,W=Z:=⟨_,rfl⟩;have HRW:=Qa.mk hRw;have hR7:=hRw.alloc (List.replicate 8 (Value.int .i64 0)).toArray 148;rw[<-Cw x] at hR7;simp only[List.nil_append,List.cons_append] at hR7;gi_wp2;obtain⟨W7,hW7⟩: ∃Z,Z=W.alloc (.cells (Us x 0).toArray 148):=⟨_,rfl⟩;have hz7:(W.alloc (.cells #[.int .i64 0,.int .i64 0,.int .i64 0,.int .i64 0,.int .i64 0,.int .i64 0,.int .i64 0,.int .i64 0] 148))=W7:=(by rw[hW7,Cw];rfl);have hal7:Qa (Below W.heap.size W W7):=⟨by rw[hW7];exact(Below.refl _ _).alloc (Nat.le_refl _) _⟩;rw[<-hW7] at hR7;rw[hz7];clear hz7;obtain⟨g7,hg7⟩: ∃g7,g7=W.heap.size:=⟨_,rfl⟩;rw[<-hg7] at hR7;rw[<-hg7]
  have hgW:Qa (w.heap.size+1+1+1<=W.heap.size):=⟨by
   have h1:=Array.getElem?_eq_some_iff.1 (hRw.blk ⟨w.heap.size+1+1, #[.slice (some bd) l.length c2],22⟩ (by simp)).1;obtain⟨h1,_⟩:=h1;dsimp only at h1
   omega⟩
  have hgs:Qa (w.heap.size+1+1+1<=g7):=(by rw[hg7];exact hgW);replace hR7:=Qa.mk hR7;clear hW7 hg7 hRw;obtain⟨wo,hwo⟩: ∃wo:World,wo=W7:=⟨_,rfl⟩;rw[<-hwo] at hR7 hal7 ⊢;clear hwo W7;gi_loopw [15] (fun o wr=> ∃k:Nat,o= .int .i64 k/\k<=8/\Qa (Rws w wr [⟨148,8,v,j,Vb ws l (j)⟩] [⟨w.heap.size, #[v],143⟩,⟨w.heap.size+1, #[.slice A ws.length c1],22⟩,⟨w.heap.size+1+1, #[.slice (some bd) l.length c2],22⟩,⟨g6, #[.int .i64 j,.slice (some ag) x.length x.length],163⟩,⟨g7,(Us x k).toArray,148⟩])/\Qa (KeepsOthers W wr/\Qy ((w.heap.size+1)::(w.heap.size+1+1)::Zv A) W wr)) (fun o _=>8-(intOf o).toNat)
  case atStart=>exact⟨0,rfl,by omega,hR7,⟨Zr hal7.out,Qy.step HG.out hgW.out hal7.out⟩⟩
  case round=>
   obtain⟨k,rfl,hk,hRr,hK⟩:=hrel;by_cases hlt:k<8
   ·have m6:wr.cell? ⟨g6,1,none⟩=some (.slice (some ag) x.length x.length):=by rw[Qb (hRr.out.blk ⟨g6, #[.int .i64 j,.slice (some ag) x.length x.length],163⟩ (by simp)).1];rfl
    have HCk:=Qa.mk (fun(W':World) (hb:Below wr.heap.size wr W')=>Ol k hlt (some ag) x.length x W' (HL.out.below (bnx hRr.out.below hb)) (hbC.out _ (bnx hRr.out.below hb)) (by omega) (Nat.le_refl _) hbA);have hst:=Qa.mk (rowN_set x hlt);have hnx:=Qa.mk (Qen x hlt);have hkI:(k:Int)<8:=(by omega);have hT:=Qa.mk hlt;clear hlt hk;gi_wp2_with fail;refine⟨trivial,(callsIn_wide.2 (HCk.out wr (Below.refl _ _))).mono ?_⟩;rintro en w1 ⟨c,E,rfl,hE,hb1⟩;have hR1:=Qa.mk (hRr.out.step hb1);have hK1:Qa (KeepsOthers W w1/\Qy ((w.heap.size+1)::(w.heap.size+1+1)::Zv A) W w1):=⟨hK.out.1.trans (Zr hb1),hK.out.2.trans (Qy.step HG.out (Nat.le_trans hgW.out hK.out.1.size) hb1)⟩;have h7:=(hR1.out.blk ⟨g7,(Us x k).toArray,148⟩ (by simp)).1;have z7:w1.cell? ⟨g7,k,none⟩=some (.int .i64 0):=(by rw[Qb h7];exact hnx.out);have y7:=Qf h7 k;clear h7 m6 hb1 hK hRr
    have hfin:Qa (∀c,c=Q5 k x->Rws w (w1.setCell ⟨g7,k,none⟩ (.int .i64 c)) [⟨148,8,v,j,Vb ws l (j)⟩] [⟨w.heap.size, #[v],143⟩,⟨w.heap.size+1, #[.slice A ws.length c1],22⟩,⟨w.heap.size+1+1, #[.slice (some bd) l.length c2],22⟩,⟨g6, #[.int .i64 j,.slice (some ag) x.length x.length],163⟩,⟨g7,(Us x (k+1)).toArray,148⟩]/\KeepsOthers W (w1.setCell ⟨g7,k,none⟩ (.int .i64 c))/\Qy ((w.heap.size+1)::(w.heap.size+1+1)::Zv A) W (w1.setCell ⟨g7,k,none⟩ (.int .i64 c))):=⟨fun c hc=>by
     have h:=Rws.set (G1:=[⟨w.heap.size, #[v],143⟩,⟨w.heap.size+1, #[.slice A ws.length c1],22⟩,⟨w.heap.size+1+1, #[.slice (some bd) l.length c2],22⟩,⟨g6, #[.int .i64 j,.slice (some ag) x.length x.length],163⟩]) (G2:=[]) (b:=⟨g7,(Us x k).toArray,148⟩) hR1.out k (.int .i64 c);simp only[List.nil_append,List.cons_append,List.setIfInBounds_toArray] at h;rw[hc,hst.out] at h
     exact⟨by rw[hc];exact h,hK1.out.1.trans (KeepsOthers.setCell _ _ _),Qy.set HG.out hK1.out.2 (by simpa using hgs.out) _⟩⟩
    rcases hE with ⟨rfl,hc,-⟩|⟨rfl,hc,-⟩
    ·replace hc:=Qa.mk hc
     gi_wp2;go_roundw
     case rel=>exact⟨k+1,by go_num,hT.out,⟨(hfin.out _ hc.out).1⟩,⟨(hfin.out _ hc.out).2⟩⟩
     case measure=>have:=hT.out;simp[intOf];omega
    ·replace hc:=Qa.mk hc
     gi_wp2;go_roundw
     case rel=>exact⟨k+1,by go_num,hT.out,⟨(hfin.out _ hc.out.symm).1⟩,⟨(hfin.out _ hc.out.symm).2⟩⟩
     case measure=>have:=hT.out;simp[intOf];omega
   ·obtain rfl:k=8:=by omega
    have hv0:wr.cell? ⟨w.heap.size,0,none⟩=some v:=(by rw[Qb (hRr.out.blk ⟨w.heap.size, #[v],143⟩ (by simp)).1];rfl);have h7:=(hRr.out.blk ⟨g7,(Us x 8).toArray,148⟩ (by simp)).1;have q0:wr.cell? ⟨g7,0,none⟩=some (.int .i64 (Q5 0 x)):=(by rw[Qb h7];rfl);have q1:wr.cell? ⟨g7,1,none⟩=some (.int .i64 (Q5 1 x)):=(by rw[Qb h7];rfl);have q2:wr.cell? ⟨g7,2,none⟩=some (.int .i64 (Q5 2 x)):=(by rw[Qb h7];rfl);have q3:wr.cell? ⟨g7,3,none⟩=some (.int .i64 (Q5 3 x)):=(by rw[Qb h7];rfl);have q4:wr.cell? ⟨g7,4,none⟩=some (.int .i64 (Q5 4 x)):=(by rw[Qb h7];rfl);have q5:wr.cell? ⟨g7,5,none⟩=some (.int .i64 (Q5 5 x)):=(by rw[Qb h7];rfl);have q6:wr.cell? ⟨g7,6,none⟩=some (.int .i64 (Q5 6 x)):=(by rw[Qb h7];rfl);have q7:wr.cell? ⟨g7,7,none⟩=some (.int .i64 (Q5 7 x)):=(by rw[Qb h7];rfl);have hRA:=Qa.mk (hRr.out.alloc #[.int .i64 (Q5 0 x),.int .i64 (Q5 1 x),.int .i64 (Q5 2 x),.int .i64 (Q5 3 x),.int .i64 (Q5 4 x),.int .i64 (Q5 5 x),.int .i64 (Q5 6 x),.int .i64 (Q5 7 x)] 148);have hj8:Qa ((j+1)*64<=140737488355328):=⟨by have:=hjT.out;have:=HO.out.len;omega⟩;clear h7 hlt hk;gi_wp2_with (refine appIn (wr:=w) (L1:=[]) (L2:=[]) (G:=_) rfl (.tmp 31) (.tmp 33) 143 148 rfl (.agg (List.replicate 8 (.int .i64 0)).toArray) 8 64 Tryz.underlying143 info_row rfl (by decide) (by decide) v j (Vb ws l j) rfl hRA.out ⟨wr.heap.size,0,none⟩ 1 1 [.int .i64 (Q5 0 x),.int .i64 (Q5 1 x),.int .i64 (Q5 2 x),.int .i64 (Q5 3 x),.int .i64 (Q5 4 x),.int .i64 (Q5 5 x),.int .i64 (Q5 6 x),.int .i64 (Q5 7 x)] rfl rfl (new_at _ _ _) (by simp[Value.oneCell']) hj8.out ?_;intro v1 wA hRA hgA hkA;have HRA:=Qa.mk hRA;have HKA:=Qa.mk hkA;clear hRA hgA hkA;obtain⟨A4,p4,hv4⟩:=ownsl (HRA.out.row _ (List.mem_append_right _ (List.mem_cons_self)));dsimp only at hv4;subst hv4;have z0:wA.cell? ⟨w.heap.size,0,none⟩=some v:=(by rw[Qb (HRA.out.blk ⟨w.heap.size, #[v],143⟩ (by simp)).1];rfl);have y0:=Qf (HRA.out.blk ⟨w.heap.size, #[v],143⟩ (by simp)).1 0);have hfin2:=Rws.set (G1:=[]) (G2:=[⟨w.heap.size+1, #[.slice A ws.length c1],22⟩,⟨w.heap.size+1+1, #[.slice (some bd) l.length c2],22⟩,⟨g6, #[.int .i64 j,.slice (some ag) x.length x.length],163⟩,⟨g7,(Us x 8).toArray,148⟩,⟨wr.heap.size, #[.int .i64 (Q5 0 x),.int .i64 (Q5 1 x),.int .i64 (Q5 2 x),.int .i64 (Q5 3 x),.int .i64 (Q5 4 x),.int .i64 (Q5 5 x),.int .i64 (Q5 6 x),.int .i64 (Q5 7 x)],148⟩]) (b:=⟨w.heap.size, #[v],143⟩) HRA.out 0 (.slice A4 (j+1) p4);simp only[List.setIfInBounds_toArray,List.set_cons_zero,List.nil_append,List.cons_append] at hfin2;have hcs8:Vb ws l j++[.int .i64 (Q5 0 x),.int .i64 (Q5 1 x),.int .i64 (Q5 2 x),.int .i64 (Q5 3 x),.int .i64 (Q5 4 x),.int .i64 (Q5 5 x),.int .i64 (Q5 6 x),.int .i64 (Q5 7 x)]=Vb ws l (j+1):=(by rw[hsc.out];rfl);rw[hcs8] at hfin2;refine⟨((hK.out.1.trans (KeepsOthers.alloc _ _)).trans (HKA.out.trans (KeepsOthers.setCell _ _ _))).from _,Qy.two (b1:=⟨w.heap.size+1, #[.slice A ws.length c1],22⟩) (b2:=⟨w.heap.size+1+1, #[.slice (some bd) l.length c2],22⟩) HRW.out hfin2 (by simp) (by simp) (by simp) (by simp) HG0.out,_,Rws.drop (L1:=[⟨148,8,.slice A4 (j+1) p4,j+1,Vb ws l (j+1)⟩]) (L2:=[]) (G:=[⟨w.heap.size, #[.slice A4 (j+1) p4],143⟩,⟨w.heap.size+1, #[.slice A ws.length c1],22⟩,⟨w.heap.size+1+1, #[.slice (some bd) l.length c2],22⟩]) (G2:=_) hfin2⟩
 case done=>
  rintro D W hD ⟨v,hRw⟩ hDf;have h1:=Rws.Jo hRw (grownBy_putObj' W D (.deferred none)) (fun r e=>by cases e;exact⟨by have:=hs1.out;omega,_,hDf,rfl⟩);have k0:W.cell? ⟨w.heap.size,0,none⟩=some v:=(by rw[Qb (hRw.blk ⟨w.heap.size, #[v],143⟩ (by simp)).1];rfl);have hro:=Qa.mk (h1.row ⟨148,8,v,ws.length,Vb ws l (ws.length)⟩ (by simp));have hbe:=Qa.mk h1.below;clear hRw h1;gi_wp2;refine⟨by simp,.inl ⟨_,_,rfl,run_takeDeferred hDf,?_⟩⟩;exact⟨v,by simp[results,Tryz.f141,go_sem],v,rfl,hro.out,hbe.out⟩
end Sec

namespace Sec
attribute [local go_sem] Qi Qj Qk Ql Qg Qh
open Q15
open Q21 (Qb Qf)
open Bts
open Bk (Z6)
def De (c1:Int) (l1:List Int) (c2:Int) (l2:List Int):Bool:=if c1=c2 then decide (cmpL l1 l2<0) else decide (c1<c2)
theorem Qbx (x1 x2:Int) (S1 S2 B1 B2:Option Addr) (n1 m1 n2 m2 k1 k2:Nat) (l1 l2:List Int) (w:World) (hr:(Kd.int .i64).C w B1 l1.length l1) (hr2:(Kd.int .i64).C w B2 l2.length l2) (h1:l1.length<=1000000) (h2:l2.length<=1000000):
  Calls Tryz.prog 146 #[.agg #[.int .i64 x1,.slice S1 n1 m1,.slice B1 l1.length k1],.agg #[.int .i64 x2,.slice S2 n2 m2,.slice B2 l2.length k2]] w fun e w'=>e= .returned (.bool (De x1 l1 x2 l2))/\Below w.heap.size w w':=by
 have hu:=Tryz.underlying150;have HC:=Qa.mk (fun(W:World) (hb:Below w.heap.size w W)=>Pb B1 B2 k1 k2 l1 l2 W (Kd.Qe hr hb) (Kd.Qe hr2 hb) h1 h2);obtain⟨W2,hW2⟩: ∃W2,W2=(w.alloc (.cells #[.int .i64 x1,.slice S1 n1 m1,.slice B1 l1.length k1] 150)).alloc (.cells #[.int .i64 x2,.slice S2 n2 m2,.slice B2 l2.length k2] 150):=⟨_,rfl⟩;have hb2:Qa (Below w.heap.size w W2):=⟨by rw[hW2];exact((Below.refl _ _).alloc (Nat.le_refl _) _).alloc (by simp) _⟩;have hR:=((Rws.start w).alloc #[.int .i64 x1,.slice S1 n1 m1,.slice B1 l1.length k1] 150).alloc #[.int .i64 x2,.slice S2 n2 m2,.slice B2 l2.length k2] 150;simp only[World.size_alloc,List.nil_append,List.cons_append] at hR;rw[<-hW2] at hR;have g1:=(hR.blk ⟨w.heap.size, #[.int .i64 x1,.slice S1 n1 m1,.slice B1 l1.length k1],150⟩ (by simp)).1;have g2:=(hR.blk ⟨w.heap.size+1, #[.int .i64 x2,.slice S2 n2 m2,.slice B2 l2.length k2],150⟩ (by simp)).1;have a0:W2.cell? ⟨w.heap.size,0,none⟩=some (.int .i64 x1):=(by rw[Qb g1];rfl);have a2:W2.cell? ⟨w.heap.size,2,none⟩=some (.slice B1 l1.length k1):=(by rw[Qb g1];rfl);have b0:W2.cell? ⟨w.heap.size+1,0,none⟩=some (.int .i64 x2):=(by rw[Qb g2];rfl);have b2:W2.cell? ⟨w.heap.size+1,2,none⟩=some (.slice B2 l2.length k2):=(by rw[Qb g2];rfl);clear hR g1 g2 hr hr2 h1 h2;obtain⟨C,hCe⟩: ∃C,C=cmpL l1 l2:=⟨_,rfl⟩;rw[<-hCe] at HC;have hL:Qa (De x1 l1 x2 l2=if x1=x2 then decide (C<0) else decide (x1<x2)):=⟨by rw[hCe];rfl⟩;clear hCe;by_cases hx:x1=x2
 ·rw[if_pos hx] at hL
  subst hx;go_enter Tryz.func146,Tryz.ntmps146;go_wp2_with fail;rw[<-hW2];clear hW2;have hbz:=hb2.out;go_wp2_with (first|(go_at_call 190;refine(HC.out _ hbz).mono ?_;rintro e w' ⟨rfl,hbn⟩;replace hbz:=bnx hbz hbn;clear hbn));go_ret;exact⟨by rw[hL.out];rfl,hbz⟩
 ·rw[if_neg hx] at hL
  have hne:(x1 != x2)=true:=bne_iff_ne.2 hx;clear hx;go_enter Tryz.func146,Tryz.ntmps146;go_wp2_with fail;rw[<-hW2];clear hW2;go_wp2_with fail;go_ret;exact⟨by rw[hL.out];rfl,hb2.out⟩
theorem O5 (x:Int) (S B:Option Addr) (n m q k:Nat) (w:World):
  Calls Tryz.prog 145 #[.pointer none,.agg #[.int .i64 x,.slice S n m,.slice B q k],.func (.func 146) #[] #[]] w fun e w'=>e= .returned (.pointer (some ⟨w.heap.size,0,none⟩))/\w'.heap[w.heap.size]? =some (.cells #[.int .i64 x,.slice S n m,.slice B q k] 150 (0,0))/\Below w.heap.size w w':=by
 have hu:=Tryz.underlying150;obtain⟨W2,hW2⟩: ∃W2,W2=w.alloc (.cells #[.int .i64 x,.slice S n m,.slice B q k] 150):=⟨_,rfl⟩;have hb2:Qa (Below w.heap.size w W2.drew):=⟨by rw[hW2];exact((Below.refl _ _).alloc (Nat.le_refl _) _).drew⟩;have hg:Qa (W2.drew.heap[w.heap.size]? =some (.cells #[.int .i64 x,.slice S n m,.slice B q k] 150 (0,0))):=⟨by rw[hW2];exact heap_alloc_new _ _⟩;go_enter Tryz.func145,Tryz.ntmps145;go_wp2_with fail;rw[<-hW2];clear hW2;refine Z6 (fun _=>True) (by kernel_rfl) trivial (fun hHeld=> ?_)
 (refine Tk.tk 0 (.pointer none) hHeld ?_)
 (refine Tk.tk 1 (.bool true) hHeld ?_)
 (refine Tk.tk 2 (.bool true) hHeld ?_)
 (refine Tk.tz 3 hHeld ?_)
 (refine Tk.tz 4 hHeld ?_)
 (refine Tk.tz 5 hHeld ?_)
 (refine Tk.tz 6 hHeld ?_)
 (refine Tk.tz 7 hHeld ?_)
 (refine wpAnyH_ready (rs:=[8]) (by kernel_rfl) (by simp) ?_;refine AllReadyH.cons rfl (fun K hK=> ?_) AllReadyH.nil;go_simp)
 (go_wp2_with fail;refine hK.out _ _ (trivial) (fun hHeld=> ?_);clear hK K;try simp only[Act.put,Tk.z1,Tk.z2,Tk.z3,Tk.z4,Tk.z5,Tk.z6])
 (refine Tk.tk 9 (.bool true) hHeld ?_)
 refine wpAnyH_done (by kernel_rfl) ?_ _;go_wp2;go_ret;exact⟨rfl,hg.out,hb2.out⟩
theorem O6 (g:Nat) (x y:Int) (S B S2 B2:Option Addr) (n m k n2 m2 k2:Nat) (l1 l2:List Int) (w:World) (hr:(Kd.int .i64).C w B l1.length l1) (hr2:(Kd.int .i64).C w B2 l2.length l2) (h1:l1.length<=1000000) (h2:l2.length<=1000000)
  (hg:w.heap[g]? =some (.cells #[.int .i64 y,.slice S2 n2 m2,.slice B2 l2.length k2] 150 (0,0))):
  Calls Tryz.prog 145 #[.pointer (some ⟨g,0,none⟩),.agg #[.int .i64 x,.slice S n m,.slice B l1.length k],.func (.func 146) #[] #[]] w fun e w'=>(De x l1 y l2=false/\e= .returned (.pointer (some ⟨g,0,none⟩))\/De x l1 y l2=true/\e= .returned (.pointer (some ⟨w.heap.size,0,none⟩))/\w'.heap[w.heap.size]? =some (.cells #[.int .i64 x,.slice S n m,.slice B l1.length k] 150 (0,0)))/\Below w.heap.size w w':=by
 have hu:=Tryz.underlying150;obtain⟨W2,hW2⟩: ∃W2,W2=w.alloc (.cells #[.int .i64 x,.slice S n m,.slice B l1.length k] 150):=⟨_,rfl⟩;have hb2:Below w.heap.size w W2.drew:=(by rw[hW2];exact((Below.refl _ _).alloc (Nat.le_refl _) _).drew);have hq:Qa (∀W,Below W2.drew.heap.size W2.drew W->W.heap[w.heap.size]? =some (.cells #[.int .i64 x,.slice S n m,.slice B l1.length k] 150 (0,0))/\W.heap[g]? =some (.cells #[.int .i64 y,.slice S2 n2 m2,.slice B2 l2.length k2] 150 (0,0))/\Below w.heap.size w W):=⟨fun W hb=>⟨Qv (show W2.drew.heap[w.heap.size]? =_ by rw[hW2];exact heap_alloc_new _ _) hb,Qv (Qv hg hb2) hb,bnx hb2 hb⟩⟩;obtain⟨g1,g2,g3⟩:=hq.out W2.drew (Below.refl _ _);have a0:W2.drew.cell? ⟨w.heap.size,0,none⟩=some (.int .i64 x):=(by rw[Qb g1];rfl);have a1:W2.drew.cell? ⟨w.heap.size,1,none⟩=some (.slice S n m):=(by rw[Qb g1];rfl);have a2:W2.drew.cell? ⟨w.heap.size,2,none⟩=some (.slice B l1.length k):=(by rw[Qb g1];rfl);have b0:W2.drew.cell? ⟨g,0,none⟩=some (.int .i64 y):=(by rw[Qb g2];rfl);have b1:W2.drew.cell? ⟨g,1,none⟩=some (.slice S2 n2 m2):=(by rw[Qb g2];rfl);have b2:W2.drew.cell? ⟨g,2,none⟩=some (.slice B2 l2.length k2):=(by rw[Qb g2];rfl);have HC:=Qa.mk (Qbx x y S S2 B B2 n m n2 m2 k k2 l1 l2 W2.drew (Kd.Qe hr g3) (Kd.Qe hr2 g3) h1 h2);obtain⟨Z,hZ⟩: ∃Z,Z=De x l1 y l2:=⟨_,rfl⟩;rw[<-hZ] at HC ⊢;clear g1 g2 g3 hg hr hr2 h1 h2 hb2 hZ;go_enter Tryz.func145,Tryz.ntmps145;go_wp2_with fail;rw[<-hW2];clear hW2;refine Z6 (fun W=>W.cell? ⟨w.heap.size,0,none⟩=some (.int .i64 x)/\W.cell? ⟨w.heap.size,1,none⟩=some (.slice S n m)/\W.cell? ⟨w.heap.size,2,none⟩=some (.slice B l1.length k)/\W.cell? ⟨g,0,none⟩=some (.int .i64 y)/\W.cell? ⟨g,1,none⟩=some (.slice S2 n2 m2)/\W.cell? ⟨g,2,none⟩=some (.slice B2 l2.length k2)) (by kernel_rfl) ⟨a0,a1,a2,b0,b1,b2⟩ (fun hHeld=> ?_)
 (refine Tk.tk 0 (.pointer (some ⟨g,0,none⟩)) hHeld ?_)
 (refine Tk.tk 1 (.bool false) hHeld ?_)
 (refine Tk.tk 2 (.bool false) hHeld ?_)
 (refine Tk.tk 3 (.func (.func 146) #[] #[]) hHeld ?_)
 (refine Tk.tk 4 (.agg #[.int .i64 x,.slice S n m,.slice B l1.length k]) hHeld ?_)
 (refine Tk.tk 5 (.pointer (some ⟨g,0,none⟩)) hHeld ?_)
 (refine Tk.tk 6 (.pointer (some ⟨g,0,none⟩)) hHeld ?_)
 (refine Tk.tk 7 (.agg #[.int .i64 y,.slice S2 n2 m2,.slice B2 l2.length k2]) hHeld ?_)
 (refine wpAnyH_ready (rs:=[8]) (by kernel_rfl) (by simp) ?_;refine AllReadyH.cons rfl (fun K hK=> ?_) AllReadyH.nil;go_simp)
 refine HC.out.mono ?_;rintro e w1 ⟨rfl,hb1⟩;obtain⟨q1,q2,q3⟩:=hq.out w1 hb1;replace q1:=Qa.mk q1;replace q3:=Qa.mk q3
 (go_wp2_with fail;refine hK.out _ _ (⟨cnx a0 hb1,cnx a1 hb1,cnx a2 hb1,cnx b0 hb1,cnx b1 hb1,cnx b2 hb1⟩) (fun hHeld=> ?_);clear hK K;try simp only[Act.put,Tk.z1,Tk.z2,Tk.z3,Tk.z4,Tk.z5,Tk.z6])
 (refine Tk.tk 9 (.bool Z) hHeld ?_)
 refine wpAnyH_done (by kernel_rfl) ?_ _;clear a0 a1 a2 b0 b1 b2 q2 hHeld HC hq
 cases Z with
 |true=>
  go_wp2;go_ret;exact⟨⟨rfl,q1.out⟩,q3.out⟩
 |false=>
  go_wp2;go_ret;exact⟨rfl,q3.out⟩
end Sec

end Go.Proofs.YtnflnicdjioflaaGreatDoor
