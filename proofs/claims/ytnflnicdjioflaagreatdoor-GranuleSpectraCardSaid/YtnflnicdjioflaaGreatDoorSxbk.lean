/- A part of the proof. -/
import Derived.Test.YtnflnicdjioflaaGreatDoorSxbi
import Derived.Test.YtnflnicdjioflaaGreatDoorSxbb
import Derived.Test.YtnflnicdjioflaaGreatDoorSxas
import Derived.Test.YtnflnicdjioflaaGreatDoorSxbf
set_option linter.unusedVariables false
set_option linter.unusedSimpArgs false
set_option maxRecDepth 100000
set_option maxHeartbeats 8000000
namespace Go.Proofs.YtnflnicdjioflaaGreatDoor
open Go.RowKit Go.Proofs.YtnflnicdjioflaaGreatDoorW.PrintWords Go.Proofs.YtnflnicdjioflaaGreatDoorW.PrintLast Go.Proofs.YtnflnicdjioflaaGreatDoorW.PrintMore
namespace Gn
attribute [local go_sem] Qh Qi Qk Ql Qd Qe
open Q15
open Q21
open Bts
open Bk
structure Gz (w:World) (g:Gr) (A:Option Addr) (c:Nat) (M:Option Addr) (m:Nat):Prop where
 chs:kCh.C w A g.chs.length g.chs
 mid:Kd.bool.C w M g.mid.length g.mid
theorem Gz.below {w W:World} {g:Gr} {A M:Option Addr} {c m:Nat} (h:Gz w g A c M m) (hb:Below w.heap.size w W):Gz W g A c M m:=⟨Kd.Qf h.chs hb,Kd.Qf h.mid hb⟩
abbrev grV (g:Gr) (A:Option Addr) (c:Nat) (M:Option Addr) (m:Nat):Value:= .agg #[.slice A g.chs.length c,.slice M g.mid.length m]
def Sm (g:Gr):Prop:= ∀x∈g.chs,x.sc.length<=1000000/\x.qu.length<=1000000/\x.fi.length<=1000000
theorem Vw (g:Gr) (A:Option Addr) (c:Nat) (M:Option Addr) (m:Nat) (w:World) (hL:Laid w) (h:Gz w g A c M m) (hs:Sm g):
  Calls Tryz.prog 21 #[grV g A c M m] w fun e w'=>e= .returned (.int .i64 (if Jz g=true then 0 else 1))/\Below w.heap.size w w':=by
 have hu31:=Tryz.underlying31;unfold grV;obtain⟨w1,hw1⟩: ∃w1,w1=w.alloc (.cells #[.slice A g.chs.length c,.slice M g.mid.length m] 31):=⟨_,rfl⟩;have hb:Below w.heap.size w w1:=(by rw[hw1];exact(Below.refl _ _).alloc (Nat.le_refl _) _);have HC:=Qa.mk (fun(W:World) (hb:Below w.heap.size w W)=>Ja A M c m g W (hL.below hb) (h.below hb).chs hs);unfold Hf at HC;obtain⟨ws,hws⟩: ∃ws,ws=Qm (chK g 0).sh (chK g 0).gr :=⟨_,rfl⟩;rw[<-hws] at HC;clear hL h hs hws
 cases hg:Jz g with
 |true=>
  simp only[hg,if_true] at HC;rw[if_pos rfl];clear hg;go_enter Tryz.func21,Tryz.ntmps21;go_wp2_with fail;rw[<-hw1];refine(HC.out _ hb).mono ?_;rintro e w2 ⟨B,q,rfl,-,hbn⟩;replace hb:=bnx hb hbn;clear hbn hw1;go_wp2;go_ret;exact⟨rfl,hb⟩
 |false=>
  simp only[hg,Bool.false_eq_true,if_false] at HC;rw[if_neg (by decide)];clear hg;go_enter Tryz.func21,Tryz.ntmps21;go_wp2_with fail;rw[<-hw1];refine(HC.out _ hb).mono ?_;rintro e w2 ⟨rfl,hbn⟩;replace hb:=bnx hb hbn;clear hbn hw1;go_wp2;go_ret;exact⟨rfl,hb⟩
theorem Gy (g:Gr) (A:Option Addr) (c:Nat) (M:Option Addr) (m:Nat) (w:World) (hL:Laid w) (hLB:Xn w) (hB4:4<=w.heap.size) (h:Gz w g A c M m) (hs:Sm g) (hg:Jz g=true) (hBW: ∀c∈g.chs,∀p∈((Sec.wL (Qm (chK g 0).sh (chK g 0).gr) c.qu (Qm (chK g 0).sh (chK g 0).gr).length).getD 0 Sec.w0).secs,BW p.1.toNat):
  Calls Tryz.prog 19 #[grV g A c M m] w fun e w'=>e= .returned (.tuple #[.int .i64 (Lm g),.int .i64 0])/\Below w.heap.size w w':=by
 have hu31:=Tryz.underlying31;unfold grV;obtain⟨w1,hw1⟩: ∃w1,w1=w.alloc (.cells #[.slice A g.chs.length c,.slice M g.mid.length m] 31):=⟨_,rfl⟩;have hb:Below w.heap.size w w1:=(by rw[hw1];exact(Below.refl _ _).alloc (Nat.le_refl _) _);have hB1:w1.heap[w.heap.size]? =some (.cells #[.slice A g.chs.length c,.slice M g.mid.length m] 31 (0,0)):=(by rw[hw1];exact heap_alloc_new _ _);have HC:=Qa.mk (fun(W:World) (hb:Below w.heap.size w W)=>Ja A M c m g W (hL.below hb) (h.below hb).chs hs);unfold Hf at HC;simp only[hg,if_true] at HC;obtain⟨ws,hws⟩: ∃ws,ws=Qm (chK g 0).sh (chK g 0).gr :=⟨_,rfl⟩;rw[<-hws] at HC hBW;have HWr:=Qa.mk (fun(W:World) (B:Option Addr) (q:Nat) (hb:Below w.heap.size w W) (hC:(Kd.int .i64).C W B ws.length ws)=>Ld A M B c m q g ws W hws (hLB.below hb) (by have:=hb.size;omega) (h.below hb).chs (h.below hb).mid hC (Kz.1 hg) hBW);clear hL h hs hg hws hLB hB4 hBW;go_enter Tryz.func19,Tryz.ntmps19;go_wp2_with fail;rw[<-hw1];refine(HC.out _ hb).mono ?_;rintro e w2 ⟨B,q,rfl,hC,hbn⟩;have hB2:=(hbn.block _ (Qr hB1)).trans hB1;have z0:w2.cell? ⟨w.heap.size,0,none⟩=some (.slice A g.chs.length c):=(by rw[Qb hB2];rfl);have z1:w2.cell? ⟨w.heap.size,1,none⟩=some (.slice M g.mid.length m):=(by rw[Qb hB2];rfl);replace hb:=bnx hb hbn;replace hC:=Qa.mk hC;clear hbn hw1 hB1 hB2 HC;go_wp2_with fail;refine(HWr.out w2 B q hb hC.out).mono ?_;rintro e w3 ⟨p,q1,bs,rfl,hW,hlen,hbn⟩;replace hb:=bnx hb hbn;have HLn:=Qa.mk (Dm w2.heap.size p q1 bs w3 hW);rw[hlen] at HLn;clear hbn hW hlen z0 z1 HWr hC;go_wp2_with fail;refine HLn.out.mono ?_;rintro e w4 ⟨rfl,rfl⟩;go_wp2;go_ret2;exact⟨rfl,hb⟩
end Gn

namespace Sp
attribute [local go_sem] Qh Qi Qk Ql Qd Qe
open Q15
open Q21
open Gn
open Q16 (isW Qx Zj Fb)
open St (Zr Va Vb)
open Bd (Z9)
open Bts (Rws Row Blk)
def Uk (ws:List Int) (c:Ch):List Int:=((List.range ws.length).map fun k=>Zn (Zj c.qu ws k) (rd c.sc k)).flatten
def Vd (ws:List Int) (c:Ch):List Int:=Yr (Qy c.fi) (Uk ws c) 128
def Y2 (g:Gr) (ws:List Int) (j:Nat):List Int:=
 if g.chs.length=2 then(if j=0 then Va (Vd ws (chK g 0)) (Vd ws (chK g 1)) (Zr ws g.mid ws.length) else Vb (Vd ws (chK g 0)) (Vd ws (chK g 1)) (Zr ws g.mid ws.length)).map Z5
 else Vd ws (chK g j)
def spJ (g:Gr) (ws:List Int) (j:Nat):List Int:=Z9 (chK g j).sh (chK g j).gr (Y2 g ws j) 128
def spL (g:Gr):List (List Int):=(List.range g.chs.length).map (spJ g (Qm (chK g 0).sh (chK g 0).gr))
theorem Z8 {ws c:List Int} (hw:isW ws=true) (hc:c.length=128) {k:Nat} (hk:k<ws.length):(Zj c ws k).length =Q16.wd ws k:=by
 obtain⟨o1,o2,o3,-⟩:=Q16.Q7 hw hk;unfold Q16.Zj;rw[List.length_take,List.length_drop];omega
theorem Qci {l:List Int} {s:Int} (h:chk isQ l s=0):(Zn l s).length =l.length:=by unfold Zn;rw[if_pos h,List.length_map]
theorem Qa4 {ws:List Int} {c:Ch} (hw:isW ws=true) (hq:c.qu.length=128) (hk: ∀k,k<ws.length->chk isQ (Zj c.qu ws k) (rd c.sc k)=0):(Uk ws c).length =128:=by
 have key: ∀n,n<=ws.length->(((List.range n).map fun k=>Zn (Zj c.qu ws k) (rd c.sc k)).flatten).length =Q16.off ws n:=by
  intro n
  induction n with
  |zero=>intro _;simp[Q16.off]
  |succ n ih=>
   intro hn;rw[List.range_succ,List.map_append,List.flatten_append,List.length_append,ih (by omega),(Q16.Q7 hw (by omega:n<ws.length)).1];simp only[List.map_cons,List.map_nil,List.flatten_cons,List.flatten_nil,List.append_nil];rw[Qci (hk n (by omega)),Z8 hw hq (by omega)]
 unfold Uk;rw[key _ (Nat.le_refl _)];unfold Q16.off;rw[List.take_length,(Qx.1 hw).2.1];rfl
theorem Qez {l:List Int} {s:Int} (hs:chk isQ l s=0): ∀x∈Zn l s,-2097152<=x/\x<=2097152:=by
 intro x hx;unfold Zn at hx;rw[if_pos hs] at hx;obtain⟨q,_,rfl⟩:=List.mem_map.1 hx;obtain⟨h1,h2,h3⟩:=P8 hs;have:=V_bd (x:=Yh s) (Xp q) (by have:=Nu h1.1 h1.2;omega);unfold sg
 split<;>omega
theorem Qde {ws:List Int} {c:Ch} (hk: ∀k,k<ws.length->chk isQ (Zj c.qu ws k) (rd c.sc k)=0): ∀x∈Uk ws c,-2097152<=x/\x<=2097152:=by
 intro x hx;obtain⟨l,hl,hx⟩:=List.mem_flatten.1 hx;obtain⟨k,hk2,rfl⟩:=List.mem_map.1 hl;exact Qez (hk k (List.mem_range.1 hk2)) x hx
theorem chkB {ws:List Int} {c:Ch} (hw:isW ws=true) (h:ChF ws c) (hs:c.sc.length=ws.length) {k:Nat} (hk:k<ws.length):chk isQ (Zj c.qu ws k) (rd c.sc k)=0:=by
 have h1:=Sca.Dz h.e _ (Qp c.sc k (by omega));have h2:=Z8 hw h.q hk;obtain⟨-,-,o3,-⟩:=Q16.Q7 hw hk
 have h3:(Zj c.qu ws k).all isQ=true:=List.all_eq_true.2 fun x hx=>by
  have hm:x∈c.qu:=List.mem_of_mem_drop (List.mem_of_mem_take hx);have:=List.all_eq_true.1 h.ok.vals x hm;unfold isQ;simpa using this
 have hS:isS (rd c.sc k)=true:=(by unfold isS;simpa using h1);unfold chk;rw[if_pos hS,if_pos (by omega),if_pos h3]
theorem Rws.blkc {wr w w1:World} {L:List Row} {G:List Blk} (h:Rws wr w L G) (hb:Below w.heap.size w w1) {b:Blk} (hg:w1.heap[b.g]? =some (.cells b.cs b.t (0,0))) (hs:w.heap.size<=b.g):Rws wr w1 L (G++[b]):=by
 refine⟨bnx h.below hb,fun r hr=>Nh (h.row r hr) hb,h.pair,fun c hc=> ?_,fun r hr c hc=> ?_,?_⟩
 ·rcases List.mem_append.1 hc with hc|hc
  ·exact⟨Qv (h.blk c hc).1 hb,(h.blk c hc).2⟩
  ·rw[List.mem_singleton.1 hc]
   exact⟨hg,Nat.le_trans h.below.size hs⟩
 ·rcases List.mem_append.1 hc with hc|hc
  ·exact h.far r hr c hc
  ·rw[List.mem_singleton.1 hc]
   intro e;have:=Fg (h.row r hr) _ e;omega
 ·refine List.pairwise_append.2 ⟨h.gs,List.pairwise_singleton _ _,fun a ha c hc=> ?_⟩
  rw[List.mem_singleton.1 hc];have:=Qr (h.blk a ha).1;omega
def T9 (w:World) (A:Option Addr) (xs:List Ch):Prop:= ∀(k:Nat) (ad:Addr) (B:Option Addr) (c:Nat),k<xs.length->A=some ad->w.cell? (ad.add (k*5+3))=some (.slice B (xs.getD k ch0).qu.length c)->(xs.getD k ch0).qu.length <=c/\c<=9223372036854775807
theorem Kk {w:World} {g:Nat} {l:List Int} (h:w.heap[g]? =some (.cells (l.map (Value.int .i64)).toArray 3 (0,0))) (hl:l.length<=1000000):(Kd.int .i64).C w (some ⟨g,0,none⟩) l.length l:=by
 refine Kd.Zu (enc:=Value.int .i64) (h1:=fun _=>rfl) (d:=(0:Int)) ⟨rfl,by omega,fun _=>⟨_,rfl,fun j hj=> ?_⟩⟩;rw[add_plain,Qb h];simp[hj]
def SOut (n:Nat) (Y:Nat->List Int) (w:World) (e:Ending) (w':World):Prop:=
 ∃(go cp:Nat) (cur:Array Value) (F:Nat->Nat),e= .returned (.tuple #[.slice (some ⟨go,0,none⟩) n cp,.int .i64 0])/\w'.heap[go]? =some (.cells cur 22 (0,0))/\(∀j,j<n->cur[j]? =some (.slice (some ⟨F j,0,none⟩) 128 128))/\(∀j,j<n->w'.heap[F j]? =some (.cells ((Y j).map (Value.int .i64)).toArray 3 (0,0)))/\Below w.heap.size w w'
end Sp

namespace Rs
attribute [local go_sem] Qh Qi Qk Ql Qd Qe
open Q15
open Q21
open Bd (Gp Aa Z9 Jl)
open St (at_ ge_ Ki sV)
open Bts (Rws Blk Rws.start)
open Sp (Rws.blkc)
theorem R9 (A C:Option Addr) (ca cc:Nat) (sh:Bool) (gs c:List Int) (w:World) (hr:(Kd.int .i64).C w A gs.length gs) (hd:Zc sh gs=true) (hc:(Kd.int .i64).C w C c.length c) (h128:c.length=128):
  Calls Tryz.prog 82 #[.slice C c.length cc,.bool sh,.slice A gs.length ca] w fun e w'=> ∃g,e= .returned (.tuple #[sV g,.int .i64 0])/\w'.heap[g]? =some (.cells ((Z9 sh gs c 128).map (Value.int .i64)).toArray 3 (0,0))/\w.heap.size<=g/\Below w.heap.size w w':=by
 obtain⟨al,rfl,-⟩:=Qn hc (Below.refl _ _) (k:=0) (by omega);have HC:=Qa.mk (fun W (hb:Below w.heap.size w W) k (hk:k<128)=>(show W.cell? (al.add k)=some (.int .i64 (rd c k)) by obtain⟨a,e,q⟩:=Qn hc hb (k:=k) (by omega);cases e;exact q));have HI:=Qa.mk (Ot sh A ca gs w hr);rw[hd] at HI;have HPl:=Qa.mk (fun W (hb:Below w.heap.size w W)=>Ct sh A ca gs W (Kd.Qf hr hb) hd);have HP:=Qa.mk (Aa hd);have hmk: ∀W:World,(Instr.makeSlice 22 (.int .i64 (128:Int)) (.int .i64 (128:Int))).run Tryz.prog W= .ok (sV W.heap.size) (W.alloc (.cells (List.replicate 128 (Value.int .i64 0)).toArray 3)):=Sec.X9 128 (by omega);obtain⟨Z0,hZ0⟩: ∃Z0,Z0=(List.replicate 128 (Value.int .i64 0)).toArray :=⟨_,rfl⟩;rw[<-hZ0] at hmk;have hZ:Qa (Z0=((Z9 sh gs c 0).map (Value.int .i64)).toArray):=⟨by rw[hZ0];simp[Z9]⟩;rw[h128];clear hr hd hc h128 hZ0;go_enter Tryz.func82,Tryz.ntmps82;go_wp2_with fail;refine HI.out.mono ?_;rintro e w1 ⟨rfl,hb⟩;have hR1:=((Rws.start w).step hb).alloc Z0 3;simp only[List.nil_append] at hR1;go_wp2_with fail;obtain⟨g,hg⟩: ∃g,g=w1.heap.size:=⟨_,rfl⟩;obtain⟨w2,hw2⟩: ∃w2,w2=w1.alloc (.cells Z0 3):=⟨_,rfl⟩;rw[<-hg,<-hw2] at hR1 ⊢;rw[hZ.out] at hR1;clear hg hw2 hmk HI hb;refine(HPl.out w2 hR1.below).mono ?_;rintro e w3 ⟨v,rfl,hRp,hbn⟩;obtain⟨gp,cp,U,rfl,hgp,hU,hBL,-,-⟩:=Ko hRp (by rw[Dc];omega);rw[Dc];have hR3:=Rws.blkc hR1 hbn (b:=⟨gp,U,3⟩) hU hgp
 have hUp:Qa (∀j,j<128->U[j]? =some (.int .i64 (Gp sh gs j:Nat))):=⟨fun j hj=>by
  rw[hBL j (by rw[Dc];exact hj)];unfold Db;rw[Yl _ _ (by simpa using hj)]
  simp⟩
 have hR3':=Qa.mk (show Rws w w3 [] [⟨g,((Z9 sh gs c 0).map (Value.int .i64)).toArray,3⟩,⟨gp,U,3⟩] from hR3);clear hRp hU hBL hgp hbn hR1 HPl hR3;go_wp2_with fail;go_loopw [23] (fun i wr=> ∃k:Nat,i= .int .i64 k/\k<=128/\Qa (Rws w wr [] [⟨g,((Z9 sh gs c k).map (Value.int .i64)).toArray,3⟩,⟨gp,U,3⟩])) (fun i _=>128-(intOf i).toNat)
 case atStart=>exact⟨0,rfl,by omega,hR3'⟩
 case round=>
  obtain⟨k,rfl,hk,hR⟩:=hrel;by_cases hlt:k<128
  ·have hkI:(k:Int)<128:=by omega
   have hp:=HP.out k hlt;have z1:wr.cell? ⟨gp,k,none⟩=some (.int .i64 (Gp sh gs k:Nat)):=(by rw[Qb (at_ hR.out 1 rfl)];exact hUp.out k hlt);have zc:=HC.out wr hR.out.below k hlt;obtain⟨p,hpE⟩: ∃p,p=Gp sh gs k:=⟨_,rfl⟩;have hst:Qa (Z9 sh gs c (k+1)=(Z9 sh gs c k).set p (rd c k)):=⟨by rw[hpE];rfl⟩;rw[<-hpE] at hp z1;obtain⟨X,hX⟩: ∃X,X=Z9 sh gs c k:=⟨_,rfl⟩;have hXl:X.length=128:=(by rw[hX,Jl]);rw[<-hX] at hR hst;have hpl:p<X.length:=(by omega);have zp:wr.cell? ⟨g,p,none⟩=some (.int .i64 X[p]):=(by rw[Qb (at_ hR.out 0 rfl)];simp[hpl]);have zf:=Qj (at_ hR.out 0 rfl) p;have hR4:=Ki hR.out 0 rfl p (.int .i64 (rd c k));have hXE:((List.map (Value.int .i64) X).toArray.setIfInBounds p (.int .i64 (rd c k)))=(List.map (Value.int .i64) (Z9 sh gs c (k+1))).toArray :=(by rw[hst.out];simp);dsimp only at hR4;rw[hXE] at hR4;replace hR4:=Qa.mk (show Rws w (wr.setCell ⟨g,p,none⟩ (.int .i64 (rd c k))) [] [⟨g,((Z9 sh gs c (k+1)).map (Value.int .i64)).toArray,3⟩,⟨gp,U,3⟩] from hR4);obtain⟨xv,hxv⟩: ∃xv,xv=X[p]:=⟨_,rfl⟩;rw[<-hxv] at zp;have hpI:(p:Int)<=127:=(by omega);have hpn: ¬(128:Int)<=p:=(by omega);have hT:=Qa.mk hlt;clear hX hXl hst hXE hpl hpE hp hR hlt hk hxv;go_wp2_with fail;go_roundw
   case rel=>exact⟨k+1,by go_num,hT.out,hR4⟩
   case measure=>have:=hT.out;simp[intOf];omega
  ·obtain rfl:k=128:=by omega
   go_wp2_with fail;go_ret2;exact⟨g,rfl,at_ hR.out 0 rfl,ge_ hR.out 0 rfl,hR.out.below⟩
end Rs

namespace Sp
attribute [local go_sem] Qh Qi Qk Ql Qd Qe
open Q15
open Q21
open Gn
open Bk (Z6)
open Q16 (isW Qx Zj Fb)
open St (Zr Va Vb at_ sV)
open Bd (Z9)
open Bts
open Runs Go.Shelf
attribute [local go_sem] Oper.semAt_some
theorem Qcz:(Tryz.prog.info? 22).map (fun i=>(i.zero,i.size,i.bytes))=some (some (.slice none 0 0),1,24):=by kernel_rfl
abbrev lisG (F:Nat->Nat) (R:Nat->List Int) (k:Nat):List Blk:=(List.range k).map fun j=>⟨F j,((R j).map (Value.int .i64)).toArray,3⟩
abbrev lisC (F:Nat->Nat) (k:Nat):List Value:=(List.range k).map fun j=>sV (F j)
theorem lis_new (F:Nat->Nat) (R:Nat->List Int) (k g:Nat):lisG F R k++[⟨g,((R k).map (Value.int .i64)).toArray,3⟩]=lisG (fun j=>if j=k then g else F j) R (k+1)/\lisC F k++[sV g]=lisC (fun j=>if j=k then g else F j) (k+1):=by
 unfold lisG lisC;rw[List.range_succ,List.map_append,List.map_append];refine⟨?_,?_⟩
 ·congr 1
  ·refine List.map_congr_left fun j hj=> ?_
   dsimp only;rw[if_neg (by have:=List.mem_range.1 hj;omega)]
  ·simp
 ·congr 1
  ·refine List.map_congr_left fun j hj=> ?_
   dsimp only;rw[if_neg (by have:=List.mem_range.1 hj;omega)]
  ·simp
theorem Rws.sub {wr w:World} {L:List Row} {G G':List Blk} (h:Rws wr w L G) (hs:G'.Sublist G):Rws wr w L G':=
 ⟨h.below,h.row,h.pair,fun b hb=>h.blk b (hs.subset hb),fun r hr b hb=>h.far r hr b (hs.subset hb),h.gs.sublist hs⟩
theorem Rws.unrow {wr w:World} {e n:Nat} {v:Value} {xs:List Value} {G:List Blk} (h:Rws wr w [⟨e,1,v,n,xs⟩] G) (hn:0<n): ∃(g cap:Nat) (cur:Array Value),v= .slice (some ⟨g,0,none⟩) n cap/\Rws wr w [] (⟨g,cur,e⟩::G)/\ ∀j,j<n->cur[j]? =xs[j]? :=by
 obtain⟨h1,h2⟩:=h.row _ (List.mem_singleton.2 rfl);dsimp only at h1 h2;rcases h2 with ⟨-,h0⟩|⟨g,cap,cur,rfl,hb,hg,h3,h4,h5,h6⟩
 ·omega
 ·refine⟨g,cap,cur,rfl,⟨h.below,by simp,.nil,fun b hb2=> ?_,by simp,?_⟩,fun j hj=> ?_⟩
  ·rcases List.mem_cons.1 hb2 with rfl|hb2
   ·exact⟨hg,hb⟩
   ·exact h.blk b hb2
  ·refine List.pairwise_cons.2 ⟨fun b hb2 e=> ?_,h.gs⟩
   have:=h.far _ (List.mem_singleton.2 rfl) b hb2;exact this (congrArg some e)
  ·rw[<-h6,List.getElem?_take_of_lt (by omega)]
   simp
theorem Lf (a:Addr) (n:Nat): ∀j,a.add (n+(j+1))=⟨(a.add n).block,(a.add n).off +(j+1),none⟩
 |0=>Sec.Zf a n
 |j+1=>by rw[show n+(j+1+1)=n+(j+1)+1 by omega,Sec.Zf,Lf a n j];rfl
theorem Mj (g:Gr) (A M:Option Addr) (c m:Nat) (w:World) (hL:Laid w) (h:Gz w g A c M m) (hs:Sm g) (hg:Jz g=true) (hcq:T9 w A g.chs):
  Calls Tryz.prog 13 #[grV g A c M m] w (SOut g.chs.length (spJ g (Qm (chK g 0).sh (chK g 0).gr)) w):=by
 obtain⟨xs,mid⟩:=g;unfold grV;have hG:=Kz.1 hg;have hn:=hG.n;dsimp only at hn;have hC:=Qa.mk h.chs;have hM:=Qa.mk h.mid;dsimp only at hC hM;have HW:=Qa.mk (fun(W:World) (hb:Below w.heap.size w W)=>Ja A M c m ⟨xs,mid⟩ W (hL.below hb) (h.below hb).chs hs);unfold Hf at HW;simp only[hg,if_true] at HW;have hws:=Yw hG.div;have hmid:=hG.mid
 have HF:=Qa.mk (fun k (hk:k<xs.length)=>(show ChF (Qm (chK ⟨xs,mid⟩ 0).sh (chK ⟨xs,mid⟩ 0).gr) (xs.getD k ch0)/\Zc (xs.getD k ch0).sh (xs.getD k ch0).gr =true/\(xs.getD k ch0).sc.length =(Qm (chK ⟨xs,mid⟩ 0).sh (chK ⟨xs,mid⟩ 0).gr).length by
  have hm:xs.getD k ch0∈xs:=(by rw[List.getD_eq_getElem?_getD,List.getElem?_eq_getElem hk];exact List.getElem_mem _);obtain⟨e1,e2,e3⟩:=hG.ch _ hm;have h4:=Ea hws e3;refine⟨h4,by rw[e1,e2];exact hG.div,?_⟩
  rw[h4.sc,Yz]))
 obtain⟨ws,hwsE⟩: ∃ws,ws=Qm (chK ⟨xs,mid⟩ 0).sh (chK ⟨xs,mid⟩ 0).gr :=⟨_,rfl⟩;rw[<-hwsE] at HW hws hmid HF ⊢;obtain⟨ad,-,-,-,-,-,-,-,-,rfl,-⟩:=Jt hC.out (Below.refl _ _) (k:=0) (by omega);have HQ:=Qa.mk hcq;have HLd:=Qa.mk hL;have HWs:=Qa.mk hws;have HMo:=Qa.mk hmid;have hmo:Tryz.prog.follows .mixedOrders =true:=(by kernel_rfl);have hu31:=Tryz.underlying31;have hu46:=Tryz.underlying46;have hnI:1<=(xs.length:Int)/\(xs.length:Int)<=2:=(by omega);have HN:=Qa.mk hn;have HY:Qa (∀j,spJ ⟨xs,mid⟩ ws j=Z9 (chK ⟨xs,mid⟩ j).sh (chK ⟨xs,mid⟩ j).gr (Y2 ⟨xs,mid⟩ ws j) 128):=⟨fun j=>rfl⟩;have hGx:Qa (∀j,chK ⟨xs,mid⟩ j=xs.getD j ch0):=⟨fun j=>rfl⟩;clear h hs hg hG hL hcq hws hwsE hmid hn;dsimp only;refine(callsIn_wide (n:=3)).1 ?_;refine callsIn_of_wp Tryz.func13 rfl trivial ?_ rfl;simp only[Tryz.ntmps13,List.size_toArray,List.length_cons,List.length_nil,Nat.reduceAdd,Nat.reduceSub,Array.replicate_succ,Array.replicate_zero,List.push_toArray,List.append_toArray,List.nil_append,List.cons_append];gi_wp2_with fail;obtain⟨W0,hW0⟩: ∃W0,W0=w.alloc (.cells #[.slice (some ad) xs.length c,.slice M mid.length m] 31):=⟨_,rfl⟩;have hR0:=((Rws.start w).nil 22 1).alloc #[.slice (some ad) xs.length c,.slice M mid.length m] 31;simp only[List.nil_append] at hR0;rw[<-hW0] at hR0 ⊢;clear hW0;refine⟨trivial,(callsIn_wide.2 (HW.out W0 hR0.below)).mono ?_⟩;rintro en W1 ⟨B,q,rfl,hB,hb1⟩;have hb01:=Qa.mk (bnx hR0.below hb1);have z0:W1.cell? ⟨w.heap.size,0,none⟩=some (.slice (some ad) xs.length c):=(by rw[Qb ((hR0.step hb1).blk ⟨w.heap.size, #[.slice (some ad) xs.length c,.slice M mid.length m],31⟩ (by simp)).1];rfl);have z1:W1.cell? ⟨w.heap.size,1,none⟩=some (.slice M mid.length m):=(by rw[Qb ((hR0.step hb1).blk ⟨w.heap.size, #[.slice (some ad) xs.length c,.slice M mid.length m],31⟩ (by simp)).1];rfl);have HZ:=Qa.mk (And.intro z0 z1);have hBr:=Qa.mk (fun(W:World) (hb:Below W1.heap.size W1 W)=>Kd.Qf hB hb);have hs1:=Qa.mk hb01.out.size;clear hR0 hb1 hB HW z1;gi_wp2_with fail;gi_loopw [6,26] (fun x i wr=> ∃(k:Nat) (F:Nat->Nat),i= .int .i64 k/\k<=xs.length/\Qa (Rws W1 wr [⟨22,1,x,k,lisC F k⟩] (lisG F (fun j=>Vd ws (xs.getD j ch0)) k))) (fun _ i _=>xs.length-(intOf i).toNat)
 case atStart=>exact⟨0,fun _=>0,rfl,by omega,⟨(Rws.start W1).nil 22 1⟩⟩
 case round=>
  obtain⟨k,F,rfl,hk,hRw⟩:=hrel;clear z0;by_cases hlt:k<xs.length
  ·have hbw:=bnx hb01.out hRw.out.below
   obtain⟨_,A1,c1,A2,c2,A3,c3,A4,c4,e,hcell,g1,g2,g3,g4⟩:=Jt hC.out hbw hlt;cases e;have hq9:=HQ.out k ad A3 c3 hlt rfl;obtain⟨_,B1,d1,B2,d2,B3,d3,B4,d4,e,hcell0,-,-,-,-⟩:=Jt hC.out (Below.refl _ _) hlt;cases e;have hq8:=cnx (hcell0 3 _ rfl) hbw;rw[hcell 3 _ rfl] at hq8
   injection hq8 with hq8
   rw[hq8] at hq9;obtain⟨q1,q2⟩:=hq9 (hcell0 3 _ rfl)
   injection hq8 with e3 _ e4
   subst e3 e4;clear hcell0;obtain⟨f1,f2,f3⟩:=HF.out k hlt;have hck:=fun j (hj:j<ws.length)=>chkB HWs.out f1 f3 hj
   have hvl:=Qa4 HWs.out f1.q hck;have hvb:=Qde hck
   have hfil:Ye (xs.getD k ch0).fi =true:=by
    unfold Ye;simp only[Bool.and_eq_true,decide_eq_true_eq];exact⟨f1.fl,List.all_eq_true.2 fun x hx=>by simpa using f1.fv x hx⟩
   obtain⟨X,hX⟩: ∃X,X=xs.getD k ch0:=⟨_,rfl⟩;have hRX:Vd ws (xs.getD k ch0)=Yr (Qy X.fi) (Uk ws X) 128:=(by rw[hX];rfl);rw[<-hX] at hcell g1 g2 g3 g4 f1 f2 f3 hck hvl hvb hfil q1;have herr:Fb (-1023) 1023 0 95 X.qu ws X.sc=0:=Qcw HWs.out f1.q f3 f1.ok.vals (List.all_eq_true.2 fun x hx=>by simpa using Sca.Dz f1.e x hx);have HV:=Qa.mk (fun(W:World) (hb:Below wr.heap.size wr W)=>Q16.Ty A3 B A2 c3 q c2 X.qu ws X.sc W (Kd.Qf g3 hb) (hBr.out W (bnx hRw.out.below hb)) (Kd.Qf g2 hb) q1 q2 herr);have HS:=Qa.mk (fun(W:World) (hb:Below wr.heap.size wr W) (A9:Option Addr) (c9:Nat) (hv:(Kd.int .i64).C W A9 (Uk ws X).length (Uk ws X))=>Sc A9 A4 c9 c4 (Uk ws X) X.fi W hv (Kd.Qf g4 hb) hfil (by omega) (fun x hx=>by have:=hvb x hx;omega));rw[hvl] at HS;have m0:wr.cell? (ad.add (k*5))=some (.bool X.sh):=hcell 0 _ rfl;have m1:=hcell 1 _ rfl;have m2:=hcell 2 _ rfl;have m3:=hcell 3 _ rfl;have m4:=hcell 4 _ rfl;rw[Lf] at m1 m2 m3 m4;have z0:=cnx HZ.out.1 hRw.out.below;have hkI:(k:Int)<(xs.length:Int):=(by omega);have hT:=Qa.mk hlt;replace hvl:=Qa.mk hvl;clear hX hck hvb hfil q1 q2 f1 f2 f3 hcell hlt hk herr g1 g2 g3 g4;gi_wp2_with fail;obtain⟨W9,hW9⟩: ∃W9,W9=wr.alloc (.cells #[.bool X.sh,.slice A1 X.gr.length c1,.slice A2 X.sc.length c2,.slice A3 X.qu.length c3,.slice A4 X.fi.length c4] 46):=⟨_,rfl⟩;have hbW9:Below wr.heap.size wr W9:=(by rw[hW9];exact(Below.refl _ _).alloc (Nat.le_refl _) _);have hR9:=Rws.blkc hRw.out hbW9 (b:=⟨wr.heap.size, #[.bool X.sh,.slice A1 X.gr.length c1,.slice A2 X.sc.length c2,.slice A3 X.qu.length c3,.slice A4 X.fi.length c4],46⟩) (by rw[hW9];exact heap_alloc_new _ _) (Nat.le_refl _);obtain⟨b9,hb9⟩: ∃b9,b9=wr.heap.size:=⟨_,rfl⟩;rw[<-hW9,<-hb9];rw[<-hb9] at hR9;refine⟨trivial,(callsIn_wide.2 (HV.out W9 hbW9)).mono ?_⟩;rintro en W10 ⟨v,rfl,hv,hb10⟩;obtain⟨A9,c9,rfl,-,hv9⟩:=Kd.Qs hv;have hR10:=hR9.step hb10;have hbw10:=bnx hbW9 hb10;have hvl9:((List.range ws.length).map fun k=>Zn (Zj X.qu ws k) (rd X.sc k)).flatten.length =128:=hvl.out;have HS2:=Qa.mk (HS.out W10 hbw10 A9 c9 (by rw[<-hvl.out];exact hv9));rw[hvl9];have u4:W10.cell? ⟨b9,4,none⟩=some (.slice A4 X.fi.length c4):=(by rw[Qb (hR10.blk ⟨b9, #[.bool X.sh,.slice A1 X.gr.length c1,.slice A2 X.sc.length c2,.slice A3 X.qu.length c3,.slice A4 X.fi.length c4],46⟩ (by simp)).1];rfl);clear hW9 hR9 hb10 hv hv9 hvl9 m0 m1 m2 m3 m4 z0 HV HS hbW9 hb9;replace hR10:=Qa.mk hR10;replace hbw10:=Qa.mk hbw10;gi_wp2_with fail;refine⟨trivial,(callsIn_wide.2 HS2.out).mono ?_⟩;rintro en W11 ⟨gr,rfl,hgr,hgs,hb11⟩;rw[<-hRX] at hgr;have hR11:=Rws.blkc hR10.out hb11 (b:=⟨gr,((Vd ws (xs.getD k ch0)).map (Value.int .i64)).toArray,3⟩) hgr hgs;replace hR11:=Rws.sub hR11 (G':=lisG F (fun j=>Vd ws (xs.getD j ch0)) k++[⟨gr,((Vd ws (xs.getD k ch0)).map (Value.int .i64)).toArray,3⟩]) (List.Sublist.append (List.sublist_append_left _ _) (List.Sublist.refl _));have hRl:=Qa.mk (hR11.alloc #[sV gr] 22);have hl9:Qa ((k+1)*24<=140737488355328):=⟨by have:=hT.out;have:=HN.out.2;omega⟩;clear hgr hgs hb11 hR11 hR10 hbw10 HS2 u4;gi_wp2_with (refine appIn (wr:=W1) (L1:=[]) (L2:=[]) (G:=_) rfl (.tmp 39) (.tmp 44) 24 22 rfl (.slice none 0 0) 1 24 Tryz.underlying24 Qcz rfl (by decide) (by decide) u6 k (lisC F k) rfl hRl.out ⟨W11.heap.size,0,none⟩ 1 1 [sV gr] rfl rfl (Gi _ _ _) (by simp[Value.oneCell']) hl9.out ?_;intro v1 wA hRA hgA hkA;have HRA:=Qa.mk hRA;have HKA:=Qa.mk hkA;clear hRA hgA hkA;obtain⟨A4,p4,hv4⟩:=Rz (HRA.out.row _ (List.mem_append_right _ (List.mem_cons_self)));dsimp only at hv4;subst hv4;skip);obtain⟨n1,n2⟩:=lis_new F (fun j=>Vd ws (xs.getD j ch0)) k gr;have hfin:=Qa.mk (Rws.sub HRA.out (List.sublist_append_left _ _));rw[n1,n2] at hfin;go_roundw
   case rel=>exact⟨k+1,fun j=>if j=k then gr else F j,by go_num,hT.out,hfin⟩
   case measure=>have:=hT.out;simp[intOf];omega
  ·obtain rfl:k=xs.length:=by omega
   obtain⟨go,cp,cur,rfl,hR2,hcj⟩:=Rws.unrow hRw.out HN.out.1;have hcF:Qa (∀j,j<xs.length->cur[j]? =some (sV (F j))):=⟨fun j hj=>by rw[hcj j hj];unfold lisC;simp[hj]⟩
   have hFj:Qa (∀j,j<xs.length->wr.heap[F j]? =some (.cells ((Vd ws (xs.getD j ch0)).map (Value.int .i64)).toArray 3 (0,0))/\F j≠go):=⟨fun j hj=>by
    have hm:(⟨F j,((Vd ws (xs.getD j ch0)).map (Value.int .i64)).toArray,3⟩:Blk)∈lisG F (fun j=>Vd ws (xs.getD j ch0)) xs.length:=List.mem_map.2 ⟨j,List.mem_range.2 hj,rfl⟩
    exact⟨(hR2.blk _ (List.mem_cons_of_mem _ hm)).1,fun e=>(List.pairwise_cons.1 hR2.gs).1 _ hm e.symm⟩⟩
   have hgo:=Qa.mk (And.intro (hR2.blk ⟨go,cur,22⟩ (by simp)).1 (Nat.le_trans hs1.out (hR2.blk ⟨go,cur,22⟩ (by simp)).2));have hbw:=bnx hb01.out hR2.below;have z0':=cnx HZ.out.1 hR2.below;have z1':=cnx HZ.out.2 hR2.below;have hB2:=Qa.mk (hBr.out wr hR2.below);replace hbw:=Qa.mk hbw;clear hlt hk hRw hR2 hcj hb01 HZ;by_cases h2:xs.length=2
   case' pos=>
    have hd2:((xs.length:Int)==2)=true:=(by rw[h2];rfl);have h2I:(1:Int)<(xs.length:Int):=(by omega);have hne: ¬xs=[]:=fun e=>by rw[e] at h2;simp at h2
    obtain⟨r0,hr0⟩: ∃r,r=Vd ws (xs.getD 0 ch0):=⟨_,rfl⟩;obtain⟨r1,hr1⟩: ∃r,r=Vd ws (xs.getD 1 ch0):=⟨_,rfl⟩;have hF0:=(hFj.out 0 (by omega)).1;have hF1:=(hFj.out 1 (by omega)).1;rw[<-hr0] at hF0;rw[<-hr1] at hF1;have l0:r0.length=128:=(by rw[hr0];exact Ze _ _ _);have l1:r1.length=128:=by rw[hr1];exact Ze _ _ _
    have hml:mid.length=ws.length:=by
     have:=HMo.out;unfold K9 at this;rw[if_neg (by omega)] at this;have:=of_decide_eq_true this;omega
    have HPt:=Qa.mk (fun(W:World) (hb:Below wr.heap.size wr W)=>St.Qbb (some ⟨F 0,0,none⟩) (some ⟨F 1,0,none⟩) B M 128 128 q m r0 r1 ws mid W (Kd.Qf (Kk hF0 (by omega)) hb) (Kd.Qf (Kk hF1 (by omega)) hb) (Kd.Qf hB2.out hb) (Kd.Qf hM.out (bnx hbw.out hb)) HWs.out l0 l1 hml (fun k hk=>by
     have b0:=Jq _ _ 128 _ (show rd r0 (k:Nat)∈Yr (Qy (xs.getD 0 ch0).fi) (Uk ws (xs.getD 0 ch0)) 128 by rw[<-show r0=Yr (Qy (xs.getD 0 ch0).fi) (Uk ws (xs.getD 0 ch0)) 128 from hr0];exact Qp r0 k (by omega));have b1:=Jq _ _ 128 _ (show rd r1 (k:Nat)∈Yr (Qy (xs.getD 1 ch0).fi) (Uk ws (xs.getD 1 ch0)) 128 by rw[<-show r1=Yr (Qy (xs.getD 1 ch0).fi) (Uk ws (xs.getD 1 ch0)) 128 from hr1];exact Qp r1 k (by omega))
     omega))
    rw[l0,l1] at HPt;unfold St.POut at HPt;obtain⟨X,hX⟩: ∃X,X=Va r0 r1 (Zr ws mid ws.length):=⟨_,rfl⟩;obtain⟨Y,hYE⟩: ∃Y,Y=Vb r0 r1 (Zr ws mid ws.length):=⟨_,rfl⟩;have lX:X.length=128:=(by rw[hX];unfold St.Va;rw[List.length_map,List.length_range,l0]);have lY:Y.length=128:=by rw[hYE];unfold St.Vb;rw[List.length_map,List.length_range,l0]
    have hmj:Qa (Y2 ⟨xs,mid⟩ ws 0=X.map Z5/\Y2 ⟨xs,mid⟩ ws 1=Y.map Z5):=⟨by
     unfold Y2;dsimp only;rw[if_pos h2,if_pos h2,if_pos rfl,if_neg (by decide),hX,hYE,hr0,hr1]
     exact⟨rfl,rfl⟩⟩
    rw[<-hX,<-hYE] at HPt;replace lX:=Qa.mk lX;replace lY:=Qa.mk lY;have h2':=Qa.mk h2;have k0:wr.cell? ⟨go,0,none⟩=some (sV (F 0)):=(by rw[Qb hgo.out.1];exact hcF.out 0 (by omega));have k1:wr.cell? ⟨go,1,none⟩=some (sV (F 1)):=(by rw[Qb hgo.out.1];exact hcF.out 1 (by omega));clear h2 hr0 hr1 hF0 hF1 l0 l1 hml hX hYE;gi_wp2_with fail;refine Go.wpIn_wide.2 (wp_region_noPanic (Z6 (fun W=>W.cell? ⟨go,0,none⟩=some (sV (F 0))/\W.cell? ⟨go,1,none⟩=some (sV (F 1))/\W.cell? ⟨w.heap.size,1,none⟩=some (.slice M mid.length m)) hmo ⟨k0,k1,z1'⟩ (fun hHeld=> ?_)))
    (refine Tk.tk 0 (.slice (some ⟨go,0,none⟩) xs.length cp) hHeld ?_)
    (refine Tk.tk 1 (.pointer (some ⟨go,0,none⟩)) hHeld ?_)
    (refine Tk.tk 2 (sV (F 0)) hHeld ?_)
    (refine Tk.tk 3 (.slice (some ⟨go,0,none⟩) xs.length cp) hHeld ?_)
    (refine Tk.tk 4 (.pointer (some ⟨go,1,none⟩)) hHeld ?_)
    (refine Tk.tk 5 (sV (F 1)) hHeld ?_)
    (refine Tk.tk 6 (.slice B ws.length q) hHeld ?_)
    (refine Tk.tk 7 (.pointer (some ⟨w.heap.size,1,none⟩)) hHeld ?_)
    (refine Tk.tk 8 (.slice M mid.length m) hHeld ?_)
    (refine wpAnyH_ready (rs:=[9]) (by kernel_rfl) (by simp) ?_;refine AllReadyH.cons rfl (fun K hK=> ?_) AllReadyH.nil;go_simp)
    refine(HPt.out _ (Below.refl _ _).drew).mono ?_;rintro en W2 ⟨gx,gy,rfl,hgx,hgy,hxs,hys,hxy,hb2⟩;have hb2':=bnx (Below.refl wr.heap.size wr).drew hb2
    (go_wp2_with fail;refine hK.out _ _ (⟨cnx k0 hb2',cnx k1 hb2',cnx z1' hb2'⟩) (fun hHeld=> ?_);clear hK K;try simp only[Act.put,Tk.z1,Tk.z2,Tk.z3,Tk.z4,Tk.z5,Tk.z6])
    (refine Tk.tk 10 (.tuple #[sV gx,sV gy,.int .i64 0]) hHeld ?_)
    (refine Tk.tk 11 (sV gx) hHeld ?_)
    (refine Tk.tk 12 (sV gy) hHeld ?_)
    (refine Tk.tk 13 (.int .i64 0) hHeld ?_)
    (refine Tk.tk 14 (sV gx) hHeld ?_)
    (refine Tk.tk 15 (sV gy) hHeld ?_)
    (refine Tk.tk 16 (.int .i64 0) hHeld ?_)
    refine wpAnyH_done (by kernel_rfl) ?_ _;refine NoPanic.normal ?_;have hCx:=Qa.mk (fun(W:World) (hb:Below W2.heap.size W2 W)=>Ti (some ⟨gx,0,none⟩) 128 X W (Kd.Qf (Kk hgx (by rw[lX.out];decide)) hb) (by rw[lX.out];decide));have hCy:=Qa.mk (fun(W:World) (hb:Below W2.heap.size W2 W)=>Ti (some ⟨gy,0,none⟩) 128 Y W (Kd.Qf (Kk hgy (by rw[lY.out];decide)) hb) (by rw[lY.out];decide));rw[lX.out] at hCx;rw[lY.out] at hCy;replace hb2':=Qa.mk hb2';have hZ0:=Qa.mk z0';clear hgx hgy hxs hys hxy hb2 hHeld k0 k1 HPt z0' z1' hne;gi_wp2_with fail;refine⟨trivial,(callsIn_wide.2 (hCx.out W2 (Below.refl _ _))).mono ?_⟩;rintro en W3 ⟨h0,rfl,hh0,hs0,hb3⟩;gi_wp2_with fail;refine⟨trivial,(callsIn_wide.2 (hCy.out W3 hb3)).mono ?_⟩;rintro en W4 ⟨h1,rfl,hh1,hs4,hb4⟩;have e0:=(hb4.block _ (Qr hh0)).trans hh0;have l30:=Qr hh0;have l41:=Qr hh1;have hb04:=bnx hbw.out (bnx hb2'.out (bnx hb3 hb4));obtain⟨Wz,hWz⟩: ∃W,W=W4.alloc (.cells #[sV h0,sV h1] 22):=⟨_,rfl⟩;have hb45:Below W4.heap.size W4 Wz:=(by rw[hWz];exact(Below.refl _ _).alloc (Nat.le_refl _) _);have hbz:=Qa.mk (bnx hb04 hb45);have hgz0:Wz.heap[W4.heap.size]? =some (.cells #[sV h0,sV h1] 22 (0,0)):=(by rw[hWz];exact heap_alloc_new _ _);obtain⟨gz,hgzE⟩: ∃g,g=W4.heap.size:=⟨_,rfl⟩;rw[<-hgzE] at hgz0;have hgz:=Qa.mk (And.intro hgz0 (show w.heap.size<=gz by rw[hgzE];exact hb04.size))
    have hx0:Qa (∀j,j<xs.length-> #[sV h0,sV h1][j]? =some (sV (if j=0 then h0 else h1))):=⟨fun j hj=>by
     rw[h2'.out] at hj;have:j=0\/j=1:=by omega
     rcases this with rfl|rfl<;>rfl⟩
    have hx1:Qa (∀j,j<xs.length->Wz.heap[if j=0 then h0 else h1]? =some (.cells ((Y2 ⟨xs,mid⟩ ws j).map (Value.int .i64)).toArray 3 (0,0))/\(if j=0 then h0 else h1)≠gz):=⟨fun j hj=>by
     rw[h2'.out] at hj;have hj2:j=0\/j=1:=(by omega);have:=hb4.size;rcases hj2 with rfl|rfl
     ·rw[if_pos rfl,hmj.out.1]
      exact⟨Qv e0 hb45,by omega⟩
     ·rw[if_neg (by decide),hmj.out.2]
      exact⟨Qv hh1 hb45,by omega⟩⟩
    obtain⟨Fz,hFzE⟩: ∃F:Nat->Nat,F=fun j=>if j=0 then h0 else h1:=⟨_,rfl⟩
    have hcz:Qa (∀j,j<xs.length-> #[sV h0,sV h1][j]? =some (sV (Fz j))):=⟨fun j hj=>by rw[hFzE];exact hx0.out j hj⟩;have hFz:Qa (∀j,j<xs.length->Wz.heap[Fz j]? =some (.cells ((Y2 ⟨xs,mid⟩ ws j).map (Value.int .i64)).toArray 3 (0,0))/\Fz j≠gz):=⟨fun j hj=>by rw[hFzE];exact hx1.out j hj⟩;have y0:=cnx hZ0.out (bnx hb2'.out (bnx hb3 hb4));have y0l:=World.block_lt_of_cell? _ _ y0;clear hx0 hx1 hFzE hh0 hh1 hs0 hs4 e0 l30 l41 hb04 hb45 hb3 hb4 hgz0 hmj;gi_wp2_with fail;rw[<-hWz,<-hgzE];obtain⟨curz,hcE⟩: ∃c,c= #[sV h0,sV h1]:=⟨_,rfl⟩;rw[<-hcE] at hgz hcz;obtain⟨wq,rfl⟩: ∃W:World,W=wr:=⟨_,rfl⟩;obtain⟨cp,hcp⟩: ∃c:Nat,c=2:=⟨_,rfl⟩;have hV:Value.slice (some ⟨gz,0,none⟩) 2 2= .slice (some ⟨gz,0,none⟩) xs.length cp:=(by rw[h2'.out,hcp]);rw[hV];clear hV hcp hWz hgzE hcE hgo hcF hFj hB2 hbw hb2' hCx hCy y0 y0l
   case' neg=>
    have hd2:((xs.length:Int)==2)=false:=(by simpa using (show¬(xs.length:Int)=2 by omega));have hmj:Qa (∀j,Y2 ⟨xs,mid⟩ ws j=Vd ws (xs.getD j ch0)):=⟨fun j=>by unfold Y2;rw[if_neg h2];rfl⟩;have h2':=Qa.mk h2;have hFz:Qa (∀j,j<xs.length->wr.heap[F j]? =some (.cells ((Y2 ⟨xs,mid⟩ ws j).map (Value.int .i64)).toArray 3 (0,0))/\F j≠go):=⟨fun j hj=>by rw[hmj.out];exact hFj.out j hj⟩;clear h2 hmj;gi_wp2_with fail;obtain⟨Wz,rfl⟩: ∃W:World,W=wr:=⟨_,rfl⟩;obtain⟨gz,rfl⟩: ∃g:Nat,g=go:=⟨_,rfl⟩;obtain⟨Fz,rfl⟩: ∃F':Nat->Nat,F'=F:=⟨_,rfl⟩;obtain⟨curz,rfl⟩: ∃c:Array Value,c=cur:=⟨_,rfl⟩;have hbz:=hbw;have hgz:=hgo;have hcz:=hcF;clear hgo hcF hFj hB2 hbw z0' z1'
   all_goals
    gi_loopw [72] (fun i wr=> ∃(k:Nat) (cu:Array Value) (F:Nat->Nat),i= .int .i64 k/\k<=xs.length/\Qa (wr.heap[gz]? =some (.cells cu 22 (0,0))/\(∀j,j<xs.length->cu[j]? =some (sV (F j)))/\(∀j,j<xs.length->wr.heap[F j]? =some (.cells ((if j<k then spJ ⟨xs,mid⟩ ws j else Y2 ⟨xs,mid⟩ ws j).map (Value.int .i64)).toArray 3 (0,0))/\F j≠gz))/\Qa (Kp gz none Wz wr)) (fun i _=>xs.length-(intOf i).toNat)
    case atStart=>exact⟨0,curz,Fz,rfl,by omega,⟨hgz.out.1,hcz.out,fun j hj=>by rw[if_neg (by omega)];exact hFz.out j hj⟩,⟨Kp.refl _ _ _⟩⟩
    case round=>
     obtain⟨k,cu,F,rfl,hk,hI,hK⟩:=hrel;by_cases hlt:k<xs.length
     ·obtain⟨i1,i2,i3⟩:=hI.out
      have hbr:=hbz.out.trans (hK.out.below (B:=w.heap.size) hgz.out.2 (fun k e=>by cases e) hbz.out.size);obtain⟨_,A1,c1,A2,c2,A3,c3,A4,c4,e,hcell,g1,-,-,-⟩:=Jt hC.out hbr hlt;cases e;obtain⟨-,f2,-⟩:=HF.out k hlt;have hfk:=(i3 k hlt).1;rw[if_neg (by omega)] at hfk
      have hzl:(Y2 ⟨xs,mid⟩ ws k).length =128:=by
       unfold Y2
       split
       ·rw[List.length_map]
        split
        ·unfold St.Va;rw[List.length_map,List.length_range];exact Ze _ _ _
        ·unfold St.Vb;rw[List.length_map,List.length_range];exact Ze _ _ _
       ·exact Ze _ _ _
      have hyk:spJ ⟨xs,mid⟩ ws k=Z9 (xs.getD k ch0).sh (xs.getD k ch0).gr (Y2 ⟨xs,mid⟩ ws k) 128:=rfl;obtain⟨X,hX⟩: ∃X,X=xs.getD k ch0:=⟨_,rfl⟩;rw[<-hX] at hcell g1 f2 hyk;obtain⟨Z,hZE⟩: ∃Z,Z=Y2 ⟨xs,mid⟩ ws k:=⟨_,rfl⟩;rw[<-hZE] at hfk hzl hyk;obtain⟨fk,hfkE⟩: ∃f,f=F k:=⟨_,rfl⟩;have hck:=i2 k hlt;rw[<-hfkE] at hfk hck;have HSc:=Qa.mk (fun(W:World) (hb:Below wr.heap.size wr W)=>Bd.Mg A1 (some ⟨fk,0,none⟩) c1 128 X.sh X.gr Z W (HLd.out.below (bnx hbr hb)) (Kd.Qf g1 hb) f2 (Kd.Qf (Kk hfk (by omega)) hb) hzl);rw[hzl] at HSc;rw[<-hyk] at HSc;have m0:wr.cell? (ad.add (k*5))=some (.bool X.sh):=hcell 0 _ rfl;have m1:=hcell 1 _ rfl;have m2:=hcell 2 _ rfl;have m3:=hcell 3 _ rfl;have m4:=hcell 4 _ rfl;rw[Lf] at m1 m2 m3 m4;have hkI:(k:Int)<(xs.length:Int):=(by omega);have hT:=Qa.mk hlt;obtain⟨W9,hW9⟩: ∃W9,W9=wr.alloc (.cells #[.bool X.sh,.slice A1 X.gr.length c1,.slice A2 X.sc.length c2,.slice A3 X.qu.length c3,.slice A4 X.fi.length c4] 46):=⟨_,rfl⟩;have hbW9:Below wr.heap.size wr W9:=(by rw[hW9];exact(Below.refl _ _).alloc (Nat.le_refl _) _);obtain⟨b9,hb9⟩: ∃b,b=wr.heap.size:=⟨_,rfl⟩;have hB9:W9.heap[b9]? =some (.cells #[.bool X.sh,.slice A1 X.gr.length c1,.slice A2 X.sc.length c2,.slice A3 X.qu.length c3,.slice A4 X.fi.length c4] 46 (0,0)):=(by rw[hW9,hb9];exact heap_alloc_new _ _);clear hfk hzl hyk hX hZE hfkE f2 g1 hcell hbr hlt hk;gi_wp2_with fail;rw[<-hW9,<-hb9];have hbs:wr.heap.size<=b9:=(by rw[hb9];exact Nat.le_refl _);clear hW9 hb9;have s0:=Qb hB9 0;have s1:=Qb hB9 1;have sg:W9.cell? ⟨gz,k,none⟩=some (sV fk):=(by rw[Qb (Qv i1 hbW9)];exact hck);refine Go.wpIn_wide.2 (wp_region_noPanic (Z6 (fun W=>W.cell? ⟨b9,0,none⟩=some (.bool X.sh)/\W.cell? ⟨b9,1,none⟩=some (.slice A1 X.gr.length c1)) hmo ⟨s0,s1⟩ (fun hHeld=> ?_)));clear m0 m1 m2 m3 m4
      (refine Tk.tk 0 (.slice (some ⟨gz,0,none⟩) xs.length cp) hHeld ?_)
      (refine Tk.tk 1 (.int .i64 k) hHeld ?_)
      (refine Tk.tk 2 (.slice (some ⟨gz,0,none⟩) xs.length cp) hHeld ?_)
      (refine Tk.tk 3 (.int .i64 k) hHeld ?_)
      (refine Tk.tk 4 (.pointer (some ⟨gz,k,none⟩)) hHeld ?_)
      (refine Tk.tk 6 (.pointer (some ⟨b9,0,none⟩)) hHeld ?_)
      (refine Tk.tk 7 (.bool X.sh) hHeld ?_)
      (refine Tk.tk 8 (.pointer (some ⟨b9,1,none⟩)) hHeld ?_)
      (refine Tk.tk 9 (.slice A1 X.gr.length c1) hHeld ?_)
      (refine wpAnyH_ready (rs:=[5]) (by kernel_rfl) (by simp) ?_;refine AllReadyH.cons rfl (fun K hK=> ?_) AllReadyH.nil;go_simp)
      (go_wp2_with fail;refine hK.out _ _ (hHeld) (fun hHeld=> ?_);clear hK K;try simp only[Act.put,Tk.z1,Tk.z2,Tk.z3,Tk.z4,Tk.z5,Tk.z6])
      (refine wpAnyH_ready (rs:=[10]) (by kernel_rfl) (by simp) ?_;refine AllReadyH.cons rfl (fun K hK=> ?_) AllReadyH.nil;go_simp)
      refine(HSc.out _ (bnx hbW9 (Below.refl _ _).drew)).mono ?_;rintro en W10 ⟨gs,rfl,hgs,hgs2,hb10⟩;have hb9T:=bnx (Below.refl W9.heap.size W9).drew hb10
      (go_wp2_with fail;refine hK.out _ _ (⟨cnx s0 hb9T,cnx s1 hb9T⟩) (fun hHeld=> ?_);clear hK K;try simp only[Act.put,Tk.z1,Tk.z2,Tk.z3,Tk.z4,Tk.z5,Tk.z6])
      (refine Tk.tk 11 (.tuple #[sV gs,.int .i64 0]) hHeld ?_)
      (refine Tk.tk 12 (sV gs) hHeld ?_)
      (refine Tk.tk 13 (.int .i64 0) hHeld ?_)
      (refine Tk.tk 14 (.pointer (some ⟨gz,k,none⟩)) hHeld ?_)
      (refine wpAnyH_ready (rs:=[15]) (by kernel_rfl) (by simp) ?_;refine AllReadyH.cons rfl (fun K hK=> ?_) AllReadyH.nil;go_simp)
      have hbT:=bnx hbW9 hb9T;have hG10:=Qv i1 hbT;have fz:=Qj hG10 k;have zk:=cnx sg hb9T;have hgl:=Qr i1;have hne:gz≠b9:=(by omega);have hB10:=X4 (Qv hB9 hb9T) (p:=⟨gz,k,none⟩) (Ne.symm hne) (sV gs);go_simp
      (go_wp2_with fail;refine hK.out _ _ (⟨by rw[Qb hB10];rfl,by rw[Qb hB10];rfl⟩) (fun hHeld=> ?_);clear hK K;try simp only[Act.put,Tk.z1,Tk.z2,Tk.z3,Tk.z4,Tk.z5,Tk.z6])
      refine wpAnyH_done (by kernel_rfl) ?_ _;refine NoPanic.normal ?_;have hcu:k<cu.size:=(Array.getElem?_eq_some_iff.1 hck).1;have hG11:=Q9 hG10 k (sV gs);have hgsl:gs≠gz:=by have:=hbT.size;have:=(Below.refl W9.heap.size W9).drew.size;have:=hbW9.size;omega
      have hIn:Qa ((W10.setCell ⟨gz,k,none⟩ (sV gs)).heap[gz]? =some (.cells (cu.setIfInBounds k (sV gs)) 22 (0,0))/\(∀j,j<xs.length->(cu.setIfInBounds k (sV gs))[j]? =some (sV (if j=k then gs else F j)))/\(∀j,j<xs.length->(W10.setCell ⟨gz,k,none⟩ (sV gs)).heap[if j=k then gs else F j]? =some (.cells ((if j<k+1 then spJ ⟨xs,mid⟩ ws j else Y2 ⟨xs,mid⟩ ws j).map (Value.int .i64)).toArray 3 (0,0))/\(if j=k then gs else F j)≠gz)):=⟨hG11,fun j hj=>by
       by_cases e:j=k
       ·subst e;rw[if_pos rfl,Array.getElem?_setIfInBounds,if_pos rfl,if_pos hcu]
       ·rw[if_neg e,Array.getElem?_setIfInBounds,if_neg (Ne.symm e)];exact i2 j hj,fun j hj=>by
       by_cases e:j=k
       ·subst e
        rw[if_pos rfl,if_pos (by omega)];exact⟨X4 hgs (p:=⟨gz,j,none⟩) hgsl _,hgsl⟩
       ·obtain⟨p1,p2⟩:=i3 j hj
        rw[if_neg e];refine⟨X4 ?_ (p:=⟨gz,k,none⟩) p2 _,p2⟩;rw[Qv p1 hbT];by_cases e2:j<k
        ·rw[if_pos e2,if_pos (by omega)]
        ·rw[if_neg e2,if_neg (by omega)]⟩
      have hKn:=Qa.mk ((hK.out.Zk (hbT.mono hK.out.size)).Dj k (sV gs));clear hG11 hG10 hgs hgs2 hb10 hb9T hbT fz zk hgl hne hB10 hHeld sg s0 s1 hB9 hbW9 i1 i2 i3 HSc hck hcu hgsl hI hK;gi_wp2;go_roundw
      case rel=>exact⟨k+1,_,fun j=>if j=k then gs else F j,by go_num,hT.out,hIn,hKn⟩
      case measure=>have:=hT.out;simp[intOf];omega
     ·obtain rfl:k=xs.length:=by omega
      obtain⟨i1,i2,i3⟩:=hI.out;have hbr:=Qa.mk (hbz.out.trans (hK.out.below (B:=w.heap.size) hgz.out.2 (fun k e=>by cases e) hbz.out.size));have hfin:Qa (∀j,j<xs.length->wr.heap[F j]? =some (.cells ((spJ ⟨xs,mid⟩ ws j).map (Value.int .i64)).toArray 3 (0,0))):=⟨fun j hj=>by have:=(i3 j hj).1;rwa [if_pos hj] at this⟩;replace i1:=Qa.mk i1;replace i2:=Qa.mk i2;clear i3 hI hK hlt hk;gi_wp2;go_ret2;exact⟨gz,cp,cu,F,rfl,i1.out,i2.out,hfin.out,hbr.out⟩
end Sp

namespace Rq
attribute [local go_sem] Qh Qi Qk Ql Qd Qe
open Q15
open Q21
open Q16 (isW)
open Gn
open Sp (T9)
theorem Qeo (AC M:Option Addr) (cC cM:Nat) (xs:List Ch) (mid:List Bool) (w:World) (hc:kCh.C w AC xs.length xs) (hq:T9 w AC xs) (hbd: ∀x∈xs,x.sc.length<=1000000/\x.qu.length<=1000000/\x.fi.length<=1000000/\x.gr.length<=1000000) (hn:1<=xs.length/\xs.length<=2) (hd:Zc (xs.getD 0 ch0).sh (xs.getD 0 ch0).gr =true):
  Calls Tryz.prog 22 #[.agg #[.slice AC xs.length cC,.slice M mid.length cM]] w fun e w'=>e= .returned (.bool (Jz ⟨xs,mid⟩))/\Below w.heap.size w w':=by
 obtain⟨w1,hw1⟩: ∃w1,w1=w.alloc (.cells #[.slice AC xs.length cC,.slice M mid.length cM] 31):=⟨_,rfl⟩;have hb:Below w.heap.size w w1:=(by rw[hw1];exact(Below.refl _ _).alloc (Nat.le_refl _) _);have hu31:=Tryz.underlying31;have hu46:=Tryz.underlying46;obtain⟨ad,A1,c1,A2,c2,A3,c3,A4,c4,rfl,hcell,g1,-,-,-⟩:=Jt hc hb (k:=0) (by omega);have HW:=Qa.mk (fun(W:World) (hb2:Below w1.heap.size w1 W)=>Q21.Xl (xs.getD 0 ch0).sh A1 c1 (xs.getD 0 ch0).gr W (Kd.Qf g1 hb2));unfold D7 Kb at HW;rw[hd,if_pos rfl,if_pos rfl] at HW;have HS:=Qa.mk (fun(W:World) (hb2:Below w1.heap.size w1 W) (B:Option Addr) (q:Nat) (l:List Int) (hl:(Kd.int .i64).C W B l.length l) (hl9:l.length<=1000000)=>Qbf B A1 q c1 l (xs.getD 0 ch0).gr W hl (Kd.Qf g1 hb2) (by omega));have HWi:=Qa.mk (Yw hd)
 have hgO:Jz ⟨xs,mid⟩=(K9 xs.length mid.length (Qm (xs.getD 0 ch0).sh (xs.getD 0 ch0).gr).length &&xs.all (chG (xs.getD 0 ch0))):=by
  unfold Jz;rw[show chK ⟨xs,mid⟩ 0=xs.getD 0 ch0 from rfl,hd,decide_eq_true (show 1<=xs.length/\xs.length<=2 from hn)];rfl
 obtain⟨X,hX⟩: ∃X,X=xs.getD 0 ch0:=⟨_,rfl⟩;have hdX:=Qa.mk hd;rw[<-hX] at hcell HW HWi HS hgO hdX;have hchG:Qa (∀c,chG X c=(Zc c.sh c.gr&&(decide (c.sh=X.sh/\c.gr=X.gr)&&Ga (Qm X.sh X.gr) c.sc c.qu c.fi))):=⟨fun c=>rfl⟩;obtain⟨ws,hws⟩: ∃ws,ws=Qm X.sh X.gr:=⟨_,rfl⟩;rw[<-hws] at HW HWi hchG hgO;have HM:=Qa.mk (fun(W:World)=>Qca M cM mid.length (xs.length:Int) (ws.length:Int) W);rw[show(if(xs.length:Int)=1 then decide (mid.length=0) else decide ((mid.length:Int)=(ws.length:Int)))=K9 xs.length mid.length ws.length from rfl] at HM;have n0:w1.cell? ad=some (.bool X.sh):=(by simpa[Addr.add] using hcell 0 _ rfl);have n1:w1.cell? ⟨ad.block,ad.off+1,none⟩=some (.slice A1 X.gr.length c1):=(by simpa[Addr.add] using hcell 1 _ rfl);have n2:w1.cell? ⟨ad.block,ad.off+2,none⟩=some (.slice A2 X.sc.length c2):=(by simpa[Addr.add] using hcell 2 _ rfl);have n3:w1.cell? ⟨ad.block,ad.off+3,none⟩=some (.slice A3 X.qu.length c3):=(by simpa[Addr.add] using hcell 3 _ rfl);have n4:w1.cell? ⟨ad.block,ad.off+4,none⟩=some (.slice A4 X.fi.length c4):=(by simpa[Addr.add] using hcell 4 _ rfl);have t1:decide ((xs.length:Int)<1)=false:=decide_eq_false (by omega);have t2:decide (2<(xs.length:Int))=false:=decide_eq_false (by omega);have t3:(0:Int)<(xs.length:Int):=(by omega);have hwl:=Qa.mk ((Q16.Qx.1 HWi.out).2.2);have HC:=Qa.mk hc;have HQ:=Qa.mk hq;have Hbd:=Qa.mk hbd;rw[hw1] at n0 n1 n2 n3 n4;obtain⟨OK,hOK⟩: ∃OK,OK=Jz ⟨xs,mid⟩:=⟨_,rfl⟩;rw[<-hOK] at hgO ⊢;replace hgO:=Qa.mk hgO;obtain⟨mo,hmo⟩: ∃mo,mo=K9 xs.length mid.length ws.length:=⟨_,rfl⟩;rw[<-hmo] at hgO HM;have hn2:=Qa.mk hn.2;clear hcell hX hd hn hc g1 hws hbd hOK hq hmo;go_enter Tryz.func22,Tryz.ntmps22;go_wp2_with fail;rw[<-hw1];have hB1:w1.heap[w.heap.size]? =some (.cells #[.slice (some ad) xs.length cC,.slice M mid.length cM] 31 (0,0)):=(by rw[hw1];exact heap_alloc_new _ _);obtain⟨w1b,hw1b⟩: ∃w1b,w1b=w1.alloc (.cells #[.bool X.sh,.slice A1 X.gr.length c1,.slice A2 X.sc.length c2,.slice A3 X.qu.length c3,.slice A4 X.fi.length c4] 46):=⟨_,rfl⟩;have hb1b:Below w1.heap.size w1 w1b:=(by rw[hw1b];exact(Below.refl _ _).alloc (Nat.le_refl _) _);have hBb:w1b.heap[w1.heap.size]? =some (.cells #[.bool X.sh,.slice A1 X.gr.length c1,.slice A2 X.sc.length c2,.slice A3 X.qu.length c3,.slice A4 X.fi.length c4] 46 (0,0)):=(by rw[hw1b];exact heap_alloc_new _ _);rw[<-hw1b];clear hw1b;refine(HW.out _ hb1b).mono ?_;rintro e w2 ⟨B,q,rfl,hCw,hbn⟩;have hb12:=bnx hb1b hbn;have hb2:=bnx hb hb12;have z1:w2.cell? ⟨w.heap.size,1,none⟩=some (.slice M mid.length cM):=(by rw[Qb ((hb12.block _ (Qr hB1)).trans hB1)];rfl);have z0:w2.cell? ⟨w.heap.size,0,none⟩=some (.slice (some ad) xs.length cC):=(by rw[Qb ((hb12.block _ (Qr hB1)).trans hB1)];rfl);have y0:w2.cell? ⟨w1.heap.size,0,none⟩=some (.bool X.sh):=(by rw[Qb ((hbn.block _ (Qr hBb)).trans hBb)];rfl);have y1:w2.cell? ⟨w1.heap.size,1,none⟩=some (.slice A1 X.gr.length c1):=(by rw[Qb ((hbn.block _ (Qr hBb)).trans hBb)];rfl);replace hCw:=Qa.mk hCw;obtain⟨b5,hb5⟩: ∃b5,b5=w1.heap.size:=⟨_,rfl⟩;have hb5':w.heap.size+1=b5:=(by rw[hb5,hw1];simp);rw[<-hb5] at y0 y1;rw[hb5'];clear hb5';clear hbn n0 n1 n2 n3 n4 hw1 hb hB1 hBb hb5 hb1b;go_wp2_with fail;refine(HM.out _).mono ?_;rintro e w3 ⟨rfl,hbn⟩;replace hb2:=bnx hb2 hbn;replace hb12:=bnx hb12 hbn;replace z0:=cnx z0 hbn;replace y0:=cnx y0 hbn;replace y1:=cnx y1 hbn;replace hCw:=Qa.mk (Kd.Qf hCw.out hbn);clear hbn z1
 cases mo with
 |false=>
  have hE:Qa (OK=false):=⟨by rw[hgO.out];rfl⟩;go_wp2_with fail;go_ret;exact⟨by rw[hE.out];rfl,hb2⟩
 |true=>
  have hgO2:Qa (OK=xs.all (chG X)):=⟨by rw[hgO.out];rfl⟩;go_wp2_with fail;have hnI:(xs.length:Int)<=2:=(by have:=hn2.out;omega);go_loopw [46] (fun i wr=> ∃k:Nat,i= .int .i64 k/\k<=xs.length/\Qa ((xs.take k).all (chG X)=true)/\Below w3.heap.size w3 wr) (fun i _=>xs.length-(intOf i).toNat)
  case atStart=>exact⟨0,rfl,by omega,⟨by simp⟩,Below.refl _ _⟩
  case round=>
   obtain⟨k,rfl,hk,ha,hb3⟩:=hrel;by_cases hlt:k<xs.length
   ·obtain⟨ad2,D1,d1,D2,d2,D3,d3,D4,d4,had,hcell,g1,g2,g3,g4⟩:=Jt HC.out (bnx hb2 hb3) hlt
    cases had;obtain⟨hT1,hT2⟩:=Oy (d:=ch0) hlt ha.out;have hT3:=Qa.mk (hchG.out (xs.getD k ch0));obtain⟨l2,l3,l4,l1⟩:=Hbd.out (xs.getD k ch0) (by rw[List.getD_eq_getElem?_getD,List.getElem?_eq_getElem hlt];exact List.getElem_mem hlt)
    have hcap:(xs.getD k ch0).qu.length <=d3/\d3<=9223372036854775807:=by
     obtain⟨ad2,E1,e1,E2,e2,E3,e3,E4,e4,had,hcell0,-⟩:=Jt HC.out (Below.refl _ _) hlt;cases had;have h0:=hcell0 3 _ rfl;have h1:=hcell 3 _ rfl;have h2:=cnx h0 (bnx hb2 hb3);rw[h1] at h2;cases h2;exact HQ.out k ad _ _ hlt rfl h0
    obtain⟨Y,hY⟩: ∃Y,Y=xs.getD k ch0:=⟨_,rfl⟩;rw[<-hY] at hcell g1 g2 g3 g4 hT1 hT2 hT3 l2 l3 l4 l1 hcap;have m0:wr.cell? (ad.add (k*5))=some (.bool Y.sh):=hcell 0 _ rfl;have m1:wr.cell? (ad.add (k*5+1))=some (.slice D1 Y.gr.length d1):=hcell 1 _ rfl;have m2:wr.cell? (ad.add (k*5+1+1))=some (.slice D2 Y.sc.length d2):=hcell 2 _ rfl;have m3:wr.cell? (ad.add (k*5+1+1+1))=some (.slice D3 Y.qu.length d3):=hcell 3 _ rfl;have m4:wr.cell? (ad.add (k*5+1+1+1+1))=some (.slice D4 Y.fi.length d4):=hcell 4 _ rfl;rw[Sec.Zf] at m1 m2 m3 m4;rw[Sec.Zf] at m2 m3 m4;rw[Sec.Zf] at m3 m4;rw[Sec.Zf] at m4;simp only[Nat.add_assoc,Nat.reduceAdd] at m1 m2 m3 m4;have hkI:(k:Int)<(xs.length:Int):=(by omega);obtain⟨b9,hb9⟩: ∃b9,b9=wr.heap.size:=⟨_,rfl⟩;obtain⟨W9,hW9⟩: ∃W9,W9=wr.alloc (.cells #[.bool Y.sh,.slice D1 Y.gr.length d1,.slice D2 Y.sc.length d2,.slice D3 Y.qu.length d3,.slice D4 Y.fi.length d4] 46):=⟨_,rfl⟩;have hbW9:Below wr.heap.size wr W9:=(by rw[hW9];exact(Below.refl _ _).alloc (Nat.le_refl _) _);have hB9:W9.heap[b9]? =some (.cells #[.bool Y.sh,.slice D1 Y.gr.length d1,.slice D2 Y.sc.length d2,.slice D3 Y.qu.length d3,.slice D4 Y.fi.length d4] 46 (0,0)):=(by rw[hW9,hb9];exact heap_alloc_new _ _);have u0:=cnx y0 hb3;have u1:=cnx y1 hb3;have hb5l:b5<wr.heap.size:=World.block_lt_of_cell? _ _ u0;have hb5n:b5≠wr.heap.size:=Nat.ne_of_lt hb5l;have hlt':=Qa.mk hlt;have fin:=Qa.mk (fun(W:World) (h:Below wr.heap.size wr W)=>bnx hb2 (bnx hb3 h));have fin3:=Qa.mk (fun(W:World) (h:Below wr.heap.size wr W)=>bnx hb3 h);have HIy:=Qa.mk (fun(W:World) (hb:Below wr.heap.size wr W)=>Sa Y.sh D1 D2 D3 D4 B Y.gr.length d1 d2 d3 d4 q ws Y.sc Y.qu Y.fi W (Kd.Qf hCw.out (bnx hb3 hb)) HWi.out (Kd.Qf g2 hb) (Kd.Qf g3 hb) (Kd.Qf g4 hb) l2 l3 l4 hcap.1 hcap.2);have HSy:=Qa.mk (fun(W:World) (hb:Below wr.heap.size wr W)=>HS.out W (bnx hb12 (bnx hb3 hb)) D1 d1 Y.gr (Kd.Qf g1 hb) l1);by_cases hs:Y.sh=X.sh
    ·by_cases hg:Y.gr=X.gr
     ·rw[show Zc Y.sh Y.gr=true from by rw[hs,hg];exact hdX.out,decide_eq_true (show Y.sh=X.sh/\Y.gr=X.gr from⟨hs,hg⟩),Bool.true_and,Bool.true_and] at hT3
      rw[decide_eq_true hg] at HSy;have hsb:(Y.sh != X.sh)=false:=(by rw[hs];simp);obtain⟨ck,hck⟩: ∃ck,ck=Ga ws Y.sc Y.qu Y.fi:=⟨_,rfl⟩;rw[<-hck] at hT3 HIy;rw[hs] at m0 hW9 hB9 HIy;clear hck hs hg hsb hcell g1 g2 g3 g4 hY hlt l1 l2 l3 l4 hcap hb2 hb3 hb12 z0 y0 y1 HM HW ha hchG;go_wp2_with fail;rw[<-hW9,<-hb9];refine(HSy.out _ hbW9).mono ?_;rintro e w4 ⟨rfl,hbn⟩;have hB4:=(hbn.block _ (Qr hB9)).trans hB9;have v0:w4.cell? ⟨b9,0,none⟩=some (.bool X.sh):=(by rw[Qb hB4];rfl);have v1:w4.cell? ⟨b9,1,none⟩=some (.slice D1 Y.gr.length d1):=(by rw[Qb hB4];rfl);have v2:w4.cell? ⟨b9,2,none⟩=some (.slice D2 Y.sc.length d2):=(by rw[Qb hB4];rfl);have v3:w4.cell? ⟨b9,3,none⟩=some (.slice D3 Y.qu.length d3):=(by rw[Qb hB4];rfl);have v4:w4.cell? ⟨b9,4,none⟩=some (.slice D4 Y.fi.length d4):=(by rw[Qb hB4];rfl);have hb94:=bnx hbW9 hbn;clear hbn hB9 hB4 hW9 hbW9 hb9 m0 m1 m2 m3 m4 u0 u1;go_wp2_with fail;refine(HIy.out _ hb94).mono ?_;rintro e w5 ⟨rfl,hbn⟩;have hb95:=bnx hb94 hbn;clear hbn v0 v1 v2 v3 v4 hb94
      cases ck with
      |false=>
       have hE:Qa (OK=false):=⟨by rw[hgO2.out];exact hT2 hT3.out⟩;clear hT1 hT2 hT3;go_wp2_with fail;go_ret;exact⟨by rw[hE.out];rfl,fin.out _ hb95⟩
      |true=>
       have hT4:Qa ((xs.take (k+1)).all (chG X)=true):=⟨by rw[hT1];exact hT3.out⟩;clear hT1 hT2 hT3;go_wp2_with fail;go_roundw
       case rel=>exact⟨k+1,by go_num,hlt'.out,hT4,fin3.out _ hb95⟩
       case measure=>have:=hlt'.out;simp[intOf];omega
     ·have hE:Qa (OK=false):=⟨by rw[hgO2.out];exact hT2 (by rw[hT3.out,decide_eq_false (show¬(Y.sh=X.sh/\Y.gr=X.gr) from fun h=>hg h.2),Bool.false_and,Bool.and_false])⟩
      rw[decide_eq_false hg] at HSy;rw[hs] at m0 hW9 hB9;clear hs hg HIy hT1 hT2 hT3 hcell g1 g2 g3 g4 hY hlt l1 l2 l3 l4 hcap hb2 hb3 hb12 z0 y0 y1 HM HW ha hchG;go_wp2_with fail;rw[<-hW9];refine(HSy.out _ hbW9).mono ?_;rintro e w4 ⟨rfl,hbn⟩;have hb94:=bnx hbW9 hbn;clear hbn hB9 hW9 hbW9 hb9 m0 m1 m2 m3 m4 u0 u1;go_wp2_with fail;go_ret;exact⟨by rw[hE.out];rfl,fin.out _ hb94⟩
    ·have hE:Qa (OK=false):=⟨by rw[hgO2.out];exact hT2 (by rw[hT3.out,decide_eq_false (show¬(Y.sh=X.sh/\Y.gr=X.gr) from fun h=>hs h.1),Bool.false_and,Bool.and_false])⟩
     have hsb:(Y.sh != X.sh)=true:=by simpa using hs
     have hX2:Y.sh= !X.sh:=by
      cases h1:Y.sh<;>cases h2:X.sh<;>simp_all
     have hbf:=Qa.mk hbW9;obtain⟨sx,hsx⟩: ∃sx,sx=X.sh:=⟨_,rfl⟩;rw[hX2,<-hsx] at m0 hsb hW9;rw[<-hsx] at u0;have hW8:=Qa.mk hW9;clear hs hX2 hsx hB9 HIy HSy hT1 hT2 hT3 hbW9 hW9 hcell g1 g2 g3 g4 hY hlt l1 l2 l3 l4 hcap hb2 hb3 hb12 z0 y0 y1 HM HW ha hchG;cases sx
     all_goals
      go_wp2_with fail;go_ret;exact⟨by rw[hE.out];rfl,by have:=fin.out _ hbf.out;rw[hW8.out] at this;exact this⟩
   ·obtain rfl:k=xs.length:=by omega
    have hE:Qa (OK=true):=⟨by rw[hgO2.out];have:=ha.out;rwa [List.take_length] at this⟩;go_wp2_with fail;go_ret;exact⟨by rw[hE.out];rfl,bnx hb2 hb3⟩
end Rq

namespace Gn
attribute [local go_sem] Qh Qi Qk Ql Qd Qe
open Q15
open Q21
open Bts
def grpS (sh:Bool):List Int:=if sh then[8] else[]
def manyS (sh:Bool):Nat:=if sh then 4 else 15
def chS (sh:Bool):Ch:=⟨sh,grpS sh,List.replicate (manyS sh) 0,List.replicate 128 0,[]⟩
def Fs (n:Nat) (sh:Bool):Gr:=⟨List.replicate n (chS sh),if n=2 then List.replicate (manyS sh) false else[]⟩
theorem I4 (c:Nat) (hc:c<=1000000): ∀W:World,(Instr.makeSlice 23 (.int .i64 (c:Int)) (.int .i64 (c:Int))).run Tryz.prog W= .ok (.slice (some ⟨W.heap.size,0,none⟩) c c) (W.alloc (.cells (List.replicate c (Value.bool false)).toArray 4)):=fun W=>by
  rw[Pre.Na 23 4 (.bool false) 1 1 Tryz.underlying23 Du c (by decide) (by omega) W]
  congr 3
  show madeCells #[.bool false] (c*1)=_
  apply Array.ext
  · simp[size_madeCells]
  · intro i h1 h2
    simp[madeCells,Nat.mod_one]
theorem Qco (W:World) (n base:Nat) (hb:base<=W.heap.size) (hn:n<=1000000):(Kd.int .i64).R 3 (W.alloc (.cells (List.replicate n (Value.int .i64 0)).toArray 3)) base (fun _=>True) (.slice (some ⟨W.heap.size,0,none⟩) n n) (List.replicate n 0):=by
  refine Kd.Js (enc:=Value.int .i64) (h1:=fun _=>rfl) ?_ (fun _ _=>trivial);refine⟨by simp[encs],.inr ⟨W.heap.size,n,_,by rw[List.length_replicate],hb,heap_alloc_new W _,by rw[List.length_replicate];exact Nat.le_refl _,by unfold maxLen;omega,by simp,?_⟩⟩;simp[encs]
theorem RB_zeros (W:World) (n base:Nat) (hb:base<=W.heap.size) (hn:n<=1000000):Kd.bool.R 4 (W.alloc (.cells (List.replicate n (Value.bool false)).toArray 4)) base (fun _=>True) (.slice (some ⟨W.heap.size,0,none⟩) n n) (List.replicate n false):=by
  refine Kd.Js (enc:=Value.bool) (h1:=fun _=>rfl) ?_ (fun _ _=>trivial);refine⟨by simp[encs],.inr ⟨W.heap.size,n,_,by rw[List.length_replicate],hb,heap_alloc_new W _,by rw[List.length_replicate];exact Nat.le_refl _,by unfold maxLen;omega,by simp,?_⟩⟩;simp[encs]
theorem Mi (n:Nat) (hn:n=1\/n=2) (w:World) (hL:Laid w):
    Calls Tryz.prog 16 #[.int .i64 n,.bool false] w (GOut (Fs n false) 0 w):=by
  have hu31:=Tryz.underlying31;have hu46:=Tryz.underlying46;have t1:decide ((n:Int)<1)=false:=decide_eq_false (by omega);have t2:decide (2<(n:Int))=false:=decide_eq_false (by omega);have hnI:(n:Int)<=2:=(by omega);have Hn:=Qa.mk hn;obtain⟨w1,hw1⟩: ∃w1,w1=w.alloc (.cells #[.slice none 0 0,.slice none 0 0] 31):=⟨_,rfl⟩;have hb:Below w.heap.size w w1:=(by rw[hw1];exact(Below.refl _ _).alloc (Nat.le_refl _) _);have hR1:w1.heap[w.heap.size]? =some (.cells #[.slice none 0 0,.slice none 0 0] 31 (0,0)):=(by rw[hw1];exact heap_alloc_new _ _);have HL:=Qa.mk hL;obtain⟨w2,hw2⟩: ∃w2,w2=w1:=⟨_,rfl⟩;have hb12:Below w1.heap.size w1 w2:=(by rw[hw2];exact Below.refl _ _);have hC8:(Kd.int .i64).C w2 none 0 []:=Kd.Uc _ _;have HCnt:=Qa.mk (Om false none 0 [] w2 (HL.out.below (bnx hb hb12)) hC8);have hR2:=(hb12.block _ (Qr hR1)).trans hR1;have hb2:=bnx hb hb12;have HC8:=Qa.mk hC8;have hmk: ∀W:World,(Instr.makeSlice 22 (.int .i64 15) (.int .i64 15)).run Tryz.prog W= .ok (.slice (some ⟨W.heap.size,0,none⟩) 15 15) (W.alloc (.cells (List.replicate 15 (Value.int .i64 0)).toArray 3)):=Sec.X9 15 (by omega);have hmk2: ∀W:World,(Instr.makeSlice 22 (.int .i64 128) (.int .i64 128)).run Tryz.prog W= .ok (.slice (some ⟨W.heap.size,0,none⟩) 128 128) (W.alloc (.cells (List.replicate 128 (Value.int .i64 0)).toArray 3)):=Sec.X9 128 (by omega);have hmk3: ∀W:World,(Instr.makeSlice 23 (.int .i64 15) (.int .i64 15)).run Tryz.prog W= .ok (.slice (some ⟨W.heap.size,0,none⟩) 15 15) (W.alloc (.cells (List.replicate 15 (Value.bool false)).toArray 4)):=I4 15 (by omega);replace hmk:=Qa.mk hmk;replace hmk2:=Qa.mk hmk2;clear hn hL hC8;go_enter Tryz.func16,Tryz.ntmps16;go_wp2_with fail;rw[<-hw1];rw[<-hw2];refine HCnt.out.mono ?_;rintro e w3 ⟨rfl,hb3⟩;have hR3:=(hb3.block _ (Qr hR2)).trans hR2;have hb23:=Qa.mk hb3;replace hb3:=bnx hb2 hb3;clear hR1 hR2 hb2 hb12 hb hw1 HCnt hw2;have he1:(D7 false []).length =15:=(by decide+kernel);have he2:Kb false []=0:=(by decide+kernel);rw[he1,he2];rw[show((15:Nat):Int)=15 from rfl];clear he1 he2;obtain⟨bg,hbg⟩: ∃bg,bg=w3.heap.size:=⟨_,rfl⟩;obtain⟨w4,hw4⟩: ∃w4,w4=w3.alloc (.cells #[.slice none 0 0,.slice none 0 0] 31):=⟨_,rfl⟩;have hb34:Below w3.heap.size w3 w4:=(by rw[hw4];exact(Below.refl _ _).alloc (Nat.le_refl _) _);have hG4:w4.heap[bg]? =some (.cells #[.slice none 0 0,.slice none 0 0] 31 (0,0)):=(by rw[hw4,hbg];exact heap_alloc_new _ _);have hs4:w4.heap.size=bg+1:=(by rw[hw4,hbg];simp);have hR4:=(hb34.block _ (Qr hR3)).trans hR3;have hb4:=bnx hb3 hb34;have hb24:=Qa.mk (bnx hb23.out hb34);have hbgw:Qa (w.heap.size<bg):=⟨by rw[hbg];exact Qr hR3⟩;have HC4:=Qa.mk (Kd.Qf HC8.out hb24.out);clear hR3 hb3 hb23 hb34 HC8 HL hb24;go_wp2_with fail;rw[<-hw4,<-hbg];clear hw4 hbg;replace hR4:=Qa.mk hR4;replace hs4:=Qa.mk hs4;go_loopw [27] (fun i wr=> ∃k:Nat,i= .int .i64 k/\k<=n/\Qa (∃vC,wr.heap[bg]? =some (.cells #[vC,.slice none 0 0] 31 (0,0))/\kCh.R 46 wr (bg+1) (fun _=>True) vC (List.replicate k (chS false))/\Kp bg none w4 wr)) (fun i _=>n-(intOf i).toNat)
  case atStart=>exact⟨0,rfl,by omega,⟨_,hG4,Kd.Zx _ _ _ _ _,Kp.refl _ _ _⟩⟩
  case round=>
    obtain⟨k,rfl,hk,hI⟩:=hrel;obtain⟨vC,hG,HR,hKp⟩:=hI.out;clear hI hG4;obtain⟨aC,cC,rfl⟩:=Kd.Jm HR;rw[List.length_replicate] at hG HR;by_cases hlt:k<n
    · have hkI:(k:Int)<(n:Int):=by omega
      have hlt':=Qa.mk hlt;have HCw:=Qa.mk (Sec.C_kp HC4.out hKp (fun ad e=>by cases e));have hbr:Qa (bg+1<=wr.heap.size):=⟨by have:=hKp.size;have:=hs4.out;omega⟩;have hown:Qa (∀b,wr.heap.size<=b->some b≠(Value.slice aC k cC).ownBlock):=⟨fun b hb e=>by have:=((Kd.Zd HR).1 b e.symm).2.2.1;omega⟩;have hgne:some bg≠(Value.slice aC k cC).ownBlock :=fun e=>by have:=((Kd.Zd HR).1 bg e.symm).2.1;omega
      have hS6:Qa (∀W,Below wr.heap.size wr W->W.cell? ⟨bg,0,none⟩=some (.slice aC k cC)):=⟨fun W hb=>by rw[Qb ((hb.block _ (Qr hG)).trans hG)];rfl⟩;have HG:=Qa.mk hG;have HRr:=Qa.mk HR;have HKp:=Qa.mk hKp;replace hgne:=Qa.mk hgne;clear hlt hG HR hKp hk;go_upto_region 10 with fail;refine Qt (S:=fun W=>W.cell? ⟨bg,0,none⟩=some (.slice aC k cC)) (ds:=[12]) (by kernel_rfl) (hS6.out _ (Below.refl _ _).drew) (fun hHeld=> ?_)
      (refine Tk.tl 0 (.pointer (some ⟨bg,0,none⟩)) hHeld ?_)
      (refine Tk.tl 1 (.slice aC k cC) hHeld ?_)
      (refine Tk.tl 2 (.bool false) hHeld ?_)
      (refine Tk.tl 3 (.slice none 0 0) hHeld ?_)
      (refine Tk.tl 5 (.int .i64 15) hHeld ?_)
      refine Ord.Iq 3 wr _ #[true,true,true,true,true,true,true,true,true,true,false,false,false] [(4,33),(6,35),(7,36),(8,37),(9,38)]
        [(4,fun v w=>(Kd.int .i64).R 3 w wr.heap.size (fun _=>True) v []),
         (6,fun v w=>(Kd.int .i64).R 3 w wr.heap.size (fun _=>True) v (List.replicate 15 0)),
         (7,fun v w=>(Kd.int .i64).R 3 w wr.heap.size (fun _=>True) v (List.replicate 128 0)),
         (8,fun v w=> ∃v1 v2 v3,v= .agg #[.bool false,v1,v2,v3,.slice none 0 0]/\(Kd.int .i64).R 3 w wr.heap.size (fun _=>True) v1 []/\(Kd.int .i64).R 3 w wr.heap.size (fun _=>True) v2 (List.replicate 15 0)/\(Kd.int .i64).R 3 w wr.heap.size (fun _=>True) v3 (List.replicate 128 0)),
         (9,fun v w=> ∃g v1 v2 v3,v= .slice (some ⟨g,0,none⟩) 1 1/\w.heap[g]? =some (.cells #[.bool false,v1,v2,v3,.slice none 0 0] 46 (0,0))/\(Kd.int .i64).R 3 w wr.heap.size (fun _=>True) v1 []/\(Kd.int .i64).R 3 w wr.heap.size (fun _=>True) v2 (List.replicate 15 0)/\(Kd.int .i64).R 3 w wr.heap.size (fun _=>True) v3 (List.replicate 128 0))]
        rfl (by decide) (by kernel_rfl) (fun W hb=>hS6.out W hb) ((Below.refl _ _).drew) ?gstays ?gobl ?grest
      case gstays=>
        refine Ord.Xu ?_ (Ord.Xu ?_ (Ord.Xu ?_ (Ord.Xu ?_ (Ord.Xu ?_ Ord.Qa1))))
        · rintro v W W' hb h
          exact Kd.Q4 h hb
        · rintro v W W' hb h
          exact Kd.Q4 h hb
        · rintro v W W' hb h
          exact Kd.Q4 h hb
        · rintro v W W' hb ⟨v1,v2,v3,e,h1,h2,h3⟩
          exact⟨v1,v2,v3,e,Kd.Q4 h1 hb,Kd.Q4 h2 hb,Kd.Q4 h3 hb⟩
        · rintro v W W' hb ⟨g,v1,v2,v3,e,e2,h1,h2,h3⟩
          exact⟨g,v1,v2,v3,e,(hb.block _ (Qr e2)).trans e2,Kd.Q4 h1 hb,Kd.Q4 h2 hb,Kd.Q4 h3 hb⟩
      case gobl=>
        refine Ord.Um.cons ?_ (Ord.Um.cons ?_ (Ord.Um.cons ?_ (Ord.Um.cons ?_ (Ord.Um.cons ?_ Ord.Um.nil))))
        · rintro o x W K ho hb hdp hK
          cases ho;refine goes_ Tryz.func28 (by kernel_rfl) rfl #[.slice none 0 0] (by kernel_rfl) rfl rfl (by kernel_rfl) ((Km none 0 [] W (Kd.Qf HCw.out hb) (by simp)).mono ?_);rintro e w1 ⟨v,rfl,r1,r2⟩;exact⟨_,rfl,Ord.K7 (by kernel_rfl) (hK.out _ _ r2 (Kd.Zz r1 hb.size))⟩
        · rintro o x W K ho hb hdp hK
          have ho2:=(Option.some.inj ho);simp only[List.getElem_toArray,List.getElem_cons_succ,List.getElem_cons_zero] at ho2;clear ho hdp;subst ho2
          generalize hA:Ord.frA _ _ x=A9
          have hev:A9.tmps[34]?.getD undef= .int .i64 15:=(by rw[<-hA];kernel_rfl);refine Zo (w1:=W.alloc (.cells (List.replicate 15 (Value.int .i64 0)).toArray 3)) (v:= .slice (some ⟨W.heap.size,0,none⟩) 15 15) (by rw[<-hA];kernel_rfl) rfl (by have h9:=hmk.out;clear hA;go_simp) ?_;rw[<-hA];exact Ord.K7 (by kernel_rfl) (hK.out _ _ ((Below.refl _ _).alloc (Nat.le_refl _) _) (Qco W 15 _ hb.size (by omega)))
        · rintro o x W K ho hb hdp hK
          cases ho;refine Zo (w1:=W.alloc (.cells (List.replicate 128 (Value.int .i64 0)).toArray 3)) (v:= .slice (some ⟨W.heap.size,0,none⟩) 128 128) (by kernel_rfl) rfl (by have h9:=hmk2.out;simp only[Ord.frA,List.foldl_cons,List.foldl_nil];go_simp) ?_;exact Ord.K7 (by kernel_rfl) (hK.out _ _ ((Below.refl _ _).alloc (Nat.le_refl _) _) (Qco W 128 _ hb.size (by omega)))
        · rintro o x W K ho hb hdp hK
          cases ho;have h1:=hdp _ (.head _) (by kernel_rfl);have h2:=hdp _ (.tail _ (.head _)) (by kernel_rfl);have h3:=hdp _ (.tail _ (.tail _ (.head _))) (by kernel_rfl);dsimp only at h1 h2 h3;obtain⟨A1,q1,k1⟩:=Kd.Jm h1;obtain⟨A2,q2,k2⟩:=Kd.Jm h2;obtain⟨A3,q3,k3⟩:=Kd.Jm h3;refine Zo (w1:=W) (v:= .agg #[.bool false,x 4,x 6,x 7,.slice none 0 0]) (by kernel_rfl) rfl (by simp only[Ord.frA,List.foldl_cons,List.foldl_nil];rw[k1,k2,k3];kernel_rfl) ?_;exact Ord.K7 (by kernel_rfl) (hK.out _ _ (Below.refl _ _) ⟨x 4,x 6,x 7,rfl,h1,h2,h3⟩)
        · rintro o x W K ho hb hdp hK
          cases ho;obtain⟨v1,v2,v3,e1,h1,h2,h3⟩:=hdp _ (.tail _ (.tail _ (.tail _ (.head _)))) (by kernel_rfl);dsimp only at e1;obtain⟨A1,q1,rfl⟩:=Kd.Jm h1;obtain⟨A2,q2,rfl⟩:=Kd.Jm h2;obtain⟨A3,q3,rfl⟩:=Kd.Jm h3;refine Zo (w1:=W.alloc (.cells #[.bool false,.slice A1 ([]:List Int).length q1,.slice A2 (List.replicate 15 (0:Int)).length q2,.slice A3 (List.replicate 128 (0:Int)).length q3,.slice none 0 0] 46)) (v:= .slice (some ⟨W.heap.size,0,none⟩) 1 1) (by kernel_rfl) rfl (by simp only[Ord.frA,List.foldl_cons,List.foldl_nil];rw[e1];kernel_rfl) ?_;have hba:=(Below.refl W.heap.size W).alloc (Nat.le_refl _) (.cells #[.bool false,.slice A1 ([]:List Int).length q1,.slice A2 (List.replicate 15 (0:Int)).length q2,.slice A3 (List.replicate 128 (0:Int)).length q3,.slice none 0 0] 46);exact Ord.K7 (by kernel_rfl) (hK.out _ _ hba ⟨_,_,_,_,rfl,heap_alloc_new _ _,Kd.Q4 h1 hba,Kd.Q4 h2 hba,Kd.Q4 h3 hba⟩)
      case grest=>
        intro x w7 hb7 hφ;obtain⟨g,v1,v2,v3,e1,e2,r1,r2,r3⟩:=hφ _ (.tail _ (.tail _ (.tail _ (.tail _ (.head _)))));dsimp only at e1;clear hφ;have hG7:=(hb7.block _ (Qr HG.out)).trans HG.out;have z0:w7.cell? ⟨bg,0,none⟩=some (.slice aC k cC):=(by rw[Qb hG7];rfl);have HR7:=Kd.Q4 HRr.out hb7
        have hM7:Z4 (kCh.M w7 (bg+1) (fun b=>wr.heap.size<=b)) 5 w7 (some ⟨g,0,none⟩) 1 [chS false]:=⟨rfl,by omega,fun _=>⟨_,rfl,fun j p hj=>by
          have hj0:j=0:=by
            have:=(List.getElem?_eq_some_iff.1 hj).1;simp at this;omega
          subst hj0;obtain rfl:chS false=p:=(by simpa using hj);refine⟨[.bool false,v1,v2,v3,.slice none 0 0],rfl,kCh_mkM w7 (bg+1) (fun b=>wr.heap.size<=b) (chS false) (Un r1 hbr.out) (Un r2 hbr.out) (Un r3 hbr.out) (Kd.Zx _ _ _ _ _),fun i u hi=> ?_⟩
          rw[show(⟨g,0,none⟩:Addr).add (0*5+i)=⟨g,i,none⟩ by
            unfold Addr.add;by_cases h0:i=0
            · simp[h0]
            · simp[h0],Qb e2]
          simpa using hi⟩⟩
        have hs7:wr.heap.size<=w7.heap.size:=hb7.size;have hK7:=Qa.mk (HKp.out.Zk (hb7.mono HKp.out.size));have hln:Qa (((List.replicate k (chS false)).length +1)*104<=140737488355328):=⟨by rw[List.length_replicate];omega⟩;simp only[Ord.frA,List.foldl_cons,List.foldl_nil];rw[e1];clear e1 e2 r1 r2 r3;simp only[Act.put,List.setIfInBounds_toArray,List.set_cons_zero,List.set_cons_succ]
        (refine Qg (rs:=[10]) (by kernel_rfl) (by simp) ?_;refine Qc.cons rfl (by decide) (fun K hK=> ?_) Qc.nil)
        refine Kd.Tv kCh (Rr:=kCh.M w7 (bg+1) (fun b=>wr.heap.size<=b)) (w0:=w7) (bg+1) rfl (.tmp 30) (.tmp 38) 29 46 (.agg #[(.bool false),(.slice none 0 0),(.slice none 0 0),(.slice none 0 0),(.slice none 0 0)]) 104 rfl Tryz.underlying29 info_ch rfl (by decide) (by decide) (.slice aC k cC) (List.replicate k (chS false)) [chS false] (some ⟨g,0,none⟩) 1 1 (fun _=>True) (fun b=>wr.heap.size<=b) rfl rfl HR7 hM7 (fun _ _ h=>h) (fun b hb=>⟨trivial,hown.out b hb⟩) (fun _ _=>trivial) (Below.refl _ _) (by have:=hbr.out;omega) hln.out ?_;intro v8 w8 R8 B8 hg8 hat8;have hG8:=(hg8.block _ (Qr hG7) hgne.out).trans hG7;have z8:w8.cell? ⟨bg,0,none⟩=some (.slice aC k cC):=(by rw[Qb hG8];rfl);have y8:=Qj hG8 0;obtain⟨a8,c8,h8e⟩:=Kd.Jm R8;subst h8e;have hl8:(List.replicate k (chS false)++[chS false])=List.replicate (k+1) (chS false):=List.replicate_succ'.symm;rw[hl8,List.length_replicate] at R8;rw[hl8,List.length_replicate];have hK8:=Qa.mk (hK7.out.Zk (B8.mono (by have:=HKp.out.size;have:=hs4.out;omega)));have hG8':=Qa.mk hG8;replace R8:=Qa.mk R8;clear hM7 HR7 hl8 hg8 hat8 hG7 hG8 z0 B8 hb7 hs7;refine hK.out _ _ z8 (fun hHeld=> ?_);clear hK K
        try simp only[Act.put,Tk.z1,Tk.z2,Tk.z3,Tk.z4,Tk.z5,Tk.z6]
        (refine Tk.tl 11 (.pointer (some ⟨bg,0,none⟩)) hHeld ?_)
        (refine Qg (rs:=[12]) (by kernel_rfl) (by simp) ?_;refine Qc.Zl rfl (by decide) (fun K hK=> ?_) Qc.nil)
        go_simp;go_wp2_with fail;refine hK.out _ _ ?_;clear hK K
        try simp only[Act.put,List.setIfInBounds_toArray,List.set_cons_zero,List.set_cons_succ]
        refine Qq (by kernel_rfl) ?_ _;clear hHeld z8 y8;go_wp2_with fail;go_roundw
        case rel=>exact⟨k+1,by go_num,hlt'.out,⟨_,Q9 hG8'.out 0 _,Kd.Xz (Kd.U7 (p:=⟨bg,0,none⟩) (Un R8.out (Nat.le_refl _)) (fun b hb=>by simp only;omega) _) (fun _ _=>trivial),Kp.Dj hK8.out 0 _⟩⟩
        case measure=>have:=hlt'.out;simp[intOf];omega
    · obtain rfl:k=n:=by omega
      have hR5:=hKp.blk hR4.out (by have:=hbgw.out;omega) (by simp);have hb5:=hb4.trans (hKp.below (B:=w.heap.size) (by have:=hbgw.out;omega) (fun k h=>by cases h) hb4.size);have hbr:bg+1<=wr.heap.size:=(by have:=hKp.size;have:=hs4.out;omega);have f0:=Qj hR5 0;have f1:=Qj hR5 1;have c0:wr.cell? ⟨w.heap.size,0,none⟩=some (.slice none 0 0):=(by rw[Qb hR5];rfl);have c1:wr.cell? ⟨w.heap.size,1,none⟩=some (.slice none 0 0):=(by rw[Qb hR5];rfl);have g0:wr.cell? ⟨bg,0,none⟩=some (.slice aC k cC):=(by rw[Qb hG];rfl);have g1:wr.cell? ⟨bg,1,none⟩=some (.slice none 0 0):=(by rw[Qb hG];rfl);have y1:=Qj hG 1;have hbgr:bg<wr.heap.size:=(by omega);have hwr:w.heap.size<wr.heap.size:=(by have:=hbgw.out;omega);have hne:w.heap.size≠bg:=(by have:=hbgw.out;omega);replace hR5:=Qa.mk hR5;replace hb5:=Qa.mk hb5;have hG5:=Qa.mk hG;replace HR:=Qa.mk HR;clear hlt hk hKp hG hR4 hs4 HC4 hb4;rcases Hn.out with h1|h2
      · subst h1
        clear y1;go_wp2_with fail;have hfin:((wr.setCell ⟨w.heap.size,0,none⟩ (.slice aC 1 cC)).setCell ⟨w.heap.size,1,none⟩ (.slice none 0 0)).heap[w.heap.size]? =some (.cells #[.slice aC 1 cC,.slice none 0 0] 31 (0,0)):=Q9 (Q9 hR5.out 0 (.slice aC 1 cC)) 1 (.slice none 0 0)
        (try simp only[Exit.inBlock,Exit.then]);refine bodyPost_ret (Sd rfl _ _ w.heap.size 31 #[.slice aC 1 cC,.slice none 0 0] (0,0) _ rfl hfin hu31 rfl (by kernel_rfl)) rfl ?_
        have hR9:=Kd.Zz (Kd.Xz (Kd.U7 (p:=⟨w.heap.size,1,none⟩) (Kd.U7 (p:=⟨w.heap.size,0,none⟩) (Un HR.out (Nat.le_refl _)) (fun b hb=>by have:=hbgw.out;simp only;omega) (.slice aC 1 cC)) (fun b hb=>by have:=hbgw.out;simp only;omega) (.slice none 0 0)) (fun _ _=>trivial)) (show w.heap.size<=bg+1 by have:=hbgw.out;omega);exact⟨⟨_,_,rfl,hR9,Kd.Zx _ _ _ _ _⟩,(hb5.out.setCell (p:=⟨w.heap.size,0,none⟩) (Nat.le_refl _) _).setCell (p:=⟨w.heap.size,1,none⟩) (Nat.le_refl _) _⟩
      · subst h2
        go_wp2_with fail;obtain⟨W7,hW7⟩: ∃W7,W7=((wr.setCell ⟨bg,1,none⟩ (.slice (some ⟨wr.heap.size,0,none⟩) 15 15)).setCell ⟨w.heap.size,0,none⟩ (.slice aC 2 cC)).setCell ⟨w.heap.size,1,none⟩ (.slice (some ⟨wr.heap.size,0,none⟩) 15 15):=⟨_,rfl⟩;have hs7:W7.heap.size=wr.heap.size:=(by rw[hW7];simp[World.setCell]);have hq7:W7.heap[w.heap.size]? =some (.cells #[.slice aC 2 cC,.slice (some ⟨wr.heap.size,0,none⟩) 15 15] 31 (0,0)):=(by rw[hW7];exact Q9 (Q9 (X4 hR5.out (p:=⟨bg,1,none⟩) hne _) 0 (.slice aC 2 cC)) 1 (.slice (some ⟨wr.heap.size,0,none⟩) 15 15));have hb7:Below w.heap.size w W7:=(by rw[hW7];exact((hb5.out.setCell (p:=⟨bg,1,none⟩) (by have:=hbgw.out;simp only;omega) _).setCell (p:=⟨w.heap.size,0,none⟩) (Nat.le_refl _) _).setCell (p:=⟨w.heap.size,1,none⟩) (Nat.le_refl _) _);have hR9:=Kd.U7 (p:=⟨w.heap.size,1,none⟩) (Kd.U7 (p:=⟨w.heap.size,0,none⟩) (Kd.U7 (p:=⟨bg,1,none⟩) (Un HR.out (Nat.le_refl _)) (fun b hb=>by simp only;omega) (.slice (some ⟨wr.heap.size,0,none⟩) 15 15)) (fun b hb=>by have:=hbgw.out;simp only;omega) (.slice aC 2 cC)) (fun b hb=>by have:=hbgw.out;simp only;omega) (.slice (some ⟨wr.heap.size,0,none⟩) 15 15);rw[<-hW7] at hR9 ⊢;clear hW7;have hba:=(Below.refl W7.heap.size W7).alloc (Nat.le_refl _) (.cells (List.replicate 15 (Value.bool false)).toArray 4);have hRM:=RB_zeros W7 15 w.heap.size (by omega) (by omega);rw[hs7] at hRM;have hfin:=(hba.block _ (Qr hq7)).trans hq7
        (try simp only[Exit.inBlock,Exit.then]);refine bodyPost_ret (Sd rfl _ _ w.heap.size 31 #[.slice aC 2 cC,.slice (some ⟨wr.heap.size,0,none⟩) 15 15] (0,0) _ rfl hfin hu31 rfl (by kernel_rfl)) rfl ?_
        exact⟨⟨_,_,rfl,Kd.Zz (Kd.Xz (Kd.Q4 hR9 hba) (fun _ _=>trivial)) (by have:=hbgw.out;omega),hRM⟩,bnx hb7 hba⟩
end Gn

namespace Gn
attribute [local go_sem] Qh Qi Qk Ql Qd Qe
open Q15
open Q21
open Sca (Yv)
def Sm4 (g:Gr):Prop:= ∀x∈g.chs,x.gr.length<=1000000/\x.sc.length<=1000000/\x.qu.length<=1000000/\x.fi.length<=1000000
end Gn

namespace Opn
open Go.ChangeShapes Go.WideShapes Go.ChangeAt Go.RowKit Go.Joins Go.Deep Go.Proofs.YtnflnicdjioflaaGreatDoorW.PrintWords
open Q21
open Gn (ch0)
open Sp (T9)
section
variable {H:Type} {enc:TypeId×Value->H} {w:World} {base:Nat} {spare:Nat->Bool} {held:Bool}
theorem Qb3 {r:Reach} {b0:Nat} {v:Value} {d:DataW H} {p:List MemPlace} (hv:Value.okWide Tryz.prog w r b0 31 v) (h:DataW.Trod enc Tryz.prog w base spare held 31 v d p):
  ∃(A:Option Addr) (g:Gr) (c:Nat) (M:Option Addr) (cM:Nat),v= .agg #[.slice A g.chs.length c,.slice M g.mid.length cM]/\kCh.C w A g.chs.length g.chs/\Kd.bool.C w M g.mid.length g.mid/\T9 w A g.chs:=by
 obtain⟨cs,rfl,hsz⟩:=okWide_struct Tryz.underlying31 hv;obtain⟨fuel,hf⟩:=h;obtain⟨hl,n,hf⟩:=Wv Tryz.underlying31 (by kernel_rfl) hf;rw[show Tryz.prog.cellsOf 31=2 by kernel_rfl] at hl;obtain⟨cs⟩:=cs;obtain⟨a,b,rfl⟩:=list2 (cs:=cs) hl;obtain⟨z0,h0⟩:=hf 0 _ _ rfl rfl;obtain⟨z1,h1⟩:=hf 1 _ _ rfl rfl;obtain⟨A,xs,c,e0,_,_,k0,k9⟩:=Dx (d:=kCh) Tryz.underlying29 (by kernel_rfl) opens_ch h0;obtain⟨M,ys,c1,e1,_,_,k1,_⟩:=Dx (d:=Kd.bool) Tryz.underlying23 (by kernel_rfl) (Rx uB) h1;cases e0;cases e1;refine⟨A,⟨xs,ys⟩,c,M,c1,rfl,k0,k1,fun k ad B c' hk hA hc=> ?_⟩;obtain⟨ad',el,n2,z,g1,g2,g3⟩:=k9 k hk;rw[hA] at g1;cases g1;obtain⟨hl2,n3,hf2⟩:=Wv Tryz.underlying46 (by kernel_rfl) g2;rw[show Tryz.prog.cellsOf 46=5 by kernel_rfl] at hl2;obtain⟨u0,u1,u2,u3,u4,rfl⟩:=list5 hl2;obtain⟨z3,h3⟩:=hf2 3 _ _ rfl rfl;obtain⟨A2,ys2,c2,e4,j1,j2,_⟩:=Dx (d:=Kd.int .i64) uL cI (Cc uI) h3;cases e4;have h9:=g3 3 _ rfl;rw[show k*kCh.sz+3=k*5+3 from rfl,hc] at h9
 injection h9 with h9
 injection h9 with _ e5 e6
 rw[e5,e6];exact⟨j1,j2⟩
end
end Opn

end Go.Proofs.YtnflnicdjioflaaGreatDoor
