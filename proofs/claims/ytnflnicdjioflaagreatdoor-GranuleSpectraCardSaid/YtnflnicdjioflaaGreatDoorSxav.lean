/- A part of the proof. -/
import Derived.Test.YtnflnicdjioflaaGreatDoorSxau
import Derived.Laws.IdiomStrings
set_option linter.unusedVariables false
set_option linter.unusedSimpArgs false
set_option maxRecDepth 100000
set_option maxHeartbeats 8000000
namespace Go.Proofs.YtnflnicdjioflaaGreatDoor
open Go.RowKit Go.Proofs.YtnflnicdjioflaaGreatDoorW.PrintWords Go.Proofs.YtnflnicdjioflaaGreatDoorW.PrintLast Go.Proofs.YtnflnicdjioflaaGreatDoorW.PrintMore
namespace Gn
attribute [local go_sem] Qh Qi Qk Ql Qd Qe
open Q15
open Q21 (Qb Qj)
open Bts
def strL (gs:List Int):List UInt8:=gs.map fun n=>UInt8.ofNat (48+n.toNat)
def strG (gs:List Int):ByteArray:=⟨(strL gs).toArray⟩
def Kv (gs:List Int):List Int:=gs.map fun n=>48+n
theorem Qdy (gs:List Int) (h8: ∀x∈gs,1<=x/\x<=8) (a:Option Addr) (p:Nat) (W:World) (hC:(Kd.int .u8).C W a (Kv gs).length (Kv gs)):
  (convert 107 9 (.slice a (Kv gs).length p)).run Tryz.prog W= .ok (.string (strG gs)) W:=by
 obtain⟨r1,r2,r3⟩:=Kd.Xm (enc:=Value.int .u8) (h1:=fun _=>rfl) (d:=(0:Int)) hC;have hl:(Kv gs).length =(strL gs).length :=(by simp[Kv,strL]);by_cases h0:0<(Kv gs).length
 ·obtain⟨ad,rfl,hc⟩:=r3 h0
  rw[hl];refine run_convert_bytes_back (P:=Tryz.prog) W 107 9 5 ad p (strL gs) Tryz.underlying107 Tryz.underlying5 Tryz.underlying9 (fun j hj=> ?_);rw[hc j (by omega)];have hg:j<gs.length:=(by simpa[strL] using hj);have hb:=h8 _ (List.getElem_mem hg);simp only[strL,Kv,List.getElem_map,List.getD_eq_getElem?_getD,List.getElem?_map,List.getElem?_eq_getElem hg,Option.map_some,Option.getD_some,UInt8.toNat_ofNat']
  congr 2
  omega
 ·have hn:gs=[]:=by
   cases gs with
   |nil=>rfl
   |cons a b=>simp[Kv] at h0
  subst hn
  cases a with
  |none=>exact run_convert_bytes_nil (P:=Tryz.prog) (w:=W) 107 5 Tryz.underlying107 Tryz.underlying5 0 p 9 Tryz.underlying9
  |some ad=>exact run_convert_bytes_back (P:=Tryz.prog) W 107 9 5 ad p [] Tryz.underlying107 Tryz.underlying5 Tryz.underlying9 (fun j hj=>by simp at hj)
theorem Ue (sh:Bool) (A:Option Addr) (cap:Nat) (gs:List Int) (w:World) (hr:(Kd.int .i64).C w A gs.length gs) (h8: ∀x∈gs,1<=x/\x<=8) (hl:gs.length<=8):
  Calls Tryz.prog 66 #[.bool sh,.slice A gs.length cap] w fun e w'=>e= .returned (.agg #[.bool sh,.string (strG gs)])/\Below w.heap.size w w':=by
 obtain⟨W0,hW0⟩: ∃W0,W0=w.alloc (.cells #[.bool false,.string ⟨#[]⟩] 86):=⟨_,rfl⟩;have hb0:Below w.heap.size w W0:=(by rw[hW0];exact(Below.refl _ _).alloc (Nat.le_refl _) _);have HR:=Qa.mk (Kd.Qf hr hb0);have hB0:W0.heap[w.heap.size]? =some (.cells #[.bool false,.string ⟨#[]⟩] 86 (0,0)):=(by rw[hW0];exact heap_alloc_new _ _);have H8:=Qa.mk h8;have hlI:(gs.length:Int)<=8:=(by omega);have hu:=Tryz.underlying86;obtain⟨S,hS⟩: ∃S,S=strG gs:=⟨_,rfl⟩;rw[<-hS];replace hS:=Qa.mk hS;clear hr h8 hl;go_enter Tryz.func66,Tryz.ntmps66;go_wp2;rw[<-hW0];clear hW0;go_loopw [5,10] (fun o i wr=> ∃k:Nat,i= .int .i64 k/\k<=gs.length/\Qa ((Kd.int .u8).R 5 wr W0.heap.size (fun _=>True) o ((Kv gs).take k))/\Below W0.heap.size W0 wr) (fun _ i _=>gs.length-(intOf i).toNat)
 case atStart=>exact⟨0,rfl,by omega,⟨Kd.Zx _ _ _ _ _⟩,Below.refl _ _⟩
 case round=>
  obtain⟨k,rfl,hk,ho,hb⟩:=hrel;by_cases hlt:k<gs.length
  ·obtain⟨ad,rfl,hcell⟩:=Qn HR.out hb hlt
   have hltI:(k:Int)<(gs.length:Int):=(by omega);obtain⟨q1,q2⟩:=H8.out _ (Qp gs k hlt)
   have hT:(Kv gs).take (k+1)=(Kv gs).take k++[48+rd gs k]:=by
    unfold Kv;rw[<-List.map_take,<-List.map_take,Qu gs k hlt,List.map_append];rfl
   have hYl:((Kv gs).take k).length <=8:=(by rw[List.length_take];omega);obtain⟨Y,hY⟩: ∃Y,Y=(Kv gs).take k:=⟨_,rfl⟩;rw[<-hY] at ho hT hYl;obtain⟨x,hx⟩: ∃x,x=rd gs k:=⟨_,rfl⟩;rw[<-hx] at hcell q1 q2 hT;replace hT:=Qa.mk hT;have hlt':=Qa.mk hlt
   have f0:bits BinOp.and IntKind.i64 x 63=x:=by
    have:x=1\/x=2\/x=3\/x=4\/x=5\/x=6\/x=7\/x=8:=(by omega);rcases this with rfl|rfl|rfl|rfl|rfl|rfl|rfl|rfl<;>decide+kernel
   have f1:(48+x)%256=48+x:=(by omega);clear hY hx hlt;go_wp2_with (first|(at_builtin;refine Kd.Q3 (Kd.int .u8) (w0:=W0) W0.heap.size rfl (.tmp 14) (.tmp 19) 107 5 (.int .u8 0) 1 rfl Tryz.underlying107 Bv rfl (by decide) (by omega) u5 Y (48+x) [.int .u8 (48+x)] (fun _=>True) (fun _=>False) rfl rfl rfl (fun _ hk=>hk.elim) (fun _ _=>trivial) ho.out hb hb.size (by omega) ?_;intro v1 wA hoA hbA hgA hatA;have HOA:=Qa.mk hoA;have HBA:=Qa.mk hbA;clear hoA hbA hgA hatA));go_roundw
   case rel=>exact⟨k+1,by go_num,hlt'.out,⟨by rw[hT.out];exact HOA.out⟩,HBA.out⟩
   case measure=>have:=hlt'.out;simp[intOf];omega
  ·obtain rfl:k=gs.length:=by omega
   have hR:=ho.out;rw[List.take_of_length_le (by simp[Kv])] at hR;obtain⟨a5,p5,rfl,hbd,hC⟩:=Kd.Qs hR;have hcv:=Qdy gs H8.out a5 p5 wr hC;have hB:=(hb.block w.heap.size (Qr hB0)).trans hB0;have z4:wr.cell? ⟨w.heap.size,0,none⟩=some (.bool false):=(by rw[Qb hB];rfl);have y4:=Qj hB 0;have z5:wr.cell? ⟨w.heap.size,1,none⟩=some (.string ⟨#[]⟩):=(by rw[Qb hB];rfl);have y5:=Qj hB 1;have hbw:=hb0.trans (hb.mono hb0.size);rw[<-hS.out] at hcv;have hlen:(Kv gs).length =gs.length:=(by simp[Kv]);rw[hlen] at hcv;rw[hlen];replace hB:=Qa.mk hB;clear hR ho hbd hC hS hlen H8 hlt hk;go_wp2_with fail
   (try simp only[Exit.inBlock,Exit.then]);refine bodyPost_ret (Sg rfl (.cell w.heap.size 86 #[.bool sh,.string S] (0,0) _ rfl (Q9 (Q9 hB.out 0 _) 1 _) hu rfl (by kernel_rfl) .nil)) rfl ?_
   exact⟨rfl,(hbw.setCell (p:=⟨w.heap.size,0,none⟩) (Nat.le_refl _) _).setCell (p:=⟨w.heap.size,1,none⟩) (Nat.le_refl _) _⟩
end Gn

namespace Sca
attribute [local go_sem] Qh Qi Qk Ql Qd Qe
open Q15
open Runs Go.Shelf
open Q16 (Q6 Za Yc)
open Q21 (Qb Qj)
open Bts
open Sec
attribute [local go_sem] Oper.semAt_some
def scT (ss:List Int) (us:List Bool):Nat->Int
 |0=>0
 |m+1=>scT ss us m+(if m=0 then 7 else U3 (rd ss (uAt us m)-rd ss (uAt us (m-1))))
def Ya (ss:List Int) (us:List Bool):Int:=scT ss us (uN us)
theorem Dz {ss:List Int} {us:List Bool} (h:scE ss us=0): ∀x∈ss,0<=x/\x<=95:=fun x hx=>by
 unfold scE at h
 split at h
 ·rename_i h1
  have:=List.all_eq_true.1 h1 x hx;simpa[isS] using this
 ·omega
theorem uN_le (us:List Bool):uN us<=us.length:=uix_len us us.length
theorem Sl {ss:List Int} {us:List Bool} (hl:ss.length=us.length) (h: ∀x∈ss,0<=x/\x<=95): ∀m,m<=uN us->0<=scT ss us m/\scT ss us m<=15*m
 |0,_=>by simp[scT]
 |m+1,hm=>by
  have h1:=Sl hl h m (by omega);have h2:=(Dk (us:=us) (m:=m) (by omega)).1;have h3:=h _ (Qp ss (uAt us m) (by omega));unfold scT
  split
  ·push_cast;omega
  ·have h4:=(Dk (us:=us) (m:=m-1) (by omega)).1
   have h5:=h _ (Qp ss (uAt us (m-1)) (by omega));have h6:=Dw (d:=rd ss (uAt us m)-rd ss (uAt us (m-1))) (by omega) (by omega)
   push_cast;omega
theorem N7 {w:World} {A:Option Addr} {n:Nat} {xs:List Bool} (h:Kd.bool.C w A n xs) (h0:0<xs.length): ∀g∈Zy A,g<w.heap.size:=fun g hg=>by
 obtain⟨r1,r2,r3⟩:=Kd.Xm (enc:=Value.bool) (h1:=fun _=>rfl) (d:=false) h;obtain⟨a,rfl,hc⟩:=r3 (by omega);have:=World.block_lt_of_cell? _ _ (hc 0 (by omega));rw[add_block] at this;rw[List.mem_singleton.1 hg];exact this
theorem Qer (A B:Option Addr) (c1 c2:Nat) (ss:List Int) (us:List Bool) (w:World) (hr:(Kd.int .i64).C w A ss.length ss) (hr2:Kd.bool.C w B us.length us) (hl:ss.length=us.length) (h128:us.length<=128) (he:scE ss us≠0):
  Calls Tryz.prog 114 #[.slice A ss.length c1,.slice B us.length c2] w fun e w'=>e= .returned (.tuple #[.int .i64 0,.int .i64 (scE ss us)])/\Below w.heap.size w w':=by
 have HC:=Qa.mk (fun(W:World) (hb:Below w.heap.size w W)=>Tg A B c1 c2 ss us W (Kd.Qf hr hb) (Kd.Qf hr2 hb) hl h128);have hb1:=(Below.refl w.heap.size w).alloc (Nat.le_refl _) (.cells #[.slice A ss.length c1] 22);obtain⟨E,hE⟩: ∃E,E=scE ss us:=⟨_,rfl⟩;rw[<-hE] at he HC ⊢;have hne:(E != 0)=true:=(by simpa using he);clear hr hr2 he hE hl h128;go_enter Tryz.func114,Tryz.ntmps114;go_wp2_with (first|(go_at_call 169;refine(HC.out _ hb1).mono ?_;rintro e w' ⟨rfl,hbn⟩;have hb:=bnx hb1 hbn;clear hbn hb1));go_ret2;exact⟨rfl,hb⟩
theorem Nq (A B:Option Addr) (c1 c2:Nat) (ss:List Int) (us:List Bool) (w:World) (hr:(Kd.int .i64).C w A ss.length ss) (hr2:Kd.bool.C w B us.length us) (hl:ss.length=us.length) (h128:us.length<=128) (h0:0<us.length) (he:scE ss us=0):
  Calls Tryz.prog 114 #[.slice A ss.length c1,.slice B us.length c2] w fun e w'=>e= .returned (.tuple #[.int .i64 (Ya ss us),.int .i64 0])/\Below w.heap.size w w':=by
 have HC:=Qa.mk (fun(W:World) (hb:Below w.heap.size w W)=>Tg A B c1 c2 ss us W (Kd.Qf hr hb) (Kd.Qf hr2 hb) hl h128);rw[he] at HC;have HR:=Qa.mk hr;have HR2:=Qa.mk hr2;have HG:=Qa.mk (N7 hr2 h0);have HS:=Qa.mk (Dz he);have HL:=Qa.mk hl;have H128:=Qa.mk h128;have hmo:Tryz.prog.follows .mixedOrders =true:=(by kernel_rfl);clear hr hr2 he hl h128 h0;refine(callsIn_wide (n:=3)).1 ?_;refine callsIn_of_wp_marks Tryz.func114 rfl trivial ?_ rfl;simp only[Tryz.ntmps114,List.size_toArray,List.length_cons,List.length_nil,Nat.reduceAdd,Nat.reduceSub,Array.replicate_succ,Array.replicate_zero,List.push_toArray,List.append_toArray,List.nil_append,List.cons_append];gi_wp2_with fail;obtain⟨W0,hW0⟩: ∃W0,W0=w.alloc (.cells #[.slice A ss.length c1] 22):=⟨_,rfl⟩;have hR0:=(Rws.start w).alloc #[.slice A ss.length c1] 22;simp only[World.size_alloc,List.nil_append,List.cons_append] at hR0;rw[<-hW0] at hR0 ⊢;clear hW0;refine⟨trivial,(callsIn_wide.2 (HC.out W0 hR0.below)).mono ?_⟩;rintro en W1 ⟨rfl,hb1⟩;have hR1:=hR0.step hb1;obtain⟨g7,hg7⟩: ∃g7,g7=W1.heap.size:=⟨_,rfl⟩;have hg7w:w.heap.size<=g7:=(by rw[hg7];exact hR1.below.size);have hR2:=hR1.alloc #[.int .i64 0] 3;simp only[World.size_alloc,List.nil_append,List.cons_append] at hR2;rw[<-hg7] at hR2;clear hR0 hb1;gi_wp2_with fail;rw[<-hg7];obtain⟨W2,hW2⟩: ∃W2,W2=W1.alloc (.cells #[.int .i64 0] 3):=⟨_,rfl⟩;have hs2:W2.heap.size=g7+1:=(by rw[hW2,hg7];simp);rw[<-hW2] at hR2 ⊢;clear hW2 hR1 hg7;refine⟨trivial,(callsIn_wide.2 (Sz B us.length c2 W2)).mono ?_⟩;rintro en W3 ⟨rfl,hW3⟩;have hs3:W3.heap.size=g7+1+1:=(by rw[hW3];simp[hs2]);have hR3:=hR2.alloc #[.slice B us.length c2] 23;simp only[World.size_alloc,List.nil_append,List.cons_append] at hR3;rw[<-hW3,hs2] at hR3;rw[hs2];have b8:W3.cell? ⟨g7+1,0,none⟩=some (.slice B us.length c2):=(by rw[Qb (hR3.blk ⟨(g7+1), #[.slice B us.length c2],23⟩ (by simp)).1];rfl);have HB3:=Qa.mk (Kd.Qf HR2.out hR3.below);replace hs3:=Qa.mk hs3;replace hR3:=Qa.mk hR3;clear hW3 hR2 hs2;gi_wp2_with fail
 refine Xw rfl (by omega) (gf:=199) (lb:= #[.pointer (some ⟨g7+1,0,none⟩)]) rfl trivial (enters_of Tryz.func199 (by kernel_rfl) rfl)
  (Sy Fence.wide _ trivial rfl (by omega) (g7+1) B c2 us H128.out W3 HB3.out b8)
  (fun h k=>h.trans k) ?keep (Below.refl _ _) (fun _=>rfl) (fun j W=>Rws w W [] [⟨w.heap.size, #[.slice A ss.length c1],22⟩,⟨g7, #[.int .i64 (scT ss us j)],3⟩,⟨(g7+1), #[.slice B us.length c2],23⟩]) ?own ?start ?round ?done
 case keep=>exact Qz.putObj (N:=W3.heap.size) (fun g hg=>by have:=HG.out g hg;have:=hs3.out;omega)
 case own=>exact fun j W W' row h hg hrow=>Rws.Jf h hg (fun r e=>⟨by have:=(hrow r e).1;have:=hs3.out;omega,(hrow r e).2⟩)
 case start=>exact hR3.out
 case round=>
  rintro L j W hRw hj;obtain⟨hi1,-⟩:=Dk hj;have hbd:=Sl HL.out HS.out j (by omega);have hj9:j<=128:=(by have:=uN_le us;have:=H128.out;omega);have hst:scT ss us (j+1)=scT ss us j+(if j=0 then 7 else U3 (rd ss (uAt us j)-rd ss (uAt us (j-1)))):=rfl;obtain⟨sn,hsn⟩: ∃sn,sn=scT ss us (j+1):=⟨_,rfl⟩;rw[<-hsn] at hst;replace hsn:=Qa.mk hsn;rcases j with _|j
  ·have hu0:uBe us 0= -1:=rfl
   rw[hu0];rw[if_pos rfl,show scT ss us 0=0 from rfl] at hst;rw[show scT ss us 0=0 from rfl] at hRw;obtain⟨o,ho⟩: ∃o:Nat,o=uAt us 0:=⟨_,rfl⟩;rw[<-ho];clear ho hbd hj hi1 hu0 hj9;gi_wp2;refine⟨(KeepsOthers.refl W).from _,Qz.refl _ _,fun Z=>Rws w Z [] [⟨w.heap.size, #[.slice A ss.length c1],22⟩,⟨g7, #[.int .i64 (0)],3⟩,⟨(g7+1), #[.slice B us.length c2],23⟩],hRw,fun _ Z Z' row h hg hrow=>Rws.Jf h hg (fun r e=>⟨by have:=(hrow r e).1;have:=hs3.out;omega,(hrow r e).2⟩),?_⟩;clear hRw;rintro Z hRw;have z7:Z.cell? ⟨g7,0,none⟩=some (.int .i64 0):=(by rw[Qb (hRw.blk ⟨g7, #[.int .i64 (0)],3⟩ (by simp)).1];rfl);have y7:=Qj (hRw.blk ⟨g7, #[.int .i64 (0)],3⟩ (by simp)).1 0;have hfin:=Rws.set (G1:=[⟨w.heap.size, #[.slice A ss.length c1],22⟩]) (G2:=[⟨(g7+1), #[.slice B us.length c2],23⟩]) (b:=⟨g7, #[.int .i64 (0)],3⟩) hRw 0 (.int .i64 7);simp only[List.nil_append,List.cons_append,List.setIfInBounds_toArray,List.set_cons_zero] at hfin;have hst':Qa (sn=7):=⟨by omega⟩;have hK5:=Qa.mk (KeepsOthers.setCell Z ⟨g7,0,none⟩ (.int .i64 7));replace hfin:=Qa.mk hfin;clear hst hRw;gi_wp2;exact⟨hK5.out.from _,Qz.set HG.out (Qz.refl _ _) (by exact hg7w) _,by show Rws w _ [] [⟨w.heap.size, #[.slice A ss.length c1],22⟩,⟨g7, #[.int .i64 (scT ss us (0+1))],3⟩,⟨(g7+1), #[.slice B us.length c2],23⟩];rw[<-hsn.out,hst'.out];exact hfin.out⟩
  ·obtain⟨hi2,-⟩:=Dk (us:=us) (m:=j) (by omega)
   have hu1:uBe us (j+1)=(uAt us j:Nat):=rfl;rw[hu1];rw[if_neg (by omega),Nat.add_sub_cancel] at hst;rw[<-HL.out] at hi1 hi2;have v1:=HS.out _ (Qp ss (uAt us (j+1)) hi1);have v2:=HS.out _ (Qp ss (uAt us j) hi2);obtain⟨ad,rfl,q1⟩:=Qn HR.out hRw.below hi1;obtain⟨ad',had,q2⟩:=Qn HR.out hRw.below hi2;cases had;obtain⟨o,ho⟩: ∃o:Nat,o=uAt us (j+1):=⟨_,rfl⟩;obtain⟨p,hp⟩: ∃p:Nat,p=uAt us j:=⟨_,rfl⟩;rw[<-ho] at hi1 q1 v1 hst ⊢;rw[<-hp] at hi2 q2 v2 hst ⊢;obtain⟨x,hx⟩: ∃x,x=rd ss (o:Nat):=⟨_,rfl⟩;obtain⟨y,hy⟩: ∃y,y=rd ss (p:Nat):=⟨_,rfl⟩;rw[<-hx] at q1 v1 hst;rw[<-hy] at q2 v2 hst;obtain⟨sm,hsm⟩: ∃sm,sm=scT ss us (j+1):=⟨_,rfl⟩;rw[<-hsm] at hst hbd hRw;have hlb:=Dw (d:=x-y) (by omega) (by omega);have hLn:=Qa.mk (fun(W:World)=>U4 (x-y) W (by omega) (by omega));obtain⟨ln,hln⟩: ∃ln,ln=U3 (x-y):=⟨_,rfl⟩;rw[<-hln] at hst hlb hLn;have hI1:IntKind.i64.wrap (x-y)=x-y:=IntWalk.i64_in _ (by omega);have hsb:0<=sm/\sm<=2000000:=(by omega);subst hst;have hI2:IntKind.i64.wrap (sm+ln)=sm+ln:=IntWalk.i64_in _ (by omega);have hssI:(o:Int)<(ss.length:Int)/\(p:Int)<(ss.length:Int):=by omega
   have hq1:Qa (∀Z,Below w.heap.size w Z->Z.cell? (ad.add o)=some (.int .i64 x)):=⟨fun Z hb=>by
    obtain⟨ad2,e,q⟩:=Qn HR.out hb hi1;cases e;rw[<-hx] at q
    exact q⟩
   have hq2:Qa (∀Z,Below w.heap.size w Z->Z.cell? (ad.add p)=some (.int .i64 y)):=⟨fun Z hb=>by
    obtain⟨ad2,e,q⟩:=Qn HR.out hb hi2;cases e;rw[<-hy] at q
    exact q⟩
   have ho1:decide ((p:Int)<0)=false:=decide_eq_false (by omega);clear ho hp hbd hj hi1 hi2 hj9 hu1 hx hy hln hsm q1 q2 v1 v2;gi_wp2;refine⟨(KeepsOthers.refl W).from _,Qz.refl _ _,fun Z=>Rws w Z [] [⟨w.heap.size, #[.slice (some ad) ss.length c1],22⟩,⟨g7, #[.int .i64 (sm)],3⟩,⟨(g7+1), #[.slice B us.length c2],23⟩],hRw,fun _ Z Z' row h hg hrow=>Rws.Jf h hg (fun r e=>⟨by have:=(hrow r e).1;have:=hs3.out;omega,(hrow r e).2⟩),?_⟩;clear hRw;rintro Z hRw;have z2:Z.cell? ⟨w.heap.size,0,none⟩=some (.slice (some ad) ss.length c1):=(by rw[Qb (hRw.blk ⟨w.heap.size, #[.slice (some ad) ss.length c1],22⟩ (by simp)).1];rfl);have z7:Z.cell? ⟨g7,0,none⟩=some (.int .i64 sm):=(by rw[Qb (hRw.blk ⟨g7, #[.int .i64 (sm)],3⟩ (by simp)).1];rfl);have e1:=hq1.out _ hRw.below;have e2:=hq2.out _ hRw.below;replace hRw:=Qa.mk hRw;gi_wp2_with fail;refine Held.Zm (fun W'=>W'.cell? ⟨w.heap.size,0,none⟩=some (.slice (some ad) ss.length c1)/\W'.cell? ⟨g7,0,none⟩=some (.int .i64 sm)/\W'.cell? (ad.add o)=some (.int .i64 x)/\W'.cell? (ad.add p)=some (.int .i64 y)/\Below Z.heap.size Z W') [12] hmo (by kernel_rfl) (fun⟨_,_,h⟩=>h) ⟨z2,z7,e1,e2,(Below.refl _ _).drew⟩ (fun hHeld=> ?_);obtain⟨ZD,hZD⟩: ∃ZD,ZD=Z.drew:=⟨_,rfl⟩;rw[<-hZD] at hHeld ⊢;clear hZD
   (refine Tk.tl 0 (.int .i64 sm) hHeld ?_)
   (refine Tk.tl 1 (.slice (some ad) ss.length c1) hHeld ?_)
   (refine Tk.tl 2 (.int .i64 o) hHeld ?_)
   (refine Tk.tl 3 (.pointer (some (ad.add o))) hHeld ?_)
   (refine Tk.tl 4 (.int .i64 x) hHeld ?_)
   (refine Tk.tl 5 (.slice (some ad) ss.length c1) hHeld ?_)
   (refine Tk.tl 6 (.int .i64 p) hHeld ?_)
   (refine Tk.tl 7 (.pointer (some (ad.add p))) hHeld ?_)
   (refine Tk.tl 8 (.int .i64 y) hHeld ?_)
   (refine Tk.tl 9 (.int .i64 (x-y)) hHeld ?_)
   (refine Qg (rs:=[10]) (by kernel_rfl) (by simp) ?_;refine Qc.cons rfl (by decide) (fun K hK=> ?_) Qc.nil)
   go_simp;refine(hLn.out _).mono ?_;rintro en w1 ⟨rfl,hw1⟩;rw[hw1];clear hw1;go_wp2_with fail;refine hK.out _ _ hHeld (fun hHeld=> ?_);clear hK K
   try simp only[Act.put,Tk.z1,Tk.z2,Tk.z3,Tk.z4,Tk.z5,Tk.z6]
   (refine Tk.tl 11 (.int .i64 (sm+ln)) hHeld ?_)
   have hRs:=hRw.out.step hHeld.2.2.2.2;have G7:=(hRs.blk ⟨g7, #[.int .i64 (sm)],3⟩ (by simp)).1;have y7:=Qj G7 0;have z7':=hHeld.2.1;have hRn:=Rws.set (G1:=[⟨w.heap.size, #[.slice (some ad) ss.length c1],22⟩]) (G2:=[⟨(g7+1), #[.slice B us.length c2],23⟩]) (b:=⟨g7, #[.int .i64 (sm)],3⟩) hRs 0 (.int .i64 (sm+ln));simp only[List.setIfInBounds_toArray,List.set_cons_zero,List.nil_append,List.cons_append] at hRn;have hK5:KeepsOthers Z (ZD.setCell ⟨g7,0,none⟩ (.int .i64 (sm+ln))):=(Zq hHeld.2.2.2.2).trans (KeepsOthers.setCell _ ⟨g7,0,none⟩ (.int .i64 (sm+ln)));have hkl:Qz (Zy B) Z (ZD.setCell ⟨g7,0,none⟩ (.int .i64 (sm+ln))):=Qz.set HG.out (Qz.step HG.out hRw.out.below.size hHeld.2.2.2.2) (by exact hg7w) _;obtain⟨wn,hwn⟩: ∃wn,wn=ZD.setCell ⟨g7,0,none⟩ (.int .i64 (sm+ln)):=⟨_,rfl⟩;rw[<-hwn] at hRn hK5 hkl;replace hRn:=Qa.mk hRn;replace hK5:=Qa.mk hK5;replace hkl:=Qa.mk hkl;replace hwn:=Qa.mk hwn;clear hRs G7
   (refine Qg (rs:=[12]) (by kernel_rfl) (by simp) ?_;refine Qc.Zl rfl (by decide) (fun K hK=> ?_) Qc.nil)
   go_simp;go_wp2_with fail;refine hK.out _ _ ?_;clear hK K
   try simp only[Act.put,Tk.z1,Tk.z2,Tk.z3,Tk.z4,Tk.z5,Tk.z6]
   refine Qq (by kernel_rfl) ?_ _;rw[<-hwn.out];clear hHeld hwn z2 z7 e1 e2 z7' y7;gi_wp2;exact⟨hK5.out.from _,hkl.out,by show Rws w _ [] [⟨w.heap.size, #[.slice (some ad) ss.length c1],22⟩,⟨g7, #[.int .i64 (scT ss us (j+1+1))],3⟩,⟨(g7+1), #[.slice B us.length c2],23⟩];rw[<-hsn.out];exact hRn.out⟩
 case done=>
  rintro D W hD hRw hDf;have z7:W.cell? ⟨g7,0,none⟩=some (.int .i64 (scT ss us (uN us))):=(by rw[Qb (hRw.blk ⟨g7, #[.int .i64 (scT ss us (uN us))],3⟩ (by simp)).1];rfl);have hq:=hRw.below;have hCS:Qa (Ya ss us=scT ss us (uN us)):=⟨rfl⟩;obtain⟨tt,htt⟩: ∃tt,tt=scT ss us (uN us):=⟨_,rfl⟩;rw[<-htt] at z7 hCS;have hbe:=Qa.mk (Rws.Jf hRw (grownBy_putObj' W D (.deferred none)) (fun r e=>by cases e;exact⟨by have:=hs3.out;omega,_,hDf,rfl⟩)).below;clear htt hRw hq;gi_wp2;refine⟨by simp,.inl ⟨_,_,rfl,run_takeDeferred hDf,?_⟩⟩;exact⟨.tuple #[.int .i64 tt,.int .i64 0],by simp[results,Tryz.f114,go_sem],by rw[hCS.out],hbe.out⟩
end Sca

namespace Gn
attribute [local go_sem] Qh Qi Qk Ql Qd Qe
open Q15
open Q16 (isW Qx)
open Q21 (Qb Qj Xo Yz Je Jy Tx)
open Bts
open Sca
def Ga (ws sc qu fi:List Int):Bool:=decide (sc.length=ws.length)&&(decide (qu.length=128)&&(Je fi&&(Q16.rng (-1023) 1023 qu&&decide (scE sc (Xo ws qu)=0))))
theorem CB_of {w:World} {g:Nat} {l:List Bool} {t:Nat} (h:w.heap[g]? =some (.cells (l.map Value.bool).toArray t (0,0))) (hl:l.length<=1000000):Kd.bool.C w (some ⟨g,0,none⟩) l.length l:=by
 refine Kd.Zu (enc:=Value.bool) (h1:=fun _=>rfl) (d:=false) ⟨rfl,by omega,fun h0=>⟨_,rfl,fun j hj=> ?_⟩⟩;have e:(⟨g,0,none⟩:Addr).add j=⟨g,j,none⟩:=by simp[Addr.add];exact fun h=>h.symm
 rw[e,Qb h];simp[List.getD_eq_getElem?_getD,List.getElem?_eq_getElem hj]
theorem Ho (sh:Bool) (A1 A2 A3 A4 A:Option Addr) (n1 c1 c2 c3 c4 c:Nat) (ws sc qu fi:List Int) (w:World) (hr:(Kd.int .i64).C w A ws.length ws) (hW:isW ws=true) (h2:(Kd.int .i64).C w A2 sc.length sc) (h3:(Kd.int .i64).C w A3 qu.length qu) (h4:(Kd.int .i64).C w A4 fi.length fi)
  (l2:sc.length<=1000000) (l3:qu.length<=1000000) (l4:fi.length<=1000000):
  Calls Tryz.prog 67 #[.agg #[.bool sh,.slice A1 n1 c1,.slice A2 sc.length c2,.slice A3 qu.length c3,.slice A4 fi.length c4],.slice A ws.length c] w fun e w'=>e= .returned (.bool (Ga ws sc qu fi))/\Below w.heap.size w w':=by
 obtain⟨W0,hW0⟩: ∃W0,W0=w.alloc (.cells #[.bool sh,.slice A1 n1 c1,.slice A2 sc.length c2,.slice A3 qu.length c3,.slice A4 fi.length c4] 46):=⟨_,rfl⟩;have hb0:Below w.heap.size w W0:=(by rw[hW0];exact(Below.refl _ _).alloc (Nat.le_refl _) _);have hB0:W0.heap[w.heap.size]? =some (.cells #[.bool sh,.slice A1 n1 c1,.slice A2 sc.length c2,.slice A3 qu.length c3,.slice A4 fi.length c4] 46 (0,0)):=(by rw[hW0];exact heap_alloc_new _ _);have k2:W0.cell? ⟨w.heap.size,2,none⟩=some (.slice A2 sc.length c2):=(by rw[Qb hB0];rfl);have k3:W0.cell? ⟨w.heap.size,3,none⟩=some (.slice A3 qu.length c3):=(by rw[Qb hB0];rfl);have HI:=Qa.mk (fun(W:World) (hb:Below w.heap.size w W)=>Jy A4 c4 fi W (Kd.Qf h4 hb) l4);have HR3:=Qa.mk (fun(W:World) (hb:Below w.heap.size w W)=>Kd.Qf h3 hb);have hwl:(ws.length:Int)<=32:=(by have:=(Qx.1 hW).2.2;omega);have hsl:(sc.length:Int)<=1000000:=(by omega);have hql:(qu.length:Int)<=1000000:=(by omega);have hchk:Ga ws sc qu fi=(decide (sc.length=ws.length)&&(decide (qu.length=128)&&(Je fi&&(Q16.rng (-1023) 1023 qu&&decide (scE sc (Xo ws qu)=0))))):=rfl;obtain⟨R,hR⟩: ∃R,R=Ga ws sc qu fi:=⟨_,rfl⟩;rw[<-hR] at hchk ⊢;replace hR:=Qa.mk hR;by_cases e1:sc.length=ws.length
 ·by_cases e2:qu.length=128
  ·rw[decide_eq_true e1,decide_eq_true e2,Bool.true_and,Bool.true_and] at hchk
   obtain⟨a3,rfl,-⟩:=Qn h3 (Below.refl _ _) (k:=0) (by omega)
   have hw0:0<ws.length:=by
    cases ws with
    |nil=>have:=(Qx.1 hW).2.1;simp at this
    |cons x y=>simp
   have HU:=Qa.mk (fun(W:World) (hb:Below w.heap.size w W)=>Tx A c ws a3 c3 qu W (Kd.Qf hr hb) hW (Kd.Qf h3 hb) e2);have hul:=Yz ws qu;obtain⟨us,hus⟩: ∃us,us=Xo ws qu:=⟨_,rfl⟩;rw[<-hus] at HU hul hchk;have HCy:=Qa.mk (fun(h:scE sc us=0) (W:World) (g:Nat) (hb:Below w.heap.size w W) (hg:Kd.bool.C W (some ⟨g,0,none⟩) us.length us)=>Nq A2 (some ⟨g,0,none⟩) c2 us.length sc us W (Kd.Qf h2 hb) hg (by omega) (by omega) (by omega) h);have HCn:=Qa.mk (fun(h:scE sc us≠0) (W:World) (g:Nat) (hb:Below w.heap.size w W) (hg:Kd.bool.C W (some ⟨g,0,none⟩) us.length us)=>Qer A2 (some ⟨g,0,none⟩) c2 us.length sc us W (Kd.Qf h2 hb) hg (by omega) (by omega) h);have hne:((sc.length:Int) != (ws.length:Int))=false:=(by rw[e1];simp);have hne2:((qu.length:Int) != 128)=false:=(by rw[e2];rfl);have hne3:(sc.length != ws.length)=false:=(by rw[e1];simp);have hne4:(qu.length != 128)=false:=(by rw[e2];rfl);have hus9:us.length<=1000000:=(by omega);replace e1:=Qa.mk e1;replace e2:=Qa.mk e2;replace hul:=Qa.mk hul
   cases hf:Je fi with
   |false=>
    rw[hf] at HI hchk;rw[Bool.false_and] at hchk;replace hchk:=Qa.mk hchk;clear hr hW h2 h3 h4 l2 l3 l4 HU HCy HCn hus hf hw0;go_enter Tryz.func67,Tryz.ntmps67;go_wp2_with fail;rw[<-hW0];refine(HI.out _ hb0).mono ?_;rintro e w' ⟨rfl,hbn⟩;replace hb0:=bnx hb0 hbn;clear hbn hW0;go_wp2_with fail;go_ret;exact⟨by rw[hchk.out];rfl,hb0⟩
   |true=>
    rw[hf] at HI hchk;rw[Bool.true_and] at hchk;replace hchk:=Qa.mk hchk;clear hr hW h2 h3 h4 l2 l3 l4 hus hf hw0;go_enter Tryz.func67,Tryz.ntmps67;go_wp2_with fail;rw[<-hW0];refine(HI.out _ hb0).mono ?_;rintro e w' ⟨rfl,hbn⟩;replace hb0:=bnx hb0 hbn;replace k2:=cnx k2 hbn;replace k3:=cnx k3 hbn;clear hbn hW0 hB0;go_wp2_with fail;go_loop [32] (fun i=> ∃k:Nat,i= .int .i64 k/\k<=qu.length/\Qa (Q16.rng (-1023) 1023 (qu.take k)=true)) (fun i=>qu.length-(intOf i).toNat)
    case atStart=>exact⟨0,rfl,by omega,⟨rfl⟩⟩
    case round=>
     obtain⟨k,rfl,hk,ha⟩:=hrel;by_cases hlt:k<qu.length
     ·obtain⟨ad,had,hcell⟩:=Qn (HR3.out _ hb0) (Below.refl _ _) hlt
      cases had;have hkI:(k:Int)<(qu.length:Int):=(by omega);have hno:=Qa.mk (fun h=>Q16.Pk (low:= -1023) (high:=1023) hlt h)
      have hT:Qa (Q16.rng (-1023) 1023 (qu.take (k+1))=decide (-1023<=rd qu k/\rd qu k<=1023)):=⟨by
       have:=ha.out;unfold Q16.rng at this ⊢;rw[Qu qu k hlt,List.all_append,this]
       simp⟩
      obtain⟨x,hx⟩: ∃x,x=rd qu k:=⟨_,rfl⟩;rw[<-hx] at hcell hno hT;have hlt':=Qa.mk hlt;clear hx hlt;by_cases hx1:x< -1023
      ·have t1:decide (x< -1023)=true:=decide_eq_true hx1
       have hE:Qa (R=false):=⟨by rw[hchk.out,hno.out (.inl hx1)];rfl⟩;clear hx1;go_wp2_with fail;go_ret;exact⟨by rw[hE.out];rfl,hb0⟩
      ·have t1:decide (x< -1023)=false:=decide_eq_false hx1
       by_cases hx2:1023<x
       ·have t2:decide (1023<x)=true:=decide_eq_true hx2
        have hE:Qa (R=false):=⟨by rw[hchk.out,hno.out (.inr hx2)];rfl⟩;clear hx1 hx2;go_wp2_with fail;go_ret;exact⟨by rw[hE.out];rfl,hb0⟩
       ·have t2:decide (1023<x)=false:=decide_eq_false hx2
        have hT2:Qa (Q16.rng (-1023) 1023 (qu.take (k+1))=true):=⟨by rw[hT.out];exact decide_eq_true (by omega)⟩;clear hx1 hx2 hT;go_wp2_with fail;go_round
        case rel=>exact⟨k+1,by go_num,hlt'.out,hT2⟩
        case measure=>have:=hlt'.out;simp[intOf];omega
     ·obtain rfl:k=qu.length:=by omega
      have hrg:=ha.out;rw[List.take_length] at hrg;have hchk2:Qa (R=decide (scE sc us=0)):=⟨by rw[hchk.out,hrg,Bool.true_and]⟩;clear ha hchk hrg hlt hk;go_wp2_with fail;rw[e2.out];refine(HU.out _ hb0).mono ?_;rintro e w2 ⟨g,rfl,hg,hgc,hbn⟩;have hC:=CB_of hgc hus9;replace hb0:=bnx hb0 hbn;replace k2:=cnx k2 hbn;by_cases hE:scE sc us=0
      ·have HC:=HCy.out hE w2 g hb0 hC
       rw[hul.out] at HC;replace HC:=Qa.mk HC;have hr9:Qa (R=true):=⟨by rw[hchk2.out];exact decide_eq_true hE⟩;clear hC hgc hE HCy HCn HU hbn hchk2 hg k3;go_wp2_with fail;refine HC.out.mono ?_;rintro e w3 ⟨rfl,hbn⟩;replace hb0:=bnx hb0 hbn;clear hbn;go_wp2_with fail;go_ret;exact⟨by rw[hr9.out];rfl,hb0⟩
      ·have HC:=HCn.out hE w2 g hb0 hC
       rw[hul.out] at HC;replace HC:=Qa.mk HC;have hr9:Qa (R=false):=⟨by rw[hchk2.out];exact decide_eq_false hE⟩;obtain⟨E,hEe⟩: ∃E,E=scE sc us:=⟨_,rfl⟩;rw[<-hEe] at HC hE;have hE2:(E==0)=false:=(by simpa using hE);clear hC hgc hE hEe HCy HCn HU hbn hchk2 hg k3;go_wp2_with fail;refine HC.out.mono ?_;rintro e w3 ⟨rfl,hbn⟩;replace hb0:=bnx hb0 hbn;clear hbn;go_wp2_with fail;go_ret;exact⟨by rw[hr9.out];rfl,hb0⟩
  ·rw[decide_eq_true e1,decide_eq_false e2,Bool.true_and,Bool.false_and] at hchk
   have hne:((sc.length:Int) != (ws.length:Int))=false:=(by rw[e1];simp);have hne3:(sc.length != ws.length)=false:=(by rw[e1];simp);have hne2:((qu.length:Int) != 128)=true:=by simpa using fun h=>e2 (by omega)
   have hne4:(qu.length != 128)=true:=(by simpa using e2);replace hchk:=Qa.mk hchk;replace e1:=Qa.mk e1;replace e2:=Qa.mk e2;rw[hW0] at hb0;clear hr hW h2 h3 h4 l2 l3 l4 k2 k3 hW0 hB0;go_enter Tryz.func67,Tryz.ntmps67;go_wp2_with fail;go_ret;exact⟨by rw[hchk.out];rfl,hb0⟩
 ·rw[decide_eq_false e1,Bool.false_and] at hchk
  have hne:((sc.length:Int) != (ws.length:Int))=true:=by simpa using fun h=>e1 (by omega)
  have hne3:(sc.length != ws.length)=true:=(by simpa using e1);replace hchk:=Qa.mk hchk;replace e1:=Qa.mk e1;rw[hW0] at hb0;clear hr hW h2 h3 h4 l2 l3 l4 k2 k3 hW0 hB0;go_enter Tryz.func67,Tryz.ntmps67;go_wp2_with fail;go_ret;exact⟨by rw[hchk.out];rfl,hb0⟩
end Gn

namespace Gn
attribute [local go_sem] Qh Qi Qk Ql Qd Qe
open Q15
open Q21
def ch0:Ch:=⟨false,[],[],[],[]⟩
def chK (g:Gr) (k:Nat):Ch:=g.chs.getD k ch0
theorem Jt {w W:World} {A:Option Addr} {xs:List Ch} (h:kCh.C w A xs.length xs) (hb:Below w.heap.size w W) {k:Nat} (hk:k<xs.length):
  ∃ad A1 c1 A2 c2 A3 c3 A4 c4,A=some ad/\(∀(j:Nat) (u:Value),[Value.bool (xs.getD k ch0).sh,.slice A1 (xs.getD k ch0).gr.length c1,.slice A2 (xs.getD k ch0).sc.length c2,.slice A3 (xs.getD k ch0).qu.length c3,.slice A4 (xs.getD k ch0).fi.length c4][j]? =some u->W.cell? (ad.add (k*5+j))=some u)/\
   (Kd.int .i64).C W A1 (xs.getD k ch0).gr.length (xs.getD k ch0).gr /\(Kd.int .i64).C W A2 (xs.getD k ch0).sc.length (xs.getD k ch0).sc /\(Kd.int .i64).C W A3 (xs.getD k ch0).qu.length (xs.getD k ch0).qu /\(Kd.int .i64).C W A4 (xs.getD k ch0).fi.length (xs.getD k ch0).fi :=by
 obtain⟨ad,c,e,_,hK,hc⟩:=Kd.Oj (Kd.Qf h hb) ch0 k (by omega) (by omega);have hK2:kCh.K W (xs.getD k ch0) c:=hK;obtain⟨A1,c1,A2,c2,A3,c3,A4,c4,rfl,l1,g1,l2,g2,l3,g3,l4,g4⟩:=Iz hK2;have hc': ∀(j:Nat) (u:Value),[Value.bool (xs.getD k ch0).sh,.slice A1 (xs.getD k ch0).gr.length c1,.slice A2 (xs.getD k ch0).sc.length c2,.slice A3 (xs.getD k ch0).qu.length c3,.slice A4 (xs.getD k ch0).fi.length c4][j]? =some u->W.cell? (ad.add ((k:Int).toNat *5+j))=some u:=hc;exact⟨ad,A1,c1,A2,c2,A3,c3,A4,c4,e,hc',g1,g2,g3,g4⟩
theorem La (AC M:Option Addr) (cC cM n m:Nat) (w:World) (hn:n<1\/2<n):
  Calls Tryz.prog 35 #[.agg #[.slice AC n cC,.slice M m cM]] w fun e w'=>e= .returned (.tuple #[.slice none 0 0,.bool false])/\Below w.heap.size w w':=by
 have hb:Below w.heap.size w (w.alloc (.cells #[.slice AC n cC,.slice M m cM] 31)):=(Below.refl _ _).alloc (Nat.le_refl _) _;have hu31:=Tryz.underlying31;rcases hn with hn|hn
 ·have t1:decide ((n:Int)<1)=true:=decide_eq_true (by omega)
  clear hn;go_enter Tryz.func35,Tryz.ntmps35;go_wp2_with fail;go_ret2;exact⟨rfl,hb⟩
 ·have t1:decide ((n:Int)<1)=false:=decide_eq_false (by omega)
  have t2:decide (2<(n:Int))=true:=decide_eq_true (by omega);clear hn;go_enter Tryz.func35,Tryz.ntmps35;go_wp2_with fail;go_ret2;exact⟨rfl,hb⟩
end Gn

namespace Gn
attribute [local go_sem] Qh Qi Qk Ql Qd Qe
open Q15
open Q21
theorem Ma (AC M:Option Addr) (cC cM:Nat) (g:Gr) (w:World) (hL:Laid w) (hc:kCh.C w AC g.chs.length g.chs) (hn:1<=g.chs.length/\g.chs.length<=2) (hd:Zc (chK g 0).sh (chK g 0).gr =false):
  Calls Tryz.prog 35 #[.agg #[.slice AC g.chs.length cC,.slice M g.mid.length cM]] w fun e w'=>e= .returned (.tuple #[.slice none 0 0,.bool false])/\Below w.heap.size w w':=by
 obtain⟨w1,hw1⟩: ∃w1,w1=w.alloc (.cells #[.slice AC g.chs.length cC,.slice M g.mid.length cM] 31):=⟨_,rfl⟩;have hb:Below w.heap.size w w1:=(by rw[hw1];exact(Below.refl _ _).alloc (Nat.le_refl _) _);have hu31:=Tryz.underlying31;have hu46:=Tryz.underlying46;obtain⟨ad,A1,c1,A2,c2,A3,c3,A4,c4,rfl,hcell,g1,-,-,-⟩:=Jt hc hb (k:=0) (by omega);have hx:chK g 0=g.chs.getD 0 ch0:=rfl;rw[<-hx] at hcell g1;have HW:=Qa.mk (fun(W:World) (hb2:Below w1.heap.size w1 W)=>X3 (chK g 0).sh A1 c1 (chK g 0).gr W (hL.below (bnx hb hb2)) (Kd.Qf g1 hb2));unfold D7 Kb at HW;rw[hd,if_neg (by decide),if_neg (by decide)] at HW;obtain⟨X,hX⟩: ∃X,X=chK g 0:=⟨_,rfl⟩;rw[<-hX] at hcell HW;have n0:w1.cell? ad=some (.bool X.sh):=(by simpa[Addr.add] using hcell 0 _ rfl);have n1:w1.cell? ⟨ad.block,ad.off+1,none⟩=some (.slice A1 X.gr.length c1):=(by simpa[Addr.add] using hcell 1 _ rfl);have n2:w1.cell? ⟨ad.block,ad.off+2,none⟩=some (.slice A2 X.sc.length c2):=(by simpa[Addr.add] using hcell 2 _ rfl);have n3:w1.cell? ⟨ad.block,ad.off+3,none⟩=some (.slice A3 X.qu.length c3):=(by simpa[Addr.add] using hcell 3 _ rfl);have n4:w1.cell? ⟨ad.block,ad.off+4,none⟩=some (.slice A4 X.fi.length c4):=(by simpa[Addr.add] using hcell 4 _ rfl);have t1:decide ((g.chs.length:Int)<1)=false:=decide_eq_false (by omega);have t2:decide (2<(g.chs.length:Int))=false:=decide_eq_false (by omega);have t3:(0:Int)<(g.chs.length:Int):=(by omega);rw[hw1] at n0 n1 n2 n3 n4;clear hcell hX hx hd hn hL hc g1;go_enter Tryz.func35,Tryz.ntmps35;go_wp2_with fail;rw[<-hw1];refine(HW.out _ ((Below.refl _ _).alloc (Nat.le_refl _) _)).mono ?_;rintro e w2 ⟨B,q,rfl,-,hbn⟩;have hb2:=bnx hb (bnx ((Below.refl w1.heap.size w1).alloc (Nat.le_refl _) (.cells #[.bool X.sh,.slice A1 X.gr.length c1,.slice A2 X.sc.length c2,.slice A3 X.qu.length c3,.slice A4 X.fi.length c4] 46)) hbn);clear hbn n0 n1 n2 n3 n4 hw1;go_wp2_with fail;go_ret2;exact⟨rfl,hb2⟩
theorem Oa (AC M:Option Addr) (cC cM:Nat) (g:Gr) (w:World) (hL:Laid w) (hc:kCh.C w AC g.chs.length g.chs) (hn:1<=g.chs.length/\g.chs.length<=2) (hd:Zc (chK g 0).sh (chK g 0).gr =true) (hm:(if(g.chs.length:Int)=1 then decide (g.mid.length=0) else decide ((g.mid.length:Int)=((Qm (chK g 0).sh (chK g 0).gr).length :Nat)))=false):
  Calls Tryz.prog 35 #[.agg #[.slice AC g.chs.length cC,.slice M g.mid.length cM]] w fun e w'=>e= .returned (.tuple #[.slice none 0 0,.bool false])/\Below w.heap.size w w':=by
 obtain⟨w1,hw1⟩: ∃w1,w1=w.alloc (.cells #[.slice AC g.chs.length cC,.slice M g.mid.length cM] 31):=⟨_,rfl⟩;have hb:Below w.heap.size w w1:=(by rw[hw1];exact(Below.refl _ _).alloc (Nat.le_refl _) _);have hu31:=Tryz.underlying31;have hu46:=Tryz.underlying46;obtain⟨ad,A1,c1,A2,c2,A3,c3,A4,c4,rfl,hcell,g1,-,-,-⟩:=Jt hc hb (k:=0) (by omega);have hx:chK g 0=g.chs.getD 0 ch0:=rfl;rw[<-hx] at hcell g1;have HW:=Qa.mk (fun(W:World) (hb2:Below w1.heap.size w1 W)=>X3 (chK g 0).sh A1 c1 (chK g 0).gr W (hL.below (bnx hb hb2)) (Kd.Qf g1 hb2));unfold D7 Kb at HW;rw[hd,if_pos rfl,if_pos rfl] at HW;obtain⟨X,hX⟩: ∃X,X=chK g 0:=⟨_,rfl⟩;rw[<-hX] at hcell HW hm;obtain⟨ws,hws⟩: ∃ws,ws=Qm X.sh X.gr:=⟨_,rfl⟩;rw[<-hws] at HW hm;have HM:=Qa.mk (fun(W:World)=>K4 M cM g.mid.length (g.chs.length:Int) (ws.length:Int) W);rw[hm] at HM;have n0:w1.cell? ad=some (.bool X.sh):=(by simpa[Addr.add] using hcell 0 _ rfl);have n1:w1.cell? ⟨ad.block,ad.off+1,none⟩=some (.slice A1 X.gr.length c1):=(by simpa[Addr.add] using hcell 1 _ rfl);have n2:w1.cell? ⟨ad.block,ad.off+2,none⟩=some (.slice A2 X.sc.length c2):=(by simpa[Addr.add] using hcell 2 _ rfl);have n3:w1.cell? ⟨ad.block,ad.off+3,none⟩=some (.slice A3 X.qu.length c3):=(by simpa[Addr.add] using hcell 3 _ rfl);have n4:w1.cell? ⟨ad.block,ad.off+4,none⟩=some (.slice A4 X.fi.length c4):=(by simpa[Addr.add] using hcell 4 _ rfl);have t1:decide ((g.chs.length:Int)<1)=false:=decide_eq_false (by omega);have t2:decide (2<(g.chs.length:Int))=false:=decide_eq_false (by omega);have t3:(0:Int)<(g.chs.length:Int):=(by omega);rw[hw1] at n0 n1 n2 n3 n4;clear hcell hX hx hd hn hL hc g1 hm hws;go_enter Tryz.func35,Tryz.ntmps35;go_wp2_with fail;rw[<-hw1];have hB1:w1.heap[w.heap.size]? =some (.cells #[.slice (some ad) g.chs.length cC,.slice M g.mid.length cM] 31 (0,0)):=(by rw[hw1];exact heap_alloc_new _ _);refine(HW.out _ ((Below.refl _ _).alloc (Nat.le_refl _) _)).mono ?_;rintro e w2 ⟨B,q,rfl,-,hbn⟩;have hb12:=bnx ((Below.refl w1.heap.size w1).alloc (Nat.le_refl _) (.cells #[.bool X.sh,.slice A1 X.gr.length c1,.slice A2 X.sc.length c2,.slice A3 X.qu.length c3,.slice A4 X.fi.length c4] 46)) hbn;have hb2:=bnx hb hb12;have z1:w2.cell? ⟨w.heap.size,1,none⟩=some (.slice M g.mid.length cM):=(by rw[Qb ((hb12.block _ (Qr hB1)).trans hB1)];rfl);clear hbn n0 n1 n2 n3 n4 hw1 hb hb12 hB1;go_wp2_with fail;refine(HM.out _).mono ?_;rintro e w3 ⟨rfl,hbn⟩;replace hb2:=bnx hb2 hbn;clear hbn z1;go_wp2_with fail;go_ret2;exact⟨rfl,hb2⟩
end Gn

end Go.Proofs.YtnflnicdjioflaaGreatDoor
