/- A part of the proof. -/
import Derived.Test.YtnflnicdjioflaaGreatDoorSxbl
import Derived.Test.YtnflnicdjioflaaGreatDoorSxbn
import Derived.Test.YtnflnicdjioflaaGreatDoorSxbm
set_option linter.unusedVariables false
set_option linter.unusedSimpArgs false
set_option maxRecDepth 100000
set_option maxHeartbeats 8000000
namespace Go.Proofs.YtnflnicdjioflaaGreatDoor
open Go.RowKit Go.Proofs.YtnflnicdjioflaaGreatDoorW.PrintWords Go.Proofs.YtnflnicdjioflaaGreatDoorW.PrintLast Go.Proofs.YtnflnicdjioflaaGreatDoorW.PrintMore
namespace Rs
attribute [local go_sem] Qh Qi Qk Ql Qd Qe
open Q15
open Q21
open Gn
open Q16 (KL)
open Sp
open Rq (Nj)
def spO (g:Gr):List (List Int):=if Jz g=true then spL g else[]
def spE (g:Gr):Int:=if Jz g=true then 0 else 1
def SpO (g:Gr) (w:World) (e:Ending) (w':World):Prop:= ∃B q,e= .returned (.tuple #[.slice B (spO g).length q,.int .i64 (spE g)])/\KL.C w' B (spO g).length (spO g)/\Below w.heap.size w w'
theorem KL_nil (w:World):KL.C w none 0 []:=Kd.Uc _ _
theorem Df (g:Gr) (A M:Option Addr) (c m:Nat) (w:World) (h:Gz w g A c M m) (hcq:T9 w A g.chs) (hl:g.chs.length<=1000000) (hs:Sm4 g):
  Calls Tryz.prog 14 #[grV g A c M m] w (SpO g w):=by
 have hu31:=Tryz.underlying31;obtain⟨w1,hw1⟩: ∃w1,w1=w.alloc (.cells #[.slice A g.chs.length c,.slice M g.mid.length m] 31):=⟨_,rfl⟩;have hb1:Below w.heap.size w w1:=(by rw[hw1];exact(Below.refl _ _).alloc (Nat.le_refl _) _);have hB1:w1.heap[w.heap.size]? =some (.cells #[.slice A g.chs.length c,.slice M g.mid.length m] 31 (0,0)):=(by rw[hw1];exact heap_alloc_new _ _);have HRt:=Qa.mk (fun(W:World) (hb:Below w.heap.size w W)=>Nj g A M c m W (Kd.Qf h.chs hb) (Uq hcq h.chs hb) hl (fun x hx=>by have:=hs x hx;omega));unfold grV SpO spO spE
 cases hg:Jz g with
 |false=>
  rw[hg] at HRt;rw[if_neg (by decide),if_neg (by decide)];clear h hcq hl hs hg;go_enter Tryz.func14,Tryz.ntmps14;go_wp2_with fail;rw[<-hw1];refine(HRt.out _ hb1).mono ?_;rintro e w2 ⟨rfl,hbn⟩;have hb2:=bnx hb1 hbn;clear hw1 hbn hB1 HRt;go_wp2_with fail;go_ret2;exact⟨none,0,rfl,KL_nil _,hb2⟩
 |true=>
  rw[hg] at HRt;rw[if_pos rfl,if_pos rfl];have hsl:Qa ((spL g).length =g.chs.length):=⟨by unfold spL;simp⟩
  have HSp:=Qa.mk (fun(W:World) (hb:Below w.heap.size w W)=>(show Calls Tryz.prog 41 #[.agg #[.slice A g.chs.length c,.slice M g.mid.length m]] W fun e w'=> ∃B q,e= .returned (.slice B g.chs.length q)/\KL.C w' B g.chs.length (spL g)/\Below W.heap.size W w' from
   Sj g.chs g.mid A M c m W (Kd.Qf h.chs hb) (Kd.Qf h.mid hb) hg (Uq hcq h.chs hb)))
  clear h hcq hl hs hg;go_enter Tryz.func14,Tryz.ntmps14;go_wp2_with fail;rw[<-hw1];refine(HRt.out _ hb1).mono ?_;rintro e w2 ⟨rfl,hbn⟩;have hB2:=(hbn.block _ (Qr hB1)).trans hB1;have b0:w2.cell? ⟨w.heap.size,0,none⟩=some (.slice A g.chs.length c):=(by rw[Qb hB2];rfl);have b1:w2.cell? ⟨w.heap.size,1,none⟩=some (.slice M g.mid.length m):=(by rw[Qb hB2];rfl);have hb2:=bnx hb1 hbn;clear hw1 hbn hB1 hb1 HRt hB2;go_wp2_with fail;refine(HSp.out _ hb2).mono ?_;rintro e w3 ⟨B,q,rfl,hK,hbn⟩;have hfin:=Qa.mk (And.intro hK (bnx hb2 hbn));clear hK hbn hb2 b0 b1 HSp;go_wp2_with fail;go_ret2;exact⟨B,q,by rw[hsl.out];rfl,by rw[hsl.out];exact hfin.out.1,hfin.out.2⟩
theorem Qbg (g:Gr) (A M:Option Addr) (c m:Nat) (w:World) (hL:Laid w) (h:Gz w g A c M m) (hs:Sm g) (hg:Jz g=false):
  Calls Tryz.prog 13 #[grV g A c M m] w fun e w'=>e= .returned (.tuple #[.slice none 0 0,.int .i64 1])/\Below w.heap.size w w':=by
 have hu31:=Tryz.underlying31;obtain⟨w1,hw1⟩: ∃w1,w1=w.alloc (.cells #[.slice A g.chs.length c,.slice M g.mid.length m] 31):=⟨_,rfl⟩;have hb1:Below w.heap.size w w1:=(by rw[hw1];exact(Below.refl _ _).alloc (Nat.le_refl _) _);have HW:=Qa.mk (fun(W:World) (hb:Below w.heap.size w W)=>Ja A M c m g W (hL.below hb) (h.below hb).chs hs);unfold Hf at HW;simp only[hg,Bool.false_eq_true,if_false] at HW;unfold grV;clear h hL hs hg;refine(callsIn_wide (n:=3)).1 ?_;refine callsIn_of_wp Tryz.func13 rfl trivial ?_ rfl;simp only[Tryz.ntmps13,List.size_toArray,List.length_cons,List.length_nil,Nat.reduceAdd,Nat.reduceSub,Array.replicate_succ,Array.replicate_zero,List.push_toArray,List.append_toArray,List.nil_append,List.cons_append];gi_wp2_with fail;rw[<-hw1];refine⟨trivial,(callsIn_wide.2 (HW.out w1 hb1)).mono ?_⟩;rintro en W1 ⟨rfl,hb2⟩;have hb3:=bnx hb1 hb2;clear hw1 hb2;gi_wp2_with fail;go_ret2;exact⟨rfl,hb3⟩
theorem Da (g:Gr) (A M:Option Addr) (c m:Nat) (w:World) (hL:Laid w) (h:Gz w g A c M m) (hcq:T9 w A g.chs) (hs:Sm4 g):
  Calls Tryz.prog 13 #[grV g A c M m] w (SpO g w):=by
 have hs3:Sm g:=fun x hx=>(hs x hx).2
 cases hg:Jz g with
 |false=>
  refine(Qbg g A M c m w hL h hs3 hg).mono fun e w' ⟨he,hb⟩=> ?_
  unfold SpO spO spE;rw[hg,if_neg (by decide),if_neg (by decide)];exact⟨none,0,he,KL_nil _,hb⟩
 |true=>
  refine(Mj g A M c m w hL h hs3 hg hcq).mono fun e w' ⟨go,cp,cur,F,he,h1,h2,h3,hb⟩=> ?_
  have hn:=(Kz.1 hg).n;unfold SpO spO spE;rw[hg,if_pos rfl,if_pos rfl,show(spL g).length =g.chs.length by unfold spL;simp];exact⟨_,_,he,KL_of (P:=fun _=>128) (U:=fun j=>((spJ g (Qm (chK g 0).sh (chK g 0).gr) j).map (Value.int .i64)).toArray) (Y:=spJ g (Qm (chK g 0).sh (chK g 0).gr)) h1 h2 (fun j hj=>⟨h3 j hj,BL_map _⟩) (fun _ _=>Nat.le_refl _) (fun j=>Bd.Jl _ _ _ 128) (by omega),hb⟩
theorem Be (A B:Option Addr) (ca cb:Nat) (xs:List (List Int)) (w:World) (hx:KL.C w A xs.length xs) (hy:KL.C w B xs.length xs) (hl:xs.length<=1000000) (hl2: ∀x∈xs,x.length<=1000000):
  Calls Tryz.prog 15 #[.slice A xs.length ca,.slice B xs.length cb] w fun e w'=>e= .returned (.bool true)/\Below w.heap.size w w':=by
 have HX:=Qa.mk (fun(W:World) (hb:Below w.heap.size w W) k (hk:k<xs.length)=>Ou hx hb hk);have HY:=Qa.mk (fun(W:World) (hb:Below w.heap.size w W) k (hk:k<xs.length)=>Ou hy hb hk);have HL:=Qa.mk (fun k (hk:k<xs.length)=>hl2 (xs.getD k []) (by rw[List.getD_eq_getElem?_getD,List.getElem?_eq_getElem hk];exact List.getElem_mem hk));have hlI:(xs.length:Int)<=1000000:=(by omega);clear hx hy hl hl2;go_enter Tryz.func15,Tryz.ntmps15;go_wp2;go_loopw [14] (fun i wr=> ∃k:Nat,i= .int .i64 k/\k<=xs.length/\Below w.heap.size w wr) (fun i _=>xs.length-(intOf i).toNat)
 case atStart=>exact⟨0,rfl,by omega,Below.refl _ _⟩
 case round=>
  obtain⟨k,rfl,hk,hb⟩:=hrel;by_cases hlt:k<xs.length
  ·have hkI:(k:Int)<(xs.length:Int):=by omega
   obtain⟨ad,X,c,rfl,q1,r1⟩:=HX.out _ hb k hlt;obtain⟨ad2,Y,c2,rfl,q2,r2⟩:=HY.out _ hb k hlt;have hl9:=HL.out k hlt;have hlI2:((rdL xs k).length :Int)<=1000000:=(by have:(rdL xs k).length <=1000000:=hl9;omega);have hbr:=Qa.mk hb;have hT:=Qa.mk hlt;clear hb hl9 r1 r2 hlt hk;go_wp2;go_quiet (fail);have hbq:=Qa.mk (below_drewN' hbr.out nq);go_wp2_with fail;obtain⟨wo,hwo⟩: ∃wo:World,wo=wr.drewN nq:=⟨_,rfl⟩;rw[<-hwo] at hbq ⊢;clear hwo q1 q2 hbr;go_loopw [33] (fun i wr=> ∃t:Nat,i= .int .i64 t/\t<=(rdL xs k).length /\Qa (Below w.heap.size w wr)) (fun i _=>(rdL xs k).length -(intOf i).toNat)
   case atStart=>exact⟨0,rfl,by omega,hbq⟩
   case round=>
    obtain⟨t,rfl,ht,hb3⟩:=hrel;by_cases htl:t<(rdL xs k).length
    ·have htI:(t:Int)<((rdL xs k).length :Int):=by omega
     obtain⟨_,X,c,e,q1,-,r1⟩:=HX.out _ hb3.out k hT.out;cases e;obtain⟨_,Y,c2,e,q2,-,r2⟩:=HY.out _ hb3.out k hT.out;cases e;obtain⟨a3,rfl,s1⟩:=Qn r1 (Below.refl _ _) htl;obtain⟨a4,rfl,s2⟩:=Qn r2 (Below.refl _ _) htl;obtain⟨v,hv⟩: ∃v,v=rd (rdL xs k) t:=⟨_,rfl⟩;rw[<-hv] at s1 s2;have htT:=Qa.mk htl;clear hv htl ht r1 r2;go_wp2;go_quiet (fail);have hbq2:=Qa.mk (below_drewN' hb3.out nq);go_wp2_with fail;go_roundw
     case rel=>exact⟨t+1,by go_num,htT.out,hbq2⟩
     case measure=>have:=htT.out;simp[intOf];omega
    ·obtain rfl:t=(rdL xs k).length :=by omega
     have hb4:=hb3.out;go_wp2_with fail;go_roundw
     case rel=>exact⟨k+1,by go_num,hT.out,hb4⟩
     case measure=>have:=hT.out;simp[intOf];omega
  ·obtain rfl:k=xs.length:=by omega
   go_wp2;go_ret;exact⟨rfl,hb⟩
end Rs

end Go.Proofs.YtnflnicdjioflaaGreatDoor
