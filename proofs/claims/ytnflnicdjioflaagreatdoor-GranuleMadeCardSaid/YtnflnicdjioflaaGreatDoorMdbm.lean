/- A part of the proof. -/
import Derived.Test.YtnflnicdjioflaaGreatDoorMdbl
set_option linter.unusedVariables false
set_option linter.unusedSimpArgs false
set_option maxRecDepth 100000
set_option maxHeartbeats 8000000
namespace Go.Proofs.YtnflnicdjioflaaGreatDoor
open Go.RowKit Go.Proofs.YtnflnicdjioflaaGreatDoorW.PrintWords Go.Proofs.YtnflnicdjioflaaGreatDoorW.PrintLast Go.Proofs.YtnflnicdjioflaaGreatDoorW.PrintMore
namespace Gn
attribute [local go_sem] Qi Qj Qk Ql Qg Qh
open Q15
open Q21
open Sp (Ht Lx)
theorem capQ_of {w:World} {base p:Nat} {A:Option Addr} {xs:List Ch} (h:kCh.R 46 w base (fun _=>True) (.slice A xs.length p) xs):Ht w A xs:=by
 obtain⟨A',c',he,-,hr⟩:=Jc.reads h.2
 injection he with he _ _
 subst he;intro k ad B c hk hA hc;obtain⟨ad',cs,e1,-,hM,hcell⟩:=Zj.get_ hr ch0 (k:Int) (by omega) (by omega);rw[hA] at e1;cases e1;rw[Int.toNat_natCast] at hM hcell;obtain⟨_,_,rfl,rfl,⟨_,_,rfl,⟨v1,rfl,r1⟩,⟨_,_,rfl,⟨v2,rfl,r2⟩,⟨_,_,rfl,⟨v3,rfl,r3⟩,⟨v4,rfl,r4⟩⟩⟩⟩⟩:=hM;obtain⟨A3,c3,rfl,l3,-⟩:=Kd.Qu r3;have h3:=hcell 3 _ rfl;have:w.cell? (ad.add (k*5+3))=_:=h3;rw[hc] at this
 injection this with this
 injection this with _ _ e4
 rw[e4];exact⟨l3,Bts.R_cap r3⟩
theorem Rc {w W:World} {A:Option Addr} {xs:List Ch} (h:Ht w A xs) (hC:kCh.C w A xs.length xs) (hb:Below w.heap.size w W):Ht W A xs:=fun k ad B c hk hA hc=>by
 obtain⟨ad2,A1,c1,A2,c2,A3,c3,A4,c4,e,hcell,-,-,-,-⟩:=V6 hC (Below.refl _ _) hk;rw[hA] at e;cases e;have h3:=cnx (hcell 3 _ rfl) hb;rw[hc] at h3
 injection h3 with h3
 injection h3 with _ _ e4
 rw[e4];exact h k ad A3 c3 hk hA (hcell 3 _ rfl)
end Gn

namespace Gn
attribute [local go_sem] Qi Qj Qk Ql Qg Qh
open Q15
open Q21
open Bk
open Q16 (KL isW Q0 Zn)
theorem K7 {m:Nat}: ∀xs:List (List Int),(∀x∈xs,x.length<=m)->xs.flatten.length<=xs.length*m
 |[],_=>by simp
 |x::xs,h=>by
  have h1:=h x (by simp);have h2:=K7 xs (fun y hy=>h y (by simp[hy]));rw[List.flatten_cons,List.length_append,List.length_cons,Nat.succ_mul];omega
theorem Qei (c l s:List Int):(Vv c l s).length <=l.length*c.length:=by
 have h:=K7 (m:=c.length) ((List.range l.length).map fun k=>Yq (Zn c l k) (rd s k)) (fun x hx=>by
  obtain⟨k,_,rfl⟩:=List.mem_map.1 hx;unfold Yq
  split
  ·rw[List.length_map]
   unfold Q16.Zn;rw[List.length_take,List.length_drop];omega
  ·simp)
 rw[List.length_map,List.length_range] at h;exact h
theorem I5 {d:Dr} {sc:List (List Int)} (hf:Kh d=true) (hs: ∀x∈sc,x.length<=200):((Yc d sc).chs.length <=1000/\(Yc d sc).mid.length <=1000)/\Sm4 (Yc d sc):=by
 obtain⟨f1,f2,f3,f4,f5,f6,f7,f8⟩:=Vs hf;unfold Yc
 split
 ·rename_i hE
  refine⟨⟨by simp;omega,by dsimp only;omega⟩,fun x hx=> ?_⟩;obtain⟨k,hk,rfl⟩:=List.mem_map.1 hx
  have hdiv:Zd d.sh d.gr=true:=by
   unfold X6 at hE;by_cases hv:validD d=true
   ·unfold validD at hv
    simp only[Bool.and_eq_true] at hv;exact hv.2.1
   ·rw[if_neg hv] at hE
    cases hE
  have hw:=(Q0.1 (Xo hdiv)).2.2
  have hr:(rdL sc k).length <=200:=by
   by_cases hk:k<sc.length
   ·exact hs _ (by simp[rdL,hk])
   ·simp[rdL,List.getD_eq_getElem?_getD,List.getElem?_eq_none (by omega:sc.length<=k)]
  have hq:=Qei (rdL d.lis k) (Qm d.sh d.gr) (rdL sc k);have hq2:(Qm d.sh d.gr).length *(rdL d.lis k).length <=32*400:=Nat.mul_le_mul hw (f7 k);refine⟨?_,?_,?_,?_⟩
  ·show d.gr.length<=1000000
   omega
  ·show(X7 _ _ _).length <=1000000
   rw[Qe0];omega
  ·show(Vv _ _ _).length <=1000000
   omega
  ·show(rdL d.fil k).length <=1000000
   have:=f6 k;omega
 ·exact⟨⟨by simp,by simp⟩,fun x hx=>by cases hx⟩
theorem size4 {w:World} (hB:Xp w):4<=w.heap.size:=by
 have:=World.block_lt_of_cell? _ _ (hB.tab 0 (by decide));exact this
theorem Fy {w W:World} {A:Option Addr} {xs:List (List Int)} (h:G9 w A xs) (hC:KL.C w A xs.length xs) (hb:Below w.heap.size w W):G9 W A xs:=fun k ad B c hk hA hc=>by
 obtain⟨ad2,B2,c2,e,h1,_,_⟩:=Uh hC (Below.refl _ _) hk;rw[hA] at e;cases e;have h3:=cnx h1 hb;rw[hc] at h3
 injection h3 with h3
 injection h3 with _ _ h3
 rw[h3];exact h k ad B2 c2 hk hA h1
end Gn

namespace Gn
attribute [local go_sem] Qi Qj Qk Ql Qg Qh
open Q15
open Q21
open Bk
open Sp (Ht SOut spJ Lx)
open St (sV)
def MOut (g:Gr) (E:Int) (w:World) (e:Ending) (w':World):Prop:= ∃A p M q,e= .returned (.tuple #[.agg #[.slice A g.chs.length p,.slice M g.mid.length q],.int .i64 E])/\Hm w' g A p M q/\Ht w' A g.chs/\Below w.heap.size w w'
theorem Tv.mk {g:Gr} {E:Int} {w:World} {e:Ending} {w':World} (h:Tv g E w e w'):MOut g E w e w':=by
 obtain⟨⟨vC,vM,rfl,h1,h2⟩,hb⟩:=h;obtain⟨A,p,rfl,_,c1⟩:=Kd.Qu h1;obtain⟨M,q,rfl,_,c2⟩:=Kd.Qu h2;exact⟨A,p,M,q,rfl,⟨c1,c2⟩,capQ_of h1,hb⟩
theorem sm_of {g:Gr} (h:Sm4 g):Sm g:=fun x hx=>(h x hx).2
end Gn

namespace Gn
attribute [local go_sem] Qi Qj Qk Ql Qg Qh
open Q15
open Q21
open Bk
open Sp (Ht SOut spJ Lx)
open Q16 (KL)
open Md (Qc2 spJ_bd)
open Rq (Nc)
theorem Qd8 (d:Dr) (sc:List (List Int)):((X6 d sc==1)== !validD d)=true:=by
 unfold X6
 cases validD d with
 |false=>simp
 |true=>
  cases Vt d sc with
  |false=>simp
  |true=>
   cases sc.all (Q16.rng 0 95) with
   |false=>simp
   |true=>simp
theorem makeG_no {d:Dr} {sc:List (List Int)} (h:X6 d sc≠0):Yc d sc=⟨[],[]⟩:=by unfold Yc;rw[if_neg h]
theorem lens_of {d:Dr} {sc:List (List Int)} (he:X6 d sc=0): ∀x∈sc,x.length<=200:=by
 unfold X6 at he
 cases hv:validD d with
 |false=>rw[hv] at he;simp at he
 |true=>
  cases hl:Vt d sc with
  |false=>rw[hv,hl] at he;simp at he
  |true=>
   intro x hx;unfold Vt at hl;simp only[Bool.and_eq_true,decide_eq_true_eq,List.all_eq_true] at hl
   have hdv:Zd d.sh d.gr=true:=by
    unfold validD at hv;simp only[Bool.and_eq_true] at hv;exact hv.2.1
   have h32:=(Q16.Q0.1 (Xo hdv)).2.2;have:=hl.2 x hx;omega
theorem Fa (w:World) (hL:Laid w) (hB:Xp w) (d:Dr) (v:DrV) (hd:Kr w d v) (hc:G9 w v.Al d.lis) (As:Option Addr) (cs:Nat) (sc:List (List Int)) (hS:KL.C w As sc.length sc):
  Calls Tryz.prog 6 #[.agg (Q7 d v),.slice As sc.length cs] w fun e w'=>e= .returned (.bool true)/\Below w.heap.size w w':=by
 have hu26:=Tryz.underlying26;have hu31:=Tryz.underlying31;have hB4:=size4 hB;have HAw:=Qa.mk (fun(W:World) (hb:Below w.heap.size w W)=>O1 W (hL.below hb) (hB.below hb) (by have:=hb.size;omega));have HF:=Qa.mk (fun(W:World) (hb:Below w.heap.size w W)=>Pw d v W (hd.below hb));obtain⟨w1,hw1⟩: ∃w1,w1=w.alloc (.cells (Q7 d v) 26):=⟨_,rfl⟩;have hb1:Below w.heap.size w w1:=(by rw[hw1];exact(Below.refl _ _).alloc (Nat.le_refl _) _);unfold Q7 at HF hw1 ⊢
 cases hf:Kh d with
 |false=>
  rw[hf] at HF;clear hL hB hd hc hS hf;go_enter Tryz.func6,Tryz.ntmps6;go_wp2_with fail;rw[<-hw1];refine(HF.out _ hb1).mono ?_;rintro e w2 ⟨rfl,hb2⟩;replace hb1:=bnx hb1 hb2;clear hb2 hw1;go_wp2_with fail;refine(HAw.out _ hb1).mono ?_;rintro e w2 ⟨rfl,hb2⟩;replace hb1:=bnx hb1 hb2;go_wp2;go_ret;exact⟨rfl,hb1⟩
 |true=>
  rw[hf] at HF;have hB1:w1.heap[w.heap.size]? =some (.cells #[.bool d.sh,.slice v.Ag d.gr.length v.cg,.slice v.Am d.mid.length v.cm,.slice v.Af d.fil.length v.cf,.slice v.Al d.lis.length v.cl,.slice v.Ai d.lim.length v.ci] 26 (0,0)):=(by rw[hw1];exact heap_alloc_new _ _);by_cases h4:sc.length<=4
  ·have t17:decide (4<(sc.length:Int))=false:=decide_eq_false (by omega)
   have hslI:(sc.length:Int)<=4:=(by omega);have HV:=Qa.mk (fun(W:World) (hb:Below w.heap.size w W)=>Az d v W (hd.below hb) hf)
   have HMk:=Qa.mk (fun(W:World) (hb:Below w.heap.size w W)=>(show Calls Tryz.prog 9 #[.agg (Q7 d v),.slice As sc.length cs] W (MOut (Yc d sc) (X6 d sc) W) from by
    cases hv:validD d with
    |false=>exact(make_no d v As cs sc W (hL.below hb) (hd.below hb) hf hv).mono fun e w' h=>Tv.mk h
    |true=>exact(make_yes d v As cs sc W (hL.below hb) (hd.below hb) hf hv (Kd.Qe hS hb) (Fy hc hd.lis hb) h4).mono fun e w' h=>Tv.mk h))
   have hsm:=Qa.mk (fun(h: ∀x∈sc,x.length<=200)=>I5 hf h);have hLL:=Qa.mk (fun(W:World) (hb:Below w.heap.size w W)=>hL.below hb);have hl4:(d.lis.length:Int)<=4:=(by have:=(Vs hf).2.2.2.1;omega);have hAr:=Qa.mk (Qd8 d sc);unfold Q7 at HMk HV;clear hL hB hd hc hf hS h4;go_enter Tryz.func6,Tryz.ntmps6;go_wp2_with fail;rw[<-hw1];refine(HF.out _ hb1).mono ?_;rintro e w2 ⟨rfl,hb2⟩;have hB2:=(hb2.block _ (Qp hB1)).trans hB1;replace hb1:=bnx hb1 hb2;clear hb2 hw1 hB1 HF;have a0:w2.cell? ⟨w.heap.size,0,none⟩=some (.bool d.sh):=(by rw[Qb hB2];rfl);have a1:w2.cell? ⟨w.heap.size,1,none⟩=some (.slice v.Ag d.gr.length v.cg):=(by rw[Qb hB2];rfl);have a2:w2.cell? ⟨w.heap.size,2,none⟩=some (.slice v.Am d.mid.length v.cm):=(by rw[Qb hB2];rfl);have a3:w2.cell? ⟨w.heap.size,3,none⟩=some (.slice v.Af d.fil.length v.cf):=(by rw[Qb hB2];rfl);have a4:w2.cell? ⟨w.heap.size,4,none⟩=some (.slice v.Al d.lis.length v.cl):=(by rw[Qb hB2];rfl);have a5:w2.cell? ⟨w.heap.size,5,none⟩=some (.slice v.Ai d.lim.length v.ci):=(by rw[Qb hB2];rfl);replace hB2:=Qa.mk hB2;go_wp2_with fail;refine(HMk.out _ hb1).mono ?_;rintro e w3 ⟨A,p,M,q,rfl,hGr,hcq,hb3⟩;have hb13:=bnx hb1 hb3;obtain⟨vd,hvd⟩: ∃vd,vd=validD d:=⟨_,rfl⟩;rw[<-hvd] at HV hAr;by_cases hE:X6 d sc=0
   ·obtain⟨hok,hlen⟩:=Qc2 hE
    have hgk:Ul (Yc d sc)=true:=Bg.2 hok;obtain⟨hs1,hs4⟩:=hsm.out (lens_of hE);rw[hE];obtain⟨G,hG⟩: ∃G,G=Yc d sc:=⟨_,rfl⟩;rw[<-hG] at hGr hcq hok hlen hgk hs1 hs4 ⊢;have HCk:=Qa.mk (fun(W:World) (hb:Below w3.heap.size w3 W)=>Ju G A p M q W (hLL.out W (bnx hb13 hb)) (hGr.below hb) (sm_of hs4));have HRt:=Qa.mk (fun(W:World) (hb:Below w3.heap.size w3 W)=>Nc G A M p q W (hGr.below hb).chs (Rc hcq hGr.chs hb) (by omega) (fun x hx=>by have:=hs4 x hx;omega));have HSp:=Qa.mk (fun(W:World) (hb:Below w3.heap.size w3 W)=>Sp.Mw G A M p q W (hLL.out W (bnx hb13 hb)) (hGr.below hb) (sm_of hs4) hgk (Rc hcq hGr.chs hb));have hYb:=Qa.mk (fun j=>spJ_bd G (Qm (chK G 0).sh (chK G 0).gr) j);have hYl:Qa (∀j,(spJ G (Qm (chK G 0).sh (chK G 0).gr) j).length =128):=⟨fun j=>Bd.Fu _ _ _ 128⟩;have hbW:=Qa.mk hb13;obtain⟨Y,hY⟩: ∃Y,Y=spJ G (Qm (chK G 0).sh (chK G 0).gr):=⟨_,rfl⟩;rw[<-hY] at HSp hYb hYl;rw[hgk] at HRt;simp only[hgk,if_true] at HCk;unfold grV at HCk HSp;obtain⟨m,hm⟩: ∃m,m=G.mid.length:=⟨_,rfl⟩;rw[hlen,<-hm] at HCk HSp HRt ⊢;obtain⟨n,hn⟩: ∃n,n=d.lis.length:=⟨_,rfl⟩;rw[<-hn] at HCk HSp HRt hl4 a4 ⊢;obtain⟨w4,hw4⟩: ∃w4,w4=w3.alloc (.cells #[.slice A n p,.slice M m q] 31):=⟨_,rfl⟩;have hb4:Below w3.heap.size w3 w4:=(by rw[hw4];exact(Below.refl _ _).alloc (Nat.le_refl _) _);have hBG:w4.heap[w3.heap.size]? =some (.cells #[.slice A n p,.slice M m q] 31 (0,0)):=(by rw[hw4];exact heap_alloc_new _ _);have g0:w4.cell? ⟨w3.heap.size,0,none⟩=some (.slice A n p):=(by rw[Qb hBG];rfl);have g1:w4.cell? ⟨w3.heap.size,1,none⟩=some (.slice M m q):=(by rw[Qb hBG];rfl);have hb6:=Qa.mk (bnx hb13 hb4);have k4:=cnx (cnx a4 hb3) hb4;replace hb4:=Qa.mk hb4;obtain⟨bg,hbg⟩: ∃b,b=w3.heap.size:=⟨_,rfl⟩;rw[<-hbg] at g0 g1;clear hGr hcq hG hE hvd hsm HMk a0 a1 a2 a3 a4 a5 hok hlen hgk hs1 hs4 hY hm hn hBG hb1 hb3 hb13 HV hLL hAr;go_wp2_with fail;rw[<-hw4,<-hbg];refine(HCk.out _ hb4.out).mono ?_;rintro e w5 ⟨rfl,hb7⟩;have hb8:=Qa.mk (bnx hb4.out hb7);replace k4:=cnx k4 hb7;replace g0:=cnx g0 hb7;replace g1:=cnx g1 hb7;clear hw4 hb7 HCk hbg;go_wp2_with fail;refine(HRt.out _ hb8.out).mono ?_;rintro e w6 ⟨rfl,hb7⟩;have hb9:=Qa.mk (bnx hb8.out hb7);replace k4:=cnx k4 hb7;replace g0:=cnx g0 hb7;replace g1:=cnx g1 hb7;clear hb7 HRt;go_wp2_with fail;refine(HSp.out _ hb9.out).mono ?_;rintro e w7 ⟨go,cp,cur,F,rfl,hc1,hc2,hc3,hb7⟩;replace k4:=cnx k4 hb7;have hb10:=Qa.mk (bnx hb9.out hb7)
    have hLp:=Qa.mk (fun(W:World) (hb:Below w7.heap.size w7 W) (j:Nat) (hj:j<n)=>(show W.cell? ⟨go,j,none⟩=some (.slice (some ⟨F j,0,none⟩) 128 128)/\Calls Tryz.prog 23 #[.int .i64 2097152,.slice (some ⟨F j,0,none⟩) 128 128] W (fun e w'=>e= .returned (.bool true)/\Below W.heap.size W w') by
     have h1:=(hb.block _ (Qp hc1)).trans hc1;have h2:=(hb.block _ (Qp (hc3 j hj))).trans (hc3 j hj);refine⟨(Qb h1 j).trans (hc2 j hj),?_⟩;have h3:=Gy 2097152 (some ⟨F j,0,none⟩) 128 (Y j) W (Rq.Lu h2 (by rw[hYl.out];omega)) (by rw[hYl.out];omega) (by omega) (by omega);rw[hYl.out,show(Y j).all (within 2097152)=true from List.all_eq_true.2 fun x hx=>decide_eq_true (by have:=hYb.out j x hx;omega)] at h3
     exact h3))
    clear hc1 hc2 hc3 hb7 HSp g0 g1 hYb hYl;go_wp2_with fail;go_loopw [66] (fun i wr=> ∃k:Nat,i= .int .i64 k/\k<=n/\Below w7.heap.size w7 wr) (fun i _=>n-(intOf i).toNat)
    case atStart=>exact⟨0,rfl,by omega,Below.refl _ _⟩
    case round=>
     obtain⟨k,rfl,hk,hbL⟩:=hrel;by_cases hlt:k<n
     ·obtain⟨hcell,hW⟩:=hLp.out _ hbL k hlt
      have hkI:(k:Int)<(n:Int):=(by omega);replace hW:=Qa.mk hW;replace hlt:=Qa.mk hlt;go_wp2_with fail;refine hW.out.mono ?_;rintro e w8 ⟨rfl,hb7⟩;have hbM:=bnx hbL hb7;clear hb7 hcell hk;go_wp2_with fail;go_roundw
      case rel=>exact⟨k+1,by go_num,hlt.out,hbM⟩
      case measure=>have:=hlt.out;simp[intOf];omega
     ·obtain rfl:k=n:=by omega
      replace k4:=cnx k4 hbL;have hbN:=Qa.mk (bnx hbW.out (bnx hb10.out hbL));clear hlt hk hLp;go_wp2_with fail;refine(HAw.out _ hbN.out).mono ?_;rintro e w8 ⟨rfl,hb7⟩;have hb11:=bnx hbN.out hb7;clear hb7;go_wp2_with fail;go_ret;exact⟨rfl,hb11⟩
   ·have hG:=makeG_no hE
    rw[hG] at hGr;rw[show(Yc d sc).chs.length =0 from by rw[hG];rfl,show(Yc d sc).mid.length =0 from by rw[hG];rfl];obtain⟨E,hEe⟩: ∃E,E=X6 d sc:=⟨_,rfl⟩;rw[<-hEe] at hAr hE ⊢;have hne:(E != 0)=true:=(by simpa using hE);have HSg:=Qa.mk (fun(W:World) (hb:Below w3.heap.size w3 W)=>Gx ⟨[],[]⟩ A none p 0 M none q 0 W (hGr.below hb) ⟨Kd.V4 _ _,Kd.V4 _ _⟩ (by simp) (fun x hx=>by cases hx));obtain⟨w4,hw4⟩: ∃w4,w4=w3.alloc (.cells #[.slice A 0 p,.slice M 0 q] 31):=⟨_,rfl⟩;have hb4:Below w3.heap.size w3 w4:=(by rw[hw4];exact(Below.refl _ _).alloc (Nat.le_refl _) _);have hb5:=Qa.mk (bnx hb3 hb4);have hb6:=Qa.mk (bnx hb13 hb4);have k0:=cnx (cnx a0 hb3) hb4;have k1:=cnx (cnx a1 hb3) hb4;have k2:=cnx (cnx a2 hb3) hb4;have k3:=cnx (cnx a3 hb3) hb4;have k4:=cnx (cnx a4 hb3) hb4;have k5:=cnx (cnx a5 hb3) hb4;clear hGr hcq hG hEe hE hvd hsm hLL HMk a0 a1 a2 a3 a4 a5;go_wp2_with fail;rw[<-hw4];refine(HSg.out _ hb4).mono ?_;rintro e w5 ⟨rfl,hb7⟩;have hb8:=Qa.mk (bnx hb6.out hb7);replace k0:=cnx k0 hb7;replace k1:=cnx k1 hb7;replace k2:=cnx k2 hb7;replace k3:=cnx k3 hb7;replace k4:=cnx k4 hb7;replace k5:=cnx k5 hb7;have hAr2:=hAr.out;clear hw4 hb4 hb7 HSg hb13 hb3 hb1;go_wp2_with fail;refine(HV.out _ hb8.out).mono ?_;rintro e w6 ⟨rfl,hb7⟩;have hb9:=Qa.mk (bnx hb8.out hb7);clear hb7 k0 k1 k2 k3 k4 k5;go_wp2_with fail;refine(HAw.out _ hb9.out).mono ?_;rintro e w7 ⟨rfl,hb7⟩;have hb10:=bnx hb9.out hb7;clear hb7;go_wp2_with fail;go_ret;exact⟨by simp[hAr2],hb10⟩
  ·have t17:decide (4<(sc.length:Int))=true:=decide_eq_true (by omega)
   clear hL hB hd hc hf hS h4;go_enter Tryz.func6,Tryz.ntmps6;go_wp2_with fail;rw[<-hw1];refine(HF.out _ hb1).mono ?_;rintro e w2 ⟨rfl,hb2⟩;replace hb1:=bnx hb1 hb2;clear hb2 hw1;go_wp2_with fail;refine(HAw.out _ hb1).mono ?_;rintro e w2 ⟨rfl,hb2⟩;replace hb1:=bnx hb1 hb2;go_wp2;go_ret;exact⟨rfl,hb1⟩
end Gn

end Go.Proofs.YtnflnicdjioflaaGreatDoor
