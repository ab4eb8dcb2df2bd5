/- A part of the proof. -/
import Derived.Test.YtnflnicdjioflaaGreatDoorSxam
import Derived.Test.YtnflnicdjioflaaGreatDoorSxai
import Derived.Shelf.Bits.Mul64
import Derived.Lib.AppendZerosOnto
set_option linter.unusedVariables false
set_option linter.unusedSimpArgs false
set_option maxRecDepth 100000
set_option maxHeartbeats 8000000
namespace Go.Proofs.YtnflnicdjioflaaGreatDoor
open Go.RowKit Go.Proofs.YtnflnicdjioflaaGreatDoorW.PrintWords Go.Proofs.YtnflnicdjioflaaGreatDoorW.PrintLast Go.Proofs.YtnflnicdjioflaaGreatDoorW.PrintMore
namespace Bk
attribute [local go_sem] X6 X7 Qk Ql Qd Qe
open Q15
theorem Z6 {P:Program} {id:Nat} {ops:Array Oper} {Q:Exit->Act->World->Prop} {a:Act} {w:World} (S:World->Prop) (hm:P.follows .mixedOrders =true) (hS:S w.drew)
  (h:S w.drew->wpAnyH P .any ops Q S ops.size (Array.replicate ops.size false) a w.drew):(Code.region id ops true).wp P Q a w:=wp_region_held hm (h hS)
theorem Ml (m v:Int) (B:Nat) (w:World) (hc:w.cell? ⟨B,1,none⟩=some (.int .i64 m)) (h0: -1000000<=v) (h1:v<=1000000) (hm:0<=m/\m<=31):
  Calls Tryz.prog 233 #[.int .i64 v,.pointer (some ⟨B,0,none⟩)] w fun e w'=>e= .returned (.int .i64 (Rb m v))/\Below w.heap.size w w':=by
 have l1:=World.block_lt_of_cell? w _ hc;have HS:=Qa.mk (fun W=>Gv v W h0 h1);have hD:Qa (Rb m v=min (szI v) m):=⟨rfl⟩;rw[hD.out];obtain⟨s,hs⟩: ∃s,s=szI v:=⟨_,rfl⟩;rw[<-hs] at HS ⊢;clear hs hD;go_enter Tryz.func233,Tryz.ntmps233;go_wp2_with fail
 go_region_held3 (fun w'=>w'.cell? ⟨B,1,none⟩=some (.int .i64 m)/\Below w.heap.size w w')
  (first|exact⟨hc,Below.refl _ _⟩|exact⟨hc,(Below.refl _ _).drew⟩|exact⟨(hb.cell l1).trans hc,(Below.refl _ w).drew.trans hb⟩)
  (first|(go_at_call 196;refine(HS.out _).mono ?_;rintro e w' ⟨rfl,hb⟩))
 rename_i hh
 obtain⟨_,hh⟩:=hh;go_wp2;go_ret;exact⟨rfl,hh⟩
theorem Gd (d:Nat) (m:Int) (e:Bool) (A:Option Addr) (cap:Nat) (l:List Int) (w:World) (hd:1<=d/\d<=4) (hm:0<=m/\m<=31) (hr:(Kd.int .i64).C w A l.length l) (hl:l.length<=1000000) (hA:Yk l=true):
  Calls Tryz.prog 214 #[frm d m e,.slice A l.length cap] w fun en w'=>en= .returned (.bool (F4 d m e l))/\Below w.heap.size w w':=by
 have HR:=Qa.mk hr;have hlI:(l.length:Int)<=1000000:=(by omega);have hu:=Tryz.underlying194
 have HF:Qa (∀k,k<l.length->m<szI (rd l k)->e=false->F4 d m e l=false):=⟨fun k hk h he=>by
  unfold F4
  rw[show l.all (fun v=>decide (szI v<=m)||e)=false from List.all_eq_false.2 ⟨_,Qp l k hk,by rw[he,decide_eq_false (by omega)];simp⟩,Bool.false_and]⟩
 have HT:Qa ((∀x∈l,szI x<=m\/e=true)->F4 d m e l=decide (l.length%d=0)):=⟨fun h=>by
  unfold F4
  rw[show l.all (fun v=>decide (szI v<=m)||e)=true from List.all_eq_true.2 fun x hx=>by rcases h x hx with h|h<;>simp[h],Bool.true_and]⟩
 have HB:Qa (∀k,k<l.length-> -1000000<=rd l k/\rd l k<=1000000):=⟨fun k hk=>by have:=Y5 hA (Qp l k hk);omega⟩;obtain⟨b,hbe⟩: ∃b,b=F4 d m e l:=⟨_,rfl⟩;rw[<-hbe] at HF HT ⊢;have hrem:Int.tmod (l.length:Int) (d:Int)=((l.length%d:Nat):Int):=rfl;obtain⟨R,hR⟩: ∃R,R=l.length%d:=⟨_,rfl⟩;rw[<-hR] at hrem HT;have hR9:(R:Int)<=1000000:=(by have:=Nat.mod_le l.length d;omega);have hdI:1<=(d:Int)/\(d:Int)<=4:=(by omega);have hd0: ¬(d:Int)=0:=(by omega);clear hr hl hbe hA hR;unfold frm;go_enter Tryz.func214,Tryz.ntmps214;go_wp2;obtain⟨W0,hW0⟩: ∃W0,W0=w.alloc (.cells #[.int .i64 d,.int .i64 m,.bool e] 194):=⟨_,rfl⟩;rw[<-hW0];have hb0:Below w.heap.size w W0:=(by rw[hW0];exact(Below.refl _ _).alloc (Nat.le_refl _) _);have c0:W0.cell? ⟨w.heap.size,0,none⟩=some (.int .i64 d):=(by rw[hW0];simp[go_sem]);have c1:W0.cell? ⟨w.heap.size,1,none⟩=some (.int .i64 m):=(by rw[hW0];simp[go_sem]);have c2:W0.cell? ⟨w.heap.size,2,none⟩=some (.bool e):=(by rw[hW0];simp[go_sem]);clear hW0;go_loopw [9] (fun i wr=> ∃k:Nat,i= .int .i64 k/\k<=l.length/\Qa (∀x∈l.take k,szI x<=m\/e=true)/\Below W0.heap.size W0 wr) (fun i _=>l.length-(intOf i).toNat)
 case atStart=>exact⟨0,rfl,by omega,⟨by simp⟩,Below.refl _ _⟩
 case round=>
  obtain⟨k,rfl,hk,ha,hb⟩:=hrel;have c0:=cnx c0 hb;have c1:=cnx c1 hb;have c2:=cnx c2 hb;by_cases hlt:k<l.length
  ·obtain⟨ad,rfl,hcell⟩:=Qn HR.out (bnx hb0 hb) hlt
   have hT:=Qa.mk (Qu l k hlt);have hf:=HF.out k hlt;have hbd:=HB.out k hlt;have hkI:(k:Int)<(l.length:Int):=(by omega);obtain⟨n,hx⟩: ∃n,n=rd l k:=⟨_,rfl⟩;rw[<-hx] at hcell hT hf hbd;have HS:=Qa.mk (fun W=>Gv n W hbd.1 hbd.2);obtain⟨s,hs⟩: ∃s,s=szI n:=⟨_,rfl⟩;rw[<-hs] at HS hf;have hs9:0<=s/\s<=1000000:=(by rw[hs];exact Ws hbd);replace hf:=Qa.mk hf;replace hs:=Qa.mk hs;clear hx;have l1:=World.block_lt_of_cell? wr _ c1;have fin: ∀W:World,Below wr.heap.size wr W->Below w.heap.size w W:=fun W h=>bnx hb0 (bnx hb h)
   by_cases h1:m<s
   ·rcases e with _|_
    ·have hff:=Qa.mk (hf.out h1 rfl)
     go_wp2_with fail;refine Z6 (fun w'=>w'.cell? ⟨w.heap.size,1,none⟩=some (.int .i64 m)/\w'.cell? ⟨w.heap.size,2,none⟩=some (.bool false)/\Below wr.heap.size wr w') (by kernel_rfl) ⟨c1,c2,(Below.refl _ _).drew⟩ (fun hHeld=> ?_)
     (refine Tk.tk 0 (.int .i64 n) hHeld ?_)
     (refine Tk.tk 2 (.pointer (some ⟨w.heap.size,1,none⟩)) hHeld ?_)
     (refine Tk.tk 3 (.int .i64 m) hHeld ?_)
     (refine wpAnyH_ready (rs:=[1]) (by kernel_rfl) (by simp) ?_;refine AllReadyH.cons rfl (fun K hK=> ?_) AllReadyH.nil;go_simp)
     refine(HS.out _).mono ?_;rintro e w1 ⟨rfl,hb1⟩
     (go_wp2_with fail;refine hK.out _ _ (⟨cnx hHeld.1 hb1,cnx hHeld.2.1 hb1,bnx hHeld.2.2 hb1⟩) (fun hHeld=> ?_);clear hK K;try simp only[Act.put,Tk.z1,Tk.z2,Tk.z3,Tk.z4,Tk.z5,Tk.z6])
     (refine Tk.tk 4 (.bool true) hHeld ?_)
     (refine Tk.tk 5 (.bool true) hHeld ?_)
     (refine Tk.tk 6 (.pointer (some ⟨w.heap.size,2,none⟩)) hHeld ?_)
     (refine Tk.tk 7 (.bool false) hHeld ?_)
     (refine Tk.tk 8 (.bool (!false)) hHeld ?_)
     (refine Tk.tk 9 (.bool (!false)) hHeld ?_)
     refine wpAnyH_done (by kernel_rfl) ?_ _;obtain⟨_,_,hh⟩:=hHeld
     try simp only[Bool.not_false,Bool.not_true]
     go_wp2;go_ret;exact⟨by rw[hff.out];rfl,fin _ hh⟩
    ·have hq:True:=trivial
     go_wp2_with fail;refine Z6 (fun w'=>w'.cell? ⟨w.heap.size,1,none⟩=some (.int .i64 m)/\w'.cell? ⟨w.heap.size,2,none⟩=some (.bool true)/\Below wr.heap.size wr w') (by kernel_rfl) ⟨c1,c2,(Below.refl _ _).drew⟩ (fun hHeld=> ?_)
     (refine Tk.tk 0 (.int .i64 n) hHeld ?_)
     (refine Tk.tk 2 (.pointer (some ⟨w.heap.size,1,none⟩)) hHeld ?_)
     (refine Tk.tk 3 (.int .i64 m) hHeld ?_)
     (refine wpAnyH_ready (rs:=[1]) (by kernel_rfl) (by simp) ?_;refine AllReadyH.cons rfl (fun K hK=> ?_) AllReadyH.nil;go_simp)
     refine(HS.out _).mono ?_;rintro e w1 ⟨rfl,hb1⟩
     (go_wp2_with fail;refine hK.out _ _ (⟨cnx hHeld.1 hb1,cnx hHeld.2.1 hb1,bnx hHeld.2.2 hb1⟩) (fun hHeld=> ?_);clear hK K;try simp only[Act.put,Tk.z1,Tk.z2,Tk.z3,Tk.z4,Tk.z5,Tk.z6])
     (refine Tk.tk 4 (.bool true) hHeld ?_)
     (refine Tk.tk 5 (.bool true) hHeld ?_)
     (refine Tk.tk 6 (.pointer (some ⟨w.heap.size,2,none⟩)) hHeld ?_)
     (refine Tk.tk 7 (.bool true) hHeld ?_)
     (refine Tk.tk 8 (.bool (!true)) hHeld ?_)
     (refine Tk.tk 9 (.bool (!true)) hHeld ?_)
     refine wpAnyH_done (by kernel_rfl) ?_ _;obtain⟨_,_,hh⟩:=hHeld
     try simp only[Bool.not_false,Bool.not_true]
     go_wp2;go_roundw
     case rel=>exact⟨k+1,by go_num,by omega,⟨by
      rw[hT.out];intro x hx
      exact .inr trivial⟩,bnx hb hh⟩
     case measure=>simp[intOf];omega
   ·have h3:Qa (szI n<=m):=⟨by rw[<-hs.out];omega⟩
    have h1':Qa (decide (m<s)=false):=⟨by simpa using h1⟩;clear h1;go_wp2_with fail;replace h1':=h1'.out;refine Z6 (fun w'=>w'.cell? ⟨w.heap.size,1,none⟩=some (.int .i64 m)/\w'.cell? ⟨w.heap.size,2,none⟩=some (.bool e)/\Below wr.heap.size wr w') (by kernel_rfl) ⟨c1,c2,(Below.refl _ _).drew⟩ (fun hHeld=> ?_)
    (refine Tk.tk 0 (.int .i64 n) hHeld ?_)
    (refine Tk.tk 2 (.pointer (some ⟨w.heap.size,1,none⟩)) hHeld ?_)
    (refine Tk.tk 3 (.int .i64 m) hHeld ?_)
    (refine wpAnyH_ready (rs:=[1]) (by kernel_rfl) (by simp) ?_;refine AllReadyH.cons rfl (fun K hK=> ?_) AllReadyH.nil;go_simp)
    refine(HS.out _).mono ?_;rintro e w1 ⟨rfl,hb1⟩
    (go_wp2_with fail;refine hK.out _ _ (⟨cnx hHeld.1 hb1,cnx hHeld.2.1 hb1,bnx hHeld.2.2 hb1⟩) (fun hHeld=> ?_);clear hK K;try simp only[Act.put,Tk.z1,Tk.z2,Tk.z3,Tk.z4,Tk.z5,Tk.z6])
    (refine Tk.tk 4 (.bool false) hHeld ?_)
    (refine Tk.tk 5 (.bool false) hHeld ?_)
    (refine Tk.tz 6 hHeld ?_)
    (refine Tk.tz 7 hHeld ?_)
    (refine Tk.tz 8 hHeld ?_)
    (refine Tk.tk 9 (.bool false) hHeld ?_)
    refine wpAnyH_done (by kernel_rfl) ?_ _;obtain⟨_,_,hh⟩:=hHeld
    try simp only[Bool.not_false,Bool.not_true]
    go_wp2;go_roundw
    case rel=>exact⟨k+1,by go_num,by omega,⟨by
     rw[hT.out];intro x hx;rcases List.mem_append.1 hx with hx|hx
     ·exact ha.out x hx
     ·rw[List.mem_singleton.1 hx];exact .inl h3.out⟩,bnx hb hh⟩
    case measure=>simp[intOf];omega
  ·obtain rfl:k=l.length:=by omega
   have hA:=ha.out;rw[List.take_length] at hA;have hff:=Qa.mk (HT.out hA);clear ha hA;go_wp2;go_ret;exact⟨by rw[hff.out];have h9:decide ((R:Int)=0)=decide (R=0):=decide_eq_decide.2 (by omega);rw[<-h9];rfl,bnx hb0 hb⟩
end Bk

namespace Bk
attribute [local go_sem] X6 X7 Qk Ql Qd Qe
open Q15
theorem Bg (d:Nat) (m:Int) (e:Bool) (v:Int) (w:World) (hm:0<=m/\m<=31) (h0: -1023<=v) (h1:v<=1023):
  Calls Tryz.prog 231 #[frm d m e,.int .i64 v] w fun en w'=>en= .returned (.int .i64 (Jw m e v))/\Below w.heap.size w w':=by
 have hu:=Tryz.underlying194;have HS:=Qa.mk (fun W=>Gv v W (by omega) (by omega));have hs9:=Ws (v:=v) (m:=1023) (by omega);obtain⟨W0,hW0⟩: ∃W0,W0=w.alloc (.cells #[.int .i64 d,.int .i64 m,.bool e] 194):=⟨_,rfl⟩;have hb0:Below w.heap.size w W0:=(by rw[hW0];exact(Below.refl _ _).alloc (Nat.le_refl _) _);have c1:W0.cell? ⟨w.heap.size,1,none⟩=some (.int .i64 m):=(by rw[hW0];simp[go_sem]);have c2:W0.cell? ⟨w.heap.size,2,none⟩=some (.bool e):=(by rw[hW0];simp[go_sem]);replace hW0:=Qa.mk hW0;have HB:Qa (Jw m e v=if v=0 then 0 else if e=true/\m<=szI v then 1+Xb (szI v-m+1) else 1):=⟨rfl⟩;obtain⟨s,hs⟩: ∃s,s=szI v:=⟨_,rfl⟩;rw[<-hs] at HS HB hs9;have HG:=Qa.mk (fun W=>Io (s-m+1) W (by omega) (by omega))
 have hg9:1<=Xb (s-m+1)/\Xb (s-m+1)<=100:=by
  have h:(s-m+1).toNat.log2 <=10:=by
   by_cases hz:(s-m+1).toNat =0
   ·rw[hz];decide
   ·have:=(Nat.log2_lt hz).2 (show(s-m+1).toNat <2^11 by omega)
    omega
  unfold Xb;omega
 obtain⟨g,hg⟩: ∃g,g=Xb (s-m+1):=⟨_,rfl⟩;rw[<-hg] at HG HB hg9;clear hg hs;unfold frm;by_cases hz:v=0
 ·subst hz
  have hr:Qa (Jw m e 0=0):=⟨by rw[HB.out];rfl⟩;go_enter Tryz.func231,Tryz.ntmps231;go_wp2;go_ret;rw[<-hW0.out];exact⟨by rw[hr.out];rfl,hb0⟩
 ·have hz':(v==0)=false:=by simpa using hz
  rcases e with _|_
  ·have hr:Qa (Jw m false v=1):=⟨by rw[HB.out,if_neg hz];simp⟩
   clear hz;go_enter Tryz.func231,Tryz.ntmps231;go_wp2_with fail;rw[<-hW0.out];refine Z6 (fun w'=>w'.cell? ⟨w.heap.size,1,none⟩=some (.int .i64 m)/\w'.cell? ⟨w.heap.size,2,none⟩=some (.bool false)/\Below W0.heap.size W0 w') (by kernel_rfl) ⟨c1,c2,(Below.refl _ _).drew⟩ (fun hHeld=> ?_)
   (refine Tk.tk 0 (.pointer (some ⟨w.heap.size,2,none⟩)) hHeld ?_)
   (refine Tk.tk 1 (.bool false) hHeld ?_)
   (refine Tk.tk 2 (.bool false) hHeld ?_)
   (refine Tk.tz 3 hHeld ?_)
   (refine Tk.tz 4 hHeld ?_)
   (refine Tk.tz 5 hHeld ?_)
   (refine Tk.tz 6 hHeld ?_)
   (refine Tk.tz 7 hHeld ?_)
   (refine Tk.tk 8 (.bool false) hHeld ?_)
   (refine Tk.tk 9 (.bool false) hHeld ?_)
   refine wpAnyH_done (by kernel_rfl) ?_ _;obtain⟨c1,c2,hh⟩:=hHeld;go_wp2;go_ret;exact⟨by rw[hr.out];rfl,bnx hb0 hh⟩
  ·by_cases hm1:m<=s
   ·have hr:Qa (Jw m true v=1+g):=⟨by rw[HB.out,if_neg hz,if_pos ⟨rfl,hm1⟩]⟩
    have hm2:Qa (decide (m<=s)=true):=⟨decide_eq_true hm1⟩;clear hz;go_enter Tryz.func231,Tryz.ntmps231;go_wp2_with fail;rw[<-hW0.out];refine Z6 (fun w'=>w'.cell? ⟨w.heap.size,1,none⟩=some (.int .i64 m)/\w'.cell? ⟨w.heap.size,2,none⟩=some (.bool true)/\Below W0.heap.size W0 w') (by kernel_rfl) ⟨c1,c2,(Below.refl _ _).drew⟩ (fun hHeld=> ?_)
    (refine Tk.tk 0 (.pointer (some ⟨w.heap.size,2,none⟩)) hHeld ?_)
    (refine Tk.tk 1 (.bool true) hHeld ?_)
    (refine Tk.tk 2 (.bool true) hHeld ?_)
    (refine Tk.tk 3 (.int .i64 v) hHeld ?_)
    (refine Tk.tk 5 (.pointer (some ⟨w.heap.size,1,none⟩)) hHeld ?_)
    (refine Tk.tk 6 (.int .i64 m) hHeld ?_)
    (refine wpAnyH_ready (rs:=[4]) (by kernel_rfl) (by simp) ?_;refine AllReadyH.cons rfl (fun K hK=> ?_) AllReadyH.nil;go_simp)
    refine(HS.out _).mono ?_;rintro e w1 ⟨rfl,hb1⟩
    (go_wp2_with fail;refine hK.out _ _ (⟨cnx hHeld.1 hb1,cnx hHeld.2.1 hb1,bnx hHeld.2.2 hb1⟩) (fun hHeld=> ?_);clear hK K;try simp only[Act.put,Tk.z1,Tk.z2,Tk.z3,Tk.z4,Tk.z5,Tk.z6])
    (refine Tk.tk 7 (.bool true) hHeld ?_)
    (refine Tk.tk 8 (.bool true) hHeld ?_)
    (refine Tk.tk 9 (.bool true) hHeld ?_)
    refine wpAnyH_done (by kernel_rfl) ?_ _;obtain⟨c1,c2,hh⟩:=hHeld;have g1:IntKind.i64.wrap (s-m)=s-m:=IntWalk.i64_in _ (by omega);have g2:IntKind.i64.wrap (s-m+1)=s-m+1:=IntWalk.i64_in _ (by omega);have g3:IntKind.i64.wrap (1+g)=1+g:=IntWalk.i64_in _ (by omega);go_wp2_with fail;refine Z6 (fun w'=>w'.cell? ⟨w.heap.size,1,none⟩=some (.int .i64 m)/\Below W0.heap.size W0 w') (by kernel_rfl) ⟨c1,hh.drew⟩ (fun hHeld=> ?_)
    (refine Tk.tk 0 (.int .i64 v) hHeld ?_)
    (refine Tk.tk 2 (.pointer (some ⟨w.heap.size,1,none⟩)) hHeld ?_)
    (refine Tk.tk 3 (.int .i64 m) hHeld ?_)
    (refine wpAnyH_ready (rs:=[1]) (by kernel_rfl) (by simp) ?_;refine AllReadyH.cons rfl (fun K hK=> ?_) AllReadyH.nil;go_simp)
    refine(HS.out _).mono ?_;rintro e w1 ⟨rfl,hb1⟩
    (go_wp2_with fail;refine hK.out _ _ (⟨cnx hHeld.1 hb1,bnx hHeld.2 hb1⟩) (fun hHeld=> ?_);clear hK K;try simp only[Act.put,Tk.z1,Tk.z2,Tk.z3,Tk.z4,Tk.z5,Tk.z6])
    (refine Tk.tk 4 (.int .i64 (s-m)) hHeld ?_)
    (refine Tk.tk 5 (.int .i64 (s-m+1)) hHeld ?_)
    (refine wpAnyH_ready (rs:=[6]) (by kernel_rfl) (by simp) ?_;refine AllReadyH.cons rfl (fun K hK=> ?_) AllReadyH.nil;go_simp)
    refine(HG.out _).mono ?_;rintro e w1 ⟨rfl,hb1⟩
    (go_wp2_with fail;refine hK.out _ _ (⟨cnx hHeld.1 hb1,bnx hHeld.2 hb1⟩) (fun hHeld=> ?_);clear hK K;try simp only[Act.put,Tk.z1,Tk.z2,Tk.z3,Tk.z4,Tk.z5,Tk.z6])
    (refine Tk.tk 7 (.int .i64 (1+g)) hHeld ?_)
    (refine Tk.tk 8 (.int .i64 (1+g)) hHeld ?_)
    refine wpAnyH_done (by kernel_rfl) ?_ _;obtain⟨c1,hh⟩:=hHeld;go_wp2;go_ret;exact⟨by rw[hr.out];rfl,bnx hb0 hh⟩
   ·have hr:Qa (Jw m true v=1):=⟨by rw[HB.out,if_neg hz,if_neg (fun h=>hm1 h.2)]⟩
    have hm2:Qa (decide (m<=s)=false):=⟨decide_eq_false hm1⟩;clear hz hm1;go_enter Tryz.func231,Tryz.ntmps231;go_wp2_with fail;rw[<-hW0.out];replace hm2:=hm2.out;refine Z6 (fun w'=>w'.cell? ⟨w.heap.size,1,none⟩=some (.int .i64 m)/\w'.cell? ⟨w.heap.size,2,none⟩=some (.bool true)/\Below W0.heap.size W0 w') (by kernel_rfl) ⟨c1,c2,(Below.refl _ _).drew⟩ (fun hHeld=> ?_)
    (refine Tk.tk 0 (.pointer (some ⟨w.heap.size,2,none⟩)) hHeld ?_)
    (refine Tk.tk 1 (.bool true) hHeld ?_)
    (refine Tk.tk 2 (.bool true) hHeld ?_)
    (refine Tk.tk 3 (.int .i64 v) hHeld ?_)
    (refine Tk.tk 5 (.pointer (some ⟨w.heap.size,1,none⟩)) hHeld ?_)
    (refine Tk.tk 6 (.int .i64 m) hHeld ?_)
    (refine wpAnyH_ready (rs:=[4]) (by kernel_rfl) (by simp) ?_;refine AllReadyH.cons rfl (fun K hK=> ?_) AllReadyH.nil;go_simp)
    refine(HS.out _).mono ?_;rintro e w1 ⟨rfl,hb1⟩
    (go_wp2_with fail;refine hK.out _ _ (⟨cnx hHeld.1 hb1,cnx hHeld.2.1 hb1,bnx hHeld.2.2 hb1⟩) (fun hHeld=> ?_);clear hK K;try simp only[Act.put,Tk.z1,Tk.z2,Tk.z3,Tk.z4,Tk.z5,Tk.z6])
    (refine Tk.tk 7 (.bool false) hHeld ?_)
    (refine Tk.tk 8 (.bool false) hHeld ?_)
    (refine Tk.tk 9 (.bool false) hHeld ?_)
    refine wpAnyH_done (by kernel_rfl) ?_ _;obtain⟨c1,c2,hh⟩:=hHeld;go_wp2;go_ret;exact⟨by rw[hr.out];rfl,bnx hb0 hh⟩
theorem Qbo (d:Nat) (m:Int) (e:Bool) (w:World):
  Calls Tryz.prog 222 #[frm d m e] w fun en w'=>en= .returned (.func (.func 233) #[] #[.pointer (some ⟨w.heap.size,0,none⟩)])/\w'=w.alloc (.cells #[.int .i64 d,.int .i64 m,.bool e] 194):=by
 have hu:=Tryz.underlying194;unfold frm;go_enter Tryz.func222,Tryz.ntmps222;go_wp2;go_ret;exact⟨rfl,rfl⟩
theorem Wp (m:Int) (hm:0<=m): ∀l:List Int,(∀x∈l,0<=x/\x<=m)-> ∀s:Int,0<=s->0<=l.foldl (fun s d=>s*(m+1)+d) s/\l.foldl (fun s d=>s*(m+1)+d) s+1<=(s+1)*(m+1)^l.length
 |[],_,s,hs=>by simp;omega
 |x::l,h,s,hs=>by
  have hx:=h x (by simp);have hs2:0<=s*(m+1):=Int.mul_nonneg hs (by omega);obtain⟨h1,h2⟩:=Wp m hm l (fun y hy=>h y (by simp[hy])) (s*(m+1)+x) (by omega);refine⟨h1,Int.le_trans h2 ?_⟩;have hp:(0:Int)<=(m+1)^l.length:=Int.pow_nonneg (by omega);have h3:s*(m+1)+x+1<=(s+1)*(m+1):=(by rw[Int.add_mul];omega);have h4:=Int.mul_le_mul_of_nonneg_right h3 hp;rw[List.length_cons,Int.pow_succ,Int.mul_comm ((m+1)^l.length),<-Int.mul_assoc];exact h4
theorem symD_le (m:Int) (hm:0<=m/\m<=31) (l:List Int) (hl:l.length<=4) (h: ∀x∈l,0<=x/\x<=m):0<=Fv m l/\Fv m l<=1048576:=by
 obtain⟨h1,h2⟩:=Wp m hm.1 l h 0 (by omega);refine⟨h1,?_⟩
 have h3:(m+1)^l.length<=(32:Int)^4:=by
  obtain⟨q,hq⟩:=Int.eq_ofNat_of_zero_le (show 0<=m+1 by omega);rw[hq];have h5:q^l.length<=32^4:=Nat.le_trans (Nat.pow_le_pow_left (show q<=32 by omega) _) (Nat.pow_le_pow_right (by omega) hl);have h6:((q^l.length:Nat):Int)<=((32^4:Nat):Int):=Int.ofNat_le.2 h5;simpa using h6
 have h4:(32:Int)^4=1048576:=(by decide);have h7:Fv m l=l.foldl (fun s d=>s*(m+1)+d) 0:=rfl;omega
theorem Wq (d:Nat) (m:Int) (e:Bool) (A:Option Addr) (cap:Nat) (l:List Int) (w:World) (hm:0<=m/\m<=31) (hr:(Kd.int .i64).C w A l.length l) (hl:l.length<=4) (hx: ∀x∈l,0<=x/\x<=m):
  Calls Tryz.prog 223 #[frm d m e,.slice A l.length cap] w fun en w'=>en= .returned (.int .i64 (Fv m l))/\Below w.heap.size w w':=by
 have hu:=Tryz.underlying194;have HR:=Qa.mk hr;have hlI:(l.length:Int)<=4:=(by omega);have HX:Qa (∀k,k<l.length->0<=rd l k/\rd l k<=m):=⟨fun k hk=>hx _ (Qp l k hk)⟩;have HB:Qa (∀k,0<=Fv m (l.take k)/\Fv m (l.take k)<=1048576):=⟨fun k=>symD_le m hm _ (by rw[List.length_take];omega) (fun x h=>hx x (List.mem_of_mem_take h))⟩;have HS:Qa (∀k,k<l.length->Fv m (l.take (k+1))=Fv m (l.take k)*(m+1)+rd l k):=⟨fun k hk=>by rw[Qu l k hk];unfold Fv;rw[List.foldl_append];rfl⟩;obtain⟨W0,hW0⟩: ∃W0,W0=w.alloc (.cells #[.int .i64 d,.int .i64 m,.bool e] 194):=⟨_,rfl⟩;have hb0:Below w.heap.size w W0:=(by rw[hW0];exact(Below.refl _ _).alloc (Nat.le_refl _) _);have c1:W0.cell? ⟨w.heap.size,1,none⟩=some (.int .i64 m):=(by rw[hW0];simp[go_sem]);replace hW0:=Qa.mk hW0;clear hr hl hx;unfold frm;go_enter Tryz.func223,Tryz.ntmps223;go_wp2;rw[<-hW0.out];go_loopw [5,10] (fun s i wr=> ∃(k:Nat) (z:Int),s= .int .i64 z/\i= .int .i64 k/\k<=l.length/\Qa (z=Fv m (l.take k))/\Below W0.heap.size W0 wr) (fun _ i _=>l.length-(intOf i).toNat)
 case atStart=>exact⟨0,0,rfl,rfl,by omega,⟨rfl⟩,Below.refl _ _⟩
 case round=>
  obtain⟨k,z,rfl,rfl,hk,hz,hb⟩:=hrel;have c1:=cnx c1 hb;by_cases hlt:k<l.length
  ·obtain⟨ad,rfl,hcell⟩:=Qn HR.out (bnx hb0 hb) hlt
   have hkI:(k:Int)<(l.length:Int):=(by omega);have hbd:=HX.out k hlt;have h1:=HB.out k;have h2:=HB.out (k+1);have h3:=HS.out k hlt;rw[<-hz.out] at h1 h3;obtain⟨x,hxe⟩: ∃x,x=rd l k:=⟨_,rfl⟩;rw[<-hxe] at hcell hbd h3;obtain⟨q,hq⟩: ∃q,z*(m+1)=q:=⟨_,rfl⟩;rw[hq] at h3;rw[h3] at h2;have hq9:0<=q/\q<=1048576:=⟨by rw[<-hq];exact Int.mul_nonneg h1.1 (by omega),by omega⟩;replace h3:=Qa.mk h3;clear hxe;go_wp2;go_roundw
   case rel=>exact⟨k+1,q+x,by go_num,by go_num,by omega,⟨by rw[h3.out]⟩,hb⟩
   case measure=>simp[intOf];omega
  ·obtain rfl:k=l.length:=by omega
   have hz2:=hz.out;rw[List.take_length] at hz2;have hr:=Qa.mk hz2;clear hz hz2;go_wp2;go_ret;exact⟨by rw[<-hr.out];rfl,bnx hb0 hb⟩
end Bk

namespace Bk
attribute [local go_sem] Qh Qi Qk Ql Qd Qe
open Q15
open Runs Go.Shelf
open Q16 (Q6 Za Yc)
attribute [local go_sem] Oper.semAt_some
def Xi (S B1 B2:Nat) (A B:World):Prop:=Below S A B/\B.heap[B1]? =A.heap[B1]? /\B.heap[B2]? =A.heap[B2]?
theorem Xi.trans {S B1 B2:Nat} {A B C:World} (h:Xi S B1 B2 A B) (k:Xi S B1 B2 B C):Xi S B1 B2 A C:=⟨h.1.trans k.1,k.2.1.trans h.2.1,k.2.2.trans h.2.2⟩
theorem Xi.putObj {S B1 B2 N:Nat} (h0:S<=N) (h1:B1<N) (h2:B2<N) (W:World) (l:Nat) (o o':Obj) (hl:N<=l) (ho:W.heap[l]? =some o) (hc:o.isCells=false) (hw:o.isWalk=false):Xi S B1 B2 W (W.putObj l o'):=
 ⟨(Below.refl S W).grown (grownBy_putObj' W l o') (by have:=(Array.getElem?_eq_some_iff.1 ho).1;omega) (fun k e=>by cases e;omega),World.putObj_heap_other (by omega),World.putObj_heap_other (by omega)⟩
def gSl:Option Addr->Nat->Nat->Value
 |some a,o,d=> .slice (some (a.add o)) d d
 |none,_,d=> .slice none d d
theorem Ej (F:Fence) (n:Nat) (hF:F.fn 221) (hro:F.round=none) (hn:1<=n) (B1 B2:Nat) (A:Option Addr) (cap len d:Nat) (hd:1<=d/\d<=4) (hl:len<=1000000) (hcap:len<=cap) (hA:0<len-> ∃ad,A=some ad) (wS w:World) (hS:Below wS.heap.size wS w)
  (c1:w.cell? ⟨B1,0,none⟩=some (.int .i64 d)) (c2:w.cell? ⟨B2,0,none⟩=some (.slice A len cap)):
  Yd F n Tryz.prog 221 #[.pointer (some ⟨B1,0,none⟩),.pointer (some ⟨B2,0,none⟩)] (fun k=> #[gSl A (k*d) d]) (Xi wS.heap.size B1 B2) (len/d) w:=fun L J W hW hY h0 hJd=>by
 clear hJd;have d1:=cnx c1 hW;have d2:=cnx c2 hW;have hS':=bnx hS hW;have HY:=Qa.mk hY;have HA:=Qa.mk hA;have hlI:(len:Int)<=1000000:=(by omega);have hcI:(len:Int)<=(cap:Int):=(by omega);have hdI:1<=(d:Int)/\(d:Int)<=4:=by omega
 have hDV:Qa (∀k p:Nat,p=k*d->(p+d<=len->k<len/d)/\(p<=len-> ¬p+d<=len->k=len/d)):=⟨fun k p hp=>by
  subst hp;refine⟨fun h=> ?_,fun h1 h2=> ?_⟩
  ·have:k+1<=len/d:=(Nat.le_div_iff_mul_le (by omega)).2 (by rw[Nat.add_mul];omega)
   omega
  ·refine Nat.le_antisymm ((Nat.le_div_iff_mul_le (by omega)).2 h1) ?_
   have h3:len/d<k+1:=(Nat.div_lt_iff_lt_mul (by omega)).2 (by rw[Nat.add_mul];omega)
   omega⟩
 clear hY c1 c2 hl hA;refine callsIn_of_wp Tryz.func221 rfl hF ?_ hro;simp only[Tryz.ntmps221,List.size_toArray,List.length_cons,List.length_nil,Nat.reduceAdd,Nat.reduceSub,Array.replicate_succ,Array.replicate_zero,List.push_toArray,List.append_toArray,List.nil_append,List.cons_append];gi_wp2;gi_loopw [4] (fun i wr=> ∃k p:Nat,i= .int .i64 p/\p<=len/\Qa (p=k*d)/\wr.cell? ⟨B1,0,none⟩=some (.int .i64 d)/\wr.cell? ⟨B2,0,none⟩=some (.slice A len cap)/\Qa (Below wS.heap.size wS wr)/\Qa (J k wr)) (fun i _=>len-(intOf i).toNat)
 case atStart=>exact⟨0,0,rfl,by omega,⟨by omega⟩,d1,d2,⟨hS'⟩,⟨h0⟩⟩
 case round=>
  obtain⟨k,p,rfl,hp,hpk,e1,e2,hb,hJ⟩:=hrel;clear d1 d2 hS';have hpI:(p:Int)<=1000000:=(by omega);by_cases hlt:p+d<=len
  ·have hltI:(p:Int)+(d:Int)<=(len:Int):=by omega
   obtain⟨ad,rfl⟩:=HA.out (by omega);obtain⟨fn,tmps,assign,body,hy,hR⟩:=HY.out k wr ((hDV.out k p hpk.out).1 hlt) hJ.out;rw[<-hpk.out] at hy;have hT:=Qa.mk hlt;have hR2:=Qa.mk hR;simp only[gSl] at hy;clear hR hlt hp;gi_wp2;refine hR2.out.mono ?_;rintro e W3 ⟨rfl,hJ3,hk3⟩;have b1:=(Q6 hk3.2.1).trans e1;have b2:=(Q6 hk3.2.2).trans e2;have hb3:=Qa.mk (hb.out.trans hk3.1);replace hJ3:=Qa.mk hJ3;have hq9:Qa (p+d=(k+1)*d):=⟨by rw[hpk.out,Nat.add_mul];omega⟩;clear hR2 e1 e2 hk3 hy;gi_wp2;go_roundw
   case rel=>exact⟨k+1,p+d,by go_num,hT.out,hq9,b1,b2,hb3,hJ3⟩
   case measure=>have:=hT.out;simp[intOf];omega
  ·have hnl: ¬(p:Int)+(d:Int)<=(len:Int):=by omega
   have hK:=Qa.mk ((hDV.out k p hpk.out).2 hp hlt);clear hlt;gi_wp2;go_end0;refine⟨⟨_,rfl⟩,?_⟩;rw[<-hK.out];exact hJ.out
theorem Bp (d:Nat) (m:Int) (e:Bool) (A:Option Addr) (n c:Nat) (w:World):
  Calls Tryz.prog 194 #[frm d m e,.slice A n c] w fun en w'=>en= .returned (.func (.func 221) #[] #[.pointer (some ⟨w.heap.size,0,none⟩),.pointer (some ⟨w.heap.size+1,0,none⟩)])/\w'=(w.alloc (.cells #[.int .i64 d,.int .i64 m,.bool e] 194)).alloc (.cells #[.slice A n c] 22):=by
 have hu:=Tryz.underlying194;unfold frm;go_enter Tryz.func194,Tryz.ntmps194;go_wp2;go_ret;exact⟨rfl,rfl⟩
end Bk

namespace Sp
open Bk (X6 X7)
attribute [local go_sem] X6 X7 Qk Ql Qd Qe
open Q15
open Q21
def Gt (a:Int):Int:=(2*a+4096)/8192
def Z5 (v:Int):Int:=min 2097152 (max (-2097152) v)
theorem Pj {a m:Int} (h: -m<=a/\a<=m): -m<=Gt a/\Gt a<=m+1:=by unfold Gt;omega
theorem P9 (v:Int): -2097152<=Z5 v/\Z5 v<=2097152:=by unfold Z5;omega
theorem Ij (x:Int) (w:World) (h0: -2251799813685248<=x) (h1:x<=2251799813685248):
  Calls Tryz.prog 122 #[.int .i64 x,.int .i64 8192] w fun e w'=>e= .returned (.int .i64 (x/8192))/\Below w.heap.size w w':=by
 have ht:=tq x 8192 (by decide);have hq: -2251799813685248<=x.tdiv 8192/\x.tdiv 8192<=2251799813685248:=(by omega);by_cases hm:x.tmod 8192<0
 ·have e:Qa (x/8192=x.tdiv 8192-1):=⟨by omega⟩
  clear ht;obtain⟨r,hr⟩: ∃r,r=x/8192:=⟨_,rfl⟩;rw[<-hr] at e ⊢;clear hr;go_enter Tryz.func122,Tryz.ntmps122;go_wp2;go_ret;exact⟨by rw[e.out];rfl,Below.refl _ _⟩
 ·have e:Qa (x/8192=x.tdiv 8192):=⟨by omega⟩
  have hm':decide (x.tmod 8192<0)=false:=(by simpa using hm);clear ht;obtain⟨r,hr⟩: ∃r,r=x/8192:=⟨_,rfl⟩;rw[<-hr] at e ⊢;clear hr;go_enter Tryz.func122,Tryz.ntmps122;go_wp2;go_ret;exact⟨by rw[e.out];rfl,Below.refl _ _⟩
theorem Au (a:Int) (w:World) (h0: -562949953421312<=a) (h1:a<=562949953421312):
  Calls Tryz.prog 121 #[.int .i64 a,.int .i64 4096] w fun e w'=>e= .returned (.int .i64 (Gt a))/\Below w.heap.size w w':=by
 have HF:=Qa.mk (Ij (2*a+4096) w (by omega) (by omega));have hb:=Below.refl w.heap.size w;have hr:Gt a=(2*a+4096)/8192:=rfl;rw[<-hr] at HF;clear hr;go_enter Tryz.func121,Tryz.ntmps121;go_wp2_with fail;refine HF.out.mono ?_;rintro e w' ⟨rfl,hbn⟩;replace hb:=bnx hb hbn;clear hbn HF;go_wp2;go_ret;exact⟨rfl,hb⟩
theorem Ed (a:Int) (w:World) (h0: -562949953421312<=a) (h1:a<=562949953421312):
  Calls Tryz.prog 120 #[.int .i64 a,.int .i64 4096,.func (.func 121) #[] #[]] w fun e w'=>e= .returned (.tuple #[.int .i64 (Gt a),.int .i64 0])/\Below w.heap.size w w':=by
 have HF:=Qa.mk (fun W=>Au a W h0 h1);have hb:=Below.refl w.heap.size w;have t1:decide (a< -1152921504606846976)=false:=decide_eq_false (by omega);have t2:decide (1152921504606846976<a)=false:=decide_eq_false (by omega);replace h0:=Qa.mk h0;replace h1:=Qa.mk h1;go_enter Tryz.func120,Tryz.ntmps120;go_wp2_with fail;refine(HF.out _).mono ?_;rintro e w' ⟨rfl,hbn⟩;replace hb:=bnx hb hbn;clear hbn HF;go_wp2;go_ret2;exact⟨rfl,hb⟩
theorem Ow (a:Int) (w:World) (h0: -562949953421312<=a) (h1:a<=562949953421312):
  Calls Tryz.prog 72 #[.int .i64 a,.int .i64 4096] w fun e w'=>e= .returned (.tuple #[.int .i64 (Gt a),.int .i64 0])/\Below w.heap.size w w':=by
 have HF:=Qa.mk (fun W=>Ed a W h0 h1);have hb:=Below.refl w.heap.size w;clear h0 h1;go_enter Tryz.func72,Tryz.ntmps72;go_wp2_with fail;refine(HF.out _).mono ?_;rintro e w' ⟨rfl,hbn⟩;replace hb:=bnx hb hbn;clear hbn HF;go_wp2;go_ret2;exact⟨rfl,hb⟩
theorem Ra (v:Int) (w:World):
  Calls Tryz.prog 73 #[.int .i64 v] w fun e w'=>e= .returned (.int .i64 (Z5 v))/\Below w.heap.size w w':=by
 have hb:=Below.refl w.heap.size w;go_enter Tryz.func73,Tryz.ntmps73;go_wp2;go_ret;exact⟨rfl,hb⟩
end Sp

namespace Sec
attribute [local go_sem] Qh Qi Qk Ql Qd Qe
open Q15
theorem I9 (n:Nat) (hn:n<=1000000) (w:World):
  Calls Tryz.prog 217 #[.int .u64 1,.int .u64 n] w fun e w'=>e= .returned (.tuple #[.int .u64 0,.int .u64 n])/\w'=w:=by
 have m1:bits .and .u64 (1:Int) 4294967295=1:=by decide
 have m2:bits .and .u64 (n:Int) 4294967295=(n:Int):=by
  rw[Go.Proofs.Mul64.maskN n (by omega),Nat.mod_eq_of_lt (by omega)]
 have m0:bits .and .u64 (0:Int) 4294967295=0:=(by decide);have d2:(n:Int)/4294967296=0:=Int.ediv_eq_zero_of_lt (by omega) (by omega);have w1:IntKind.u64.wrap (n:Int)=(n:Int):=(by rw[IntKind.wrap_u64];omega);clear hn;go_enter Tryz.func217,Tryz.ntmps217;go_wp2;go_ret2;exact⟨rfl,rfl⟩
theorem Qee (n:Nat) (hn:n<=1000000) (w:World):
  Calls Tryz.prog 188 #[.int .u64 1,.int .u64 n] w fun e w'=>e= .returned (.tuple #[.int .u64 0,.int .u64 n])/\w'=w:=by
 have HM:=Qa.mk (fun W=>I9 n hn W);clear hn;go_enter Tryz.func188,Tryz.ntmps188;go_wp2_with (first|(go_at_call 217;refine(HM.out _).mono ?_;rintro e w' ⟨rfl,rfl⟩));go_ret2;exact⟨rfl,rfl⟩
end Sec

namespace Sec
attribute [local go_sem] Qh Qi Qk Ql Qd Qe
open Q15
open Bk (Z6)
open Q21 (Qb Qj)
def De (k:Int) (n c:Nat):List Value:=List.replicate n (.int .i64 k)++List.replicate (c-n) (.int .i64 0)
theorem Qal {k:Int} {n c:Nat} (h:n<=c):(De k n c).length =c:=by simp[De];omega
theorem Qda {k:Int} {n c j:Nat} (h:n<=c) (hj:j<n):(De k n c)[j]? =some (.int .i64 k):=by
  unfold De;rw[List.getElem?_append_left (by simpa using hj),List.getElem?_replicate,if_pos hj]
theorem Qel (k:Int) (n m c:Nat):(De k n c).take n++List.replicate m (.int .i64 k)++(De k n c).drop (n+m)=De k (n+m) c:=by
  unfold De;rw[List.take_append,List.drop_append];simp[List.take_replicate,List.drop_replicate,<-List.replicate_append_replicate];omega
theorem O3 {g B:Nat} (hB:B<=g): ∀(vs:List Value) (o:Nat) (w:World),Below B w (w.setCells g o vs)
  |[],o,w=>Below.refl _ _
  |v::r,o,w=>by
    rw[World.setCells];exact((Below.refl B w).setCell (p:=⟨g,o,none⟩) hB v).trans (O3 hB r (o+1) _)
theorem Qct (k:Int) (g n m c:Nat) (a:Addr) (sl sc:Nat) (dl dc:Nat) (W:World) (h:W.heap[g]? =some (.cells (De k n c).toArray 3 (0,0))) (hn:n<=c) (hm:m=Nat.min sl dl) (hd:n+m<=c) (hsrc: ∀j,j<m->W.cell? (a.add j)=some (.int .i64 k)):
    ∃W',(∀ty,(Builtin.copy_ #[22,22] ty #[.slice (some ⟨g,n,none⟩) dl dc,.slice (some a) sl sc]).run Tryz.prog W= .ok (.int .i64 m) W')/\W'.heap[g]? =some (.cells (De k (n+m) c).toArray 3 (0,0))/\ ∀B,B<=g->B<=W.heap.size->Below B W W':=by
  have hl:(List.replicate m (Value.int .i64 k)).length =m:=(by simp);obtain⟨cur',h3,h4,h5⟩:=U6 (List.replicate m (Value.int .i64 k)) n W _ h (by rw[hl];simp[Qal hn];omega);refine⟨W.setCells g n (List.replicate m (Value.int .i64 k)),fun ty=> ?_,?_,fun B hB hW=> ?_⟩
  · have hr:=run_copy_cells (P:=Tryz.prog) W 22 22 ty 3 g n dl dc a sl sc (List.replicate m (Value.int .i64 k)) Tryz.underlying22 (by kernel_rfl) (by rw[hl];exact hm)
      (fun j v hv=>by
        have hj:j<m:=by
          rcases Nat.lt_or_ge j m with h|h
          · exact h
          · rw[List.getElem?_eq_none (by simpa using h)] at hv
            cases hv
        rw[List.getElem?_replicate,if_pos hj] at hv;cases hv
        exact hsrc j hj)
      (fun j hj=>by rw[Qb h];rw[hl] at hj;simp[Qal hn];omega) (fun j _=>Qj h _) (by intro u hu;rw[List.eq_of_mem_replicate hu];rfl)
    rw[hl] at hr;exact hr
  · rw[h3]
    congr 2
    apply Array.toList_inj.1
    rw[h5,hl];exact Qel k n m c
  · exact O3 hB _ _ _
theorem X9 (c:Nat) (hc:c<=1000000): ∀W:World,(Instr.makeSlice 22 (.int .i64 (c:Int)) (.int .i64 (c:Int))).run Tryz.prog W= .ok (.slice (some ⟨W.heap.size,0,none⟩) c c) (W.alloc (.cells (List.replicate c (Value.int .i64 0)).toArray 3)):=fun W=>by
  rw[Pre.Na 22 3 (.int .i64 0) 1 8 Tryz.underlying22 Qw c (by decide) (by omega) W]
  congr 3
  show madeCells #[.int .i64 0] (c*1)=_
  apply Array.ext
  · simp[size_madeCells]
  · intro i h1 h2
    simp[madeCells,Nat.mod_one]
theorem Nk (A:Option Addr) (cap:Nat) (k:Int) (c:Nat) (w:World) (hr:(Kd.int .i64).C w A 1 [k]) (h1:1<=c) (h2:c<=1000000):
    Calls Tryz.prog 143 #[.slice A 1 cap,.int .i64 c] w fun e w'=> ∃g,e= .returned (.slice (some ⟨g,0,none⟩) c c)/\w'.heap[g]? =some (.cells (De k c c).toArray 3 (0,0))/\w.heap.size<=g/\Below w.heap.size w w':=by
  have hcI:1<=(c:Int)/\(c:Int)<=1000000:=(by omega);have HM:=Qa.mk (fun W=>Qee c h2 W);have HK:=X9 c h2;have hcu:IntKind.u64.wrap (c:Int)=(c:Int):=(by rw[IntKind.wrap_u64];omega);obtain⟨ad,rfl,hcell⟩:=Qn (l:=[k]) hr (Below.refl _ _) (k:=0) (by simp);have hc0:rd [k] (0:Nat)=k:=rfl;rw[hc0] at hcell;obtain⟨W1,hW1⟩: ∃W1,W1=w.alloc (.cells (List.replicate c (Value.int .i64 0)).toArray 3):=⟨_,rfl⟩;have hKw:=HK w;rw[<-hW1] at hKw;have hb1:Below w.heap.size w W1:=by rw[hW1];exact(Below.refl _ _).alloc (Nat.le_refl _) _
  have hg1:W1.heap[w.heap.size]? =some (.cells (De k 0 c).toArray 3 (0,0)):=by
    rw[hW1,heap_alloc_new];simp[De]
  have hcell1:=cnx hcell hb1
  have hsrc0: ∀j,j<1->W1.cell? (ad.add j)=some (.int .i64 k):=fun j hj=>by
    obtain rfl:j=0:=(by omega);exact hcell1
  obtain⟨W2,hcp,hg2,hb2⟩:=Qct k w.heap.size 0 1 c ad 1 cap c c W1 hg1 (by omega) (show 1=Nat.min 1 c from(Nat.min_eq_left h1).symm) (by omega) hsrc0;have hbz:=hb1.trans (hb2 w.heap.size (Nat.le_refl _) hb1.size)
  have hstep:Qa (∀n,1<=n->n<c-> ∀wr:World,wr.heap[w.heap.size]? =some (.cells (De k n c).toArray 3 (0,0))->w.heap.size<=wr.heap.size-> ∃(m:Nat) (W':World),1<=m/\n+m<=c/\(∀ty,(Builtin.copy_ #[22,22] ty #[.slice (some ⟨w.heap.size,n,none⟩) (c-n) (c-n),.slice (some ⟨w.heap.size,0,none⟩) n c]).run Tryz.prog wr= .ok (.int .i64 m) W')/\W'.heap[w.heap.size]? =some (.cells (De k (n+m) c).toArray 3 (0,0))/\Below w.heap.size wr W'):=⟨fun n q1 q2 wr hg hs=>by
    obtain⟨W',e1,e2,e3⟩:=Qct k w.heap.size n (Nat.min n (c-n)) c ⟨w.heap.size,0,none⟩ n c (c-n) (c-n) wr hg (by omega) rfl (by have h9:Nat.min n (c-n)<=c-n:=Nat.min_le_right n (c-n);omega) (fun j hj=>by
      have hj2:j<n:=Nat.lt_of_lt_of_le hj (Nat.min_le_left _ _)
      rw[show(⟨w.heap.size,0,none⟩:Addr).add j=⟨w.heap.size,j,none⟩ by
        unfold Addr.add;by_cases h0:j=0
        · simp[h0]
        · simp[h0],Qb hg]
      have:=Qda (k:=k) (n:=n) (c:=c) (by omega) hj2
      simpa using this)
    exact⟨Nat.min n (c-n),W',by
                                     rcases Nat.le_total n (c-n) with h|h
                                     · rw[show Nat.min n (c-n)=n from Nat.min_eq_left h];exact q1
                                     · rw[show Nat.min n (c-n)=c-n from Nat.min_eq_right h];omega,by have h9:Nat.min n (c-n)<=c-n:=Nat.min_le_right n (c-n);omega,e1,e2,e3 _ (Nat.le_refl _) hs⟩⟩
  replace hg2:=Qa.mk hg2;replace hbz:=Qa.mk hbz;have hcx:Qa (1<=c):=⟨h1⟩;clear HK hW1 hr hb2 hg1 hb1 hsrc0 hcell hc0 h1 h2;go_enter Tryz.func143,Tryz.ntmps143;go_wp2_with (first|(go_at_call 188;refine(HM.out _).mono ?_;rintro e w' ⟨rfl,hw'⟩;rw[hw'];clear hw'));go_loopw [8] (fun x wr=> ∃n:Nat,x= .int .i64 n/\1<=n/\n<=c/\Qa (wr.heap[w.heap.size]? =some (.cells (De k n c).toArray 3 (0,0)))/\Below w.heap.size w wr) (fun x _=>c-(intOf x).toNat)
  case atStart=>exact⟨1,rfl,by omega,hcx.out,hg2,hbz.out⟩
  case round=>
    obtain⟨n,rfl,hn1,hn2,hg,hb⟩:=hrel;by_cases hlt:n<c
    · obtain⟨m,W',e1,e2,e3,e4,e5⟩:=hstep.out n hn1 hlt wr.drew hg.out hb.size
      have hnI:(n:Int)<(c:Int):=(by omega);have hcn: ¬c=n:=(by omega);have hmI:(n:Int)+(m:Int)<=(c:Int):=(by omega);have hw1:IntKind.i64.wrap ((n:Int)+(m:Int))=(n:Int)+(m:Int):=IntWalk.i64_in _ (by omega);have he4:=Qa.mk e4;have hbn:=Qa.mk (hb.trans ((Below.refl w.heap.size wr).drew.trans e5));have hq:=Qa.mk (And.intro e1 e2);clear e4 e5 e1 e2 hg hcp hKw;go_wp2_with fail;refine Z6 (fun _=>True) (by kernel_rfl) trivial (fun hHeld=> ?_)
      (refine Tk.tk 0 (.int .i64 n) hHeld ?_)
      (refine Tk.tk 1 (.slice (some ⟨w.heap.size,0,none⟩) c c) hHeld ?_)
      (refine Tk.tk 2 (.int .i64 n) hHeld ?_)
      (refine Tk.tk 3 (.slice (some ⟨w.heap.size,n,none⟩) (c-n) (c-n)) hHeld ?_)
      (refine Tk.tk 4 (.slice (some ⟨w.heap.size,0,none⟩) c c) hHeld ?_)
      (refine Tk.tk 5 (.int .i64 n) hHeld ?_)
      (refine Tk.tk 6 (.slice (some ⟨w.heap.size,0,none⟩) n c) hHeld ?_)
      (refine wpAnyH_ready (rs:=[7]) (by kernel_rfl) (by simp) ?_;refine AllReadyH.cons rfl (fun K hK=> ?_) AllReadyH.nil;go_simp)
      (go_wp2_with fail;refine hK.out _ _ (trivial) (fun hHeld=> ?_);clear hK K;try simp only[Act.put,Tk.z1,Tk.z2,Tk.z3,Tk.z4,Tk.z5,Tk.z6])
      (refine Tk.tk 8 (.int .i64 (n+m)) hHeld ?_)
      (refine Tk.tk 9 (.int .i64 (n+m)) hHeld ?_)
      refine wpAnyH_done (by kernel_rfl) ?_ _;go_wp2;go_roundw
      case rel=>exact⟨n+m,by go_num,by omega,hq.out.2,he4,hbn.out⟩
      case measure=>have:=hq.out;simp[intOf];omega
    · obtain rfl:n=c:=by omega
      have hb2:=hb;clear hcp hKw;go_wp2;go_ret;exact⟨_,rfl,hg.out,Nat.le_refl _,hb2⟩
end Sec

namespace Sp
attribute [local go_sem] Qh Qi Qk Ql Qd Qe
open Q15
open Q21
def Vq (ws y:List Int) (n:Nat):Nat->Int
 |0=>0
 |i+1=>Vq ws y n i+(if i<n then rd ws i*rd y (n-1-i:Nat) else 0)
def Yr (ws d:List Int):Nat->List Int
 |0=>[]
 |n+1=>Yr ws d n++[Z5 (rd d n+Gt (-(Vq ws (Yr ws d n) n ws.length)))]
theorem Ze (ws d:List Int): ∀n,(Yr ws d n).length =n
 |0=>rfl
 |n+1=>by rw[Yr,List.length_append,Ze ws d n];rfl
theorem Jq (ws d:List Int): ∀n,∀x∈Yr ws d n,-2097152<=x/\x<=2097152
 |0,x,hx=>by cases hx
 |n+1,x,hx=>by
  rcases List.mem_append.1 hx with h|h
  ·exact Jq ws d n x h
  ·rw[List.mem_singleton.1 h];exact P9 _
theorem Zg {a b:Int} (ha: -16777216<=a/\a<=16777216) (hb: -2097152<=b/\b<=2097152): -35184372088832<=a*b/\a*b<=35184372088832:=by
 have h:=Nat.mul_le_mul (show a.natAbs<=16777216 by omega) (show b.natAbs<=2097152 by omega);rw[<-Int.natAbs_mul] at h;obtain⟨c,hc⟩: ∃c,c=a*b:=⟨_,rfl⟩;rw[<-hc] at h ⊢;omega
theorem Ng {ws y:List Int} (hw: ∀x∈ws,-16777216<=x/\x<=16777216) (hy: ∀x∈y,-2097152<=x/\x<=2097152) {n:Nat} (hn:n<=y.length): ∀i,i<=ws.length-> -(35184372088832*(i:Int))<=Vq ws y n i/\Vq ws y n i<=35184372088832*(i:Int)
 |0,_=>by simp[Vq]
 |i+1,hi=>by
  have h1:=Ng hw hy hn i (by omega);unfold Vq
  split
  ·have h2:=Zg (hw _ (Qp ws i (by omega))) (hy _ (Qp y (n-1-i) (by omega)))
   push_cast
   omega
  ·push_cast
   omega
def yL (ws d:List Int) (n:Nat):List Int:=Yr ws d n++List.replicate (d.length-n) 0
theorem yL_len {ws d:List Int} {n:Nat} (hn:n<=d.length):(yL ws d n).length =d.length:=by
 unfold yL;rw[List.length_append,Ze,List.length_replicate];omega
theorem rd_yL {ws d:List Int} {n j:Nat} (hj:j<n):rd (yL ws d n) j=rd (Yr ws d n) j:=by
 unfold yL;rw[Yl _ _ (by rw[List.length_append,Ze];omega),Yl _ _ (by rw[Ze];exact hj),List.getElem_append_left (by rw[Ze];exact hj)]
theorem yL_set {ws d:List Int} {n:Nat} (hn:n<d.length):(yL ws d n).set n (Z5 (rd d n+Gt (-(Vq ws (Yr ws d n) n ws.length))))=yL ws d (n+1):=by
 unfold yL;rw[List.set_append_right _ _ (by rw[Ze];exact Nat.le_refl _),Ze,Nat.sub_self,show d.length-n=(d.length-(n+1))+1 by omega,List.replicate_succ,List.set_cons_zero]
 show _=(Yr ws d n++[_])++_
 rw[List.append_assoc];rfl
theorem Sc (A B:Option Addr) (c1 c2:Nat) (d fi:List Int) (w:World) (hr:(Kd.int .i64).C w A d.length d) (hr2:(Kd.int .i64).C w B fi.length fi) (hf:Ye fi=true) (hd:d.length<=1000) (hv: ∀x∈d,-1099511627776<=x/\x<=1099511627776):
  Calls Tryz.prog 37 #[.slice A d.length c1,.slice B fi.length c2] w fun e w'=> ∃g,e= .returned (.slice (some ⟨g,0,none⟩) d.length d.length)/\w'.heap[g]? =some (.cells ((Yr (Qy fi) d d.length).map (Value.int .i64)).toArray 3 (0,0))/\w.heap.size<=g/\Below w.heap.size w w':=by
 have HR:=Qa.mk hr;have hfi:=hf;unfold Ye at hfi;simp only[Bool.and_eq_true,decide_eq_true_eq] at hfi;have hfl:=hfi.1;have hfv: ∀x∈fi,-127<=x/\x<=127:=fun x hx=>of_decide_eq_true (List.all_eq_true.1 hfi.2 x hx)
 have HW:=Qa.mk (Jn B c2 fi w hr2 (by omega));unfold wgtL wgtE at HW;rw[hf,if_pos rfl,if_pos rfl] at HW;have HWb:=Qa.mk (fun x hx=>Vj fi hfv hfl (j:=fi.length) (Nat.le_refl _) x (by rw[List.take_length];exact hx));have hwl:=Vi fi;obtain⟨ws,hws⟩: ∃ws,ws=Qy fi:=⟨_,rfl⟩;rw[<-hws] at HW HWb hwl ⊢;have hwlI:(ws.length:Int)<=12:=(by omega);have hdI:(d.length:Int)<=1000:=(by omega);have HV:=Qa.mk hv;have hmk: ∀W:World,(Instr.makeSlice 22 (.int .i64 (d.length:Int)) (.int .i64 (d.length:Int))).run Tryz.prog W= .ok (.slice (some ⟨W.heap.size,0,none⟩) d.length d.length) (W.alloc (.cells (List.replicate d.length (Value.int .i64 0)).toArray 3)):=Sec.X9 d.length (by omega);obtain⟨Z0,hZ0⟩: ∃Z0,Z0=(List.replicate d.length (Value.int .i64 0)).toArray :=⟨_,rfl⟩;rw[<-hZ0] at hmk;replace hZ0:=Qa.mk hZ0;have hb:=Below.refl w.heap.size w;clear hr hr2 hf hfi hfl hfv hv hws hd hwl;go_enter Tryz.func37,Tryz.ntmps37;go_wp2_with fail;refine HW.out.mono ?_;rintro e w1 ⟨C,q,rfl,hC,hb1⟩;have HC:=Qa.mk hC;replace hb:=bnx hb hb1;clear hb1 hC HW;go_wp2_with fail;obtain⟨g,hg⟩: ∃g,g=w1.heap.size:=⟨_,rfl⟩;obtain⟨W2,hW2⟩: ∃W2,W2=w1.alloc (.cells Z0 3):=⟨_,rfl⟩;have hb2:Below w1.heap.size w1 W2:=by rw[hW2];exact(Below.refl _ _).alloc (Nat.le_refl _) _
 have hG2:W2.heap[g]? =some (.cells ((yL ws d 0).map (Value.int .i64)).toArray 3 (0,0)):=by
  rw[hW2,hg];refine(heap_alloc_new _ _).trans ?_;rw[hZ0.out];simp[yL,Yr]
 have hgw:=Qa.mk (show w.heap.size<=g by rw[hg];exact hb.size);have HFin:=Qa.mk (fun(W:World) (h:Bts.Kp g none W2 W)=>And.intro (hb.trans ((hb2.mono hb.size).trans (h.below (B:=w.heap.size) hgw.out (fun k e=>by cases e) (by have:=hb.size;have:=hb2.size;omega)))) (Kd.Qf HC.out (hb2.trans (h.below (B:=w1.heap.size) (by omega) (fun k e=>by cases e) hb2.size))));rw[<-hW2,<-hg];clear hW2 hg hb hb2 hmk HC;go_loopw [25] (fun i wr=> ∃n:Nat,i= .int .i64 n/\n<=d.length/\Qa (wr.heap[g]? =some (.cells ((yL ws d n).map (Value.int .i64)).toArray 3 (0,0)))/\Qa (Bts.Kp g none W2 wr)) (fun i _=>d.length-(intOf i).toNat)
 case atStart=>exact⟨0,rfl,by omega,⟨hG2⟩,⟨Bts.Kp.refl _ _ _⟩⟩
 case round=>
  obtain⟨n,rfl,hn,hG,hKp⟩:=hrel;obtain⟨hbw,hCw⟩:=HFin.out _ hKp.out;clear hG2;by_cases hlt:n<d.length
  ·obtain⟨ad,rfl,hcell⟩:=Qn HR.out hbw hlt
   have hnI:(n:Int)<(d.length:Int):=(by omega);have hv:=HV.out _ (Qp d n hlt);have hyl:=yL_len (ws:=ws) (Nat.le_of_lt hlt);have hPb:=Qa.mk (fun i hi=>Ng HWb.out (Jq ws d n) (by rw[Ze];exact Nat.le_refl _) i hi);have hset:=Qa.mk (yL_set (ws:=ws) hlt);have hY:=Qa.mk (fun(j:Nat) (hj:j<n)=>Jq ws d n _ (Qp _ j (by rw[Ze];exact hj)));obtain⟨x,hx⟩: ∃x,x=rd d n:=⟨_,rfl⟩;rw[<-hx] at hcell hv hset;obtain⟨y,hy⟩: ∃y,y=Yr ws d n:=⟨_,rfl⟩;rw[<-hy] at hPb hset hY;have hyr:=Qa.mk (fun(j:Nat) (hj:j<n)=>(show rd (yL ws d n) j=rd y j by rw[hy];exact rd_yL hj));obtain⟨Z,hZ⟩: ∃Z,Z=yL ws d n:=⟨_,rfl⟩;rw[<-hZ] at hG hyl hset hyr;have hlt':=Qa.mk hlt;have hCw':=Qa.mk hCw;clear hx hy hZ hlt hn hCw;go_wp2_with fail;go_loop [10,32] (fun s i=> ∃(j:Nat) (z:Int),s= .int .i64 z/\i= .int .i64 j/\j<=ws.length/\Qa (z=Vq ws y n j)) (fun _ i=>ws.length-(intOf i).toNat)
   case atStart=>exact⟨0,0,rfl,rfl,by omega,⟨rfl⟩⟩
   case round=>
    obtain⟨j,z,rfl,rfl,hj,hz⟩:=hrel;by_cases hjt:j<ws.length
    ·obtain⟨ad2,rfl,e1⟩:=Qn hCw'.out (Below.refl _ _) hjt
     have hjI:(j:Int)<(ws.length:Int):=(by omega);have hjT:=Qa.mk hjt;have hwv:=HWb.out _ (Qp ws j hjt);have hzb:=hPb.out j (by omega);rw[<-hz.out] at hzb;have hnx:Vq ws y n (j+1)=Vq ws y n j+(if j<n then rd ws j*rd y (n-1-j:Nat) else 0):=rfl;rw[<-hz.out] at hnx;obtain⟨a,ha⟩: ∃a,a=rd ws j:=⟨_,rfl⟩;rw[<-ha] at e1 hwv hnx;by_cases hjn:j<n
     ·have t39:decide ((j:Int)<(n:Int))=true:=decide_eq_true (by omega)
      obtain⟨k,hk⟩: ∃k:Nat,k=n-1-j:=⟨_,rfl⟩;have hkI:(n:Int)-1-(j:Int)=(k:Int):=(by omega);have hb9:=hY.out k (by omega);have hkl:k<Z.length:=by omega
      have e2:wr.cell? ⟨g,k,none⟩=some (.int .i64 (rd y k)):=by
       rw[Qb hG.out,<-hyr.out k (by omega),Yl _ _ hkl];simp[hkl]
      rw[if_pos hjn,<-hk] at hnx;obtain⟨b,hbv⟩: ∃b,b=rd y k:=⟨_,rfl⟩;rw[<-hbv] at e2 hb9 hnx;have hm9:=Zg hwv hb9;obtain⟨m,hm⟩: ∃m,m=a*b:=⟨_,rfl⟩;rw[<-hm] at hm9 hnx;have hm':a*b=m:=hm.symm;have hkd:(k:Int)<(d.length:Int):=(by omega);have hjw:(j:Int)<=12:=(by omega);have hz9: -1125899906842624<=z/\z<=1125899906842624:=(by omega);replace hnx:=Qa.mk hnx;clear hjt hzb ha hk hbv hm hb9 hwv hkl hjn;go_wp2_with fail;go_round
      case rel=>exact⟨j+1,z+m,rfl,by go_num,hjT.out,⟨hnx.out.symm⟩⟩
      case measure=>have:=hjT.out;simp[intOf];omega
     ·have t39:decide ((j:Int)<(n:Int))=false:=decide_eq_false (by omega)
      have t39':decide (j<n)=false:=decide_eq_false hjn;have hle:n<=j:=(by omega);rw[if_neg hjn,Int.add_zero] at hnx;replace hnx:=Qa.mk hnx;have hjw:(j:Int)<=12:=(by omega);clear hjt hzb ha hwv hjn;go_wp2;go_round
      case rel=>exact⟨j+1,z,rfl,by go_num,hjT.out,⟨hnx.out.symm⟩⟩
      case measure=>have:=hjT.out;simp[intOf];omega
    ·obtain rfl:j=ws.length:=by omega
     have hzb:=hPb.out ws.length (Nat.le_refl _);rw[<-hz.out] at hzb hset;have hz9: -1125899906842624<=z/\z<=1125899906842624:=(by omega);have hzr: -562949953421312<= -z/\ -z<=562949953421312:=(by omega);have HRd:=Qa.mk (fun(W:World)=>Ow (-z) W hzr.1 hzr.2);have hrb:=Pj (a:= -z) (m:=562949953421312) (by omega);obtain⟨r,hr⟩: ∃r,r=Gt (-z):=⟨_,rfl⟩;rw[<-hr] at HRd hset hrb;have HCl:=Qa.mk (fun(W:World)=>Ra (x+r) W);obtain⟨u,hu⟩: ∃u,u=Z5 (x+r):=⟨_,rfl⟩;rw[<-hu] at HCl hset;replace hset:=Qa.mk hset.out;clear hjt hj hzb hr hu hzr;go_wp2_with fail;refine(HRd.out _).mono ?_;rintro e w5 ⟨rfl,hb5⟩;have hG5:=(hb5.block _ (Qr hG.out)).trans hG.out;clear HRd;go_wp2_with fail;refine(HCl.out _).mono ?_;rintro e w6 ⟨rfl,hb6⟩;have hG6:=(hb6.block _ (Qr hG5)).trans hG5;have hK6:=hKp.out.Zk ((bnx hb5 hb6).mono hKp.out.size);have hnl:n<Z.length:=(by have:=hlt'.out;omega);have z6:w6.cell? ⟨g,n,none⟩=some (.int .i64 Z[n]):=(by rw[Qb hG6];simp[hnl]);have y6:=Qj hG6 n;have hG7:=Q9 hG6 n (.int .i64 u)
     have hG8:Qa ((w6.setCell ⟨g,n,none⟩ (.int .i64 u)).heap[g]? =some (.cells ((yL ws d (n+1)).map (Value.int .i64)).toArray 3 (0,0))):=⟨by
      rw[hG7,<-hset.out]
      simp⟩
     have hK8:=Qa.mk (hK6.Dj n (.int .i64 u));obtain⟨q6,hq6⟩: ∃q6,q6=Z[n]:=⟨_,rfl⟩;rw[<-hq6] at z6;clear hq6 hG5 hG6 hG7 hK6 hb5 hb6 hnl HCl;go_wp2_with fail;go_roundw
     case rel=>exact⟨n+1,by go_num,hlt'.out,hG8,hK8⟩
     case measure=>have:=hlt'.out;simp[intOf];omega
  ·obtain rfl:n=d.length:=by omega
   have hfin:Qa (wr.heap[g]? =some (.cells ((Yr ws d d.length).map (Value.int .i64)).toArray 3 (0,0))):=⟨by
    have:=hG.out;unfold yL at this
    rwa [Nat.sub_self,List.replicate_zero,List.append_nil] at this⟩
   clear hlt hn hG hKp hCw;go_wp2;go_ret;exact⟨g,rfl,hfin.out,hgw.out,hbw⟩
end Sp

namespace St
open Bk (X6 X7)
attribute [local go_sem] X6 X7 Qk Ql Qd Qe
open Q15
open Q21
theorem Tt (x m:Int) (B:Nat) (w:World) (hc:w.cell? ⟨B,0,none⟩=some (.int .i64 m)) (h0: -m<=x) (h1:x<=m) (h2:m<=1099511627776):
  Calls Tryz.prog 175 #[.int .i64 x,.pointer (some ⟨B,0,none⟩)] w fun e w'=>e= .returned (.bool true)/\w'=w:=by
 have t1:decide (-m<=x)=true:=decide_eq_true h0;have t2:decide (x<=m)=true:=decide_eq_true h1;have hm:0<=m:=(by omega);clear h0 h1;go_enter Tryz.func175,Tryz.ntmps175;go_wp2;go_ret;exact⟨rfl,rfl⟩
theorem Ru (m:Int) (w:World):
  Calls Tryz.prog 125 #[.int .i64 m] w fun e w'=>e= .returned (.func (.func 175) #[] #[.pointer (some ⟨w.heap.size,0,none⟩)])/\w'=w.alloc (.cells #[.int .i64 m] 3):=by
 go_enter Tryz.func125,Tryz.ntmps125;go_wp2;go_ret;exact⟨rfl,rfl⟩
def Tp (m s:Int):Int:=m-s/2
def Nt (m s:Int):Int:=Tp m s+s
theorem Ox (m s:Int) (w:World) (hm: -4294967296<=m/\m<=4294967296) (hs: -4294967296<=s/\s<=4294967296):
  Calls Tryz.prog 75 #[.int .i64 m,.int .i64 s] w fun e w'=>e= .returned (.tuple #[.int .i64 (Nt m s),.int .i64 (Tp m s),.int .i64 0])/\Below w.heap.size w w':=by
 have hI:=Qa.mk (Ru 4294967296 w);go_enter Tryz.func75,Tryz.ntmps75;go_wp2_with fail;refine hI.out.mono ?_;rintro e w1 ⟨rfl,hw1⟩;have hb:Below w.heap.size w w1:=(by rw[hw1];exact(Below.refl _ _).alloc (Nat.le_refl _) _);have c1:w1.cell? ⟨w.heap.size,0,none⟩=some (.int .i64 4294967296):=(by rw[hw1];go_simp);have H1:=Qa.mk (Tt m 4294967296 w.heap.size w1 c1 (by omega) (by omega) (by decide));have H2:=Qa.mk (Tt s 4294967296 w.heap.size w1 c1 (by omega) (by omega) (by decide));clear hw1 c1 hI;go_wp2_with fail;refine H1.out.mono ?_;rintro e w2 ⟨rfl,rfl⟩;go_wp2_with fail;refine H2.out.mono ?_;rintro e w3 ⟨rfl,rfl⟩;go_wp2;go_ret3;exact⟨rfl,hb⟩
open Q16 (isW Qx Jv)
theorem Er (A:Option Addr) (cap:Nat) (l:List Int) (w:World) (hr:(Kd.int .i64).C w A l.length l) (hw:isW l=true):
  Calls Tryz.prog 173 #[.slice A l.length cap] w fun e w'=>e= .returned (.bool true)/\Below w.heap.size w w':=by
 have HR:=Qa.mk hr;obtain⟨h1,h2,h3⟩:=Qx.1 hw;have h4:=Q16.Vg h1
 have hF:=Qa.mk (fun(k:Nat) (hk:k<l.length)=>(show 1<=rd l k/\rd l k<=128-(l.take k).sum /\(l.take (k+1)).sum =(l.take k).sum +rd l k by
  have h5:=Jv h1 (k+1);rw[Qu l k hk,List.sum_append] at h5 ⊢;simp only[List.sum_cons,List.sum_nil] at h5 ⊢;have:=h1 _ (Qp l k hk)
  omega))
 have g1:decide ((1:Int)<=(l.length:Int))=true:=decide_eq_true (by
  cases l with
  |nil=>simp at h2
  |cons=>simp;omega)
 have g2:decide ((l.length:Int)<=(32:Int))=true:=decide_eq_true (by omega);have hll:(l.length:Int)<=128:=(by omega);have hT:=Qa.mk h2;have hP:=Qa.mk h1;replace g1:=Qa.mk g1;replace g2:=Qa.mk g2;clear hr hw h1 h2 h3 h4;go_enter Tryz.func173,Tryz.ntmps173;go_wp2;go_loopw [3,8] (fun s i wr=> ∃(k:Nat) (z:Int),i= .int .i64 k/\s= .int .i64 z/\k<=l.length/\0<=z/\z<=128/\Qa (z=128-(l.take k).sum)/\Below w.heap.size w wr) (fun _ i _=>l.length-(intOf i).toNat)
 case atStart=>exact⟨0,128,rfl,rfl,by omega,by omega,by omega,⟨by simp⟩,Below.refl _ _⟩
 case round=>
  obtain⟨k,z,rfl,rfl,hk,hz0,hz1,hn,hb⟩:=hrel;by_cases hlt:k<l.length
  ·obtain⟨ad,rfl,hcell⟩:=Qn HR.out hb hlt
   obtain⟨b1,b2,b3⟩:=hF.out k hlt;rw[<-hn.out] at b2;obtain⟨n,hx⟩: ∃n,n=rd l k:=⟨_,rfl⟩;rw[<-hx] at hcell b1 b2 b3;replace b3:=Qa.mk b3;have t1:decide (n<1)=false:=decide_eq_false (by omega);have t2:decide (z<n)=false:=decide_eq_false (by omega);clear hx;go_wp2;go_roundw
   case rel=>exact⟨k+1,z-n,by go_num,rfl,by omega,by omega,by omega,⟨by rw[b3.out,hn.out];omega⟩,hb⟩
   case measure=>simp[intOf];omega
  ·obtain rfl:k=l.length:=by omega
   have hN:=hn.out;rw[List.take_length,hT.out] at hN;have hN0:z=0:=(by omega);subst hN0;have G1:=g1.out;have G2:=g2.out;clear hn hN g1 g2;go_wp2;go_ret;exact⟨rfl,hb⟩
theorem Qdu (A B C:Option Addr) (ca cb cc:Nat) (l r ws:List Int) (m:Int) (w:World) (hl:(Kd.int .i64).C w A l.length l) (hr:(Kd.int .i64).C w B r.length r) (hC:(Kd.int .i64).C w C ws.length ws) (hw:isW ws=true) (l1:l.length=128) (l2:r.length=128)
  (hm:0<=m/\m<=1099511627776) (hv: ∀k:Nat,k<128->(-m<=rd l k/\rd l k<=m)/\(-m<=rd r k/\rd r k<=m)):
  Calls Tryz.prog 123 #[.slice A l.length ca,.slice B r.length cb,.slice C ws.length cc,.int .i64 m] w fun e w'=>e= .returned (.int .i64 0)/\Below w.heap.size w w':=by
 have HW:=Qa.mk (Er C cc ws w hC hw);have HL:=Qa.mk (fun W (hb:Below w.heap.size w W) k (hk:k<128)=>Qn hl hb (k:=k) (by omega));have HR:=Qa.mk (fun W (hb:Below w.heap.size w W) k (hk:k<128)=>Qn hr hb (k:=k) (by omega));have HV:=Qa.mk hv;rw[l1,l2];clear hl hr hC hw hv l1 l2;go_enter Tryz.func123,Tryz.ntmps123;go_wp2_with fail;refine HW.out.mono ?_;rintro e w1 ⟨rfl,hb⟩;clear HW;go_wp2;go_loopw [25] (fun i wr=> ∃k:Nat,i= .int .i64 k/\k<=128/\Below w.heap.size w wr) (fun i _=>128-(intOf i).toNat)
 case atStart=>exact⟨0,rfl,by omega,hb⟩
 case round=>
  obtain⟨k,rfl,hk,hb⟩:=hrel;by_cases hlt:k<128
  ·obtain⟨a,rfl,c1⟩:=HL.out _ hb k hlt
   obtain⟨b,rfl,c2⟩:=HR.out _ hb k hlt;obtain⟨⟨v1,v2⟩,v3,v4⟩:=HV.out k hlt;obtain⟨x,hx⟩: ∃x,x=rd l k:=⟨_,rfl⟩;obtain⟨y,hy⟩: ∃y,y=rd r k:=⟨_,rfl⟩;rw[<-hx] at c1 v1 v2;rw[<-hy] at c2 v3 v4;have t1:decide (m<max x y)=false:=decide_eq_false (by omega);have t2:decide (min x y< -m)=false:=decide_eq_false (by omega);clear hx hy v1 v2 v3 v4;go_wp2;go_quiet (fail);go_wp2;go_roundw
   case rel=>exact⟨k+1,by go_num,by omega,below_drewN' hb nq⟩
   case measure=>simp[intOf];omega
  ·obtain rfl:k=128:=by omega
   go_wp2;go_ret;exact⟨rfl,hb⟩
end St

namespace Sec
attribute [local go_sem] Qh Qi Qk Ql Qd Qe
open Q15
theorem grow_own (w W:World) (G:Nat) (cs:Array Value) (hs:cs.size=G) (hG:G<=maxLen) (hW:W=w.drew.alloc (.cells cs 3)):
  (Kd.int .i64).R 3 W w.heap.size (fun _=>True) (.slice (some ⟨w.heap.size,0,none⟩) 0 G) []:=by
 refine Kd.Js (enc:=Value.int .i64) (h1:=fun _=>rfl) ?_ (fun _ _=>trivial);refine⟨rfl,.inr ⟨w.heap.size,G,cs,rfl,Nat.le_refl _,?_,Nat.zero_le _,hG,by simpa using hs,rfl⟩⟩;rw[hW];exact heap_alloc_new _ _
theorem Mo (n:Nat) (w:World) (h1:1<=n) (h2:n<=1000000):
  Calls Tryz.prog 218 #[.slice none 0 0,.int .i64 n] w fun e w'=> ∃G,e= .returned (.slice (some ⟨w.heap.size,0,none⟩) 0 G)/\n<=G/\(Kd.int .i64).R 3 w' w.heap.size (fun _=>True) (.slice (some ⟨w.heap.size,0,none⟩) 0 G) []/\Below w.heap.size w w':=by
 obtain⟨i0,hi0,hz0⟩:=Option.map_eq_some_iff.1 Qw;simp only[Prod.mk.injEq] at hz0;obtain⟨hz1,hz2,hz3⟩:=hz0;have hold:(Builtin.firstCells i0.size 0 (.slice none 0 0)).run Tryz.prog w.drew= .ok ([]:List Value).toArray w.drew:=run_firstCells_none w.drew i0.size 0 0 0
 have hrz: ∀ty,(Builtin.append_ #[22,3] ty #[.slice none 0 0,.int .i64 (n:Int)]).run Tryz.prog w=_:=fun ty=>
  Lib.run_append_grow_zeros w 22 3 ty 3 i0 (.int .i64 0) .i64 .i64 Tryz.underlying22 Tryz.underlying3 hi0 hz1 none 0 0 [] hold n (by omega) (by omega) (by omega) (by omega) (by rw[hz3];omega)
   (by rw[Nat.zero_add,hz3];exact growslice_fits (by omega) (by omega))
 have hGn:=grownCap_ge w (0+n) 0 3;have hGm:=grownCap_le_maxLen w (0+n) 0 3 (by unfold maxLen;omega);rw[Nat.zero_add] at hrz hGn hGm;obtain⟨G,hG⟩: ∃G,G=grownCap w n 0 3:=⟨_,rfl⟩;rw[<-hG] at hrz hGn hGm;obtain⟨W,hW⟩: ∃W,W=w.drew.alloc (.cells (([]:List Value).toArray ++Builtin.zeroCells (Value.int .i64 0).cells n++Builtin.zeroCells (Value.int .i64 0).cells (G-n)) 3):=⟨_,rfl⟩
 have hR:=Qa.mk (grow_own w W G _ (by
  simp[Builtin.zeroCells,Value.cells]
  omega) hGm hW)
 have hB:Qa (Below w.heap.size w W):=⟨by rw[hW];exact(Below.refl _ _).drew.alloc (Nat.le_refl _) _⟩;rw[<-hW] at hrz;have hG9:(G:Int)<=9223372036854775807:=(by unfold maxLen at hGm;omega);have hnI:1<=(n:Int)/\(n:Int)<=1000000:=(by omega);have hGN:=Qa.mk hGn;clear hold hW hG hGn hGm h1 h2;go_enter Tryz.func218,Tryz.ntmps218;go_wp2_with (at_builtin;refine Lib.wpList_append_run _ rfl _ _ _ _ rfl _ _ rfl rfl _ _ (hrz _) ?_);go_ret;exact⟨G,rfl,hGN.out,hR.out,hB.out⟩
theorem Mk (g cg:Nat) (A B:Option Addr) (ca cb:Nat) (a b:List Int) (w:World) (h0:w.cell? ⟨g,0,none⟩=some (.slice A a.length ca)) (h1:w.cell? ⟨g,1,none⟩=some (.slice B b.length cb))
  (hr:(Kd.int .i64).C w A a.length a) (hr2:(Kd.int .i64).C w B b.length b) (h2:1<=a.length) (h3:a.length+b.length<=1000000):
  Calls Tryz.prog 189 #[.slice (some ⟨g,0,none⟩) 2 cg] w fun e w'=> ∃v,e= .returned v/\(Kd.int .i64).R 3 w' w.heap.size (fun _=>True) v (a++b)/\Below w.heap.size w w':=by
 have haI:(a.length:Int)<=1000000:=(by omega);have hbI:(b.length:Int)<=1000000:=(by omega);have hsI:1<=(a.length:Int)+(b.length:Int)/\(a.length:Int)+(b.length:Int)<=1000000:=(by omega);have HG:=Qa.mk (fun W=>Mo (a.length+b.length) W (by omega) h3);have HA:=Qa.mk hr;have HB:=Qa.mk hr2;have hlen:=Qa.mk h3;have H0:Qa (∀W:World,Below w.heap.size w W->W.cell? ⟨g,0,none⟩=some (.slice A a.length ca)/\W.cell? ⟨g,1,none⟩=some (.slice B b.length cb)):=⟨fun W hb=>⟨cnx h0 hb,cnx h1 hb⟩⟩;clear hr hr2 h2 h3 h0 h1;have hw:IntKind.i64.wrap ((a.length:Int)+(b.length:Int))=((a.length+b.length:Nat):Int):=(by rw[IntWalk.i64_in _ (by omega)];push_cast;rfl);go_enter Tryz.func189,Tryz.ntmps189;go_wp2;go_loopw [3,11] (fun s i wr=> ∃k:Nat,i= .int .i64 k/\k<=2/\s= .int .i64 (if k=0 then 0 else if k=1 then(a.length:Int) else((a.length+b.length:Nat):Int))/\Below w.heap.size w wr) (fun _ i _=>2-(intOf i).toNat)
 case atStart=>exact⟨0,rfl,by omega,rfl,Below.refl _ _⟩
 case round=>
  obtain⟨k,rfl,hk,rfl,hb⟩:=hrel;obtain⟨c0,c1⟩:=H0.out _ hb;rcases k with _|_|k
  ·clear c1
   go_wp2;go_roundw
   case rel=>exact⟨1,by go_num,by omega,by simp,hb⟩
   case measure=>simp[intOf]
  ·clear c0
   go_wp2;go_roundw
   case rel=>exact⟨2,by go_num,by omega,by simp,hb⟩
   case measure=>simp[intOf]
  ·obtain rfl:k=0:=by omega
   obtain⟨wo,rfl⟩: ∃wo:World,wo=wr:=⟨_,rfl⟩;clear c0 c1;go_wp2_with (first|(go_at_call 218;refine(HG.out _).mono ?_;rintro e w1 ⟨G,rfl,-,hR,hb1⟩;have HR:=Qa.mk hR;clear hR));go_loopw [6,27] (fun s i wr=> ∃k:Nat,i= .int .i64 k/\k<=2/\Qa ((Kd.int .i64).R 3 wr wo.heap.size (fun _=>True) s (if k=0 then[] else if k=1 then a else a++b))/\Qa (Below wo.heap.size wo wr)) (fun _ i _=>2-(intOf i).toNat)
   case atStart=>exact⟨0,rfl,by omega,HR,⟨hb1⟩⟩
   case round=>
    obtain⟨k,rfl,hk,hR',hb'⟩:=hrel;obtain⟨c0,c1⟩:=H0.out _ (bnx hb hb'.out);rcases k with _|_|k
    ·clear c1
     have hRk:Qa ((Kd.int .i64).R 3 wr wo.heap.size (fun _=>True) u6 []):=⟨by simpa using hR'.out⟩;have hC:=Qa.mk (Kd.Qf HA.out (bnx hb hb'.out));go_wp2_with (at_builtin;refine Kd.X8 (Kd.int .i64) (Rr:=(Kd.int .i64).K wr) (w0:=wo) wo.heap.size rfl (.tmp 31) (.tmp 32) 22 3 (.int .i64 0) 8 rfl Tryz.underlying22 Qw rfl (by decide) (by decide) u6 [] a A a.length ca (fun _=>True) (fun _=>False) rfl rfl hRk.out hC.out (fun _ _ h=>h) (fun _ h=>h.elim) (fun _ _=>trivial) hb'.out hb'.out.size (by have:=hlen.out;simp only[List.length_nil];omega) ?_;intro v1 wA hoA hbA hgA hatA;have HOA:=Qa.mk hoA;have HBA:=Qa.mk hbA;clear hoA hgA hatA hbA);go_roundw
     case rel=>exact⟨1,by go_num,by omega,HOA,HBA⟩
     case measure=>simp[intOf]
    ·clear c0
     have hRk:Qa ((Kd.int .i64).R 3 wr wo.heap.size (fun _=>True) u6 a):=⟨by simpa using hR'.out⟩;have hC:=Qa.mk (Kd.Qf HB.out (bnx hb hb'.out));go_wp2_with (at_builtin;refine Kd.X8 (Kd.int .i64) (Rr:=(Kd.int .i64).K wr) (w0:=wo) wo.heap.size rfl (.tmp 31) (.tmp 32) 22 3 (.int .i64 0) 8 rfl Tryz.underlying22 Qw rfl (by decide) (by decide) u6 a b B b.length cb (fun _=>True) (fun _=>False) rfl rfl hRk.out hC.out (fun _ _ h=>h) (fun _ h=>h.elim) (fun _ _=>trivial) hb'.out hb'.out.size (by have:=hlen.out;omega) ?_;intro v1 wA hoA hbA hgA hatA;have HOA:=Qa.mk hoA;have HBA:=Qa.mk hbA;clear hoA hgA hatA hbA);go_roundw
     case rel=>exact⟨2,by go_num,by omega,HOA,HBA⟩
     case measure=>simp[intOf]
    ·obtain rfl:k=0:=by omega
     clear c0 c1;go_wp2;go_ret;exact⟨_,rfl,Kd.Zz (by simpa using hR'.out) hb.size,bnx hb hb'.out⟩
end Sec

end Go.Proofs.YtnflnicdjioflaaGreatDoor
