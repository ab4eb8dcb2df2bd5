/- A part of the proof. -/
import Derived.Test.YtnflnicdjioflaaGreatDoorMdao
set_option linter.unusedVariables false
set_option linter.unusedSimpArgs false
set_option maxRecDepth 100000
set_option maxHeartbeats 8000000
namespace Go.Proofs.YtnflnicdjioflaaGreatDoor
open Go.RowKit Go.Proofs.YtnflnicdjioflaaGreatDoorW.PrintWords Go.Proofs.YtnflnicdjioflaaGreatDoorW.PrintLast Go.Proofs.YtnflnicdjioflaaGreatDoorW.PrintMore
namespace Bk
attribute [local go_sem] Yu Yv Qk Ql Qg Qh
open Q15
theorem Gz (d:Nat) (m:Int) (e:Bool) (v:Int) (w:World) (hm:0<=m/\m<=31) (h0: -1023<=v) (h1:v<=1023):
  Calls Tryz.prog 231 #[frm d m e,.int .i64 v] w fun en w'=>en= .returned (.int .i64 (J4 m e v))/\Below w.heap.size w w':=by
 have hu:=Tryz.underlying194;have HS:=Qa.mk (fun W=>Gm v W (by omega) (by omega));have hs9:=Ws (v:=v) (m:=1023) (by omega);obtain⟨W0,hW0⟩: ∃W0,W0=w.alloc (.cells #[.int .i64 d,.int .i64 m,.bool e] 194):=⟨_,rfl⟩;have hb0:Below w.heap.size w W0:=(by rw[hW0];exact(Below.refl _ _).alloc (Nat.le_refl _) _);have c1:W0.cell? ⟨w.heap.size,1,none⟩=some (.int .i64 m):=(by rw[hW0];simp[go_sem]);have c2:W0.cell? ⟨w.heap.size,2,none⟩=some (.bool e):=(by rw[hW0];simp[go_sem]);replace hW0:=Qa.mk hW0;have HB:Qa (J4 m e v=if v=0 then 0 else if e=true/\m<=szI v then 1+Z7 (szI v-m+1) else 1):=⟨rfl⟩;obtain⟨s,hs⟩: ∃s,s=szI v:=⟨_,rfl⟩;rw[<-hs] at HS HB hs9;have HG:=Qa.mk (fun W=>Io (s-m+1) W (by omega) (by omega))
 have hg9:1<=Z7 (s-m+1)/\Z7 (s-m+1)<=100:=by
  have h:(s-m+1).toNat.log2 <=10:=by
   by_cases hz:(s-m+1).toNat =0
   ·rw[hz];decide
   ·have:=(Nat.log2_lt hz).2 (show(s-m+1).toNat <2^11 by omega)
    omega
  unfold Z7;omega
 obtain⟨g,hg⟩: ∃g,g=Z7 (s-m+1):=⟨_,rfl⟩;rw[<-hg] at HG HB hg9;clear hg hs;unfold frm;by_cases hz:v=0
 ·subst hz
  have hr:Qa (J4 m e 0=0):=⟨by rw[HB.out];rfl⟩;go_enter Tryz.func231,Tryz.ntmps231;go_wp2;go_ret;rw[<-hW0.out];exact⟨by rw[hr.out];rfl,hb0⟩
 ·have hz':(v==0)=false:=by simpa using hz
  rcases e with _|_
  ·have hr:Qa (J4 m false v=1):=⟨by rw[HB.out,if_neg hz];simp⟩
   clear hz;go_enter Tryz.func231,Tryz.ntmps231;go_wp2_with fail;rw[<-hW0.out];refine Z6 (fun w'=>w'.cell? ⟨w.heap.size,1,none⟩=some (.int .i64 m)/\w'.cell? ⟨w.heap.size,2,none⟩=some (.bool false)/\Below W0.heap.size W0 w') (by kernel_rfl) ⟨c1,c2,(Below.refl _ _).drew⟩ (fun hHeld=> ?_)
   (refine Tk.tk 0 (.pointer (some ⟨w.heap.size,2,none⟩)) hHeld ?_)
   (refine Tk.tk 1 (.bool false) hHeld ?_)
   (refine Tk.tk 2 (.bool false) hHeld ?_)
   (refine Tk.tz 3 hHeld ?_)
   (refine Tk.tz 4 hHeld ?_)
   (refine Tk.tz 5 hHeld ?_)
   (refine Tk.tz 6 hHeld ?_)
   (refine Tk.tz 7 hHeld ?_)
   (refine Tk.tk 8 (.bool false) hHeld ?_)
   (refine Tk.tk 9 (.bool false) hHeld ?_)
   refine wpAnyH_done (by kernel_rfl) ?_ _;obtain⟨c1,c2,hh⟩:=hHeld;go_wp2;go_ret;exact⟨by rw[hr.out];rfl,bnx hb0 hh⟩
  ·by_cases hm1:m<=s
   ·have hr:Qa (J4 m true v=1+g):=⟨by rw[HB.out,if_neg hz,if_pos ⟨rfl,hm1⟩]⟩
    have hm2:Qa (decide (m<=s)=true):=⟨decide_eq_true hm1⟩;clear hz;go_enter Tryz.func231,Tryz.ntmps231;go_wp2_with fail;rw[<-hW0.out];refine Z6 (fun w'=>w'.cell? ⟨w.heap.size,1,none⟩=some (.int .i64 m)/\w'.cell? ⟨w.heap.size,2,none⟩=some (.bool true)/\Below W0.heap.size W0 w') (by kernel_rfl) ⟨c1,c2,(Below.refl _ _).drew⟩ (fun hHeld=> ?_)
    (refine Tk.tk 0 (.pointer (some ⟨w.heap.size,2,none⟩)) hHeld ?_)
    (refine Tk.tk 1 (.bool true) hHeld ?_)
    (refine Tk.tk 2 (.bool true) hHeld ?_)
    (refine Tk.tk 3 (.int .i64 v) hHeld ?_)
    (refine Tk.tk 5 (.pointer (some ⟨w.heap.size,1,none⟩)) hHeld ?_)
    (refine Tk.tk 6 (.int .i64 m) hHeld ?_)
    (refine wpAnyH_ready (rs:=[4]) (by kernel_rfl) (by simp) ?_;refine AllReadyH.cons rfl (fun K hK=> ?_) AllReadyH.nil;go_simp)
    refine(HS.out _).mono ?_;rintro e w1 ⟨rfl,hb1⟩
    (go_wp2_with fail;refine hK.out _ _ (⟨cnx hHeld.1 hb1,cnx hHeld.2.1 hb1,bnx hHeld.2.2 hb1⟩) (fun hHeld=> ?_);clear hK K;try simp only[Act.put,Tk.z1,Tk.z2,Tk.z3,Tk.z4,Tk.z5,Tk.z6])
    (refine Tk.tk 7 (.bool true) hHeld ?_)
    (refine Tk.tk 8 (.bool true) hHeld ?_)
    (refine Tk.tk 9 (.bool true) hHeld ?_)
    refine wpAnyH_done (by kernel_rfl) ?_ _;obtain⟨c1,c2,hh⟩:=hHeld;have g1:IntKind.i64.wrap (s-m)=s-m:=IntWalk.i64_in _ (by omega);have g2:IntKind.i64.wrap (s-m+1)=s-m+1:=IntWalk.i64_in _ (by omega);have g3:IntKind.i64.wrap (1+g)=1+g:=IntWalk.i64_in _ (by omega);go_wp2_with fail;refine Z6 (fun w'=>w'.cell? ⟨w.heap.size,1,none⟩=some (.int .i64 m)/\Below W0.heap.size W0 w') (by kernel_rfl) ⟨c1,hh.drew⟩ (fun hHeld=> ?_)
    (refine Tk.tk 0 (.int .i64 v) hHeld ?_)
    (refine Tk.tk 2 (.pointer (some ⟨w.heap.size,1,none⟩)) hHeld ?_)
    (refine Tk.tk 3 (.int .i64 m) hHeld ?_)
    (refine wpAnyH_ready (rs:=[1]) (by kernel_rfl) (by simp) ?_;refine AllReadyH.cons rfl (fun K hK=> ?_) AllReadyH.nil;go_simp)
    refine(HS.out _).mono ?_;rintro e w1 ⟨rfl,hb1⟩
    (go_wp2_with fail;refine hK.out _ _ (⟨cnx hHeld.1 hb1,bnx hHeld.2 hb1⟩) (fun hHeld=> ?_);clear hK K;try simp only[Act.put,Tk.z1,Tk.z2,Tk.z3,Tk.z4,Tk.z5,Tk.z6])
    (refine Tk.tk 4 (.int .i64 (s-m)) hHeld ?_)
    (refine Tk.tk 5 (.int .i64 (s-m+1)) hHeld ?_)
    (refine wpAnyH_ready (rs:=[6]) (by kernel_rfl) (by simp) ?_;refine AllReadyH.cons rfl (fun K hK=> ?_) AllReadyH.nil;go_simp)
    refine(HG.out _).mono ?_;rintro e w1 ⟨rfl,hb1⟩
    (go_wp2_with fail;refine hK.out _ _ (⟨cnx hHeld.1 hb1,bnx hHeld.2 hb1⟩) (fun hHeld=> ?_);clear hK K;try simp only[Act.put,Tk.z1,Tk.z2,Tk.z3,Tk.z4,Tk.z5,Tk.z6])
    (refine Tk.tk 7 (.int .i64 (1+g)) hHeld ?_)
    (refine Tk.tk 8 (.int .i64 (1+g)) hHeld ?_)
    refine wpAnyH_done (by kernel_rfl) ?_ _;obtain⟨c1,hh⟩:=hHeld;go_wp2;go_ret;exact⟨by rw[hr.out];rfl,bnx hb0 hh⟩
   ·have hr:Qa (J4 m true v=1):=⟨by rw[HB.out,if_neg hz,if_neg (fun h=>hm1 h.2)]⟩
    have hm2:Qa (decide (m<=s)=false):=⟨decide_eq_false hm1⟩;clear hz hm1;go_enter Tryz.func231,Tryz.ntmps231;go_wp2_with fail;rw[<-hW0.out];replace hm2:=hm2.out;refine Z6 (fun w'=>w'.cell? ⟨w.heap.size,1,none⟩=some (.int .i64 m)/\w'.cell? ⟨w.heap.size,2,none⟩=some (.bool true)/\Below W0.heap.size W0 w') (by kernel_rfl) ⟨c1,c2,(Below.refl _ _).drew⟩ (fun hHeld=> ?_)
    (refine Tk.tk 0 (.pointer (some ⟨w.heap.size,2,none⟩)) hHeld ?_)
    (refine Tk.tk 1 (.bool true) hHeld ?_)
    (refine Tk.tk 2 (.bool true) hHeld ?_)
    (refine Tk.tk 3 (.int .i64 v) hHeld ?_)
    (refine Tk.tk 5 (.pointer (some ⟨w.heap.size,1,none⟩)) hHeld ?_)
    (refine Tk.tk 6 (.int .i64 m) hHeld ?_)
    (refine wpAnyH_ready (rs:=[4]) (by kernel_rfl) (by simp) ?_;refine AllReadyH.cons rfl (fun K hK=> ?_) AllReadyH.nil;go_simp)
    refine(HS.out _).mono ?_;rintro e w1 ⟨rfl,hb1⟩
    (go_wp2_with fail;refine hK.out _ _ (⟨cnx hHeld.1 hb1,cnx hHeld.2.1 hb1,bnx hHeld.2.2 hb1⟩) (fun hHeld=> ?_);clear hK K;try simp only[Act.put,Tk.z1,Tk.z2,Tk.z3,Tk.z4,Tk.z5,Tk.z6])
    (refine Tk.tk 7 (.bool false) hHeld ?_)
    (refine Tk.tk 8 (.bool false) hHeld ?_)
    (refine Tk.tk 9 (.bool false) hHeld ?_)
    refine wpAnyH_done (by kernel_rfl) ?_ _;obtain⟨c1,c2,hh⟩:=hHeld;go_wp2;go_ret;exact⟨by rw[hr.out];rfl,bnx hb0 hh⟩
theorem Qbo (d:Nat) (m:Int) (e:Bool) (w:World):
  Calls Tryz.prog 222 #[frm d m e] w fun en w'=>en= .returned (.func (.func 233) #[] #[.pointer (some ⟨w.heap.size,0,none⟩)])/\w'=w.alloc (.cells #[.int .i64 d,.int .i64 m,.bool e] 194):=by
 have hu:=Tryz.underlying194;unfold frm;go_enter Tryz.func222,Tryz.ntmps222;go_wp2;go_ret;exact⟨rfl,rfl⟩
theorem Wp (m:Int) (hm:0<=m): ∀l:List Int,(∀x∈l,0<=x/\x<=m)-> ∀s:Int,0<=s->0<=l.foldl (fun s d=>s*(m+1)+d) s/\l.foldl (fun s d=>s*(m+1)+d) s+1<=(s+1)*(m+1)^l.length
 |[],_,s,hs=>by simp;omega
 |x::l,h,s,hs=>by
  have hx:=h x (by simp);have hs2:0<=s*(m+1):=Int.mul_nonneg hs (by omega);obtain⟨h1,h2⟩:=Wp m hm l (fun y hy=>h y (by simp[hy])) (s*(m+1)+x) (by omega);refine⟨h1,Int.le_trans h2 ?_⟩;have hp:(0:Int)<=(m+1)^l.length:=Int.pow_nonneg (by omega);have h3:s*(m+1)+x+1<=(s+1)*(m+1):=(by rw[Int.add_mul];omega);have h4:=Int.mul_le_mul_of_nonneg_right h3 hp;rw[List.length_cons,Int.pow_succ,Int.mul_comm ((m+1)^l.length),<-Int.mul_assoc];exact h4
theorem symD_le (m:Int) (hm:0<=m/\m<=31) (l:List Int) (hl:l.length<=4) (h: ∀x∈l,0<=x/\x<=m):0<=Fw m l/\Fw m l<=1048576:=by
 obtain⟨h1,h2⟩:=Wp m hm.1 l h 0 (by omega);refine⟨h1,?_⟩
 have h3:(m+1)^l.length<=(32:Int)^4:=by
  obtain⟨q,hq⟩:=Int.eq_ofNat_of_zero_le (show 0<=m+1 by omega);rw[hq];have h5:q^l.length<=32^4:=Nat.le_trans (Nat.pow_le_pow_left (show q<=32 by omega) _) (Nat.pow_le_pow_right (by omega) hl);have h6:((q^l.length:Nat):Int)<=((32^4:Nat):Int):=Int.ofNat_le.2 h5;simpa using h6
 have h4:(32:Int)^4=1048576:=(by decide);have h7:Fw m l=l.foldl (fun s d=>s*(m+1)+d) 0:=rfl;omega
theorem Wq (d:Nat) (m:Int) (e:Bool) (A:Option Addr) (cap:Nat) (l:List Int) (w:World) (hm:0<=m/\m<=31) (hr:(Kd.int .i64).C w A l.length l) (hl:l.length<=4) (hx: ∀x∈l,0<=x/\x<=m):
  Calls Tryz.prog 223 #[frm d m e,.slice A l.length cap] w fun en w'=>en= .returned (.int .i64 (Fw m l))/\Below w.heap.size w w':=by
 have hu:=Tryz.underlying194;have HR:=Qa.mk hr;have hlI:(l.length:Int)<=4:=(by omega);have HX:Qa (∀k,k<l.length->0<=rd l k/\rd l k<=m):=⟨fun k hk=>hx _ (Qt l k hk)⟩;have HB:Qa (∀k,0<=Fw m (l.take k)/\Fw m (l.take k)<=1048576):=⟨fun k=>symD_le m hm _ (by rw[List.length_take];omega) (fun x h=>hx x (List.mem_of_mem_take h))⟩;have HS:Qa (∀k,k<l.length->Fw m (l.take (k+1))=Fw m (l.take k)*(m+1)+rd l k):=⟨fun k hk=>by rw[Qx l k hk];unfold Fw;rw[List.foldl_append];rfl⟩;obtain⟨W0,hW0⟩: ∃W0,W0=w.alloc (.cells #[.int .i64 d,.int .i64 m,.bool e] 194):=⟨_,rfl⟩;have hb0:Below w.heap.size w W0:=(by rw[hW0];exact(Below.refl _ _).alloc (Nat.le_refl _) _);have c1:W0.cell? ⟨w.heap.size,1,none⟩=some (.int .i64 m):=(by rw[hW0];simp[go_sem]);replace hW0:=Qa.mk hW0;clear hr hl hx;unfold frm;go_enter Tryz.func223,Tryz.ntmps223;go_wp2;rw[<-hW0.out];go_loopw [5,10] (fun s i wr=> ∃(k:Nat) (z:Int),s= .int .i64 z/\i= .int .i64 k/\k<=l.length/\Qa (z=Fw m (l.take k))/\Below W0.heap.size W0 wr) (fun _ i _=>l.length-(intOf i).toNat)
 case atStart=>exact⟨0,0,rfl,rfl,by omega,⟨rfl⟩,Below.refl _ _⟩
 case round=>
  obtain⟨k,z,rfl,rfl,hk,hz,hb⟩:=hrel;have c1:=cnx c1 hb;by_cases hlt:k<l.length
  ·obtain⟨ad,rfl,hcell⟩:=Qq HR.out (bnx hb0 hb) hlt
   have hkI:(k:Int)<(l.length:Int):=(by omega);have hbd:=HX.out k hlt;have h1:=HB.out k;have h2:=HB.out (k+1);have h3:=HS.out k hlt;rw[<-hz.out] at h1 h3;obtain⟨x,hxe⟩: ∃x,x=rd l k:=⟨_,rfl⟩;rw[<-hxe] at hcell hbd h3;obtain⟨q,hq⟩: ∃q,z*(m+1)=q:=⟨_,rfl⟩;rw[hq] at h3;rw[h3] at h2;have hq9:0<=q/\q<=1048576:=⟨by rw[<-hq];exact Int.mul_nonneg h1.1 (by omega),by omega⟩;replace h3:=Qa.mk h3;clear hxe;go_wp2;go_roundw
   case rel=>exact⟨k+1,q+x,by go_num,by go_num,by omega,⟨by rw[h3.out]⟩,hb⟩
   case measure=>simp[intOf];omega
  ·obtain rfl:k=l.length:=by omega
   have hz2:=hz.out;rw[List.take_length] at hz2;have hr:=Qa.mk hz2;clear hz hz2;go_wp2;go_ret;exact⟨by rw[<-hr.out];rfl,bnx hb0 hb⟩
end Bk

namespace Bk
attribute [local go_sem] Yu Yv Qk Ql Qg Qh
open Q15
theorem Qcs {m v:Int} (hm:0<=m/\m<=31) (h: -1023<=v/\v<=1023):0<=Ri m v/\Ri m v<=m:=by
 have:=Ws (v:=v) (m:=1023) h;unfold Ri;omega
theorem Ma (d:Nat) (m:Int) (e:Bool) (A:Option Addr) (cap:Nat) (l:List Int) (w:World) (hm:0<=m/\m<=31) (hr:(Kd.int .i64).C w A l.length l) (hl:l.length<=4) (hx:Yo l=true):
  Calls Tryz.prog 195 #[frm d m e,.slice A l.length cap] w fun en w'=>en= .returned (.int .i64 (S9 m l))/\Below w.heap.size w w':=by
 have hu:=Tryz.underlying194;have HR:=Qa.mk hr;have hlI:(l.length:Int)<=4:=(by omega);have hxk:=fun k (hk:k<l.length)=>Jd hx (Qt l k hk)
 obtain⟨W0,hW0⟩: ∃W0,W0=w.alloc (.cells #[.int .i64 d,.int .i64 m,.bool e] 194):=⟨_,rfl⟩;have hb0:Below w.heap.size w W0:=(by rw[hW0];exact(Below.refl _ _).alloc (Nat.le_refl _) _);have c0:W0.cell? ⟨w.heap.size,0,none⟩=some (.int .i64 d):=(by rw[hW0];simp[go_sem]);have c1:W0.cell? ⟨w.heap.size,1,none⟩=some (.int .i64 m):=(by rw[hW0];simp[go_sem]);have c2:W0.cell? ⟨w.heap.size,2,none⟩=some (.bool e):=(by rw[hW0];simp[go_sem]);have hs0:W0.heap.size=w.heap.size+1:=(by rw[hW0];simp);replace hW0:=Qa.mk hW0;have HD:=Qa.mk (Qbo d m e W0);have HG:=Qa.mk (fun k (hk:k<l.length) (B:Nat) (W:World) (hc:W.cell? ⟨B,1,none⟩=some (.int .i64 m))=>M0 m (rd l k) B W hc (by have:=hxk k hk;omega) (by have:=hxk k hk;omega) hm);obtain⟨y,hy⟩: ∃y,y=l.map (Ri m):=⟨_,rfl⟩;have hyl:y.length=l.length:=by rw[hy];simp
 have HS:=Qa.mk (fun(W:World) (A':Option Addr) (c':Nat) (h:(Kd.int .i64).C W A' y.length y)=>Wq d m e A' c' y W hm h (by omega) (fun x hx2=>by
  rw[hy] at hx2;obtain⟨z,hz,rfl⟩:=List.mem_map.1 hx2
  exact Qcs hm (Jd hx hz)))
 have hF:Qa (S9 m l=Fw m y):=⟨by rw[hy];rfl⟩;rw[hF.out];obtain⟨E,hE⟩: ∃E,E=Fw m y:=⟨_,rfl⟩;rw[<-hE] at HS ⊢
 have HT:Qa (∀k,k<l.length->y.take (k+1)=y.take k++[Ri m (rd l k)]):=⟨fun k hk=>by
  rw[Qx y k (by omega),hy];unfold rd
  simp[List.getD_eq_getElem?_getD,hk]⟩
 have hyl':=Qa.mk hyl;clear hr hl hx hxk hy hE hF hyl;unfold frm at*;go_enter Tryz.func195,Tryz.ntmps195;go_wp2_with (first|(go_at_call 222;rw[<-hW0.out];refine HD.out.mono ?_;rintro e1 w1 ⟨rfl,hw1'⟩;have hw1:=Qa.mk hw1';clear hw1'));have hb1:Below W0.heap.size W0 w1:=(by rw[hw1.out];exact(Below.refl _ _).alloc (Nat.le_refl _) _);have q1:w1.cell? ⟨W0.heap.size,1,none⟩=some (.int .i64 m):=(by rw[hw1.out];simp[go_sem]);clear hw1;have HC:=Qa.mk (fun W (hb:Below w1.heap.size w1 W) k (hk:k<l.length)=>HG.out k hk W0.heap.size W (cnx q1 hb));clear q1;rw[hs0] at HC;go_loopw [6,13] (fun o i wr=> ∃k:Nat,i= .int .i64 k/\k<=l.length/\Qa ((Kd.int .i64).R 3 wr w1.heap.size (fun _=>True) o (y.take k))/\Below w1.heap.size w1 wr) (fun _ i _=>l.length-(intOf i).toNat)
 case atStart=>exact⟨0,rfl,by omega,⟨Kd.Xd _ _ _ _ _⟩,Below.refl _ _⟩
 case round=>
  obtain⟨k,rfl,hk,ho,hbL⟩:=hrel;by_cases hlt:k<l.length
  ·obtain⟨ad,rfl,hcell⟩:=Qq HR.out (bnx hb0 (bnx hb1 hbL)) hlt
   have hkI:(k:Int)<(l.length:Int):=(by omega);have hT:=Qa.mk (HT.out k hlt);have HC1:=Qa.mk (HC.out wr hbL k hlt);obtain⟨z,hz⟩: ∃z,z=Ri m (rd l k):=⟨_,rfl⟩;rw[<-hz] at hT HC1;obtain⟨x,hxe⟩: ∃x,x=rd l k:=⟨_,rfl⟩;rw[<-hxe] at hcell HC1;obtain⟨Y,hY⟩: ∃Y,Y=y.take k:=⟨_,rfl⟩;have hYl:Y.length<=4:=(by rw[hY,List.length_take];have:=hyl'.out;omega);rw[<-hY] at ho hT;clear hz hxe hY;go_wp2_with (first|(go_at_call 233;refine HC1.out.mono ?_;rintro e2 w2 ⟨rfl,hb2⟩;have HO1:=Qa.mk (Kd.Qw ho.out hb2);have HB1:=Qa.mk (bnx hbL hb2);clear hb2)|(at_builtin;refine Kd.Zb (Kd.int .i64) (w0:=w1) w1.heap.size rfl (.tmp 17) (.tmp 21) 22 3 (.int .i64 0) 8 rfl Tryz.underlying22 Zg rfl (by decide) (by omega) u6 Y (z) [.int .i64 (z)] (fun _=>True) (fun _=>False) rfl rfl rfl (fun _ hk=>hk.elim) (fun _ _=>trivial) HO1.out HB1.out HB1.out.size (by omega) ?_;intro v1 wA hoA hbA hgA hatA;have HOA:=Qa.mk hoA;have HBA:=Qa.mk hbA;clear hoA hbA hgA hatA));go_roundw
   case rel=>exact⟨k+1,by go_num,by omega,⟨by rw[hT.out];exact HOA.out⟩,HBA.out⟩
   case measure=>simp[intOf];omega
  ·obtain rfl:k=l.length:=by omega
   have hR:=ho.out;rw[List.take_of_length_le (by rw[hyl'.out];omega)] at hR;obtain⟨A',p,rfl,_,hC⟩:=Kd.Qu hR;have HS1:=Qa.mk (HS.out wr A' p hC);have d0:=cnx c0 (bnx hb1 hbL);have d1:=cnx c1 (bnx hb1 hbL);have d2:=cnx c2 (bnx hb1 hbL);clear c0 c1 c2 ho hR hC;have hbz:=bnx hb0 (bnx hb1 hbL);go_wp2_with (first|(go_at_call 223;refine HS1.out.mono ?_;rintro e2 w2 ⟨rfl,hb2⟩;replace hbz:=bnx hbz hb2;clear hb2));go_ret;exact⟨rfl,hbz⟩
end Bk

namespace Bk
attribute [local go_sem] Qi Qj Qk Ql Qg Qh
open Q15
open Runs Go.Shelf
open Q16 (Q6 Zc Yf)
attribute [local go_sem] Oper.semAt_some
def Xj (S B1 B2:Nat) (A B:World):Prop:=Below S A B/\B.heap[B1]? =A.heap[B1]? /\B.heap[B2]? =A.heap[B2]?
theorem Xj.trans {S B1 B2:Nat} {A B C:World} (h:Xj S B1 B2 A B) (k:Xj S B1 B2 B C):Xj S B1 B2 A C:=⟨h.1.trans k.1,k.2.1.trans h.2.1,k.2.2.trans h.2.2⟩
theorem Xj.putObj {S B1 B2 N:Nat} (h0:S<=N) (h1:B1<N) (h2:B2<N) (W:World) (l:Nat) (o o':Obj) (hl:N<=l) (ho:W.heap[l]? =some o) (hc:o.isCells=false) (hw:o.isWalk=false):Xj S B1 B2 W (W.putObj l o'):=
 ⟨(Below.refl S W).grown (grownBy_putObj' W l o') (by have:=(Array.getElem?_eq_some_iff.1 ho).1;omega) (fun k e=>by cases e;omega),World.putObj_heap_other (by omega),World.putObj_heap_other (by omega)⟩
def gSl:Option Addr->Nat->Nat->Value
 |some a,o,d=> .slice (some (a.add o)) d d
 |none,_,d=> .slice none d d
theorem Ew (F:Fence) (n:Nat) (hF:F.fn 221) (hro:F.round=none) (hn:1<=n) (B1 B2:Nat) (A:Option Addr) (cap len d:Nat) (hd:1<=d/\d<=4) (hl:len<=1000000) (hcap:len<=cap) (hA:0<len-> ∃ad,A=some ad) (wS w:World) (hS:Below wS.heap.size wS w)
  (c1:w.cell? ⟨B1,0,none⟩=some (.int .i64 d)) (c2:w.cell? ⟨B2,0,none⟩=some (.slice A len cap)):
  Yg F n Tryz.prog 221 #[.pointer (some ⟨B1,0,none⟩),.pointer (some ⟨B2,0,none⟩)] (fun k=> #[gSl A (k*d) d]) (Xj wS.heap.size B1 B2) (len/d) w:=fun L J W hW hY h0 hJd=>by
 clear hJd;have d1:=cnx c1 hW;have d2:=cnx c2 hW;have hS':=bnx hS hW;have HY:=Qa.mk hY;have HA:=Qa.mk hA;have hlI:(len:Int)<=1000000:=(by omega);have hcI:(len:Int)<=(cap:Int):=(by omega);have hdI:1<=(d:Int)/\(d:Int)<=4:=by omega
 have hDV:Qa (∀k p:Nat,p=k*d->(p+d<=len->k<len/d)/\(p<=len-> ¬p+d<=len->k=len/d)):=⟨fun k p hp=>by
  subst hp;refine⟨fun h=> ?_,fun h1 h2=> ?_⟩
  ·have:k+1<=len/d:=(Nat.le_div_iff_mul_le (by omega)).2 (by rw[Nat.add_mul];omega)
   omega
  ·refine Nat.le_antisymm ((Nat.le_div_iff_mul_le (by omega)).2 h1) ?_
   have h3:len/d<k+1:=(Nat.div_lt_iff_lt_mul (by omega)).2 (by rw[Nat.add_mul];omega)
   omega⟩
 clear hY c1 c2 hl hA;refine callsIn_of_wp Tryz.func221 rfl hF ?_ hro;simp only[Tryz.ntmps221,List.size_toArray,List.length_cons,List.length_nil,Nat.reduceAdd,Nat.reduceSub,Array.replicate_succ,Array.replicate_zero,List.push_toArray,List.append_toArray,List.nil_append,List.cons_append];gi_wp2;gi_loopw [4] (fun i wr=> ∃k p:Nat,i= .int .i64 p/\p<=len/\Qa (p=k*d)/\wr.cell? ⟨B1,0,none⟩=some (.int .i64 d)/\wr.cell? ⟨B2,0,none⟩=some (.slice A len cap)/\Qa (Below wS.heap.size wS wr)/\Qa (J k wr)) (fun i _=>len-(intOf i).toNat)
 case atStart=>exact⟨0,0,rfl,by omega,⟨by omega⟩,d1,d2,⟨hS'⟩,⟨h0⟩⟩
 case round=>
  obtain⟨k,p,rfl,hp,hpk,e1,e2,hb,hJ⟩:=hrel;clear d1 d2 hS';have hpI:(p:Int)<=1000000:=(by omega);by_cases hlt:p+d<=len
  ·have hltI:(p:Int)+(d:Int)<=(len:Int):=by omega
   obtain⟨ad,rfl⟩:=HA.out (by omega);obtain⟨fn,tmps,assign,body,hy,hR⟩:=HY.out k wr ((hDV.out k p hpk.out).1 hlt) hJ.out;rw[<-hpk.out] at hy;have hT:=Qa.mk hlt;have hR2:=Qa.mk hR;simp only[gSl] at hy;clear hR hlt hp;gi_wp2;refine hR2.out.mono ?_;rintro e W3 ⟨rfl,hJ3,hk3⟩;have b1:=(Q6 hk3.2.1).trans e1;have b2:=(Q6 hk3.2.2).trans e2;have hb3:=Qa.mk (hb.out.trans hk3.1);replace hJ3:=Qa.mk hJ3;have hq9:Qa (p+d=(k+1)*d):=⟨by rw[hpk.out,Nat.add_mul];omega⟩;clear hR2 e1 e2 hk3 hy;gi_wp2;go_roundw
   case rel=>exact⟨k+1,p+d,by go_num,hT.out,hq9,b1,b2,hb3,hJ3⟩
   case measure=>have:=hT.out;simp[intOf];omega
  ·have hnl: ¬(p:Int)+(d:Int)<=(len:Int):=by omega
   have hK:=Qa.mk ((hDV.out k p hpk.out).2 hp hlt);clear hlt;gi_wp2;go_end0;refine⟨⟨_,rfl⟩,?_⟩;rw[<-hK.out];exact hJ.out
theorem Bh (d:Nat) (m:Int) (e:Bool) (A:Option Addr) (n c:Nat) (w:World):
  Calls Tryz.prog 194 #[frm d m e,.slice A n c] w fun en w'=>en= .returned (.func (.func 221) #[] #[.pointer (some ⟨w.heap.size,0,none⟩),.pointer (some ⟨w.heap.size+1,0,none⟩)])/\w'=(w.alloc (.cells #[.int .i64 d,.int .i64 m,.bool e] 194)).alloc (.cells #[.slice A n c] 22):=by
 have hu:=Tryz.underlying194;unfold frm;go_enter Tryz.func194,Tryz.ntmps194;go_wp2;go_ret;exact⟨rfl,rfl⟩
end Bk

namespace Bk
attribute [local go_sem] Qi Qj Qk Ql Qg Qh
open Q15
theorem _root_.Go.Proofs.YtnflnicdjioflaaGreatDoor.Bts.Rws.intoG {wr w:World} {L:List Bts.Row} {G1 G2:List Bts.Blk} {b:Bts.Blk} (h:Bts.Rws wr w L (G1++G2++[b])):Bts.Rws wr w L (G1++b::G2):=
 Bts.Rws.perm h (List.Perm.refl _) (by rw[List.append_assoc];exact List.Perm.append_left G1 (List.perm_append_singleton b G2))
def tabT:List (List Nat):=[
 [],
 [2,3,3,5,3,5,5,7,3,5,5,6,5,6,6,7],
 [3,4,5,4,5,7,5,7,8,4,5,7,5,7,8,7,8,9,5,7,8,7,8,9,8,9,10,4,5,6,5,6,8,6,8,9,5,6,8,6,8,9,8,9,10,6,8,9,8,9,10,9,10,12,5,6,8,6,8,9,8,9,10,6,8,9,8,9,10,9,10,11,8,9,10,9,10,11,10,11,12],
 [2,3,4,5,6,3,4,5,6,6,4,5,6,6,7,5,6,6,7,9,5,6,7,8,9],
 [3,4,4,5,5,6,7,7,4,4,5,5,6,7,7,8,4,5,5,6,7,7,8,8,5,5,6,7,7,8,8,9,5,6,7,7,8,8,9,10,6,7,7,8,8,9,10,10,7,7,8,8,9,10,10,11,7,8,8,9,9,10,10,11],
 [5,5,5,6,6,6,6,7,7,7,8,8,8,5,5,6,6,6,6,7,7,7,8,8,8,9,5,6,6,6,6,7,7,7,8,8,8,9,9,6,6,6,6,7,7,7,8,8,8,9,9,9,6,6,6,7,7,7,8,8,8,9,9,9,9,6,6,7,7,7,8,8,8,9,9,9,9,10,6,7,7,7,8,8,8,9,9,9,9,10,10,7,7,7,8,8,8,9,9,9,9,10,10,10,7,7,8,8,8,9,9,9,9,10,10,10,11,7,8,8,8,8,9,9,9,10,10,10,11,11,8,8,8,8,9,9,9,10,10,10,11,11,11,8,8,8,9,9,9,10,10,10,11,11,11,12,8,8,9,9,9,10,10,10,11,11,11,11,12],
 [4,4,5,5,6,6,7,7,7,8,8,9,9,9,10,10,4,5,5,6,6,7,7,7,8,8,9,9,9,10,10,11,5,5,6,6,7,7,7,8,8,9,9,9,10,10,11,11,5,6,6,7,7,7,8,8,9,9,9,10,10,11,11,11,6,6,7,7,7,8,8,9,9,9,10,10,11,11,11,12,6,6,7,7,8,8,9,9,9,10,10,11,11,11,12,12,6,7,7,8,8,9,9,9,10,10,11,11,11,12,12,13,7,7,8,8,9,9,9,10,10,11,11,11,12,12,13,13,7,8,8,9,9,9,10,10,11,11,11,12,12,13,13,14,8,8,9,9,9,10,10,11,11,11,12,12,13,13,14,14,8,9,9,9,10,10,11,11,11,12,12,13,13,14,14,14,9,9,9,10,10,11,11,11,12,12,13,13,14,14,14,15,9,9,10,10,11,11,11,12,12,13,13,14,14,14,15,15,9,10,10,11,11,11,12,12,13,13,13,14,14,15,15,16,10,10,11,11,11,12,12,13,13,13,14,14,15,15,16,16,10,11,11,11,12,12,13,13,13,14,14,15,15,16,16,16],
 [3,3,3,4,4,4,4,4,5,5,5,5,5,6,6,6,6,6,6,7,7,7,7,7,8,8,8,8,9,9,9,9]]
def Vj (k:Nat):List Nat:=tabT.getD k []
def Uf (k:Nat):ByteArray:=⟨((Vj k).map fun n=>UInt8.ofNat (n+96)).toArray⟩
structure Xp (w:World):Prop where
 form: ∀k,k<8->w.cell? ⟨2,k*3,none⟩=some (.int .i64 (Jl k))/\w.cell? ⟨2,k*3+1,none⟩=some (.int .i64 (Xt k))/\w.cell? ⟨2,k*3+2,none⟩=some (.bool (T9 k))
 tab: ∀k,k<8->w.cell? ⟨3,k,none⟩=some (.string (Uf k))
theorem Xp.below {w w1:World} (h:Xp w) (hb:Below w.heap.size w w1):Xp w1:=
 ⟨fun k hk=>⟨cnx (h.form k hk).1 hb,cnx (h.form k hk).2.1 hb,cnx (h.form k hk).2.2 hb⟩,fun k hk=>cnx (h.tab k hk) hb⟩
theorem Wv: ∀k,k<8->0<k->((Vj k).length :Int)=(Xt k+1)^Jl k:=by decide+kernel
theorem Wu: ∀k,k<8-> ∀n∈Vj k,1<=n/\n<=16:=by decide+kernel
theorem D5 (k:Nat):(Uf k).size =(Vj k).length :=by show Array.size _=_;simp
theorem Qdc {k i:Nat} (hk:k<8) (hi:i<(Vj k).length): ∃b:UInt8,(Uf k)[i]? =some b/\(b.toNat:Int)=(Vj k)[i]+96:=by
 have hb:=Wu k hk _ (List.getElem_mem hi);refine⟨UInt8.ofNat ((Vj k)[i]+96),?_,?_⟩
 ·have h2:i<(Uf k).size :=by rw[D5];exact hi
  rw[getElem?_pos (Uf k) i h2]
  congr 1
  show((((Vj k).map fun n=>UInt8.ofNat (n+96)).toArray)[i]'(by simpa using hi))=_
  simp
 ·rw[UInt8.toNat_ofNat']
  omega
def Kj (d:Nat) (l:List Int) (j:Nat):List Int:=(l.drop (j*d)).take d
def wlI (k:Nat) (g:List Int):Int:=((Vj k).getD (S9 (Xt k) g).toNat 0:Nat)
def besS (k:Nat) (g:List Int):Int:=(g.map (J4 (Xt k) (T9 k))).sum
def F9 (k:Nat) (g:List Int):Int:=(if 0<k then wlI k g else 0)+besS k g
def Zf (k:Nat) (l:List Int):Nat->Int
 |0=>0
 |j+1=>Zf k l j+F9 k (Kj (Jl k) l j)
def Yt (k:Nat) (l:List Int):Int:=Zf k l (l.length/Jl k)
theorem Qcv {d:Nat} {l:List Int} {j:Nat} (h:j*d+d<=l.length):(Kj d l j).length =d:=by
 unfold Kj;rw[List.length_take,List.length_drop];omega
theorem grp_C {d:Nat} {l:List Int} {j:Nat} {w:World} {ad:Addr} (hd:1<=d) (hr:(Kd.int .i64).C w (some ad) l.length l) (h:j*d+d<=l.length):(Kd.int .i64).C w (some (ad.add (j*d))) (Kj d l j).length (Kj d l j):=by
 have h1:=Kd.C_mid (k:=Kd.int .i64) (c:=l.length) (lo:=j*d) (hi:=j*d+d) hr (by omega) h (Nat.le_refl _);rw[if_neg (by omega)] at h1
 have e:(l.take (j*d+d)).drop (j*d)=Kj d l j:=by
  unfold Kj;rw[List.drop_take]
  congr 1
  omega
 rw[e,show j*d*(Kd.int IntKind.i64).sz =j*d from Nat.mul_one _] at h1;exact h1
theorem Pn {d:Nat} {l:List Int} {j:Nat} (h:Yo l=true):Yo (Kj d l j)=true:=by
 refine List.all_eq_true.2 fun x hx=> ?_
 exact List.all_eq_true.1 h x (List.mem_of_mem_drop (List.mem_of_mem_take hx))
theorem Ex {d n:Nat} {j:Nat} (hd:1<=d) (h:j<n/d):j*d+d<=n:=by
 have h1:(j+1)*d<=n:=Nat.le_trans (Nat.mul_le_mul_right d h) (Nat.div_mul_le_self n d);rw[Nat.add_mul] at h1;omega
theorem log2_le {n b:Nat} (h:n<2^(b+1)):n.log2<=b:=by
 by_cases hz:n=0
 ·subst hz
  have:Nat.log2 0=0:=(by decide);omega
 ·have:=(Nat.log2_lt hz).2 h
  omega
theorem Pj {m:Int} {e:Bool} {v:Int} (hm:0<=m/\m<=31) (h: -1023<=v/\v<=1023):0<=J4 m e v/\J4 m e v<=22:=by
 have hs:=Ws (v:=v) (m:=1023) h
 have hg:1<=Z7 (szI v-m+1)/\(m<=szI v->Z7 (szI v-m+1)<=21):=by
  unfold Z7;refine⟨by omega,fun _=> ?_⟩;have:=log2_le (n:=(szI v-m+1).toNat) (b:=10) (by omega);omega
 unfold J4
 split
 ·omega
 ·split
  ·rename_i h2
   have:=hg.2 h2.2;omega
  ·omega
theorem El {m:Int} {e:Bool} (hm:0<=m/\m<=31): ∀g:List Int,Yo g=true->0<=(g.map (J4 m e)).sum /\(g.map (J4 m e)).sum <=22*g.length
 |[],_=>by simp
 |x::g,h=>by
  have h1:=Pj (e:=e) hm (Jd h (x:=x) (by simp))
  have h2:=El (e:=e) hm g (by
   refine List.all_eq_true.2 fun y hy=> ?_
   exact List.all_eq_true.1 h y (by simp[hy]))
  simp only[List.map_cons,List.sum_cons,List.length_cons];omega
theorem Qcj {k:Nat} (hk:k<8) (g:List Int):0<=wlI k g/\wlI k g<=16:=by
 unfold wlI;by_cases h:(S9 (Xt k) g).toNat <(Vj k).length
 ·have:=Wu k hk _ (List.getElem_mem h)
  rw[List.getD_eq_getElem?_getD,List.getElem?_eq_getElem h,Option.getD_some];omega
 ·rw[List.getD_eq_getElem?_getD,List.getElem?_eq_none (by omega)]
  simp
theorem Ro {k:Nat} (hk:k<8) {g:List Int} (hg:g.length<=4) (h:Yo g=true):0<=F9 k g/\F9 k g<=104:=by
 have h1:=Qcj hk g;have h2:=El (e:=T9 k) (Vu k) g h;unfold F9 besS
 split<;>omega
theorem Y4 {k:Nat} (hk:k<8) {l:List Int} (h:Yo l=true): ∀j,0<=Zf k l j/\Zf k l j<=104*j
 |0=>by simp[Zf]
 |j+1=>by
  have h1:=Y4 hk h j;have h2:=Ro hk (g:=Kj (Jl k) l j) (by unfold Kj;rw[List.length_take];have:=Uz k;omega) (Pn h);simp only[Zf];omega
theorem sym_in {k:Nat} (hk:k<8) (h0:0<k) {g:List Int} (hg:g.length=Jl k) (h:Yo g=true):0<=S9 (Xt k) g/\S9 (Xt k) g<(Vj k).length :=by
 have hm:=Vu k
 obtain⟨h1,h2⟩:=Wp (Xt k) hm.1 (g.map (Ri (Xt k))) (fun x hx=>by
  obtain⟨z,hz,rfl⟩:=List.mem_map.1 hx
  exact Qcs hm (Jd h hz)) 0 (by omega)
 have h3:=Wv k hk h0;rw[List.length_map,hg] at h2;have h4:S9 (Xt k) g=(g.map (Ri (Xt k))).foldl (fun s d=>s*(Xt k+1)+d) 0:=rfl;rw[h4];refine⟨h1,?_⟩;omega
theorem tabS_ne: ∀k,k<8->0<k->(Uf k).toList.isEmpty =false:=by decide+kernel
theorem Xj.set {S B1 B2 n8:Nat} {W w1:World} {v:Value} (hb:Below W.heap.size W w1) (hS:S<=W.heap.size) (h1:B1<W.heap.size) (h2:B2<W.heap.size) (h3:S<=n8) (h4:n8≠B1) (h5:n8≠B2):Xj S B1 B2 W (w1.setCell ⟨n8,0,none⟩ v):=
 ⟨(hb.mono hS).setCell (p:=⟨n8,0,none⟩) (by simp only;omega) _,(Below.heap_setCell _ _ _ _ (by simp only;omega)).trans (hb.block B1 h1),(Below.heap_setCell _ _ _ _ (by simp only;omega)).trans (hb.block B2 h2)⟩
end Bk

namespace Bk
attribute [local go_sem] Qi Qj Qk Ql Qg Qh
open Q15
open Runs Go.Shelf
open Q16 (Q6 Zc Yf)
open Q21 (Qb Qf)
open Bts
attribute [local go_sem] Oper.semAt_some
theorem Qbn (k:Nat) (hk:k<8) (A:Option Addr) (cap:Nat) (l:List Int) (w:World) (hL:Xp w) (hr:(Kd.int .i64).C w A l.length l) (hl:l.length<=1000) (hcap:l.length<=cap) (hA:Yo l=true):
  Calls Tryz.prog 215 #[.int .i64 k,.slice A l.length cap] w fun e w'=>e= .returned (.int .i64 (Yt k l))/\Below w.heap.size w w':=by
 have hkI:(k:Int)<8:=(by omega);have hu:=Tryz.underlying194;have HR:=Qa.mk hr;have hl':=Qa.mk hl;obtain⟨l1,l2,l3⟩:=hL.form k hk;have l4:=hL.tab k hk;obtain⟨S,hSe⟩: ∃S,S=Uf k:=⟨_,rfl⟩;obtain⟨d,hde⟩: ∃d,d=Jl k:=⟨_,rfl⟩;obtain⟨m,hme⟩: ∃m,m=Xt k:=⟨_,rfl⟩;obtain⟨e,hee⟩: ∃e,e=T9 k:=⟨_,rfl⟩;rw[<-hSe] at l4;rw[<-hde] at l1;rw[<-hme] at l2;rw[<-hee] at l3;have hd9:=Uz k;have hm9:=Vu k;rw[<-hde] at hd9;rw[<-hme] at hm9;replace hSe:=Qa.mk hSe;replace hde:=Qa.mk hde;replace hme:=Qa.mk hme;replace hee:=Qa.mk hee;have hS:Qa (∀w':World,Below w.heap.size w w'->w'.cell? ⟨2,k*3,none⟩=some (.int .i64 d)/\w'.cell? ⟨2,k*3+1,none⟩=some (.int .i64 m)/\w'.cell? ⟨2,k*3+2,none⟩=some (.bool e)/\w'.cell? ⟨3,k,none⟩=some (.string S)):=⟨fun w' hb=>⟨cnx l1 hb,cnx l2 hb,cnx l3 hb,cnx l4 hb⟩⟩;have hmo:Tryz.prog.follows .mixedOrders =true:=(by kernel_rfl);refine(callsIn_wide (n:=3)).1 ?_;refine callsIn_of_wp_marks Tryz.func215 rfl trivial ?_ rfl;simp only[Tryz.ntmps215,List.size_toArray,List.length_cons,List.length_nil,Nat.reduceAdd,Nat.reduceSub,Array.replicate_succ,Array.replicate_zero,List.push_toArray,List.append_toArray,List.nil_append,List.cons_append];clear hL hr hl;gi_wp2_with fail;refine Go.wpIn_wide.2 (wp_region_noPanic (Qr (S:=fun w'=>w'.cell? ⟨2,k*3,none⟩=some (.int .i64 d)/\w'.cell? ⟨2,k*3+1,none⟩=some (.int .i64 m)/\w'.cell? ⟨2,k*3+2,none⟩=some (.bool e)/\w'.cell? ⟨3,k,none⟩=some (.string S)) (ds:=[]) hmo (hS.out _ (Below.refl _ _).drew) (fun hHeld=> ?_)));clear l1 l2 l3 l4
 (refine Tk.tl 0 (.int .i64 k) hHeld ?_)
 (refine Tk.tl 1 (.pointer (some ⟨2,k*3,none⟩)) hHeld ?_)
 (refine Tk.tl 2 (.agg #[.int .i64 d,.int .i64 m,.bool e]) hHeld ?_)
 (refine Tk.tl 3 (.int .i64 k) hHeld ?_)
 (refine Tk.tl 4 (.pointer (some ⟨3,k,none⟩)) hHeld ?_)
 (refine Tk.tl 5 (.string S) hHeld ?_)
 have hRw:Qa (Rws w w.drew [] []):=⟨(Rws.start w).drew⟩;refine join_ (σ:=Nat×Nat) 2 #[true,true,true,true,true,true,true,true,false,false] (fun s=>[(5,.pointer (some ⟨s.1,0,none⟩)),(6,.pointer (some ⟨s.2,0,none⟩))]) (fun s w'=>Rws w w' [] [⟨s.1, #[.int .i64 0,.int .i64 0,.bool false],194⟩,⟨s.2, #[.string ⟨#[]⟩],9⟩]) ?_ ?_
 ·intro s xj hRw
  obtain⟨n6,n7⟩:=s;replace hRw:=Qa.mk hRw;simp only[Fq,Act.put,Tk.z1,Tk.z2,Tk.z3,Tk.z4,Tk.z5,Tk.z6] at hRw ⊢
  (refine Qd (rs:=[8]) (by kernel_rfl) (by simp) ?_;refine Qc.cons rfl (by decide) (fun K hK=> ?_) Qc.nil)
  have hG:=(hRw.out.blk ⟨n6, #[.int .i64 0,.int .i64 0,.bool false],194⟩ (by simp)).1;have z0:xj.cell? ⟨n6,0,none⟩=some (.int .i64 0):=(by rw[Qs hG];rfl);have y0:=Qf hG 0;have z1:xj.cell? ⟨n6,1,none⟩=some (.int .i64 0):=(by rw[Qs hG];rfl);have y1:=Qf hG 1;have z2:xj.cell? ⟨n6,2,none⟩=some (.bool false):=(by rw[Qs hG];rfl);have y2:=Qf hG 2;have hRx:=hRw.out;clear hG;replace hRx:=Rws.set (G1:=[]) (G2:=[⟨n7, #[.string ⟨#[]⟩],9⟩]) (b:=⟨n6, #[.int .i64 0,.int .i64 0,.bool false],194⟩) hRx 0 (.int .i64 d);simp only[List.setIfInBounds_toArray,List.set_cons_zero,List.set_cons_succ,List.nil_append,List.cons_append] at hRx;replace hRx:=Rws.set (G1:=[]) (G2:=[⟨n7, #[.string ⟨#[]⟩],9⟩]) (b:=⟨n6, #[.int .i64 d,.int .i64 0,.bool false],194⟩) hRx 1 (.int .i64 m);simp only[List.setIfInBounds_toArray,List.set_cons_zero,List.set_cons_succ,List.nil_append,List.cons_append] at hRx;replace hRx:=Rws.set (G1:=[]) (G2:=[⟨n7, #[.string ⟨#[]⟩],9⟩]) (b:=⟨n6, #[.int .i64 d,.int .i64 m,.bool false],194⟩) hRx 2 (.bool e);simp only[List.setIfInBounds_toArray,List.set_cons_zero,List.set_cons_succ,List.nil_append,List.cons_append] at hRx;replace hRx:=Qa.mk hRx;go_simp;go_wp2_with fail;refine hK.out _ _ (hS.out _ hRx.out.below) (fun hHeld=> ?_);clear hK K
  try simp only[Act.put,Tk.z1,Tk.z2,Tk.z3,Tk.z4,Tk.z5,Tk.z6]
  obtain⟨x8,hxN⟩: ∃x,x=(((xj.setCell ⟨n6,0,none⟩ (.int .i64 d)).setCell ⟨n6,1,none⟩ (.int .i64 m)).setCell ⟨n6,2,none⟩ (.bool e)):=⟨_,rfl⟩;have hRy:=hRx.out;rw[<-hxN] at hRy ⊢;replace hRw:=Qa.mk hRy;clear hxN hRx hRy z0 y0 z1 y1 z2 y2
  (refine Qd (rs:=[9]) (by kernel_rfl) (by simp) ?_;refine Qc.cons rfl (by decide) (fun K hK=> ?_) Qc.nil)
  have hG:=(hRw.out.blk ⟨n7, #[.string ⟨#[]⟩],9⟩ (by simp)).1;have z0:x8.cell? ⟨n7,0,none⟩=some (.string ⟨#[]⟩):=(by rw[Qs hG];rfl);have y0:=Qf hG 0;have hRx:=hRw.out;clear hG;replace hRx:=Rws.set (G1:=[⟨n6, #[.int .i64 d,.int .i64 m,.bool e],194⟩]) (G2:=[]) (b:=⟨n7, #[.string ⟨#[]⟩],9⟩) hRx 0 (.string S);simp only[List.setIfInBounds_toArray,List.set_cons_zero,List.set_cons_succ,List.nil_append,List.cons_append] at hRx;replace hRx:=Qa.mk hRx;go_simp;go_wp2_with fail;refine hK.out _ _ (hS.out _ hRx.out.below) (fun hHeld=> ?_);clear hK K
  try simp only[Act.put,Tk.z1,Tk.z2,Tk.z3,Tk.z4,Tk.z5,Tk.z6]
  obtain⟨x9,hxN⟩: ∃x,x=(x8.setCell ⟨n7,0,none⟩ (.string S)):=⟨_,rfl⟩;have hRy:=hRx.out;rw[<-hxN] at hRy ⊢;replace hRw:=Qa.mk hRy;clear hxN hRx hRy z0 y0;refine Qo (by kernel_rfl) ?_ _;clear hHeld;refine NoPanic.normal ?_;obtain⟨W5,hW5⟩: ∃W5,W5=x9:=⟨_,rfl⟩;rw[<-hW5] at hRw ⊢;clear hW5;have hR5:=hRw.out;have g6:=(hR5.blk ⟨n6, #[.int .i64 d,.int .i64 m,.bool e],194⟩ (by simp)).1;have g60:W5.cell? ⟨n6,0,none⟩=some (.int .i64 d):=(by rw[Qb g6];rfl);have g61:W5.cell? ⟨n6,1,none⟩=some (.int .i64 m):=(by rw[Qb g6];rfl);have g62:W5.cell? ⟨n6,2,none⟩=some (.bool e):=(by rw[Qb g6];rfl);have hz6:=World.block_lt_of_cell? _ _ g60;dsimp only at hz6;clear g6 hR5;gi_wp2_with fail;obtain⟨n8,hn8⟩: ∃n8,n8=W5.heap.size:=⟨_,rfl⟩;obtain⟨W6,hW6⟩: ∃W6,W6=W5.alloc (.cells #[.int .i64 0] 3):=⟨_,rfl⟩;have hR6:=hRw.out.alloc #[.int .i64 0] 3;simp only[List.nil_append,List.cons_append] at hR6;rw[<-hW6,<-hn8] at hR6;rw[<-hW6,<-hn8];refine⟨trivial,(callsIn_wide.2 (Bh d m e A l.length cap W6)).mono ?_⟩;rintro en W7 ⟨rfl,hW7⟩;obtain⟨n9,hn9⟩: ∃n9,n9=W6.heap.size:=⟨_,rfl⟩;have hs7:W7.heap.size=n9+2:=(by rw[hW7,hn9];simp);have hR7:=(hR6.alloc #[.int .i64 d,.int .i64 m,.bool e] 194).alloc #[.slice A l.length cap] 22;simp only[World.size_alloc,List.nil_append,List.cons_append] at hR7;rw[<-hW7,<-hn9] at hR7;rw[<-hn9]
  have hn69:Qa (n6<n9/\n7<n9/\n8<n9/\w.heap.size<=n6/\w.heap.size<=n8/\w.heap.size<=n9):=by
   have q6:=Array.getElem?_eq_some_iff.1 (hR6.blk ⟨n6, #[.int .i64 d,.int .i64 m,.bool e],194⟩ (by simp)).1;have q7:=Array.getElem?_eq_some_iff.1 (hR6.blk ⟨n7, #[.string S],9⟩ (by simp)).1;have q8:=Array.getElem?_eq_some_iff.1 (hR6.blk ⟨n8, #[.int .i64 0],3⟩ (by simp)).1;have r6:=(hR6.blk ⟨n6, #[.int .i64 d,.int .i64 m,.bool e],194⟩ (by simp)).2;have r8:=(hR6.blk ⟨n8, #[.int .i64 0],3⟩ (by simp)).2;obtain⟨q6,_⟩:=q6;obtain⟨q7,_⟩:=q7;obtain⟨q8,_⟩:=q8;dsimp only at q6 q7 q8 r6 r8;exact⟨by omega,by omega,by omega,by omega,by omega,by omega⟩
  have b9:W7.cell? ⟨n9,0,none⟩=some (.int .i64 d):=(by rw[Qb (hR7.blk ⟨n9, #[.int .i64 d,.int .i64 m,.bool e],194⟩ (by simp)).1];rfl);have b10:W7.cell? ⟨n9+1,0,none⟩=some (.slice A l.length cap):=(by rw[Qb (hR7.blk ⟨n9+1, #[.slice A l.length cap],22⟩ (by simp)).1];rfl);replace hs7:=Qa.mk hs7;replace hR7:=Qa.mk hR7;clear hW7 hn9 hW6 hn8 hR6 hz6 g60 g61 g62 hRw;gi_wp2_with fail
  have hAs:Qa (0<l.length-> ∃ad,A=some ad):=⟨fun h=>by
   obtain⟨ad,e,_⟩:=Qq HR.out (Below.refl _ _) h
   exact⟨ad,e⟩⟩
  refine Yy rfl (by omega) (gf:=221) (lb:= #[.pointer (some ⟨n9,0,none⟩),.pointer (some ⟨n9+1,0,none⟩)]) rfl trivial (enters_of Tryz.func221 (by kernel_rfl) rfl)
   (Ew Fence.wide _ trivial rfl (by omega) n9 (n9+1) A cap l.length d hd9 (by have:=hl'.out;omega) hcap hAs.out w W7 hR7.out.below b9 b10)
   (fun h k=>h.trans k) (fun W l' o o' hl'=>Xj.putObj (N:=W7.heap.size) (by have:=hs7.out;have:=hn69.out;omega) (by have:=hs7.out;omega) (by have:=hs7.out;omega) W l' o o' hl') (Below.refl _ _) (fun _=>rfl)
   (fun j W=>Rws w W [] [⟨n6, #[.int .i64 d,.int .i64 m,.bool e],194⟩,⟨n7, #[.string S],9⟩,⟨n8, #[.int .i64 (Zf k l j)],3⟩,⟨n9, #[.int .i64 d,.int .i64 m,.bool e],194⟩,⟨n9+1, #[.slice A l.length cap],22⟩])
   ?own ?start
   (fun j=>{tmps:= #[.int .i64 k,.slice A l.length cap,undef,undef,.int .i64 0,.pointer (some ⟨n6,0,none⟩),.pointer (some ⟨n7,0,none⟩),.pointer (some ⟨n8,0,none⟩),gSl A (j*d) d,undef,undef,.int .i64 k,.pointer (some ⟨2,k*3,none⟩),.agg #[.int .i64 d,.int .i64 m,.bool e],.int .i64 k,.pointer (some ⟨3,k,none⟩),.string S,.agg #[.int .i64 d,.int .i64 m,.bool e],.slice A l.length cap,.func (.func 221) #[] #[.pointer (some ⟨n9,0,none⟩),.pointer (some ⟨n9+1,0,none⟩)],gSl A (j*d) d,undef,undef,undef,undef,undef,undef,undef,undef,undef,undef,undef,undef,undef,undef,undef,undef,undef,undef,undef,undef,undef,undef,undef,undef,undef],defers:=[]}) ?assign ?body ?done
  case own=>exact fun j W W' row h hg hrow=>Pre.Rws.turn h hg (fun r e=>⟨by have:=(hrow r e).1;have:=hs7.out;have:=hn69.out;omega,(hrow r e).2⟩)
  case start=>exact hR7.out
  case assign=>
   intro l' j W K _ hK;gi_wp2;exact hK
  case body=>
   rintro L j W hRw hj;obtain⟨ad,rfl⟩:=hAs.out (by have:=Ex hd9.1 hj;omega);have hjd:=Ex hd9.1 hj;obtain⟨ag,hag⟩: ∃ag,ag=ad.add (j*d):=⟨_,rfl⟩;have HG:=grp_C hd9.1 HR.out hjd;have hgl:=Qcv hjd;have hga:=Pn (d:=d) (j:=j) hA;have hst:Zf k l (j+1)=Zf k l j+F9 k (Kj d l j):=(by rw[hde.out];rfl);have hc09:=Y4 hk hA j;have hj9:j<=1000:=(by have:=hl'.out;have:=Nat.mul_le_mul_left j hd9.1;omega);obtain⟨gr,hgr⟩: ∃gr,gr=Kj d l j:=⟨_,rfl⟩;rw[<-hag,<-hgr] at HG;rw[<-hgr] at hgl hga hst;obtain⟨c0,hc0⟩: ∃c0,c0=Zf k l j:=⟨_,rfl⟩;rw[<-hc0] at hst hc09 hRw;have hgc:=Ro hk (g:=gr) (by omega) hga;simp only[gSl];rw[<-hag];have a6:=(hRw.blk ⟨n6, #[.int .i64 d,.int .i64 m,.bool e],194⟩ (by simp)).1;have a60:W.cell? ⟨n6,0,none⟩=some (.int .i64 d):=(by rw[Qb a6];rfl);have a61:W.cell? ⟨n6,1,none⟩=some (.int .i64 m):=(by rw[Qb a6];rfl);have a62:W.cell? ⟨n6,2,none⟩=some (.bool e):=(by rw[Qb a6];rfl);have a70:W.cell? ⟨n7,0,none⟩=some (.string S):=(by rw[Qb (hRw.blk ⟨n7, #[.string S],9⟩ (by simp)).1];rfl);have a8:=(hRw.blk ⟨n8, #[.int .i64 c0],3⟩ (by simp)).1;have a80:W.cell? ⟨n8,0,none⟩=some (.int .i64 c0):=(by rw[Qb a8];rfl);clear a6 a8;have hz6:=World.block_lt_of_cell? _ _ a60;have HSy:=Qa.mk (fun(W':World) (hb:Below W.heap.size W W')=>Ma d m e (some ag) d gr W' hm9 (Kd.Qe HG (bnx hRw.below hb)) (by omega) hga);rw[hgl] at HSy;have hI:IntKind.i64.wrap c0=c0:=IntWalk.i64_in _ (by omega);replace hRw:=Qa.mk hRw;obtain⟨bT,hbTe⟩: ∃bT:Nat->Int,bT=fun i=>((gr.take i).map (J4 m e)).sum :=⟨_,rfl⟩
   have hbT0:Qa (bT 0=0):=⟨by rw[hbTe];simp⟩;have hbTs:Qa (∀i,i<d->bT (i+1)=bT i+J4 m e (rd gr i)):=⟨fun i hi=>by rw[hbTe];dsimp only;rw[Qx gr i (by omega),List.map_append,List.sum_append];simp⟩
   have hbT9:Qa (∀i,i<=d->0<=bT i/\bT i<=100):=⟨fun i hi=>by
    have h1:=El (e:=e) hm9 (gr.take i) (List.all_eq_true.2 fun x hx=>List.all_eq_true.1 hga x (List.mem_of_mem_take hx));have h2:(gr.take i).length <=4:=(by rw[List.length_take];omega);rw[hbTe];dsimp only
    omega⟩
   have hbTd:bT d=besS k gr:=(by rw[hbTe,<-hgl];dsimp only;rw[List.take_length,hme.out,hee.out];rfl);have hwb:=Qcj hk gr;have hE:F9 k gr=(if 0<k then wlI k gr else 0)+besS k gr:=rfl;replace HG:=Qa.mk HG;by_cases hk0:0<k
   ·have hsi:=sym_in hk hk0 (g:=gr) (by rw[hgl,hde.out]) hga
    rw[<-hme.out] at hsi;have hne:S.toList.isEmpty=false:=(by rw[hSe.out];exact tabS_ne k hk hk0);obtain⟨bt,hbt,hbx⟩:=Qdc hk (i:=(S9 m gr).toNat) (by omega);rw[<-hSe.out] at hbt;have hwl:wlI k gr=((Vj k)[(S9 m gr).toNat]'(by omega):Nat):=(by unfold wlI;rw[<-hme.out,List.getD_eq_getElem?_getD,List.getElem?_eq_getElem (by omega),Option.getD_some]);rw[<-hwl] at hbx;have htb:=Wu k hk _ (List.getElem_mem (show(S9 m gr).toNat <(Vj k).length by omega));obtain⟨wl,hwle⟩: ∃wl,wl=wlI k gr:=⟨_,rfl⟩;have hwl1:1<=wl:=(by rw[hwle,hwl];omega);rw[<-hwle] at hbx hwb hE;obtain⟨c1,hc1⟩: ∃c1,c1=c0+wl:=⟨_,rfl⟩;have hfin:Qa (c1+bT d=Zf k l (j+1)):=⟨by rw[hst,hE,if_pos hk0,hbTd];omega⟩;obtain⟨sy,hsy⟩: ∃sy,sy=S9 m gr:=⟨_,rfl⟩;rw[<-hsy] at HSy hsi hbt;obtain⟨y,hy⟩: ∃y,y=wl-1:=⟨_,rfl⟩;obtain⟨xb,hxb⟩: ∃xb:Int,(bt.toNat:Int)=xb:=⟨_,rfl⟩;rw[hxb] at hbx;have f1:IntKind.u8.wrap (xb-97)=y:=(by rw[show xb-97=y by omega];exact IntWalk.u8_in _ (by omega));have f2:IntKind.i64.wrap y=y:=IntWalk.i64_in _ (by omega);have f3:IntKind.i64.wrap (y+1)=wl:=(by rw[show y+1=wl by omega];exact IntWalk.i64_in _ (by omega));have f4:IntKind.i64.wrap (c0+wl)=c1:=(by rw[<-hc1];exact IntWalk.i64_in _ (by omega));have hc19:0<=c1/\c1<=200000:=(by omega);have hsy0:0<=sy:=hsi.1
    have hszS:Qa (sy<(S.size:Int)/\ ∀h:sy.toNat<S.size,((S[sy.toNat]'h).toNat :Int)=xb):=by
     have h1:sy<(S.size:Int):=(by rw[hSe.out,D5];exact hsi.2);refine⟨h1,fun h=> ?_⟩;rw[getElem?_pos S sy.toNat h] at hbt
     injection hbt with hbt
     rw[hbt];exact hxb
    clear hsi hwl htb hwle hsy hy hbx hc1 hwb hc09 hj9 hwl1;replace hgl:=Qa.mk hgl;replace hga:=Qa.mk hga;clear hbTe hbTd hE hst hc0 hgr hag hgc hjd hj;replace hfin:=Qa.mk hfin.out;gi_wp2_with fail;obtain⟨hszS1,hszS2⟩:=hszS.out;clear hszS hbt;refine Held.Zm (fun w'=>w'.cell? ⟨n6,0,none⟩=some (.int .i64 d)/\w'.cell? ⟨n6,1,none⟩=some (.int .i64 m)/\w'.cell? ⟨n6,2,none⟩=some (.bool e)/\w'.cell? ⟨n7,0,none⟩=some (.string S)/\w'.cell? ⟨n8,0,none⟩=some (.int .i64 c0)/\Below W.heap.size W w') [10] hmo (by kernel_rfl) (fun⟨_,_,h⟩=>h) ⟨a60,a61,a62,a70,a80,(Below.refl _ _).drew⟩ (fun hHeld=> ?_)
    (refine Tk.tl 0 (.int .i64 c0) hHeld ?_)
    (refine Tk.tl 1 (.string S) hHeld ?_)
    (refine Tk.tl 2 (.agg #[.int .i64 d,.int .i64 m,.bool e]) hHeld ?_)
    (refine Tk.tl 3 (.slice (some ag) d d) hHeld ?_)
    (refine Qd (rs:=[4]) (by kernel_rfl) (by simp) ?_;refine Qc.cons rfl (by decide) (fun K hK=> ?_) Qc.nil)
    go_simp;refine(HSy.out _ hHeld.2.2.2.2.2).mono ?_;rintro en w1 ⟨rfl,hb1⟩;go_wp2_with fail;refine hK.out _ _ ⟨cnx hHeld.1 hb1,cnx hHeld.2.1 hb1,cnx hHeld.2.2.1 hb1,cnx hHeld.2.2.2.1 hb1,cnx hHeld.2.2.2.2.1 hb1,bnx hHeld.2.2.2.2.2 hb1⟩ (fun hHeld=> ?_);clear hK K
    try simp only[Act.put,Tk.z1,Tk.z2,Tk.z3,Tk.z4,Tk.z5,Tk.z6]
    (refine Tk.tl 5 (.int .u8 xb) hHeld ?_)
    (refine Tk.tl 6 (.int .u8 y) hHeld ?_)
    (refine Tk.tl 7 (.int .i64 y) hHeld ?_)
    (refine Tk.tl 8 (.int .i64 wl) hHeld ?_)
    (refine Tk.tl 9 (.int .i64 c1) hHeld ?_)
    have hRs:=hRw.out.step hHeld.2.2.2.2.2;have G8:=(hRs.blk ⟨n8, #[.int .i64 c0],3⟩ (by simp)).1;have z80:w1.cell? ⟨n8,0,none⟩=some (.int .i64 c0):=(by rw[Qb G8];rfl);have y80:=Qf G8 0;clear G8;have hRn:=Bts.Rws.set (G1:=[⟨n6, #[.int .i64 d,.int .i64 m,.bool e],194⟩,⟨n7, #[.string S],9⟩]) (G2:=[⟨n9, #[.int .i64 d,.int .i64 m,.bool e],194⟩,⟨n9+1, #[.slice (some ad) l.length cap],22⟩]) (b:=⟨n8, #[.int .i64 c0],3⟩) hRs 0 (.int .i64 c1);simp only[List.setIfInBounds_toArray,List.set_cons_zero,List.nil_append,List.cons_append] at hRn;have hKn:KeepsOthers W (w1.setCell ⟨n8,0,none⟩ (.int .i64 c1))/\Xj w.heap.size n9 (n9+1) W (w1.setCell ⟨n8,0,none⟩ (.int .i64 c1)):=⟨(Zr hHeld.2.2.2.2.2).trans (KeepsOthers.setCell w1 ⟨n8,0,none⟩ (.int .i64 c1)),Xj.set (hHeld.2.2.2.2.2) hRw.out.below.size (by have:=hRw.out.blk ⟨n9, #[.int .i64 d,.int .i64 m,.bool e],194⟩ (by simp);exact(Array.getElem?_eq_some_iff.1 this.1).1) (by have:=hRw.out.blk ⟨n9+1, #[.slice (some ad) l.length cap],22⟩ (by simp);exact(Array.getElem?_eq_some_iff.1 this.1).1) (by have:=hn69.out;omega) (by have:=hn69.out;omega) (by have:=hn69.out;omega)⟩;obtain⟨wn,hwn⟩: ∃wn,wn=w1.setCell ⟨n8,0,none⟩ (.int .i64 c1):=⟨_,rfl⟩;rw[<-hwn] at hRn hKn;replace hRn:=Qa.mk hRn;replace hKn:=Qa.mk hKn;replace hwn:=Qa.mk hwn;clear hRs
    (refine Qd (rs:=[10]) (by kernel_rfl) (by simp) ?_;refine Qc.Zp rfl (by decide) (fun K hK=> ?_) Qc.nil)
    go_simp;go_wp2_with fail;refine hK.out _ _ ?_;clear hK K
    try simp only[Act.put,Tk.z1,Tk.z2,Tk.z3,Tk.z4,Tk.z5,Tk.z6]
    refine Qo (by kernel_rfl) ?_ _;rw[<-hwn.out];clear z80 y80 hHeld hwn;clear a60 a61 a62 a70 a80 hz6 HSy hszS1 hszS2 hxb f1 f2 f3 f4 hne;have hbW:Below w.heap.size w wn:=hRn.out.below;obtain⟨wo,hwo⟩: ∃wo:World,wo=wn:=⟨_,rfl⟩;rw[<-hwo] at hRn hKn hbW ⊢;clear hwo;gi_wp2_with fail;gi_loopw [35] (fun x wr=> ∃i:Nat,x= .int .i64 i/\i<=d/\Qa (Rws w wr [] [⟨n6, #[.int .i64 d,.int .i64 m,.bool e],194⟩,⟨n7, #[.string S],9⟩,⟨n8, #[.int .i64 (c1+bT i)],3⟩,⟨n9, #[.int .i64 d,.int .i64 m,.bool e],194⟩,⟨n9+1, #[.slice (some ad) l.length cap],22⟩])/\Qa (KeepsOthers W wr/\Xj w.heap.size n9 (n9+1) W wr)) (fun x _=>d-(intOf x).toNat)
    case atStart=>exact⟨0,rfl,by omega,⟨by rw[hbT0.out,Int.add_zero];exact hRn.out⟩,hKn⟩
    case round=>
     obtain⟨i,rfl,hi,hRr,hKr⟩:=hrel;by_cases hlt:i<d
     ·obtain⟨ad2,had2,hcell⟩:=Qq HG.out hRr.out.below (show i<gr.length by have:=hgl.out;omega)
      cases had2;have hv:=Jd hga.out (Qt gr i (by have:=hgl.out;omega));have hbs:=hbTs.out i hlt;have hbb:=Pj (e:=e) hm9 hv;have hb9:=hbT9.out i (by omega);have HBs:=Qa.mk (fun(W':World)=>Gz d m e (rd gr i) W' hm9 hv.1 hv.2);obtain⟨v,hve⟩: ∃v,v=rd gr i:=⟨_,rfl⟩;rw[<-hve] at hcell hbs hbb HBs;obtain⟨bq,hbq⟩: ∃bq,bq=J4 m e v:=⟨_,rfl⟩;rw[<-hbq] at hbs hbb HBs;obtain⟨ac,hac⟩: ∃ac,ac=c1+bT i:=⟨_,rfl⟩;rw[<-hac] at hRr;obtain⟨an,han⟩: ∃an,an=c1+bT (i+1):=⟨_,rfl⟩;have hwr:IntKind.i64.wrap (ac+bq)=an:=(by rw[show ac+bq=an by omega];exact IntWalk.i64_in _ (by omega));clear hve hbq hv;have r6:=(hRr.out.blk ⟨n6, #[.int .i64 d,.int .i64 m,.bool e],194⟩ (by simp)).1;have r60:wr.cell? ⟨n6,0,none⟩=some (.int .i64 d):=(by rw[Qb r6];rfl);have r61:wr.cell? ⟨n6,1,none⟩=some (.int .i64 m):=(by rw[Qb r6];rfl);have r62:wr.cell? ⟨n6,2,none⟩=some (.bool e):=(by rw[Qb r6];rfl);have r70:wr.cell? ⟨n7,0,none⟩=some (.string S):=(by rw[Qb (hRr.out.blk ⟨n7, #[.string S],9⟩ (by simp)).1];rfl);have r8:=(hRr.out.blk ⟨n8, #[.int .i64 ac],3⟩ (by simp)).1;have r80:wr.cell? ⟨n8,0,none⟩=some (.int .i64 ac):=(by rw[Qb r8];rfl);clear r6 r8;have hz6:=World.block_lt_of_cell? _ _ r60;have hiI:(i:Int)<(d:Int):=(by omega);replace hac:=Qa.mk hac;replace han:=Qa.mk han;replace hbs:=Qa.mk hbs;replace hb9:=Qa.mk hb9;replace hbb:=Qa.mk hbb;gi_wp2_with fail;refine Held.Zm (fun w'=>w'.cell? ⟨n6,0,none⟩=some (.int .i64 d)/\w'.cell? ⟨n6,1,none⟩=some (.int .i64 m)/\w'.cell? ⟨n6,2,none⟩=some (.bool e)/\w'.cell? ⟨n7,0,none⟩=some (.string S)/\w'.cell? ⟨n8,0,none⟩=some (.int .i64 ac)/\Below wr.heap.size wr w') [5] hmo (by kernel_rfl) (fun⟨_,_,h⟩=>h) ⟨r60,r61,r62,r70,r80,(Below.refl _ _).drew⟩ (fun hHeld=> ?_)
      (refine Tk.tl 0 (.int .i64 ac) hHeld ?_)
      (refine Tk.tl 1 (.agg #[.int .i64 d,.int .i64 m,.bool e]) hHeld ?_)
      (refine Tk.tl 2 (.int .i64 v) hHeld ?_)
      (refine Qd (rs:=[3]) (by kernel_rfl) (by simp) ?_;refine Qc.cons rfl (by decide) (fun K hK=> ?_) Qc.nil)
      go_simp;refine(HBs.out _).mono ?_;rintro en w1 ⟨rfl,hb1⟩;go_wp2_with fail;refine hK.out _ _ ⟨cnx hHeld.1 hb1,cnx hHeld.2.1 hb1,cnx hHeld.2.2.1 hb1,cnx hHeld.2.2.2.1 hb1,cnx hHeld.2.2.2.2.1 hb1,bnx hHeld.2.2.2.2.2 hb1⟩ (fun hHeld=> ?_);clear hK K
      try simp only[Act.put,Tk.z1,Tk.z2,Tk.z3,Tk.z4,Tk.z5,Tk.z6]
      (refine Tk.tl 4 (.int .i64 an) hHeld ?_)
      have hRs:=hRr.out.step hHeld.2.2.2.2.2;have G8:=(hRs.blk ⟨n8, #[.int .i64 ac],3⟩ (by simp)).1;have z80:w1.cell? ⟨n8,0,none⟩=some (.int .i64 ac):=(by rw[Qb G8];rfl);have y80:=Qf G8 0;clear G8;have hRn:=Bts.Rws.set (G1:=[⟨n6, #[.int .i64 d,.int .i64 m,.bool e],194⟩,⟨n7, #[.string S],9⟩]) (G2:=[⟨n9, #[.int .i64 d,.int .i64 m,.bool e],194⟩,⟨n9+1, #[.slice (some ad) l.length cap],22⟩]) (b:=⟨n8, #[.int .i64 ac],3⟩) hRs 0 (.int .i64 an);simp only[List.setIfInBounds_toArray,List.set_cons_zero,List.nil_append,List.cons_append] at hRn;have hKn:KeepsOthers wr (w1.setCell ⟨n8,0,none⟩ (.int .i64 an))/\Xj w.heap.size n9 (n9+1) wr (w1.setCell ⟨n8,0,none⟩ (.int .i64 an)):=⟨(Zr hHeld.2.2.2.2.2).trans (KeepsOthers.setCell w1 ⟨n8,0,none⟩ (.int .i64 an)),Xj.set (hHeld.2.2.2.2.2) hRr.out.below.size (by have:=hRr.out.blk ⟨n9, #[.int .i64 d,.int .i64 m,.bool e],194⟩ (by simp);exact(Array.getElem?_eq_some_iff.1 this.1).1) (by have:=hRr.out.blk ⟨n9+1, #[.slice (some ad) l.length cap],22⟩ (by simp);exact(Array.getElem?_eq_some_iff.1 this.1).1) (by have:=hn69.out;omega) (by have:=hn69.out;omega) (by have:=hn69.out;omega)⟩;obtain⟨wn,hwn⟩: ∃wn,wn=w1.setCell ⟨n8,0,none⟩ (.int .i64 an):=⟨_,rfl⟩;rw[<-hwn] at hRn hKn;replace hRn:=Qa.mk hRn;replace hKn:=Qa.mk hKn;replace hwn:=Qa.mk hwn;clear hRs
      (refine Qd (rs:=[5]) (by kernel_rfl) (by simp) ?_;refine Qc.Zp rfl (by decide) (fun K hK=> ?_) Qc.nil)
      go_simp;go_wp2_with fail;refine hK.out _ _ ?_;clear hK K
      try simp only[Act.put,Tk.z1,Tk.z2,Tk.z3,Tk.z4,Tk.z5,Tk.z6]
      refine Qo (by kernel_rfl) ?_ _;rw[<-hwn.out];clear z80 y80 hHeld hwn;clear r60 r61 r62 r70 r80 hcell hz6;gi_wp2;go_roundw
      case rel=>exact⟨i+1,by go_num,by omega,⟨by rw[<-han.out];exact hRn.out⟩,⟨hKr.out.1.trans hKn.out.1,hKr.out.2.trans hKn.out.2⟩⟩
      case measure=>simp[intOf];omega
     ·obtain rfl:i=d:=by omega
      gi_wp2;refine⟨hKr.out.1.from _,hKr.out.2,?_⟩;have h9:=hRr.out;rw[hfin.out] at h9;exact h9
   ·obtain rfl:k=0:=by omega
    obtain⟨c1,hc1⟩: ∃c1,c1=c0:=⟨_,rfl⟩;have hfin:Qa (c1+bT d=Zf 0 l (j+1)):=⟨by rw[hst,hE,if_neg (by omega),hbTd];omega⟩;have hSe0:S=⟨#[]⟩:=(by rw[hSe.out];rfl);have hc19:0<=c1/\c1<=200000:=(by omega);rw[<-hc1] at hRw a80 hI;have hKw:Qa (KeepsOthers W W/\Xj w.heap.size n9 (n9+1) W W):=⟨KeepsOthers.refl W,Below.refl _ _,rfl,rfl⟩;clear hc1 hwb hc09 hj9 HSy;replace hgl:=Qa.mk hgl;replace hga:=Qa.mk hga;clear hbTe hbTd hE hst hc0 hgr hag hgc hjd hj;have hne:S.toList.isEmpty=true:=(by rw[hSe0];decide+kernel);gi_wp2_with fail;clear a60 a61 a62 a70 a80 hz6;obtain⟨wz,hwz⟩: ∃wz:World,wz=W:=⟨_,rfl⟩;have hKz:Qa (KeepsOthers W wz/\Xj w.heap.size n9 (n9+1) W wz):=(by rw[hwz];exact hKw);have hRz:=hRw;rw[<-hwz] at hRz ⊢;clear hwz;have hbW:Below w.heap.size w wz:=hRz.out.below;obtain⟨wo,hwo⟩: ∃wo:World,wo=wz:=⟨_,rfl⟩;rw[<-hwo] at hRz hKz hbW ⊢;clear hwo;gi_wp2_with fail;gi_loopw [35] (fun x wr=> ∃i:Nat,x= .int .i64 i/\i<=d/\Qa (Rws w wr [] [⟨n6, #[.int .i64 d,.int .i64 m,.bool e],194⟩,⟨n7, #[.string S],9⟩,⟨n8, #[.int .i64 (c1+bT i)],3⟩,⟨n9, #[.int .i64 d,.int .i64 m,.bool e],194⟩,⟨n9+1, #[.slice (some ad) l.length cap],22⟩])/\Qa (KeepsOthers W wr/\Xj w.heap.size n9 (n9+1) W wr)) (fun x _=>d-(intOf x).toNat)
    case atStart=>exact⟨0,rfl,by omega,⟨by rw[hbT0.out,Int.add_zero];exact hRz.out⟩,hKz⟩
    case round=>
     obtain⟨i,rfl,hi,hRr,hKr⟩:=hrel;by_cases hlt:i<d
     ·obtain⟨ad2,had2,hcell⟩:=Qq HG.out hRr.out.below (show i<gr.length by have:=hgl.out;omega)
      cases had2;have hv:=Jd hga.out (Qt gr i (by have:=hgl.out;omega));have hbs:=hbTs.out i hlt;have hbb:=Pj (e:=e) hm9 hv;have hb9:=hbT9.out i (by omega);have HBs:=Qa.mk (fun(W':World)=>Gz d m e (rd gr i) W' hm9 hv.1 hv.2);obtain⟨v,hve⟩: ∃v,v=rd gr i:=⟨_,rfl⟩;rw[<-hve] at hcell hbs hbb HBs;obtain⟨bq,hbq⟩: ∃bq,bq=J4 m e v:=⟨_,rfl⟩;rw[<-hbq] at hbs hbb HBs;obtain⟨ac,hac⟩: ∃ac,ac=c1+bT i:=⟨_,rfl⟩;rw[<-hac] at hRr;obtain⟨an,han⟩: ∃an,an=c1+bT (i+1):=⟨_,rfl⟩;have hwr:IntKind.i64.wrap (ac+bq)=an:=(by rw[show ac+bq=an by omega];exact IntWalk.i64_in _ (by omega));clear hve hbq hv;have r6:=(hRr.out.blk ⟨n6, #[.int .i64 d,.int .i64 m,.bool e],194⟩ (by simp)).1;have r60:wr.cell? ⟨n6,0,none⟩=some (.int .i64 d):=(by rw[Qb r6];rfl);have r61:wr.cell? ⟨n6,1,none⟩=some (.int .i64 m):=(by rw[Qb r6];rfl);have r62:wr.cell? ⟨n6,2,none⟩=some (.bool e):=(by rw[Qb r6];rfl);have r70:wr.cell? ⟨n7,0,none⟩=some (.string S):=(by rw[Qb (hRr.out.blk ⟨n7, #[.string S],9⟩ (by simp)).1];rfl);have r8:=(hRr.out.blk ⟨n8, #[.int .i64 ac],3⟩ (by simp)).1;have r80:wr.cell? ⟨n8,0,none⟩=some (.int .i64 ac):=(by rw[Qb r8];rfl);clear r6 r8;have hz6:=World.block_lt_of_cell? _ _ r60;have hiI:(i:Int)<(d:Int):=(by omega);replace hac:=Qa.mk hac;replace han:=Qa.mk han;replace hbs:=Qa.mk hbs;replace hb9:=Qa.mk hb9;replace hbb:=Qa.mk hbb;gi_wp2_with fail;refine Held.Zm (fun w'=>w'.cell? ⟨n6,0,none⟩=some (.int .i64 d)/\w'.cell? ⟨n6,1,none⟩=some (.int .i64 m)/\w'.cell? ⟨n6,2,none⟩=some (.bool e)/\w'.cell? ⟨n7,0,none⟩=some (.string S)/\w'.cell? ⟨n8,0,none⟩=some (.int .i64 ac)/\Below wr.heap.size wr w') [5] hmo (by kernel_rfl) (fun⟨_,_,h⟩=>h) ⟨r60,r61,r62,r70,r80,(Below.refl _ _).drew⟩ (fun hHeld=> ?_)
      (refine Tk.tl 0 (.int .i64 ac) hHeld ?_)
      (refine Tk.tl 1 (.agg #[.int .i64 d,.int .i64 m,.bool e]) hHeld ?_)
      (refine Tk.tl 2 (.int .i64 v) hHeld ?_)
      (refine Qd (rs:=[3]) (by kernel_rfl) (by simp) ?_;refine Qc.cons rfl (by decide) (fun K hK=> ?_) Qc.nil)
      go_simp;refine(HBs.out _).mono ?_;rintro en w1 ⟨rfl,hb1⟩;go_wp2_with fail;refine hK.out _ _ ⟨cnx hHeld.1 hb1,cnx hHeld.2.1 hb1,cnx hHeld.2.2.1 hb1,cnx hHeld.2.2.2.1 hb1,cnx hHeld.2.2.2.2.1 hb1,bnx hHeld.2.2.2.2.2 hb1⟩ (fun hHeld=> ?_);clear hK K
      try simp only[Act.put,Tk.z1,Tk.z2,Tk.z3,Tk.z4,Tk.z5,Tk.z6]
      (refine Tk.tl 4 (.int .i64 an) hHeld ?_)
      have hRs:=hRr.out.step hHeld.2.2.2.2.2;have G8:=(hRs.blk ⟨n8, #[.int .i64 ac],3⟩ (by simp)).1;have z80:w1.cell? ⟨n8,0,none⟩=some (.int .i64 ac):=(by rw[Qb G8];rfl);have y80:=Qf G8 0;clear G8;have hRn:=Bts.Rws.set (G1:=[⟨n6, #[.int .i64 d,.int .i64 m,.bool e],194⟩,⟨n7, #[.string S],9⟩]) (G2:=[⟨n9, #[.int .i64 d,.int .i64 m,.bool e],194⟩,⟨n9+1, #[.slice (some ad) l.length cap],22⟩]) (b:=⟨n8, #[.int .i64 ac],3⟩) hRs 0 (.int .i64 an);simp only[List.setIfInBounds_toArray,List.set_cons_zero,List.nil_append,List.cons_append] at hRn;have hKn:KeepsOthers wr (w1.setCell ⟨n8,0,none⟩ (.int .i64 an))/\Xj w.heap.size n9 (n9+1) wr (w1.setCell ⟨n8,0,none⟩ (.int .i64 an)):=⟨(Zr hHeld.2.2.2.2.2).trans (KeepsOthers.setCell w1 ⟨n8,0,none⟩ (.int .i64 an)),Xj.set (hHeld.2.2.2.2.2) hRr.out.below.size (by have:=hRr.out.blk ⟨n9, #[.int .i64 d,.int .i64 m,.bool e],194⟩ (by simp);exact(Array.getElem?_eq_some_iff.1 this.1).1) (by have:=hRr.out.blk ⟨n9+1, #[.slice (some ad) l.length cap],22⟩ (by simp);exact(Array.getElem?_eq_some_iff.1 this.1).1) (by have:=hn69.out;omega) (by have:=hn69.out;omega) (by have:=hn69.out;omega)⟩;obtain⟨wn,hwn⟩: ∃wn,wn=w1.setCell ⟨n8,0,none⟩ (.int .i64 an):=⟨_,rfl⟩;rw[<-hwn] at hRn hKn;replace hRn:=Qa.mk hRn;replace hKn:=Qa.mk hKn;replace hwn:=Qa.mk hwn;clear hRs
      (refine Qd (rs:=[5]) (by kernel_rfl) (by simp) ?_;refine Qc.Zp rfl (by decide) (fun K hK=> ?_) Qc.nil)
      go_simp;go_wp2_with fail;refine hK.out _ _ ?_;clear hK K
      try simp only[Act.put,Tk.z1,Tk.z2,Tk.z3,Tk.z4,Tk.z5,Tk.z6]
      refine Qo (by kernel_rfl) ?_ _;rw[<-hwn.out];clear z80 y80 hHeld hwn;clear r60 r61 r62 r70 r80 hcell hz6;gi_wp2;go_roundw
      case rel=>exact⟨i+1,by go_num,by omega,⟨by rw[<-han.out];exact hRn.out⟩,⟨hKr.out.1.trans hKn.out.1,hKr.out.2.trans hKn.out.2⟩⟩
      case measure=>simp[intOf];omega
     ·obtain rfl:i=d:=by omega
      gi_wp2;refine⟨hKr.out.1.from _,hKr.out.2,?_⟩;have h9:=hRr.out;rw[hfin.out] at h9;exact h9
  case done=>
   rintro D W hD hRw hDf;have hgD:=grownBy_putObj' W D (.deferred none);have hsz:=hs7.out;have hbn:=hn69.out;have h1:Rws w (W.putObj D (.deferred none)) [] _:=Pre.Rws.turn hRw hgD (fun r e=>by cases e;exact⟨by omega,_,hDf,rfl⟩);have p3:W.cell? ⟨n8,0,none⟩=some (.int .i64 (Zf k l (l.length/d))):=(by rw[Qb (hRw.blk ⟨n8, #[.int .i64 (Zf k l (l.length/d))],3⟩ (by simp)).1];rfl);have hb:=h1.below;have hC:Qa (Yt k l=Zf k l (l.length/d)):=⟨by rw[hde.out];rfl⟩;gi_wp2;refine⟨by simp,.inl ⟨_,_,rfl,run_takeDeferred hDf,?_⟩⟩;exact⟨.int .i64 (Zf k l (l.length/d)),by simp[results,Tryz.f215,go_sem],by rw[hC.out],hb⟩
 ·intro hJ1
  replace hJ1:=Qa.mk hJ1;refine Qd (rs:=[6,7]) (by kernel_rfl) (by simp) ?_;refine Qc.cons rfl (by decide) (fun K hK=> ?_) (Qc.cons rfl (by decide) (fun K hK=> ?_) (Qc.nil))
  ·refine Zi (w1:=w.drew.alloc (.cells #[.int .i64 0,.int .i64 0,.bool false] 194)) (v:= .pointer (some ⟨w.drew.heap.size,0,none⟩)) (by kernel_rfl) rfl (by kernel_rfl) ?_
   have hRx:=hRw.out.alloc #[.int .i64 0,.int .i64 0,.bool false] 194;refine hK.out _ _ (hS.out _ hRx.below) (fun hHeld=> ?_);clear hK K
   try simp only[Act.put,Tk.z1,Tk.z2,Tk.z3,Tk.z4,Tk.z5,Tk.z6]
   obtain⟨x6,hxN⟩: ∃x,x=w.drew.alloc (.cells #[.int .i64 0,.int .i64 0,.bool false] 194):=⟨_,rfl⟩;obtain⟨n6,hnN⟩: ∃n,n=w.drew.heap.size:=⟨_,rfl⟩;rw[<-hxN] at hRx ⊢;rw[<-hnN] at hRx ⊢;clear hxN hnN;simp only[List.nil_append,List.cons_append] at hRx;replace hRw:=Qa.mk hRx;clear hRx
   (refine Qd (rs:=[7]) (by kernel_rfl) (by simp) ?_;refine Qc.cons rfl (by decide) (fun K hK=> ?_) Qc.nil)
   refine Zi (w1:=x6.alloc (.cells #[.string ⟨#[]⟩] 9)) (v:= .pointer (some ⟨x6.heap.size,0,none⟩)) (by kernel_rfl) rfl (by kernel_rfl) ?_;have hRx:=hRw.out.alloc #[.string ⟨#[]⟩] 9;refine hK.out _ _ (hS.out _ hRx.below) (fun hHeld=> ?_);clear hK K
   try simp only[Act.put,Tk.z1,Tk.z2,Tk.z3,Tk.z4,Tk.z5,Tk.z6]
   obtain⟨x7,hxN⟩: ∃x,x=x6.alloc (.cells #[.string ⟨#[]⟩] 9):=⟨_,rfl⟩;obtain⟨n7,hnN⟩: ∃n,n=x6.heap.size:=⟨_,rfl⟩;rw[<-hxN] at hRx ⊢;rw[<-hnN] at hRx ⊢;clear hxN hnN;simp only[List.nil_append,List.cons_append] at hRx;replace hRw:=Qa.mk hRx;clear hRx;exact Ka (by kernel_rfl) (by kernel_rfl) (hJ1.out (n6,n7) _ hRw.out)
  ·refine Zi (w1:=w.drew.alloc (.cells #[.string ⟨#[]⟩] 9)) (v:= .pointer (some ⟨w.drew.heap.size,0,none⟩)) (by kernel_rfl) rfl (by kernel_rfl) ?_
   have hRx:=hRw.out.alloc #[.string ⟨#[]⟩] 9;refine hK.out _ _ (hS.out _ hRx.below) (fun hHeld=> ?_);clear hK K
   try simp only[Act.put,Tk.z1,Tk.z2,Tk.z3,Tk.z4,Tk.z5,Tk.z6]
   obtain⟨x7,hxN⟩: ∃x,x=w.drew.alloc (.cells #[.string ⟨#[]⟩] 9):=⟨_,rfl⟩;obtain⟨n7,hnN⟩: ∃n,n=w.drew.heap.size:=⟨_,rfl⟩;rw[<-hxN] at hRx ⊢;rw[<-hnN] at hRx ⊢;clear hxN hnN;simp only[List.nil_append,List.cons_append] at hRx;replace hRw:=Qa.mk hRx;clear hRx
   (refine Qd (rs:=[6]) (by kernel_rfl) (by simp) ?_;refine Qc.cons rfl (by decide) (fun K hK=> ?_) Qc.nil)
   refine Zi (w1:=x7.alloc (.cells #[.int .i64 0,.int .i64 0,.bool false] 194)) (v:= .pointer (some ⟨x7.heap.size,0,none⟩)) (by kernel_rfl) rfl (by kernel_rfl) ?_;have hRx:=hRw.out.alloc #[.int .i64 0,.int .i64 0,.bool false] 194;refine hK.out _ _ (hS.out _ hRx.below) (fun hHeld=> ?_);clear hK K
   try simp only[Act.put,Tk.z1,Tk.z2,Tk.z3,Tk.z4,Tk.z5,Tk.z6]
   obtain⟨x6,hxN⟩: ∃x,x=x7.alloc (.cells #[.int .i64 0,.int .i64 0,.bool false] 194):=⟨_,rfl⟩;obtain⟨n6,hnN⟩: ∃n,n=x7.heap.size:=⟨_,rfl⟩;rw[<-hxN] at hRx ⊢;rw[<-hnN] at hRx ⊢;clear hxN hnN;simp only[List.nil_append,List.cons_append] at hRx;replace hRx:=Rws.intoG (G1:=[]) (G2:=[⟨n7, #[.string ⟨#[]⟩],9⟩]) (b:=⟨n6, #[.int .i64 0,.int .i64 0,.bool false],194⟩) hRx;simp only[List.nil_append,List.cons_append] at hRx;replace hRw:=Qa.mk hRx;clear hRx;exact Ka (by kernel_rfl) (by kernel_rfl) (hJ1.out (n6,n7) _ hRw.out)
end Bk

end Go.Proofs.YtnflnicdjioflaaGreatDoor
