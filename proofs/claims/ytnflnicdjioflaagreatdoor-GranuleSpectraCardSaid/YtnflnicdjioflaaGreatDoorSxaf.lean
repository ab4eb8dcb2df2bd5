/- A part of the proof. -/
import Derived.Test.YtnflnicdjioflaaGreatDoorSxae
set_option linter.unusedVariables false
set_option linter.unusedSimpArgs false
set_option maxRecDepth 100000
set_option maxHeartbeats 8000000
namespace Go.Proofs.YtnflnicdjioflaaGreatDoor
open Go.RowKit Go.Proofs.YtnflnicdjioflaaGreatDoorW.PrintWords Go.Proofs.YtnflnicdjioflaaGreatDoorW.PrintLast Go.Proofs.YtnflnicdjioflaaGreatDoorW.PrintMore
namespace Q21
attribute [local go_sem] Qh Qi Qk Ql Qd Qe
open Q15
def Ye (l:List Int):Bool:=decide (l.length<=12)&&Q16.rng (-127) 127 l
theorem Rm (A:Option Addr) (cap:Nat) (l:List Int) (w:World) (hr:(Kd.int .i64).C w A l.length l) (hl:l.length<=1000000):
  Calls Tryz.prog 118 #[.slice A l.length cap] w fun e w'=>e= .returned (.bool (Ye l))/\Below w.heap.size w w':=by
 have hb:=Below.refl w.heap.size w;have HC:=fun(W:World) (hb:Below w.heap.size w W)=>Xx 170 #[] #[] (J6 (-127) 127) A cap l W (fun _ _=>by kernel_rfl) (Kd.Qf hr hb) (by omega) (fun x _=>Eo W x)
 rw[Dn] at HC;unfold Ye;obtain⟨b,hbe⟩: ∃b,b=Q16.rng (-127) 127 l:=⟨_,rfl⟩;rw[<-hbe] at HC ⊢;replace HC:=Qa.mk HC;clear hr hbe;by_cases h12:l.length<=12
 ·rw[decide_eq_true h12]
  have h1:decide ((l.length:Int)<=12)=true:=decide_eq_true (by omega);clear h12 hl;cases b
  all_goals
   go_enter Tryz.func118,Tryz.ntmps118;go_wp2_with (first|(go_at_call 53;refine(HC.out _ hb).mono ?_;rintro e w' ⟨rfl,hbn⟩;replace hb:=bnx hb hbn;clear hbn));go_ret;exact⟨rfl,hb⟩
 ·rw[decide_eq_false h12]
  have h1:decide ((l.length:Int)<=12)=false:=decide_eq_false (by omega);clear h12 hl HC;go_enter Tryz.func118,Tryz.ntmps118;go_wp2;go_ret;exact⟨rfl,hb⟩
theorem Qem (A:Option Addr) (cap:Nat) (l:List Int) (w:World) (hr:(Kd.int .i64).C w A l.length l) (hl:l.length<=1000000):
  Calls Tryz.prog 178 #[.slice A l.length cap] w fun e w'=>e= .returned (.bool (Ye l))/\Below w.heap.size w w':=by
 have hb:=Below.refl w.heap.size w;have HC:=fun(W:World) (hb:Below w.heap.size w W)=>Q16.Y4 127 (by decide) A cap l W (Kd.Qf hr hb) (by omega)
 unfold Ye;obtain⟨b,hbe⟩: ∃b,b=Q16.rng (-127) 127 l:=⟨_,rfl⟩;rw[<-hbe] at HC ⊢;replace HC:=Qa.mk HC;clear hr hbe;by_cases h12:l.length<=12
 ·rw[decide_eq_true h12]
  have h1:decide ((l.length:Int)<=12)=true:=decide_eq_true (by omega);clear h12 hl;cases b
  all_goals
   go_enter Tryz.func178,Tryz.ntmps178;go_wp2_with (first|(go_at_call 23;refine(HC.out _ hb).mono ?_;rintro e w' ⟨rfl,hbn⟩;replace hb:=bnx hb hbn;clear hbn));go_ret;exact⟨rfl,hb⟩
 ·rw[decide_eq_false h12]
  have h1:decide ((l.length:Int)<=12)=false:=decide_eq_false (by omega);clear h12 hl HC;go_enter Tryz.func178,Tryz.ntmps178;go_wp2;go_ret;exact⟨rfl,hb⟩
theorem X5 (A:Option Addr) (cap:Nat) (l:List Int) (lo hi:Int) (w:World) (hr:(Kd.int .i64).C w A l.length l) (hl:l.length<=1000000):
  Calls Tryz.prog 26 #[.slice A l.length cap,.int .i64 lo,.int .i64 hi] w fun e w'=>e= .returned (.bool (Q16.rng lo hi l))/\Below w.heap.size w w':=by
 have hb:=Below.refl w.heap.size w;have HC:=fun(W:World) (a b:Addr) (hb:Below w.heap.size w W) (h1:W.cell? a=some (.int .i64 lo)) (h2:W.cell? b=some (.int .i64 hi))=>Xx 54 #[] #[.pointer (some a),.pointer (some b)] (J6 lo hi) A cap l W (fun _ _=>by kernel_rfl) (Kd.Qf hr hb) (by omega) (fun x _=>Qcm W a b lo hi h1 h2 x)
 rw[Dn] at HC;obtain⟨b,hbe⟩: ∃b,b=Q16.rng lo hi l:=⟨_,rfl⟩;rw[<-hbe] at HC ⊢;replace HC:=Qa.mk HC;clear hr hbe hl;cases b
 all_goals
  go_enter Tryz.func26,Tryz.ntmps26;go_wp2_with fail;obtain⟨W,hW⟩: ∃W,W=(w.alloc (.cells #[.int .i64 lo] 3)).alloc (.cells #[.int .i64 hi] 3):=⟨_,rfl⟩;rw[<-hW];have k0:W.cell? ⟨w.heap.size,0,none⟩=some (.int .i64 lo):=(by rw[hW];go_simp);have k1:W.cell? ⟨w.heap.size+1,0,none⟩=some (.int .i64 hi):=(by rw[hW];go_simp);replace hb:Below w.heap.size w W:=(by rw[hW];exact(hb.alloc hb.size _).alloc (hb.alloc hb.size _).size _);clear hW;refine(HC.out W _ _ hb k0 k1).mono ?_;rintro _ w1 ⟨rfl,hbn⟩;replace hb:=bnx hb hbn;clear hbn k0 k1;go_wp2_with fail;go_ret;exact⟨rfl,hb⟩
end Q21

namespace Q21
attribute [local go_sem] Qh Qi Qk Ql Qd Qe
open Q15
theorem Cx (A:Option Addr) (cap:Nat) (l:List Int) (w:World) (hr:(Kd.int .i64).C w A l.length l) (hl:l.length<=1000000):
  Calls Tryz.prog 32 #[.slice A l.length cap] w fun e w'=>e= .returned (.bool (Q16.rng 0 95 l))/\Below w.heap.size w w':=by
 have HR:=Qa.mk hr;have hlI:(l.length:Int)<=1000000:=(by omega);have HF:Qa (∀k,k<l.length-> ¬(0<=rd l k/\rd l k<=95)->Q16.rng 0 95 l=false):=⟨fun k hk h=>List.all_eq_false.2 ⟨_,Qp l k hk,by simpa using h⟩⟩;have HT:Qa ((∀x∈l,0<=x/\x<=95)->Q16.rng 0 95 l=true):=⟨fun h=>List.all_eq_true.2 fun x hx=>decide_eq_true (h x hx)⟩;obtain⟨b,hbe⟩: ∃b,b=Q16.rng 0 95 l:=⟨_,rfl⟩;rw[<-hbe] at HF HT ⊢;clear hr hl hbe;go_enter Tryz.func32,Tryz.ntmps32;go_wp2;go_loopw [7] (fun i wr=> ∃k:Nat,i= .int .i64 k/\k<=l.length/\Qa (∀x∈l.take k,0<=x/\x<=95)/\Below w.heap.size w wr) (fun i _=>l.length-(intOf i).toNat)
 case atStart=>exact⟨0,rfl,by omega,⟨by simp⟩,Below.refl _ _⟩
 case round=>
  obtain⟨k,rfl,hk,ha,hb⟩:=hrel;by_cases hlt:k<l.length
  ·obtain⟨ad,rfl,hcell⟩:=Qn HR.out hb hlt
   have hT:=Qa.mk (Qu l k hlt);have hf:=HF.out k hlt;have hkI:(k:Int)<(l.length:Int):=(by omega);obtain⟨n,hx⟩: ∃n,n=rd l k:=⟨_,rfl⟩;rw[<-hx] at hcell hT hf;replace hf:=Qa.mk hf;clear hx;by_cases h1:n<0
   ·have hff:=Qa.mk (hf.out (by omega))
    go_wp2;go_ret;exact⟨by rw[hff.out];rfl,hb⟩
   ·by_cases h2:95<n
    ·have hff:=Qa.mk (hf.out (by omega))
     have h1':decide (n<0)=false:=(by simpa using h1);go_wp2;go_ret;exact⟨by rw[hff.out];rfl,hb⟩
    ·have h1':decide (n<0)=false:=by simpa using h1
     have h2':decide (95<n)=false:=(by simpa using h2);have h3:Qa (0<=n/\n<=95):=⟨by omega⟩;clear h1 h2;go_wp2;go_roundw
     case rel=>exact⟨k+1,by go_num,by omega,⟨by
      rw[hT.out];intro x hx;rcases List.mem_append.1 hx with hx|hx
      ·exact ha.out x hx
      ·rw[List.mem_singleton.1 hx];exact h3.out⟩,hb⟩
     case measure=>simp[intOf];omega
  ·obtain rfl:k=l.length:=by omega
   have hA:=ha.out;rw[List.take_length] at hA;have hff:=Qa.mk (HT.out hA);clear ha hA;go_wp2;go_ret;exact⟨by rw[hff.out];rfl,hb⟩
theorem Qbf (A0 A1:Option Addr) (c0 c1:Nat) (l0 l1:List Int) (w:World) (hr0:(Kd.int .i64).C w A0 l0.length l0) (hr1:(Kd.int .i64).C w A1 l1.length l1) (hl:l0.length<=1099511627776):
  Calls Tryz.prog 34 #[.slice A0 l0.length c0,.slice A1 l1.length c1] w fun e w'=>e= .returned (.bool (decide (l0=l1)))/\Below w.heap.size w w':=by
 by_cases hn:l0.length=l1.length
 ·have HR0:=Qa.mk hr0
  have HR1:=Qa.mk hr1;rw[<-hn] at HR1 ⊢;have HN:=Qa.mk hn;clear hn hr0 hr1;go_enter Tryz.func34,Tryz.ntmps34;go_wp2;go_loopw [13] (fun i wr=> ∃k:Nat,i= .int .i64 k/\k<=l0.length/\Qa (l0.take k=l1.take k)/\Below w.heap.size w wr) (fun i _=>l0.length-(intOf i).toNat)
  case atStart=>exact⟨0,rfl,by omega,⟨rfl⟩,Below.refl _ _⟩
  case round=>
   obtain⟨k,rfl,hk,ha,hb⟩:=hrel;by_cases hlt:k<l0.length
   ·obtain⟨ad0,rfl,hcell0⟩:=Kd.Cz HR0.out (k:Int) (by omega) (by omega)
    obtain⟨ad1,rfl,hcell1⟩:=Kd.Cz HR1.out (k:Int) (by omega) (by omega);rw[Int.toNat_natCast] at hcell0 hcell1;replace hcell0:=cnx hcell0 hb;replace hcell1:=cnx hcell1 hb;have HT0:=Qa.mk (Qu l0 k hlt);have HT1:=Qa.mk (Qu l1 k (by have:=HN.out;omega));have hd0:=Yl l0 k hlt;have hd1:=Yl l1 k (by have:=HN.out;omega);have HNE:Qa (rd l0 k≠rd l1 k->l0≠l1):=⟨fun h e=>h (by rw[e])⟩;obtain⟨x,hx⟩: ∃x,x=rd l0 k:=⟨_,rfl⟩;obtain⟨y,hy⟩: ∃y,y=rd l1 k:=⟨_,rfl⟩;rw[<-hx] at hcell0 HT0 HNE;rw[<-hy] at hcell1 HT1 HNE;clear hx hy hd0 hd1;by_cases he:x=y
    ·subst he
     go_wp2;go_quiet (fail);go_wp2;go_roundw
     case rel=>exact⟨k+1,by go_num,by omega,⟨by rw[HT0.out,HT1.out,ha.out]⟩,below_drewN' hb nq⟩
     case measure=>simp[intOf];omega
    ·have HNE2:=Qa.mk (HNE.out he)
     have he2:(x != y)=true:=(by rw[bne_iff_ne];exact he);go_wp2;go_quiet (fail);go_wp2;go_ret;exact⟨by rw[decide_eq_false HNE2.out];rfl,below_drewN' hb nq⟩
   ·obtain rfl:k=l0.length:=by omega
    have e:l0=l1:=by
     have h1:=ha.out;rw[List.take_length,HN.out,List.take_length] at h1;exact h1
    have HE:=Qa.mk e;clear e;go_wp2;go_ret;exact⟨by rw[decide_eq_true HE.out];rfl,hb⟩
 ·have he:l0≠l1:=fun h=>hn (by rw[h])
  rw[decide_eq_false he];have hn2:(l0.length != l1.length)=true:=(by rw[bne_iff_ne];exact hn);have hn3:((l0.length:Int) != (l1.length:Int))=true:=(by rw[bne_iff_ne];omega);clear hn he;go_enter Tryz.func34,Tryz.ntmps34;go_wp2;go_ret;exact⟨rfl,Below.refl _ _⟩
theorem Qca (A:Option Addr) (cap n:Nat) (ch many:Int) (w:World):
  Calls Tryz.prog 45 #[.slice A n cap,.int .i64 ch,.int .i64 many] w fun e w'=>e= .returned (.bool (if ch=1 then decide (n=0) else decide ((n:Int)=many)))/\Below w.heap.size w w':=by
 have hb:=Below.refl w.heap.size w;by_cases h1:ch=1
 ·rw[if_pos h1]
  subst h1;by_cases h0:n=0
  ·rw[decide_eq_true h0]
   have h2:((n:Int)==0)=true:=beq_iff_eq.2 (by omega);clear h0;go_enter Tryz.func45,Tryz.ntmps45;go_wp2;go_ret;exact⟨rfl,hb⟩
  ·rw[decide_eq_false h0]
   have h2:((n:Int)==0)=false:=beq_eq_false_iff_ne.2 (by omega);clear h0;go_enter Tryz.func45,Tryz.ntmps45;go_wp2;go_ret;exact⟨rfl,hb⟩
 ·rw[if_neg h1]
  have h3:(ch==1)=false:=beq_eq_false_iff_ne.2 h1;by_cases h0:(n:Int)=many
  ·rw[decide_eq_true h0]
   have h2:((n:Int)==many)=true:=beq_iff_eq.2 h0;clear h0 h1;go_enter Tryz.func45,Tryz.ntmps45;go_wp2;go_ret;exact⟨rfl,hb⟩
  ·rw[decide_eq_false h0]
   have h2:((n:Int)==many)=false:=beq_eq_false_iff_ne.2 h0;clear h0 h1;go_enter Tryz.func45,Tryz.ntmps45;go_wp2;go_ret;exact⟨rfl,hb⟩
theorem K4 (A:Option Addr) (cap n:Nat) (ch many:Int) (w:World):
  Calls Tryz.prog 51 #[.slice A n cap,.int .i64 ch,.int .i64 many] w fun e w'=>e= .returned (.bool (if ch=1 then decide (n=0) else decide ((n:Int)=many)))/\Below w.heap.size w w':=by
 have hb:=Below.refl w.heap.size w;by_cases h1:ch=1
 ·rw[if_pos h1]
  subst h1;by_cases h0:n=0
  ·rw[decide_eq_true h0]
   have h2:((n:Int)==0)=true:=beq_iff_eq.2 (by omega);clear h0;go_enter Tryz.func51,Tryz.ntmps51;go_wp2;go_ret;exact⟨rfl,hb⟩
  ·rw[decide_eq_false h0]
   have h2:((n:Int)==0)=false:=beq_eq_false_iff_ne.2 (by omega);clear h0;go_enter Tryz.func51,Tryz.ntmps51;go_wp2;go_ret;exact⟨rfl,hb⟩
 ·rw[if_neg h1]
  have h3:(ch==1)=false:=beq_eq_false_iff_ne.2 h1;by_cases h0:(n:Int)=many
  ·rw[decide_eq_true h0]
   have h2:((n:Int)==many)=true:=beq_iff_eq.2 h0;clear h0 h1;go_enter Tryz.func51,Tryz.ntmps51;go_wp2;go_ret;exact⟨rfl,hb⟩
  ·rw[decide_eq_false h0]
   have h2:((n:Int)==many)=false:=beq_eq_false_iff_ne.2 h0;clear h0 h1;go_enter Tryz.func51,Tryz.ntmps51;go_wp2;go_ret;exact⟨rfl,hb⟩
end Q21

namespace Q21
attribute [local go_sem] Qh Qi Qk Ql Qd Qe
open Q15
def rnd (x:Int):Int:=(2*x+128)/256
theorem tq (a b:Int) (hb:0<b):b*a.tdiv b+a.tmod b=a/\ -b<a.tmod b/\a.tmod b<b:=by
 have h1:=Int.tmod_lt_of_pos a hb;have h2:=Int.tmod_lt_of_pos (-a) hb;rw[Int.neg_tmod] at h2;exact⟨Int.mul_tdiv_add_tmod a b,by omega,h1⟩
theorem Qat (x:Int) (w:World) (h0: -1099511627776<=x) (h1:x<=1099511627776):
  Calls Tryz.prog 172 #[.int .i64 x,.int .i64 128] w fun e w'=>e= .returned (.int .i64 (rnd x))/\Below w.heap.size w w':=by
 have ht:=tq (2*x+128) 256 (by decide);have hv:rnd x=(2*x+128)/256:=rfl;have hq: -4294967296*256<=(2*x+128).tdiv 256/\(2*x+128).tdiv 256<=4294967296*256:=(by omega);by_cases hm:(2*x+128).tmod 256<0
 ·have e:Qa (rnd x=(2*x+128).tdiv 256-1):=⟨by rw[hv];omega⟩
  clear ht hv;obtain⟨r,hr⟩: ∃r,r=rnd x:=⟨_,rfl⟩;rw[<-hr] at e ⊢;clear hr;go_enter Tryz.func172,Tryz.ntmps172;go_wp2;go_ret;exact⟨by rw[e.out];rfl,Below.refl _ _⟩
 ·have e:Qa (rnd x=(2*x+128).tdiv 256):=⟨by rw[hv];omega⟩
  have hm':decide ((2*x+128).tmod 256<0)=false:=(by simpa using hm);clear ht hv;obtain⟨r,hr⟩: ∃r,r=rnd x:=⟨_,rfl⟩;rw[<-hr] at e ⊢;clear hr;go_enter Tryz.func172,Tryz.ntmps172;go_wp2;go_ret;exact⟨by rw[e.out];rfl,Below.refl _ _⟩
theorem down_calls (x:Int) (w:World) (h0: -1099511627776<=x) (h1:x<=1099511627776):
  Calls Tryz.prog 180 #[.int .i64 x,.int .i64 128] w fun e w'=>e= .returned (.int .i64 (x/128))/\Below w.heap.size w w':=by
 have ht:=tq x 128 (by decide);have hq: -4294967296*256<=x.tdiv 128/\x.tdiv 128<=4294967296*256:=(by omega);by_cases hm:x.tmod 128<0
 ·have e:Qa (x/128=x.tdiv 128-1):=⟨by omega⟩
  clear ht;obtain⟨r,hr⟩: ∃r,r=x/128:=⟨_,rfl⟩;rw[<-hr] at e ⊢;clear hr;go_enter Tryz.func180,Tryz.ntmps180;go_wp2;go_ret;exact⟨by rw[e.out];rfl,Below.refl _ _⟩
 ·have e:Qa (x/128=x.tdiv 128):=⟨by omega⟩
  have hm':decide (x.tmod 128<0)=false:=(by simpa using hm);clear ht;obtain⟨r,hr⟩: ∃r,r=x/128:=⟨_,rfl⟩;rw[<-hr] at e ⊢;clear hr;go_enter Tryz.func180,Tryz.ntmps180;go_wp2;go_ret;exact⟨by rw[e.out];rfl,Below.refl _ _⟩
theorem Qb2 (x:Int) (w:World) (h0: -1099511627776<=x) (h1:x<=1099511627776):
  Calls Tryz.prog 211 #[.int .i64 x,.int .i64 128] w fun e w'=>e= .returned (.int .i64 (rnd x))/\Below w.heap.size w w':=by
 have hb:=Below.refl w.heap.size w;have HD:=down_calls x w h0 h1;have hd:128*(x/128)<=x/\x<128*(x/128)+128:=(by omega);have hv:rnd x=(2*x+128)/256:=rfl;obtain⟨q,hq⟩: ∃q,q=x/128:=⟨_,rfl⟩;rw[<-hq] at HD hd;have hqb: -4294967296*256<=q/\q<=4294967296*256:=(by omega);replace HD:=Qa.mk HD;by_cases hm:128-(x-q*128)<=x-q*128
 ·have e:Qa (rnd x=q+1):=⟨by rw[hv];omega⟩
  clear hv hq;obtain⟨r,hr⟩: ∃r,r=rnd x:=⟨_,rfl⟩;rw[<-hr] at e ⊢;clear hr;go_enter Tryz.func211,Tryz.ntmps211;go_wp2_with (first|(go_at_call 180;refine(HD.out).mono ?_;rintro e w' ⟨rfl,hbn⟩;replace hb:=bnx hb hbn;clear hbn));go_ret;exact⟨by rw[e.out];rfl,hb⟩
 ·have e:Qa (rnd x=q):=⟨by rw[hv];omega⟩
  have hm':decide (128-(x-q*128)<=x-q*128)=false:=(by simpa using hm);clear hv hq;obtain⟨r,hr⟩: ∃r,r=rnd x:=⟨_,rfl⟩;rw[<-hr] at e ⊢;clear hr;go_enter Tryz.func211,Tryz.ntmps211;go_wp2_with (first|(go_at_call 180;refine(HD.out).mono ?_;rintro e w' ⟨rfl,hbn⟩;replace hb:=bnx hb hbn;clear hbn));go_ret;exact⟨by rw[e.out];rfl,hb⟩
end Q21

namespace Q21
attribute [local go_sem] Qh Qi Qk Ql Qd Qe
open Q15
def Vt (a:List Int) (k:Int) (i:Nat):Int:=rd a i+rnd (k*rd a ((a.length-1-i:Nat):Int))
def Tq (a:List Int) (k:Int):List Int:=((List.range a.length).map (Vt a k))++[32*k]
def Qy (f:List Int):List Int:=f.foldl Tq []
theorem Ah {k y M:Int} (hk: -127<=k/\k<=127) (hy: -M<=y/\y<=M): -(127*M)<=k*y/\k*y<=127*M:=by
 have h1:(k*y).natAbs =k.natAbs*y.natAbs:=Int.natAbs_mul k y;have h2:k.natAbs*y.natAbs<=127*M.natAbs:=Nat.mul_le_mul (by omega) (by omega);omega
theorem Qcb {k y M:Int} (hk: -127<=k/\k<=127) (hy: -M<=y/\y<=M): -M<=rnd (k*y)/\rnd (k*y)<=M:=by
 have h:=Ah hk hy;unfold rnd
 generalize k*y=p at h ⊢
 omega
theorem Vi (f:List Int):(Qy f).length =f.length:=by
 have: ∀(f a:List Int),(f.foldl Tq a).length =a.length+f.length:=fun f=>by
  induction f with
  |nil=>intro a;simp
  |cons k t ih=>intro a;rw[List.foldl_cons,ih];unfold Tq;simp;omega
 rw[Qy,this];simp
theorem stepF_bd {a:List Int} {k M:Int} (hk: -127<=k/\k<=127) (hM:4096<=M) (ha: ∀x∈a,-M<=x/\x<=M): ∀x∈Tq a k,-(2*M)<=x/\x<=2*M:=by
 intro x hx;unfold Tq at hx;rcases List.mem_append.1 hx with hx|hx
 ·obtain⟨i,hi,rfl⟩:=List.mem_map.1 hx
  replace hi:=List.mem_range.1 hi;have h1:=ha _ (Qp a i hi);have h2:=ha _ (Qp a (a.length-1-i) (by omega));have h3:=Qcb hk h2;unfold Vt;omega
 ·rw[List.mem_singleton.1 hx];omega
def Kj (a:List Int) (k:Int) (j:Nat):List Int:=(List.range a.length).map fun i=>if i<j then Vt a k i else rd a i
theorem Nw (a:List Int) (k:Int) (j i:Nat) (h:i<(Kj a k j).length):(Kj a k j)[i]=if i<j then Vt a k i else rd a i:=by simp[Kj]
theorem Qew (a:List Int) (k:Int):Kj a k 0=a:=by
 refine List.ext_getElem (by simp[Kj]) (fun i h1 h2=> ?_);rw[Nw,if_neg (by omega)];exact Yl a i h2
theorem Ny (a:List Int) (k:Int) (j:Nat):(Kj a k j).length =a.length:=by unfold Kj;simp
theorem Qev (a:List Int) (k:Int) {j:Nat} (hj:j<a.length):Kj a k (j+1)=(Kj a k j).set j (Vt a k j):=by
 refine List.ext_getElem (by simp[Kj]) (fun i h1 h2=> ?_);rw[List.getElem_set,Nw,Nw];by_cases h:j=i
 ·subst h;rw[if_pos (by omega),if_pos rfl]
 ·rw[if_neg h]
  by_cases h3:i<j
  ·rw[if_pos h3,if_pos (by omega)]
  ·rw[if_neg h3,if_neg (by omega)]
theorem updF_all (a:List Int) (k:Int):Kj a k a.length=(List.range a.length).map (Vt a k):=by
 unfold Kj;refine List.map_congr_left fun i hi=> ?_
 rw[if_pos (List.mem_range.1 hi)]
theorem rd_updF (a:List Int) (k:Int) {j:Nat} (hj:j<a.length):rd (Kj a k j) j=rd a j:=by
 rw[Yl _ _ (by rw[Ny];exact hj),Nw,if_neg (by omega)]
end Q21

namespace Q21
attribute [local go_sem] Qh Qi Qk Ql Qd Qe
open Q15
theorem add_mk (g j:Nat):(⟨g,0,none⟩:Addr).add j=⟨g,j,none⟩:=by
 unfold Addr.add
 split<;>simp_all
theorem add_block (a:Addr) (j:Nat):(a.add j).block =a.block:=by
 unfold Addr.add
 split<;>rfl
theorem Qbv {w1 W W':World} {b:Nat} (h1:w1.grownBy W (some b)) (h2:Below W.heap.size W W'):w1.grownBy W' (some b):=
 ⟨h2.os.trans h1.os,h2.tape.trans h1.tape,h2.output.trans h1.output,Nat.le_trans h1.size h2.size,fun k hk hne=>(h2.block k (Nat.lt_of_lt_of_le hk h1.size)).trans (h1.block k hk hne)⟩
theorem Ir {w1 W:World} {b B:Nat} (h1:w1.grownBy W (some b)) (hb:B<=b) (hs:B<=w1.heap.size):Below B w1 W:=
 ⟨h1.os,h1.tape,h1.output,h1.size,fun k hk=>h1.block k (by omega) (fun e=>by injection e with e;omega)⟩
theorem Qd7 {w1 W:World} {b:Nat} (h1:w1.grownBy W (some b)) {p:Addr} (hp:p.block=b) (u:Value):w1.grownBy (W.setCell p u) (some b):=
 ⟨h1.os,h1.tape,h1.output,by simpa[World.setCell] using h1.size,fun k hk hne=>(Below.heap_setCell W p u k (fun e=>hne (by rw[e,hp]))).trans (h1.block k hk hne)⟩
theorem Qb {w:World} {B:Nat} {cs:Array Value} {t:TypeId} (h:w.heap[B]? =some (.cells cs t (0,0))) (i:Nat):w.cell? ⟨B,i,none⟩=cs[i]? :=by
 unfold World.cell?;rw[h];rfl
theorem Qj {w:World} {B:Nat} {cs:Array Value} {t:TypeId} (h:w.heap[B]? =some (.cells cs t (0,0))) (i:Nat):w.frozen? ⟨B,i,none⟩=false:=by
 unfold World.frozen?;rw[h];simp
theorem Ko {w:World} {e base:Nat} {ad:Addr} {n p:Nat} {xs:List Int} (h:(Kd.int .i64).R e w base (fun _=>True) (.slice (some ad) n p) xs):ad=⟨ad.block,0,none⟩/\base<=ad.block/\ad.block<w.heap.size/\(∃cur,w.heap[ad.block]? =some (.cells cur e (0,0)))/\ ∀i:Nat,i<xs.length->w.cell? (ad.add i)=some (.int .i64 (rd xs i)):=by
 have ho:=Kd.Yg (enc:=Value.int .i64) (h1:=fun _=>rfl) h;have hC:=Kd.Qs h;obtain⟨A,p',e1,_,hC⟩:=hC
 injection e1 with e1 e2 e3
 subst e1;rcases ho.2 with ⟨e1,_⟩|⟨g,cap,cur,e1,hb,hh,_⟩
 ·injection e1 with e1
  cases e1
 ·injection e1 with e1
  cases e1;refine⟨rfl,hb,Qr hh,⟨cur,hh⟩,fun i hi=> ?_⟩;obtain⟨ad,e2,hc⟩:=Qn hC (Below.refl _ _) hi;cases e2;exact hc
theorem Gw (B:Nat) (v:Value) (a:List Int) (k M:Int) (w:World) (hB:w.heap[B]? =some (.cells #[v] 22 (0,0))) (hR:(Kd.int .i64).R 3 w (B+1) (fun _=>True) v a) (hal:a.length<=12) (hk: -127<=k/\k<=127) (hM0:0<=M) (hMb:M<=16777216) (hM: ∀x∈a,-M<=x/\x<=M):
  Calls Tryz.prog 171 #[.int .i64 k,.pointer (some ⟨B,0,none⟩)] w fun e w'=>e= .returned (.tuple #[])/\(∃v',w'.heap[B]? =some (.cells #[v'] 22 (0,0))/\(Kd.int .i64).R 3 w' (B+1) (fun _=>True) v' (Tq a k))/\Below B w w':=by
 have hBs:=Qr hB;obtain⟨A,p,rfl,hp,hC⟩:=Kd.Qs hR;have HK:=Qa.mk (Km A p a w hC (by omega));have k0:w.cell? ⟨B,0,none⟩=some (.slice A a.length p):=(by rw[Qb hB];rfl);have hs32:IntKind.i64.wrap (32*k)=32*k:=IntWalk.i64_in _ (by omega)
 cases A with
 |none=>
  have ha0:a=[]:=by
   obtain⟨_,_,h⟩:=hC;rcases Nat.eq_zero_or_pos a.length with h1|h1
   ·exact List.length_eq_zero_iff.1 h1
   ·obtain⟨a,e,_⟩:=h h1
    cases e
  subst ha0;have HR:=Qa.mk hR;have HB:=Qa.mk hB;have hBs':=Qa.mk hBs;have f0:=Qj hB 0;clear hR hB hM hC hBs;go_enter Tryz.func171,Tryz.ntmps171;go_wp2_with fail;refine HK.out.mono ?_;rintro e w1 ⟨u,rfl,hU,hbn⟩;obtain⟨Aw,pw,rfl,-,-⟩:=Kd.Qs hU;have hBw:w1.heap[B]? =some (.cells #[.slice none ([]:List Int).length p] 22 (0,0)):=(hbn.block B hBs'.out).trans HB.out;have c1:w1.cell? ⟨B,0,none⟩=some (.slice none ([]:List Int).length p):=(by rw[Qb hBw];rfl);have f1:=Qj hBw 0;have hR1:=Qa.mk (Kd.Q4 HR.out hbn);have hbn':=Qa.mk hbn;have hsz:Qa (B+1<=w1.heap.size):=⟨Qr hBw⟩;have hlen:Qa ((([]:List Int).length +1)*8<=140737488355328):=⟨by simp⟩;have hBw':=Qa.mk hBw;clear k0 f0 hbn hU hBw;go_wp2_with fail;refine wp_loop_rounds 1 ?_;rw[rounds_succ];go_wp2_with (first|(at_builtin;refine Kd.Q3 (Kd.int .i64) (w0:=w1) (B+1) rfl (.tmp 30) (.tmp 33) 22 3 (.int .i64 0) 8 rfl Tryz.underlying22 Qw rfl (by decide) (by decide) (.slice none ([]:List Int).length p) [] (32*k) [.int .i64 (32*k)] (fun _=>True) (fun _=>False) rfl rfl rfl (fun _ hk=>hk.elim) (fun _ _=>trivial) hR1.out (Below.refl _ _) hsz.out hlen.out ?_;intro v1 wA hoA hbA hgA hatA;obtain⟨A6,p6,rfl,-,-⟩:=Kd.Qs hoA;have HOA:=Qa.mk hoA;have HBA:=Qa.mk hbA;have hBA:=(hbA.block B (Nat.lt_succ_self B)).trans hBw'.out;have c2:wA.cell? ⟨B,0,none⟩=some (.slice none ([]:List Int).length p):=(by rw[Qb hBA];rfl);have f2:=Qj hBA 0;have hBA':=Qa.mk hBA;clear hoA hbA hgA hatA hBA));go_end0;refine⟨rfl,⟨_,Q9 hBA'.out 0 _,?_⟩,?_⟩
  ·exact Kd.Xz (Kd.U7 (p:=⟨B,0,none⟩) (Kd.Zd HOA.out) (fun k hk e=>by have:=hk.2.1;simp at e;omega) _) (fun _ _=>trivial)
  ·exact((hbn'.out.mono (Nat.le_of_lt hBs'.out)).trans (HBA.out.mono (Nat.le_succ B))).setCell (p:=⟨B,0,none⟩) (Nat.le_refl B) _
 |some ad=>
  obtain⟨had,hg1,hg2,⟨cur,hcur⟩,hcells⟩:=Ko hR;have HR:=Qa.mk hR;have hnI:(a.length:Int)<=12:=(by omega);have HB:=Qa.mk hB;have hneB:Qa (some B≠some ad.block):=⟨fun h=>by injection h with h;omega⟩;have HMM:=Qa.mk (fun i (hi:i<a.length)=>hM _ (Qp a i hi));replace had:=Qa.mk had;have hg1':=Qa.mk hg1;have hg2':=Qa.mk hg2;have hBs':=Qa.mk hBs;have hmo:=Qa.mk (show Tryz.prog.follows .mixedOrders =true by kernel_rfl);clear hR hB hM hC hcur hcells hg1 hg2 hBs;go_enter Tryz.func171,Tryz.ntmps171;go_wp2_with fail;refine HK.out.mono ?_;rintro e w1 ⟨u,rfl,hU,hbn⟩;have hU2:=Kd.Qs hU;obtain⟨Aw,pw,rfl,_,hCw⟩:=hU2;replace hU:=Qa.mk hU;replace hCw:=Qa.mk hCw;have hB1:Qa (w1.heap[B]? =some (.cells #[.slice (some ad) a.length p] 22 (0,0))):=⟨(hbn.block B hBs'.out).trans HB.out⟩;have hR1:=Qa.mk (Kd.Q4 HR.out hbn);have hbn':=Qa.mk hbn;clear hbn k0;go_wp2_with fail;go_loopw [9] (fun i wr=> ∃j:Nat,i= .int .i64 j/\j<=a.length/\Qa ((Kd.int .i64).R 3 wr (B+1) (fun _=>True) (.slice (some ad) a.length p) (Kj a k j))/\Qa (w1.grownBy wr (some ad.block))) (fun i _=>a.length-(intOf i).toNat)
  case atStart=>exact⟨0,rfl,by omega,⟨by rw[Qew];exact hR1.out⟩,⟨⟨rfl,rfl,rfl,Nat.le_refl _,fun _ _ _=>rfl⟩⟩⟩
  case round=>
   obtain⟨j,rfl,hj,ho,hG⟩:=hrel;by_cases hlt:j<a.length
   ·obtain⟨-,-,-,⟨cur,hcur⟩,hcells⟩:=Ko ho.out
    have c2:=hcells j (by rw[Ny];exact hlt);rw[rd_updF a k hlt] at c2
    have c1:wr.cell? ⟨B,0,none⟩=some (.slice (some ad) a.length p):=by
     have h:=Qb hB1.out 0;exact hG.out.cell h hneB.out
    have hfz:wr.frozen? (ad.add j)=false:=by
     rw[had.out,add_mk];exact Qj hcur j
    obtain⟨adw,rfl,c3⟩:=Qn hCw.out (Below.refl _ _) (k:=a.length-1-j) (by omega);obtain⟨-,hw1,-⟩:=Ko hU.out
    replace c3:=hG.out.cell c3 (fun h=>by
     rw[add_block] at h
     injection h with h
     have:=hg2'.out
     omega)
    have b1:=HMM.out j hlt;have b2:=HMM.out (a.length-1-j) (by omega);have hjI:(j:Int)<(a.length:Int):=(by omega);obtain⟨m,hm⟩: ∃m,m=a.length-1-j:=⟨_,rfl⟩;have hmI:(a.length:Int)-1-(j:Int)=(m:Int):=(by omega);have hnew:Vt a k j=rd a j+rnd (k*rd a (m:Int)):=(by unfold Vt;rw[hm]);rw[<-hm] at c3 b2;obtain⟨y,hy⟩: ∃y,y=rd a (m:Int):=⟨_,rfl⟩;rw[<-hy] at c3 b2 hnew;obtain⟨x,hx⟩: ∃x,x=rd a j:=⟨_,rfl⟩;rw[<-hx] at c2 b1 hnew;have hpb:=Ah hk b2;have hrb:=Qcb hk b2;have HRd:=fun W=>Qat (k*y) W (by omega) (by omega)
    obtain⟨z,hz⟩: ∃z,z=rnd (k*y):=⟨_,rfl⟩;rw[<-hz] at HRd hrb hnew;have hsum:IntKind.i64.wrap (x+z)=Vt a k j:=(by rw[hnew];exact IntWalk.i64_in _ (by omega));obtain⟨nv,hnv⟩: ∃nv,nv=Vt a k j:=⟨_,rfl⟩;rw[<-hnv] at hsum;have hnv':=Qa.mk hnv;have hmul:IntKind.i64.wrap (k*y)=k*y:=IntWalk.i64_in _ (by omega);have h20:IntKind.i64.wrap ((a.length:Int)-1)=(a.length:Int)-1:=IntWalk.i64_in _ (by omega);have h22:IntKind.i64.wrap ((a.length:Int)-1-(j:Int))=(m:Int):=(by rw[hmI];exact IntWalk.i64_in _ (by omega));have hml:(m:Int)<(a.length:Int):=(by omega);replace HRd:=Qa.mk HRd;have hcur':=Qa.mk hcur;have hdr:Below wr.heap.size wr wr.drew:=(Below.refl _ _).drew;replace hdr:=Qa.mk hdr;clear hm hy hx hz hnv hnew hpb hrb b1 b2 hmI hcells hcur;go_wp2_with fail;refine Qt (S:=fun w'=>w'.cell? ⟨B,0,none⟩=some (.slice (some ad) a.length p)/\w'.cell? (ad.add j)=some (.int .i64 x)/\w'.cell? (adw.add m)=some (.int .i64 y)) (ds:=[17]) hmo.out ⟨c1,c2,c3⟩ (fun hHeld=> ?_)
    (refine Tk.tl 0 (.slice (some ad) a.length p) hHeld ?_)
    (refine Tk.tl 1 (.int .i64 j) hHeld ?_)
    (refine Tk.tl 2 (.pointer (some (ad.add j))) hHeld ?_)
    (refine Tk.tl 3 (.int .i64 x) hHeld ?_)
    (refine Tk.tl 4 (.int .i64 k) hHeld ?_)
    (refine Tk.tl 5 (.slice (some adw) a.length pw) hHeld ?_)
    (refine Tk.tl 6 (.slice (some adw) a.length pw) hHeld ?_)
    (refine Tk.tl 7 (.int .i64 a.length) hHeld ?_)
    (refine Tk.tl 8 (.int .i64 ((a.length:Int)-1)) hHeld ?_)
    (refine Tk.tl 9 (.int .i64 j) hHeld ?_)
    (refine Tk.tl 10 (.int .i64 m) hHeld ?_)
    (refine Tk.tl 11 (.pointer (some (adw.add m))) hHeld ?_)
    (refine Tk.tl 12 (.int .i64 y) hHeld ?_)
    (refine Tk.tl 13 (.int .i64 (k*y)) hHeld ?_)
    (refine Qg (rs:=[14]) (by kernel_rfl) (by simp) ?_;refine Qc.cons rfl (by decide) (fun K hK=> ?_) Qc.nil)
    go_simp;refine(HRd.out _).mono ?_;rintro e w7 ⟨rfl,hb7⟩;replace hb7:=Qa.mk (bnx hdr.out hb7)
    (go_wp2_with fail;refine hK.out _ _ (⟨cnx c1 hb7.out,cnx c2 hb7.out,cnx c3 hb7.out⟩) (fun hHeld=> ?_);clear hK K;try simp only[Act.put,Tk.z1,Tk.z2,Tk.z3,Tk.z4,Tk.z5,Tk.z6])
    (refine Tk.tl 15 (.int .i64 nv) hHeld ?_)
    (refine Tk.tl 16 (.pointer (some (ad.add j))) hHeld ?_)
    have hG7:=Qbv hG.out hb7.out;have hR7:=Kd.Q4 ho.out hb7.out
    have hfz7:w7.frozen? (ad.add j)=false:=by
     have h:=hb7.out.frozen (p:=ad.add j) (World.block_lt_of_cell? wr _ c2);rw[h];exact hfz
    have c27:=cnx c2 hb7.out;replace hR7:=Qa.mk hR7;replace hG7:=Qa.mk hG7;clear hb7 hfz c1 c2 c3
    (refine Qg (rs:=[17]) (by kernel_rfl) (by simp) ?_;refine Qc.Zl rfl (by decide) (fun K hK=> ?_) Qc.nil)
    go_simp;go_wp2_with fail;refine hK.out _ _ ?_;clear hK K
    try simp only[Act.put,List.setIfInBounds_toArray,List.set_cons_zero,List.set_cons_succ]
    refine Qq (by kernel_rfl) ?_ _;go_wp2_with fail;go_roundw
    case rel=>
     refine⟨j+1,by go_num,by omega,⟨?_⟩,⟨?_⟩⟩
     ·rw[Qev a k hlt,<-hnv'.out]
      have h:=hR7.out;rw[had.out] at h ⊢;rw[add_mk];have h2:=Kd.Qbd h (j:Nat) nv;rw[Int.toNat_natCast] at h2;exact h2
     ·exact Qd7 (p:=ad.add j) hG7.out (add_block ad j) _
    case measure=>simp[intOf];omega
   ·obtain rfl:j=a.length:=by omega
    have hBw:wr.heap[B]? =some (.cells #[.slice (some ad) a.length p] 22 (0,0)):=(hG.out.block B (Qr hB1.out) hneB.out).trans hB1.out;have c1:wr.cell? ⟨B,0,none⟩=some (.slice (some ad) a.length p):=(by rw[Qb hBw];rfl);have hBlt:=Qr hBw;have hlen:Qa (((Kj a k a.length).length +1)*8<=140737488355328):=⟨by rw[Ny];omega⟩;have hn2:Qa ((Kj a k a.length).length =a.length):=⟨Ny _ _ _⟩;have hb0:=Qa.mk (Ir (B:=B) hG.out (by have:=hg1'.out;omega) (show B<=w1.heap.size by have:=Qr hB1.out;omega));have hst:Qa ((Kj a k a.length)++[32*k]=Tq a k):=⟨by rw[updF_all];rfl⟩;obtain⟨q,hq⟩: ∃q,q=Kj a k a.length:=⟨_,rfl⟩;rw[<-hq] at ho hlen hn2 hst;have hBw':=Qa.mk hBw;have hsz:Qa (B+1<=wr.heap.size):=⟨hBlt⟩;have ho2:Qa ((Kd.int .i64).R 3 wr (B+1) (fun _=>True) (.slice (some ad) a.length p) q):=ho;clear hq hBw hBlt ho;go_wp2_with (first|(at_builtin;refine Kd.Q3 (Kd.int .i64) (w0:=wr) (B+1) rfl (.tmp 30) (.tmp 33) 22 3 (.int .i64 0) 8 rfl Tryz.underlying22 Qw rfl (by decide) (by decide) (.slice (some ad) a.length p) q (32*k) [.int .i64 (32*k)] (fun _=>True) (fun _=>False) rfl rfl rfl (fun _ hk=>hk.elim) (fun _ _=>trivial) ho2.out (Below.refl _ _) hsz.out hlen.out ?_;intro v1 wA hoA hbA hgA hatA;obtain⟨A6,p6,rfl,-,-⟩:=Kd.Qs hoA;have HOA:=Qa.mk hoA;have HBA:=Qa.mk hbA;have hBA:=(hgA.block B (Qr hBw'.out) hneB.out).trans hBw'.out;have c2:wA.cell? ⟨B,0,none⟩=some (.slice (some ad) a.length p):=(by rw[Qb hBA];rfl);have f2:=Qj hBA 0;have hBA':=Qa.mk hBA;clear hoA hbA hgA hatA hBA));go_end0;refine⟨rfl,⟨_,Q9 hBA'.out 0 _,?_⟩,?_⟩
    ·rw[<-hst.out]
     have h0:=HOA.out;rw[show(q++[32*k]).length =q.length+1 by simp] at h0;exact Kd.Xz (Kd.U7 (p:=⟨B,0,none⟩) (Kd.Zd h0) (fun k hk e=>by have:=hk.2.1;simp at e;omega) _) (fun _ _=>trivial)
    ·exact(((hbn'.out.mono (Nat.le_of_lt hBs'.out)).trans hb0.out).trans (HBA.out.mono (Nat.le_succ B))).setCell (p:=⟨B,0,none⟩) (Nat.le_refl B) _
end Q21

end Go.Proofs.YtnflnicdjioflaaGreatDoor
