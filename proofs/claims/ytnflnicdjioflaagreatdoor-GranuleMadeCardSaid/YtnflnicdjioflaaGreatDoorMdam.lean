/- A part of the proof. -/
import Derived.Test.YtnflnicdjioflaaGreatDoorMdaj
set_option linter.unusedVariables false
set_option linter.unusedSimpArgs false
set_option maxRecDepth 100000
set_option maxHeartbeats 8000000
namespace Go.Proofs.YtnflnicdjioflaaGreatDoor
open Go.RowKit Go.Proofs.YtnflnicdjioflaaGreatDoorW.PrintWords Go.Proofs.YtnflnicdjioflaaGreatDoorW.PrintLast Go.Proofs.YtnflnicdjioflaaGreatDoorW.PrintMore
namespace Q21
attribute [local go_sem] Qi Qj Qk Ql Qg Qh
open Q15
open Q16 (isW off wd Za Zn Zx J3 Q0 Ub)
theorem H6 (A:Option Addr) (cap:Nat) (l:List Int) (w:World) (hr:(Kd.int .i64).C w A l.length l) (hl:isW l=true):
  Calls Tryz.prog 113 #[.slice A l.length cap] w fun e w'=>e= .returned (.tuple #[.int .i64 128,.bool true])/\Below w.heap.size w w':=by
 have HR:=Qa.mk hr;have h32:=(Q0.1 hl).2.2;have hlI:(l.length:Int)<=32:=(by omega);have hlI2:decide ((l.length:Int)<=128)=true:=decide_eq_true (by omega);have HO:=Qa.mk (fun k (hk:k<l.length)=>Za hl hk);have hoA:=Qa.mk (Ah hl);clear hr hl h32;go_enter Tryz.func113,Tryz.ntmps113;go_wp2_with fail;go_loopw [4,9] (fun s i wr=> ∃(k:Nat) (z:Int),i= .int .i64 k/\s= .int .i64 z/\k<=l.length/\0<=z/\z<=128/\Qa (z=(off l k:Nat))/\Qa (Below w.heap.size w wr)) (fun _ i _=>l.length-(intOf i).toNat)
 case atStart=>exact⟨0,0,rfl,rfl,by omega,by omega,by omega,⟨by simp[off]⟩,⟨Below.refl _ _⟩⟩
 case round=>
  obtain⟨k,z,rfl,rfl,hk,hz0,hz1,hz,hb⟩:=hrel;by_cases hlt:k<l.length
  ·obtain⟨ad,rfl,hcell⟩:=Qq HR.out hb.out hlt
   obtain⟨h1,h2,h3,h4⟩:=HO.out k hlt;have hzv:=hz.out;have hx:rd l k=((off l (k+1):Nat):Int)-z/\1<=rd l k/\rd l k<=128/\z+rd l k<=128:=(by omega);obtain⟨n,hn⟩: ∃n,n=rd l k:=⟨_,rfl⟩;rw[<-hn] at hx hcell;obtain⟨hx1,hx2,hx3,hx4⟩:=hx;have hx1':=Qa.mk hx1;have hkI:(k:Int)<(l.length:Int):=(by omega);clear h1 h2 h3 h4 hn hzv hz hx1;go_wp2_with fail;go_roundw
   case rel=>exact⟨k+1,z+n,by go_num,rfl,by omega,by omega,by omega,⟨by have:=hx1'.out;omega⟩,hb⟩
   case measure=>simp[intOf];omega
  ·obtain rfl:k=l.length:=by omega
   obtain rfl:z=128:=(by rw[hz.out,hoA.out];rfl);clear hz hz0 hz1;go_wp2_with fail;go_ret2;exact⟨rfl,hb.out⟩
theorem any_snoc {b:List Int} {x:Int}:((b++[x]).any fun v=>decide (v≠0))=((b.any fun v=>decide (v≠0))||decide (x≠0)):=by
 rw[List.any_append];simp
theorem Qar (A:Option Addr) (cap:Nat) (l:List Int) (a:Addr) (c1:Nat) (c:List Int) (w:World) (hr:(Kd.int .i64).C w A l.length l) (hl:isW l=true) (hr1:(Kd.int .i64).C w (some a) c.length c) (hc:c.length=128) (hc0:128<=c1) (hc9:c1<=9223372036854775807):
  Calls Tryz.prog 65 #[.slice A l.length cap,.slice (some a) 128 c1] w fun e w'=> ∃v,e= .returned (.tuple #[v,.int .i64 0])/\Kd.bool.R 4 w' w.heap.size (fun _=>True) v (Xb l c)/\Below w.heap.size w w':=by
 have HR:=Qa.mk hr;have HR1:=Qa.mk hr1;have h32:=(Q0.1 hl).2.2;have hlI:(l.length:Int)<=32:=(by omega);have HO:=Qa.mk (fun k (hk:k<l.length)=>Za hl hk);have HBR:=Qa.mk (fun(k:Nat) (hk:k<l.length) (m:Nat) (hm:m<wd l k)=>Qcp hc hl hk hm);have HBL:=Qa.mk (fun(k:Nat) (hk:k<l.length)=>Zx hc hl hk);have HW:=Qa.mk (fun(W:World) (hb:Below w.heap.size w W)=>H6 A cap l W (Kd.Qe hr hb) hl);have hcL:=Qa.mk hc;have hb:=Below.refl w.heap.size w;clear hr hr1 hl h32 hc;go_enter Tryz.func65,Tryz.ntmps65;go_wp2_with (first|(go_at_call 113;refine(HW.out _ hb).mono ?_;rintro e w' ⟨rfl,hbn⟩;replace hb:=bnx hb hbn;clear hbn));replace hb:=Qa.mk hb;go_loopw [1,8,29] (fun x s i wr=> ∃k:Nat,i= .int .i64 k/\k<=l.length/\(∃B m cp,x= .slice (some B) m cp/\Qa (k<l.length->B=a.add (off l k)/\m=128-off l k/\cp=c1-off l k))/\Qa (Kd.bool.R 4 wr w.heap.size (fun _=>True) s ((List.range k).map (Dm l c)))/\Qa (Below w.heap.size w wr)) (fun _ _ i _=>l.length-(intOf i).toNat)
 case atStart=>exact⟨0,rfl,by omega,⟨a,128,c1,rfl,⟨fun _=>by simp[off,Ub]⟩⟩,⟨Kd.Xd _ _ _ _ _⟩,hb⟩
 case round=>
  obtain⟨k,rfl,hk,⟨B,m,cp,rfl,hx⟩,hR,hb⟩:=hrel;by_cases hlt:k<l.length
  ·obtain⟨ad,rfl,hcell⟩:=Qq HR.out hb.out hlt
   obtain⟨rfl,hm,hcp⟩:=hx.out hlt;obtain⟨q1,q2,q3,q4⟩:=HO.out k hlt;rw[q4] at hcell;have hle:((List.range k).map (Dm l c)).length =k:=(by rw[List.length_map,List.length_range]);have hT:(List.range (k+1)).map (Dm l c)=(List.range k).map (Dm l c)++[Dm l c k]:=(by rw[List.range_succ,List.map_append];rfl);have hbr:=HBR.out k hlt;have hbl:=HBL.out k hlt;have hfin:Qa (Dm l c k=((Zn c l k).take (wd l k)).any fun v=>decide (v≠0)):=⟨by rw[List.take_of_length_le (by omega)];rfl⟩;obtain⟨o,ho⟩: ∃o,o=off l k:=⟨_,rfl⟩;obtain⟨d,hd⟩: ∃d,d=wd l k:=⟨_,rfl⟩;rw[<-ho] at hm hcp q1 q3 hbr ⊢;rw[<-hd] at hcell q1 q2 q3 hbr hfin;have i1:(d:Int)<=(m:Int):=(by omega);have i2:(d:Int)<=(cp:Int):=(by omega);have i3:(m:Int)<=(cp:Int):=(by omega);have i4:(cp:Int)<=9223372036854775807:=(by omega);have i5:(1:Int)<=(d:Int):=(by omega);have hkI:(k:Int)<(l.length:Int):=(by omega);have q3':=Qa.mk q3;replace hbr:=Qa.mk hbr;replace hm:=Qa.mk hm;replace hcp:=Qa.mk hcp;replace q1:=Qa.mk q1;replace hT:=Qa.mk hT;replace hle:=Qa.mk hle;obtain⟨a',ha'⟩: ∃a',a'=a.add o:=⟨_,rfl⟩;rw[<-ha'];replace ha':=Qa.mk ha';replace ho:=Qa.mk ho;replace hd:=Qa.mk hd;have hlen:(((List.range k).map (Dm l c)).length +1)*1<=140737488355328:=(by rw[hle.out];omega);replace hlen:=Qa.mk hlen;clear q2 q3 q4 hx hbl;go_wp2_with fail;obtain⟨wi,hwi⟩: ∃wi,wi=wr:=⟨_,rfl⟩;subst hwi;go_loopw [11,37] (fun s i wr=> ∃(j:Nat),i= .int .i64 j/\(∃b,s= .bool b/\Qa (b=((Zn c l k).take j).any fun v=>decide (v≠0)))/\j<=d/\Qa (Below wi.heap.size wi wr)) (fun _ i _=>d-(intOf i).toNat)
   case atStart=>exact⟨0,rfl,⟨_,rfl,⟨by simp⟩⟩,by omega,⟨Below.refl _ _⟩⟩
   case round=>
    obtain⟨j,rfl,⟨v,rfl,hv⟩,hj,hbJ⟩:=hrel;by_cases hlj:j<d
    ·obtain⟨ad3,e1,c2⟩:=Qq HR1.out (hb.out.trans (hbJ.out.mono hb.out.size)) (k:=o+j) (by have:=hcL.out;have:=q3'.out;omega)
     cases e1;rw[<-Addr.add_add,<-ha'.out] at c2;have hst:=hbr.out j hlj;obtain⟨x,hx⟩: ∃x,x=rd c (o+j:Nat):=⟨_,rfl⟩;rw[<-hx] at c2 hst;have hjI:(j:Int)<(d:Int):=(by omega);have hv2:Qa ((((Zn c l k).take (j+1)).any fun v=>decide (v≠0))=(v||decide (x≠0))):=⟨by rw[hst,any_snoc,hv.out]⟩;clear hx hv hst;cases v
     ·by_cases hx0:x=0
      ·have hn0:(x != 0)=false:=by simp[hx0]
       have hv3:=hv2.out;rw[decide_eq_false (by simpa using hx0)] at hv3;replace hv2:=Qa.mk hv3;clear hx0 hv3;go_wp2_with fail;go_roundw
       case rel=>exact⟨j+1,by go_num,⟨_,rfl,⟨hv2.out.symm⟩⟩,by omega,hbJ⟩
       case measure=>simp[intOf];omega
      ·have hn0:(x != 0)=true:=by simpa using hx0
       have hv3:=hv2.out;rw[decide_eq_true (by simpa using hx0)] at hv3;replace hv2:=Qa.mk hv3;clear hx0 hv3;go_wp2_with fail;go_roundw
       case rel=>exact⟨j+1,by go_num,⟨_,rfl,⟨hv2.out.symm⟩⟩,by omega,hbJ⟩
       case measure=>simp[intOf];omega
     ·have hv3:=hv2.out
      rw[Bool.true_or] at hv3;replace hv2:=Qa.mk hv3;clear hv3;go_wp2_with fail;go_roundw
      case rel=>exact⟨j+1,by go_num,⟨_,rfl,⟨hv2.out.symm⟩⟩,by omega,hbJ⟩
      case measure=>simp[intOf];omega
    ·obtain rfl:j=d:=by omega
     have hv2:Qa (v=Dm l c k):=⟨by rw[hv.out,hfin.out]⟩;have hR2:=Qa.mk (Kd.Qw hR.out hbJ.out);have hb2:=Qa.mk (hb.out.trans (hbJ.out.mono hb.out.size));clear hR hbJ hb hv;obtain⟨q,hqe⟩: ∃q,q=(List.range k).map (Dm l c):=⟨_,rfl⟩;rw[<-hqe] at hR2 hlen hT;clear hqe hle;go_wp2_with (first|(at_builtin;refine Kd.Zb Kd.bool (w0:=w) w.heap.size rfl (.tmp 50) (.tmp 52) 23 4 (.bool false) 1 rfl Tryz.underlying23 Dv rfl (by decide) (by omega) u8 q (v) [.bool (v)] (fun _=>True) (fun _=>False) rfl rfl rfl (fun _ hk=>hk.elim) (fun _ _=>trivial) hR2.out hb2.out hb2.out.size hlen.out ?_;intro v1 wA hoA hbA hgA hatA;have HOA:=Qa.mk hoA;have HBA:=Qa.mk hbA;clear hoA hbA hgA hatA));go_roundw
     case rel=>
      refine⟨k+1,by go_num,by omega,?_,⟨by rw[hT.out,<-hv2.out];exact HOA.out⟩,HBA⟩;by_cases hcd:cp=j
      ·refine⟨a',_,_,by rw[if_pos hcd],⟨fun h=> ?_⟩⟩
       obtain⟨p1,p2,p3,p4⟩:=HO.out (k+1) h;have:=q1.out;have:=hcp.out;have:=ho.out
       exfalso;omega
      ·refine⟨a'.add j,_,_,by rw[if_neg hcd],⟨fun h=>⟨?_,?_,?_⟩⟩⟩
       ·rw[ha'.out,Addr.add_add,q1.out]
       ·rw[hm.out,q1.out];omega
       ·rw[hcp.out,q1.out];omega
     case measure=>simp[intOf];omega
  ·obtain rfl:k=l.length:=by omega
   clear hx;go_wp2_with fail;go_ret2;exact⟨_,rfl,hR.out,hb.out⟩
end Q21

namespace Q21
attribute [local go_sem] Qi Qj Qk Ql Qg Qh
open Q15
def Y6 (f:List Int):Bool:=Jy f&&(decide (f.length=0)||decide (rd f (f.length-1:Nat)≠0))
theorem J5 (A:Option Addr) (cap:Nat) (l:List Int) (w:World) (hr:(Kd.int .i64).C w A l.length l) (hl:l.length<=1000000):
  Calls Tryz.prog 52 #[.slice A l.length cap] w fun e w'=>e= .returned (.bool (Y6 l))/\Below w.heap.size w w':=by
 have hb:=Below.refl w.heap.size w;have HC:=Qa.mk (Te A cap l w hr hl);have HR:=Qa.mk hr;unfold Y6
 cases hd:Jy l with
 |false=>
  rw[Bool.false_and];have he:wgtE l=1:=(by unfold wgtE;rw[if_neg (by rw[hd];decide)]);rw[he] at HC;clear hd he hr hl;go_enter Tryz.func52,Tryz.ntmps52;go_wp2_with fail;refine HC.out.mono ?_;rintro e w1 ⟨B,p,rfl,-,hbn⟩;replace hb:=bnx hb hbn;clear hbn;go_wp2_with fail;go_ret;exact⟨rfl,hb⟩
 |true=>
  rw[Bool.true_and];have he:wgtE l=0:=(by unfold wgtE;rw[if_pos hd]);rw[he] at HC;by_cases h0:l.length=0
  ·have h0':((l.length:Int)==0)=true:=by simp[h0]
   rw[decide_eq_true h0,Bool.true_or];clear hd he hr hl h0;go_enter Tryz.func52,Tryz.ntmps52;go_wp2_with fail;refine HC.out.mono ?_;rintro e w1 ⟨B,p,rfl,-,hbn⟩;replace hb:=bnx hb hbn;clear hbn;go_wp2_with fail;go_ret;exact⟨rfl,hb⟩
  ·have h0':((l.length:Int)==0)=false:=by simp;exact fun h=>h0 (by rw[h];rfl)
   rw[decide_eq_false h0,Bool.false_or];obtain⟨n,hn⟩: ∃n,n=l.length-1:=⟨_,rfl⟩;have hnI:(l.length:Int)-1=(n:Int):=(by omega);have hlI:(l.length:Int)<=1000000:=(by omega);have hnl:n<l.length:=(by omega);have hnl':(n:Int)<(l.length:Int):=(by omega);have hs:IntKind.i64.wrap ((l.length:Int)-1)=(n:Int):=(by rw[hnI];exact IntWalk.i64_in _ (by omega));rw[<-hn];have hel:=Qa.mk (fun(W:World) (hb:Below w.heap.size w W)=>Qq HR.out hb hnl);obtain⟨x,hx⟩: ∃x,x=rd l (n:Int):=⟨_,rfl⟩;rw[<-hx] at hel ⊢;have hne:(x != 0)=decide (x≠0):=(by by_cases h:x=0<;>simp[h]);obtain⟨v,hv⟩: ∃v,v=decide (x≠0):=⟨_,rfl⟩;rw[<-hv] at hne ⊢;clear hd he hr hl h0 hn hx hv hnI hnl;cases v
   all_goals
    go_enter Tryz.func52,Tryz.ntmps52;go_wp2_with fail;refine HC.out.mono ?_;rintro e w1 ⟨B,p,rfl,-,hbn⟩;replace hb:=bnx hb hbn;clear hbn;obtain⟨ad,rfl,hcell⟩:=hel.out _ hb;go_wp2_with fail;go_ret;exact⟨rfl,hb⟩
theorem Qd3 {l:List Int} {k:Nat} (hk:k<l.length) (h: ¬(-127<=rd l k/\rd l k<=127)):Jy l=false:=by
 unfold Jy;rw[show Q16.rng (-127) 127 l=false from List.all_eq_false.2 ⟨_,Qt l k hk,by simpa using h⟩,Bool.and_false]
theorem Tn (A:Option Addr) (cap:Nat) (l:List Int) (w:World) (hr:(Kd.int .i64).C w A l.length l) (hl:l.length<=1000000):
  Calls Tryz.prog 47 #[.slice A l.length cap] w fun e w'=>e= .returned (.bool (Y6 l))/\Below w.heap.size w w':=by
 have HR:=Qa.mk hr;have hlI:(l.length:Int)<=1000000:=(by omega);have HF:Qa (∀k,k<l.length-> ¬(-127<=rd l k/\rd l k<=127)->Y6 l=false):=⟨fun k hk h=>by unfold Y6;rw[Qd3 hk h,Bool.false_and]⟩
 have HT:Qa ((∀x∈l,-127<=x/\x<=127)->Y6 l=(decide (l.length<=12)&&(decide (l.length=0)||decide (rd l (l.length-1:Nat)≠0)))):=⟨fun h=>by
  unfold Y6 Jy
  rw[show Q16.rng (-127) 127 l=true from List.all_eq_true.2 fun x hx=>decide_eq_true (h x hx),Bool.and_true]⟩
 obtain⟨b,hbe⟩: ∃b,b=Y6 l:=⟨_,rfl⟩;rw[<-hbe] at HF HT ⊢;clear hr hl hbe;go_enter Tryz.func47,Tryz.ntmps47;go_wp2;go_loopw [7] (fun i wr=> ∃k:Nat,i= .int .i64 k/\k<=l.length/\Qa (∀x∈l.take k,-127<=x/\x<=127)/\Below w.heap.size w wr) (fun i _=>l.length-(intOf i).toNat)
 case atStart=>exact⟨0,rfl,by omega,⟨by simp⟩,Below.refl _ _⟩
 case round=>
  obtain⟨k,rfl,hk,ha,hb⟩:=hrel;by_cases hlt:k<l.length
  ·obtain⟨ad,rfl,hcell⟩:=Qq HR.out hb hlt
   have hT:=Qa.mk (Qx l k hlt);have hf:=HF.out k hlt;have hkI:(k:Int)<(l.length:Int):=(by omega);obtain⟨n,hx⟩: ∃n,n=rd l k:=⟨_,rfl⟩;rw[<-hx] at hcell hT hf;replace hf:=Qa.mk hf;clear hx;by_cases h1:n< -127
   ·have hff:=Qa.mk (hf.out (by omega))
    go_wp2;go_ret;exact⟨by rw[hff.out];rfl,hb⟩
   ·by_cases h2:127<n
    ·have hff:=Qa.mk (hf.out (by omega))
     have h1':decide (n< -127)=false:=(by simpa using h1);go_wp2;go_ret;exact⟨by rw[hff.out];rfl,hb⟩
    ·have h1':decide (n< -127)=false:=by simpa using h1
     have h2':decide (127<n)=false:=(by simpa using h2);have h3:Qa (-127<=n/\n<=127):=⟨by omega⟩;clear h1 h2;go_wp2;go_roundw
     case rel=>exact⟨k+1,by go_num,by omega,⟨by
      rw[hT.out];intro x hx;rcases List.mem_append.1 hx with hx|hx
      ·exact ha.out x hx
      ·rw[List.mem_singleton.1 hx];exact h3.out⟩,hb⟩
     case measure=>simp[intOf];omega
  ·obtain rfl:k=l.length:=by omega
   have hA:=ha.out;rw[List.take_length] at hA;have hff:=HT.out hA;clear ha hA HF HT;by_cases h12:l.length<=12
   ·have h12':decide ((l.length:Int)<=12)=true:=decide_eq_true (by omega)
    rw[decide_eq_true h12,Bool.true_and] at hff;by_cases h0:l.length=0
    ·have h0':((l.length:Int)==0)=true:=by simp[h0]
     rw[decide_eq_true h0,Bool.true_or] at hff;replace hff:=Qa.mk hff;clear h0 h12 hk hlt;go_wp2;go_ret;exact⟨by rw[hff.out];rfl,hb⟩
    ·have h0':((l.length:Int)==0)=false:=by simp;exact fun h=>h0 (by rw[h];rfl)
     rw[decide_eq_false h0,Bool.false_or] at hff;obtain⟨n,hn⟩: ∃n,n=l.length-1:=⟨_,rfl⟩;have hnI:(l.length:Int)-1=(n:Int):=(by omega);have hnl:n<l.length:=(by omega);have hnl':(n:Int)<(l.length:Int):=(by omega);have hs:IntKind.i64.wrap ((l.length:Int)-1)=(n:Int):=(by rw[hnI];exact IntWalk.i64_in _ (by omega));rw[<-hn] at hff;obtain⟨ad,rfl,hcell⟩:=Qq HR.out hb hnl;obtain⟨x,hx⟩: ∃x,x=rd l (n:Int):=⟨_,rfl⟩;rw[<-hx] at hcell hff;have hne:(x != 0)=decide (x≠0):=(by by_cases h:x=0<;>simp[h]);rw[<-hff] at hne;clear h0 hn hx hff hnI hnl h12 hk hlt;cases b
     all_goals
      go_wp2;go_ret;exact⟨rfl,hb⟩
   ·have h12':decide ((l.length:Int)<=12)=false:=decide_eq_false (by omega)
    rw[decide_eq_false h12,Bool.false_and] at hff;replace hff:=Qa.mk hff;clear h12 hk hlt;go_wp2;go_ret;exact⟨by rw[hff.out];rfl,hb⟩
end Q21

namespace Q21
attribute [local go_sem] Qi Qj Qk Ql Qg Qh
open Q15
open Q16 (KL Xr)
structure Dr where
 sh:Bool
 gr:List Int
 mid:List Bool
 fil:List (List Int)
 lis:List (List Int)
 lim:List (List Int)
structure DrV where
 Ag:Option Addr
 cg:Nat
 Am:Option Addr
 cm:Nat
 Af:Option Addr
 cf:Nat
 Al:Option Addr
 cl:Nat
 Ai:Option Addr
 ci:Nat
def Q7 (d:Dr) (v:DrV):Array Value:= #[.bool d.sh,.slice v.Ag d.gr.length v.cg,.slice v.Am d.mid.length v.cm,.slice v.Af d.fil.length v.cf,.slice v.Al d.lis.length v.cl,.slice v.Ai d.lim.length v.ci]
structure Kr (w:World) (d:Dr) (v:DrV):Prop where
 gr:(Kd.int .i64).C w v.Ag d.gr.length d.gr
 mid:Kd.bool.C w v.Am d.mid.length d.mid
 fil:KL.C w v.Af d.fil.length d.fil
 lis:KL.C w v.Al d.lis.length d.lis
 lim:KL.C w v.Ai d.lim.length d.lim
theorem Kr.below {w W:World} {d:Dr} {v:DrV} (h:Kr w d v) (hb:Below w.heap.size w W):Kr W d v:=
 ⟨Kd.Qe h.gr hb,Kd.Qe h.mid hb,Kd.Qe h.fil hb,Kd.Qe h.lis hb,Kd.Qe h.lim hb⟩
def Kh (d:Dr):Bool:=decide (d.gr.length<=200)&&decide (d.mid.length<=200)&&decide (d.fil.length<=4)&&decide (d.lis.length<=4)&&decide (d.lim.length<=4)&&(d.fil++d.lis++d.lim).all fun l=>decide (l.length<=400)
def rdL (xs:List (List Int)) (i:Nat):List Int:=xs.getD i []
theorem Uh {w W:World} {A:Option Addr} {xs:List (List Int)} (h:KL.C w A xs.length xs) (hb:Below w.heap.size w W) {k:Nat} (hk:k<xs.length):
  ∃ad B c,A=some ad/\W.cell? (ad.add k)=some (.slice B (rdL xs k).length c)/\(rdL xs k).length <=c/\(Kd.int .i64).C W B (rdL xs k).length (rdL xs k):=by
 obtain⟨ad,c,e,_,hK,hc⟩:=Kd.Oi (Kd.Qe h hb) ([]:List Int) k (by omega) (by omega);have hc': ∀j u,c[j]? =some u->W.cell? (ad.add ((k:Int).toNat *1+j))=some u:=hc;obtain⟨B,c0,rfl,l0,g0⟩:=hK;exact⟨ad,B,c0,e,by have:=hc' 0 _ rfl;simpa[rdL] using this,l0,g0⟩
theorem R_lit (D:Kd (List Value)) (w:World) (e base:Nat) (hb:base<=w.heap.size):D.R e (w.alloc (.cells #[] e)) base (fun _=>True) (.slice (some ⟨w.heap.size,0,none⟩) 0 0) []:=
 ⟨fun _ _=>trivial,[],World.ownsRow_made w #[] 0 hb (by decide) (by simp),Vn.none _ _⟩
theorem Qel {w:World} {A:Option Addr} {n:Nat} {X:List (List Value)} {xs:List (List Int)} (h:(Kd.raw 1).C w A n X) (hX: ∀(j:Nat) (x:List Int),xs[j]? =some x-> ∃B c,X[j]? =some [Value.slice B x.length c]) {k:Nat} (hk:k<xs.length) (hkn:k<n):
  ∃ad B c,A=some ad/\w.cell? (ad.add k)=some (.slice B (rdL xs k).length c):=by
 obtain⟨B,c,hx⟩:=hX k (rdL xs k) (by simp[rdL,hk]);obtain⟨-,-,h2⟩:=h;obtain⟨ad,e,h3⟩:=h2 (by omega);obtain⟨cs,-,hK,hcell⟩:=h3 k _ hx;refine⟨ad,B,c,e,?_⟩;have h4:=hcell 0 (.slice B (rdL xs k).length c) (by rw[hK.1];rfl)
 rwa [show k*(Kd.raw 1).sz +0=k from Nat.mul_one k] at h4
theorem Qbd {w:World} {A:Option Addr} {xs:List (List Int)} (h:KL.C w A xs.length xs): ∃X:List (List Value),X.length=xs.length/\(Kd.raw 1).C w A xs.length X/\ ∀(j:Nat) (x:List Int),xs[j]? =some x-> ∃B c,X[j]? =some [Value.slice B x.length c]:=by
 obtain⟨X,h1,h2,h3⟩:=Kd.Qem h (sz:=1) (fun x c hc=>⟨KL.K_len hc,KL.K_one hc⟩);refine⟨X,h1,h2,fun j x hx=> ?_⟩;have hj:j<X.length:=(by rw[h1];exact(List.getElem?_eq_some_iff.1 hx).1);obtain⟨B,c,e,_⟩:=h3 j x _ hx (List.getElem?_eq_getElem hj);exact⟨B,c,by rw[List.getElem?_eq_getElem hj,e]⟩
theorem Qda {xs ys:List (List Int)} {X Y:List (List Value)} (hl:X.length=xs.length) (h1: ∀(j:Nat) (x:List Int),xs[j]? =some x-> ∃B c,X[j]? =some [Value.slice B x.length c]) (h2: ∀(j:Nat) (x:List Int),ys[j]? =some x-> ∃B c,Y[j]? =some [Value.slice B x.length c]):
  ∀(j:Nat) (x:List Int),(xs++ys)[j]? =some x-> ∃B c,(X++Y)[j]? =some [Value.slice B x.length c]:=fun j x hj=>by
 by_cases hlt:j<xs.length
 ·rw[List.getElem?_append_left hlt] at hj
  rw[List.getElem?_append_left (by omega)];exact h1 j x hj
 ·rw[List.getElem?_append_right (by omega)] at hj
  rw[List.getElem?_append_right (by omega),hl];exact h2 _ x hj
theorem fewD_no {d:Dr} (h: ¬(d.gr.length<=200/\d.mid.length<=200/\d.fil.length<=4/\d.lis.length<=4/\d.lim.length<=4)):Kh d=false:=by
 rw[<-Bool.not_eq_true];intro hf;unfold Kh at hf;simp only[Bool.and_eq_true,decide_eq_true_eq] at hf;exact h ⟨hf.1.1.1.1.1,hf.1.1.1.1.2,hf.1.1.1.2,hf.1.1.2,hf.1.2⟩
theorem fewD_all {d:Dr} (h:d.gr.length<=200/\d.mid.length<=200/\d.fil.length<=4/\d.lis.length<=4/\d.lim.length<=4):Kh d=(d.fil++d.lis++d.lim).all fun l=>decide (l.length<=400):=by
 unfold Kh;rw[decide_eq_true h.1,decide_eq_true h.2.1,decide_eq_true h.2.2.1,decide_eq_true h.2.2.2.1,decide_eq_true h.2.2.2.2];simp
theorem Oo (d:Dr) (v:DrV) (w:World) (h: ¬(d.gr.length<=200/\d.mid.length<=200/\d.fil.length<=4/\d.lis.length<=4/\d.lim.length<=4)):
  Calls Tryz.prog 7 #[.agg (Q7 d v)] w fun e w'=>e= .returned (.bool (Kh d))/\Below w.heap.size w w':=by
 have hu26:=Tryz.underlying26;have HF:=Qa.mk (fewD_no h);have HN:=Qa.mk h;clear h
 have hw:decide (200<(d.gr.length:Int))=true\/decide (200<(d.gr.length:Int))=false/\(decide (200<(d.mid.length:Int))=true\/decide (200<(d.mid.length:Int))=false/\(decide (4<(d.fil.length:Int))=true\/decide (4<(d.fil.length:Int))=false/\(decide (4<(d.lis.length:Int))=true\/decide (4<(d.lis.length:Int))=false/\decide (4<(d.lim.length:Int))=true))):=by
  have:=HN.out;simp only[decide_eq_true_eq,decide_eq_false_iff_not];omega
 clear HN;unfold Q7;rcases hw with h1|⟨h1,h2|⟨h2,h3|⟨h3,h4|⟨h4,h5⟩⟩⟩⟩
 all_goals
  go_enter Tryz.func7,Tryz.ntmps7;go_wp2_with fail;go_ret;exact⟨by rw[HF.out];rfl,(Below.refl _ _).alloc (Nat.le_refl _) _⟩
theorem Ec (d:Dr) (v:DrV) (w:World) (hd:Kr w d v) (h:d.gr.length<=200/\d.mid.length<=200/\d.fil.length<=4/\d.lis.length<=4/\d.lim.length<=4):
  Calls Tryz.prog 7 #[.agg (Q7 d v)] w fun e w'=>e= .returned (.bool (Kh d))/\Below w.heap.size w w':=by
 have hu26:=Tryz.underlying26;have HD:=Qa.mk hd;rw[fewD_all h];obtain⟨b,hbe⟩: ∃b,b=(d.fil++d.lis++d.lim).all fun l=>decide (l.length<=400):=⟨_,rfl⟩
 rw[<-hbe];replace hbe:=Qa.mk hbe;obtain⟨g1,g2,g3,g4,g5⟩:=h;have l1:decide (200<(d.gr.length:Int))=false:=decide_eq_false (by omega);have l2:decide (200<(d.mid.length:Int))=false:=decide_eq_false (by omega);have l3:decide (4<(d.fil.length:Int))=false:=decide_eq_false (by omega);have l4:decide (4<(d.lis.length:Int))=false:=decide_eq_false (by omega);have l5:decide (4<(d.lim.length:Int))=false:=decide_eq_false (by omega);have hmo:=Qa.mk (show Tryz.prog.follows .mixedOrders =true by kernel_rfl);clear hd;unfold Q7;go_enter Tryz.func7,Tryz.ntmps7;go_wp2_with fail;obtain⟨W,hW⟩: ∃W,W=w.alloc (.cells (Q7 d v) 26):=⟨_,rfl⟩;have hBW:W.heap[w.heap.size]? =some (.cells (Q7 d v) 26 (0,0)):=(by rw[hW];exact heap_alloc_new _ _);have k3:W.cell? ⟨w.heap.size,3,none⟩=some (.slice v.Af d.fil.length v.cf):=(by rw[Qs hBW];rfl);have k4:W.cell? ⟨w.heap.size,4,none⟩=some (.slice v.Al d.lis.length v.cl):=(by rw[Qs hBW];rfl);have k5:W.cell? ⟨w.heap.size,5,none⟩=some (.slice v.Ai d.lim.length v.ci):=(by rw[Qs hBW];rfl);have hbW:Below w.heap.size w W:=(by rw[hW];exact(Below.refl _ _).alloc (Nat.le_refl _) _);unfold Q7 at hW;rw[<-hW];obtain⟨B,hB⟩: ∃B,B=w.heap.size:=⟨_,rfl⟩;rw[<-hB] at k3 k4 k5 ⊢;replace hB:=Qa.mk hB;clear hW hBW;obtain⟨Xf,lf,Cf,hXf⟩:=Qbd (HD.out.below hbW).fil;obtain⟨Xl,ll,Cl,hXl⟩:=Qbd (HD.out.below hbW).lis;obtain⟨Xi,li,Ci,hXi⟩:=Qbd (HD.out.below hbW).lim;have hX: ∀(j:Nat) (x:List Int),(d.fil++d.lis++d.lim)[j]? =some x-> ∃B c,(Xf++Xl++Xi)[j]? =some [Value.slice B x.length c]:=Qda (by simp[lf,ll]) (Qda lf hXf hXl) hXi;replace hX:=Qa.mk hX;replace Cf:=Qa.mk Cf;replace Cl:=Qa.mk Cl;replace Ci:=Qa.mk Ci;have n1:Qa ((([]:List (List Value)).length +d.fil.length)*24<=140737488355328):=⟨by simp;omega⟩;have n2:Qa ((([]++Xf).length +d.lis.length)*24<=140737488355328):=⟨by simp[lf];omega⟩;have n3:Qa ((([]++Xf++Xl).length +d.lim.length)*24<=140737488355328):=⟨by simp[lf,ll];omega⟩;have hln:(d.fil++d.lis++d.lim).length <=12:=(by simp;omega);have hlX:([]++Xf++Xl++Xi).length =(d.fil++d.lis++d.lim).length :=(by simp[lf,ll,li]);replace hbW:=Qa.mk hbW;clear hXf hXl hXi g1 g2 g3 g4 g5 l1 l2 l3 l4 l5;refine Qr (S:=fun w'=>w'.cell? ⟨B,3,none⟩=some (.slice v.Af d.fil.length v.cf)/\w'.cell? ⟨B,4,none⟩=some (.slice v.Al d.lis.length v.cl)/\w'.cell? ⟨B,5,none⟩=some (.slice v.Ai d.lim.length v.ci)) (ds:=[]) hmo.out ⟨k3,k4,k5⟩ (fun hHeld=> ?_)
 (refine Tk.tl 1 (.pointer (some ⟨B,3,none⟩)) hHeld ?_)
 (refine Tk.tl 2 (.slice v.Af d.fil.length v.cf) hHeld ?_)
 (refine Tk.tl 4 (.pointer (some ⟨B,4,none⟩)) hHeld ?_)
 (refine Tk.tl 5 (.slice v.Al d.lis.length v.cl) hHeld ?_)
 (refine Tk.tl 7 (.pointer (some ⟨B,5,none⟩)) hHeld ?_)
 (refine Tk.tl 8 (.slice v.Ai d.lim.length v.ci) hHeld ?_)
 (refine Tk.tl 11 (.int .i64 0) hHeld ?_)
 (refine Qd (rs:=[0]) (by kernel_rfl) (by simp) ?_;refine Qc.cons rfl (by decide) (fun K hK=> ?_) Qc.nil)
 go_simp;have hRl:=R_lit (Kd.raw 1) W.drew 22 W.heap.size (Nat.le_refl _);have hb1:Below W.heap.size W (W.drew.alloc (.cells #[] 22)):=(Below.refl W.heap.size W).drew.alloc (Nat.le_refl _) _;obtain⟨W1,hW1⟩: ∃W1,W1=W.drew.alloc (.cells #[] 22):=⟨_,rfl⟩;rw[<-hW1] at hRl hb1;have d3:=cnx k3 hb1;have d4:=cnx k4 hb1;have d5:=cnx k5 hb1;have hW1':(W.alloc (.cells #[] 22)).drew =W1:=hW1.symm;rw[hW1'];replace Cf:=Qa.mk (Kd.Qe Cf.out hb1);clear hW1 hW1' hHeld
 (go_wp2_with fail;refine hK.out _ _ (⟨d3,d4,d5⟩) (fun hHeld=> ?_);clear hK K;try simp only[Act.put,Tk.z1,Tk.z2,Tk.z3,Tk.z4,Tk.z5,Tk.z6])
 (refine Qd (rs:=[3]) (by kernel_rfl) (by simp) ?_;refine Qc.cons rfl (by decide) (fun K hK=> ?_) Qc.nil)
 refine Kd.Xz (Kd.raw 1) (Rr:=(Kd.raw 1).K W1) (w0:=W) W.heap.size rfl (.tmp 33) (.tmp 35) 24 22 (.slice none 0 0) 24 rfl Tryz.underlying24 Xr rfl (by decide) (by decide) (.slice (some ⟨W.heap.size,0,none⟩) 0 0) [] Xf v.Af d.fil.length v.cf (fun _=>True) (fun _=>False) rfl rfl hRl Cf.out (fun _ _ h=>h) (fun _ h=>h.elim) (fun _ _=>trivial) hb1 hb1.size n1.out ?_;intro v3 W3 R3 B3 hg hat;clear hg hat;replace hRl:=Qa.mk hRl;have e3:=cnx k3 B3;have e4:=cnx k4 B3;have e5:=cnx k5 B3;replace Cl:=Qa.mk (Kd.Qe Cl.out B3);clear hHeld d3 d4 d5
 (go_wp2_with fail;refine hK.out _ _ (⟨e3,e4,e5⟩) (fun hHeld=> ?_);clear hK K;try simp only[Act.put,Tk.z1,Tk.z2,Tk.z3,Tk.z4,Tk.z5,Tk.z6])
 (refine Qd (rs:=[6]) (by kernel_rfl) (by simp) ?_;refine Qc.cons rfl (by decide) (fun K hK=> ?_) Qc.nil)
 refine Kd.Xz (Kd.raw 1) (Rr:=(Kd.raw 1).K W3) (w0:=W) W.heap.size rfl (.tmp 36) (.tmp 38) 24 22 (.slice none 0 0) 24 rfl Tryz.underlying24 Xr rfl (by decide) (by decide) v3 ([]++Xf) Xl v.Al d.lis.length v.cl (fun _=>True) (fun _=>False) rfl rfl R3 Cl.out (fun _ _ h=>h) (fun _ h=>h.elim) (fun _ _=>trivial) B3 B3.size n2.out ?_;intro v6 W6 R6 B6 hg hat;clear hg hat;replace R3:=Qa.mk R3;have d3:=cnx k3 B6;have d4:=cnx k4 B6;have d5:=cnx k5 B6;replace Ci:=Qa.mk (Kd.Qe Ci.out B6);clear hHeld e3 e4 e5
 (go_wp2_with fail;refine hK.out _ _ (⟨d3,d4,d5⟩) (fun hHeld=> ?_);clear hK K;try simp only[Act.put,Tk.z1,Tk.z2,Tk.z3,Tk.z4,Tk.z5,Tk.z6])
 (refine Qd (rs:=[9]) (by kernel_rfl) (by simp) ?_;refine Qc.cons rfl (by decide) (fun K hK=> ?_) Qc.nil)
 refine Kd.Xz (Kd.raw 1) (Rr:=(Kd.raw 1).K W6) (w0:=W) W.heap.size rfl (.tmp 39) (.tmp 41) 24 22 (.slice none 0 0) 24 rfl Tryz.underlying24 Xr rfl (by decide) (by decide) v6 ([]++Xf++Xl) Xi v.Ai d.lim.length v.ci (fun _=>True) (fun _=>False) rfl rfl R6 Ci.out (fun _ _ h=>h) (fun _ h=>h.elim) (fun _ _=>trivial) B6 B6.size n3.out ?_;intro v9 W9 R9 B9 hg hat;clear hg hat;replace R6:=Qa.mk R6;have e3:=cnx k3 B9;have e4:=cnx k4 B9;have e5:=cnx k5 B9;clear hHeld d3 d4 d5
 (go_wp2_with fail;refine hK.out _ _ (⟨e3,e4,e5⟩) (fun hHeld=> ?_);clear hK K;try simp only[Act.put,Tk.z1,Tk.z2,Tk.z3,Tk.z4,Tk.z5,Tk.z6])
 obtain⟨A9,c9,rfl,-,C9⟩:=Kd.Qu R9;rw[hlX] at C9 ⊢;rw[List.nil_append] at C9;obtain⟨X,hXe⟩: ∃X,X=Xf++Xl++Xi:=⟨_,rfl⟩;rw[<-hXe] at C9 hX;obtain⟨L,hL⟩: ∃L,L=d.fil++d.lis++d.lim:=⟨_,rfl⟩;rw[<-hL] at C9 hX hln ⊢;have hbe2:Qa (b=L.all fun l=>decide (l.length<=400)):=⟨by rw[hbe.out,hL]⟩;clear hbe;replace C9:=Qa.mk C9;have hbw:=Qa.mk (hbW.out.trans (B9.mono hbW.out.size))
 (refine Tk.tl 10 (.int .i64 L.length) hHeld ?_)
 try simp only[Act.put,List.setIfInBounds_toArray,List.set_cons_zero,List.set_cons_succ]
 refine Qo (by kernel_rfl) ?_ _;have hlI:(L.length:Int)<=12:=(by omega);clear B9 R9 e3 e4 e5 hHeld hXe hL hlX hln R6 B6 R3 B3 hRl hb1 k3 k4 k5 n1 n2 n3 HD hbW Cf Cl Ci lf ll li;go_wp2_with fail;go_loopw [44] (fun i wr=> ∃k:Nat,i= .int .i64 k/\k<=L.length/\Qa (∀x∈L.take k,x.length<=400)/\Qa (Below W9.heap.size W9 wr)) (fun i _=>L.length-(intOf i).toNat)
 case atStart=>exact⟨0,rfl,by omega,⟨by simp⟩,⟨Below.refl _ _⟩⟩
 case round=>
  obtain⟨k,rfl,hk,ha,hb⟩:=hrel;by_cases hlt:k<L.length
  ·obtain⟨ad,B5,c5,rfl,hcell⟩:=Qel C9.out hX.out hlt hlt
   replace hcell:=cnx hcell hb.out;have hkI:(k:Int)<(L.length:Int):=by omega
   have hT:L.take (k+1)=L.take k++[rdL L k]:=by
    rw[List.take_add_one,List.getElem?_eq_getElem hlt];simp[rdL,hlt]
   have hno:400<(rdL L k).length ->L.all (fun l=>decide (l.length<=400))=false:=fun h=>List.all_eq_false.2 ⟨rdL L k,by simp[rdL,hlt],by simpa using h⟩
   obtain⟨x,hx⟩: ∃x,x=rdL L k:=⟨_,rfl⟩;rw[<-hx] at hcell hT hno;clear hx;by_cases h4:400<x.length
   ·have h4':decide (400<(x.length:Int))=true:=decide_eq_true (by omega)
    replace hno:=Qa.mk (hno h4);clear h4 hT;go_wp2_with fail;go_ret;exact⟨by rw[hbe2.out,hno.out];rfl,hbw.out.trans (hb.out.mono hbw.out.size)⟩
   ·have h4':decide (400<(x.length:Int))=false:=decide_eq_false (by omega)
    have hT2:Qa (∀y∈L.take (k+1),y.length<=400):=⟨by
     rw[hT];intro y hy;rcases List.mem_append.1 hy with hy|hy
     ·exact ha.out y hy
     ·rw[List.mem_singleton.1 hy];omega⟩
    clear h4 hT hno;go_wp2_with fail;go_roundw
    case rel=>exact⟨k+1,by go_num,by omega,hT2,hb⟩
    case measure=>simp[intOf];omega
  ·obtain rfl:k=L.length:=by omega
   have hA:Qa (L.all (fun l=>decide (l.length<=400))=true):=⟨List.all_eq_true.2 fun x hx=>decide_eq_true (ha.out x (by rw[List.take_length];exact hx))⟩;clear ha;go_wp2_with fail;go_ret;exact⟨by rw[hbe2.out,hA.out];rfl,hbw.out.trans (hb.out.mono hbw.out.size)⟩
theorem Pw (d:Dr) (v:DrV) (w:World) (hd:Kr w d v):
  Calls Tryz.prog 7 #[.agg (Q7 d v)] w fun e w'=>e= .returned (.bool (Kh d))/\Below w.heap.size w w':=by
 by_cases h:d.gr.length<=200/\d.mid.length<=200/\d.fil.length<=4/\d.lis.length<=4/\d.lim.length<=4
 ·exact Ec d v w hd h
 ·exact Oo d v w h
end Q21

end Go.Proofs.YtnflnicdjioflaaGreatDoor
