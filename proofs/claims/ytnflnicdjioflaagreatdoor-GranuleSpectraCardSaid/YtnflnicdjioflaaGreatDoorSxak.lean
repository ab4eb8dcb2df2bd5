/- A part of the proof. -/
import Derived.Test.YtnflnicdjioflaaGreatDoorSxai
set_option linter.unusedVariables false
set_option linter.unusedSimpArgs false
set_option maxRecDepth 100000
set_option maxHeartbeats 8000000
namespace Go.Proofs.YtnflnicdjioflaaGreatDoor
open Go.RowKit Go.Proofs.YtnflnicdjioflaaGreatDoorW.PrintWords Go.Proofs.YtnflnicdjioflaaGreatDoorW.PrintLast Go.Proofs.YtnflnicdjioflaaGreatDoorW.PrintMore
namespace Q21
attribute [local go_sem] Qh Qi Qk Ql Qd Qe
open Q15
open Q16 (isW off wd Q7 Zj Z8 V6 Qx Jo)
theorem Hq (A:Option Addr) (cap:Nat) (l:List Int) (w:World) (hr:(Kd.int .i64).C w A l.length l) (hl:isW l=true):
  Calls Tryz.prog 113 #[.slice A l.length cap] w fun e w'=>e= .returned (.tuple #[.int .i64 128,.bool true])/\Below w.heap.size w w':=by
 have HR:=Qa.mk hr;have h32:=(Qx.1 hl).2.2;have hlI:(l.length:Int)<=32:=(by omega);have hlI2:decide ((l.length:Int)<=128)=true:=decide_eq_true (by omega);have HO:=Qa.mk (fun k (hk:k<l.length)=>Q7 hl hk);have hoA:=Qa.mk (Qc5 hl);clear hr hl h32;go_enter Tryz.func113,Tryz.ntmps113;go_wp2_with fail;go_loopw [4,9] (fun s i wr=> ∃(k:Nat) (z:Int),i= .int .i64 k/\s= .int .i64 z/\k<=l.length/\0<=z/\z<=128/\Qa (z=(off l k:Nat))/\Qa (Below w.heap.size w wr)) (fun _ i _=>l.length-(intOf i).toNat)
 case atStart=>exact⟨0,0,rfl,rfl,by omega,by omega,by omega,⟨by simp[off]⟩,⟨Below.refl _ _⟩⟩
 case round=>
  obtain⟨k,z,rfl,rfl,hk,hz0,hz1,hz,hb⟩:=hrel;by_cases hlt:k<l.length
  ·obtain⟨ad,rfl,hcell⟩:=Qn HR.out hb.out hlt
   obtain⟨h1,h2,h3,h4⟩:=HO.out k hlt;have hzv:=hz.out;have hx:rd l k=((off l (k+1):Nat):Int)-z/\1<=rd l k/\rd l k<=128/\z+rd l k<=128:=(by omega);obtain⟨n,hn⟩: ∃n,n=rd l k:=⟨_,rfl⟩;rw[<-hn] at hx hcell;obtain⟨hx1,hx2,hx3,hx4⟩:=hx;have hx1':=Qa.mk hx1;have hkI:(k:Int)<(l.length:Int):=(by omega);clear h1 h2 h3 h4 hn hzv hz hx1;go_wp2_with fail;go_roundw
   case rel=>exact⟨k+1,z+n,by go_num,rfl,by omega,by omega,by omega,⟨by have:=hx1'.out;omega⟩,hb⟩
   case measure=>simp[intOf];omega
  ·obtain rfl:k=l.length:=by omega
   obtain rfl:z=128:=(by rw[hz.out,hoA.out];rfl);clear hz hz0 hz1;go_wp2_with fail;go_ret2;exact⟨rfl,hb.out⟩
theorem any_snoc {b:List Int} {x:Int}:((b++[x]).any fun v=>decide (v≠0))=((b.any fun v=>decide (v≠0))||decide (x≠0)):=by
 rw[List.any_append];simp
theorem Qao (A:Option Addr) (cap:Nat) (l:List Int) (a:Addr) (c1:Nat) (c:List Int) (w:World) (hr:(Kd.int .i64).C w A l.length l) (hl:isW l=true) (hr1:(Kd.int .i64).C w (some a) c.length c) (hc:c.length=128) (hc0:128<=c1) (hc9:c1<=9223372036854775807):
  Calls Tryz.prog 65 #[.slice A l.length cap,.slice (some a) 128 c1] w fun e w'=> ∃v,e= .returned (.tuple #[v,.int .i64 0])/\Kd.bool.R 4 w' w.heap.size (fun _=>True) v (Xo l c)/\Below w.heap.size w w':=by
 have HR:=Qa.mk hr;have HR1:=Qa.mk hr1;have h32:=(Qx.1 hl).2.2;have hlI:(l.length:Int)<=32:=(by omega);have HO:=Qa.mk (fun k (hk:k<l.length)=>Q7 hl hk);have HBR:=Qa.mk (fun(k:Nat) (hk:k<l.length) (m:Nat) (hm:m<wd l k)=>Qcr hc hl hk hm);have HBL:=Qa.mk (fun(k:Nat) (hk:k<l.length)=>Z8 hc hl hk);have HW:=Qa.mk (fun(W:World) (hb:Below w.heap.size w W)=>Hq A cap l W (Kd.Qf hr hb) hl);have hcL:=Qa.mk hc;have hb:=Below.refl w.heap.size w;clear hr hr1 hl h32 hc;go_enter Tryz.func65,Tryz.ntmps65;go_wp2_with (first|(go_at_call 113;refine(HW.out _ hb).mono ?_;rintro e w' ⟨rfl,hbn⟩;replace hb:=bnx hb hbn;clear hbn));replace hb:=Qa.mk hb;go_loopw [1,8,29] (fun x s i wr=> ∃k:Nat,i= .int .i64 k/\k<=l.length/\(∃B m cp,x= .slice (some B) m cp/\Qa (k<l.length->B=a.add (off l k)/\m=128-off l k/\cp=c1-off l k))/\Qa (Kd.bool.R 4 wr w.heap.size (fun _=>True) s ((List.range k).map (Dl l c)))/\Qa (Below w.heap.size w wr)) (fun _ _ i _=>l.length-(intOf i).toNat)
 case atStart=>exact⟨0,rfl,by omega,⟨a,128,c1,rfl,⟨fun _=>by simp[off,Jo]⟩⟩,⟨Kd.Zx _ _ _ _ _⟩,hb⟩
 case round=>
  obtain⟨k,rfl,hk,⟨B,m,cp,rfl,hx⟩,hR,hb⟩:=hrel;by_cases hlt:k<l.length
  ·obtain⟨ad,rfl,hcell⟩:=Qn HR.out hb.out hlt
   obtain⟨rfl,hm,hcp⟩:=hx.out hlt;obtain⟨q1,q2,q3,q4⟩:=HO.out k hlt;rw[q4] at hcell;have hle:((List.range k).map (Dl l c)).length =k:=(by rw[List.length_map,List.length_range]);have hT:(List.range (k+1)).map (Dl l c)=(List.range k).map (Dl l c)++[Dl l c k]:=(by rw[List.range_succ,List.map_append];rfl);have hbr:=HBR.out k hlt;have hbl:=HBL.out k hlt;have hfin:Qa (Dl l c k=((Zj c l k).take (wd l k)).any fun v=>decide (v≠0)):=⟨by rw[List.take_of_length_le (by omega)];rfl⟩;obtain⟨o,ho⟩: ∃o,o=off l k:=⟨_,rfl⟩;obtain⟨d,hd⟩: ∃d,d=wd l k:=⟨_,rfl⟩;rw[<-ho] at hm hcp q1 q3 hbr ⊢;rw[<-hd] at hcell q1 q2 q3 hbr hfin;have i1:(d:Int)<=(m:Int):=(by omega);have i2:(d:Int)<=(cp:Int):=(by omega);have i3:(m:Int)<=(cp:Int):=(by omega);have i4:(cp:Int)<=9223372036854775807:=(by omega);have i5:(1:Int)<=(d:Int):=(by omega);have hkI:(k:Int)<(l.length:Int):=(by omega);have q3':=Qa.mk q3;replace hbr:=Qa.mk hbr;replace hm:=Qa.mk hm;replace hcp:=Qa.mk hcp;replace q1:=Qa.mk q1;replace hT:=Qa.mk hT;replace hle:=Qa.mk hle;obtain⟨a',ha'⟩: ∃a',a'=a.add o:=⟨_,rfl⟩;rw[<-ha'];replace ha':=Qa.mk ha';replace ho:=Qa.mk ho;replace hd:=Qa.mk hd;have hlen:(((List.range k).map (Dl l c)).length +1)*1<=140737488355328:=(by rw[hle.out];omega);replace hlen:=Qa.mk hlen;clear q2 q3 q4 hx hbl;go_wp2_with fail;obtain⟨wi,hwi⟩: ∃wi,wi=wr:=⟨_,rfl⟩;subst hwi;go_loopw [11,37] (fun s i wr=> ∃(j:Nat),i= .int .i64 j/\(∃b,s= .bool b/\Qa (b=((Zj c l k).take j).any fun v=>decide (v≠0)))/\j<=d/\Qa (Below wi.heap.size wi wr)) (fun _ i _=>d-(intOf i).toNat)
   case atStart=>exact⟨0,rfl,⟨_,rfl,⟨by simp⟩⟩,by omega,⟨Below.refl _ _⟩⟩
   case round=>
    obtain⟨j,rfl,⟨v,rfl,hv⟩,hj,hbJ⟩:=hrel;by_cases hlj:j<d
    ·obtain⟨ad3,e1,c2⟩:=Qn HR1.out (hb.out.trans (hbJ.out.mono hb.out.size)) (k:=o+j) (by have:=hcL.out;have:=q3'.out;omega)
     cases e1;rw[<-Addr.add_add,<-ha'.out] at c2;have hst:=hbr.out j hlj;obtain⟨x,hx⟩: ∃x,x=rd c (o+j:Nat):=⟨_,rfl⟩;rw[<-hx] at c2 hst;have hjI:(j:Int)<(d:Int):=(by omega);have hv2:Qa ((((Zj c l k).take (j+1)).any fun v=>decide (v≠0))=(v||decide (x≠0))):=⟨by rw[hst,any_snoc,hv.out]⟩;clear hx hv hst;cases v
     ·by_cases hx0:x=0
      ·have hn0:(x != 0)=false:=by simp[hx0]
       have hv3:=hv2.out;rw[decide_eq_false (by simpa using hx0)] at hv3;replace hv2:=Qa.mk hv3;clear hx0 hv3;go_wp2_with fail;go_roundw
       case rel=>exact⟨j+1,by go_num,⟨_,rfl,⟨hv2.out.symm⟩⟩,by omega,hbJ⟩
       case measure=>simp[intOf];omega
      ·have hn0:(x != 0)=true:=by simpa using hx0
       have hv3:=hv2.out;rw[decide_eq_true (by simpa using hx0)] at hv3;replace hv2:=Qa.mk hv3;clear hx0 hv3;go_wp2_with fail;go_roundw
       case rel=>exact⟨j+1,by go_num,⟨_,rfl,⟨hv2.out.symm⟩⟩,by omega,hbJ⟩
       case measure=>simp[intOf];omega
     ·have hv3:=hv2.out
      rw[Bool.true_or] at hv3;replace hv2:=Qa.mk hv3;clear hv3;go_wp2_with fail;go_roundw
      case rel=>exact⟨j+1,by go_num,⟨_,rfl,⟨hv2.out.symm⟩⟩,by omega,hbJ⟩
      case measure=>simp[intOf];omega
    ·obtain rfl:j=d:=by omega
     have hv2:Qa (v=Dl l c k):=⟨by rw[hv.out,hfin.out]⟩;have hR2:=Qa.mk (Kd.Q4 hR.out hbJ.out);have hb2:=Qa.mk (hb.out.trans (hbJ.out.mono hb.out.size));clear hR hbJ hb hv;obtain⟨q,hqe⟩: ∃q,q=(List.range k).map (Dl l c):=⟨_,rfl⟩;rw[<-hqe] at hR2 hlen hT;clear hqe hle;go_wp2_with (first|(at_builtin;refine Kd.Q3 Kd.bool (w0:=w) w.heap.size rfl (.tmp 50) (.tmp 52) 23 4 (.bool false) 1 rfl Tryz.underlying23 Du rfl (by decide) (by omega) u8 q (v) [.bool (v)] (fun _=>True) (fun _=>False) rfl rfl rfl (fun _ hk=>hk.elim) (fun _ _=>trivial) hR2.out hb2.out hb2.out.size hlen.out ?_;intro v1 wA hoA hbA hgA hatA;have HOA:=Qa.mk hoA;have HBA:=Qa.mk hbA;clear hoA hbA hgA hatA));go_roundw
     case rel=>
      refine⟨k+1,by go_num,by omega,?_,⟨by rw[hT.out,<-hv2.out];exact HOA.out⟩,HBA⟩;by_cases hcd:cp=j
      ·refine⟨a',_,_,by rw[if_pos hcd],⟨fun h=> ?_⟩⟩
       obtain⟨p1,p2,p3,p4⟩:=HO.out (k+1) h;have:=q1.out;have:=hcp.out;have:=ho.out
       exfalso;omega
      ·refine⟨a'.add j,_,_,by rw[if_neg hcd],⟨fun h=>⟨?_,?_,?_⟩⟩⟩
       ·rw[ha'.out,Addr.add_add,q1.out]
       ·rw[hm.out,q1.out];omega
       ·rw[hcp.out,q1.out];omega
     case measure=>simp[intOf];omega
  ·obtain rfl:k=l.length:=by omega
   clear hx;go_wp2_with fail;go_ret2;exact⟨_,rfl,hR.out,hb.out⟩
end Q21

namespace Q21
attribute [local go_sem] Qh Qi Qk Ql Qd Qe
open Q15
def Je (f:List Int):Bool:=Ye f&&(decide (f.length=0)||decide (rd f (f.length-1:Nat)≠0))
theorem Jy (A:Option Addr) (cap:Nat) (l:List Int) (w:World) (hr:(Kd.int .i64).C w A l.length l) (hl:l.length<=1000000):
  Calls Tryz.prog 52 #[.slice A l.length cap] w fun e w'=>e= .returned (.bool (Je l))/\Below w.heap.size w w':=by
 have hb:=Below.refl w.heap.size w;have HC:=Qa.mk (Jn A cap l w hr hl);have HR:=Qa.mk hr;unfold Je
 cases hd:Ye l with
 |false=>
  rw[Bool.false_and];have he:wgtE l=1:=(by unfold wgtE;rw[if_neg (by rw[hd];decide)]);rw[he] at HC;clear hd he hr hl;go_enter Tryz.func52,Tryz.ntmps52;go_wp2_with fail;refine HC.out.mono ?_;rintro e w1 ⟨B,p,rfl,-,hbn⟩;replace hb:=bnx hb hbn;clear hbn;go_wp2_with fail;go_ret;exact⟨rfl,hb⟩
 |true=>
  rw[Bool.true_and];have he:wgtE l=0:=(by unfold wgtE;rw[if_pos hd]);rw[he] at HC;by_cases h0:l.length=0
  ·have h0':((l.length:Int)==0)=true:=by simp[h0]
   rw[decide_eq_true h0,Bool.true_or];clear hd he hr hl h0;go_enter Tryz.func52,Tryz.ntmps52;go_wp2_with fail;refine HC.out.mono ?_;rintro e w1 ⟨B,p,rfl,-,hbn⟩;replace hb:=bnx hb hbn;clear hbn;go_wp2_with fail;go_ret;exact⟨rfl,hb⟩
  ·have h0':((l.length:Int)==0)=false:=by simp;exact fun h=>h0 (by rw[h];rfl)
   rw[decide_eq_false h0,Bool.false_or];obtain⟨n,hn⟩: ∃n,n=l.length-1:=⟨_,rfl⟩;have hnI:(l.length:Int)-1=(n:Int):=(by omega);have hlI:(l.length:Int)<=1000000:=(by omega);have hnl:n<l.length:=(by omega);have hnl':(n:Int)<(l.length:Int):=(by omega);have hs:IntKind.i64.wrap ((l.length:Int)-1)=(n:Int):=(by rw[hnI];exact IntWalk.i64_in _ (by omega));rw[<-hn];have hel:=Qa.mk (fun(W:World) (hb:Below w.heap.size w W)=>Qn HR.out hb hnl);obtain⟨x,hx⟩: ∃x,x=rd l (n:Int):=⟨_,rfl⟩;rw[<-hx] at hel ⊢;have hne:(x != 0)=decide (x≠0):=(by by_cases h:x=0<;>simp[h]);obtain⟨v,hv⟩: ∃v,v=decide (x≠0):=⟨_,rfl⟩;rw[<-hv] at hne ⊢;clear hd he hr hl h0 hn hx hv hnI hnl;cases v
   all_goals
    go_enter Tryz.func52,Tryz.ntmps52;go_wp2_with fail;refine HC.out.mono ?_;rintro e w1 ⟨B,p,rfl,-,hbn⟩;replace hb:=bnx hb hbn;clear hbn;obtain⟨ad,rfl,hcell⟩:=hel.out _ hb;go_wp2_with fail;go_ret;exact⟨rfl,hb⟩
theorem Qd9 {l:List Int} {k:Nat} (hk:k<l.length) (h: ¬(-127<=rd l k/\rd l k<=127)):Ye l=false:=by
 unfold Ye;rw[show Q16.rng (-127) 127 l=false from List.all_eq_false.2 ⟨_,Qp l k hk,by simpa using h⟩,Bool.and_false]
theorem M5 (A:Option Addr) (cap:Nat) (l:List Int) (w:World) (hr:(Kd.int .i64).C w A l.length l) (hl:l.length<=1000000):
  Calls Tryz.prog 47 #[.slice A l.length cap] w fun e w'=>e= .returned (.bool (Je l))/\Below w.heap.size w w':=by
 have HR:=Qa.mk hr;have hlI:(l.length:Int)<=1000000:=(by omega);have HF:Qa (∀k,k<l.length-> ¬(-127<=rd l k/\rd l k<=127)->Je l=false):=⟨fun k hk h=>by unfold Je;rw[Qd9 hk h,Bool.false_and]⟩
 have HT:Qa ((∀x∈l,-127<=x/\x<=127)->Je l=(decide (l.length<=12)&&(decide (l.length=0)||decide (rd l (l.length-1:Nat)≠0)))):=⟨fun h=>by
  unfold Je Ye
  rw[show Q16.rng (-127) 127 l=true from List.all_eq_true.2 fun x hx=>decide_eq_true (h x hx),Bool.and_true]⟩
 obtain⟨b,hbe⟩: ∃b,b=Je l:=⟨_,rfl⟩;rw[<-hbe] at HF HT ⊢;clear hr hl hbe;go_enter Tryz.func47,Tryz.ntmps47;go_wp2;go_loopw [7] (fun i wr=> ∃k:Nat,i= .int .i64 k/\k<=l.length/\Qa (∀x∈l.take k,-127<=x/\x<=127)/\Below w.heap.size w wr) (fun i _=>l.length-(intOf i).toNat)
 case atStart=>exact⟨0,rfl,by omega,⟨by simp⟩,Below.refl _ _⟩
 case round=>
  obtain⟨k,rfl,hk,ha,hb⟩:=hrel;by_cases hlt:k<l.length
  ·obtain⟨ad,rfl,hcell⟩:=Qn HR.out hb hlt
   have hT:=Qa.mk (Qu l k hlt);have hf:=HF.out k hlt;have hkI:(k:Int)<(l.length:Int):=(by omega);obtain⟨n,hx⟩: ∃n,n=rd l k:=⟨_,rfl⟩;rw[<-hx] at hcell hT hf;replace hf:=Qa.mk hf;clear hx;by_cases h1:n< -127
   ·have hff:=Qa.mk (hf.out (by omega))
    go_wp2;go_ret;exact⟨by rw[hff.out];rfl,hb⟩
   ·by_cases h2:127<n
    ·have hff:=Qa.mk (hf.out (by omega))
     have h1':decide (n< -127)=false:=(by simpa using h1);go_wp2;go_ret;exact⟨by rw[hff.out];rfl,hb⟩
    ·have h1':decide (n< -127)=false:=by simpa using h1
     have h2':decide (127<n)=false:=(by simpa using h2);have h3:Qa (-127<=n/\n<=127):=⟨by omega⟩;clear h1 h2;go_wp2;go_roundw
     case rel=>exact⟨k+1,by go_num,by omega,⟨by
      rw[hT.out];intro x hx;rcases List.mem_append.1 hx with hx|hx
      ·exact ha.out x hx
      ·rw[List.mem_singleton.1 hx];exact h3.out⟩,hb⟩
     case measure=>simp[intOf];omega
  ·obtain rfl:k=l.length:=by omega
   have hA:=ha.out;rw[List.take_length] at hA;have hff:=HT.out hA;clear ha hA HF HT;by_cases h12:l.length<=12
   ·have h12':decide ((l.length:Int)<=12)=true:=decide_eq_true (by omega)
    rw[decide_eq_true h12,Bool.true_and] at hff;by_cases h0:l.length=0
    ·have h0':((l.length:Int)==0)=true:=by simp[h0]
     rw[decide_eq_true h0,Bool.true_or] at hff;replace hff:=Qa.mk hff;clear h0 h12 hk hlt;go_wp2;go_ret;exact⟨by rw[hff.out];rfl,hb⟩
    ·have h0':((l.length:Int)==0)=false:=by simp;exact fun h=>h0 (by rw[h];rfl)
     rw[decide_eq_false h0,Bool.false_or] at hff;obtain⟨n,hn⟩: ∃n,n=l.length-1:=⟨_,rfl⟩;have hnI:(l.length:Int)-1=(n:Int):=(by omega);have hnl:n<l.length:=(by omega);have hnl':(n:Int)<(l.length:Int):=(by omega);have hs:IntKind.i64.wrap ((l.length:Int)-1)=(n:Int):=(by rw[hnI];exact IntWalk.i64_in _ (by omega));rw[<-hn] at hff;obtain⟨ad,rfl,hcell⟩:=Qn HR.out hb hnl;obtain⟨x,hx⟩: ∃x,x=rd l (n:Int):=⟨_,rfl⟩;rw[<-hx] at hcell hff;have hne:(x != 0)=decide (x≠0):=(by by_cases h:x=0<;>simp[h]);rw[<-hff] at hne;clear h0 hn hx hff hnI hnl h12 hk hlt;cases b
     all_goals
      go_wp2;go_ret;exact⟨rfl,hb⟩
   ·have h12':decide ((l.length:Int)<=12)=false:=decide_eq_false (by omega)
    rw[decide_eq_false h12,Bool.false_and] at hff;replace hff:=Qa.mk hff;clear h12 hk hlt;go_wp2;go_ret;exact⟨by rw[hff.out];rfl,hb⟩
end Q21

namespace Q21
attribute [local go_sem] Qh Qi Qk Ql Qd Qe
open Q15
open Q16 (KL Jk)
structure Dr where
 sh:Bool
 gr:List Int
 mid:List Bool
 fil:List (List Int)
 lis:List (List Int)
 lim:List (List Int)
structure DrV where
 Ag:Option Addr
 cg:Nat
 Am:Option Addr
 cm:Nat
 Af:Option Addr
 cf:Nat
 Al:Option Addr
 cl:Nat
 Ai:Option Addr
 ci:Nat
def Jp (d:Dr) (v:DrV):Array Value:= #[.bool d.sh,.slice v.Ag d.gr.length v.cg,.slice v.Am d.mid.length v.cm,.slice v.Af d.fil.length v.cf,.slice v.Al d.lis.length v.cl,.slice v.Ai d.lim.length v.ci]
structure DrAt (w:World) (d:Dr) (v:DrV):Prop where
 gr:(Kd.int .i64).C w v.Ag d.gr.length d.gr
 mid:Kd.bool.C w v.Am d.mid.length d.mid
 fil:KL.C w v.Af d.fil.length d.fil
 lis:KL.C w v.Al d.lis.length d.lis
 lim:KL.C w v.Ai d.lim.length d.lim
theorem DrAt.below {w W:World} {d:Dr} {v:DrV} (h:DrAt w d v) (hb:Below w.heap.size w W):DrAt W d v:=
 ⟨Kd.Qf h.gr hb,Kd.Qf h.mid hb,Kd.Qf h.fil hb,Kd.Qf h.lis hb,Kd.Qf h.lim hb⟩
def fewD (d:Dr):Bool:=decide (d.gr.length<=200)&&decide (d.mid.length<=200)&&decide (d.fil.length<=4)&&decide (d.lis.length<=4)&&decide (d.lim.length<=4)&&(d.fil++d.lis++d.lim).all fun l=>decide (l.length<=400)
def rdL (xs:List (List Int)) (i:Nat):List Int:=xs.getD i []
theorem Ou {w W:World} {A:Option Addr} {xs:List (List Int)} (h:KL.C w A xs.length xs) (hb:Below w.heap.size w W) {k:Nat} (hk:k<xs.length):
  ∃ad B c,A=some ad/\W.cell? (ad.add k)=some (.slice B (rdL xs k).length c)/\(rdL xs k).length <=c/\(Kd.int .i64).C W B (rdL xs k).length (rdL xs k):=by
 obtain⟨ad,c,e,_,hK,hc⟩:=Kd.Oj (Kd.Qf h hb) ([]:List Int) k (by omega) (by omega);have hc': ∀j u,c[j]? =some u->W.cell? (ad.add ((k:Int).toNat *1+j))=some u:=hc;obtain⟨B,c0,rfl,l0,g0⟩:=hK;exact⟨ad,B,c0,e,by have:=hc' 0 _ rfl;simpa[rdL] using this,l0,g0⟩
end Q21

namespace Q21
attribute [local go_sem] Qh Qi Qk Ql Qd Qe
open Q15
open Q16 (KL Jk)
def midB (n ch:Nat) (many:Nat):Bool:=if(ch:Int)=1 then decide (n=0) else decide ((n:Int)=many)
def okD (d:Dr) (m k:Nat):Bool:=decide ((rdL d.lis k).length =128)&&(Q16.rng (-2097152) 2097152 (rdL d.lis k)&&(decide ((rdL d.lim k).length =m)&&(Q16.rng 0 72057594037927936 (rdL d.lim k)&&Je (rdL d.fil k))))
def headD (d:Dr):Bool:=decide (1<=d.lis.length/\d.lis.length<=2/\d.lim.length=d.lis.length/\d.fil.length=d.lis.length)
def validD (d:Dr):Bool:=headD d&&(Zc d.sh d.gr&&(midB d.mid.length d.lis.length (Qm d.sh d.gr).length &&(List.range d.lis.length).all (okD d (Qm d.sh d.gr).length)))
def Jr (d:Dr) (w:World) (e:Ending) (w':World):Prop:=(∃A p,e= .returned (.tuple #[.slice A (if validD d then Qm d.sh d.gr else[]).length p,.bool (validD d)])/\(Kd.int .i64).C w' A (if validD d then Qm d.sh d.gr else[]).length (if validD d then Qm d.sh d.gr else[]))/\Below w.heap.size w w'
theorem Qbs {d:Dr} (h:fewD d=true):d.gr.length<=200/\d.mid.length<=200/\d.fil.length<=4/\d.lis.length<=4/\d.lim.length<=4/\(∀k,(rdL d.fil k).length <=400)/\(∀k,(rdL d.lis k).length <=400)/\(∀k,(rdL d.lim k).length <=400):=by
 unfold fewD at h;simp only[Bool.and_eq_true,decide_eq_true_eq] at h;have h2:=List.all_eq_true.1 h.2
 have h3: ∀(xs:List (List Int)),(∀x∈xs,x∈d.fil++d.lis++d.lim)-> ∀k,(rdL xs k).length <=400:=fun xs hx k=>by
  by_cases hk:k<xs.length
  ·have:=h2 (rdL xs k) (hx _ (by simp[rdL,hk]))
   exact of_decide_eq_true this
  ·simp[rdL,hk]
 exact⟨h.1.1.1.1.1,h.1.1.1.1.2,h.1.1.1.2,h.1.1.2,h.1.2,h3 _ (fun x hx=>by simp[hx]),h3 _ (fun x hx=>by simp[hx]),h3 _ (fun x hx=>by simp[hx])⟩
theorem Jr.no {d:Dr} {w:World} {e:Ending} {w':World} (h:validD d=false) (he:e= .returned (.tuple #[.slice none 0 0,.bool false])) (hb:Below w.heap.size w w'):Jr d w e w':=by
 refine⟨⟨none,0,?_,?_⟩,hb⟩
 ·rw[h]
  exact he
 ·rw[h]
  exact Kd.Uc _ _
theorem Jr.yes {d:Dr} {w:World} {e:Ending} {w':World} {A:Option Addr} {n p:Nat} (h:validD d=true) (he:e= .returned (.tuple #[.slice A n p,.bool true])) (hn:n=(Qm d.sh d.gr).length) (hC:(Kd.int .i64).C w' A n (Qm d.sh d.gr)) (hb:Below w.heap.size w w'):Jr d w e w':=by
 refine⟨⟨A,p,?_,?_⟩,hb⟩
 ·rw[h,if_pos rfl,he,hn]
 ·rw[h,if_pos rfl,<-hn]
  exact hC
theorem Qbw {d:Dr} (h:headD d=false):decide ((d.lis.length:Int)<1)=true\/decide ((d.lis.length:Int)<1)=false/\(decide (2<(d.lis.length:Int))=true\/decide (2<(d.lis.length:Int))=false/\((((d.lim.length:Int) != (d.lis.length:Int))=true)\/(((d.lim.length:Int) != (d.lis.length:Int))=false)/\(((d.fil.length:Int) != (d.lis.length:Int))=true))):=by
 unfold headD at h;rw[decide_eq_false_iff_not] at h;simp only[decide_eq_true_eq,decide_eq_false_iff_not,bne_iff_ne,bne_eq_false_iff_eq,ne_eq];omega
theorem Lv {d:Dr} (h:headD d=true):decide ((d.lis.length:Int)<1)=false/\decide (2<(d.lis.length:Int))=false/\((d.lim.length:Int) != (d.lis.length:Int))=false/\((d.fil.length:Int) != (d.lis.length:Int))=false:=by
 unfold headD at h;rw[decide_eq_true_eq] at h;simp only[decide_eq_false_iff_not,bne_eq_false_iff_eq];omega
theorem dw_head (d:Dr) (v:DrV) (w:World) (h:headD d=false):
  Calls Tryz.prog 25 #[.agg (Jp d v)] w (Jr d w):=by
 have hu26:=Tryz.underlying26;have HF:Qa (validD d=false):=⟨by unfold validD;rw[h,Bool.false_and]⟩;have hw:=Qbw h;clear h;unfold Jp;rcases hw with h1|⟨h1,h2|⟨h2,h3|⟨h3,h4⟩⟩⟩
 all_goals
  go_enter Tryz.func25,Tryz.ntmps25;go_wp2_with fail;go_ret2;exact Jr.no HF.out rfl ((Below.refl _ _).alloc (Nat.le_refl _) _)
theorem dw_div (d:Dr) (v:DrV) (w:World) (hL:Laid w) (hd:DrAt w d v) (h:headD d=true) (hv:Zc d.sh d.gr=false):
  Calls Tryz.prog 25 #[.agg (Jp d v)] w (Jr d w):=by
 have hu26:=Tryz.underlying26;have HF:Qa (validD d=false):=⟨by unfold validD;rw[hv,Bool.false_and,Bool.and_false]⟩;obtain⟨h1,h2,h3,h4⟩:=Lv h;have HC:=Qa.mk (fun(W:World) (hb:Below w.heap.size w W)=>X3 d.sh v.Ag v.cg d.gr W (hL.below hb) (hd.below hb).gr);have hE:Kb d.sh d.gr=1:=(by unfold Kb;rw[hv];rfl);rw[hE] at HC;clear h hv hd hL hE;unfold Jp;go_enter Tryz.func25,Tryz.ntmps25;go_wp2_with fail;have hb:Below w.heap.size w (w.alloc (.cells #[.bool d.sh,.slice v.Ag d.gr.length v.cg,.slice v.Am d.mid.length v.cm,.slice v.Af d.fil.length v.cf,.slice v.Al d.lis.length v.cl,.slice v.Ai d.lim.length v.ci] 26)):=(Below.refl _ _).alloc (Nat.le_refl _) _;refine(HC.out _ hb).mono ?_;rintro e w1 ⟨A,p,rfl,-,hbn⟩;replace hb:=bnx hb hbn;clear hbn;go_wp2_with fail;go_ret2;exact Jr.no HF.out rfl hb
theorem dw_yes (d:Dr) (v:DrV) (w:World) (hL:Laid w) (hd:DrAt w d v) (hf:fewD d=true) (h:headD d=true) (hv:Zc d.sh d.gr=true):
  Calls Tryz.prog 25 #[.agg (Jp d v)] w (Jr d w):=by
 have hu26:=Tryz.underlying26;obtain⟨h1,h2,h3,h4⟩:=Lv h;obtain⟨f1,f2,f3,f4,f5,f6,f7,f8⟩:=Qbs hf;have hlI:(d.lis.length:Int)<=4:=by omega
 have hll:d.lim.length=d.lis.length/\d.fil.length=d.lis.length:=by
  unfold headD at h;rw[decide_eq_true_eq] at h;exact⟨h.2.2.1,h.2.2.2⟩
 have HV:Qa (validD d=(midB d.mid.length d.lis.length (Qm d.sh d.gr).length &&(List.range d.lis.length).all (okD d (Qm d.sh d.gr).length))):=⟨by unfold validD;rw[h,hv,Bool.true_and,Bool.true_and]⟩;have HC:=Qa.mk (fun(W:World) (hb:Below w.heap.size w W)=>X3 d.sh v.Ag v.cg d.gr W (hL.below hb) (hd.below hb).gr);have hE:Kb d.sh d.gr=0:=(by unfold Kb;rw[hv];rfl);have hW:D7 d.sh d.gr=Qm d.sh d.gr:=(by unfold D7;rw[hv];rfl);rw[hE,hW] at HC;obtain⟨L,hL2⟩: ∃L,L=Qm d.sh d.gr:=⟨_,rfl⟩;rw[<-hL2] at HC HV;have hYes:=Qa.mk (fun{e:Ending} {w':World} {A:Option Addr} {p:Nat} (h:validD d=true) (he:e= .returned (.tuple #[.slice A L.length p,.bool true])) (hC:(Kd.int .i64).C w' A L.length L) (hb:Below w.heap.size w w')=>Jr.yes (n:=L.length) h he (by rw[hL2]) (by rw[<-hL2];exact hC) hb);have HM:=Qa.mk (fun(W:World)=>K4 v.Am v.cm d.mid.length (d.lis.length:Int) (L.length:Int) W);have HD:=Qa.mk hd;have f6':=Qa.mk f6;have f7':=Qa.mk f7;have f8':=Qa.mk f8;have hll':=Qa.mk hll;clear h hv hd hL hE hW hf hL2 f1 f2 f3 f4 f5 f6 f7 f8 hll;unfold Jp
 cases hm:midB d.mid.length d.lis.length L.length with
 |false=>
  have hmv:=HV.out;rw[hm,Bool.false_and] at hmv;replace HV:=Qa.mk hmv;unfold midB at hm;rw[hm] at HM;clear hm hmv;go_enter Tryz.func25,Tryz.ntmps25;go_wp2_with fail;have hb:Below w.heap.size w (w.alloc (.cells #[.bool d.sh,.slice v.Ag d.gr.length v.cg,.slice v.Am d.mid.length v.cm,.slice v.Af d.fil.length v.cf,.slice v.Al d.lis.length v.cl,.slice v.Ai d.lim.length v.ci] 26)):=(Below.refl _ _).alloc (Nat.le_refl _) _;obtain⟨W,hW⟩: ∃W,W=w.alloc (.cells #[.bool d.sh,.slice v.Ag d.gr.length v.cg,.slice v.Am d.mid.length v.cm,.slice v.Af d.fil.length v.cf,.slice v.Al d.lis.length v.cl,.slice v.Ai d.lim.length v.ci] 26):=⟨_,rfl⟩;have k2:W.cell? ⟨w.heap.size,2,none⟩=some (.slice v.Am d.mid.length v.cm):=(by rw[hW];go_simp);rw[<-hW] at hb ⊢;clear hW;refine(HC.out _ hb).mono ?_;rintro e w1 ⟨A,p,rfl,-,hbn⟩;replace hb:=bnx hb hbn;replace k2:=cnx k2 hbn;clear hbn;go_wp2_with (first|(go_at_call 51;refine(HM.out _).mono ?_;rintro e w' ⟨rfl,hbn⟩;replace hb:=bnx hb hbn;clear hbn));go_ret2;exact Jr.no HV.out rfl hb
 |true=>
  have hmv:=HV.out;rw[hm,Bool.true_and] at hmv;replace HV:=Qa.mk hmv;unfold midB at hm;rw[hm] at HM;have HNo:Qa (∀k,k<d.lis.length->okD d L.length k=false->validD d=false):=⟨fun k hk h=>by rw[HV.out];exact List.all_eq_false.2 ⟨k,List.mem_range.2 hk,by rw[h];decide⟩⟩;have HYv:Qa ((∀k,k<d.lis.length->okD d L.length k=true)->validD d=true):=⟨fun h=>by rw[HV.out];exact List.all_eq_true.2 fun k hk=>h k (List.mem_range.1 hk)⟩;clear hm hmv HV;obtain⟨Ag,cg,Am,cm,Af,cf,Al,cl,Ai,ci⟩:=v;have gl:=HD.out.lis;have gi:=HD.out.lim;have gf:=HD.out.fil;dsimp only at gl gi gf HC HM ⊢;replace gl:=Qa.mk gl;replace gi:=Qa.mk gi;replace gf:=Qa.mk gf;clear HD;go_enter Tryz.func25,Tryz.ntmps25;go_wp2_with fail;have hb:Below w.heap.size w (w.alloc (.cells #[.bool d.sh,.slice Ag d.gr.length cg,.slice Am d.mid.length cm,.slice Af d.fil.length cf,.slice Al d.lis.length cl,.slice Ai d.lim.length ci] 26)):=(Below.refl _ _).alloc (Nat.le_refl _) _;obtain⟨W,hW⟩: ∃W,W=w.alloc (.cells #[.bool d.sh,.slice Ag d.gr.length cg,.slice Am d.mid.length cm,.slice Af d.fil.length cf,.slice Al d.lis.length cl,.slice Ai d.lim.length ci] 26):=⟨_,rfl⟩;have k2:W.cell? ⟨w.heap.size,2,none⟩=some (.slice Am d.mid.length cm):=(by rw[hW];go_simp);have k3:W.cell? ⟨w.heap.size,3,none⟩=some (.slice Af d.fil.length cf):=(by rw[hW];go_simp);have k4:W.cell? ⟨w.heap.size,4,none⟩=some (.slice Al d.lis.length cl):=(by rw[hW];go_simp);have k5:W.cell? ⟨w.heap.size,5,none⟩=some (.slice Ai d.lim.length ci):=(by rw[hW];go_simp);rw[<-hW] at hb ⊢;clear hW;refine(HC.out _ hb).mono ?_;rintro e w1 ⟨A,p,rfl,hCw,hbn⟩;replace hb:=bnx hb hbn;replace k2:=cnx k2 hbn;replace k3:=cnx k3 hbn;replace k4:=cnx k4 hbn;replace k5:=cnx k5 hbn;clear hbn;go_wp2_with fail;refine(HM.out _).mono ?_;rintro e w2 ⟨rfl,hbn⟩;replace hb:=bnx hb hbn;replace k2:=cnx k2 hbn;replace k3:=cnx k3 hbn;replace k4:=cnx k4 hbn;replace k5:=cnx k5 hbn;replace hCw:=Qa.mk (Kd.Qf hCw hbn);clear hbn;go_wp2_with fail;have K:=Qa.mk (And.intro k3 (And.intro k4 k5));replace hb:=Qa.mk hb;clear k2 k3 k4 k5;go_loopw [54] (fun i wr=> ∃k:Nat,i= .int .i64 k/\k<=d.lis.length/\Qa (∀j,j<k->okD d L.length j=true)/\Qa (Below w2.heap.size w2 wr)) (fun i _=>d.lis.length-(intOf i).toNat)
  case atStart=>exact⟨0,rfl,by omega,⟨fun j hj=>by omega⟩,⟨Below.refl _ _⟩⟩
  case round=>
   obtain⟨k,rfl,hk,ha,hbL⟩:=hrel;by_cases hlt:k<d.lis.length
   ·have hbw:=hb.out.trans (hbL.out.mono hb.out.size)
    obtain⟨ad1,B1,c1,rfl,m4,-,C1⟩:=Ou gl.out hbw hlt;obtain⟨ad2,B2,c2,rfl,m5,-,C2⟩:=Ou gi.out hbw (k:=k) (by rw[hll'.out.1];exact hlt);obtain⟨ad3,B3,c3,rfl,m3,-,C3⟩:=Ou gf.out hbw (k:=k) (by rw[hll'.out.2];exact hlt);obtain⟨k3,k4,k5⟩:=K.out;replace k3:=cnx k3 hbL.out;replace k4:=cnx k4 hbL.out;replace k5:=cnx k5 hbL.out;have hkI:(k:Int)<(d.lis.length:Int):=(by omega);have hkI2:(k:Int)<(d.lim.length:Int):=(by have:=hll'.out;omega);have hkI3:(k:Int)<(d.fil.length:Int):=(by have:=hll'.out;omega);have HC1:=fun(W:World) (hz:Below wr.heap.size wr W)=>X5 B1 c1 (rdL d.lis k) (-2097152) 2097152 W (Kd.Qf C1 hz) (by have:=f7'.out k;omega)
    have HC2:=fun(W:World) (hz:Below wr.heap.size wr W)=>X5 B2 c2 (rdL d.lim k) 0 72057594037927936 W (Kd.Qf C2 hz) (by have:=f8'.out k;omega)
    have HC3:=fun(W:World) (hz:Below wr.heap.size wr W)=>Jy B3 c3 (rdL d.fil k) W (Kd.Qf C3 hz) (by have:=f6'.out k;omega)
    have hok:okD d L.length k=(decide ((rdL d.lis k).length =128)&&(Q16.rng (-2097152) 2097152 (rdL d.lis k)&&(decide ((rdL d.lim k).length =L.length)&&(Q16.rng 0 72057594037927936 (rdL d.lim k)&&Je (rdL d.fil k))))):=rfl;obtain⟨x,hx⟩: ∃x,x=rdL d.lis k:=⟨_,rfl⟩;obtain⟨y,hy⟩: ∃y,y=rdL d.lim k:=⟨_,rfl⟩;obtain⟨z,hzz⟩: ∃z,z=rdL d.fil k:=⟨_,rfl⟩;rw[<-hx] at m4 HC1 hok;rw[<-hy] at m5 HC2 hok;rw[<-hzz] at m3 HC3 hok;obtain⟨q2,hq2⟩: ∃q2,q2=Q16.rng (-2097152) 2097152 x:=⟨_,rfl⟩;obtain⟨q4,hq4⟩: ∃q4,q4=Q16.rng 0 72057594037927936 y:=⟨_,rfl⟩;obtain⟨q5,hq5⟩: ∃q5,q5=Je z:=⟨_,rfl⟩;rw[<-hq2] at HC1 hok;rw[<-hq4] at HC2 hok;rw[<-hq5] at HC3 hok;replace HC1:=Qa.mk HC1;replace HC2:=Qa.mk HC2;replace HC3:=Qa.mk HC3;have hltk:=Qa.mk hlt;have hz:=Below.refl wr.heap.size wr;clear hx hy hzz hq2 hq4 hq5 C1 C2 C3 hbw hlt;by_cases hl1:x.length=128
    ·have t1:((x.length:Int) != 128)=false:=by rw[bne_eq_false_iff_eq];omega
     rw[decide_eq_true hl1,Bool.true_and] at hok;clear hl1
     cases q2 with
     |false=>
      have hno:Qa (okD d L.length k=false):=⟨by rw[hok,Bool.false_and]⟩;clear hok;go_wp2_with (first|(go_at_call 26;refine(HC1.out _ hz).mono ?_;rintro e w' ⟨rfl,hbn⟩;replace hz:=bnx hz hbn;replace k3:=cnx k3 hbn;replace k4:=cnx k4 hbn;replace k5:=cnx k5 hbn;replace m3:=cnx m3 hbn;replace m5:=cnx m5 hbn;clear hbn)|(go_at_call 26;refine(HC2.out _ hz).mono ?_;rintro e w' ⟨rfl,hbn⟩;replace hz:=bnx hz hbn;replace k3:=cnx k3 hbn;replace k4:=cnx k4 hbn;replace k5:=cnx k5 hbn;replace m3:=cnx m3 hbn;replace m5:=cnx m5 hbn;clear hbn)|(go_at_call 52;refine(HC3.out _ hz).mono ?_;rintro e w' ⟨rfl,hbn⟩;replace hz:=bnx hz hbn;replace k3:=cnx k3 hbn;replace k4:=cnx k4 hbn;replace k5:=cnx k5 hbn;replace m3:=cnx m3 hbn;replace m5:=cnx m5 hbn;clear hbn));go_ret2;exact Jr.no (HNo.out _ hltk.out hno.out) rfl (hb.out.trans ((hbL.out.trans (hz.mono hbL.out.size)).mono hb.out.size))
     |true=>
      rw[Bool.true_and] at hok;by_cases hl2:y.length=L.length
      ·have t2:((y.length:Int) != (L.length:Int))=false:=by rw[bne_eq_false_iff_eq];omega
       rw[decide_eq_true hl2,Bool.true_and] at hok;clear hl2
       cases q4 with
       |false=>
        have hno:Qa (okD d L.length k=false):=⟨by rw[hok,Bool.false_and]⟩;clear hok;go_wp2_with (first|(go_at_call 26;refine(HC1.out _ hz).mono ?_;rintro e w' ⟨rfl,hbn⟩;replace hz:=bnx hz hbn;replace k3:=cnx k3 hbn;replace k4:=cnx k4 hbn;replace k5:=cnx k5 hbn;replace m3:=cnx m3 hbn;replace m5:=cnx m5 hbn;clear hbn)|(go_at_call 26;refine(HC2.out _ hz).mono ?_;rintro e w' ⟨rfl,hbn⟩;replace hz:=bnx hz hbn;replace k3:=cnx k3 hbn;replace k4:=cnx k4 hbn;replace k5:=cnx k5 hbn;replace m3:=cnx m3 hbn;replace m5:=cnx m5 hbn;clear hbn)|(go_at_call 52;refine(HC3.out _ hz).mono ?_;rintro e w' ⟨rfl,hbn⟩;replace hz:=bnx hz hbn;replace k3:=cnx k3 hbn;replace k4:=cnx k4 hbn;replace k5:=cnx k5 hbn;replace m3:=cnx m3 hbn;replace m5:=cnx m5 hbn;clear hbn));go_ret2;exact Jr.no (HNo.out _ hltk.out hno.out) rfl (hb.out.trans ((hbL.out.trans (hz.mono hbL.out.size)).mono hb.out.size))
       |true=>
        rw[Bool.true_and] at hok
        cases q5 with
        |false=>
         have hno:Qa (okD d L.length k=false):=⟨hok⟩;clear hok;go_wp2_with (first|(go_at_call 26;refine(HC1.out _ hz).mono ?_;rintro e w' ⟨rfl,hbn⟩;replace hz:=bnx hz hbn;replace k3:=cnx k3 hbn;replace k4:=cnx k4 hbn;replace k5:=cnx k5 hbn;replace m3:=cnx m3 hbn;replace m5:=cnx m5 hbn;clear hbn)|(go_at_call 26;refine(HC2.out _ hz).mono ?_;rintro e w' ⟨rfl,hbn⟩;replace hz:=bnx hz hbn;replace k3:=cnx k3 hbn;replace k4:=cnx k4 hbn;replace k5:=cnx k5 hbn;replace m3:=cnx m3 hbn;replace m5:=cnx m5 hbn;clear hbn)|(go_at_call 52;refine(HC3.out _ hz).mono ?_;rintro e w' ⟨rfl,hbn⟩;replace hz:=bnx hz hbn;replace k3:=cnx k3 hbn;replace k4:=cnx k4 hbn;replace k5:=cnx k5 hbn;replace m3:=cnx m3 hbn;replace m5:=cnx m5 hbn;clear hbn));go_ret2;exact Jr.no (HNo.out _ hltk.out hno.out) rfl (hb.out.trans ((hbL.out.trans (hz.mono hbL.out.size)).mono hb.out.size))
        |true=>
         replace hok:=Qa.mk hok;go_wp2_with (first|(go_at_call 26;refine(HC1.out _ hz).mono ?_;rintro e w' ⟨rfl,hbn⟩;replace hz:=bnx hz hbn;replace k3:=cnx k3 hbn;replace k4:=cnx k4 hbn;replace k5:=cnx k5 hbn;replace m3:=cnx m3 hbn;replace m5:=cnx m5 hbn;clear hbn)|(go_at_call 26;refine(HC2.out _ hz).mono ?_;rintro e w' ⟨rfl,hbn⟩;replace hz:=bnx hz hbn;replace k3:=cnx k3 hbn;replace k4:=cnx k4 hbn;replace k5:=cnx k5 hbn;replace m3:=cnx m3 hbn;replace m5:=cnx m5 hbn;clear hbn)|(go_at_call 52;refine(HC3.out _ hz).mono ?_;rintro e w' ⟨rfl,hbn⟩;replace hz:=bnx hz hbn;replace k3:=cnx k3 hbn;replace k4:=cnx k4 hbn;replace k5:=cnx k5 hbn;replace m3:=cnx m3 hbn;replace m5:=cnx m5 hbn;clear hbn));go_roundw
         case rel=>exact⟨k+1,by go_num,hltk.out,⟨fun j hj=>by
          by_cases h:j=k
          ·rw[h];exact hok.out
          ·exact ha.out j (by omega)⟩,⟨hbL.out.trans (hz.mono hbL.out.size)⟩⟩
         case measure=>have:=hltk.out;simp[intOf];omega
      ·have t2:((y.length:Int) != (L.length:Int))=true:=by rw[bne_iff_ne];omega
       have hno:Qa (okD d L.length k=false):=⟨by rw[hok,decide_eq_false hl2,Bool.false_and]⟩;clear hok hl2;go_wp2_with (first|(go_at_call 26;refine(HC1.out _ hz).mono ?_;rintro e w' ⟨rfl,hbn⟩;replace hz:=bnx hz hbn;replace k3:=cnx k3 hbn;replace k4:=cnx k4 hbn;replace k5:=cnx k5 hbn;replace m3:=cnx m3 hbn;replace m5:=cnx m5 hbn;clear hbn)|(go_at_call 26;refine(HC2.out _ hz).mono ?_;rintro e w' ⟨rfl,hbn⟩;replace hz:=bnx hz hbn;replace k3:=cnx k3 hbn;replace k4:=cnx k4 hbn;replace k5:=cnx k5 hbn;replace m3:=cnx m3 hbn;replace m5:=cnx m5 hbn;clear hbn)|(go_at_call 52;refine(HC3.out _ hz).mono ?_;rintro e w' ⟨rfl,hbn⟩;replace hz:=bnx hz hbn;replace k3:=cnx k3 hbn;replace k4:=cnx k4 hbn;replace k5:=cnx k5 hbn;replace m3:=cnx m3 hbn;replace m5:=cnx m5 hbn;clear hbn));go_ret2;exact Jr.no (HNo.out _ hltk.out hno.out) rfl (hb.out.trans ((hbL.out.trans (hz.mono hbL.out.size)).mono hb.out.size))
    ·have t1:((x.length:Int) != 128)=true:=by rw[bne_iff_ne];omega
     have hno:Qa (okD d L.length k=false):=⟨by rw[hok,decide_eq_false hl1,Bool.false_and]⟩;clear hok hl1;go_wp2_with (first|(go_at_call 26;refine(HC1.out _ hz).mono ?_;rintro e w' ⟨rfl,hbn⟩;replace hz:=bnx hz hbn;replace k3:=cnx k3 hbn;replace k4:=cnx k4 hbn;replace k5:=cnx k5 hbn;replace m3:=cnx m3 hbn;replace m5:=cnx m5 hbn;clear hbn)|(go_at_call 26;refine(HC2.out _ hz).mono ?_;rintro e w' ⟨rfl,hbn⟩;replace hz:=bnx hz hbn;replace k3:=cnx k3 hbn;replace k4:=cnx k4 hbn;replace k5:=cnx k5 hbn;replace m3:=cnx m3 hbn;replace m5:=cnx m5 hbn;clear hbn)|(go_at_call 52;refine(HC3.out _ hz).mono ?_;rintro e w' ⟨rfl,hbn⟩;replace hz:=bnx hz hbn;replace k3:=cnx k3 hbn;replace k4:=cnx k4 hbn;replace k5:=cnx k5 hbn;replace m3:=cnx m3 hbn;replace m5:=cnx m5 hbn;clear hbn));go_ret2;exact Jr.no (HNo.out _ hltk.out hno.out) rfl (hb.out.trans ((hbL.out.trans (hz.mono hbL.out.size)).mono hb.out.size))
   ·obtain rfl:k=d.lis.length:=by omega
    have hv:=Qa.mk (HYv.out ha.out);have hCw2:=Qa.mk (Kd.Qf hCw.out hbL.out);clear ha HNo HYv;go_wp2_with fail;go_ret2;exact hYes.out hv.out rfl hCw2.out (hb.out.trans (hbL.out.mono hb.out.size))
theorem Bj (d:Dr) (v:DrV) (w:World) (hL:Laid w) (hd:DrAt w d v) (hf:fewD d=true):
  Calls Tryz.prog 25 #[.agg (Jp d v)] w (Jr d w):=by
 cases h:headD d with
 |false=>exact dw_head d v w h
 |true=>
  cases hv:Zc d.sh d.gr with
  |false=>exact dw_div d v w hL hd h hv
  |true=>exact dw_yes d v w hL hd hf h hv
end Q21

end Go.Proofs.YtnflnicdjioflaaGreatDoor
