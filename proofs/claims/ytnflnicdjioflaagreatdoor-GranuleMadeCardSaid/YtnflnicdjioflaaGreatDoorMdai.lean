/- A part of the proof. -/
import Derived.Test.YtnflnicdjioflaaGreatDoorMdae
set_option linter.unusedVariables false
set_option linter.unusedSimpArgs false
set_option maxRecDepth 100000
set_option maxHeartbeats 8000000
namespace Go.Proofs.YtnflnicdjioflaaGreatDoor
open Go.RowKit Go.Proofs.YtnflnicdjioflaaGreatDoorW.PrintWords Go.Proofs.YtnflnicdjioflaaGreatDoorW.PrintLast Go.Proofs.YtnflnicdjioflaaGreatDoorW.PrintMore
namespace Sca
attribute [local go_sem] Qi Qj Qk Ql Qg Qh
open Q15
def isS (s:Int):Bool:=decide (0<=s/\s<=95)
def J2 (ss:List Int) (us:List Bool) (k:Nat):Bool:=(List.range k).any fun i=>decide (rd ss i≠0)&& !us.getD i false
def scE (ss:List Int) (us:List Bool):Int:=if ss.all isS=true then(if J2 ss us ss.length=true then 4 else 0) else 6
theorem Nz (ss:List Int) (us:List Bool) (k:Nat):J2 ss us (k+1)=(J2 ss us k||(decide (rd ss k≠0)&& !us.getD k false)):=by
 unfold J2;rw[List.range_succ,List.any_append];simp
theorem Y0 {w w1:World} {A:Option Addr} {l:List Bool} (hr:Kd.bool.C w A l.length l) (hb:Below w.heap.size w w1) {k:Nat} (hk:k<l.length):
  ∃ad,A=some ad/\w1.cell? (ad.add k)=some (.bool (l.getD k false)):=by
 obtain⟨-,-,r3⟩:=Kd.Xn (enc:=Value.bool) (h1:=fun _=>rfl) (d:=false) hr;obtain⟨a,rfl,hc⟩:=r3 (by omega);refine⟨a,rfl,cnx ?_ hb⟩;have:=hc k hk;simpa using this
theorem is_calls (s:Int) (w:World):
  Calls Tryz.prog 208 #[.int .i64 s] w fun e w'=>e= .returned (.bool (isS s))/\w'=w:=by
 by_cases h:0<=s
 ·by_cases h2:s<=95
  ·have hi:Qa (isS s=true):=⟨decide_eq_true ⟨h,h2⟩⟩
   go_enter Tryz.func208,Tryz.ntmps208;go_wp2;go_ret;exact⟨by rw[hi.out];simp[h2],rfl⟩
  ·have hi:Qa (isS s=false):=⟨decide_eq_false (by omega)⟩
   go_enter Tryz.func208,Tryz.ntmps208;go_wp2;go_ret;exact⟨by rw[hi.out];simp[h2],rfl⟩
 ·have hi:Qa (isS s=false):=⟨decide_eq_false (by omega)⟩
  go_enter Tryz.func208,Tryz.ntmps208;go_wp2;go_ret;exact⟨by rw[hi.out];rfl,rfl⟩
theorem Tf (A B:Option Addr) (c1 c2:Nat) (ss:List Int) (us:List Bool) (w:World) (hr:(Kd.int .i64).C w A ss.length ss) (hr2:Kd.bool.C w B us.length us) (hl:ss.length=us.length) (h128:us.length<=128):
  Calls Tryz.prog 169 #[.slice A ss.length c1,.slice B us.length c2] w fun e w'=>e= .returned (.int .i64 (scE ss us))/\Below w.heap.size w w':=by
 have HR:=Qa.mk hr;have HR2:=Qa.mk hr2;have HL:=Qa.mk hl;have hne:((ss.length:Int) != (us.length:Int))=false:=(by rw[hl];simp);have hne2:(ss.length != us.length)=false:=(by rw[hl];simp);have hlI:(ss.length:Int)<=128:=(by omega);have hlI2:(us.length:Int)<=128:=(by omega);have HI:=Qa.mk is_calls;clear hr hr2 hl h128;go_enter Tryz.func169,Tryz.ntmps169;go_wp2;go_loopw [5,20] (fun x i wr=> ∃k:Nat,i= .int .i64 k/\k<=ss.length/\Qa (x= .int .i64 (if J2 ss us k=true then 4 else 0))/\Qa ((ss.take k).all isS=true)/\Below w.heap.size w wr) (fun _ i _=>ss.length-(intOf i).toNat)
 case atStart=>exact⟨0,rfl,by omega,⟨by simp[J2]⟩,⟨by simp⟩,Below.refl _ _⟩
 case round=>
  obtain⟨k,rfl,hk,hx,ha,hb⟩:=hrel;by_cases hlt:k<ss.length
  ·obtain⟨ad,rfl,hcell⟩:=Qq HR.out hb hlt
   obtain⟨ad2,rfl,hcell2⟩:=Y0 HR2.out hb (k:=k) (by rw[<-HL.out];exact hlt);have hltI:(k:Int)<(ss.length:Int):=(by omega);have hltI2:(k:Int)<(us.length:Int):=(by rw[<-HL.out];exact hltI);have hIc:=Qa.mk (fun W=>HI.out (rd ss k) W);have hT:Qa ((ss.take (k+1)).all isS=isS (rd ss k)):=⟨by rw[Qx ss k hlt,List.all_append,ha.out];simp⟩;have hU:=Qa.mk (Nz ss us k)
   have hall:Qa (isS (rd ss k)=false->scE ss us=6):=⟨fun h=>by
    unfold scE;rw[if_neg];intro h2;have:=List.all_eq_true.1 h2 _ (Qt ss k hlt);rw[h] at this
    exact absurd this (by simp)⟩
   obtain⟨s,hs⟩: ∃s,s=rd ss k:=⟨_,rfl⟩;obtain⟨u,hu⟩: ∃u,u=us.getD k false:=⟨_,rfl⟩;rw[<-hs] at hcell hIc hT hU hall;rw[<-hu] at hcell2 hU;obtain⟨r,hr⟩: ∃r,r=isS s:=⟨_,rfl⟩;rw[<-hr] at hIc hT hall;have hlt':=Qa.mk hlt;clear hs hu hr hlt hk
   cases r with
   |false=>
    go_wp2_with (first|(go_at_call 208;refine(hIc.out _).mono ?_;rintro e w' ⟨rfl,hw'⟩;rw[hw'];clear hw'));go_ret;exact⟨by rw[hall.out trivial];rfl,hb⟩
   |true=>
    by_cases h0:s=0
    ·subst h0
     go_wp2_with (first|(go_at_call 208;refine(hIc.out _).mono ?_;rintro e w' ⟨rfl,hw'⟩;rw[hw'];clear hw'));go_roundw
     case rel=>exact⟨k+1,by go_num,hlt'.out,⟨by rw[hU.out,hx.out];simp⟩,⟨hT.out⟩,hb⟩
     case measure=>have:=hlt'.out;simp[intOf];omega
    ·have hb0:(s != 0)=true:=by simpa using h0
     cases u with
     |false=>
      have hU2:Qa (J2 ss us (k+1)=true):=⟨by rw[hU.out];simp[h0]⟩;clear hU h0;go_wp2_with (first|(go_at_call 208;refine(hIc.out _).mono ?_;rintro e w' ⟨rfl,hw'⟩;rw[hw'];clear hw'));go_roundw
      case rel=>exact⟨k+1,by go_num,hlt'.out,⟨by rw[hU2.out];rfl⟩,⟨hT.out⟩,hb⟩
      case measure=>have:=hlt'.out;simp[intOf];omega
     |true=>
      have hU2:Qa (J2 ss us (k+1)=J2 ss us k):=⟨by rw[hU.out];simp⟩;clear hU h0;go_wp2_with (first|(go_at_call 208;refine(hIc.out _).mono ?_;rintro e w' ⟨rfl,hw'⟩;rw[hw'];clear hw'));go_roundw
      case rel=>exact⟨k+1,by go_num,hlt'.out,⟨by rw[hU2.out];exact hx.out⟩,⟨hT.out⟩,hb⟩
      case measure=>have:=hlt'.out;simp[intOf];omega
  ·obtain rfl:k=ss.length:=by omega
   have hx2:=hx.out;subst hx2;have hS:Qa (scE ss us=if J2 ss us ss.length=true then 4 else 0):=⟨by unfold scE;rw[if_pos (by have:=ha.out;rwa [List.take_length] at this)]⟩;obtain⟨E,hE⟩: ∃E:Int,(if J2 ss us ss.length=true then 4 else 0)=E:=⟨_,rfl⟩;rw[hE] at hS ⊢;clear hE hx;go_wp2;go_ret;exact⟨by rw[hS.out];rfl,hb⟩
end Sca

end Go.Proofs.YtnflnicdjioflaaGreatDoor
