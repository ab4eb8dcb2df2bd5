/- A part of the proof. -/
import Derived.Test.YtnflnicdjioflaaGreatDoorMdad
import Derived.Test.YtnflnicdjioflaaGreatDoorMdab
import Derived.RangeFuncBound
import Derived.Shelf.Abstract
import Derived.Shelf.RegionOpen
import Derived.OwnWalkIn
import Derived.TacticsInMore
import Derived.LoopNIn
import Derived.LoopIn
set_option linter.unusedVariables false
set_option linter.unusedSimpArgs false
set_option maxRecDepth 100000
set_option maxHeartbeats 8000000
namespace Go.Proofs.YtnflnicdjioflaaGreatDoor
open Go.RowKit Go.Proofs.YtnflnicdjioflaaGreatDoorW.PrintWords Go.Proofs.YtnflnicdjioflaaGreatDoorW.PrintLast Go.Proofs.YtnflnicdjioflaaGreatDoorW.PrintMore
namespace Q15
attribute [local go_sem] Qi Qj Qk Ql Qg Qh
theorem Jr (l:List Int) (k:Nat) (h:k<l.length):rd l k=l[k]:=by unfold rd;simp[List.getD_eq_getElem?_getD,h]
theorem Qt (l:List Int) (k:Nat) (h:k<l.length):rd l k∈l:=by rw[Jr l k h];exact List.getElem_mem _
theorem Qx (l:List Int) (k:Nat) (h:k<l.length):l.take (k+1)=l.take k++[rd l k]:=by rw[Jr l k h,List.take_succ_eq_append_getElem h]
theorem Qq {w w1:World} {A:Option Addr} {l:List Int} (hr:(Kd.int .i64).C w A l.length l) (hb:Below w.heap.size w w1) {k:Nat} (hk:k<l.length):
  ∃ad,A=some ad/\w1.cell? (ad.add k)=some (.int .i64 (rd l k)):=by
 obtain⟨ad,e,h⟩:=Kd.Qbi hr (k:Nat) (by omega) (by omega);exact⟨ad,e,cnx h hb⟩
theorem Zg:(Tryz.prog.info? 3).map (fun i=>(i.zero,i.size,i.bytes))=some (some (.int .i64 0),1,8):=by kernel_rfl
theorem L8 (g:Nat) (fs cs:Array Value) (p:Int->Bool) (A:Option Addr) (cap:Nat) (l:List Int) (w:World) (eg:Enters g) (hr:(Kd.int .i64).C w A l.length l) (hl:l.length<=1099511627776)
  (hp: ∀x∈l,Ua g fs cs w x (p x)):
  Calls Tryz.prog 158 #[.slice A l.length cap,.func (.func g) fs cs] w fun e w'=>e= .returned (.bool (l.all p))/\Below w.heap.size w w':=by
 have HP:=Qa.mk hp;have HR:=Qa.mk hr;clear hp hr;unfold Enters at eg;go_enter Tryz.func158,Tryz.ntmps158;go_wp2;go_loopw [9] (fun i wr=> ∃k:Nat,i= .int .i64 k/\k<=l.length/\Qa ((l.take k).all p=true)/\Below w.heap.size w wr) (fun i _=>l.length-(intOf i).toNat)
 case atStart=>exact⟨0,rfl,by omega,⟨by simp⟩,Below.refl _ _⟩
 case round=>
  obtain⟨k,rfl,hk,ha,hb⟩:=hrel;by_cases hlt:k<l.length
  ·obtain⟨ad,rfl,hcell⟩:=Qq HR.out hb hlt
   have hc:=HP.out _ (Qt l k hlt) wr hb;have HT:=Qa.mk (Qx l k hlt);have HRD:=Qa.mk (Qt l k hlt);obtain⟨x,hx⟩: ∃x,x=rd l k:=⟨_,rfl⟩;rw[<-hx] at hcell hc HT HRD;clear hx
   cases hpm:p x with
   |true=>
    rw[hpm] at hc;have HC:=Qa.mk hc;have hpm:=Qa.mk hpm;clear hc;go_wp2_with (go_at_fn g;refine HC.out.mono ?_;rintro e w' ⟨rfl,hb1⟩);go_roundw
    case rel=>exact⟨k+1,by go_num,by omega,⟨by rw[HT.out,List.all_append,ha.out];simp[hpm.out]⟩,bnx hb hb1⟩
    case measure=>simp[intOf];omega
   |false=>
    rw[hpm] at hc;have HC:=Qa.mk hc;have hpm:=Qa.mk hpm;clear hc;go_wp2_with (go_at_fn g;refine HC.out.mono ?_;rintro e w' ⟨rfl,hb1⟩);go_ret;refine⟨?_,bnx hb hb1⟩;rw[show l.all p=false from List.all_eq_false.2 ⟨x,HRD.out,by rw[hpm.out];simp⟩];rfl
  ·obtain rfl:k=l.length:=by omega
   go_wp2;go_ret;refine⟨?_,hb⟩;have:=ha.out;rw[List.take_length] at this;rw[this];rfl
theorem Bo (g:Nat) (fs cs:Array Value) (f:Int->Int) (A:Option Addr) (cap:Nat) (l:List Int) (w:World) (eg:Enters g) (hr:(Kd.int .i64).C w A l.length l) (hl:l.length<=1099511627776)
  (hp: ∀x∈l,FnInt g fs cs w x (f x)):
  Calls Tryz.prog 103 #[.slice A l.length cap,.func (.func g) fs cs] w fun e w'=> ∃v:Value,e= .returned v/\(Kd.int .i64).R 3 w' w.heap.size (fun _=>True) v (l.map f)/\Below w.heap.size w w':=by
 have HP:=Qa.mk hp;have HR:=Qa.mk hr;clear hp hr;unfold Enters at eg;go_enter Tryz.func103,Tryz.ntmps103;go_wp2;go_loopw [5,10] (fun o i wr=> ∃k:Nat,i= .int .i64 k/\k<=l.length/\Qa ((Kd.int .i64).R 3 wr w.heap.size (fun _=>True) o ((l.take k).map f))/\Below w.heap.size w wr) (fun _ i _=>l.length-(intOf i).toNat)
 case atStart=>exact⟨0,rfl,by omega,⟨Kd.Xd _ _ _ _ _⟩,Below.refl _ _⟩
 case round=>
  obtain⟨k,rfl,hk,ho,hb⟩:=hrel;by_cases hlt:k<l.length
  ·obtain⟨ad,rfl,hcell⟩:=Qq HR.out hb hlt
   have hc:=HP.out _ (Qt l k hlt) wr hb;have HT:=Qa.mk (Qx l k hlt);obtain⟨x,hx⟩: ∃x,x=rd l k:=⟨_,rfl⟩;rw[<-hx] at hcell hc HT;clear hx;have HC:=Qa.mk hc;clear hc;obtain⟨y,hy⟩: ∃y,y=(l.take k).map f:=⟨_,rfl⟩;have hyl:y.length<=1099511627776:=(by rw[hy];simp;omega);rw[<-hy] at ho;have HY:=Qa.mk hy;clear hy;go_wp2_with (first|(go_at_fn g;refine HC.out.mono ?_;rintro e w' ⟨rfl,hb1⟩;have HO1:=Qa.mk (Kd.Qw ho.out hb1);have HB1:=Qa.mk (bnx hb hb1);clear ho hb hb1)|(at_builtin;refine Kd.Zb (Kd.int .i64) (w0:=w) w.heap.size rfl (.tmp 14) (.tmp 18) 22 3 (.int .i64 0) 8 rfl Tryz.underlying22 Zg rfl (by decide) (by omega) u5 y (f x) [.int .i64 (f x)] (fun _=>True) (fun _=>False) rfl rfl rfl (fun _ hk=>hk.elim) (fun _ _=>trivial) HO1.out HB1.out HB1.out.size (by omega) ?_;intro v1 wA hoA hbA hgA hatA;have HOA:=Qa.mk hoA;have HBA:=Qa.mk hbA;clear hoA hbA hgA hatA));go_roundw
   case rel=>exact⟨k+1,by go_num,by omega,⟨by rw[HT.out,List.map_append,<-HY.out];exact HOA.out⟩,HBA.out⟩
   case measure=>simp[intOf];omega
  ·obtain rfl:k=l.length:=by omega
   rw[List.take_length] at ho;go_wp2;go_ret;exact⟨_,rfl,ho.out,hb⟩
end Q15

namespace Q21
attribute [local go_sem] Qi Qj Qk Ql Qg Qh
open Q15
def Zd (sh:Bool) (g:List Int):Bool:=if sh then decide (g.length<=8)&&g.all (fun n=>decide (1<=n/\n<=8))&&decide (g.sum=8) else decide (g.length=0)
theorem X9 {g:List Int}:Zd true g=true↔g.length<=8/\(∀n∈g,1<=n/\n<=8)/\g.sum=8:=by
 unfold Zd;simp[and_assoc]
theorem Ck {g:List Int} {k:Nat} (hk:k<g.length) (h:rd g k<1\/8<rd g k):Zd true g=false:=by
 rw[<-Bool.not_eq_true];intro h2;have:=(X9.1 h2).2.1 _ (Qt g k hk);omega
theorem Cj {g:List Int} (h8:g.length<=8) (ha: ∀n∈g,1<=n/\n<=8):Zd true g=decide (g.sum=8):=by
 by_cases h:g.sum=8
 ·rw[decide_eq_true h];exact X9.2 ⟨h8,ha,h⟩
 ·rw[decide_eq_false h,<-Bool.not_eq_true];exact fun h2=>h (X9.1 h2).2.2
theorem Yi (sh:Bool) (A:Option Addr) (cap:Nat) (g:List Int) (w:World) (hr:(Kd.int .i64).C w A g.length g):
  Calls Tryz.prog 94 #[.bool sh,.slice A g.length cap] w fun e w'=>e= .returned (.int .i64 (if Zd sh g then 0 else 1))/\Below w.heap.size w w':=by
 have hb:=Below.refl w.heap.size w;have HR:=Qa.mk hr;clear hr
 cases sh with
 |false=>
  by_cases h0:g.length=0
  ·rw[show Zd false g=true from decide_eq_true h0]
   have h1:decide ((g.length:Int)=0)=true:=decide_eq_true (by omega);have h2:((g.length:Int)==0)=true:=beq_iff_eq.2 (by omega);have h3:decide ((8:Int)<(g.length:Int))=false:=(by simp;omega);clear h0;go_enter Tryz.func94,Tryz.ntmps94;go_wp2;go_ret;exact⟨rfl,hb⟩
  ·rw[show Zd false g=false from decide_eq_false h0]
   have h1:decide ((g.length:Int)=0)=false:=decide_eq_false (by omega);have h2:((g.length:Int)==0)=false:=beq_eq_false_iff_ne.2 (by omega);clear h0;go_enter Tryz.func94,Tryz.ntmps94;go_wp2;go_ret;exact⟨rfl,hb⟩
 |true=>
  by_cases h8:8<g.length
  ·have hf:Zd true g=false:=by
    rw[<-Bool.not_eq_true];intro h2;have:=(X9.1 h2).1;omega
   rw[hf];have h1:(8:Int)<(g.length:Int):=(by omega);clear h8;go_enter Tryz.func94,Tryz.ntmps94;go_wp2;go_ret;exact⟨rfl,hb⟩
  ·have hgI:(g.length:Int)<=8:=by omega
   have h3:decide ((8:Int)<(g.length:Int))=false:=(by simp;omega);have hno:=Qa.mk (fun k hk h=>Ck (g:=g) (k:=k) hk h);have hend:=Qa.mk (fun ha=>Cj (g:=g) (by omega) ha);obtain⟨E,hE⟩: ∃E,E=Zd true g:=⟨_,rfl⟩;rw[<-hE] at hno hend ⊢;obtain⟨V,hV⟩: ∃V:Value,V=(.int .i64 (if E then 0 else 1)):=⟨_,rfl⟩;have HV:Qa ((E=true->V= .int .i64 0)/\(E=false->V= .int .i64 1)):=⟨⟨fun h=>by rw[h] at hV;exact hV,fun h=>by rw[h] at hV;exact hV⟩⟩;rw[<-hV];clear hE h8 hV;go_enter Tryz.func94,Tryz.ntmps94;go_wp2;go_loopw [5,24] (fun s i wr=> ∃(k:Nat) (z:Int),i= .int .i64 k/\s= .int .i64 z/\k<=g.length/\0<=z/\z<=k*8/\Qa (z=(g.take k).sum)/\Qa (∀n∈g.take k,1<=n/\n<=8)/\Below w.heap.size w wr) (fun _ i _=>g.length-(intOf i).toNat)
   case atStart=>exact⟨0,0,rfl,rfl,by omega,by omega,by omega,⟨by simp⟩,⟨by simp⟩,Below.refl _ _⟩
   case round=>
    obtain⟨k,z,rfl,rfl,hk,hz0,hz1,hn,ha,hb⟩:=hrel;by_cases hlt:k<g.length
    ·obtain⟨ad,rfl,hcell⟩:=Qq HR.out hb hlt
     have hno2:=hno.out k hlt;have hT:=Qx g k hlt;have hkI:(k:Int)<(g.length:Int):=(by omega);obtain⟨n,hx⟩: ∃n,n=rd g k:=⟨_,rfl⟩;rw[<-hx] at hcell hno2 hT;replace hno2:=Qa.mk hno2;replace hT:=Qa.mk hT;clear hx;by_cases h1:n<1
     ·have hf:=Qa.mk (HV.out.2 (hno2.out (.inl h1)))
      go_wp2;go_ret;exact⟨by rw[hf.out];rfl,hb⟩
     ·by_cases h2:8<n
      ·have hf:=Qa.mk (HV.out.2 (hno2.out (.inr h2)))
       have h1':decide (n<1)=false:=(by simpa using h1);go_wp2;go_ret;exact⟨by rw[hf.out];rfl,hb⟩
      ·have h1':decide (n<1)=false:=by simpa using h1
       have h2':decide (8<n)=false:=(by simpa using h2);go_wp2;go_roundw
       case rel=>exact⟨k+1,z+n,by go_num,rfl,by omega,by omega,by omega,⟨by rw[hT.out,List.sum_append,hn.out];simp⟩,⟨by
        rw[hT.out];intro x hx;rcases List.mem_append.1 hx with hx|hx
        ·exact ha.out x hx
        ·rw[List.mem_singleton.1 hx];omega⟩,hb⟩
       case measure=>simp[intOf];omega
    ·obtain rfl:k=g.length:=by omega
     have hA:=ha.out;have hN:=hn.out;rw[List.take_length] at hA hN;have hf:=hend.out hA;rw[<-hN] at hf;replace hf:=Qa.mk hf;clear ha hn hA hN;by_cases g1:z=8
     ·subst g1
      replace hf:=Qa.mk (HV.out.1 (hf.out.trans (decide_eq_true rfl)));go_wp2;go_ret;exact⟨by rw[hf.out];rfl,hb⟩
     ·have g2:(z != 8)=true:=bne_iff_ne.2 g1
      have g3:(z==8)=false:=(by simpa using g1);replace hf:=Qa.mk (HV.out.2 (hf.out.trans (decide_eq_false g1)));clear g1;go_wp2;go_ret;exact⟨by rw[hf.out];rfl,hb⟩
theorem Is_calls (sh:Bool) (A:Option Addr) (cap:Nat) (g:List Int) (w:World) (hr:(Kd.int .i64).C w A g.length g):
  Calls Tryz.prog 62 #[.bool sh,.slice A g.length cap] w fun e w'=>e= .returned (.bool (Zd sh g))/\Below w.heap.size w w':=by
 have hb:=Below.refl w.heap.size w;have HR:=Qa.mk hr;clear hr
 cases sh with
 |false=>
  by_cases h0:g.length=0
  ·rw[show Zd false g=true from decide_eq_true h0]
   have h1:decide ((g.length:Int)=0)=true:=decide_eq_true (by omega);have h2:((g.length:Int)==0)=true:=beq_iff_eq.2 (by omega);have h3:decide ((8:Int)<(g.length:Int))=false:=(by simp;omega);clear h0;go_enter Tryz.func62,Tryz.ntmps62;go_wp2;go_ret;exact⟨rfl,hb⟩
  ·rw[show Zd false g=false from decide_eq_false h0]
   have h1:decide ((g.length:Int)=0)=false:=decide_eq_false (by omega);have h2:((g.length:Int)==0)=false:=beq_eq_false_iff_ne.2 (by omega);clear h0;go_enter Tryz.func62,Tryz.ntmps62;go_wp2;go_ret;exact⟨rfl,hb⟩
 |true=>
  by_cases h8:8<g.length
  ·have hf:Zd true g=false:=by
    rw[<-Bool.not_eq_true];intro h2;have:=(X9.1 h2).1;omega
   rw[hf];have h1:(8:Int)<(g.length:Int):=(by omega);clear h8;go_enter Tryz.func62,Tryz.ntmps62;go_wp2;go_ret;exact⟨rfl,hb⟩
  ·have hgI:(g.length:Int)<=8:=by omega
   have h3:decide ((8:Int)<(g.length:Int))=false:=(by simp;omega);have hno:=Qa.mk (fun k hk h=>Ck (g:=g) (k:=k) hk h);have hend:=Qa.mk (fun ha=>Cj (g:=g) (by omega) ha);obtain⟨E,hE⟩: ∃E,E=Zd true g:=⟨_,rfl⟩;rw[<-hE] at hno hend ⊢;obtain⟨V,hV⟩: ∃V:Value,V=(.bool E):=⟨_,rfl⟩;have HV:Qa ((E=true->V= .bool true)/\(E=false->V= .bool false)):=⟨⟨fun h=>by rw[h] at hV;exact hV,fun h=>by rw[h] at hV;exact hV⟩⟩;rw[<-hV];clear hE h8 hV;go_enter Tryz.func62,Tryz.ntmps62;go_wp2;go_loopw [5,24] (fun s i wr=> ∃(k:Nat) (z:Int),i= .int .i64 k/\s= .int .i64 z/\k<=g.length/\0<=z/\z<=k*8/\Qa (z=(g.take k).sum)/\Qa (∀n∈g.take k,1<=n/\n<=8)/\Below w.heap.size w wr) (fun _ i _=>g.length-(intOf i).toNat)
   case atStart=>exact⟨0,0,rfl,rfl,by omega,by omega,by omega,⟨by simp⟩,⟨by simp⟩,Below.refl _ _⟩
   case round=>
    obtain⟨k,z,rfl,rfl,hk,hz0,hz1,hn,ha,hb⟩:=hrel;by_cases hlt:k<g.length
    ·obtain⟨ad,rfl,hcell⟩:=Qq HR.out hb hlt
     have hno2:=hno.out k hlt;have hT:=Qx g k hlt;have hkI:(k:Int)<(g.length:Int):=(by omega);obtain⟨n,hx⟩: ∃n,n=rd g k:=⟨_,rfl⟩;rw[<-hx] at hcell hno2 hT;replace hno2:=Qa.mk hno2;replace hT:=Qa.mk hT;clear hx;by_cases h1:n<1
     ·have hf:=Qa.mk (HV.out.2 (hno2.out (.inl h1)))
      go_wp2;go_ret;exact⟨by rw[hf.out];rfl,hb⟩
     ·by_cases h2:8<n
      ·have hf:=Qa.mk (HV.out.2 (hno2.out (.inr h2)))
       have h1':decide (n<1)=false:=(by simpa using h1);go_wp2;go_ret;exact⟨by rw[hf.out];rfl,hb⟩
      ·have h1':decide (n<1)=false:=by simpa using h1
       have h2':decide (8<n)=false:=(by simpa using h2);go_wp2;go_roundw
       case rel=>exact⟨k+1,z+n,by go_num,rfl,by omega,by omega,by omega,⟨by rw[hT.out,List.sum_append,hn.out];simp⟩,⟨by
        rw[hT.out];intro x hx;rcases List.mem_append.1 hx with hx|hx
        ·exact ha.out x hx
        ·rw[List.mem_singleton.1 hx];omega⟩,hb⟩
       case measure=>simp[intOf];omega
    ·obtain rfl:k=g.length:=by omega
     have hA:=ha.out;have hN:=hn.out;rw[List.take_length] at hA hN;have hf:=hend.out hA;rw[<-hN] at hf;replace hf:=Qa.mk hf;clear ha hn hA hN;by_cases g1:z=8
     ·subst g1
      replace hf:=Qa.mk (HV.out.1 (hf.out.trans (decide_eq_true rfl)));go_wp2;go_ret;exact⟨by rw[hf.out];rfl,hb⟩
     ·have g2:(z != 8)=true:=bne_iff_ne.2 g1
      have g3:(z==8)=false:=(by simpa using g1);replace hf:=Qa.mk (HV.out.2 (hf.out.trans (decide_eq_false g1)));clear g1;go_wp2;go_ret;exact⟨by rw[hf.out];rfl,hb⟩
end Q21

namespace Q21
attribute [local go_sem] Qi Qj Qk Ql Qg Qh
open Q15
theorem R_lit0 {α:Type} (enc:α->Value) (h1: ∀x,(enc x).oneCell' =true) (w:World) (e:Nat):(Kd.scalar enc h1).R e (w.alloc (.cells #[] e)) w.heap.size (fun _=>True) (.slice (some ⟨w.heap.size,0,none⟩) 0 0) []:=
 Kd.Vm (World.ownsRow_made w #[] 0 (Nat.le_refl _) (by decide) (by simp)) (fun _ _=>trivial)
theorem Y2 (A:Option Addr) (cap:Nat) (l:List Int) (w:World) (hr:(Kd.int .i64).C w A l.length l) (hl:l.length<=1000000):
  Calls Tryz.prog 28 #[.slice A l.length cap] w fun e w'=> ∃v,e= .returned v/\(Kd.int .i64).R 3 w' w.heap.size (fun _=>True) v l/\Below w.heap.size w w':=by
 have hb:=Below.refl w.heap.size w
 cases A with
 |none=>
  have h0:l=[]:=by
   obtain⟨_,_,h⟩:=hr;rcases Nat.eq_zero_or_pos l.length with h1|h1
   ·exact List.length_eq_zero_iff.1 h1
   ·obtain⟨a,e,_⟩:=h h1
    cases e
  subst h0;have q22: ∀(w:World) (a:Option Addr) (n c n' c':Nat),(binOp .eql 22 (.slice a n c) (.slice none n' c')).run Tryz.prog w= .ok (.bool a.isNone) w:=fun w a n c n' c'=>Lib.run_eql_slice_nil w _ _ a n c n' c' Tryz.underlying22
  clear hr hl;go_enter Tryz.func28,Tryz.ntmps28;go_wp2;go_ret;exact⟨_,rfl,Kd.Xd _ _ _ _ _,hb⟩
 |some a=>
  have HR:=Qa.mk (Kd.Qe hr ((Below.refl w.heap.size w).alloc (Nat.le_refl _) (.cells #[] 3)));have HO:=Qa.mk (R_lit0 (Value.int .i64) (fun _=>rfl) w 3);have HB:=Qa.mk ((Below.refl w.heap.size w).alloc (Nat.le_refl _) (.cells #[] 3));have q22: ∀(w:World) (a:Option Addr) (n c n' c':Nat),(binOp .eql 22 (.slice a n c) (.slice none n' c')).run Tryz.prog w= .ok (.bool a.isNone) w:=fun w a n c n' c'=>Lib.run_eql_slice_nil w _ _ a n c n' c' Tryz.underlying22
  have hlen:Qa ((([]:List Int).length +l.length)*8<=140737488355328):=⟨by simp;omega⟩;clear hr hl;go_enter Tryz.func28,Tryz.ntmps28;go_wp2_with (at_builtin;refine Kd.X8 (Kd.int .i64) (Rr:=(Kd.int .i64).K (w.alloc (.cells #[] 3))) (w0:=w) w.heap.size rfl (.tmp 5) (.tmp 6) 22 3 (.int .i64 0) 8 rfl Tryz.underlying22 Zg rfl (by decide) (by decide) (.slice (some ⟨w.heap.size,0,none⟩) 0 0) [] l (some a) l.length cap (fun _=>True) (fun _=>False) rfl rfl HO.out HR.out (fun _ _ h=>h) (fun _ h=>h.elim) (fun _ _=>trivial) HB.out HB.out.size hlen.out ?_;intro v1 wA hoA hbA hgA hatA;have HOA:=Qa.mk hoA;have HBA:=Qa.mk hbA;clear hoA hgA hatA hbA);go_ret;exact⟨_,rfl,HOA.out,HBA.out⟩
theorem Dv:(Tryz.prog.info? 4).map (fun i=>(i.zero,i.size,i.bytes))=some (some (.bool false),1,1):=by kernel_rfl
theorem Eb (A:Option Addr) (cap:Nat) (l:List Bool) (w:World) (hr:Kd.bool.C w A l.length l) (hl:l.length<=1000000):
  Calls Tryz.prog 27 #[.slice A l.length cap] w fun e w'=> ∃v,e= .returned v/\Kd.bool.R 4 w' w.heap.size (fun _=>True) v l/\Below w.heap.size w w':=by
 have hb:=Below.refl w.heap.size w
 cases A with
 |none=>
  have h0:l=[]:=by
   obtain⟨_,_,h⟩:=hr;rcases Nat.eq_zero_or_pos l.length with h1|h1
   ·exact List.length_eq_zero_iff.1 h1
   ·obtain⟨a,e,_⟩:=h h1
    cases e
  subst h0;have q22: ∀(w:World) (a:Option Addr) (n c n' c':Nat),(binOp .eql 23 (.slice a n c) (.slice none n' c')).run Tryz.prog w= .ok (.bool a.isNone) w:=fun w a n c n' c'=>Lib.run_eql_slice_nil w _ _ a n c n' c' Tryz.underlying23
  clear hr hl;go_enter Tryz.func27,Tryz.ntmps27;go_wp2;go_ret;exact⟨_,rfl,Kd.Xd _ _ _ _ _,hb⟩
 |some a=>
  have HR:=Qa.mk (Kd.Qe hr ((Below.refl w.heap.size w).alloc (Nat.le_refl _) (.cells #[] 4)));have HO:=Qa.mk (R_lit0 (Value.bool) (fun _=>rfl) w 4);have HB:=Qa.mk ((Below.refl w.heap.size w).alloc (Nat.le_refl _) (.cells #[] 4));have q22: ∀(w:World) (a:Option Addr) (n c n' c':Nat),(binOp .eql 23 (.slice a n c) (.slice none n' c')).run Tryz.prog w= .ok (.bool a.isNone) w:=fun w a n c n' c'=>Lib.run_eql_slice_nil w _ _ a n c n' c' Tryz.underlying23
  have hlen:Qa ((([]:List Bool).length +l.length)*1<=140737488355328):=⟨by simp;omega⟩;clear hr hl;go_enter Tryz.func27,Tryz.ntmps27;go_wp2_with (at_builtin;refine Kd.X8 Kd.bool (Rr:=Kd.bool.K (w.alloc (.cells #[] 4))) (w0:=w) w.heap.size rfl (.tmp 5) (.tmp 6) 23 4 (.bool false) 1 rfl Tryz.underlying23 Dv rfl (by decide) (by decide) (.slice (some ⟨w.heap.size,0,none⟩) 0 0) [] l (some a) l.length cap (fun _=>True) (fun _=>False) rfl rfl HO.out HR.out (fun _ _ h=>h) (fun _ h=>h.elim) (fun _ _=>trivial) HB.out HB.out.size hlen.out ?_;intro v1 wA hoA hbA hgA hatA;have HOA:=Qa.mk hoA;have HBA:=Qa.mk hbA;clear hoA hgA hatA hbA);go_ret;exact⟨_,rfl,HOA.out,HBA.out⟩
end Q21

namespace Q21
attribute [local go_sem] Qi Qj Qk Ql Qg Qh
open Q15
def Xm:List Int:=[4,4,4,4,4,4,4,8,8,8,12,12,16,16,20]
def Ji:List Int:=[2,2,4,8]
def Qm (sh:Bool) (g:List Int):List Int:=if sh then(g.map fun n=>[n*2,n*2,n*4,n*8]).flatten else Xm
structure Laid (w:World):Prop where
 longs:(Kd.int .i64).C w (some ⟨0,0,none⟩) 15 Xm
 shorts:(Kd.int .i64).C w (some ⟨1,0,none⟩) 4 Ji
theorem Laid.below {w w1:World} (h:Laid w) (hb:Below w.heap.size w w1):Laid w1:=⟨Kd.Qe h.longs hb,Kd.Qe h.shorts hb⟩
theorem Laid.short {w:World} (h:Laid w):w.cell? ⟨1,0,none⟩=some (.int .i64 2)/\w.cell? ⟨1,1,none⟩=some (.int .i64 2)/\w.cell? ⟨1,2,none⟩=some (.int .i64 4)/\w.cell? ⟨1,3,none⟩=some (.int .i64 8):=by
 have h2: ∀(k:Nat),k<4->w.cell? ((⟨1,0,none⟩:Addr).add k)=some (.int .i64 (rd Ji k)):=fun k hk=>by
  obtain⟨ad,e,h3⟩:=Qq (w1:=w) (l:=Ji) h.shorts (Below.refl _ _) (k:=k) hk;cases e;exact h3
 exact⟨h2 0 (by decide),h2 1 (by decide),h2 2 (by decide),h2 3 (by decide)⟩
theorem Ob (sh:Bool) (A:Option Addr) (cap:Nat) (g:List Int) (w:World) (hL:Laid w) (hr:(Kd.int .i64).C w A g.length g) (hg:g.length<=8) (hn: ∀n∈g,1<=n/\n<=8):
  Calls Tryz.prog 95 #[.bool sh,.slice A g.length cap] w fun e w'=> ∃A p,e= .returned (.slice A (Qm sh g).length p)/\(Kd.int .i64).C w' A (Qm sh g).length (Qm sh g)/\Below w.heap.size w w':=by
 have hb:=Below.refl w.heap.size w
 cases sh with
 |false=>
  have HC:=Qa.mk hL.longs;clear hr hL hn hg;go_enter Tryz.func95,Tryz.ntmps95;go_wp2;go_ret;exact⟨_,_,rfl,HC.out,hb⟩
 |true=>
  have HR:=Qa.mk hr;have HL:=Qa.mk hL;have HN:=Qa.mk (fun k (hk:k<g.length)=>hn _ (Qt g k hk));have hgI:(g.length:Int)<=8:=(by omega);have x0: ∀w,(Instr.index 172 (.agg #[.int .i64 2,.int .i64 2,.int .i64 4,.int .i64 8]) (.int .i64 0)).run Tryz.prog w= .ok (.int .i64 2) w:=fun _=>by kernel_rfl
  have x1: ∀w,(Instr.index 172 (.agg #[.int .i64 2,.int .i64 2,.int .i64 4,.int .i64 8]) (.int .i64 1)).run Tryz.prog w= .ok (.int .i64 2) w:=fun _=>by kernel_rfl
  have x2: ∀w,(Instr.index 172 (.agg #[.int .i64 2,.int .i64 2,.int .i64 4,.int .i64 8]) (.int .i64 2)).run Tryz.prog w= .ok (.int .i64 4) w:=fun _=>by kernel_rfl
  have x3: ∀w,(Instr.index 172 (.agg #[.int .i64 2,.int .i64 2,.int .i64 4,.int .i64 8]) (.int .i64 3)).run Tryz.prog w= .ok (.int .i64 8) w:=fun _=>by kernel_rfl
  clear hr hL hn hg;go_enter Tryz.func95,Tryz.ntmps95;go_wp2;go_loopw [5,15] (fun o i wr=> ∃k:Nat,i= .int .i64 k/\k<=g.length/\Qa ((Kd.int .i64).R 3 wr w.heap.size (fun _=>True) o (Qm true (g.take k)))/\Qa (Below w.heap.size w wr)) (fun _ i _=>g.length-(intOf i).toNat)
  case atStart=>exact⟨0,rfl,by omega,⟨Kd.Xd _ _ _ _ _⟩,⟨hb⟩⟩
  case round=>
   obtain⟨k,rfl,hk,ho,hbL⟩:=hrel;by_cases hlt:k<g.length
   ·obtain⟨ad,rfl,hcell⟩:=Qq HR.out hbL.out hlt
    have hkI:(k:Int)<(g.length:Int):=(by omega);have hnb:=HN.out k hlt
    have hT:Qm true (g.take (k+1))=Qm true (g.take k)++[rd g k*2,rd g k*2,rd g k*4,rd g k*8]:=by
     unfold Qm;rw[if_pos rfl,if_pos rfl,Qx g k hlt,List.map_append,List.flatten_append];simp
    obtain⟨s0,s1,s2,s3⟩:=(HL.out.below hbL.out).short;obtain⟨n,hx⟩: ∃n,n=rd g k:=⟨_,rfl⟩;rw[<-hx] at hcell hnb hT;replace hT:=Qa.mk hT;clear hx;obtain⟨y,hy⟩: ∃y,y=Qm true (g.take k):=⟨_,rfl⟩
    have hyl:y.length<=32:=by
     rw[hy];unfold Qm;rw[if_pos rfl]
     have: ∀l:List Int,((l.map fun n=>[n*2,n*2,n*4,n*8]).flatten).length =l.length*4:=fun l=>by
      induction l with
      |nil=>rfl
      |cons a t ih=>rw[List.map_cons,List.flatten_cons,List.length_append,ih];simp;omega
     rw[this,List.length_take];omega
    rw[<-hy] at ho hT;have a0:(y.length+1)*8<=140737488355328:=(by omega);have a1:((y++[n*2]).length +1)*8<=140737488355328:=(by simp;omega);have a2:((y++[n*2]++[n*2]).length +1)*8<=140737488355328:=(by simp;omega);have a3:((y++[n*2]++[n*2]++[n*4]).length +1)*8<=140737488355328:=(by simp;omega);replace a0:=Qa.mk a0;replace a1:=Qa.mk a1;replace a2:=Qa.mk a2;replace a3:=Qa.mk a3;clear hyl hy;go_wp2_with fail;refine wp_loop_rounds 5 ?_;rw[rounds_succ];go_wp2_with (first|(at_builtin;refine Kd.Zb (Kd.int .i64) (w0:=w) w.heap.size rfl (.tmp 23) (.tmp 27) 22 3 (.int .i64 0) 8 rfl Tryz.underlying22 Zg rfl (by decide) (by omega) u5 y ((n*2)) [.int .i64 ((n*2))] (fun _=>True) (fun _=>False) rfl rfl rfl (fun _ hk=>hk.elim) (fun _ _=>trivial) ho.out hbL.out hbL.out.size a0.out ?_;intro v1 wA hoA hbA hgA hatA;have HOA:=Qa.mk hoA;have HBA:=Qa.mk hbA;clear hoA hbA hgA hatA));rw[rounds_succ];go_wp2_with (first|(at_builtin;refine Kd.Zb (Kd.int .i64) (w0:=w) w.heap.size rfl (.tmp 23) (.tmp 27) 22 3 (.int .i64 0) 8 rfl Tryz.underlying22 Zg rfl (by decide) (by omega) v1 (y++[n*2]) ((n*2)) [.int .i64 ((n*2))] (fun _=>True) (fun _=>False) rfl rfl rfl (fun _ hk=>hk.elim) (fun _ _=>trivial) HOA.out HBA.out HBA.out.size a1.out ?_;intro v1 wA hoA hbA hgA hatA;have HOA:=Qa.mk hoA;have HBA:=Qa.mk hbA;clear hoA hbA hgA hatA));rw[rounds_succ];go_wp2_with (first|(at_builtin;refine Kd.Zb (Kd.int .i64) (w0:=w) w.heap.size rfl (.tmp 23) (.tmp 27) 22 3 (.int .i64 0) 8 rfl Tryz.underlying22 Zg rfl (by decide) (by omega) v1 (y++[n*2]++[n*2]) ((n*4)) [.int .i64 ((n*4))] (fun _=>True) (fun _=>False) rfl rfl rfl (fun _ hk=>hk.elim) (fun _ _=>trivial) HOA.out HBA.out HBA.out.size a2.out ?_;intro v1 wA hoA hbA hgA hatA;have HOA:=Qa.mk hoA;have HBA:=Qa.mk hbA;clear hoA hbA hgA hatA));rw[rounds_succ];go_wp2_with (first|(at_builtin;refine Kd.Zb (Kd.int .i64) (w0:=w) w.heap.size rfl (.tmp 23) (.tmp 27) 22 3 (.int .i64 0) 8 rfl Tryz.underlying22 Zg rfl (by decide) (by omega) v1 (y++[n*2]++[n*2]++[n*4]) ((n*8)) [.int .i64 ((n*8))] (fun _=>True) (fun _=>False) rfl rfl rfl (fun _ hk=>hk.elim) (fun _ _=>trivial) HOA.out HBA.out HBA.out.size a3.out ?_;intro v1 wA hoA hbA hgA hatA;have HOA:=Qa.mk hoA;have HBA:=Qa.mk hbA;clear hoA hbA hgA hatA));rw[rounds_succ];go_wp2_with fail;go_roundw
    case rel=>exact⟨k+1,by go_num,by omega,⟨by rw[hT.out];simpa using HOA.out⟩,HBA⟩
    case measure=>simp[intOf];omega
   ·obtain rfl:k=g.length:=by omega
    have ho':=ho.out;rw[List.take_length] at ho';replace ho':=Qa.mk ho';clear ho;go_wp2;go_ret;obtain⟨B5,p5,rfl,_,hC⟩:=Kd.Qu ho'.out;exact⟨_,_,rfl,hC,hbL.out⟩
end Q21

namespace Q15
attribute [local go_sem] Qi Qj Qk Ql Qg Qh
theorem Yi (g:Nat) (p:Int->Bool) (A:Option Addr) (cap:Nat) (l:List Int) (s:Int) (w:World) (eg:Enters g) (hr:(Kd.int .i64).C w A l.length l)
  (hp: ∀x W,Ua g #[] #[] W x (p x)):
  Calls Tryz.prog 100 #[.slice A l.length cap,.int .i64 s,.func (.func g) #[] #[]] w fun e w'=>e= .returned (.int .i64 (chk p l s))/\Below w.heap.size w w':=by
 have HA:l.length<=128-> ∀W,Below w.heap.size w W->Calls Tryz.prog 158 #[.slice A l.length cap,.func (.func g) #[] #[]] W fun e w'=>e= .returned (.bool (l.all p))/\Below W.heap.size W w':=
  fun hl W hb=>L8 g #[] #[] p A cap l W eg (Kd.Qe hr hb) (by omega) (fun x _=>hp x W)
 replace HA:=Qa.mk HA;clear hp hr
 cases h:isS s with
 |true=>
  by_cases hn:l.length<=128
  ·cases k:l.all p with
   |true=>
    have e:chk p l s=0:=(by unfold chk;rw[if_pos h,if_pos hn,if_pos k]);rw[k] at HA;rw[e];clear e k;go_enter Tryz.func100,Tryz.ntmps100;go_wp2_with (first|(go_at_call 157;refine(Dw _ _).mono ?_;rintro e w' ⟨rfl,hb0⟩)|(go_at_call 158;refine(HA.out hn _ hb0).mono ?_;rintro e w' ⟨rfl,hb⟩));go_ret;exact⟨rfl,bnx hb0 hb⟩
   |false=>
    have e:chk p l s=6:=(by unfold chk;rw[if_pos h,if_pos hn,if_neg (by rw[k];simp)]);rw[k] at HA;rw[e];clear e k;go_enter Tryz.func100,Tryz.ntmps100;go_wp2_with (first|(go_at_call 157;refine(Dw _ _).mono ?_;rintro e w' ⟨rfl,hb0⟩)|(go_at_call 158;refine(HA.out hn _ hb0).mono ?_;rintro e w' ⟨rfl,hb⟩));go_ret;exact⟨rfl,bnx hb0 hb⟩
  ·have e:chk p l s=2:=by unfold chk;rw[if_pos h,if_neg hn]
   rw[e];clear e;have hn':(128:Int)<(l.length:Int):=(by omega);go_enter Tryz.func100,Tryz.ntmps100;go_wp2_with (first|(go_at_call 157;refine(Dw _ _).mono ?_;rintro e w' ⟨rfl,hb0⟩));go_ret;exact⟨rfl,hb0⟩
 |false=>
  have e:chk p l s=1:=(by unfold chk;rw[if_neg (by rw[h];simp)]);rw[e];clear e;go_enter Tryz.func100,Tryz.ntmps100;go_wp2_with (first|(go_at_call 157;refine(Dw _ _).mono ?_;rintro e w' ⟨rfl,hb0⟩));go_ret;exact⟨rfl,hb0⟩
theorem fn_isC (x:Int) (W:World):Ua 101 #[] #[] W x (isC x):=fun W' _=>Qd2 x W'
theorem fn_isQ (x:Int) (W:World):Ua 115 #[] #[] W x (isQ x):=fun W' _=>Qd4 x W'
theorem H5 (c x:Int) (B:Nat) (w:World) (hc:w.cell? ⟨B,0,none⟩=some (.int .i64 x)) (hx0:0<=x) (hx1:x<=268435456) (h1: -2097152<=c) (h2:c<=2097152):
  Calls Tryz.prog 104 #[.int .i64 c,.pointer (some ⟨B,0,none⟩)] w fun e w'=>e= .returned (.int .i64 (sg c (qn x (Yh c))))/\Below w.heap.size w w':=by
 have ha:0<=Yh c/\Yh c<=2097152:=(by unfold Yh;omega);have hqb:=qn_bd (x:=x) (c:=Yh c) hx0;go_enter Tryz.func104,Tryz.ntmps104;go_wp2_with (first|(go_at_call 105;refine(Nn 106 #[.int .i64 x] #[] c (qn x (Yh c)) _ (fun _ _=>by kernel_rfl) (by omega) (by omega) (by omega) (by omega) (fun W _=>Le x _ W hx0 hx1 ha.1 ha.2)).mono ?_;rintro e w' ⟨rfl,hb⟩));go_ret;exact⟨rfl,hb⟩
theorem Lh (q s:Int) (B:Nat) (w:World) (hc:w.cell? ⟨B,0,none⟩=some (.int .i64 s)) (h0: -1023<=q) (h1:q<=1023) (h2:0<=s) (h3:s<=95):
  Calls Tryz.prog 116 #[.int .i64 q,.pointer (some ⟨B,0,none⟩)] w fun e w'=>e= .returned (.int .i64 (sg q (V (Jj s) (Yh q))))/\Below w.heap.size w w':=by
 go_enter Tryz.func116,Tryz.ntmps116;go_wp2_with (first|(go_at_call 117;refine(Qa8 _ _ _ h0 h1 h2 h3).mono ?_;rintro e w' ⟨rfl,hb⟩));go_ret;exact⟨rfl,hb⟩
theorem Ov (A:Option Addr) (cap:Nat) (l:List Int) (s:Int) (w:World) (hr:(Kd.int .i64).C w A l.length l) (hk:chk isC l s≠0):
  Calls Tryz.prog 61 #[.slice A l.length cap,.int .i64 s] w fun e w'=>e= .returned (.tuple #[.slice none 0 0,.int .i64 (chk isC l s)])/\Below w.heap.size w w':=by
 obtain⟨e0,he0⟩: ∃e0,e0=chk isC l s:=⟨_,rfl⟩;have HC:=fun W hb=>Yi 101 isC A cap l s W (fun _ _=>by kernel_rfl) (Kd.Qe hr hb) fn_isC
 rw[<-he0] at HC hk ⊢;replace HC:=Qa.mk HC;have hk':(e0==0)=false:=beq_eq_false_iff_ne.2 hk;clear he0 hr;go_enter Tryz.func61,Tryz.ntmps61;go_wp2_with (first|(go_at_call 100;refine(HC.out _ (Below.refl _ _)).mono ?_;rintro e w' ⟨rfl,hb0⟩));go_ret2;exact⟨rfl,hb0⟩
end Q15

namespace Q15
attribute [local go_sem] Qi Qj Qk Ql Qg Qh
theorem K3 {p:Int->Bool} {l:List Int} {s:Int} (h:chk p l s=0):(0<=s/\s<=95)/\l.length<=128/\ ∀x∈l,p x=true:=by
 unfold chk at h
 split at h
 ·rename_i h1
  split at h
  ·rename_i h2
   split at h
   ·rename_i h3
    exact⟨isS_bd h1,h2,List.all_eq_true.1 h3⟩
   ·omega
  ·omega
 ·omega
theorem Ve (A:Option Addr) (cap:Nat) (l:List Int) (s:Int) (w:World) (hr:(Kd.int .i64).C w A l.length l) (hk:chk isC l s=0):
  Calls Tryz.prog 61 #[.slice A l.length cap,.int .i64 s] w fun e w'=> ∃v,e= .returned (.tuple #[v,.int .i64 0])/\(Kd.int .i64).R 3 w' w.heap.size (fun _=>True) v (l.map fun c=>sg c (qn (Jj s) (Yh c)))/\Below w.heap.size w w':=by
 obtain⟨hs,hl,hp⟩:=K3 hk;have HC:=fun W hb=>Yi 101 isC A cap l s W (fun _ _=>by kernel_rfl) (Kd.Qe hr hb) fn_isC
 rw[hk] at HC;replace HC:=Qa.mk HC;have hst:=Np hs.1 hs.2;have HW:=fun w=>Ml s w hs.1 hs.2
 obtain⟨st,hst'⟩: ∃st,st=Jj s:=⟨_,rfl⟩;rw[<-hst'] at hst HW ⊢
 have HM: ∀W B,Below w.heap.size w W->W.cell? ⟨B,0,none⟩=some (.int .i64 st)->
   Calls Tryz.prog 103 #[.slice A l.length cap,.func (.func 104) #[] #[.pointer (some ⟨B,0,none⟩)]] W fun e w'=> ∃v:Value,e= .returned v/\(Kd.int .i64).R 3 w' W.heap.size (fun _=>True) v (l.map fun c=>sg c (qn st (Yh c)))/\Below W.heap.size W w':=
  fun W B hb hB=>Bo _ #[] _ _ A cap l W (fun _ _=>by kernel_rfl) (Kd.Qe hr hb) (by omega) (fun c hc W' hb'=>by
   have hcb:=isC_bd (hp c hc)
   exact H5 c st B W' (cnx hB hb') (by omega) hst.2 hcb.1 hcb.2)
 replace HM:=Qa.mk HM;replace HW:=Qa.mk HW;clear hst' hk hr hp;go_enter Tryz.func61,Tryz.ntmps61;go_wp2_with (first|(go_at_call 100;refine(HC.out _ (Below.refl _ _)).mono ?_;rintro e w' ⟨rfl,hb0⟩)|(go_at_call 102;refine(HW.out _).mono ?_;rintro e w' ⟨rfl,hb1⟩)|(go_at_call 103;have hb2:=(bnx hb0 hb1).alloc (bnx hb0 hb1).size (.cells #[.int .i64 st] 118);refine(HM.out _ _ hb2 (by simp)).mono ?_;rintro e w2 ⟨v,rfl,hR,hb3⟩));go_ret2;exact⟨v,rfl,Kd.Zo hR hb2.size,bnx hb2 hb3⟩
theorem Qdk (A:Option Addr) (cap:Nat) (l:List Int) (s:Int) (w:World) (hr:(Kd.int .i64).C w A l.length l) (hk:chk isQ l s≠0):
  Calls Tryz.prog 70 #[.slice A l.length cap,.int .i64 s] w fun e w'=>e= .returned (.tuple #[.slice none 0 0,.int .i64 (chk isQ l s)])/\Below w.heap.size w w':=by
 obtain⟨e0,he0⟩: ∃e0,e0=chk isQ l s:=⟨_,rfl⟩;have HC:=fun W hb=>Yi 115 isQ A cap l s W (fun _ _=>by kernel_rfl) (Kd.Qe hr hb) fn_isQ
 rw[<-he0] at HC hk ⊢;replace HC:=Qa.mk HC;have hk':(e0==0)=false:=beq_eq_false_iff_ne.2 hk;have hb1:=(Below.refl w.heap.size w).alloc (Nat.le_refl _) (.cells #[.int .i64 s] 3);clear he0 hr;go_enter Tryz.func70,Tryz.ntmps70;go_wp2_with (first|(go_at_call 100;refine(HC.out _ hb1).mono ?_;rintro e w' ⟨rfl,hb0⟩));go_ret2;exact⟨rfl,bnx hb1 hb0⟩
theorem Tx (A:Option Addr) (cap:Nat) (l:List Int) (s:Int) (w:World) (hr:(Kd.int .i64).C w A l.length l) (hk:chk isQ l s=0):
  Calls Tryz.prog 70 #[.slice A l.length cap,.int .i64 s] w fun e w'=> ∃v,e= .returned (.tuple #[v,.int .i64 0])/\(Kd.int .i64).R 3 w' w.heap.size (fun _=>True) v (l.map fun q=>sg q (V (Jj s) (Yh q)))/\Below w.heap.size w w':=by
 obtain⟨hs,hl,hp⟩:=K3 hk;have HC:=fun W hb=>Yi 115 isQ A cap l s W (fun _ _=>by kernel_rfl) (Kd.Qe hr hb) fn_isQ
 rw[hk] at HC;replace HC:=Qa.mk HC
 have HM: ∀W B,Below w.heap.size w W->W.cell? ⟨B,0,none⟩=some (.int .i64 s)->
   Calls Tryz.prog 103 #[.slice A l.length cap,.func (.func 116) #[] #[.pointer (some ⟨B,0,none⟩)]] W fun e w'=> ∃v:Value,e= .returned v/\(Kd.int .i64).R 3 w' W.heap.size (fun _=>True) v (l.map fun q=>sg q (V (Jj s) (Yh q)))/\Below W.heap.size W w':=
  fun W B hb hB=>Bo _ #[] _ _ A cap l W (fun _ _=>by kernel_rfl) (Kd.Qe hr hb) (by omega) (fun c hc W' hb'=>by
   have hcb:=isQ_bd (hp c hc)
   exact Lh c s B W' (cnx hB hb') hcb.1 hcb.2 hs.1 hs.2)
 replace HM:=Qa.mk HM;have hb1:=(Below.refl w.heap.size w).alloc (Nat.le_refl _) (.cells #[.int .i64 s] 3);clear hk hr hp;go_enter Tryz.func70,Tryz.ntmps70;go_wp2_with (first|(go_at_call 100;refine(HC.out _ hb1).mono ?_;rintro e w2 ⟨rfl,hb0⟩;have hcell:w2.cell? ⟨w.heap.size,0,none⟩=some (.int .i64 s):=cnx (by simp) hb0)|(go_at_call 103;refine(HM.out _ _ (bnx hb1 hb0) hcell).mono ?_;rintro e w2 ⟨v,rfl,hR,hb3⟩));go_ret2;exact⟨v,rfl,Kd.Zo hR (bnx hb1 hb0).size,bnx (bnx hb1 hb0) hb3⟩
end Q15

namespace Q15
attribute [local go_sem] Qi Qj Qk Ql Qg Qh
def within (m:Int) (n:Int):Bool:=decide (-m<=n/\n<=m)
theorem X4 (m:Int) (A:Option Addr) (cap:Nat) (l:List Int) (w:World) (hr:(Kd.int .i64).C w A l.length l) (hl:l.length<=1099511627776) (hm0:0<=m) (hm1:m<=1099511627776):
  Calls Tryz.prog 49 #[.int .i64 m,.slice A l.length cap] w fun e w'=>e= .returned (.bool (l.all (within m)))/\Below w.heap.size w w':=by
 have HR:=Qa.mk hr;clear hr;go_enter Tryz.func49,Tryz.ntmps49;go_wp2;go_loopw [9] (fun i wr=> ∃k:Nat,i= .int .i64 k/\k<=l.length/\Qa ((l.take k).all (within m)=true)/\Below w.heap.size w wr) (fun i _=>l.length-(intOf i).toNat)
 case atStart=>exact⟨0,rfl,by omega,⟨by simp⟩,Below.refl _ _⟩
 case round=>
  obtain⟨k,rfl,hk,ha,hb⟩:=hrel;by_cases hlt:k<l.length
  ·obtain⟨ad,rfl,hcell⟩:=Qq HR.out hb hlt
   have HT:=Qa.mk (Qx l k hlt);have HRD:=Qa.mk (Qt l k hlt);obtain⟨x,hx⟩: ∃x,x=rd l k:=⟨_,rfl⟩;rw[<-hx] at hcell HT HRD;clear hx;by_cases h1:x< -m
   ·have hno:=HRD.out
    have HE:Qa (l.all (within m)=false):=⟨List.all_eq_false.2 ⟨x,HRD.out,by unfold within;simp;omega⟩⟩;clear hno;go_wp2;go_ret;exact⟨by rw[HE.out];rfl,hb⟩
   ·by_cases h2:m<x
    ·have HE:Qa (l.all (within m)=false):=⟨List.all_eq_false.2 ⟨x,HRD.out,by unfold within;simp;omega⟩⟩
     go_wp2;go_ret;exact⟨by rw[HE.out];rfl,hb⟩
    ·have hd1:decide (x< -m)=false:=by simp;omega
     have hd2:decide (m<x)=false:=(by simp;omega);have HX:Qa (within m x=true):=⟨by unfold within;simp;omega⟩;go_wp2;go_roundw
     case rel=>exact⟨k+1,by go_num,by omega,⟨by rw[HT.out,List.all_append,ha.out];simp[HX.out]⟩,hb⟩
     case measure=>simp[intOf];omega
  ·obtain rfl:k=l.length:=by omega
   go_wp2;go_ret;refine⟨?_,hb⟩;have:=ha.out;rw[List.take_length] at this;rw[this];rfl
theorem Gy (m:Int) (A:Option Addr) (cap:Nat) (l:List Int) (w:World) (hr:(Kd.int .i64).C w A l.length l) (hl:l.length<=1099511627776) (hm0:0<=m) (hm1:m<=1099511627776):
  Calls Tryz.prog 23 #[.int .i64 m,.slice A l.length cap] w fun e w'=>e= .returned (.bool (l.all (within m)))/\Below w.heap.size w w':=by
 have HW:=fun W hb=>X4 m A cap l W (Kd.Qe hr hb) hl hm0 hm1
 replace HW:=Qa.mk HW;clear hr;go_enter Tryz.func23,Tryz.ntmps23;go_wp2_with (first|(go_at_call 49;refine(HW.out _ (Below.refl _ _)).mono ?_;rintro e w' ⟨rfl,hb⟩));go_ret;exact⟨rfl,hb⟩
end Q15

namespace Q15
attribute [local go_sem] Qi Qj Qk Ql Qg Qh
open Go.Shelf
attribute [local go_sem] Oper.semAt_some
theorem X3 {W:World} {a:Addr} {v:Value} (o:Obj) (h:W.cell? a=some v):(W.alloc o).cell? a=some v:=cnx h ((Below.refl _ _).alloc (Nat.le_refl _) o)
theorem Zr {W W':World} (h:Below W.heap.size W W'):KeepsOthers W W':=⟨h.size,fun k _ hk _=>(h.block k (Array.getElem?_eq_some_iff.1 hk).1).trans hk⟩
end Q15

namespace Q15
attribute [local go_sem] Qi Qj Qk Ql Qg Qh
theorem lit_C (l:List Int) (w:World) (t:TypeId) (hl:l.length<=9223372036854775807):(Kd.int .i64).C (w.alloc (.cells (l.map (Value.int .i64)).toArray t)) (some ⟨w.heap.size,0,none⟩) l.length l:=by
 refine⟨rfl,hl,fun _=>⟨_,rfl,fun j p hj=>⟨[.int .i64 p],rfl,rfl,fun i u hu=> ?_⟩⟩⟩
 have hi:i=0:=by
  rcases Nat.eq_zero_or_pos i with h|h
  ·exact h
  ·have:=(List.getElem?_eq_some_iff.1 hu).1
   simp at this;omega
 subst hi;have hu':u= .int .i64 p:=(by simpa using hu.symm);subst hu'
 have e:(⟨w.heap.size,0,none⟩:Addr).add (j*(Kd.int .i64).sz +0)=⟨w.heap.size,j,none⟩:=by
  show Addr.add _ (j*1+0)=_
  unfold Addr.add
  split<;>simp_all
 rw[e];unfold World.cell?;rw[heap_alloc_new];simp only[Option.isSome_none,Bool.false_eq_true,if_false,List.getElem?_toArray,List.getElem?_map,hj];rfl
end Q15

namespace Q21
attribute [local go_sem] Qi Qj Qk Ql Qg Qh
open Q15
theorem P8 {W wA:World} {v v1:Value} {b:Nat} (hg:W.grownBy wA v.ownBlock) (hat:v1.ownBlock=v.ownBlock\/ ∃b,v1.ownBlock=some b/\W.heap.size<=b) (hne:some b≠v.ownBlock) (hlt:b<W.heap.size):
  some b≠v1.ownBlock/\b<wA.heap.size/\ ∀j x,W.cell? ⟨b,j,none⟩=some x->wA.cell? ⟨b,j,none⟩=some x:=by
 refine⟨?_,Nat.lt_of_lt_of_le hlt hg.size,fun j x h=>hg.cell h hne⟩;rcases hat with h|⟨b2,h,h2⟩
 ·rw[h];exact hne
 ·rw[h]
  intro e
  injection e with e
  omega
theorem Qby (w:World):Calls Tryz.prog 107 #[] w fun e w'=> ∃A p,e= .returned (.slice A 15 p)/\(Kd.int .i64).C w' A 15 Xm/\Below w.heap.size w w':=by
 have hb:=(Below.refl w.heap.size w).alloc (Nat.le_refl _) (.cells (Xm.map (Value.int .i64)).toArray 3);have HC:=Qa.mk (lit_C Xm w 3 (by decide));go_enter Tryz.func107,Tryz.ntmps107;go_wp2;go_ret;exact⟨_,_,rfl,HC.out,hb⟩
theorem Qa3 (w:World):Calls Tryz.prog 108 #[] w fun e w'=>e= .returned (.slice (some ⟨w.heap.size,0,none⟩) 4 4)/\w.heap.size<w'.heap.size/\w'.cell? ⟨w.heap.size,0,none⟩=some (.int .i64 2)/\w'.cell? ⟨w.heap.size,1,none⟩=some (.int .i64 2)/\w'.cell? ⟨w.heap.size,2,none⟩=some (.int .i64 4)/\w'.cell? ⟨w.heap.size,3,none⟩=some (.int .i64 8)/\Below w.heap.size w w':=by
 have hb:=(Below.refl w.heap.size w).alloc (Nat.le_refl _) (.cells #[.int .i64 2,.int .i64 2,.int .i64 4,.int .i64 8] 3);have h0:(w.alloc (.cells #[.int .i64 2,.int .i64 2,.int .i64 4,.int .i64 8] 3)).cell? ⟨w.heap.size,0,none⟩=some (.int .i64 2):=(by go_simp);have h1:(w.alloc (.cells #[.int .i64 2,.int .i64 2,.int .i64 4,.int .i64 8] 3)).cell? ⟨w.heap.size,1,none⟩=some (.int .i64 2):=(by go_simp);have h2:(w.alloc (.cells #[.int .i64 2,.int .i64 2,.int .i64 4,.int .i64 8] 3)).cell? ⟨w.heap.size,2,none⟩=some (.int .i64 4):=(by go_simp);have h3:(w.alloc (.cells #[.int .i64 2,.int .i64 2,.int .i64 4,.int .i64 8] 3)).cell? ⟨w.heap.size,3,none⟩=some (.int .i64 8):=(by go_simp);replace hb:=Qa.mk hb;replace h0:=Qa.mk h0;replace h1:=Qa.mk h1;replace h2:=Qa.mk h2;replace h3:=Qa.mk h3;go_enter Tryz.func108,Tryz.ntmps108;go_wp2;go_ret;exact⟨rfl,by simp,h0.out,h1.out,h2.out,h3.out,hb.out⟩
theorem Hl (g:List Int):(Qm true g).length =g.length*4:=by
 unfold Qm;rw[if_pos rfl]
 induction g with
 |nil=>rfl
 |cons a t ih=>rw[List.map_cons,List.flatten_cons,List.length_append,ih];simp;omega
theorem Wx (g:List Int) (n:Int):Qm true (g++[n])=Qm true g++[n*2,n*2,n*4,n*8]:=by
 unfold Qm;rw[if_pos rfl,if_pos rfl,List.map_append,List.flatten_append];simp
theorem Og (sh:Bool) (A:Option Addr) (cap:Nat) (g:List Int) (w:World) (hr:(Kd.int .i64).C w A g.length g) (hg:g.length<=8) (hn: ∀n∈g,1<=n/\n<=8):
  Calls Tryz.prog 63 #[.bool sh,.slice A g.length cap] w fun e w'=> ∃A p,e= .returned (.slice A (Qm sh g).length p)/\(Kd.int .i64).C w' A (Qm sh g).length (Qm sh g)/\Below w.heap.size w w':=by
 have hb:=Below.refl w.heap.size w
 cases sh with
 |false=>
  have HC:=Qa.mk Qby;clear hr hn hg;go_enter Tryz.func63,Tryz.ntmps63;go_wp2_with (first|(go_at_call 107;refine(HC.out _).mono ?_;rintro e w1 ⟨B,p,rfl,hC,hbn⟩;have HC2:=Qa.mk hC;clear hC));go_ret;exact⟨_,_,rfl,HC2.out,hbn⟩
 |true=>
  have HR:=Qa.mk hr;have HS:=Qa.mk Qa3;have HN:=Qa.mk (fun k (hk:k<g.length)=>hn _ (Qt g k hk));have hgI:(g.length:Int)<=8:=(by omega);clear hr hn hg;go_enter Tryz.func63,Tryz.ntmps63;go_wp2;go_loopw [5,15] (fun o i wr=> ∃k:Nat,i= .int .i64 k/\k<=g.length/\Qa ((Kd.int .i64).R 3 wr w.heap.size (fun _=>True) o (Qm true (g.take k)))/\Qa (Below w.heap.size w wr)) (fun _ i _=>g.length-(intOf i).toNat)
  case atStart=>exact⟨0,rfl,by omega,⟨Kd.Xd _ _ _ _ _⟩,⟨hb⟩⟩
  case round=>
   obtain⟨k,rfl,hk,ho,hbL⟩:=hrel;by_cases hlt:k<g.length
   ·obtain⟨ad,rfl,hcell⟩:=Qq HR.out hbL.out hlt
    have hkI:(k:Int)<(g.length:Int):=(by omega);have hnb:=HN.out k hlt
    have hT:Qm true (g.take (k+1))=Qm true (g.take k)++[rd g k*2,rd g k*2,rd g k*4,rd g k*8]:=by
     rw[Qx g k hlt,Wx]
    obtain⟨n,hx⟩: ∃n,n=rd g k:=⟨_,rfl⟩;rw[<-hx] at hcell hnb hT;replace hT:=Qa.mk hT;obtain⟨y,hy⟩: ∃y,y=Qm true (g.take k):=⟨_,rfl⟩;have hyl:y.length<=32:=(by rw[hy,Hl,List.length_take];omega);rw[<-hy] at ho hT;have a0:(y.length+1)*8<=140737488355328:=(by omega);have a1:((y++[n*2]).length +1)*8<=140737488355328:=(by simp;omega);have a2:((y++[n*2]++[n*2]).length +1)*8<=140737488355328:=(by simp;omega);have a3:((y++[n*2]++[n*2]++[n*4]).length +1)*8<=140737488355328:=(by simp;omega);replace a0:=Qa.mk a0;replace a1:=Qa.mk a1;replace a2:=Qa.mk a2;replace a3:=Qa.mk a3;clear hyl hy hx;go_wp2_with fail;refine(HS.out _).mono ?_;rintro e w1 ⟨rfl,hsz,s0,s1,s2,s3,hbn⟩;have hR1:=Qa.mk (Kd.Qw ho.out hbn);have hB1:=Qa.mk (bnx hbL.out hbn);obtain⟨b,hbe⟩: ∃b,b=wr.heap.size:=⟨_,rfl⟩;rw[<-hbe] at hsz s0 s1 s2 s3;have ne0:Qa (some b≠u5.ownBlock):=⟨fun h=>by have:=((Kd.Q9 ho.out).1 b h.symm).2.2.1;omega⟩;have hsz':=Qa.mk hsz;rw[<-hbe];clear hbe hsz hbn ho hbL;go_wp2_with fail;refine wp_loop_rounds 5 ?_;rw[rounds_succ];go_wp2_with (first|(at_builtin;refine Kd.Zb (Kd.int .i64) (w0:=w) w.heap.size rfl (.tmp 25) (.tmp 29) 22 3 (.int .i64 0) 8 rfl Tryz.underlying22 Zg rfl (by decide) (by omega) u5 y ((n*2)) [.int .i64 ((n*2))] (fun _=>True) (fun _=>False) rfl rfl rfl (fun _ hk=>hk.elim) (fun _ _=>trivial) hR1.out hB1.out hB1.out.size a0.out ?_;intro v1 wA hoA hbA hgA hatA;have HOA:=Qa.mk hoA;have HBA:=Qa.mk hbA;have hkp:=P8 hgA hatA ne0.out hsz'.out;replace s1:=hkp.2.2 _ _ s1;replace s2:=hkp.2.2 _ _ s2;replace s3:=hkp.2.2 _ _ s3;replace ne0:=Qa.mk hkp.1;replace hsz':=Qa.mk hkp.2.1;clear hoA hbA hgA hatA hkp));rw[rounds_succ];go_wp2_with (first|(at_builtin;refine Kd.Zb (Kd.int .i64) (w0:=w) w.heap.size rfl (.tmp 25) (.tmp 29) 22 3 (.int .i64 0) 8 rfl Tryz.underlying22 Zg rfl (by decide) (by omega) v1 (y++[n*2]) ((n*2)) [.int .i64 ((n*2))] (fun _=>True) (fun _=>False) rfl rfl rfl (fun _ hk=>hk.elim) (fun _ _=>trivial) HOA.out HBA.out HBA.out.size a1.out ?_;intro v1 wA hoA hbA hgA hatA;have HOA:=Qa.mk hoA;have HBA:=Qa.mk hbA;have hkp:=P8 hgA hatA ne0.out hsz'.out;replace s2:=hkp.2.2 _ _ s2;replace s3:=hkp.2.2 _ _ s3;replace ne0:=Qa.mk hkp.1;replace hsz':=Qa.mk hkp.2.1;clear hoA hbA hgA hatA hkp));rw[rounds_succ];go_wp2_with (first|(at_builtin;refine Kd.Zb (Kd.int .i64) (w0:=w) w.heap.size rfl (.tmp 25) (.tmp 29) 22 3 (.int .i64 0) 8 rfl Tryz.underlying22 Zg rfl (by decide) (by omega) v1 (y++[n*2]++[n*2]) ((n*4)) [.int .i64 ((n*4))] (fun _=>True) (fun _=>False) rfl rfl rfl (fun _ hk=>hk.elim) (fun _ _=>trivial) HOA.out HBA.out HBA.out.size a2.out ?_;intro v1 wA hoA hbA hgA hatA;have HOA:=Qa.mk hoA;have HBA:=Qa.mk hbA;have hkp:=P8 hgA hatA ne0.out hsz'.out;replace s3:=hkp.2.2 _ _ s3;replace ne0:=Qa.mk hkp.1;replace hsz':=Qa.mk hkp.2.1;clear hoA hbA hgA hatA hkp));rw[rounds_succ];go_wp2_with (first|(at_builtin;refine Kd.Zb (Kd.int .i64) (w0:=w) w.heap.size rfl (.tmp 25) (.tmp 29) 22 3 (.int .i64 0) 8 rfl Tryz.underlying22 Zg rfl (by decide) (by omega) v1 (y++[n*2]++[n*2]++[n*4]) ((n*8)) [.int .i64 ((n*8))] (fun _=>True) (fun _=>False) rfl rfl rfl (fun _ hk=>hk.elim) (fun _ _=>trivial) HOA.out HBA.out HBA.out.size a3.out ?_;intro v1 wA hoA hbA hgA hatA;have HOA:=Qa.mk hoA;have HBA:=Qa.mk hbA;clear hoA hbA hgA hatA));rw[rounds_succ];go_wp2_with fail;go_roundw
    case rel=>exact⟨k+1,by go_num,by omega,⟨by rw[hT.out];simpa using HOA.out⟩,HBA⟩
    case measure=>simp[intOf];omega
   ·obtain rfl:k=g.length:=by omega
    have ho':=ho.out;rw[List.take_length] at ho';replace ho':=Qa.mk ho';clear ho;go_wp2;go_ret;obtain⟨B5,p5,rfl,_,hC⟩:=Kd.Qu ho'.out;exact⟨_,_,rfl,hC,hbL.out⟩
end Q21

namespace Q16
attribute [local go_sem] Qi Qj Qk Ql Qg Qh
open Q15
def isW (l:List Int):Bool:=l.all (fun w=>decide (1<=w))&&decide (l.sum=128)&&decide (l.length<=32)
def rng (low high:Int) (l:List Int):Bool:=l.all fun n=>decide (low<=n/\n<=high)
def Ti (n:Nat) (ws:List Int) (ls:List Nat):Int:=if isW ws then if n=128 then if ls.all (fun m=>decide (m=ws.length)) then 0 else 4 else 4 else 1
def Lens (w:World) (B:Nat) (ls:List Nat):Prop:= ∀j n,ls[j]? =some n-> ∃A c,w.cell? ⟨B,j,none⟩=some (.slice A n c)
theorem Vi: ∀{l:List Int},(∀x∈l,1<=x)->(l.length:Int)<=l.sum
 |[],_=>by simp
 |a::t,h=>by
  have h1:=h a (by simp);have h2:=Vi (l:=t) (fun x hx=>h x (by simp[hx]));simp only[List.sum_cons,List.length_cons];omega
theorem Q0 {l:List Int}:isW l=true↔(∀x∈l,1<=x)/\l.sum=128/\l.length<=32:=by
 unfold isW;simp[List.all_eq_true,and_assoc]
theorem Jz {l:List Int} (h: ∀x∈l,1<=x) (k:Nat):(l.take k).sum <=l.sum:=by
 have h1:(l.take k).sum +(l.drop k).sum =l.sum:=(by rw[<-List.sum_append,List.take_append_drop]);have h2:=Vi (l:=l.drop k) (fun x hx=>h x (List.mem_of_mem_drop hx));omega
theorem Qcy {l:List Int} {k:Nat} (hk:k<l.length) (h:rd l k<1\/128-(l.take k).sum <rd l k):isW l=false:=by
 rw[<-Bool.not_eq_true];intro hw;obtain⟨h1,h2,h3⟩:=Q0.1 hw;have h4:=h1 _ (Qt l k hk);have h5:=Jz h1 (k+1);rw[Qx l k hk,List.sum_append] at h5;simp only[List.sum_cons,List.sum_nil] at h5;omega
theorem Qcx {l:List Int} (h: ∀x∈l,1<=x):isW l=(decide (1<=l.length)&&decide (l.length<=32)&&decide (128-l.sum=0)):=by
 have h1:l.all (fun w=>decide (1<=w))=true:=(by rw[List.all_eq_true];intro x hx;exact decide_eq_true (h x hx));unfold isW;rw[h1,Bool.true_and]
 cases l with
 |nil=>decide
 |cons a t=>
  rw[decide_eq_true (show 1<=(a::t).length by simp),Bool.true_and,Bool.and_comm]
  congr 1
  exact decide_eq_decide.2 (by omega)
theorem Rz (A:Option Addr) (cap:Nat) (l:List Int) (w:World) (hr:(Kd.int .i64).C w A l.length l) (hl:l.length<=1099511627776):
  Calls Tryz.prog 97 #[.slice A l.length cap] w fun e w'=>e= .returned (.bool (isW l))/\Below w.heap.size w w':=by
 have HR:=Qa.mk hr;clear hr;go_enter Tryz.func97,Tryz.ntmps97;go_wp2;go_loopw [3,8] (fun s i wr=> ∃(k:Nat) (z:Int),i= .int .i64 k/\s= .int .i64 z/\k<=l.length/\0<=z/\z<=128/\Qa (z=128-(l.take k).sum)/\Qa (∀x∈l.take k,1<=x)/\Below w.heap.size w wr) (fun _ i _=>l.length-(intOf i).toNat)
 case atStart=>exact⟨0,128,rfl,rfl,by omega,by omega,by omega,⟨by simp⟩,⟨by simp⟩,Below.refl _ _⟩
 case round=>
  obtain⟨k,z,rfl,rfl,hk,hz0,hz1,hn,ha,hb⟩:=hrel;by_cases hlt:k<l.length
  ·obtain⟨ad,rfl,hcell⟩:=Qq HR.out hb hlt
   have hno:=Qcy hlt;have hT:=Qx l k hlt;rw[<-hn.out] at hno;obtain⟨n,hx⟩: ∃n,n=rd l k:=⟨_,rfl⟩;rw[<-hx] at hcell hno hT;replace hno:=Qa.mk hno;replace hT:=Qa.mk hT;clear hx;by_cases h1:n<1
   ·go_wp2
    go_ret;exact⟨by rw[hno.out (.inl h1)];rfl,hb⟩
   ·by_cases h2:z<n
    ·go_wp2
     go_ret;exact⟨by rw[hno.out (.inr h2)];rfl,hb⟩
    ·go_wp2
     go_roundw
     case rel=>exact⟨k+1,z-n,by go_num,rfl,by omega,by omega,by omega,⟨by rw[hT.out,List.sum_append,hn.out];simp;omega⟩,⟨by
      rw[hT.out];intro x hx;rcases List.mem_append.1 hx with hx|hx
      ·exact ha.out x hx
      ·rw[List.mem_singleton.1 hx];omega⟩,hb⟩
     case measure=>simp[intOf];omega
  ·obtain rfl:k=l.length:=by omega
   have hA:=ha.out;have hN:=hn.out;rw[List.take_length] at hA hN;have hW:=Qcx hA;rw[<-hN] at hW;replace hW:=Qa.mk hW;clear ha hn hA hN;by_cases g1:1<=l.length
   ·by_cases g2:l.length<=32
    ·have g1':decide ((1:Int)<=(l.length:Int))=true:=by simp;omega
     have g2':decide ((l.length:Int)<=(32:Int))=true:=(by simp;omega);rw[decide_eq_true g1,decide_eq_true g2,Bool.true_and,Bool.true_and] at hW;clear g1 g2;go_wp2;go_ret;exact⟨by rw[hW.out];rfl,hb⟩
    ·have g1':decide ((1:Int)<=(l.length:Int))=true:=by simp;omega
     have g2':decide ((l.length:Int)<=(32:Int))=false:=(by simp;omega);rw[decide_eq_false g2,Bool.and_false,Bool.false_and] at hW;clear g1 g2;go_wp2;go_ret;exact⟨by rw[hW.out];rfl,hb⟩
   ·have g1':decide ((1:Int)<=(l.length:Int))=false:=by simp;omega
    rw[decide_eq_false g1,Bool.false_and,Bool.false_and] at hW;clear g1;go_wp2;go_ret;exact⟨by rw[hW.out];rfl,hb⟩
theorem Pp {low high:Int} {l:List Int} {k:Nat} (hk:k<l.length) (h:rd l k<low\/high<rd l k):rng low high l=false:=by
 rw[<-Bool.not_eq_true];intro hw;have:=List.all_eq_true.1 hw _ (Qt l k hk);simp only[decide_eq_true_eq] at this;omega
theorem Ud (low high:Int) (A:Option Addr) (cap:Nat) (l:List Int) (w:World) (hr:(Kd.int .i64).C w A l.length l) (hl:l.length<=1099511627776):
  Calls Tryz.prog 98 #[.int .i64 low,.int .i64 high,.slice A l.length cap] w fun e w'=>e= .returned (.bool (rng low high l))/\Below w.heap.size w w':=by
 have HR:=Qa.mk hr;clear hr;go_enter Tryz.func98,Tryz.ntmps98;go_wp2;go_loopw [11] (fun i wr=> ∃(k:Nat),i= .int .i64 k/\k<=l.length/\Qa (∀x∈l.take k,low<=x/\x<=high)/\Below w.heap.size w wr) (fun i _=>l.length-(intOf i).toNat)
 case atStart=>exact⟨0,rfl,by omega,⟨by simp⟩,Below.refl _ _⟩
 case round=>
  obtain⟨k,rfl,hk,ha,hb⟩:=hrel;by_cases hlt:k<l.length
  ·obtain⟨ad,rfl,hcell⟩:=Qq HR.out hb hlt
   have hno:=Pp (low:=low) (high:=high) hlt;have hT:=Qx l k hlt;obtain⟨n,hx⟩: ∃n,n=rd l k:=⟨_,rfl⟩;rw[<-hx] at hcell hno hT;replace hno:=Qa.mk hno;replace hT:=Qa.mk hT;clear hx;by_cases h1:n<low
   ·go_wp2
    go_ret;exact⟨by rw[hno.out (.inl h1)];rfl,hb⟩
   ·by_cases h2:high<n
    ·go_wp2
     go_ret;exact⟨by rw[hno.out (.inr h2)];rfl,hb⟩
    ·go_wp2
     go_roundw
     case rel=>exact⟨k+1,by go_num,by omega,⟨by
      rw[hT.out];intro x hx;rcases List.mem_append.1 hx with hx|hx
      ·exact ha.out x hx
      ·rw[List.mem_singleton.1 hx];omega⟩,hb⟩
     case measure=>simp[intOf];omega
  ·obtain rfl:k=l.length:=by omega
   have hA:=ha.out;rw[List.take_length] at hA;have hW:Qa (rng low high l=true):=⟨List.all_eq_true.2 fun x hx=>decide_eq_true (hA x hx)⟩;clear ha hA;go_wp2;go_ret;exact⟨by rw[hW.out];rfl,hb⟩
section
variable (A:Option Addr) (cap:Nat) (l:List Int) (w:World) (hr:(Kd.int .i64).C w A l.length l) (hl:l.length<=1099511627776)
include hr hl
theorem M6:Calls Tryz.prog 56 #[.slice A l.length cap] w fun e w'=>e= .returned (.bool (rng (-2097152) 2097152 l))/\Below w.heap.size w w':=by
 have hb:=Below.refl w.heap.size w;have HC:=Qa.mk (Ud (-2097152) 2097152 A cap l w hr hl);obtain⟨b,hbe⟩: ∃b,b=rng (-2097152) 2097152 l:=⟨_,rfl⟩;rw[<-hbe] at HC ⊢;clear hr hbe;go_enter Tryz.func56,Tryz.ntmps56;go_wp2_with (first|(go_at_call 98;refine(HC.out).mono ?_;rintro e w' ⟨rfl,hbn⟩;replace hb:=bnx hb hbn;clear hbn));go_ret;exact⟨rfl,hb⟩
theorem Da:Calls Tryz.prog 57 #[.slice A l.length cap] w fun e w'=>e= .returned (.bool (rng 0 95 l))/\Below w.heap.size w w':=by
 have hb:=Below.refl w.heap.size w;have HC:=Qa.mk (Ud 0 95 A cap l w hr hl);obtain⟨b,hbe⟩: ∃b,b=rng 0 95 l:=⟨_,rfl⟩;rw[<-hbe] at HC ⊢;clear hr hbe;go_enter Tryz.func57,Tryz.ntmps57;go_wp2_with (first|(go_at_call 98;refine(HC.out).mono ?_;rintro e w' ⟨rfl,hbn⟩;replace hb:=bnx hb hbn;clear hbn));go_ret;exact⟨rfl,hb⟩
theorem Ry:Calls Tryz.prog 68 #[.slice A l.length cap] w fun e w'=>e= .returned (.bool (rng (-1023) 1023 l))/\Below w.heap.size w w':=by
 have hb:=Below.refl w.heap.size w;have HC:=Qa.mk (Ud (-1023) 1023 A cap l w hr hl);obtain⟨b,hbe⟩: ∃b,b=rng (-1023) 1023 l:=⟨_,rfl⟩;rw[<-hbe] at HC ⊢;clear hr hbe;go_enter Tryz.func68,Tryz.ntmps68;go_wp2_with (first|(go_at_call 98;refine(HC.out).mono ?_;rintro e w' ⟨rfl,hbn⟩;replace hb:=bnx hb hbn;clear hbn));go_ret;exact⟨rfl,hb⟩
end
theorem Rl (A0 A:Option Addr) (n0 c0 cap c2:Nat) (l:List Int) (B:Nat) (ls:List Nat) (w:World) (hr:(Kd.int .i64).C w A l.length l) (hl:l.length<=1099511627776) (hn0:n0<=1099511627776) (hls:Lens w B ls) (hll:ls.length<=1000000) (hle: ∀n∈ls,n<=1099511627776):
  Calls Tryz.prog 55 #[.slice A0 n0 c0,.slice A l.length cap,.slice (some ⟨B,0,none⟩) ls.length c2] w fun e w'=>e= .returned (.int .i64 (Ti n0 l ls))/\Below w.heap.size w w':=by
 have hb:=Below.refl w.heap.size w;have HW:=Qa.mk (Rz A cap l w hr hl);have HLS:=Qa.mk hls;have HLE:=Qa.mk hle;clear hr hls hle;unfold Ti
 cases hw:isW l with
 |false=>
  rw[hw] at HW;clear hw;go_enter Tryz.func55,Tryz.ntmps55;go_wp2_with (first|(go_at_call 97;refine(HW.out).mono ?_;rintro e w' ⟨rfl,hbn⟩;replace hb:=bnx hb hbn;clear hbn));go_ret;exact⟨rfl,hb⟩
 |true=>
  rw[hw] at HW;clear hw;by_cases h128:n0=128
  ·subst h128
   rw[if_pos rfl,if_pos rfl];obtain⟨E,hE⟩: ∃E:Int,E=(if ls.all (fun m=>decide (m=l.length)) then 0 else 4):=⟨_,rfl⟩;rw[<-hE]
   have HX:Qa (∀k n,ls[k]? =some n->n≠l.length->E=4):=⟨fun k n hk hne=>by
    rw[hE,if_neg];intro h;have:=List.all_eq_true.1 h n (List.mem_of_getElem? hk);simp at this
    exact hne this⟩
   have HY:Qa ((∀x∈ls,x=l.length)->E=0):=⟨fun h=>by rw[hE,if_pos (List.all_eq_true.2 fun x hx=>decide_eq_true (h x hx))]⟩;clear hE;go_enter Tryz.func55,Tryz.ntmps55;go_wp2_with (first|(go_at_call 97;refine(HW.out).mono ?_;rintro e w' ⟨rfl,hbn⟩;replace hb:=bnx hb hbn;clear hbn));go_loopw [17] (fun i wr=> ∃(k:Nat),i= .int .i64 k/\k<=ls.length/\Qa (∀x∈ls.take k,x=l.length)/\Below w.heap.size w wr) (fun i _=>ls.length-(intOf i).toNat)
   case atStart=>exact⟨0,rfl,by omega,⟨by simp⟩,hb⟩
   case round=>
    obtain⟨k,rfl,hk,ha,hbr⟩:=hrel;clear hb;have hb:=hbr;clear hbr;by_cases hlt:k<ls.length
    ·have hk?:=List.getElem?_eq_getElem hlt
     obtain⟨A2,c3,hcell⟩:=HLS.out k _ hk?;replace hcell:=cnx hcell hb;have hle:=HLE.out _ (List.getElem_mem hlt);have hX:=HX.out k _ hk?;have hT:ls.take (k+1)=ls.take k++[ls[k]]:=List.take_succ_eq_append_getElem hlt;obtain⟨n,hx⟩: ∃n,n=ls[k]:=⟨_,rfl⟩;rw[<-hx] at hcell hX hT hle;replace hX:=Qa.mk hX;replace hT:=Qa.mk hT;clear hx hk?;by_cases h1:n=l.length
     ·have h1':decide ((n:Int)=(l.length:Int))=true:=by simp;omega
      have h1'':((n:Int) != (l.length:Int))=false:=(by simp;omega);have hn:=Qa.mk h1;clear h1;go_wp2;go_roundw
      case rel=>exact⟨k+1,by go_num,by omega,⟨by
       rw[hT.out];intro x hx;rcases List.mem_append.1 hx with hx|hx
       ·exact ha.out x hx
       ·rw[List.mem_singleton.1 hx];exact hn.out⟩,hb⟩
      case measure=>simp[intOf];omega
     ·have h1':decide ((n:Int)=(l.length:Int))=false:=by simp;omega
      have h1'':((n:Int) != (l.length:Int))=true:=(by simp;omega);have hf:=Qa.mk (hX.out h1);clear h1;go_wp2;go_ret;exact⟨by rw[hf.out];rfl,hb⟩
    ·obtain rfl:k=ls.length:=by omega
     have hA:=ha.out;rw[List.take_length] at hA;have hf:=Qa.mk (HY.out hA);clear ha hA;go_wp2;go_ret;exact⟨by rw[hf.out];rfl,hb⟩
  ·rw[if_neg h128,if_pos rfl]
   have h1':((n0:Int) != (128:Int))=true:=(by simp;omega);clear h128;go_enter Tryz.func55,Tryz.ntmps55;go_wp2_with (first|(go_at_call 97;refine(HW.out).mono ?_;rintro e w' ⟨rfl,hbn⟩;replace hb:=bnx hb hbn;clear hbn));go_ret;exact⟨rfl,hb⟩
end Q16

namespace Q16
attribute [local go_sem] Qi Qj Qk Ql Qg Qh
open Q15
theorem isW_not2 {l:List Int} {k:Nat} (hk:k<l.length) (h:rd l k<1\/128<rd l k):isW l=false:=by
 by_cases h1:rd l k<1
 ·exact Qcy hk (.inl h1)
 ·rw[<-Bool.not_eq_true]
  intro hw;obtain⟨g1,g2,g3⟩:=Q0.1 hw;have h5:=Jz g1 (k+1);have h6:=Vi (l:=l.take k) (fun x hx=>g1 x (List.mem_of_mem_take hx));rw[Qx l k hk,List.sum_append] at h5;simp only[List.sum_cons,List.sum_nil] at h5;omega
theorem isW_all2 {l:List Int} (h: ∀x∈l,1<=x):isW l=(decide (1<=l.length)&&decide (l.length<=32)&&decide (l.sum=128)):=by
 rw[Qcx h]
 congr 1
 exact decide_eq_decide.2 (by omega)
theorem Ya (A:Option Addr) (cap:Nat) (l:List Int) (w:World) (hr:(Kd.int .i64).C w A l.length l) (hl:l.length<=1099511627776):
  Calls Tryz.prog 132 #[.slice A l.length cap] w fun e w'=>e= .returned (.bool (isW l))/\Below w.heap.size w w':=by
 have HR:=Qa.mk hr;clear hr;go_enter Tryz.func132,Tryz.ntmps132;go_wp2;go_loopw [3,8] (fun s i wr=> ∃(k:Nat) (z:Int),i= .int .i64 k/\s= .int .i64 z/\k<=l.length/\0<=z/\z<=k*128/\Qa (z=(l.take k).sum)/\Qa (∀x∈l.take k,1<=x)/\Below w.heap.size w wr) (fun _ i _=>l.length-(intOf i).toNat)
 case atStart=>exact⟨0,0,rfl,rfl,by omega,by omega,by omega,⟨by simp⟩,⟨by simp⟩,Below.refl _ _⟩
 case round=>
  obtain⟨k,z,rfl,rfl,hk,hz0,hz1,hn,ha,hb⟩:=hrel;by_cases hlt:k<l.length
  ·obtain⟨ad,rfl,hcell⟩:=Qq HR.out hb hlt
   have hno:=isW_not2 hlt;have hT:=Qx l k hlt;obtain⟨n,hx⟩: ∃n,n=rd l k:=⟨_,rfl⟩;rw[<-hx] at hcell hno hT;replace hno:=Qa.mk hno;replace hT:=Qa.mk hT;clear hx;by_cases h1:n<1
   ·go_wp2
    go_ret;exact⟨by rw[hno.out (.inl h1)];rfl,hb⟩
   ·by_cases h2:128<n
    ·go_wp2
     go_ret;exact⟨by rw[hno.out (.inr h2)];rfl,hb⟩
    ·go_wp2
     go_roundw
     case rel=>exact⟨k+1,z+n,by go_num,rfl,by omega,by omega,by omega,⟨by rw[hT.out,List.sum_append,hn.out];simp⟩,⟨by
      rw[hT.out];intro x hx;rcases List.mem_append.1 hx with hx|hx
      ·exact ha.out x hx
      ·rw[List.mem_singleton.1 hx];omega⟩,hb⟩
     case measure=>simp[intOf];omega
  ·obtain rfl:k=l.length:=by omega
   have hA:=ha.out;have hN:=hn.out;rw[List.take_length] at hA hN;have hW:=isW_all2 hA;rw[<-hN] at hW;replace hW:=Qa.mk hW;clear ha hn hA hN;by_cases g1:1<=l.length
   ·by_cases g2:l.length<=32
    ·have g1':decide ((1:Int)<=(l.length:Int))=true:=by simp;omega
     have g2':decide ((l.length:Int)<=(32:Int))=true:=(by simp;omega);rw[decide_eq_true g1,decide_eq_true g2,Bool.true_and,Bool.true_and] at hW;clear g1 g2;go_wp2;go_ret;exact⟨by rw[hW.out];rfl,hb⟩
    ·have g1':decide ((1:Int)<=(l.length:Int))=true:=by simp;omega
     have g2':decide ((l.length:Int)<=(32:Int))=false:=(by simp;omega);rw[decide_eq_false g2,Bool.and_false,Bool.false_and] at hW;clear g1 g2;go_wp2;go_ret;exact⟨by rw[hW.out];rfl,hb⟩
   ·have g1':decide ((1:Int)<=(l.length:Int))=false:=by simp;omega
    rw[decide_eq_false g1,Bool.false_and,Bool.false_and] at hW;clear g1;go_wp2;go_ret;exact⟨by rw[hW.out];rfl,hb⟩
theorem X4 (most:Int) (hm:0<=most/\most<=4611686018427387904) (A:Option Addr) (cap:Nat) (l:List Int) (w:World) (hr:(Kd.int .i64).C w A l.length l) (hl:l.length<=1099511627776):
  Calls Tryz.prog 49 #[.int .i64 most,.slice A l.length cap] w fun e w'=>e= .returned (.bool (rng (-most) most l))/\Below w.heap.size w w':=by
 have HR:=Qa.mk hr;clear hr;go_enter Tryz.func49,Tryz.ntmps49;go_wp2;go_loopw [9] (fun i wr=> ∃(k:Nat),i= .int .i64 k/\k<=l.length/\Qa (∀x∈l.take k,-most<=x/\x<=most)/\Below w.heap.size w wr) (fun i _=>l.length-(intOf i).toNat)
 case atStart=>exact⟨0,rfl,by omega,⟨by simp⟩,Below.refl _ _⟩
 case round=>
  obtain⟨k,rfl,hk,ha,hb⟩:=hrel;by_cases hlt:k<l.length
  ·obtain⟨ad,rfl,hcell⟩:=Qq HR.out hb hlt
   have hno:=Pp (low:= -most) (high:=most) hlt;have hT:=Qx l k hlt;obtain⟨n,hx⟩: ∃n,n=rd l k:=⟨_,rfl⟩;rw[<-hx] at hcell hno hT;replace hno:=Qa.mk hno;replace hT:=Qa.mk hT;clear hx;by_cases h1:n< -most
   ·go_wp2
    go_ret;exact⟨by rw[hno.out (.inl h1)];rfl,hb⟩
   ·by_cases h2:most<n
    ·go_wp2
     go_ret;exact⟨by rw[hno.out (.inr h2)];rfl,hb⟩
    ·go_wp2
     go_roundw
     case rel=>exact⟨k+1,by go_num,by omega,⟨by
      rw[hT.out];intro x hx;rcases List.mem_append.1 hx with hx|hx
      ·exact ha.out x hx
      ·rw[List.mem_singleton.1 hx];omega⟩,hb⟩
     case measure=>simp[intOf];omega
  ·obtain rfl:k=l.length:=by omega
   have hA:=ha.out;rw[List.take_length] at hA;have hW:Qa (rng (-most) most l=true):=⟨List.all_eq_true.2 fun x hx=>decide_eq_true (hA x hx)⟩;clear ha hA;go_wp2;go_ret;exact⟨by rw[hW.out];rfl,hb⟩
theorem Gy (most:Int) (hm:0<=most/\most<=4611686018427387904) (A:Option Addr) (cap:Nat) (l:List Int) (w:World) (hr:(Kd.int .i64).C w A l.length l) (hl:l.length<=1099511627776):
  Calls Tryz.prog 23 #[.int .i64 most,.slice A l.length cap] w fun e w'=>e= .returned (.bool (rng (-most) most l))/\Below w.heap.size w w':=by
 have hb:=Below.refl w.heap.size w;have HC:=Qa.mk (X4 most hm A cap l w hr hl);obtain⟨b,hbe⟩: ∃b,b=rng (-most) most l:=⟨_,rfl⟩;rw[<-hbe] at HC ⊢;clear hr hbe;go_enter Tryz.func23,Tryz.ntmps23;go_wp2_with (first|(go_at_call 49;refine(HC.out).mono ?_;rintro e w' ⟨rfl,hbn⟩;replace hb:=bnx hb hbn;clear hbn));go_ret;exact⟨rfl,hb⟩
theorem L8 (most:Int) (A:Option Addr) (cap:Nat) (l:List Int) (w:World) (hr:(Kd.int .i64).C w A l.length l) (hl:l.length<=1099511627776):
  Calls Tryz.prog 128 #[.slice A l.length cap,.int .i64 most] w fun e w'=>e= .returned (.bool (rng 0 most l))/\Below w.heap.size w w':=by
 have HR:=Qa.mk hr;clear hr;go_enter Tryz.func128,Tryz.ntmps128;go_wp2;go_loopw [9] (fun i wr=> ∃(k:Nat),i= .int .i64 k/\k<=l.length/\Qa (∀x∈l.take k,0<=x/\x<=most)/\Below w.heap.size w wr) (fun i _=>l.length-(intOf i).toNat)
 case atStart=>exact⟨0,rfl,by omega,⟨by simp⟩,Below.refl _ _⟩
 case round=>
  obtain⟨k,rfl,hk,ha,hb⟩:=hrel;by_cases hlt:k<l.length
  ·obtain⟨ad,rfl,hcell⟩:=Qq HR.out hb hlt
   have hno:=Pp (low:=0) (high:=most) hlt;have hT:=Qx l k hlt;obtain⟨n,hx⟩: ∃n,n=rd l k:=⟨_,rfl⟩;rw[<-hx] at hcell hno hT;replace hno:=Qa.mk hno;replace hT:=Qa.mk hT;clear hx;by_cases h1:n<0
   ·go_wp2
    go_ret;exact⟨by rw[hno.out (.inl h1)];rfl,hb⟩
   ·by_cases h2:most<n
    ·go_wp2
     go_ret;exact⟨by rw[hno.out (.inr h2)];rfl,hb⟩
    ·go_wp2
     go_roundw
     case rel=>exact⟨k+1,by go_num,by omega,⟨by
      rw[hT.out];intro x hx;rcases List.mem_append.1 hx with hx|hx
      ·exact ha.out x hx
      ·rw[List.mem_singleton.1 hx];omega⟩,hb⟩
     case measure=>simp[intOf];omega
  ·obtain rfl:k=l.length:=by omega
   have hA:=ha.out;rw[List.take_length] at hA;have hW:Qa (rng 0 most l=true):=⟨List.all_eq_true.2 fun x hx=>decide_eq_true (hA x hx)⟩;clear ha hA;go_wp2;go_ret;exact⟨by rw[hW.out];rfl,hb⟩
end Q16

namespace Q16
attribute [local go_sem] Qi Qj Qk Ql Qg Qh
open Q15 Runs Go.Shelf
attribute [local go_sem] Oper.semAt_some
def off (l:List Int) (k:Nat):Nat:=(l.take k).sum.toNat
def wd (l:List Int) (k:Nat):Nat:=(rd l k).toNat
def encB (a:Addr) (l:List Int) (k:Nat):Array Value:= #[.int .i64 k,.slice (some (a.add (off l k))) (wd l k) (wd l k)]
theorem Za {l:List Int} (h:isW l=true) {k:Nat} (hk:k<l.length):off l (k+1)=off l k+wd l k/\1<=wd l k/\off l k+wd l k<=128/\rd l k=(wd l k:Nat):=by
 obtain⟨h1,h2,h3⟩:=Q0.1 h;have h4:=h1 _ (Qt l k hk);have h5:=Jz h1 (k+1);have h6:=Vi (l:=l.take k) (fun x hx=>h1 x (List.mem_of_mem_take hx));unfold off wd;rw[Qx l k hk,List.sum_append] at h5 ⊢;simp only[List.sum_cons,List.sum_nil] at h5 ⊢;omega
def Xj (S B1 Bc:Nat) (A B:World):Prop:=Below S A B/\B.heap[B1]? =A.heap[B1]? /\B.heap[Bc]? =A.heap[Bc]?
theorem Xj.trans {S B1 Bc:Nat} {A B C:World} (h:Xj S B1 Bc A B) (k:Xj S B1 Bc B C):Xj S B1 Bc A C:=⟨h.1.trans k.1,k.2.1.trans h.2.1,k.2.2.trans h.2.2⟩
theorem Xj.putObj {S B1 Bc N:Nat} (h0:S<=N) (h1:B1<N) (h2:Bc<N) (W:World) (l:Nat) (o o':Obj) (hl:N<=l) (ho:W.heap[l]? =some o) (hc:o.isCells=false) (hw:o.isWalk=false):Xj S B1 Bc W (W.putObj l o'):=
 ⟨(Below.refl S W).grown (grownBy_putObj' W l o') (by have:=(Array.getElem?_eq_some_iff.1 ho).1;omega) (fun k e=>by cases e;omega),World.putObj_heap_other (by omega),World.putObj_heap_other (by omega)⟩
theorem Q6 {A B:World} {b:Nat} (h:B.heap[b]? =A.heap[b]?) {o:Nat}:B.cell? ⟨b,o,none⟩=A.cell? ⟨b,o,none⟩:=by simp[World.cell?,h]
theorem Zc {A B:World} {b:Nat} (h:B.heap[b]? =A.heap[b]?) {o:Nat}:B.frozen? ⟨b,o,none⟩=A.frozen? ⟨b,o,none⟩:=by simp[World.frozen?,h]
theorem Ub (a:Addr):a.add 0=a:=by simp[Addr.add]
theorem Qak (F:Fence) (n:Nat) (hF:F.fn 156) (hro:F.round=none) (hn:1<=n) (B1 Bc:Nat) (a:Addr) (c0:Nat) (A1:Option Addr) (cap:Nat) (l:List Int) (hl:isW l=true) (hc0:128<=c0) (hc9:c0<=9223372036854775807)
  (wS w:World) (hr:(Kd.int .i64).C wS A1 l.length l) (hS:Below wS.heap.size wS w) (s1:wS.heap.size<=B1) (s2:wS.heap.size<=Bc) (hne:B1≠Bc) (l1:B1<w.heap.size) (l2:Bc<w.heap.size)
  (c1:w.cell? ⟨B1,0,none⟩=some (.slice A1 l.length cap)) (c2:w.cell? ⟨Bc,0,none⟩=some (.slice (some a) 128 c0)) (f2:w.frozen? ⟨Bc,0,none⟩=false):
  Qco F n Tryz.prog 156 #[.pointer (some ⟨B1,0,none⟩),.pointer (some ⟨Bc,0,none⟩)] (encB a l) (Xj wS.heap.size B1 Bc) Bc l.length w:=fun L J W hW hJ hY h0=>by
 have d1:=cnx c1 hW;have d2:=cnx c2 hW;have g2:=(hW.frozen (p:=⟨Bc,0,none⟩) (by simp;omega)).trans f2;have hS':=bnx hS hW;have HR:=Qa.mk hr;have HY:=Qa.mk hY;have HJ:=Qa.mk hJ;have HN:=Qa.mk (fun k (hk:k<l.length)=>Za hl hk);have hll:(l.length:Int)<=32:=(by have:=(Q0.1 hl).2.2;omega);clear hY hJ c1 c2 f2 hr hl;refine callsIn_of_wp Tryz.func156 rfl hF ?_ hro;simp only[Tryz.ntmps156,List.size_toArray,List.length_cons,List.length_nil,Nat.reduceAdd,Nat.reduceSub,Array.replicate_succ,Array.replicate_zero,List.push_toArray,List.append_toArray,List.nil_append,List.cons_append];gi_wp2;gi_loopw [8] (fun i wr=> ∃k:Nat,i= .int .i64 k/\k<=l.length/\wr.cell? ⟨B1,0,none⟩=some (.slice A1 l.length cap)/\Qa (k<l.length->wr.cell? ⟨Bc,0,none⟩=some (.slice (some (a.add (off l k))) (128-off l k) (c0-off l k)))/\wr.frozen? ⟨Bc,0,none⟩=false/\Below wS.heap.size wS wr/\w.heap.size<=wr.heap.size/\Qa (J k wr)) (fun i _=>l.length-(intOf i).toNat)
 case atStart=>exact⟨0,rfl,by omega,d1,⟨fun _=>by rw[d2];simp[off,Ub]⟩,g2,hS',hW.size,⟨h0⟩⟩
 case round=>
  obtain⟨k,rfl,hk,e1,e2,e3,hb,hsz,hJs⟩:=hrel;clear d1 d2 g2 hS';by_cases hlt:k<l.length
  ·obtain⟨ad,rfl,hcell⟩:=Qq HR.out hb hlt
   have e2':=e2.out hlt;obtain⟨q1,q2,q3,q4⟩:=HN.out k hlt;rw[q4] at hcell;obtain⟨fn,tmps,assign,body,hy,hR⟩:=HY.out k wr hlt hJs.out;have hR2:=Qa.mk hR;clear hR q4;unfold encB at hy;obtain⟨o,ho⟩: ∃o,o=off l k:=⟨_,rfl⟩;obtain⟨d,hd⟩: ∃d,d=wd l k:=⟨_,rfl⟩;rw[<-ho] at e2' q1 q3 hy;rw[<-hd] at hcell q1 q2 q3 hy;obtain⟨m,hm⟩: ∃m,m=128-o:=⟨_,rfl⟩;obtain⟨c,hc⟩: ∃c,c=c0-o:=⟨_,rfl⟩;rw[<-hm,<-hc] at e2';have i1:(d:Int)<=(m:Int):=(by omega);have i2:(d:Int)<=(c:Int):=(by omega);have i3:(m:Int)<=(c:Int):=(by omega);have i4:(c:Int)<=9223372036854775807:=(by omega);have i5:(1:Int)<=(d:Int):=(by omega);replace hm:=Qa.mk hm;replace hc:=Qa.mk hc;replace q1:=Qa.mk q1;obtain⟨a',ha'⟩: ∃a',a'=a.add o:=⟨_,rfl⟩;rw[<-ha'] at e2' hy;replace ho:=Qa.mk ho;replace hd:=Qa.mk hd;replace ha':=Qa.mk ha';clear q2 q3 e2;gi_wp2;refine hR2.out.mono ?_;rintro e W3 ⟨rfl,hJ3,hk3⟩;have b1:=(Q6 hk3.2.1).trans e1;have b2:=(Q6 hk3.2.2).trans e2';have b3:=(Zc hk3.2.2 (o:=0)).trans e3;have hb3:Below wS.heap.size wS W3:=hb.trans hk3.1;have hs3:=hk3.1.size;replace hJ3:=Qa.mk hJ3;clear hR2 e1 e2' e3 hk3 hb hy;gi_wp2;go_roundw
   case rel=>
    refine⟨k+1,by go_num,by omega,(World.cell?_setCell_far _ _ _ _ (by simp;omega)).trans b1,⟨fun hk1=> ?_⟩,?_,hb3.setCell (by simp;omega) _,by simp;omega,⟨HJ.out _ _ _ hJ3.out⟩⟩
    ·obtain⟨p1,p2,p3,p4⟩:=HN.out (k+1) hk1
     have hq:=q1.out;have hmo:=hm.out;have hco:=hc.out;rw[hq] at p3 ⊢;rw[World.cell?_setCell_same' _ _ _ (by rw[b2];rfl),if_neg (by omega),ha'.out,Addr.add_add];rw[show m-d=128-(o+d) by omega,show c-d=c0-(o+d) by omega]
    ·simpa using b3
   case measure=>simp[intOf];omega
  ·obtain rfl:k=l.length:=by omega
   gi_wp2;go_end0;exact⟨⟨_,rfl⟩,hJs.out⟩
theorem Qal (A0 A1:Option Addr) (n0 c0 n1 c1:Nat) (w:World):
  Calls Tryz.prog 99 #[.slice A0 n0 c0,.slice A1 n1 c1] w fun e w'=>e= .returned (.func (.func 156) #[] #[.pointer (some ⟨w.heap.size+1,0,none⟩),.pointer (some ⟨w.heap.size,0,none⟩)])/\w'=(w.alloc (.cells #[.slice A0 n0 c0] 22)).alloc (.cells #[.slice A1 n1 c1] 22):=by
 go_enter Tryz.func99,Tryz.ntmps99;go_wp2;go_ret;exact⟨rfl,rfl⟩
end Q16

namespace Q16
attribute [local go_sem] Qi Qj Qk Ql Qg Qh
open Q15 Runs Go.Shelf
attribute [local go_sem] Oper.semAt_some
theorem X5 {α:Type} {D:Kd α} {e base:Nat} {W:World} {v:Value} {xs:List α} (h:D.R e W base (fun _=>True) v xs) {p:Addr} (hp:p.block<base) (u:Value):D.R e (W.setCell p u) base (fun _=>True) v xs:=
 Kd.Z5 (Kd.Jv (Kd.Q9 h) (fun k hk e=>by have:=hk.2.1;omega) u) (fun _ _=>trivial)
theorem Yf {α:Type} {D:Kd α} {e base:Nat} {W W':World} {v:Value} {xs:List α} {row:Option Nat} (h:D.R e W base (fun _=>True) v xs) (hg:W.grownBy W' row) (hr: ∀r,row=some r-> ∃o:Obj,W.heap[r]? =some o/\o.isCells=false):D.R e W' base (fun _=>True) v xs:=
 Kd.Z5 (Kd.R_grown (Kd.Q9 h) hg (fun k hk e=>by
  obtain⟨_,_,_,q,_,cells,hc⟩:=hk;obtain⟨o,ho,hco⟩:=hr k e.symm;rw[hc] at ho;cases ho
  cases hco)) (fun _ _=>trivial)
theorem Qd5 {α:Type} {D:Kd α} {e base:Nat} {W W':World} {v:Value} {xs:List α} (h:D.R e W base (fun _=>True) v xs) (hg:W.grownBy W' v.ownBlock):KeepsOthers W W':=
 ⟨hg.size,fun k o hk ho=>(hg.block k (Array.getElem?_eq_some_iff.1 hk).1 (fun e=>by
  obtain⟨_,_,_,q,_,cells,hc⟩:=(Kd.Q9 h).1 k e.symm;rw[hk] at hc;cases hc
  cases ho)).trans hk⟩
end Q16

namespace Sca
attribute [local go_sem] Qi Qj Qk Ql Qg Qh
open Q15
def D8:List Int:=[15,15,15,15,15,15,14,14,14,14,14,14,14,14,14,14,14,14,14,14,14,14,14,14,14,14,14,14,14,14,14,14,14,14,13,13,13,13,13,13,13,13,13,13,13,13,13,13,13,13,13,13,12,12,12,12,12,12,12,12,12,12,12,12,12,11,11,11,11,11,11,11,11,11,10,10,10,10,10,10,9,9,9,9,9,8,8,8,7,7,7,6,6,5,3,1,3,5,6,6,7,7,7,8,8,8,9,9,9,9,9,10,10,10,10,10,10,11,11,11,11,11,11,11,11,11,12,12,12,12,12,12,12,12,12,12,12,12,12,13,13,13,13,13,13,13,13,13,13,13,13,13,13,13,13,13,13,13,13,14,14,14,14,14,14,14,14,14,14,14,14,14,14,14,14,14,14,14,14,14,14,14,14,14,14,15,15,15,15,15,15]
theorem Bl:D8.length=191:=by decide+kernel
def U1 (d:Int):Int:=rd D8 (d+95)
theorem lenL_bd: ∀x∈D8,1<=x/\x<=15:=by decide+kernel
theorem Dx {d:Int} (h0: -95<=d) (h1:d<=95):1<=U1 d/\U1 d<=15:=by
 have h:=Qt D8 (d+95).toNat (by rw[Bl];omega);rw[show(((d+95).toNat :Nat):Int)=d+95 by omega] at h;exact lenL_bd _ h
theorem tab_all: ∀i:Fin 191,(((ByteArray.mk #[111,111,111,111,111,111,110,110,110,110,110,110,110,110,110,110,110,110,110,110,110,110,110,110,110,110,110,110,110,110,110,110,110,110,109,109,109,109,109,109,109,109,109,109,109,109,109,109,109,109,109,109,108,108,108,108,108,108,108,108,108,108,108,108,108,107,107,107,107,107,107,107,107,107,106,106,106,106,106,106,105,105,105,105,105,104,104,104,103,103,103,102,102,101,99,97,99,101,102,102,103,103,103,104,104,104,105,105,105,105,105,106,106,106,106,106,106,107,107,107,107,107,107,107,107,107,108,108,108,108,108,108,108,108,108,108,108,108,108,109,109,109,109,109,109,109,109,109,109,109,109,109,109,109,109,109,109,109,109,110,110,110,110,110,110,110,110,110,110,110,110,110,110,110,110,110,110,110,110,110,110,110,110,110,110,111,111,111,111,111,111])[i.1]'(by show i.1<191;exact i.2)).toNat :Int)=rd D8 ((i.1:Nat):Int)+96:=by decide+kernel
theorem tab_at {d:Int} (h0: -95<=d) (h1:d<=95) (hb:(d+95).toNat <(ByteArray.mk #[111,111,111,111,111,111,110,110,110,110,110,110,110,110,110,110,110,110,110,110,110,110,110,110,110,110,110,110,110,110,110,110,110,110,109,109,109,109,109,109,109,109,109,109,109,109,109,109,109,109,109,109,108,108,108,108,108,108,108,108,108,108,108,108,108,107,107,107,107,107,107,107,107,107,106,106,106,106,106,106,105,105,105,105,105,104,104,104,103,103,103,102,102,101,99,97,99,101,102,102,103,103,103,104,104,104,105,105,105,105,105,106,106,106,106,106,106,107,107,107,107,107,107,107,107,107,108,108,108,108,108,108,108,108,108,108,108,108,108,109,109,109,109,109,109,109,109,109,109,109,109,109,109,109,109,109,109,109,109,110,110,110,110,110,110,110,110,110,110,110,110,110,110,110,110,110,110,110,110,110,110,110,110,110,110,111,111,111,111,111,111]).size):(((ByteArray.mk #[111,111,111,111,111,111,110,110,110,110,110,110,110,110,110,110,110,110,110,110,110,110,110,110,110,110,110,110,110,110,110,110,110,110,109,109,109,109,109,109,109,109,109,109,109,109,109,109,109,109,109,109,108,108,108,108,108,108,108,108,108,108,108,108,108,107,107,107,107,107,107,107,107,107,106,106,106,106,106,106,105,105,105,105,105,104,104,104,103,103,103,102,102,101,99,97,99,101,102,102,103,103,103,104,104,104,105,105,105,105,105,106,106,106,106,106,106,107,107,107,107,107,107,107,107,107,108,108,108,108,108,108,108,108,108,108,108,108,108,109,109,109,109,109,109,109,109,109,109,109,109,109,109,109,109,109,109,109,109,110,110,110,110,110,110,110,110,110,110,110,110,110,110,110,110,110,110,110,110,110,110,110,110,110,110,111,111,111,111,111,111])[(d+95).toNat]'hb).toNat :Int)=U1 d+96:=by
 have h:=tab_all ⟨(d+95).toNat,by omega⟩;rw[show(((d+95).toNat :Nat):Int)=d+95 by omega] at h;exact h
theorem U2 (d:Int) (w:World) (h0: -95<=d) (h1:d<=95):
  Calls Tryz.prog 154 #[.int .i64 d] w fun e w'=>e= .returned (.int .i64 (U1 d))/\w'=w:=by
 have H:=Qa.mk (fun hb=>tab_at h0 h1 hb);have hx:=Qa.mk (Dx h0 h1);obtain⟨x,hx2⟩: ∃x,x=U1 d:=⟨_,rfl⟩;rw[<-hx2] at H hx ⊢;clear hx2;go_enter Tryz.func154,Tryz.ntmps154;go_wp2;rw[H.out];go_ret;have:=hx.out;exact⟨by rw[show(x+96-97)%256+1=x by omega];rfl,rfl⟩
theorem Mr (w:World):
  Calls Tryz.prog 152 #[] w fun e w'=> ∃v,e= .returned v/\(Kd.int .i64).R 3 w' w.heap.size (fun _=>True) v D8/\Below w.heap.size w w':=by
 have hlen:=Bl
 have HT:Qa (∀k:Nat,k<191->D8.take (k+1)=D8.take k++[U1 ((k:Int)-95)]):=⟨fun k hk=>by
  rw[Qx D8 k (by omega)];unfold U1
  rw[show(k:Int)-95+95=k by omega]⟩
 have hL:=Qa.mk (fun(k:Nat) (hk:k<191) (W:World)=>U2 ((k:Int)-95) W (by omega) (by omega));have HB:=Qa.mk (fun(k:Nat) (hk:k<191)=>Dx (d:=(k:Int)-95) (by omega) (by omega));obtain⟨LL,hLL⟩: ∃LL,LL=D8:=⟨_,rfl⟩;rw[<-hLL] at hlen HT ⊢;clear hLL;have hlen':=Qa.mk hlen;clear hlen;go_enter Tryz.func152,Tryz.ntmps152;go_wp2;go_loopw [1,3] (fun o i wr=> ∃k:Nat,i= .int .i64 k/\k<=191/\Qa ((Kd.int .i64).R 3 wr w.heap.size (fun _=>True) o (LL.take k))/\Below w.heap.size w wr) (fun _ i _=>191-(intOf i).toNat)
 case atStart=>exact⟨0,rfl,by omega,⟨Kd.Xd _ _ _ _ _⟩,Below.refl _ _⟩
 case round=>
  obtain⟨k,rfl,hk,ho,hb⟩:=hrel;by_cases hlt:k<191
  ·have hT:=Qa.mk (HT.out k hlt)
   have hLk:=Qa.mk (hL.out k hlt);have hkI:(k:Int)<191:=(by omega);obtain⟨x,hx⟩: ∃x,x=U1 ((k:Int)-95):=⟨_,rfl⟩;rw[<-hx] at hT hLk;obtain⟨Y,hY⟩: ∃Y,Y=LL.take k:=⟨_,rfl⟩;have hYl:Y.length<=191:=(by rw[hY,List.length_take];omega);rw[<-hY] at ho hT;have hlt':=Qa.mk hlt;clear hY hx hlt;go_wp2_with (first|(go_at_call 154;refine(hLk.out _).mono ?_;rintro e w' ⟨rfl,hw'⟩;rw[hw'];clear hw')|(at_builtin;refine Kd.Zb (Kd.int .i64) (w0:=w) w.heap.size rfl (.tmp 6) (.tmp 10) 22 3 (.int .i64 0) 8 rfl Tryz.underlying22 Zg rfl (by decide) (by omega) u1 Y (x) [.int .i64 (x)] (fun _=>True) (fun _=>False) rfl rfl rfl (fun _ hk=>hk.elim) (fun _ _=>trivial) ho.out (Qa.mk hb).out (Qa.mk hb).out.size (by omega) ?_;intro v1 wA hoA hbA hgA hatA;have HOA:=Qa.mk hoA;have HBA:=Qa.mk hbA;clear hoA hbA hgA hatA));go_roundw
   case rel=>exact⟨k+1,by go_num,by have:=hlt'.out;omega,⟨by rw[hT.out];exact HOA.out⟩,HBA.out⟩
   case measure=>have:=hlt'.out;simp[intOf];omega
  ·obtain rfl:k=191:=by omega
   have hR:=ho.out;rw[List.take_of_length_le (by rw[hlen'.out];exact Nat.le_refl _)] at hR;have hR2:=Qa.mk hR;clear hR ho;go_wp2;go_ret;exact⟨_,rfl,hR2.out,hb⟩
end Sca

namespace Sec
attribute [local go_sem] Qi Qj Qk Ql Qg Qh
open Q15
def Hu (a b:Int):Int:=if a<b then-1 else if b<a then 1 else 0
def cmpL:List Int->List Int->Int
 |[],[]=>0
 |[],_::_=> -1
 |_::_,[]=>1
 |x::xs,y::ys=>if x<y then-1 else if y<x then 1 else cmpL xs ys
theorem Qdt (x y:Int) (xs ys:List Int):cmpL (x::xs) (y::ys)=if x<y then-1 else if y<x then 1 else cmpL xs ys:=rfl
theorem cmpL_cn (x:Int) (xs:List Int):cmpL (x::xs) []=1:=rfl
theorem cmpL_nc (y:Int) (ys:List Int):cmpL [] (y::ys)= -1:=rfl
theorem Pm (l:List Int) (k:Nat) (h:k<l.length):l.drop k=rd l k::l.drop (k+1):=by
 rw[List.drop_eq_getElem_cons h];unfold rd;simp[List.getD_eq_getElem?_getD,h]
theorem K9 (a:Int) (w:World):Calls Tryz.prog 232 #[.int .i64 a] w fun e w'=>e= .returned (.bool false)/\w'=w:=by
 go_enter Tryz.func232,Tryz.ntmps232;go_wp2;go_ret;exact⟨rfl,rfl⟩
theorem N7 (a b:Int) (w:World):
  Calls Tryz.prog 219 #[.int .i64 a,.int .i64 b] w fun e w'=>e= .returned (.int .i64 (Hu a b))/\Below w.heap.size w w':=by
 have hb:=Below.refl w.heap.size w;by_cases h1:a<b
 ·have hc:Qa (Hu a b= -1):=⟨by unfold Hu;rw[if_pos h1]⟩
  go_enter Tryz.func219,Tryz.ntmps219;go_wp2_with (first|(go_at_call 232;refine(K9 _ _).mono ?_;rintro e w' ⟨rfl,rfl⟩));go_ret;exact⟨by rw[hc.out];rfl,hb⟩
 ·by_cases h2:b<a
  ·have hc:Qa (Hu a b=1):=⟨by unfold Hu;rw[if_neg h1,if_pos h2]⟩
   have t1:decide (a<b)=false:=decide_eq_false h1;clear h1;go_enter Tryz.func219,Tryz.ntmps219;go_wp2_with (first|(go_at_call 232;refine(K9 _ _).mono ?_;rintro e w' ⟨rfl,rfl⟩));go_ret;exact⟨by rw[hc.out];rfl,hb⟩
  ·have hc:Qa (Hu a b=0):=⟨by unfold Hu;rw[if_neg h1,if_neg h2]⟩
   have t1:decide (a<b)=false:=decide_eq_false h1;have t2:decide (b<a)=false:=decide_eq_false h2;clear h1 h2;go_enter Tryz.func219,Tryz.ntmps219;go_wp2_with (first|(go_at_call 232;refine(K9 _ _).mono ?_;rintro e w' ⟨rfl,rfl⟩));go_ret;exact⟨by rw[hc.out];rfl,hb⟩
theorem Pb (A B:Option Addr) (c1 c2:Nat) (a b:List Int) (w:World) (hr:(Kd.int .i64).C w A a.length a) (hr2:(Kd.int .i64).C w B b.length b) (h1:a.length<=1000000) (h2:b.length<=1000000):
  Calls Tryz.prog 190 #[.slice A a.length c1,.slice B b.length c2] w fun e w'=>e= .returned (.int .i64 (cmpL a b))/\Below w.heap.size w w':=by
 have HA:=Qa.mk hr;have HB:=Qa.mk hr2;have haI:(a.length:Int)<=1000000:=(by omega);have hbI:(b.length:Int)<=1000000:=(by omega);obtain⟨R,hR⟩: ∃R,R=cmpL a b:=⟨_,rfl⟩;rw[<-hR];replace hR:=Qa.mk hR;clear hr hr2 h1 h2;go_enter Tryz.func190,Tryz.ntmps190;go_wp2;go_loopw [11] (fun i wr=> ∃k:Nat,i= .int .i64 k/\k<=a.length/\k<=b.length/\Qa (R=cmpL (a.drop k) (b.drop k))/\Below w.heap.size w wr) (fun i _=>a.length-(intOf i).toNat)
 case atStart=>exact⟨0,rfl,by omega,by omega,⟨by rw[hR.out];rfl⟩,Below.refl _ _⟩
 case round=>
  obtain⟨k,rfl,hk,hk2,hz,hb⟩:=hrel;by_cases hlt:k<a.length
  ·have hkI:(k:Int)<(a.length:Int):=by omega
   obtain⟨ad,rfl,hcell⟩:=Qq HA.out hb hlt;by_cases hlt2:k<b.length
   ·have hkI2:(k:Int)<(b.length:Int):=by omega
    obtain⟨bd,rfl,hcell2⟩:=Qq HB.out hb hlt2;have hz2:=hz.out;rw[Pm a k hlt,Pm b k hlt2] at hz2;obtain⟨x,hx⟩: ∃x,x=rd a k:=⟨_,rfl⟩;obtain⟨y,hy⟩: ∃y,y=rd b k:=⟨_,rfl⟩;rw[<-hx] at hcell hz2;rw[<-hy] at hcell2 hz2;have HC:=Qa.mk (fun W=>N7 x y W)
    have hst:(Hu x y≠0->R=Hu x y)/\(Hu x y=0->R=cmpL (a.drop (k+1)) (b.drop (k+1))):=by
     rw[hz2,Qdt];unfold Hu;by_cases q1:x<y
     ·simp[q1]
     ·by_cases q2:y<x
      ·simp[q1,q2]
      ·simp[q1,q2]
    obtain⟨c,hc⟩: ∃c,c=Hu x y:=⟨_,rfl⟩;rw[<-hc] at HC hst;clear hz2 hx hy hc hz;have hT:=Qa.mk (And.intro hlt hlt2);have hbk:=Qa.mk hb;clear hb hk hk2 hlt hlt2;by_cases hc0:c=0
    ·have hst2:=Qa.mk (hst.2 hc0)
     subst hc0;clear hst;have hbz:=hbk.out;go_wp2_with (first|(go_at_call 219;refine(HC.out _).mono ?_;rintro e w' ⟨rfl,hbn⟩;replace hbz:=bnx hbz hbn;clear hbn));go_roundw
     case rel=>exact⟨k+1,by go_num,hT.out.1,hT.out.2,hst2,hbz⟩
     case measure=>have:=hT.out;simp[intOf];omega
    ·have hst1:=Qa.mk (hst.1 hc0)
     have hcn:(c != 0)=true:=bne_iff_ne.2 hc0;clear hst hc0;have hbz:=hbk.out;go_wp2_with (first|(go_at_call 219;refine(HC.out _).mono ?_;rintro e w' ⟨rfl,hbn⟩;replace hbz:=bnx hbz hbn;clear hbn));go_ret;exact⟨by rw[hst1.out];rfl,hbz⟩
   ·have hr1:Qa (R=1):=⟨by rw[hz.out,Pm a k hlt,show b.drop k=[] from List.drop_of_length_le (by omega),cmpL_cn]⟩
    have hge:(b.length:Int)<=(k:Int):=(by omega);clear hlt2 hz;go_wp2;go_ret;exact⟨by rw[hr1.out];rfl,hb⟩
  ·obtain rfl:k=a.length:=by omega
   by_cases hlt2:a.length<b.length
   ·have hr1:Qa (R= -1):=⟨by rw[hz.out,List.drop_length,Pm b _ hlt2,cmpL_nc]⟩
    have hge:(a.length:Int)<(b.length:Int):=(by omega);clear hlt2 hz;go_wp2;go_ret;exact⟨by rw[hr1.out];rfl,hb⟩
   ·have hr1:Qa (R=0):=⟨by rw[hz.out,List.drop_length,show b.drop a.length=[] from List.drop_of_length_le (by omega)];rfl⟩
    have hge:decide (a.length<b.length)=false:=decide_eq_false (by omega);clear hlt2 hz;go_wp2;go_ret;exact⟨by rw[hr1.out];rfl,hb⟩
end Sec

namespace Q16
attribute [local go_sem] Qi Qj Qk Ql Qg Qh
open Q15 Runs Go.Shelf
attribute [local go_sem] Oper.semAt_some
abbrev KL:Kd (List Int):=Kd.slice 3 (Kd.int .i64)
def Ed (g:Nat) (fs cs:Array Value) (a:Addr) (l:List Int) (w:World) (k:Nat) (r:List Int):Prop:=
 ∀W,Below w.heap.size w W->Calls Tryz.prog g (fs++encB a l k++cs) W fun e w'=> ∃v,e= .returned v/\(Kd.int .i64).R 3 w' W.heap.size (fun _=>True) v r/\Below W.heap.size W w'
theorem Xr:(Tryz.prog.info? 22).map (fun i=>(i.zero,i.size,i.bytes))=some (some (.slice none 0 0),1,24):=by kernel_rfl
theorem F4 (g:Nat) (fs cs:Array Value) (eg:Q15.Enters g) (a:Addr) (c0:Nat) (A1:Option Addr) (cap:Nat) (l:List Int) (hl:isW l=true) (hc0:128<=c0) (hc9:c0<=9223372036854775807) (r:Nat->List Int)
  (w:World) (hr:(Kd.int .i64).C w A1 l.length l) (hof: ∀k,k<l.length->Ed g fs cs a l w k (r k)):
  Calls Tryz.prog 59 #[.slice (some a) 128 c0,.slice A1 l.length cap,.func (.func g) fs cs] w fun e w'=> ∃v,e= .returned v/\KL.R 22 w' w.heap.size (fun _=>True) v ((List.range l.length).map r)/\Below w.heap.size w w':=by
 obtain⟨W2,hW2⟩: ∃W2,W2=(w.alloc (.cells #[.func (.func g) fs cs] 82)).alloc (.cells #[.slice none 0 0] 24):=⟨_,rfl⟩;have hB2:Below w.heap.size w W2:=(by rw[hW2];exact((Below.refl _ _).alloc (Nat.le_refl _) _).alloc (by simp) _);have a0:W2.cell? ⟨w.heap.size,0,none⟩=some (.func (.func g) fs cs):=(by rw[hW2];go_simp);have a1:W2.cell? ⟨w.heap.size+1,0,none⟩=some (.slice none 0 0):=(by rw[hW2];go_simp);have f1:W2.frozen? ⟨w.heap.size+1,0,none⟩=false:=(by rw[hW2];go_simp);have s2:w.heap.size+2<=W2.heap.size:=(by rw[hW2];simp);have hOF:=Qa.mk hof;have hR1:=Qa.mk hr;have hL:=Qa.mk hl;have hll:(l.length:Int)<=32:=(by have:=(Q0.1 hl).2.2;omega);clear hof hr hl;unfold Q15.Enters at eg;refine(callsIn_wide (n:=3)).1 ?_;refine callsIn_of_wp_marks Tryz.func59 rfl trivial ?_ rfl;simp only[Tryz.ntmps59,List.size_toArray,List.length_cons,List.length_nil,Nat.reduceAdd,Nat.reduceSub,Array.replicate_succ,Array.replicate_zero,List.push_toArray,List.append_toArray,List.nil_append,List.cons_append];gi_wp2_with fail;rw[<-hW2];clear hW2;refine⟨trivial,(callsIn_wide.2 (Qal (some a) A1 128 c0 l.length cap W2)).mono ?_⟩;rintro e W3 ⟨rfl,hw3⟩;have hb3:Below W2.heap.size W2 W3:=(by rw[hw3];exact((Below.refl _ _).alloc (Nat.le_refl _) _).alloc (by simp) _);have d1:W3.cell? ⟨W2.heap.size,0,none⟩=some (.slice (some a) 128 c0):=(by rw[hw3];go_simp);have d2:W3.cell? ⟨W2.heap.size+1,0,none⟩=some (.slice A1 l.length cap):=(by rw[hw3];go_simp);have g1:W3.frozen? ⟨W2.heap.size,0,none⟩=false:=(by rw[hw3];go_simp);have s3:W2.heap.size+2<=W3.heap.size:=(by rw[hw3];simp);have hB3:=bnx hB2 hb3;clear hw3;gi_wp2_with fail;have hmo:Tryz.prog.follows .mixedOrders =true:=by kernel_rfl
 refine Mo rfl (by omega) (gf:=156) (lb:= #[.pointer (some ⟨W2.heap.size+1,0,none⟩),.pointer (some ⟨W2.heap.size,0,none⟩)]) rfl trivial (enters_of Tryz.func156 (by kernel_rfl) rfl)
  (Qak Fence.wide _ trivial rfl (by omega) (W2.heap.size+1) W2.heap.size a c0 A1 cap l hL.out hc0 hc9 w W3 hR1.out hB3 (by omega) (by omega) (by omega) (by omega) (by omega) d2 d1 g1) (by omega)
  (fun h k=>h.trans k) (fun W l' o o' hl'=>Xj.putObj (N:=W3.heap.size) (by omega) (by omega) (by omega) W l' o o' hl') (Below.refl _ _) (fun _=>rfl)
  (fun k W=>W.cell? ⟨w.heap.size,0,none⟩=some (.func (.func g) fs cs)/\W.frozen? ⟨w.heap.size+1,0,none⟩=false/\(∃v,W.cell? ⟨w.heap.size+1,0,none⟩=some v/\KL.R 22 W W3.heap.size (fun _=>True) v ((List.range k).map r))/\Below w.heap.size w W/\W3.heap.size<=W.heap.size)
  ?own ?cell ?start
  (fun k=>{tmps:= #[.slice (some a) 128 c0,.slice A1 l.length cap,.func (.func g) fs cs,undef,undef,.pointer (some ⟨w.heap.size,0,none⟩),.slice none 0 0,.pointer (some ⟨w.heap.size+1,0,none⟩),.int .i64 k,.slice (some (a.add (off l k))) (wd l k) (wd l k),.slice (some a) 128 c0,.slice A1 l.length cap,.func (.func 156) #[] #[.pointer (some ⟨W2.heap.size+1,0,none⟩),.pointer (some ⟨W2.heap.size,0,none⟩)],.int .i64 k,.slice (some (a.add (off l k))) (wd l k) (wd l k),undef,undef,undef,undef,undef,undef,undef,undef],defers:=[]}) ?assign ?body ?done
 case own=>
  rintro k W W' row ⟨e0,e1,⟨v,e2,e3⟩,e4,e5⟩ hg hrow;exact⟨cell_kept e0 hg (fun r e=>(hrow r e).2),(frozen_kept e2 hg (fun r e=>(hrow r e).2)).trans e1,⟨v,cell_kept e2 hg (fun r e=>(hrow r e).2),Yf e3 hg (fun r e=>(hrow r e).2)⟩,e4.grown hg e4.size (fun r e=>by have:=(hrow r e).1;omega),Nat.le_trans e5 hg.size⟩
 case cell=>
  rintro k W v ⟨e0,e1,⟨u,e2,e3⟩,e4,e5⟩;exact⟨(World.cell?_setCell_far _ _ _ _ (by simp;omega)).trans e0,by simpa using e1,⟨u,(World.cell?_setCell_far _ _ _ _ (by simp;omega)).trans e2,X5 e3 (by simp;omega) _⟩,e4.setCell (by simp;omega) _,by simpa using e5⟩
 case start=>exact⟨cnx a0 hb3,(hb3.frozen (p:=⟨w.heap.size+1,0,none⟩) (by simp;omega)).trans f1,⟨_,cnx a1 hb3,Kd.Xd _ _ _ _ _⟩,hB3,Nat.le_refl _⟩
 case assign=>
  intro l' k W K _ hK;unfold encB;gi_wp2;exact hK
 case body=>
  rintro L k W ⟨e0,e1,⟨v,e2,e3⟩,e4,e5⟩ hk;have hF:=hOF.out k hk;unfold Ed encB at hF;obtain⟨o,ho⟩: ∃o,o=a.add (off l k):=⟨_,rfl⟩;obtain⟨d,hd⟩: ∃d,d=wd l k:=⟨_,rfl⟩;rw[<-ho,<-hd] at hF ⊢;replace hF:=Qa.mk hF;replace ho:=Qa.mk ho;replace hd:=Qa.mk hd;gi_wp2_with fail;refine Held.Zm (fun w'=>w'.cell? ⟨w.heap.size,0,none⟩=some (.func (.func g) fs cs)/\w'.cell? ⟨w.heap.size+1,0,none⟩=some v/\Below W3.heap.size W w') [7] hmo (by kernel_rfl) (fun⟨_,_,h⟩=>h) ⟨e0,e2,(Below.refl _ _).drew⟩ (fun hHeld=> ?_)
  (refine Tk.tl 0 (v) hHeld ?_)
  (refine Tk.tl 1 (.func (.func g) fs cs) hHeld ?_)
  (refine Tk.tl 2 (.int .i64 k) hHeld ?_)
  (refine Tk.tl 3 (.slice (some o) d d) hHeld ?_)
  (refine Qd (rs:=[4]) (by kernel_rfl) (by simp) ?_;refine Qc.cons rfl (by decide) (fun K hK=> ?_) Qc.nil)
  go_simp;simp only[Array.append_assoc] at hF;have hbd:Below W.heap.size W W.drew:=(Below.refl _ _).drew;refine(hF.out _ (bnx e4 hbd)).mono ?_;rintro e w1 ⟨x,rfl,hx,hb1⟩;have hxM:KL.M w1 W3.heap.size (fun k=>W.drew.heap.size<=k) (r k) [x]:=⟨x,rfl,Kd.Zo (Kd.Z5 (Kd.Q9 hx) (fun k hk=>hk.2.1)) (Nat.le_trans e5 hbd.size)⟩;obtain⟨A5,p5,rfl,_,_⟩:=Kd.Qu hx;have hbw:=bnx hbd hb1;have hbw3:Below W3.heap.size W w1:=hbw.mono e5
  (go_wp2_with fail;refine hK.out _ _ (⟨cnx e0 hbw,cnx e2 hbw,hbw3⟩) (fun hHeld=> ?_);clear hK K;try simp only[Act.put,Tk.z1,Tk.z2,Tk.z3,Tk.z4,Tk.z5,Tk.z6])
  have hR:=Kd.Qw e3 hbw
  (refine Qd (rs:=[5]) (by kernel_rfl) (by simp) ?_;refine Qc.cons rfl (by decide) (fun K hK=> ?_) Qc.nil)
  go_simp
  (go_wp2_with fail;refine hK.out _ _ (⟨X3 _ hHeld.1,X3 _ hHeld.2.1,hbw3.alloc (Nat.le_trans e5 hbw.size) _⟩) (fun hHeld=> ?_);clear hK K;try simp only[Act.put,Tk.z1,Tk.z2,Tk.z3,Tk.z4,Tk.z5,Tk.z6])
  (refine Qd (rs:=[6]) (by kernel_rfl) (by simp) ?_;refine Qc.cons rfl (by decide) (fun K hK=> ?_) Qc.nil)
  refine Kd.Tc KL (w0:=W) W3.heap.size rfl (.tmp 15) (.tmp 20) 24 22 (.slice none 0 0) 24 rfl Tryz.underlying24 Xr rfl (by decide) (by decide) v ((List.range k).map r) (r k) [.slice A5 (r k).length p5] (fun _=>True) (fun k=>W.drew.heap.size<=k) rfl rfl hxM (fun j hj=>⟨trivial,fun e=>by have:=((Kd.Q9 e3).1 j e.symm).2.2.1;have:=hbd.size;omega⟩) (fun _ _=>trivial) hR hbw3 (Nat.le_trans e5 hbw.size) (by simp;omega) ?_;intro v1 w2 hR2 hB2' hg2 hat2;have p0:=(hB2'.cell (p:=⟨w.heap.size,0,none⟩) (by simp;omega)).trans e0;have p1:=(hB2'.cell (p:=⟨w.heap.size+1,0,none⟩) (by simp;omega)).trans e2;have p2:=(hB2'.frozen (p:=⟨w.heap.size+1,0,none⟩) (by simp;omega)).trans e1
  (go_wp2_with fail;refine hK.out _ _ (⟨p0,p1,hB2'⟩) (fun hHeld=> ?_);clear hK K;try simp only[Act.put,Tk.z1,Tk.z2,Tk.z3,Tk.z4,Tk.z5,Tk.z6])
  have hko:=(Zr hbw).trans (Qd5 hR hg2);obtain⟨A4,p4,rfl,_,_⟩:=Kd.Qu hR2
  (refine Qd (rs:=[7]) (by kernel_rfl) (by simp) ?_;refine Qc.Zp rfl (by decide) (fun K hK=> ?_) Qc.nil)
  go_simp;go_wp2_with fail;refine hK.out _ _ ?_;clear hK K;refine Qo (by kernel_rfl) ?_ _;have hBw:Below w.heap.size W w2:=hB2'.mono (by omega);have hsz:W3.heap.size<=w2.heap.size:=Nat.le_trans e5 hB2'.size
  refine⟨(hko.trans (KeepsOthers.setCell _ _ _)).from _,⟨hBw.setCell (by simp) _,(Xh _ _ (by omega)).trans (hB2'.block _ (by omega)),(Xh _ _ (by omega)).trans (hB2'.block _ (by omega))⟩,
   (World.cell?_setCell_far _ _ _ _ (by simp)).trans p0,by simpa using p2,⟨_,World.cell?_setCell_same' _ _ _ (by rw[p1];rfl),?_⟩,(e4.trans hBw).setCell (by simp) _,by simpa using hsz⟩
  rw[List.range_succ,List.map_append];simp only[List.length_append,List.length_map,List.length_range,List.length_cons,List.length_nil,Nat.zero_add] at hR2;exact X5 (p:=⟨w.heap.size+1,0,none⟩) hR2 (show w.heap.size+1<W3.heap.size by omega) _
 case done=>
  rintro D W hD ⟨e0,e1,⟨v,e2,e3⟩,e4,e5⟩ hK;have hgD:=grownBy_putObj' W D (.deferred none);have hrD: ∀r,some D=some r-> ∃o:Obj,W.heap[r]? =some o/\o.isCells=false:=fun r e=>by cases e;exact⟨_,hK,rfl⟩
  have hR9:=Kd.Zo (base':=w.heap.size) (Yf e3 hgD hrD) (by omega);have hB9:Below w.heap.size w (W.putObj D (.deferred none)):=e4.grown hgD e4.size (fun r e=>by cases e;omega);obtain⟨A4,p4,rfl,_,_⟩:=Kd.Qu e3;gi_wp2;refine⟨by simp,.inl ⟨_,_,rfl,run_takeDeferred hK,?_⟩⟩;rw[List.length_map,List.length_range] at hR9;exact⟨.slice A4 l.length p4,by simp[results,Tryz.f59,go_sem],_,rfl,hR9,hB9⟩
end Q16

namespace Q15
attribute [local go_sem] Qi Qj Qk Ql Qg Qh
def Yq (l:List Int) (s:Int):List Int:=if chk isC l s=0 then l.map fun c=>sg c (qn (Jj s) (Yh c)) else[]
def Xc (l:List Int) (s:Int):List Int:=if chk isQ l s=0 then l.map fun q=>sg q (V (Jj s) (Yh q)) else[]
section
variable (A:Option Addr) (cap:Nat) (l:List Int) (s limit:Int) (w:World) (hr:(Kd.int .i64).C w A l.length l)
include hr
theorem Py:Calls Tryz.prog 61 #[.slice A l.length cap,.int .i64 s] w fun e w'=> ∃v,e= .returned (.tuple #[v,.int .i64 (chk isC l s)])/\(Kd.int .i64).R 3 w' w.heap.size (fun _=>True) v (Yq l s)/\Below w.heap.size w w':=by
 unfold Yq;by_cases hk:chk isC l s=0
 ·rw[if_pos hk,hk];exact Ve A cap l s w hr hk
 ·rw[if_neg hk];exact(Ov A cap l s w hr hk).mono fun e w' ⟨he,hb⟩=>⟨_,he,Kd.Xd _ _ _ _ _,hb⟩
theorem Ei:Calls Tryz.prog 70 #[.slice A l.length cap,.int .i64 s] w fun e w'=> ∃v,e= .returned (.tuple #[v,.int .i64 (chk isQ l s)])/\(Kd.int .i64).R 3 w' w.heap.size (fun _=>True) v (Xc l s)/\Below w.heap.size w w':=by
 unfold Xc;by_cases hk:chk isQ l s=0
 ·rw[if_pos hk,hk];exact Tx A cap l s w hr hk
 ·rw[if_neg hk];exact(Qdk A cap l s w hr hk).mono fun e w' ⟨he,hb⟩=>⟨_,he,Kd.Xd _ _ _ _ _,hb⟩
end
theorem Qb6 (l:List Int) (s:Int):(Yq l s).length <=128:=by
 unfold Yq
 split
 ·rename_i h;rw[List.length_map];exact(K3 h).2.1
 ·simp
theorem Qa9 (l:List Int) (s:Int):(Xc l s).length <=128:=by
 unfold Xc
 split
 ·rename_i h;rw[List.length_map];exact(K3 h).2.1
 ·simp
end Q15

end Go.Proofs.YtnflnicdjioflaaGreatDoor
