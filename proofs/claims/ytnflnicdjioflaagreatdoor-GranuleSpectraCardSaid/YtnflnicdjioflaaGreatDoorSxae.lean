/- A part of the proof. -/
import Derived.Test.YtnflnicdjioflaaGreatDoorSxad
import Derived.Test.YtnflnicdjioflaaGreatDoorSxab
import Derived.RangeFuncBound
import Derived.Shelf.Abstract
import Derived.Shelf.RegionOpen
import Derived.OwnWalkIn
import Derived.TacticsInMore
import Derived.LoopNIn
import Derived.LoopIn
set_option linter.unusedVariables false
set_option linter.unusedSimpArgs false
set_option maxRecDepth 100000
set_option maxHeartbeats 8000000
namespace Go.Proofs.YtnflnicdjioflaaGreatDoor
open Go.RowKit Go.Proofs.YtnflnicdjioflaaGreatDoorW.PrintWords Go.Proofs.YtnflnicdjioflaaGreatDoorW.PrintLast Go.Proofs.YtnflnicdjioflaaGreatDoorW.PrintMore
namespace Q21
attribute [local go_sem] Qh Qi Qk Ql Qd Qe
open Q15
theorem R_lit0 {α:Type} (enc:α->Value) (h1: ∀x,(enc x).oneCell' =true) (w:World) (e:Nat):(Kd.scalar enc h1).R e (w.alloc (.cells #[] e)) w.heap.size (fun _=>True) (.slice (some ⟨w.heap.size,0,none⟩) 0 0) []:=
 Kd.Js (World.ownsRow_made w #[] 0 (Nat.le_refl _) (by decide) (by simp)) (fun _ _=>trivial)
theorem Km (A:Option Addr) (cap:Nat) (l:List Int) (w:World) (hr:(Kd.int .i64).C w A l.length l) (hl:l.length<=1000000):
  Calls Tryz.prog 28 #[.slice A l.length cap] w fun e w'=> ∃v,e= .returned v/\(Kd.int .i64).R 3 w' w.heap.size (fun _=>True) v l/\Below w.heap.size w w':=by
 have hb:=Below.refl w.heap.size w
 cases A with
 |none=>
  have h0:l=[]:=by
   obtain⟨_,_,h⟩:=hr;rcases Nat.eq_zero_or_pos l.length with h1|h1
   ·exact List.length_eq_zero_iff.1 h1
   ·obtain⟨a,e,_⟩:=h h1
    cases e
  subst h0;have q22: ∀(w:World) (a:Option Addr) (n c n' c':Nat),(binOp .eql 22 (.slice a n c) (.slice none n' c')).run Tryz.prog w= .ok (.bool a.isNone) w:=fun w a n c n' c'=>Lib.run_eql_slice_nil w _ _ a n c n' c' Tryz.underlying22
  clear hr hl;go_enter Tryz.func28,Tryz.ntmps28;go_wp2;go_ret;exact⟨_,rfl,Kd.Zx _ _ _ _ _,hb⟩
 |some a=>
  have HR:=Qa.mk (Kd.Qf hr ((Below.refl w.heap.size w).alloc (Nat.le_refl _) (.cells #[] 3)));have HO:=Qa.mk (R_lit0 (Value.int .i64) (fun _=>rfl) w 3);have HB:=Qa.mk ((Below.refl w.heap.size w).alloc (Nat.le_refl _) (.cells #[] 3));have q22: ∀(w:World) (a:Option Addr) (n c n' c':Nat),(binOp .eql 22 (.slice a n c) (.slice none n' c')).run Tryz.prog w= .ok (.bool a.isNone) w:=fun w a n c n' c'=>Lib.run_eql_slice_nil w _ _ a n c n' c' Tryz.underlying22
  have hlen:Qa ((([]:List Int).length +l.length)*8<=140737488355328):=⟨by simp;omega⟩;clear hr hl;go_enter Tryz.func28,Tryz.ntmps28;go_wp2_with (at_builtin;refine Kd.X8 (Kd.int .i64) (Rr:=(Kd.int .i64).K (w.alloc (.cells #[] 3))) (w0:=w) w.heap.size rfl (.tmp 5) (.tmp 6) 22 3 (.int .i64 0) 8 rfl Tryz.underlying22 Qw rfl (by decide) (by decide) (.slice (some ⟨w.heap.size,0,none⟩) 0 0) [] l (some a) l.length cap (fun _=>True) (fun _=>False) rfl rfl HO.out HR.out (fun _ _ h=>h) (fun _ h=>h.elim) (fun _ _=>trivial) HB.out HB.out.size hlen.out ?_;intro v1 wA hoA hbA hgA hatA;have HOA:=Qa.mk hoA;have HBA:=Qa.mk hbA;clear hoA hgA hatA hbA);go_ret;exact⟨_,rfl,HOA.out,HBA.out⟩
theorem Du:(Tryz.prog.info? 4).map (fun i=>(i.zero,i.size,i.bytes))=some (some (.bool false),1,1):=by kernel_rfl
end Q21

namespace Q21
attribute [local go_sem] Qh Qi Qk Ql Qd Qe
open Q15
def Xk:List Int:=[4,4,4,4,4,4,4,8,8,8,12,12,16,16,20]
def Y9:List Int:=[2,2,4,8]
def Qm (sh:Bool) (g:List Int):List Int:=if sh then(g.map fun n=>[n*2,n*2,n*4,n*8]).flatten else Xk
structure Laid (w:World):Prop where
 longs:(Kd.int .i64).C w (some ⟨0,0,none⟩) 15 Xk
 shorts:(Kd.int .i64).C w (some ⟨1,0,none⟩) 4 Y9
theorem Laid.below {w w1:World} (h:Laid w) (hb:Below w.heap.size w w1):Laid w1:=⟨Kd.Qf h.longs hb,Kd.Qf h.shorts hb⟩
theorem Laid.short {w:World} (h:Laid w):w.cell? ⟨1,0,none⟩=some (.int .i64 2)/\w.cell? ⟨1,1,none⟩=some (.int .i64 2)/\w.cell? ⟨1,2,none⟩=some (.int .i64 4)/\w.cell? ⟨1,3,none⟩=some (.int .i64 8):=by
 have h2: ∀(k:Nat),k<4->w.cell? ((⟨1,0,none⟩:Addr).add k)=some (.int .i64 (rd Y9 k)):=fun k hk=>by
  obtain⟨ad,e,h3⟩:=Qn (w1:=w) (l:=Y9) h.shorts (Below.refl _ _) (k:=k) hk;cases e;exact h3
 exact⟨h2 0 (by decide),h2 1 (by decide),h2 2 (by decide),h2 3 (by decide)⟩
theorem Ob (sh:Bool) (A:Option Addr) (cap:Nat) (g:List Int) (w:World) (hL:Laid w) (hr:(Kd.int .i64).C w A g.length g) (hg:g.length<=8) (hn: ∀n∈g,1<=n/\n<=8):
  Calls Tryz.prog 95 #[.bool sh,.slice A g.length cap] w fun e w'=> ∃A p,e= .returned (.slice A (Qm sh g).length p)/\(Kd.int .i64).C w' A (Qm sh g).length (Qm sh g)/\Below w.heap.size w w':=by
 have hb:=Below.refl w.heap.size w
 cases sh with
 |false=>
  have HC:=Qa.mk hL.longs;clear hr hL hn hg;go_enter Tryz.func95,Tryz.ntmps95;go_wp2;go_ret;exact⟨_,_,rfl,HC.out,hb⟩
 |true=>
  have HR:=Qa.mk hr;have HL:=Qa.mk hL;have HN:=Qa.mk (fun k (hk:k<g.length)=>hn _ (Qp g k hk));have hgI:(g.length:Int)<=8:=(by omega);have x0: ∀w,(Instr.index 172 (.agg #[.int .i64 2,.int .i64 2,.int .i64 4,.int .i64 8]) (.int .i64 0)).run Tryz.prog w= .ok (.int .i64 2) w:=fun _=>by kernel_rfl
  have x1: ∀w,(Instr.index 172 (.agg #[.int .i64 2,.int .i64 2,.int .i64 4,.int .i64 8]) (.int .i64 1)).run Tryz.prog w= .ok (.int .i64 2) w:=fun _=>by kernel_rfl
  have x2: ∀w,(Instr.index 172 (.agg #[.int .i64 2,.int .i64 2,.int .i64 4,.int .i64 8]) (.int .i64 2)).run Tryz.prog w= .ok (.int .i64 4) w:=fun _=>by kernel_rfl
  have x3: ∀w,(Instr.index 172 (.agg #[.int .i64 2,.int .i64 2,.int .i64 4,.int .i64 8]) (.int .i64 3)).run Tryz.prog w= .ok (.int .i64 8) w:=fun _=>by kernel_rfl
  clear hr hL hn hg;go_enter Tryz.func95,Tryz.ntmps95;go_wp2;go_loopw [5,15] (fun o i wr=> ∃k:Nat,i= .int .i64 k/\k<=g.length/\Qa ((Kd.int .i64).R 3 wr w.heap.size (fun _=>True) o (Qm true (g.take k)))/\Qa (Below w.heap.size w wr)) (fun _ i _=>g.length-(intOf i).toNat)
  case atStart=>exact⟨0,rfl,by omega,⟨Kd.Zx _ _ _ _ _⟩,⟨hb⟩⟩
  case round=>
   obtain⟨k,rfl,hk,ho,hbL⟩:=hrel;by_cases hlt:k<g.length
   ·obtain⟨ad,rfl,hcell⟩:=Qn HR.out hbL.out hlt
    have hkI:(k:Int)<(g.length:Int):=(by omega);have hnb:=HN.out k hlt
    have hT:Qm true (g.take (k+1))=Qm true (g.take k)++[rd g k*2,rd g k*2,rd g k*4,rd g k*8]:=by
     unfold Qm;rw[if_pos rfl,if_pos rfl,Qu g k hlt,List.map_append,List.flatten_append];simp
    obtain⟨s0,s1,s2,s3⟩:=(HL.out.below hbL.out).short;obtain⟨n,hx⟩: ∃n,n=rd g k:=⟨_,rfl⟩;rw[<-hx] at hcell hnb hT;replace hT:=Qa.mk hT;clear hx;obtain⟨y,hy⟩: ∃y,y=Qm true (g.take k):=⟨_,rfl⟩
    have hyl:y.length<=32:=by
     rw[hy];unfold Qm;rw[if_pos rfl]
     have: ∀l:List Int,((l.map fun n=>[n*2,n*2,n*4,n*8]).flatten).length =l.length*4:=fun l=>by
      induction l with
      |nil=>rfl
      |cons a t ih=>rw[List.map_cons,List.flatten_cons,List.length_append,ih];simp;omega
     rw[this,List.length_take];omega
    rw[<-hy] at ho hT;have a0:(y.length+1)*8<=140737488355328:=(by omega);have a1:((y++[n*2]).length +1)*8<=140737488355328:=(by simp;omega);have a2:((y++[n*2]++[n*2]).length +1)*8<=140737488355328:=(by simp;omega);have a3:((y++[n*2]++[n*2]++[n*4]).length +1)*8<=140737488355328:=(by simp;omega);replace a0:=Qa.mk a0;replace a1:=Qa.mk a1;replace a2:=Qa.mk a2;replace a3:=Qa.mk a3;clear hyl hy;go_wp2_with fail;refine wp_loop_rounds 5 ?_;rw[rounds_succ];go_wp2_with (first|(at_builtin;refine Kd.Q3 (Kd.int .i64) (w0:=w) w.heap.size rfl (.tmp 23) (.tmp 27) 22 3 (.int .i64 0) 8 rfl Tryz.underlying22 Qw rfl (by decide) (by omega) u5 y ((n*2)) [.int .i64 ((n*2))] (fun _=>True) (fun _=>False) rfl rfl rfl (fun _ hk=>hk.elim) (fun _ _=>trivial) ho.out hbL.out hbL.out.size a0.out ?_;intro v1 wA hoA hbA hgA hatA;have HOA:=Qa.mk hoA;have HBA:=Qa.mk hbA;clear hoA hbA hgA hatA));rw[rounds_succ];go_wp2_with (first|(at_builtin;refine Kd.Q3 (Kd.int .i64) (w0:=w) w.heap.size rfl (.tmp 23) (.tmp 27) 22 3 (.int .i64 0) 8 rfl Tryz.underlying22 Qw rfl (by decide) (by omega) v1 (y++[n*2]) ((n*2)) [.int .i64 ((n*2))] (fun _=>True) (fun _=>False) rfl rfl rfl (fun _ hk=>hk.elim) (fun _ _=>trivial) HOA.out HBA.out HBA.out.size a1.out ?_;intro v1 wA hoA hbA hgA hatA;have HOA:=Qa.mk hoA;have HBA:=Qa.mk hbA;clear hoA hbA hgA hatA));rw[rounds_succ];go_wp2_with (first|(at_builtin;refine Kd.Q3 (Kd.int .i64) (w0:=w) w.heap.size rfl (.tmp 23) (.tmp 27) 22 3 (.int .i64 0) 8 rfl Tryz.underlying22 Qw rfl (by decide) (by omega) v1 (y++[n*2]++[n*2]) ((n*4)) [.int .i64 ((n*4))] (fun _=>True) (fun _=>False) rfl rfl rfl (fun _ hk=>hk.elim) (fun _ _=>trivial) HOA.out HBA.out HBA.out.size a2.out ?_;intro v1 wA hoA hbA hgA hatA;have HOA:=Qa.mk hoA;have HBA:=Qa.mk hbA;clear hoA hbA hgA hatA));rw[rounds_succ];go_wp2_with (first|(at_builtin;refine Kd.Q3 (Kd.int .i64) (w0:=w) w.heap.size rfl (.tmp 23) (.tmp 27) 22 3 (.int .i64 0) 8 rfl Tryz.underlying22 Qw rfl (by decide) (by omega) v1 (y++[n*2]++[n*2]++[n*4]) ((n*8)) [.int .i64 ((n*8))] (fun _=>True) (fun _=>False) rfl rfl rfl (fun _ hk=>hk.elim) (fun _ _=>trivial) HOA.out HBA.out HBA.out.size a3.out ?_;intro v1 wA hoA hbA hgA hatA;have HOA:=Qa.mk hoA;have HBA:=Qa.mk hbA;clear hoA hbA hgA hatA));rw[rounds_succ];go_wp2_with fail;go_roundw
    case rel=>exact⟨k+1,by go_num,by omega,⟨by rw[hT.out];simpa using HOA.out⟩,HBA⟩
    case measure=>simp[intOf];omega
   ·obtain rfl:k=g.length:=by omega
    have ho':=ho.out;rw[List.take_length] at ho';replace ho':=Qa.mk ho';clear ho;go_wp2;go_ret;obtain⟨B5,p5,rfl,_,hC⟩:=Kd.Qs ho'.out;exact⟨_,_,rfl,hC,hbL.out⟩
end Q21

namespace Q15
attribute [local go_sem] Qh Qi Qk Ql Qd Qe
theorem pow_rd (k:Nat):rd Zh k=P k:=by unfold rd P;rw[Int.toNat_natCast]
theorem Cu (w:World):
  Calls Tryz.prog 110 #[] w fun e w'=> ∃v:Value,e= .returned v/\(Kd.int .i64).R 3 w' w.heap.size (fun _=>True) v Zh/\Below w.heap.size w w':=by
 have hpl:=Gq;go_enter Tryz.func110,Tryz.ntmps110;go_wp2;go_loopw [1,3] (fun o i wr=> ∃k:Nat,i= .int .i64 k/\(k:Int)<=1024/\Qa ((Kd.int .i64).R 3 wr w.heap.size (fun _=>True) o (Zh.take k))/\Below w.heap.size w wr) (fun _ i _=>(1024-intOf i).toNat)
 case atStart=>exact⟨0,rfl,by omega,⟨Kd.Zx _ _ _ _ _⟩,Below.refl _ _⟩
 case round=>
  obtain⟨k,rfl,hk,ho,hb⟩:=hrel;by_cases hlt:(k:Int)<1024
  ·have HC:=fun w=>Av k w (by omega) (by omega)
   rw[show Xp (k:Int)=k by unfold Xp;omega,<-pow_rd] at HC;have HT:=Qa.mk (Qu Zh k (by omega));obtain⟨x,hx⟩: ∃x,x=rd Zh k:=⟨_,rfl⟩;rw[<-hx] at HC HT;obtain⟨y,hy⟩: ∃y,y=Zh.take k:=⟨_,rfl⟩;have hyl:y.length<=1099511627776:=(by rw[hy];simp;omega);rw[<-hy] at ho HT;replace HC:=Qa.mk HC;clear hx hy hpl;go_wp2_with (first|(go_at_call 165;refine(HC.out _).mono ?_;rintro e w' ⟨rfl,hb1⟩;have HO1:=Qa.mk (Kd.Q4 ho.out hb1);have HB1:=Qa.mk (bnx hb hb1);clear ho hb hb1)|(at_builtin;refine Kd.Q3 (Kd.int .i64) (w0:=w) w.heap.size rfl (.tmp 6) (.tmp 9) 22 3 (.int .i64 0) 8 rfl Tryz.underlying22 Qw rfl (by decide) (by omega) u1 y (x) [.int .i64 (x)] (fun _=>True) (fun _=>False) rfl rfl rfl (fun _ hk=>hk.elim) (fun _ _=>trivial) HO1.out HB1.out HB1.out.size (by omega) ?_;intro v1 wA hoA hbA hgA hatA;have HOA:=Qa.mk hoA;have HBA:=Qa.mk hbA;clear hoA hbA hgA hatA));go_roundw
   case rel=>exact⟨k+1,by go_num,by omega,⟨by rw[HT.out];exact HOA.out⟩,HBA.out⟩
   case measure=>simp[intOf];omega
  ·obtain rfl:k=1024:=by omega
   have e:Zh.take 1024=Zh:=List.take_of_length_le (by omega);rw[e] at ho;clear e;go_wp2;go_ret;exact⟨_,rfl,ho.out,hb⟩
end Q15

namespace Q15
attribute [local go_sem] Qh Qi Qk Ql Qd Qe
def within (m:Int) (n:Int):Bool:=decide (-m<=n/\n<=m)
theorem X5 (m:Int) (A:Option Addr) (cap:Nat) (l:List Int) (w:World) (hr:(Kd.int .i64).C w A l.length l) (hl:l.length<=1099511627776) (hm0:0<=m) (hm1:m<=1099511627776):
  Calls Tryz.prog 49 #[.int .i64 m,.slice A l.length cap] w fun e w'=>e= .returned (.bool (l.all (within m)))/\Below w.heap.size w w':=by
 have HR:=Qa.mk hr;clear hr;go_enter Tryz.func49,Tryz.ntmps49;go_wp2;go_loopw [9] (fun i wr=> ∃k:Nat,i= .int .i64 k/\k<=l.length/\Qa ((l.take k).all (within m)=true)/\Below w.heap.size w wr) (fun i _=>l.length-(intOf i).toNat)
 case atStart=>exact⟨0,rfl,by omega,⟨by simp⟩,Below.refl _ _⟩
 case round=>
  obtain⟨k,rfl,hk,ha,hb⟩:=hrel;by_cases hlt:k<l.length
  ·obtain⟨ad,rfl,hcell⟩:=Qn HR.out hb hlt
   have HT:=Qa.mk (Qu l k hlt);have HRD:=Qa.mk (Qp l k hlt);obtain⟨x,hx⟩: ∃x,x=rd l k:=⟨_,rfl⟩;rw[<-hx] at hcell HT HRD;clear hx;by_cases h1:x< -m
   ·have hno:=HRD.out
    have HE:Qa (l.all (within m)=false):=⟨List.all_eq_false.2 ⟨x,HRD.out,by unfold within;simp;omega⟩⟩;clear hno;go_wp2;go_ret;exact⟨by rw[HE.out];rfl,hb⟩
   ·by_cases h2:m<x
    ·have HE:Qa (l.all (within m)=false):=⟨List.all_eq_false.2 ⟨x,HRD.out,by unfold within;simp;omega⟩⟩
     go_wp2;go_ret;exact⟨by rw[HE.out];rfl,hb⟩
    ·have hd1:decide (x< -m)=false:=by simp;omega
     have hd2:decide (m<x)=false:=(by simp;omega);have HX:Qa (within m x=true):=⟨by unfold within;simp;omega⟩;go_wp2;go_roundw
     case rel=>exact⟨k+1,by go_num,by omega,⟨by rw[HT.out,List.all_append,ha.out];simp[HX.out]⟩,hb⟩
     case measure=>simp[intOf];omega
  ·obtain rfl:k=l.length:=by omega
   go_wp2;go_ret;refine⟨?_,hb⟩;have:=ha.out;rw[List.take_length] at this;rw[this];rfl
theorem Y4 (m:Int) (A:Option Addr) (cap:Nat) (l:List Int) (w:World) (hr:(Kd.int .i64).C w A l.length l) (hl:l.length<=1099511627776) (hm0:0<=m) (hm1:m<=1099511627776):
  Calls Tryz.prog 23 #[.int .i64 m,.slice A l.length cap] w fun e w'=>e= .returned (.bool (l.all (within m)))/\Below w.heap.size w w':=by
 have HW:=fun W hb=>X5 m A cap l W (Kd.Qf hr hb) hl hm0 hm1
 replace HW:=Qa.mk HW;clear hr;go_enter Tryz.func23,Tryz.ntmps23;go_wp2_with (first|(go_at_call 49;refine(HW.out _ (Below.refl _ _)).mono ?_;rintro e w' ⟨rfl,hb⟩));go_ret;exact⟨rfl,hb⟩
end Q15

namespace Q15
attribute [local go_sem] Qh Qi Qk Ql Qd Qe
theorem Px (A0 A1:Option Addr) (c0 c1:Nat) (l:List Int) (s:Int) (w:World) (hr0:(Kd.int .i64).C w A0 Zh.length Zh) (hr:(Kd.int .i64).C w A1 l.length l) (hl:l.length<=1099511627776) (hp: ∀n∈l,-1023<=n/\n<=1023) (h2:0<=s) (h3:s<=95):
  Calls Tryz.prog 129 #[.slice A0 Zh.length c0,.slice A1 l.length c1,.int .i64 s] w fun e w'=> ∃v,e= .returned v/\(Kd.int .i64).R 3 w' w.heap.size (fun _=>True) v (l.map fun q=>sg q (V (Yh s) (Xp q)))/\Below w.heap.size w w':=by
 have hs:=Nu h2 h3;have HS:=fun p w hp0 hp1=>Wm p s w hp0 hp1 h2 h3
 have hpl:=Gq;obtain⟨x,hx⟩: ∃x,x=Yh s:=⟨_,rfl⟩;rw[<-hx] at HS hs ⊢;have HR:=Qa.mk hr;have HR0:=Qa.mk hr0;have HP:=Qa.mk hp;replace HS:=Qa.mk HS;obtain⟨n0,hn0⟩: ∃n0,n0=Zh.length:=⟨_,rfl⟩;rw[<-hn0] at HR0 hpl ⊢;replace hpl:(1024:Int)<=n0:=(by omega);clear hx hr hr0 hp hn0;go_enter Tryz.func129,Tryz.ntmps129;go_wp2;go_loopw [7,13] (fun o i wr=> ∃k:Nat,i= .int .i64 k/\k<=l.length/\Qa ((Kd.int .i64).R 3 wr w.heap.size (fun _=>True) o ((l.take k).map fun q=>sg q (V x (Xp q))))/\Below w.heap.size w wr) (fun _ i _=>l.length-(intOf i).toNat)
 case atStart=>exact⟨0,rfl,by omega,⟨Kd.Zx _ _ _ _ _⟩,Below.refl _ _⟩
 case round=>
  obtain⟨k,rfl,hk,ho,hb⟩:=hrel;by_cases hlt:k<l.length
  ·obtain⟨ad,rfl,hcell⟩:=Qn HR.out hb hlt
   have hz:=HP.out _ (Qp l k hlt);have HT:=Qa.mk (Qu l k hlt);obtain⟨z,hx⟩: ∃z,z=rd l k:=⟨_,rfl⟩;rw[<-hx] at hcell hz HT;clear hx;have hm:0<=Xp z/\Xp z<=1023:=(by unfold Xp;omega);obtain⟨m,hme⟩: ∃m,m=Xp z:=⟨_,rfl⟩;have hdi:(z<0/\m= -z)\/(¬z<0/\m=z):=(by rw[hme];unfold Xp;omega);rw[<-hme] at hm;obtain⟨ad2,rfl,hcell2⟩:=Kd.Cz HR0.out m (by omega) (by omega);replace hcell2:=cnx hcell2 hb;have hrp:rd Zh m=P m:=rfl;rw[hrp] at hcell2;have hp:=P_bd m;have HC:=fun w=>HS.out (P m) w hp.1 hp.2
   rw[V_min] at HC;have hv:=V_bd (x:=x) m (by omega);have HV:Qa (sg z (V x (Xp z))=if z<0 then-V x m else V x m):=⟨by rw[hme];rfl⟩;obtain⟨p,hpe⟩: ∃p,p=P m:=⟨_,rfl⟩;obtain⟨v,hve⟩: ∃v,v=V x m:=⟨_,rfl⟩;rw[<-hpe] at hcell2 hp HC;rw[<-hve] at HC hv HV;replace HC:=Qa.mk HC;obtain⟨y,hy⟩: ∃y,y=(l.take k).map fun q=>sg q (V x (Xp q)):=⟨_,rfl⟩
   have hyl:y.length<=1099511627776:=(by rw[hy];simp;omega);rw[<-hy] at ho;have HY:=Qa.mk hy;clear hy hme hpe hve hrp;rcases hdi with ⟨hneg,rfl⟩|⟨hneg,rfl⟩
   ·replace HV:Qa (sg z (V x (Xp z))= -v):=⟨by rw[HV.out,if_pos hneg]⟩
    go_wp2_with (first|(go_at_call 177;refine(HC.out _).mono ?_;rintro e w' ⟨rfl,hb1⟩;have HO1:=Qa.mk (Kd.Q4 ho.out hb1);have HB1:=Qa.mk (bnx hb hb1);clear ho hb hb1)|(at_builtin;refine Kd.Q3 (Kd.int .i64) (w0:=w) w.heap.size rfl (.tmp 30) (.tmp 32) 22 3 (.int .i64 0) 8 rfl Tryz.underlying22 Qw rfl (by decide) (by omega) u7 y (-v) [.int .i64 (-v)] (fun _=>True) (fun _=>False) rfl rfl rfl (fun _ hk=>hk.elim) (fun _ _=>trivial) HO1.out HB1.out HB1.out.size (by omega) ?_;intro v1 wA hoA hbA hgA hatA;have HOA:=Qa.mk hoA;have HBA:=Qa.mk hbA;clear hoA hbA hgA hatA));go_roundw
    case rel=>exact⟨k+1,by go_num,by omega,⟨by rw[HT.out,List.map_append,<-HY.out,List.map_cons,List.map_nil,HV.out];exact HOA.out⟩,HBA.out⟩
    case measure=>simp[intOf];omega
   ·replace HV:Qa (sg m (V x (Xp m))=v):=⟨by rw[HV.out,if_neg hneg]⟩
    go_wp2_with (first|(go_at_call 177;refine(HC.out _).mono ?_;rintro e w' ⟨rfl,hb1⟩;have HO1:=Qa.mk (Kd.Q4 ho.out hb1);have HB1:=Qa.mk (bnx hb hb1);clear ho hb hb1)|(at_builtin;refine Kd.Q3 (Kd.int .i64) (w0:=w) w.heap.size rfl (.tmp 30) (.tmp 32) 22 3 (.int .i64 0) 8 rfl Tryz.underlying22 Qw rfl (by decide) (by omega) u7 y (v) [.int .i64 (v)] (fun _=>True) (fun _=>False) rfl rfl rfl (fun _ hk=>hk.elim) (fun _ _=>trivial) HO1.out HB1.out HB1.out.size (by omega) ?_;intro v1 wA hoA hbA hgA hatA;have HOA:=Qa.mk hoA;have HBA:=Qa.mk hbA;clear hoA hbA hgA hatA));go_roundw
    case rel=>exact⟨k+1,by go_num,by omega,⟨by rw[HT.out,List.map_append,<-HY.out,List.map_cons,List.map_nil,HV.out];exact HOA.out⟩,HBA.out⟩
    case measure=>simp[intOf];omega
  ·obtain rfl:k=l.length:=by omega
   rw[List.take_length] at ho;go_wp2;go_ret;exact⟨_,rfl,ho.out,hb⟩
end Q15

namespace Q15
attribute [local go_sem] Qh Qi Qk Ql Qd Qe
open Go.Shelf
attribute [local go_sem] Oper.semAt_some
theorem Xa {W:World} {a:Addr} {v:Value} (o:Obj) (h:W.cell? a=some v):(W.alloc o).cell? a=some v:=cnx h ((Below.refl _ _).alloc (Nat.le_refl _) o)
theorem Zq {W W':World} (h:Below W.heap.size W W'):KeepsOthers W W':=⟨h.size,fun k _ hk _=>(h.block k (Array.getElem?_eq_some_iff.1 hk).1).trans hk⟩
end Q15

namespace Q15
attribute [local go_sem] Qh Qi Qk Ql Qd Qe
theorem lit_C (l:List Int) (w:World) (t:TypeId) (hl:l.length<=9223372036854775807):(Kd.int .i64).C (w.alloc (.cells (l.map (Value.int .i64)).toArray t)) (some ⟨w.heap.size,0,none⟩) l.length l:=by
 refine⟨rfl,hl,fun _=>⟨_,rfl,fun j p hj=>⟨[.int .i64 p],rfl,rfl,fun i u hu=> ?_⟩⟩⟩
 have hi:i=0:=by
  rcases Nat.eq_zero_or_pos i with h|h
  ·exact h
  ·have:=(List.getElem?_eq_some_iff.1 hu).1
   simp at this;omega
 subst hi;have hu':u= .int .i64 p:=(by simpa using hu.symm);subst hu'
 have e:(⟨w.heap.size,0,none⟩:Addr).add (j*(Kd.int .i64).sz +0)=⟨w.heap.size,j,none⟩:=by
  show Addr.add _ (j*1+0)=_
  unfold Addr.add
  split<;>simp_all
 rw[e];unfold World.cell?;rw[heap_alloc_new];simp only[Option.isSome_none,Bool.false_eq_true,if_false,List.getElem?_toArray,List.getElem?_map,hj];rfl
end Q15

namespace Q21
attribute [local go_sem] Qh Qi Qk Ql Qd Qe
open Q15
theorem Bf {W wA:World} {v v1:Value} {b:Nat} (hg:W.grownBy wA v.ownBlock) (hat:v1.ownBlock=v.ownBlock\/ ∃b,v1.ownBlock=some b/\W.heap.size<=b) (hne:some b≠v.ownBlock) (hlt:b<W.heap.size):
  some b≠v1.ownBlock/\b<wA.heap.size/\ ∀j x,W.cell? ⟨b,j,none⟩=some x->wA.cell? ⟨b,j,none⟩=some x:=by
 refine⟨?_,Nat.lt_of_lt_of_le hlt hg.size,fun j x h=>hg.cell h hne⟩;rcases hat with h|⟨b2,h,h2⟩
 ·rw[h];exact hne
 ·rw[h]
  intro e
  injection e with e
  omega
theorem Qb0 (w:World):Calls Tryz.prog 107 #[] w fun e w'=> ∃A p,e= .returned (.slice A 15 p)/\(Kd.int .i64).C w' A 15 Xk/\Below w.heap.size w w':=by
 have hb:=(Below.refl w.heap.size w).alloc (Nat.le_refl _) (.cells (Xk.map (Value.int .i64)).toArray 3);have HC:=Qa.mk (lit_C Xk w 3 (by decide));go_enter Tryz.func107,Tryz.ntmps107;go_wp2;go_ret;exact⟨_,_,rfl,HC.out,hb⟩
theorem F9 (w:World):Calls Tryz.prog 108 #[] w fun e w'=>e= .returned (.slice (some ⟨w.heap.size,0,none⟩) 4 4)/\w.heap.size<w'.heap.size/\w'.cell? ⟨w.heap.size,0,none⟩=some (.int .i64 2)/\w'.cell? ⟨w.heap.size,1,none⟩=some (.int .i64 2)/\w'.cell? ⟨w.heap.size,2,none⟩=some (.int .i64 4)/\w'.cell? ⟨w.heap.size,3,none⟩=some (.int .i64 8)/\Below w.heap.size w w':=by
 have hb:=(Below.refl w.heap.size w).alloc (Nat.le_refl _) (.cells #[.int .i64 2,.int .i64 2,.int .i64 4,.int .i64 8] 3);have h0:(w.alloc (.cells #[.int .i64 2,.int .i64 2,.int .i64 4,.int .i64 8] 3)).cell? ⟨w.heap.size,0,none⟩=some (.int .i64 2):=(by go_simp);have h1:(w.alloc (.cells #[.int .i64 2,.int .i64 2,.int .i64 4,.int .i64 8] 3)).cell? ⟨w.heap.size,1,none⟩=some (.int .i64 2):=(by go_simp);have h2:(w.alloc (.cells #[.int .i64 2,.int .i64 2,.int .i64 4,.int .i64 8] 3)).cell? ⟨w.heap.size,2,none⟩=some (.int .i64 4):=(by go_simp);have h3:(w.alloc (.cells #[.int .i64 2,.int .i64 2,.int .i64 4,.int .i64 8] 3)).cell? ⟨w.heap.size,3,none⟩=some (.int .i64 8):=(by go_simp);replace hb:=Qa.mk hb;replace h0:=Qa.mk h0;replace h1:=Qa.mk h1;replace h2:=Qa.mk h2;replace h3:=Qa.mk h3;go_enter Tryz.func108,Tryz.ntmps108;go_wp2;go_ret;exact⟨rfl,by simp,h0.out,h1.out,h2.out,h3.out,hb.out⟩
theorem Hd (g:List Int):(Qm true g).length =g.length*4:=by
 unfold Qm;rw[if_pos rfl]
 induction g with
 |nil=>rfl
 |cons a t ih=>rw[List.map_cons,List.flatten_cons,List.length_append,ih];simp;omega
theorem Wx (g:List Int) (n:Int):Qm true (g++[n])=Qm true g++[n*2,n*2,n*4,n*8]:=by
 unfold Qm;rw[if_pos rfl,if_pos rfl,List.map_append,List.flatten_append];simp
theorem Oh (sh:Bool) (A:Option Addr) (cap:Nat) (g:List Int) (w:World) (hr:(Kd.int .i64).C w A g.length g) (hg:g.length<=8) (hn: ∀n∈g,1<=n/\n<=8):
  Calls Tryz.prog 63 #[.bool sh,.slice A g.length cap] w fun e w'=> ∃A p,e= .returned (.slice A (Qm sh g).length p)/\(Kd.int .i64).C w' A (Qm sh g).length (Qm sh g)/\Below w.heap.size w w':=by
 have hb:=Below.refl w.heap.size w
 cases sh with
 |false=>
  have HC:=Qa.mk Qb0;clear hr hn hg;go_enter Tryz.func63,Tryz.ntmps63;go_wp2_with (first|(go_at_call 107;refine(HC.out _).mono ?_;rintro e w1 ⟨B,p,rfl,hC,hbn⟩;have HC2:=Qa.mk hC;clear hC));go_ret;exact⟨_,_,rfl,HC2.out,hbn⟩
 |true=>
  have HR:=Qa.mk hr;have HS:=Qa.mk F9;have HN:=Qa.mk (fun k (hk:k<g.length)=>hn _ (Qp g k hk));have hgI:(g.length:Int)<=8:=(by omega);clear hr hn hg;go_enter Tryz.func63,Tryz.ntmps63;go_wp2;go_loopw [5,15] (fun o i wr=> ∃k:Nat,i= .int .i64 k/\k<=g.length/\Qa ((Kd.int .i64).R 3 wr w.heap.size (fun _=>True) o (Qm true (g.take k)))/\Qa (Below w.heap.size w wr)) (fun _ i _=>g.length-(intOf i).toNat)
  case atStart=>exact⟨0,rfl,by omega,⟨Kd.Zx _ _ _ _ _⟩,⟨hb⟩⟩
  case round=>
   obtain⟨k,rfl,hk,ho,hbL⟩:=hrel;by_cases hlt:k<g.length
   ·obtain⟨ad,rfl,hcell⟩:=Qn HR.out hbL.out hlt
    have hkI:(k:Int)<(g.length:Int):=(by omega);have hnb:=HN.out k hlt
    have hT:Qm true (g.take (k+1))=Qm true (g.take k)++[rd g k*2,rd g k*2,rd g k*4,rd g k*8]:=by
     rw[Qu g k hlt,Wx]
    obtain⟨n,hx⟩: ∃n,n=rd g k:=⟨_,rfl⟩;rw[<-hx] at hcell hnb hT;replace hT:=Qa.mk hT;obtain⟨y,hy⟩: ∃y,y=Qm true (g.take k):=⟨_,rfl⟩;have hyl:y.length<=32:=(by rw[hy,Hd,List.length_take];omega);rw[<-hy] at ho hT;have a0:(y.length+1)*8<=140737488355328:=(by omega);have a1:((y++[n*2]).length +1)*8<=140737488355328:=(by simp;omega);have a2:((y++[n*2]++[n*2]).length +1)*8<=140737488355328:=(by simp;omega);have a3:((y++[n*2]++[n*2]++[n*4]).length +1)*8<=140737488355328:=(by simp;omega);replace a0:=Qa.mk a0;replace a1:=Qa.mk a1;replace a2:=Qa.mk a2;replace a3:=Qa.mk a3;clear hyl hy hx;go_wp2_with fail;refine(HS.out _).mono ?_;rintro e w1 ⟨rfl,hsz,s0,s1,s2,s3,hbn⟩;have hR1:=Qa.mk (Kd.Q4 ho.out hbn);have hB1:=Qa.mk (bnx hbL.out hbn);obtain⟨b,hbe⟩: ∃b,b=wr.heap.size:=⟨_,rfl⟩;rw[<-hbe] at hsz s0 s1 s2 s3;have ne0:Qa (some b≠u5.ownBlock):=⟨fun h=>by have:=((Kd.Zd ho.out).1 b h.symm).2.2.1;omega⟩;have hsz':=Qa.mk hsz;rw[<-hbe];clear hbe hsz hbn ho hbL;go_wp2_with fail;refine wp_loop_rounds 5 ?_;rw[rounds_succ];go_wp2_with (first|(at_builtin;refine Kd.Q3 (Kd.int .i64) (w0:=w) w.heap.size rfl (.tmp 25) (.tmp 29) 22 3 (.int .i64 0) 8 rfl Tryz.underlying22 Qw rfl (by decide) (by omega) u5 y ((n*2)) [.int .i64 ((n*2))] (fun _=>True) (fun _=>False) rfl rfl rfl (fun _ hk=>hk.elim) (fun _ _=>trivial) hR1.out hB1.out hB1.out.size a0.out ?_;intro v1 wA hoA hbA hgA hatA;have HOA:=Qa.mk hoA;have HBA:=Qa.mk hbA;have hkp:=Bf hgA hatA ne0.out hsz'.out;replace s1:=hkp.2.2 _ _ s1;replace s2:=hkp.2.2 _ _ s2;replace s3:=hkp.2.2 _ _ s3;replace ne0:=Qa.mk hkp.1;replace hsz':=Qa.mk hkp.2.1;clear hoA hbA hgA hatA hkp));rw[rounds_succ];go_wp2_with (first|(at_builtin;refine Kd.Q3 (Kd.int .i64) (w0:=w) w.heap.size rfl (.tmp 25) (.tmp 29) 22 3 (.int .i64 0) 8 rfl Tryz.underlying22 Qw rfl (by decide) (by omega) v1 (y++[n*2]) ((n*2)) [.int .i64 ((n*2))] (fun _=>True) (fun _=>False) rfl rfl rfl (fun _ hk=>hk.elim) (fun _ _=>trivial) HOA.out HBA.out HBA.out.size a1.out ?_;intro v1 wA hoA hbA hgA hatA;have HOA:=Qa.mk hoA;have HBA:=Qa.mk hbA;have hkp:=Bf hgA hatA ne0.out hsz'.out;replace s2:=hkp.2.2 _ _ s2;replace s3:=hkp.2.2 _ _ s3;replace ne0:=Qa.mk hkp.1;replace hsz':=Qa.mk hkp.2.1;clear hoA hbA hgA hatA hkp));rw[rounds_succ];go_wp2_with (first|(at_builtin;refine Kd.Q3 (Kd.int .i64) (w0:=w) w.heap.size rfl (.tmp 25) (.tmp 29) 22 3 (.int .i64 0) 8 rfl Tryz.underlying22 Qw rfl (by decide) (by omega) v1 (y++[n*2]++[n*2]) ((n*4)) [.int .i64 ((n*4))] (fun _=>True) (fun _=>False) rfl rfl rfl (fun _ hk=>hk.elim) (fun _ _=>trivial) HOA.out HBA.out HBA.out.size a2.out ?_;intro v1 wA hoA hbA hgA hatA;have HOA:=Qa.mk hoA;have HBA:=Qa.mk hbA;have hkp:=Bf hgA hatA ne0.out hsz'.out;replace s3:=hkp.2.2 _ _ s3;replace ne0:=Qa.mk hkp.1;replace hsz':=Qa.mk hkp.2.1;clear hoA hbA hgA hatA hkp));rw[rounds_succ];go_wp2_with (first|(at_builtin;refine Kd.Q3 (Kd.int .i64) (w0:=w) w.heap.size rfl (.tmp 25) (.tmp 29) 22 3 (.int .i64 0) 8 rfl Tryz.underlying22 Qw rfl (by decide) (by omega) v1 (y++[n*2]++[n*2]++[n*4]) ((n*8)) [.int .i64 ((n*8))] (fun _=>True) (fun _=>False) rfl rfl rfl (fun _ hk=>hk.elim) (fun _ _=>trivial) HOA.out HBA.out HBA.out.size a3.out ?_;intro v1 wA hoA hbA hgA hatA;have HOA:=Qa.mk hoA;have HBA:=Qa.mk hbA;clear hoA hbA hgA hatA));rw[rounds_succ];go_wp2_with fail;go_roundw
    case rel=>exact⟨k+1,by go_num,by omega,⟨by rw[hT.out];simpa using HOA.out⟩,HBA⟩
    case measure=>simp[intOf];omega
   ·obtain rfl:k=g.length:=by omega
    have ho':=ho.out;rw[List.take_length] at ho';replace ho':=Qa.mk ho';clear ho;go_wp2;go_ret;obtain⟨B5,p5,rfl,_,hC⟩:=Kd.Qs ho'.out;exact⟨_,_,rfl,hC,hbL.out⟩
end Q21

namespace Q21
attribute [local go_sem] Qh Qi Qk Ql Qd Qe
open Q15
def Kb (sh:Bool) (g:List Int):Int:=if Zc sh g then 0 else 1
def D7 (sh:Bool) (g:List Int):List Int:=if Zc sh g then Qm sh g else[]
def Outs (L:List Int) (E:Int) (w:World) (e:Ending) (w':World):Prop:= ∃A p,e= .returned (.tuple #[.slice A L.length p,.int .i64 E])/\(Kd.int .i64).C w' A L.length L/\Below w.heap.size w w'
theorem Xj {sh:Bool} {g:List Int} (h:Zc sh g=true):g.length<=8/\ ∀n∈g,1<=n/\n<=8:=by
 cases sh with
 |false=>
  have h0:g.length=0:=of_decide_eq_true h;exact⟨by omega,fun n hn=>by rw[List.length_eq_zero_iff.1 h0] at hn;cases hn⟩
 |true=>exact⟨(Xr.1 h).1,(Xr.1 h).2.1⟩
theorem Qck {sh:Bool} {g:List Int} (h:g.length<=8):(Qm sh g).length <=32:=by
 cases sh with
 |false=>exact(by decide:Xk.length<=32)
 |true=>rw[Hd];omega
theorem X3 (sh:Bool) (A:Option Addr) (cap:Nat) (g:List Int) (w:World) (hL:Laid w) (hr:(Kd.int .i64).C w A g.length g):
  Calls Tryz.prog 50 #[.bool sh,.slice A g.length cap] w (Outs (D7 sh g) (Kb sh g) w):=by
 have hb:=Below.refl w.heap.size w;have HC:=Ju sh A cap g w hr;unfold D7 Kb
 cases hd:Zc sh g with
 |false=>
  rw[hd] at HC;replace HC:=Qa.mk HC;rw[if_neg (by decide),if_neg (by decide)];clear hd hr hL;go_enter Tryz.func50,Tryz.ntmps50;go_wp2_with (first|(go_at_call 94;refine(HC.out).mono ?_;rintro e w' ⟨rfl,hbn⟩;replace hb:=bnx hb hbn;clear hbn));go_ret2;exact⟨none,0,rfl,Kd.Uc _ _,hb⟩
 |true=>
  rw[hd] at HC;obtain⟨h8,hn⟩:=Xj hd;have HW:=Qa.mk (fun(W:World) (hb:Below w.heap.size w W)=>Ob sh A cap g W (hL.below hb) (Kd.Qf hr hb) h8 hn);have hlen:=Qck (sh:=sh) h8;have HK:=Qa.mk (fun(B:Option Addr) (p:Nat) (W:World) (hC:(Kd.int .i64).C W B (Qm sh g).length (Qm sh g))=>Km B p (Qm sh g) W hC (by omega));replace HC:=Qa.mk HC;obtain⟨L,hLL⟩: ∃L,L=Qm sh g:=⟨_,rfl⟩;rw[if_pos rfl,if_pos rfl,<-hLL];rw[<-hLL] at HW HK;clear hd hr hL h8 hn hLL hlen;go_enter Tryz.func50,Tryz.ntmps50;go_wp2_with (first|(go_at_call 94;refine(HC.out).mono ?_;rintro e w' ⟨rfl,hbn⟩;replace hb:=bnx hb hbn;clear hbn));refine(HW.out _ hb).mono ?_;rintro e w1 ⟨B,p,rfl,hC,hbn⟩;replace hb:=bnx hb hbn;replace hC:=Qa.mk hC;clear hbn;go_wp2_with fail;refine(HK.out _ _ _ hC.out).mono ?_;rintro e w2 ⟨v,rfl,hR,hbn⟩;replace hb:=bnx hb hbn;obtain⟨B5,p5,rfl,_,hC5⟩:=Kd.Qs hR;replace hC5:=Qa.mk hC5;clear hbn hR;go_wp2;go_ret2;exact⟨_,_,rfl,hC5.out,hb⟩
theorem Om (sh:Bool) (A:Option Addr) (cap:Nat) (g:List Int) (w:World) (hL:Laid w) (hr:(Kd.int .i64).C w A g.length g):
  Calls Tryz.prog 42 #[.bool sh,.slice A g.length cap] w fun e w'=>e= .returned (.tuple #[.int .i64 (D7 sh g).length,.int .i64 (Kb sh g)])/\Below w.heap.size w w':=by
 have hb:=Below.refl w.heap.size w;have HC:=Qa.mk (X3 sh A cap g w hL hr);obtain⟨L,hLL⟩: ∃L,L=D7 sh g:=⟨_,rfl⟩;obtain⟨E,hE⟩: ∃E,E=Kb sh g:=⟨_,rfl⟩;rw[<-hLL,<-hE] at HC ⊢;clear hLL hE hL hr;go_enter Tryz.func42,Tryz.ntmps42;go_wp2_with fail;refine HC.out.mono ?_;rintro e w1 ⟨B,p,rfl,hC,hbn⟩;replace hb:=bnx hb hbn;clear hC hbn;go_wp2;go_ret2;exact⟨rfl,hb⟩
theorem Xl (sh:Bool) (A:Option Addr) (cap:Nat) (g:List Int) (w:World) (hr:(Kd.int .i64).C w A g.length g):
  Calls Tryz.prog 31 #[.bool sh,.slice A g.length cap] w (Outs (D7 sh g) (Kb sh g) w):=by
 have hb:=Below.refl w.heap.size w;have HC:=Ot sh A cap g w hr;unfold D7 Kb
 cases hd:Zc sh g with
 |false=>
  rw[hd] at HC;replace HC:=Qa.mk HC;rw[if_neg (by decide),if_neg (by decide)];clear hd hr;go_enter Tryz.func31,Tryz.ntmps31;go_wp2_with (first|(go_at_call 62;refine(HC.out).mono ?_;rintro e w' ⟨rfl,hbn⟩;replace hb:=bnx hb hbn;clear hbn));go_ret2;exact⟨none,0,rfl,Kd.Uc _ _,hb⟩
 |true=>
  rw[hd] at HC;obtain⟨h8,hn⟩:=Xj hd;have HW:=Qa.mk (fun(W:World) (hb:Below w.heap.size w W)=>Oh sh A cap g W (Kd.Qf hr hb) h8 hn);replace HC:=Qa.mk HC;obtain⟨L,hLL⟩: ∃L,L=Qm sh g:=⟨_,rfl⟩;rw[if_pos rfl,if_pos rfl,<-hLL];rw[<-hLL] at HW;clear hd hr h8 hn hLL;go_enter Tryz.func31,Tryz.ntmps31;go_wp2_with (first|(go_at_call 62;refine(HC.out).mono ?_;rintro e w' ⟨rfl,hbn⟩;replace hb:=bnx hb hbn;clear hbn));refine(HW.out _ hb).mono ?_;rintro e w1 ⟨B,p,rfl,hC,hbn⟩;replace hb:=bnx hb hbn;replace hC:=Qa.mk hC;clear hbn;go_wp2;go_ret2;exact⟨_,_,rfl,hC.out,hb⟩
end Q21

namespace Q16
attribute [local go_sem] Qh Qi Qk Ql Qd Qe
open Q15
theorem isW_not2 {l:List Int} {k:Nat} (hk:k<l.length) (h:rd l k<1\/128<rd l k):isW l=false:=by
 by_cases h1:rd l k<1
 ·exact Qc1 hk (.inl h1)
 ·rw[<-Bool.not_eq_true]
  intro hw;obtain⟨g1,g2,g3⟩:=Qx.1 hw;have h5:=Jv g1 (k+1);have h6:=Vg (l:=l.take k) (fun x hx=>g1 x (List.mem_of_mem_take hx));rw[Qu l k hk,List.sum_append] at h5;simp only[List.sum_cons,List.sum_nil] at h5;omega
theorem isW_all2 {l:List Int} (h: ∀x∈l,1<=x):isW l=(decide (1<=l.length)&&decide (l.length<=32)&&decide (l.sum=128)):=by
 rw[Qc0 h]
 congr 1
 exact decide_eq_decide.2 (by omega)
theorem Xl (A:Option Addr) (cap:Nat) (l:List Int) (w:World) (hr:(Kd.int .i64).C w A l.length l) (hl:l.length<=1099511627776):
  Calls Tryz.prog 132 #[.slice A l.length cap] w fun e w'=>e= .returned (.bool (isW l))/\Below w.heap.size w w':=by
 have HR:=Qa.mk hr;clear hr;go_enter Tryz.func132,Tryz.ntmps132;go_wp2;go_loopw [3,8] (fun s i wr=> ∃(k:Nat) (z:Int),i= .int .i64 k/\s= .int .i64 z/\k<=l.length/\0<=z/\z<=k*128/\Qa (z=(l.take k).sum)/\Qa (∀x∈l.take k,1<=x)/\Below w.heap.size w wr) (fun _ i _=>l.length-(intOf i).toNat)
 case atStart=>exact⟨0,0,rfl,rfl,by omega,by omega,by omega,⟨by simp⟩,⟨by simp⟩,Below.refl _ _⟩
 case round=>
  obtain⟨k,z,rfl,rfl,hk,hz0,hz1,hn,ha,hb⟩:=hrel;by_cases hlt:k<l.length
  ·obtain⟨ad,rfl,hcell⟩:=Qn HR.out hb hlt
   have hno:=isW_not2 hlt;have hT:=Qu l k hlt;obtain⟨n,hx⟩: ∃n,n=rd l k:=⟨_,rfl⟩;rw[<-hx] at hcell hno hT;replace hno:=Qa.mk hno;replace hT:=Qa.mk hT;clear hx;by_cases h1:n<1
   ·go_wp2
    go_ret;exact⟨by rw[hno.out (.inl h1)];rfl,hb⟩
   ·by_cases h2:128<n
    ·go_wp2
     go_ret;exact⟨by rw[hno.out (.inr h2)];rfl,hb⟩
    ·go_wp2
     go_roundw
     case rel=>exact⟨k+1,z+n,by go_num,rfl,by omega,by omega,by omega,⟨by rw[hT.out,List.sum_append,hn.out];simp⟩,⟨by
      rw[hT.out];intro x hx;rcases List.mem_append.1 hx with hx|hx
      ·exact ha.out x hx
      ·rw[List.mem_singleton.1 hx];omega⟩,hb⟩
     case measure=>simp[intOf];omega
  ·obtain rfl:k=l.length:=by omega
   have hA:=ha.out;have hN:=hn.out;rw[List.take_length] at hA hN;have hW:=isW_all2 hA;rw[<-hN] at hW;replace hW:=Qa.mk hW;clear ha hn hA hN;by_cases g1:1<=l.length
   ·by_cases g2:l.length<=32
    ·have g1':decide ((1:Int)<=(l.length:Int))=true:=by simp;omega
     have g2':decide ((l.length:Int)<=(32:Int))=true:=(by simp;omega);rw[decide_eq_true g1,decide_eq_true g2,Bool.true_and,Bool.true_and] at hW;clear g1 g2;go_wp2;go_ret;exact⟨by rw[hW.out];rfl,hb⟩
    ·have g1':decide ((1:Int)<=(l.length:Int))=true:=by simp;omega
     have g2':decide ((l.length:Int)<=(32:Int))=false:=(by simp;omega);rw[decide_eq_false g2,Bool.and_false,Bool.false_and] at hW;clear g1 g2;go_wp2;go_ret;exact⟨by rw[hW.out];rfl,hb⟩
   ·have g1':decide ((1:Int)<=(l.length:Int))=false:=by simp;omega
    rw[decide_eq_false g1,Bool.false_and,Bool.false_and] at hW;clear g1;go_wp2;go_ret;exact⟨by rw[hW.out];rfl,hb⟩
theorem X5 (most:Int) (hm:0<=most/\most<=4611686018427387904) (A:Option Addr) (cap:Nat) (l:List Int) (w:World) (hr:(Kd.int .i64).C w A l.length l) (hl:l.length<=1099511627776):
  Calls Tryz.prog 49 #[.int .i64 most,.slice A l.length cap] w fun e w'=>e= .returned (.bool (rng (-most) most l))/\Below w.heap.size w w':=by
 have HR:=Qa.mk hr;clear hr;go_enter Tryz.func49,Tryz.ntmps49;go_wp2;go_loopw [9] (fun i wr=> ∃(k:Nat),i= .int .i64 k/\k<=l.length/\Qa (∀x∈l.take k,-most<=x/\x<=most)/\Below w.heap.size w wr) (fun i _=>l.length-(intOf i).toNat)
 case atStart=>exact⟨0,rfl,by omega,⟨by simp⟩,Below.refl _ _⟩
 case round=>
  obtain⟨k,rfl,hk,ha,hb⟩:=hrel;by_cases hlt:k<l.length
  ·obtain⟨ad,rfl,hcell⟩:=Qn HR.out hb hlt
   have hno:=Pk (low:= -most) (high:=most) hlt;have hT:=Qu l k hlt;obtain⟨n,hx⟩: ∃n,n=rd l k:=⟨_,rfl⟩;rw[<-hx] at hcell hno hT;replace hno:=Qa.mk hno;replace hT:=Qa.mk hT;clear hx;by_cases h1:n< -most
   ·go_wp2
    go_ret;exact⟨by rw[hno.out (.inl h1)];rfl,hb⟩
   ·by_cases h2:most<n
    ·go_wp2
     go_ret;exact⟨by rw[hno.out (.inr h2)];rfl,hb⟩
    ·go_wp2
     go_roundw
     case rel=>exact⟨k+1,by go_num,by omega,⟨by
      rw[hT.out];intro x hx;rcases List.mem_append.1 hx with hx|hx
      ·exact ha.out x hx
      ·rw[List.mem_singleton.1 hx];omega⟩,hb⟩
     case measure=>simp[intOf];omega
  ·obtain rfl:k=l.length:=by omega
   have hA:=ha.out;rw[List.take_length] at hA;have hW:Qa (rng (-most) most l=true):=⟨List.all_eq_true.2 fun x hx=>decide_eq_true (hA x hx)⟩;clear ha hA;go_wp2;go_ret;exact⟨by rw[hW.out];rfl,hb⟩
theorem Y4 (most:Int) (hm:0<=most/\most<=4611686018427387904) (A:Option Addr) (cap:Nat) (l:List Int) (w:World) (hr:(Kd.int .i64).C w A l.length l) (hl:l.length<=1099511627776):
  Calls Tryz.prog 23 #[.int .i64 most,.slice A l.length cap] w fun e w'=>e= .returned (.bool (rng (-most) most l))/\Below w.heap.size w w':=by
 have hb:=Below.refl w.heap.size w;have HC:=Qa.mk (X5 most hm A cap l w hr hl);obtain⟨b,hbe⟩: ∃b,b=rng (-most) most l:=⟨_,rfl⟩;rw[<-hbe] at HC ⊢;clear hr hbe;go_enter Tryz.func23,Tryz.ntmps23;go_wp2_with (first|(go_at_call 49;refine(HC.out).mono ?_;rintro e w' ⟨rfl,hbn⟩;replace hb:=bnx hb hbn;clear hbn));go_ret;exact⟨rfl,hb⟩
theorem N8 (most:Int) (A:Option Addr) (cap:Nat) (l:List Int) (w:World) (hr:(Kd.int .i64).C w A l.length l) (hl:l.length<=1099511627776):
  Calls Tryz.prog 128 #[.slice A l.length cap,.int .i64 most] w fun e w'=>e= .returned (.bool (rng 0 most l))/\Below w.heap.size w w':=by
 have HR:=Qa.mk hr;clear hr;go_enter Tryz.func128,Tryz.ntmps128;go_wp2;go_loopw [9] (fun i wr=> ∃(k:Nat),i= .int .i64 k/\k<=l.length/\Qa (∀x∈l.take k,0<=x/\x<=most)/\Below w.heap.size w wr) (fun i _=>l.length-(intOf i).toNat)
 case atStart=>exact⟨0,rfl,by omega,⟨by simp⟩,Below.refl _ _⟩
 case round=>
  obtain⟨k,rfl,hk,ha,hb⟩:=hrel;by_cases hlt:k<l.length
  ·obtain⟨ad,rfl,hcell⟩:=Qn HR.out hb hlt
   have hno:=Pk (low:=0) (high:=most) hlt;have hT:=Qu l k hlt;obtain⟨n,hx⟩: ∃n,n=rd l k:=⟨_,rfl⟩;rw[<-hx] at hcell hno hT;replace hno:=Qa.mk hno;replace hT:=Qa.mk hT;clear hx;by_cases h1:n<0
   ·go_wp2
    go_ret;exact⟨by rw[hno.out (.inl h1)];rfl,hb⟩
   ·by_cases h2:most<n
    ·go_wp2
     go_ret;exact⟨by rw[hno.out (.inr h2)];rfl,hb⟩
    ·go_wp2
     go_roundw
     case rel=>exact⟨k+1,by go_num,by omega,⟨by
      rw[hT.out];intro x hx;rcases List.mem_append.1 hx with hx|hx
      ·exact ha.out x hx
      ·rw[List.mem_singleton.1 hx];omega⟩,hb⟩
     case measure=>simp[intOf];omega
  ·obtain rfl:k=l.length:=by omega
   have hA:=ha.out;rw[List.take_length] at hA;have hW:Qa (rng 0 most l=true):=⟨List.all_eq_true.2 fun x hx=>decide_eq_true (hA x hx)⟩;clear ha hA;go_wp2;go_ret;exact⟨by rw[hW.out];rfl,hb⟩
theorem Ik (A0 A:Option Addr) (n0 c0 cap c2:Nat) (l:List Int) (B:Nat) (ls:List Nat) (w:World) (hr:(Kd.int .i64).C w A l.length l) (hl:l.length<=1099511627776) (hn0:n0<=1099511627776) (hls:Lens w B ls) (hll:ls.length<=1000000) (hle: ∀n∈ls,n<=1099511627776):
  Calls Tryz.prog 127 #[.slice A0 n0 c0,.slice A l.length cap,.slice (some ⟨B,0,none⟩) ls.length c2] w fun e w'=>e= .returned (.int .i64 (Tj n0 l ls))/\Below w.heap.size w w':=by
 have hb:=Below.refl w.heap.size w;have HW:=Qa.mk (Xl A cap l w hr hl);have HLS:=Qa.mk hls;have HLE:=Qa.mk hle;clear hr hls hle;unfold Tj
 cases hw:isW l with
 |false=>
  rw[hw] at HW;clear hw;go_enter Tryz.func127,Tryz.ntmps127;go_wp2_with (first|(go_at_call 132;refine(HW.out).mono ?_;rintro e w' ⟨rfl,hbn⟩;replace hb:=bnx hb hbn;clear hbn));go_ret;exact⟨rfl,hb⟩
 |true=>
  rw[hw] at HW;clear hw;by_cases h128:n0=128
  ·subst h128
   rw[if_pos rfl,if_pos rfl];obtain⟨E,hE⟩: ∃E:Int,E=(if ls.all (fun m=>decide (m=l.length)) then 0 else 4):=⟨_,rfl⟩;rw[<-hE]
   have HX:Qa (∀k n,ls[k]? =some n->n≠l.length->E=4):=⟨fun k n hk hne=>by
    rw[hE,if_neg];intro h;have:=List.all_eq_true.1 h n (List.mem_of_getElem? hk);simp at this
    exact hne this⟩
   have HY:Qa ((∀x∈ls,x=l.length)->E=0):=⟨fun h=>by rw[hE,if_pos (List.all_eq_true.2 fun x hx=>decide_eq_true (h x hx))]⟩;clear hE;go_enter Tryz.func127,Tryz.ntmps127;go_wp2_with (first|(go_at_call 132;refine(HW.out).mono ?_;rintro e w' ⟨rfl,hbn⟩;replace hb:=bnx hb hbn;clear hbn));go_loopw [17] (fun i wr=> ∃(k:Nat),i= .int .i64 k/\k<=ls.length/\Qa (∀x∈ls.take k,x=l.length)/\Below w.heap.size w wr) (fun i _=>ls.length-(intOf i).toNat)
   case atStart=>exact⟨0,rfl,by omega,⟨by simp⟩,hb⟩
   case round=>
    obtain⟨k,rfl,hk,ha,hbr⟩:=hrel;clear hb;have hb:=hbr;clear hbr;by_cases hlt:k<ls.length
    ·have hk?:=List.getElem?_eq_getElem hlt
     obtain⟨A2,c3,hcell⟩:=HLS.out k _ hk?;replace hcell:=cnx hcell hb;have hle:=HLE.out _ (List.getElem_mem hlt);have hX:=HX.out k _ hk?;have hT:ls.take (k+1)=ls.take k++[ls[k]]:=List.take_succ_eq_append_getElem hlt;obtain⟨n,hx⟩: ∃n,n=ls[k]:=⟨_,rfl⟩;rw[<-hx] at hcell hX hT hle;replace hX:=Qa.mk hX;replace hT:=Qa.mk hT;clear hx hk?;by_cases h1:n=l.length
     ·have h1':decide ((n:Int)=(l.length:Int))=true:=by simp;omega
      have h1'':((n:Int) != (l.length:Int))=false:=(by simp;omega);have hn:=Qa.mk h1;clear h1;go_wp2;go_roundw
      case rel=>exact⟨k+1,by go_num,by omega,⟨by
       rw[hT.out];intro x hx;rcases List.mem_append.1 hx with hx|hx
       ·exact ha.out x hx
       ·rw[List.mem_singleton.1 hx];exact hn.out⟩,hb⟩
      case measure=>simp[intOf];omega
     ·have h1':decide ((n:Int)=(l.length:Int))=false:=by simp;omega
      have h1'':((n:Int) != (l.length:Int))=true:=(by simp;omega);have hf:=Qa.mk (hX.out h1);clear h1;go_wp2;go_ret;exact⟨by rw[hf.out];rfl,hb⟩
    ·obtain rfl:k=ls.length:=by omega
     have hA:=ha.out;rw[List.take_length] at hA;have hf:=Qa.mk (HY.out hA);clear ha hA;go_wp2;go_ret;exact⟨by rw[hf.out];rfl,hb⟩
  ·rw[if_neg h128,if_pos rfl]
   have h1':((n0:Int) != (128:Int))=true:=(by simp;omega);clear h128;go_enter Tryz.func127,Tryz.ntmps127;go_wp2_with (first|(go_at_call 132;refine(HW.out).mono ?_;rintro e w' ⟨rfl,hbn⟩;replace hb:=bnx hb hbn;clear hbn));go_ret;exact⟨rfl,hb⟩
end Q16

namespace Q21
attribute [local go_sem] Qh Qi Qk Ql Qd Qe
open Q15
theorem He (g:Nat) (fs cs:Array Value) (p:Int->Bool) (A:Option Addr) (cap:Nat) (l:List Int) (w:World) (eg:Q15.Enters g) (hr:(Kd.int .i64).C w A l.length l) (hl:l.length<=1099511627776)
  (hp: ∀x∈l,Kn g fs cs w x (p x)):
  Calls Tryz.prog 96 #[.slice A l.length cap,.func (.func g) fs cs] w fun e w'=>(∃i:Int,e= .returned (.int .i64 i)/\ -1<=i/\i<=1099511627776/\decide (0<=i)=l.any p)/\Below w.heap.size w w':=by
 have HP:=Qa.mk hp;have HR:=Qa.mk hr;have hlI:(l.length:Int)<=1099511627776:=(by omega);obtain⟨Post,hPost⟩: ∃P:Ending->Prop,P=fun e=> ∃i:Int,e= .returned (.int .i64 i)/\ -1<=i/\i<=1099511627776/\decide (0<=i)=l.any p:=⟨_,rfl⟩
 have HPost:Qa (∀i:Int,-1<=i->i<=1099511627776->decide (0<=i)=l.any p->Post (.returned (.int .i64 i))):=⟨fun i h0 h1 h2=>by rw[hPost];exact⟨i,rfl,h0,h1,h2⟩⟩
 show Calls _ _ _ _ (fun e w'=>(fun e=> ∃i:Int,e= .returned (.int .i64 i)/\ -1<=i/\i<=1099511627776/\decide (0<=i)=l.any p) e/\Below w.heap.size w w')
 rw[<-hPost];clear hp hr hPost hl;unfold Q15.Enters at eg;go_enter Tryz.func96,Tryz.ntmps96;go_wp2;go_loopw [8] (fun i wr=> ∃k:Nat,i= .int .i64 k/\k<=l.length/\Qa ((l.take k).any p=false)/\Below w.heap.size w wr) (fun i _=>l.length-(intOf i).toNat)
 case atStart=>exact⟨0,rfl,by omega,⟨by simp⟩,Below.refl _ _⟩
 case round=>
  obtain⟨k,rfl,hk,ha,hb⟩:=hrel;by_cases hlt:k<l.length
  ·obtain⟨ad,rfl,hcell⟩:=Qn HR.out hb hlt
   have hc:=HP.out _ (Qp l k hlt) wr hb;have HT:=Qa.mk (Qu l k hlt);have HRD:=Qa.mk (Qp l k hlt);have hkI:(k:Int)<(l.length:Int):=(by omega);obtain⟨x,hx⟩: ∃x,x=rd l k:=⟨_,rfl⟩;rw[<-hx] at hcell hc HT HRD;clear hx
   cases hpm:p x with
   |false=>
    rw[hpm] at hc;have HC:=Qa.mk hc;have hpm:=Qa.mk hpm;clear hc;go_wp2_with (go_at_fn g;refine HC.out.mono ?_;rintro e w' ⟨rfl,hb1⟩);go_roundw
    case rel=>exact⟨k+1,by go_num,by omega,⟨by rw[HT.out,List.any_append,ha.out];simp[hpm.out]⟩,bnx hb hb1⟩
    case measure=>simp[intOf];omega
   |true=>
    rw[hpm] at hc;have HC:=Qa.mk hc;have hf:=Qa.mk (HPost.out (k:Int) (by omega) (by omega) (by rw[List.any_eq_true.2 ⟨x,HRD.out,hpm⟩];exact decide_eq_true (by omega)));clear hc hpm;go_wp2_with (go_at_fn g;refine HC.out.mono ?_;rintro e w' ⟨rfl,hb1⟩);go_ret;exact⟨hf.out,bnx hb hb1⟩
  ·obtain rfl:k=l.length:=by omega
   have hA:=ha.out;rw[List.take_length] at hA;have hf:=Qa.mk (HPost.out (-1) (by omega) (by omega) (by rw[hA];rfl));clear ha hA;go_wp2;go_ret;exact⟨hf.out,hb⟩
theorem Xx (g:Nat) (fs cs:Array Value) (p:Int->Bool) (A:Option Addr) (cap:Nat) (l:List Int) (w:World) (eg:Q15.Enters g) (hr:(Kd.int .i64).C w A l.length l) (hl:l.length<=1099511627776)
  (hp: ∀x∈l,Kn g fs cs w x (p x)):
  Calls Tryz.prog 53 #[.slice A l.length cap,.func (.func g) fs cs] w fun e w'=>e= .returned (.bool (l.any p))/\Below w.heap.size w w':=by
 have hb:=Below.refl w.heap.size w;have HC:=Qa.mk (He g fs cs p A cap l w eg hr hl hp);obtain⟨b,hbe⟩: ∃b,b=l.any p:=⟨_,rfl⟩;rw[<-hbe] at HC ⊢;clear hp hr hbe;go_enter Tryz.func53,Tryz.ntmps53;go_wp2_with fail;refine HC.out.mono ?_;rintro _ w1 ⟨⟨i,rfl,h0,h1,h2⟩,hbn⟩;replace hb:=bnx hb hbn;clear hbn
 cases b with
 |true=>
  have h3:decide (0<=i)=true:=h2;clear h2;go_wp2;go_ret;exact⟨rfl,hb⟩
 |false=>
  have h3:decide (0<=i)=false:=h2;have h4:i<0:=(by have:=of_decide_eq_false h2;omega);clear h2;go_wp2;go_ret;exact⟨rfl,hb⟩
def J6 (lo hi n:Int):Bool:=decide (n<lo\/hi<n)
theorem Dn (lo hi:Int) (l:List Int):l.any (J6 lo hi)= !Q16.rng lo hi l:=by
 unfold Q16.rng;rw[List.not_all_eq_any_not]
 congr 1
 funext n
 unfold J6;rw[<-decide_not];exact decide_eq_decide.2 (by omega)
theorem Eo (w:World) (x:Int):Kn 170 #[] #[] w x (J6 (-127) 127 x):=by
 intro W hb
 show Calls Tryz.prog 170 #[.int .i64 x] W _
 unfold J6;by_cases h0:x< -127
 ·rw[decide_eq_true (.inl h0)]
  go_enter Tryz.func170,Tryz.ntmps170;go_wp2;go_ret;exact⟨rfl,Below.refl _ _⟩
 ·by_cases h1:127<x
  ·rw[decide_eq_true (.inr h1)]
   have h0':decide (x< -127)=false:=(by simpa using h0);go_enter Tryz.func170,Tryz.ntmps170;go_wp2;go_ret;exact⟨rfl,Below.refl _ _⟩
  ·rw[decide_eq_false (by omega)]
   have h0':decide (x< -127)=false:=(by simpa using h0);have h1':decide (127<x)=false:=(by simpa using h1);go_enter Tryz.func170,Tryz.ntmps170;go_wp2;go_ret;exact⟨rfl,Below.refl _ _⟩
theorem Qcm (w:World) (a b:Addr) (lo hi:Int) (ha:w.cell? a=some (.int .i64 lo)) (hbc:w.cell? b=some (.int .i64 hi)) (x:Int):Kn 54 #[] #[.pointer (some a),.pointer (some b)] w x (J6 lo hi x):=by
 intro W hb
 show Calls Tryz.prog 54 #[.int .i64 x,.pointer (some a),.pointer (some b)] W _
 have ha':=cnx ha hb;have hb':=cnx hbc hb;unfold J6;clear ha hbc;by_cases h0:x<lo
 ·rw[decide_eq_true (.inl h0)]
  go_enter Tryz.func54,Tryz.ntmps54;go_wp2;go_ret;exact⟨rfl,Below.refl _ _⟩
 ·by_cases h1:hi<x
  ·rw[decide_eq_true (.inr h1)]
   have h0':decide (x<lo)=false:=(by simpa using h0);go_enter Tryz.func54,Tryz.ntmps54;go_wp2;go_ret;exact⟨rfl,Below.refl _ _⟩
  ·rw[decide_eq_false (by omega)]
   have h0':decide (x<lo)=false:=(by simpa using h0);have h1':decide (hi<x)=false:=(by simpa using h1);go_enter Tryz.func54,Tryz.ntmps54;go_wp2;go_ret;exact⟨rfl,Below.refl _ _⟩
end Q21

namespace Q16
attribute [local go_sem] Qh Qi Qk Ql Qd Qe
open Q15 Runs Go.Shelf
attribute [local go_sem] Oper.semAt_some
def off (l:List Int) (k:Nat):Nat:=(l.take k).sum.toNat
def wd (l:List Int) (k:Nat):Nat:=(rd l k).toNat
def encB (a:Addr) (l:List Int) (k:Nat):Array Value:= #[.int .i64 k,.slice (some (a.add (off l k))) (wd l k) (wd l k)]
theorem Q7 {l:List Int} (h:isW l=true) {k:Nat} (hk:k<l.length):off l (k+1)=off l k+wd l k/\1<=wd l k/\off l k+wd l k<=128/\rd l k=(wd l k:Nat):=by
 obtain⟨h1,h2,h3⟩:=Qx.1 h;have h4:=h1 _ (Qp l k hk);have h5:=Jv h1 (k+1);have h6:=Vg (l:=l.take k) (fun x hx=>h1 x (List.mem_of_mem_take hx));unfold off wd;rw[Qu l k hk,List.sum_append] at h5 ⊢;simp only[List.sum_cons,List.sum_nil] at h5 ⊢;omega
def Xi (S B1 Bc:Nat) (A B:World):Prop:=Below S A B/\B.heap[B1]? =A.heap[B1]? /\B.heap[Bc]? =A.heap[Bc]?
theorem Xi.trans {S B1 Bc:Nat} {A B C:World} (h:Xi S B1 Bc A B) (k:Xi S B1 Bc B C):Xi S B1 Bc A C:=⟨h.1.trans k.1,k.2.1.trans h.2.1,k.2.2.trans h.2.2⟩
theorem Xi.putObj {S B1 Bc N:Nat} (h0:S<=N) (h1:B1<N) (h2:Bc<N) (W:World) (l:Nat) (o o':Obj) (hl:N<=l) (ho:W.heap[l]? =some o) (hc:o.isCells=false) (hw:o.isWalk=false):Xi S B1 Bc W (W.putObj l o'):=
 ⟨(Below.refl S W).grown (grownBy_putObj' W l o') (by have:=(Array.getElem?_eq_some_iff.1 ho).1;omega) (fun k e=>by cases e;omega),World.putObj_heap_other (by omega),World.putObj_heap_other (by omega)⟩
theorem Q6 {A B:World} {b:Nat} (h:B.heap[b]? =A.heap[b]?) {o:Nat}:B.cell? ⟨b,o,none⟩=A.cell? ⟨b,o,none⟩:=by simp[World.cell?,h]
theorem Za {A B:World} {b:Nat} (h:B.heap[b]? =A.heap[b]?) {o:Nat}:B.frozen? ⟨b,o,none⟩=A.frozen? ⟨b,o,none⟩:=by simp[World.frozen?,h]
theorem Jo (a:Addr):a.add 0=a:=by simp[Addr.add]
theorem Qai (F:Fence) (n:Nat) (hF:F.fn 156) (hro:F.round=none) (hn:1<=n) (B1 Bc:Nat) (a:Addr) (c0:Nat) (A1:Option Addr) (cap:Nat) (l:List Int) (hl:isW l=true) (hc0:128<=c0) (hc9:c0<=9223372036854775807)
  (wS w:World) (hr:(Kd.int .i64).C wS A1 l.length l) (hS:Below wS.heap.size wS w) (s1:wS.heap.size<=B1) (s2:wS.heap.size<=Bc) (hne:B1≠Bc) (l1:B1<w.heap.size) (l2:Bc<w.heap.size)
  (c1:w.cell? ⟨B1,0,none⟩=some (.slice A1 l.length cap)) (c2:w.cell? ⟨Bc,0,none⟩=some (.slice (some a) 128 c0)) (f2:w.frozen? ⟨Bc,0,none⟩=false):
  Qcp F n Tryz.prog 156 #[.pointer (some ⟨B1,0,none⟩),.pointer (some ⟨Bc,0,none⟩)] (encB a l) (Xi wS.heap.size B1 Bc) Bc l.length w:=fun L J W hW hJ hY h0=>by
 have d1:=cnx c1 hW;have d2:=cnx c2 hW;have g2:=(hW.frozen (p:=⟨Bc,0,none⟩) (by simp;omega)).trans f2;have hS':=bnx hS hW;have HR:=Qa.mk hr;have HY:=Qa.mk hY;have HJ:=Qa.mk hJ;have HN:=Qa.mk (fun k (hk:k<l.length)=>Q7 hl hk);have hll:(l.length:Int)<=32:=(by have:=(Qx.1 hl).2.2;omega);clear hY hJ c1 c2 f2 hr hl;refine callsIn_of_wp Tryz.func156 rfl hF ?_ hro;simp only[Tryz.ntmps156,List.size_toArray,List.length_cons,List.length_nil,Nat.reduceAdd,Nat.reduceSub,Array.replicate_succ,Array.replicate_zero,List.push_toArray,List.append_toArray,List.nil_append,List.cons_append];gi_wp2;gi_loopw [8] (fun i wr=> ∃k:Nat,i= .int .i64 k/\k<=l.length/\wr.cell? ⟨B1,0,none⟩=some (.slice A1 l.length cap)/\Qa (k<l.length->wr.cell? ⟨Bc,0,none⟩=some (.slice (some (a.add (off l k))) (128-off l k) (c0-off l k)))/\wr.frozen? ⟨Bc,0,none⟩=false/\Below wS.heap.size wS wr/\w.heap.size<=wr.heap.size/\Qa (J k wr)) (fun i _=>l.length-(intOf i).toNat)
 case atStart=>exact⟨0,rfl,by omega,d1,⟨fun _=>by rw[d2];simp[off,Jo]⟩,g2,hS',hW.size,⟨h0⟩⟩
 case round=>
  obtain⟨k,rfl,hk,e1,e2,e3,hb,hsz,hJs⟩:=hrel;clear d1 d2 g2 hS';by_cases hlt:k<l.length
  ·obtain⟨ad,rfl,hcell⟩:=Qn HR.out hb hlt
   have e2':=e2.out hlt;obtain⟨q1,q2,q3,q4⟩:=HN.out k hlt;rw[q4] at hcell;obtain⟨fn,tmps,assign,body,hy,hR⟩:=HY.out k wr hlt hJs.out;have hR2:=Qa.mk hR;clear hR q4;unfold encB at hy;obtain⟨o,ho⟩: ∃o,o=off l k:=⟨_,rfl⟩;obtain⟨d,hd⟩: ∃d,d=wd l k:=⟨_,rfl⟩;rw[<-ho] at e2' q1 q3 hy;rw[<-hd] at hcell q1 q2 q3 hy;obtain⟨m,hm⟩: ∃m,m=128-o:=⟨_,rfl⟩;obtain⟨c,hc⟩: ∃c,c=c0-o:=⟨_,rfl⟩;rw[<-hm,<-hc] at e2';have i1:(d:Int)<=(m:Int):=(by omega);have i2:(d:Int)<=(c:Int):=(by omega);have i3:(m:Int)<=(c:Int):=(by omega);have i4:(c:Int)<=9223372036854775807:=(by omega);have i5:(1:Int)<=(d:Int):=(by omega);replace hm:=Qa.mk hm;replace hc:=Qa.mk hc;replace q1:=Qa.mk q1;obtain⟨a',ha'⟩: ∃a',a'=a.add o:=⟨_,rfl⟩;rw[<-ha'] at e2' hy;replace ho:=Qa.mk ho;replace hd:=Qa.mk hd;replace ha':=Qa.mk ha';clear q2 q3 e2;gi_wp2;refine hR2.out.mono ?_;rintro e W3 ⟨rfl,hJ3,hk3⟩;have b1:=(Q6 hk3.2.1).trans e1;have b2:=(Q6 hk3.2.2).trans e2';have b3:=(Za hk3.2.2 (o:=0)).trans e3;have hb3:Below wS.heap.size wS W3:=hb.trans hk3.1;have hs3:=hk3.1.size;replace hJ3:=Qa.mk hJ3;clear hR2 e1 e2' e3 hk3 hb hy;gi_wp2;go_roundw
   case rel=>
    refine⟨k+1,by go_num,by omega,(World.cell?_setCell_far _ _ _ _ (by simp;omega)).trans b1,⟨fun hk1=> ?_⟩,?_,hb3.setCell (by simp;omega) _,by simp;omega,⟨HJ.out _ _ _ hJ3.out⟩⟩
    ·obtain⟨p1,p2,p3,p4⟩:=HN.out (k+1) hk1
     have hq:=q1.out;have hmo:=hm.out;have hco:=hc.out;rw[hq] at p3 ⊢;rw[World.cell?_setCell_same' _ _ _ (by rw[b2];rfl),if_neg (by omega),ha'.out,Addr.add_add];rw[show m-d=128-(o+d) by omega,show c-d=c0-(o+d) by omega]
    ·simpa using b3
   case measure=>simp[intOf];omega
  ·obtain rfl:k=l.length:=by omega
   gi_wp2;go_end0;exact⟨⟨_,rfl⟩,hJs.out⟩
theorem Qaj (A0 A1:Option Addr) (n0 c0 n1 c1:Nat) (w:World):
  Calls Tryz.prog 99 #[.slice A0 n0 c0,.slice A1 n1 c1] w fun e w'=>e= .returned (.func (.func 156) #[] #[.pointer (some ⟨w.heap.size+1,0,none⟩),.pointer (some ⟨w.heap.size,0,none⟩)])/\w'=(w.alloc (.cells #[.slice A0 n0 c0] 22)).alloc (.cells #[.slice A1 n1 c1] 22):=by
 go_enter Tryz.func99,Tryz.ntmps99;go_wp2;go_ret;exact⟨rfl,rfl⟩
end Q16

namespace Q16
attribute [local go_sem] Qh Qi Qk Ql Qd Qe
open Q15 Runs Go.Shelf
attribute [local go_sem] Oper.semAt_some
theorem Yn {α:Type} {D:Kd α} {e base:Nat} {W:World} {v:Value} {xs:List α} (h:D.R e W base (fun _=>True) v xs) {p:Addr} (hp:p.block<base) (u:Value):D.R e (W.setCell p u) base (fun _=>True) v xs:=
 Kd.Xz (Kd.U7 (Kd.Zd h) (fun k hk e=>by have:=hk.2.1;omega) u) (fun _ _=>trivial)
theorem Yc {α:Type} {D:Kd α} {e base:Nat} {W W':World} {v:Value} {xs:List α} {row:Option Nat} (h:D.R e W base (fun _=>True) v xs) (hg:W.grownBy W' row) (hr: ∀r,row=some r-> ∃o:Obj,W.heap[r]? =some o/\o.isCells=false):D.R e W' base (fun _=>True) v xs:=
 Kd.Xz (Kd.R_grown (Kd.Zd h) hg (fun k hk e=>by
  obtain⟨_,_,_,q,_,cells,hc⟩:=hk;obtain⟨o,ho,hco⟩:=hr k e.symm;rw[hc] at ho;cases ho
  cases hco)) (fun _ _=>trivial)
theorem Qeb {α:Type} {D:Kd α} {e base:Nat} {W W':World} {v:Value} {xs:List α} (h:D.R e W base (fun _=>True) v xs) (hg:W.grownBy W' v.ownBlock):KeepsOthers W W':=
 ⟨hg.size,fun k o hk ho=>(hg.block k (Array.getElem?_eq_some_iff.1 hk).1 (fun e=>by
  obtain⟨_,_,_,q,_,cells,hc⟩:=(Kd.Zd h).1 k e.symm;rw[hk] at hc;cases hc
  cases ho)).trans hk⟩
end Q16

namespace Sca
attribute [local go_sem] Qh Qi Qk Ql Qd Qe
open Q15
def Ta:List Int:=[15,15,15,15,15,15,14,14,14,14,14,14,14,14,14,14,14,14,14,14,14,14,14,14,14,14,14,14,14,14,14,14,14,14,13,13,13,13,13,13,13,13,13,13,13,13,13,13,13,13,13,13,12,12,12,12,12,12,12,12,12,12,12,12,12,11,11,11,11,11,11,11,11,11,10,10,10,10,10,10,9,9,9,9,9,8,8,8,7,7,7,6,6,5,3,1,3,5,6,6,7,7,7,8,8,8,9,9,9,9,9,10,10,10,10,10,10,11,11,11,11,11,11,11,11,11,12,12,12,12,12,12,12,12,12,12,12,12,12,13,13,13,13,13,13,13,13,13,13,13,13,13,13,13,13,13,13,13,13,14,14,14,14,14,14,14,14,14,14,14,14,14,14,14,14,14,14,14,14,14,14,14,14,14,14,15,15,15,15,15,15]
theorem Bz:Ta.length=191:=by decide+kernel
def U3 (d:Int):Int:=rd Ta (d+95)
theorem lenL_bd: ∀x∈Ta,1<=x/\x<=15:=by decide+kernel
theorem Dw {d:Int} (h0: -95<=d) (h1:d<=95):1<=U3 d/\U3 d<=15:=by
 have h:=Qp Ta (d+95).toNat (by rw[Bz];omega);rw[show(((d+95).toNat :Nat):Int)=d+95 by omega] at h;exact lenL_bd _ h
theorem tab_all: ∀i:Fin 191,(((ByteArray.mk #[111,111,111,111,111,111,110,110,110,110,110,110,110,110,110,110,110,110,110,110,110,110,110,110,110,110,110,110,110,110,110,110,110,110,109,109,109,109,109,109,109,109,109,109,109,109,109,109,109,109,109,109,108,108,108,108,108,108,108,108,108,108,108,108,108,107,107,107,107,107,107,107,107,107,106,106,106,106,106,106,105,105,105,105,105,104,104,104,103,103,103,102,102,101,99,97,99,101,102,102,103,103,103,104,104,104,105,105,105,105,105,106,106,106,106,106,106,107,107,107,107,107,107,107,107,107,108,108,108,108,108,108,108,108,108,108,108,108,108,109,109,109,109,109,109,109,109,109,109,109,109,109,109,109,109,109,109,109,109,110,110,110,110,110,110,110,110,110,110,110,110,110,110,110,110,110,110,110,110,110,110,110,110,110,110,111,111,111,111,111,111])[i.1]'(by show i.1<191;exact i.2)).toNat :Int)=rd Ta ((i.1:Nat):Int)+96:=by decide+kernel
theorem tab_at {d:Int} (h0: -95<=d) (h1:d<=95) (hb:(d+95).toNat <(ByteArray.mk #[111,111,111,111,111,111,110,110,110,110,110,110,110,110,110,110,110,110,110,110,110,110,110,110,110,110,110,110,110,110,110,110,110,110,109,109,109,109,109,109,109,109,109,109,109,109,109,109,109,109,109,109,108,108,108,108,108,108,108,108,108,108,108,108,108,107,107,107,107,107,107,107,107,107,106,106,106,106,106,106,105,105,105,105,105,104,104,104,103,103,103,102,102,101,99,97,99,101,102,102,103,103,103,104,104,104,105,105,105,105,105,106,106,106,106,106,106,107,107,107,107,107,107,107,107,107,108,108,108,108,108,108,108,108,108,108,108,108,108,109,109,109,109,109,109,109,109,109,109,109,109,109,109,109,109,109,109,109,109,110,110,110,110,110,110,110,110,110,110,110,110,110,110,110,110,110,110,110,110,110,110,110,110,110,110,111,111,111,111,111,111]).size):(((ByteArray.mk #[111,111,111,111,111,111,110,110,110,110,110,110,110,110,110,110,110,110,110,110,110,110,110,110,110,110,110,110,110,110,110,110,110,110,109,109,109,109,109,109,109,109,109,109,109,109,109,109,109,109,109,109,108,108,108,108,108,108,108,108,108,108,108,108,108,107,107,107,107,107,107,107,107,107,106,106,106,106,106,106,105,105,105,105,105,104,104,104,103,103,103,102,102,101,99,97,99,101,102,102,103,103,103,104,104,104,105,105,105,105,105,106,106,106,106,106,106,107,107,107,107,107,107,107,107,107,108,108,108,108,108,108,108,108,108,108,108,108,108,109,109,109,109,109,109,109,109,109,109,109,109,109,109,109,109,109,109,109,109,110,110,110,110,110,110,110,110,110,110,110,110,110,110,110,110,110,110,110,110,110,110,110,110,110,110,111,111,111,111,111,111])[(d+95).toNat]'hb).toNat :Int)=U3 d+96:=by
 have h:=tab_all ⟨(d+95).toNat,by omega⟩;rw[show(((d+95).toNat :Nat):Int)=d+95 by omega] at h;exact h
theorem U4 (d:Int) (w:World) (h0: -95<=d) (h1:d<=95):
  Calls Tryz.prog 154 #[.int .i64 d] w fun e w'=>e= .returned (.int .i64 (U3 d))/\w'=w:=by
 have H:=Qa.mk (fun hb=>tab_at h0 h1 hb);have hx:=Qa.mk (Dw h0 h1);obtain⟨x,hx2⟩: ∃x,x=U3 d:=⟨_,rfl⟩;rw[<-hx2] at H hx ⊢;clear hx2;go_enter Tryz.func154,Tryz.ntmps154;go_wp2;rw[H.out];go_ret;have:=hx.out;exact⟨by rw[show(x+96-97)%256+1=x by omega];rfl,rfl⟩
theorem Mf (w:World):
  Calls Tryz.prog 152 #[] w fun e w'=> ∃v,e= .returned v/\(Kd.int .i64).R 3 w' w.heap.size (fun _=>True) v Ta/\Below w.heap.size w w':=by
 have hlen:=Bz
 have HT:Qa (∀k:Nat,k<191->Ta.take (k+1)=Ta.take k++[U3 ((k:Int)-95)]):=⟨fun k hk=>by
  rw[Qu Ta k (by omega)];unfold U3
  rw[show(k:Int)-95+95=k by omega]⟩
 have hL:=Qa.mk (fun(k:Nat) (hk:k<191) (W:World)=>U4 ((k:Int)-95) W (by omega) (by omega));have HB:=Qa.mk (fun(k:Nat) (hk:k<191)=>Dw (d:=(k:Int)-95) (by omega) (by omega));obtain⟨LL,hLL⟩: ∃LL,LL=Ta:=⟨_,rfl⟩;rw[<-hLL] at hlen HT ⊢;clear hLL;have hlen':=Qa.mk hlen;clear hlen;go_enter Tryz.func152,Tryz.ntmps152;go_wp2;go_loopw [1,3] (fun o i wr=> ∃k:Nat,i= .int .i64 k/\k<=191/\Qa ((Kd.int .i64).R 3 wr w.heap.size (fun _=>True) o (LL.take k))/\Below w.heap.size w wr) (fun _ i _=>191-(intOf i).toNat)
 case atStart=>exact⟨0,rfl,by omega,⟨Kd.Zx _ _ _ _ _⟩,Below.refl _ _⟩
 case round=>
  obtain⟨k,rfl,hk,ho,hb⟩:=hrel;by_cases hlt:k<191
  ·have hT:=Qa.mk (HT.out k hlt)
   have hLk:=Qa.mk (hL.out k hlt);have hkI:(k:Int)<191:=(by omega);obtain⟨x,hx⟩: ∃x,x=U3 ((k:Int)-95):=⟨_,rfl⟩;rw[<-hx] at hT hLk;obtain⟨Y,hY⟩: ∃Y,Y=LL.take k:=⟨_,rfl⟩;have hYl:Y.length<=191:=(by rw[hY,List.length_take];omega);rw[<-hY] at ho hT;have hlt':=Qa.mk hlt;clear hY hx hlt;go_wp2_with (first|(go_at_call 154;refine(hLk.out _).mono ?_;rintro e w' ⟨rfl,hw'⟩;rw[hw'];clear hw')|(at_builtin;refine Kd.Q3 (Kd.int .i64) (w0:=w) w.heap.size rfl (.tmp 6) (.tmp 10) 22 3 (.int .i64 0) 8 rfl Tryz.underlying22 Qw rfl (by decide) (by omega) u1 Y (x) [.int .i64 (x)] (fun _=>True) (fun _=>False) rfl rfl rfl (fun _ hk=>hk.elim) (fun _ _=>trivial) ho.out (Qa.mk hb).out (Qa.mk hb).out.size (by omega) ?_;intro v1 wA hoA hbA hgA hatA;have HOA:=Qa.mk hoA;have HBA:=Qa.mk hbA;clear hoA hbA hgA hatA));go_roundw
   case rel=>exact⟨k+1,by go_num,by have:=hlt'.out;omega,⟨by rw[hT.out];exact HOA.out⟩,HBA.out⟩
   case measure=>have:=hlt'.out;simp[intOf];omega
  ·obtain rfl:k=191:=by omega
   have hR:=ho.out;rw[List.take_of_length_le (by rw[hlen'.out];exact Nat.le_refl _)] at hR;have hR2:=Qa.mk hR;clear hR ho;go_wp2;go_ret;exact⟨_,rfl,hR2.out,hb⟩
end Sca

namespace Sca
attribute [local go_sem] Qh Qi Qk Ql Qd Qe
open Q15
def isS (s:Int):Bool:=decide (0<=s/\s<=95)
def Vm (ss:List Int) (us:List Bool) (k:Nat):Bool:=(List.range k).any fun i=>decide (rd ss i≠0)&& !us.getD i false
def scE (ss:List Int) (us:List Bool):Int:=if ss.all isS=true then(if Vm ss us ss.length=true then 4 else 0) else 6
theorem N9 (ss:List Int) (us:List Bool) (k:Nat):Vm ss us (k+1)=(Vm ss us k||(decide (rd ss k≠0)&& !us.getD k false)):=by
 unfold Vm;rw[List.range_succ,List.any_append];simp
theorem Yv {w w1:World} {A:Option Addr} {l:List Bool} (hr:Kd.bool.C w A l.length l) (hb:Below w.heap.size w w1) {k:Nat} (hk:k<l.length):
  ∃ad,A=some ad/\w1.cell? (ad.add k)=some (.bool (l.getD k false)):=by
 obtain⟨-,-,r3⟩:=Kd.Xm (enc:=Value.bool) (h1:=fun _=>rfl) (d:=false) hr;obtain⟨a,rfl,hc⟩:=r3 (by omega);refine⟨a,rfl,cnx ?_ hb⟩;have:=hc k hk;simpa using this
theorem is_calls (s:Int) (w:World):
  Calls Tryz.prog 208 #[.int .i64 s] w fun e w'=>e= .returned (.bool (isS s))/\w'=w:=by
 by_cases h:0<=s
 ·by_cases h2:s<=95
  ·have hi:Qa (isS s=true):=⟨decide_eq_true ⟨h,h2⟩⟩
   go_enter Tryz.func208,Tryz.ntmps208;go_wp2;go_ret;exact⟨by rw[hi.out];simp[h2],rfl⟩
  ·have hi:Qa (isS s=false):=⟨decide_eq_false (by omega)⟩
   go_enter Tryz.func208,Tryz.ntmps208;go_wp2;go_ret;exact⟨by rw[hi.out];simp[h2],rfl⟩
 ·have hi:Qa (isS s=false):=⟨decide_eq_false (by omega)⟩
  go_enter Tryz.func208,Tryz.ntmps208;go_wp2;go_ret;exact⟨by rw[hi.out];rfl,rfl⟩
theorem Tg (A B:Option Addr) (c1 c2:Nat) (ss:List Int) (us:List Bool) (w:World) (hr:(Kd.int .i64).C w A ss.length ss) (hr2:Kd.bool.C w B us.length us) (hl:ss.length=us.length) (h128:us.length<=128):
  Calls Tryz.prog 169 #[.slice A ss.length c1,.slice B us.length c2] w fun e w'=>e= .returned (.int .i64 (scE ss us))/\Below w.heap.size w w':=by
 have HR:=Qa.mk hr;have HR2:=Qa.mk hr2;have HL:=Qa.mk hl;have hne:((ss.length:Int) != (us.length:Int))=false:=(by rw[hl];simp);have hne2:(ss.length != us.length)=false:=(by rw[hl];simp);have hlI:(ss.length:Int)<=128:=(by omega);have hlI2:(us.length:Int)<=128:=(by omega);have HI:=Qa.mk is_calls;clear hr hr2 hl h128;go_enter Tryz.func169,Tryz.ntmps169;go_wp2;go_loopw [5,20] (fun x i wr=> ∃k:Nat,i= .int .i64 k/\k<=ss.length/\Qa (x= .int .i64 (if Vm ss us k=true then 4 else 0))/\Qa ((ss.take k).all isS=true)/\Below w.heap.size w wr) (fun _ i _=>ss.length-(intOf i).toNat)
 case atStart=>exact⟨0,rfl,by omega,⟨by simp[Vm]⟩,⟨by simp⟩,Below.refl _ _⟩
 case round=>
  obtain⟨k,rfl,hk,hx,ha,hb⟩:=hrel;by_cases hlt:k<ss.length
  ·obtain⟨ad,rfl,hcell⟩:=Qn HR.out hb hlt
   obtain⟨ad2,rfl,hcell2⟩:=Yv HR2.out hb (k:=k) (by rw[<-HL.out];exact hlt);have hltI:(k:Int)<(ss.length:Int):=(by omega);have hltI2:(k:Int)<(us.length:Int):=(by rw[<-HL.out];exact hltI);have hIc:=Qa.mk (fun W=>HI.out (rd ss k) W);have hT:Qa ((ss.take (k+1)).all isS=isS (rd ss k)):=⟨by rw[Qu ss k hlt,List.all_append,ha.out];simp⟩;have hU:=Qa.mk (N9 ss us k)
   have hall:Qa (isS (rd ss k)=false->scE ss us=6):=⟨fun h=>by
    unfold scE;rw[if_neg];intro h2;have:=List.all_eq_true.1 h2 _ (Qp ss k hlt);rw[h] at this
    exact absurd this (by simp)⟩
   obtain⟨s,hs⟩: ∃s,s=rd ss k:=⟨_,rfl⟩;obtain⟨u,hu⟩: ∃u,u=us.getD k false:=⟨_,rfl⟩;rw[<-hs] at hcell hIc hT hU hall;rw[<-hu] at hcell2 hU;obtain⟨r,hr⟩: ∃r,r=isS s:=⟨_,rfl⟩;rw[<-hr] at hIc hT hall;have hlt':=Qa.mk hlt;clear hs hu hr hlt hk
   cases r with
   |false=>
    go_wp2_with (first|(go_at_call 208;refine(hIc.out _).mono ?_;rintro e w' ⟨rfl,hw'⟩;rw[hw'];clear hw'));go_ret;exact⟨by rw[hall.out trivial];rfl,hb⟩
   |true=>
    by_cases h0:s=0
    ·subst h0
     go_wp2_with (first|(go_at_call 208;refine(hIc.out _).mono ?_;rintro e w' ⟨rfl,hw'⟩;rw[hw'];clear hw'));go_roundw
     case rel=>exact⟨k+1,by go_num,hlt'.out,⟨by rw[hU.out,hx.out];simp⟩,⟨hT.out⟩,hb⟩
     case measure=>have:=hlt'.out;simp[intOf];omega
    ·have hb0:(s != 0)=true:=by simpa using h0
     cases u with
     |false=>
      have hU2:Qa (Vm ss us (k+1)=true):=⟨by rw[hU.out];simp[h0]⟩;clear hU h0;go_wp2_with (first|(go_at_call 208;refine(hIc.out _).mono ?_;rintro e w' ⟨rfl,hw'⟩;rw[hw'];clear hw'));go_roundw
      case rel=>exact⟨k+1,by go_num,hlt'.out,⟨by rw[hU2.out];rfl⟩,⟨hT.out⟩,hb⟩
      case measure=>have:=hlt'.out;simp[intOf];omega
     |true=>
      have hU2:Qa (Vm ss us (k+1)=Vm ss us k):=⟨by rw[hU.out];simp⟩;clear hU h0;go_wp2_with (first|(go_at_call 208;refine(hIc.out _).mono ?_;rintro e w' ⟨rfl,hw'⟩;rw[hw'];clear hw'));go_roundw
      case rel=>exact⟨k+1,by go_num,hlt'.out,⟨by rw[hU2.out];exact hx.out⟩,⟨hT.out⟩,hb⟩
      case measure=>have:=hlt'.out;simp[intOf];omega
  ·obtain rfl:k=ss.length:=by omega
   have hx2:=hx.out;subst hx2;have hS:Qa (scE ss us=if Vm ss us ss.length=true then 4 else 0):=⟨by unfold scE;rw[if_pos (by have:=ha.out;rwa [List.take_length] at this)]⟩;obtain⟨E,hE⟩: ∃E:Int,(if Vm ss us ss.length=true then 4 else 0)=E:=⟨_,rfl⟩;rw[hE] at hS ⊢;clear hE hx;go_wp2;go_ret;exact⟨by rw[hS.out];rfl,hb⟩
end Sca

namespace Q16
attribute [local go_sem] Qh Qi Qk Ql Qd Qe
open Q15 Runs Go.Shelf
attribute [local go_sem] Oper.semAt_some
abbrev KL:Kd (List Int):=Kd.slice 3 (Kd.int .i64)
def Qa9 (g:Nat) (fs cs:Array Value) (a:Addr) (l:List Int) (w:World) (k:Nat) (r:List Int):Prop:=
 ∀W,Below w.heap.size w W->Calls Tryz.prog g (fs++encB a l k++cs) W fun e w'=> ∃v,e= .returned v/\(Kd.int .i64).R 3 w' W.heap.size (fun _=>True) v r/\Below W.heap.size W w'
theorem Jk:(Tryz.prog.info? 22).map (fun i=>(i.zero,i.size,i.bytes))=some (some (.slice none 0 0),1,24):=by kernel_rfl
theorem Ic (g:Nat) (fs cs:Array Value) (eg:Q15.Enters g) (a:Addr) (c0:Nat) (A1:Option Addr) (cap:Nat) (l:List Int) (hl:isW l=true) (hc0:128<=c0) (hc9:c0<=9223372036854775807) (r:Nat->List Int)
  (w:World) (hr:(Kd.int .i64).C w A1 l.length l) (hof: ∀k,k<l.length->Qa9 g fs cs a l w k (r k)):
  Calls Tryz.prog 59 #[.slice (some a) 128 c0,.slice A1 l.length cap,.func (.func g) fs cs] w fun e w'=> ∃v,e= .returned v/\KL.R 22 w' w.heap.size (fun _=>True) v ((List.range l.length).map r)/\Below w.heap.size w w':=by
 obtain⟨W2,hW2⟩: ∃W2,W2=(w.alloc (.cells #[.func (.func g) fs cs] 82)).alloc (.cells #[.slice none 0 0] 24):=⟨_,rfl⟩;have hB2:Below w.heap.size w W2:=(by rw[hW2];exact((Below.refl _ _).alloc (Nat.le_refl _) _).alloc (by simp) _);have a0:W2.cell? ⟨w.heap.size,0,none⟩=some (.func (.func g) fs cs):=(by rw[hW2];go_simp);have a1:W2.cell? ⟨w.heap.size+1,0,none⟩=some (.slice none 0 0):=(by rw[hW2];go_simp);have f1:W2.frozen? ⟨w.heap.size+1,0,none⟩=false:=(by rw[hW2];go_simp);have s2:w.heap.size+2<=W2.heap.size:=(by rw[hW2];simp);have hOF:=Qa.mk hof;have hR1:=Qa.mk hr;have hL:=Qa.mk hl;have hll:(l.length:Int)<=32:=(by have:=(Qx.1 hl).2.2;omega);clear hof hr hl;unfold Q15.Enters at eg;refine(callsIn_wide (n:=3)).1 ?_;refine callsIn_of_wp_marks Tryz.func59 rfl trivial ?_ rfl;simp only[Tryz.ntmps59,List.size_toArray,List.length_cons,List.length_nil,Nat.reduceAdd,Nat.reduceSub,Array.replicate_succ,Array.replicate_zero,List.push_toArray,List.append_toArray,List.nil_append,List.cons_append];gi_wp2_with fail;rw[<-hW2];clear hW2;refine⟨trivial,(callsIn_wide.2 (Qaj (some a) A1 128 c0 l.length cap W2)).mono ?_⟩;rintro e W3 ⟨rfl,hw3⟩;have hb3:Below W2.heap.size W2 W3:=(by rw[hw3];exact((Below.refl _ _).alloc (Nat.le_refl _) _).alloc (by simp) _);have d1:W3.cell? ⟨W2.heap.size,0,none⟩=some (.slice (some a) 128 c0):=(by rw[hw3];go_simp);have d2:W3.cell? ⟨W2.heap.size+1,0,none⟩=some (.slice A1 l.length cap):=(by rw[hw3];go_simp);have g1:W3.frozen? ⟨W2.heap.size,0,none⟩=false:=(by rw[hw3];go_simp);have s3:W2.heap.size+2<=W3.heap.size:=(by rw[hw3];simp);have hB3:=bnx hB2 hb3;clear hw3;gi_wp2_with fail;have hmo:Tryz.prog.follows .mixedOrders =true:=by kernel_rfl
 refine Md rfl (by omega) (gf:=156) (lb:= #[.pointer (some ⟨W2.heap.size+1,0,none⟩),.pointer (some ⟨W2.heap.size,0,none⟩)]) rfl trivial (enters_of Tryz.func156 (by kernel_rfl) rfl)
  (Qai Fence.wide _ trivial rfl (by omega) (W2.heap.size+1) W2.heap.size a c0 A1 cap l hL.out hc0 hc9 w W3 hR1.out hB3 (by omega) (by omega) (by omega) (by omega) (by omega) d2 d1 g1) (by omega)
  (fun h k=>h.trans k) (fun W l' o o' hl'=>Xi.putObj (N:=W3.heap.size) (by omega) (by omega) (by omega) W l' o o' hl') (Below.refl _ _) (fun _=>rfl)
  (fun k W=>W.cell? ⟨w.heap.size,0,none⟩=some (.func (.func g) fs cs)/\W.frozen? ⟨w.heap.size+1,0,none⟩=false/\(∃v,W.cell? ⟨w.heap.size+1,0,none⟩=some v/\KL.R 22 W W3.heap.size (fun _=>True) v ((List.range k).map r))/\Below w.heap.size w W/\W3.heap.size<=W.heap.size)
  ?own ?cell ?start
  (fun k=>{tmps:= #[.slice (some a) 128 c0,.slice A1 l.length cap,.func (.func g) fs cs,undef,undef,.pointer (some ⟨w.heap.size,0,none⟩),.slice none 0 0,.pointer (some ⟨w.heap.size+1,0,none⟩),.int .i64 k,.slice (some (a.add (off l k))) (wd l k) (wd l k),.slice (some a) 128 c0,.slice A1 l.length cap,.func (.func 156) #[] #[.pointer (some ⟨W2.heap.size+1,0,none⟩),.pointer (some ⟨W2.heap.size,0,none⟩)],.int .i64 k,.slice (some (a.add (off l k))) (wd l k) (wd l k),undef,undef,undef,undef,undef,undef,undef,undef],defers:=[]}) ?assign ?body ?done
 case own=>
  rintro k W W' row ⟨e0,e1,⟨v,e2,e3⟩,e4,e5⟩ hg hrow;exact⟨cell_kept e0 hg (fun r e=>(hrow r e).2),(frozen_kept e2 hg (fun r e=>(hrow r e).2)).trans e1,⟨v,cell_kept e2 hg (fun r e=>(hrow r e).2),Yc e3 hg (fun r e=>(hrow r e).2)⟩,e4.grown hg e4.size (fun r e=>by have:=(hrow r e).1;omega),Nat.le_trans e5 hg.size⟩
 case cell=>
  rintro k W v ⟨e0,e1,⟨u,e2,e3⟩,e4,e5⟩;exact⟨(World.cell?_setCell_far _ _ _ _ (by simp;omega)).trans e0,by simpa using e1,⟨u,(World.cell?_setCell_far _ _ _ _ (by simp;omega)).trans e2,Yn e3 (by simp;omega) _⟩,e4.setCell (by simp;omega) _,by simpa using e5⟩
 case start=>exact⟨cnx a0 hb3,(hb3.frozen (p:=⟨w.heap.size+1,0,none⟩) (by simp;omega)).trans f1,⟨_,cnx a1 hb3,Kd.Zx _ _ _ _ _⟩,hB3,Nat.le_refl _⟩
 case assign=>
  intro l' k W K _ hK;unfold encB;gi_wp2;exact hK
 case body=>
  rintro L k W ⟨e0,e1,⟨v,e2,e3⟩,e4,e5⟩ hk;have hF:=hOF.out k hk;unfold Qa9 encB at hF;obtain⟨o,ho⟩: ∃o,o=a.add (off l k):=⟨_,rfl⟩;obtain⟨d,hd⟩: ∃d,d=wd l k:=⟨_,rfl⟩;rw[<-ho,<-hd] at hF ⊢;replace hF:=Qa.mk hF;replace ho:=Qa.mk ho;replace hd:=Qa.mk hd;gi_wp2_with fail;refine Held.Zm (fun w'=>w'.cell? ⟨w.heap.size,0,none⟩=some (.func (.func g) fs cs)/\w'.cell? ⟨w.heap.size+1,0,none⟩=some v/\Below W3.heap.size W w') [7] hmo (by kernel_rfl) (fun⟨_,_,h⟩=>h) ⟨e0,e2,(Below.refl _ _).drew⟩ (fun hHeld=> ?_)
  (refine Tk.tl 0 (v) hHeld ?_)
  (refine Tk.tl 1 (.func (.func g) fs cs) hHeld ?_)
  (refine Tk.tl 2 (.int .i64 k) hHeld ?_)
  (refine Tk.tl 3 (.slice (some o) d d) hHeld ?_)
  (refine Qg (rs:=[4]) (by kernel_rfl) (by simp) ?_;refine Qc.cons rfl (by decide) (fun K hK=> ?_) Qc.nil)
  go_simp;simp only[Array.append_assoc] at hF;have hbd:Below W.heap.size W W.drew:=(Below.refl _ _).drew;refine(hF.out _ (bnx e4 hbd)).mono ?_;rintro e w1 ⟨x,rfl,hx,hb1⟩;have hxM:KL.M w1 W3.heap.size (fun k=>W.drew.heap.size<=k) (r k) [x]:=⟨x,rfl,Kd.Zz (Kd.Xz (Kd.Zd hx) (fun k hk=>hk.2.1)) (Nat.le_trans e5 hbd.size)⟩;obtain⟨A5,p5,rfl,_,_⟩:=Kd.Qs hx;have hbw:=bnx hbd hb1;have hbw3:Below W3.heap.size W w1:=hbw.mono e5
  (go_wp2_with fail;refine hK.out _ _ (⟨cnx e0 hbw,cnx e2 hbw,hbw3⟩) (fun hHeld=> ?_);clear hK K;try simp only[Act.put,Tk.z1,Tk.z2,Tk.z3,Tk.z4,Tk.z5,Tk.z6])
  have hR:=Kd.Q4 e3 hbw
  (refine Qg (rs:=[5]) (by kernel_rfl) (by simp) ?_;refine Qc.cons rfl (by decide) (fun K hK=> ?_) Qc.nil)
  go_simp
  (go_wp2_with fail;refine hK.out _ _ (⟨Xa _ hHeld.1,Xa _ hHeld.2.1,hbw3.alloc (Nat.le_trans e5 hbw.size) _⟩) (fun hHeld=> ?_);clear hK K;try simp only[Act.put,Tk.z1,Tk.z2,Tk.z3,Tk.z4,Tk.z5,Tk.z6])
  (refine Qg (rs:=[6]) (by kernel_rfl) (by simp) ?_;refine Qc.cons rfl (by decide) (fun K hK=> ?_) Qc.nil)
  refine Kd.V5 KL (w0:=W) W3.heap.size rfl (.tmp 15) (.tmp 20) 24 22 (.slice none 0 0) 24 rfl Tryz.underlying24 Jk rfl (by decide) (by decide) v ((List.range k).map r) (r k) [.slice A5 (r k).length p5] (fun _=>True) (fun k=>W.drew.heap.size<=k) rfl rfl hxM (fun j hj=>⟨trivial,fun e=>by have:=((Kd.Zd e3).1 j e.symm).2.2.1;have:=hbd.size;omega⟩) (fun _ _=>trivial) hR hbw3 (Nat.le_trans e5 hbw.size) (by simp;omega) ?_;intro v1 w2 hR2 hB2' hg2 hat2;have p0:=(hB2'.cell (p:=⟨w.heap.size,0,none⟩) (by simp;omega)).trans e0;have p1:=(hB2'.cell (p:=⟨w.heap.size+1,0,none⟩) (by simp;omega)).trans e2;have p2:=(hB2'.frozen (p:=⟨w.heap.size+1,0,none⟩) (by simp;omega)).trans e1
  (go_wp2_with fail;refine hK.out _ _ (⟨p0,p1,hB2'⟩) (fun hHeld=> ?_);clear hK K;try simp only[Act.put,Tk.z1,Tk.z2,Tk.z3,Tk.z4,Tk.z5,Tk.z6])
  have hko:=(Zq hbw).trans (Qeb hR hg2);obtain⟨A4,p4,rfl,_,_⟩:=Kd.Qs hR2
  (refine Qg (rs:=[7]) (by kernel_rfl) (by simp) ?_;refine Qc.Zl rfl (by decide) (fun K hK=> ?_) Qc.nil)
  go_simp;go_wp2_with fail;refine hK.out _ _ ?_;clear hK K;refine Qq (by kernel_rfl) ?_ _;have hBw:Below w.heap.size W w2:=hB2'.mono (by omega);have hsz:W3.heap.size<=w2.heap.size:=Nat.le_trans e5 hB2'.size
  refine⟨(hko.trans (KeepsOthers.setCell _ _ _)).from _,⟨hBw.setCell (by simp) _,(Xh _ _ (by omega)).trans (hB2'.block _ (by omega)),(Xh _ _ (by omega)).trans (hB2'.block _ (by omega))⟩,
   (World.cell?_setCell_far _ _ _ _ (by simp)).trans p0,by simpa using p2,⟨_,World.cell?_setCell_same' _ _ _ (by rw[p1];rfl),?_⟩,(e4.trans hBw).setCell (by simp) _,by simpa using hsz⟩
  rw[List.range_succ,List.map_append];simp only[List.length_append,List.length_map,List.length_range,List.length_cons,List.length_nil,Nat.zero_add] at hR2;exact Yn (p:=⟨w.heap.size+1,0,none⟩) hR2 (show w.heap.size+1<W3.heap.size by omega) _
 case done=>
  rintro D W hD ⟨e0,e1,⟨v,e2,e3⟩,e4,e5⟩ hK;have hgD:=grownBy_putObj' W D (.deferred none);have hrD: ∀r,some D=some r-> ∃o:Obj,W.heap[r]? =some o/\o.isCells=false:=fun r e=>by cases e;exact⟨_,hK,rfl⟩
  have hR9:=Kd.Zz (base':=w.heap.size) (Yc e3 hgD hrD) (by omega);have hB9:Below w.heap.size w (W.putObj D (.deferred none)):=e4.grown hgD e4.size (fun r e=>by cases e;omega);obtain⟨A4,p4,rfl,_,_⟩:=Kd.Qs e3;gi_wp2;refine⟨by simp,.inl ⟨_,_,rfl,run_takeDeferred hK,?_⟩⟩;rw[List.length_map,List.length_range] at hR9;exact⟨.slice A4 l.length p4,by simp[results,Tryz.f59,go_sem],_,rfl,hR9,hB9⟩
end Q16

namespace Q16
attribute [local go_sem] Qh Qi Qk Ql Qd Qe
open Q15
theorem Qc4 {w w1:World} {A:Option Addr} {ls:List (List Int)} (hr:KL.C w A ls.length ls) (hb:Below w.heap.size w w1) {k:Nat} (hk:k<ls.length):
  ∃ad A' c,A=some ad/\w1.cell? (ad.add k)=some (.slice A' (ls[k]).length c)/\(ls[k]).length <=c/\(Kd.int .i64).C w1 A' (ls[k]).length ls[k]:=by
 obtain⟨_,_,h⟩:=hr;obtain⟨ad,e,h2⟩:=h (by omega);subst e;obtain⟨cs,hz,⟨A',c,hcs,hc,hC⟩,hcell⟩:=h2 k _ (List.getElem?_eq_getElem hk);subst hcs;have:=hcell 0 _ rfl;exact⟨ad,A',c,rfl,cnx (by simpa[KL,Kd.slice] using this) hb,hc,Kd.Qf hC hb⟩
theorem Uw (A:Option Addr) (cap:Nat) (ls:List (List Int)) (w:World) (hr:KL.C w A ls.length ls) (hl:ls.length<=1000) (hn: ∀l∈ls,l.length<=1000):
  Calls Tryz.prog 58 #[.slice A ls.length cap] w fun e w'=> ∃v,e= .returned v/\(Kd.int .i64).R 3 w' w.heap.size (fun _=>True) v ls.flatten/\Below w.heap.size w w':=by
 have HR:=Qa.mk hr;have HN:=Qa.mk hn;have hlI:(ls.length:Int)<=1000:=(by omega);clear hr hn hl;go_enter Tryz.func58,Tryz.ntmps58;go_wp2;go_loopw [3,8] (fun s i wr=> ∃k:Nat,i= .int .i64 k/\k<=ls.length/\Qa ((Kd.int .i64).R 3 wr w.heap.size (fun _=>True) s (ls.take k).flatten)/\Qa (((ls.take k).flatten).length <=k*1000)/\Below w.heap.size w wr) (fun _ i _=>ls.length-(intOf i).toNat)
 case atStart=>exact⟨0,rfl,by omega,⟨Kd.Zx _ _ _ _ _⟩,⟨by simp⟩,Below.refl _ _⟩
 case round=>
  obtain⟨k,rfl,hk,hR,hle,hb⟩:=hrel;by_cases hlt:k<ls.length
  ·obtain⟨ad,A',c,rfl,hcell,hc,hC⟩:=Qc4 HR.out hb hlt
   have hT:ls.take (k+1)=ls.take k++[ls[k]]:=List.take_succ_eq_append_getElem hlt;have hn:=HN.out _ (List.getElem_mem hlt);obtain⟨l,hle2⟩: ∃l,l=ls[k]:=⟨_,rfl⟩;rw[<-hle2] at hcell hc hC hT hn;replace hT:=Qa.mk hT;replace hC:=Qa.mk hC;clear hle2;have hlen:((ls.take k).flatten.length +l.length)*8<=140737488355328:=(by have:=hle.out;omega);replace hlen:=Qa.mk hlen;replace hn:=Qa.mk hn;go_wp2_with (at_builtin;refine Kd.X8 (Kd.int .i64) (Rr:=(Kd.int .i64).K wr) (w0:=w) w.heap.size rfl (.tmp 12) (.tmp 13) 22 3 (.int .i64 0) 8 rfl Tryz.underlying22 Qw rfl (by decide) (by decide) u3 (ls.take k).flatten l A' l.length c (fun _=>True) (fun _=>False) rfl rfl hR.out hC.out (fun _ _ h=>h) (fun _ h=>h.elim) (fun _ _=>trivial) hb hb.size hlen.out ?_;intro v1 wA hoA hbA hgA hatA;have HOA:=Qa.mk hoA;clear hoA hgA hatA);go_roundw
   case rel=>exact⟨k+1,by go_num,by omega,⟨by rw[hT.out,List.flatten_append];simpa using HOA.out⟩,⟨by rw[hT.out,List.flatten_append,List.length_append];have:=hle.out;have:=hn.out;simp only[List.flatten_cons,List.flatten_nil,List.append_nil];omega⟩,hbA⟩
   case measure=>simp[intOf];omega
  ·obtain rfl:k=ls.length:=by omega
   have hR':=hR.out;rw[List.take_length] at hR';replace hR':=Qa.mk hR';clear hR hle;go_wp2;go_ret;exact⟨_,rfl,hR'.out,hb⟩
end Q16

namespace Q15
attribute [local go_sem] Qh Qi Qk Ql Qd Qe
def Zn (l:List Int) (s:Int):List Int:=if chk isQ l s=0 then l.map fun q=>sg q (V (Yh s) (Xp q)) else[]
section
variable (A:Option Addr) (cap:Nat) (l:List Int) (s limit:Int) (w:World) (hr:(Kd.int .i64).C w A l.length l)
include hr
theorem Cy:Calls Tryz.prog 70 #[.slice A l.length cap,.int .i64 s] w fun e w'=> ∃v,e= .returned (.tuple #[v,.int .i64 (chk isQ l s)])/\(Kd.int .i64).R 3 w' w.heap.size (fun _=>True) v (Zn l s)/\Below w.heap.size w w':=by
 unfold Zn;by_cases hk:chk isQ l s=0
 ·rw[if_pos hk,hk];exact Ty A cap l s w hr hk
 ·rw[if_neg hk];exact(Qdn A cap l s w hr hk).mono fun e w' ⟨he,hb⟩=>⟨_,he,Kd.Zx _ _ _ _ _,hb⟩
end
theorem Qa6 (l:List Int) (s:Int):(Zn l s).length <=128:=by
 unfold Zn
 split
 ·rename_i h;rw[List.length_map];exact(P8 h).2.1
 ·simp
end Q15

end Go.Proofs.YtnflnicdjioflaaGreatDoor
