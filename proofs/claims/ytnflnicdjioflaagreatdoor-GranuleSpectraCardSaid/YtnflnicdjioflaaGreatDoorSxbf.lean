/- A part of the proof. -/
import Derived.Test.YtnflnicdjioflaaGreatDoorSxbe
import Derived.Test.YtnflnicdjioflaaGreatDoorSxav
set_option linter.unusedVariables false
set_option linter.unusedSimpArgs false
set_option maxRecDepth 100000
set_option maxHeartbeats 8000000
namespace Go.Proofs.YtnflnicdjioflaaGreatDoor
open Go.RowKit Go.Proofs.YtnflnicdjioflaaGreatDoorW.PrintWords Go.Proofs.YtnflnicdjioflaaGreatDoorW.PrintLast Go.Proofs.YtnflnicdjioflaaGreatDoorW.PrintMore
namespace Rq
open Bk (X6 X7)
attribute [local go_sem] X6 X7 Qk Ql Qd Qe
open Q15
open Q21
open Bts (Rws Blk Rws.start Bv)
open Sca (Vm N9 Yv isS scE)
theorem Qdm {w wr w1:World} {G:List Blk} (hb:Below w.heap.size w wr) (h:Rws wr w1 [] G):Rws w w1 [] G:=
 ⟨bnx hb h.below,by simp,.nil,fun b hb'=>⟨(h.blk b hb').1,Nat.le_trans hb.size (h.blk b hb').2⟩,by simp,h.gs⟩
theorem Fq (w:World):
  Calls Tryz.prog 201 #[] w fun e w'=> ∃(g:Nat) (fin:List Int),e= .returned (.slice (some ⟨g,0,none⟩) 191 191)/\fin.length=191/\(∀n∈fin,1<=n/\n<=16)/\krI fin<=65536/\Rws w w' [] [⟨g,(fin.map (Value.int .i64)).toArray,3⟩]:=by
 obtain⟨fin,hp,hf1,hf2,hf3⟩:=lens_ok;have HE:=Qa.mk (And.intro hf1 (And.intro hf2 hf3));have hcl:Us.length=191:=by unfold Us;simp
 have HC:Qa (∀c∈Us,1<=c/\c<=1073741824):=⟨fun c hc=>by
  unfold Us at hc;obtain⟨s,hs,rfl⟩:=List.mem_map.1 hc;have:=cntF_bd s (List.mem_range.1 hs)
  omega⟩
 have HT:Qa (∀k,k<191->Us.take (k+1)=Us.take k++[cntF k]):=⟨fun k hk=>by
  rw[List.take_add_one];unfold Us;rw[List.getElem?_map,List.getElem?_range hk]
  rfl⟩
 have HLn:=Qa.mk (fun(A:Option Addr) (cap:Nat) (W:World) (h:(Kd.int .i64).C W A Us.length Us)=>R6 A cap Us fin W h (by omega) (by omega) HC.out hp);rw[hcl] at HLn;replace hcl:=Qa.mk hcl;clear hf1 hf2 hf3 hp HC;go_enter Tryz.func201,Tryz.ntmps201;go_wp2_with fail;go_loopw [1,7] (fun o i wr=> ∃k:Nat,i= .int .i64 k/\k<=191/\Qa ((Kd.int .i64).R 3 wr w.heap.size (fun _=>True) o (Us.take k))/\Qa (Below w.heap.size w wr)) (fun _ i _=>191-(intOf i).toNat)
 case atStart=>exact⟨0,rfl,by omega,⟨Kd.Zx _ _ _ _ _⟩,⟨Below.refl _ _⟩⟩
 case round=>
  obtain⟨k,rfl,hk,ho,hb⟩:=hrel;by_cases hlt:k<191
  ·have hkI:(k:Int)<191:=by omega
   have hT:=HT.out k hlt;have hlen:Qa (((Us.take k).length +1)*8<=140737488355328):=⟨by rw[List.length_take];omega⟩;obtain⟨q,hq⟩: ∃q,q=Us.take k:=⟨_,rfl⟩;rw[<-hq] at hT ho hlen;obtain⟨d,hd⟩: ∃d:Int,d=(k:Int)-95:=⟨_,rfl⟩;obtain⟨m,hm⟩: ∃m:Int,m=max d (-d):=⟨_,rfl⟩;have hmb:0<=m/\m<=95:=(by rw[hm];omega);obtain⟨p,hpp⟩: ∃p:Int,p=(1+m)*(1+m):=⟨_,rfl⟩
   have hpb:1<=p/\p<=9216:=by
    have h1:(1:Int)*1<=(1+m)*(1+m):=Int.mul_le_mul (by omega) (by omega) (by omega) (by omega);have h2:(1+m)*(1+m)<=96*96:=Int.mul_le_mul (by omega) (by omega) (by omega) (by omega);rw[hpp];omega
   obtain⟨y,hy⟩: ∃y:Int,y=65536/p:=⟨_,rfl⟩;have hT2:Qa (Us.take (k+1)=q++[y]):=⟨by rw[hT,hy,hpp,hm,hd];unfold cntF;rw[show-((k:Int)-95)=95-(k:Int) from by omega]⟩;have g1:IntKind.i64.wrap ((k:Int)-95)=d:=(by rw[IntWalk.i64_in _ (by omega)];exact hd.symm);have g2:IntKind.i64.wrap (-d)= -d:=IntWalk.i64_in _ (by omega);have g3:max d (-d)=m:=hm.symm;have g4:IntKind.i64.wrap (1+m)=1+m:=IntWalk.i64_in _ (by omega);have g5:IntKind.i64.wrap ((1+m)*(1+m))=p:=(by rw[<-hpp,IntWalk.i64_in _ (by omega)]);have g6:(65536:Int).tdiv p=y:=(by rw[hy,Int.tdiv_eq_ediv_of_nonneg (by omega)]);have hyb:0<=y/\y<=65536:=(by rw[hy];exact⟨Int.ediv_nonneg (by omega) (by omega),Int.ediv_le_self _ (by omega)⟩);have g7:IntKind.i64.wrap y=y:=IntWalk.i64_in _ (by omega);have g8:(p==0)=false:=(by simpa using (by omega:p≠0));have g9:p≠0:=(by omega);replace hlt:=Qa.mk hlt;replace hyb:=Qa.mk hyb;clear hq hT hd hm hpp hy;go_wp2_with (first|(at_builtin;refine Kd.Q3 (Kd.int .i64) (w0:=w) w.heap.size rfl (.tmp 17) (.tmp 22) 22 3 (.int .i64 0) 8 rfl Tryz.underlying22 Qw rfl (by decide) (by omega) u1 q (y) [.int .i64 (y)] (fun _=>True) (fun _=>False) rfl rfl rfl (fun _ hk=>hk.elim) (fun _ _=>trivial) ho.out hb.out hb.out.size hlen.out ?_;intro v1 wA hoA hbA hgA hatA;have HOA:=Qa.mk hoA;have HBA:=Qa.mk hbA;clear hoA hbA hgA hatA));go_roundw
   case rel=>exact⟨k+1,by go_num,hlt.out,⟨by rw[hT2.out];exact HOA.out⟩,HBA⟩
   case measure=>have:=hlt.out;simp[intOf];omega
  ·obtain rfl:k=191:=by omega
   have ho':Qa ((Kd.int .i64).R 3 wr w.heap.size (fun _=>True) u1 Us):=⟨by rw[<-List.take_of_length_le (show Us.length<=191 from Nat.le_of_eq hcl.out)];exact ho.out⟩;obtain⟨Ac,pc,rfl,hle,hC⟩:=Kd.Qs ho'.out;rw[hcl.out];clear hk hlt ho ho' hle;have HC:=Qa.mk (HLn.out Ac pc wr hC);clear hC HLn;go_wp2_with fail;refine HC.out.mono ?_;rintro e w1 ⟨g,rfl,hRw⟩;have hR1:=Qa.mk hRw;have hb1:=Qa.mk hRw.below;clear hRw;go_wp2_with fail;go_ret;exact⟨g,fin,rfl,HE.out.1,HE.out.2.1,HE.out.2.2,Qdm hb.out hR1.out⟩
theorem Qdr (ss:List Int) (us:List Bool) {k n:Nat} (h:Vm ss us k=true) (hk:k<=n):Vm ss us n=true:=by
 unfold Vm at h ⊢;obtain⟨i,hi,hp⟩:=List.any_eq_true.1 h;exact List.any_eq_true.2 ⟨i,List.mem_range.2 (by have:=List.mem_range.1 hi;omega),hp⟩
theorem Ay (A B:Option Addr) (c1 c2:Nat) (ss:List Int) (us:List Bool) (w:World) (hr:(Kd.int .i64).C w A ss.length ss) (hr2:Kd.bool.C w B us.length us) (hl:ss.length=us.length) (h128:us.length<=128):
  Calls Tryz.prog 200 #[.slice A ss.length c1,.slice B us.length c2] w fun e w'=>e= .returned (.bool (!Vm ss us ss.length))/\Below w.heap.size w w':=by
 have HR:=Qa.mk hr;have HR2:=Qa.mk hr2;have HL:=Qa.mk hl;have hlI:(ss.length:Int)<=128:=(by omega);have hlI2:(us.length:Int)<=128:=(by omega);clear hr hr2 hl h128;go_enter Tryz.func200,Tryz.ntmps200;go_wp2_with fail;go_loop [9] (fun i=> ∃k:Nat,i= .int .i64 k/\k<=ss.length/\Qa (Vm ss us k=false)) (fun i=>ss.length-(intOf i).toNat)
 case atStart=>exact⟨0,rfl,by omega,⟨by simp[Vm]⟩⟩
 case round=>
  obtain⟨k,rfl,hk,hx⟩:=hrel;by_cases hlt:k<ss.length
  ·obtain⟨ad,rfl,hcell⟩:=Qn HR.out (Below.refl _ _) hlt
   obtain⟨ad2,rfl,hcell2⟩:=Yv HR2.out (Below.refl _ _) (k:=k) (by rw[<-HL.out];exact hlt);have hltI:(k:Int)<(ss.length:Int):=(by omega);have hltI2:(k:Int)<(us.length:Int):=(by rw[<-HL.out];exact hltI);have hU:=Qa.mk (N9 ss us k);obtain⟨s,hs⟩: ∃s,s=rd ss k:=⟨_,rfl⟩;obtain⟨u,hu⟩: ∃u,u=us.getD k false:=⟨_,rfl⟩;rw[<-hs] at hcell hU;rw[<-hu] at hcell2 hU;have hlt':=Qa.mk hlt;clear hs hu hlt hk
   cases u with
   |true=>
    have hU2:Qa (Vm ss us (k+1)=false):=⟨by rw[hU.out,hx.out];simp⟩;clear hU;go_wp2_with fail;go_round
    case rel=>exact⟨k+1,by go_num,hlt'.out,hU2⟩
    case measure=>have:=hlt'.out;simp[intOf];omega
   |false=>
    by_cases h0:s=0
    ·subst h0
     have hU2:Qa (Vm ss us (k+1)=false):=⟨by rw[hU.out,hx.out];simp⟩;clear hU;go_wp2_with fail;go_round
     case rel=>exact⟨k+1,by go_num,hlt'.out,hU2⟩
     case measure=>have:=hlt'.out;simp[intOf];omega
    ·have hb0:(s != 0)=true:=by simpa using h0
     have hU2:Qa (Vm ss us ss.length=true):=⟨Qdr ss us (k:=k+1) (by rw[hU.out];simp[h0]) hlt'.out⟩;clear hU h0;go_wp2_with fail;go_ret;exact⟨by rw[hU2.out];rfl,Below.refl _ _⟩
  ·obtain rfl:k=ss.length:=by omega
   go_wp2_with fail;go_ret;exact⟨by rw[hx.out];rfl,Below.refl _ _⟩
theorem Wd (A B:Option Addr) (c1 c2:Nat) (ss:List Int) (us:List Bool) (w:World) (hr:(Kd.int .i64).C w A ss.length ss) (hr2:Kd.bool.C w B us.length us) (hl:ss.length=us.length) (h128:us.length<=128):
  Calls Tryz.prog 203 #[.slice A ss.length c1,.slice B us.length c2] w fun e w'=> ∃(v:Value) (l:List Int),e= .returned v/\(Kd.int .i64).R 3 w' w.heap.size (fun _=>True) v l/\l.length<=128/\(∀x∈l,x∈ss)/\Below w.heap.size w w':=by
 have HR:=Qa.mk hr;have HR2:=Qa.mk hr2;have HL:=Qa.mk hl;have hlI:(ss.length:Int)<=128:=(by omega);have hlI2:(us.length:Int)<=128:=(by omega);clear hr hr2 hl h128;go_enter Tryz.func203,Tryz.ntmps203;go_wp2_with fail;go_loopw [5,10] (fun o i wr=> ∃(k:Nat) (l:List Int),i= .int .i64 k/\k<=ss.length/\Qa (l.length<=k/\ ∀x∈l,x∈ss)/\Qa ((Kd.int .i64).R 3 wr w.heap.size (fun _=>True) o l)/\Qa (Below w.heap.size w wr)) (fun _ i _=>ss.length-(intOf i).toNat)
 case atStart=>exact⟨0,[],rfl,by omega,⟨by simp⟩,⟨Kd.Zx _ _ _ _ _⟩,⟨Below.refl _ _⟩⟩
 case round=>
  obtain⟨k,l,rfl,hk,hl,ho,hb⟩:=hrel;by_cases hlt:k<ss.length
  ·obtain⟨ad,rfl,hcell⟩:=Qn HR.out hb.out hlt
   obtain⟨ad2,rfl,hcell2⟩:=Yv HR2.out hb.out (k:=k) (by rw[<-HL.out];exact hlt);have hltI:(k:Int)<(ss.length:Int):=(by omega);have hltI2:(k:Int)<(us.length:Int):=(by rw[<-HL.out];exact hltI);have hm:=Qa.mk (Qp ss k hlt);obtain⟨s,hs⟩: ∃s,s=rd ss k:=⟨_,rfl⟩;obtain⟨u,hu⟩: ∃u,u=us.getD k false:=⟨_,rfl⟩;rw[<-hs] at hcell hm;rw[<-hu] at hcell2;have hlen:Qa ((l.length+1)*8<=140737488355328):=⟨by have:=hl.out.1;omega⟩;have hlt':=Qa.mk hlt;clear hs hu hlt hk
   cases u with
   |true=>
    go_wp2_with (first|(at_builtin;refine Kd.Q3 (Kd.int .i64) (w0:=w) w.heap.size rfl (.tmp 19) (.tmp 21) 22 3 (.int .i64 0) 8 rfl Tryz.underlying22 Qw rfl (by decide) (by omega) u5 l (s) [.int .i64 (s)] (fun _=>True) (fun _=>False) rfl rfl rfl (fun _ hk=>hk.elim) (fun _ _=>trivial) ho.out hb.out hb.out.size hlen.out ?_;intro v1 wA hoA hbA hgA hatA;have HOA:=Qa.mk hoA;have HBA:=Qa.mk hbA;clear hoA hbA hgA hatA));go_roundw
    case rel=>exact⟨k+1,l++[s],by go_num,hlt'.out,⟨by have:=hl.out.1;simp;omega,fun x hx=>by
     rcases List.mem_append.1 hx with h|h
     ·exact hl.out.2 x h
     ·rw[List.mem_singleton.1 h];exact hm.out⟩,HOA,HBA⟩
    case measure=>have:=hlt'.out;simp[intOf];omega
   |false=>
    go_wp2_with fail;go_roundw
    case rel=>exact⟨k+1,l,by go_num,hlt'.out,⟨by have:=hl.out.1;omega,hl.out.2⟩,ho,hb⟩
    case measure=>have:=hlt'.out;simp[intOf];omega
  ·obtain rfl:k=ss.length:=by omega
   go_wp2_with fail;go_ret;exact⟨_,l,rfl,ho.out,by have:=hl.out.1;omega,hl.out.2,hb.out⟩
theorem R7 (v:Value) (xs:List Int) (x:Int) (n base:Nat) (w:World) (hR:(Kd.int .u8).R 5 w base (fun _=>True) v xs) (hb:base<=w.heap.size) (hn:n<=16) (hl:xs.length<=100000):
  Calls Tryz.prog 204 #[v,.int .i64 x,.int .i64 n] w fun e w'=> ∃(v':Value) (ys:List Int),e= .returned v'/\(Kd.int .u8).R 5 w' base (fun _=>True) v' ys/\ys.length=xs.length+n/\Below base w w':=by
 have hb0:=Qa.mk hb;have hnI:(n:Int)<=16:=(by omega);have hl':=Qa.mk hl;have hR':=Qa.mk hR;have h9:IntKind.i64.wrap ((n:Int)-1)=(n:Int)-1:=IntWalk.i64_in _ (by omega);clear hb hl hR;go_enter Tryz.func204,Tryz.ntmps204;go_wp2_with fail;go_loopw [0,7] (fun o i wr=> ∃(k:Nat) (ys:List Int),i= .int .i64 ((k:Int)-1)/\k<=n/\Qa (ys.length+k=xs.length+n)/\Qa ((Kd.int .u8).R 5 wr base (fun _=>True) o ys)/\Qa (Below base w wr)) (fun _ i _=>(intOf i+1).toNat)
 case atStart=>exact⟨n,xs,rfl,by omega,⟨rfl⟩,hR',⟨Below.refl _ _⟩⟩
 case round=>
  obtain⟨k,ys,rfl,hk,hy,ho,hb⟩:=hrel;rcases k with _|k
  ·simp only[Int.natCast_zero,Int.zero_sub]
   go_wp2_with fail;go_ret;exact⟨_,ys,rfl,ho.out,hy.out,hb.out⟩
  ·have w4:((k+1:Nat):Int)-1=(k:Int):=by omega
   have w5:IntKind.i64.wrap ((k:Int)-1)=(k:Int)-1:=IntWalk.i64_in _ (by omega);have hkI:(k:Int)<=15:=(by omega);have hlen:Qa ((ys.length+1)*1<=140737488355328):=⟨by have:=hy.out;have:=hl'.out;omega⟩;have hbs:Qa (base<=wr.heap.size):=⟨by have:=hb0.out;have:=hb.out.size;omega⟩;rw[w4];replace hk:=Qa.mk hk;clear w4;go_wp2_with (first|(at_builtin;refine Kd.Q3 (Kd.int .u8) (w0:=w) base rfl (.tmp 14) (.tmp 20) 168 5 (.int .u8 0) 1 rfl Tryz.underlying168 Bv rfl (by decide) (by decide) u0 ys (bits BinOp.and IntKind.i64 (x/2^k) 1%256) [.int .u8 (bits BinOp.and IntKind.i64 (x/2^k) 1%256)] (fun _=>True) (fun _=>False) rfl rfl rfl (fun _ hk=>hk.elim) (fun _ _=>trivial) ho.out hb.out hbs.out hlen.out ?_;intro v1 wA hoA hbA hgA hatA;have HOA:=Qa.mk hoA;have HBA:=Qa.mk hbA;clear hoA hbA hgA hatA));go_roundw
   case rel=>exact⟨k,_,rfl,by have:=hk.out;omega,⟨by have:=hy.out;rw[List.length_append,List.length_singleton];omega⟩,HOA,HBA⟩
   case measure=>simp[intOf]
end Rq

namespace Rq
attribute [local go_sem] Qh Qi Qk Ql Qd Qe
open Q15
open Q21
open St (at_)
open Bts (Rws Blk Rws.start Bv)
open Sca (Vm Yv scE)
theorem rng_isS (ss:List Int):Q16.rng 0 95 ss=ss.all Sca.isS:=rfl
theorem Qb8 (A B:Option Addr) (c1 c2:Nat) (ss:List Int) (us:List Bool) (w:World) (hr:(Kd.int .i64).C w A ss.length ss) (hr2:Kd.bool.C w B us.length us) (hl:ss.length=us.length) (h128:us.length<=128):
  Calls Tryz.prog 155 #[.slice A ss.length c1,.slice B us.length c2] w fun e w'=> ∃(C:Option Addr) (n c:Nat),e= .returned (.tuple #[.slice C n c,.int .i64 (scE ss us)])/\n<=10000/\Below w.heap.size w w':=by
 have HRg:=Qa.mk (fun W (hb:Below w.heap.size w W)=>Cx A c1 ss W (Kd.Qf hr hb) (by omega));have HRt:=Qa.mk (fun W (hb:Below w.heap.size w W)=>Ay A B c1 c2 ss us W (Kd.Qf hr hb) (Kd.Qf hr2 hb) hl h128);have HTk:=Qa.mk (fun W (hb:Below w.heap.size w W)=>Wd A B c1 c2 ss us W (Kd.Qf hr hb) (Kd.Qf hr2 hb) hl h128);have hmo:=Qa.mk (show Tryz.prog.follows .mixedOrders =true by kernel_rfl);have hne:((ss.length:Int) != (us.length:Int))=false:=(by rw[hl];simp);have hlI:(ss.length:Int)<=128:=(by omega);have hlI2:(us.length:Int)<=128:=(by omega);have d1:decide (128<us.length)=false:=decide_eq_false (by omega);have hb:=Below.refl w.heap.size w;clear hr hr2 hl h128;rw[rng_isS] at HRg
 cases ha:ss.all Sca.isS with
 |false=>
  have hE:Qa (scE ss us=6):=⟨by unfold scE;rw[ha];simp⟩;rw[ha] at HRg;clear ha;go_enter Tryz.func155,Tryz.ntmps155;go_wp2_with (first|(go_at_call 32;refine(HRg.out _ hb).mono ?_;rintro e w' ⟨rfl,hbn⟩;replace hb:=bnx hb hbn;clear hbn));go_ret2;exact⟨none,0,0,by rw[hE.out];rfl,by omega,hb⟩
 |true=>
  rw[ha] at HRg
  cases hu:Vm ss us ss.length with
  |true=>
   have hE:Qa (scE ss us=4):=⟨by unfold scE;rw[ha,hu];simp⟩;rw[hu] at HRt;clear ha hu;go_enter Tryz.func155,Tryz.ntmps155;go_wp2_with (first|(go_at_call 32;refine(HRg.out _ hb).mono ?_;rintro e w' ⟨rfl,hbn⟩;replace hb:=bnx hb hbn;clear hbn)|(go_at_call 200;refine(HRt.out _ hb).mono ?_;rintro e w' ⟨rfl,hbn⟩;replace hb:=bnx hb hbn;clear hbn));go_ret2;exact⟨none,0,0,by rw[hE.out];rfl,by omega,hb⟩
  |false=>
   have hE:Qa (scE ss us=0):=⟨by unfold scE;rw[ha,hu];simp⟩;have HS:=Qa.mk (fun x (hx:x∈ss)=>(by simpa[Sca.isS] using List.all_eq_true.1 ha x hx:0<=x/\x<=95));rw[hu] at HRt;clear ha hu;go_enter Tryz.func155,Tryz.ntmps155;go_wp2_with (first|(go_at_call 32;refine(HRg.out _ hb).mono ?_;rintro e w' ⟨rfl,hbn⟩;replace hb:=bnx hb hbn;clear hbn)|(go_at_call 200;refine(HRt.out _ hb).mono ?_;rintro e w' ⟨rfl,hbn⟩;replace hb:=bnx hb hbn;clear hbn)|(go_at_call 201;refine(Fq _).mono ?_));rintro e w1 ⟨g,fin,rfl,hf1,hf2,hf3,hRw1⟩;replace hb:=bnx hb hRw1.below;have hC1:=Qdh (at_ hRw1 0 rfl);have HCd:=Qa.mk (Ao (some ⟨g,0,none⟩) 191 fin w1 hC1 (by omega) (by omega) hf2 hf3);rw[hf1] at HCd;replace hRw1:=Qa.mk hRw1;replace hf1:=Qa.mk hf1;replace hf2:=Qa.mk hf2;replace hb:=Qa.mk hb;clear hf3 hC1;go_wp2_with fail;refine HCd.out.mono ?_;rintro e w2 ⟨gc,cds,rfl,hcl,hRw2⟩;have hb2:=Qa.mk (bnx hb.out hRw2.below);have hRw12:=Qa.mk (hRw1.out.step hRw2.below);have HT2:=Qa.mk (HTk.out w2 hb2.out);replace hRw2:=Qa.mk hRw2;replace hcl:=Qa.mk hcl;clear HCd hRw1 HTk HRg HRt;go_wp2_with fail;refine HT2.out.mono ?_;rintro e w3 ⟨v,l,rfl,hRl,hll,hlm,hbl⟩;obtain⟨Al,cl,rfl,-,hCl⟩:=Kd.Qs hRl;have hb3:=Qa.mk (bnx hb2.out hbl);have hRg3:=hRw12.out.step hbl;have hRc3:=hRw2.out.step hbl
   have HFc:=Qa.mk (fun W (hbW:Below w3.heap.size w3 W) (k:Nat) (hk:k<191)=>(show W.cell? ⟨g,k,none⟩=some (.int .i64 (rd fin k)) by
    refine cnx ?_ hbW;rw[Qb (at_ hRg3 0 rfl)];have:k<fin.length:=by rw[hf1.out];exact hk
    simp[rd,List.getD_eq_getElem?_getD,this]))
   have HCc:=Qa.mk (fun W (hbW:Below w3.heap.size w3 W) (k:Nat) (hk:k<191)=>(show W.cell? ⟨gc,k,none⟩=some (.int .i64 (rd cds k)) by
    refine cnx ?_ hbW;rw[Qb (at_ hRc3 0 rfl)];have:k<cds.length:=by rw[hcl.out];exact hk
    simp[rd,List.getD_eq_getElem?_getD,this]))
   have HFb:=Qa.mk (fun(k:Nat) (hk:k<191)=>hf2.out _ (Qp fin k (by rw[hf1.out];exact hk)));have HLb:=Qa.mk (fun(k:Nat) (hk:k<l.length)=>HS.out _ (hlm _ (Qp l k hk)));have HCl:=Qa.mk hCl;have hllI:(l.length:Int)<=128:=(by omega);clear hRl hCl hlm hbl hRg3 hRc3 hf1 hf2 hRw12 hRw2 hcl hb2 HT2 HS;go_wp2_with fail;go_loopw [9,45] (fun o i wr=> ∃(k:Nat) (ys:List Int),i= .int .i64 k/\k<=l.length/\Qa (ys.length<=16*k)/\Qa ((Kd.int .u8).R 5 wr w3.heap.size (fun _=>True) o ys)/\Qa (Below w3.heap.size w3 wr)) (fun _ i _=>l.length-(intOf i).toNat)
   case atStart=>exact⟨0,[],rfl,by omega,⟨by simp⟩,⟨Kd.Zx _ _ _ _ _⟩,⟨Below.refl _ _⟩⟩
   case round=>
    obtain⟨k,ys,rfl,hk,hy,ho,hb⟩:=hrel;by_cases hlt:k<l.length
    ·obtain⟨ad,rfl,hcell⟩:=Qn HCl.out hb.out hlt
     have hx:=HLb.out k hlt;have hkI:(k:Int)<(l.length:Int):=(by omega);obtain⟨x,hxe⟩: ∃x,x=rd l k:=⟨_,rfl⟩;rw[<-hxe] at hcell hx;have hys:ys.length<=100000:=(by have:=hy.out;omega);rcases k with _|m
     ·have HPt:=R7 u9 ys x 7 w3.heap.size wr ho.out hb.out.size (by omega) hys
      rw[show((7:Nat):Int)=7 from rfl] at HPt;rw[Lg] at hcell;replace HPt:=Qa.mk HPt;replace hlt:=Qa.mk hlt;replace hys:=Qa.mk hys;clear hxe;simp only[Int.natCast_zero] at hkI ⊢;go_wp2_with fail;refine HPt.out.mono ?_;rintro e w4 ⟨v',zs,rfl,hR4,hz4,hb4⟩;have hR5:=Qa.mk hR4;have hb5:=Qa.mk (hb.out.trans hb4);have hz5:=Qa.mk hz4;clear hR4 hz4 hb4;go_wp2_with fail;go_roundw
      case rel=>exact⟨1,zs,by go_num,hlt.out,⟨by have:=hy.out;have:=hz5.out;omega⟩,hR5,hb5⟩
      case measure=>have:=hlt.out;simp[intOf];omega
     ·obtain⟨ad',e',hcell0⟩:=Qn HCl.out hb.out (k:=m) (by omega)
      cases e';have hx0:=HLb.out m (by omega);obtain⟨y,hye⟩: ∃y,y=rd l m:=⟨_,rfl⟩;rw[<-hye] at hcell0 hx0;obtain⟨t,ht⟩: ∃t:Nat,(t:Int)=x-y+95:=⟨(x-y+95).toNat,by omega⟩;have ht9:t<191:=(by omega);have f1:=HFc.out wr hb.out t ht9;have f2:=HCc.out wr hb.out t ht9;obtain⟨ln,hln⟩: ∃ln:Nat,(ln:Int)=rd fin t:=⟨(rd fin t).toNat,by have:=HFb.out t ht9;omega⟩;have hln16:ln<=16:=(by have:=HFb.out t ht9;omega);obtain⟨cd,hcd⟩: ∃cd,cd=rd cds t:=⟨_,rfl⟩;rw[<-hln] at f1;rw[<-hcd] at f2;have HPt:=Qa.mk (fun W (hbW:Below w3.heap.size w3 W) (h:(Kd.int .u8).R 5 W w3.heap.size (fun _=>True) u9 ys)=>R7 u9 ys cd ln w3.heap.size W h hbW.size hln16 hys);have g1:IntKind.i64.wrap (((m+1:Nat):Int)-1)=(m:Int):=(by rw[IntWalk.i64_in _ (by omega)];omega);have g2:IntKind.i64.wrap (x-y)=x-y:=IntWalk.i64_in _ (by omega);have g3:IntKind.i64.wrap (x-y+95)=(t:Int):=(by rw[ht,IntWalk.i64_in _ (by omega)]);have g4:(((m+1:Nat):Int)==0)=false:=(by simpa using (by omega:((m+1:Nat):Int)≠0));have g5:(t:Int)<191:=(by omega);have g6:(m:Int)<(l.length:Int):=(by omega);obtain⟨k,hk2⟩: ∃k,k=m+1:=⟨_,rfl⟩;rw[<-hk2] at g1 g4 hkI hcell hy hlt ⊢;replace hlt:=Qa.mk hlt;replace hys:=Qa.mk hys;replace hk2:=Qa.mk hk2;replace hln16:=Qa.mk hln16;replace hln:=Qa.mk hln;replace hcd:=Qa.mk hcd;clear hxe hye ht ht9 hk;go_wp2_with fail;refine Qt (S:=fun w'=>w'.cell? ⟨gc,t,none⟩=some (.int .i64 cd)/\w'.cell? ⟨g,t,none⟩=some (.int .i64 ln)) (ds:=[10]) hmo.out ⟨f2,f1⟩ (fun hHeld=> ?_)
      (refine Tk.tl 0 (u9) hHeld ?_)
      (refine Tk.tl 1 (.slice (some ⟨gc,0,none⟩) 191 191) hHeld ?_)
      (refine Tk.tl 2 (.int .i64 t) hHeld ?_)
      (refine Tk.tl 3 (.pointer (some ⟨gc,t,none⟩)) hHeld ?_)
      (refine Tk.tl 4 (.int .i64 cd) hHeld ?_)
      (refine Tk.tl 5 (.slice (some ⟨g,0,none⟩) 191 191) hHeld ?_)
      (refine Tk.tl 6 (.int .i64 t) hHeld ?_)
      (refine Tk.tl 7 (.pointer (some ⟨g,t,none⟩)) hHeld ?_)
      (refine Tk.tl 8 (.int .i64 ln) hHeld ?_)
      (refine Qg (rs:=[9]) (by kernel_rfl) (by simp) ?_;refine Qc.cons rfl (by decide) (fun K hK=> ?_) Qc.nil)
      go_simp;have hdr:Below wr.heap.size wr wr.drew:=(Below.refl _ _).drew;refine(HPt.out wr.drew (bnx hb.out hdr) (Kd.Q4 ho.out hdr)).mono ?_;rintro e w4 ⟨v',zs,rfl,hR4,hz4,hb4⟩;replace hb4:=(bnx hb.out hdr).trans hb4;have e1:=HFc.out w4 hb4 t (by omega);have e2:=HCc.out w4 hb4 t (by omega);rw[<-hln.out] at e1;rw[<-hcd.out] at e2;have hR5:=Qa.mk hR4;have hb5:=Qa.mk hb4;have hz5:=Qa.mk hz4;clear hR4 hz4 hb4 hdr hHeld f1 f2
      (go_wp2_with fail;refine hK.out _ _ (⟨e2,e1⟩) (fun hHeld=> ?_);clear hK K;try simp only[Act.put,Tk.z1,Tk.z2,Tk.z3,Tk.z4,Tk.z5,Tk.z6])
      (refine Qg (rs:=[10]) (by kernel_rfl) (by simp) ?_;refine Qc.Zl rfl (by decide) (fun K hK=> ?_) Qc.nil)
      go_simp;go_wp2_with fail;refine hK.out _ _ ?_;clear hK K
      try simp only[Act.put,List.setIfInBounds_toArray,List.set_cons_zero,List.set_cons_succ]
      refine Qq (by kernel_rfl) ?_ _;go_wp2_with fail;go_roundw
      case rel=>exact⟨k+1,zs,by go_num,hlt.out,⟨by have:=hy.out;have:=hz5.out;have:=hln16.out;omega⟩,hR5,hb5⟩
      case measure=>have:=hlt.out;simp[intOf];omega
    ·obtain rfl:k=l.length:=by omega
     obtain⟨Ar,cr,rfl,-,-⟩:=Kd.Qs ho.out;have hn:=Qa.mk (show ys.length<=10000 by have:=hy.out;omega);clear ho;go_wp2_with fail;go_ret2;exact⟨Ar,_,cr,by rw[hE.out];rfl,hn.out,bnx hb3.out hb.out⟩
theorem Qam (A B:Option Addr) (c1 c2:Nat) (ss:List Int) (us:List Bool) (w:World) (hr:(Kd.int .i64).C w A ss.length ss) (hr2:Kd.bool.C w B us.length us) (hl:ss.length=us.length) (h128:us.length<=128):
  Calls Tryz.prog 93 #[.slice A ss.length c1,.slice B us.length c2] w fun e w'=> ∃n:Int,e= .returned (.tuple #[.int .i64 n,.int .i64 (scE ss us)])/\Below w.heap.size w w':=by
 have HR:=Qa.mk (Qb8 A B c1 c2 ss us w hr hr2 hl h128);clear hr hr2 hl h128;obtain⟨E,hE⟩: ∃E,E=scE ss us:=⟨_,rfl⟩;rw[<-hE] at HR ⊢;clear hE;go_enter Tryz.func93,Tryz.ntmps93;go_wp2_with fail;refine HR.out.mono ?_;rintro e w1 ⟨C,n,c,rfl,hn,hb⟩;have hnI:(n:Int)<=10000:=(by omega);go_wp2_with fail;go_ret2;exact⟨_,rfl,hb⟩
end Rq

namespace Rq
attribute [local go_sem] Qh Qi Qk Ql Qd Qe
open Q15
open Q21
open Q16 (isW Qx)
open Gn (Ga)
open Sca (scE)
theorem Hr (A:Option Addr) (cap:Nat) (l:List Int) (w:World) (hr:(Kd.int .i64).C w A l.length l) (hl:l.length<=1000000):
  Calls Tryz.prog 92 #[.slice A l.length cap] w fun e w'=>e= .returned (.bool (Q16.rng (-1023) 1023 l))/\Below w.heap.size w w':=by
 have HR:=Qa.mk hr;have hlI:(l.length:Int)<=1000000:=(by omega);have HF:Qa (∀k,k<l.length-> ¬(-1023<=rd l k/\rd l k<=1023)->Q16.rng (-1023) 1023 l=false):=⟨fun k hk h=>List.all_eq_false.2 ⟨_,Qp l k hk,by simpa using h⟩⟩;have HT:Qa ((∀x∈l,-1023<=x/\x<=1023)->Q16.rng (-1023) 1023 l=true):=⟨fun h=>List.all_eq_true.2 fun x hx=>decide_eq_true (h x hx)⟩;obtain⟨b,hbe⟩: ∃b,b=Q16.rng (-1023) 1023 l:=⟨_,rfl⟩;rw[<-hbe] at HF HT ⊢;clear hr hl hbe;go_enter Tryz.func92,Tryz.ntmps92;go_wp2;go_loopw [7] (fun i wr=> ∃k:Nat,i= .int .i64 k/\k<=l.length/\Qa (∀x∈l.take k,-1023<=x/\x<=1023)/\Below w.heap.size w wr) (fun i _=>l.length-(intOf i).toNat)
 case atStart=>exact⟨0,rfl,by omega,⟨by simp⟩,Below.refl _ _⟩
 case round=>
  obtain⟨k,rfl,hk,ha,hb⟩:=hrel;by_cases hlt:k<l.length
  ·obtain⟨ad,rfl,hcell⟩:=Qn HR.out hb hlt
   have hT:=Qa.mk (Qu l k hlt);have hf:=HF.out k hlt;have hkI:(k:Int)<(l.length:Int):=(by omega);obtain⟨n,hx⟩: ∃n,n=rd l k:=⟨_,rfl⟩;rw[<-hx] at hcell hT hf;replace hf:=Qa.mk hf;clear hx;by_cases h1:n< -1023
   ·have hff:=Qa.mk (hf.out (by omega))
    go_wp2;go_ret;exact⟨by rw[hff.out];rfl,hb⟩
   ·by_cases h2:1023<n
    ·have hff:=Qa.mk (hf.out (by omega))
     have h1':decide (n< -1023)=false:=(by simpa using h1);go_wp2;go_ret;exact⟨by rw[hff.out];rfl,hb⟩
    ·have h1':decide (n< -1023)=false:=by simpa using h1
     have h2':decide (1023<n)=false:=(by simpa using h2);have h3:Qa (-1023<=n/\n<=1023):=⟨by omega⟩;clear h1 h2;go_wp2;go_roundw
     case rel=>exact⟨k+1,by go_num,by omega,⟨by
      rw[hT.out];intro x hx;rcases List.mem_append.1 hx with hx|hx
      ·exact ha.out x hx
      ·rw[List.mem_singleton.1 hx];exact h3.out⟩,hb⟩
     case measure=>simp[intOf];omega
  ·obtain rfl:k=l.length:=by omega
   have hA:=ha.out;rw[List.take_length] at hA;have hff:=Qa.mk (HT.out hA);clear ha hA;go_wp2;go_ret;exact⟨by rw[hff.out];rfl,hb⟩
theorem Sa (sh:Bool) (A1 A2 A3 A4 A:Option Addr) (n1 c1 c2 c3 c4 c:Nat) (ws sc qu fi:List Int) (w:World) (hr:(Kd.int .i64).C w A ws.length ws) (hW:isW ws=true) (h2:(Kd.int .i64).C w A2 sc.length sc) (h3:(Kd.int .i64).C w A3 qu.length qu) (h4:(Kd.int .i64).C w A4 fi.length fi)
  (l2:sc.length<=1000000) (l3:qu.length<=1000000) (l4:fi.length<=1000000) (hc3:qu.length<=c3) (hc9:c3<=9223372036854775807):
  Calls Tryz.prog 48 #[.agg #[.bool sh,.slice A1 n1 c1,.slice A2 sc.length c2,.slice A3 qu.length c3,.slice A4 fi.length c4],.slice A ws.length c] w fun e w'=>e= .returned (.bool (Ga ws sc qu fi))/\Below w.heap.size w w':=by
 obtain⟨W0,hW0⟩: ∃W0,W0=w.alloc (.cells #[.bool sh,.slice A1 n1 c1,.slice A2 sc.length c2,.slice A3 qu.length c3,.slice A4 fi.length c4] 46):=⟨_,rfl⟩;have hb0:Below w.heap.size w W0:=(by rw[hW0];exact(Below.refl _ _).alloc (Nat.le_refl _) _);have hB0:W0.heap[w.heap.size]? =some (.cells #[.bool sh,.slice A1 n1 c1,.slice A2 sc.length c2,.slice A3 qu.length c3,.slice A4 fi.length c4] 46 (0,0)):=(by rw[hW0];exact heap_alloc_new _ _);have k2:W0.cell? ⟨w.heap.size,2,none⟩=some (.slice A2 sc.length c2):=(by rw[Qb hB0];rfl);have k3:W0.cell? ⟨w.heap.size,3,none⟩=some (.slice A3 qu.length c3):=(by rw[Qb hB0];rfl);have k4:W0.cell? ⟨w.heap.size,4,none⟩=some (.slice A4 fi.length c4):=(by rw[Qb hB0];rfl);have HI:=Qa.mk (fun(W:World) (hb:Below w.heap.size w W)=>M5 A4 c4 fi W (Kd.Qf h4 hb) l4);have HV:=Qa.mk (fun(W:World) (hb:Below w.heap.size w W)=>Hr A3 c3 qu W (Kd.Qf h3 hb) l3);have hwl:(ws.length:Int)<=32:=(by have:=(Qx.1 hW).2.2;omega);have hsl:(sc.length:Int)<=1000000:=(by omega);have hql:(qu.length:Int)<=1000000:=(by omega);have hchk:Ga ws sc qu fi=(decide (sc.length=ws.length)&&(decide (qu.length=128)&&(Je fi&&(Q16.rng (-1023) 1023 qu&&decide (scE sc (Xo ws qu)=0))))):=rfl;obtain⟨R,hR⟩: ∃R,R=Ga ws sc qu fi:=⟨_,rfl⟩;rw[<-hR] at hchk ⊢;replace hR:=Qa.mk hR;by_cases e1:sc.length=ws.length
 ·have hne:((sc.length:Int) != (ws.length:Int))=false:=by rw[e1];simp
  have hne3:(sc.length != ws.length)=false:=(by rw[e1];simp);by_cases e2:qu.length=128
  ·rw[decide_eq_true e1,decide_eq_true e2,Bool.true_and,Bool.true_and] at hchk
   have hne2:((qu.length:Int) != 128)=false:=(by rw[e2];rfl);have hne4:(qu.length != 128)=false:=(by rw[e2];rfl);obtain⟨a3,rfl,-⟩:=Qn h3 (Below.refl _ _) (k:=0) (by omega);have HU:=Qa.mk (fun(W:World) (hb:Below w.heap.size w W)=>Qao A c ws a3 c3 qu W (Kd.Qf hr hb) hW (Kd.Qf h3 hb) e2 (by omega) hc9);have hul:=Yz ws qu;obtain⟨us,hus⟩: ∃us,us=Xo ws qu:=⟨_,rfl⟩;rw[<-hus] at HU hul hchk;have HC:=Qa.mk (fun(W:World) (B:Option Addr) (cB:Nat) (hb:Below w.heap.size w W) (hg:Kd.bool.C W B us.length us)=>Qam A2 B c2 cB sc us W (Kd.Qf h2 hb) hg (by omega) (by omega));have hus9:us.length<=1000000:=(by omega);replace e1:=Qa.mk e1;replace e2:=Qa.mk e2;replace hul:=Qa.mk hul;clear hr hW h2 h3 h4 l2 l3 l4 hus hc3 hc9
   cases hv:Q16.rng (-1023) 1023 qu with
   |false=>
    rw[hv] at HV hchk;rw[Bool.false_and,Bool.and_false] at hchk;replace hchk:=Qa.mk hchk;clear hv HU HC HI;go_enter Tryz.func48,Tryz.ntmps48;go_wp2_with fail;rw[<-hW0];refine(HV.out _ hb0).mono ?_;rintro e w' ⟨rfl,hbn⟩;replace hb0:=bnx hb0 hbn;clear hbn hW0;go_wp2_with fail;go_ret;exact⟨by rw[hchk.out];rfl,hb0⟩
   |true=>
    rw[hv] at HV hchk;rw[Bool.true_and] at hchk
    cases hf:Je fi with
    |false=>
     rw[hf] at HI hchk;rw[Bool.false_and] at hchk;replace hchk:=Qa.mk hchk;clear hv hf HU HC;go_enter Tryz.func48,Tryz.ntmps48;go_wp2_with fail;rw[<-hW0];refine(HV.out _ hb0).mono ?_;rintro e w' ⟨rfl,hbn⟩;replace hb0:=bnx hb0 hbn;replace k4:=cnx k4 hbn;clear hbn hW0 hB0 k2 k3;go_wp2_with fail;refine(HI.out _ hb0).mono ?_;rintro e w2 ⟨rfl,hbn⟩;replace hb0:=bnx hb0 hbn;clear hbn;go_wp2_with fail;go_ret;exact⟨by rw[hchk.out];rfl,hb0⟩
    |true=>
     rw[hf] at HI hchk;rw[Bool.true_and] at hchk;clear hv hf;obtain⟨E,hEe⟩: ∃E,E=scE sc us:=⟨_,rfl⟩;rw[<-hEe] at HC hchk;have hE3:Qa ((E==0)=R):=⟨by rw[hchk];simp[BEq.beq]⟩;clear hEe hchk;go_enter Tryz.func48,Tryz.ntmps48;go_wp2_with fail;rw[<-hW0];refine(HV.out _ hb0).mono ?_;rintro e w' ⟨rfl,hbn⟩;replace hb0:=bnx hb0 hbn;replace k2:=cnx k2 hbn;replace k3:=cnx k3 hbn;replace k4:=cnx k4 hbn;clear hbn hW0 hB0;go_wp2_with fail;refine(HI.out _ hb0).mono ?_;rintro e w2 ⟨rfl,hbn⟩;replace hb0:=bnx hb0 hbn;replace k2:=cnx k2 hbn;replace k3:=cnx k3 hbn;clear hbn k4;go_wp2_with fail;rw[e2.out];refine(HU.out _ hb0).mono ?_;rintro e w3 ⟨v,rfl,hRu,hbn⟩;obtain⟨Bu,cu,rfl,-,hCu⟩:=Kd.Qs hRu;replace hb0:=bnx hb0 hbn;replace k2:=cnx k2 hbn;have HC3:=Qa.mk (HC.out w3 Bu cu hb0 hCu);clear hRu hCu hbn k3 HC HU HI HV;go_wp2_with fail;refine HC3.out.mono ?_;rintro e w4 ⟨n,rfl,hbn⟩;replace hb0:=bnx hb0 hbn;clear hbn;go_wp2_with fail;go_ret;exact⟨by rw[<-hE3.out];rfl,hb0⟩
  ·rw[decide_eq_true e1,decide_eq_false e2,Bool.true_and,Bool.false_and] at hchk
   have hne2:((qu.length:Int) != 128)=true:=by simpa using fun h=>e2 (by omega)
   have hne4:(qu.length != 128)=true:=(by simpa using e2);replace hchk:=Qa.mk hchk;replace e1:=Qa.mk e1;replace e2:=Qa.mk e2;rw[hW0] at hb0;clear hr hW h2 h3 h4 l2 l3 l4 k2 k3 k4 hW0 hB0 HV HI hc3 hc9;go_enter Tryz.func48,Tryz.ntmps48;go_wp2_with fail;go_ret;exact⟨by rw[hchk.out];rfl,hb0⟩
 ·rw[decide_eq_false e1,Bool.false_and] at hchk
  have hne:((sc.length:Int) != (ws.length:Int))=true:=by simpa using fun h=>e1 (by omega)
  have hne3:(sc.length != ws.length)=true:=(by simpa using e1);replace hchk:=Qa.mk hchk;replace e1:=Qa.mk e1;rw[hW0] at hb0;clear hr hW h2 h3 h4 l2 l3 l4 k2 k3 k4 hW0 hB0 HV HI hc3 hc9;go_enter Tryz.func48,Tryz.ntmps48;go_wp2_with fail;go_ret;exact⟨by rw[hchk.out];rfl,hb0⟩
end Rq

end Go.Proofs.YtnflnicdjioflaaGreatDoor
