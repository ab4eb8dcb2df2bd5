/- A part of the proof. -/
import Derived.Test.YtnflnicdjioflaaGreatDoorMdbd
import Derived.Test.YtnflnicdjioflaaGreatDoorMdbc
set_option linter.unusedVariables false
set_option linter.unusedSimpArgs false
set_option maxRecDepth 100000
set_option maxHeartbeats 8000000
namespace Go.Proofs.YtnflnicdjioflaaGreatDoor
open Go.RowKit Go.Proofs.YtnflnicdjioflaaGreatDoorW.PrintWords Go.Proofs.YtnflnicdjioflaaGreatDoorW.PrintLast Go.Proofs.YtnflnicdjioflaaGreatDoorW.PrintMore
namespace Rq
open Bk (Yu Yv)
attribute [local go_sem] Yu Yv Qk Ql Qg Qh
open Q15
open Q21
open Bts (Rws Blk Rws.start Bi)
open Sca (J2 Nz Y0 isS scE)
theorem Qdj {w wr w1:World} {G:List Blk} (hb:Below w.heap.size w wr) (h:Rws wr w1 [] G):Rws w w1 [] G:=
 ⟨bnx hb h.below,by simp,.nil,fun b hb'=>⟨(h.blk b hb').1,Nat.le_trans hb.size (h.blk b hb').2⟩,by simp,h.gs⟩
theorem Fs (w:World):
  Calls Tryz.prog 201 #[] w fun e w'=> ∃(g:Nat) (fin:List Int),e= .returned (.slice (some ⟨g,0,none⟩) 191 191)/\fin.length=191/\(∀n∈fin,1<=n/\n<=16)/\krI fin<=65536/\Rws w w' [] [⟨g,(fin.map (Value.int .i64)).toArray,3⟩]:=by
 obtain⟨fin,hp,hf1,hf2,hf3⟩:=lens_ok;have HE:=Qa.mk (And.intro hf1 (And.intro hf2 hf3));have hcl:Ux.length=191:=by unfold Ux;simp
 have HC:Qa (∀c∈Ux,1<=c/\c<=1073741824):=⟨fun c hc=>by
  unfold Ux at hc;obtain⟨s,hs,rfl⟩:=List.mem_map.1 hc;have:=cntF_bd s (List.mem_range.1 hs)
  omega⟩
 have HT:Qa (∀k,k<191->Ux.take (k+1)=Ux.take k++[cntF k]):=⟨fun k hk=>by
  rw[List.take_add_one];unfold Ux;rw[List.getElem?_map,List.getElem?_range hk]
  rfl⟩
 have HLn:=Qa.mk (fun(A:Option Addr) (cap:Nat) (W:World) (h:(Kd.int .i64).C W A Ux.length Ux)=>Sl A cap Ux fin W h (by omega) (by omega) HC.out hp);rw[hcl] at HLn;replace hcl:=Qa.mk hcl;clear hf1 hf2 hf3 hp HC;go_enter Tryz.func201,Tryz.ntmps201;go_wp2_with fail;go_loopw [1,7] (fun o i wr=> ∃k:Nat,i= .int .i64 k/\k<=191/\Qa ((Kd.int .i64).R 3 wr w.heap.size (fun _=>True) o (Ux.take k))/\Qa (Below w.heap.size w wr)) (fun _ i _=>191-(intOf i).toNat)
 case atStart=>exact⟨0,rfl,by omega,⟨Kd.Xd _ _ _ _ _⟩,⟨Below.refl _ _⟩⟩
 case round=>
  obtain⟨k,rfl,hk,ho,hb⟩:=hrel;by_cases hlt:k<191
  ·have hkI:(k:Int)<191:=by omega
   have hT:=HT.out k hlt;have hlen:Qa (((Ux.take k).length +1)*8<=140737488355328):=⟨by rw[List.length_take];omega⟩;obtain⟨q,hq⟩: ∃q,q=Ux.take k:=⟨_,rfl⟩;rw[<-hq] at hT ho hlen;obtain⟨d,hd⟩: ∃d:Int,d=(k:Int)-95:=⟨_,rfl⟩;obtain⟨m,hm⟩: ∃m:Int,m=max d (-d):=⟨_,rfl⟩;have hmb:0<=m/\m<=95:=(by rw[hm];omega);obtain⟨p,hpp⟩: ∃p:Int,p=(1+m)*(1+m):=⟨_,rfl⟩
   have hpb:1<=p/\p<=9216:=by
    have h1:(1:Int)*1<=(1+m)*(1+m):=Int.mul_le_mul (by omega) (by omega) (by omega) (by omega);have h2:(1+m)*(1+m)<=96*96:=Int.mul_le_mul (by omega) (by omega) (by omega) (by omega);rw[hpp];omega
   obtain⟨y,hy⟩: ∃y:Int,y=65536/p:=⟨_,rfl⟩;have hT2:Qa (Ux.take (k+1)=q++[y]):=⟨by rw[hT,hy,hpp,hm,hd];unfold cntF;rw[show-((k:Int)-95)=95-(k:Int) from by omega]⟩;have g1:IntKind.i64.wrap ((k:Int)-95)=d:=(by rw[IntWalk.i64_in _ (by omega)];exact hd.symm);have g2:IntKind.i64.wrap (-d)= -d:=IntWalk.i64_in _ (by omega);have g3:max d (-d)=m:=hm.symm;have g4:IntKind.i64.wrap (1+m)=1+m:=IntWalk.i64_in _ (by omega);have g5:IntKind.i64.wrap ((1+m)*(1+m))=p:=(by rw[<-hpp,IntWalk.i64_in _ (by omega)]);have g6:(65536:Int).tdiv p=y:=(by rw[hy,Int.tdiv_eq_ediv_of_nonneg (by omega)]);have hyb:0<=y/\y<=65536:=(by rw[hy];exact⟨Int.ediv_nonneg (by omega) (by omega),Int.ediv_le_self _ (by omega)⟩);have g7:IntKind.i64.wrap y=y:=IntWalk.i64_in _ (by omega);have g8:(p==0)=false:=(by simpa using (by omega:p≠0));have g9:p≠0:=(by omega);replace hlt:=Qa.mk hlt;replace hyb:=Qa.mk hyb;clear hq hT hd hm hpp hy;go_wp2_with (first|(at_builtin;refine Kd.Zb (Kd.int .i64) (w0:=w) w.heap.size rfl (.tmp 17) (.tmp 22) 22 3 (.int .i64 0) 8 rfl Tryz.underlying22 Zg rfl (by decide) (by omega) u1 q (y) [.int .i64 (y)] (fun _=>True) (fun _=>False) rfl rfl rfl (fun _ hk=>hk.elim) (fun _ _=>trivial) ho.out hb.out hb.out.size hlen.out ?_;intro v1 wA hoA hbA hgA hatA;have HOA:=Qa.mk hoA;have HBA:=Qa.mk hbA;clear hoA hbA hgA hatA));go_roundw
   case rel=>exact⟨k+1,by go_num,hlt.out,⟨by rw[hT2.out];exact HOA.out⟩,HBA⟩
   case measure=>have:=hlt.out;simp[intOf];omega
  ·obtain rfl:k=191:=by omega
   have ho':Qa ((Kd.int .i64).R 3 wr w.heap.size (fun _=>True) u1 Ux):=⟨by rw[<-List.take_of_length_le (show Ux.length<=191 from Nat.le_of_eq hcl.out)];exact ho.out⟩;obtain⟨Ac,pc,rfl,hle,hC⟩:=Kd.Qu ho'.out;rw[hcl.out];clear hk hlt ho ho' hle;have HC:=Qa.mk (HLn.out Ac pc wr hC);clear hC HLn;go_wp2_with fail;refine HC.out.mono ?_;rintro e w1 ⟨g,rfl,hRw⟩;have hR1:=Qa.mk hRw;have hb1:=Qa.mk hRw.below;clear hRw;go_wp2_with fail;go_ret;exact⟨g,fin,rfl,HE.out.1,HE.out.2.1,HE.out.2.2,Qdj hb.out hR1.out⟩
theorem Qdo (ss:List Int) (us:List Bool) {k n:Nat} (h:J2 ss us k=true) (hk:k<=n):J2 ss us n=true:=by
 unfold J2 at h ⊢;obtain⟨i,hi,hp⟩:=List.any_eq_true.1 h;exact List.any_eq_true.2 ⟨i,List.mem_range.2 (by have:=List.mem_range.1 hi;omega),hp⟩
theorem We (A B:Option Addr) (c1 c2:Nat) (ss:List Int) (us:List Bool) (w:World) (hr:(Kd.int .i64).C w A ss.length ss) (hr2:Kd.bool.C w B us.length us) (hl:ss.length=us.length) (h128:us.length<=128):
  Calls Tryz.prog 200 #[.slice A ss.length c1,.slice B us.length c2] w fun e w'=>e= .returned (.bool (!J2 ss us ss.length))/\Below w.heap.size w w':=by
 have HR:=Qa.mk hr;have HR2:=Qa.mk hr2;have HL:=Qa.mk hl;have hlI:(ss.length:Int)<=128:=(by omega);have hlI2:(us.length:Int)<=128:=(by omega);clear hr hr2 hl h128;go_enter Tryz.func200,Tryz.ntmps200;go_wp2_with fail;go_loop [9] (fun i=> ∃k:Nat,i= .int .i64 k/\k<=ss.length/\Qa (J2 ss us k=false)) (fun i=>ss.length-(intOf i).toNat)
 case atStart=>exact⟨0,rfl,by omega,⟨by simp[J2]⟩⟩
 case round=>
  obtain⟨k,rfl,hk,hx⟩:=hrel;by_cases hlt:k<ss.length
  ·obtain⟨ad,rfl,hcell⟩:=Qq HR.out (Below.refl _ _) hlt
   obtain⟨ad2,rfl,hcell2⟩:=Y0 HR2.out (Below.refl _ _) (k:=k) (by rw[<-HL.out];exact hlt);have hltI:(k:Int)<(ss.length:Int):=(by omega);have hltI2:(k:Int)<(us.length:Int):=(by rw[<-HL.out];exact hltI);have hU:=Qa.mk (Nz ss us k);obtain⟨s,hs⟩: ∃s,s=rd ss k:=⟨_,rfl⟩;obtain⟨u,hu⟩: ∃u,u=us.getD k false:=⟨_,rfl⟩;rw[<-hs] at hcell hU;rw[<-hu] at hcell2 hU;have hlt':=Qa.mk hlt;clear hs hu hlt hk
   cases u with
   |true=>
    have hU2:Qa (J2 ss us (k+1)=false):=⟨by rw[hU.out,hx.out];simp⟩;clear hU;go_wp2_with fail;go_round
    case rel=>exact⟨k+1,by go_num,hlt'.out,hU2⟩
    case measure=>have:=hlt'.out;simp[intOf];omega
   |false=>
    by_cases h0:s=0
    ·subst h0
     have hU2:Qa (J2 ss us (k+1)=false):=⟨by rw[hU.out,hx.out];simp⟩;clear hU;go_wp2_with fail;go_round
     case rel=>exact⟨k+1,by go_num,hlt'.out,hU2⟩
     case measure=>have:=hlt'.out;simp[intOf];omega
    ·have hb0:(s != 0)=true:=by simpa using h0
     have hU2:Qa (J2 ss us ss.length=true):=⟨Qdo ss us (k:=k+1) (by rw[hU.out];simp[h0]) hlt'.out⟩;clear hU h0;go_wp2_with fail;go_ret;exact⟨by rw[hU2.out];rfl,Below.refl _ _⟩
  ·obtain rfl:k=ss.length:=by omega
   go_wp2_with fail;go_ret;exact⟨by rw[hx.out];rfl,Below.refl _ _⟩
theorem Wh (A B:Option Addr) (c1 c2:Nat) (ss:List Int) (us:List Bool) (w:World) (hr:(Kd.int .i64).C w A ss.length ss) (hr2:Kd.bool.C w B us.length us) (hl:ss.length=us.length) (h128:us.length<=128):
  Calls Tryz.prog 203 #[.slice A ss.length c1,.slice B us.length c2] w fun e w'=> ∃(v:Value) (l:List Int),e= .returned v/\(Kd.int .i64).R 3 w' w.heap.size (fun _=>True) v l/\l.length<=128/\(∀x∈l,x∈ss)/\Below w.heap.size w w':=by
 have HR:=Qa.mk hr;have HR2:=Qa.mk hr2;have HL:=Qa.mk hl;have hlI:(ss.length:Int)<=128:=(by omega);have hlI2:(us.length:Int)<=128:=(by omega);clear hr hr2 hl h128;go_enter Tryz.func203,Tryz.ntmps203;go_wp2_with fail;go_loopw [5,10] (fun o i wr=> ∃(k:Nat) (l:List Int),i= .int .i64 k/\k<=ss.length/\Qa (l.length<=k/\ ∀x∈l,x∈ss)/\Qa ((Kd.int .i64).R 3 wr w.heap.size (fun _=>True) o l)/\Qa (Below w.heap.size w wr)) (fun _ i _=>ss.length-(intOf i).toNat)
 case atStart=>exact⟨0,[],rfl,by omega,⟨by simp⟩,⟨Kd.Xd _ _ _ _ _⟩,⟨Below.refl _ _⟩⟩
 case round=>
  obtain⟨k,l,rfl,hk,hl,ho,hb⟩:=hrel;by_cases hlt:k<ss.length
  ·obtain⟨ad,rfl,hcell⟩:=Qq HR.out hb.out hlt
   obtain⟨ad2,rfl,hcell2⟩:=Y0 HR2.out hb.out (k:=k) (by rw[<-HL.out];exact hlt);have hltI:(k:Int)<(ss.length:Int):=(by omega);have hltI2:(k:Int)<(us.length:Int):=(by rw[<-HL.out];exact hltI);have hm:=Qa.mk (Qt ss k hlt);obtain⟨s,hs⟩: ∃s,s=rd ss k:=⟨_,rfl⟩;obtain⟨u,hu⟩: ∃u,u=us.getD k false:=⟨_,rfl⟩;rw[<-hs] at hcell hm;rw[<-hu] at hcell2;have hlen:Qa ((l.length+1)*8<=140737488355328):=⟨by have:=hl.out.1;omega⟩;have hlt':=Qa.mk hlt;clear hs hu hlt hk
   cases u with
   |true=>
    go_wp2_with (first|(at_builtin;refine Kd.Zb (Kd.int .i64) (w0:=w) w.heap.size rfl (.tmp 19) (.tmp 21) 22 3 (.int .i64 0) 8 rfl Tryz.underlying22 Zg rfl (by decide) (by omega) u5 l (s) [.int .i64 (s)] (fun _=>True) (fun _=>False) rfl rfl rfl (fun _ hk=>hk.elim) (fun _ _=>trivial) ho.out hb.out hb.out.size hlen.out ?_;intro v1 wA hoA hbA hgA hatA;have HOA:=Qa.mk hoA;have HBA:=Qa.mk hbA;clear hoA hbA hgA hatA));go_roundw
    case rel=>exact⟨k+1,l++[s],by go_num,hlt'.out,⟨by have:=hl.out.1;simp;omega,fun x hx=>by
     rcases List.mem_append.1 hx with h|h
     ·exact hl.out.2 x h
     ·rw[List.mem_singleton.1 h];exact hm.out⟩,HOA,HBA⟩
    case measure=>have:=hlt'.out;simp[intOf];omega
   |false=>
    go_wp2_with fail;go_roundw
    case rel=>exact⟨k+1,l,by go_num,hlt'.out,⟨by have:=hl.out.1;omega,hl.out.2⟩,ho,hb⟩
    case measure=>have:=hlt'.out;simp[intOf];omega
  ·obtain rfl:k=ss.length:=by omega
   go_wp2_with fail;go_ret;exact⟨_,l,rfl,ho.out,by have:=hl.out.1;omega,hl.out.2,hb.out⟩
theorem Sn (v:Value) (xs:List Int) (x:Int) (n base:Nat) (w:World) (hR:(Kd.int .u8).R 5 w base (fun _=>True) v xs) (hb:base<=w.heap.size) (hn:n<=16) (hl:xs.length<=100000):
  Calls Tryz.prog 204 #[v,.int .i64 x,.int .i64 n] w fun e w'=> ∃(v':Value) (ys:List Int),e= .returned v'/\(Kd.int .u8).R 5 w' base (fun _=>True) v' ys/\ys.length=xs.length+n/\Below base w w':=by
 have hb0:=Qa.mk hb;have hnI:(n:Int)<=16:=(by omega);have hl':=Qa.mk hl;have hR':=Qa.mk hR;have h9:IntKind.i64.wrap ((n:Int)-1)=(n:Int)-1:=IntWalk.i64_in _ (by omega);clear hb hl hR;go_enter Tryz.func204,Tryz.ntmps204;go_wp2_with fail;go_loopw [0,7] (fun o i wr=> ∃(k:Nat) (ys:List Int),i= .int .i64 ((k:Int)-1)/\k<=n/\Qa (ys.length+k=xs.length+n)/\Qa ((Kd.int .u8).R 5 wr base (fun _=>True) o ys)/\Qa (Below base w wr)) (fun _ i _=>(intOf i+1).toNat)
 case atStart=>exact⟨n,xs,rfl,by omega,⟨rfl⟩,hR',⟨Below.refl _ _⟩⟩
 case round=>
  obtain⟨k,ys,rfl,hk,hy,ho,hb⟩:=hrel;rcases k with _|k
  ·simp only[Int.natCast_zero,Int.zero_sub]
   go_wp2_with fail;go_ret;exact⟨_,ys,rfl,ho.out,hy.out,hb.out⟩
  ·have w4:((k+1:Nat):Int)-1=(k:Int):=by omega
   have w5:IntKind.i64.wrap ((k:Int)-1)=(k:Int)-1:=IntWalk.i64_in _ (by omega);have hkI:(k:Int)<=15:=(by omega);have hlen:Qa ((ys.length+1)*1<=140737488355328):=⟨by have:=hy.out;have:=hl'.out;omega⟩;have hbs:Qa (base<=wr.heap.size):=⟨by have:=hb0.out;have:=hb.out.size;omega⟩;rw[w4];replace hk:=Qa.mk hk;clear w4;go_wp2_with (first|(at_builtin;refine Kd.Zb (Kd.int .u8) (w0:=w) base rfl (.tmp 14) (.tmp 20) 168 5 (.int .u8 0) 1 rfl Tryz.underlying168 Bi rfl (by decide) (by decide) u0 ys (bits BinOp.and IntKind.i64 (x/2^k) 1%256) [.int .u8 (bits BinOp.and IntKind.i64 (x/2^k) 1%256)] (fun _=>True) (fun _=>False) rfl rfl rfl (fun _ hk=>hk.elim) (fun _ _=>trivial) ho.out hb.out hbs.out hlen.out ?_;intro v1 wA hoA hbA hgA hatA;have HOA:=Qa.mk hoA;have HBA:=Qa.mk hbA;clear hoA hbA hgA hatA));go_roundw
   case rel=>exact⟨k,_,rfl,by have:=hk.out;omega,⟨by have:=hy.out;rw[List.length_append,List.length_singleton];omega⟩,HOA,HBA⟩
   case measure=>simp[intOf]
end Rq

namespace Rq
attribute [local go_sem] Qi Qj Qk Ql Qg Qh
open Q15
open Q21
open St (at_)
open Bts (Rws Blk Rws.start Bi)
open Sca (J2 Y0 scE)
theorem rng_isS (ss:List Int):Q16.rng 0 95 ss=ss.all Sca.isS:=rfl
theorem Qb8 (A B:Option Addr) (c1 c2:Nat) (ss:List Int) (us:List Bool) (w:World) (hr:(Kd.int .i64).C w A ss.length ss) (hr2:Kd.bool.C w B us.length us) (hl:ss.length=us.length) (h128:us.length<=128):
  Calls Tryz.prog 155 #[.slice A ss.length c1,.slice B us.length c2] w fun e w'=> ∃(C:Option Addr) (n c:Nat),e= .returned (.tuple #[.slice C n c,.int .i64 (scE ss us)])/\n<=10000/\Below w.heap.size w w':=by
 have HRg:=Qa.mk (fun W (hb:Below w.heap.size w W)=>Eh A c1 ss W (Kd.Qe hr hb) (by omega));have HRt:=Qa.mk (fun W (hb:Below w.heap.size w W)=>We A B c1 c2 ss us W (Kd.Qe hr hb) (Kd.Qe hr2 hb) hl h128);have HTk:=Qa.mk (fun W (hb:Below w.heap.size w W)=>Wh A B c1 c2 ss us W (Kd.Qe hr hb) (Kd.Qe hr2 hb) hl h128);have hmo:=Qa.mk (show Tryz.prog.follows .mixedOrders =true by kernel_rfl);have hne:((ss.length:Int) != (us.length:Int))=false:=(by rw[hl];simp);have hlI:(ss.length:Int)<=128:=(by omega);have hlI2:(us.length:Int)<=128:=(by omega);have d1:decide (128<us.length)=false:=decide_eq_false (by omega);have hb:=Below.refl w.heap.size w;clear hr hr2 hl h128;rw[rng_isS] at HRg
 cases ha:ss.all Sca.isS with
 |false=>
  have hE:Qa (scE ss us=6):=⟨by unfold scE;rw[ha];simp⟩;rw[ha] at HRg;clear ha;go_enter Tryz.func155,Tryz.ntmps155;go_wp2_with (first|(go_at_call 32;refine(HRg.out _ hb).mono ?_;rintro e w' ⟨rfl,hbn⟩;replace hb:=bnx hb hbn;clear hbn));go_ret2;exact⟨none,0,0,by rw[hE.out];rfl,by omega,hb⟩
 |true=>
  rw[ha] at HRg
  cases hu:J2 ss us ss.length with
  |true=>
   have hE:Qa (scE ss us=4):=⟨by unfold scE;rw[ha,hu];simp⟩;rw[hu] at HRt;clear ha hu;go_enter Tryz.func155,Tryz.ntmps155;go_wp2_with (first|(go_at_call 32;refine(HRg.out _ hb).mono ?_;rintro e w' ⟨rfl,hbn⟩;replace hb:=bnx hb hbn;clear hbn)|(go_at_call 200;refine(HRt.out _ hb).mono ?_;rintro e w' ⟨rfl,hbn⟩;replace hb:=bnx hb hbn;clear hbn));go_ret2;exact⟨none,0,0,by rw[hE.out];rfl,by omega,hb⟩
  |false=>
   have hE:Qa (scE ss us=0):=⟨by unfold scE;rw[ha,hu];simp⟩;have HS:=Qa.mk (fun x (hx:x∈ss)=>(by simpa[Sca.isS] using List.all_eq_true.1 ha x hx:0<=x/\x<=95));rw[hu] at HRt;clear ha hu;go_enter Tryz.func155,Tryz.ntmps155;go_wp2_with (first|(go_at_call 32;refine(HRg.out _ hb).mono ?_;rintro e w' ⟨rfl,hbn⟩;replace hb:=bnx hb hbn;clear hbn)|(go_at_call 200;refine(HRt.out _ hb).mono ?_;rintro e w' ⟨rfl,hbn⟩;replace hb:=bnx hb hbn;clear hbn)|(go_at_call 201;refine(Fs _).mono ?_));rintro e w1 ⟨g,fin,rfl,hf1,hf2,hf3,hRw1⟩;replace hb:=bnx hb hRw1.below;have hC1:=Lu (at_ hRw1 0 rfl);have HCd:=Qa.mk (Ay (some ⟨g,0,none⟩) 191 fin w1 hC1 (by omega) (by omega) hf2 hf3);rw[hf1] at HCd;replace hRw1:=Qa.mk hRw1;replace hf1:=Qa.mk hf1;replace hf2:=Qa.mk hf2;replace hb:=Qa.mk hb;clear hf3 hC1;go_wp2_with fail;refine HCd.out.mono ?_;rintro e w2 ⟨gc,cds,rfl,hcl,hRw2⟩;have hb2:=Qa.mk (bnx hb.out hRw2.below);have hRw12:=Qa.mk (hRw1.out.step hRw2.below);have HT2:=Qa.mk (HTk.out w2 hb2.out);replace hRw2:=Qa.mk hRw2;replace hcl:=Qa.mk hcl;clear HCd hRw1 HTk HRg HRt;go_wp2_with fail;refine HT2.out.mono ?_;rintro e w3 ⟨v,l,rfl,hRl,hll,hlm,hbl⟩;obtain⟨Al,cl,rfl,-,hCl⟩:=Kd.Qu hRl;have hb3:=Qa.mk (bnx hb2.out hbl);have hRg3:=hRw12.out.step hbl;have hRc3:=hRw2.out.step hbl
   have HFc:=Qa.mk (fun W (hbW:Below w3.heap.size w3 W) (k:Nat) (hk:k<191)=>(show W.cell? ⟨g,k,none⟩=some (.int .i64 (rd fin k)) by
    refine cnx ?_ hbW;rw[Qb (at_ hRg3 0 rfl)];have:k<fin.length:=by rw[hf1.out];exact hk
    simp[rd,List.getD_eq_getElem?_getD,this]))
   have HCc:=Qa.mk (fun W (hbW:Below w3.heap.size w3 W) (k:Nat) (hk:k<191)=>(show W.cell? ⟨gc,k,none⟩=some (.int .i64 (rd cds k)) by
    refine cnx ?_ hbW;rw[Qb (at_ hRc3 0 rfl)];have:k<cds.length:=by rw[hcl.out];exact hk
    simp[rd,List.getD_eq_getElem?_getD,this]))
   have HFb:=Qa.mk (fun(k:Nat) (hk:k<191)=>hf2.out _ (Qt fin k (by rw[hf1.out];exact hk)));have HLb:=Qa.mk (fun(k:Nat) (hk:k<l.length)=>HS.out _ (hlm _ (Qt l k hk)));have HCl:=Qa.mk hCl;have hllI:(l.length:Int)<=128:=(by omega);clear hRl hCl hlm hbl hRg3 hRc3 hf1 hf2 hRw12 hRw2 hcl hb2 HT2 HS;go_wp2_with fail;go_loopw [9,45] (fun o i wr=> ∃(k:Nat) (ys:List Int),i= .int .i64 k/\k<=l.length/\Qa (ys.length<=16*k)/\Qa ((Kd.int .u8).R 5 wr w3.heap.size (fun _=>True) o ys)/\Qa (Below w3.heap.size w3 wr)) (fun _ i _=>l.length-(intOf i).toNat)
   case atStart=>exact⟨0,[],rfl,by omega,⟨by simp⟩,⟨Kd.Xd _ _ _ _ _⟩,⟨Below.refl _ _⟩⟩
   case round=>
    obtain⟨k,ys,rfl,hk,hy,ho,hb⟩:=hrel;by_cases hlt:k<l.length
    ·obtain⟨ad,rfl,hcell⟩:=Qq HCl.out hb.out hlt
     have hx:=HLb.out k hlt;have hkI:(k:Int)<(l.length:Int):=(by omega);obtain⟨x,hxe⟩: ∃x,x=rd l k:=⟨_,rfl⟩;rw[<-hxe] at hcell hx;have hys:ys.length<=100000:=(by have:=hy.out;omega);rcases k with _|m
     ·have HPt:=Sn u9 ys x 7 w3.heap.size wr ho.out hb.out.size (by omega) hys
      rw[show((7:Nat):Int)=7 from rfl] at HPt;rw[L6] at hcell;replace HPt:=Qa.mk HPt;replace hlt:=Qa.mk hlt;replace hys:=Qa.mk hys;clear hxe;simp only[Int.natCast_zero] at hkI ⊢;go_wp2_with fail;refine HPt.out.mono ?_;rintro e w4 ⟨v',zs,rfl,hR4,hz4,hb4⟩;have hR5:=Qa.mk hR4;have hb5:=Qa.mk (hb.out.trans hb4);have hz5:=Qa.mk hz4;clear hR4 hz4 hb4;go_wp2_with fail;go_roundw
      case rel=>exact⟨1,zs,by go_num,hlt.out,⟨by have:=hy.out;have:=hz5.out;omega⟩,hR5,hb5⟩
      case measure=>have:=hlt.out;simp[intOf];omega
     ·obtain⟨ad',e',hcell0⟩:=Qq HCl.out hb.out (k:=m) (by omega)
      cases e';have hx0:=HLb.out m (by omega);obtain⟨y,hye⟩: ∃y,y=rd l m:=⟨_,rfl⟩;rw[<-hye] at hcell0 hx0;obtain⟨t,ht⟩: ∃t:Nat,(t:Int)=x-y+95:=⟨(x-y+95).toNat,by omega⟩;have ht9:t<191:=(by omega);have f1:=HFc.out wr hb.out t ht9;have f2:=HCc.out wr hb.out t ht9;obtain⟨ln,hln⟩: ∃ln:Nat,(ln:Int)=rd fin t:=⟨(rd fin t).toNat,by have:=HFb.out t ht9;omega⟩;have hln16:ln<=16:=(by have:=HFb.out t ht9;omega);obtain⟨cd,hcd⟩: ∃cd,cd=rd cds t:=⟨_,rfl⟩;rw[<-hln] at f1;rw[<-hcd] at f2;have HPt:=Qa.mk (fun W (hbW:Below w3.heap.size w3 W) (h:(Kd.int .u8).R 5 W w3.heap.size (fun _=>True) u9 ys)=>Sn u9 ys cd ln w3.heap.size W h hbW.size hln16 hys);have g1:IntKind.i64.wrap (((m+1:Nat):Int)-1)=(m:Int):=(by rw[IntWalk.i64_in _ (by omega)];omega);have g2:IntKind.i64.wrap (x-y)=x-y:=IntWalk.i64_in _ (by omega);have g3:IntKind.i64.wrap (x-y+95)=(t:Int):=(by rw[ht,IntWalk.i64_in _ (by omega)]);have g4:(((m+1:Nat):Int)==0)=false:=(by simpa using (by omega:((m+1:Nat):Int)≠0));have g5:(t:Int)<191:=(by omega);have g6:(m:Int)<(l.length:Int):=(by omega);obtain⟨k,hk2⟩: ∃k,k=m+1:=⟨_,rfl⟩;rw[<-hk2] at g1 g4 hkI hcell hy hlt ⊢;replace hlt:=Qa.mk hlt;replace hys:=Qa.mk hys;replace hk2:=Qa.mk hk2;replace hln16:=Qa.mk hln16;replace hln:=Qa.mk hln;replace hcd:=Qa.mk hcd;clear hxe hye ht ht9 hk;go_wp2_with fail;refine Qr (S:=fun w'=>w'.cell? ⟨gc,t,none⟩=some (.int .i64 cd)/\w'.cell? ⟨g,t,none⟩=some (.int .i64 ln)) (ds:=[10]) hmo.out ⟨f2,f1⟩ (fun hHeld=> ?_)
      (refine Tk.tl 0 (u9) hHeld ?_)
      (refine Tk.tl 1 (.slice (some ⟨gc,0,none⟩) 191 191) hHeld ?_)
      (refine Tk.tl 2 (.int .i64 t) hHeld ?_)
      (refine Tk.tl 3 (.pointer (some ⟨gc,t,none⟩)) hHeld ?_)
      (refine Tk.tl 4 (.int .i64 cd) hHeld ?_)
      (refine Tk.tl 5 (.slice (some ⟨g,0,none⟩) 191 191) hHeld ?_)
      (refine Tk.tl 6 (.int .i64 t) hHeld ?_)
      (refine Tk.tl 7 (.pointer (some ⟨g,t,none⟩)) hHeld ?_)
      (refine Tk.tl 8 (.int .i64 ln) hHeld ?_)
      (refine Qd (rs:=[9]) (by kernel_rfl) (by simp) ?_;refine Qc.cons rfl (by decide) (fun K hK=> ?_) Qc.nil)
      go_simp;have hdr:Below wr.heap.size wr wr.drew:=(Below.refl _ _).drew;refine(HPt.out wr.drew (bnx hb.out hdr) (Kd.Qw ho.out hdr)).mono ?_;rintro e w4 ⟨v',zs,rfl,hR4,hz4,hb4⟩;replace hb4:=(bnx hb.out hdr).trans hb4;have e1:=HFc.out w4 hb4 t (by omega);have e2:=HCc.out w4 hb4 t (by omega);rw[<-hln.out] at e1;rw[<-hcd.out] at e2;have hR5:=Qa.mk hR4;have hb5:=Qa.mk hb4;have hz5:=Qa.mk hz4;clear hR4 hz4 hb4 hdr hHeld f1 f2
      (go_wp2_with fail;refine hK.out _ _ (⟨e2,e1⟩) (fun hHeld=> ?_);clear hK K;try simp only[Act.put,Tk.z1,Tk.z2,Tk.z3,Tk.z4,Tk.z5,Tk.z6])
      (refine Qd (rs:=[10]) (by kernel_rfl) (by simp) ?_;refine Qc.Zp rfl (by decide) (fun K hK=> ?_) Qc.nil)
      go_simp;go_wp2_with fail;refine hK.out _ _ ?_;clear hK K
      try simp only[Act.put,List.setIfInBounds_toArray,List.set_cons_zero,List.set_cons_succ]
      refine Qo (by kernel_rfl) ?_ _;go_wp2_with fail;go_roundw
      case rel=>exact⟨k+1,zs,by go_num,hlt.out,⟨by have:=hy.out;have:=hz5.out;have:=hln16.out;omega⟩,hR5,hb5⟩
      case measure=>have:=hlt.out;simp[intOf];omega
    ·obtain rfl:k=l.length:=by omega
     obtain⟨Ar,cr,rfl,-,-⟩:=Kd.Qu ho.out;have hn:=Qa.mk (show ys.length<=10000 by have:=hy.out;omega);clear ho;go_wp2_with fail;go_ret2;exact⟨Ar,_,cr,by rw[hE.out];rfl,hn.out,bnx hb3.out hb.out⟩
theorem Qaq (A B:Option Addr) (c1 c2:Nat) (ss:List Int) (us:List Bool) (w:World) (hr:(Kd.int .i64).C w A ss.length ss) (hr2:Kd.bool.C w B us.length us) (hl:ss.length=us.length) (h128:us.length<=128):
  Calls Tryz.prog 93 #[.slice A ss.length c1,.slice B us.length c2] w fun e w'=> ∃n:Int,e= .returned (.tuple #[.int .i64 n,.int .i64 (scE ss us)])/\Below w.heap.size w w':=by
 have HR:=Qa.mk (Qb8 A B c1 c2 ss us w hr hr2 hl h128);clear hr hr2 hl h128;obtain⟨E,hE⟩: ∃E,E=scE ss us:=⟨_,rfl⟩;rw[<-hE] at HR ⊢;clear hE;go_enter Tryz.func93,Tryz.ntmps93;go_wp2_with fail;refine HR.out.mono ?_;rintro e w1 ⟨C,n,c,rfl,hn,hb⟩;have hnI:(n:Int)<=10000:=(by omega);go_wp2_with fail;go_ret2;exact⟨_,rfl,hb⟩
end Rq

end Go.Proofs.YtnflnicdjioflaaGreatDoor
