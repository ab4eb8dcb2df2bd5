/- A part of the proof. -/
import Derived.Test.YtnflnicdjioflaaGreatDoorSxau
set_option linter.unusedVariables false
set_option linter.unusedSimpArgs false
set_option maxRecDepth 100000
set_option maxHeartbeats 8000000
namespace Go.Proofs.YtnflnicdjioflaaGreatDoor
open Go.RowKit Go.Proofs.YtnflnicdjioflaaGreatDoorW.PrintWords Go.Proofs.YtnflnicdjioflaaGreatDoorW.PrintLast Go.Proofs.YtnflnicdjioflaaGreatDoorW.PrintMore
namespace Rs
attribute [local go_sem] Qh Qi Qk Ql Qd Qe
open Q15
open Q21
open Bd (Gp posS posG frB wB Vf Fu Ph E9)
def Db (sh:Bool) (g:List Int) (n:Nat):List Int:=(List.range n).map fun m=>((Gp sh g m:Nat):Int)
theorem Cj (sh:Bool) (g:List Int) (n:Nat):Db sh g (n+1)=Db sh g n++[((Gp sh g n:Nat):Int)]:=by unfold Db;rw[List.range_succ];simp
theorem Dc (sh:Bool) (g:List Int) (n:Nat):(Db sh g n).length =n:=by unfold Db;simp
def SC (W:World) (b:Nat) (v:Value):Prop:=some b≠v.ownBlock/\b<W.heap.size/\ ∀j,j<4->W.cell? ⟨b,j,none⟩=some (.int .i64 (wB j:Nat))
theorem SC.app {W wA:World} {v v1:Value} {b:Nat} (h:SC W b v) (hg:W.grownBy wA v.ownBlock) (hat:v1.ownBlock=v.ownBlock\/ ∃b,v1.ownBlock=some b/\W.heap.size<=b):SC wA b v1:=by
 obtain⟨h1,h2,h3⟩:=Bf hg hat h.1 h.2.1;exact⟨h1,h2,fun j hj=>h3 _ _ (h.2.2 j hj)⟩
theorem div_at {q b t:Nat} (h:t<q):(b*q+t)/q=b/\(b*q+t)%q=t:=by
 rw[Nat.mul_comm b q,Nat.mul_add_div (by omega),Nat.mul_add_mod,Nat.div_eq_of_lt h,Nat.mod_eq_of_lt h];exact⟨rfl,rfl⟩
theorem Ct (sh:Bool) (A:Option Addr) (cap:Nat) (gs:List Int) (w:World) (hr:(Kd.int .i64).C w A gs.length gs) (hd:Zc sh gs=true):
  Calls Tryz.prog 136 #[.bool sh,.slice A gs.length cap] w fun e w'=> ∃v,e= .returned v/\(Kd.int .i64).R 3 w' w.heap.size (fun _=>True) v (Db sh gs 128)/\Below w.heap.size w w':=by
 cases sh with
 |false=>
  clear hr hd;go_enter Tryz.func136,Tryz.ntmps136;go_wp2;go_loopw [5,17] (fun o i wr=> ∃k:Nat,i= .int .i64 k/\k<=128/\Qa ((Kd.int .i64).R 3 wr w.heap.size (fun _=>True) o (Db false gs k))/\Qa (Below w.heap.size w wr)) (fun _ i _=>128-(intOf i).toNat)
  case atStart=>exact⟨0,rfl,by omega,⟨Kd.Zx _ _ _ _ _⟩,⟨Below.refl _ _⟩⟩
  case round=>
   obtain⟨k,rfl,hk,ho,hb⟩:=hrel;by_cases hlt:k<128
   ·have hkI:(k:Int)<128:=by omega
    have hT:=Qa.mk (Cj false gs k);rw[show Gp false gs k=k from rfl] at hT;have hlen:Qa (((Db false gs k).length +1)*8<=140737488355328):=⟨by rw[Dc];omega⟩;obtain⟨y,hy⟩: ∃y,y=Db false gs k:=⟨_,rfl⟩;rw[<-hy] at ho hT hlen;have hltT:=Qa.mk hlt;clear hy hlt hk;go_wp2_with (first|(at_builtin;refine Kd.Q3 (Kd.int .i64) (w0:=w) w.heap.size rfl (.tmp 20) (.tmp 22) 22 3 (.int .i64 0) 8 rfl Tryz.underlying22 Qw rfl (by decide) (by omega) u5 y ((k:Int)) [.int .i64 ((k:Int))] (fun _=>True) (fun _=>False) rfl rfl rfl (fun _ hk=>hk.elim) (fun _ _=>trivial) ho.out hb.out hb.out.size hlen.out ?_;intro v1 wA hoA hbA hgA hatA;have HOA:=Qa.mk hoA;have HBA:=Qa.mk hbA;clear hoA hbA hgA hatA));go_roundw
    case rel=>exact⟨k+1,by go_num,hltT.out,⟨by rw[hT.out];exact HOA.out⟩,HBA⟩
    case measure=>have:=hltT.out;simp[intOf];omega
   ·obtain rfl:k=128:=by omega
    go_wp2;go_ret;exact⟨_,rfl,ho.out,hb.out⟩
 |true=>
  obtain⟨i1,i2,i3⟩:=Xr.1 hd;have HR:=Qa.mk hr;have hgI:(gs.length:Int)<=8:=(by omega);have hS:=Qa.mk (fun k (hk:k<gs.length)=>Fu i2 hk);have hP:=Qa.mk (fun k (hk:k<gs.length) m hm=>Ph (g:=gs) 0 hk (fun x hx=>(i2 x hx).1) (m:=m) hm);have hI:=Qa.mk (fun k (hk:k<gs.length)=>i2 _ (Qp gs k hk));replace i3:=Qa.mk i3;have hend:Qa (16*Vf gs gs.length=128):=⟨by unfold Vf;rw[List.take_length,i3.out];rfl⟩;have HSh:=Qa.mk F9;clear hr hd i1 i2;go_enter Tryz.func136,Tryz.ntmps136;go_wp2;go_loopw [5,7,28] (fun o x i wr=> ∃k f:Nat,i= .int .i64 k/\x= .int .i64 f/\k<=gs.length/\f<=8/\Qa (f=Vf gs k)/\Qa ((Kd.int .i64).R 3 wr w.heap.size (fun _=>True) o (Db true gs (16*f)))/\Qa (Below w.heap.size w wr)) (fun _ _ i _=>gs.length-(intOf i).toNat)
  case atStart=>exact⟨0,0,rfl,rfl,by omega,by omega,⟨by simp[Vf]⟩,⟨Kd.Zx _ _ _ _ _⟩,⟨Below.refl _ _⟩⟩
  case round=>
   obtain⟨k,f,rfl,rfl,hk,hf,hfk,ho,hb⟩:=hrel;by_cases hlt:k<gs.length
   ·have hkI:(k:Int)<(gs.length:Int):=by omega
    obtain⟨ad,rfl,hcell⟩:=Qn HR.out hb.out hlt;obtain⟨o1,o2⟩:=hS.out k hlt;have o3:=hI.out k hlt;have hPk:=Qa.mk (hP.out k hlt);rw[<-hfk.out] at hPk o1;obtain⟨d,hdE⟩: ∃d:Nat,(d:Int)=rd gs k:=⟨(rd gs k).toNat,by omega⟩;rw[<-hdE] at hcell o1 o3 hPk;rw[Int.toNat_natCast] at o1 hPk;have hfd:f+d<=8:=(by have:=i3.out;omega);have hT:=Qa.mk hlt;replace o1:=Qa.mk o1;clear hdE hlt hk o2;go_wp2_with fail;refine(HSh.out _).mono ?_;rintro e w1 ⟨rfl,hsz,s0,s1,s2,s3,hbn⟩;obtain⟨ox,rfl⟩: ∃ox:Value,ox=u5:=⟨_,rfl⟩;have hR1:=Qa.mk (Kd.Q4 ho.out hbn);have hB1:=Qa.mk (bnx hb.out hbn);obtain⟨b,hbe⟩: ∃b,b=wr.heap.size:=⟨_,rfl⟩;rw[<-hbe] at hsz s0 s1 s2 s3
    have hSC:Qa (SC w1 b ox):=⟨fun h=>by have:=((Kd.Zd ho.out).1 b h.symm).2.2.1;omega,hsz,fun j hj=>by
     have h4:j=0\/j=1\/j=2\/j=3:=(by omega);rcases h4 with rfl|rfl|rfl|rfl
     ·exact s0
     ·exact s1
     ·exact s2
     ·exact s3⟩
    rw[<-hbe];clear hbe hsz hbn ho hb s0 s1 s2 s3 hcell;go_wp2_with fail;go_loopw [5,10,34] (fun o x i wr=> ∃j r:Nat,i= .int .i64 j/\x= .int .i64 r/\j<=4/\r<=16/\Qa (r=frB j)/\Qa (SC wr b o)/\Qa ((Kd.int .i64).R 3 wr w.heap.size (fun _=>True) o (Db true gs (16*f+d*r)))/\Qa (Below w.heap.size w wr)) (fun _ _ i _=>4-(intOf i).toNat)
    case atStart=>exact⟨0,0,rfl,rfl,by omega,by omega,⟨rfl⟩,hSC,⟨by rw[Nat.mul_zero,Nat.add_zero];exact hR1.out⟩,hB1⟩
    case round=>
     obtain⟨j,r,rfl,rfl,hj,hr,hrj,hSC2,ho2,hb2⟩:=hrel;clear hR1 hB1 hSC;by_cases hjt:j<4
     ·have hjI:(j:Int)<4:=by omega
      have hidx:=hSC2.out.2.2 j hjt
      have hwb:2<=wB j/\wB j<=8/\frB (j+1)=frB j+wB j/\frB (j+1)<=16:=by
       have h4:j=0\/j=1\/j=2\/j=3:=(by omega);rcases h4 with rfl|rfl|rfl|rfl<;>decide
      have hpg:=Qa.mk (fun i (hi:i<d*wB j)=>E9 (n:=d) (F:=0+f) (j:=j) hjt hi);rw[<-hrj.out] at hwb hpg;obtain⟨q,hq⟩: ∃q,q=wB j:=⟨_,rfl⟩;rw[<-hq] at hidx hwb hpg;have hjT:=Qa.mk hjt;obtain⟨b1,b2,b3,b4⟩:=hwb;rw[b3] at b4;replace b3:=Qa.mk b3;have hN9:=Qa.mk (Nat.mul_le_mul_left d b4);clear hq hjt hj;go_wp2_with fail;obtain⟨ox2,rfl⟩: ∃ox:Value,ox=u5:=⟨_,rfl⟩;obtain⟨wo,rfl⟩: ∃wo:World,wo=wr:=⟨_,rfl⟩;go_loopw [5,13] (fun o x wr=> ∃c B:Nat,x= .int .i64 B/\f<=B/\B<=f+d/\Qa (B=f+c)/\Qa (SC wr b o)/\Qa ((Kd.int .i64).R 3 wr w.heap.size (fun _=>True) o (Db true gs (16*f+(d*r+c*q))))/\Qa (Below w.heap.size w wr)) (fun _ x _=>f+d-(intOf x).toNat)
      case atStart=>exact⟨0,f,rfl,by omega,by omega,⟨rfl⟩,hSC2,⟨by rw[Nat.zero_mul,Nat.add_zero];exact ho2.out⟩,hb2⟩
      case round=>
       obtain⟨c,B,rfl,hB0,hB9,hBc,hSC3,ho3,hb3⟩:=hrel;clear hSC2 ho2 hb2 hidx;by_cases hBt:B<f+d
       ·have hBI:(B:Int)<(f:Int)+(d:Int):=by omega
        have hcd:c+1<=d:=(by have:=hBc.out;omega);have hcq:=Qa.mk (Nat.mul_le_mul_right q hcd);have hBT:=Qa.mk (show f<=B+1/\B+1<=f+d/\f+d<=8 from⟨by omega,hBt,hfd⟩);have hB8:(B:Int)<=8:=(by omega);clear hBt hB0 hB9 hcd;go_wp2_with fail;obtain⟨ox3,rfl⟩: ∃ox:Value,ox=u5:=⟨_,rfl⟩;obtain⟨wp,rfl⟩: ∃wp:World,wp=wr:=⟨_,rfl⟩;go_loopw [5,14] (fun o x wr=> ∃t I:Nat,x= .int .i64 I/\r<=I/\I<=r+q/\Qa (I=r+t)/\Qa (SC wr b o)/\Qa ((Kd.int .i64).R 3 wr w.heap.size (fun _=>True) o (Db true gs (16*f+(d*r+(c*q+t)))))/\Qa (Below w.heap.size w wr)) (fun _ x _=>r+q-(intOf x).toNat)
        case atStart=>exact⟨0,r,rfl,by omega,by omega,⟨rfl⟩,hSC3,⟨by rw[Nat.add_zero];exact ho3.out⟩,hb3⟩
        case round=>
         obtain⟨t,I,rfl,hI0,hI9,hIt,hSC4,ho4,hb4⟩:=hrel;clear hSC3 ho3 hb3;by_cases hIl:I<r+q
         ·have hII:(I:Int)<(r:Int)+(q:Int):=by omega
          have hI32:(I:Int)<=32:=(by omega);have htq:t<q:=(by have:=hIt.out;omega);have hmm:c*q+t<d*q:=(by have:=hcq.out;rw[Nat.add_mul,Nat.one_mul] at this;omega);have hm16:d*r+(c*q+t)<16*d:=(by have h1:=hN9.out;rw[Nat.mul_add,Nat.mul_comm d 16] at h1;omega);have hdv:=div_at (b:=c) htq
          have hpos:Gp true gs (16*f+(d*r+(c*q+t)))=(f+c)*16+r+t:=by
           show posS gs 0 _=_
           rw[hPk.out _ hm16,hpg.out _ hmm,hdv.1,hdv.2,Nat.zero_add]
          have hT4:=Qa.mk (Cj true gs (16*f+(d*r+(c*q+t))));rw[hpos,show(((f+c)*16+r+t:Nat):Int)=16*(B:Int)+(I:Int) by rw[hBc.out,hIt.out];push_cast;omega] at hT4;have hlen:Qa (((Db true gs (16*f+(d*r+(c*q+t)))).length +1)*8<=140737488355328):=⟨by rw[Dc];omega⟩;obtain⟨y,hy⟩: ∃y,y=Db true gs (16*f+(d*r+(c*q+t))):=⟨_,rfl⟩;rw[<-hy] at ho4 hT4 hlen;have hIT:=Qa.mk (show r<=I+1/\I+1<=r+q from⟨by omega,hIl⟩);have g1:IntKind.i64.wrap (16*(B:Int))=16*(B:Int):=IntWalk.i64_in _ (by omega);have g2:IntKind.i64.wrap (16*(B:Int)+(I:Int))=16*(B:Int)+(I:Int):=IntWalk.i64_in _ (by omega);clear hy hpos hdv hm16 hmm htq hIl hI0 hI9;go_wp2_with (first|(at_builtin;refine Kd.Q3 (Kd.int .i64) (w0:=w) w.heap.size rfl (.tmp 54) (.tmp 59) 22 3 (.int .i64 0) 8 rfl Tryz.underlying22 Qw rfl (by decide) (by omega) u5 y ((16*(B:Int)+(I:Int))) [.int .i64 ((16*(B:Int)+(I:Int)))] (fun _=>True) (fun _=>False) rfl rfl rfl (fun _ hk=>hk.elim) (fun _ _=>trivial) ho4.out hb4.out hb4.out.size hlen.out ?_;intro v1 wA hoA hbA hgA hatA;have HOA:=Qa.mk hoA;have HBA:=Qa.mk hbA;have HSA:=Qa.mk (hSC4.out.app hgA hatA);clear hoA hbA hgA hatA));go_roundw
          case rel=>exact⟨t+1,I+1,by go_num,hIT.out.1,hIT.out.2,⟨by rw[hIt.out];rfl⟩,HSA,⟨by rw[<-Nat.add_assoc,<-Nat.add_assoc,<-Nat.add_assoc];rw[Nat.add_assoc (16*f),Nat.add_assoc (16*f),Nat.add_assoc (d*r)];rw[hT4.out];exact HOA.out⟩,HBA⟩
          case measure=>have:=hIT.out;simp[intOf];omega
         ·have hII: ¬((I:Int)<(r:Int)+(q:Int)):=by omega
          have htq:Qa (t=q):=⟨by have:=hIt.out;omega⟩;have hI32:(I:Int)<=32:=(by omega);clear hIl hI0 hI9;go_wp2_with fail;go_roundw
          case rel=>exact⟨c+1,B+1,by go_num,hBT.out.1,hBT.out.2.1,⟨by rw[hBc.out];rfl⟩,hSC4,⟨by rw[Nat.add_mul,Nat.one_mul];have:=ho4.out;rw[htq.out] at this;exact this⟩,hb4⟩
          case measure=>have:=hBT.out;simp[intOf];omega
       ·have hBI: ¬((B:Int)<(f:Int)+(d:Int)):=by omega
        have hcd:Qa (c=d):=⟨by have:=hBc.out;omega⟩;have hB8:(B:Int)<=8:=(by omega);clear hBt hB0 hB9;go_wp2_with fail;go_roundw
        case rel=>exact⟨j+1,r+q,by go_num,by go_num,hjT.out,b4,⟨by rw[b3.out]⟩,hSC3,⟨by rw[Nat.mul_add];have:=ho3.out;rw[hcd.out] at this;exact this⟩,hb3⟩
        case measure=>have:=hjT.out;simp[intOf];omega
     ·obtain rfl:j=4:=by omega
      have hr16:Qa (r=16):=⟨hrj.out⟩;clear hjt hj;go_wp2_with fail;go_roundw
      case rel=>exact⟨k+1,f+d,by go_num,by go_num,hT.out,hfd,⟨o1.out.symm⟩,⟨by rw[Nat.mul_add];have:=ho2.out;rw[hr16.out,Nat.mul_comm d 16] at this;exact this⟩,hb2⟩
      case measure=>have:=hT.out;simp[intOf];omega
   ·obtain rfl:k=gs.length:=by omega
    have ho':Qa ((Kd.int .i64).R 3 wr w.heap.size (fun _=>True) u5 (Db true gs 128)):=⟨by have:=ho.out;rw[hfk.out,hend.out] at this;exact this⟩;go_wp2;go_ret;exact⟨_,rfl,ho'.out,hb.out⟩
def BL (U:Array Value) (l:List Int):Prop:= ∀j,j<l.length->U[j]? =some (.int .i64 (rd l j))
theorem Ko {w:World} {base:Nat} {ok:Nat->Prop} {v:Value} {l:List Int} (h:(Kd.int .i64).R 3 w base ok v l) (hl:0<l.length):
  ∃(g cap:Nat) (U:Array Value),v= .slice (some ⟨g,0,none⟩) l.length cap/\base<=g/\w.heap[g]? =some (.cells U 3 (0,0))/\BL U l/\cap<=9223372036854775807/\l.length<=cap:=by
 have ho:=Kd.Yg (enc:=Value.int .i64) (h1:=fun _=>rfl) h;rcases ho.2 with ⟨e1,e2⟩|⟨g,cap,cur,e1,hb,hg,h1,hcap,h3,h4⟩
 ·omega
 ·refine⟨g,cap,cur,e1,hb,hg,fun j hj=> ?_,hcap,h1⟩
  have h5:=congrArg (fun z=>z[j]?) h4;rw[List.getElem?_take_of_lt (by omega),Array.getElem?_toList] at h5;rw[h5];simp[encs,rd,hj]
theorem BL_C {w:World} {g:Nat} {U:Array Value} {l:List Int} (h:w.heap[g]? =some (.cells U 3 (0,0))) (hu:BL U l) (hl:l.length<=1000000):(Kd.int .i64).C w (some ⟨g,0,none⟩) l.length l:=by
 refine Kd.Zu (enc:=Value.int .i64) (h1:=fun _=>rfl) (d:=(0:Int)) ⟨rfl,by omega,fun _=>⟨_,rfl,fun j hj=> ?_⟩⟩;rw[add_plain,Qb h,hu j hj];simp[rd]
end Rs

namespace Rs
open Bk (X6 X7)
attribute [local go_sem] X6 X7 Qk Ql Qd Qe
open Q15
open Q21
open Sp (Gt Pj Z5 P9)
theorem Az (a:Int) (w:World) (h0: -562949953421312<=a) (h1:a<=562949953421312):
  Calls Tryz.prog 131 #[.int .i64 a] w fun e w'=>e= .returned (.int .i64 (Gt a))/\Below w.heap.size w w':=by
 have hb:=Below.refl w.heap.size w;go_enter Tryz.func131,Tryz.ntmps131;go_wp2;go_ret;exact⟨rfl,hb⟩
theorem clamp_eq (n:Int):max (-2097152) (min 2097152 n)=Z5 n:=by unfold Z5;omega
theorem Kl (A:Option Addr) (c:Nat) (l:List Int) (w:World) (hr:(Kd.int .i64).C w A l.length l) (hl:l.length<=1000000):
  Calls Tryz.prog 81 #[.slice A l.length c] w fun e w'=> ∃v,e= .returned v/\(Kd.int .i64).R 3 w' w.heap.size (fun _=>True) v (l.map Z5)/\Below w.heap.size w w':=by
 have HR:=Qa.mk hr;have hlI:(l.length:Int)<=1000000:=(by omega);have hl9:=Qa.mk hl;clear hr hl;go_enter Tryz.func81,Tryz.ntmps81;go_wp2;go_loopw [3,8] (fun o i wr=> ∃k:Nat,i= .int .i64 k/\k<=l.length/\Qa ((Kd.int .i64).R 3 wr w.heap.size (fun _=>True) o ((l.take k).map Z5))/\Qa (Below w.heap.size w wr)) (fun _ i _=>l.length-(intOf i).toNat)
 case atStart=>exact⟨0,rfl,by omega,⟨Kd.Zx _ _ _ _ _⟩,⟨Below.refl _ _⟩⟩
 case round=>
  obtain⟨k,rfl,hk,ho,hb⟩:=hrel;by_cases hlt:k<l.length
  ·obtain⟨ad,rfl,hcell⟩:=Qn HR.out hb.out hlt
   have hkI:(k:Int)<(l.length:Int):=(by omega);have hT:(l.take (k+1)).map Z5=(l.take k).map Z5++[Z5 (rd l k)]:=(by rw[Qu l k hlt,List.map_append];rfl);have hlen:Qa ((((l.take k).map Z5).length +1)*8<=140737488355328):=⟨by rw[List.length_map,List.length_take];have:=hl9.out;omega⟩;obtain⟨q,hq⟩: ∃q,q=(l.take k).map Z5:=⟨_,rfl⟩;rw[<-hq] at hT ho hlen;obtain⟨n,hn⟩: ∃n,n=rd l k:=⟨_,rfl⟩;rw[<-hn] at hT hcell;obtain⟨y,hy⟩: ∃y,y=Z5 n:=⟨_,rfl⟩;rw[<-hy] at hT;have g:max (-2097152) (min 2097152 n)=y:=(by rw[hy,clamp_eq]);replace hT:=Qa.mk hT;have hltT:=Qa.mk hlt;clear hq hn hy hlt hk;go_wp2_with (first|(at_builtin;refine Kd.Q3 (Kd.int .i64) (w0:=w) w.heap.size rfl (.tmp 12) (.tmp 16) 22 3 (.int .i64 0) 8 rfl Tryz.underlying22 Qw rfl (by decide) (by omega) u3 q (y) [.int .i64 (y)] (fun _=>True) (fun _=>False) rfl rfl rfl (fun _ hk=>hk.elim) (fun _ _=>trivial) ho.out hb.out hb.out.size hlen.out ?_;intro v1 wA hoA hbA hgA hatA;have HOA:=Qa.mk hoA;have HBA:=Qa.mk hbA;clear hoA hbA hgA hatA));go_roundw
   case rel=>exact⟨k+1,by go_num,hltT.out,⟨by rw[hT.out];exact HOA.out⟩,HBA⟩
   case measure=>have:=hltT.out;simp[intOf];omega
  ·obtain rfl:k=l.length:=by omega
   have ho':Qa ((Kd.int .i64).R 3 wr w.heap.size (fun _=>True) u3 (l.map Z5)):=⟨by have:=ho.out;rwa [List.take_length] at this⟩;clear ho;go_wp2;go_ret;exact⟨_,rfl,ho'.out,hb.out⟩
theorem Jn (A:Option Addr) (cap:Nat) (l:List Int) (w:World) (hr:(Kd.int .i64).C w A l.length l) (hf:Ye l=true):
  Calls Tryz.prog 130 #[.slice A l.length cap] w fun e w'=> ∃v,e= .returned (.tuple #[v,.int .i64 0])/\(Kd.int .i64).R 3 w' w.heap.size (fun _=>True) v (Qy l)/\Below w.heap.size w w':=by
 obtain⟨h1,h2⟩:=K3 hf;have HI:=Qa.mk (Qem A cap l w hr (by omega));rw[hf] at HI;have HW:=Qa.mk (fun W (hb:Below w.heap.size w W)=>Sk A cap l W (Kd.Qf hr hb) h1 h2);clear hr hf h1 h2;go_enter Tryz.func130,Tryz.ntmps130;go_wp2_with fail;refine HI.out.mono ?_;rintro e w1 ⟨rfl,hb⟩;have HW2:=Qa.mk (HW.out w1 hb);clear HW HI;go_wp2_with fail;refine HW2.out.mono ?_;rintro e w2 ⟨v,rfl,hR,hbn⟩;have hR2:=Qa.mk (And.intro (Kd.Zz hR hb.size) (bnx hb hbn));clear hR hbn HW2 hb;go_wp2_with fail;go_ret2;exact⟨v,rfl,hR2.out.1,hR2.out.2⟩
end Rs

namespace Rs
attribute [local go_sem] Qh Qi Qk Ql Qd Qe
open Q15
open Q21
open Sp (Gt Pj Z5 P9 Vq Ng Yr Ze Jq Zg)
theorem Ht (A B:Option Addr) (ca cb:Nat) (d fi:List Int) (w:World) (hr:(Kd.int .i64).C w A d.length d) (hf:(Kd.int .i64).C w B fi.length fi) (hfi:Ye fi=true) (hl:d.length<=1000000) (hv: ∀x∈d,-1099511627776<=x/\x<=1099511627776):
  Calls Tryz.prog 79 #[.slice A d.length ca,.slice B fi.length cb] w fun e w'=> ∃v,e= .returned v/\(Kd.int .i64).R 3 w' w.heap.size (fun _=>True) v (Yr (Qy fi) d d.length)/\Below w.heap.size w w':=by
 have HR:=Qa.mk hr;have HV:=Qa.mk hv;have hdI:(d.length:Int)<=1000000:=(by omega);have hd9:=Qa.mk hl;have HW:=Qa.mk (Jn B cb fi w hf hfi);obtain⟨f1,f2⟩:=K3 hfi;have hwl:=Vi fi;have HWb:=Qa.mk (fun x hx=>Vj fi f2 f1 (j:=fi.length) (Nat.le_refl _) x (by rw[List.take_length];exact hx));obtain⟨ws,hws⟩: ∃ws,ws=Qy fi:=⟨_,rfl⟩;rw[<-hws] at HW hwl HWb ⊢;have hwlI:(ws.length:Int)<=12:=(by omega);replace hwl:=Qa.mk hwl;clear hr hf hfi hl hv hws f1 f2;go_enter Tryz.func79,Tryz.ntmps79;go_wp2_with fail;refine HW.out.mono ?_;rintro e w1 ⟨vw,rfl,hRw,hb⟩;obtain⟨C,q,rfl,-,hC⟩:=Kd.Qs hRw;have HC:=Qa.mk hC;replace hb:=Qa.mk hb;clear hRw hC HW;go_wp2_with fail;go_loopw [7,20] (fun o i wr=> ∃n:Nat,i= .int .i64 n/\n<=d.length/\Qa ((Kd.int .i64).R 3 wr w1.heap.size (fun _=>True) o (Yr ws d n))/\Qa (Below w1.heap.size w1 wr)) (fun _ i _=>d.length-(intOf i).toNat)
 case atStart=>exact⟨0,rfl,by omega,⟨Kd.Zx _ _ _ _ _⟩,⟨Below.refl _ _⟩⟩
 case round=>
  obtain⟨n,rfl,hn,ho,hbL⟩:=hrel;by_cases hlt:n<d.length
  ·obtain⟨ad,rfl,hcell⟩:=Qn HR.out (bnx hb.out hbL.out) hlt
   have hCw:=Qa.mk (Kd.Qf HC.out hbL.out);have hnI:(n:Int)<(d.length:Int):=(by omega);have hx9:=HV.out _ (Qp d n hlt);have hPb:=Qa.mk (fun i hi=>Ng HWb.out (Jq ws d n) (by rw[Ze];exact Nat.le_refl _) i hi);have hY:=Qa.mk (fun(j:Nat) (hj:j<n)=>Jq ws d n _ (Qp _ j (by rw[Ze];exact hj)));obtain⟨x,hx⟩: ∃x,x=rd d n:=⟨_,rfl⟩;have hnext:Yr ws d (n+1)=Yr ws d n++[Z5 (rd d n+Gt (-(Vq ws (Yr ws d n) n ws.length)))]:=rfl;obtain⟨Bo,po,rfl,-,hCo⟩:=Kd.Qs ho.out;have hyl:(Yr ws d n).length =n:=Ze _ _ _;have ho2:=ho.out;rw[hyl] at ho2;rw[hyl];rw[<-hx] at hcell hx9 hnext;obtain⟨y,hy⟩: ∃y,y=Yr ws d n:=⟨_,rfl⟩;rw[<-hy] at hPb hnext hY hCo hyl ho2;have hlen:Qa ((y.length+1)*8<=140737488355328):=⟨by have:=hd9.out;omega⟩;replace hCo:=Qa.mk hCo;replace ho2:=Qa.mk ho2;replace hnext:=Qa.mk hnext;replace hyl:=Qa.mk hyl;have hltT:=Qa.mk hlt;clear hx hy hlt hn ho;go_wp2_with fail;go_loop [10,27] (fun s i=> ∃(j:Nat) (z:Int),s= .int .i64 z/\i= .int .i64 j/\j<=ws.length/\Qa (z=Vq ws y n j)) (fun _ i=>ws.length-(intOf i).toNat)
   case atStart=>exact⟨0,0,rfl,rfl,by omega,⟨rfl⟩⟩
   case round=>
    obtain⟨j,z,rfl,rfl,hj,hz⟩:=hrel;by_cases hjt:j<ws.length
    ·obtain⟨ad2,rfl,e1⟩:=Qn hCw.out (Below.refl _ _) hjt
     have hjI:(j:Int)<(ws.length:Int):=(by omega);have hjT:=Qa.mk hjt;have hwv:=HWb.out _ (Qp ws j hjt);have hzb:=hPb.out j (by omega);rw[<-hz.out] at hzb;have hnx:Vq ws y n (j+1)=Vq ws y n j+(if j<n then rd ws j*rd y (n-1-j:Nat) else 0):=rfl;rw[<-hz.out] at hnx;obtain⟨a,ha⟩: ∃a,a=rd ws j:=⟨_,rfl⟩;rw[<-ha] at e1 hwv hnx;by_cases hjn:j<n
     ·obtain⟨k,hk⟩: ∃k:Nat,k=n-1-j:=⟨_,rfl⟩
      have hkI:(n:Int)-1-(j:Int)=(k:Int):=(by omega);have hb9:=hY.out k (by omega);have hkl:k<y.length:=(by have:=hyl.out;omega);obtain⟨ad3,e3,e2⟩:=Qn hCo.out (Below.refl _ _) hkl;cases e3;rw[if_pos hjn,<-hk] at hnx;obtain⟨b,hbv⟩: ∃b,b=rd y k:=⟨_,rfl⟩;rw[<-hbv] at e2 hb9 hnx;have hm9:=Zg hwv hb9;obtain⟨m,hm⟩: ∃m,m=a*b:=⟨_,rfl⟩;rw[<-hm] at hm9 hnx;have hm':a*b=m:=hm.symm;have hkn:(k:Int)<(n:Int):=(by omega);have hk0:decide ((0:Int)<=(k:Int))=true:=decide_eq_true (by omega);have g0:IntKind.i64.wrap ((n:Int)-1)=(n:Int)-1:=IntWalk.i64_in _ (by omega);have g1:IntKind.i64.wrap ((n:Int)-1-(j:Int))=(k:Int):=(by rw[hkI];exact IntWalk.i64_in _ (by omega));have hjw:(j:Int)<=12:=(by omega);have hz9: -1125899906842624<=z/\z<=1125899906842624:=(by omega);replace hnx:=Qa.mk hnx;clear hjt hzb ha hk hbv hm hb9 hwv hkl hjn hkI;go_wp2_with fail;go_round
      case rel=>exact⟨j+1,z+m,rfl,by go_num,hjT.out,⟨hnx.out.symm⟩⟩
      case measure=>have:=hjT.out;simp[intOf];omega
     ·obtain⟨k,hk⟩: ∃k:Int,k=(n:Int)-1-(j:Int):=⟨_,rfl⟩
      have hk0:decide ((0:Int)<=k)=false:=decide_eq_false (by omega);have g0:IntKind.i64.wrap ((n:Int)-1)=(n:Int)-1:=IntWalk.i64_in _ (by omega);have g1:IntKind.i64.wrap ((n:Int)-1-(j:Int))=k:=(by rw[hk];exact IntWalk.i64_in _ (by omega));rw[if_neg hjn,Int.add_zero] at hnx;replace hnx:=Qa.mk hnx;have hjw:(j:Int)<=12:=(by omega);clear hjt hzb ha hwv hjn hk;go_wp2_with fail;go_round
      case rel=>exact⟨j+1,z,rfl,by go_num,hjT.out,⟨hnx.out.symm⟩⟩
      case measure=>have:=hjT.out;simp[intOf];omega
    ·obtain rfl:j=ws.length:=by omega
     have hzb:=hPb.out ws.length (Nat.le_refl _);have hn2:=hnext.out;rw[<-hz.out] at hzb hn2;have hz9: -1125899906842624<=z/\z<=1125899906842624:=(by omega);have hzr: -562949953421312<= -z/\ -z<=562949953421312:=(by omega);have HRd:=Qa.mk (fun(W:World)=>Az (-z) W hzr.1 hzr.2);have hrb:=Pj (a:= -z) (m:=562949953421312) (by omega);obtain⟨r,hr⟩: ∃r,r=Gt (-z):=⟨_,rfl⟩;rw[<-hr] at HRd hn2 hrb
     have HCl:=Qa.mk (fun(W:World)=>(show Calls Tryz.prog 81 #[.slice (some ⟨W.heap.size,0,none⟩) 1 1] (W.alloc (.cells #[.int .i64 (x+r)] 3)) fun e w'=> ∃v,e= .returned v/\(Kd.int .i64).R 3 w' (W.alloc (.cells #[.int .i64 (x+r)] 3)).heap.size (fun _=>True) v [Z5 (x+r)]/\Below (W.alloc (.cells #[.int .i64 (x+r)] 3)).heap.size (W.alloc (.cells #[.int .i64 (x+r)] 3)) w' from
      Kl (some ⟨W.heap.size,0,none⟩) 1 [x+r] _ (lit_C [x+r] W 3 (by simp)) (by simp)))
     have g5:IntKind.i64.wrap (x+r)=x+r:=IntWalk.i64_in _ (by omega);obtain⟨u,hu⟩: ∃u,u=Z5 (x+r):=⟨_,rfl⟩;rw[<-hu] at hn2;simp only[<-hu] at HCl;replace hn2:=Qa.mk hn2;clear hjt hj hzb hr hu hzr hnext hPb hY;go_wp2_with fail;refine(HRd.out _).mono ?_;rintro e w5 ⟨rfl,hb5⟩;clear HRd;go_wp2_with fail;have hb5a:Below w5.heap.size w5 (w5.alloc (.cells #[.int .i64 (x+r)] 3)):=(Below.refl _ _).alloc (Nat.le_refl _) _;refine(HCl.out w5).mono ?_;rintro e w6 ⟨v2,rfl,hR2,hb6⟩;obtain⟨g2,c2,U2,hv2,hg2,hU2,hBL2,-,-⟩:=Ko hR2 (by simp);rw[show[u].length =1 from rfl] at hv2;subst hv2;have e9:w6.cell? ⟨g2,0,none⟩=some (.int .i64 u):=(by rw[Qb hU2];exact hBL2 0 (by simp));have hb56:=bnx hb5 (bnx hb5a hb6);have hR6:=Qa.mk (Kd.Q4 ho2.out hb56);have hB6:=Qa.mk (bnx hbL.out hb56);clear hU2 hBL2 hR2 hg2 hb56 hb5 hb6 hb5a HCl;go_wp2_with (first|(at_builtin;refine Kd.Q3 (Kd.int .i64) (w0:=w1) w1.heap.size rfl (.tmp 49) (.tmp 59) 22 3 (.int .i64 0) 8 rfl Tryz.underlying22 Qw rfl (by decide) (by omega) (.slice Bo n po) y (u) [.int .i64 (u)] (fun _=>True) (fun _=>False) rfl rfl rfl (fun _ hk=>hk.elim) (fun _ _=>trivial) hR6.out hB6.out hB6.out.size hlen.out ?_;intro v1 wA hoA hbA hgA hatA;have HOA:=Qa.mk hoA;have HBA:=Qa.mk hbA;clear hoA hbA hgA hatA));go_roundw
     case rel=>exact⟨n+1,by go_num,hltT.out,⟨by rw[hn2.out];exact HOA.out⟩,HBA⟩
     case measure=>have:=hltT.out;simp[intOf];omega
  ·obtain rfl:n=d.length:=by omega
   have hfin:=Qa.mk (And.intro (Kd.Zz ho.out hb.out.size) (bnx hb.out hbL.out));clear ho hbL;go_wp2;go_ret;exact⟨_,rfl,hfin.out.1,hfin.out.2⟩
end Rs

end Go.Proofs.YtnflnicdjioflaaGreatDoor
