/- A part of the proof. -/
import Derived.Test.YtnflnicdjioflaaGreatDoorMdaj
set_option linter.unusedVariables false
set_option linter.unusedSimpArgs false
set_option maxRecDepth 100000
set_option maxHeartbeats 8000000
namespace Go.Proofs.YtnflnicdjioflaaGreatDoor
open Go.RowKit Go.Proofs.YtnflnicdjioflaaGreatDoorW.PrintWords Go.Proofs.YtnflnicdjioflaaGreatDoorW.PrintLast Go.Proofs.YtnflnicdjioflaaGreatDoorW.PrintMore
namespace Rq
attribute [local go_sem] Qi Qj Qk Ql Qg Qh
open Q15 (bnx cnx X3)
def mg:Nat->List It->List It->List It
 |0,_,_=>[]
 |n+1,y::ys,[]=>y::mg n ys []
 |n+1,[],z::zs=>z::mg n [] zs
 |_+1,[],[]=>[]
 |n+1,y::ys,z::zs=>if y.1<=z.1 then y::mg n ys (z::zs) else z::mg n (y::ys) zs
def J6 (ys zs:List It):List It:=mg (ys.length+zs.length) ys zs
theorem Sa: ∀(n:Nat) (ys zs:List It),(mg n ys zs).length <=n
 |0,_,_=>by simp[mg]
 |n+1,y::ys,[]=>by simpa[mg] using Sa n ys []
 |n+1,[],z::zs=>by simpa[mg] using Sa n [] zs
 |n+1,[],[]=>by simp[mg]
 |n+1,y::ys,z::zs=>by
  rw[mg]
  split
  ·simpa using Sa n ys (z::zs)
  ·simpa using Sa n (y::ys) zs
theorem mg_coin {n:Nat} {y:It} {ys zs:List It} (h:zs=[]\/ ∃z zs',zs=z::zs'/\y.1<=z.1):mg (n+1) (y::ys) zs=y::mg n ys zs:=by
 rcases h with rfl|⟨z,zs',rfl,h⟩
 ·rfl
 ·rw[mg,if_pos h]
theorem mg_pack {n:Nat} {z:It} {ys zs:List It} (h:ys=[]\/ ∃y ys',ys=y::ys'/\ ¬y.1<=z.1):mg (n+1) ys (z::zs)=z::mg n ys zs:=by
 rcases h with rfl|⟨y,ys',rfl,h⟩
 ·rfl
 ·rw[mg,if_neg h]
theorem L6 (a:Addr):a.add 0=a:=by simp[Addr.add]
def lenV:Value->Nat
 | .slice _ n _=>n
 |_=>0
theorem Qcz {w:World} {a:Addr} {n:Nat} {y:It} {ys:List It} (h:kIt.C w (some a) n (y::ys)) (hn:n=ys.length+1) (c:Nat) (hc:n<=c):
  kIt.C w (if c=1 then some a else some ⟨a.block,a.off+2,none⟩) ys.length ys:=by
 subst hn;rw[show(⟨a.block,a.off+2,none⟩:Addr)=a.add 2 from by simp[Addr.add]];refine⟨rfl,by have:=h.2.1;omega,fun hl=> ?_⟩;rw[if_neg (by omega)];obtain⟨ad,e,hc2⟩:=h.2.2 (by omega);cases e;refine⟨_,rfl,fun j p hj=> ?_⟩;obtain⟨cs,h1,h2,h3⟩:=hc2 (j+1) p (by simpa using hj);refine⟨cs,h1,h2,fun i u hu=> ?_⟩;have h4:=h3 i u hu;rw[Addr.add_add]
 have e9:(j+1)*kIt.sz+i=2+(j*kIt.sz+i):=by
  have:kIt.sz=2:=rfl;rw[this];omega
 rw[<-e9];exact h4
theorem Aa (A B:Option Addr) (ca cb:Nat) (xs ps:List It) (w:World) (hA:kIt.C w A xs.length xs) (hB:kIt.C w B ps.length ps) (hl:xs.length+ps.length<=100000) (hca:xs.length<=ca) (hcb:ps.length<=cb):
  Calls Tryz.prog 235 #[.slice A xs.length ca,.slice B ps.length cb] w fun e w'=> ∃v,e= .returned v/\kIt.R 225 w' w.heap.size (fun _=>True) v (J6 xs ps)/\Below w.heap.size w w':=by
 have hmo:=Qa.mk (show Tryz.prog.follows .mixedOrders =true by kernel_rfl);have HA:=Qa.mk hA;have HB:=Qa.mk hB;have hlA:=Qa.mk hl;have hcA:=Qa.mk hca;have hcB:=Qa.mk hcb;clear hA hB hl hca hcb;go_enter Tryz.func235,Tryz.ntmps235;go_wp2_with fail;go_loopw [0,1,5] (fun u v o wr=> ∃(ys zs q:List It) (X Y:Option Addr) (c d:Nat),u= .slice X ys.length c/\v= .slice Y zs.length d/\Qa (kIt.C w X ys.length ys/\ys.length<=c)/\Qa (kIt.C w Y zs.length zs/\zs.length<=d)/\Qa (q.length+(ys.length+zs.length)<=100000)/\Qa (q++mg (ys.length+zs.length) ys zs=J6 xs ps)/\Qa (kIt.R 225 wr w.heap.size (fun _=>True) o q)/\Qa (Below w.heap.size w wr)) (fun u v _ _=>lenV u+lenV v)
 case atStart=>exact⟨xs,ps,[],A,B,ca,cb,rfl,rfl,⟨HA.out,hcA.out⟩,⟨HB.out,hcB.out⟩,⟨by have:=hlA.out;simpa using this⟩,⟨rfl⟩,⟨Kd.Xd _ _ _ _ _⟩,⟨Below.refl _ _⟩⟩
 case round=>
  obtain⟨ys,zs,q,X,Y,c,d,rfl,rfl,hX,hY,hq,hm,ho,hbL⟩:=hrel;clear HA HB hlA hcA hcB
  have hst:(ys=[]/\zs=[])\/(∃y l,ys=y::l/\(zs=[]\/ ∃z zs',zs=z::zs'/\y.1<=z.1))\/(∃z l,zs=z::l/\(ys=[]\/ ∃y ys',ys=y::ys'/\ ¬y.1<=z.1)):=by
   cases ys with
   |nil=>
    cases zs with
    |nil=>exact .inl ⟨rfl,rfl⟩
    |cons z zs=>exact .inr (.inr ⟨z,zs,rfl,.inl rfl⟩)
   |cons y ys=>
    cases zs with
    |nil=>exact .inr (.inl ⟨y,ys,rfl,.inl rfl⟩)
    |cons z zs=>
     by_cases h:y.1<=z.1
     ·exact .inr (.inl ⟨y,ys,rfl,.inr ⟨z,zs,rfl,h⟩⟩)
     ·exact .inr (.inr ⟨z,zs,rfl,.inr ⟨y,ys,rfl,h⟩⟩)
  rcases hst with ⟨rfl,rfl⟩|hst|hst
  ·have ho':Qa (kIt.R 225 wr w.heap.size (fun _=>True) u5 (J6 xs ps)):=⟨by rw[<-hm.out];simpa[mg] using ho.out⟩
   clear ho hm hX hY;simp only[List.length_nil];go_wp2_with fail;go_ret;exact⟨_,rfl,ho'.out,hbL.out⟩
  ·obtain⟨⟨x1,x2⟩,l,rfl,hz⟩:=hst
   obtain⟨ad,rfl,c1,c2⟩:=Ha hX.out.1 hbL.out (k:=0) (by simp);rw[Nat.zero_mul,L6] at c1
   have c3:wr.cell? ⟨ad.block,ad.off+1,none⟩=some (.int .i64 x2):=by
    rw[show some (Value.int .i64 x2)=_ from c2.symm];simp[Addr.add]
   replace c1:wr.cell? ad=some (.int .i64 x1):=c1;have hq':=hq.out;have hm':=hm.out;obtain⟨m,hmm⟩: ∃m,m=(((x1,x2):It)::l).length :=⟨_,rfl⟩;have h1:m=l.length+1:=(by rw[hmm];rfl);have hX':=hX.out;rw[<-hmm] at hX' hq' ⊢;rw[show(((x1,x2):It)::l).length +zs.length=(l.length+zs.length)+1 from by rw[List.length_cons];omega,mg_coin hz] at hm';rw[show q++(x1,x2)::mg (l.length+zs.length) l zs=(q++[(x1,x2)])++mg (l.length+zs.length) l zs from by simp] at hm';have hm9:=Qa.mk hm';have ht:=Qa.mk (Qcz hX'.1 h1 c hX'.2);have htc:Qa (l.length<=c-1):=⟨by have:=hX'.2;omega⟩;have hb1:m-1=l.length:=(by omega);have hq9:Qa ((q++[((x1,x2):It)]).length +(l.length+zs.length)<=100000):=⟨by rw[List.length_append,List.length_singleton];omega⟩;have hlen:Qa ((q.length+1)*16<=140737488355328):=⟨by omega⟩;have g1:(0:Int)<(m:Int):=(by omega);have g3:(m:Int)<=(c:Int):=(by have:=hX'.2;omega);have g5:(1:Int)<=(m:Int):=(by omega);have g6:((m:Int)==0)=false:=(by simpa using (by omega:m≠0));have g12:decide (0<m)=true:=decide_eq_true (by omega)
   have hz2:(zs.length=0/\IntKind.i64.wrap (m:Int)=m)\/ ∃(p:Nat) (adz:Addr) (z1:Int),zs.length=p/\Y=some adz/\wr.cell? adz=some (.int .i64 z1)/\decide (x1<=z1)=true/\((p:Int)==0)=false/\decide (0<p)=true/\(0:Int)<(p:Int)/\(0:Int)<(m:Int)+(p:Int)/\IntKind.i64.wrap ((m:Int)+(p:Int))=(m:Int)+(p:Int):=by
    rcases hz with rfl|⟨⟨z1,z2⟩,zl,rfl,hz⟩
    ·exact .inl ⟨rfl,IntWalk.i64_in _ (by omega)⟩
    ·obtain⟨adz,e,c5,-⟩:=Ha hY.out.1 hbL.out (k:=0) (by simp)
     rw[Nat.zero_mul,L6] at c5;have h9:((((z1,z2):It)::zl).length :Int)=zl.length+1:=(by simp);refine .inr ⟨_,adz,z1,rfl,e,c5,by simpa using hz,?_,decide_eq_true (by simp),by omega,by omega,?_⟩
     ·simpa using (by omega:((((z1,z2):It)::zl).length :Int)≠0)
     ·rw[IntWalk.i64_in _ (by omega)]
   replace hX':=Qa.mk hX';replace hq':=Qa.mk hq';replace h1:=Qa.mk h1;replace hmm:=Qa.mk hmm;replace hb1:=Qa.mk hb1;obtain⟨p,hp⟩: ∃p,p=zs.length:=⟨_,rfl⟩;clear hq hm hm' hz c2 hX;rw[<-hp] at hz2 ⊢;replace hp:=Qa.mk hp;rcases hz2 with ⟨rfl,g7⟩|⟨p',adz,z1,rfl,rfl,c5,g7,g8,g13,g9,g10,g11⟩
   all_goals
    go_wp2_with fail;go_quiet (fail);have hd0:Below wr.heap.size wr (wr.drewN nq):=(Below.refl _ _).trans ⟨rfl,rfl,rfl,Nat.le_refl _,fun _ _=>rfl⟩;have ho2:=Qa.mk (Kd.Qw ho.out hd0);have hb2:=Qa.mk (bnx hbL.out hd0);replace c1:=cnx c1 hd0;replace c3:=cnx c3 hd0;clear ho hbL hd0;obtain⟨wq,hwq⟩: ∃wq,wq=wr.drewN nq:=⟨_,rfl⟩;rw[<-hwq] at ho2 hb2 c1 c3 ⊢;clear hwq;go_wp2_with (first|(at_builtin;refine Kd.Zb kIt (w0:=w) w.heap.size rfl (.tmp 31) (.tmp 35) 223 225 (.agg #[.int .i64 0,.int .i64 0]) 16 rfl Tryz.underlying223 Po rfl (by decide) (by decide) u5 q (x1,x2) [.int .i64 x1,.int .i64 x2] (fun _=>True) (fun _=>False) rfl rfl (kIt_M _ _ _ _) (fun _ hk=>hk.elim) (fun _ _=>trivial) ho2.out hb2.out hb2.out.size hlen.out ?_;intro v1 wA hoA hbA hgA hatA;have HOA:=Qa.mk hoA;have HBA:=Qa.mk hbA;clear hoA hbA hgA hatA));go_roundw
    case rel=>exact⟨l,zs,q++[(x1,x2)],_,_,c-1,d,by rw[hb1.out],by rw[hp.out],⟨ht.out,htc.out⟩,hY,hq9,hm9,HOA,HBA⟩
    case measure=>simp[lenV];omega
  ·obtain⟨⟨x1,x2⟩,l,rfl,hz⟩:=hst
   obtain⟨ad,rfl,c1,c2⟩:=Ha hY.out.1 hbL.out (k:=0) (by simp);rw[Nat.zero_mul,L6] at c1
   have c3:wr.cell? ⟨ad.block,ad.off+1,none⟩=some (.int .i64 x2):=by
    rw[show some (Value.int .i64 x2)=_ from c2.symm];simp[Addr.add]
   replace c1:wr.cell? ad=some (.int .i64 x1):=c1;have hq':=hq.out;have hm':=hm.out;obtain⟨m,hmm⟩: ∃m,m=(((x1,x2):It)::l).length :=⟨_,rfl⟩;have h1:m=l.length+1:=(by rw[hmm];rfl);have hX':=hY.out;rw[<-hmm] at hX' hq' ⊢;rw[show ys.length+(((x1,x2):It)::l).length =(l.length+ys.length)+1 from by rw[List.length_cons];omega,mg_pack hz] at hm';rw[show q++(x1,x2)::mg (l.length+ys.length) ys l=(q++[(x1,x2)])++mg (l.length+ys.length) ys l from by simp] at hm';have hm9:=Qa.mk hm';have ht:=Qa.mk (Qcz hX'.1 h1 d hX'.2);have htc:Qa (l.length<=d-1):=⟨by have:=hX'.2;omega⟩;have hb1:m-1=l.length:=(by omega);have hq9:Qa ((q++[((x1,x2):It)]).length +(l.length+ys.length)<=100000):=⟨by rw[List.length_append,List.length_singleton];omega⟩;have hlen:Qa ((q.length+1)*16<=140737488355328):=⟨by omega⟩;have g1:(0:Int)<(m:Int):=(by omega);have g3:(m:Int)<=(d:Int):=(by have:=hX'.2;omega);have g5:(1:Int)<=(m:Int):=(by omega);have g6:((m:Int)==0)=false:=(by simpa using (by omega:m≠0));have g12:decide (0<m)=true:=decide_eq_true (by omega)
   have hz2:(ys.length=0/\IntKind.i64.wrap (m:Int)=m)\/ ∃(p:Nat) (adz:Addr) (z1:Int),ys.length=p/\X=some adz/\wr.cell? adz=some (.int .i64 z1)/\decide (z1<=x1)=false/\((p:Int)==0)=false/\decide (0<p)=true/\(0:Int)<(p:Int)/\(0:Int)<(p:Int)+(m:Int)/\IntKind.i64.wrap ((p:Int)+(m:Int))=(p:Int)+(m:Int):=by
    rcases hz with rfl|⟨⟨z1,z2⟩,zl,rfl,hz⟩
    ·exact .inl ⟨rfl,IntWalk.i64_in _ (by omega)⟩
    ·obtain⟨adz,e,c5,-⟩:=Ha hX.out.1 hbL.out (k:=0) (by simp)
     rw[Nat.zero_mul,L6] at c5;have h9:((((z1,z2):It)::zl).length :Int)=zl.length+1:=(by simp);refine .inr ⟨_,adz,z1,rfl,e,c5,by simpa using hz,?_,decide_eq_true (by simp),by omega,by omega,?_⟩
     ·simpa using (by omega:((((z1,z2):It)::zl).length :Int)≠0)
     ·rw[IntWalk.i64_in _ (by omega)]
   replace hX':=Qa.mk hX';replace hq':=Qa.mk hq';replace h1:=Qa.mk h1;replace hmm:=Qa.mk hmm;replace hb1:=Qa.mk hb1;obtain⟨p,hp⟩: ∃p,p=ys.length:=⟨_,rfl⟩;clear hq hm hm' hz c2 hY;rw[<-hp] at hz2 ⊢;replace hp:=Qa.mk hp;rcases hz2 with ⟨rfl,g7⟩|⟨p',adz,z1,rfl,rfl,c5,g7,g8,g13,g9,g10,g11⟩
   all_goals
    go_wp2_with fail;go_quiet (fail);have hd0:Below wr.heap.size wr (wr.drewN nq):=(Below.refl _ _).trans ⟨rfl,rfl,rfl,Nat.le_refl _,fun _ _=>rfl⟩;have ho2:=Qa.mk (Kd.Qw ho.out hd0);have hb2:=Qa.mk (bnx hbL.out hd0);replace c1:=cnx c1 hd0;replace c3:=cnx c3 hd0;clear ho hbL hd0;obtain⟨wq,hwq⟩: ∃wq,wq=wr.drewN nq:=⟨_,rfl⟩;rw[<-hwq] at ho2 hb2 c1 c3 ⊢;clear hwq;go_wp2_with (first|(at_builtin;refine Kd.Zb kIt (w0:=w) w.heap.size rfl (.tmp 39) (.tmp 43) 223 225 (.agg #[.int .i64 0,.int .i64 0]) 16 rfl Tryz.underlying223 Po rfl (by decide) (by decide) u5 q (x1,x2) [.int .i64 x1,.int .i64 x2] (fun _=>True) (fun _=>False) rfl rfl (kIt_M _ _ _ _) (fun _ hk=>hk.elim) (fun _ _=>trivial) ho2.out hb2.out hb2.out.size hlen.out ?_;intro v1 wA hoA hbA hgA hatA;have HOA:=Qa.mk hoA;have HBA:=Qa.mk hbA;clear hoA hbA hgA hatA));go_roundw
    case rel=>exact⟨ys,l,q++[(x1,x2)],_,_,c,d-1,by rw[hp.out],by rw[hb1.out],hX,⟨ht.out,htc.out⟩,⟨by rw[Nat.add_comm ys.length];exact hq9.out⟩,⟨by rw[Nat.add_comm ys.length];exact hm9.out⟩,HOA,HBA⟩
    case measure=>simp[lenV];omega
end Rq

end Go.Proofs.YtnflnicdjioflaaGreatDoor
