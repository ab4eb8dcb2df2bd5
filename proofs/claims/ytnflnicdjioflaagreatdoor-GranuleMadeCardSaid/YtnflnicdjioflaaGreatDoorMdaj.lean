/- A part of the proof. -/
import Derived.Test.YtnflnicdjioflaaGreatDoorMdag
import Derived.Test.YtnflnicdjioflaaGreatDoorMdah
set_option linter.unusedVariables false
set_option linter.unusedSimpArgs false
set_option maxRecDepth 100000
set_option maxHeartbeats 8000000
namespace Go.Proofs.YtnflnicdjioflaaGreatDoor
open Go.RowKit Go.Proofs.YtnflnicdjioflaaGreatDoorW.PrintWords Go.Proofs.YtnflnicdjioflaaGreatDoorW.PrintLast Go.Proofs.YtnflnicdjioflaaGreatDoorW.PrintMore
namespace Q21
attribute [local go_sem] Qi Qj Qk Ql Qg Qh
open Q15
def rnd (x:Int):Int:=(2*x+128)/256
theorem tq (a b:Int) (hb:0<b):b*a.tdiv b+a.tmod b=a/\ -b<a.tmod b/\a.tmod b<b:=by
 have h1:=Int.tmod_lt_of_pos a hb;have h2:=Int.tmod_lt_of_pos (-a) hb;rw[Int.neg_tmod] at h2;exact⟨Int.mul_tdiv_add_tmod a b,by omega,h1⟩
theorem Qav (x:Int) (w:World) (h0: -1099511627776<=x) (h1:x<=1099511627776):
  Calls Tryz.prog 172 #[.int .i64 x,.int .i64 128] w fun e w'=>e= .returned (.int .i64 (rnd x))/\Below w.heap.size w w':=by
 have ht:=tq (2*x+128) 256 (by decide);have hv:rnd x=(2*x+128)/256:=rfl;have hq: -4294967296*256<=(2*x+128).tdiv 256/\(2*x+128).tdiv 256<=4294967296*256:=(by omega);by_cases hm:(2*x+128).tmod 256<0
 ·have e:Qa (rnd x=(2*x+128).tdiv 256-1):=⟨by rw[hv];omega⟩
  clear ht hv;obtain⟨r,hr⟩: ∃r,r=rnd x:=⟨_,rfl⟩;rw[<-hr] at e ⊢;clear hr;go_enter Tryz.func172,Tryz.ntmps172;go_wp2;go_ret;exact⟨by rw[e.out];rfl,Below.refl _ _⟩
 ·have e:Qa (rnd x=(2*x+128).tdiv 256):=⟨by rw[hv];omega⟩
  have hm':decide ((2*x+128).tmod 256<0)=false:=(by simpa using hm);clear ht hv;obtain⟨r,hr⟩: ∃r,r=rnd x:=⟨_,rfl⟩;rw[<-hr] at e ⊢;clear hr;go_enter Tryz.func172,Tryz.ntmps172;go_wp2;go_ret;exact⟨by rw[e.out];rfl,Below.refl _ _⟩
end Q21

namespace Q21
attribute [local go_sem] Qi Qj Qk Ql Qg Qh
open Q15
def newF (a:List Int) (k:Int) (i:Nat):Int:=rd a i+rnd (k*rd a ((a.length-1-i:Nat):Int))
def Hf (a:List Int) (k:Int):List Int:=((List.range a.length).map (newF a k))++[32*k]
def Zh (f:List Int):List Int:=f.foldl Hf []
theorem Qc9 {k y M:Int} (hk: -127<=k/\k<=127) (hy: -M<=y/\y<=M): -(127*M)<=k*y/\k*y<=127*M:=by
 have h1:(k*y).natAbs =k.natAbs*y.natAbs:=Int.natAbs_mul k y;have h2:k.natAbs*y.natAbs<=127*M.natAbs:=Nat.mul_le_mul (by omega) (by omega);omega
theorem rnd_bd {k y M:Int} (hk: -127<=k/\k<=127) (hy: -M<=y/\y<=M): -M<=rnd (k*y)/\rnd (k*y)<=M:=by
 have h:=Qc9 hk hy;unfold rnd
 generalize k*y=p at h ⊢
 omega
theorem Nt (f:List Int):(Zh f).length =f.length:=by
 have: ∀(f a:List Int),(f.foldl Hf a).length =a.length+f.length:=fun f=>by
  induction f with
  |nil=>intro a;simp
  |cons k t ih=>intro a;rw[List.foldl_cons,ih];unfold Hf;simp;omega
 rw[Zh,this];simp
theorem stepF_bd {a:List Int} {k M:Int} (hk: -127<=k/\k<=127) (hM:4096<=M) (ha: ∀x∈a,-M<=x/\x<=M): ∀x∈Hf a k,-(2*M)<=x/\x<=2*M:=by
 intro x hx;unfold Hf at hx;rcases List.mem_append.1 hx with hx|hx
 ·obtain⟨i,hi,rfl⟩:=List.mem_map.1 hx
  replace hi:=List.mem_range.1 hi;have h1:=ha _ (Qt a i hi);have h2:=ha _ (Qt a (a.length-1-i) (by omega));have h3:=rnd_bd hk h2;unfold newF;omega
 ·rw[List.mem_singleton.1 hx];omega
def Kn (a:List Int) (k:Int) (j:Nat):List Int:=(List.range a.length).map fun i=>if i<j then newF a k i else rd a i
theorem Nr (a:List Int) (k:Int) (j i:Nat) (h:i<(Kn a k j).length):(Kn a k j)[i]=if i<j then newF a k i else rd a i:=by simp[Kn]
theorem Qev (a:List Int) (k:Int):Kn a k 0=a:=by
 refine List.ext_getElem (by simp[Kn]) (fun i h1 h2=> ?_);rw[Nr,if_neg (by omega)];exact Jr a i h2
theorem Ns (a:List Int) (k:Int) (j:Nat):(Kn a k j).length =a.length:=by unfold Kn;simp
theorem Qeu (a:List Int) (k:Int) {j:Nat} (hj:j<a.length):Kn a k (j+1)=(Kn a k j).set j (newF a k j):=by
 refine List.ext_getElem (by simp[Kn]) (fun i h1 h2=> ?_);rw[List.getElem_set,Nr,Nr];by_cases h:j=i
 ·subst h;rw[if_pos (by omega),if_pos rfl]
 ·rw[if_neg h]
  by_cases h3:i<j
  ·rw[if_pos h3,if_pos (by omega)]
  ·rw[if_neg h3,if_neg (by omega)]
theorem updF_all (a:List Int) (k:Int):Kn a k a.length=(List.range a.length).map (newF a k):=by
 unfold Kn;refine List.map_congr_left fun i hi=> ?_
 rw[if_pos (List.mem_range.1 hi)]
theorem rd_updF (a:List Int) (k:Int) {j:Nat} (hj:j<a.length):rd (Kn a k j) j=rd a j:=by
 rw[Jr _ _ (by rw[Ns];exact hj),Nr,if_neg (by omega)]
end Q21

namespace Q21
attribute [local go_sem] Qi Qj Qk Ql Qg Qh
open Q15
theorem add_mk (g j:Nat):(⟨g,0,none⟩:Addr).add j=⟨g,j,none⟩:=by
 unfold Addr.add
 split<;>simp_all
theorem add_block (a:Addr) (j:Nat):(a.add j).block =a.block:=by
 unfold Addr.add
 split<;>rfl
theorem Qbt {w1 W W':World} {b:Nat} (h1:w1.grownBy W (some b)) (h2:Below W.heap.size W W'):w1.grownBy W' (some b):=
 ⟨h2.os.trans h1.os,h2.tape.trans h1.tape,h2.output.trans h1.output,Nat.le_trans h1.size h2.size,fun k hk hne=>(h2.block k (Nat.lt_of_lt_of_le hk h1.size)).trans (h1.block k hk hne)⟩
theorem Ir {w1 W:World} {b B:Nat} (h1:w1.grownBy W (some b)) (hb:B<=b) (hs:B<=w1.heap.size):Below B w1 W:=
 ⟨h1.os,h1.tape,h1.output,h1.size,fun k hk=>h1.block k (by omega) (fun e=>by injection e with e;omega)⟩
theorem Qd0 {w1 W:World} {b:Nat} (h1:w1.grownBy W (some b)) {p:Addr} (hp:p.block=b) (u:Value):w1.grownBy (W.setCell p u) (some b):=
 ⟨h1.os,h1.tape,h1.output,by simpa[World.setCell] using h1.size,fun k hk hne=>(Below.heap_setCell W p u k (fun e=>hne (by rw[e,hp]))).trans (h1.block k hk hne)⟩
theorem Qb {w:World} {B:Nat} {cs:Array Value} {t:TypeId} (h:w.heap[B]? =some (.cells cs t (0,0))) (i:Nat):w.cell? ⟨B,i,none⟩=cs[i]? :=by
 unfold World.cell?;rw[h];rfl
theorem Qf {w:World} {B:Nat} {cs:Array Value} {t:TypeId} (h:w.heap[B]? =some (.cells cs t (0,0))) (i:Nat):w.frozen? ⟨B,i,none⟩=false:=by
 unfold World.frozen?;rw[h];simp
theorem R_blk {w:World} {e base:Nat} {ad:Addr} {n p:Nat} {xs:List Int} (h:(Kd.int .i64).R e w base (fun _=>True) (.slice (some ad) n p) xs):ad=⟨ad.block,0,none⟩/\base<=ad.block/\ad.block<w.heap.size/\(∃cur,w.heap[ad.block]? =some (.cells cur e (0,0)))/\ ∀i:Nat,i<xs.length->w.cell? (ad.add i)=some (.int .i64 (rd xs i)):=by
 have ho:=Kd.Yk (enc:=Value.int .i64) (h1:=fun _=>rfl) h;have hC:=Kd.Qu h;obtain⟨A,p',e1,_,hC⟩:=hC
 injection e1 with e1 e2 e3
 subst e1;rcases ho.2 with ⟨e1,_⟩|⟨g,cap,cur,e1,hb,hh,_⟩
 ·injection e1 with e1
  cases e1
 ·injection e1 with e1
  cases e1;refine⟨rfl,hb,Qp hh,⟨cur,hh⟩,fun i hi=> ?_⟩;obtain⟨ad,e2,hc⟩:=Qq hC (Below.refl _ _) hi;cases e2;exact hc
theorem Gp (B:Nat) (v:Value) (a:List Int) (k M:Int) (w:World) (hB:w.heap[B]? =some (.cells #[v] 22 (0,0))) (hR:(Kd.int .i64).R 3 w (B+1) (fun _=>True) v a) (hal:a.length<=12) (hk: -127<=k/\k<=127) (hM0:0<=M) (hMb:M<=16777216) (hM: ∀x∈a,-M<=x/\x<=M):
  Calls Tryz.prog 171 #[.int .i64 k,.pointer (some ⟨B,0,none⟩)] w fun e w'=>e= .returned (.tuple #[])/\(∃v',w'.heap[B]? =some (.cells #[v'] 22 (0,0))/\(Kd.int .i64).R 3 w' (B+1) (fun _=>True) v' (Hf a k))/\Below B w w':=by
 have hBs:=Qp hB;obtain⟨A,p,rfl,hp,hC⟩:=Kd.Qu hR;have HK:=Qa.mk (Y2 A p a w hC (by omega));have k0:w.cell? ⟨B,0,none⟩=some (.slice A a.length p):=(by rw[Qb hB];rfl);have hs32:IntKind.i64.wrap (32*k)=32*k:=IntWalk.i64_in _ (by omega)
 cases A with
 |none=>
  have ha0:a=[]:=by
   obtain⟨_,_,h⟩:=hC;rcases Nat.eq_zero_or_pos a.length with h1|h1
   ·exact List.length_eq_zero_iff.1 h1
   ·obtain⟨a,e,_⟩:=h h1
    cases e
  subst ha0;have HR:=Qa.mk hR;have HB:=Qa.mk hB;have hBs':=Qa.mk hBs;have f0:=Qf hB 0;clear hR hB hM hC hBs;go_enter Tryz.func171,Tryz.ntmps171;go_wp2_with fail;refine HK.out.mono ?_;rintro e w1 ⟨u,rfl,hU,hbn⟩;obtain⟨Aw,pw,rfl,-,-⟩:=Kd.Qu hU;have hBw:w1.heap[B]? =some (.cells #[.slice none ([]:List Int).length p] 22 (0,0)):=(hbn.block B hBs'.out).trans HB.out;have c1:w1.cell? ⟨B,0,none⟩=some (.slice none ([]:List Int).length p):=(by rw[Qb hBw];rfl);have f1:=Qf hBw 0;have hR1:=Qa.mk (Kd.Qw HR.out hbn);have hbn':=Qa.mk hbn;have hsz:Qa (B+1<=w1.heap.size):=⟨Qp hBw⟩;have hlen:Qa ((([]:List Int).length +1)*8<=140737488355328):=⟨by simp⟩;have hBw':=Qa.mk hBw;clear k0 f0 hbn hU hBw;go_wp2_with fail;refine wp_loop_rounds 1 ?_;rw[rounds_succ];go_wp2_with (first|(at_builtin;refine Kd.Zb (Kd.int .i64) (w0:=w1) (B+1) rfl (.tmp 30) (.tmp 33) 22 3 (.int .i64 0) 8 rfl Tryz.underlying22 Zg rfl (by decide) (by decide) (.slice none ([]:List Int).length p) [] (32*k) [.int .i64 (32*k)] (fun _=>True) (fun _=>False) rfl rfl rfl (fun _ hk=>hk.elim) (fun _ _=>trivial) hR1.out (Below.refl _ _) hsz.out hlen.out ?_;intro v1 wA hoA hbA hgA hatA;obtain⟨A6,p6,rfl,-,-⟩:=Kd.Qu hoA;have HOA:=Qa.mk hoA;have HBA:=Qa.mk hbA;have hBA:=(hbA.block B (Nat.lt_succ_self B)).trans hBw'.out;have c2:wA.cell? ⟨B,0,none⟩=some (.slice none ([]:List Int).length p):=(by rw[Qb hBA];rfl);have f2:=Qf hBA 0;have hBA':=Qa.mk hBA;clear hoA hbA hgA hatA hBA));go_end0;refine⟨rfl,⟨_,Q3 hBA'.out 0 _,?_⟩,?_⟩
  ·exact Kd.Z5 (Kd.Jv (p:=⟨B,0,none⟩) (Kd.Q9 HOA.out) (fun k hk e=>by have:=hk.2.1;simp at e;omega) _) (fun _ _=>trivial)
  ·exact((hbn'.out.mono (Nat.le_of_lt hBs'.out)).trans (HBA.out.mono (Nat.le_succ B))).setCell (p:=⟨B,0,none⟩) (Nat.le_refl B) _
 |some ad=>
  obtain⟨had,hg1,hg2,⟨cur,hcur⟩,hcells⟩:=R_blk hR;have HR:=Qa.mk hR;have hnI:(a.length:Int)<=12:=(by omega);have HB:=Qa.mk hB;have hneB:Qa (some B≠some ad.block):=⟨fun h=>by injection h with h;omega⟩;have HMM:=Qa.mk (fun i (hi:i<a.length)=>hM _ (Qt a i hi));replace had:=Qa.mk had;have hg1':=Qa.mk hg1;have hg2':=Qa.mk hg2;have hBs':=Qa.mk hBs;have hmo:=Qa.mk (show Tryz.prog.follows .mixedOrders =true by kernel_rfl);clear hR hB hM hC hcur hcells hg1 hg2 hBs;go_enter Tryz.func171,Tryz.ntmps171;go_wp2_with fail;refine HK.out.mono ?_;rintro e w1 ⟨u,rfl,hU,hbn⟩;have hU2:=Kd.Qu hU;obtain⟨Aw,pw,rfl,_,hCw⟩:=hU2;replace hU:=Qa.mk hU;replace hCw:=Qa.mk hCw;have hB1:Qa (w1.heap[B]? =some (.cells #[.slice (some ad) a.length p] 22 (0,0))):=⟨(hbn.block B hBs'.out).trans HB.out⟩;have hR1:=Qa.mk (Kd.Qw HR.out hbn);have hbn':=Qa.mk hbn;clear hbn k0;go_wp2_with fail;go_loopw [9] (fun i wr=> ∃j:Nat,i= .int .i64 j/\j<=a.length/\Qa ((Kd.int .i64).R 3 wr (B+1) (fun _=>True) (.slice (some ad) a.length p) (Kn a k j))/\Qa (w1.grownBy wr (some ad.block))) (fun i _=>a.length-(intOf i).toNat)
  case atStart=>exact⟨0,rfl,by omega,⟨by rw[Qev];exact hR1.out⟩,⟨⟨rfl,rfl,rfl,Nat.le_refl _,fun _ _ _=>rfl⟩⟩⟩
  case round=>
   obtain⟨j,rfl,hj,ho,hG⟩:=hrel;by_cases hlt:j<a.length
   ·obtain⟨-,-,-,⟨cur,hcur⟩,hcells⟩:=R_blk ho.out
    have c2:=hcells j (by rw[Ns];exact hlt);rw[rd_updF a k hlt] at c2
    have c1:wr.cell? ⟨B,0,none⟩=some (.slice (some ad) a.length p):=by
     have h:=Qb hB1.out 0;exact hG.out.cell h hneB.out
    have hfz:wr.frozen? (ad.add j)=false:=by
     rw[had.out,add_mk];exact Qf hcur j
    obtain⟨adw,rfl,c3⟩:=Qq hCw.out (Below.refl _ _) (k:=a.length-1-j) (by omega);obtain⟨-,hw1,-⟩:=R_blk hU.out
    replace c3:=hG.out.cell c3 (fun h=>by
     rw[add_block] at h
     injection h with h
     have:=hg2'.out
     omega)
    have b1:=HMM.out j hlt;have b2:=HMM.out (a.length-1-j) (by omega);have hjI:(j:Int)<(a.length:Int):=(by omega);obtain⟨m,hm⟩: ∃m,m=a.length-1-j:=⟨_,rfl⟩;have hmI:(a.length:Int)-1-(j:Int)=(m:Int):=(by omega);have hnew:newF a k j=rd a j+rnd (k*rd a (m:Int)):=(by unfold newF;rw[hm]);rw[<-hm] at c3 b2;obtain⟨y,hy⟩: ∃y,y=rd a (m:Int):=⟨_,rfl⟩;rw[<-hy] at c3 b2 hnew;obtain⟨x,hx⟩: ∃x,x=rd a j:=⟨_,rfl⟩;rw[<-hx] at c2 b1 hnew;have hpb:=Qc9 hk b2;have hrb:=rnd_bd hk b2;have HRd:=fun W=>Qav (k*y) W (by omega) (by omega)
    obtain⟨z,hz⟩: ∃z,z=rnd (k*y):=⟨_,rfl⟩;rw[<-hz] at HRd hrb hnew;have hsum:IntKind.i64.wrap (x+z)=newF a k j:=(by rw[hnew];exact IntWalk.i64_in _ (by omega));obtain⟨nv,hnv⟩: ∃nv,nv=newF a k j:=⟨_,rfl⟩;rw[<-hnv] at hsum;have hnv':=Qa.mk hnv;have hmul:IntKind.i64.wrap (k*y)=k*y:=IntWalk.i64_in _ (by omega);have h20:IntKind.i64.wrap ((a.length:Int)-1)=(a.length:Int)-1:=IntWalk.i64_in _ (by omega);have h22:IntKind.i64.wrap ((a.length:Int)-1-(j:Int))=(m:Int):=(by rw[hmI];exact IntWalk.i64_in _ (by omega));have hml:(m:Int)<(a.length:Int):=(by omega);replace HRd:=Qa.mk HRd;have hcur':=Qa.mk hcur;have hdr:Below wr.heap.size wr wr.drew:=(Below.refl _ _).drew;replace hdr:=Qa.mk hdr;clear hm hy hx hz hnv hnew hpb hrb b1 b2 hmI hcells hcur;go_wp2_with fail;refine Qr (S:=fun w'=>w'.cell? ⟨B,0,none⟩=some (.slice (some ad) a.length p)/\w'.cell? (ad.add j)=some (.int .i64 x)/\w'.cell? (adw.add m)=some (.int .i64 y)) (ds:=[17]) hmo.out ⟨c1,c2,c3⟩ (fun hHeld=> ?_)
    (refine Tk.tl 0 (.slice (some ad) a.length p) hHeld ?_)
    (refine Tk.tl 1 (.int .i64 j) hHeld ?_)
    (refine Tk.tl 2 (.pointer (some (ad.add j))) hHeld ?_)
    (refine Tk.tl 3 (.int .i64 x) hHeld ?_)
    (refine Tk.tl 4 (.int .i64 k) hHeld ?_)
    (refine Tk.tl 5 (.slice (some adw) a.length pw) hHeld ?_)
    (refine Tk.tl 6 (.slice (some adw) a.length pw) hHeld ?_)
    (refine Tk.tl 7 (.int .i64 a.length) hHeld ?_)
    (refine Tk.tl 8 (.int .i64 ((a.length:Int)-1)) hHeld ?_)
    (refine Tk.tl 9 (.int .i64 j) hHeld ?_)
    (refine Tk.tl 10 (.int .i64 m) hHeld ?_)
    (refine Tk.tl 11 (.pointer (some (adw.add m))) hHeld ?_)
    (refine Tk.tl 12 (.int .i64 y) hHeld ?_)
    (refine Tk.tl 13 (.int .i64 (k*y)) hHeld ?_)
    (refine Qd (rs:=[14]) (by kernel_rfl) (by simp) ?_;refine Qc.cons rfl (by decide) (fun K hK=> ?_) Qc.nil)
    go_simp;refine(HRd.out _).mono ?_;rintro e w7 ⟨rfl,hb7⟩;replace hb7:=Qa.mk (bnx hdr.out hb7)
    (go_wp2_with fail;refine hK.out _ _ (⟨cnx c1 hb7.out,cnx c2 hb7.out,cnx c3 hb7.out⟩) (fun hHeld=> ?_);clear hK K;try simp only[Act.put,Tk.z1,Tk.z2,Tk.z3,Tk.z4,Tk.z5,Tk.z6])
    (refine Tk.tl 15 (.int .i64 nv) hHeld ?_)
    (refine Tk.tl 16 (.pointer (some (ad.add j))) hHeld ?_)
    have hG7:=Qbt hG.out hb7.out;have hR7:=Kd.Qw ho.out hb7.out
    have hfz7:w7.frozen? (ad.add j)=false:=by
     have h:=hb7.out.frozen (p:=ad.add j) (World.block_lt_of_cell? wr _ c2);rw[h];exact hfz
    have c27:=cnx c2 hb7.out;replace hR7:=Qa.mk hR7;replace hG7:=Qa.mk hG7;clear hb7 hfz c1 c2 c3
    (refine Qd (rs:=[17]) (by kernel_rfl) (by simp) ?_;refine Qc.Zp rfl (by decide) (fun K hK=> ?_) Qc.nil)
    go_simp;go_wp2_with fail;refine hK.out _ _ ?_;clear hK K
    try simp only[Act.put,List.setIfInBounds_toArray,List.set_cons_zero,List.set_cons_succ]
    refine Qo (by kernel_rfl) ?_ _;go_wp2_with fail;go_roundw
    case rel=>
     refine⟨j+1,by go_num,by omega,⟨?_⟩,⟨?_⟩⟩
     ·rw[Qeu a k hlt,<-hnv'.out]
      have h:=hR7.out;rw[had.out] at h ⊢;rw[add_mk];have h2:=Kd.Ef h (j:Nat) nv;rw[Int.toNat_natCast] at h2;exact h2
     ·exact Qd0 (p:=ad.add j) hG7.out (add_block ad j) _
    case measure=>simp[intOf];omega
   ·obtain rfl:j=a.length:=by omega
    have hBw:wr.heap[B]? =some (.cells #[.slice (some ad) a.length p] 22 (0,0)):=(hG.out.block B (Qp hB1.out) hneB.out).trans hB1.out;have c1:wr.cell? ⟨B,0,none⟩=some (.slice (some ad) a.length p):=(by rw[Qb hBw];rfl);have hBlt:=Qp hBw;have hlen:Qa (((Kn a k a.length).length +1)*8<=140737488355328):=⟨by rw[Ns];omega⟩;have hn2:Qa ((Kn a k a.length).length =a.length):=⟨Ns _ _ _⟩;have hb0:=Qa.mk (Ir (B:=B) hG.out (by have:=hg1'.out;omega) (show B<=w1.heap.size by have:=Qp hB1.out;omega));have hst:Qa ((Kn a k a.length)++[32*k]=Hf a k):=⟨by rw[updF_all];rfl⟩;obtain⟨q,hq⟩: ∃q,q=Kn a k a.length:=⟨_,rfl⟩;rw[<-hq] at ho hlen hn2 hst;have hBw':=Qa.mk hBw;have hsz:Qa (B+1<=wr.heap.size):=⟨hBlt⟩;have ho2:Qa ((Kd.int .i64).R 3 wr (B+1) (fun _=>True) (.slice (some ad) a.length p) q):=ho;clear hq hBw hBlt ho;go_wp2_with (first|(at_builtin;refine Kd.Zb (Kd.int .i64) (w0:=wr) (B+1) rfl (.tmp 30) (.tmp 33) 22 3 (.int .i64 0) 8 rfl Tryz.underlying22 Zg rfl (by decide) (by decide) (.slice (some ad) a.length p) q (32*k) [.int .i64 (32*k)] (fun _=>True) (fun _=>False) rfl rfl rfl (fun _ hk=>hk.elim) (fun _ _=>trivial) ho2.out (Below.refl _ _) hsz.out hlen.out ?_;intro v1 wA hoA hbA hgA hatA;obtain⟨A6,p6,rfl,-,-⟩:=Kd.Qu hoA;have HOA:=Qa.mk hoA;have HBA:=Qa.mk hbA;have hBA:=(hgA.block B (Qp hBw'.out) hneB.out).trans hBw'.out;have c2:wA.cell? ⟨B,0,none⟩=some (.slice (some ad) a.length p):=(by rw[Qb hBA];rfl);have f2:=Qf hBA 0;have hBA':=Qa.mk hBA;clear hoA hbA hgA hatA hBA));go_end0;refine⟨rfl,⟨_,Q3 hBA'.out 0 _,?_⟩,?_⟩
    ·rw[<-hst.out]
     have h0:=HOA.out;rw[show(q++[32*k]).length =q.length+1 by simp] at h0;exact Kd.Z5 (Kd.Jv (p:=⟨B,0,none⟩) (Kd.Q9 h0) (fun k hk e=>by have:=hk.2.1;simp at e;omega) _) (fun _ _=>trivial)
    ·exact(((hbn'.out.mono (Nat.le_of_lt hBs'.out)).trans hb0.out).trans (HBA.out.mono (Nat.le_succ B))).setCell (p:=⟨B,0,none⟩) (Nat.le_refl B) _
end Q21

namespace Q21
attribute [local go_sem] Qi Qj Qk Ql Qg Qh
open Q15
theorem Tq (f:List Int) (k:Int):Zh (f++[k])=Hf (Zh f) k:=by
 unfold Zh;rw[List.foldl_append];rfl
theorem Hg (f:List Int) (hf: ∀x∈f,-127<=x/\x<=127): ∀j:Nat,j<=f.length-> ∀x∈Zh (f.take j),-(4096*(2:Int)^j)<=x/\x<=4096*(2:Int)^j
 |0,_=>fun x hx=>by simp[Zh] at hx
 |j+1,hj=>by
  have h1:=Hg f hf j (by omega);rw[Qx f j (by omega),Tq]
  have hp:(1:Int)<=2^j:=by
   have:1<=2^j:=Nat.one_le_two_pow
   exact_mod_cast this
  have h2:=stepF_bd (M:=4096*(2:Int)^j) (hf _ (Qt f j (by omega))) (by omega) h1;intro x hx;have:=h2 x hx;rw[Int.pow_succ];omega
theorem Nu (f:List Int) (hf: ∀x∈f,-127<=x/\x<=127) (hn:f.length<=12) {j:Nat} (hj:j<=f.length): ∀x∈Zh (f.take j),-16777216<=x/\x<=16777216:=fun x hx=>by
 have h1:=Hg f hf j hj x hx;have h2:(2:Int)^j<=4096:=(by decide: ∀j,j<13->(2:Int)^j<=4096) j (by omega);omega
theorem Li (A:Option Addr) (cap:Nat) (l:List Int) (w:World) (hr:(Kd.int .i64).C w A l.length l) (hl:l.length<=12) (hf: ∀x∈l,-127<=x/\x<=127):
  Calls Tryz.prog 119 #[.slice A l.length cap] w fun e w'=> ∃v,e= .returned v/\(Kd.int .i64).R 3 w' w.heap.size (fun _=>True) v (Zh l)/\Below w.heap.size w w':=by
 have HR:=Qa.mk hr;have hlI:(l.length:Int)<=12:=(by omega);have HLim:=Qa.mk (fun j hj=>Nu l hf hl (j:=j) hj);have HF:=Qa.mk (fun j (hj:j<l.length)=>hf _ (Qt l j hj));have HS:=Qa.mk (fun(j:Nat) (hj:j<l.length)=>(Tq (l.take j) (rd l j)));clear hr hf hl;go_enter Tryz.func119,Tryz.ntmps119;go_wp2_with fail;obtain⟨W,hW⟩: ∃W,W=w.alloc (.cells #[.slice none 0 0] 22):=⟨_,rfl⟩;have hB:W.heap[w.heap.size]? =some (.cells #[.slice none 0 0] 22 (0,0)):=(by rw[hW];exact heap_alloc_new _ _);have hb:Below w.heap.size w W:=(by rw[hW];exact(Below.refl _ _).alloc (Nat.le_refl _) _);rw[<-hW];obtain⟨B,hBe⟩: ∃B,B=w.heap.size:=⟨_,rfl⟩;rw[<-hBe] at hB hb ⊢;have hBe':=Qa.mk hBe;have hB':=Qa.mk hB;have hb':=Qa.mk hb;clear hW hBe hB hb;go_loopw [10] (fun i wr=> ∃j:Nat,i= .int .i64 j/\j<=l.length/\Qa (∃v,wr.heap[B]? =some (.cells #[v] 22 (0,0))/\(Kd.int .i64).R 3 wr (B+1) (fun _=>True) v (Zh (l.take j)))/\Qa (Below B w wr)) (fun i _=>l.length-(intOf i).toNat)
 case atStart=>exact⟨0,rfl,by omega,⟨⟨_,hB'.out,Kd.Xd _ _ _ _ _⟩⟩,hb'⟩
 case round=>
  obtain⟨j,rfl,hj,ho,hbL⟩:=hrel;by_cases hlt:j<l.length
  ·obtain⟨v,hv1,hv2⟩:=ho.out
   have hbw:Below w.heap.size w wr:=(by rw[<-hBe'.out];exact hbL.out);obtain⟨ad,rfl,hcell⟩:=Qq HR.out hbw hlt;have hjI:(j:Int)<(l.length:Int):=(by omega);have hk:=HF.out j hlt;have hT:=HS.out j hlt;have HC:=Gp B v (Zh (l.take j)) (rd l j) 16777216 wr hv1 hv2 (by rw[Nt,List.length_take];omega) hk (by decide) (by decide) (HLim.out j hj);rw[<-hT,<-Qx l j hlt] at HC;replace HC:=Qa.mk HC;obtain⟨k,hkk⟩: ∃k,k=rd l j:=⟨_,rfl⟩;rw[<-hkk] at hcell HC;clear hv1 hv2 hbw hT hkk ho hk;go_wp2_with fail;refine HC.out.mono ?_;rintro e w' ⟨rfl,⟨v',hv1,hv2⟩,hbn⟩;have ho2:Qa (∃v,w'.heap[B]? =some (.cells #[v] 22 (0,0))/\(Kd.int .i64).R 3 w' (B+1) (fun _=>True) v (Zh (l.take (j+1)))):=⟨⟨v',hv1,hv2⟩⟩;have hb2:Qa (Below B w w'):=⟨hbL.out.trans hbn⟩;clear hv1 hv2 hbn HC hbL;go_wp2_with fail;go_roundw
   case rel=>exact⟨j+1,by go_num,by omega,ho2,hb2⟩
   case measure=>simp[intOf];omega
  ·obtain rfl:j=l.length:=by omega
   obtain⟨v,hv1,hv2⟩:=ho.out;rw[List.take_length] at hv2;obtain⟨A5,p5,rfl,-,-⟩:=Kd.Qu hv2;have c1:wr.cell? ⟨B,0,none⟩=some (.slice A5 (Zh l).length p5):=(by rw[Qb hv1];rfl);have hv2':=Qa.mk hv2;clear hv1 hv2 ho;go_wp2_with fail;go_ret;exact⟨_,rfl,by rw[<-hBe'.out];exact Kd.Zo hv2'.out (Nat.le_succ B),by rw[<-hBe'.out];exact hbL.out⟩
def wgtE (l:List Int):Int:=if Jy l then 0 else 1
def wgtL (l:List Int):List Int:=if Jy l then Zh l else[]
theorem Iz {l:List Int} (h:Jy l=true):l.length<=12/\ ∀x∈l,-127<=x/\x<=127:=by
 unfold Jy at h;rw[Bool.and_eq_true] at h;refine⟨of_decide_eq_true h.1,fun x hx=> ?_⟩;have:=List.all_eq_true.1 h.2 x hx;exact of_decide_eq_true this
theorem Te (A:Option Addr) (cap:Nat) (l:List Int) (w:World) (hr:(Kd.int .i64).C w A l.length l) (hl:l.length<=1000000):
  Calls Tryz.prog 71 #[.slice A l.length cap] w (Outs (wgtL l) (wgtE l) w):=by
 have hb:=Below.refl w.heap.size w;have HC:=Rx A cap l w hr hl;unfold wgtL wgtE
 cases hd:Jy l with
 |false=>
  rw[hd] at HC;replace HC:=Qa.mk HC;rw[if_neg (by decide),if_neg (by decide)];clear hd hr hl;go_enter Tryz.func71,Tryz.ntmps71;go_wp2_with (first|(go_at_call 118;refine(HC.out).mono ?_;rintro e w' ⟨rfl,hbn⟩;replace hb:=bnx hb hbn;clear hbn));go_ret2;exact⟨none,0,rfl,Kd.V4 _ _,hb⟩
 |true=>
  rw[hd] at HC;obtain⟨h12,hf⟩:=Iz hd;have HW:=Qa.mk (fun(W:World) (hb:Below w.heap.size w W)=>Li A cap l W (Kd.Qe hr hb) h12 hf);replace HC:=Qa.mk HC;rw[if_pos rfl,if_pos rfl];obtain⟨L,hLL⟩: ∃L,L=Zh l:=⟨_,rfl⟩;rw[<-hLL] at HW ⊢;clear hd hr h12 hf hLL hl;go_enter Tryz.func71,Tryz.ntmps71;go_wp2_with (first|(go_at_call 118;refine(HC.out).mono ?_;rintro e w' ⟨rfl,hbn⟩;replace hb:=bnx hb hbn;clear hbn));refine(HW.out _ hb).mono ?_;rintro e w1 ⟨v,rfl,hR,hbn⟩;replace hb:=bnx hb hbn;obtain⟨B5,p5,rfl,-,hC5⟩:=Kd.Qu hR;replace hC5:=Qa.mk hC5;clear hbn hR;go_wp2_with fail;go_ret2;exact⟨_,_,rfl,hC5.out,hb⟩
end Q21

namespace Bts
attribute [local go_sem] Qi Qj Qk Ql Qg Qh
open Q15 (cnx bnx)
open Q21 (Qb Qf)
theorem Bi:(Tryz.prog.info? 5).map (fun i=>(i.zero,i.size,i.bytes))=some (some (.int .u8 0),1,1):=by kernel_rfl
def Wr (w:World) (base p:Nat) (q:Option Nat) (l:List Int):Prop:=
 ∃v,w.heap[p]? =some (.cells #[v,.int .i64 l.length] 109 (0,0))/\(Kd.int .u8).R 5 w base (fun _=>True) v (Q8 l)/\q=v.ownBlock/\U0 l/\base<=p/\l.length<=1048576
def WrP (base p:Nat) (q:Option Nat) (l:List Int) (w w':World):Prop:= ∃q',Wr w' base p q' l/\(q'=q\/ ∃g,q'=some g/\w.heap.size<=g)/\Kp p q w w'
theorem Wr.Nb {w:World} {base p:Nat} {q:Option Nat} {l:List Int} (h:Wr w base p q l): ∀k,q=some k->base<=k/\k<w.heap.size:=fun k hk=>by
 obtain⟨v,_,hR,hq,_⟩:=h;have:=(Kd.Q9 hR).1 k (by rw[<-hq,hk]);exact⟨this.2.1,this.2.2.1⟩
theorem Wr.plt {w:World} {base p:Nat} {q:Option Nat} {l:List Int} (h:Wr w base p q l):p<w.heap.size:=by
 obtain⟨v,hb,_⟩:=h;exact Qp hb
theorem Wr.base {w:World} {base p:Nat} {q:Option Nat} {l:List Int} (h:Wr w base p q l):base<=p:=by
 obtain⟨v,_,_,_,_,h,_⟩:=h;exact h
theorem WrP.refl {w:World} {base p:Nat} {q:Option Nat} {l:List Int} (h:Wr w base p q l):WrP base p q l w w:=⟨q,h,.inl rfl,Kp.refl _ _ _⟩
theorem WrP.trans {w w1 w2:World} {base p:Nat} {q q1:Option Nat} {l:List Int} (hk:Kp p q w w1) (hq:q1=q\/ ∃g,q1=some g/\w.heap.size<=g) (h2:WrP base p q1 l w1 w2):WrP base p q l w w2:=by
 obtain⟨q2,hw,hq2,hk2⟩:=h2;refine⟨q2,hw,?_,hk.trans hk2 hq⟩;rcases hq2 with e|⟨g,e,hg⟩
 ·rw[e]
  exact hq
 ·exact .inr ⟨g,e,Nat.le_trans hk.size hg⟩
theorem Qdl (base p:Nat) (q:Option Nat) (l:List Int) (b:Int) (w:World) (hw:Wr w base p q l) (hb:b=0\/b=1) (hl:l.length+1<=1048576):
  Calls Tryz.prog 183 #[.pointer (some ⟨p,0,none⟩),.int .i64 b] w fun e w'=>e= .returned (.tuple #[])/\WrP base p q (l++[b]) w w':=by
 obtain⟨v,hB,hR,hq,hbits,hbp,hlen⟩:=hw;have hmo:=Qa.mk (show Tryz.prog.follows .mixedOrders =true by kernel_rfl);have k0:w.cell? ⟨p,0,none⟩=some v:=(by rw[Qb hB];rfl);have k1:w.cell? ⟨p,1,none⟩=some (.int .i64 l.length):=(by rw[Qb hB];rfl);have f0:=Qf hB 0;have f1:=Qf hB 1;have hlI:(l.length:Int)<=2000000:=(by omega);have hne:some p≠v.ownBlock:=Kd.R_ne hR hB (by decide);obtain⟨A,c,rfl⟩: ∃A c,v= .slice A (Q8 l).length c:=Kd.Ze hR;by_cases h8:l.length%8=0
 ·have t1:((l.length:Int)%8==0)=true:=by rw[beq_iff_eq];omega
  have hbl:=Qa.mk hbits;replace hR:=Qa.mk hR;replace hB:=Qa.mk hB;replace h8:=Qa.mk h8;replace hq:=Qa.mk hq;replace hne:=Qa.mk hne;have hnl:Qa (((Q8 l).length +1)*1<=140737488355328):=⟨by rw[Zq];omega⟩;replace hl:=Qa.mk hl;clear hbits hlen;have hbs:Qa (base<=w.heap.size):=⟨by have:=Qp hB.out;omega⟩;replace k1:=Qa.mk k1;go_enter Tryz.func183,Tryz.ntmps183;have k1':=k1.out;go_wp2_with (first|(at_builtin;refine Kd.Zb (Kd.int .u8) (w0:=w) base rfl (.tmp 14) (.tmp 15) 107 5 (.int .u8 0) 1 rfl Tryz.underlying107 Bi rfl (by decide) (by decide) (.slice A (Q8 l).length c) (Q8 l) 0 [.int .u8 0] (fun _=>True) (fun _=>False) rfl rfl rfl (fun _ hk=>hk.elim) (fun _ _=>trivial) hR.out (Below.refl _ _) hbs.out hnl.out ?_;intro v1 wA hoA hbA hgA hatA;have hqA:=Qa.mk hatA;clear hatA hbA;have hBA:=(hgA.block p (Qp hB.out) hne.out).trans hB.out;replace hgA:=Qa.mk hgA;clear k0 f0 f1 k1';have k0:wA.cell? ⟨p,0,none⟩=some (.slice A (Q8 l).length c):=(by rw[Qb hBA];rfl);have f0:=Qf hBA 0;have k1':wA.cell? ⟨p,1,none⟩=some (.int .i64 l.length):=(by rw[Qb hBA];rfl);have hslA:=Ny hoA (by simp);obtain⟨g,c1,rfl⟩:=hslA;replace hoA:=Qa.mk hoA;replace hBA:=Qa.mk hBA));have hml:Qa ((Q8 l++[0]).length =(Q8 l).length +1):=⟨by simp⟩;rw[hml.out] at hoA;go_wp2_with fail;obtain⟨m,hm⟩: ∃m,m=(Q8 l).length +1:=⟨_,rfl⟩;rw[<-hm] at hoA ⊢;obtain⟨W2,hW2⟩: ∃W2,W2=wA.setCell ⟨p,0,none⟩ (.slice (some ⟨g,0,none⟩) m c1):=⟨_,rfl⟩;rw[<-hW2];have hB2:W2.heap[p]? =some (.cells #[.slice (some ⟨g,0,none⟩) m c1,.int .i64 l.length] 109 (0,0)):=(by rw[hW2];exact Q3 hBA.out 0 _);have hR2:(Kd.int .u8).R 5 W2 base (fun _=>True) (.slice (some ⟨g,0,none⟩) m c1) (Q8 l++[0]):=by rw[hW2];exact Kd.X5 hoA.out hBA.out (by decide) 0 _
  have hqg:Qa (q=some g\/w.heap.size<=g):=⟨by
   rcases hqA.out with e|⟨b0,e,hle⟩
   ·exact .inl (by rw[hq.out,<-e];rfl)
   ·have:some g=some b0:=e
    cases this
    exact .inr hle⟩
  have hK2:Kp p q w W2:=by rw[hW2,hq.out];exact(Kp.of_grown hgA.out p).Km 0 _
  have hV:Qa ((Q8 l++[0]).set (l.length/8) (Xq l (l.length/8)+b*2^(7-l.length%8))=Q8 (l++[b])):=⟨by
   rw[Qef b h8.out,List.set_append_right _ _ (by rw[Zq];have:=h8.out;omega),Zq];have e0:Xq l (l.length/8)=0:=(by unfold Xq;rw[Y3 (l:=l) _ 0 8 (by omega) (by have:=h8.out;omega)];rfl);have e1:l.length/8-(l.length+7)/8=0:=(by have:=h8.out;omega);rw[e0,e1,h8.out]
   simp⟩
  obtain⟨V,hVe⟩: ∃V,V=Q8 l++[0]:=⟨_,rfl⟩;rw[<-hVe] at hR2 hV;have e0:Xq l (l.length/8)=0:=by unfold Xq;rw[Y3 (l:=l) _ 0 8 (by omega) (by have:=h8.out;omega)];rfl
  have hx:rd V (l.length/8:Nat)=Xq l (l.length/8):=by
   rw[e0,hVe];have e1:l.length/8=(Q8 l).length :=(by rw[Zq];have:=h8.out;omega);simp[rd,e1]
  have hix:l.length/8<m:=(by rw[hm,Zq];have:=h8.out;omega);have hlo: ∃a:Int,Xq l (l.length/8)=a*2^(8-l.length%8)/\0<=a/\a<=2^(l.length%8)-1:=⟨0,by rw[e0];simp,by omega,by rw[h8.out];simp⟩;clear e0;clear k0 k1' f0 hW2 hoA hBA hgA hVe hml hm;have k0:W2.cell? ⟨p,0,none⟩=some (.slice (some ⟨g,0,none⟩) m c1):=(by rw[Qb hB2];rfl);have k1':W2.cell? ⟨p,1,none⟩=some (.int .i64 l.length):=(by rw[Qb hB2];rfl);have k2:=(Kd.Gv 0 hR2 (l.length/8:Nat) (by omega) (by omega)).1;have f2:=(Kd.Gv 0 hR2 (l.length/8:Nat) (by omega) (by omega)).2;rw[Int.toNat_natCast] at k2 f2;have hxo:rdOf 0 V ((l.length/8:Nat):Int)=Xq l (l.length/8):=(by rw[<-hx];rfl);rw[hxo] at k2;obtain⟨x,hxe⟩: ∃x,x=Xq l (l.length/8):=⟨_,rfl⟩;rw[<-hxe] at k2 hlo hx hV;obtain⟨j,hj⟩: ∃j,j=l.length/8:=⟨_,rfl⟩;obtain⟨r,hr⟩: ∃r,r=l.length%8:=⟨_,rfl⟩;have hq8:(l.length:Int)/8=(j:Int):=(by omega);have hr8:(l.length:Int)%8=(r:Int):=(by omega);have hq9:(l.length:Int).tdiv 8=(j:Int):=(by rw[Int.tdiv_eq_ediv_of_nonneg (by omega)];exact hq8);have hr9:(l.length:Int).tmod 8=(r:Int):=(by rw[Int.tmod_eq_emod_of_nonneg (by omega)];exact hr8);have hrI:(r:Int)<8:=(by omega);rw[<-hj] at k2 f2 hV hix;rw[<-hr] at hlo hV;have hixI:(j:Int)<(m:Int):=(by omega);have h7r:(7:Int)-(r:Int)=((7-r:Nat):Int):=(by omega);obtain⟨sh,hsh⟩: ∃sh,sh=7-r:=⟨_,rfl⟩;rw[<-hsh] at h7r hV;have hshI:(sh:Int)<=7:=by omega
  have hp2:(2:Int)^sh<=128:=by
   have h1:2^sh<=2^7:=Nat.pow_le_pow_right (by omega) (by omega);have h2:((2^sh:Nat):Int)=2^sh:=(by simp);omega
  have hp0:(0:Int)<2^sh:=Int.pow_pos (by omega);obtain⟨y,hy⟩: ∃y,b*2^sh=y:=⟨_,rfl⟩;have hyb:0<=y/\y<=128:=(by rw[<-hy];rcases hb with e|e<;>rw[e]<;>omega);have hjw:IntKind.i64.wrap (j:Int)=j:=IntWalk.i64_in _ (by have:=hl.out;omega);have hsw:IntKind.i64.wrap (sh:Int)=sh:=IntWalk.i64_in _ (by omega);have hyw:IntKind.i64.wrap y=y:=IntWalk.i64_in _ (by omega);have hyw8:IntKind.u8.wrap y=y:=IntWalk.u8_in _ (by omega);obtain⟨nv,hnv⟩: ∃nv,nv=x+y:=⟨_,rfl⟩
  have hor:bits .or .u8 x y=nv:=by
   obtain⟨a,e,a0,a1⟩:=hlo;have h:=Qc3 a b r (by omega) a0 a1 hb;rw[<-hsh] at h;rw[e,hnv,<-hy,e];exact h
  rw[hy,<-hnv] at hV;replace hnv:=Qa.mk hnv;clear hp2 hp0 hyb;replace hj:=Qa.mk hj;replace hr:=Qa.mk hr;replace hsh:=Qa.mk hsh;replace hxe:=Qa.mk hxe;replace hlo:=Qa.mk hlo;replace hB2:=Qa.mk hB2;replace hR2:=Qa.mk hR2;replace hK2:=Qa.mk hK2;have hb':=Qa.mk hb;clear hx hxo hix hlI hb t1;go_wp2_with fail;refine Qr (S:=fun w'=>w'.cell? ⟨p,0,none⟩=some (.slice (some ⟨g,0,none⟩) m c1)/\w'.cell? ⟨p,1,none⟩=some (.int .i64 l.length)/\w'.cell? ⟨g,j,none⟩=some (.int .u8 x)) (ds:=[22]) hmo.out ⟨k0,k1',k2⟩ (fun hHeld=> ?_)
  (refine Tk.tl 0 (.pointer (some ⟨p,0,none⟩)) hHeld ?_)
  (refine Tk.tl 1 (.pointer (some ⟨p,0,none⟩)) hHeld ?_)
  (refine Tk.tl 2 (.pointer (some ⟨p,0,none⟩)) hHeld ?_)
  (refine Tk.tl 3 (.slice (some ⟨g,0,none⟩) m c1) hHeld ?_)
  (refine Tk.tl 4 (.pointer (some ⟨p,0,none⟩)) hHeld ?_)
  (refine Tk.tl 5 (.pointer (some ⟨p,0,none⟩)) hHeld ?_)
  (refine Tk.tl 6 (.pointer (some ⟨p,1,none⟩)) hHeld ?_)
  (refine Tk.tl 7 (.int .i64 l.length) hHeld ?_)
  (refine Tk.tl 8 (.int .i64 j) hHeld ?_)
  (refine Tk.tl 9 (.pointer (some ⟨g,j,none⟩)) hHeld ?_)
  (refine Tk.tl 10 (.int .u8 x) hHeld ?_)
  (refine Tk.tl 11 (.int .i64 b) hHeld ?_)
  (refine Tk.tl 12 (.pointer (some ⟨p,0,none⟩)) hHeld ?_)
  (refine Tk.tl 13 (.pointer (some ⟨p,0,none⟩)) hHeld ?_)
  (refine Tk.tl 14 (.pointer (some ⟨p,1,none⟩)) hHeld ?_)
  (refine Tk.tl 15 (.int .i64 l.length) hHeld ?_)
  (refine Tk.tl 16 (.int .i64 r) hHeld ?_)
  (refine Tk.tl 17 (.int .i64 sh) hHeld ?_)
  (refine Tk.tl 18 (.int .i64 y) hHeld ?_)
  (refine Tk.tl 19 (.int .u8 y) hHeld ?_)
  (refine Tk.tl 20 (.int .u8 nv) hHeld ?_)
  (refine Tk.tl 21 (.pointer (some ⟨g,j,none⟩)) hHeld ?_)
  (refine Qd (rs:=[22]) (by kernel_rfl) (by simp) ?_;refine Qc.Zp rfl (by decide) (fun K hK=> ?_) Qc.nil)
  go_simp;go_wp2_with fail;refine hK.out _ _ ?_;clear hK K
  try simp only[Act.put,List.setIfInBounds_toArray,List.set_cons_zero,List.set_cons_succ]
  refine Qo (by kernel_rfl) ?_ _;obtain⟨W3,hW3⟩: ∃W3,W3=(W2.setCell ⟨g,j,none⟩ (.int .u8 nv)).drew :=⟨_,rfl⟩;rw[<-hW3];have hgp:p≠g:=fun e=>Kd.R_ne hR2.out hB2.out (by decide) (by rw[e];rfl)
  have hB3:W3.heap[p]? =some (.cells #[.slice (some ⟨g,0,none⟩) m c1,.int .i64 l.length] 109 (0,0)):=by rw[hW3];exact Js hB2.out (p:=⟨g,j,none⟩) hgp _
  have hR3:(Kd.int .u8).R 5 W3 base (fun _=>True) (.slice (some ⟨g,0,none⟩) m c1) (V.set j nv):=by
   have h:=Kd.Ef hR2.out (j:Int) nv;rw[Int.toNat_natCast] at h;rw[hW3];exact h
  have hK3:Kp p q w W3:=(by rw[hW3];exact(hK2.out.setQ hqg.out j _).drew);have e1:W3.cell? ⟨p,1,none⟩=some (.int .i64 l.length):=(by rw[Qb hB3];rfl);have g1:=Qf hB3 1;rw[hV.out] at hR3;have hE:=Qa.mk (And.intro hB3 (And.intro hR3 hK3));have hnI:(l.length:Int)<=2000000:=(by have:=hl.out;omega);clear hB3 hR3 hK3 hW3 hHeld k0 k1' k2 f2 hq8 hr8 hq9 hr9 hjw hsw hyw hyw8 hor h7r hy;go_wp2_with fail;go_end0;obtain⟨hB3,hR3,hK3⟩:=hE.out;have h1:=Q3 hB3 1 (.int .i64 ((l.length:Int)+1));refine⟨rfl,some g,⟨.slice (some ⟨g,0,none⟩) m c1,?_,Kd.X5 hR3 hB3 (by decide) 1 _,rfl,Rv hbl.out (Rw hb'.out),hbp,by simpa using hl.out⟩,hqg.out.imp (fun e=>e.symm) (fun h=>⟨g,rfl,h⟩),hK3.Km 1 _⟩;rw[h1];simp
 ·have t1:((l.length:Int)%8==0)=false:=by rw[beq_eq_false_iff_ne];omega
  have hbl:=Qa.mk hbits;replace hl:=Qa.mk hl;have hm0:0<(Q8 l).length :=(by rw[Zq];omega);obtain⟨g,c9,hAe⟩:=Ny hR hm0
  injection hAe with hAe1 hAe2 hAe3
  subst hAe1;subst hAe3;have hqg:Qa (q=some g\/w.heap.size<=g):=⟨.inl hq⟩;have hV:Qa ((Q8 l).set (l.length/8) (Xq l (l.length/8)+b*2^(7-l.length%8))=Q8 (l++[b])):=⟨(packL_in b h8).symm⟩;have hx:rd (Q8 l) (l.length/8:Nat)=Xq l (l.length/8):=rd_packL (by omega);have hlo:=Qbk hbits h8;obtain⟨W2,hW2⟩: ∃W2,W2=w:=⟨_,rfl⟩;have hB2:=hB;have hR2:=hR;have hK2:=Kp.refl p q w;obtain⟨m,hm⟩: ∃m,m=(Q8 l).length :=⟨_,rfl⟩;have hix:l.length/8<m:=(by rw[hm,Zq];omega);rw[<-hm] at hR2 hB2 k0;clear hbits hlen hne hm0 hq k0 k1 f0 f1 hB hR h8;go_enter Tryz.func183,Tryz.ntmps183;rw[<-hW2];have hB3:W2.heap[p]? =some (.cells #[.slice (some ⟨g,0,none⟩) m c,.int .i64 l.length] 109 (0,0)):=(by rw[hW2];exact hB2);have hR3:(Kd.int .u8).R 5 W2 base (fun _=>True) (.slice (some ⟨g,0,none⟩) m c) (Q8 l):=(by rw[hW2];exact hR2);have hK3:Kp p q w W2:=(by rw[hW2];exact hK2);clear hB2 hR2 hK2;have hB2:=hB3;have hR2:=hR3;have hK2:=hK3;clear hB3 hR3 hK3;have k1'':W2.cell? ⟨p,1,none⟩=some (.int .i64 l.length):=(by rw[Qb hB2];rfl);replace hx:=Qa.mk hx;replace hlo:=Qa.mk hlo;replace hW2:=Qa.mk hW2;replace hm:=Qa.mk hm;replace hix:=Qa.mk hix;go_wp2_with fail;replace hx:=hx.out;replace hlo:=hlo.out;replace hix:=hix.out;obtain⟨V,hVe⟩: ∃V,V=Q8 l:=⟨_,rfl⟩;rw[<-hVe] at hR2 hV hx;clear k1'' hVe hm;have k0:W2.cell? ⟨p,0,none⟩=some (.slice (some ⟨g,0,none⟩) m c):=(by rw[Qb hB2];rfl);have k1':W2.cell? ⟨p,1,none⟩=some (.int .i64 l.length):=(by rw[Qb hB2];rfl);have k2:=(Kd.Gv 0 hR2 (l.length/8:Nat) (by omega) (by omega)).1;have f2:=(Kd.Gv 0 hR2 (l.length/8:Nat) (by omega) (by omega)).2;rw[Int.toNat_natCast] at k2 f2;have hxo:rdOf 0 V ((l.length/8:Nat):Int)=Xq l (l.length/8):=(by rw[<-hx];rfl);rw[hxo] at k2;obtain⟨x,hxe⟩: ∃x,x=Xq l (l.length/8):=⟨_,rfl⟩;rw[<-hxe] at k2 hlo hx hV;obtain⟨j,hj⟩: ∃j,j=l.length/8:=⟨_,rfl⟩;obtain⟨r,hr⟩: ∃r,r=l.length%8:=⟨_,rfl⟩;have hq8:(l.length:Int)/8=(j:Int):=(by omega);have hr8:(l.length:Int)%8=(r:Int):=(by omega);have hq9:(l.length:Int).tdiv 8=(j:Int):=(by rw[Int.tdiv_eq_ediv_of_nonneg (by omega)];exact hq8);have hr9:(l.length:Int).tmod 8=(r:Int):=(by rw[Int.tmod_eq_emod_of_nonneg (by omega)];exact hr8);have hrI:(r:Int)<8:=(by omega);rw[<-hj] at k2 f2 hV hix;rw[<-hr] at hlo hV;have hixI:(j:Int)<(m:Int):=(by omega);have h7r:(7:Int)-(r:Int)=((7-r:Nat):Int):=(by omega);obtain⟨sh,hsh⟩: ∃sh,sh=7-r:=⟨_,rfl⟩;rw[<-hsh] at h7r hV;have hshI:(sh:Int)<=7:=by omega
  have hp2:(2:Int)^sh<=128:=by
   have h1:2^sh<=2^7:=Nat.pow_le_pow_right (by omega) (by omega);have h2:((2^sh:Nat):Int)=2^sh:=(by simp);omega
  have hp0:(0:Int)<2^sh:=Int.pow_pos (by omega);obtain⟨y,hy⟩: ∃y,b*2^sh=y:=⟨_,rfl⟩;have hyb:0<=y/\y<=128:=(by rw[<-hy];rcases hb with e|e<;>rw[e]<;>omega);have hjw:IntKind.i64.wrap (j:Int)=j:=IntWalk.i64_in _ (by have:=hl.out;omega);have hsw:IntKind.i64.wrap (sh:Int)=sh:=IntWalk.i64_in _ (by omega);have hyw:IntKind.i64.wrap y=y:=IntWalk.i64_in _ (by omega);have hyw8:IntKind.u8.wrap y=y:=IntWalk.u8_in _ (by omega);obtain⟨nv,hnv⟩: ∃nv,nv=x+y:=⟨_,rfl⟩
  have hor:bits .or .u8 x y=nv:=by
   obtain⟨a,e,a0,a1⟩:=hlo;have h:=Qc3 a b r (by omega) a0 a1 hb;rw[<-hsh] at h;rw[e,hnv,<-hy,e];exact h
  rw[hy,<-hnv] at hV;replace hnv:=Qa.mk hnv;clear hp2 hp0 hyb;replace hj:=Qa.mk hj;replace hr:=Qa.mk hr;replace hsh:=Qa.mk hsh;replace hxe:=Qa.mk hxe;replace hlo:=Qa.mk hlo;replace hB2:=Qa.mk hB2;replace hR2:=Qa.mk hR2;replace hK2:=Qa.mk hK2;have hb':=Qa.mk hb;clear hx hxo hix hlI hb t1;go_wp2_with fail;refine Qr (S:=fun w'=>w'.cell? ⟨p,0,none⟩=some (.slice (some ⟨g,0,none⟩) m c)/\w'.cell? ⟨p,1,none⟩=some (.int .i64 l.length)/\w'.cell? ⟨g,j,none⟩=some (.int .u8 x)) (ds:=[22]) hmo.out ⟨k0,k1',k2⟩ (fun hHeld=> ?_)
  (refine Tk.tl 0 (.pointer (some ⟨p,0,none⟩)) hHeld ?_)
  (refine Tk.tl 1 (.pointer (some ⟨p,0,none⟩)) hHeld ?_)
  (refine Tk.tl 2 (.pointer (some ⟨p,0,none⟩)) hHeld ?_)
  (refine Tk.tl 3 (.slice (some ⟨g,0,none⟩) m c) hHeld ?_)
  (refine Tk.tl 4 (.pointer (some ⟨p,0,none⟩)) hHeld ?_)
  (refine Tk.tl 5 (.pointer (some ⟨p,0,none⟩)) hHeld ?_)
  (refine Tk.tl 6 (.pointer (some ⟨p,1,none⟩)) hHeld ?_)
  (refine Tk.tl 7 (.int .i64 l.length) hHeld ?_)
  (refine Tk.tl 8 (.int .i64 j) hHeld ?_)
  (refine Tk.tl 9 (.pointer (some ⟨g,j,none⟩)) hHeld ?_)
  (refine Tk.tl 10 (.int .u8 x) hHeld ?_)
  (refine Tk.tl 11 (.int .i64 b) hHeld ?_)
  (refine Tk.tl 12 (.pointer (some ⟨p,0,none⟩)) hHeld ?_)
  (refine Tk.tl 13 (.pointer (some ⟨p,0,none⟩)) hHeld ?_)
  (refine Tk.tl 14 (.pointer (some ⟨p,1,none⟩)) hHeld ?_)
  (refine Tk.tl 15 (.int .i64 l.length) hHeld ?_)
  (refine Tk.tl 16 (.int .i64 r) hHeld ?_)
  (refine Tk.tl 17 (.int .i64 sh) hHeld ?_)
  (refine Tk.tl 18 (.int .i64 y) hHeld ?_)
  (refine Tk.tl 19 (.int .u8 y) hHeld ?_)
  (refine Tk.tl 20 (.int .u8 nv) hHeld ?_)
  (refine Tk.tl 21 (.pointer (some ⟨g,j,none⟩)) hHeld ?_)
  (refine Qd (rs:=[22]) (by kernel_rfl) (by simp) ?_;refine Qc.Zp rfl (by decide) (fun K hK=> ?_) Qc.nil)
  go_simp;go_wp2_with fail;refine hK.out _ _ ?_;clear hK K
  try simp only[Act.put,List.setIfInBounds_toArray,List.set_cons_zero,List.set_cons_succ]
  refine Qo (by kernel_rfl) ?_ _;obtain⟨W3,hW3⟩: ∃W3,W3=(W2.setCell ⟨g,j,none⟩ (.int .u8 nv)).drew :=⟨_,rfl⟩;rw[<-hW3];have hgp:p≠g:=fun e=>Kd.R_ne hR2.out hB2.out (by decide) (by rw[e];rfl)
  have hB3:W3.heap[p]? =some (.cells #[.slice (some ⟨g,0,none⟩) m c,.int .i64 l.length] 109 (0,0)):=by rw[hW3];exact Js hB2.out (p:=⟨g,j,none⟩) hgp _
  have hR3:(Kd.int .u8).R 5 W3 base (fun _=>True) (.slice (some ⟨g,0,none⟩) m c) (V.set j nv):=by
   have h:=Kd.Ef hR2.out (j:Int) nv;rw[Int.toNat_natCast] at h;rw[hW3];exact h
  have hK3:Kp p q w W3:=(by rw[hW3];exact(hK2.out.setQ hqg.out j _).drew);have e1:W3.cell? ⟨p,1,none⟩=some (.int .i64 l.length):=(by rw[Qb hB3];rfl);have g1:=Qf hB3 1;rw[hV.out] at hR3;have hE:=Qa.mk (And.intro hB3 (And.intro hR3 hK3));have hnI:(l.length:Int)<=2000000:=(by have:=hl.out;omega);clear hB3 hR3 hK3 hW3 hHeld k0 k1' k2 f2 hq8 hr8 hq9 hr9 hjw hsw hyw hyw8 hor h7r hy;go_wp2_with fail;go_end0;obtain⟨hB3,hR3,hK3⟩:=hE.out;rw[hW2.out];have h1:=Q3 hB3 1 (.int .i64 ((l.length:Int)+1));refine⟨rfl,some g,⟨.slice (some ⟨g,0,none⟩) m c,?_,Kd.X5 hR3 hB3 (by decide) 1 _,rfl,Rv hbl.out (Rw hb'.out),hbp,by simpa using hl.out⟩,hqg.out.imp (fun e=>e.symm) (fun h=>⟨g,rfl,h⟩),hK3.Km 1 _⟩;rw[h1];simp
end Bts

namespace Q21
attribute [local go_sem] Qi Qj Qk Ql Qg Qh
open Q15
open Q16 (isW off wd Za Zn Zx J3 Q0)
section
variable {α:Type} {enc:α->Value} {w:World} {g t:Nat} {l:List α}
theorem bk_cell (h:w.heap[g]? =some (.cells (l.map enc).toArray t (0,0))) {i:Nat} {x:α} (hx:l[i]? =some x):w.cell? ⟨g,i,none⟩=some (enc x):=by
 rw[Qs h];simp[hx]
theorem bk_set (h:w.heap[g]? =some (.cells (l.map enc).toArray t (0,0))) (i:Nat) (u:α):(w.setCell ⟨g,i,none⟩ (enc u)).heap[g]? =some (.cells ((l.set i u).map enc).toArray t (0,0)):=by
 rw[Q3 h,List.map_set];simp
theorem bk_new (w:World) (t n:Nat) (x:α):(w.alloc (.cells (madeCells #[enc x] n) t)).heap[w.heap.size]? =some (.cells ((List.replicate n x).map enc).toArray t (0,0)):=by
 have e:madeCells #[enc x] n=((List.replicate n x).map enc).toArray :=by
  apply Array.ext
  ·simp[madeCells]
  ·intro i h1 h2
   simp[madeCells,Nat.mod_one]
 rw[e];exact heap_alloc_new _ _
end
def Dm (l c:List Int) (k:Nat):Bool:=(Zn c l k).any fun v=>decide (v≠0)
def Xb (l c:List Int):List Bool:=(List.range l.length).map (Dm l c)
def Y8 (l c:List Int) (k m:Nat):List Bool:=(List.range l.length).map fun i=>if i<k then Dm l c i else if i=k then((Zn c l k).take m).any fun v=>decide (v≠0) else false
theorem Y7 (l c:List Int):(Xb l c).length =l.length:=by simp[Xb]
theorem Qce (l c:List Int):Y8 l c 0 0=List.replicate l.length false:=by
 apply List.ext_getElem
 ·simp[Y8]
 ·intro i h1 h2
  simp only[Y8,List.getElem_map,List.getElem_range,List.take_zero,List.any_nil,List.getElem_replicate,Nat.not_lt_zero,if_false]
  split<;>rfl
theorem Qex (l c:List Int) (m:Nat):Y8 l c l.length m=Xb l c:=by
 apply List.ext_getElem
 ·simp[Y8,Xb]
 ·intro i h1 h2
  have h:i<l.length:=(by simpa[Y8] using h1);simp[Y8,Xb,h]
theorem Qcc {l c:List Int} {k:Nat} {m:Nat} (hm:(Zn c l k).length <=m):Y8 l c k m=Y8 l c (k+1) 0:=by
 apply List.ext_getElem
 ·simp[Y8]
 ·intro i h1 h2
  simp only[Y8,List.getElem_map,List.getElem_range,List.take_of_length_le hm,List.take_zero,List.any_nil];by_cases h:i<k
  ·rw[if_pos h,if_pos (by omega)]
  ·by_cases h3:i=k
   ·subst h3
    rw[if_neg h,if_pos rfl,if_pos (by omega)];rfl
   ·rw[if_neg h,if_neg h3,if_neg (by omega)]
    split<;>rfl
theorem usedM_at {l c:List Int} {k m:Nat} (hk:k<l.length):(Y8 l c k m)[k]? =some (((Zn c l k).take m).any fun v=>decide (v≠0)):=by
 simp[Y8,hk]
theorem Qcp {l c:List Int} (hc:c.length=128) (hl:isW l=true) {k:Nat} (hk:k<l.length) {m:Nat} (hm:m<wd l k):(Zn c l k).take (m+1)=(Zn c l k).take m++[rd c (off l k+m:Nat)]:=by
 have h1:=Zx hc hl hk;have h2:=Za hl hk;rw[List.take_add_one]
 congr 1
 rw[List.getElem?_eq_getElem (by omega)];simp only[Zn,List.getElem_take,List.getElem_drop,Option.toList_some,rd,Int.toNat_natCast];rw[List.getD_eq_getElem?_getD,List.getElem?_eq_getElem (by omega)];rfl
theorem Qcd {l c:List Int} (hc:c.length=128) (hl:isW l=true) {k:Nat} (hk:k<l.length) {m:Nat} (hm:m<wd l k):
  Y8 l c k (m+1)=(Y8 l c k m).set k ((((Zn c l k).take m).any fun v=>decide (v≠0))||decide (rd c (off l k+m:Nat)≠0)):=by
 apply List.ext_getElem
 ·simp[Y8]
 ·intro i h1 h2
  rw[List.getElem_set];simp only[Y8,List.getElem_map,List.getElem_range,Qcp hc hl hk hm,List.any_append,List.any_cons,List.any_nil,Bool.or_false];by_cases h:k=i
  ·subst h
   rw[if_neg (by omega),if_pos rfl,if_pos rfl]
  ·rw[if_neg h]
   by_cases h3:i<k
   ·rw[if_pos h3,if_pos h3]
   ·rw[if_neg h3,if_neg (fun e=>h e.symm),if_neg h3,if_neg (fun e=>h e.symm)]
theorem Ah {l:List Int} (h:isW l=true):off l l.length=128:=by
 unfold off;rw[List.take_length,(Q0.1 h).2.1];rfl
theorem Uv (A:Option Addr) (cap:Nat) (l:List Int) (a:Addr) (c1:Nat) (c:List Int) (w:World) (hr:(Kd.int .i64).C w A l.length l) (hl:isW l=true) (hr1:(Kd.int .i64).C w (some a) c.length c) (hc:c.length=128):
  Calls Tryz.prog 30 #[.slice A l.length cap,.slice (some a) 128 c1] w fun e w'=> ∃g,e= .returned (.tuple #[.slice (some ⟨g,0,none⟩) l.length l.length,.int .i64 0])/\w.heap.size<=g/\w'.heap[g]? =some (.cells ((Xb l c).map Value.bool).toArray 4 (0,0))/\Below w.heap.size w w':=by
 have HR:=Qa.mk hr;have HR1:=Qa.mk hr1;have h32:=(Q0.1 hl).2.2;have hlI:(l.length:Int)<=32:=(by omega);have hlI2:decide ((128:Int)<(l.length:Int))=false:=decide_eq_false (by omega);have HO:=Qa.mk (fun k (hk:k<l.length)=>Za hl hk);have hoA:=Qa.mk (Ah hl);have HS:=Qa.mk (fun(k:Nat) (hk:k<l.length) (m:Nat) (hm:m<wd l k)=>Qcd hc hl hk hm);have HBL:=Qa.mk (fun(k:Nat) (hk:k<l.length)=>Zx hc hl hk);have hmk:=Lc (P:=Tryz.prog) 23 4 (.bool false) 1 Tryz.underlying23 Dv rfl (by decide) l.length (by omega);have hcL:=Qa.mk hc;clear hr hr1 hl h32 hc;go_enter Tryz.func30,Tryz.ntmps30;go_wp2_with fail;go_loopw [6,15] (fun s i wr=> ∃(k:Nat) (z:Int),i= .int .i64 k/\s= .int .i64 z/\k<=l.length/\0<=z/\z<=128/\Qa (z=(off l k:Nat))/\Qa (Below w.heap.size w wr)) (fun _ i _=>l.length-(intOf i).toNat)
 case atStart=>exact⟨0,0,rfl,rfl,by omega,by omega,by omega,⟨by simp[off]⟩,⟨Below.refl _ _⟩⟩
 case round=>
  obtain⟨k,z,rfl,rfl,hk,hz0,hz1,hz,hb⟩:=hrel;by_cases hlt:k<l.length
  ·obtain⟨ad,rfl,hcell⟩:=Qq HR.out hb.out hlt
   obtain⟨h1,h2,h3,h4⟩:=HO.out k hlt;have hzv:=hz.out;have hx:rd l k=((off l (k+1):Nat):Int)-z/\1<=rd l k/\rd l k<=128/\z+rd l k<=128:=(by omega);obtain⟨n,hn⟩: ∃n,n=rd l k:=⟨_,rfl⟩;rw[<-hn] at hx hcell;obtain⟨hx1,hx2,hx3,hx4⟩:=hx;have hx1':=Qa.mk hx1;have hkI:(k:Int)<(l.length:Int):=(by omega);clear h1 h2 h3 h4 hn hzv hz hx1;go_wp2_with fail;go_roundw
   case rel=>exact⟨k+1,z+n,by go_num,rfl,by omega,by omega,by omega,⟨by have:=hx1'.out;omega⟩,hb⟩
   case measure=>simp[intOf];omega
  ·obtain rfl:k=l.length:=by omega
   obtain rfl:z=128:=(by rw[hz.out,hoA.out];rfl);clear hz hz0 hz1;have hb':=hb;go_wp2_with fail;obtain⟨W1,hW1⟩: ∃W,W=wr.alloc (.cells (madeCells #[Value.bool false] l.length) 4):=⟨_,rfl⟩;have hB1:W1.heap[wr.heap.size]? =some (.cells ((Y8 l c 0 0).map Value.bool).toArray 4 (0,0)):=(by rw[hW1,Qce];exact bk_new wr _ _ false);have hb1:Below w.heap.size w W1:=(by rw[hW1];exact hb.out.alloc hb.out.size _);rw[<-hW1];have hg0:Qa (w.heap.size<=wr.heap.size):=⟨hb.out.size⟩;obtain⟨g,hg⟩: ∃g,g=wr.heap.size:=⟨_,rfl⟩;rw[<-hg] at hB1 hg0 ⊢;replace hB1:=Qa.mk hB1;replace hb1:=Qa.mk hb1;clear hW1 hg hb hmk;go_loopw [10,43] (fun s i wr=> ∃(k:Nat),i= .int .i64 k/\s= .int .i64 ((off l k:Nat):Int)/\k<=l.length/\Qa (wr.heap[g]? =some (.cells ((Y8 l c k 0).map Value.bool).toArray 4 (0,0)))/\Qa (Below w.heap.size w wr)) (fun _ i _=>l.length-(intOf i).toNat)
   case atStart=>exact⟨0,rfl,by simp[off],by omega,hB1,hb1⟩
   case round=>
    obtain⟨k,rfl,rfl,hk,hB,hb⟩:=hrel;by_cases hlt:k<l.length
    ·obtain⟨ad,rfl,hcell⟩:=Qq HR.out hb.out hlt
     obtain⟨h1,h2,h3,h4⟩:=HO.out k hlt;have hkI:(k:Int)<(l.length:Int):=(by omega);rw[h4] at hcell;have hbl:=HBL.out k hlt;have HN:=Qa.mk (Qcc (l:=l) (c:=c) (k:=k) (m:=wd l k) (by omega));have h1':=Qa.mk h1;obtain⟨n,hn⟩: ∃n,n=wd l k:=⟨_,rfl⟩;obtain⟨o,ho⟩: ∃o,o=off l k:=⟨_,rfl⟩;have hS:=HS.out k hlt;rw[<-hn] at hcell hS HN h1' h2 h3;rw[<-ho] at hS h1' h3 ⊢;replace hS:=Qa.mk hS;have hltk:=Qa.mk hlt;have ho':=Qa.mk ho;clear h1 h4 hbl hn ho;go_wp2_with fail;go_loopw [10,49] (fun s i wr=> ∃(m:Nat),i= .int .i64 m/\s= .int .i64 ((o+m:Nat):Int)/\m<=n/\Qa (wr.heap[g]? =some (.cells ((Y8 l c k m).map Value.bool).toArray 4 (0,0)))/\Qa (Below w.heap.size w wr)) (fun _ i _=>n-(intOf i).toNat)
     case atStart=>exact⟨0,rfl,rfl,by omega,hB,hb⟩
     case round=>
      obtain⟨m,rfl,rfl,hm,hB,hb⟩:=hrel;by_cases hlm:m<n
      ·have hom:o+m<128:=by omega
       obtain⟨ad,e1,c2⟩:=Qq HR1.out hb.out (k:=o+m) (by have:=hcL.out;omega);cases e1;have c1:=bk_cell hB.out (usedM_at (l:=l) (c:=c) (m:=m) hltk.out);have f1:=Ra hB.out k;have hst:=hS.out m hlm;have hmI:(m:Int)<(n:Int):=(by omega);obtain⟨x,hx⟩: ∃x,x=rd c (o+m:Nat):=⟨_,rfl⟩;rw[<-hx] at c2 hst;obtain⟨v,hv⟩: ∃v,v=((Zn c l k).take m).any fun v=>decide (v≠0):=⟨_,rfl⟩
       rw[<-hv] at c1 hst;have hkg:=Qa.mk (fun(u:Bool)=>bk_set hB.out k u);have hbs:=Qa.mk (fun(u:Bool)=>Below.setCell hb.out (p:=⟨g,k,none⟩) hg0.out (.bool u));clear hx hv hB hb;have hmn:Qa (m+1<=n):=⟨hlm⟩;have hmeas:Qa (m<n):=⟨hlm⟩;cases v
       ·by_cases hx0:x=0
        ·have hn0:(x != 0)=false:=by simp[hx0]
         rw[decide_eq_false (by simpa using hx0)] at hst;replace hst:=Qa.mk hst;clear hx0 hlm;go_wp2_with fail;go_roundw
         case rel=>exact⟨m+1,by go_num,by go_num,hmn.out,⟨by rw[hst.out];exact hkg.out false⟩,⟨hbs.out false⟩⟩
         case measure=>have:=hmeas.out;simp[intOf];omega
        ·have hn0:(x != 0)=true:=by simpa using hx0
         rw[decide_eq_true (by simpa using hx0)] at hst;replace hst:=Qa.mk hst;clear hx0 hlm;go_wp2_with fail;go_roundw
         case rel=>exact⟨m+1,by go_num,by go_num,hmn.out,⟨by rw[hst.out];exact hkg.out true⟩,⟨hbs.out true⟩⟩
         case measure=>have:=hmeas.out;simp[intOf];omega
       ·rw[Bool.true_or] at hst
        replace hst:=Qa.mk hst;clear hlm;go_wp2_with fail;go_roundw
        case rel=>exact⟨m+1,by go_num,by go_num,hmn.out,⟨by rw[hst.out];exact hkg.out true⟩,⟨hbs.out true⟩⟩
        case measure=>have:=hmeas.out;simp[intOf];omega
      ·obtain rfl:m=n:=by omega
       rw[HN.out] at hB;have hoo:o+m=off l (k+1):=(by rw[h1'.out]);rw[hoo];clear hoo;go_wp2_with fail;go_roundw
       case rel=>exact⟨k+1,by go_num,rfl,by omega,hB,hb⟩
       case measure=>simp[intOf];omega
    ·obtain rfl:k=l.length:=by omega
     rw[Qex] at hB;go_wp2_with fail;go_ret2;exact⟨g,rfl,hg0.out,hB.out,hb.out⟩
end Q21

namespace Rq
attribute [local go_sem] Qi Qj Qk Ql Qg Qh
open Q15 (bnx cnx X3)
abbrev It:=Int×Int
def kIt:Kd It:=Kd.pair (Kd.int .i64) (Kd.int .i64)
theorem Po:(Tryz.prog.info? 225).map (fun i=>(i.zero,i.size,i.bytes))=some (some (.agg #[.int .i64 0,.int .i64 0]),2,16):=by kernel_rfl
theorem kIt_K {w:World} {x:It} {cs:List Value} (h:kIt.K w x cs):cs=[.int .i64 x.1,.int .i64 x.2]:=by
 obtain⟨c0,c1,rfl,h0,h1⟩:=h;have h0':c0=[.int .i64 x.1]:=h0;have h1':c1=[.int .i64 x.2]:=h1;rw[h0',h1'];rfl
theorem kIt_M (w:World) (base:Nat) (ok:Nat->Prop) (x:It):kIt.M w base ok x [.int .i64 x.1,.int .i64 x.2]:=⟨[.int .i64 x.1],[.int .i64 x.2],rfl,rfl,rfl⟩
def it0:It:=(0,0)
theorem Ha {w W:World} {A:Option Addr} {xs:List It} (h:kIt.C w A xs.length xs) (hb:Below w.heap.size w W) {k:Nat} (hk:k<xs.length):
  ∃ad,A=some ad/\W.cell? (ad.add (k*2))=some (.int .i64 (xs.getD k it0).1)/\W.cell? (ad.add (k*2+1))=some (.int .i64 (xs.getD k it0).2):=by
 obtain⟨ad,c,e,_,hK,hc⟩:=Kd.Oi (Kd.Qe h hb) it0 k (by omega) (by omega);have hK2:kIt.K W (xs.getD k it0) c:=hK;have e2:=kIt_K hK2;subst e2;have h0:=hc 0 _ rfl;have h1:=hc 1 _ rfl;exact⟨ad,e,h0,h1⟩
def Q8:List It->List It
 |a::b::r=>(a.1+b.1,-1)::Q8 r
 |_=>[]
theorem Zq: ∀l:List It,(Q8 l).length =l.length/2
 |[]=>rfl
 |[_]=>by simp[Q8]
 |_::_::r=>by
  rw[Q8,List.length_cons,Zq r];simp only[List.length_cons];omega
theorem Qaj: ∀(l:List It) (k:Nat),2*k+1<l.length->(Q8 l)[k]? =some ((l.getD (2*k) it0).1+(l.getD (2*k+1) it0).1,-1)
 |[],k,h=>by simp at h
 |[_],k,h=>by simp at h
 |a::b::r,0,h=>rfl
 |a::b::r,k+1,h=>by
  simp only[List.length_cons] at h;rw[Q8,List.getElem?_cons_succ,Qaj r k (by omega),show 2*(k+1)=2*k+1+1 from by omega,show 2*k+1+1+1=2*k+1+1+1 from rfl];rfl
theorem Qb3 (l:List It) (k:Nat) (h:2*k+1<l.length):(Q8 l).take (k+1)=(Q8 l).take k++[((l.getD (2*k) it0).1+(l.getD (2*k+1) it0).1,-1)]:=by
 rw[List.take_add_one,Qaj l k h];rfl
def Wt (l:List It):Prop:= ∀x∈l,0<=x.1/\x.1<=4611686018427387903
theorem Wt.at {l:List It} (h:Wt l) {k:Nat} (hk:k<l.length):0<=(l.getD k it0).1/\(l.getD k it0).1<=4611686018427387903:=by
 rw[List.getD_eq_getElem?_getD,List.getElem?_eq_getElem hk];exact h _ (List.getElem_mem hk)
theorem Si (A:Option Addr) (cap:Nat) (l:List It) (w:World) (hr:kIt.C w A l.length l) (hl:l.length<=100000) (hw:Wt l):
  Calls Tryz.prog 236 #[.slice A l.length cap] w fun e w'=> ∃v,e= .returned v/\kIt.R 225 w' w.heap.size (fun _=>True) v (Q8 l)/\Below w.heap.size w w':=by
 have HR:=Qa.mk hr;have hlI:(l.length:Int)<=100000:=(by omega);have HW:=Qa.mk (fun(k:Nat) (hk:k<l.length)=>hw.at hk);have HT:=Qa.mk (fun(k:Nat) (hk:2*k+1<l.length)=>Qb3 l k hk);have HL:=Qa.mk (Zq l);have hmo:=Qa.mk (show Tryz.prog.follows .mixedOrders =true by kernel_rfl);clear hr hw;go_enter Tryz.func236,Tryz.ntmps236;go_wp2_with fail;go_loopw [3,4] (fun o i wr=> ∃k j:Nat,i= .int .i64 j/\Qa (j=2*k)/\j<=l.length/\Qa (kIt.R 225 wr w.heap.size (fun _=>True) o ((Q8 l).take k))/\Qa (Below w.heap.size w wr)) (fun _ i _=>l.length-(intOf i).toNat)
 case atStart=>exact⟨0,0,rfl,⟨rfl⟩,by omega,⟨Kd.Xd _ _ _ _ _⟩,⟨Below.refl _ _⟩⟩
 case round=>
  obtain⟨k,j,rfl,hj2,hj,ho,hbL⟩:=hrel;by_cases hlt:j+1<l.length
  ·obtain⟨ad,rfl,c1,-⟩:=Ha HR.out hbL.out (k:=j) (by omega)
   obtain⟨ad',e',c2,-⟩:=Ha HR.out hbL.out (k:=j+1) hlt;cases e';have hjI:(j:Int)+1<(l.length:Int):=(by omega);have hjI0:(j:Int)<(l.length:Int):=(by omega);have b1:=HW.out j (by omega);have b2:=HW.out (j+1) hlt;have ht:=HT.out k (by have:=hj2.out;omega);rw[show 2*k=j from hj2.out.symm] at ht;obtain⟨x,hx⟩: ∃x,x=(l.getD j it0).1:=⟨_,rfl⟩;obtain⟨y,hy⟩: ∃y,y=(l.getD (j+1) it0).1:=⟨_,rfl⟩;rw[<-hx] at b1 c1 ht;rw[<-hy] at b2 c2 ht;obtain⟨q,hqe⟩: ∃q,q=(Q8 l).take k:=⟨_,rfl⟩
   have hql:q.length<=100000:=by
    have:=HL.out;rw[hqe,List.length_take];omega
   rw[<-hqe] at ho ht;have h20:IntKind.i64.wrap ((j:Int)+1)=((j+1:Nat):Int):=(by rw[IntWalk.i64_in _ (by omega)];rfl);have hlen:Qa ((q.length+1)*16<=140737488355328):=⟨by omega⟩;have hn1:((j+1:Nat):Int)<(l.length:Int):=(by omega);obtain⟨n,hn⟩: ∃n,n=j+1:=⟨_,rfl⟩;rw[<-hn] at c2 h20 hn1;obtain⟨z,hz⟩: ∃z,z=x+y:=⟨_,rfl⟩;have hsum:IntKind.i64.wrap (x+y)=z:=(by rw[hz];exact IntWalk.i64_in _ (by omega));rw[<-hz] at ht;replace ht:=Qa.mk ht;replace hn:=Qa.mk hn;clear hx hy hqe hql b1 b2 hz;go_wp2_with fail;refine Qr (S:=fun w'=>w'.cell? (ad.add (j*2))=some (.int .i64 x)/\w'.cell? (ad.add (n*2))=some (.int .i64 y)) (ds:=[16]) hmo.out ⟨c1,c2⟩ (fun hHeld=> ?_)
   (refine Tk.tl 0 (u3) hHeld ?_)
   (refine Tk.tl 1 (.slice (some ad) l.length cap) hHeld ?_)
   (refine Tk.tl 2 (.int .i64 j) hHeld ?_)
   (refine Tk.tl 3 (.pointer (some (ad.add (j*2)))) hHeld ?_)
   (refine Tk.tl 4 (.pointer (some (ad.add (j*2)))) hHeld ?_)
   (refine Tk.tl 5 (.int .i64 x) hHeld ?_)
   (refine Tk.tl 6 (.slice (some ad) l.length cap) hHeld ?_)
   (refine Tk.tl 7 (.int .i64 j) hHeld ?_)
   (refine Tk.tl 8 (.int .i64 n) hHeld ?_)
   (refine Tk.tl 9 (.pointer (some (ad.add (n*2)))) hHeld ?_)
   (refine Tk.tl 10 (.pointer (some (ad.add (n*2)))) hHeld ?_)
   (refine Tk.tl 11 (.int .i64 y) hHeld ?_)
   (refine Tk.tl 12 (.int .i64 z) hHeld ?_)
   (refine Tk.tl 13 (.agg #[.int .i64 z,.int .i64 (-1)]) hHeld ?_)
   (refine Qd (rs:=[14]) (by kernel_rfl) (by simp) ?_;refine Qc.cons rfl (by decide) (fun K hK=> ?_) Qc.nil)
   go_simp;have hdr:Below wr.heap.size wr wr.drew:=(Below.refl _ _).drew;have HRd:=Kd.Qw ho.out hdr;have hBd:=bnx hbL.out hdr;have d1:=cnx c1 hdr;have d2:=cnx c2 hdr
   (go_wp2_with fail;refine hK.out _ _ (⟨X3 _ hHeld.1,X3 _ hHeld.2⟩) (fun hHeld=> ?_);clear hK K;try simp only[Act.put,Tk.z1,Tk.z2,Tk.z3,Tk.z4,Tk.z5,Tk.z6])
   (refine Qd (rs:=[15]) (by kernel_rfl) (by simp) ?_;refine Qc.cons rfl (by decide) (fun K hK=> ?_) Qc.nil)
   refine Kd.Tc kIt (w0:=w) w.heap.size rfl (.tmp 12) (.tmp 26) 223 225 (.agg #[.int .i64 0,.int .i64 0]) 16 rfl Tryz.underlying223 Po rfl (by decide) (by decide) u3 q (z,-1) [.int .i64 z,.int .i64 (-1)] (fun _=>True) (fun _=>False) rfl rfl (kIt_M _ _ _ _) (fun _ hk=>hk.elim) (fun _ _=>trivial) HRd hBd hBd.size hlen.out ?_;intro v1 w9 hR9 hB9 hg9 hat9
   have hlo:ad.block<w.heap.size:=by
    obtain⟨ad5,e5,h5,-⟩:=Ha HR.out (Below.refl _ _) (k:=j) (by omega);cases e5;simpa only[add_block] using World.block_lt_of_cell? _ _ h5
   have hne:some ad.block≠u3.ownBlock:=fun e=>by
    have h1:=((Kd.Q9 HRd).1 _ e.symm).2.1;omega
   have f1:w9.cell? (ad.add (j*2))=some (.int .i64 x):=hg9.cell d1 (by rw[add_block];exact hne);have f2:w9.cell? (ad.add (n*2))=some (.int .i64 y):=hg9.cell d2 (by rw[add_block];exact hne);replace hR9:=Qa.mk hR9;replace hB9:=Qa.mk hB9;clear hg9 hat9 HRd hBd hHeld d1 d2 c1 c2 hne hlo
   (go_wp2_with fail;refine hK.out _ _ (⟨f1,f2⟩) (fun hHeld=> ?_);clear hK K;try simp only[Act.put,Tk.z1,Tk.z2,Tk.z3,Tk.z4,Tk.z5,Tk.z6])
   (refine Qd (rs:=[16]) (by kernel_rfl) (by simp) ?_;refine Qc.Zp rfl (by decide) (fun K hK=> ?_) Qc.nil)
   go_simp;go_wp2_with fail;refine hK.out _ _ ?_;clear hK K
   try simp only[Act.put,List.setIfInBounds_toArray,List.set_cons_zero,List.set_cons_succ]
   refine Qo (by kernel_rfl) ?_ _;have h40:IntKind.i64.wrap ((j:Int)+2)=((j+2:Nat):Int):=(by rw[IntWalk.i64_in _ (by omega)];rfl);go_wp2_with fail;go_roundw
   case rel=>exact⟨k+1,j+2,rfl,⟨by have:=hj2.out;omega⟩,by omega,⟨by rw[ht.out];exact hR9.out⟩,hB9⟩
   case measure=>simp[intOf];omega
  ·have hjI: ¬(j:Int)+1<(l.length:Int):=by omega
   have h20:IntKind.i64.wrap ((j:Int)+1)=(j:Int)+1:=IntWalk.i64_in _ (by omega);have hall:(Q8 l).take k=Q8 l:=List.take_of_length_le (by have:=HL.out;have:=hj2.out;omega);rw[hall] at ho;clear hall;go_wp2_with fail;go_ret;exact⟨_,rfl,ho.out,hbL.out⟩
end Rq

end Go.Proofs.YtnflnicdjioflaaGreatDoor
