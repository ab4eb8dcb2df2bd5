/- A part of the proof. -/
import Derived.Test.YtnflnicdjioflaaGreatDoorSxaf
set_option linter.unusedVariables false
set_option linter.unusedSimpArgs false
set_option maxRecDepth 100000
set_option maxHeartbeats 8000000
namespace Go.Proofs.YtnflnicdjioflaaGreatDoor
open Go.RowKit Go.Proofs.YtnflnicdjioflaaGreatDoorW.PrintWords Go.Proofs.YtnflnicdjioflaaGreatDoorW.PrintLast Go.Proofs.YtnflnicdjioflaaGreatDoorW.PrintMore
namespace Bts
attribute [local go_sem] Qh Qi Qk Ql Qd Qe
open Q15 (cnx bnx)
open Q21 (Qb Qj)
theorem Bv:(Tryz.prog.info? 5).map (fun i=>(i.zero,i.size,i.bytes))=some (some (.int .u8 0),1,1):=by kernel_rfl
def Wr (w:World) (base p:Nat) (q:Option Nat) (l:List Int):Prop:=
 ∃v,w.heap[p]? =some (.cells #[v,.int .i64 l.length] 109 (0,0))/\(Kd.int .u8).R 5 w base (fun _=>True) v (Q8 l)/\q=v.ownBlock/\Uv l/\base<=p/\l.length<=1048576
def WrP (base p:Nat) (q:Option Nat) (l:List Int) (w w':World):Prop:= ∃q',Wr w' base p q' l/\(q'=q\/ ∃g,q'=some g/\w.heap.size<=g)/\Kp p q w w'
theorem Wr.Ni {w:World} {base p:Nat} {q:Option Nat} {l:List Int} (h:Wr w base p q l): ∀k,q=some k->base<=k/\k<w.heap.size:=fun k hk=>by
 obtain⟨v,_,hR,hq,_⟩:=h;have:=(Kd.Zd hR).1 k (by rw[<-hq,hk]);exact⟨this.2.1,this.2.2.1⟩
theorem Wr.plt {w:World} {base p:Nat} {q:Option Nat} {l:List Int} (h:Wr w base p q l):p<w.heap.size:=by
 obtain⟨v,hb,_⟩:=h;exact Qr hb
theorem Wr.base {w:World} {base p:Nat} {q:Option Nat} {l:List Int} (h:Wr w base p q l):base<=p:=by
 obtain⟨v,_,_,_,_,h,_⟩:=h;exact h
theorem WrP.refl {w:World} {base p:Nat} {q:Option Nat} {l:List Int} (h:Wr w base p q l):WrP base p q l w w:=⟨q,h,.inl rfl,Kp.refl _ _ _⟩
theorem WrP.trans {w w1 w2:World} {base p:Nat} {q q1:Option Nat} {l:List Int} (hk:Kp p q w w1) (hq:q1=q\/ ∃g,q1=some g/\w.heap.size<=g) (h2:WrP base p q1 l w1 w2):WrP base p q l w w2:=by
 obtain⟨q2,hw,hq2,hk2⟩:=h2;refine⟨q2,hw,?_,hk.trans hk2 hq⟩;rcases hq2 with e|⟨g,e,hg⟩
 ·rw[e]
  exact hq
 ·exact .inr ⟨g,e,Nat.le_trans hk.size hg⟩
theorem Qdo (base p:Nat) (q:Option Nat) (l:List Int) (b:Int) (w:World) (hw:Wr w base p q l) (hb:b=0\/b=1) (hl:l.length+1<=1048576):
  Calls Tryz.prog 183 #[.pointer (some ⟨p,0,none⟩),.int .i64 b] w fun e w'=>e= .returned (.tuple #[])/\WrP base p q (l++[b]) w w':=by
 obtain⟨v,hB,hR,hq,hbits,hbp,hlen⟩:=hw;have hmo:=Qa.mk (show Tryz.prog.follows .mixedOrders =true by kernel_rfl);have k0:w.cell? ⟨p,0,none⟩=some v:=(by rw[Qb hB];rfl);have k1:w.cell? ⟨p,1,none⟩=some (.int .i64 l.length):=(by rw[Qb hB];rfl);have f0:=Qj hB 0;have f1:=Qj hB 1;have hlI:(l.length:Int)<=2000000:=(by omega);have hne:some p≠v.ownBlock:=Kd.R_ne hR hB (by decide);obtain⟨A,c,rfl⟩: ∃A c,v= .slice A (Q8 l).length c:=Kd.Jm hR;by_cases h8:l.length%8=0
 ·have t1:((l.length:Int)%8==0)=true:=by rw[beq_iff_eq];omega
  have hbl:=Qa.mk hbits;replace hR:=Qa.mk hR;replace hB:=Qa.mk hB;replace h8:=Qa.mk h8;replace hq:=Qa.mk hq;replace hne:=Qa.mk hne;have hnl:Qa (((Q8 l).length +1)*1<=140737488355328):=⟨by rw[Zp];omega⟩;replace hl:=Qa.mk hl;clear hbits hlen;have hbs:Qa (base<=w.heap.size):=⟨by have:=Qr hB.out;omega⟩;replace k1:=Qa.mk k1;go_enter Tryz.func183,Tryz.ntmps183;have k1':=k1.out;go_wp2_with (first|(at_builtin;refine Kd.Q3 (Kd.int .u8) (w0:=w) base rfl (.tmp 14) (.tmp 15) 107 5 (.int .u8 0) 1 rfl Tryz.underlying107 Bv rfl (by decide) (by decide) (.slice A (Q8 l).length c) (Q8 l) 0 [.int .u8 0] (fun _=>True) (fun _=>False) rfl rfl rfl (fun _ hk=>hk.elim) (fun _ _=>trivial) hR.out (Below.refl _ _) hbs.out hnl.out ?_;intro v1 wA hoA hbA hgA hatA;have hqA:=Qa.mk hatA;clear hatA hbA;have hBA:=(hgA.block p (Qr hB.out) hne.out).trans hB.out;replace hgA:=Qa.mk hgA;clear k0 f0 f1 k1';have k0:wA.cell? ⟨p,0,none⟩=some (.slice A (Q8 l).length c):=(by rw[Qb hBA];rfl);have f0:=Qj hBA 0;have k1':wA.cell? ⟨p,1,none⟩=some (.int .i64 l.length):=(by rw[Qb hBA];rfl);have hslA:=Qbe hoA (by simp);obtain⟨g,c1,rfl⟩:=hslA;replace hoA:=Qa.mk hoA;replace hBA:=Qa.mk hBA));have hml:Qa ((Q8 l++[0]).length =(Q8 l).length +1):=⟨by simp⟩;rw[hml.out] at hoA;go_wp2_with fail;obtain⟨m,hm⟩: ∃m,m=(Q8 l).length +1:=⟨_,rfl⟩;rw[<-hm] at hoA ⊢;obtain⟨W2,hW2⟩: ∃W2,W2=wA.setCell ⟨p,0,none⟩ (.slice (some ⟨g,0,none⟩) m c1):=⟨_,rfl⟩;rw[<-hW2];have hB2:W2.heap[p]? =some (.cells #[.slice (some ⟨g,0,none⟩) m c1,.int .i64 l.length] 109 (0,0)):=(by rw[hW2];exact Q9 hBA.out 0 _);have hR2:(Kd.int .u8).R 5 W2 base (fun _=>True) (.slice (some ⟨g,0,none⟩) m c1) (Q8 l++[0]):=by rw[hW2];exact Kd.Yn hoA.out hBA.out (by decide) 0 _
  have hqg:Qa (q=some g\/w.heap.size<=g):=⟨by
   rcases hqA.out with e|⟨b0,e,hle⟩
   ·exact .inl (by rw[hq.out,<-e];rfl)
   ·have:some g=some b0:=e
    cases this
    exact .inr hle⟩
  have hK2:Kp p q w W2:=by rw[hW2,hq.out];exact(Kp.of_grown hgA.out p).Dj 0 _
  have hV:Qa ((Q8 l++[0]).set (l.length/8) (Xq l (l.length/8)+b*2^(7-l.length%8))=Q8 (l++[b])):=⟨by
   rw[Qej b h8.out,List.set_append_right _ _ (by rw[Zp];have:=h8.out;omega),Zp];have e0:Xq l (l.length/8)=0:=(by unfold Xq;rw[Yx (l:=l) _ 0 8 (by omega) (by have:=h8.out;omega)];rfl);have e1:l.length/8-(l.length+7)/8=0:=(by have:=h8.out;omega);rw[e0,e1,h8.out]
   simp⟩
  obtain⟨V,hVe⟩: ∃V,V=Q8 l++[0]:=⟨_,rfl⟩;rw[<-hVe] at hR2 hV;have e0:Xq l (l.length/8)=0:=by unfold Xq;rw[Yx (l:=l) _ 0 8 (by omega) (by have:=h8.out;omega)];rfl
  have hx:rd V (l.length/8:Nat)=Xq l (l.length/8):=by
   rw[e0,hVe];have e1:l.length/8=(Q8 l).length :=(by rw[Zp];have:=h8.out;omega);simp[rd,e1]
  have hix:l.length/8<m:=(by rw[hm,Zp];have:=h8.out;omega);have hlo: ∃a:Int,Xq l (l.length/8)=a*2^(8-l.length%8)/\0<=a/\a<=2^(l.length%8)-1:=⟨0,by rw[e0];simp,by omega,by rw[h8.out];simp⟩;clear e0;clear k0 k1' f0 hW2 hoA hBA hgA hVe hml hm;have k0:W2.cell? ⟨p,0,none⟩=some (.slice (some ⟨g,0,none⟩) m c1):=(by rw[Qb hB2];rfl);have k1':W2.cell? ⟨p,1,none⟩=some (.int .i64 l.length):=(by rw[Qb hB2];rfl);have k2:=(Kd.H5 0 hR2 (l.length/8:Nat) (by omega) (by omega)).1;have f2:=(Kd.H5 0 hR2 (l.length/8:Nat) (by omega) (by omega)).2;rw[Int.toNat_natCast] at k2 f2;have hxo:rdOf 0 V ((l.length/8:Nat):Int)=Xq l (l.length/8):=(by rw[<-hx];rfl);rw[hxo] at k2;obtain⟨x,hxe⟩: ∃x,x=Xq l (l.length/8):=⟨_,rfl⟩;rw[<-hxe] at k2 hlo hx hV;obtain⟨j,hj⟩: ∃j,j=l.length/8:=⟨_,rfl⟩;obtain⟨r,hr⟩: ∃r,r=l.length%8:=⟨_,rfl⟩;have hq8:(l.length:Int)/8=(j:Int):=(by omega);have hr8:(l.length:Int)%8=(r:Int):=(by omega);have hq9:(l.length:Int).tdiv 8=(j:Int):=(by rw[Int.tdiv_eq_ediv_of_nonneg (by omega)];exact hq8);have hr9:(l.length:Int).tmod 8=(r:Int):=(by rw[Int.tmod_eq_emod_of_nonneg (by omega)];exact hr8);have hrI:(r:Int)<8:=(by omega);rw[<-hj] at k2 f2 hV hix;rw[<-hr] at hlo hV;have hixI:(j:Int)<(m:Int):=(by omega);have h7r:(7:Int)-(r:Int)=((7-r:Nat):Int):=(by omega);obtain⟨sh,hsh⟩: ∃sh,sh=7-r:=⟨_,rfl⟩;rw[<-hsh] at h7r hV;have hshI:(sh:Int)<=7:=by omega
  have hp2:(2:Int)^sh<=128:=by
   have h1:2^sh<=2^7:=Nat.pow_le_pow_right (by omega) (by omega);have h2:((2^sh:Nat):Int)=2^sh:=(by simp);omega
  have hp0:(0:Int)<2^sh:=Int.pow_pos (by omega);obtain⟨y,hy⟩: ∃y,b*2^sh=y:=⟨_,rfl⟩;have hyb:0<=y/\y<=128:=(by rw[<-hy];rcases hb with e|e<;>rw[e]<;>omega);have hjw:IntKind.i64.wrap (j:Int)=j:=IntWalk.i64_in _ (by have:=hl.out;omega);have hsw:IntKind.i64.wrap (sh:Int)=sh:=IntWalk.i64_in _ (by omega);have hyw:IntKind.i64.wrap y=y:=IntWalk.i64_in _ (by omega);have hyw8:IntKind.u8.wrap y=y:=IntWalk.u8_in _ (by omega);obtain⟨nv,hnv⟩: ∃nv,nv=x+y:=⟨_,rfl⟩
  have hor:bits .or .u8 x y=nv:=by
   obtain⟨a,e,a0,a1⟩:=hlo;have h:=Qc6 a b r (by omega) a0 a1 hb;rw[<-hsh] at h;rw[e,hnv,<-hy,e];exact h
  rw[hy,<-hnv] at hV;replace hnv:=Qa.mk hnv;clear hp2 hp0 hyb;replace hj:=Qa.mk hj;replace hr:=Qa.mk hr;replace hsh:=Qa.mk hsh;replace hxe:=Qa.mk hxe;replace hlo:=Qa.mk hlo;replace hB2:=Qa.mk hB2;replace hR2:=Qa.mk hR2;replace hK2:=Qa.mk hK2;have hb':=Qa.mk hb;clear hx hxo hix hlI hb t1;go_wp2_with fail;refine Qt (S:=fun w'=>w'.cell? ⟨p,0,none⟩=some (.slice (some ⟨g,0,none⟩) m c1)/\w'.cell? ⟨p,1,none⟩=some (.int .i64 l.length)/\w'.cell? ⟨g,j,none⟩=some (.int .u8 x)) (ds:=[22]) hmo.out ⟨k0,k1',k2⟩ (fun hHeld=> ?_)
  (refine Tk.tl 0 (.pointer (some ⟨p,0,none⟩)) hHeld ?_)
  (refine Tk.tl 1 (.pointer (some ⟨p,0,none⟩)) hHeld ?_)
  (refine Tk.tl 2 (.pointer (some ⟨p,0,none⟩)) hHeld ?_)
  (refine Tk.tl 3 (.slice (some ⟨g,0,none⟩) m c1) hHeld ?_)
  (refine Tk.tl 4 (.pointer (some ⟨p,0,none⟩)) hHeld ?_)
  (refine Tk.tl 5 (.pointer (some ⟨p,0,none⟩)) hHeld ?_)
  (refine Tk.tl 6 (.pointer (some ⟨p,1,none⟩)) hHeld ?_)
  (refine Tk.tl 7 (.int .i64 l.length) hHeld ?_)
  (refine Tk.tl 8 (.int .i64 j) hHeld ?_)
  (refine Tk.tl 9 (.pointer (some ⟨g,j,none⟩)) hHeld ?_)
  (refine Tk.tl 10 (.int .u8 x) hHeld ?_)
  (refine Tk.tl 11 (.int .i64 b) hHeld ?_)
  (refine Tk.tl 12 (.pointer (some ⟨p,0,none⟩)) hHeld ?_)
  (refine Tk.tl 13 (.pointer (some ⟨p,0,none⟩)) hHeld ?_)
  (refine Tk.tl 14 (.pointer (some ⟨p,1,none⟩)) hHeld ?_)
  (refine Tk.tl 15 (.int .i64 l.length) hHeld ?_)
  (refine Tk.tl 16 (.int .i64 r) hHeld ?_)
  (refine Tk.tl 17 (.int .i64 sh) hHeld ?_)
  (refine Tk.tl 18 (.int .i64 y) hHeld ?_)
  (refine Tk.tl 19 (.int .u8 y) hHeld ?_)
  (refine Tk.tl 20 (.int .u8 nv) hHeld ?_)
  (refine Tk.tl 21 (.pointer (some ⟨g,j,none⟩)) hHeld ?_)
  (refine Qg (rs:=[22]) (by kernel_rfl) (by simp) ?_;refine Qc.Zl rfl (by decide) (fun K hK=> ?_) Qc.nil)
  go_simp;go_wp2_with fail;refine hK.out _ _ ?_;clear hK K
  try simp only[Act.put,List.setIfInBounds_toArray,List.set_cons_zero,List.set_cons_succ]
  refine Qq (by kernel_rfl) ?_ _;obtain⟨W3,hW3⟩: ∃W3,W3=(W2.setCell ⟨g,j,none⟩ (.int .u8 nv)).drew :=⟨_,rfl⟩;rw[<-hW3];have hgp:p≠g:=fun e=>Kd.R_ne hR2.out hB2.out (by decide) (by rw[e];rfl)
  have hB3:W3.heap[p]? =some (.cells #[.slice (some ⟨g,0,none⟩) m c1,.int .i64 l.length] 109 (0,0)):=by rw[hW3];exact X4 hB2.out (p:=⟨g,j,none⟩) hgp _
  have hR3:(Kd.int .u8).R 5 W3 base (fun _=>True) (.slice (some ⟨g,0,none⟩) m c1) (V.set j nv):=by
   have h:=Kd.Qbd hR2.out (j:Int) nv;rw[Int.toNat_natCast] at h;rw[hW3];exact h
  have hK3:Kp p q w W3:=(by rw[hW3];exact(hK2.out.setQ hqg.out j _).drew);have e1:W3.cell? ⟨p,1,none⟩=some (.int .i64 l.length):=(by rw[Qb hB3];rfl);have g1:=Qj hB3 1;rw[hV.out] at hR3;have hE:=Qa.mk (And.intro hB3 (And.intro hR3 hK3));have hnI:(l.length:Int)<=2000000:=(by have:=hl.out;omega);clear hB3 hR3 hK3 hW3 hHeld k0 k1' k2 f2 hq8 hr8 hq9 hr9 hjw hsw hyw hyw8 hor h7r hy;go_wp2_with fail;go_end0;obtain⟨hB3,hR3,hK3⟩:=hE.out;have h1:=Q9 hB3 1 (.int .i64 ((l.length:Int)+1));refine⟨rfl,some g,⟨.slice (some ⟨g,0,none⟩) m c1,?_,Kd.Yn hR3 hB3 (by decide) 1 _,rfl,Rk hbl.out (Rl hb'.out),hbp,by simpa using hl.out⟩,hqg.out.imp (fun e=>e.symm) (fun h=>⟨g,rfl,h⟩),hK3.Dj 1 _⟩;rw[h1];simp
 ·have t1:((l.length:Int)%8==0)=false:=by rw[beq_eq_false_iff_ne];omega
  have hbl:=Qa.mk hbits;replace hl:=Qa.mk hl;have hm0:0<(Q8 l).length :=(by rw[Zp];omega);obtain⟨g,c9,hAe⟩:=Qbe hR hm0
  injection hAe with hAe1 hAe2 hAe3
  subst hAe1;subst hAe3;have hqg:Qa (q=some g\/w.heap.size<=g):=⟨.inl hq⟩;have hV:Qa ((Q8 l).set (l.length/8) (Xq l (l.length/8)+b*2^(7-l.length%8))=Q8 (l++[b])):=⟨(packL_in b h8).symm⟩;have hx:rd (Q8 l) (l.length/8:Nat)=Xq l (l.length/8):=rd_packL (by omega);have hlo:=Qbk hbits h8;obtain⟨W2,hW2⟩: ∃W2,W2=w:=⟨_,rfl⟩;have hB2:=hB;have hR2:=hR;have hK2:=Kp.refl p q w;obtain⟨m,hm⟩: ∃m,m=(Q8 l).length :=⟨_,rfl⟩;have hix:l.length/8<m:=(by rw[hm,Zp];omega);rw[<-hm] at hR2 hB2 k0;clear hbits hlen hne hm0 hq k0 k1 f0 f1 hB hR h8;go_enter Tryz.func183,Tryz.ntmps183;rw[<-hW2];have hB3:W2.heap[p]? =some (.cells #[.slice (some ⟨g,0,none⟩) m c,.int .i64 l.length] 109 (0,0)):=(by rw[hW2];exact hB2);have hR3:(Kd.int .u8).R 5 W2 base (fun _=>True) (.slice (some ⟨g,0,none⟩) m c) (Q8 l):=(by rw[hW2];exact hR2);have hK3:Kp p q w W2:=(by rw[hW2];exact hK2);clear hB2 hR2 hK2;have hB2:=hB3;have hR2:=hR3;have hK2:=hK3;clear hB3 hR3 hK3;have k1'':W2.cell? ⟨p,1,none⟩=some (.int .i64 l.length):=(by rw[Qb hB2];rfl);replace hx:=Qa.mk hx;replace hlo:=Qa.mk hlo;replace hW2:=Qa.mk hW2;replace hm:=Qa.mk hm;replace hix:=Qa.mk hix;go_wp2_with fail;replace hx:=hx.out;replace hlo:=hlo.out;replace hix:=hix.out;obtain⟨V,hVe⟩: ∃V,V=Q8 l:=⟨_,rfl⟩;rw[<-hVe] at hR2 hV hx;clear k1'' hVe hm;have k0:W2.cell? ⟨p,0,none⟩=some (.slice (some ⟨g,0,none⟩) m c):=(by rw[Qb hB2];rfl);have k1':W2.cell? ⟨p,1,none⟩=some (.int .i64 l.length):=(by rw[Qb hB2];rfl);have k2:=(Kd.H5 0 hR2 (l.length/8:Nat) (by omega) (by omega)).1;have f2:=(Kd.H5 0 hR2 (l.length/8:Nat) (by omega) (by omega)).2;rw[Int.toNat_natCast] at k2 f2;have hxo:rdOf 0 V ((l.length/8:Nat):Int)=Xq l (l.length/8):=(by rw[<-hx];rfl);rw[hxo] at k2;obtain⟨x,hxe⟩: ∃x,x=Xq l (l.length/8):=⟨_,rfl⟩;rw[<-hxe] at k2 hlo hx hV;obtain⟨j,hj⟩: ∃j,j=l.length/8:=⟨_,rfl⟩;obtain⟨r,hr⟩: ∃r,r=l.length%8:=⟨_,rfl⟩;have hq8:(l.length:Int)/8=(j:Int):=(by omega);have hr8:(l.length:Int)%8=(r:Int):=(by omega);have hq9:(l.length:Int).tdiv 8=(j:Int):=(by rw[Int.tdiv_eq_ediv_of_nonneg (by omega)];exact hq8);have hr9:(l.length:Int).tmod 8=(r:Int):=(by rw[Int.tmod_eq_emod_of_nonneg (by omega)];exact hr8);have hrI:(r:Int)<8:=(by omega);rw[<-hj] at k2 f2 hV hix;rw[<-hr] at hlo hV;have hixI:(j:Int)<(m:Int):=(by omega);have h7r:(7:Int)-(r:Int)=((7-r:Nat):Int):=(by omega);obtain⟨sh,hsh⟩: ∃sh,sh=7-r:=⟨_,rfl⟩;rw[<-hsh] at h7r hV;have hshI:(sh:Int)<=7:=by omega
  have hp2:(2:Int)^sh<=128:=by
   have h1:2^sh<=2^7:=Nat.pow_le_pow_right (by omega) (by omega);have h2:((2^sh:Nat):Int)=2^sh:=(by simp);omega
  have hp0:(0:Int)<2^sh:=Int.pow_pos (by omega);obtain⟨y,hy⟩: ∃y,b*2^sh=y:=⟨_,rfl⟩;have hyb:0<=y/\y<=128:=(by rw[<-hy];rcases hb with e|e<;>rw[e]<;>omega);have hjw:IntKind.i64.wrap (j:Int)=j:=IntWalk.i64_in _ (by have:=hl.out;omega);have hsw:IntKind.i64.wrap (sh:Int)=sh:=IntWalk.i64_in _ (by omega);have hyw:IntKind.i64.wrap y=y:=IntWalk.i64_in _ (by omega);have hyw8:IntKind.u8.wrap y=y:=IntWalk.u8_in _ (by omega);obtain⟨nv,hnv⟩: ∃nv,nv=x+y:=⟨_,rfl⟩
  have hor:bits .or .u8 x y=nv:=by
   obtain⟨a,e,a0,a1⟩:=hlo;have h:=Qc6 a b r (by omega) a0 a1 hb;rw[<-hsh] at h;rw[e,hnv,<-hy,e];exact h
  rw[hy,<-hnv] at hV;replace hnv:=Qa.mk hnv;clear hp2 hp0 hyb;replace hj:=Qa.mk hj;replace hr:=Qa.mk hr;replace hsh:=Qa.mk hsh;replace hxe:=Qa.mk hxe;replace hlo:=Qa.mk hlo;replace hB2:=Qa.mk hB2;replace hR2:=Qa.mk hR2;replace hK2:=Qa.mk hK2;have hb':=Qa.mk hb;clear hx hxo hix hlI hb t1;go_wp2_with fail;refine Qt (S:=fun w'=>w'.cell? ⟨p,0,none⟩=some (.slice (some ⟨g,0,none⟩) m c)/\w'.cell? ⟨p,1,none⟩=some (.int .i64 l.length)/\w'.cell? ⟨g,j,none⟩=some (.int .u8 x)) (ds:=[22]) hmo.out ⟨k0,k1',k2⟩ (fun hHeld=> ?_)
  (refine Tk.tl 0 (.pointer (some ⟨p,0,none⟩)) hHeld ?_)
  (refine Tk.tl 1 (.pointer (some ⟨p,0,none⟩)) hHeld ?_)
  (refine Tk.tl 2 (.pointer (some ⟨p,0,none⟩)) hHeld ?_)
  (refine Tk.tl 3 (.slice (some ⟨g,0,none⟩) m c) hHeld ?_)
  (refine Tk.tl 4 (.pointer (some ⟨p,0,none⟩)) hHeld ?_)
  (refine Tk.tl 5 (.pointer (some ⟨p,0,none⟩)) hHeld ?_)
  (refine Tk.tl 6 (.pointer (some ⟨p,1,none⟩)) hHeld ?_)
  (refine Tk.tl 7 (.int .i64 l.length) hHeld ?_)
  (refine Tk.tl 8 (.int .i64 j) hHeld ?_)
  (refine Tk.tl 9 (.pointer (some ⟨g,j,none⟩)) hHeld ?_)
  (refine Tk.tl 10 (.int .u8 x) hHeld ?_)
  (refine Tk.tl 11 (.int .i64 b) hHeld ?_)
  (refine Tk.tl 12 (.pointer (some ⟨p,0,none⟩)) hHeld ?_)
  (refine Tk.tl 13 (.pointer (some ⟨p,0,none⟩)) hHeld ?_)
  (refine Tk.tl 14 (.pointer (some ⟨p,1,none⟩)) hHeld ?_)
  (refine Tk.tl 15 (.int .i64 l.length) hHeld ?_)
  (refine Tk.tl 16 (.int .i64 r) hHeld ?_)
  (refine Tk.tl 17 (.int .i64 sh) hHeld ?_)
  (refine Tk.tl 18 (.int .i64 y) hHeld ?_)
  (refine Tk.tl 19 (.int .u8 y) hHeld ?_)
  (refine Tk.tl 20 (.int .u8 nv) hHeld ?_)
  (refine Tk.tl 21 (.pointer (some ⟨g,j,none⟩)) hHeld ?_)
  (refine Qg (rs:=[22]) (by kernel_rfl) (by simp) ?_;refine Qc.Zl rfl (by decide) (fun K hK=> ?_) Qc.nil)
  go_simp;go_wp2_with fail;refine hK.out _ _ ?_;clear hK K
  try simp only[Act.put,List.setIfInBounds_toArray,List.set_cons_zero,List.set_cons_succ]
  refine Qq (by kernel_rfl) ?_ _;obtain⟨W3,hW3⟩: ∃W3,W3=(W2.setCell ⟨g,j,none⟩ (.int .u8 nv)).drew :=⟨_,rfl⟩;rw[<-hW3];have hgp:p≠g:=fun e=>Kd.R_ne hR2.out hB2.out (by decide) (by rw[e];rfl)
  have hB3:W3.heap[p]? =some (.cells #[.slice (some ⟨g,0,none⟩) m c,.int .i64 l.length] 109 (0,0)):=by rw[hW3];exact X4 hB2.out (p:=⟨g,j,none⟩) hgp _
  have hR3:(Kd.int .u8).R 5 W3 base (fun _=>True) (.slice (some ⟨g,0,none⟩) m c) (V.set j nv):=by
   have h:=Kd.Qbd hR2.out (j:Int) nv;rw[Int.toNat_natCast] at h;rw[hW3];exact h
  have hK3:Kp p q w W3:=(by rw[hW3];exact(hK2.out.setQ hqg.out j _).drew);have e1:W3.cell? ⟨p,1,none⟩=some (.int .i64 l.length):=(by rw[Qb hB3];rfl);have g1:=Qj hB3 1;rw[hV.out] at hR3;have hE:=Qa.mk (And.intro hB3 (And.intro hR3 hK3));have hnI:(l.length:Int)<=2000000:=(by have:=hl.out;omega);clear hB3 hR3 hK3 hW3 hHeld k0 k1' k2 f2 hq8 hr8 hq9 hr9 hjw hsw hyw hyw8 hor h7r hy;go_wp2_with fail;go_end0;obtain⟨hB3,hR3,hK3⟩:=hE.out;rw[hW2.out];have h1:=Q9 hB3 1 (.int .i64 ((l.length:Int)+1));refine⟨rfl,some g,⟨.slice (some ⟨g,0,none⟩) m c,?_,Kd.Yn hR3 hB3 (by decide) 1 _,rfl,Rk hbl.out (Rl hb'.out),hbp,by simpa using hl.out⟩,hqg.out.imp (fun e=>e.symm) (fun h=>⟨g,rfl,h⟩),hK3.Dj 1 _⟩;rw[h1];simp
end Bts

namespace Bts
attribute [local go_sem] Qh Qi Qk Ql Qd Qe
open Q15 (cnx bnx)
open Q21 (Qb Qj)
open Runs Go.Shelf
open Q16 (Q6 Za)
attribute [local go_sem] Oper.semAt_some
def Hl (v m k:Nat):Int:=((v/2^(m-1-k))%2:Nat)
theorem and_one (a:Nat) (h:a<9223372036854775808):bits .and .i64 (a:Int) 1=((a%2:Nat):Int):=by
 have h1:(BitVec.ofInt 64 (a:Int) &&& BitVec.ofInt 64 1).toNat =a%2:=by
  rw[BitVec.toNat_and];simp[Nat.and_one_is_mod]
 show IntKind.i64.wrap ((BitVec.ofInt 64 (a:Int) &&& BitVec.ofInt 64 1).toNat :Int)=_
 rw[h1];exact IntWalk.i64_in _ (by omega)
def Td (B1 Bc:Nat) (A B:World):Prop:=A.heap.size<=B.heap.size/\B.heap[B1]? =A.heap[B1]? /\B.heap[Bc]? =A.heap[Bc]?
theorem Ex (F:Fence) (n:Nat) (hF:F.fn 212) (hro:F.round=none) (hn:1<=n) (B1 Bc v m:Nat) (hv:v<4294967296) (hm:m<=32) (w:World) (c1:w.cell? ⟨B1,0,none⟩=some (.int .i64 m)) (c2:w.cell? ⟨Bc,0,none⟩=some (.int .i64 v)):
  Yd F n Tryz.prog 212 #[.pointer (some ⟨B1,0,none⟩),.pointer (some ⟨Bc,0,none⟩)] (fun k=> #[.int .i64 (Hl v m k)]) (Td B1 Bc) m w:=fun l J W hW hY h0 hJd=>by
 clear hJd;have d1:=cnx c1 hW;have d2:=cnx c2 hW;have HY:=Qa.mk hY;have hmI:(m:Int)<=32:=(by omega);have hvI:(v:Int)<=4294967296:=(by omega);have hv':=Qa.mk hv;clear hY c1 c2 hm hv;refine callsIn_of_wp Tryz.func212 rfl hF ?_ hro;simp only[Tryz.ntmps212,List.size_toArray,List.length_cons,List.length_nil,Nat.reduceAdd,Nat.reduceSub,Array.replicate_succ,Array.replicate_zero,List.push_toArray,List.append_toArray,List.nil_append,List.cons_append];gi_wp2;gi_loopw [4] (fun i wr=> ∃(z:Int) (k:Nat),i= .int .i64 z/\Qa (z=(m:Int)-1-(k:Int))/\ -1<=z/\z<=31/\wr.cell? ⟨B1,0,none⟩=some (.int .i64 m)/\wr.cell? ⟨Bc,0,none⟩=some (.int .i64 v)/\Qa (J k wr)) (fun i _=>(intOf i+1).toNat)
 case atStart=>exact⟨(m:Int)-1,0,rfl,⟨by omega⟩,by omega,by omega,d1,d2,⟨h0⟩⟩
 case round=>
  obtain⟨z,k,rfl,hz,hz0,hz1,e1,e2,hJs⟩:=hrel;clear d1 d2;by_cases hlt:0<=z
  ·obtain⟨fn,tmps,assign,body,hy,hR⟩:=HY.out k wr (by have:=hz.out;omega) hJs.out
   have hR2:=Qa.mk hR;obtain⟨b,hb⟩: ∃b,b=Hl v m k:=⟨_,rfl⟩
   have hx:bits .and .i64 ((v:Int)/2^z.toNat) 1=b:=by
    have e1:z.toNat=m-1-k:=(by have:=hz.out;omega);have e2:(v:Int)/2^z.toNat=((v/2^(m-1-k):Nat):Int):=(by rw[e1];simp);rw[e2,and_one _ (by have:=Nat.div_le_self v (2^(m-1-k));have:=hv'.out;omega),hb];rfl
   rw[<-hb] at hy;replace hb:=Qa.mk hb;clear hR;gi_wp2;refine hR2.out.mono ?_;rintro e W3 ⟨rfl,hJ3,hk3⟩;have b1:=(Q6 hk3.2.1).trans e1;have b2:=(Q6 hk3.2.2).trans e2;replace hJ3:=Qa.mk hJ3;clear hR2 e1 e2 hk3 hy hx;gi_wp2;go_roundw
   case rel=>exact⟨z-1,k+1,rfl,⟨by have:=hz.out;omega⟩,by omega,by omega,b1,b2,hJ3⟩
   case measure=>simp[intOf];omega
  ·obtain rfl:k=m:=by have:=hz.out;omega
   gi_wp2;go_end0;exact⟨⟨_,rfl⟩,hJs.out⟩
end Bts

namespace Bts
attribute [local go_sem] Qh Qi Qk Ql Qd Qe
open Q15 (cnx bnx)
open Q21 (Qb Qj)
open Runs Go.Shelf
open Q16 (Q6 Za Yc)
attribute [local go_sem] Oper.semAt_some
theorem Kp.grown {p:Nat} {q:Option Nat} {w W W':World} {row:Option Nat} (h:Kp p q w W) (hg:W.grownBy W' row) (hr: ∀r,row=some r->w.heap.size<=r):Kp p q w W':=
 ⟨hg.os.trans h.os,hg.tape.trans h.tape,hg.output.trans h.output,Nat.le_trans h.size hg.size,fun k hk hp hne=>(hg.block k (Nat.lt_of_lt_of_le hk h.size) (fun e=>by have:=hr k e.symm;omega)).trans (h.block k hk hp hne)⟩
theorem Yi {W W':World} {g:Nat} {cs:Array Value} {t:TypeId} {row:Option Nat} (h:W.heap[g]? =some (.cells cs t (0,0))) (hg:W.grownBy W' row) (hr: ∀r,row=some r-> ∃o:Obj,W.heap[r]? =some o/\o.isCells=false):W'.heap[g]? =some (.cells cs t (0,0)):=
 (hg.block g (Qr h) (fun e=>by
  obtain⟨o,ho,hc⟩:=hr g e.symm;rw[h] at ho;cases ho
  cases hc)).trans h
theorem Wr.turn {w w1:World} {base p:Nat} {q:Option Nat} {l:List Int} {row:Option Nat} (h:Wr w base p q l) (hg:w.grownBy w1 row) (hr: ∀r,row=some r-> ∃o:Obj,w.heap[r]? =some o/\o.isCells=false):Wr w1 base p q l:=by
 obtain⟨v,h1,h2,h3⟩:=h;exact⟨v,Yi h1 hg hr,Yc h2 hg hr,h3⟩
theorem Wr.step {w w1:World} {base p:Nat} {q:Option Nat} {l:List Int} (h:Wr w base p q l) (hb:Below w.heap.size w w1):Wr w1 base p q l:=by
 obtain⟨v,h1,h2,h3⟩:=h;exact⟨v,Qv h1 hb,Kd.Q4 h2 hb,h3⟩
theorem Wr.qne {w:World} {base p:Nat} {q:Option Nat} {l:List Int} (h:Wr w base p q l) {g:Nat} {cs:Array Value} {t:TypeId} (hg:w.heap[g]? =some (.cells cs t (0,0))) (ht:5≠t):some g≠q:=by
 obtain⟨v,_,h2,h3,_⟩:=h;rw[h3];exact Kd.R_ne h2 hg ht
theorem Wr.pne {w:World} {base p:Nat} {q:Option Nat} {l:List Int} (h:Wr w base p q l) {g:Nat} {cs:Array Value} {t:TypeId} (hg:w.heap[g]? =some (.cells cs t (0,0))) (ht:109≠t):g≠p:=by
 obtain⟨v,h1,_⟩:=h;exact fun e=>(blk_ne h1 hg ht) e.symm
theorem Vy {p:Nat} {q:Option Nat} {W W':World} (h:Kp p q W W') {base:Nat} {l:List Int} (hw:Wr W base p q l):KeepsOthers W W':=⟨h.size,fun k o hk ho=>(h.block k (Array.getElem?_eq_some_iff.1 hk).1 (fun e=>by
  obtain⟨v,h1,_⟩:=hw;rw[e,h1] at hk;cases hk
  cases ho) (fun e=>by
  obtain⟨v,_,h2,h3,_⟩:=hw;obtain⟨_,_,_,q2,_,cells,hc⟩:=(Kd.Zd h2).1 k (by rw[<-h3,e]);rw[hc] at hk;cases hk
  cases ho)).trans hk⟩
def Yj (v m:Nat):List Int:=(List.range m).map (Hl v m)
theorem Yf (v m:Nat):(Yj v m).length =m:=by simp[Yj]
theorem bitN_bit (v m k:Nat):Hl v m k=0\/Hl v m k=1:=by unfold Hl;omega
theorem each_num (base p:Nat) (q:Option Nat) (l:List Int) (B1 Bc v m:Nat) (w:World) (hw:Wr w base p q l) (hv:v<4294967296) (hm:m<=32) (hl:l.length+m<=1048576)
  (c1:w.heap[B1]? =some (.cells #[.int .i64 m] 3 (0,0))) (c2:w.heap[Bc]? =some (.cells #[.int .i64 v] 3 (0,0))):
  Calls Tryz.prog 181 #[.func (.func 212) #[] #[.pointer (some ⟨B1,0,none⟩),.pointer (some ⟨Bc,0,none⟩)],.func (.func 183) #[.pointer (some ⟨p,0,none⟩)] #[]] w fun e w'=>e= .returned (.tuple #[])/\WrP base p q (l++Yj v m) w w':=by
 obtain⟨W2,hW2⟩: ∃W2,W2=w.alloc (.cells #[.func (.func 183) #[.pointer (some ⟨p,0,none⟩)] #[]] 179):=⟨_,rfl⟩;have hB2:Below w.heap.size w W2:=(by rw[hW2];exact(Below.refl _ _).alloc (Nat.le_refl _) _);have hD:W2.heap[w.heap.size]? =some (.cells #[.func (.func 183) #[.pointer (some ⟨p,0,none⟩)] #[]] 179 (0,0)):=(by rw[hW2];exact heap_alloc_new _ _);have s2:W2.heap.size=w.heap.size+1:=(by rw[hW2];simp);have hW:=Qa.mk (hw.step hB2);have hplt:=hw.plt;have hq0:=fun k e=>(hw.Ni k e).2
 have hl':=Qa.mk hl;replace hplt:=Qa.mk hplt;replace hq0:=Qa.mk hq0;refine(callsIn_wide (n:=3)).1 ?_;refine callsIn_of_wp_marks Tryz.func181 rfl trivial ?_ rfl;simp only[Tryz.ntmps181,List.size_toArray,List.length_cons,List.length_nil,Nat.reduceAdd,Nat.reduceSub,Array.replicate_succ,Array.replicate_zero,List.push_toArray,List.append_toArray,List.nil_append,List.cons_append];clear hl hw;gi_wp2_with fail;rw[<-hW2];have C1:=Qv c1 hB2;have C2:=Qv c2 hB2
 refine Yt rfl (by omega) (gf:=212) (lb:= #[.pointer (some ⟨B1,0,none⟩),.pointer (some ⟨Bc,0,none⟩)]) rfl trivial (enters_of Tryz.func212 (by kernel_rfl) rfl)
  (Ex Fence.wide _ trivial rfl (by omega) B1 Bc v m hv hm W2 (by rw[Qb C1];rfl) (by rw[Qb C2];rfl))
  (fun h k=>⟨Nat.le_trans h.1 k.1,k.2.1.trans h.2.1,k.2.2.trans h.2.2⟩) ?keep (Below.refl _ _) (fun _=>rfl)
  (fun k W=> ∃q',Wr W base p q' (l++(List.range k).map (Hl v m))/\(q'=q\/ ∃g,q'=some g/\w.heap.size<=g)/\Kp p q w W/\W.heap[w.heap.size]? =some (.cells #[.func (.func 183) #[.pointer (some ⟨p,0,none⟩)] #[]] 179 (0,0))/\W.heap[B1]? =some (.cells #[.int .i64 m] 3 (0,0))/\W.heap[Bc]? =some (.cells #[.int .i64 v] 3 (0,0)))
  ?own ?start
  (fun k=>{tmps:= #[.func (.func 212) #[] #[.pointer (some ⟨B1,0,none⟩),.pointer (some ⟨Bc,0,none⟩)],.func (.func 183) #[.pointer (some ⟨p,0,none⟩)] #[],undef,.pointer (some ⟨w.heap.size,0,none⟩),.int .i64 (Hl v m k),.func (.func 212) #[] #[.pointer (some ⟨B1,0,none⟩),.pointer (some ⟨Bc,0,none⟩)],.int .i64 (Hl v m k),undef,undef,undef],defers:=[]}) ?assign ?body ?done
 case keep=>
  intro W l' o o' hl' ho hc hw';refine⟨by simp[World.putObj],World.putObj_heap_other ?_,World.putObj_heap_other ?_⟩
  ·have:=Qr C1;omega
  ·have:=Qr C2;omega
 case own=>
  rintro k W W' row ⟨q',e0,e1,e2,e3,e4,e5⟩ hg hrow;exact⟨q',e0.turn hg (fun r e=>(hrow r e).2),e1,e2.grown hg (fun r e=>by have:=(hrow r e).1;omega),Yi e3 hg (fun r e=>(hrow r e).2),Yi e4 hg (fun r e=>(hrow r e).2),Yi e5 hg (fun r e=>(hrow r e).2)⟩
 case start=>exact⟨q,by simpa using hW.out,.inl rfl,Kp.of_below hB2 _ _,hD,C1,C2⟩
 case assign=>
  intro l' k W K _ hK;gi_wp2;exact hK
 case body=>
  rintro L k W ⟨q',e0,e1,e2,e3,e4,e5⟩ hk;have hlen:(l++(List.range k).map (Hl v m)).length +1<=1048576:=(by have:=hl'.out;simp;omega);have hadd:=Qdo base p q' _ (Hl v m k) W e0 (bitN_bit v m k) hlen;have z0:W.cell? ⟨w.heap.size,0,none⟩=some (.func (.func 183) #[.pointer (some ⟨p,0,none⟩)] #[]):=(by rw[Qb e3];rfl);obtain⟨b,hb⟩: ∃b,b=Hl v m k:=⟨_,rfl⟩;rw[<-hb] at hadd ⊢;replace hadd:=Qa.mk hadd;replace hb:=Qa.mk hb;have E:=Qa.mk (And.intro e0 (And.intro e1 (And.intro e2 (And.intro e3 (And.intro e4 e5)))));clear e0 e1 e2 e3 e4 e5 hlen hD C1 C2 c1 c2;gi_wp2_with fail;refine⟨trivial,CallsIn.inRound L (callsIn_wide.2 (hadd.out.mono ?_))⟩;rintro e W3 ⟨rfl,hP⟩;replace hP:=Qa.mk hP;gi_wp2;obtain⟨e0,e1,e2,e3,e4,e5⟩:=E.out;obtain⟨q2,p0,p1,p2⟩:=hP.out;have t3:=p2.blk e3 (e0.pne e3 (by decide)) (e0.qne e3 (by decide));have t4:=p2.blk e4 (e0.pne e4 (by decide)) (e0.qne e4 (by decide));have t5:=p2.blk e5 (e0.pne e5 (by decide)) (e0.qne e5 (by decide));refine⟨(Vy p2 e0).from _,⟨p2.size,t4.trans e4.symm,t5.trans e5.symm⟩,q2,?_,?_,e2.trans p2 e1,t3,t4,t5⟩
  ·rw[List.range_succ,List.map_append,<-List.append_assoc]
   rw[hb.out] at p0;exact p0
  ·rcases p1 with e|⟨g,e,hg⟩
   ·rw[e];exact e1
   ·exact .inr ⟨g,e,Nat.le_trans e2.size hg⟩
 case done=>
  rintro D W hD ⟨q',e0,e1,e2,e3,e4,e5⟩ hK;have hgD:=grownBy_putObj' W D (.deferred none);have hrD: ∀r,some D=some r-> ∃o:Obj,W.heap[r]? =some o/\o.isCells=false:=fun r e=>by cases e;exact⟨_,hK,rfl⟩
  have hfin:WrP base p q (l++Yj v m) w (W.putObj D (.deferred none)):=⟨q',e0.turn hgD hrD,e1,e2.grown hgD (fun r e=>by cases e;omega)⟩;gi_wp2;refine⟨by simp,.inl ⟨_,_,rfl,run_takeDeferred hK,?_⟩⟩;exact⟨.tuple #[],by simp[results,Tryz.f181,go_sem],rfl,hfin⟩
end Bts

end Go.Proofs.YtnflnicdjioflaaGreatDoor
