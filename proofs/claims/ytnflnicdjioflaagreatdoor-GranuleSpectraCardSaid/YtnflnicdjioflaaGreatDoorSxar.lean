/- A part of the proof. -/
import Derived.Test.YtnflnicdjioflaaGreatDoorSxao
import Derived.Test.YtnflnicdjioflaaGreatDoorSxal
import Derived.Test.YtnflnicdjioflaaGreatDoorSxap
import Derived.Test.YtnflnicdjioflaaGreatDoorRows
import Derived.LaidMore
import Derived.Stop.Joined
set_option linter.unusedVariables false
set_option linter.unusedSimpArgs false
set_option maxRecDepth 100000
set_option maxHeartbeats 8000000
namespace Go.Proofs.YtnflnicdjioflaaGreatDoor
open Go.RowKit Go.Proofs.YtnflnicdjioflaaGreatDoorW.PrintWords Go.Proofs.YtnflnicdjioflaaGreatDoorW.PrintLast Go.Proofs.YtnflnicdjioflaaGreatDoorW.PrintMore
namespace Bk
attribute [local go_sem] X6 X7 Qk Ql Qd Qe
open Q15
theorem Qcv {m v:Int} (hm:0<=m/\m<=31) (h: -1023<=v/\v<=1023):0<=Rb m v/\Rb m v<=m:=by
 have:=Ws (v:=v) (m:=1023) h;unfold Rb;omega
theorem Sr (d:Nat) (m:Int) (e:Bool) (A:Option Addr) (cap:Nat) (l:List Int) (w:World) (hm:0<=m/\m<=31) (hr:(Kd.int .i64).C w A l.length l) (hl:l.length<=4) (hx:Yk l=true):
  Calls Tryz.prog 195 #[frm d m e,.slice A l.length cap] w fun en w'=>en= .returned (.int .i64 (Sq m l))/\Below w.heap.size w w':=by
 have hu:=Tryz.underlying194;have HR:=Qa.mk hr;have hlI:(l.length:Int)<=4:=(by omega);have hxk:=fun k (hk:k<l.length)=>Y5 hx (Qp l k hk)
 obtain⟨W0,hW0⟩: ∃W0,W0=w.alloc (.cells #[.int .i64 d,.int .i64 m,.bool e] 194):=⟨_,rfl⟩;have hb0:Below w.heap.size w W0:=(by rw[hW0];exact(Below.refl _ _).alloc (Nat.le_refl _) _);have c0:W0.cell? ⟨w.heap.size,0,none⟩=some (.int .i64 d):=(by rw[hW0];simp[go_sem]);have c1:W0.cell? ⟨w.heap.size,1,none⟩=some (.int .i64 m):=(by rw[hW0];simp[go_sem]);have c2:W0.cell? ⟨w.heap.size,2,none⟩=some (.bool e):=(by rw[hW0];simp[go_sem]);have hs0:W0.heap.size=w.heap.size+1:=(by rw[hW0];simp);replace hW0:=Qa.mk hW0;have HD:=Qa.mk (Qbo d m e W0);have HG:=Qa.mk (fun k (hk:k<l.length) (B:Nat) (W:World) (hc:W.cell? ⟨B,1,none⟩=some (.int .i64 m))=>Ml m (rd l k) B W hc (by have:=hxk k hk;omega) (by have:=hxk k hk;omega) hm);obtain⟨y,hy⟩: ∃y,y=l.map (Rb m):=⟨_,rfl⟩;have hyl:y.length=l.length:=by rw[hy];simp
 have HS:=Qa.mk (fun(W:World) (A':Option Addr) (c':Nat) (h:(Kd.int .i64).C W A' y.length y)=>Wq d m e A' c' y W hm h (by omega) (fun x hx2=>by
  rw[hy] at hx2;obtain⟨z,hz,rfl⟩:=List.mem_map.1 hx2
  exact Qcv hm (Y5 hx hz)))
 have hF:Qa (Sq m l=Fv m y):=⟨by rw[hy];rfl⟩;rw[hF.out];obtain⟨E,hE⟩: ∃E,E=Fv m y:=⟨_,rfl⟩;rw[<-hE] at HS ⊢
 have HT:Qa (∀k,k<l.length->y.take (k+1)=y.take k++[Rb m (rd l k)]):=⟨fun k hk=>by
  rw[Qu y k (by omega),hy];unfold rd
  simp[List.getD_eq_getElem?_getD,hk]⟩
 have hyl':=Qa.mk hyl;clear hr hl hx hxk hy hE hF hyl;unfold frm at*;go_enter Tryz.func195,Tryz.ntmps195;go_wp2_with (first|(go_at_call 222;rw[<-hW0.out];refine HD.out.mono ?_;rintro e1 w1 ⟨rfl,hw1'⟩;have hw1:=Qa.mk hw1';clear hw1'));have hb1:Below W0.heap.size W0 w1:=(by rw[hw1.out];exact(Below.refl _ _).alloc (Nat.le_refl _) _);have q1:w1.cell? ⟨W0.heap.size,1,none⟩=some (.int .i64 m):=(by rw[hw1.out];simp[go_sem]);clear hw1;have HC:=Qa.mk (fun W (hb:Below w1.heap.size w1 W) k (hk:k<l.length)=>HG.out k hk W0.heap.size W (cnx q1 hb));clear q1;rw[hs0] at HC;go_loopw [6,13] (fun o i wr=> ∃k:Nat,i= .int .i64 k/\k<=l.length/\Qa ((Kd.int .i64).R 3 wr w1.heap.size (fun _=>True) o (y.take k))/\Below w1.heap.size w1 wr) (fun _ i _=>l.length-(intOf i).toNat)
 case atStart=>exact⟨0,rfl,by omega,⟨Kd.Zx _ _ _ _ _⟩,Below.refl _ _⟩
 case round=>
  obtain⟨k,rfl,hk,ho,hbL⟩:=hrel;by_cases hlt:k<l.length
  ·obtain⟨ad,rfl,hcell⟩:=Qn HR.out (bnx hb0 (bnx hb1 hbL)) hlt
   have hkI:(k:Int)<(l.length:Int):=(by omega);have hT:=Qa.mk (HT.out k hlt);have HC1:=Qa.mk (HC.out wr hbL k hlt);obtain⟨z,hz⟩: ∃z,z=Rb m (rd l k):=⟨_,rfl⟩;rw[<-hz] at hT HC1;obtain⟨x,hxe⟩: ∃x,x=rd l k:=⟨_,rfl⟩;rw[<-hxe] at hcell HC1;obtain⟨Y,hY⟩: ∃Y,Y=y.take k:=⟨_,rfl⟩;have hYl:Y.length<=4:=(by rw[hY,List.length_take];have:=hyl'.out;omega);rw[<-hY] at ho hT;clear hz hxe hY;go_wp2_with (first|(go_at_call 233;refine HC1.out.mono ?_;rintro e2 w2 ⟨rfl,hb2⟩;have HO1:=Qa.mk (Kd.Q4 ho.out hb2);have HB1:=Qa.mk (bnx hbL hb2);clear hb2)|(at_builtin;refine Kd.Q3 (Kd.int .i64) (w0:=w1) w1.heap.size rfl (.tmp 17) (.tmp 21) 22 3 (.int .i64 0) 8 rfl Tryz.underlying22 Qw rfl (by decide) (by omega) u6 Y (z) [.int .i64 (z)] (fun _=>True) (fun _=>False) rfl rfl rfl (fun _ hk=>hk.elim) (fun _ _=>trivial) HO1.out HB1.out HB1.out.size (by omega) ?_;intro v1 wA hoA hbA hgA hatA;have HOA:=Qa.mk hoA;have HBA:=Qa.mk hbA;clear hoA hbA hgA hatA));go_roundw
   case rel=>exact⟨k+1,by go_num,by omega,⟨by rw[hT.out];exact HOA.out⟩,HBA.out⟩
   case measure=>simp[intOf];omega
  ·obtain rfl:k=l.length:=by omega
   have hR:=ho.out;rw[List.take_of_length_le (by rw[hyl'.out];omega)] at hR;obtain⟨A',p,rfl,_,hC⟩:=Kd.Qs hR;have HS1:=Qa.mk (HS.out wr A' p hC);have d0:=cnx c0 (bnx hb1 hbL);have d1:=cnx c1 (bnx hb1 hbL);have d2:=cnx c2 (bnx hb1 hbL);clear c0 c1 c2 ho hR hC;have hbz:=bnx hb0 (bnx hb1 hbL);go_wp2_with (first|(go_at_call 223;refine HS1.out.mono ?_;rintro e2 w2 ⟨rfl,hb2⟩;replace hbz:=bnx hbz hb2;clear hb2));go_ret;exact⟨rfl,hbz⟩
end Bk

namespace Bk
attribute [local go_sem] Qh Qi Qk Ql Qd Qe
open Q15
theorem _root_.Go.Proofs.YtnflnicdjioflaaGreatDoor.Bts.Rws.intoG {wr w:World} {L:List Bts.Row} {G1 G2:List Bts.Blk} {b:Bts.Blk} (h:Bts.Rws wr w L (G1++G2++[b])):Bts.Rws wr w L (G1++b::G2):=
 Bts.Rws.perm h (List.Perm.refl _) (by rw[List.append_assoc];exact List.Perm.append_left G1 (List.perm_append_singleton b G2))
def tabT:List (List Nat):=[
 [],
 [2,3,3,5,3,5,5,7,3,5,5,6,5,6,6,7],
 [3,4,5,4,5,7,5,7,8,4,5,7,5,7,8,7,8,9,5,7,8,7,8,9,8,9,10,4,5,6,5,6,8,6,8,9,5,6,8,6,8,9,8,9,10,6,8,9,8,9,10,9,10,12,5,6,8,6,8,9,8,9,10,6,8,9,8,9,10,9,10,11,8,9,10,9,10,11,10,11,12],
 [2,3,4,5,6,3,4,5,6,6,4,5,6,6,7,5,6,6,7,9,5,6,7,8,9],
 [3,4,4,5,5,6,7,7,4,4,5,5,6,7,7,8,4,5,5,6,7,7,8,8,5,5,6,7,7,8,8,9,5,6,7,7,8,8,9,10,6,7,7,8,8,9,10,10,7,7,8,8,9,10,10,11,7,8,8,9,9,10,10,11],
 [5,5,5,6,6,6,6,7,7,7,8,8,8,5,5,6,6,6,6,7,7,7,8,8,8,9,5,6,6,6,6,7,7,7,8,8,8,9,9,6,6,6,6,7,7,7,8,8,8,9,9,9,6,6,6,7,7,7,8,8,8,9,9,9,9,6,6,7,7,7,8,8,8,9,9,9,9,10,6,7,7,7,8,8,8,9,9,9,9,10,10,7,7,7,8,8,8,9,9,9,9,10,10,10,7,7,8,8,8,9,9,9,9,10,10,10,11,7,8,8,8,8,9,9,9,10,10,10,11,11,8,8,8,8,9,9,9,10,10,10,11,11,11,8,8,8,9,9,9,10,10,10,11,11,11,12,8,8,9,9,9,10,10,10,11,11,11,11,12],
 [4,4,5,5,6,6,7,7,7,8,8,9,9,9,10,10,4,5,5,6,6,7,7,7,8,8,9,9,9,10,10,11,5,5,6,6,7,7,7,8,8,9,9,9,10,10,11,11,5,6,6,7,7,7,8,8,9,9,9,10,10,11,11,11,6,6,7,7,7,8,8,9,9,9,10,10,11,11,11,12,6,6,7,7,8,8,9,9,9,10,10,11,11,11,12,12,6,7,7,8,8,9,9,9,10,10,11,11,11,12,12,13,7,7,8,8,9,9,9,10,10,11,11,11,12,12,13,13,7,8,8,9,9,9,10,10,11,11,11,12,12,13,13,14,8,8,9,9,9,10,10,11,11,11,12,12,13,13,14,14,8,9,9,9,10,10,11,11,11,12,12,13,13,14,14,14,9,9,9,10,10,11,11,11,12,12,13,13,14,14,14,15,9,9,10,10,11,11,11,12,12,13,13,14,14,14,15,15,9,10,10,11,11,11,12,12,13,13,13,14,14,15,15,16,10,10,11,11,11,12,12,13,13,13,14,14,15,15,16,16,10,11,11,11,12,12,13,13,13,14,14,15,15,16,16,16],
 [3,3,3,4,4,4,4,4,5,5,5,5,5,6,6,6,6,6,6,7,7,7,7,7,8,8,8,8,9,9,9,9]]
def Vh (k:Nat):List Nat:=tabT.getD k []
def V9 (k:Nat):ByteArray:=⟨((Vh k).map fun n=>UInt8.ofNat (n+96)).toArray⟩
structure Xn (w:World):Prop where
 form: ∀k,k<8->w.cell? ⟨2,k*3,none⟩=some (.int .i64 (Jb k))/\w.cell? ⟨2,k*3+1,none⟩=some (.int .i64 (Xt k))/\w.cell? ⟨2,k*3+2,none⟩=some (.bool (Gc k))
 tab: ∀k,k<8->w.cell? ⟨3,k,none⟩=some (.string (V9 k))
theorem Xn.below {w w1:World} (h:Xn w) (hb:Below w.heap.size w w1):Xn w1:=
 ⟨fun k hk=>⟨cnx (h.form k hk).1 hb,cnx (h.form k hk).2.1 hb,cnx (h.form k hk).2.2 hb⟩,fun k hk=>cnx (h.tab k hk) hb⟩
theorem tab_len: ∀k,k<8->0<k->((Vh k).length :Int)=(Xt k+1)^Jb k:=by decide+kernel
theorem Wu: ∀k,k<8-> ∀n∈Vh k,1<=n/\n<=16:=by decide+kernel
theorem D5 (k:Nat):(V9 k).size =(Vh k).length :=by show Array.size _=_;simp
theorem Qdc {k i:Nat} (hk:k<8) (hi:i<(Vh k).length): ∃b:UInt8,(V9 k)[i]? =some b/\(b.toNat:Int)=(Vh k)[i]+96:=by
 have hb:=Wu k hk _ (List.getElem_mem hi);refine⟨UInt8.ofNat ((Vh k)[i]+96),?_,?_⟩
 ·have h2:i<(V9 k).size :=by rw[D5];exact hi
  rw[getElem?_pos (V9 k) i h2]
  congr 1
  show((((Vh k).map fun n=>UInt8.ofNat (n+96)).toArray)[i]'(by simpa using hi))=_
  simp
 ·rw[UInt8.toNat_ofNat']
  omega
def Kg (d:Nat) (l:List Int) (j:Nat):List Int:=(l.drop (j*d)).take d
def wlI (k:Nat) (g:List Int):Int:=((Vh k).getD (Sq (Xt k) g).toNat 0:Nat)
def besS (k:Nat) (g:List Int):Int:=(g.map (Jw (Xt k) (Gc k))).sum
def F5 (k:Nat) (g:List Int):Int:=(if 0<k then wlI k g else 0)+besS k g
def Zb (k:Nat) (l:List Int):Nat->Int
 |0=>0
 |j+1=>Zb k l j+F5 k (Kg (Jb k) l j)
def Yp (k:Nat) (l:List Int):Int:=Zb k l (l.length/Jb k)
theorem Qcy {d:Nat} {l:List Int} {j:Nat} (h:j*d+d<=l.length):(Kg d l j).length =d:=by
 unfold Kg;rw[List.length_take,List.length_drop];omega
theorem grp_C {d:Nat} {l:List Int} {j:Nat} {w:World} {ad:Addr} (hd:1<=d) (hr:(Kd.int .i64).C w (some ad) l.length l) (h:j*d+d<=l.length):(Kd.int .i64).C w (some (ad.add (j*d))) (Kg d l j).length (Kg d l j):=by
 have h1:=Kd.C_mid (k:=Kd.int .i64) (c:=l.length) (lo:=j*d) (hi:=j*d+d) hr (by omega) h (Nat.le_refl _);rw[if_neg (by omega)] at h1
 have e:(l.take (j*d+d)).drop (j*d)=Kg d l j:=by
  unfold Kg;rw[List.drop_take]
  congr 1
  omega
 rw[e,show j*d*(Kd.int IntKind.i64).sz =j*d from Nat.mul_one _] at h1;exact h1
theorem Pb {d:Nat} {l:List Int} {j:Nat} (h:Yk l=true):Yk (Kg d l j)=true:=by
 refine List.all_eq_true.2 fun x hx=> ?_
 exact List.all_eq_true.1 h x (List.mem_of_mem_drop (List.mem_of_mem_take hx))
theorem El {d n:Nat} {j:Nat} (hd:1<=d) (h:j<n/d):j*d+d<=n:=by
 have h1:(j+1)*d<=n:=Nat.le_trans (Nat.mul_le_mul_right d h) (Nat.div_mul_le_self n d);rw[Nat.add_mul] at h1;omega
theorem log2_le {n b:Nat} (h:n<2^(b+1)):n.log2<=b:=by
 by_cases hz:n=0
 ·subst hz
  have:Nat.log2 0=0:=(by decide);omega
 ·have:=(Nat.log2_lt hz).2 h
  omega
theorem H6 {m:Int} {e:Bool} {v:Int} (hm:0<=m/\m<=31) (h: -1023<=v/\v<=1023):0<=Jw m e v/\Jw m e v<=22:=by
 have hs:=Ws (v:=v) (m:=1023) h
 have hg:1<=Xb (szI v-m+1)/\(m<=szI v->Xb (szI v-m+1)<=21):=by
  unfold Xb;refine⟨by omega,fun _=> ?_⟩;have:=log2_le (n:=(szI v-m+1).toNat) (b:=10) (by omega);omega
 unfold Jw
 split
 ·omega
 ·split
  ·rename_i h2
   have:=hg.2 h2.2;omega
  ·omega
theorem C9 {m:Int} {e:Bool} (hm:0<=m/\m<=31): ∀g:List Int,Yk g=true->0<=(g.map (Jw m e)).sum /\(g.map (Jw m e)).sum <=22*g.length
 |[],_=>by simp
 |x::g,h=>by
  have h1:=H6 (e:=e) hm (Y5 h (x:=x) (by simp))
  have h2:=C9 (e:=e) hm g (by
   refine List.all_eq_true.2 fun y hy=> ?_
   exact List.all_eq_true.1 h y (by simp[hy]))
  simp only[List.map_cons,List.sum_cons,List.length_cons];omega
theorem Qcn {k:Nat} (hk:k<8) (g:List Int):0<=wlI k g/\wlI k g<=16:=by
 unfold wlI;by_cases h:(Sq (Xt k) g).toNat <(Vh k).length
 ·have:=Wu k hk _ (List.getElem_mem h)
  rw[List.getD_eq_getElem?_getD,List.getElem?_eq_getElem h,Option.getD_some];omega
 ·rw[List.getD_eq_getElem?_getD,List.getElem?_eq_none (by omega)]
  simp
theorem Rf {k:Nat} (hk:k<8) {g:List Int} (hg:g.length<=4) (h:Yk g=true):0<=F5 k g/\F5 k g<=104:=by
 have h1:=Qcn hk g;have h2:=C9 (e:=Gc k) (Vp k) g h;unfold F5 besS
 split<;>omega
theorem Yy {k:Nat} (hk:k<8) {l:List Int} (h:Yk l=true): ∀j,0<=Zb k l j/\Zb k l j<=104*j
 |0=>by simp[Zb]
 |j+1=>by
  have h1:=Yy hk h j;have h2:=Rf hk (g:=Kg (Jb k) l j) (by unfold Kg;rw[List.length_take];have:=Uu k;omega) (Pb h);simp only[Zb];omega
theorem sym_in {k:Nat} (hk:k<8) (h0:0<k) {g:List Int} (hg:g.length=Jb k) (h:Yk g=true):0<=Sq (Xt k) g/\Sq (Xt k) g<(Vh k).length :=by
 have hm:=Vp k
 obtain⟨h1,h2⟩:=Wp (Xt k) hm.1 (g.map (Rb (Xt k))) (fun x hx=>by
  obtain⟨z,hz,rfl⟩:=List.mem_map.1 hx
  exact Qcv hm (Y5 h hz)) 0 (by omega)
 have h3:=tab_len k hk h0;rw[List.length_map,hg] at h2;have h4:Sq (Xt k) g=(g.map (Rb (Xt k))).foldl (fun s d=>s*(Xt k+1)+d) 0:=rfl;rw[h4];refine⟨h1,?_⟩;omega
theorem tabS_ne: ∀k,k<8->0<k->(V9 k).toList.isEmpty =false:=by decide+kernel
theorem Xi.set {S B1 B2 n8:Nat} {W w1:World} {v:Value} (hb:Below W.heap.size W w1) (hS:S<=W.heap.size) (h1:B1<W.heap.size) (h2:B2<W.heap.size) (h3:S<=n8) (h4:n8≠B1) (h5:n8≠B2):Xi S B1 B2 W (w1.setCell ⟨n8,0,none⟩ v):=
 ⟨(hb.mono hS).setCell (p:=⟨n8,0,none⟩) (by simp only;omega) _,(Below.heap_setCell _ _ _ _ (by simp only;omega)).trans (hb.block B1 h1),(Below.heap_setCell _ _ _ _ (by simp only;omega)).trans (hb.block B2 h2)⟩
end Bk

namespace Bk
attribute [local go_sem] Qh Qi Qk Ql Qd Qe
open Q15
open Runs Go.Shelf
open Q16 (Q6 Za Yc)
open Q21 (Qb Qj)
open Bts
attribute [local go_sem] Oper.semAt_some
theorem Qbm (k:Nat) (hk:k<8) (A:Option Addr) (cap:Nat) (l:List Int) (w:World) (hL:Xn w) (hr:(Kd.int .i64).C w A l.length l) (hl:l.length<=1000) (hcap:l.length<=cap) (hA:Yk l=true):
  Calls Tryz.prog 215 #[.int .i64 k,.slice A l.length cap] w fun e w'=>e= .returned (.int .i64 (Yp k l))/\Below w.heap.size w w':=by
 have hkI:(k:Int)<8:=(by omega);have hu:=Tryz.underlying194;have HR:=Qa.mk hr;have hl':=Qa.mk hl;obtain⟨l1,l2,l3⟩:=hL.form k hk;have l4:=hL.tab k hk;obtain⟨S,hSe⟩: ∃S,S=V9 k:=⟨_,rfl⟩;obtain⟨d,hde⟩: ∃d,d=Jb k:=⟨_,rfl⟩;obtain⟨m,hme⟩: ∃m,m=Xt k:=⟨_,rfl⟩;obtain⟨e,hee⟩: ∃e,e=Gc k:=⟨_,rfl⟩;rw[<-hSe] at l4;rw[<-hde] at l1;rw[<-hme] at l2;rw[<-hee] at l3;have hd9:=Uu k;have hm9:=Vp k;rw[<-hde] at hd9;rw[<-hme] at hm9;replace hSe:=Qa.mk hSe;replace hde:=Qa.mk hde;replace hme:=Qa.mk hme;replace hee:=Qa.mk hee;have hS:Qa (∀w':World,Below w.heap.size w w'->w'.cell? ⟨2,k*3,none⟩=some (.int .i64 d)/\w'.cell? ⟨2,k*3+1,none⟩=some (.int .i64 m)/\w'.cell? ⟨2,k*3+2,none⟩=some (.bool e)/\w'.cell? ⟨3,k,none⟩=some (.string S)):=⟨fun w' hb=>⟨cnx l1 hb,cnx l2 hb,cnx l3 hb,cnx l4 hb⟩⟩;have hmo:Tryz.prog.follows .mixedOrders =true:=(by kernel_rfl);refine(callsIn_wide (n:=3)).1 ?_;refine callsIn_of_wp_marks Tryz.func215 rfl trivial ?_ rfl;simp only[Tryz.ntmps215,List.size_toArray,List.length_cons,List.length_nil,Nat.reduceAdd,Nat.reduceSub,Array.replicate_succ,Array.replicate_zero,List.push_toArray,List.append_toArray,List.nil_append,List.cons_append];clear hL hr hl;gi_wp2_with fail;refine Go.wpIn_wide.2 (wp_region_noPanic (Qt (S:=fun w'=>w'.cell? ⟨2,k*3,none⟩=some (.int .i64 d)/\w'.cell? ⟨2,k*3+1,none⟩=some (.int .i64 m)/\w'.cell? ⟨2,k*3+2,none⟩=some (.bool e)/\w'.cell? ⟨3,k,none⟩=some (.string S)) (ds:=[]) hmo (hS.out _ (Below.refl _ _).drew) (fun hHeld=> ?_)));clear l1 l2 l3 l4
 (refine Tk.tl 0 (.int .i64 k) hHeld ?_)
 (refine Tk.tl 1 (.pointer (some ⟨2,k*3,none⟩)) hHeld ?_)
 (refine Tk.tl 2 (.agg #[.int .i64 d,.int .i64 m,.bool e]) hHeld ?_)
 (refine Tk.tl 3 (.int .i64 k) hHeld ?_)
 (refine Tk.tl 4 (.pointer (some ⟨3,k,none⟩)) hHeld ?_)
 (refine Tk.tl 5 (.string S) hHeld ?_)
 have hRw:Qa (Rws w w.drew [] []):=⟨(Rws.start w).drew⟩;refine join_ (σ:=Nat×Nat) 2 #[true,true,true,true,true,true,true,true,false,false] (fun s=>[(5,.pointer (some ⟨s.1,0,none⟩)),(6,.pointer (some ⟨s.2,0,none⟩))]) (fun s w'=>Rws w w' [] [⟨s.1, #[.int .i64 0,.int .i64 0,.bool false],194⟩,⟨s.2, #[.string ⟨#[]⟩],9⟩]) ?_ ?_
 ·intro s xj hRw
  obtain⟨n6,n7⟩:=s;replace hRw:=Qa.mk hRw;simp only[Fp,Act.put,Tk.z1,Tk.z2,Tk.z3,Tk.z4,Tk.z5,Tk.z6] at hRw ⊢
  (refine Qg (rs:=[8]) (by kernel_rfl) (by simp) ?_;refine Qc.cons rfl (by decide) (fun K hK=> ?_) Qc.nil)
  have hG:=(hRw.out.blk ⟨n6, #[.int .i64 0,.int .i64 0,.bool false],194⟩ (by simp)).1;have z0:xj.cell? ⟨n6,0,none⟩=some (.int .i64 0):=(by rw[Yo hG];rfl);have y0:=Qj hG 0;have z1:xj.cell? ⟨n6,1,none⟩=some (.int .i64 0):=(by rw[Yo hG];rfl);have y1:=Qj hG 1;have z2:xj.cell? ⟨n6,2,none⟩=some (.bool false):=(by rw[Yo hG];rfl);have y2:=Qj hG 2;have hRx:=hRw.out;clear hG;replace hRx:=Rws.set (G1:=[]) (G2:=[⟨n7, #[.string ⟨#[]⟩],9⟩]) (b:=⟨n6, #[.int .i64 0,.int .i64 0,.bool false],194⟩) hRx 0 (.int .i64 d);simp only[List.setIfInBounds_toArray,List.set_cons_zero,List.set_cons_succ,List.nil_append,List.cons_append] at hRx;replace hRx:=Rws.set (G1:=[]) (G2:=[⟨n7, #[.string ⟨#[]⟩],9⟩]) (b:=⟨n6, #[.int .i64 d,.int .i64 0,.bool false],194⟩) hRx 1 (.int .i64 m);simp only[List.setIfInBounds_toArray,List.set_cons_zero,List.set_cons_succ,List.nil_append,List.cons_append] at hRx;replace hRx:=Rws.set (G1:=[]) (G2:=[⟨n7, #[.string ⟨#[]⟩],9⟩]) (b:=⟨n6, #[.int .i64 d,.int .i64 m,.bool false],194⟩) hRx 2 (.bool e);simp only[List.setIfInBounds_toArray,List.set_cons_zero,List.set_cons_succ,List.nil_append,List.cons_append] at hRx;replace hRx:=Qa.mk hRx;go_simp;go_wp2_with fail;refine hK.out _ _ (hS.out _ hRx.out.below) (fun hHeld=> ?_);clear hK K
  try simp only[Act.put,Tk.z1,Tk.z2,Tk.z3,Tk.z4,Tk.z5,Tk.z6]
  obtain⟨x8,hxN⟩: ∃x,x=(((xj.setCell ⟨n6,0,none⟩ (.int .i64 d)).setCell ⟨n6,1,none⟩ (.int .i64 m)).setCell ⟨n6,2,none⟩ (.bool e)):=⟨_,rfl⟩;have hRy:=hRx.out;rw[<-hxN] at hRy ⊢;replace hRw:=Qa.mk hRy;clear hxN hRx hRy z0 y0 z1 y1 z2 y2
  (refine Qg (rs:=[9]) (by kernel_rfl) (by simp) ?_;refine Qc.cons rfl (by decide) (fun K hK=> ?_) Qc.nil)
  have hG:=(hRw.out.blk ⟨n7, #[.string ⟨#[]⟩],9⟩ (by simp)).1;have z0:x8.cell? ⟨n7,0,none⟩=some (.string ⟨#[]⟩):=(by rw[Yo hG];rfl);have y0:=Qj hG 0;have hRx:=hRw.out;clear hG;replace hRx:=Rws.set (G1:=[⟨n6, #[.int .i64 d,.int .i64 m,.bool e],194⟩]) (G2:=[]) (b:=⟨n7, #[.string ⟨#[]⟩],9⟩) hRx 0 (.string S);simp only[List.setIfInBounds_toArray,List.set_cons_zero,List.set_cons_succ,List.nil_append,List.cons_append] at hRx;replace hRx:=Qa.mk hRx;go_simp;go_wp2_with fail;refine hK.out _ _ (hS.out _ hRx.out.below) (fun hHeld=> ?_);clear hK K
  try simp only[Act.put,Tk.z1,Tk.z2,Tk.z3,Tk.z4,Tk.z5,Tk.z6]
  obtain⟨x9,hxN⟩: ∃x,x=(x8.setCell ⟨n7,0,none⟩ (.string S)):=⟨_,rfl⟩;have hRy:=hRx.out;rw[<-hxN] at hRy ⊢;replace hRw:=Qa.mk hRy;clear hxN hRx hRy z0 y0;refine Qq (by kernel_rfl) ?_ _;clear hHeld;refine NoPanic.normal ?_;obtain⟨W5,hW5⟩: ∃W5,W5=x9:=⟨_,rfl⟩;rw[<-hW5] at hRw ⊢;clear hW5;have hR5:=hRw.out;have g6:=(hR5.blk ⟨n6, #[.int .i64 d,.int .i64 m,.bool e],194⟩ (by simp)).1;have g60:W5.cell? ⟨n6,0,none⟩=some (.int .i64 d):=(by rw[Qb g6];rfl);have g61:W5.cell? ⟨n6,1,none⟩=some (.int .i64 m):=(by rw[Qb g6];rfl);have g62:W5.cell? ⟨n6,2,none⟩=some (.bool e):=(by rw[Qb g6];rfl);have hz6:=World.block_lt_of_cell? _ _ g60;dsimp only at hz6;clear g6 hR5;gi_wp2_with fail;obtain⟨n8,hn8⟩: ∃n8,n8=W5.heap.size:=⟨_,rfl⟩;obtain⟨W6,hW6⟩: ∃W6,W6=W5.alloc (.cells #[.int .i64 0] 3):=⟨_,rfl⟩;have hR6:=hRw.out.alloc #[.int .i64 0] 3;simp only[List.nil_append,List.cons_append] at hR6;rw[<-hW6,<-hn8] at hR6;rw[<-hW6,<-hn8];refine⟨trivial,(callsIn_wide.2 (Bp d m e A l.length cap W6)).mono ?_⟩;rintro en W7 ⟨rfl,hW7⟩;obtain⟨n9,hn9⟩: ∃n9,n9=W6.heap.size:=⟨_,rfl⟩;have hs7:W7.heap.size=n9+2:=(by rw[hW7,hn9];simp);have hR7:=(hR6.alloc #[.int .i64 d,.int .i64 m,.bool e] 194).alloc #[.slice A l.length cap] 22;simp only[World.size_alloc,List.nil_append,List.cons_append] at hR7;rw[<-hW7,<-hn9] at hR7;rw[<-hn9]
  have hn69:Qa (n6<n9/\n7<n9/\n8<n9/\w.heap.size<=n6/\w.heap.size<=n8/\w.heap.size<=n9):=by
   have q6:=Array.getElem?_eq_some_iff.1 (hR6.blk ⟨n6, #[.int .i64 d,.int .i64 m,.bool e],194⟩ (by simp)).1;have q7:=Array.getElem?_eq_some_iff.1 (hR6.blk ⟨n7, #[.string S],9⟩ (by simp)).1;have q8:=Array.getElem?_eq_some_iff.1 (hR6.blk ⟨n8, #[.int .i64 0],3⟩ (by simp)).1;have r6:=(hR6.blk ⟨n6, #[.int .i64 d,.int .i64 m,.bool e],194⟩ (by simp)).2;have r8:=(hR6.blk ⟨n8, #[.int .i64 0],3⟩ (by simp)).2;obtain⟨q6,_⟩:=q6;obtain⟨q7,_⟩:=q7;obtain⟨q8,_⟩:=q8;dsimp only at q6 q7 q8 r6 r8;exact⟨by omega,by omega,by omega,by omega,by omega,by omega⟩
  have b9:W7.cell? ⟨n9,0,none⟩=some (.int .i64 d):=(by rw[Qb (hR7.blk ⟨n9, #[.int .i64 d,.int .i64 m,.bool e],194⟩ (by simp)).1];rfl);have b10:W7.cell? ⟨n9+1,0,none⟩=some (.slice A l.length cap):=(by rw[Qb (hR7.blk ⟨n9+1, #[.slice A l.length cap],22⟩ (by simp)).1];rfl);replace hs7:=Qa.mk hs7;replace hR7:=Qa.mk hR7;clear hW7 hn9 hW6 hn8 hR6 hz6 g60 g61 g62 hRw;gi_wp2_with fail
  have hAs:Qa (0<l.length-> ∃ad,A=some ad):=⟨fun h=>by
   obtain⟨ad,e,_⟩:=Qn HR.out (Below.refl _ _) h
   exact⟨ad,e⟩⟩
  refine Yt rfl (by omega) (gf:=221) (lb:= #[.pointer (some ⟨n9,0,none⟩),.pointer (some ⟨n9+1,0,none⟩)]) rfl trivial (enters_of Tryz.func221 (by kernel_rfl) rfl)
   (Ej Fence.wide _ trivial rfl (by omega) n9 (n9+1) A cap l.length d hd9 (by have:=hl'.out;omega) hcap hAs.out w W7 hR7.out.below b9 b10)
   (fun h k=>h.trans k) (fun W l' o o' hl'=>Xi.putObj (N:=W7.heap.size) (by have:=hs7.out;have:=hn69.out;omega) (by have:=hs7.out;omega) (by have:=hs7.out;omega) W l' o o' hl') (Below.refl _ _) (fun _=>rfl)
   (fun j W=>Rws w W [] [⟨n6, #[.int .i64 d,.int .i64 m,.bool e],194⟩,⟨n7, #[.string S],9⟩,⟨n8, #[.int .i64 (Zb k l j)],3⟩,⟨n9, #[.int .i64 d,.int .i64 m,.bool e],194⟩,⟨n9+1, #[.slice A l.length cap],22⟩])
   ?own ?start
   (fun j=>{tmps:= #[.int .i64 k,.slice A l.length cap,undef,undef,.int .i64 0,.pointer (some ⟨n6,0,none⟩),.pointer (some ⟨n7,0,none⟩),.pointer (some ⟨n8,0,none⟩),gSl A (j*d) d,undef,undef,.int .i64 k,.pointer (some ⟨2,k*3,none⟩),.agg #[.int .i64 d,.int .i64 m,.bool e],.int .i64 k,.pointer (some ⟨3,k,none⟩),.string S,.agg #[.int .i64 d,.int .i64 m,.bool e],.slice A l.length cap,.func (.func 221) #[] #[.pointer (some ⟨n9,0,none⟩),.pointer (some ⟨n9+1,0,none⟩)],gSl A (j*d) d,undef,undef,undef,undef,undef,undef,undef,undef,undef,undef,undef,undef,undef,undef,undef,undef,undef,undef,undef,undef,undef,undef,undef,undef,undef],defers:=[]}) ?assign ?body ?done
  case own=>exact fun j W W' row h hg hrow=>Pre.Rws.turn h hg (fun r e=>⟨by have:=(hrow r e).1;have:=hs7.out;have:=hn69.out;omega,(hrow r e).2⟩)
  case start=>exact hR7.out
  case assign=>
   intro l' j W K _ hK;gi_wp2;exact hK
  case body=>
   rintro L j W hRw hj;obtain⟨ad,rfl⟩:=hAs.out (by have:=El hd9.1 hj;omega);have hjd:=El hd9.1 hj;obtain⟨ag,hag⟩: ∃ag,ag=ad.add (j*d):=⟨_,rfl⟩;have HG:=grp_C hd9.1 HR.out hjd;have hgl:=Qcy hjd;have hga:=Pb (d:=d) (j:=j) hA;have hst:Zb k l (j+1)=Zb k l j+F5 k (Kg d l j):=(by rw[hde.out];rfl);have hc09:=Yy hk hA j;have hj9:j<=1000:=(by have:=hl'.out;have:=Nat.mul_le_mul_left j hd9.1;omega);obtain⟨gr,hgr⟩: ∃gr,gr=Kg d l j:=⟨_,rfl⟩;rw[<-hag,<-hgr] at HG;rw[<-hgr] at hgl hga hst;obtain⟨c0,hc0⟩: ∃c0,c0=Zb k l j:=⟨_,rfl⟩;rw[<-hc0] at hst hc09 hRw;have hgc:=Rf hk (g:=gr) (by omega) hga;simp only[gSl];rw[<-hag];have a6:=(hRw.blk ⟨n6, #[.int .i64 d,.int .i64 m,.bool e],194⟩ (by simp)).1;have a60:W.cell? ⟨n6,0,none⟩=some (.int .i64 d):=(by rw[Qb a6];rfl);have a61:W.cell? ⟨n6,1,none⟩=some (.int .i64 m):=(by rw[Qb a6];rfl);have a62:W.cell? ⟨n6,2,none⟩=some (.bool e):=(by rw[Qb a6];rfl);have a70:W.cell? ⟨n7,0,none⟩=some (.string S):=(by rw[Qb (hRw.blk ⟨n7, #[.string S],9⟩ (by simp)).1];rfl);have a8:=(hRw.blk ⟨n8, #[.int .i64 c0],3⟩ (by simp)).1;have a80:W.cell? ⟨n8,0,none⟩=some (.int .i64 c0):=(by rw[Qb a8];rfl);clear a6 a8;have hz6:=World.block_lt_of_cell? _ _ a60;have HSy:=Qa.mk (fun(W':World) (hb:Below W.heap.size W W')=>Sr d m e (some ag) d gr W' hm9 (Kd.Qf HG (bnx hRw.below hb)) (by omega) hga);rw[hgl] at HSy;have hI:IntKind.i64.wrap c0=c0:=IntWalk.i64_in _ (by omega);replace hRw:=Qa.mk hRw;obtain⟨bT,hbTe⟩: ∃bT:Nat->Int,bT=fun i=>((gr.take i).map (Jw m e)).sum :=⟨_,rfl⟩
   have hbT0:Qa (bT 0=0):=⟨by rw[hbTe];simp⟩;have hbTs:Qa (∀i,i<d->bT (i+1)=bT i+Jw m e (rd gr i)):=⟨fun i hi=>by rw[hbTe];dsimp only;rw[Qu gr i (by omega),List.map_append,List.sum_append];simp⟩
   have hbT9:Qa (∀i,i<=d->0<=bT i/\bT i<=100):=⟨fun i hi=>by
    have h1:=C9 (e:=e) hm9 (gr.take i) (List.all_eq_true.2 fun x hx=>List.all_eq_true.1 hga x (List.mem_of_mem_take hx));have h2:(gr.take i).length <=4:=(by rw[List.length_take];omega);rw[hbTe];dsimp only
    omega⟩
   have hbTd:bT d=besS k gr:=(by rw[hbTe,<-hgl];dsimp only;rw[List.take_length,hme.out,hee.out];rfl);have hwb:=Qcn hk gr;have hE:F5 k gr=(if 0<k then wlI k gr else 0)+besS k gr:=rfl;replace HG:=Qa.mk HG;by_cases hk0:0<k
   ·have hsi:=sym_in hk hk0 (g:=gr) (by rw[hgl,hde.out]) hga
    rw[<-hme.out] at hsi;have hne:S.toList.isEmpty=false:=(by rw[hSe.out];exact tabS_ne k hk hk0);obtain⟨bt,hbt,hbx⟩:=Qdc hk (i:=(Sq m gr).toNat) (by omega);rw[<-hSe.out] at hbt;have hwl:wlI k gr=((Vh k)[(Sq m gr).toNat]'(by omega):Nat):=(by unfold wlI;rw[<-hme.out,List.getD_eq_getElem?_getD,List.getElem?_eq_getElem (by omega),Option.getD_some]);rw[<-hwl] at hbx;have htb:=Wu k hk _ (List.getElem_mem (show(Sq m gr).toNat <(Vh k).length by omega));obtain⟨wl,hwle⟩: ∃wl,wl=wlI k gr:=⟨_,rfl⟩;have hwl1:1<=wl:=(by rw[hwle,hwl];omega);rw[<-hwle] at hbx hwb hE;obtain⟨c1,hc1⟩: ∃c1,c1=c0+wl:=⟨_,rfl⟩;have hfin:Qa (c1+bT d=Zb k l (j+1)):=⟨by rw[hst,hE,if_pos hk0,hbTd];omega⟩;obtain⟨sy,hsy⟩: ∃sy,sy=Sq m gr:=⟨_,rfl⟩;rw[<-hsy] at HSy hsi hbt;obtain⟨y,hy⟩: ∃y,y=wl-1:=⟨_,rfl⟩;obtain⟨xb,hxb⟩: ∃xb:Int,(bt.toNat:Int)=xb:=⟨_,rfl⟩;rw[hxb] at hbx;have f1:IntKind.u8.wrap (xb-97)=y:=(by rw[show xb-97=y by omega];exact IntWalk.u8_in _ (by omega));have f2:IntKind.i64.wrap y=y:=IntWalk.i64_in _ (by omega);have f3:IntKind.i64.wrap (y+1)=wl:=(by rw[show y+1=wl by omega];exact IntWalk.i64_in _ (by omega));have f4:IntKind.i64.wrap (c0+wl)=c1:=(by rw[<-hc1];exact IntWalk.i64_in _ (by omega));have hc19:0<=c1/\c1<=200000:=(by omega);have hsy0:0<=sy:=hsi.1
    have hszS:Qa (sy<(S.size:Int)/\ ∀h:sy.toNat<S.size,((S[sy.toNat]'h).toNat :Int)=xb):=by
     have h1:sy<(S.size:Int):=(by rw[hSe.out,D5];exact hsi.2);refine⟨h1,fun h=> ?_⟩;rw[getElem?_pos S sy.toNat h] at hbt
     injection hbt with hbt
     rw[hbt];exact hxb
    clear hsi hwl htb hwle hsy hy hbx hc1 hwb hc09 hj9 hwl1;replace hgl:=Qa.mk hgl;replace hga:=Qa.mk hga;clear hbTe hbTd hE hst hc0 hgr hag hgc hjd hj;replace hfin:=Qa.mk hfin.out;gi_wp2_with fail;obtain⟨hszS1,hszS2⟩:=hszS.out;clear hszS hbt;refine Held.Zm (fun w'=>w'.cell? ⟨n6,0,none⟩=some (.int .i64 d)/\w'.cell? ⟨n6,1,none⟩=some (.int .i64 m)/\w'.cell? ⟨n6,2,none⟩=some (.bool e)/\w'.cell? ⟨n7,0,none⟩=some (.string S)/\w'.cell? ⟨n8,0,none⟩=some (.int .i64 c0)/\Below W.heap.size W w') [10] hmo (by kernel_rfl) (fun⟨_,_,h⟩=>h) ⟨a60,a61,a62,a70,a80,(Below.refl _ _).drew⟩ (fun hHeld=> ?_)
    (refine Tk.tl 0 (.int .i64 c0) hHeld ?_)
    (refine Tk.tl 1 (.string S) hHeld ?_)
    (refine Tk.tl 2 (.agg #[.int .i64 d,.int .i64 m,.bool e]) hHeld ?_)
    (refine Tk.tl 3 (.slice (some ag) d d) hHeld ?_)
    (refine Qg (rs:=[4]) (by kernel_rfl) (by simp) ?_;refine Qc.cons rfl (by decide) (fun K hK=> ?_) Qc.nil)
    go_simp;refine(HSy.out _ hHeld.2.2.2.2.2).mono ?_;rintro en w1 ⟨rfl,hb1⟩;go_wp2_with fail;refine hK.out _ _ ⟨cnx hHeld.1 hb1,cnx hHeld.2.1 hb1,cnx hHeld.2.2.1 hb1,cnx hHeld.2.2.2.1 hb1,cnx hHeld.2.2.2.2.1 hb1,bnx hHeld.2.2.2.2.2 hb1⟩ (fun hHeld=> ?_);clear hK K
    try simp only[Act.put,Tk.z1,Tk.z2,Tk.z3,Tk.z4,Tk.z5,Tk.z6]
    (refine Tk.tl 5 (.int .u8 xb) hHeld ?_)
    (refine Tk.tl 6 (.int .u8 y) hHeld ?_)
    (refine Tk.tl 7 (.int .i64 y) hHeld ?_)
    (refine Tk.tl 8 (.int .i64 wl) hHeld ?_)
    (refine Tk.tl 9 (.int .i64 c1) hHeld ?_)
    have hRs:=hRw.out.step hHeld.2.2.2.2.2;have G8:=(hRs.blk ⟨n8, #[.int .i64 c0],3⟩ (by simp)).1;have z80:w1.cell? ⟨n8,0,none⟩=some (.int .i64 c0):=(by rw[Qb G8];rfl);have y80:=Qj G8 0;clear G8;have hRn:=Bts.Rws.set (G1:=[⟨n6, #[.int .i64 d,.int .i64 m,.bool e],194⟩,⟨n7, #[.string S],9⟩]) (G2:=[⟨n9, #[.int .i64 d,.int .i64 m,.bool e],194⟩,⟨n9+1, #[.slice (some ad) l.length cap],22⟩]) (b:=⟨n8, #[.int .i64 c0],3⟩) hRs 0 (.int .i64 c1);simp only[List.setIfInBounds_toArray,List.set_cons_zero,List.nil_append,List.cons_append] at hRn;have hKn:KeepsOthers W (w1.setCell ⟨n8,0,none⟩ (.int .i64 c1))/\Xi w.heap.size n9 (n9+1) W (w1.setCell ⟨n8,0,none⟩ (.int .i64 c1)):=⟨(Zq hHeld.2.2.2.2.2).trans (KeepsOthers.setCell w1 ⟨n8,0,none⟩ (.int .i64 c1)),Xi.set (hHeld.2.2.2.2.2) hRw.out.below.size (by have:=hRw.out.blk ⟨n9, #[.int .i64 d,.int .i64 m,.bool e],194⟩ (by simp);exact(Array.getElem?_eq_some_iff.1 this.1).1) (by have:=hRw.out.blk ⟨n9+1, #[.slice (some ad) l.length cap],22⟩ (by simp);exact(Array.getElem?_eq_some_iff.1 this.1).1) (by have:=hn69.out;omega) (by have:=hn69.out;omega) (by have:=hn69.out;omega)⟩;obtain⟨wn,hwn⟩: ∃wn,wn=w1.setCell ⟨n8,0,none⟩ (.int .i64 c1):=⟨_,rfl⟩;rw[<-hwn] at hRn hKn;replace hRn:=Qa.mk hRn;replace hKn:=Qa.mk hKn;replace hwn:=Qa.mk hwn;clear hRs
    (refine Qg (rs:=[10]) (by kernel_rfl) (by simp) ?_;refine Qc.Zl rfl (by decide) (fun K hK=> ?_) Qc.nil)
    go_simp;go_wp2_with fail;refine hK.out _ _ ?_;clear hK K
    try simp only[Act.put,Tk.z1,Tk.z2,Tk.z3,Tk.z4,Tk.z5,Tk.z6]
    refine Qq (by kernel_rfl) ?_ _;rw[<-hwn.out];clear z80 y80 hHeld hwn;clear a60 a61 a62 a70 a80 hz6 HSy hszS1 hszS2 hxb f1 f2 f3 f4 hne;have hbW:Below w.heap.size w wn:=hRn.out.below;obtain⟨wo,hwo⟩: ∃wo:World,wo=wn:=⟨_,rfl⟩;rw[<-hwo] at hRn hKn hbW ⊢;clear hwo;gi_wp2_with fail;gi_loopw [35] (fun x wr=> ∃i:Nat,x= .int .i64 i/\i<=d/\Qa (Rws w wr [] [⟨n6, #[.int .i64 d,.int .i64 m,.bool e],194⟩,⟨n7, #[.string S],9⟩,⟨n8, #[.int .i64 (c1+bT i)],3⟩,⟨n9, #[.int .i64 d,.int .i64 m,.bool e],194⟩,⟨n9+1, #[.slice (some ad) l.length cap],22⟩])/\Qa (KeepsOthers W wr/\Xi w.heap.size n9 (n9+1) W wr)) (fun x _=>d-(intOf x).toNat)
    case atStart=>exact⟨0,rfl,by omega,⟨by rw[hbT0.out,Int.add_zero];exact hRn.out⟩,hKn⟩
    case round=>
     obtain⟨i,rfl,hi,hRr,hKr⟩:=hrel;by_cases hlt:i<d
     ·obtain⟨ad2,had2,hcell⟩:=Qn HG.out hRr.out.below (show i<gr.length by have:=hgl.out;omega)
      cases had2;have hv:=Y5 hga.out (Qp gr i (by have:=hgl.out;omega));have hbs:=hbTs.out i hlt;have hbb:=H6 (e:=e) hm9 hv;have hb9:=hbT9.out i (by omega);have HBs:=Qa.mk (fun(W':World)=>Bg d m e (rd gr i) W' hm9 hv.1 hv.2);obtain⟨v,hve⟩: ∃v,v=rd gr i:=⟨_,rfl⟩;rw[<-hve] at hcell hbs hbb HBs;obtain⟨bq,hbq⟩: ∃bq,bq=Jw m e v:=⟨_,rfl⟩;rw[<-hbq] at hbs hbb HBs;obtain⟨ac,hac⟩: ∃ac,ac=c1+bT i:=⟨_,rfl⟩;rw[<-hac] at hRr;obtain⟨an,han⟩: ∃an,an=c1+bT (i+1):=⟨_,rfl⟩;have hwr:IntKind.i64.wrap (ac+bq)=an:=(by rw[show ac+bq=an by omega];exact IntWalk.i64_in _ (by omega));clear hve hbq hv;have r6:=(hRr.out.blk ⟨n6, #[.int .i64 d,.int .i64 m,.bool e],194⟩ (by simp)).1;have r60:wr.cell? ⟨n6,0,none⟩=some (.int .i64 d):=(by rw[Qb r6];rfl);have r61:wr.cell? ⟨n6,1,none⟩=some (.int .i64 m):=(by rw[Qb r6];rfl);have r62:wr.cell? ⟨n6,2,none⟩=some (.bool e):=(by rw[Qb r6];rfl);have r70:wr.cell? ⟨n7,0,none⟩=some (.string S):=(by rw[Qb (hRr.out.blk ⟨n7, #[.string S],9⟩ (by simp)).1];rfl);have r8:=(hRr.out.blk ⟨n8, #[.int .i64 ac],3⟩ (by simp)).1;have r80:wr.cell? ⟨n8,0,none⟩=some (.int .i64 ac):=(by rw[Qb r8];rfl);clear r6 r8;have hz6:=World.block_lt_of_cell? _ _ r60;have hiI:(i:Int)<(d:Int):=(by omega);replace hac:=Qa.mk hac;replace han:=Qa.mk han;replace hbs:=Qa.mk hbs;replace hb9:=Qa.mk hb9;replace hbb:=Qa.mk hbb;gi_wp2_with fail;refine Held.Zm (fun w'=>w'.cell? ⟨n6,0,none⟩=some (.int .i64 d)/\w'.cell? ⟨n6,1,none⟩=some (.int .i64 m)/\w'.cell? ⟨n6,2,none⟩=some (.bool e)/\w'.cell? ⟨n7,0,none⟩=some (.string S)/\w'.cell? ⟨n8,0,none⟩=some (.int .i64 ac)/\Below wr.heap.size wr w') [5] hmo (by kernel_rfl) (fun⟨_,_,h⟩=>h) ⟨r60,r61,r62,r70,r80,(Below.refl _ _).drew⟩ (fun hHeld=> ?_)
      (refine Tk.tl 0 (.int .i64 ac) hHeld ?_)
      (refine Tk.tl 1 (.agg #[.int .i64 d,.int .i64 m,.bool e]) hHeld ?_)
      (refine Tk.tl 2 (.int .i64 v) hHeld ?_)
      (refine Qg (rs:=[3]) (by kernel_rfl) (by simp) ?_;refine Qc.cons rfl (by decide) (fun K hK=> ?_) Qc.nil)
      go_simp;refine(HBs.out _).mono ?_;rintro en w1 ⟨rfl,hb1⟩;go_wp2_with fail;refine hK.out _ _ ⟨cnx hHeld.1 hb1,cnx hHeld.2.1 hb1,cnx hHeld.2.2.1 hb1,cnx hHeld.2.2.2.1 hb1,cnx hHeld.2.2.2.2.1 hb1,bnx hHeld.2.2.2.2.2 hb1⟩ (fun hHeld=> ?_);clear hK K
      try simp only[Act.put,Tk.z1,Tk.z2,Tk.z3,Tk.z4,Tk.z5,Tk.z6]
      (refine Tk.tl 4 (.int .i64 an) hHeld ?_)
      have hRs:=hRr.out.step hHeld.2.2.2.2.2;have G8:=(hRs.blk ⟨n8, #[.int .i64 ac],3⟩ (by simp)).1;have z80:w1.cell? ⟨n8,0,none⟩=some (.int .i64 ac):=(by rw[Qb G8];rfl);have y80:=Qj G8 0;clear G8;have hRn:=Bts.Rws.set (G1:=[⟨n6, #[.int .i64 d,.int .i64 m,.bool e],194⟩,⟨n7, #[.string S],9⟩]) (G2:=[⟨n9, #[.int .i64 d,.int .i64 m,.bool e],194⟩,⟨n9+1, #[.slice (some ad) l.length cap],22⟩]) (b:=⟨n8, #[.int .i64 ac],3⟩) hRs 0 (.int .i64 an);simp only[List.setIfInBounds_toArray,List.set_cons_zero,List.nil_append,List.cons_append] at hRn;have hKn:KeepsOthers wr (w1.setCell ⟨n8,0,none⟩ (.int .i64 an))/\Xi w.heap.size n9 (n9+1) wr (w1.setCell ⟨n8,0,none⟩ (.int .i64 an)):=⟨(Zq hHeld.2.2.2.2.2).trans (KeepsOthers.setCell w1 ⟨n8,0,none⟩ (.int .i64 an)),Xi.set (hHeld.2.2.2.2.2) hRr.out.below.size (by have:=hRr.out.blk ⟨n9, #[.int .i64 d,.int .i64 m,.bool e],194⟩ (by simp);exact(Array.getElem?_eq_some_iff.1 this.1).1) (by have:=hRr.out.blk ⟨n9+1, #[.slice (some ad) l.length cap],22⟩ (by simp);exact(Array.getElem?_eq_some_iff.1 this.1).1) (by have:=hn69.out;omega) (by have:=hn69.out;omega) (by have:=hn69.out;omega)⟩;obtain⟨wn,hwn⟩: ∃wn,wn=w1.setCell ⟨n8,0,none⟩ (.int .i64 an):=⟨_,rfl⟩;rw[<-hwn] at hRn hKn;replace hRn:=Qa.mk hRn;replace hKn:=Qa.mk hKn;replace hwn:=Qa.mk hwn;clear hRs
      (refine Qg (rs:=[5]) (by kernel_rfl) (by simp) ?_;refine Qc.Zl rfl (by decide) (fun K hK=> ?_) Qc.nil)
      go_simp;go_wp2_with fail;refine hK.out _ _ ?_;clear hK K
      try simp only[Act.put,Tk.z1,Tk.z2,Tk.z3,Tk.z4,Tk.z5,Tk.z6]
      refine Qq (by kernel_rfl) ?_ _;rw[<-hwn.out];clear z80 y80 hHeld hwn;clear r60 r61 r62 r70 r80 hcell hz6;gi_wp2;go_roundw
      case rel=>exact⟨i+1,by go_num,by omega,⟨by rw[<-han.out];exact hRn.out⟩,⟨hKr.out.1.trans hKn.out.1,hKr.out.2.trans hKn.out.2⟩⟩
      case measure=>simp[intOf];omega
     ·obtain rfl:i=d:=by omega
      gi_wp2;refine⟨hKr.out.1.from _,hKr.out.2,?_⟩;have h9:=hRr.out;rw[hfin.out] at h9;exact h9
   ·obtain rfl:k=0:=by omega
    obtain⟨c1,hc1⟩: ∃c1,c1=c0:=⟨_,rfl⟩;have hfin:Qa (c1+bT d=Zb 0 l (j+1)):=⟨by rw[hst,hE,if_neg (by omega),hbTd];omega⟩;have hSe0:S=⟨#[]⟩:=(by rw[hSe.out];rfl);have hc19:0<=c1/\c1<=200000:=(by omega);rw[<-hc1] at hRw a80 hI;have hKw:Qa (KeepsOthers W W/\Xi w.heap.size n9 (n9+1) W W):=⟨KeepsOthers.refl W,Below.refl _ _,rfl,rfl⟩;clear hc1 hwb hc09 hj9 HSy;replace hgl:=Qa.mk hgl;replace hga:=Qa.mk hga;clear hbTe hbTd hE hst hc0 hgr hag hgc hjd hj;have hne:S.toList.isEmpty=true:=(by rw[hSe0];decide+kernel);gi_wp2_with fail;clear a60 a61 a62 a70 a80 hz6;obtain⟨wz,hwz⟩: ∃wz:World,wz=W:=⟨_,rfl⟩;have hKz:Qa (KeepsOthers W wz/\Xi w.heap.size n9 (n9+1) W wz):=(by rw[hwz];exact hKw);have hRz:=hRw;rw[<-hwz] at hRz ⊢;clear hwz;have hbW:Below w.heap.size w wz:=hRz.out.below;obtain⟨wo,hwo⟩: ∃wo:World,wo=wz:=⟨_,rfl⟩;rw[<-hwo] at hRz hKz hbW ⊢;clear hwo;gi_wp2_with fail;gi_loopw [35] (fun x wr=> ∃i:Nat,x= .int .i64 i/\i<=d/\Qa (Rws w wr [] [⟨n6, #[.int .i64 d,.int .i64 m,.bool e],194⟩,⟨n7, #[.string S],9⟩,⟨n8, #[.int .i64 (c1+bT i)],3⟩,⟨n9, #[.int .i64 d,.int .i64 m,.bool e],194⟩,⟨n9+1, #[.slice (some ad) l.length cap],22⟩])/\Qa (KeepsOthers W wr/\Xi w.heap.size n9 (n9+1) W wr)) (fun x _=>d-(intOf x).toNat)
    case atStart=>exact⟨0,rfl,by omega,⟨by rw[hbT0.out,Int.add_zero];exact hRz.out⟩,hKz⟩
    case round=>
     obtain⟨i,rfl,hi,hRr,hKr⟩:=hrel;by_cases hlt:i<d
     ·obtain⟨ad2,had2,hcell⟩:=Qn HG.out hRr.out.below (show i<gr.length by have:=hgl.out;omega)
      cases had2;have hv:=Y5 hga.out (Qp gr i (by have:=hgl.out;omega));have hbs:=hbTs.out i hlt;have hbb:=H6 (e:=e) hm9 hv;have hb9:=hbT9.out i (by omega);have HBs:=Qa.mk (fun(W':World)=>Bg d m e (rd gr i) W' hm9 hv.1 hv.2);obtain⟨v,hve⟩: ∃v,v=rd gr i:=⟨_,rfl⟩;rw[<-hve] at hcell hbs hbb HBs;obtain⟨bq,hbq⟩: ∃bq,bq=Jw m e v:=⟨_,rfl⟩;rw[<-hbq] at hbs hbb HBs;obtain⟨ac,hac⟩: ∃ac,ac=c1+bT i:=⟨_,rfl⟩;rw[<-hac] at hRr;obtain⟨an,han⟩: ∃an,an=c1+bT (i+1):=⟨_,rfl⟩;have hwr:IntKind.i64.wrap (ac+bq)=an:=(by rw[show ac+bq=an by omega];exact IntWalk.i64_in _ (by omega));clear hve hbq hv;have r6:=(hRr.out.blk ⟨n6, #[.int .i64 d,.int .i64 m,.bool e],194⟩ (by simp)).1;have r60:wr.cell? ⟨n6,0,none⟩=some (.int .i64 d):=(by rw[Qb r6];rfl);have r61:wr.cell? ⟨n6,1,none⟩=some (.int .i64 m):=(by rw[Qb r6];rfl);have r62:wr.cell? ⟨n6,2,none⟩=some (.bool e):=(by rw[Qb r6];rfl);have r70:wr.cell? ⟨n7,0,none⟩=some (.string S):=(by rw[Qb (hRr.out.blk ⟨n7, #[.string S],9⟩ (by simp)).1];rfl);have r8:=(hRr.out.blk ⟨n8, #[.int .i64 ac],3⟩ (by simp)).1;have r80:wr.cell? ⟨n8,0,none⟩=some (.int .i64 ac):=(by rw[Qb r8];rfl);clear r6 r8;have hz6:=World.block_lt_of_cell? _ _ r60;have hiI:(i:Int)<(d:Int):=(by omega);replace hac:=Qa.mk hac;replace han:=Qa.mk han;replace hbs:=Qa.mk hbs;replace hb9:=Qa.mk hb9;replace hbb:=Qa.mk hbb;gi_wp2_with fail;refine Held.Zm (fun w'=>w'.cell? ⟨n6,0,none⟩=some (.int .i64 d)/\w'.cell? ⟨n6,1,none⟩=some (.int .i64 m)/\w'.cell? ⟨n6,2,none⟩=some (.bool e)/\w'.cell? ⟨n7,0,none⟩=some (.string S)/\w'.cell? ⟨n8,0,none⟩=some (.int .i64 ac)/\Below wr.heap.size wr w') [5] hmo (by kernel_rfl) (fun⟨_,_,h⟩=>h) ⟨r60,r61,r62,r70,r80,(Below.refl _ _).drew⟩ (fun hHeld=> ?_)
      (refine Tk.tl 0 (.int .i64 ac) hHeld ?_)
      (refine Tk.tl 1 (.agg #[.int .i64 d,.int .i64 m,.bool e]) hHeld ?_)
      (refine Tk.tl 2 (.int .i64 v) hHeld ?_)
      (refine Qg (rs:=[3]) (by kernel_rfl) (by simp) ?_;refine Qc.cons rfl (by decide) (fun K hK=> ?_) Qc.nil)
      go_simp;refine(HBs.out _).mono ?_;rintro en w1 ⟨rfl,hb1⟩;go_wp2_with fail;refine hK.out _ _ ⟨cnx hHeld.1 hb1,cnx hHeld.2.1 hb1,cnx hHeld.2.2.1 hb1,cnx hHeld.2.2.2.1 hb1,cnx hHeld.2.2.2.2.1 hb1,bnx hHeld.2.2.2.2.2 hb1⟩ (fun hHeld=> ?_);clear hK K
      try simp only[Act.put,Tk.z1,Tk.z2,Tk.z3,Tk.z4,Tk.z5,Tk.z6]
      (refine Tk.tl 4 (.int .i64 an) hHeld ?_)
      have hRs:=hRr.out.step hHeld.2.2.2.2.2;have G8:=(hRs.blk ⟨n8, #[.int .i64 ac],3⟩ (by simp)).1;have z80:w1.cell? ⟨n8,0,none⟩=some (.int .i64 ac):=(by rw[Qb G8];rfl);have y80:=Qj G8 0;clear G8;have hRn:=Bts.Rws.set (G1:=[⟨n6, #[.int .i64 d,.int .i64 m,.bool e],194⟩,⟨n7, #[.string S],9⟩]) (G2:=[⟨n9, #[.int .i64 d,.int .i64 m,.bool e],194⟩,⟨n9+1, #[.slice (some ad) l.length cap],22⟩]) (b:=⟨n8, #[.int .i64 ac],3⟩) hRs 0 (.int .i64 an);simp only[List.setIfInBounds_toArray,List.set_cons_zero,List.nil_append,List.cons_append] at hRn;have hKn:KeepsOthers wr (w1.setCell ⟨n8,0,none⟩ (.int .i64 an))/\Xi w.heap.size n9 (n9+1) wr (w1.setCell ⟨n8,0,none⟩ (.int .i64 an)):=⟨(Zq hHeld.2.2.2.2.2).trans (KeepsOthers.setCell w1 ⟨n8,0,none⟩ (.int .i64 an)),Xi.set (hHeld.2.2.2.2.2) hRr.out.below.size (by have:=hRr.out.blk ⟨n9, #[.int .i64 d,.int .i64 m,.bool e],194⟩ (by simp);exact(Array.getElem?_eq_some_iff.1 this.1).1) (by have:=hRr.out.blk ⟨n9+1, #[.slice (some ad) l.length cap],22⟩ (by simp);exact(Array.getElem?_eq_some_iff.1 this.1).1) (by have:=hn69.out;omega) (by have:=hn69.out;omega) (by have:=hn69.out;omega)⟩;obtain⟨wn,hwn⟩: ∃wn,wn=w1.setCell ⟨n8,0,none⟩ (.int .i64 an):=⟨_,rfl⟩;rw[<-hwn] at hRn hKn;replace hRn:=Qa.mk hRn;replace hKn:=Qa.mk hKn;replace hwn:=Qa.mk hwn;clear hRs
      (refine Qg (rs:=[5]) (by kernel_rfl) (by simp) ?_;refine Qc.Zl rfl (by decide) (fun K hK=> ?_) Qc.nil)
      go_simp;go_wp2_with fail;refine hK.out _ _ ?_;clear hK K
      try simp only[Act.put,Tk.z1,Tk.z2,Tk.z3,Tk.z4,Tk.z5,Tk.z6]
      refine Qq (by kernel_rfl) ?_ _;rw[<-hwn.out];clear z80 y80 hHeld hwn;clear r60 r61 r62 r70 r80 hcell hz6;gi_wp2;go_roundw
      case rel=>exact⟨i+1,by go_num,by omega,⟨by rw[<-han.out];exact hRn.out⟩,⟨hKr.out.1.trans hKn.out.1,hKr.out.2.trans hKn.out.2⟩⟩
      case measure=>simp[intOf];omega
     ·obtain rfl:i=d:=by omega
      gi_wp2;refine⟨hKr.out.1.from _,hKr.out.2,?_⟩;have h9:=hRr.out;rw[hfin.out] at h9;exact h9
  case done=>
   rintro D W hD hRw hDf;have hgD:=grownBy_putObj' W D (.deferred none);have hsz:=hs7.out;have hbn:=hn69.out;have h1:Rws w (W.putObj D (.deferred none)) [] _:=Pre.Rws.turn hRw hgD (fun r e=>by cases e;exact⟨by omega,_,hDf,rfl⟩);have p3:W.cell? ⟨n8,0,none⟩=some (.int .i64 (Zb k l (l.length/d))):=(by rw[Qb (hRw.blk ⟨n8, #[.int .i64 (Zb k l (l.length/d))],3⟩ (by simp)).1];rfl);have hb:=h1.below;have hC:Qa (Yp k l=Zb k l (l.length/d)):=⟨by rw[hde.out];rfl⟩;gi_wp2;refine⟨by simp,.inl ⟨_,_,rfl,run_takeDeferred hDf,?_⟩⟩;exact⟨.int .i64 (Zb k l (l.length/d)),by simp[results,Tryz.f215,go_sem],by rw[hC.out],hb⟩
 ·intro hJ1
  replace hJ1:=Qa.mk hJ1;refine Qg (rs:=[6,7]) (by kernel_rfl) (by simp) ?_;refine Qc.cons rfl (by decide) (fun K hK=> ?_) (Qc.cons rfl (by decide) (fun K hK=> ?_) (Qc.nil))
  ·refine Zo (w1:=w.drew.alloc (.cells #[.int .i64 0,.int .i64 0,.bool false] 194)) (v:= .pointer (some ⟨w.drew.heap.size,0,none⟩)) (by kernel_rfl) rfl (by kernel_rfl) ?_
   have hRx:=hRw.out.alloc #[.int .i64 0,.int .i64 0,.bool false] 194;refine hK.out _ _ (hS.out _ hRx.below) (fun hHeld=> ?_);clear hK K
   try simp only[Act.put,Tk.z1,Tk.z2,Tk.z3,Tk.z4,Tk.z5,Tk.z6]
   obtain⟨x6,hxN⟩: ∃x,x=w.drew.alloc (.cells #[.int .i64 0,.int .i64 0,.bool false] 194):=⟨_,rfl⟩;obtain⟨n6,hnN⟩: ∃n,n=w.drew.heap.size:=⟨_,rfl⟩;rw[<-hxN] at hRx ⊢;rw[<-hnN] at hRx ⊢;clear hxN hnN;simp only[List.nil_append,List.cons_append] at hRx;replace hRw:=Qa.mk hRx;clear hRx
   (refine Qg (rs:=[7]) (by kernel_rfl) (by simp) ?_;refine Qc.cons rfl (by decide) (fun K hK=> ?_) Qc.nil)
   refine Zo (w1:=x6.alloc (.cells #[.string ⟨#[]⟩] 9)) (v:= .pointer (some ⟨x6.heap.size,0,none⟩)) (by kernel_rfl) rfl (by kernel_rfl) ?_;have hRx:=hRw.out.alloc #[.string ⟨#[]⟩] 9;refine hK.out _ _ (hS.out _ hRx.below) (fun hHeld=> ?_);clear hK K
   try simp only[Act.put,Tk.z1,Tk.z2,Tk.z3,Tk.z4,Tk.z5,Tk.z6]
   obtain⟨x7,hxN⟩: ∃x,x=x6.alloc (.cells #[.string ⟨#[]⟩] 9):=⟨_,rfl⟩;obtain⟨n7,hnN⟩: ∃n,n=x6.heap.size:=⟨_,rfl⟩;rw[<-hxN] at hRx ⊢;rw[<-hnN] at hRx ⊢;clear hxN hnN;simp only[List.nil_append,List.cons_append] at hRx;replace hRw:=Qa.mk hRx;clear hRx;exact U8 (by kernel_rfl) (by kernel_rfl) (hJ1.out (n6,n7) _ hRw.out)
  ·refine Zo (w1:=w.drew.alloc (.cells #[.string ⟨#[]⟩] 9)) (v:= .pointer (some ⟨w.drew.heap.size,0,none⟩)) (by kernel_rfl) rfl (by kernel_rfl) ?_
   have hRx:=hRw.out.alloc #[.string ⟨#[]⟩] 9;refine hK.out _ _ (hS.out _ hRx.below) (fun hHeld=> ?_);clear hK K
   try simp only[Act.put,Tk.z1,Tk.z2,Tk.z3,Tk.z4,Tk.z5,Tk.z6]
   obtain⟨x7,hxN⟩: ∃x,x=w.drew.alloc (.cells #[.string ⟨#[]⟩] 9):=⟨_,rfl⟩;obtain⟨n7,hnN⟩: ∃n,n=w.drew.heap.size:=⟨_,rfl⟩;rw[<-hxN] at hRx ⊢;rw[<-hnN] at hRx ⊢;clear hxN hnN;simp only[List.nil_append,List.cons_append] at hRx;replace hRw:=Qa.mk hRx;clear hRx
   (refine Qg (rs:=[6]) (by kernel_rfl) (by simp) ?_;refine Qc.cons rfl (by decide) (fun K hK=> ?_) Qc.nil)
   refine Zo (w1:=x7.alloc (.cells #[.int .i64 0,.int .i64 0,.bool false] 194)) (v:= .pointer (some ⟨x7.heap.size,0,none⟩)) (by kernel_rfl) rfl (by kernel_rfl) ?_;have hRx:=hRw.out.alloc #[.int .i64 0,.int .i64 0,.bool false] 194;refine hK.out _ _ (hS.out _ hRx.below) (fun hHeld=> ?_);clear hK K
   try simp only[Act.put,Tk.z1,Tk.z2,Tk.z3,Tk.z4,Tk.z5,Tk.z6]
   obtain⟨x6,hxN⟩: ∃x,x=x7.alloc (.cells #[.int .i64 0,.int .i64 0,.bool false] 194):=⟨_,rfl⟩;obtain⟨n6,hnN⟩: ∃n,n=x7.heap.size:=⟨_,rfl⟩;rw[<-hxN] at hRx ⊢;rw[<-hnN] at hRx ⊢;clear hxN hnN;simp only[List.nil_append,List.cons_append] at hRx;replace hRx:=Rws.intoG (G1:=[]) (G2:=[⟨n7, #[.string ⟨#[]⟩],9⟩]) (b:=⟨n6, #[.int .i64 0,.int .i64 0,.bool false],194⟩) hRx;simp only[List.nil_append,List.cons_append] at hRx;replace hRw:=Qa.mk hRx;clear hRx;exact U8 (by kernel_rfl) (by kernel_rfl) (hJ1.out (n6,n7) _ hRw.out)
end Bk

namespace Opn
open Go.ChangeShapes Go.WideShapes Go.ChangeAt Go.RowKit Go.Joins Go.Deep Go.Proofs.YtnflnicdjioflaaGreatDoorW.PrintWords
open Q21 (Laid Xk Y9)
open Bk
section
variable {H:Type} {enc:TypeId×Value->H} {P:Program} {w:World} {base:Nat} {spare:Nat->Bool} {held:Bool}
theorem Qbh {n:Nat} {t e:TypeId} {fuel:Nat} {cs:List Value} {Ds:List (DataW H)} {p:List MemPlace} (ht:P.underlying t=some (.array n e)) (h:DataW.trod enc P w base spare held fuel t cs=some (.agg Ds,p)):
  ∀j,j<n-> ∃(m:Nat) (x:DataW H×List MemPlace),DataW.trod enc P w base spare held m e ((cs.drop (j*P.cellsOf e)).take (P.cellsOf e))=some x/\Ds[j]? =some x.1:=by
 obtain⟨xs,m,rfl,hx,hlen,hn,hel⟩:=DataW.trod_array ht h;intro j hj;have h1:=hel j hj;rw[List.getElem?_eq_getElem (by omega)] at h1;refine⟨m,_,h1,?_⟩
 have h2:Ds=xs.map (·.1):=by
  have:=congrArg Prod.fst hx
  injection this
 rw[h2,List.getElem?_map,List.getElem?_eq_getElem (by omega)];rfl
theorem drop_at {cs:List Value} {j:Nat} {l:List Value} {k:Nat} (h:(cs.drop j).take k=l) {i:Nat} {c:Value} (hi:l[i]? =some c):cs[j+i]? =some c:=by
 rw[<-h] at hi
 have hk:i<k:=by
  have:=(List.getElem?_eq_some_iff.1 hi).1;rw[List.length_take] at this;omega
 rw[List.getElem?_take_of_lt hk,List.getElem?_drop] at hi;exact hi
theorem Oz {n:Nat} {t e:TypeId} {fuel:Nat} {cs:List Value} {L:List Int} {p:List MemPlace} (ht:P.underlying t=some (.array n e)) (he:P.underlying e=some (.int .i64)) (hC:P.cellsOf e=1) (h:DataW.trod enc P w base spare held fuel t cs=some (.agg (L.map fun v=> .lit (.int .i64 v)),p)):
  ∀j,j<n->cs[j]? =some (.int .i64 (rd L j)):=by
 intro j hj;obtain⟨m,x,h1,h2⟩:=Qbh ht h j hj;obtain⟨v,h3,rfl,_⟩:=DataW.trod_int he h1;rw[hC,Nat.mul_one] at h3;have h4:=drop_at h3 (i:=0) rfl;rw[List.getElem?_map] at h2
 cases hL:L[j]? with
 |none=>rw[hL] at h2;cases h2
 |some u=>
  rw[hL] at h2
  injection h2 with h2
  injection h2 with h2
  injection h2 with _ h2
  rw[Nat.add_zero] at h4;rw[h4,<-h2];simp[rd,hL]
end
theorem list3 {cs:List Value} (h:cs.length=3): ∃a b c,cs=[a,b,c]:=by
 match cs,h with
 |[a,b,c],_=>exact⟨a,b,c,rfl⟩
theorem gLongs:Tryz.prog.globalNamed "shawm/bands.longs" =some 0:=by kernel_rfl
theorem gShorts:Tryz.prog.globalNamed "shawm/bands.shorts" =some 1:=by kernel_rfl
theorem gForms:Tryz.prog.globalNamed "shawm/book.forms" =some 2:=by kernel_rfl
theorem gTabs:Tryz.prog.globalNamed "shawm/book.tables" =some 3:=by kernel_rfl
abbrev laidAll:List (String×DataW Unit):=[("shawm/bands.longs",Rows.laid_shawm_bands_longs),("shawm/bands.shorts",Rows.laid_shawm_bands_shorts),("shawm/book.forms",Rows.laid_shawm_book_forms),("shawm/book.tables",Rows.laid_shawm_book_tables)]
def litS {H:Type}:DataW H->List UInt8
 | .lit (.string b)=>b
 |_=>[]
def E8 {H:Type}:DataW H->List (DataW H)
 | .agg l=>l
 |_=>[]
theorem tabEq: ∀k,k<8->((E8 (Rows.laid_shawm_book_tables (H:=Unit))).map litS)[k]? =some (V9 k).data.toList :=by decide+kernel
theorem formD: ∀k,k<8->(E8 (Rows.laid_shawm_book_forms (H:=Unit)))[k]? =some (.agg [.lit (.int .i64 (Jb k:Nat)),.lit (.int .i64 (Xt k)),.lit (.bool (Gc k))])
 |0,_=>rfl
 |1,_=>rfl
 |2,_=>rfl
 |3,_=>rfl
 |4,_=>rfl
 |5,_=>rfl
 |6,_=>rfl
 |7,_=>rfl
 |n+8,h=>absurd h (by omega)
theorem of_laid {W:World} (h:laidMetH Tryz.prog laidAll W):Laid W/\Xn W:=by
 rw[MakeChecks.laidMetH_plain _ _ _ (by kernel_rfl)] at h;obtain⟨ps,⟨g0,t0,cs0,f0,p0,q0,hg0,ht0,hv0,hd0,⟨g1,t1,cs1,f1,p1,q1,hg1,ht1,hv1,hd1,⟨g2,t2,cs2,f2,p2,q2,hg2,ht2,hv2,hd2,⟨g3,t3,cs3,f3,p3,q3,hg3,ht3,hv3,hd3,_,_⟩,_⟩,_⟩,_⟩,_,_⟩:=h;obtain rfl:=Option.some.inj (gLongs.symm.trans hg0);obtain rfl:=Option.some.inj (gShorts.symm.trans hg1);obtain rfl:=Option.some.inj (gForms.symm.trans hg2);obtain rfl:=Option.some.inj (gTabs.symm.trans hg3);have c0:=World.var?_cell hg0 hv0;have c1:=World.var?_cell hg1 hv1;have c2:=World.var?_cell hg2 hv2;have c3:=World.var?_cell hg3 hv3;obtain rfl:=Option.some.inj (ht0.symm.trans (show _=some 171 by kernel_rfl));obtain rfl:=Option.some.inj (ht1.symm.trans (show _=some 172 by kernel_rfl));obtain rfl:=Option.some.inj (ht2.symm.trans (show _=some 195 by kernel_rfl));obtain rfl:=Option.some.inj (ht3.symm.trans (show _=some 220 by kernel_rfl));have a0:=Oz (L:=Xk) Tryz.underlying171 uI cI hd0;have a1:=Oz (L:=Y9) Tryz.underlying172 uI cI hd1;refine⟨⟨?_,?_⟩,⟨fun k hk=> ?_,fun k hk=> ?_⟩⟩
 ·refine Kd.Zu (d:=(0:Int)) (enc:=Value.int .i64) (h1:=fun _=>rfl) ⟨rfl,by decide,fun _=>⟨_,rfl,fun j hj=> ?_⟩⟩
  have e:(⟨0,0,none⟩:Addr).add j=⟨0,j,none⟩:=by simp[Addr.add];exact fun h=>h.symm
  rw[e,c0,<-Array.getElem?_toList,a0 j hj];rfl
 ·refine Kd.Zu (d:=(0:Int)) (enc:=Value.int .i64) (h1:=fun _=>rfl) ⟨rfl,by decide,fun _=>⟨_,rfl,fun j hj=> ?_⟩⟩
  have e:(⟨1,0,none⟩:Addr).add j=⟨1,j,none⟩:=by simp[Addr.add];exact fun h=>h.symm
  rw[e,c1,<-Array.getElem?_toList,a1 j hj];rfl
 ·obtain⟨m,x,h1,h2⟩:=Qbh Tryz.underlying195 hd2 k hk
  have h3:(E8 (Rows.laid_shawm_book_forms (H:=Unit)))[k]? =some x.1:=h2;rw[formD k hk] at h3
  injection h3 with h3
  rw[show Tryz.prog.cellsOf 194=3 by kernel_rfl] at h1;obtain⟨y0,y1,y2,n,rfl,hl,j0,j1,j2⟩:=trod_struct3 Tryz.underlying194 h1;rw[show Tryz.prog.cellsOf 194=3 by kernel_rfl] at hl;obtain⟨v0,v1,v2,hcs⟩:=list3 hl;rw[hcs] at j0 j1 j2;dsimp only at j0 j1 j2;rw[cI] at j0 j1;rw[cB] at j2;obtain⟨n0,e0,rfl,_⟩:=DataW.trod_int uI j0;obtain⟨n1,e1,rfl,_⟩:=DataW.trod_int uI j1;obtain⟨n2,e2,rfl⟩:=DataW.trod_bool uB j2;cases e0;cases e1;cases e2
  injection h3 with h3
  injection h3 with g0 h3
  injection h3 with g1 h3
  injection h3 with g2 h3
  cases g0;cases g1;cases g2;refine⟨?_,?_,?_⟩
  ·rw[c2,<-Array.getElem?_toList]
   exact drop_at hcs (i:=0) rfl
  ·rw[c2,<-Array.getElem?_toList]
   exact drop_at hcs (i:=1) rfl
  ·rw[c2,<-Array.getElem?_toList]
   exact drop_at hcs (i:=2) rfl
 ·obtain⟨m,x,h1,h2⟩:=Qbh Tryz.underlying220 hd3 k hk
  obtain⟨s,h3,rfl,_⟩:=DataW.trod_string Tryz.underlying9 h1;rw[show Tryz.prog.cellsOf 9=1 by kernel_rfl,Nat.mul_one] at h3;have h4:=drop_at h3 (i:=0) rfl;rw[c3,<-Array.getElem?_toList];rw[Nat.add_zero] at h4;rw[h4];have h5:=tabEq k hk;rw[List.getElem?_map] at h5;have h6:(E8 (Rows.laid_shawm_book_tables (H:=Unit)))[k]? =some (.lit (.string s.data.toList)):=h2;rw[h6] at h5
  injection h5 with h5
  have h7:s.data=(V9 k).data :=Array.toList_inj.1 h5
  have h8:s=V9 k:=by
   cases s;exact congrArg ByteArray.mk h7
  rw[h8]
end Opn

end Go.Proofs.YtnflnicdjioflaaGreatDoor
