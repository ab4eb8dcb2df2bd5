/- A part of the proof. -/
import Derived.Test.YtnflnicdjioflaaGreatDoorMdal
set_option linter.unusedVariables false
set_option linter.unusedSimpArgs false
set_option maxRecDepth 100000
set_option maxHeartbeats 8000000
namespace Go.Proofs.YtnflnicdjioflaaGreatDoor
open Go.RowKit Go.Proofs.YtnflnicdjioflaaGreatDoorW.PrintWords Go.Proofs.YtnflnicdjioflaaGreatDoorW.PrintLast Go.Proofs.YtnflnicdjioflaaGreatDoorW.PrintMore
namespace Bts
attribute [local go_sem] Qi Qj Qk Ql Qg Qh
open Q15 (cnx bnx)
open Q21 (Qb Qf)
def Ke (l k:List Int):List Int:=if l.length+k.length>1048576 then l else l++k
def Cv (l k:List Int):Int:=if l.length+k.length>1048576 then 2 else 0
theorem fB1 (v n:Nat):Jg [(v,n)]=Yn v n:=by simp[Jg]
theorem Qdh (w:World):
  Calls Tryz.prog 83 #[] w fun e w'=> ∃p,e= .returned (.pointer (some ⟨p,0,none⟩))/\Wr w' w.heap.size p none []/\Below w.heap.size w w':=by
 have hu:=Tryz.underlying109;go_enter Tryz.func83,Tryz.ntmps83;go_wp2;go_ret;refine⟨w.heap.size,rfl,⟨.slice none 0 0,heap_alloc_new _ _,by rw[Qeg];exact Kd.Xd _ _ _ _ _,rfl,Qbv,Nat.le_refl _,by simp⟩,(Below.refl _ _).alloc (Nat.le_refl _) _⟩
theorem Dn (base p:Nat) (q:Option Nat) (l:List Int) (w:World) (hw:Wr w base p q l):
  Calls Tryz.prog 44 #[.pointer (some ⟨p,0,none⟩)] w fun e w'=>e= .returned (.int .i64 l.length)/\w=w':=by
 obtain⟨v,hB,-⟩:=hw;have k1:w.cell? ⟨p,1,none⟩=some (.int .i64 l.length):=(by rw[Qb hB];rfl);clear hB;go_enter Tryz.func44,Tryz.ntmps44;go_wp2_with fail;go_ret;exact⟨rfl,rfl⟩
theorem Qdi (base p:Nat) (q:Option Nat) (l:List Int) (v n:Nat) (w:World) (hw:Wr w base p q l) (hn:n<=32) (hv:v<2^n):
  Calls Tryz.prog 84 #[.pointer (some ⟨p,0,none⟩),.int .i64 v,.int .i64 n] w fun e w'=>e= .returned (.int .i64 (Cv l (Yn v n)))/\WrP base p q (Ke l (Yn v n)) w w':=by
 have hv32:v<4294967296:=Nat.lt_of_lt_of_le hv (Nat.pow_le_pow_right (by omega) hn);have HP:=Qa.mk (fun(W:World) (hb:Below w.heap.size w W) (g cf:Nat) (hg:W.heap[g]? =some (.cells #[.int .i64 v,.int .i64 n] 140 (0,0)))=>Ur base p q l [(v,n)] g cf W (hw.step hb) hg (fun f hf=>by rw[List.mem_singleton.1 hf];exact⟨hv32,hn⟩) (by simp));have hnI:(n:Int)<=32:=(by omega);have hvI:(v:Int)<=4294967295:=(by omega);have hE:Qa (Jm [(v,n)]=(Yn v n).length /\Jg [(v,n)]=Yn v n):=⟨by simp[Jm,Yj],fB1 v n⟩;have b1:decide ((n:Int)<0)=false:=decide_eq_false (by omega);have b2:decide (32<(n:Int))=false:=decide_eq_false (by omega);have b3:decide ((v:Int)<0)=false:=decide_eq_false (by omega)
 have b4:decide (wrap64 (2^n)<=(v:Int))=false:=decide_eq_false (by
  have hp:((2^n:Nat):Int)=2^n:=(by simp);have hp2:(2:Nat)^n<=2^32:=Nat.pow_le_pow_right (by omega) hn;rw[IntWalk.wrap64_in _ (by omega)]
  omega)
 clear hw hn hv hv32;go_enter Tryz.func84,Tryz.ntmps84;go_wp2_with fail;obtain⟨W,hW⟩: ∃W,W=w.alloc (.cells #[.int .i64 v,.int .i64 n] 140):=⟨_,rfl⟩;have hb:Below w.heap.size w W:=(by rw[hW];exact(Below.refl _ _).alloc (Nat.le_refl _) _);have hG:W.heap[w.heap.size]? =some (.cells #[.int .i64 v,.int .i64 n] 140 (0,0)):=(by rw[hW];exact heap_alloc_new _ _);rw[<-hW];have H:=Qa.mk (HP.out W hb w.heap.size 1 hG);simp only[List.length_cons,List.length_nil,Nat.zero_add] at H;replace hb:=Qa.mk hb;clear hW hG HP;refine H.out.mono ?_;rintro e w' ⟨rfl,q',h1,h2,h3⟩
 have hfin:Qa (WrP base p q (Ke l (Yn v n)) w w'):=⟨by
  refine⟨q',?_,?_,(Kp.of_below hb.out p q).trans h3 (.inl rfl)⟩
  ·rw[hE.out.1,hE.out.2] at h1
   exact h1
  ·rcases h2 with e|⟨g,e,hg⟩
   ·exact .inl e
   ·exact .inr ⟨g,e,Nat.le_trans hb.out.size hg⟩⟩
 rw[hE.out.1];obtain⟨E,hEe⟩: ∃E:Int,(if l.length+(Yn v n).length >1048576 then 2 else 0)=E:=⟨_,rfl⟩;rw[hEe];have hEr:Qa (Cv l (Yn v n)=E):=⟨hEe⟩;clear h1 h2 h3 H hEe;go_wp2_with fail;go_ret;exact⟨by rw[hEr.out];rfl,hfin.out⟩
end Bts

namespace Bts
attribute [local go_sem] Qi Qj Qk Ql Qg Qh
open Q15 (cnx bnx)
open Q21 (Qb Qf)
theorem and_low (v:Int) (n:Nat) (hn:n<=32):bits .and .i64 v (2^n-1)=v%2^n:=by
 have hp:((2^n:Nat):Int)=2^n:=(by simp);have hp2:(2:Nat)^n<=2^32:=Nat.pow_le_pow_right (by omega) hn;have hp0:0<2^n:=Nat.pow_pos (by omega);have hd:(2:Nat)^n∣2^64:=Nat.pow_dvd_pow 2 (by omega)
 have h2:(BitVec.ofInt 64 ((2:Int)^n-1)).toNat =2^n-1:=by
  rw[BitVec.toNat_ofInt];rw[Int.emod_eq_of_lt (by omega) (by omega)];omega
 have h1:(BitVec.ofInt 64 v &&& BitVec.ofInt 64 ((2:Int)^n-1)).toNat =(v%2^n).toNat :=by
  rw[BitVec.toNat_and,h2,Nat.and_two_pow_sub_one_eq_mod,BitVec.toNat_ofInt]
  have h3:((v%((2^64:Nat):Int)).toNat %2^n:Nat)=((v%((2^64:Nat):Int))%((2^n:Nat):Int)).toNat :=by
   have h0:0<=v%((2^64:Nat):Int):=Int.emod_nonneg _ (by decide);obtain⟨z,hz⟩:=Int.eq_ofNat_of_zero_le h0;rw[hz,<-Int.natCast_emod,Int.toNat_natCast,Int.toNat_natCast]
  rw[h3,Int.emod_emod_of_dvd _ (Int.natCast_dvd_natCast.2 hd),hp]
 show IntKind.i64.wrap ((BitVec.ofInt 64 v &&& BitVec.ofInt 64 ((2:Int)^n-1)).toNat :Int)=_
 have h4:0<=v%2^n/\v%2^n<2^n:=⟨Int.emod_nonneg _ (by omega),Int.emod_lt_of_pos _ (by omega)⟩;rw[h1,Int.toNat_of_nonneg h4.1];exact IntWalk.i64_in _ (by omega)
theorem Mt (base p:Nat) (q:Option Nat) (l:List Int) (v:Int) (w:World) (hw:Wr w base p q l) (h0: -128<=v) (h1:v<=127):
  Calls Tryz.prog 88 #[.pointer (some ⟨p,0,none⟩),.int .i64 v,.int .i64 8] w fun e w'=>e= .returned (.int .i64 (Cv l (Yn (v%256).toNat 8)))/\WrP base p q (Ke l (Yn (v%256).toNat 8)) w w':=by
 obtain⟨x,hx⟩: ∃x,x=(v%256).toNat :=⟨_,rfl⟩;rw[<-hx];have hx8:x<256:=(by omega);have hxv:v%256=(x:Int):=(by omega);have HP:=Qa.mk (fun(W:World) (hb:Below w.heap.size w W) (g cf:Nat) (hg:W.heap[g]? =some (.cells #[.int .i64 x,.int .i64 8] 140 (0,0)))=>Ur base p q l [(x,8)] g cf W (hw.step hb) hg (fun f hf=>by rw[List.mem_singleton.1 hf];exact⟨by simp only;omega,by simp⟩) (by simp));have hE:Qa (Jm [(x,8)]=(Yn x 8).length /\Jg [(x,8)]=Yn x 8):=⟨by simp[Jm,Yj],fB1 x 8⟩
 have b1:bits .and .i64 v 255=(x:Int):=by
  have h:=and_low v 8 (by omega);rw[show(2:Int)^8-1=255 by decide,show(2:Int)^8=256 by decide] at h;rw[h,hxv]
 have b2:decide (v< -128)=false:=decide_eq_false (by omega);have b3:decide (128<=v)=false:=decide_eq_false (by omega);replace hxv:=Qa.mk hxv;replace hx:=Qa.mk hx;clear hw;go_enter Tryz.func88,Tryz.ntmps88;go_wp2_with fail;obtain⟨W,hW⟩: ∃W,W=w.alloc (.cells #[.int .i64 x,.int .i64 8] 140):=⟨_,rfl⟩;have hb:Below w.heap.size w W:=(by rw[hW];exact(Below.refl _ _).alloc (Nat.le_refl _) _);have hG:W.heap[w.heap.size]? =some (.cells #[.int .i64 x,.int .i64 8] 140 (0,0)):=(by rw[hW];exact heap_alloc_new _ _);rw[<-hW];have H:=Qa.mk (HP.out W hb w.heap.size 1 hG);simp only[List.length_cons,List.length_nil,Nat.zero_add] at H;replace hb:=Qa.mk hb;clear hW hG HP;refine H.out.mono ?_;rintro e w' ⟨rfl,q',h1,h2,h3⟩
 have hfin:Qa (WrP base p q (Ke l (Yn x 8)) w w'):=⟨by
  refine⟨q',?_,?_,(Kp.of_below hb.out p q).trans h3 (.inl rfl)⟩
  ·rw[hE.out.1,hE.out.2] at h1
   exact h1
  ·rcases h2 with e|⟨g,e,hg⟩
   ·exact .inl e
   ·exact .inr ⟨g,e,Nat.le_trans hb.out.size hg⟩⟩
 rw[hE.out.1];obtain⟨E,hEe⟩: ∃E:Int,(if l.length+(Yn x 8).length >1048576 then 2 else 0)=E:=⟨_,rfl⟩;rw[hEe];have hEr:Qa (Cv l (Yn x 8)=E):=⟨hEe⟩;clear h1 h2 h3 H hEe;go_wp2_with fail;go_ret;exact⟨by rw[hEr.out];rfl,hfin.out⟩
def Bf (v:Nat):List Int:=Yn 0 v.log2++Yn v (v.log2+1)
theorem Rp (v:Nat):(Bf v).length =2*v.log2+1:=by simp[Bf,Yj];omega
theorem Oq (base p:Nat) (q:Option Nat) (l:List Int) (v:Nat) (w:World) (hw:Wr w base p q l) (h0:1<=v) (h1:v<2097152):
  Calls Tryz.prog 148 #[.pointer (some ⟨p,0,none⟩),.int .i64 v] w fun e w'=>e= .returned (.int .i64 (Cv l (Bf v)))/\WrP base p q (Ke l (Bf v)) w w':=by
 obtain⟨K,hK⟩: ∃K,K=v.log2:=⟨_,rfl⟩;have hK1:2^K<=v:=(by rw[hK];exact Nat.log2_self_le (by omega));have hK2:v<2^(K+1):=by rw[hK];exact Nat.lt_log2_self
 have hK20:K<=20:=by
  by_cases h:K<=20
  ·exact h
  ·have:2^21<=2^K:=Nat.pow_le_pow_right (by omega) (by omega)
   omega
 have HP:=Qa.mk (fun(W:World) (hb:Below w.heap.size w W) (g cf:Nat) (hg:W.heap[g]? =some (.cells #[.int .i64 (0:Nat),.int .i64 K,.int .i64 v,.int .i64 (K+1:Nat)] 140 (0,0)))=>Ur base p q l [(0,K),(v,K+1)] g cf W (hw.step hb) hg (fun f hf=>by
  simp only[List.mem_cons,List.not_mem_nil,or_false] at hf
  rcases hf with rfl|rfl<;>exact⟨by simp only;omega,by simp only;omega⟩) (by simp))
 have hE:Qa (Jm [(0,K),(v,K+1)]=(Bf v).length /\Jg [(0,K),(v,K+1)]=Bf v):=⟨by simp[Jm,Rp,hK];omega,by simp[Jg,Bf,hK]⟩;have hvI:(v:Int)<=2097151:=(by omega);have hv1:(1:Int)<=v:=by omega
 have hstep:Qa (∀k:Nat,k<K->0<(v:Int)/2^(k+1)):=⟨fun k hk=>by
  have h:2^(k+1)<=2^K:=Nat.pow_le_pow_right (by omega) (by omega);have h2:0<v/2^(k+1):=Nat.div_pos (by omega) (Nat.pow_pos (by omega));have h3:(v:Int)/2^(k+1)=((v/2^(k+1):Nat):Int):=by simp
  omega⟩
 have hstop:Qa ((v:Int)/2^(K+1)=0):=⟨by
  have h2:v/2^(K+1)=0:=Nat.div_eq_of_lt hK2;have h3:(v:Int)/2^(K+1)=((v/2^(K+1):Nat):Int):=by simp
  omega⟩
 have hKI:(K:Int)<=20:=(by omega);replace hK:=Qa.mk hK;clear hw hK1 hK2 h0 h1;go_enter Tryz.func148,Tryz.ntmps148;go_wp2_with fail;go_loop [5] (fun i=> ∃k:Nat,i= .int .i64 k/\k<=K) (fun i=>K-(intOf i).toNat)
 case atStart=>exact⟨0,rfl,by omega⟩
 case round=>
  obtain⟨k,rfl,hk⟩:=hrel;have hkI:(k:Int)<=20:=(by omega);by_cases hlt:k<K
  ·have hpos:=hstep.out k hlt
   obtain⟨t,ht⟩: ∃t,t=(v:Int)/2^(k+1):=⟨_,rfl⟩;rw[<-ht] at hpos;have ht':(v:Int)/2^(k+1)=t:=ht.symm;clear ht;go_wp2_with fail;go_round
   case rel=>exact⟨k+1,by go_num,hlt⟩
   case measure=>simp[intOf];omega
  ·obtain rfl:k=K:=by omega
   have hz:=hstop.out;go_wp2_with fail;obtain⟨W,hW⟩: ∃W,W=w.alloc (.cells #[.int .i64 0,.int .i64 k,.int .i64 v,.int .i64 ((k:Int)+1)] 140):=⟨_,rfl⟩;have hb:Below w.heap.size w W:=(by rw[hW];exact(Below.refl _ _).alloc (Nat.le_refl _) _);have hG:W.heap[w.heap.size]? =some (.cells #[.int .i64 (0:Nat),.int .i64 k,.int .i64 v,.int .i64 (k+1:Nat)] 140 (0,0)):=(by rw[hW];exact heap_alloc_new _ _);rw[<-hW];have H:=Qa.mk (HP.out W hb w.heap.size 2 hG);simp only[List.length_cons,List.length_nil,Nat.zero_add] at H;replace hb:=Qa.mk hb;clear hW hG HP;refine H.out.mono ?_;rintro e w' ⟨rfl,q',h1,h2,h3⟩
   have hfin:Qa (WrP base p q (Ke l (Bf v)) w w'):=⟨by
    refine⟨q',?_,?_,(Kp.of_below hb.out p q).trans h3 (.inl rfl)⟩
    ·rw[hE.out.1,hE.out.2] at h1
     exact h1
    ·rcases h2 with e|⟨g,e,hg⟩
     ·exact .inl e
     ·exact .inr ⟨g,e,Nat.le_trans hb.out.size hg⟩⟩
   rw[hE.out.1];obtain⟨E,hEe⟩: ∃E:Int,(if l.length+(Bf v).length >1048576 then 2 else 0)=E:=⟨_,rfl⟩;rw[hEe];have hEr:Qa (Cv l (Bf v)=E):=⟨hEe⟩;clear h1 h2 h3 H hEe;go_wp2_with fail;go_ret;exact⟨by rw[hEr.out];rfl,hfin.out⟩
end Bts

namespace Bk
theorem Yu (k k':IntKind) (x y:Int):Builtin.max2 (.int k x) (.int k' y)=pure (.int k (max x y)):=by
 simp only[Builtin.max2,gt_iff_lt];by_cases h:x<y
 ·rw[if_pos h,show max x y=y by omega]
 ·rw[if_neg h,show max x y=x by omega]
theorem Yv (k k':IntKind) (x y:Int):Builtin.min2 (.int k x) (.int k' y)=pure (.int k (min x y)):=by
 simp only[Builtin.min2];by_cases h:y<x
 ·rw[if_pos h,show min x y=y by omega]
 ·rw[if_neg h,show min x y=x by omega]
attribute [local go_sem] Yu Yv Qk Ql Qg Qh
open Q15
def dimL:List Nat:=[1,4,4,2,2,2,2,1]
def mostL:List Int:=[0,1,2,4,7,12,15,31]
def escL:List Bool:=[false,false,false,false,false,false,true,true]
def Jl (k:Nat):Nat:=dimL.getD k 1
def Xt (k:Nat):Int:=mostL.getD k 0
def T9 (k:Nat):Bool:=escL.getD k false
def szI (v:Int):Int:=max v (-v)
theorem Ws {v m:Int} (h: -m<=v/\v<=m):0<=szI v/\szI v<=m:=by unfold szI;omega
def isB (b:Int):Bool:=decide (0<=b/\b<8)
def Yo (l:List Int):Bool:=Q16.rng (-1023) 1023 l
theorem Jd {l:List Int} (h:Yo l=true) {x:Int} (hx:x∈l): -1023<=x/\x<=1023:=by
 have:=List.all_eq_true.1 h x hx;simpa using this
def bkE (b:Int) (l:List Int):Int:=if isB b=true then(if Yo l=true then 0 else 6) else 5
def F8 (d:Nat) (m:Int) (e:Bool) (l:List Int):Bool:=l.all (fun v=>decide (szI v<=m)||e)&&decide (l.length%d=0)
def Z7 (v:Int):Int:=2*(v.toNat.log2:Int)+1
def J4 (m:Int) (e:Bool) (v:Int):Int:=if v=0 then 0 else if e=true/\m<=szI v then 1+Z7 (szI v-m+1) else 1
def Ri (m v:Int):Int:=min (szI v) m
def Fw (m:Int) (l:List Int):Int:=l.foldl (fun s d=>s*(m+1)+d) 0
def S9 (m:Int) (l:List Int):Int:=Fw m (l.map (Ri m))
def frm (d:Nat) (m:Int) (e:Bool):Value:= .agg #[.int .i64 d,.int .i64 m,.bool e]
theorem Uz (k:Nat):1<=Jl k/\Jl k<=4:=by
 by_cases h:k<8
 ·have: ∀k,k<8->1<=Jl k/\Jl k<=4:=by decide
  exact this k h
 ·unfold Jl;rw[List.getD_eq_getElem?_getD,List.getElem?_eq_none (by simpa[dimL] using h)];decide
theorem Vu (k:Nat):0<=Xt k/\Xt k<=31:=by
 by_cases h:k<8
 ·have: ∀k,k<8->0<=Xt k/\Xt k<=31:=by decide
  exact this k h
 ·unfold Xt;rw[List.getD_eq_getElem?_getD,List.getElem?_eq_none (by simpa[mostL] using h)];decide
theorem Qa7 (b:Int) (w:World) (h0: -1000000<=b) (h1:b<=1000000):
  Calls Tryz.prog 229 #[.int .i64 b] w fun e w'=>e= .returned (.bool (isB b))/\Below w.heap.size w w':=by
 have hb:=Below.refl w.heap.size w;by_cases h:0<=b
 ·by_cases h2:b<8
  ·have hi:Qa (isB b=true):=⟨decide_eq_true ⟨h,h2⟩⟩
   go_enter Tryz.func229,Tryz.ntmps229;go_wp2;go_ret;exact⟨by rw[hi.out];simp[h2],hb⟩
  ·have hi:Qa (isB b=false):=⟨decide_eq_false (by omega)⟩
   go_enter Tryz.func229,Tryz.ntmps229;go_wp2;go_ret;exact⟨by rw[hi.out];simp[h2],hb⟩
 ·have hi:Qa (isB b=false):=⟨decide_eq_false (by omega)⟩
  go_enter Tryz.func229,Tryz.ntmps229;go_wp2;go_ret;exact⟨by rw[hi.out];rfl,hb⟩
theorem Gm (v:Int) (w:World) (h0: -1000000<=v) (h1:v<=1000000):
  Calls Tryz.prog 196 #[.int .i64 v] w fun e w'=>e= .returned (.int .i64 (szI v))/\Below w.heap.size w w':=by
 have hb:=Below.refl w.heap.size w;go_enter Tryz.func196,Tryz.ntmps196;go_wp2;go_ret;exact⟨rfl,hb⟩
theorem Qdn (A:Option Addr) (cap:Nat) (l:List Int) (w:World) (hr:(Kd.int .i64).C w A l.length l) (hl:l.length<=1000000):
  Calls Tryz.prog 230 #[.slice A l.length cap] w fun e w'=>e= .returned (.bool (Yo l))/\Below w.heap.size w w':=by
 have HR:=Qa.mk hr;have hlI:(l.length:Int)<=1000000:=(by omega);have HF:Qa (∀k,k<l.length-> ¬((-1023)<=rd l k/\rd l k<=1023)->Yo l=false):=⟨fun k hk h=>List.all_eq_false.2 ⟨_,Qt l k hk,by simpa using h⟩⟩;have HT:Qa ((∀x∈l,(-1023)<=x/\x<=1023)->Yo l=true):=⟨fun h=>List.all_eq_true.2 fun x hx=>decide_eq_true (h x hx)⟩;obtain⟨b,hbe⟩: ∃b,b=Yo l:=⟨_,rfl⟩;rw[<-hbe] at HF HT ⊢;clear hr hl hbe;go_enter Tryz.func230,Tryz.ntmps230;go_wp2;go_loopw [7] (fun i wr=> ∃k:Nat,i= .int .i64 k/\k<=l.length/\Qa (∀x∈l.take k,(-1023)<=x/\x<=1023)/\Below w.heap.size w wr) (fun i _=>l.length-(intOf i).toNat)
 case atStart=>exact⟨0,rfl,by omega,⟨by simp⟩,Below.refl _ _⟩
 case round=>
  obtain⟨k,rfl,hk,ha,hb⟩:=hrel;by_cases hlt:k<l.length
  ·obtain⟨ad,rfl,hcell⟩:=Qq HR.out hb hlt
   have hT:=Qa.mk (Qx l k hlt);have hf:=HF.out k hlt;have hkI:(k:Int)<(l.length:Int):=(by omega);obtain⟨n,hx⟩: ∃n,n=rd l k:=⟨_,rfl⟩;rw[<-hx] at hcell hT hf;replace hf:=Qa.mk hf;clear hx;by_cases h1:n<(-1023)
   ·have hff:=Qa.mk (hf.out (by omega))
    go_wp2;go_ret;exact⟨by rw[hff.out];rfl,hb⟩
   ·by_cases h2:1023<n
    ·have hff:=Qa.mk (hf.out (by omega))
     have h1':decide (n<(-1023))=false:=(by simpa using h1);go_wp2;go_ret;exact⟨by rw[hff.out];rfl,hb⟩
    ·have h1':decide (n<(-1023))=false:=by simpa using h1
     have h2':decide (1023<n)=false:=(by simpa using h2);have h3:Qa ((-1023)<=n/\n<=1023):=⟨by omega⟩;clear h1 h2;go_wp2;go_roundw
     case rel=>exact⟨k+1,by go_num,by omega,⟨by
      rw[hT.out];intro x hx;rcases List.mem_append.1 hx with hx|hx
      ·exact ha.out x hx
      ·rw[List.mem_singleton.1 hx];exact h3.out⟩,hb⟩
     case measure=>simp[intOf];omega
  ·obtain rfl:k=l.length:=by omega
   have hA:=ha.out;rw[List.take_length] at hA;have hff:=Qa.mk (HT.out hA);clear ha hA;go_wp2;go_ret;exact⟨by rw[hff.out];rfl,hb⟩
theorem Vp (b:Int) (A:Option Addr) (cap:Nat) (l:List Int) (w:World) (h0: -1000000<=b) (h1:b<=1000000) (hr:(Kd.int .i64).C w A l.length l) (hl:l.length<=1000000):
  Calls Tryz.prog 213 #[.int .i64 b,.slice A l.length cap] w fun e w'=>e= .returned (.int .i64 (bkE b l))/\Below w.heap.size w w':=by
 have hb:=Below.refl w.heap.size w;have HT:=Qa.mk (fun(W:World)=>Qa7 b W h0 h1);have HA:=Qa.mk (fun(W:World) (hb:Below w.heap.size w W)=>Qdn A cap l W (Kd.Qe hr hb) hl);have hE:Qa (bkE b l=if isB b=true then(if Yo l=true then 0 else 6) else 5):=⟨rfl⟩;obtain⟨t,ht⟩: ∃t,t=isB b:=⟨_,rfl⟩;obtain⟨a,ha⟩: ∃a,a=Yo l:=⟨_,rfl⟩;rw[<-ht] at HT hE;rw[<-ha] at HA hE;clear ht ha hr hl;rcases t with _|_
 ·go_enter Tryz.func213,Tryz.ntmps213
  go_wp2_with (first|(go_at_call 229;refine((HT.out _)).mono ?_;rintro e w' ⟨rfl,hbn⟩;replace hb:=bnx hb hbn;clear hbn));go_ret;exact⟨by rw[hE.out];rfl,hb⟩
 ·rcases a with _|_
  ·go_enter Tryz.func213,Tryz.ntmps213
   go_wp2_with (first|(go_at_call 229;refine((HT.out _)).mono ?_;rintro e w' ⟨rfl,hbn⟩;replace hb:=bnx hb hbn;clear hbn)|(go_at_call 230;refine((HA.out _ hb)).mono ?_;rintro e w' ⟨rfl,hbn⟩;replace hb:=bnx hb hbn;clear hbn));go_ret;exact⟨by rw[hE.out];rfl,hb⟩
  ·go_enter Tryz.func213,Tryz.ntmps213
   go_wp2_with (first|(go_at_call 229;refine((HT.out _)).mono ?_;rintro e w' ⟨rfl,hbn⟩;replace hb:=bnx hb hbn;clear hbn)|(go_at_call 230;refine((HA.out _ hb)).mono ?_;rintro e w' ⟨rfl,hbn⟩;replace hb:=bnx hb hbn;clear hbn));go_ret;exact⟨by rw[hE.out];rfl,hb⟩
theorem Cg {v:Int} (h:1<v):Z7 v=Z7 (v/2)+2:=by
 unfold Z7;rw[show(v/2).toNat =v.toNat/2 by omega];rw[Nat.log2_def v.toNat,if_pos (by omega)]
 push_cast
 omega
theorem Im {v:Int} (h:v<=1):Z7 v=1:=by
 unfold Z7;rw[Nat.log2_def,if_neg (by omega)];rfl
theorem Io (v:Int) (w:World) (h0: -1000000<=v) (h1:v<=1000000):
  Calls Tryz.prog 237 #[.int .i64 v] w fun e w'=>e= .returned (.int .i64 (Z7 v))/\Below w.heap.size w w':=by
 have hb:=Below.refl w.heap.size w;obtain⟨G,hG⟩: ∃G,G=Z7 v:=⟨_,rfl⟩;rw[<-hG];replace hG:=Qa.mk hG;go_enter Tryz.func237,Tryz.ntmps237;go_wp2;go_loopw [0,3] (fun x o wr=> ∃u n:Int,x= .int .i64 u/\o= .int .i64 n/\ -1000000<=u/\u<=1000000/\1<=n/\n+2*u<=2000100/\n<=2000100/\Qa (G+1=n+Z7 u)/\Below w.heap.size w wr) (fun x _ _=>(intOf x).toNat)
 case atStart=>exact⟨v,1,rfl,rfl,h0,h1,by omega,by omega,by omega,⟨by rw[hG.out];omega⟩,hb⟩
 case round=>
  obtain⟨u,n,rfl,rfl,hu0,hu1,hn0,hnu,hn1,hg,hb⟩:=hrel;by_cases h2:1<u
  ·have hs:=Qa.mk (Cg h2)
   have hd:Int.tdiv u 2=u/2:=Int.tdiv_eq_ediv_of_nonneg (by omega);obtain⟨q,hq⟩: ∃q,q=u/2:=⟨_,rfl⟩;rw[<-hq] at hs hd;have hq1:1<=q/\q+1<=u:=(by omega);clear hq;go_wp2;go_roundw
   case rel=>exact⟨q,n+2,by go_num,by go_num,by omega,by omega,by omega,by omega,by omega,⟨by have:=hg.out;have:=hs.out;omega⟩,hb⟩
   case measure=>simp[intOf];omega
  ·have hs:=Qa.mk (Im (v:=u) (by omega))
   have hr:Qa (n=G):=⟨by have:=hg.out;have:=hs.out;omega⟩;go_wp2;go_ret;exact⟨by rw[<-hr.out];rfl,hb⟩
end Bk

namespace Sp
open Bk (Yu Yv)
attribute [local go_sem] Yu Yv Qk Ql Qg Qh
open Q15
open Q21
def rnd4 (a:Int):Int:=(2*a+4096)/8192
def Jw (v:Int):Int:=min 2097152 (max (-2097152) v)
theorem rnd4_bd {a m:Int} (h: -m<=a/\a<=m): -m<=rnd4 a/\rnd4 a<=m+1:=by unfold rnd4;omega
theorem Ia (v:Int): -2097152<=Jw v/\Jw v<=2097152:=by unfold Jw;omega
theorem Ik (x:Int) (w:World) (h0: -2251799813685248<=x) (h1:x<=2251799813685248):
  Calls Tryz.prog 122 #[.int .i64 x,.int .i64 8192] w fun e w'=>e= .returned (.int .i64 (x/8192))/\Below w.heap.size w w':=by
 have ht:=tq x 8192 (by decide);have hq: -2251799813685248<=x.tdiv 8192/\x.tdiv 8192<=2251799813685248:=(by omega);by_cases hm:x.tmod 8192<0
 ·have e:Qa (x/8192=x.tdiv 8192-1):=⟨by omega⟩
  clear ht;obtain⟨r,hr⟩: ∃r,r=x/8192:=⟨_,rfl⟩;rw[<-hr] at e ⊢;clear hr;go_enter Tryz.func122,Tryz.ntmps122;go_wp2;go_ret;exact⟨by rw[e.out];rfl,Below.refl _ _⟩
 ·have e:Qa (x/8192=x.tdiv 8192):=⟨by omega⟩
  have hm':decide (x.tmod 8192<0)=false:=(by simpa using hm);clear ht;obtain⟨r,hr⟩: ∃r,r=x/8192:=⟨_,rfl⟩;rw[<-hr] at e ⊢;clear hr;go_enter Tryz.func122,Tryz.ntmps122;go_wp2;go_ret;exact⟨by rw[e.out];rfl,Below.refl _ _⟩
theorem Wd (a:Int) (w:World) (h0: -562949953421312<=a) (h1:a<=562949953421312):
  Calls Tryz.prog 121 #[.int .i64 a,.int .i64 4096] w fun e w'=>e= .returned (.int .i64 (rnd4 a))/\Below w.heap.size w w':=by
 have HF:=Qa.mk (Ik (2*a+4096) w (by omega) (by omega));have hb:=Below.refl w.heap.size w;have hr:rnd4 a=(2*a+4096)/8192:=rfl;rw[<-hr] at HF;clear hr;go_enter Tryz.func121,Tryz.ntmps121;go_wp2_with fail;refine HF.out.mono ?_;rintro e w' ⟨rfl,hbn⟩;replace hb:=bnx hb hbn;clear hbn HF;go_wp2;go_ret;exact⟨rfl,hb⟩
theorem Eo (a:Int) (w:World) (h0: -562949953421312<=a) (h1:a<=562949953421312):
  Calls Tryz.prog 120 #[.int .i64 a,.int .i64 4096,.func (.func 121) #[] #[]] w fun e w'=>e= .returned (.tuple #[.int .i64 (rnd4 a),.int .i64 0])/\Below w.heap.size w w':=by
 have HF:=Qa.mk (fun W=>Wd a W h0 h1);have hb:=Below.refl w.heap.size w;have t1:decide (a< -1152921504606846976)=false:=decide_eq_false (by omega);have t2:decide (1152921504606846976<a)=false:=decide_eq_false (by omega);replace h0:=Qa.mk h0;replace h1:=Qa.mk h1;go_enter Tryz.func120,Tryz.ntmps120;go_wp2_with fail;refine(HF.out _).mono ?_;rintro e w' ⟨rfl,hbn⟩;replace hb:=bnx hb hbn;clear hbn HF;go_wp2;go_ret2;exact⟨rfl,hb⟩
theorem Ox (a:Int) (w:World) (h0: -562949953421312<=a) (h1:a<=562949953421312):
  Calls Tryz.prog 72 #[.int .i64 a,.int .i64 4096] w fun e w'=>e= .returned (.tuple #[.int .i64 (rnd4 a),.int .i64 0])/\Below w.heap.size w w':=by
 have HF:=Qa.mk (fun W=>Eo a W h0 h1);have hb:=Below.refl w.heap.size w;clear h0 h1;go_enter Tryz.func72,Tryz.ntmps72;go_wp2_with fail;refine(HF.out _).mono ?_;rintro e w' ⟨rfl,hbn⟩;replace hb:=bnx hb hbn;clear hbn HF;go_wp2;go_ret2;exact⟨rfl,hb⟩
theorem Rh (v:Int) (w:World):
  Calls Tryz.prog 73 #[.int .i64 v] w fun e w'=>e= .returned (.int .i64 (Jw v))/\Below w.heap.size w w':=by
 have hb:=Below.refl w.heap.size w;go_enter Tryz.func73,Tryz.ntmps73;go_wp2;go_ret;exact⟨rfl,hb⟩
end Sp

namespace St
open Bk (Yu Yv)
attribute [local go_sem] Yu Yv Qk Ql Qg Qh
open Q15
open Q21
theorem Tt (x m:Int) (B:Nat) (w:World) (hc:w.cell? ⟨B,0,none⟩=some (.int .i64 m)) (h0: -m<=x) (h1:x<=m) (h2:m<=1099511627776):
  Calls Tryz.prog 175 #[.int .i64 x,.pointer (some ⟨B,0,none⟩)] w fun e w'=>e= .returned (.bool true)/\w'=w:=by
 have t1:decide (-m<=x)=true:=decide_eq_true h0;have t2:decide (x<=m)=true:=decide_eq_true h1;have hm:0<=m:=(by omega);clear h0 h1;go_enter Tryz.func175,Tryz.ntmps175;go_wp2;go_ret;exact⟨rfl,rfl⟩
theorem R5 (m:Int) (w:World):
  Calls Tryz.prog 125 #[.int .i64 m] w fun e w'=>e= .returned (.func (.func 175) #[] #[.pointer (some ⟨w.heap.size,0,none⟩)])/\w'=w.alloc (.cells #[.int .i64 m] 3):=by
 go_enter Tryz.func125,Tryz.ntmps125;go_wp2;go_ret;exact⟨rfl,rfl⟩
def Qa4 (m s:Int):Int:=m-s/2
def sideL (m s:Int):Int:=Qa4 m s+s
theorem Oy (m s:Int) (w:World) (hm: -4294967296<=m/\m<=4294967296) (hs: -4294967296<=s/\s<=4294967296):
  Calls Tryz.prog 75 #[.int .i64 m,.int .i64 s] w fun e w'=>e= .returned (.tuple #[.int .i64 (sideL m s),.int .i64 (Qa4 m s),.int .i64 0])/\Below w.heap.size w w':=by
 have hI:=Qa.mk (R5 4294967296 w);go_enter Tryz.func75,Tryz.ntmps75;go_wp2_with fail;refine hI.out.mono ?_;rintro e w1 ⟨rfl,hw1⟩;have hb:Below w.heap.size w w1:=(by rw[hw1];exact(Below.refl _ _).alloc (Nat.le_refl _) _);have c1:w1.cell? ⟨w.heap.size,0,none⟩=some (.int .i64 4294967296):=(by rw[hw1];go_simp);have H1:=Qa.mk (Tt m 4294967296 w.heap.size w1 c1 (by omega) (by omega) (by decide));have H2:=Qa.mk (Tt s 4294967296 w.heap.size w1 c1 (by omega) (by omega) (by decide));clear hw1 c1 hI;go_wp2_with fail;refine H1.out.mono ?_;rintro e w2 ⟨rfl,rfl⟩;go_wp2_with fail;refine H2.out.mono ?_;rintro e w3 ⟨rfl,rfl⟩;go_wp2;go_ret3;exact⟨rfl,hb⟩
open Q16 (isW Q0 Jz)
theorem E8 (A:Option Addr) (cap:Nat) (l:List Int) (w:World) (hr:(Kd.int .i64).C w A l.length l) (hw:isW l=true):
  Calls Tryz.prog 173 #[.slice A l.length cap] w fun e w'=>e= .returned (.bool true)/\Below w.heap.size w w':=by
 have HR:=Qa.mk hr;obtain⟨h1,h2,h3⟩:=Q0.1 hw;have h4:=Q16.Vi h1
 have hF:=Qa.mk (fun(k:Nat) (hk:k<l.length)=>(show 1<=rd l k/\rd l k<=128-(l.take k).sum /\(l.take (k+1)).sum =(l.take k).sum +rd l k by
  have h5:=Jz h1 (k+1);rw[Qx l k hk,List.sum_append] at h5 ⊢;simp only[List.sum_cons,List.sum_nil] at h5 ⊢;have:=h1 _ (Qt l k hk)
  omega))
 have g1:decide ((1:Int)<=(l.length:Int))=true:=decide_eq_true (by
  cases l with
  |nil=>simp at h2
  |cons=>simp;omega)
 have g2:decide ((l.length:Int)<=(32:Int))=true:=decide_eq_true (by omega);have hll:(l.length:Int)<=128:=(by omega);have hT:=Qa.mk h2;have hP:=Qa.mk h1;replace g1:=Qa.mk g1;replace g2:=Qa.mk g2;clear hr hw h1 h2 h3 h4;go_enter Tryz.func173,Tryz.ntmps173;go_wp2;go_loopw [3,8] (fun s i wr=> ∃(k:Nat) (z:Int),i= .int .i64 k/\s= .int .i64 z/\k<=l.length/\0<=z/\z<=128/\Qa (z=128-(l.take k).sum)/\Below w.heap.size w wr) (fun _ i _=>l.length-(intOf i).toNat)
 case atStart=>exact⟨0,128,rfl,rfl,by omega,by omega,by omega,⟨by simp⟩,Below.refl _ _⟩
 case round=>
  obtain⟨k,z,rfl,rfl,hk,hz0,hz1,hn,hb⟩:=hrel;by_cases hlt:k<l.length
  ·obtain⟨ad,rfl,hcell⟩:=Qq HR.out hb hlt
   obtain⟨b1,b2,b3⟩:=hF.out k hlt;rw[<-hn.out] at b2;obtain⟨n,hx⟩: ∃n,n=rd l k:=⟨_,rfl⟩;rw[<-hx] at hcell b1 b2 b3;replace b3:=Qa.mk b3;have t1:decide (n<1)=false:=decide_eq_false (by omega);have t2:decide (z<n)=false:=decide_eq_false (by omega);clear hx;go_wp2;go_roundw
   case rel=>exact⟨k+1,z-n,by go_num,rfl,by omega,by omega,by omega,⟨by rw[b3.out,hn.out];omega⟩,hb⟩
   case measure=>simp[intOf];omega
  ·obtain rfl:k=l.length:=by omega
   have hN:=hn.out;rw[List.take_length,hT.out] at hN;have hN0:z=0:=(by omega);subst hN0;have G1:=g1.out;have G2:=g2.out;clear hn hN g1 g2;go_wp2;go_ret;exact⟨rfl,hb⟩
theorem Qdr (A B C:Option Addr) (ca cb cc:Nat) (l r ws:List Int) (m:Int) (w:World) (hl:(Kd.int .i64).C w A l.length l) (hr:(Kd.int .i64).C w B r.length r) (hC:(Kd.int .i64).C w C ws.length ws) (hw:isW ws=true) (l1:l.length=128) (l2:r.length=128)
  (hm:0<=m/\m<=1099511627776) (hv: ∀k:Nat,k<128->(-m<=rd l k/\rd l k<=m)/\(-m<=rd r k/\rd r k<=m)):
  Calls Tryz.prog 123 #[.slice A l.length ca,.slice B r.length cb,.slice C ws.length cc,.int .i64 m] w fun e w'=>e= .returned (.int .i64 0)/\Below w.heap.size w w':=by
 have HW:=Qa.mk (E8 C cc ws w hC hw);have HL:=Qa.mk (fun W (hb:Below w.heap.size w W) k (hk:k<128)=>Qq hl hb (k:=k) (by omega));have HR:=Qa.mk (fun W (hb:Below w.heap.size w W) k (hk:k<128)=>Qq hr hb (k:=k) (by omega));have HV:=Qa.mk hv;rw[l1,l2];clear hl hr hC hw hv l1 l2;go_enter Tryz.func123,Tryz.ntmps123;go_wp2_with fail;refine HW.out.mono ?_;rintro e w1 ⟨rfl,hb⟩;clear HW;go_wp2;go_loopw [25] (fun i wr=> ∃k:Nat,i= .int .i64 k/\k<=128/\Below w.heap.size w wr) (fun i _=>128-(intOf i).toNat)
 case atStart=>exact⟨0,rfl,by omega,hb⟩
 case round=>
  obtain⟨k,rfl,hk,hb⟩:=hrel;by_cases hlt:k<128
  ·obtain⟨a,rfl,c1⟩:=HL.out _ hb k hlt
   obtain⟨b,rfl,c2⟩:=HR.out _ hb k hlt;obtain⟨⟨v1,v2⟩,v3,v4⟩:=HV.out k hlt;obtain⟨x,hx⟩: ∃x,x=rd l k:=⟨_,rfl⟩;obtain⟨y,hy⟩: ∃y,y=rd r k:=⟨_,rfl⟩;rw[<-hx] at c1 v1 v2;rw[<-hy] at c2 v3 v4;have t1:decide (m<max x y)=false:=decide_eq_false (by omega);have t2:decide (min x y< -m)=false:=decide_eq_false (by omega);clear hx hy v1 v2 v3 v4;go_wp2;go_quiet (fail);go_wp2;go_roundw
   case rel=>exact⟨k+1,by go_num,by omega,below_drewN' hb nq⟩
   case measure=>simp[intOf];omega
  ·obtain rfl:k=128:=by omega
   go_wp2;go_ret;exact⟨rfl,hb⟩
end St

namespace Bk
attribute [local go_sem] Yu Yv Qk Ql Qg Qh
open Q15
theorem Z6 {P:Program} {id:Nat} {ops:Array Oper} {Q:Exit->Act->World->Prop} {a:Act} {w:World} (S:World->Prop) (hm:P.follows .mixedOrders =true) (hS:S w.drew)
  (h:S w.drew->wpAnyH P .any ops Q S ops.size (Array.replicate ops.size false) a w.drew):(Code.region id ops true).wp P Q a w:=wp_region_held hm (h hS)
theorem M0 (m v:Int) (B:Nat) (w:World) (hc:w.cell? ⟨B,1,none⟩=some (.int .i64 m)) (h0: -1000000<=v) (h1:v<=1000000) (hm:0<=m/\m<=31):
  Calls Tryz.prog 233 #[.int .i64 v,.pointer (some ⟨B,0,none⟩)] w fun e w'=>e= .returned (.int .i64 (Ri m v))/\Below w.heap.size w w':=by
 have l1:=World.block_lt_of_cell? w _ hc;have HS:=Qa.mk (fun W=>Gm v W h0 h1);have hD:Qa (Ri m v=min (szI v) m):=⟨rfl⟩;rw[hD.out];obtain⟨s,hs⟩: ∃s,s=szI v:=⟨_,rfl⟩;rw[<-hs] at HS ⊢;clear hs hD;go_enter Tryz.func233,Tryz.ntmps233;go_wp2_with fail
 go_region_held3 (fun w'=>w'.cell? ⟨B,1,none⟩=some (.int .i64 m)/\Below w.heap.size w w')
  (first|exact⟨hc,Below.refl _ _⟩|exact⟨hc,(Below.refl _ _).drew⟩|exact⟨(hb.cell l1).trans hc,(Below.refl _ w).drew.trans hb⟩)
  (first|(go_at_call 196;refine(HS.out _).mono ?_;rintro e w' ⟨rfl,hb⟩))
 rename_i hh
 obtain⟨_,hh⟩:=hh;go_wp2;go_ret;exact⟨rfl,hh⟩
theorem Ga (d:Nat) (m:Int) (e:Bool) (A:Option Addr) (cap:Nat) (l:List Int) (w:World) (hd:1<=d/\d<=4) (hm:0<=m/\m<=31) (hr:(Kd.int .i64).C w A l.length l) (hl:l.length<=1000000) (hA:Yo l=true):
  Calls Tryz.prog 214 #[frm d m e,.slice A l.length cap] w fun en w'=>en= .returned (.bool (F8 d m e l))/\Below w.heap.size w w':=by
 have HR:=Qa.mk hr;have hlI:(l.length:Int)<=1000000:=(by omega);have hu:=Tryz.underlying194
 have HF:Qa (∀k,k<l.length->m<szI (rd l k)->e=false->F8 d m e l=false):=⟨fun k hk h he=>by
  unfold F8
  rw[show l.all (fun v=>decide (szI v<=m)||e)=false from List.all_eq_false.2 ⟨_,Qt l k hk,by rw[he,decide_eq_false (by omega)];simp⟩,Bool.false_and]⟩
 have HT:Qa ((∀x∈l,szI x<=m\/e=true)->F8 d m e l=decide (l.length%d=0)):=⟨fun h=>by
  unfold F8
  rw[show l.all (fun v=>decide (szI v<=m)||e)=true from List.all_eq_true.2 fun x hx=>by rcases h x hx with h|h<;>simp[h],Bool.true_and]⟩
 have HB:Qa (∀k,k<l.length-> -1000000<=rd l k/\rd l k<=1000000):=⟨fun k hk=>by have:=Jd hA (Qt l k hk);omega⟩;obtain⟨b,hbe⟩: ∃b,b=F8 d m e l:=⟨_,rfl⟩;rw[<-hbe] at HF HT ⊢;have hrem:Int.tmod (l.length:Int) (d:Int)=((l.length%d:Nat):Int):=rfl;obtain⟨R,hR⟩: ∃R,R=l.length%d:=⟨_,rfl⟩;rw[<-hR] at hrem HT;have hR9:(R:Int)<=1000000:=(by have:=Nat.mod_le l.length d;omega);have hdI:1<=(d:Int)/\(d:Int)<=4:=(by omega);have hd0: ¬(d:Int)=0:=(by omega);clear hr hl hbe hA hR;unfold frm;go_enter Tryz.func214,Tryz.ntmps214;go_wp2;obtain⟨W0,hW0⟩: ∃W0,W0=w.alloc (.cells #[.int .i64 d,.int .i64 m,.bool e] 194):=⟨_,rfl⟩;rw[<-hW0];have hb0:Below w.heap.size w W0:=(by rw[hW0];exact(Below.refl _ _).alloc (Nat.le_refl _) _);have c0:W0.cell? ⟨w.heap.size,0,none⟩=some (.int .i64 d):=(by rw[hW0];simp[go_sem]);have c1:W0.cell? ⟨w.heap.size,1,none⟩=some (.int .i64 m):=(by rw[hW0];simp[go_sem]);have c2:W0.cell? ⟨w.heap.size,2,none⟩=some (.bool e):=(by rw[hW0];simp[go_sem]);clear hW0;go_loopw [9] (fun i wr=> ∃k:Nat,i= .int .i64 k/\k<=l.length/\Qa (∀x∈l.take k,szI x<=m\/e=true)/\Below W0.heap.size W0 wr) (fun i _=>l.length-(intOf i).toNat)
 case atStart=>exact⟨0,rfl,by omega,⟨by simp⟩,Below.refl _ _⟩
 case round=>
  obtain⟨k,rfl,hk,ha,hb⟩:=hrel;have c0:=cnx c0 hb;have c1:=cnx c1 hb;have c2:=cnx c2 hb;by_cases hlt:k<l.length
  ·obtain⟨ad,rfl,hcell⟩:=Qq HR.out (bnx hb0 hb) hlt
   have hT:=Qa.mk (Qx l k hlt);have hf:=HF.out k hlt;have hbd:=HB.out k hlt;have hkI:(k:Int)<(l.length:Int):=(by omega);obtain⟨n,hx⟩: ∃n,n=rd l k:=⟨_,rfl⟩;rw[<-hx] at hcell hT hf hbd;have HS:=Qa.mk (fun W=>Gm n W hbd.1 hbd.2);obtain⟨s,hs⟩: ∃s,s=szI n:=⟨_,rfl⟩;rw[<-hs] at HS hf;have hs9:0<=s/\s<=1000000:=(by rw[hs];exact Ws hbd);replace hf:=Qa.mk hf;replace hs:=Qa.mk hs;clear hx;have l1:=World.block_lt_of_cell? wr _ c1;have fin: ∀W:World,Below wr.heap.size wr W->Below w.heap.size w W:=fun W h=>bnx hb0 (bnx hb h)
   by_cases h1:m<s
   ·rcases e with _|_
    ·have hff:=Qa.mk (hf.out h1 rfl)
     go_wp2_with fail;refine Z6 (fun w'=>w'.cell? ⟨w.heap.size,1,none⟩=some (.int .i64 m)/\w'.cell? ⟨w.heap.size,2,none⟩=some (.bool false)/\Below wr.heap.size wr w') (by kernel_rfl) ⟨c1,c2,(Below.refl _ _).drew⟩ (fun hHeld=> ?_)
     (refine Tk.tk 0 (.int .i64 n) hHeld ?_)
     (refine Tk.tk 2 (.pointer (some ⟨w.heap.size,1,none⟩)) hHeld ?_)
     (refine Tk.tk 3 (.int .i64 m) hHeld ?_)
     (refine wpAnyH_ready (rs:=[1]) (by kernel_rfl) (by simp) ?_;refine AllReadyH.cons rfl (fun K hK=> ?_) AllReadyH.nil;go_simp)
     refine(HS.out _).mono ?_;rintro e w1 ⟨rfl,hb1⟩
     (go_wp2_with fail;refine hK.out _ _ (⟨cnx hHeld.1 hb1,cnx hHeld.2.1 hb1,bnx hHeld.2.2 hb1⟩) (fun hHeld=> ?_);clear hK K;try simp only[Act.put,Tk.z1,Tk.z2,Tk.z3,Tk.z4,Tk.z5,Tk.z6])
     (refine Tk.tk 4 (.bool true) hHeld ?_)
     (refine Tk.tk 5 (.bool true) hHeld ?_)
     (refine Tk.tk 6 (.pointer (some ⟨w.heap.size,2,none⟩)) hHeld ?_)
     (refine Tk.tk 7 (.bool false) hHeld ?_)
     (refine Tk.tk 8 (.bool (!false)) hHeld ?_)
     (refine Tk.tk 9 (.bool (!false)) hHeld ?_)
     refine wpAnyH_done (by kernel_rfl) ?_ _;obtain⟨_,_,hh⟩:=hHeld
     try simp only[Bool.not_false,Bool.not_true]
     go_wp2;go_ret;exact⟨by rw[hff.out];rfl,fin _ hh⟩
    ·have hq:True:=trivial
     go_wp2_with fail;refine Z6 (fun w'=>w'.cell? ⟨w.heap.size,1,none⟩=some (.int .i64 m)/\w'.cell? ⟨w.heap.size,2,none⟩=some (.bool true)/\Below wr.heap.size wr w') (by kernel_rfl) ⟨c1,c2,(Below.refl _ _).drew⟩ (fun hHeld=> ?_)
     (refine Tk.tk 0 (.int .i64 n) hHeld ?_)
     (refine Tk.tk 2 (.pointer (some ⟨w.heap.size,1,none⟩)) hHeld ?_)
     (refine Tk.tk 3 (.int .i64 m) hHeld ?_)
     (refine wpAnyH_ready (rs:=[1]) (by kernel_rfl) (by simp) ?_;refine AllReadyH.cons rfl (fun K hK=> ?_) AllReadyH.nil;go_simp)
     refine(HS.out _).mono ?_;rintro e w1 ⟨rfl,hb1⟩
     (go_wp2_with fail;refine hK.out _ _ (⟨cnx hHeld.1 hb1,cnx hHeld.2.1 hb1,bnx hHeld.2.2 hb1⟩) (fun hHeld=> ?_);clear hK K;try simp only[Act.put,Tk.z1,Tk.z2,Tk.z3,Tk.z4,Tk.z5,Tk.z6])
     (refine Tk.tk 4 (.bool true) hHeld ?_)
     (refine Tk.tk 5 (.bool true) hHeld ?_)
     (refine Tk.tk 6 (.pointer (some ⟨w.heap.size,2,none⟩)) hHeld ?_)
     (refine Tk.tk 7 (.bool true) hHeld ?_)
     (refine Tk.tk 8 (.bool (!true)) hHeld ?_)
     (refine Tk.tk 9 (.bool (!true)) hHeld ?_)
     refine wpAnyH_done (by kernel_rfl) ?_ _;obtain⟨_,_,hh⟩:=hHeld
     try simp only[Bool.not_false,Bool.not_true]
     go_wp2;go_roundw
     case rel=>exact⟨k+1,by go_num,by omega,⟨by
      rw[hT.out];intro x hx
      exact .inr trivial⟩,bnx hb hh⟩
     case measure=>simp[intOf];omega
   ·have h3:Qa (szI n<=m):=⟨by rw[<-hs.out];omega⟩
    have h1':Qa (decide (m<s)=false):=⟨by simpa using h1⟩;clear h1;go_wp2_with fail;replace h1':=h1'.out;refine Z6 (fun w'=>w'.cell? ⟨w.heap.size,1,none⟩=some (.int .i64 m)/\w'.cell? ⟨w.heap.size,2,none⟩=some (.bool e)/\Below wr.heap.size wr w') (by kernel_rfl) ⟨c1,c2,(Below.refl _ _).drew⟩ (fun hHeld=> ?_)
    (refine Tk.tk 0 (.int .i64 n) hHeld ?_)
    (refine Tk.tk 2 (.pointer (some ⟨w.heap.size,1,none⟩)) hHeld ?_)
    (refine Tk.tk 3 (.int .i64 m) hHeld ?_)
    (refine wpAnyH_ready (rs:=[1]) (by kernel_rfl) (by simp) ?_;refine AllReadyH.cons rfl (fun K hK=> ?_) AllReadyH.nil;go_simp)
    refine(HS.out _).mono ?_;rintro e w1 ⟨rfl,hb1⟩
    (go_wp2_with fail;refine hK.out _ _ (⟨cnx hHeld.1 hb1,cnx hHeld.2.1 hb1,bnx hHeld.2.2 hb1⟩) (fun hHeld=> ?_);clear hK K;try simp only[Act.put,Tk.z1,Tk.z2,Tk.z3,Tk.z4,Tk.z5,Tk.z6])
    (refine Tk.tk 4 (.bool false) hHeld ?_)
    (refine Tk.tk 5 (.bool false) hHeld ?_)
    (refine Tk.tz 6 hHeld ?_)
    (refine Tk.tz 7 hHeld ?_)
    (refine Tk.tz 8 hHeld ?_)
    (refine Tk.tk 9 (.bool false) hHeld ?_)
    refine wpAnyH_done (by kernel_rfl) ?_ _;obtain⟨_,_,hh⟩:=hHeld
    try simp only[Bool.not_false,Bool.not_true]
    go_wp2;go_roundw
    case rel=>exact⟨k+1,by go_num,by omega,⟨by
     rw[hT.out];intro x hx;rcases List.mem_append.1 hx with hx|hx
     ·exact ha.out x hx
     ·rw[List.mem_singleton.1 hx];exact .inl h3.out⟩,bnx hb hh⟩
    case measure=>simp[intOf];omega
  ·obtain rfl:k=l.length:=by omega
   have hA:=ha.out;rw[List.take_length] at hA;have hff:=Qa.mk (HT.out hA);clear ha hA;go_wp2;go_ret;exact⟨by rw[hff.out];have h9:decide ((R:Int)=0)=decide (R=0):=decide_eq_decide.2 (by omega);rw[<-h9];rfl,bnx hb0 hb⟩
end Bk

end Go.Proofs.YtnflnicdjioflaaGreatDoor
