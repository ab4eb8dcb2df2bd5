/- A part of the proof. -/
import Derived.Test.YtnflnicdjioflaaGreatDoorMdan
import Derived.Test.YtnflnicdjioflaaGreatDoorMdax
set_option linter.unusedVariables false
set_option linter.unusedSimpArgs false
set_option maxRecDepth 100000
set_option maxHeartbeats 8000000
namespace Go.Proofs.YtnflnicdjioflaaGreatDoor
open Go.RowKit Go.Proofs.YtnflnicdjioflaaGreatDoorW.PrintWords Go.Proofs.YtnflnicdjioflaaGreatDoorW.PrintLast Go.Proofs.YtnflnicdjioflaaGreatDoorW.PrintMore
namespace Rq
attribute [local go_sem] Qi Qj Qk Ql Qg Qh
open Q15
open Q21
open St (at_ ge_ Gl sV)
open Bts (Rws Blk Rws.start)
def krO (n:Int):Int:=2^(16-n.toNat)
def krI (l:List Int):Int:=(l.map krO).sum
theorem krO_bd (n:Int):1<=krO n/\krO n<=65536:=by
 unfold krO;obtain⟨m,hm⟩: ∃m,m=16-n.toNat:=⟨_,rfl⟩;have h16:m<=16:=(by omega);rw[<-hm];clear hm;have: ∀m:Nat,m<=16->(1:Int)<=2^m/\(2:Int)^m<=65536:=(by decide);exact this m h16
theorem krI_take (l:List Int) {k:Nat} (hk:k<l.length):krI (l.take (k+1))=krI (l.take k)+krO (rd l k):=by
 rw[Qx l k hk];unfold krI;rw[List.map_append,List.sum_append];simp
theorem krI_bd (l:List Int):0<=krI l/\krI l<=65536*l.length:=by
 unfold krI
 induction l with
 |nil=>simp
 |cons a t ih=>
  have:=krO_bd a;simp only[List.map_cons,List.sum_cons,List.length_cons];omega
theorem Av (A:Option Addr) (cap:Nat) (l:List Int) (w:World) (hr:(Kd.int .i64).C w A l.length l) (h1:1<=l.length) (hl:l.length<=256) (h16: ∀n∈l,1<=n/\n<=16) (hk:krI l<=65536):
  Calls Tryz.prog 228 #[.slice A l.length cap] w fun e w'=>e= .returned (.int .i64 0)/\Below w.heap.size w w':=by
 have hlI:(l.length:Int)<=256:=(by omega);have HR:=Qa.mk hr;have H16:=Qa.mk (fun k (hk:k<l.length)=>h16 _ (Qt l k hk));have HB:=Qa.mk (fun k=>krI_bd (l.take k));have HK:=Qa.mk hk;have H1:=Qa.mk h1;clear hr h16 hl hk h1;go_enter Tryz.func228,Tryz.ntmps228;go_wp2_with fail;go_loop [3,4,12] (fun b s i=> ∃k:Nat,i= .int .i64 k/\k<=l.length/\(∃v,b= .bool v/\Qa (0<k->v=true))/\s= .int .i64 (krI (l.take k))) (fun _ _ i=>l.length-(intOf i).toNat)
 case atStart=>exact⟨0,rfl,by omega,⟨_,rfl,⟨fun h=>absurd h (by omega)⟩⟩,rfl⟩
 case round=>
  obtain⟨k,rfl,hk,⟨v,rfl,hv⟩,rfl⟩:=hrel;by_cases hlt:k<l.length
  ·obtain⟨ad,rfl,hcell⟩:=Qq HR.out (Below.refl _ _) hlt
   have hkI:(k:Int)<(l.length:Int):=(by omega);have hT:=krI_take l hlt;have hx:=H16.out k hlt;have hbd:=HB.out k;have htl:((l.take k).length :Int)<=256:=(by rw[List.length_take];omega);obtain⟨s,hs⟩: ∃s,s=krI (l.take k):=⟨_,rfl⟩;rw[<-hs] at hbd hT ⊢;have hsb:0<=s/\s<=16777216:=(by omega);obtain⟨x,hxe⟩: ∃x,x=rd l k:=⟨_,rfl⟩;rw[<-hxe] at hx hcell hT;have hfb:=krO_bd x;clear hbd htl hs hxe hv;have h0:0<x:=(by omega);have h9: ¬x<0:=(by omega);have h17: ¬16<x:=(by omega);replace hT:=Qa.mk hT;have hlt':=Qa.mk hlt;clear hlt;go_wp2_with fail
   have hsh:wrap64 (s+wrap64 (2^(16-x).toNat))=s+krO x:=by
    have e:(2:Int)^(16-x).toNat =krO x:=by
     unfold krO;rw[show(16-x).toNat =16-x.toNat from by omega]
    rw[e,IntWalk.wrap64_in (krO x) (by omega),IntWalk.wrap64_in _ (by omega)]
   go_round
   case rel=>exact⟨k+1,by go_num,hlt'.out,⟨_,rfl,⟨fun _=>rfl⟩⟩,by rw[hT.out,hsh]⟩
   case measure=>have:=hlt'.out;simp[intOf];omega
  ·obtain rfl:k=l.length:=by omega
   obtain rfl:v=true:=hv.out (by have:=H1.out;omega);have hK2:=HK.out;have hK3: ¬65536<krI l:=(by omega);rw[List.take_length];clear hK2;go_wp2_with fail;go_ret;exact⟨rfl,Below.refl _ _⟩
theorem Ey {w wr:World} {g t:Nat} {ys:List Int} (h:Rws w wr [] [⟨g,(ys.map (Value.int .i64)).toArray,t⟩]) (j:Nat) (v:Int):Rws w (wr.setCell ⟨g,j,none⟩ (.int .i64 v)) [] [⟨g,((ys.set j v).map (Value.int .i64)).toArray,t⟩]:=by
 have h2:=Gl h 0 rfl j (.int .i64 v);rw[List.map_set];simpa using h2
theorem Ay (A:Option Addr) (cap:Nat) (l:List Int) (w:World) (hr:(Kd.int .i64).C w A l.length l) (h1:1<=l.length) (hl:l.length<=256) (h16: ∀n∈l,1<=n/\n<=16) (hk:krI l<=65536):
  Calls Tryz.prog 202 #[.slice A l.length cap] w fun e w'=> ∃(g:Nat) (xs:List Int),e= .returned (.tuple #[.slice (some ⟨g,0,none⟩) l.length l.length,.int .i64 0])/\xs.length=l.length/\Rws w w' [] [⟨g,(xs.map (Value.int .i64)).toArray,3⟩]:=by
 have hlI:(l.length:Int)<=256:=(by omega);have HR:=Qa.mk hr;have HC:=Qa.mk (Av A cap l w hr h1 hl h16 hk);have hmk:=Sec.Ym l.length (by omega);obtain⟨Z0,hZ0⟩: ∃Z0,Z0=(List.replicate l.length (Value.int .i64 0)).toArray :=⟨_,rfl⟩;rw[<-hZ0] at hmk;have hZ:Qa (Z0=((List.replicate l.length (0:Int)).map (Value.int .i64)).toArray):=⟨by rw[hZ0];simp⟩;have hb:=Below.refl w.heap.size w;clear hr h1 hl h16 hk hZ0;go_enter Tryz.func202,Tryz.ntmps202;go_wp2_with (first|(go_at_call 228;refine(HC.out).mono ?_;rintro e w' ⟨rfl,hbn⟩;replace hb:=bnx hb hbn;clear hbn));have hR0:=((Rws.start w).step hb).alloc Z0 3;simp only[List.nil_append] at hR0;obtain⟨W0,hW0⟩: ∃W,W=w'.alloc (.cells Z0 3):=⟨_,rfl⟩;obtain⟨g,hg⟩: ∃g,g=w'.heap.size:=⟨_,rfl⟩;rw[<-hW0] at hR0 ⊢;rw[<-hg] at hR0 ⊢;rw[hZ.out] at hR0;replace hR0:=Qa.mk hR0;clear hmk hW0 hg hb hZ HC;go_loopw [6,7,8] (fun x y i wr=> ∃(a b:Int) (k:Nat) (xs:List Int),x= .int .i64 a/\y= .int .i64 b/\i= .int .i64 k/\Qa (0<=b/\b<k)/\Qa (1<=k/\k<=17)/\Qa (xs.length=l.length)/\Qa (Rws w wr [] [⟨g,(xs.map (Value.int .i64)).toArray,3⟩])) (fun _ _ i _=>17-(intOf i).toNat)
 case atStart=>exact⟨0,0,1,_,rfl,rfl,rfl,⟨by omega⟩,⟨by omega⟩,⟨by simp⟩,hR0⟩
 case round=>
  obtain⟨a,b,k,xs,rfl,rfl,rfl,hb,hk,hxs,hR⟩:=hrel;by_cases hlt:k<=16
  ·have hkI:(k:Int)<=16:=by omega
   replace hlt:=Qa.mk hlt;clear hR0;go_wp2_with fail;obtain⟨wo,hwo⟩: ∃wo,wo=wr:=⟨_,rfl⟩;subst hwo;go_loopw [6,7,25] (fun x y i wr=> ∃(a b:Int) (j:Nat) (xs:List Int),x= .int .i64 a/\y= .int .i64 b/\i= .int .i64 j/\Qa (0<=b/\b<=k)/\j<=l.length/\Qa (xs.length=l.length)/\Qa (Rws w wr [] [⟨g,(xs.map (Value.int .i64)).toArray,3⟩])) (fun _ _ i _=>l.length-(intOf i).toNat)
   case atStart=>exact⟨a,b,0,xs,rfl,rfl,rfl,⟨by have:=hb.out;omega⟩,by omega,hxs,hR⟩
   case round=>
    clear hb hR hxs;obtain⟨a2,b2,j,ys,rfl,rfl,rfl,hb,hj,hxs,hR⟩:=hrel;by_cases hjl:j<l.length
    ·obtain⟨ad,rfl,hcell⟩:=Qq HR.out hR.out.below hjl
     have hjI:(j:Int)<(l.length:Int):=(by omega);obtain⟨x,hx⟩: ∃x,x=rd l j:=⟨_,rfl⟩;rw[<-hx] at hcell;clear hx;replace hjl:=Qa.mk hjl;have hj':=Qa.mk hj;clear hj;by_cases hne:x=k
     ·have t1:(x != (k:Int))=false:=by simp[hne]
      subst hne;have gO:=at_ hR.out 0 rfl
      have m1:wr.cell? ⟨g,j,none⟩=some (.int .i64 (ys.getD j 0)):=by
       rw[Qb gO];have:j<ys.length:=(by rw[hxs.out];exact hjl.out);simp[List.getD_eq_getElem?_getD,this]
      have f1:=Qf gO j;by_cases hb0:0<b2
      ·have hbI:=hb.out
       have h39:IntKind.i64.wrap ((k:Int)-b2)=k-b2:=IntWalk.i64_in _ (by omega);have h40: ¬(k:Int)-b2<0:=(by omega);clear gO hbI;go_wp2_with fail;go_roundw
       case rel=>exact⟨_,_,j+1,_,rfl,rfl,by go_num,⟨by have:=hb.out;have:=hk.out;omega⟩,hjl.out,⟨by rw[List.length_set];exact hxs.out⟩,⟨Ey hR.out j _⟩⟩
       case measure=>have:=hjl.out;simp[intOf];omega
      ·have hb1:=Qa.mk (show b2=0 by have:=hb.out;omega)
       clear gO;go_wp2_with fail;go_roundw
       case rel=>exact⟨_,_,j+1,_,rfl,rfl,by go_num,⟨by have:=hb.out;have:=hk.out;omega⟩,hjl.out,⟨by rw[List.length_set];exact hxs.out⟩,⟨Ey hR.out j _⟩⟩
       case measure=>have:=hjl.out;simp[intOf];omega
     ·have t1:(x != (k:Int))=true:=by simpa using hne
      clear hne;go_wp2_with fail;go_roundw
      case rel=>exact⟨_,_,j+1,_,rfl,rfl,by go_num,hb,hjl.out,hxs,hR⟩
      case measure=>have:=hjl.out;simp[intOf];omega
    ·obtain rfl:j=l.length:=by omega
     go_wp2_with fail;go_roundw
     case rel=>exact⟨_,_,k+1,_,rfl,rfl,by go_num,⟨by have:=hb.out;omega⟩,⟨by have:=hk.out;have:=hlt.out;omega⟩,hxs,hR⟩
     case measure=>have:=hlt.out;simp[intOf];omega
  ·have hk2:k=17:=by have:=hk.out;omega
   subst hk2;go_wp2_with fail;go_ret2;exact⟨g,xs,rfl,hxs.out,hR.out⟩
end Rq

namespace Rq
attribute [local go_sem] Qi Qj Qk Ql Qg Qh
open Q15
def Fe (x:It):List It->List It
 |[]=>[x]
 |y::r=>if x.1<y.1 then y::Fe x r else x::y::r
def Vz (cs:List Int):Nat->List It
 |0=>[]
 |k+1=>Fe (rd cs k,k) (Vz cs k)
def osL (cs:List Int) (k:Nat):List Int:=(Vz cs k).reverse.map (·.2)
def Je (cs:List Int):List It:=(Vz cs cs.length).reverse
theorem Iw (x:It): ∀O:List It,(Fe x O).length =O.length+1
 |[]=>rfl
 |y::r=>by
  rw[Fe]
  split
  ·simp[Iw x r]
  ·simp
theorem Uo (cs:List Int): ∀k,(Vz cs k).length =k
 |0=>rfl
 |k+1=>by rw[Vz,Iw,Uo cs k]
theorem Bz (cs:List Int) (k:Nat):(osL cs k).length =k:=by rw[osL,List.length_map,List.length_reverse,Uo]
theorem Iy {x y:It}: ∀{O:List It},y∈Fe x O->y=x\/y∈O
 |[],h=>by simpa[Fe] using h
 |z::r,h=>by
  rw[Fe] at h
  split at h
  ·rcases List.mem_cons.1 h with h|h
   ·exact .inr (by simp[h])
   ·rcases Iy h with h|h
    ·exact .inl h
    ·exact .inr (by simp[h])
  ·simpa using h
theorem Sd (cs:List Int): ∀(k:Nat) (x:It),x∈Vz cs k->x.1=rd cs x.2/\0<=x.2/\x.2<k
 |0,x,h=>by simp[Vz] at h
 |k+1,x,h=>by
  rcases Iy h with rfl|h
  ·exact⟨rfl,by omega,by omega⟩
  ·have:=Sd cs k x h
   exact⟨this.1,this.2.1,by omega⟩
def At (x:It) (O:List It) (r:Nat):Prop:=Fe x O=O.take r++Fe x (O.drop r)
theorem At_zero (x:It) (O:List It):At x O 0:=by simp[At]
theorem At_step {x:It} {O:List It} {r:Nat} (h:At x O r) (hr:r<O.length) (hg:x.1<(O.getD r it0).1):At x O (r+1):=by
 unfold At at h ⊢;rw[h,List.drop_eq_getElem_cons hr];have e:O.getD r it0=O[r]:=(by rw[List.getD_eq_getElem?_getD,List.getElem?_eq_getElem hr];rfl);rw[e] at hg;rw[Fe,if_pos hg,show List.take (r+1) O=List.take r O++[O[r]] from by rw[List.take_add_one,List.getElem?_eq_getElem hr];rfl,List.append_assoc];rfl
theorem At_end {x:It} {O:List It} {r:Nat} (h:At x O r) (hr:r<=O.length) (hg:r<O.length-> ¬x.1<(O.getD r it0).1):Fe x O=O.take r++x::O.drop r:=by
 unfold At at h;rw[h]
 congr 1
 by_cases hl:r<O.length
 ·have e:O.getD r it0=O[r]:=by rw[List.getD_eq_getElem?_getD,List.getElem?_eq_getElem hl];rfl
  have:=hg hl;rw[e] at this;rw[List.drop_eq_getElem_cons hl,Fe,if_neg this]
 ·rw[List.drop_of_length_le (by omega)]
  rfl
theorem osL_at (cs:List Int) {k at':Nat} (h:at'<k):rd (osL cs k) at'=((Vz cs k).getD (k-1-at') it0).2/\rd cs (rd (osL cs k) at')=((Vz cs k).getD (k-1-at') it0).1/\0<=rd (osL cs k) at'/\rd (osL cs k) at'<k:=by
 have hl:=Uo cs k;have hi:k-1-at'<(Vz cs k).length :=(by omega);have e0:(Vz cs k).getD (k-1-at') it0=(Vz cs k)[k-1-at']:=by rw[List.getD_eq_getElem?_getD,List.getElem?_eq_getElem hi];rfl
 have e:rd (osL cs k) at'=((Vz cs k)[k-1-at']).2:=by
  unfold rd osL;rw[Int.toNat_natCast,List.getD_eq_getElem?_getD,List.getElem?_map,List.getElem?_reverse (by omega),hl,List.getElem?_eq_getElem hi];rfl
 have hm:=Sd cs k _ (List.getElem_mem hi);rw[e0,e];exact⟨rfl,hm.1.symm,hm.2.1,hm.2.2⟩
theorem osL_succ (cs:List Int) {k r:Nat} (hr:r<=k) (h:Fe (rd cs k,(k:Int)) (Vz cs k)=(Vz cs k).take r++(rd cs k,(k:Int))::(Vz cs k).drop r):
  osL cs (k+1)=(osL cs k).take (k-r)++((k:Int)::(osL cs k).drop (k-r)):=by
 have hl:=Uo cs k;unfold osL;rw[Vz,h,List.reverse_append,List.reverse_cons,List.map_append,List.map_append,<-List.map_take,<-List.map_drop,List.take_reverse,List.drop_reverse,hl,show k-(k-r)=r from by omega];simp
theorem Tz (cs:List Int):(Je cs).length =cs.length:=by rw[Je,List.length_reverse,Uo]
theorem Ib (cs:List Int) {k:Nat} (h:k<cs.length):(Je cs).take (k+1)=(Je cs).take k++[(rd cs (rd (osL cs cs.length) k),rd (osL cs cs.length) k)]:=by
 have hk:k<(Je cs).length :=(by rw[Tz];exact h);have hm:=Sd cs cs.length _ (List.mem_reverse.1 (List.getElem_mem hk))
 have e:rd (osL cs cs.length) k=((Je cs)[k]).2:=by
  unfold rd osL;rw[Int.toNat_natCast,List.getD_eq_getElem?_getD,List.getElem?_map,show(Vz cs cs.length).reverse =Je cs from rfl,List.getElem?_eq_getElem hk];rfl
 rw[List.take_add_one,List.getElem?_eq_getElem hk,e,<-hm.1];rfl
theorem os_bd (cs:List Int) {k:Nat} (h:k<cs.length):0<=rd (osL cs cs.length) k/\rd (osL cs cs.length) k<cs.length:=by
 have:=osL_at cs (k:=cs.length) (at':=k) h;exact⟨this.2.2.1,this.2.2.2⟩
def Vh (coins:List It):Nat->List It
 |0=>coins
 |i+1=>J6 coins (Q8 (Vh coins i))
def Sw (coins:List It):Nat->List It->List (List It)
 |0,r=>[r]
 |n+1,r=>r::Sw coins n (J6 coins (Q8 r))
theorem Cy (coins:List It): ∀(n k:Nat),Sw coins n (Vh coins k)=(List.range (n+1)).map (fun i=>Vh coins (k+i))
 |0,k=>by simp[Sw]
 |n+1,k=>by
  rw[Sw,show J6 coins (Q8 (Vh coins k))=Vh coins (k+1) from rfl,Cy coins n (k+1),show List.range (n+1+1)=0::(List.range (n+1)).map Nat.succ from List.range_succ_eq_map,List.map_cons,List.map_map]
  congr 1
  apply List.map_congr_left
  intro i _;simp only[Function.comp_apply];rw[show k+(i+1)=k+1+i from by omega]
theorem Qaw (co:List It): ∀i,(Vh co i).length <=2*co.length
 |0=>by simp only[Vh];omega
 |i+1=>by
  have h1:=Sa (co.length+(Q8 (Vh co i)).length) co (Q8 (Vh co i));have h2:=Qaw co i;rw[Zq] at h1;simp only[Vh,J6];rw[Zq];omega
def K4 (l:List It):Nat:=(l.filter fun x=>decide (x.2<0)).length
def Xv (out:List Int):List It->List Int
 |[]=>out
 |x::l=>if x.2<0 then Xv out l else Xv (out.set x.2.toNat (rd out x.2+1)) l
def okR (n:Nat) (r:List It):Bool:=r.all fun x=>decide (0<=x.1/\x.1<=4611686018427387903/\x.2<n)
def okO (out:List Int):Bool:=out.all fun x=>decide (0<=x/\x<=1000000)
theorem okO_rd {out:List Int} (h:okO out=true) (s:Int):0<=rd out s/\rd out s<=1000000:=by
 unfold rd;rw[List.getD_eq_getElem?_getD]
 cases e:out[s.toNat]? with
 |none=>exact⟨by simp,by simp⟩
 |some x=>
  have:=List.all_eq_true.1 h x (List.mem_of_getElem? e);simpa using this
theorem rd_set {l:List Int} {M:Int} (h: ∀s,0<=rd l s/\rd l s<=M) (i:Nat) {v:Int} (hv:0<=v/\v<=M) (s:Int):0<=rd (l.set i v) s/\rd (l.set i v) s<=M:=by
 have h0:=h s;unfold rd at h0 ⊢;rw[List.getD_eq_getElem?_getD] at h0 ⊢;rw[List.getElem?_set];by_cases e:i=s.toNat
 ·by_cases hl:i<l.length
  ·rw[if_pos e,if_pos hl];exact hv
  ·rw[if_pos e,if_neg hl];exact⟨by simp,by simp;omega⟩
 ·rw[if_neg e];exact h0
theorem Rb: ∀(l:List It) (out:List Int) (M:Int),(∀s,0<=rd out s/\rd out s<=M)-> ∀s,0<=rd (Xv out l) s/\rd (Xv out l) s<=M+l.length
 |[],out,M,h,s=>by simpa[Xv] using h s
 |x::l,out,M,h,s=>by
  rw[Xv];have hl:(((x::l).length :Nat):Int)=(l.length:Int)+1:=by simp
  split
  ·have:=Rb l out M h s
   omega
  ·have h0:=h x.2
   have:=Rb l (out.set x.2.toNat (rd out x.2+1)) (M+1) (rd_set (fun s=>by have:=h s;omega) _ (by omega)) s;omega
def Vf:List (List It)->Nat->List Int->Option (List Int)
 |[],_,out=>some out
 |r::rs,f,out=>if f<=r.length/\okR out.length r=true/\okO out=true then Vf rs (2*K4 (r.take f)) (Xv out (r.take f)) else none
def plL (cs:List Int):Option (List Int):=Vf (Sw (Je cs) 15 (Je cs)).reverse (2*cs.length-2) (List.replicate cs.length 0)
theorem Dq: ∀(l:List It) (out:List Int),(Xv out l).length =out.length
 |[],_=>rfl
 |x::l,out=>by
  rw[Xv]
  split
  ·exact Dq l out
  ·rw[Dq l,List.length_set]
theorem Ty (x:It): ∀(l:List It) (out:List Int),Xv out (l++[x])=if x.2<0 then Xv out l else(Xv out l).set x.2.toNat (rd (Xv out l) x.2+1)
 |[],out=>by simp[Xv]
 |y::l,out=>by
  rw[List.cons_append,Xv]
  split
  ·rename_i h;rw[Ty x l,Xv,if_pos h]
  ·rename_i h;rw[Ty x l,Xv,if_neg h]
theorem Qdu (x:It) (l:List It):K4 (l++[x])=K4 l+if x.2<0 then 1 else 0:=by
 unfold K4;rw[List.filter_append,List.length_append]
 congr 1
 by_cases h:x.2<0<;>simp[h]
theorem okR_at {n:Nat} {r:List It} (h:okR n r=true) {k:Nat} (hk:k<r.length):(r.getD k it0).2<n:=by
 rw[List.getD_eq_getElem?_getD,List.getElem?_eq_getElem hk];have:=List.all_eq_true.1 h _ (List.getElem_mem hk);simp only[decide_eq_true_eq] at this;exact this.2.2
theorem okR_wt {n:Nat} {r:List It} (h:okR n r=true):Wt r:=fun x hx=>by
 have:=List.all_eq_true.1 h x hx;simp only[decide_eq_true_eq] at this;exact⟨this.1,this.2.1⟩
theorem Be {r:List It} {rs:List (List It)} {f:Nat} {out fin:List Int} (h:Vf (r::rs) f out=some fin):f<=r.length/\okR out.length r=true/\okO out=true/\Vf rs (2*K4 (r.take f)) (Xv out (r.take f))=some fin:=by
 rw[Vf] at h
 split at h
 ·rename_i h1
  exact⟨h1.1,h1.2.1,h1.2.2,h⟩
 ·exact absurd h (by simp)
theorem Rj: ∀{rs:List (List It)} {f:Nat} {out fin:List Int},Vf rs f out=some fin-> ∀r∈rs,Wt r
 |[],_,_,_,_,r,hr=>by simp at hr
 |r::rs,f,out,fin,h,r',hr=>by
  obtain⟨_,h2,_,h3⟩:=Be h;rcases List.mem_cons.1 hr with rfl|hr
  ·exact okR_wt h2
  ·exact Rj h3 r' hr
end Rq

end Go.Proofs.YtnflnicdjioflaaGreatDoor
