/- A part of the proof. -/
import Derived.Test.YtnflnicdjioflaaGreatDoorSxan
import Derived.Test.YtnflnicdjioflaaGreatDoorSxaw
set_option linter.unusedVariables false
set_option linter.unusedSimpArgs false
set_option maxRecDepth 100000
set_option maxHeartbeats 8000000
namespace Go.Proofs.YtnflnicdjioflaaGreatDoor
open Go.RowKit Go.Proofs.YtnflnicdjioflaaGreatDoorW.PrintWords Go.Proofs.YtnflnicdjioflaaGreatDoorW.PrintLast Go.Proofs.YtnflnicdjioflaaGreatDoorW.PrintMore
namespace Rq
attribute [local go_sem] Qh Qi Qk Ql Qd Qe
open Q15
open Q21
open St (at_ ge_ Ki sV)
open Bts (Rws Blk Rws.start)
def krO (n:Int):Int:=2^(16-n.toNat)
def krI (l:List Int):Int:=(l.map krO).sum
theorem krO_bd (n:Int):1<=krO n/\krO n<=65536:=by
 unfold krO;obtain⟨m,hm⟩: ∃m,m=16-n.toNat:=⟨_,rfl⟩;have h16:m<=16:=(by omega);rw[<-hm];clear hm;have: ∀m:Nat,m<=16->(1:Int)<=2^m/\(2:Int)^m<=65536:=(by decide);exact this m h16
theorem krI_take (l:List Int) {k:Nat} (hk:k<l.length):krI (l.take (k+1))=krI (l.take k)+krO (rd l k):=by
 rw[Qu l k hk];unfold krI;rw[List.map_append,List.sum_append];simp
theorem krI_bd (l:List Int):0<=krI l/\krI l<=65536*l.length:=by
 unfold krI
 induction l with
 |nil=>simp
 |cons a t ih=>
  have:=krO_bd a;simp only[List.map_cons,List.sum_cons,List.length_cons];omega
theorem Aj (A:Option Addr) (cap:Nat) (l:List Int) (w:World) (hr:(Kd.int .i64).C w A l.length l) (h1:1<=l.length) (hl:l.length<=256) (h16: ∀n∈l,1<=n/\n<=16) (hk:krI l<=65536):
  Calls Tryz.prog 228 #[.slice A l.length cap] w fun e w'=>e= .returned (.int .i64 0)/\Below w.heap.size w w':=by
 have hlI:(l.length:Int)<=256:=(by omega);have HR:=Qa.mk hr;have H16:=Qa.mk (fun k (hk:k<l.length)=>h16 _ (Qp l k hk));have HB:=Qa.mk (fun k=>krI_bd (l.take k));have HK:=Qa.mk hk;have H1:=Qa.mk h1;clear hr h16 hl hk h1;go_enter Tryz.func228,Tryz.ntmps228;go_wp2_with fail;go_loop [3,4,12] (fun b s i=> ∃k:Nat,i= .int .i64 k/\k<=l.length/\(∃v,b= .bool v/\Qa (0<k->v=true))/\s= .int .i64 (krI (l.take k))) (fun _ _ i=>l.length-(intOf i).toNat)
 case atStart=>exact⟨0,rfl,by omega,⟨_,rfl,⟨fun h=>absurd h (by omega)⟩⟩,rfl⟩
 case round=>
  obtain⟨k,rfl,hk,⟨v,rfl,hv⟩,rfl⟩:=hrel;by_cases hlt:k<l.length
  ·obtain⟨ad,rfl,hcell⟩:=Qn HR.out (Below.refl _ _) hlt
   have hkI:(k:Int)<(l.length:Int):=(by omega);have hT:=krI_take l hlt;have hx:=H16.out k hlt;have hbd:=HB.out k;have htl:((l.take k).length :Int)<=256:=(by rw[List.length_take];omega);obtain⟨s,hs⟩: ∃s,s=krI (l.take k):=⟨_,rfl⟩;rw[<-hs] at hbd hT ⊢;have hsb:0<=s/\s<=16777216:=(by omega);obtain⟨x,hxe⟩: ∃x,x=rd l k:=⟨_,rfl⟩;rw[<-hxe] at hx hcell hT;have hfb:=krO_bd x;clear hbd htl hs hxe hv;have h0:0<x:=(by omega);have h9: ¬x<0:=(by omega);have h17: ¬16<x:=(by omega);replace hT:=Qa.mk hT;have hlt':=Qa.mk hlt;clear hlt;go_wp2_with fail
   have hsh:wrap64 (s+wrap64 (2^(16-x).toNat))=s+krO x:=by
    have e:(2:Int)^(16-x).toNat =krO x:=by
     unfold krO;rw[show(16-x).toNat =16-x.toNat from by omega]
    rw[e,IntWalk.wrap64_in (krO x) (by omega),IntWalk.wrap64_in _ (by omega)]
   go_round
   case rel=>exact⟨k+1,by go_num,hlt'.out,⟨_,rfl,⟨fun _=>rfl⟩⟩,by rw[hT.out,hsh]⟩
   case measure=>have:=hlt'.out;simp[intOf];omega
  ·obtain rfl:k=l.length:=by omega
   obtain rfl:v=true:=hv.out (by have:=H1.out;omega);have hK2:=HK.out;have hK3: ¬65536<krI l:=(by omega);rw[List.take_length];clear hK2;go_wp2_with fail;go_ret;exact⟨rfl,Below.refl _ _⟩
theorem Em {w wr:World} {g t:Nat} {ys:List Int} (h:Rws w wr [] [⟨g,(ys.map (Value.int .i64)).toArray,t⟩]) (j:Nat) (v:Int):Rws w (wr.setCell ⟨g,j,none⟩ (.int .i64 v)) [] [⟨g,((ys.set j v).map (Value.int .i64)).toArray,t⟩]:=by
 have h2:=Ki h 0 rfl j (.int .i64 v);rw[List.map_set];simpa using h2
theorem Ao (A:Option Addr) (cap:Nat) (l:List Int) (w:World) (hr:(Kd.int .i64).C w A l.length l) (h1:1<=l.length) (hl:l.length<=256) (h16: ∀n∈l,1<=n/\n<=16) (hk:krI l<=65536):
  Calls Tryz.prog 202 #[.slice A l.length cap] w fun e w'=> ∃(g:Nat) (xs:List Int),e= .returned (.tuple #[.slice (some ⟨g,0,none⟩) l.length l.length,.int .i64 0])/\xs.length=l.length/\Rws w w' [] [⟨g,(xs.map (Value.int .i64)).toArray,3⟩]:=by
 have hlI:(l.length:Int)<=256:=(by omega);have HR:=Qa.mk hr;have HC:=Qa.mk (Aj A cap l w hr h1 hl h16 hk);have hmk:=Sec.X9 l.length (by omega);obtain⟨Z0,hZ0⟩: ∃Z0,Z0=(List.replicate l.length (Value.int .i64 0)).toArray :=⟨_,rfl⟩;rw[<-hZ0] at hmk;have hZ:Qa (Z0=((List.replicate l.length (0:Int)).map (Value.int .i64)).toArray):=⟨by rw[hZ0];simp⟩;have hb:=Below.refl w.heap.size w;clear hr h1 hl h16 hk hZ0;go_enter Tryz.func202,Tryz.ntmps202;go_wp2_with (first|(go_at_call 228;refine(HC.out).mono ?_;rintro e w' ⟨rfl,hbn⟩;replace hb:=bnx hb hbn;clear hbn));have hR0:=((Rws.start w).step hb).alloc Z0 3;simp only[List.nil_append] at hR0;obtain⟨W0,hW0⟩: ∃W,W=w'.alloc (.cells Z0 3):=⟨_,rfl⟩;obtain⟨g,hg⟩: ∃g,g=w'.heap.size:=⟨_,rfl⟩;rw[<-hW0] at hR0 ⊢;rw[<-hg] at hR0 ⊢;rw[hZ.out] at hR0;replace hR0:=Qa.mk hR0;clear hmk hW0 hg hb hZ HC;go_loopw [6,7,8] (fun x y i wr=> ∃(a b:Int) (k:Nat) (xs:List Int),x= .int .i64 a/\y= .int .i64 b/\i= .int .i64 k/\Qa (0<=b/\b<k)/\Qa (1<=k/\k<=17)/\Qa (xs.length=l.length)/\Qa (Rws w wr [] [⟨g,(xs.map (Value.int .i64)).toArray,3⟩])) (fun _ _ i _=>17-(intOf i).toNat)
 case atStart=>exact⟨0,0,1,_,rfl,rfl,rfl,⟨by omega⟩,⟨by omega⟩,⟨by simp⟩,hR0⟩
 case round=>
  obtain⟨a,b,k,xs,rfl,rfl,rfl,hb,hk,hxs,hR⟩:=hrel;by_cases hlt:k<=16
  ·have hkI:(k:Int)<=16:=by omega
   replace hlt:=Qa.mk hlt;clear hR0;go_wp2_with fail;obtain⟨wo,hwo⟩: ∃wo,wo=wr:=⟨_,rfl⟩;subst hwo;go_loopw [6,7,25] (fun x y i wr=> ∃(a b:Int) (j:Nat) (xs:List Int),x= .int .i64 a/\y= .int .i64 b/\i= .int .i64 j/\Qa (0<=b/\b<=k)/\j<=l.length/\Qa (xs.length=l.length)/\Qa (Rws w wr [] [⟨g,(xs.map (Value.int .i64)).toArray,3⟩])) (fun _ _ i _=>l.length-(intOf i).toNat)
   case atStart=>exact⟨a,b,0,xs,rfl,rfl,rfl,⟨by have:=hb.out;omega⟩,by omega,hxs,hR⟩
   case round=>
    clear hb hR hxs;obtain⟨a2,b2,j,ys,rfl,rfl,rfl,hb,hj,hxs,hR⟩:=hrel;by_cases hjl:j<l.length
    ·obtain⟨ad,rfl,hcell⟩:=Qn HR.out hR.out.below hjl
     have hjI:(j:Int)<(l.length:Int):=(by omega);obtain⟨x,hx⟩: ∃x,x=rd l j:=⟨_,rfl⟩;rw[<-hx] at hcell;clear hx;replace hjl:=Qa.mk hjl;have hj':=Qa.mk hj;clear hj;by_cases hne:x=k
     ·have t1:(x != (k:Int))=false:=by simp[hne]
      subst hne;have gO:=at_ hR.out 0 rfl
      have m1:wr.cell? ⟨g,j,none⟩=some (.int .i64 (ys.getD j 0)):=by
       rw[Qb gO];have:j<ys.length:=(by rw[hxs.out];exact hjl.out);simp[List.getD_eq_getElem?_getD,this]
      have f1:=Qj gO j;by_cases hb0:0<b2
      ·have hbI:=hb.out
       have h39:IntKind.i64.wrap ((k:Int)-b2)=k-b2:=IntWalk.i64_in _ (by omega);have h40: ¬(k:Int)-b2<0:=(by omega);clear gO hbI;go_wp2_with fail;go_roundw
       case rel=>exact⟨_,_,j+1,_,rfl,rfl,by go_num,⟨by have:=hb.out;have:=hk.out;omega⟩,hjl.out,⟨by rw[List.length_set];exact hxs.out⟩,⟨Em hR.out j _⟩⟩
       case measure=>have:=hjl.out;simp[intOf];omega
      ·have hb1:=Qa.mk (show b2=0 by have:=hb.out;omega)
       clear gO;go_wp2_with fail;go_roundw
       case rel=>exact⟨_,_,j+1,_,rfl,rfl,by go_num,⟨by have:=hb.out;have:=hk.out;omega⟩,hjl.out,⟨by rw[List.length_set];exact hxs.out⟩,⟨Em hR.out j _⟩⟩
       case measure=>have:=hjl.out;simp[intOf];omega
     ·have t1:(x != (k:Int))=true:=by simpa using hne
      clear hne;go_wp2_with fail;go_roundw
      case rel=>exact⟨_,_,j+1,_,rfl,rfl,by go_num,hb,hjl.out,hxs,hR⟩
      case measure=>have:=hjl.out;simp[intOf];omega
    ·obtain rfl:j=l.length:=by omega
     go_wp2_with fail;go_roundw
     case rel=>exact⟨_,_,k+1,_,rfl,rfl,by go_num,⟨by have:=hb.out;omega⟩,⟨by have:=hk.out;have:=hlt.out;omega⟩,hxs,hR⟩
     case measure=>have:=hlt.out;simp[intOf];omega
  ·have hk2:k=17:=by have:=hk.out;omega
   subst hk2;go_wp2_with fail;go_ret2;exact⟨g,xs,rfl,hxs.out,hR.out⟩
end Rq

namespace Rq
attribute [local go_sem] Qh Qi Qk Ql Qd Qe
open Q15
def Fe (x:It):List It->List It
 |[]=>[x]
 |y::r=>if x.1<y.1 then y::Fe x r else x::y::r
def Vv (cs:List Int):Nat->List It
 |0=>[]
 |k+1=>Fe (rd cs k,k) (Vv cs k)
def osL (cs:List Int) (k:Nat):List Int:=(Vv cs k).reverse.map (·.2)
def Y6 (cs:List Int):List It:=(Vv cs cs.length).reverse
theorem Iw (x:It): ∀O:List It,(Fe x O).length =O.length+1
 |[]=>rfl
 |y::r=>by
  rw[Fe]
  split
  ·simp[Iw x r]
  ·simp
theorem Ug (cs:List Int): ∀k,(Vv cs k).length =k
 |0=>rfl
 |k+1=>by rw[Vv,Iw,Ug cs k]
theorem Nf (cs:List Int) (k:Nat):(osL cs k).length =k:=by rw[osL,List.length_map,List.length_reverse,Ug]
theorem Iy {x y:It}: ∀{O:List It},y∈Fe x O->y=x\/y∈O
 |[],h=>by simpa[Fe] using h
 |z::r,h=>by
  rw[Fe] at h
  split at h
  ·rcases List.mem_cons.1 h with h|h
   ·exact .inr (by simp[h])
   ·rcases Iy h with h|h
    ·exact .inl h
    ·exact .inr (by simp[h])
  ·simpa using h
theorem Ry (cs:List Int): ∀(k:Nat) (x:It),x∈Vv cs k->x.1=rd cs x.2/\0<=x.2/\x.2<k
 |0,x,h=>by simp[Vv] at h
 |k+1,x,h=>by
  rcases Iy h with rfl|h
  ·exact⟨rfl,by omega,by omega⟩
  ·have:=Ry cs k x h
   exact⟨this.1,this.2.1,by omega⟩
def At (x:It) (O:List It) (r:Nat):Prop:=Fe x O=O.take r++Fe x (O.drop r)
theorem At_zero (x:It) (O:List It):At x O 0:=by simp[At]
theorem At_step {x:It} {O:List It} {r:Nat} (h:At x O r) (hr:r<O.length) (hg:x.1<(O.getD r it0).1):At x O (r+1):=by
 unfold At at h ⊢;rw[h,List.drop_eq_getElem_cons hr];have e:O.getD r it0=O[r]:=(by rw[List.getD_eq_getElem?_getD,List.getElem?_eq_getElem hr];rfl);rw[e] at hg;rw[Fe,if_pos hg,show List.take (r+1) O=List.take r O++[O[r]] from by rw[List.take_add_one,List.getElem?_eq_getElem hr];rfl,List.append_assoc];rfl
theorem At_end {x:It} {O:List It} {r:Nat} (h:At x O r) (hr:r<=O.length) (hg:r<O.length-> ¬x.1<(O.getD r it0).1):Fe x O=O.take r++x::O.drop r:=by
 unfold At at h;rw[h]
 congr 1
 by_cases hl:r<O.length
 ·have e:O.getD r it0=O[r]:=by rw[List.getD_eq_getElem?_getD,List.getElem?_eq_getElem hl];rfl
  have:=hg hl;rw[e] at this;rw[List.drop_eq_getElem_cons hl,Fe,if_neg this]
 ·rw[List.drop_of_length_le (by omega)]
  rfl
theorem osL_at (cs:List Int) {k at':Nat} (h:at'<k):rd (osL cs k) at'=((Vv cs k).getD (k-1-at') it0).2/\rd cs (rd (osL cs k) at')=((Vv cs k).getD (k-1-at') it0).1/\0<=rd (osL cs k) at'/\rd (osL cs k) at'<k:=by
 have hl:=Ug cs k;have hi:k-1-at'<(Vv cs k).length :=(by omega);have e0:(Vv cs k).getD (k-1-at') it0=(Vv cs k)[k-1-at']:=by rw[List.getD_eq_getElem?_getD,List.getElem?_eq_getElem hi];rfl
 have e:rd (osL cs k) at'=((Vv cs k)[k-1-at']).2:=by
  unfold rd osL;rw[Int.toNat_natCast,List.getD_eq_getElem?_getD,List.getElem?_map,List.getElem?_reverse (by omega),hl,List.getElem?_eq_getElem hi];rfl
 have hm:=Ry cs k _ (List.getElem_mem hi);rw[e0,e];exact⟨rfl,hm.1.symm,hm.2.1,hm.2.2⟩
theorem osL_succ (cs:List Int) {k r:Nat} (hr:r<=k) (h:Fe (rd cs k,(k:Int)) (Vv cs k)=(Vv cs k).take r++(rd cs k,(k:Int))::(Vv cs k).drop r):
  osL cs (k+1)=(osL cs k).take (k-r)++((k:Int)::(osL cs k).drop (k-r)):=by
 have hl:=Ug cs k;unfold osL;rw[Vv,h,List.reverse_append,List.reverse_cons,List.map_append,List.map_append,<-List.map_take,<-List.map_drop,List.take_reverse,List.drop_reverse,hl,show k-(k-r)=r from by omega];simp
theorem Gb (cs:List Int):(Y6 cs).length =cs.length:=by rw[Y6,List.length_reverse,Ug]
theorem O8 (cs:List Int) {k:Nat} (h:k<cs.length):(Y6 cs).take (k+1)=(Y6 cs).take k++[(rd cs (rd (osL cs cs.length) k),rd (osL cs cs.length) k)]:=by
 have hk:k<(Y6 cs).length :=(by rw[Gb];exact h);have hm:=Ry cs cs.length _ (List.mem_reverse.1 (List.getElem_mem hk))
 have e:rd (osL cs cs.length) k=((Y6 cs)[k]).2:=by
  unfold rd osL;rw[Int.toNat_natCast,List.getD_eq_getElem?_getD,List.getElem?_map,show(Vv cs cs.length).reverse =Y6 cs from rfl,List.getElem?_eq_getElem hk];rfl
 rw[List.take_add_one,List.getElem?_eq_getElem hk,e,<-hm.1];rfl
theorem os_bd (cs:List Int) {k:Nat} (h:k<cs.length):0<=rd (osL cs cs.length) k/\rd (osL cs cs.length) k<cs.length:=by
 have:=osL_at cs (k:=cs.length) (at':=k) h;exact⟨this.2.2.1,this.2.2.2⟩
def Ve (coins:List It):Nat->List It
 |0=>coins
 |i+1=>J2 coins (Q8 (Ve coins i))
def Si (coins:List It):Nat->List It->List (List It)
 |0,r=>[r]
 |n+1,r=>r::Si coins n (J2 coins (Q8 r))
theorem Co (coins:List It): ∀(n k:Nat),Si coins n (Ve coins k)=(List.range (n+1)).map (fun i=>Ve coins (k+i))
 |0,k=>by simp[Si]
 |n+1,k=>by
  rw[Si,show J2 coins (Q8 (Ve coins k))=Ve coins (k+1) from rfl,Co coins n (k+1),show List.range (n+1+1)=0::(List.range (n+1)).map Nat.succ from List.range_succ_eq_map,List.map_cons,List.map_map]
  congr 1
  apply List.map_congr_left
  intro i _;simp only[Function.comp_apply];rw[show k+(i+1)=k+1+i from by omega]
theorem Qau (co:List It): ∀i,(Ve co i).length <=2*co.length
 |0=>by simp only[Ve];omega
 |i+1=>by
  have h1:=Rw (co.length+(Q8 (Ve co i)).length) co (Q8 (Ve co i));have h2:=Qau co i;rw[Zp] at h1;simp only[Ve,J2];rw[Zp];omega
def Kw (l:List It):Nat:=(l.filter fun x=>decide (x.2<0)).length
def Xv (out:List Int):List It->List Int
 |[]=>out
 |x::l=>if x.2<0 then Xv out l else Xv (out.set x.2.toNat (rd out x.2+1)) l
def okR (n:Nat) (r:List It):Bool:=r.all fun x=>decide (0<=x.1/\x.1<=4611686018427387903/\x.2<n)
def okO (out:List Int):Bool:=out.all fun x=>decide (0<=x/\x<=1000000)
theorem okO_rd {out:List Int} (h:okO out=true) (s:Int):0<=rd out s/\rd out s<=1000000:=by
 unfold rd;rw[List.getD_eq_getElem?_getD]
 cases e:out[s.toNat]? with
 |none=>exact⟨by simp,by simp⟩
 |some x=>
  have:=List.all_eq_true.1 h x (List.mem_of_getElem? e);simpa using this
theorem rd_set {l:List Int} {M:Int} (h: ∀s,0<=rd l s/\rd l s<=M) (i:Nat) {v:Int} (hv:0<=v/\v<=M) (s:Int):0<=rd (l.set i v) s/\rd (l.set i v) s<=M:=by
 have h0:=h s;unfold rd at h0 ⊢;rw[List.getD_eq_getElem?_getD] at h0 ⊢;rw[List.getElem?_set];by_cases e:i=s.toNat
 ·by_cases hl:i<l.length
  ·rw[if_pos e,if_pos hl];exact hv
  ·rw[if_pos e,if_neg hl];exact⟨by simp,by simp;omega⟩
 ·rw[if_neg e];exact h0
theorem P6: ∀(l:List It) (out:List Int) (M:Int),(∀s,0<=rd out s/\rd out s<=M)-> ∀s,0<=rd (Xv out l) s/\rd (Xv out l) s<=M+l.length
 |[],out,M,h,s=>by simpa[Xv] using h s
 |x::l,out,M,h,s=>by
  rw[Xv];have hl:(((x::l).length :Nat):Int)=(l.length:Int)+1:=by simp
  split
  ·have:=P6 l out M h s
   omega
  ·have h0:=h x.2
   have:=P6 l (out.set x.2.toNat (rd out x.2+1)) (M+1) (rd_set (fun s=>by have:=h s;omega) _ (by omega)) s;omega
def J9:List (List It)->Nat->List Int->Option (List Int)
 |[],_,out=>some out
 |r::rs,f,out=>if f<=r.length/\okR out.length r=true/\okO out=true then J9 rs (2*Kw (r.take f)) (Xv out (r.take f)) else none
def plL (cs:List Int):Option (List Int):=J9 (Si (Y6 cs) 15 (Y6 cs)).reverse (2*cs.length-2) (List.replicate cs.length 0)
theorem Dp: ∀(l:List It) (out:List Int),(Xv out l).length =out.length
 |[],_=>rfl
 |x::l,out=>by
  rw[Xv]
  split
  ·exact Dp l out
  ·rw[Dp l,List.length_set]
theorem Tz (x:It): ∀(l:List It) (out:List Int),Xv out (l++[x])=if x.2<0 then Xv out l else(Xv out l).set x.2.toNat (rd (Xv out l) x.2+1)
 |[],out=>by simp[Xv]
 |y::l,out=>by
  rw[List.cons_append,Xv]
  split
  ·rename_i h;rw[Tz x l,Xv,if_pos h]
  ·rename_i h;rw[Tz x l,Xv,if_neg h]
theorem Qdx (x:It) (l:List It):Kw (l++[x])=Kw l+if x.2<0 then 1 else 0:=by
 unfold Kw;rw[List.filter_append,List.length_append]
 congr 1
 by_cases h:x.2<0<;>simp[h]
theorem okR_at {n:Nat} {r:List It} (h:okR n r=true) {k:Nat} (hk:k<r.length):(r.getD k it0).2<n:=by
 rw[List.getD_eq_getElem?_getD,List.getElem?_eq_getElem hk];have:=List.all_eq_true.1 h _ (List.getElem_mem hk);simp only[decide_eq_true_eq] at this;exact this.2.2
theorem okR_wt {n:Nat} {r:List It} (h:okR n r=true):Wt r:=fun x hx=>by
 have:=List.all_eq_true.1 h x hx;simp only[decide_eq_true_eq] at this;exact⟨this.1,this.2.1⟩
theorem Bl {r:List It} {rs:List (List It)} {f:Nat} {out fin:List Int} (h:J9 (r::rs) f out=some fin):f<=r.length/\okR out.length r=true/\okO out=true/\J9 rs (2*Kw (r.take f)) (Xv out (r.take f))=some fin:=by
 rw[J9] at h
 split at h
 ·rename_i h1
  exact⟨h1.1,h1.2.1,h1.2.2,h⟩
 ·exact absurd h (by simp)
theorem Rc: ∀{rs:List (List It)} {f:Nat} {out fin:List Int},J9 rs f out=some fin-> ∀r∈rs,Wt r
 |[],_,_,_,_,r,hr=>by simp at hr
 |r::rs,f,out,fin,h,r',hr=>by
  obtain⟨_,h2,_,h3⟩:=Bl h;rcases List.mem_cons.1 hr with rfl|hr
  ·exact okR_wt h2
  ·exact Rc h3 r' hr
end Rq

namespace Rq
attribute [local go_sem] Qh Qi Qk Ql Qd Qe
open Q15
def cntF (s:Nat):Int:=65536/((1+max ((s:Int)-95) (95-(s:Int)))*(1+max ((s:Int)-95) (95-(s:Int))))
def Us:List Int:=(List.range 191).map cntF
def okL:Option (List Int)->Bool
 |some l=>decide (l.length=191)&&(l.all fun n=>decide (1<=n/\n<=16))&&decide (krI l<=65536)
 |none=>false
theorem okL_cnt:okL (plL Us)=true:=by decide+kernel
theorem lens_ok: ∃fin,plL Us=some fin/\fin.length=191/\(∀n∈fin,1<=n/\n<=16)/\krI fin<=65536:=by
 have h:=okL_cnt
 cases e:plL Us with
 |none=>rw[e] at h;exact absurd h (by simp[okL])
 |some l=>
  rw[e] at h;simp only[okL,Bool.and_eq_true,decide_eq_true_eq,List.all_eq_true] at h;exact⟨l,rfl,h.1.1,h.1.2,h.2⟩
theorem cntF_bd (s:Nat) (hs:s<191):1<=cntF s/\cntF s<=65536:=by
 have h: ∀s:Nat,s<191->(1<=cntF s/\cntF s<=65536):=(by decide+kernel);exact h s hs
end Rq

namespace Rq
attribute [local go_sem] Qh Qi Qk Ql Qd Qe
open Q15
open Q21
open St (at_ ge_ Ki sV)
open Bts (Rws Blk Rws.start Cells)
theorem Bi {w:World} {A:Option Addr} {xs:List Int} (h:(Kd.int .i64).C w A xs.length xs):Cells w A (xs.map (Value.int .i64)):=fun hne=>by
 have h0:0<xs.length:=by
  cases xs with
  |nil=>exact absurd rfl hne
  |cons=>simp
 obtain⟨ad,e,-⟩:=Qn h (Below.refl _ _) h0;refine⟨ad,e,fun j u hj=> ?_⟩;rw[List.getElem?_map] at hj;obtain⟨x,hx,rfl⟩:=Option.map_eq_some_iff.1 hj;obtain⟨hl,hx2⟩:=List.getElem?_eq_some_iff.1 hx;obtain⟨ad',e',hc⟩:=Qn h (Below.refl _ _) hl;cases e.symm.trans e';rw[hc,rd,Int.toNat_natCast,List.getD_eq_getElem?_getD,hx];rfl
theorem Tu {w:World} {A:Option Addr} {xs:List Int} (h:Cells w A (xs.map (Value.int .i64))) (hl:xs.length<=9223372036854775807):(Kd.int .i64).C w A xs.length xs:=by
 refine⟨rfl,hl,fun h0=> ?_⟩;obtain⟨ad,e,hc⟩:=h (by intro e;rw[List.map_eq_nil_iff] at e;rw[e] at h0;simp at h0);refine⟨ad,e,fun j p hj=>⟨[.int .i64 p],rfl,rfl,fun i u hu=> ?_⟩⟩
 cases i with
 |zero=>
  have:Value.int .i64 p=u:=(by simpa using hu);subst this;have h3:=hc j (.int .i64 p) (by rw[List.getElem?_map,hj];rfl)
  have e9:j*(Kd.int .i64).sz +0=j:=by
   have:(Kd.int .i64).sz =1:=rfl;rw[this];omega
  rw[e9];exact h3
 |succ i=>simp at hu
theorem Qdh {w:World} {g t:Nat} {xs:List Int} (h:w.heap[g]? =some (.cells (xs.map (Value.int .i64)).toArray t (0,0))) (hl:xs.length<=9223372036854775807:=by omega):(Kd.int .i64).C w (some ⟨g,0,none⟩) xs.length xs:=by
 refine Tu (fun _=>⟨_,rfl,fun j u hj=> ?_⟩) hl
 have e9:((⟨g,0,none⟩:Addr).add j)=⟨g,j,none⟩:=by
  unfold Addr.add;by_cases h0:j=0
  ·simp[h0]
  ·simp[h0]
 rw[e9];exact(Qb h j).trans (by simpa using hj)
theorem app_ints (W:World) (ty:TypeId) (B:Option Addr) (xs:List Int) (hB:(Kd.int .i64).C W B xs.length xs) (A:Option Addr) (c:Nat) (ys:List Int) (hA:(Kd.int .i64).C W A ys.length ys) (hl:xs.length+ys.length<=100000):
  ∃A' c' w1,(Builtin.append_ #[22,22] ty #[.slice B xs.length xs.length,.slice A ys.length c]).run Tryz.prog W= .ok (.slice A' (xs.length+ys.length) c') w1/\Below W.heap.size W w1/\(Kd.int .i64).C w1 A' (xs++ys).length (xs++ys)/\xs.length+ys.length<=c'/\c'<=9223372036854775807:=by
 obtain⟨i,hi,hzz⟩:=Option.map_eq_some_iff.1 Qw;simp only[Prod.mk.injEq] at hzz;obtain⟨hz1,hz2,hz3⟩:=hzz;by_cases hm:ys=[]
 ·subst hm
  refine⟨B,xs.length,W,by simpa using Bts.Np 22 ty 3 i Tryz.underlying22 hi B A xs.length xs.length c (Nat.le_refl _) W,Below.refl _ _,by simpa using hB,by simp,by simp at hl;omega⟩
 ·have h0:0<ys.length:=by
   cases ys with
   |nil=>exact absurd rfl hm
   |cons=>simp
  obtain⟨a,rfl,ha⟩:=Bi hA (by simpa using hm)
  have fin: ∀(G:Nat) (Z:Array Value) (W1:World),W1=W.drew.alloc (.cells (((xs++ys).map (Value.int .i64)).toArray ++Z) 3)->(Kd.int .i64).C W1 (some ⟨W.heap.size,0,none⟩) (xs++ys).length (xs++ys):=fun G Z W1 e=>by
   refine Tu (fun _=>⟨_,rfl,fun j u hj=> ?_⟩) (by simp;omega);have h9:=heap_alloc_new W.drew (.cells (((xs++ys).map (Value.int .i64)).toArray ++Z) 3);rw[<-e] at h9
   have e9:((⟨W.heap.size,0,none⟩:Addr).add j)=⟨W.heap.size,j,none⟩:=by
    unfold Addr.add;by_cases h0:j=0
    ·simp[h0]
    ·simp[h0]
   rw[e9];refine(Qb h9 j).trans ?_;rw[Array.getElem?_append_left]
   ·simpa using hj
   ·have:=(List.getElem?_eq_some_iff.1 hj).1
    simpa using this
  cases B with
  |none=>
   have hx:xs=[]:=by
    cases xs with
    |nil=>rfl
    |cons x t=>
     obtain⟨ad,e,-⟩:=hB.2.2 (by simp);cases e
   subst hx;have hr:=run_append_nil (P:=Tryz.prog) W 22 ty 3 i (.int .i64 0) Tryz.underlying22 hi hz1 a ys.length c (ys.map (Value.int .i64)) (by rw[List.length_map,hz2];omega) ha h0 (by simp at hl;omega) (by rw[hz3];simp at hl;omega);refine⟨_,_,_,by simpa using hr,(Below.refl _ _).drew.alloc (Nat.le_refl _) _,?_,by simpa using grownCap_ge W ys.length 0 3,by have:=grownCap_le_maxLen W ys.length 0 3 (by unfold maxLen;simp at hl;omega);unfold maxLen at this;exact this⟩;exact fin 0 _ _ rfl
  |some b=>
   have hr:=run_append_grow (P:=Tryz.prog) W 22 ty 3 i (.int .i64 0) Tryz.underlying22 hi hz1 b xs.length xs.length (xs.map (Value.int .i64)) (by rw[List.length_map,hz2];omega) (fun j v hj=>by
     have h0:xs.map (Value.int .i64)≠[]:=fun e2=>by rw[e2] at hj;simp at hj
     obtain⟨b',e2,hb'⟩:=Bi hB h0;cases e2
     exact hb' j v hj) a ys.length c (ys.map (Value.int .i64)) (by rw[List.length_map,hz2];omega) ha (by omega) (by omega) (growslice_fits (by omega) (by rw[hz3];omega))
   refine⟨_,_,_,hr,(Below.refl _ _).drew.alloc (Nat.le_refl _) _,?_,grownCap_ge W _ _ _,by have:=grownCap_le_maxLen W (xs.length+ys.length) xs.length 3 (by unfold maxLen;omega);unfold maxLen at this;exact this⟩;refine fin 0 (Builtin.zeroCells (Value.int .i64 0).cells (grownCap W (xs.length+ys.length) xs.length 3-(xs.length+ys.length))) _ ?_;rw[List.map_append,<-List.append_toArray]
theorem Lh {W:World} {ops:Array Oper} {o:Oper} {a:Act} {Q:Exit->Act->World->Prop} {Kc:Act->World->Prop} (hw:Region.wanted o (yielded ops a.tmps)=true)
  (s x:Operand) (hop:o.op=Op.call {callee:=Callee.builtin Builtin.append,args:= #[s,x],argTypes:= #[22,22]})
  (B:Option Addr) (xs:List Int) (n:Nat) (hs:a.eval s= .slice B n n) (hn:n=xs.length) (hB:(Kd.int .i64).C W B xs.length xs) (A:Option Addr) (ys:List Int) (m c:Nat) (hx:a.eval x= .slice A m c) (hm:m=ys.length) (hA:(Kd.int .i64).C W A ys.length ys) (hl:xs.length+ys.length<=100000)
  (hK: ∀A' c' w1,Below W.heap.size W w1->(Kd.int .i64).C w1 A' (xs++ys).length (xs++ys)->n+m<=c'->c'<=9223372036854775807->Kc (a.put o.dst (.slice A' (n+m) c')) w1):
  if Region.wanted o (yielded ops a.tmps)=true then Oper.wp Tryz.prog o a W Kc Q else Kc (a.put o.dst undef) W:=by
 subst hn hm;rw[if_pos hw];obtain⟨A',c',w1,hrun,r1,r2,r3,r4⟩:=app_ints W o.type B xs hB A c ys hA hl;unfold Oper.wp;simp[execOp,hop,resolve,invoke,builtin,hs,hx,hrun,Result.andThen,Oper.upon];exact hK A' c' w1 r1 r2 r3 r4
def kRw:Kd (List It):=Kd.slice 225 kIt
theorem info_rw:(Tryz.prog.info? 223).map (fun i=>(i.zero,i.size,i.bytes))=some (some (.slice none 0 0),1,24):=by kernel_rfl
theorem R_lit1 {W:World} {e base:Nat} {v:Value} {xs:List It} (h:kIt.R 225 W base (fun _=>True) v xs) (hb:base<=W.heap.size):
  kRw.R e (W.alloc (.cells #[v] e)) base (fun _=>True) (.slice (some ⟨W.heap.size,0,none⟩) 1 1) [xs]:=by
 refine⟨fun _ _=>trivial,[v],?_,⟨rfl,fun j p hj=> ?_⟩⟩
 ·have h2:=World.ownsRow_lit (base:=base) (e:=e) (size:=1) W #[v] 1 hb (by simp[maxLen]) (by simp)
  show(W.alloc (.cells #[v] e)).ownsRow base e 1 (.slice (some ⟨W.heap.size,0,none⟩) 1 1) 1 [v]
  simpa using h2
 ·cases j with
  |zero=>
   have:xs=p:=(by simpa using hj);subst this;refine kRw.M_mono (fun k hk=>⟨trivial,fun he=> ?_⟩) (Kd.M_below (kRw.M_bound (⟨v,rfl,h⟩:kRw.M W base (fun _=>True) xs [v])) (Ku (Below.refl _ _) _));have h3:k=W.heap.size:=(by simpa[Value.ownBlock] using he);have:=hk.2.2.1;omega
  |succ j=>simp at hj
theorem kRw_at {w W:World} {A:Option Addr} {xs:List (List It)} (h:kRw.C w A xs.length xs) (hb:Below w.heap.size w W) {k:Nat} (hk:k<xs.length):
  ∃ad A' c,A=some ad/\W.cell? (ad.add k)=some (.slice A' (xs.getD k []).length c)/\(xs.getD k []).length <=c/\kIt.C W A' (xs.getD k []).length (xs.getD k []):=by
 obtain⟨ad,c,e,_,hK,hc⟩:=Kd.Oj (Kd.Qf h hb) [] k (by omega) (by omega);obtain⟨A',c',rfl,h1,h2⟩:=hK;have h0:=hc 0 _ rfl;exact⟨ad,A',c',e,by simpa[kRw,Kd.slice] using h0,h1,h2⟩
end Rq

end Go.Proofs.YtnflnicdjioflaaGreatDoor
