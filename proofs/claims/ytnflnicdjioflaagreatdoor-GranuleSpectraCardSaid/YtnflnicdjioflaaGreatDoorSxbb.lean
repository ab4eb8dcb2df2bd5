/- A part of the proof. -/
import Derived.Test.YtnflnicdjioflaaGreatDoorSxaw
import Derived.Test.YtnflnicdjioflaaGreatDoorSxay
import Derived.Test.YtnflnicdjioflaaGreatDoorSxan
set_option linter.unusedVariables false
set_option linter.unusedSimpArgs false
set_option maxRecDepth 100000
set_option maxHeartbeats 8000000
namespace Go.Proofs.YtnflnicdjioflaaGreatDoor
open Go.RowKit Go.Proofs.YtnflnicdjioflaaGreatDoorW.PrintWords Go.Proofs.YtnflnicdjioflaaGreatDoorW.PrintLast Go.Proofs.YtnflnicdjioflaaGreatDoorW.PrintMore
namespace St
attribute [local go_sem] Qh Qi Qk Ql Qd Qe
open Q15
open Q16 (isW Qx off wd Q7)
def Zr (ws:List Int) (mid:List Bool):Nat->List Bool
 |0=>[]
 |k+1=>Zr ws mid k++List.replicate (wd ws k) (mid.getD k false)
def Va (l r:List Int) (fl:List Bool):List Int:=(List.range l.length).map fun i=>if fl.getD i false=true then Nt (rd l i) (rd r i) else rd l i
def Vb (l r:List Int) (fl:List Bool):List Int:=(List.range l.length).map fun i=>if fl.getD i false=true then Tp (rd l i) (rd r i) else rd r i
theorem Jj {ws:List Int} (hw:isW ws=true) (mid:List Bool): ∀k,k<=ws.length->(Zr ws mid k).length =off ws k
 |0,_=>by simp[Zr,off]
 |k+1,hk=>by rw[Zr,List.length_append,Jj hw mid k (by omega),List.length_replicate,(Q7 hw (by omega)).1]
theorem Ii {ws:List Int} (hw:isW ws=true) (mid:List Bool) {k i:Nat} (h1:off ws k<=i) (h2:i<off ws (k+1)): ∀n,k<n->n<=ws.length->(Zr ws mid n).getD i false=mid.getD k false
 |0,h,_=>absurd h (by omega)
 |n+1,h,hn=>by
  have hl:=Jj hw mid n (by omega);have hm:=Jj hw mid (k+1) (by omega);unfold Zr;rw[List.getD_eq_getElem?_getD];by_cases hk:k<n
  ·have h3:=Ii hw mid h1 h2 n hk (by omega)
   rw[List.getD_eq_getElem?_getD] at h3;rw[List.getElem?_append_left ?_,h3]
   have:off ws (k+1)<=off ws n:=by
    have hmono: ∀d,k+1+d<=ws.length->off ws (k+1)<=off ws (k+1+d):=fun d=>by
     induction d with
     |zero=>intro _;exact Nat.le_refl _
     |succ d ih=>intro hd;have:=ih (by omega);have:=(Q7 hw (k:=k+1+d) (by omega)).1;rw[<-Nat.add_assoc,this];omega
    have:=hmono (n-(k+1)) (by omega)
    rwa [show k+1+(n-(k+1))=n by omega] at this
   omega
  ·obtain rfl:k=n:=by omega
   rw[(Q7 hw (by omega:k<ws.length)).1] at h2;rw[List.getElem?_append_right (by omega),hl,List.getElem?_replicate,if_pos (by omega)];rfl
theorem Sb {n:Nat} {f:Nat->Int} {i:Nat} (h:i<n):rd ((List.range n).map f) i=f i:=by rw[Yl _ _ (by simpa using h)];simp
theorem par_at {l r ws:List Int} {mid:List Bool} (hw:isW ws=true) (h1:l.length=128): ∀k,k<ws.length-> ∀i,off ws k<=i->i<off ws (k+1)->
  rd (Va l r (Zr ws mid ws.length)) i=(if mid.getD k false=true then Nt (rd l i) (rd r i) else rd l i)/\rd (Vb l r (Zr ws mid ws.length)) i=(if mid.getD k false=true then Tp (rd l i) (rd r i) else rd r i):=fun k hk i hi hi2=>by
 have h3:=Ii hw mid hi hi2 ws.length hk (Nat.le_refl _);obtain⟨o1,o2,o3,-⟩:=Q7 hw hk;have hi9:i<l.length:=(by omega);unfold Va Vb;rw[Sb hi9,Sb hi9,h3];exact⟨rfl,rfl⟩
def POut (l r ws:List Int) (mid:List Bool) (w:World) (e:Ending) (w':World):Prop:=
 ∃gx gy,e= .returned (.tuple #[sV gx,sV gy,.int .i64 0])/\w'.heap[gx]? =some (.cells ((Va l r (Zr ws mid ws.length)).map (Value.int .i64)).toArray 3 (0,0))/\w'.heap[gy]? =some (.cells ((Vb l r (Zr ws mid ws.length)).map (Value.int .i64)).toArray 3 (0,0))/\w.heap.size<=gx/\w.heap.size<=gy/\gx≠gy/\Below w.heap.size w w'
theorem Qbb (A B C M:Option Addr) (ca cb cc cm:Nat) (l r ws:List Int) (mid:List Bool) (w:World) (hl:(Kd.int .i64).C w A l.length l) (hr:(Kd.int .i64).C w B r.length r) (hC:(Kd.int .i64).C w C ws.length ws) (hM:Kd.bool.C w M mid.length mid) (hw:isW ws=true) (l1:l.length=128) (l2:r.length=128) (l3:mid.length=ws.length)
  (hv: ∀k:Nat,k<128->(-8388608<=rd l k/\rd l k<=8388608)/\(-8388608<=rd r k/\rd r k<=8388608)):
  Calls Tryz.prog 38 #[.slice A l.length ca,.slice B r.length cb,.slice C ws.length cc,.slice M mid.length cm] w (POut l r ws mid w):=by
 have key: ∀W:World,Below w.heap.size w W->Calls Tryz.prog 74 #[.slice A l.length ca,.slice B r.length cb,.slice C ws.length cc,.slice M mid.length cm,.int .i64 8388608,.func (.func 75) #[] #[]] W (POut l r ws mid W):=fun W hb=>by
  have HK:=Qa.mk (Qdu A B C ca cb cc l r ws 8388608 W (Kd.Qf hl hb) (Kd.Qf hr hb) (Kd.Qf hC hb) hw l1 l2 (by omega) hv);have hx1:(Va l r (Zr ws mid ws.length)).length =128:=(by unfold Va;rw[List.length_map,List.length_range,l1]);have hy1:(Vb l r (Zr ws mid ws.length)).length =128:=(by unfold Vb;rw[List.length_map,List.length_range,l1]);have hpa:=par_at (r:=r) (mid:=mid) hw l1;obtain⟨fx,hfx⟩: ∃f,f=Va l r (Zr ws mid ws.length):=⟨_,rfl⟩;obtain⟨fy,hfy⟩: ∃f,f=Vb l r (Zr ws mid ws.length):=⟨_,rfl⟩;unfold POut;rw[<-hfx] at hx1 hpa ⊢;rw[<-hfy] at hy1 hpa ⊢
  have hv2: ∀k:Nat,k<128->(-4294967296<=rd l k/\rd l k<=4294967296)/\(-4294967296<=rd r k/\rd r k<=4294967296):=fun k hk=>by
   have:=hv k hk;omega
  clear hfx hfy;have HCp:=Qa.mk (fun(V:World) (hb2:Below W.heap.size W V)=>Ec A B C M ca cb cc cm l r ws fx fy mid V (Kd.Qf (Kd.Qf hl hb) hb2) (Kd.Qf (Kd.Qf hr hb) hb2) (Kd.Qf (Kd.Qf hC hb) hb2) (Kd.Qf (Kd.Qf hM hb) hb2) hw l1 l2 l3 hv2 hx1 hy1 hpa);have hn:((mid.length:Int) != (ws.length:Int))=false:=(by rw[bne_eq_false_iff_eq];omega);clear hl hr hC hM hv hv2 hb l1 l2 l3 hpa hx1 hy1 hw;go_enter Tryz.func74,Tryz.ntmps74;go_wp2_with fail;refine HK.out.mono ?_;rintro e W1 ⟨rfl,hb1⟩;go_wp2_with fail;refine(HCp.out _ hb1).mono ?_;rintro e W2 ⟨gx,gy,rfl,h1,h2,h3,h4,h5,hb2⟩;replace hb1:=hb1;have hb3:=bnx hb1 hb2;have hs:=hb1.size;have hfin:=Qa.mk (And.intro h1 (And.intro h2 (And.intro (Nat.le_trans hs h3) (And.intro (Nat.le_trans hs h4) (And.intro h5 hb3)))));clear h1 h2 h3 h4 h5 hb1 hb2 hb3 hs HK HCp;go_wp2;go_ret3;exact⟨gx,gy,rfl,hfin.out⟩
 have HK:=Qa.mk key;have hb:=Below.refl w.heap.size w;clear key hl hr hC hM hv l1 l2 l3 hw;unfold POut at*;go_enter Tryz.func38,Tryz.ntmps38;go_wp2_with fail;refine(HK.out _ hb).mono ?_;rintro e W2 ⟨gx,gy,rfl,hfin⟩;replace hfin:=Qa.mk hfin;go_wp2;go_ret3;exact⟨gx,gy,rfl,hfin.out⟩
end St

namespace Rs
attribute [local go_sem] Qh Qi Qk Ql Qd Qe
open Q15
open Q21
open Q16 (isW Qx off wd Q7)
open St (Nt Tp Zr Jj Va Vb)
theorem Ib (x:Int) (w:World) (h0: -8589934592<=x) (h1:x<=8589934592):
  Calls Tryz.prog 180 #[.int .i64 x,.int .i64 2] w fun e w'=>e= .returned (.int .i64 (x/2))/\Below w.heap.size w w':=by
 have ht:=tq x 2 (by decide);have hq: -8589934592<=x.tdiv 2/\x.tdiv 2<=8589934592:=(by omega);by_cases hm:x.tmod 2<0
 ·have e:Qa (x/2=x.tdiv 2-1):=⟨by omega⟩
  clear ht;obtain⟨r,hr⟩: ∃r,r=x/2:=⟨_,rfl⟩;rw[<-hr] at e ⊢;clear hr;go_enter Tryz.func180,Tryz.ntmps180;go_wp2;go_ret;exact⟨by rw[e.out];rfl,Below.refl _ _⟩
 ·have e:Qa (x/2=x.tdiv 2):=⟨by omega⟩
  have hm':decide (x.tmod 2<0)=false:=(by simpa using hm);clear ht;obtain⟨r,hr⟩: ∃r,r=x/2:=⟨_,rfl⟩;rw[<-hr] at e ⊢;clear hr;go_enter Tryz.func180,Tryz.ntmps180;go_wp2;go_ret;exact⟨by rw[e.out];rfl,Below.refl _ _⟩
theorem Aq (m s:Int) (w:World) (hm: -8388608<=m/\m<=8388608) (hs: -8388608<=s/\s<=8388608):
  Calls Tryz.prog 135 #[.int .i64 m,.int .i64 s] w fun e w'=>e= .returned (.tuple #[.int .i64 (Nt m s),.int .i64 (Tp m s),.int .i64 0])/\Below w.heap.size w w':=by
 have HI:Qa (Calls Tryz.prog 49 #[.int .i64 4294967296,.slice (some ⟨w.heap.size,0,none⟩) 2 2] (w.alloc (.cells #[.int .i64 m,.int .i64 s] 3)) fun e w'=>e= .returned (.bool true)/\Below (w.alloc (.cells #[.int .i64 m,.int .i64 s] 3)).heap.size (w.alloc (.cells #[.int .i64 m,.int .i64 s] 3)) w'):=⟨by
  have h:=Q16.X5 4294967296 (by decide) (some ⟨w.heap.size,0,none⟩) 2 [m,s] _ (lit_C [m,s] w 3 (by simp)) (by simp)
  rw[show Q16.rng (-4294967296) 4294967296 [m,s]=true from List.all_eq_true.2 fun x hx=>decide_eq_true (by
   rcases List.mem_cons.1 hx with rfl|hx
   ·omega
   ·rw[List.mem_singleton.1 hx];omega)] at h
  exact h⟩
 have HD:=Qa.mk (fun W=>Ib s W (by omega) (by omega));have hb0:Qa (Below w.heap.size w (w.alloc (.cells #[.int .i64 m,.int .i64 s] 3))):=⟨(Below.refl _ _).alloc (Nat.le_refl _) _⟩;have hq: -8388608<=s/2/\s/2<=8388608:=(by omega);have hL:Nt m s=m-s/2+s:=rfl;have hRr:Tp m s=m-s/2:=rfl;rw[hL,hRr];obtain⟨z,hz⟩: ∃z,z=s/2:=⟨_,rfl⟩;rw[<-hz] at HD hq ⊢;clear hz hL hRr;go_enter Tryz.func135,Tryz.ntmps135;go_wp2_with fail;refine HI.out.mono ?_;rintro e w1 ⟨rfl,hbn⟩;have hb:=bnx hb0.out hbn;clear hbn HI;go_wp2_with fail;refine(HD.out _).mono ?_;rintro e w2 ⟨rfl,hbn⟩;replace hb:=bnx hb hbn;clear hbn HD;go_wp2;go_ret3;exact⟨rfl,hb⟩
theorem Eb (A B C:Option Addr) (ca cb cc:Nat) (l r ws:List Int) (w:World) (hl:(Kd.int .i64).C w A l.length l) (hr:(Kd.int .i64).C w B r.length r) (hC:(Kd.int .i64).C w C ws.length ws) (hw:isW ws=true) (l1:l.length=128) (l2:r.length=128)
  (hv: ∀k:Nat,k<128->(-8388608<=rd l k/\rd l k<=8388608)/\(-8388608<=rd r k/\rd r k<=8388608)):
  Calls Tryz.prog 133 #[.slice A l.length ca,.slice B r.length cb,.slice C ws.length cc,.int .i64 8388608] w fun e w'=>e= .returned (.int .i64 0)/\Below w.heap.size w w':=by
 have h32:=(Qx.1 hw).2.2;have HW:=Qa.mk (Q16.Xl C cc ws w hC (by omega));rw[hw] at HW;have H1:=Qa.mk (fun(W:World) (hb:Below w.heap.size w W)=>Q16.Y4 8388608 (by decide) A ca l W (Kd.Qf hl hb) (by omega));have H2:=Qa.mk (fun(W:World) (hb:Below w.heap.size w W)=>Q16.Y4 8388608 (by decide) B cb r W (Kd.Qf hr hb) (by omega))
 rw[show Q16.rng (-8388608) 8388608 l=true from List.all_eq_true.2 fun x hx=>decide_eq_true (by
  obtain⟨k,hk,rfl⟩:=List.mem_iff_getElem.1 hx;have:=(hv k (by omega)).1
  rwa [Yl _ _ hk] at this)] at H1
 rw[show Q16.rng (-8388608) 8388608 r=true from List.all_eq_true.2 fun x hx=>decide_eq_true (by
  obtain⟨k,hk,rfl⟩:=List.mem_iff_getElem.1 hx;have:=(hv k (by omega)).2
  rwa [Yl _ _ hk] at this)] at H2
 rw[l1] at H1;rw[l2] at H2;rw[l1,l2];clear hl hr hC hw l1 l2 hv h32;go_enter Tryz.func133,Tryz.ntmps133;go_wp2_with fail;refine HW.out.mono ?_;rintro e w1 ⟨rfl,hb⟩;clear HW;go_wp2_with fail;refine(H1.out _ hb).mono ?_;rintro e w2 ⟨rfl,hbn⟩;replace hb:=bnx hb hbn;clear hbn H1;go_wp2_with fail;refine(H2.out _ hb).mono ?_;rintro e w3 ⟨rfl,hbn⟩;replace hb:=bnx hb hbn;clear hbn H2;go_wp2_with fail;go_ret;exact⟨rfl,hb⟩
theorem Qd3 (ws:List Int) (mid:List Bool) (k t:Nat):Zr ws mid k++List.replicate (t+1) (mid.getD k false)=(Zr ws mid k++List.replicate t (mid.getD k false))++[mid.getD k false]:=by
 rw[List.replicate_succ',List.append_assoc]
theorem Qbp (A B:Option Addr) (ca cb:Nat) (ws:List Int) (mid:List Bool) (w:World) (hr:(Kd.int .i64).C w A ws.length ws) (hM:Kd.bool.C w B mid.length mid) (hw:isW ws=true) (hl:mid.length=ws.length):
  Calls Tryz.prog 134 #[.slice A ws.length ca,.slice B mid.length cb] w fun e w'=> ∃v,e= .returned v/\Kd.bool.R 4 w' w.heap.size (fun _=>True) v (Zr ws mid ws.length)/\Below w.heap.size w w':=by
 have HR:=Qa.mk hr;have HM:=Qa.mk hM;have HO:=Qa.mk (fun k (hk:k<ws.length)=>Q7 hw hk);have HFl:=Qa.mk (fun k (hk:k<=ws.length)=>Jj hw mid k hk);have hlI:(ws.length:Int)<=32:=(by have:=(Qx.1 hw).2.2;omega);have hl9:=Qa.mk hl;have hmI:(mid.length:Int)<=32:=(by omega);clear hr hM hw hl;go_enter Tryz.func134,Tryz.ntmps134;go_wp2;go_loopw [5,10] (fun o i wr=> ∃k:Nat,i= .int .i64 k/\k<=ws.length/\Qa (Kd.bool.R 4 wr w.heap.size (fun _=>True) o (Zr ws mid k))/\Qa (Below w.heap.size w wr)) (fun _ i _=>ws.length-(intOf i).toNat)
 case atStart=>exact⟨0,rfl,by omega,⟨Kd.Zx _ _ _ _ _⟩,⟨Below.refl _ _⟩⟩
 case round=>
  obtain⟨k,rfl,hk,ho,hb⟩:=hrel;by_cases hlt:k<ws.length
  ·obtain⟨ad,rfl,hcell⟩:=Qn HR.out hb.out hlt
   have hkI:(k:Int)<(ws.length:Int):=(by omega);obtain⟨o1,o2,o3,o4⟩:=HO.out k hlt;have o5:=HFl.out k (by omega);have hml:k<mid.length:=(by have:=hl9.out;omega);have hmI2:(k:Int)<(mid.length:Int):=(by omega);have hnx:Qa (Zr ws mid (k+1)=Zr ws mid k++List.replicate (wd ws k) (mid.getD k false)):=⟨rfl⟩;obtain⟨d,hd⟩: ∃d,d=wd ws k:=⟨_,rfl⟩;rw[<-hd] at o1 o2 o3 o4 hnx;rw[o4] at hcell;have hst:=Qa.mk (Qd3 ws mid k);obtain⟨y,hy⟩: ∃y,y=Zr ws mid k:=⟨_,rfl⟩;rw[<-hy] at ho hnx hst o5;obtain⟨mb,hmb⟩: ∃mb,mb=mid.getD k false:=⟨_,rfl⟩;rw[<-hmb] at hnx hst;have hdI:(d:Int)<=128:=(by omega);have hyd:Qa (y.length+d<=128):=⟨by omega⟩;have hT:=Qa.mk hlt;have HMk:=Qa.mk (fun(W:World) (hb:Below w.heap.size w W)=>(show∃ad,B=some ad/\W.cell? (ad.add k)=some (.bool mb) by rw[hmb];exact Sca.Yv HM.out hb hml));clear hy hmb hd hlt hk o1 o2 o3 o4 o5 hml;go_wp2_with fail;obtain⟨ox,rfl⟩: ∃ox:Value,ox=u5:=⟨_,rfl⟩;obtain⟨wo,rfl⟩: ∃wo:World,wo=wr:=⟨_,rfl⟩;go_loopw [5,16] (fun o i wr=> ∃t:Nat,i= .int .i64 t/\t<=d/\Qa (Kd.bool.R 4 wr w.heap.size (fun _=>True) o (y++List.replicate t mb))/\Qa (Below w.heap.size w wr)) (fun _ i _=>d-(intOf i).toNat)
   case atStart=>exact⟨0,rfl,by omega,⟨by simpa using ho.out⟩,hb⟩
   case round=>
    obtain⟨t,rfl,ht,ho2,hb2⟩:=hrel;clear ho hb hcell;by_cases htd:t<d
    ·have htI:(t:Int)<(d:Int):=by omega
     obtain⟨ad2,rfl,hc2⟩:=HMk.out _ hb2.out;have hst2:=Qa.mk (hst.out t);have hlen:Qa (((y++List.replicate t mb).length +1)*1<=140737488355328):=⟨by rw[List.length_append,List.length_replicate];have:=hyd.out;omega⟩;obtain⟨z,hz⟩: ∃z,z=y++List.replicate t mb:=⟨_,rfl⟩;rw[<-hz] at ho2 hst2 hlen;have htT:=Qa.mk htd;clear hz htd ht;go_wp2_with (first|(at_builtin;refine Kd.Q3 Kd.bool (w0:=w) w.heap.size rfl (.tmp 18) (.tmp 23) 23 4 (.bool false) 1 rfl Tryz.underlying23 Du rfl (by decide) (by omega) u5 z (mb) [.bool (mb)] (fun _=>True) (fun _=>False) rfl rfl rfl (fun _ hk=>hk.elim) (fun _ _=>trivial) ho2.out hb2.out hb2.out.size hlen.out ?_;intro v1 wA hoA hbA hgA hatA;have HOA:=Qa.mk hoA;have HBA:=Qa.mk hbA;clear hoA hbA hgA hatA));go_roundw
     case rel=>exact⟨t+1,by go_num,htT.out,⟨by rw[hst2.out];exact HOA.out⟩,HBA⟩
     case measure=>have:=htT.out;simp[intOf];omega
    ·obtain rfl:t=d:=by omega
     have ho3:Qa (Kd.bool.R 4 wr w.heap.size (fun _=>True) u5 (Zr ws mid (k+1))):=⟨by rw[hnx.out];exact ho2.out⟩;clear ho2 ht htd;go_wp2_with fail;go_roundw
     case rel=>exact⟨k+1,by go_num,hT.out,ho3,hb2⟩
     case measure=>have:=hT.out;simp[intOf];omega
  ·obtain rfl:k=ws.length:=by omega
   go_wp2;go_ret;exact⟨_,rfl,ho.out,hb.out⟩
end Rs

namespace Rs
attribute [local go_sem] Qh Qi Qk Ql Qd Qe
open Q15
open Q21
open Q16 (isW Qx)
open St (Nt Tp Zr Jj Va Vb Sb)
open Bts
theorem Bb {wr w:World} {L:List Row} {G:List Blk} (h:Rws wr w L G):Rws wr w L []:=⟨h.below,h.row,h.pair,by simp,by simp,.nil⟩
abbrev rwI (v:Value) (l:List Int) (k:Nat):Row:=⟨3,1,v,k,(l.take k).map (Value.int .i64)⟩
theorem rwI_R {wr w:World} {L:List Row} {G:List Blk} {v:Value} {l:List Int} {k:Nat} (h:Rws wr w L G) (hm:rwI v l k∈L) (hk:k=l.length):(Kd.int .i64).R 3 w wr.heap.size (fun _=>True) v l:=by
 have h1:=h.row _ hm;subst hk;dsimp only[rwI] at h1;rw[List.take_length] at h1;refine Kd.Js (enc:=Value.int .i64) (h1:=fun _=>rfl) ?_ (fun _ _=>trivial);simpa[encs] using h1
theorem Qan (A B C M:Option Addr) (ca cb cc cm:Nat) (l r ws:List Int) (mid:List Bool) (w:World) (hl:(Kd.int .i64).C w A l.length l) (hr:(Kd.int .i64).C w B r.length r) (hC:(Kd.int .i64).C w C ws.length ws) (hM:Kd.bool.C w M mid.length mid) (hw:isW ws=true) (l1:l.length=128) (l2:r.length=128) (l3:mid.length=ws.length)
  (hv: ∀k:Nat,k<128->(-8388608<=rd l k/\rd l k<=8388608)/\(-8388608<=rd r k/\rd r k<=8388608)):
  Calls Tryz.prog 80 #[.slice A l.length ca,.slice B r.length cb,.slice C ws.length cc,.slice M mid.length cm] w fun e w'=> ∃vx vy,e= .returned (.tuple #[vx,vy,.int .i64 0])/\(Kd.int .i64).R 3 w' w.heap.size (fun _=>True) vx (Va l r (Zr ws mid ws.length))/\(Kd.int .i64).R 3 w' w.heap.size (fun _=>True) vy (Vb l r (Zr ws mid ws.length))/\Below w.heap.size w w':=by
 have h32:=(Qx.1 hw).2.2;have HW:=Qa.mk (Q16.Xl C cc ws w hC (by omega));rw[hw] at HW;have HCh:=Qa.mk (fun(W:World) (hb:Below w.heap.size w W)=>Eb A B C ca cb cc l r ws W (Kd.Qf hl hb) (Kd.Qf hr hb) (Kd.Qf hC hb) hw l1 l2 hv);have HEa:=Qa.mk (fun(W:World) (hb:Below w.heap.size w W)=>Qbp C M cc cm ws mid W (Kd.Qf hC hb) (Kd.Qf hM hb) hw l3);have HL:=Qa.mk (fun W (hb:Below w.heap.size w W) k (hk:k<128)=>Qn hl hb (k:=k) (by omega));have HR:=Qa.mk (fun W (hb:Below w.heap.size w W) k (hk:k<128)=>Qn hr hb (k:=k) (by omega));have HV:=Qa.mk hv;have hfl:(Zr ws mid ws.length).length =128:=(by rw[Jj hw mid _ (Nat.le_refl _)];unfold Q16.off;rw[List.take_length,(Qx.1 hw).2.1];rfl);obtain⟨fl,hflE⟩: ∃fl,fl=Zr ws mid ws.length:=⟨_,rfl⟩;rw[<-hflE] at HEa hfl ⊢
 have HX:Qa (∀k:Nat,k<128->rd (Va l r fl) k=(if fl.getD k false=true then Nt (rd l k) (rd r k) else rd l k)/\rd (Vb l r fl) k=(if fl.getD k false=true then Tp (rd l k) (rd r k) else rd r k)):=⟨fun k hk=>by
  unfold Va Vb;rw[Sb (by omega),Sb (by omega)]
  exact⟨rfl,rfl⟩⟩
 have hXl:Qa ((Va l r fl).length =128/\(Vb l r fl).length =128):=⟨by unfold Va Vb;simp[l1]⟩;obtain⟨X,hX⟩: ∃X,X=Va l r fl:=⟨_,rfl⟩;obtain⟨Y,hY⟩: ∃Y,Y=Vb l r fl:=⟨_,rfl⟩;rw[<-hX,<-hY] at HX hXl ⊢;have hml:(mid.length:Int)=(ws.length:Int):=(by rw[l3]);rw[l1,l2] at HCh ⊢;rw[l3] at HEa ⊢;clear hl hr hC hM hw l1 l2 l3 hv h32 hX hY hflE hml;go_enter Tryz.func80,Tryz.ntmps80;go_wp2_with fail;refine HW.out.mono ?_;rintro e w1 ⟨rfl,hb⟩;clear HW;go_wp2_with fail;refine(HCh.out _ hb).mono ?_;rintro e w2 ⟨rfl,hbn⟩;replace hb:=bnx hb hbn;clear hbn HCh;go_wp2_with fail;refine(HEa.out _ hb).mono ?_;rintro e w3 ⟨vf,rfl,hRf,hbn⟩;obtain⟨F,cf,rfl,-,hCf⟩:=Kd.Qs hRf;have HF:=Qa.mk (fun W (hb:Below w3.heap.size w3 W) k (hk:k<128)=>Sca.Yv hCf hb (k:=k) (by omega));rw[hfl];have hb3:=Qa.mk (bnx hb hbn);clear hRf hCf hbn HEa hb hfl;go_wp2_with fail;go_loopw [8,9,35] (fun x y i wr=> ∃k:Nat,i= .int .i64 k/\k<=128/\Qa (Rws w3 wr [rwI x X k,rwI y Y k] [])) (fun _ _ i _=>128-(intOf i).toNat)
 case atStart=>exact⟨0,rfl,by omega,⟨((Rws.start w3).nil 3 1).nil 3 1⟩⟩
 case round=>
  obtain⟨k,rfl,hk,hRw⟩:=hrel;by_cases hlt:k<128
  ·have hkI:(k:Int)<128:=by omega
   have hbr:=bnx hb3.out hRw.out.below;obtain⟨a1,rfl,c1⟩:=HL.out _ hbr k hlt;obtain⟨a2,rfl,c2⟩:=HR.out _ hbr k hlt;obtain⟨a3,rfl,c3⟩:=HF.out _ hRw.out.below k hlt;have v9:=HV.out k hlt;obtain⟨x1,x2⟩:=HX.out k hlt;have t1:=Qa.mk (Qu X k (by have:=hXl.out.1;omega));have t2:=Qa.mk (Qu Y k (by have:=hXl.out.2;omega));obtain⟨f,hf⟩: ∃f,f=fl.getD k false:=⟨_,rfl⟩;obtain⟨a,ha⟩: ∃a,a=rd l k:=⟨_,rfl⟩;obtain⟨b,hbE⟩: ∃b,b=rd r k:=⟨_,rfl⟩;rw[<-hf,<-ha,<-hbE] at x1 x2;rw[<-hf] at c3;rw[<-ha] at c1 v9;rw[<-hbE] at c2 v9;obtain⟨u,hu⟩: ∃u,u=rd X k:=⟨_,rfl⟩;obtain⟨v,hvE⟩: ∃v,v=rd Y k:=⟨_,rfl⟩;rw[<-hu] at x1 t1;rw[<-hvE] at x2 t2;have HS:=Qa.mk (fun W=>Aq a b W v9.1 v9.2);have hT:=Qa.mk hlt;clear hf ha hbE hu hvE hlt hk v9 hbr
   cases f with
   |true=>
    rw[if_pos rfl] at x1 x2;rw[<-x1,<-x2] at HS;clear x1 x2;go_wp2;go_quiet (fail);go_wp2_with fail;refine(HS.out _).mono ?_;rintro e w4 ⟨rfl,hbn⟩;have hb4:Below wr.heap.size wr w4:=bnx (below_drewN' (Below.refl _ _) nq) hbn;clear hbn HS c1 c2 c3;have hR4:=hRw.out.step hb4;have hRl:=Qa.mk (hR4.alloc #[.int .i64 u] 3);have hl9:Qa ((k+1)*8<=140737488355328):=⟨by have:=hT.out;omega⟩;clear hR4 hb4 hRw;go_wp2_with (first|(at_builtin;refine Kq (wr:=w3) (L1:=[]) (L2:=[rwI u9 Y k]) (G:=_) rfl (.tmp 56) (.tmp 58) 22 3 rfl (.int .i64 0) 1 8 Tryz.underlying22 Qw rfl (by decide) (by decide) u8 k ((X.take k).map (Value.int .i64)) rfl hRl.out ⟨w4.heap.size,0,none⟩ 1 1 [.int .i64 u] rfl rfl (Gi _ _ _) (by simp[Value.oneCell']) hl9.out ?_;intro v1 wA hRA hgA hkA;have HRA:=Qa.mk hRA;have HKA:=Qa.mk hkA;clear hRA hgA hkA;obtain⟨A4,p4,hv4⟩:=Rz (HRA.out.row _ (List.mem_append_right _ (List.mem_cons_self)));dsimp only at hv4;subst hv4;have hRm:=Qa.mk ((Bb HRA.out).alloc #[.int .i64 v] 3);clear hRl HRA HKA)|(at_builtin;refine Kq (wr:=w3) (L1:=[⟨3,1,.slice A4 (k+1) p4,k+1,(X.take k).map (Value.int .i64)++[Value.int .i64 u]⟩]) (L2:=[]) (G:=_) rfl (.tmp 60) (.tmp 62) 22 3 rfl (.int .i64 0) 1 8 Tryz.underlying22 Qw rfl (by decide) (by decide) u9 k ((Y.take k).map (Value.int .i64)) rfl hRm.out ⟨wA.heap.size,0,none⟩ 1 1 [.int .i64 v] rfl rfl (Gi _ _ _) (by simp[Value.oneCell']) hl9.out ?_;intro v1 wA hRA hgA hkA;have HRA:=Qa.mk hRA;have HKA:=Qa.mk hkA;clear hRA hgA hkA;obtain⟨A4,p4,hv4⟩:=Rz (HRA.out.row _ (List.mem_append_right _ (List.mem_cons_self)));dsimp only at hv4;subst hv4;skip));have hfin:=Qa.mk (Bb HRA.out);clear hRm HRA HKA;go_roundw
    case rel=>exact⟨k+1,by go_num,hT.out,⟨by
     have h1:(X.take (k+1)).map (Value.int .i64)=(X.take k).map (Value.int .i64)++[.int .i64 u]:=(by rw[t1.out,List.map_append];rfl);have h2:(Y.take (k+1)).map (Value.int .i64)=(Y.take k).map (Value.int .i64)++[.int .i64 v]:=by rw[t2.out,List.map_append];rfl
     show Rws w3 _ [⟨3,1,_,k+1,(X.take (k+1)).map (Value.int .i64)⟩,⟨3,1,_,k+1,(Y.take (k+1)).map (Value.int .i64)⟩] []
     rw[h1,h2]
     exact hfin.out⟩⟩
    case measure=>have:=hT.out;simp[intOf];omega
   |false=>
    rw[if_neg (by decide)] at x1 x2;subst x1 x2;clear HS;go_wp2;go_quiet (fail);obtain⟨w4,hw4⟩: ∃w4,w4=wr.drewN nq:=⟨_,rfl⟩;have hb4:Below wr.heap.size wr w4:=(by rw[hw4];exact below_drewN' (Below.refl _ _) nq);rw[<-hw4];clear hw4 c1 c2 c3;have hR4:=hRw.out.step hb4;have hRl:=Qa.mk (hR4.alloc #[.int .i64 u] 3);have hl9:Qa ((k+1)*8<=140737488355328):=⟨by have:=hT.out;omega⟩;clear hR4 hb4 hRw;go_wp2_with (first|(at_builtin;refine Kq (wr:=w3) (L1:=[]) (L2:=[rwI u9 Y k]) (G:=_) rfl (.tmp 56) (.tmp 58) 22 3 rfl (.int .i64 0) 1 8 Tryz.underlying22 Qw rfl (by decide) (by decide) u8 k ((X.take k).map (Value.int .i64)) rfl hRl.out ⟨w4.heap.size,0,none⟩ 1 1 [.int .i64 u] rfl rfl (Gi _ _ _) (by simp[Value.oneCell']) hl9.out ?_;intro v1 wA hRA hgA hkA;have HRA:=Qa.mk hRA;have HKA:=Qa.mk hkA;clear hRA hgA hkA;obtain⟨A4,p4,hv4⟩:=Rz (HRA.out.row _ (List.mem_append_right _ (List.mem_cons_self)));dsimp only at hv4;subst hv4;have hRm:=Qa.mk ((Bb HRA.out).alloc #[.int .i64 v] 3);clear hRl HRA HKA)|(at_builtin;refine Kq (wr:=w3) (L1:=[⟨3,1,.slice A4 (k+1) p4,k+1,(X.take k).map (Value.int .i64)++[Value.int .i64 u]⟩]) (L2:=[]) (G:=_) rfl (.tmp 60) (.tmp 62) 22 3 rfl (.int .i64 0) 1 8 Tryz.underlying22 Qw rfl (by decide) (by decide) u9 k ((Y.take k).map (Value.int .i64)) rfl hRm.out ⟨wA.heap.size,0,none⟩ 1 1 [.int .i64 v] rfl rfl (Gi _ _ _) (by simp[Value.oneCell']) hl9.out ?_;intro v1 wA hRA hgA hkA;have HRA:=Qa.mk hRA;have HKA:=Qa.mk hkA;clear hRA hgA hkA;obtain⟨A4,p4,hv4⟩:=Rz (HRA.out.row _ (List.mem_append_right _ (List.mem_cons_self)));dsimp only at hv4;subst hv4;skip));have hfin:=Qa.mk (Bb HRA.out);clear hRm HRA HKA;go_roundw
    case rel=>exact⟨k+1,by go_num,hT.out,⟨by
     have h1:(X.take (k+1)).map (Value.int .i64)=(X.take k).map (Value.int .i64)++[.int .i64 u]:=(by rw[t1.out,List.map_append];rfl);have h2:(Y.take (k+1)).map (Value.int .i64)=(Y.take k).map (Value.int .i64)++[.int .i64 v]:=by rw[t2.out,List.map_append];rfl
     show Rws w3 _ [⟨3,1,_,k+1,(X.take (k+1)).map (Value.int .i64)⟩,⟨3,1,_,k+1,(Y.take (k+1)).map (Value.int .i64)⟩] []
     rw[h1,h2]
     exact hfin.out⟩⟩
    case measure=>have:=hT.out;simp[intOf];omega
  ·obtain rfl:k=128:=by omega
   have hfin:=Qa.mk (And.intro (Kd.Zz (rwI_R hRw.out (by simp) hXl.out.1.symm:(Kd.int .i64).R 3 wr w3.heap.size (fun _=>True) u8 X) hb3.out.size) (And.intro (Kd.Zz (rwI_R hRw.out (by simp) hXl.out.2.symm:(Kd.int .i64).R 3 wr w3.heap.size (fun _=>True) u9 Y) hb3.out.size) (bnx hb3.out hRw.out.below)));clear hRw;go_wp2_with fail;go_ret3;exact⟨_,_,rfl,hfin.out⟩
end Rs

end Go.Proofs.YtnflnicdjioflaaGreatDoor
