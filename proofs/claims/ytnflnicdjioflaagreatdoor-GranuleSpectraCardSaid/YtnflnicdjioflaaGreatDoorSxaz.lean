/- A part of the proof. -/
import Derived.Test.YtnflnicdjioflaaGreatDoorSxax
import Derived.Deep.CutRange
set_option linter.unusedVariables false
set_option linter.unusedSimpArgs false
set_option maxRecDepth 100000
set_option maxHeartbeats 8000000
namespace Go.Proofs.YtnflnicdjioflaaGreatDoor
open Go.RowKit Go.Proofs.YtnflnicdjioflaaGreatDoorW.PrintWords Go.Proofs.YtnflnicdjioflaaGreatDoorW.PrintLast Go.Proofs.YtnflnicdjioflaaGreatDoorW.PrintMore
namespace Sec
attribute [local go_sem] Qh Qi Qk Ql Qd Qe
open Q15
open Q21 (Qb Qj)
open Bts
open Bk
def Zt (s:List (Int×Int)):List Value:=(s.map fun p=>[Value.int .i64 p.1,Value.int .i64 p.2]).flatten
theorem Nr (s:List (Int×Int)):(Zt s).length =s.length*2:=by
 induction s with
 |nil=>rfl
 |cons p s ih=>
  show(Zt s).length +2=_
  rw[ih,List.length_cons];omega
theorem Tn (p:Int×Int) (s:List (Int×Int)):Zt (p::s)=[.int .i64 p.1,.int .i64 p.2]++Zt s:=rfl
theorem P7 {gw:Nat} {w w1:World} {A:Option Addr} {cs:List Value} (h:Cells w A cs) (hk:Kp gw none w w1) (hA: ∀ad,A=some ad->ad.block≠gw):Cells w1 A cs:=fun hn=>by
 obtain⟨ad,e,hc⟩:=h hn;exact⟨ad,e,fun j u hj=>hk.cell (hc j u hj) (by rw[add_block];exact hA ad e) (by simp)⟩
theorem C_kp {gw:Nat} {w w1:World} {A:Option Addr} {n:Nat} {xs:List Int} (h:(Kd.int .i64).C w A n xs) (hk:Kp gw none w w1) (hA: ∀ad,A=some ad->ad.block≠gw):(Kd.int .i64).C w1 A n xs:=by
 obtain⟨r1,r2,r3⟩:=Kd.Xm (enc:=Value.int .i64) (h1:=fun _=>rfl) (d:=(0:Int)) h;refine Kd.Zu (d:=(0:Int)) ⟨r1,r2,fun h0=> ?_⟩;obtain⟨a,rfl,hc⟩:=r3 h0;exact⟨a,rfl,fun j hj=>hk.cell (hc j hj) (by rw[add_block];exact hA a rfl) (by simp)⟩
structure Hg (W:World) (gw:Nat) (r:Wy) (A:Option Addr) (ca:Nat) (B:Option Addr) (cb:Nat):Prop where
 sec:Cells W A (Zt r.secs)
 bk:(Kd.int .i64).C W B r.books.length r.books
 na: ∀ad,A=some ad->gw<ad.block
 nb: ∀ad,B=some ad->gw<ad.block
theorem Hg.na2 {W:World} {gw:Nat} {r:Wy} {A B:Option Addr} {ca cb:Nat} (h:Hg W gw r A ca B cb): ∀ad,A=some ad->ad.block≠gw:=fun ad e=>by have:=h.na ad e;omega
theorem Hg.nb2 {W:World} {gw:Nat} {r:Wy} {A B:Option Addr} {ca cb:Nat} (h:Hg W gw r A ca B cb): ∀ad,B=some ad->ad.block≠gw:=fun ad e=>by have:=h.nb ad e;omega
def wayA (r:Wy) (A:Option Addr) (ca:Nat) (B:Option Addr) (cb:Nat):Array Value:= #[.int .i64 r.cost,.slice A r.secs.length ca,.slice B r.books.length cb]
theorem Hg.kp {W W1:World} {gw:Nat} {r:Wy} {A B:Option Addr} {ca cb:Nat} (h:Hg W gw r A ca B cb) (hk:Kp gw none W W1):Hg W1 gw r A ca B cb:=
 ⟨P7 h.sec hk h.na2,C_kp h.bk hk h.nb2,h.na,h.nb⟩
def Jh (W:World) (gw n d:Nat) (ws l:List Int):Prop:=
 ∃cs:Array Value,W.heap[gw]? =some (.cells cs 150 (0,0))/\cs.size=(n+1)*3/\
  ∀t,t<=d-> ∃A ca B cb,cs[(n-t)*3]? =some (.int .i64 ((wL ws l t).getD 0 w0).cost)/\cs[(n-t)*3+1]? =some (.slice A ((wL ws l t).getD 0 w0).secs.length ca)/\cs[(n-t)*3+2]? =some (.slice B ((wL ws l t).getD 0 w0).books.length cb)/\Hg W gw ((wL ws l t).getD 0 w0) A ca B cb
theorem Jh.kp {W W1:World} {gw n d:Nat} {ws l:List Int} (h:Jh W gw n d ws l) (hk:Kp gw none W W1) (hs:W1.heap[gw]? =W.heap[gw]?):Jh W1 gw n d ws l:=by
 obtain⟨cs,h1,h2,h3⟩:=h;refine⟨cs,by rw[hs];exact h1,h2,fun t ht=> ?_⟩;obtain⟨A,ca,B,cb,e1,e2,e3,e4⟩:=h3 t ht;exact⟨A,ca,B,cb,e1,e2,e3,e4.kp hk⟩
theorem Jh.below {W W1:World} {gw n d:Nat} {ws l:List Int} (h:Jh W gw n d ws l) (hb:Below W.heap.size W W1):Jh W1 gw n d ws l:=
 h.kp (Kp.of_below hb gw none) (hb.block gw (by obtain⟨cs,h1,_⟩:=h;exact Qr h1))
theorem Jh.set {W:World} {gw n d:Nat} {ws l:List Int} (h:Jh W gw n d ws l) (hd:d+1<=n) {A B:Option Addr} {ca cb:Nat} {r:Wy} (hr:(wL ws l (d+1)).getD 0 w0=r) (hw:Hg W gw r A ca B cb) {i:Nat} (hi:i=n-(d+1)):
  Jh (((W.setCell ⟨gw,i*3,none⟩ (.int .i64 r.cost)).setCell ⟨gw,i*3+1,none⟩ (.slice A r.secs.length ca)).setCell ⟨gw,i*3+2,none⟩ (.slice B r.books.length cb)) gw n (d+1) ws l:=by
 obtain⟨cs,h1,h2,h3⟩:=h;subst hi;have hk:Kp gw none W (((W.setCell ⟨gw,(n-(d+1))*3,none⟩ (.int .i64 r.cost)).setCell ⟨gw,(n-(d+1))*3+1,none⟩ (.slice A r.secs.length ca)).setCell ⟨gw,(n-(d+1))*3+2,none⟩ (.slice B r.books.length cb)):=(((Kp.refl _ _ _).Dj _ _).Dj _ _).Dj _ _;refine⟨_,Q9 (Q9 (Q9 h1 _ _) _ _) _ _,by simpa using h2,fun t ht=> ?_⟩;by_cases htd:t=d+1
 ·subst htd
  rw[hr];refine⟨A,ca,B,cb,?_,?_,?_,hw.kp hk⟩
  ·rw[Array.getElem?_setIfInBounds_ne (by omega),Array.getElem?_setIfInBounds_ne (by omega),Array.getElem?_setIfInBounds_self_of_lt (by omega)]
  ·rw[Array.getElem?_setIfInBounds_ne (by omega),Array.getElem?_setIfInBounds_self_of_lt (by simp;omega)]
  ·rw[Array.getElem?_setIfInBounds_self_of_lt (by simp;omega)]
 ·obtain⟨A',ca',B',cb',e1,e2,e3,e4⟩:=h3 t (by omega)
  refine⟨A',ca',B',cb',?_,?_,?_,e4.kp hk⟩
  ·rw[Array.getElem?_setIfInBounds_ne (by omega),Array.getElem?_setIfInBounds_ne (by omega),Array.getElem?_setIfInBounds_ne (by omega)];exact e1
  ·rw[Array.getElem?_setIfInBounds_ne (by omega),Array.getElem?_setIfInBounds_ne (by omega),Array.getElem?_setIfInBounds_ne (by omega)];exact e2
  ·rw[Array.getElem?_setIfInBounds_ne (by omega),Array.getElem?_setIfInBounds_ne (by omega),Array.getElem?_setIfInBounds_ne (by omega)];exact e3
theorem info_way:(Tryz.prog.info? 150).map (fun i=>(i.zero,i.size,i.bytes))=some (some (.agg #[.int .i64 0,.slice none 0 0,.slice none 0 0]),3,56):=by kernel_rfl
theorem info_sec:(Tryz.prog.info? 153).map (fun i=>(i.zero,i.size,i.bytes))=some (some (.agg #[.int .i64 0,.int .i64 0]),2,16):=by kernel_rfl
theorem zero3 {n k:Nat} (h:k<n):(madeCells #[.int .i64 0,.slice none 0 0,.slice none 0 0] (n*3))[k*3]? =some (.int .i64 0)/\(madeCells #[.int .i64 0,.slice none 0 0,.slice none 0 0] (n*3))[k*3+1]? =some (.slice none 0 0)/\(madeCells #[.int .i64 0,.slice none 0 0,.slice none 0 0] (n*3))[k*3+2]? =some (.slice none 0 0):=by
 unfold madeCells;refine⟨?_,?_,?_⟩
 ·simp[show k*3<n*3 by omega,Nat.mul_mod_left]
 ·simp[show k*3+1<n*3 by omega,Nat.add_mod,Nat.mul_mod_left]
 ·simp[show k*3+2<n*3 by omega,Nat.add_mod,Nat.mul_mod_left]
theorem Qcj (W:World) (n:Nat) (ws l:List Int):Jh (W.alloc (.cells (madeCells #[.int .i64 0,.slice none 0 0,.slice none 0 0] ((n+1)*3)) 150)) W.heap.size n 0 ws l:=by
 refine⟨_,heap_alloc_new _ _,size_madeCells _ _,fun t ht=> ?_⟩;obtain rfl:t=0:=(by omega);obtain⟨z1,z2,z3⟩:=zero3 (n:=n+1) (k:=n) (by omega);exact⟨none,0,none,0,z1,z2,z3,⟨fun h=>absurd rfl h,Kd.Zu (d:=(0:Int)) ⟨rfl,by simp[wL,w0],fun h=>by simp[wL,w0] at h⟩,fun _ h=>(by cases h),fun _ h=>(by cases h)⟩⟩
def Te (W:World) (gw:Nat) (top:Option Wy) (v:Value):Prop:=match top with
 |none=>v= .pointer none
 |some r=> ∃g A ca B cb,v= .pointer (some ⟨g,0,none⟩)/\g≠gw/\W.heap[g]? =some (.cells (wayA r A ca B cb) 150 (0,0))/\Hg W gw r A ca B cb
theorem Te.kp {W W1:World} {gw:Nat} {top:Option Wy} {v:Value} (h:Te W gw top v) (hk:Kp gw none W W1):Te W1 gw top v:=by
 cases top with
 |none=>exact h
 |some r=>
  obtain⟨g,A,ca,B,cb,e1,e2,e3,e4⟩:=h;exact⟨g,A,ca,B,cb,e1,e2,hk.blk e3 e2 (by simp),e4.kp hk⟩
theorem Te.below {W W1:World} {gw:Nat} {top:Option Wy} {v:Value} (h:Te W gw top v) (hb:Below W.heap.size W W1):Te W1 gw top v:=h.kp (Kp.of_below hb gw none)
theorem row_at {w:World} {b:Nat} {v:Value} {n:Nat} {ws l:List Int} (h:w.ownsRow b 148 8 v n (J7 ws l n)) (h0:0<n): ∃gc c,v= .slice (some ⟨gc,0,none⟩) n c/\gc<w.heap.size/\ ∀j k,j<n->k<8->w.cell? ⟨gc,j*8+k,none⟩=some (.int .i64 (Q5 k (Xf ws l j))):=by
 rcases h.2 with ⟨_,hn⟩|⟨g,cap,cur,hv,hb,hg,h1,h2,h3,h4⟩
 ·omega
 ·refine⟨g,cap,hv,Qr hg,fun j k hj hk=> ?_⟩
  rw[Qb hg];have h5:=Qaw ws l hk n hj;rw[<-h4,List.getElem?_take_of_lt (by omega),Nat.mul_comm] at h5;simpa using h5
theorem one_C (W:World) (x:Int) (t:Nat):(Kd.int .i64).C (W.alloc (.cells #[.int .i64 x] t)) (some ⟨W.heap.size,0,none⟩) 1 [x]:=
 Kd.Zu (d:=(0:Int)) ⟨rfl,by simp,fun _=>⟨_,rfl,fun j hj=>by
  obtain rfl:j=0:=by simpa using hj
  exact(Qb (heap_alloc_new W (.cells #[.int .i64 x] t)) 0)⟩⟩
theorem preC_C {W:World} {g n t:Nat} {k:Int} (h:W.heap[g]? =some (.cells (De k n n).toArray t (0,0))) (hn:n<=1000000):(Kd.int .i64).C W (some ⟨g,0,none⟩) (List.replicate n k).length (List.replicate n k):=
 Kd.Zu (d:=(0:Int)) ⟨rfl,by simp;omega,fun _=>⟨_,rfl,fun j hj=>by
  rw[List.length_replicate] at hj
  rw[show(⟨g,0,none⟩:Addr).add j=⟨g,j,none⟩ by
   unfold Addr.add;by_cases h0:j=0
   ·simp[h0]
   ·simp[h0],Qb h,List.getElem?_toArray,Qda (Nat.le_refl _) hj]
  simp[List.getD_eq_getElem?_getD,List.getElem?_replicate,hj]⟩⟩
theorem Uw (g cg:Nat) (A B:Option Addr) (ca cb:Nat) (a b:List Int) (w:World) (h0:w.cell? ⟨g,0,none⟩=some (.slice A a.length ca)) (h1:w.cell? ⟨g,1,none⟩=some (.slice B b.length cb))
  (hr:(Kd.int .i64).C w A a.length a) (hr2:(Kd.int .i64).C w B b.length b) (h2:1<=a.length) (h3:a.length+b.length<=1000000):
  Calls Tryz.prog 144 #[.slice (some ⟨g,0,none⟩) 2 cg] w fun e w'=> ∃A' c',e= .returned (.slice A' (a++b).length c')/\(Kd.int .i64).C w' A' (a++b).length (a++b)/\(∀ad,A'=some ad->w.heap.size<=ad.block)/\Typed w' A' 3/\Below w.heap.size w w':=by
 have HC:=Qa.mk (Mk g cg A B ca cb a b w h0 h1 hr hr2 h2 h3);clear h0 h1 hr hr2 h2 h3;go_enter Tryz.func144,Tryz.ntmps144;go_wp2_with (first|(go_at_call 189;refine HC.out.mono ?_;rintro e w1 ⟨v,rfl,hR,hb⟩;replace hR:=Qa.mk hR;replace hb:=Qa.mk hb));go_ret;obtain⟨A',c',hv,_,hC⟩:=Kd.Qs hR.out;have hbd:=(Kd.Zd hR.out).1;rw[hv] at hbd
 exact⟨A',c',by rw[hv];rfl,hC,fun ad he=>(hbd ad.block (by rw[he];rfl)).2.1,fun ad he=>by
  obtain⟨-,-,-,q,hq,cells,hc⟩:=hbd ad.block (by rw[he];rfl);have hq':q=3:=by simpa[Kd.E,Kd.int,Kd.scalar] using hq
  exact⟨cells,by rw[<-hq'];exact hc⟩,hb.out⟩
theorem Qbj {w:World} {gw:Nat} {tp:Option Wy} {v:Value} {cd:Wy} {A B:Option Addr} {c d:Nat} (hT:Te w gw tp v) (hw:Hg w gw cd A c B d) (hgw:gw<w.heap.size) (h1:cd.books.length<=1000000) (h2: ∀a,tp=some a->a.books.length<=1000000):
  Calls Tryz.prog 145 #[v,.agg (wayA cd A c B d),.func (.func 146) #[] #[]] w fun e w'=> ∃v',e= .returned v'/\Te w' gw (some (betW tp cd)) v'/\Below w.heap.size w w':=by
 cases tp with
 |none=>
  obtain rfl:v= .pointer none:=hT;refine(O4 cd.cost A B cd.secs.length c cd.books.length d w).mono ?_;rintro e w' ⟨rfl,hg,hb⟩;exact⟨_,rfl,⟨_,A,c,B,d,rfl,by omega,hg,hw.kp (Kp.of_below hb gw none)⟩,hb⟩
 |some a=>
  obtain⟨g,A2,c2,B2,d2,rfl,hne,hg,hwa⟩:=hT;refine(O5 g cd.cost a.cost A B A2 B2 cd.secs.length c d a.secs.length c2 d2 cd.books a.books w hw.bk hwa.bk h1 (h2 a rfl) hg).mono ?_;rintro e w' ⟨hcase,hb⟩;have hbw:betW (some a) cd=if K8 cd.cost cd.books a.cost a.books=true then cd else a:=rfl;rcases hcase with ⟨hf,rfl⟩|⟨ht,rfl,hg2⟩
  ·rw[hbw,if_neg (by rw[hf];simp)]
   exact⟨_,rfl,⟨g,A2,c2,B2,d2,rfl,hne,Qv hg hb,hwa.kp (Kp.of_below hb gw none)⟩,hb⟩
  ·rw[hbw,if_pos ht]
   exact⟨_,rfl,⟨_,A,c,B,d,rfl,by omega,hg2,hw.kp (Kp.of_below hb gw none)⟩,hb⟩
end Sec

namespace Sec
attribute [local go_sem] Qh Qi Qk Ql Qd Qe
open Q15
open Q21 (Qb Qj)
open Bts
open Bk
theorem Cs (A B:Option Addr) (c1 c2:Nat) (ws l:List Int) (w:World) (hL:Xn w) (hr:(Kd.int .i64).C w A ws.length ws) (hr2:(Kd.int .i64).C w B l.length l) (hcap:l.length<=c2) (hok:Ok ws l) (h0:0<ws.length):
    Calls Tryz.prog 89 #[.slice A ws.length c1,.slice B l.length c2] w fun e w'=> ∃A' ca',e= .returned (.tuple #[.slice A' ((wL ws l ws.length).getD 0 w0).secs.length ca',.int .i64 ((wL ws l ws.length).getD 0 w0).cost,.int .i64 0])/\Cells w' A' (Zt ((wL ws l ws.length).getD 0 w0).secs)/\(∀ad,A'=some ad->w.heap.size<=ad.block)/\Below w.heap.size w w':=by
  have HO:=Qa.mk hok;have hu:=Tryz.underlying150;have hu2:=Tryz.underlying148;have HCh:=Qa.mk (fun(W:World) (hb:Below w.heap.size w W)=>Di A B c1 c2 ws l W (hL.below hb) (Kd.Qf hr hb) (Kd.Qf hr2 hb) hok);have HRo:=Qa.mk (fun(W:World) (hb:Below w.heap.size w W)=>Qcc A B c1 c2 ws l W (hL.below hb) (Kd.Qf hr hb) (Kd.Qf hr2 hb) hcap hok h0);have HMk:=fun W=>Pre.Na 145 150 (.agg #[.int .i64 0,.slice none 0 0,.slice none 0 0]) 3 56 Tryz.underlying145 info_way (ws.length+1) (by decide) (by have:=hok.len;omega) W
  obtain⟨n,hn⟩: ∃n,n=ws.length:=⟨_,rfl⟩;rw[<-hn] at HCh HRo h0 HMk ⊢;have hnI:1<=(n:Int)/\(n:Int)<=128:=(by have:=hok.len;omega);have hcast:((n+1:Nat):Int)=(n:Int)+1:=(by push_cast;rfl);rw[hcast] at HMk;have hb:=Below.refl w.heap.size w;clear hcast;replace hn:=Qa.mk hn;clear hr hr2 hL hok hcap;go_enter Tryz.func89,Tryz.ntmps89;go_wp2_with (first|(go_at_call 140;refine((HCh.out _ (Below.refl _ _))).mono ?_;rintro e w' ⟨rfl,hbn⟩;replace hb:=bnx hb hbn;clear hbn)|(go_at_call 141;refine(HRo.out _ hb).mono ?_;rintro e w2 ⟨v,rfl,hRo,hb2⟩;replace hRo:=Qa.mk hRo;replace hb2:=Qa.mk hb2));obtain⟨gc,cc,rfl,hgc,hcost⟩:=row_at (ws:=ws) (l:=l) hRo.out h0;obtain⟨W3,hW3⟩: ∃W3,W3=w2.alloc (.cells (madeCells #[.int .i64 0,.slice none 0 0,.slice none 0 0] ((n+1)*3)) 150):=⟨_,rfl⟩;obtain⟨gw,hgw⟩: ∃gw,gw=w2.heap.size:=⟨_,rfl⟩;have hways:=Qa.mk (Qcj w2 n ws l)
  have hb3:Qa (Below w.heap.size w W3/\w.heap.size<=gw/\gw<W3.heap.size/\gc≠gw):=⟨by
    rw[hW3,hgw];have:=hb.size;have:=hb2.out.size
    exact⟨(bnx hb hb2.out).alloc (by omega) _,by omega,by simp,by omega⟩⟩
  have hcost3:Qa (∀W',Kp gw none W3 W'-> ∀j k,j<n->k<8->W'.cell? ⟨gc,j*8+k,none⟩=some (.int .i64 (Q5 k (Xf ws l j)))):=⟨fun W' hk j k hj hk8=>hk.cell (show W3.cell? ⟨gc,j*8+k,none⟩=_ by rw[hW3];exact Xa _ (hcost j k hj hk8)) hb3.out.2.2.2 (by simp)⟩;rw[<-hW3,<-hgw] at hways;rw[<-hW3,<-hgw];clear hW3 hgw hgc hcost hRo hb2 hb HMk HRo HCh;go_loopw [10] (fun i wr=> ∃d:Nat,d<=n/\i= .int .i64 ((n:Int)-1-(d:Int))/\Qa (Kp gw none W3 wr)/\Qa (Jh wr gw n d ws l)) (fun i _=>(intOf i+1).toNat)
  case atStart=>exact⟨0,Nat.zero_le _,by go_num,⟨Kp.refl _ _ _⟩,hways⟩
  case round=>
    obtain⟨d,hd,rfl,hK,hWs⟩:=hrel;by_cases hlt:d<n
    · obtain⟨wo,rfl⟩: ∃wo:World,wo=wr:=⟨_,rfl⟩
      obtain⟨I,hI⟩: ∃I:Int,I=(n:Int)-1-(d:Int):=⟨_,rfl⟩;rw[<-hI];have hiI:0<=I/\I<=127:=(by omega);have hM:=Qa.mk hlt;replace hI:=Qa.mk hI;clear hlt hd;go_wp2_with fail;go_loopw [11,39] (fun top k wr=> ∃q:Nat,k= .int .i64 q/\q<=8/\Qa (Kp gw none W3 wr)/\Qa (Jh wr gw n d ws l)/\Qa (Te wr gw (kTo (cB ws l (d+1)) (wL ws l d) (d+1) q) top)) (fun _ k _=>8-(intOf k).toNat)
      case atStart=>exact⟨0,rfl,by omega,hK,hWs,⟨rfl⟩⟩
      case round=>
        obtain⟨q,rfl,hq,hK2,hWs2,hTop⟩:=hrel;by_cases hq8:q<8
        · obtain⟨w4,rfl⟩: ∃w4:World,w4=wr:=⟨_,rfl⟩
          have hqT:=Qa.mk hq8;have hqI:(q:Int)<8:=(by omega);obtain⟨G,hG⟩: ∃G,G=kTo (cB ws l (d+1)) (wL ws l d) (d+1) (q+1):=⟨_,rfl⟩;have hG1:Qa (jL (cB ws l (d+1) q) (wL ws l d) q (d+1) 0 0 (kTo (cB ws l (d+1)) (wL ws l d) (d+1) q)=G):=⟨by rw[hG,K6]⟩;have hTg:Qa (∀a,kTo (cB ws l (d+1)) (wL ws l d) (d+1) q=some a->Ym (d+1) a):=⟨Rv (by have:=HO.out.len;have:=hn.out;have:=hM.out;omega) (fun t ht=>by have:=wL_all HO.out (m:=d) (t:=t) (by have:=hn.out;have:=hM.out;omega) (by omega);rwa [show d+1-(t+1)=d-t by omega]) q (fun k t hk ht=>(O7 HO.out (by have:=hn.out;have:=hM.out;omega) (by omega) ht).2.1)⟩;replace hG:=Qa.mk hG;obtain⟨tp0,htp0⟩: ∃tp0,tp0=kTo (cB ws l (d+1)) (wL ws l d) (d+1) q:=⟨_,rfl⟩;rw[<-htp0] at hG1 hTg hTop;clear htp0 hq8 hq;go_wp2_with fail;go_loopw [11,13,14] (fun top s j wr=> ∃(t:Nat) (S:Int) (tp:Option Wy),t<=d+1/\j= .int .i64 (I+(t:Int))/\s= .int .i64 S/\0<=S/\S<=13312*(t:Int)/\Qa (jL (cB ws l (d+1) q) (wL ws l d) q (d+1-t) t S tp=G)/\Qa (∀a,tp=some a->Ym (d+1) a)/\Qa (Kp gw none W3 wr)/\Qa (Jh wr gw n d ws l)/\Qa (Te wr gw tp top)) (fun _ _ j _=>((n:Int)-intOf j).toNat)
          case atStart=>exact⟨0,0,tp0,by omega,by go_num,rfl,by omega,by omega,hG1,hTg,hK2,hWs2,hTop⟩
          case round=>
            obtain⟨t,S,tp,ht,rfl,rfl,hS0,hS1,hJ,hTg2,hK3,hWs3,hTop3⟩:=hrel;by_cases htd:t=d+1
            · subst htd
              have hge:I+((d+1:Nat):Int)=(n:Int):=(by have:=hI.out;omega);rw[hge];rw[Nat.sub_self] at hJ;clear ht hS0 hS1 hge;go_wp2_with fail;go_roundw
              case rel=>exact⟨q+1,by go_num,hqT.out,hK3,hWs3,⟨by rw[<-hG.out,<-hJ.out];exact hTop3.out⟩⟩
              case measure=>have:=hqT.out;simp[intOf];omega
            · obtain⟨jn,hjn⟩: ∃jn:Nat,(jn:Int)=I+(t:Int):=⟨n-(d+1)+t,by have:=hM.out;have:=hI.out;omega⟩
              have hjN:Qa (jn=n-(d+1)+t/\jn<n/\t<=d):=⟨by have:=hM.out;have:=hI.out;omega⟩;have hcs:=hcost3.out _ hK3.out jn q hjN.out.2.1 hqT.out;obtain⟨cst,hcst⟩: ∃cst,cst=cB ws l (d+1) q t:=⟨_,rfl⟩;have hce:Q5 q (Xf ws l jn)=cst:=(by rw[hcst];unfold cB;rw[<-hn.out,<-hjN.out.1]);rw[hce] at hcs;rw[<-hjn];have hjI:(jn:Int)<(n:Int):=(by have:=hjN.out.2.1;omega);rw[show d+1-t=(d-t)+1 by have:=hjN.out;omega] at hJ;by_cases hneg:cst<0
              · have hJ2:Qa (tp=G):=⟨by rw[<-hJ.out,jL,if_pos (by rw[<-hcst];exact hneg)]⟩
                clear hJ hce hcst htd ht hS0 hS1;replace hjn:=Qa.mk hjn;go_wp2_with fail;go_roundw
                case rel=>exact⟨q+1,by go_num,hqT.out,hK3,hWs3,⟨by rw[<-hG.out,<-hJ2.out];exact hTop3.out⟩⟩
                case measure=>have:=hqT.out;simp[intOf];omega
              · have hc9:cst<=13312:=by rw[hcst];exact(O7 HO.out (by have:=hn.out;have:=hM.out;omega) hqT.out (by have:=hjN.out;omega)).2.1
                obtain⟨r,hr⟩: ∃r,r=(wL ws l d).getD t w0:=⟨_,rfl⟩;have hJ2:Qa (jL (cB ws l (d+1) q) (wL ws l d) q (d-t) (t+1) (S+cst) (U9 tp q t (S+cst) r)=G):=⟨by rw[<-hJ.out,jL,if_neg (by rw[<-hcst];exact hneg),<-hcst,<-hr]⟩;have hgr:Ym (d-t) r:=(by rw[hr];exact wL_all HO.out (by have:=hn.out;have:=hM.out;omega) hjN.out.2.2);have hrd:(wL ws l (d-t)).getD 0 w0=r:=(by rw[hr,Sw ws l d t hjN.out.2.2]);obtain⟨cs,hgc,hcsz,hcel⟩:=hWs3.out;obtain⟨Ar,car,Br,cbr,f1,f2,f3,hWr⟩:=hcel (d-t) (by omega);rw[hrd] at f1 f2 f3 hWr;rw[show n-(d-t)=jn+1 by have:=hjN.out;have:=hM.out;omega] at f1 f2 f3;have m0:wr.cell? ⟨gw,(jn+1)*3,none⟩=some (.int .i64 r.cost):=(by rw[Qb hgc];exact f1);have m1:wr.cell? ⟨gw,(jn+1)*3+1,none⟩=some (.slice Ar r.secs.length car):=(by rw[Qb hgc];exact f2);have m2:wr.cell? ⟨gw,(jn+1)*3+2,none⟩=some (.slice Br r.books.length cbr):=(by rw[Qb hgc];exact f3);replace hjn:=Qa.mk hjn;replace hgr:=Qa.mk hgr;replace hWr:=Qa.mk hWr;replace hcst:=Qa.mk hcst;have htd':(t:Int)<=128:=(by have:=hjN.out;have:=hM.out;omega);clear hJ hce f1 f2 f3 hcel hcsz hgc hr hrd htd ht;go_wp2_with fail;obtain⟨gR,hgR⟩: ∃gR,gR=wr.heap.size:=⟨_,rfl⟩;obtain⟨wa,hwa⟩: ∃wa,wa=wr.alloc (.cells (wayA r Ar car Br cbr) 150):=⟨_,rfl⟩;have hwa2:wr.alloc (.cells #[.int .i64 r.cost,.slice Ar r.secs.length car,.slice Br r.books.length cbr] 150)=wa:=(by rw[hwa];rfl);rw[hwa2,<-hgR];have hba:Below wr.heap.size wr wa:=(by rw[hwa];exact(Below.refl _ _).alloc (Nat.le_refl _) _);have hgA:wa.heap[gR]? =some (.cells (wayA r Ar car Br cbr) 150 (0,0)):=(by rw[hwa,hgR];exact heap_alloc_new _ _);have hgRw:Qa (gR≠gw):=⟨by have:=hK3.out.size;have:=hb3.out.2.2.1;omega⟩;have HKa:=Qa.mk (hK3.out.Zk (hba.mono hK3.out.size));have HWa:=Qa.mk (hWs3.out.below hba);have HTa:=Qa.mk (hTop3.out.below hba);have HRa:=Qa.mk (hWr.out.kp (Kp.of_below hba gw none));have q0:wa.drew.cell? ⟨gR,0,none⟩=some (.int .i64 r.cost):=(by rw[show wa.drew.cell? ⟨gR,0,none⟩=wa.cell? ⟨gR,0,none⟩ from rfl,Qb hgA];rfl);clear hwa hwa2 hgR m0 m1 m2 hba hK3 hWs3 hTop3 hWr hcs;obtain⟨S1,hS1e⟩: ∃S1,S1=S+cst:=⟨_,rfl⟩;rw[<-hS1e] at hJ2;have hS1b:0<=S1/\S1<=1800000:=(by omega);have hcb:0<=r.cost/\r.cost<=1800000:=(by have:=hgr.out.lo;have:=hgr.out.hi;have:=hjN.out;have:=hM.out;omega);have hw1:IntKind.i64.wrap ((jn:Int)-I)=(t:Int):=(by rw[show(jn:Int)-I=t by have:=hjn.out;omega];exact IntWalk.i64_in _ (by omega));have hw2:IntKind.i64.wrap ((t:Int)+1)=((t+1:Nat):Int):=(by rw[show(t:Int)+1=((t+1:Nat):Int) by push_cast;rfl];exact IntWalk.i64_in _ (by omega));have hgb:1<=Xb ((t+1:Nat):Int)/\Xb ((t+1:Nat):Int)<=15:=Dt (by omega) (by have:=hjN.out;have:=hM.out;omega);have HGm:=Qa.mk (fun(W:World)=>Ns ((t+1:Nat):Int) W (by omega) (by omega));obtain⟨tot,htot⟩: ∃tot,tot=3+Xb ((t+1:Nat):Int)+S1+r.cost:=⟨_,rfl⟩;obtain⟨gm,hgm⟩: ∃gm,gm=Xb ((t+1:Nat):Int):=⟨_,rfl⟩;rw[<-hgm] at hgb HGm htot;have htb:0<=tot/\tot<=4000000:=(by omega);have hw3:IntKind.i64.wrap (3+gm)=3+gm:=IntWalk.i64_in _ (by omega);have hw4:IntKind.i64.wrap (3+gm+S1)=3+gm+S1:=IntWalk.i64_in _ (by omega);have hw5:IntKind.i64.wrap (3+gm+S1+r.cost)=tot:=(by rw[<-htot];exact IntWalk.i64_in _ (by omega));replace htot:=Qa.mk htot;replace hgm:=Qa.mk hgm;replace hS1e:=Qa.mk hS1e;obtain⟨t1,ht1⟩: ∃t1:Int,t1=((t+1:Nat):Int):=⟨_,rfl⟩;rw[<-ht1] at hw2 HGm;have ht1b:1<=t1/\t1<=128:=(by have:=hjN.out;have:=hM.out;omega);replace ht1:=Qa.mk ht1;rw[show S+cst=S1 from hS1e.out.symm];refine Z6 (fun W=>W.cell? ⟨gR,0,none⟩=some (.int .i64 r.cost)/\Below wa.heap.size wa W) (by kernel_rfl) ⟨q0,(Below.refl _ _).drew⟩ (fun hHeld=> ?_)
                (refine Tk.tk 0 (.int .i64 jn) hHeld ?_)
                (refine Tk.tk 1 (.int .i64 I) hHeld ?_)
                (refine Tk.tk 2 (.int .i64 t) hHeld ?_)
                (refine Tk.tk 3 (.int .i64 t1) hHeld ?_)
                (refine Tk.tk 6 (.int .i64 S1) hHeld ?_)
                (refine Tk.tk 8 (.pointer (some ⟨gR,0,none⟩)) hHeld ?_)
                (refine Tk.tk 9 (.int .i64 r.cost) hHeld ?_)
                (refine wpAnyH_ready (rs:=[4]) (by kernel_rfl) (by simp) ?_;refine AllReadyH.cons rfl (fun K hK=> ?_) AllReadyH.nil;go_simp)
                refine(HGm.out _).mono ?_;rintro e w5 ⟨rfl,hb5⟩
                (go_wp2_with fail;refine hK.out _ _ (⟨cnx hHeld.1 hb5,bnx hHeld.2 hb5⟩) (fun hHeld=> ?_);clear hK K;try simp only[Act.put,Tk.z1,Tk.z2,Tk.z3,Tk.z4,Tk.z5,Tk.z6])
                (refine Tk.tk 5 (.int .i64 (3+gm)) hHeld ?_)
                (refine Tk.tk 7 (.int .i64 (3+gm+S1)) hHeld ?_)
                (refine Tk.tk 10 (.int .i64 tot) hHeld ?_)
                (refine Tk.tk 11 (.int .i64 tot) hHeld ?_)
                refine wpAnyH_done (by kernel_rfl) ?_ _;have hb5':=hHeld.2;have HK5:=Qa.mk (HKa.out.Zk (hb5'.mono HKa.out.size));have HW5:=Qa.mk (HWa.out.below hb5');have HT5:=HTa.out.below hb5';have HR5:=Qa.mk (HRa.out.kp (Kp.of_below hb5' gw none));have hg5:=Qa.mk (Qv hgA hb5');have p0:w5.cell? ⟨gR,0,none⟩=some (.int .i64 r.cost):=(by rw[Qb hg5.out];rfl);have p1:w5.cell? ⟨gR,1,none⟩=some (.slice Ar r.secs.length car):=(by rw[Qb hg5.out];rfl);have p2:w5.cell? ⟨gR,2,none⟩=some (.slice Br r.books.length cbr):=(by rw[Qb hg5.out];rfl);clear hHeld hb5 q0 HKa HWa HTa HRa hb5' hgA hw1 hw2 hw3 hw4 hw5 HGm;have hsk:Qa ((Uh tp tot||headW r q)=true->U9 tp q t S1 r=tp):=⟨fun h=>by unfold U9;rw[show(J3 q t S1 r).cost =tot by rw[htot.out,hgm.out];rfl,if_pos h]⟩;have hgo:Qa ((Uh tp tot||headW r q)=false->U9 tp q t S1 r=some (betW tp (J3 q t S1 r))):=⟨fun h=>by unfold U9;rw[show(J3 q t S1 r).cost =tot by rw[htot.out,hgm.out];rfl,if_neg (by rw[h];simp)]⟩;have hnext:Qa (t+1<=d+1/\I+((t+1:Nat):Int)=(jn:Int)+1/\0<=S1/\S1<=13312*((t+1:Nat):Int)/\d+1-(t+1)=d-t):=⟨by have:=hjN.out;have:=hjn.out;have:=hS1e.out;push_cast;omega⟩;have hgd:Qa (∀a,U9 tp q t S1 r=some a->Ym (d+1) a):=⟨Ci (by have:=HO.out.len;have:=hn.out;have:=hM.out;omega) hnext.out.1 (by rw[hnext.out.2.2.2.2];exact hgr.out) hnext.out.2.2.1 hnext.out.2.2.2.1 hTg2.out⟩;obtain⟨SK,hSK⟩: ∃SK,SK=(Uh tp tot||headW r q):=⟨_,rfl⟩;rw[<-hSK] at hsk hgo;go_upto_region 20 with fail;go_cut [105] from 82 to 105 (fun sk wc=>sk= .bool SK/\wc=w5)
                case first=>
                  have hB5:=HR5.out.bk;have hlen5:(r.books.length:Int)<=128:=by have:=hgr.out.bl;have:=hjN.out;have:=hM.out;omega
                  have hhd:r.books=[]/\SK=Uh tp tot\/ ∃b0 ad,0<r.books.length/\Br=some ad/\w5.cell? ad=some (.int .i64 b0)/\SK=(Uh tp tot||decide ((q:Int)=b0)):=by
                    cases hbk:r.books with
                    |nil=>exact .inl ⟨rfl,by rw[hSK];unfold headW;rw[hbk];simp⟩
                    |cons b0 bks=>
                      obtain⟨ad,e1,e2⟩:=Qn hB5 (Below.refl _ _) (k:=0) (by rw[hbk];simp);rw[hbk,show rd (b0::bks) ((0:Nat):Int)=b0 from rfl] at e2;exact .inr ⟨b0,ad,by simp,e1,by simpa[Addr.add] using e2,by rw[hSK];unfold headW;rw[hbk];simp[eq_comm]⟩
                  clear hB5 hJ2 hsk hgo hgd hnext hgr hSK hcost3 hways hTg2 hG1 hTg HW5 HK5 HR5 hg5
                  cases tp with
                  |none=>
                    obtain rfl:u11= .pointer none:=HT5;rcases hhd with ⟨e1,e2⟩|⟨b0,ad,e1,rfl,e3,e4⟩
                    · rw[e1] at p2
                      replace e2:=Qa.mk (show SK=false from e2);clear e1;go_wp2_with fail;go_meet
                      case rel=>exact⟨by rw[e2.out],rfl⟩
                    · replace e4:=show SK=decide ((q:Int)=b0) from e4
                      by_cases hq0:(q:Int)=b0
                      · subst hq0
                        replace e4:=Qa.mk (show SK=true by rw[e4];simp);go_wp2_with fail;go_meet
                        case rel=>exact⟨by rw[e4.out],rfl⟩
                      · replace e4:=Qa.mk (show SK=false by rw[e4];simpa using hq0)
                        have hne0:(b0==(q:Int))=false:=by simpa using fun e=>hq0 e.symm
                        go_wp2_with fail;go_meet
                        case rel=>exact⟨by rw[e4.out],rfl⟩
                  |some a=>
                    obtain⟨gt,At,cat,Bt,cbt,rfl,-,hgt,-⟩:=HT5;have z0:w5.cell? ⟨gt,0,none⟩=some (.int .i64 a.cost):=(by rw[Qb hgt];rfl);clear hgt;by_cases hov:a.cost<tot
                    · have e9:Qa (SK=true):=⟨by
                        rcases hhd with ⟨_,e2⟩|⟨_,_,_,_,_,e2⟩<;>rw[e2]<;>simp[Uh,hov]⟩
                      clear hhd;go_wp2_with fail;go_meet
                      case rel=>exact⟨by rw[e9.out],rfl⟩
                    · have hovf:Uh (some a) tot=false:=by simpa[Uh] using hov
                      rw[hovf] at hhd;clear hovf;rcases hhd with ⟨e1,e2⟩|⟨b0,ad,e1,rfl,e3,e4⟩
                      · rw[e1] at p2
                        replace e2:=Qa.mk (show SK=false from e2);clear e1;go_wp2_with fail;go_meet
                        case rel=>exact⟨by rw[e2.out],rfl⟩
                      · replace e4:=show SK=decide ((q:Int)=b0) from e4
                        by_cases hq0:(q:Int)=b0
                        · subst hq0
                          replace e4:=Qa.mk (show SK=true by rw[e4];simp);go_wp2_with fail;go_meet
                          case rel=>exact⟨by rw[e4.out],rfl⟩
                        · replace e4:=Qa.mk (show SK=false by rw[e4];simpa using hq0)
                          have hne0:(b0==(q:Int))=false:=by simpa using fun e=>hq0 e.symm
                          go_wp2_with fail;go_meet
                          case rel=>exact⟨by rw[e4.out],rfl⟩
                case rest=>
                  obtain⟨rfl,rfl⟩:=hcut
                  cases SK with
                  |true=>
                    have hs:=Qa.mk (hsk.out rfl);replace HT5:=Qa.mk HT5;clear hSK hgo hsk;go_wp2_with fail;go_roundw
                    case rel=>exact⟨t+1,S1,tp,hnext.out.1,by rw[hnext.out.2.1],rfl,hnext.out.2.2.1,hnext.out.2.2.2.1,⟨by rw[hnext.out.2.2.2.2,<-hJ2.out,hs.out]⟩,hTg2,HK5,HW5,HT5⟩
                    case measure=>simp[intOf];omega
                  |false=>
                    have hs:=Qa.mk (hgo.out rfl);replace HT5:=Qa.mk HT5;clear hSK hgo hsk hcost3 hways hTg hG1;have hw1:IntKind.i64.wrap ((jn:Int)-I)=(t:Int):=(by rw[show(jn:Int)-I=t by have:=hjn.out;omega];exact IntWalk.i64_in _ (by omega));have hw2:IntKind.i64.wrap ((t:Int)+1)=t1:=(by rw[show(t:Int)+1=t1 by have:=ht1.out;omega];exact IntWalk.i64_in _ (by omega));have ht128:t+1<=128:=(by have:=hjN.out;have:=hM.out;omega);have HRep:=Qa.mk (fun(W:World) (A0:Option Addr) (hr:(Kd.int .i64).C W A0 1 [(q:Int)])=>Nk A0 1 (q:Int) (t+1) W hr (by omega) (by omega));rw[<-ht1.out] at HRep;have hbl:=Qa.mk (show r.books.length<=128 by have:=hgr.out.bl;have:=hjN.out;have:=hM.out;omega);have hsl:=Qa.mk (show r.secs.length<=128 by have:=hgr.out.sl;have:=hjN.out;have:=hM.out;omega);replace ht128:=Qa.mk ht128;clear p0 p1 p2;go_wp2_with fail;refine(HRep.out _ _ (one_C wc (q:Int) 3)).mono ?_;rintro e w6 ⟨g6,rfl,hg6,hle6,hb6⟩;have hba:=(Below.refl wc.heap.size wc).alloc (Nat.le_refl _) (.cells #[.int .i64 (q:Int)] 3);have hb6:=bnx hba hb6;have HK6:=Qa.mk (HK5.out.Zk (hb6.mono HK5.out.size));have HW6:=Qa.mk (HW5.out.below hb6);have HT6:=Qa.mk (HT5.out.below hb6);have HR6:=Qa.mk (HR5.out.kp (Kp.of_below hb6 gw none));have hq6:=Qa.mk (Qv hg5.out hb6);have hgw6:Qa (gw<w6.heap.size):=⟨by have:=HK6.out.size;have:=hb3.out.2.2.1;omega⟩;have hO6:=Qa.mk (preC_C hg6 (by have:=ht128.out;omega))
                    have hlt6:Qa (wc.heap.size<=g6/\gw≠g6):=⟨by
                      rw[World.size_alloc] at hle6;have:=HK5.out.size;have:=hb3.out.2.2.1
                      exact⟨by omega,by omega⟩⟩
                    clear hg6 hle6 hba hb6 HRep HK5 HW5 HT5 HR5 hg5;have hS6:Qa (∀W,Below w6.heap.size w6 W->W.cell? ⟨gR,1,none⟩=some (.slice Ar r.secs.length car)/\W.cell? ⟨gR,2,none⟩=some (.slice Br r.books.length cbr)):=⟨fun W hb=>⟨by rw[Qb (Qv hq6.out hb)];rfl,by rw[Qb (Qv hq6.out hb)];rfl⟩⟩;obtain⟨bs,hbs⟩: ∃bs,bs=List.replicate (t+1) (q:Int)++r.books:=⟨_,rfl⟩;replace hbs:=Qa.mk hbs;go_upto_region 22 with fail;refine Qt (S:=fun W=>W.cell? ⟨gR,1,none⟩=some (.slice Ar r.secs.length car)/\W.cell? ⟨gR,2,none⟩=some (.slice Br r.books.length cbr)) (ds:=[]) (by kernel_rfl) (hS6.out _ (Below.refl _ _).drew) (fun hHeld=> ?_)
                    (refine Tk.tl 0 (.int .i64 tot) hHeld ?_)
                    (refine Tk.tl 1 (.int .i64 q) hHeld ?_)
                    (refine Tk.tl 2 (.int .i64 jn) hHeld ?_)
                    (refine Tk.tl 3 (.int .i64 I) hHeld ?_)
                    (refine Tk.tl 4 (.int .i64 t) hHeld ?_)
                    (refine Tk.tl 5 (.int .i64 t1) hHeld ?_)
                    (refine Tk.tl 6 (.agg #[.int .i64 q,.int .i64 t1]) hHeld ?_)
                    (refine Tk.tl 8 (.pointer (some ⟨gR,1,none⟩)) hHeld ?_)
                    (refine Tk.tl 9 (.slice Ar r.secs.length car) hHeld ?_)
                    (refine Tk.tl 11 (.slice (some ⟨g6,0,none⟩) (t+1) (t+1)) hHeld ?_)
                    (refine Tk.tl 12 (.pointer (some ⟨gR,2,none⟩)) hHeld ?_)
                    (refine Tk.tl 13 (.slice Br r.books.length cbr) hHeld ?_)
                    refine Ord.Iq 1 w6 _ #[true,true,true,true,true,true,true,true,true,true,true,true,true,true,true,true,true,true,false] [(7,120),(10,123),(14,127),(15,128),(16,129),(17,18)]
                      [(7,fun v w=> ∃g,v= .slice (some ⟨g,0,none⟩) 1 1/\w.heap[g]? =some (.cells #[.int .i64 q,.int .i64 t1] 153 (0,0))/\w6.heap.size<=g),
                       (10,fun v w=> ∃A c,v= .slice A (1+r.secs.length) c/\Cells w A ([.int .i64 q,.int .i64 t1]++Zt r.secs)/\(∀ad,A=some ad->w6.heap.size<=ad.block)/\Typed w A 153),
                       (14,fun v w=> ∃g,v= .slice (some ⟨g,0,none⟩) 2 2/\w.heap[g]? =some (.cells #[.slice (some ⟨g6,0,none⟩) (t+1) (t+1),.slice Br r.books.length cbr] 22 (0,0))),
                       (15,fun v w=> ∃A c,v= .slice A bs.length c/\(Kd.int .i64).C w A bs.length bs/\(∀ad,A=some ad->w6.heap.size<=ad.block)/\Typed w A 3),
                       (16,fun v w=> ∃A c B d,v= .agg #[.int .i64 tot,.slice A (1+r.secs.length) c,.slice B bs.length d]/\Cells w A ([.int .i64 q,.int .i64 t1]++Zt r.secs)/\(∀ad,A=some ad->w6.heap.size<=ad.block)/\(Kd.int .i64).C w B bs.length bs/\(∀ad,B=some ad->w6.heap.size<=ad.block)/\Typed w A 153/\Typed w B 3),
                       (17,fun v w=> ∃g,v= .pointer (some ⟨g,0,none⟩)/\w.heap[g]? =some (.cells #[.int .i64 0,.slice none 0 0,.slice none 0 0] 150 (0,0))/\w6.heap.size<=g)]
                      rfl (by decide) (by kernel_rfl) (fun W hb=>hS6.out W hb) ((Below.refl _ _).drew) ?gstays ?gobl ?grest
                    case gstays=>
                      refine Ord.Xu ?_ (Ord.Xu ?_ (Ord.Xu ?_ (Ord.Xu ?_ (Ord.Xu ?_ (Ord.Xu ?_ Ord.Qa1)))))
                      · rintro v W W' hb ⟨g,e1,e2,e3⟩
                        exact⟨g,e1,Qv e2 hb,e3⟩
                      · rintro v W W' hb ⟨A',c',e1,e2,e3,e4⟩
                        exact⟨A',c',e1,e2.below hb,e3,e4.below hb⟩
                      · rintro v W W' hb ⟨g,e1,e2⟩
                        exact⟨g,e1,Qv e2 hb⟩
                      · rintro v W W' hb ⟨A',c',e1,e2,e3,e4⟩
                        exact⟨A',c',e1,Kd.Qf e2 hb,e3,e4.below hb⟩
                      · rintro v W W' hb ⟨A',c',B',d',e1,e2,e3,e4,e5,e6,e7⟩
                        exact⟨A',c',B',d',e1,e2.below hb,e3,Kd.Qf e4 hb,e5,e6.below hb,e7.below hb⟩
                      · rintro v W W' hb ⟨g,e1,e2,e3⟩
                        exact⟨g,e1,Qv e2 hb,e3⟩
                    case gobl=>
                      refine Ord.Um.cons ?_ (Ord.Um.cons ?_ (Ord.Um.cons ?_ (Ord.Um.cons ?_ (Ord.Um.cons ?_ (Ord.Um.cons ?_ Ord.Um.nil)))))
                      · rintro o x W K ho hb hdp hK
                        cases ho;refine Zo (w1:=W.alloc (.cells #[.int .i64 q,.int .i64 t1] 153)) (v:= .slice (some ⟨W.heap.size,0,none⟩) 1 1) (by kernel_rfl) rfl (by kernel_rfl) ?_;exact Ord.K7 (by kernel_rfl) (hK.out _ _ ((Below.refl _ _).alloc (Nat.le_refl _) _) ⟨_,rfl,heap_alloc_new _ _,hb.size⟩)
                      · rintro o x W K ho hb hdp hK
                        cases ho;obtain⟨g,e1,e2,e3⟩:=hdp _ (.head _) (by kernel_rfl)
                        have hol:Cells W (some ⟨g,0,none⟩) [.int .i64 q,.int .i64 t1]:=fun _=>⟨_,rfl,fun j u hj=>by
                          rw[show(⟨g,0,none⟩:Addr).add j=⟨g,j,none⟩ by
                            unfold Addr.add;by_cases h0:j=0
                            · simp[h0]
                            · simp[h0],Qb e2]
                          simpa using hj⟩
                        refine Qdp (by kernel_rfl) (.tmp 120) (.tmp 122) 102 153 rfl (.agg #[.int .i64 0,.int .i64 0]) 2 16 Tryz.underlying102 info_sec (by decide) (by decide) ⟨g,0,none⟩ 1 [.int .i64 q,.int .i64 t1] (Eq.trans (b:=x 7) (by kernel_rfl) e1) rfl hol Ar r.secs.length car (Zt r.secs) (by kernel_rfl) (Nr _) ((P7 HR6.out.sec (Kp.of_below hb gw none) HR6.out.na2)) (by have:=hsl.out;omega) ?_;intro A' c' w1 hb1 hc1 hA1;refine Ord.K7 (by kernel_rfl) (hK.out _ _ hb1 ⟨A',c',rfl,hc1,fun ad he=> ?_,fun ad he=> ?_⟩)
                        · rcases hA1 with h|⟨ad',h,h',-⟩
                          · rw[h] at he
                            cases he;exact e3
                          · rw[h] at he
                            cases he;exact Nat.le_trans hb.size h'
                        · rcases hA1 with h|⟨ad',h,-,cells,h'⟩
                          · rw[h] at he
                            cases he;exact⟨_,Qv e2 hb1⟩
                          · rw[h] at he
                            cases he;exact⟨cells,h'⟩
                      · rintro o x W K ho hb hdp hK
                        cases ho;refine Zo (w1:=W.alloc (.cells #[.slice (some ⟨g6,0,none⟩) (t+1) (t+1),.slice Br r.books.length cbr] 22)) (v:= .slice (some ⟨W.heap.size,0,none⟩) 2 2) (by kernel_rfl) rfl (by kernel_rfl) ?_;exact Ord.K7 (by kernel_rfl) (hK.out _ _ ((Below.refl _ _).alloc (Nat.le_refl _) _) ⟨_,rfl,heap_alloc_new _ _⟩)
                      · rintro o x W K ho hb hdp hK
                        cases ho;obtain⟨g,e1,e2⟩:=hdp _ (.tail _ (.tail _ (.head _))) (by kernel_rfl);have hrl:(List.replicate (t+1) (q:Int)).length =t+1:=List.length_replicate;have hJn:=Uw g 2 (some ⟨g6,0,none⟩) Br (t+1) cbr (List.replicate (t+1) (q:Int)) r.books W (by rw[Qb e2,hrl];rfl) (by rw[Qb e2];rfl) (Kd.Qf hO6.out hb) (C_kp HR6.out.bk (Kp.of_below hb gw none) HR6.out.nb2) (by rw[hrl];omega) (by rw[hrl];have:=ht128.out;have:=hbl.out;omega);rw[<-hbs.out] at hJn;refine goes_ Tryz.func144 (by kernel_rfl) rfl #[.slice (some ⟨g,0,none⟩) 2 2] (by kernel_rfl) rfl rfl (Eq.trans (b:= #[x 14]) (by kernel_rfl) (by rw[e1])) (hJn.mono ?_);rintro e w1 ⟨A',c',rfl,r1,r2,r4,r3⟩;exact⟨_,rfl,Ord.K7 (by kernel_rfl) (hK.out _ _ r3 ⟨A',c',rfl,r1,fun ad he=>Nat.le_trans hb.size (r2 ad he),r4⟩)⟩
                      · rintro o x W K ho hb hdp hK
                        cases ho;obtain⟨A',c',e1,e2,e3,e4⟩:=hdp _ (.tail _ (.head _)) (by kernel_rfl);obtain⟨B',d',f1,f2,f3,f4⟩:=hdp _ (.tail _ (.tail _ (.tail _ (.head _)))) (by kernel_rfl);refine Zo (w1:=W) (v:= .agg #[.int .i64 tot,.slice A' (1+r.secs.length) c',.slice B' bs.length d']) (by kernel_rfl) rfl (by simp only[Ord.frA,List.foldl_cons,List.foldl_nil];rw[e1,f1];kernel_rfl) ?_;exact Ord.K7 (by kernel_rfl) (hK.out _ _ (Below.refl _ _) ⟨A',c',B',d',rfl,e2,e3,f2,f3,e4,f4⟩)
                      · rintro o x W K ho hb hdp hK
                        cases ho;refine Zo (w1:=W.alloc (.cells #[.int .i64 0,.slice none 0 0,.slice none 0 0] 150)) (v:= .pointer (some ⟨W.heap.size,0,none⟩)) (by kernel_rfl) rfl (by kernel_rfl) ?_;exact Ord.K7 (by kernel_rfl) (hK.out _ _ ((Below.refl _ _).alloc (Nat.le_refl _) _) ⟨_,rfl,heap_alloc_new _ _,hb.size⟩)
                    case grest=>
                      intro x w7 hb7 hφ;obtain⟨A',c',B',d',e1,e2,e3,e4,e5,e6,e7⟩:=hφ _ (.tail _ (.tail _ (.tail _ (.tail _ (.head _)))));obtain⟨g7,f1,f2,f3⟩:=hφ _ (.tail _ (.tail _ (.tail _ (.tail _ (.tail _ (.head _))))));dsimp only at e1 f1;clear hφ;have n1:=e6.ne f2 (by decide);have n2:=e7.ne f2 (by decide);have hk8:Kp g7 none w7 (((w7.setCell ⟨g7,0,none⟩ (.int .i64 tot)).setCell ⟨g7,1,none⟩ (.slice A' (1+r.secs.length) c')).setCell ⟨g7,2,none⟩ (.slice B' bs.length d')):=(((Kp.refl _ _ _).Dj _ _).Dj _ _).Dj _ _;have hb8:Below w6.heap.size w6 (((w7.setCell ⟨g7,0,none⟩ (.int .i64 tot)).setCell ⟨g7,1,none⟩ (.slice A' (1+r.secs.length) c')).setCell ⟨g7,2,none⟩ (.slice B' bs.length d')):=((hb7.setCell (p:=⟨g7,0,none⟩) f3 _).setCell (p:=⟨g7,1,none⟩) f3 _).setCell (p:=⟨g7,2,none⟩) f3 _;have hg8:=Q9 (Q9 (Q9 f2 0 (.int .i64 tot)) 1 (.slice A' (1+r.secs.length) c')) 2 (.slice B' bs.length d');simp only[List.setIfInBounds_toArray,List.set_cons_zero,List.set_cons_succ] at hg8;have hc8:=Qa.mk (P7 e2 hk8 n1);have hC8:=Qa.mk (C_kp e4 hk8 n2);have z0:w7.cell? ⟨g7,0,none⟩=some (.int .i64 0):=(by rw[Qb f2];rfl);have z1:w7.cell? ⟨g7,1,none⟩=some (.slice none 0 0):=(by rw[Qb f2];rfl);have z2:w7.cell? ⟨g7,2,none⟩=some (.slice none 0 0):=(by rw[Qb f2];rfl);have y0:=Qj f2 0;have y1:=Qj f2 1;have y2:=Qj f2 2;obtain⟨w8,hw8⟩: ∃w8,w8=(((w7.setCell ⟨g7,0,none⟩ (.int .i64 tot)).setCell ⟨g7,1,none⟩ (.slice A' (1+r.secs.length) c')).setCell ⟨g7,2,none⟩ (.slice B' bs.length d')):=⟨_,rfl⟩;rw[<-hw8] at hb8 hg8 hc8 hC8;replace hw8:=Qa.mk hw8;replace hb8:=Qa.mk hb8;replace hg8:=Qa.mk hg8;replace e3:=Qa.mk e3;replace e5:=Qa.mk e5;replace f3:=Qa.mk f3;clear hk8 n1 n2 e2 e4 e6 e7 f2 hb7;simp only[Ord.frA,List.foldl_cons,List.foldl_nil];rw[e1,f1];clear e1 f1;simp only[Act.put,List.setIfInBounds_toArray,List.set_cons_zero,List.set_cons_succ]
                      (refine Qg (rs:=[18]) (by kernel_rfl) (by simp) ?_;refine Qc.cons rfl (by decide) (fun K hK=> ?_) Qc.nil)
                      go_simp;go_wp2_with fail;rw[<-hw8.out];refine hK.out _ _ (hS6.out _ hb8.out) (fun hHeld=> ?_);clear hK K;refine Qq (by kernel_rfl) ?_ _;clear z0 z1 z2 y0 y1 y2 hw8 hHeld;obtain⟨cd,hcd⟩: ∃cd,cd=J3 q t S1 r:=⟨_,rfl⟩;have hcc:cd.cost=tot:=(by rw[hcd,htot.out,hgm.out];rfl);have hcb':cd.books=bs:=(by rw[hcd,hbs.out];rfl);have hcs:cd.secs=((q:Int),((t+1:Nat):Int))::r.secs:=(by rw[hcd];rfl);have hcl:cd.secs.length=1+r.secs.length:=(by rw[hcs,List.length_cons,Nat.add_comm]);have hwA:wayA cd A' c' B' d'= #[.int .i64 tot,.slice A' (1+r.secs.length) c',.slice B' bs.length d']:=(by unfold wayA;rw[hcc,hcl,hcb']);have hWV:Hg w8 gw cd A' c' B' d':=⟨by rw[hcs,Tn,<-ht1.out];exact hc8.out,by rw[hcb'];exact hC8.out,fun ad he=>by have:=e3.out ad he;have:=hgw6.out;omega,fun ad he=>by have:=e5.out ad he;have:=hgw6.out;omega⟩;have HBt:=Qbj (HT6.out.below hb8.out) hWV (by have:=hb8.out.size;have:=hgw6.out;omega) (by rw[hcb',hbs.out];simp;have:=ht128.out;have:=hbl.out;omega) (fun a ha=>by have:=(hTg2.out a ha).bl;have:=hM.out;omega);rw[hwA] at HBt;rw[<-hcd] at hs;have HK8:=Qa.mk (HK6.out.Zk (hb8.out.mono HK6.out.size));have HW8:=Qa.mk (HW6.out.below hb8.out);have k0:w8.cell? ⟨g7,0,none⟩=some (.int .i64 tot):=(by rw[Qb hg8.out];rfl);have k1:w8.cell? ⟨g7,1,none⟩=some (.slice A' (1+r.secs.length) c'):=(by rw[Qb hg8.out];rfl);have k2:w8.cell? ⟨g7,2,none⟩=some (.slice B' bs.length d'):=(by rw[Qb hg8.out];rfl);replace HBt:=Qa.mk HBt;clear hcc hcb' hcs hcl hwA hWV hcd hb8 hg8 hc8 hC8 HK6 HW6 HT6 HR6 hS6 hq6 hO6;go_wp2_with fail;refine HBt.out.mono ?_;rintro e w9 ⟨v9,rfl,hT9,hb9⟩;have HK9:=Qa.mk (HK8.out.Zk (hb9.mono HK8.out.size));have HW9:=Qa.mk (HW8.out.below hb9);replace hT9:=Qa.mk hT9;clear HBt k0 k1 k2 hb9 HK8 HW8;go_wp2_with fail;go_roundw
                      case rel=>exact⟨t+1,S1,some (betW tp cd),hnext.out.1,by rw[hnext.out.2.1],rfl,hnext.out.2.2.1,hnext.out.2.2.2.1,⟨by rw[hnext.out.2.2.2.2,<-hJ2.out,hs.out]⟩,⟨by rw[<-hs.out];exact hgd.out⟩,HK9,HW9,hT9⟩
                      case measure=>simp[intOf];omega
        · obtain rfl:q=8:=by omega
          obtain⟨a,hka,hha⟩:=kTo_ne HO.out (m:=d) (by have:=hn.out;have:=hM.out;omega);obtain⟨In,hIn⟩: ∃In:Nat,I=(In:Int):=⟨I.toNat,by omega⟩;subst hIn;have hInN:Qa (In=n-(d+1)/\d+1<=n):=⟨by have:=hI.out;have:=hM.out;omega⟩;have hTop':=hTop.out;rw[hka] at hTop';obtain⟨g,A',c',B',d',rfl,hne,hg,hwv⟩:=hTop';have k0:wr.cell? ⟨g,0,none⟩=some (.int .i64 a.cost):=(by rw[Qb hg];rfl);have k1:wr.cell? ⟨g,1,none⟩=some (.slice A' a.secs.length c'):=(by rw[Qb hg];rfl);have k2:wr.cell? ⟨g,2,none⟩=some (.slice B' a.books.length d'):=(by rw[Qb hg];rfl);have hfin:=Qa.mk (hWs2.out.set (by have:=hInN.out;omega) hha hwv hInN.out.1);have hkf:=Qa.mk ((((hK2.out.Dj (In*3) (.int .i64 a.cost)).Dj (In*3+1) (.slice A' a.secs.length c')).Dj (In*3+2) (.slice B' a.books.length d')));obtain⟨cs,hgc,hcz,-⟩:=hWs2.out;have hin9:In*3+2<cs.size:=(by rw[hcz];have:=hInN.out;omega);obtain⟨o0,ho0⟩: ∃o0,cs[In*3]? =some o0:=⟨_,Array.getElem?_eq_some_iff.2 ⟨by omega,rfl⟩⟩;obtain⟨o1,ho1⟩: ∃o1,cs[In*3+1]? =some o1:=⟨_,Array.getElem?_eq_some_iff.2 ⟨by omega,rfl⟩⟩;obtain⟨o2,ho2⟩: ∃o2,cs[In*3+2]? =some o2:=⟨_,Array.getElem?_eq_some_iff.2 ⟨by omega,rfl⟩⟩;have z0:wr.cell? ⟨gw,In*3,none⟩=some o0:=(by rw[Qb hgc];exact ho0);have z1:wr.cell? ⟨gw,In*3+1,none⟩=some o1:=(by rw[Qb hgc];exact ho1);have z2:wr.cell? ⟨gw,In*3+2,none⟩=some o2:=(by rw[Qb hgc];exact ho2);have y0:=Qj hgc (In*3);have y1:=Qj hgc (In*3+1);have y2:=Qj hgc (In*3+2);have hInI:(In:Int)<(n:Int)+1:=(by omega);have hIend:Qa ((In:Int)-1=(n:Int)-1-((d+1:Nat):Int)):=⟨by have:=hI.out;push_cast;omega⟩;clear hgc hg hwv hTop hka hha hcost3 hways hcz hq8 hq ho0 ho1 ho2 hin9;go_wp2_with fail;go_roundw
          case rel=>exact⟨d+1,hInN.out.2,by rw[<-hIend.out],hkf,hfin⟩
          case measure=>simp[intOf]
    · obtain rfl:d=n:=by omega
      obtain⟨cs,hgc,hcz,hcel⟩:=hWs.out;obtain⟨A',c',B',d',f1,f2,f3,hwv⟩:=hcel d (Nat.le_refl _);rw[Nat.sub_self,Nat.zero_mul] at f1 f2 f3;obtain⟨a,ha⟩: ∃a,a=(wL ws l d).getD 0 w0:=⟨_,rfl⟩;rw[<-ha] at f1 f2 f3 hwv;have m0:wr.cell? ⟨gw,0,none⟩=some (.int .i64 a.cost):=(by rw[Qb hgc];exact f1);have m1:wr.cell? ⟨gw,1,none⟩=some (.slice A' a.secs.length c'):=(by rw[Qb hgc];exact f2);have hneg:(d:Int)-1-(d:Int)= -1:=(by omega);rw[hneg];have hres:Qa (Cells wr.drew A' (Zt a.secs)):=⟨hwv.sec⟩;have hfar:Qa (∀ad,A'=some ad->w.heap.size<=ad.block):=⟨fun ad e=>by have:=hwv.na ad e;have:=hb3.out.2.1;omega⟩;replace ha:=Qa.mk ha;have hbb:Qa (Below w.heap.size w wr.drew):=⟨(hb3.out.1.trans (hK.out.below hb3.out.2.1 (fun k hk=>by cases hk) hb3.out.1.size)).drew⟩;clear hcel hgc f1 f2 f3 hwv hcz hneg hcost3 hways;go_wp2_with fail;refine Z6 (fun W=>W.cell? ⟨gw,0,none⟩=some (.int .i64 a.cost)/\W.cell? ⟨gw,1,none⟩=some (.slice A' a.secs.length c')) (by kernel_rfl) ⟨m0,m1⟩ (fun hHeld=> ?_)
      (refine Tk.tk 0 (.slice (some ⟨gw,0,none⟩) (d+1) (d+1)) hHeld ?_)
      (refine Tk.tk 1 (.pointer (some ⟨gw,0,none⟩)) hHeld ?_)
      (refine Tk.tk 2 (.pointer (some ⟨gw,1,none⟩)) hHeld ?_)
      (refine Tk.tk 3 (.slice A' a.secs.length c') hHeld ?_)
      (refine Tk.tk 4 (.slice (some ⟨gw,0,none⟩) (d+1) (d+1)) hHeld ?_)
      (refine Tk.tk 5 (.pointer (some ⟨gw,0,none⟩)) hHeld ?_)
      (refine Tk.tk 6 (.pointer (some ⟨gw,0,none⟩)) hHeld ?_)
      (refine Tk.tk 7 (.int .i64 a.cost) hHeld ?_)
      (refine Tk.tk 8 (.slice A' a.secs.length c') hHeld ?_)
      (refine Tk.tk 9 (.int .i64 a.cost) hHeld ?_)
      (refine Tk.tk 10 (.int .i64 0) hHeld ?_)
      refine wpAnyH_done (by kernel_rfl) ?_ _;clear hHeld m0 m1;go_wp2_with fail;go_ret3;exact⟨A',c',by rw[<-ha.out];rfl,by rw[<-ha.out];exact hres.out,hfar.out,hbb.out⟩
end Sec

end Go.Proofs.YtnflnicdjioflaaGreatDoor
