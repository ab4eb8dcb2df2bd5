/- A part of the proof. -/
import Derived.Test.YtnflnicdjioflaaGreatDoorMdbg
set_option linter.unusedVariables false
set_option linter.unusedSimpArgs false
set_option maxRecDepth 100000
set_option maxHeartbeats 8000000
namespace Go.Proofs.YtnflnicdjioflaaGreatDoor
open Go.RowKit Go.Proofs.YtnflnicdjioflaaGreatDoorW.PrintWords Go.Proofs.YtnflnicdjioflaaGreatDoorW.PrintLast Go.Proofs.YtnflnicdjioflaaGreatDoorW.PrintMore
namespace Gn
attribute [local go_sem] Qi Qj Qk Ql Qg Qh
open Q15
open Q21
open Bts
open Bk
open Sec
open Sca
open Q16 (isW Q0)
theorem Od {ok:Bool} {ws:List Int} {w:World} (h:ok=false) {e:Ending} {w':World} (hx:e= .returned (.tuple #[.slice none 0 0,.bool false])/\Below w.heap.size w w'):P7 ok ws w e w':=by
 unfold P7;rw[h,if_neg (by decide)];exact hx
theorem Vx (AC M:Option Addr) (cC cM:Nat) (g:Gr) (w:World) (hL:Laid w) (hc:kCh.C w AC g.chs.length g.chs) (hbd: ∀x∈g.chs,x.sc.length<=1000000/\x.qu.length<=1000000/\x.fi.length<=1000000):
  Calls Tryz.prog 35 #[.agg #[.slice AC g.chs.length cC,.slice M g.mid.length cM]] w (P7 (Ul g) (Qm (chK g 0).sh (chK g 0).gr) w):=by
 have hdef:Ul g=(decide (1<=g.chs.length/\g.chs.length<=2)&&(Zd (chK g 0).sh (chK g 0).gr &&(Tj g.chs.length g.mid.length (Qm (chK g 0).sh (chK g 0).gr).length &&g.chs.all (chG (chK g 0))))):=rfl;by_cases hn:1<=g.chs.length/\g.chs.length<=2
 ·cases hd:Zd (chK g 0).sh (chK g 0).gr with
  |false=>exact(Mk AC M cC cM g w hL hc hn hd).mono fun e w' h=>Od (by rw[hdef,hd];simp) h
  |true=>
   cases hm:Tj g.chs.length g.mid.length (Qm (chK g 0).sh (chK g 0).gr).length with
   |false=>exact(Oa AC M cC cM g w hL hc hn hd hm).mono fun e w' h=>Od (by rw[hdef,hm];simp) h
   |true=>
    have h:=Lm AC M cC cM g w hL hc hbd hn hd hm;have e:Ul g=g.chs.all (chG (chK g 0)):=(by rw[hdef,hd,hm,decide_eq_true hn];simp);rw[e];exact h
 ·exact(Lj AC M cC cM g.chs.length g.mid.length w (by omega)).mono fun e w' h=>Od (by rw[hdef,decide_eq_false hn];simp) h
structure GrOk (g:Gr):Prop where
 n:1<=g.chs.length/\g.chs.length<=2
 div:Zd (chK g 0).sh (chK g 0).gr =true
 mid:Tj g.chs.length g.mid.length (Qm (chK g 0).sh (chK g 0).gr).length =true
 ch: ∀c∈g.chs,c.sh=(chK g 0).sh /\c.gr=(chK g 0).gr /\Kz (Qm (chK g 0).sh (chK g 0).gr) c.sc c.qu c.fi=true
theorem Bg {g:Gr}:Ul g=true↔GrOk g:=by
 unfold Ul;simp only[Bool.and_eq_true,decide_eq_true_eq,List.all_eq_true]
 constructor
 ·rintro⟨h1,h2,h3,h4⟩
  refine⟨h1,h2,h3,fun c hc=> ?_⟩;have h5:=h4 c hc;unfold chG at h5;simp only[Bool.and_eq_true,decide_eq_true_eq] at h5;exact⟨h5.2.1.1,h5.2.1.2,h5.2.2⟩
 ·rintro⟨h1,h2,h3,h4⟩
  refine⟨h1,h2,h3,fun c hc=> ?_⟩;obtain⟨h5,h6,h7⟩:=h4 c hc;unfold chG;simp only[Bool.and_eq_true,decide_eq_true_eq];exact⟨by rw[h5,h6];exact h2,⟨h5,h6⟩,h7⟩
structure ChF (ws:List Int) (c:Ch):Prop where
 ok:Ok ws c.qu
 w0:0<ws.length
 w32:ws.length<=32
 q:c.qu.length=128
 sc:c.sc.length=(Xb ws c.qu).length
 e:scE c.sc (Xb ws c.qu)=0
 fl:c.fi.length<=12
 fv: ∀x∈c.fi,-127<=x/\x<=127
theorem mem_sum {ws:List Int} (h: ∀x∈ws,1<=x) {x:Int} (hx:x∈ws):x<=ws.sum:=by
 have h0: ∀l:List Int,(∀x∈l,1<=x)->0<=l.sum:=by
  intro l
  induction l with
  |nil=>intro _;simp
  |cons a b ih=>
   intro h;have h1:=h a (by simp);have h2:=ih (fun y hy=>h y (by simp[hy]));rw[List.sum_cons];omega
 induction ws with
 |nil=>cases hx
 |cons a b ih=>
  have h1:=h a (by simp);have h2:=h0 b (fun y hy=>h y (by simp[hy]));rw[List.sum_cons];rcases List.mem_cons.1 hx with rfl|hx
  ·omega
  ·have:=ih (fun y hy=>h y (by simp[hy])) hx
   omega
theorem Qbl {ws:List Int} {c:Ch} (hw:isW ws=true) (h:Kz ws c.sc c.qu c.fi=true):ChF ws c:=by
 unfold Kz at h;simp only[Bool.and_eq_true,decide_eq_true_eq] at h;obtain⟨h1,h2,h3,h4,h5⟩:=h;obtain⟨k1,k2,k3⟩:=Q0.1 hw;unfold Y6 Jy at h3;simp only[Bool.and_eq_true,decide_eq_true_eq] at h3;refine⟨⟨fun x hx=>⟨k1 x hx,?_⟩,by omega,by omega,h4⟩,?_,k3,h2,by rw[Y7];exact h1,h5,h3.1.1,fun x hx=> ?_⟩
 ·have:=mem_sum k1 hx
  omega
 ·cases ws with
  |nil=>simp at k2
  |cons a b=>simp
 ·exact of_decide_eq_true (List.all_eq_true.1 h3.1.2 x hx)
def Vq (ws:List Int) (c:Ch):Int:=4+8*c.fi.length+((wL ws c.qu ws.length).getD 0 Sec.w0).cost +Yb c.sc (Xb ws c.qu)
def J8 (g:Gr):Int:=if g.chs.length=2 then 2+(if midI g.mid=2 then(g.mid.length:Int) else 0) else 0
def Cc (g:Gr):Int:=1+stN (chK g 0).gr +J8 g+(g.chs.map (Vq (Qm (chK g 0).sh (chK g 0).gr))).sum
theorem Cb {ws:List Int} {c:Ch} (h:ChF ws c):4<=Vq ws c/\Vq ws c<=440000/\0<=((wL ws c.qu ws.length).getD 0 Sec.w0).cost /\0<=Yb c.sc (Xb ws c.qu):=by
 obtain⟨hR,hC⟩:=Qau h.ok;have h1:=Pq h.ok hR.len hR.fits hR.el ws.length (Nat.le_refl _);have h2:=Sy h.sc (Nj h.e) (uN (Xb ws c.qu)) (Nat.le_refl _);have h3:=uN_le (Xb ws c.qu);have h4:=Y7 ws c.qu;have h5:=hR.sl;have h6:=h.w32;have h7:=h.fl;rw[<-hC];rw[List.take_of_length_le (by rw[hR.len];exact Nat.le_refl _)] at h1;have h8:Uj ws c.qu ((wL ws c.qu ws.length).getD 0 Sec.w0).secs =Zz ((wL ws c.qu ws.length).getD 0 Sec.w0).secs +cbk (Xa ws c.qu) 0 (Qn ((wL ws c.qu ws.length).getD 0 Sec.w0).secs):=rfl;have h9:Yb c.sc (Xb ws c.qu)=scT c.sc (Xb ws c.qu) (uN (Xb ws c.qu)):=rfl;unfold Vq;rw[<-hC];omega
theorem I7 {g:Gr} (h:GrOk g):g.mid.length<=32:=by
 have h1:=h.mid;have h2:=(Q0.1 (Xo h.div)).2.2;unfold Tj at h1
 split at h1
 ·have:=of_decide_eq_true h1
  omega
 ·have:=of_decide_eq_true h1
  omega
theorem costM_bd {g:Gr} (h:GrOk g):0<=J8 g/\J8 g<=100:=by
 have:=I7 h;unfold J8
 split
 ·split<;>omega
 ·omega
def Zf (ws:List Int) (l:List Ch) (k:Nat):Int:=((l.take k).map (Vq ws)).sum
theorem F3 {ws:List Int} {l:List Ch} {k:Nat} (hk:k<l.length):Zf ws l (k+1)=Zf ws l k+Vq ws (l.getD k ch0):=by
 unfold Zf;have e:l.take (k+1)=l.take k++[l.getD k ch0]:=(by rw[List.take_succ_eq_append_getElem hk,List.getD_eq_getElem?_getD,List.getElem?_eq_getElem hk];rfl);rw[e,List.map_append,List.sum_append];simp
theorem Y4 {ws:List Int} {l:List Ch} (h: ∀c∈l,ChF ws c): ∀k,k<=l.length->0<=Zf ws l k/\Zf ws l k<=440000*k
 |0,_=>by simp[Zf]
 |k+1,hk=>by
  have h1:=Y4 h k (by omega);have hk':k<l.length:=(by omega);have h2:=Cb (h (l.getD k ch0) (by rw[List.getD_eq_getElem?_getD,List.getElem?_eq_getElem hk'];exact List.getElem_mem hk'));rw[F3 hk']
  push_cast
  omega
variable {w W W':World} {base p:Nat} {q:Option Nat} {L:List Int} {n:Int} {G:List Blk}
theorem _root_.Go.Proofs.YtnflnicdjioflaaGreatDoor.Sec.StW.Ej (h:StW w base p none L n G W) (hB:base<=w.heap.size):Below base w W:=by
 obtain⟨bs,q1,i1,i2,i3⟩:=h.wr;exact h.kp.below i2.base (fun k e=>by cases e) hB
theorem _root_.Go.Proofs.YtnflnicdjioflaaGreatDoor.Sec.StW.signed (h:StW w base p q L n G W) {v:Int} (h0: -128<=v) (h1:v<=127) (hroom:(L.length:Int)+n+8<=1048576) (hb:Below W.heap.size W W'):
  Calls Tryz.prog 88 #[.pointer (some ⟨p,0,none⟩),.int .i64 v,.int .i64 8] W' fun e w'=> ∃E:Int,e= .returned (.int .i64 E)/\StW w base p q L (n+8) G w':=by
 obtain⟨bs,q1,i1,i2,i3⟩:=h.wr;refine(Mt base p q1 (L++bs) v W' (i2.step hb) h0 h1).mono ?_;rintro e w' ⟨rfl,hP⟩;have e2:Ke (L++bs) (Yn (v%256).toNat 8)=L++bs++Yn (v%256).toNat 8:=(by unfold Ke;rw[if_neg (by rw[Yj,List.length_append];omega)]);rw[e2] at hP;exact⟨_,rfl,(i3 _ 8 w' (WrP.next (.inl rfl) (Kp.of_below hb p q1) hP) (by rw[Yj];rfl)).1⟩
theorem _root_.Go.Proofs.YtnflnicdjioflaaGreatDoor.Sec.StW.section (h:StW w base p q L n G W) (hB4:4<=base) (hL:Xp W') {A B:Option Addr} {c1 c2:Nat} {ws l:List Int} (hr:Y9 p q w A ws.length ws) (hr2:Y9 p q w B l.length l) (hcap:l.length<=c2) (hok:Ok ws l) (h0:0<ws.length)
  {As:Option Addr} {cs:Nat} {s:List (Int×Int)} (hs:Cells W' As (Zt s)) (hsf: ∀ad,As=some ad->W.heap.size<=ad.block) (hR:Tw ws l s) (hroom:(L.length:Int)+n+Uj ws l s<=1048576) (hBW: ∀p∈s,BW p.1.toNat) (hb:Below W.heap.size W W'):
  Calls Tryz.prog 90 #[.pointer (some ⟨p,0,none⟩),.slice A ws.length c1,.slice B l.length c2,.slice As s.length cs] W' fun e w'=>e= .returned (.int .i64 0)/\StW w base p q L (n+Uj ws l s) G w':=by
 obtain⟨⟨bs,q1,h1,h2,h3,h4⟩,h5,h6,h7⟩:=h;have hlt:=h2.plt;refine(Wl base p q1 (L++bs) A B c1 c2 ws l As cs s W' (h2.step hb) hB4 hL ((hr.kp h5 h3).step hb) ((hr2.kp h5 h3).step hb) hcap hok h0 hs (fun ad e=>⟨?_,?_⟩) hR (by rw[List.length_append];push_cast;omega) hBW).mono ?_
 ·have:=hsf ad e
  omega
 ·intro e2
  have:=hsf ad e;have:=(h2.Nb _ e2.symm).2;omega
 ·rintro e w' ⟨rfl,more,hm,hP⟩
  exact⟨rfl,StW.wrote h1 h3 h4 h5 h6 h7 (WrP.next (.inl rfl) (Kp.of_below hb p q1) hP) hm⟩
theorem _root_.Go.Proofs.YtnflnicdjioflaaGreatDoor.Sec.StW.scales (h:StW w base p q L n G W) {A B:Option Addr} {c1 c2:Nat} {ss:List Int} {us:List Bool} (hr:Y9 p q w A ss.length ss) (hr2:Kd.bool.C W' B us.length us) (hB: ∀g∈Zv B,W.heap.size<=g) (hl:ss.length=us.length) (h128:us.length<=128) (h0:0<us.length) (he:scE ss us=0) (hroom:(L.length:Int)+n+Yb ss us<=1048576) (hb:Below W.heap.size W W'):
  Calls Tryz.prog 91 #[.pointer (some ⟨p,0,none⟩),.slice A ss.length c1,.slice B us.length c2] W' fun e w'=>e= .returned (.int .i64 0)/\StW w base p q L (n+Yb ss us) G w':=by
 obtain⟨⟨bs,q1,h1,h2,h3,h4⟩,h5,h6,h7⟩:=h;have hlt:=h2.plt;refine(Lg base p q1 (L++bs) A B c1 c2 ss us W' (h2.step hb) ((hr.kp h5 h3).step hb) hr2 (fun g hg=>⟨?_,?_⟩) hl h128 h0 he (by rw[List.length_append];push_cast;omega)).mono ?_
 ·have:=hB g hg
  omega
 ·intro e2
  have:=hB g hg;have:=(h2.Nb _ e2.symm).2;omega
 ·rintro e w' ⟨rfl,more,hm,hP⟩
  exact⟨rfl,StW.wrote h1 h3 h4 h5 h6 h7 (WrP.next (.inl rfl) (Kp.of_below hb p q1) hP) hm⟩
end Gn

end Go.Proofs.YtnflnicdjioflaaGreatDoor
