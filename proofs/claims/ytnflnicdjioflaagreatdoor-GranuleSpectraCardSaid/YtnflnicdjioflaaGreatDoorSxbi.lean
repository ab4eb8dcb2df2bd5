/- A part of the proof. -/
import Derived.Test.YtnflnicdjioflaaGreatDoorSxbh
import Derived.Laws.EntriesVeiled
set_option linter.unusedVariables false
set_option linter.unusedSimpArgs false
set_option maxRecDepth 100000
set_option maxHeartbeats 8000000
namespace Go.Proofs.YtnflnicdjioflaaGreatDoor
open Go.RowKit Go.Proofs.YtnflnicdjioflaaGreatDoorW.PrintWords Go.Proofs.YtnflnicdjioflaaGreatDoorW.PrintLast Go.Proofs.YtnflnicdjioflaaGreatDoorW.PrintMore
namespace Gn
attribute [local go_sem] Qh Qi Qk Ql Qd Qe
open Q15
open Q21
open Bts
open Bk
open Sec
open Sca
open Q16 (isW Qx)
theorem Od {ok:Bool} {ws:List Int} {w:World} (h:ok=false) {e:Ending} {w':World} (hx:e= .returned (.tuple #[.slice none 0 0,.bool false])/\Below w.heap.size w w'):Hf ok ws w e w':=by
 unfold Hf;rw[h,if_neg (by decide)];exact hx
theorem Ja (AC M:Option Addr) (cC cM:Nat) (g:Gr) (w:World) (hL:Laid w) (hc:kCh.C w AC g.chs.length g.chs) (hbd: ∀x∈g.chs,x.sc.length<=1000000/\x.qu.length<=1000000/\x.fi.length<=1000000):
  Calls Tryz.prog 35 #[.agg #[.slice AC g.chs.length cC,.slice M g.mid.length cM]] w (Hf (Jz g) (Qm (chK g 0).sh (chK g 0).gr) w):=by
 have hdef:Jz g=(decide (1<=g.chs.length/\g.chs.length<=2)&&(Zc (chK g 0).sh (chK g 0).gr &&(K9 g.chs.length g.mid.length (Qm (chK g 0).sh (chK g 0).gr).length &&g.chs.all (chG (chK g 0))))):=rfl;by_cases hn:1<=g.chs.length/\g.chs.length<=2
 ·cases hd:Zc (chK g 0).sh (chK g 0).gr with
  |false=>exact(Ma AC M cC cM g w hL hc hn hd).mono fun e w' h=>Od (by rw[hdef,hd];simp) h
  |true=>
   cases hm:K9 g.chs.length g.mid.length (Qm (chK g 0).sh (chK g 0).gr).length with
   |false=>exact(Oa AC M cC cM g w hL hc hn hd hm).mono fun e w' h=>Od (by rw[hdef,hm];simp) h
   |true=>
    have h:=Lb AC M cC cM g w hL hc hbd hn hd hm;have e:Jz g=g.chs.all (chG (chK g 0)):=(by rw[hdef,hd,hm,decide_eq_true hn];simp);rw[e];exact h
 ·exact(La AC M cC cM g.chs.length g.mid.length w (by omega)).mono fun e w' h=>Od (by rw[hdef,decide_eq_false hn];simp) h
structure GrOk (g:Gr):Prop where
 n:1<=g.chs.length/\g.chs.length<=2
 div:Zc (chK g 0).sh (chK g 0).gr =true
 mid:K9 g.chs.length g.mid.length (Qm (chK g 0).sh (chK g 0).gr).length =true
 ch: ∀c∈g.chs,c.sh=(chK g 0).sh /\c.gr=(chK g 0).gr /\Ga (Qm (chK g 0).sh (chK g 0).gr) c.sc c.qu c.fi=true
theorem Kz {g:Gr}:Jz g=true↔GrOk g:=by
 unfold Jz;simp only[Bool.and_eq_true,decide_eq_true_eq,List.all_eq_true]
 constructor
 ·rintro⟨h1,h2,h3,h4⟩
  refine⟨h1,h2,h3,fun c hc=> ?_⟩;have h5:=h4 c hc;unfold chG at h5;simp only[Bool.and_eq_true,decide_eq_true_eq] at h5;exact⟨h5.2.1.1,h5.2.1.2,h5.2.2⟩
 ·rintro⟨h1,h2,h3,h4⟩
  refine⟨h1,h2,h3,fun c hc=> ?_⟩;obtain⟨h5,h6,h7⟩:=h4 c hc;unfold chG;simp only[Bool.and_eq_true,decide_eq_true_eq];exact⟨by rw[h5,h6];exact h2,⟨h5,h6⟩,h7⟩
structure ChF (ws:List Int) (c:Ch):Prop where
 ok:Ok ws c.qu
 w0:0<ws.length
 w32:ws.length<=32
 q:c.qu.length=128
 sc:c.sc.length=(Xo ws c.qu).length
 e:scE c.sc (Xo ws c.qu)=0
 fl:c.fi.length<=12
 fv: ∀x∈c.fi,-127<=x/\x<=127
theorem mem_sum {ws:List Int} (h: ∀x∈ws,1<=x) {x:Int} (hx:x∈ws):x<=ws.sum:=by
 have h0: ∀l:List Int,(∀x∈l,1<=x)->0<=l.sum:=by
  intro l
  induction l with
  |nil=>intro _;simp
  |cons a b ih=>
   intro h;have h1:=h a (by simp);have h2:=ih (fun y hy=>h y (by simp[hy]));rw[List.sum_cons];omega
 induction ws with
 |nil=>cases hx
 |cons a b ih=>
  have h1:=h a (by simp);have h2:=h0 b (fun y hy=>h y (by simp[hy]));rw[List.sum_cons];rcases List.mem_cons.1 hx with rfl|hx
  ·omega
  ·have:=ih (fun y hy=>h y (by simp[hy])) hx
   omega
theorem Ea {ws:List Int} {c:Ch} (hw:isW ws=true) (h:Ga ws c.sc c.qu c.fi=true):ChF ws c:=by
 unfold Ga at h;simp only[Bool.and_eq_true,decide_eq_true_eq] at h;obtain⟨h1,h2,h3,h4,h5⟩:=h;obtain⟨k1,k2,k3⟩:=Qx.1 hw;unfold Je Ye at h3;simp only[Bool.and_eq_true,decide_eq_true_eq] at h3;refine⟨⟨fun x hx=>⟨k1 x hx,?_⟩,by omega,by omega,h4⟩,?_,k3,h2,by rw[Yz];exact h1,h5,h3.1.1,fun x hx=> ?_⟩
 ·have:=mem_sum k1 hx
  omega
 ·cases ws with
  |nil=>simp at k2
  |cons a b=>simp
 ·exact of_decide_eq_true (List.all_eq_true.1 h3.1.2 x hx)
def Vo (ws:List Int) (c:Ch):Int:=4+8*c.fi.length+((wL ws c.qu ws.length).getD 0 Sec.w0).cost +Ya c.sc (Xo ws c.qu)
def J4 (g:Gr):Int:=if g.chs.length=2 then 2+(if midI g.mid=2 then(g.mid.length:Int) else 0) else 0
def Lm (g:Gr):Int:=1+stN (chK g 0).gr +J4 g+(g.chs.map (Vo (Qm (chK g 0).sh (chK g 0).gr))).sum
theorem Lj {ws:List Int} {c:Ch} (h:ChF ws c):4<=Vo ws c/\Vo ws c<=440000/\0<=((wL ws c.qu ws.length).getD 0 Sec.w0).cost /\0<=Ya c.sc (Xo ws c.qu):=by
 obtain⟨hR,hC⟩:=Qas h.ok;have h1:=Pm h.ok hR.len hR.fits hR.el ws.length (Nat.le_refl _);have h2:=Sl h.sc (Dz h.e) (uN (Xo ws c.qu)) (Nat.le_refl _);have h3:=uN_le (Xo ws c.qu);have h4:=Yz ws c.qu;have h5:=hR.sl;have h6:=h.w32;have h7:=h.fl;rw[<-hC];rw[List.take_of_length_le (by rw[hR.len];exact Nat.le_refl _)] at h1;have h8:Ud ws c.qu ((wL ws c.qu ws.length).getD 0 Sec.w0).secs =Z7 ((wL ws c.qu ws.length).getD 0 Sec.w0).secs +cbk (Xe ws c.qu) 0 (Qo ((wL ws c.qu ws.length).getD 0 Sec.w0).secs):=rfl;have h9:Ya c.sc (Xo ws c.qu)=scT c.sc (Xo ws c.qu) (uN (Xo ws c.qu)):=rfl;unfold Vo;rw[<-hC];omega
theorem I5 {g:Gr} (h:GrOk g):g.mid.length<=32:=by
 have h1:=h.mid;have h2:=(Qx.1 (Yw h.div)).2.2;unfold K9 at h1
 split at h1
 ·have:=of_decide_eq_true h1
  omega
 ·have:=of_decide_eq_true h1
  omega
theorem costM_bd {g:Gr} (h:GrOk g):0<=J4 g/\J4 g<=100:=by
 have:=I5 h;unfold J4
 split
 ·split<;>omega
 ·omega
def Zb (ws:List Int) (l:List Ch) (k:Nat):Int:=((l.take k).map (Vo ws)).sum
theorem Fx {ws:List Int} {l:List Ch} {k:Nat} (hk:k<l.length):Zb ws l (k+1)=Zb ws l k+Vo ws (l.getD k ch0):=by
 unfold Zb;have e:l.take (k+1)=l.take k++[l.getD k ch0]:=(by rw[List.take_succ_eq_append_getElem hk,List.getD_eq_getElem?_getD,List.getElem?_eq_getElem hk];rfl);rw[e,List.map_append,List.sum_append];simp
theorem Yy {ws:List Int} {l:List Ch} (h: ∀c∈l,ChF ws c): ∀k,k<=l.length->0<=Zb ws l k/\Zb ws l k<=440000*k
 |0,_=>by simp[Zb]
 |k+1,hk=>by
  have h1:=Yy h k (by omega);have hk':k<l.length:=(by omega);have h2:=Lj (h (l.getD k ch0) (by rw[List.getD_eq_getElem?_getD,List.getElem?_eq_getElem hk'];exact List.getElem_mem hk'));rw[Fx hk']
  push_cast
  omega
variable {w W W':World} {base p:Nat} {q:Option Nat} {L:List Int} {n:Int} {G:List Blk}
theorem _root_.Go.Proofs.YtnflnicdjioflaaGreatDoor.Sec.StW.C8 (h:StW w base p none L n G W) (hB:base<=w.heap.size):Below base w W:=by
 obtain⟨bs,q1,i1,i2,i3⟩:=h.wr;exact h.kp.below i2.base (fun k e=>by cases e) hB
theorem _root_.Go.Proofs.YtnflnicdjioflaaGreatDoor.Sec.StW.signed (h:StW w base p q L n G W) {v:Int} (h0: -128<=v) (h1:v<=127) (hroom:(L.length:Int)+n+8<=1048576) (hb:Below W.heap.size W W'):
  Calls Tryz.prog 88 #[.pointer (some ⟨p,0,none⟩),.int .i64 v,.int .i64 8] W' fun e w'=> ∃E:Int,e= .returned (.int .i64 E)/\StW w base p q L (n+8) G w':=by
 obtain⟨bs,q1,i1,i2,i3⟩:=h.wr;refine(Mh base p q1 (L++bs) v W' (i2.step hb) h0 h1).mono ?_;rintro e w' ⟨rfl,hP⟩;have e2:Ka (L++bs) (Yj (v%256).toNat 8)=L++bs++Yj (v%256).toNat 8:=(by unfold Ka;rw[if_neg (by rw[Yf,List.length_append];omega)]);rw[e2] at hP;exact⟨_,rfl,(i3 _ 8 w' (WrP.next (.inl rfl) (Kp.of_below hb p q1) hP) (by rw[Yf];rfl)).1⟩
theorem _root_.Go.Proofs.YtnflnicdjioflaaGreatDoor.Sec.StW.section (h:StW w base p q L n G W) (hB4:4<=base) (hL:Xn W') {A B:Option Addr} {c1 c2:Nat} {ws l:List Int} (hr:Y1 p q w A ws.length ws) (hr2:Y1 p q w B l.length l) (hcap:l.length<=c2) (hok:Ok ws l) (h0:0<ws.length)
  {As:Option Addr} {cs:Nat} {s:List (Int×Int)} (hs:Cells W' As (Zt s)) (hsf: ∀ad,As=some ad->W.heap.size<=ad.block) (hR:Tw ws l s) (hroom:(L.length:Int)+n+Ud ws l s<=1048576) (hBW: ∀p∈s,BW p.1.toNat) (hb:Below W.heap.size W W'):
  Calls Tryz.prog 90 #[.pointer (some ⟨p,0,none⟩),.slice A ws.length c1,.slice B l.length c2,.slice As s.length cs] W' fun e w'=>e= .returned (.int .i64 0)/\StW w base p q L (n+Ud ws l s) G w':=by
 obtain⟨⟨bs,q1,h1,h2,h3,h4⟩,h5,h6,h7⟩:=h;have hlt:=h2.plt;refine(Wi base p q1 (L++bs) A B c1 c2 ws l As cs s W' (h2.step hb) hB4 hL ((hr.kp h5 h3).step hb) ((hr2.kp h5 h3).step hb) hcap hok h0 hs (fun ad e=>⟨?_,?_⟩) hR (by rw[List.length_append];push_cast;omega) hBW).mono ?_
 ·have:=hsf ad e
  omega
 ·intro e2
  have:=hsf ad e;have:=(h2.Ni _ e2.symm).2;omega
 ·rintro e w' ⟨rfl,more,hm,hP⟩
  exact⟨rfl,StW.wrote h1 h3 h4 h5 h6 h7 (WrP.next (.inl rfl) (Kp.of_below hb p q1) hP) hm⟩
theorem _root_.Go.Proofs.YtnflnicdjioflaaGreatDoor.Sec.StW.scales (h:StW w base p q L n G W) {A B:Option Addr} {c1 c2:Nat} {ss:List Int} {us:List Bool} (hr:Y1 p q w A ss.length ss) (hr2:Kd.bool.C W' B us.length us) (hB: ∀g∈Zy B,W.heap.size<=g) (hl:ss.length=us.length) (h128:us.length<=128) (h0:0<us.length) (he:scE ss us=0) (hroom:(L.length:Int)+n+Ya ss us<=1048576) (hb:Below W.heap.size W W'):
  Calls Tryz.prog 91 #[.pointer (some ⟨p,0,none⟩),.slice A ss.length c1,.slice B us.length c2] W' fun e w'=>e= .returned (.int .i64 0)/\StW w base p q L (n+Ya ss us) G w':=by
 obtain⟨⟨bs,q1,h1,h2,h3,h4⟩,h5,h6,h7⟩:=h;have hlt:=h2.plt;refine(M7 base p q1 (L++bs) A B c1 c2 ss us W' (h2.step hb) ((hr.kp h5 h3).step hb) hr2 (fun g hg=>⟨?_,?_⟩) hl h128 h0 he (by rw[List.length_append];push_cast;omega)).mono ?_
 ·have:=hB g hg
  omega
 ·intro e2
  have:=hB g hg;have:=(h2.Ni _ e2.symm).2;omega
 ·rintro e w' ⟨rfl,more,hm,hP⟩
  exact⟨rfl,StW.wrote h1 h3 h4 h5 h6 h7 (WrP.next (.inl rfl) (Kp.of_below hb p q1) hP) hm⟩
end Gn

namespace Gn
attribute [local go_sem] Qh Qi Qk Ql Qd Qe
open Q15
open Runs Go.Shelf
open Q21
open Bts
open Bk
open Sec
open Sca (Yv N7 Ya)
attribute [local go_sem] Oper.semAt_some
theorem C_far {w W:World} {A:Option Addr} {xs:List Int} (h:(Kd.int .i64).C w A xs.length xs) (hb:Below w.heap.size w W) {p:Nat} (hp:w.heap.size<=p):Y1 p none W A xs.length xs:=
 ⟨Kd.Qf h hb,fun ad e h0=>⟨by
  subst e;obtain⟨ad2,e2,hc⟩:=Qn h (Below.refl _ _) (k:=0) h0;cases e2;have:=World.block_lt_of_cell? _ _ hc;rw[Q21.add_block] at this
  omega,fun e2=>by cases e2⟩⟩
theorem ch_far {w W:World} {A:Option Addr} {xs:List Ch} (h:kCh.C w A xs.length xs) (hb:Below w.heap.size w W) {k:Nat} (hk:k<xs.length):
  ∃ad A1 c1 A2 c2 A3 c3 A4 c4,A=some ad/\(∀(W:World),Below w.heap.size w W-> ∀(j:Nat) (u:Value),[Value.bool (xs.getD k ch0).sh,.slice A1 (xs.getD k ch0).gr.length c1,.slice A2 (xs.getD k ch0).sc.length c2,.slice A3 (xs.getD k ch0).qu.length c3,.slice A4 (xs.getD k ch0).fi.length c4][j]? =some u->W.cell? (ad.add (k*5+j))=some u)/\
   (Kd.int .i64).C w A1 (xs.getD k ch0).gr.length (xs.getD k ch0).gr /\(Kd.int .i64).C w A2 (xs.getD k ch0).sc.length (xs.getD k ch0).sc /\(Kd.int .i64).C w A3 (xs.getD k ch0).qu.length (xs.getD k ch0).qu /\(Kd.int .i64).C w A4 (xs.getD k ch0).fi.length (xs.getD k ch0).fi /\(xs.getD k ch0).qu.length <=c3:=by
 obtain⟨ad,c,e,_,hK,hc⟩:=Kd.Oj h ch0 k (by omega) (by omega);have hK2:kCh.K w (xs.getD k ch0) c:=hK;obtain⟨A1,c1,A2,c2,A3,c3,A4,c4,rfl,l1,g1,l2,g2,l3,g3,l4,g4⟩:=Iz hK2;have hc': ∀(j:Nat) (u:Value),[Value.bool (xs.getD k ch0).sh,.slice A1 (xs.getD k ch0).gr.length c1,.slice A2 (xs.getD k ch0).sc.length c2,.slice A3 (xs.getD k ch0).qu.length c3,.slice A4 (xs.getD k ch0).fi.length c4][j]? =some u->w.cell? (ad.add ((k:Int).toNat *5+j))=some u:=hc;exact⟨ad,A1,c1,A2,c2,A3,c3,A4,c4,e,fun W hb j u hj=>cnx (hc' j u hj) hb,g1,g2,g3,g4,l3⟩
theorem Wr_lower {w:World} {b b' p:Nat} {q:Option Nat} {l:List Int} (h:Wr w b p q l) (hb:b'<=b):Wr w b' p q l:=by
 obtain⟨v,h1,h2,h3,h4,h5,h6⟩:=h;exact⟨v,h1,Kd.Zz h2 hb,h3,h4,by omega,h6⟩
theorem Qdb {l:List Int} (h:l.length<=8/\ ∀n∈l,1<=n/\n<=8):l.sum<=64:=by
 have key: ∀l:List Int,(∀n∈l,1<=n/\n<=8)->l.sum<=8*l.length:=by
  intro l
  induction l with
  |nil=>intro _;simp
  |cons a b ih=>
   intro h;have h1:=h a (by simp);have h2:=ih (fun y hy=>h y (by simp[hy]));rw[List.sum_cons,List.length_cons]
   push_cast
   omega
 have:=key l h.2;omega
theorem Wo (A:Option Addr) (n c:Nat) (w:World):
  Calls Tryz.prog 86 #[.slice A n c] w fun en w'=>en= .returned (.func (.func 138) #[] #[.pointer (some ⟨w.heap.size,0,none⟩)])/\w'=w.alloc (.cells #[.slice A n c] 22):=by
 go_enter Tryz.func86,Tryz.ntmps86;go_wp2;go_ret;exact⟨rfl,rfl⟩
theorem Ld (AC M A:Option Addr) (cC cM cA:Nat) (g:Gr) (ws:List Int) (w:World) (hws:ws=Qm (chK g 0).sh (chK g 0).gr) (hLB:Xn w) (hB4:4<=w.heap.size) (hc:kCh.C w AC g.chs.length g.chs) (hm:Kd.bool.C w M g.mid.length g.mid) (hA:(Kd.int .i64).C w A ws.length ws) (hg:GrOk g) (hBW: ∀c∈g.chs,∀p∈((wL ws c.qu ws.length).getD 0 Sec.w0).secs,BW p.1.toNat):
  Calls Tryz.prog 43 #[.agg #[.slice AC g.chs.length cC,.slice M g.mid.length cM],.slice A ws.length cA] w fun e w'=> ∃p q bs,e= .returned (.pointer (some ⟨p,0,none⟩))/\Wr w' w.heap.size p q bs/\(bs.length:Int)=Lm g/\Below w.heap.size w w':=by
 obtain⟨xs,mid⟩:=g;dsimp only at hc hm ⊢;have hn:=hg.n;dsimp only at hn;have hnI:(xs.length:Int)<=2/\(0:Int)<(xs.length:Int):=(by omega);obtain⟨ad,A1,c1,A2,c2,A3,c3,A4,c4,rfl,hcell,g1,-,-,-,-⟩:=ch_far hc (Below.refl _ _) (k:=0) (by omega);have hx:chK ⟨xs,mid⟩ 0=xs.getD 0 ch0:=rfl;rw[<-hx] at hcell g1;obtain⟨X,hX⟩: ∃X,X=chK ⟨xs,mid⟩ 0:=⟨_,rfl⟩;rw[<-hX] at hcell hws g1;have HG:=Qa.mk hg;have HBW:=Qa.mk hBW;clear hBW;have HX:=Qa.mk hX;have Hws:=Qa.mk hws;have HCell:=Qa.mk hcell;have HC:=Qa.mk hc;have HM:=Qa.mk hm;have HA:=Qa.mk hA;have HLB:=Qa.mk hLB;have HB4:=Qa.mk hB4;have Hg1:=Qa.mk g1;have hmo:Tryz.prog.follows .mixedOrders =true:=(by kernel_rfl);have hu31:=Tryz.underlying31;have hu46:=Tryz.underlying46;clear hc hm hA hg hLB hB4 hcell hws hX hx g1 hn;refine(callsIn_wide (n:=3)).1 ?_;refine callsIn_of_wp_marks Tryz.func43 rfl trivial ?_ rfl;simp only[Tryz.ntmps43,List.size_toArray,List.length_cons,List.length_nil,Nat.reduceAdd,Nat.reduceSub,Array.replicate_succ,Array.replicate_zero,List.push_toArray,List.append_toArray,List.nil_append,List.cons_append];gi_wp2_with fail;obtain⟨W0,hW0⟩: ∃W0,W0=w.alloc (.cells #[.slice (some ad) xs.length cC,.slice M mid.length cM] 31):=⟨_,rfl⟩;have hb0:Below w.heap.size w W0:=(by rw[hW0];exact(Below.refl _ _).alloc (Nat.le_refl _) _);have hB0:W0.heap[w.heap.size]? =some (.cells #[.slice (some ad) xs.length cC,.slice M mid.length cM] 31 (0,0)):=(by rw[hW0];exact heap_alloc_new _ _);rw[<-hW0];refine⟨trivial,(callsIn_wide.2 (Qdk W0)).mono ?_⟩;rintro en W1 ⟨p,rfl,hWr,hb1⟩;have hWr1:=Wr_lower hWr hb0.size;have hp0:=hWr.base;have hpl:=hWr.plt;have hpw:=Qr hB0;have hb01:=bnx hb0 hb1;have hB1:=(hb1.block _ (Qr hB0)).trans hB0;clear hW0 hb0 hB0 hb1 hWr;gi_wp2_with fail;obtain⟨V,hV⟩: ∃V,V=W1.alloc (.cells #[.func (.func 84) #[.pointer (some ⟨p,0,none⟩)] #[]] 96):=⟨_,rfl⟩;have hb1V:Below W1.heap.size W1 V:=(by rw[hV];exact(Below.refl _ _).alloc (Nat.le_refl _) _);have hBf:V.heap[W1.heap.size]? =some (.cells #[.func (.func 84) #[.pointer (some ⟨p,0,none⟩)] #[]] 96 (0,0)):=(by rw[hV];exact heap_alloc_new _ _);rw[<-hV];have hBV:=(hb1V.block _ (Qr hB1)).trans hB1;have hbV:=bnx hb01 hb1V;have hWrV:=hWr1.step hb1V;obtain⟨b6,hb6⟩: ∃b6,b6=W1.heap.size:=⟨_,rfl⟩;rw[<-hb6] at hBf hpl;rw[<-hb6]
 have HK:Qa (∀(n:Int) (W:World),StW V w.heap.size p none [] n [] W->Below w.heap.size w W/\W.cell? ⟨w.heap.size,0,none⟩=some (.slice (some ad) xs.length cC)/\W.cell? ⟨w.heap.size,1,none⟩=some (.slice M mid.length cM)/\W.cell? ⟨b6,0,none⟩=some (.func (.func 84) #[.pointer (some ⟨p,0,none⟩)] #[])):=⟨fun n W h=>
  ⟨hbV.trans (h.C8 hbV.size),h.kp.cell (by rw[Qb hBV];rfl) (by show w.heap.size≠p;omega) (fun e=>by cases e),h.kp.cell (by rw[Qb hBV];rfl) (by show w.heap.size≠p;omega) (fun e=>by cases e),h.kp.cell (by rw[Qb hBf];rfl) (by show b6≠p;omega) (fun e=>by cases e)⟩⟩
 have hSt0:=StW.start hWrV;obtain⟨-,z0,z1,z6⟩:=HK.out 0 V hSt0;have q0:V.cell? ad=some (.bool X.sh):=by simpa[Addr.add] using HCell.out V hbV 0 _ rfl
 obtain⟨o1,ho1,ho2⟩: ∃o:Nat,(o:Int)=oneI X.sh/\o<2:=by
  cases X.sh with
  |true=>exact⟨1,rfl,by decide⟩
  |false=>exact⟨0,rfl,by decide⟩
 have HOne:=Qa.mk (fun(W:World)=>Cb X.sh W);rw[<-ho1] at HOne;replace ho1:=Qa.mk ho1;have hxne: ¬xs=[]:=fun e=>by rw[e] at hnI;simp at hnI
 have hPt:=Qa.mk (fun(W':World) (hb:Below V.heap.size V W')=>hSt0.put (v:=o1) (k:=1) (by omega) (by omega) (by simp) hb);have hVb:=Qa.mk hbV;have hpV:=Qa.mk hp0;have hb6V:Qa (b6<V.heap.size):=⟨by have:=Qr hBf;exact this⟩;have hwV:Qa (w.heap.size<V.heap.size):=⟨by have:=hb6V.out;omega⟩;have hb6p:Qa (b6≠p):=⟨by omega⟩;have hpw:=Qa.mk hpw;replace HB4:=Qa.mk HB4.out;clear hV hb1V hBf hBV hWrV hb01 hWr1 hB1 hbV hb6 hpl hp0;refine Go.wpIn_wide.2 (wp_region_noPanic (Z6 (fun W'=>W'.cell? ⟨w.heap.size,0,none⟩=some (.slice (some ad) xs.length cC)/\W'.cell? ad=some (.bool X.sh)/\W'.cell? ⟨b6,0,none⟩=some (.func (.func 84) #[.pointer (some ⟨p,0,none⟩)] #[])) hmo ⟨z0,q0,z6⟩ (fun hHeld=> ?_)));have hbD:Below V.heap.size V V.drew:=(Below.refl _ _).drew;obtain⟨VD,hVD⟩: ∃VD,VD=V.drew:=⟨_,rfl⟩;rw[<-hVD] at hHeld hbD ⊢;clear hVD
 (refine Tk.tk 0 (.func (.func 84) #[.pointer (some ⟨p,0,none⟩)] #[]) hHeld ?_)
 (refine Tk.tk 1 (.pointer (some ⟨w.heap.size,0,none⟩)) hHeld ?_)
 (refine Tk.tk 2 (.slice (some ad) xs.length cC) hHeld ?_)
 (refine Tk.tk 3 (.pointer (some ad)) hHeld ?_)
 (refine Tk.tk 4 (.pointer (some ad)) hHeld ?_)
 (refine Tk.tk 5 (.bool X.sh) hHeld ?_)
 (refine wpAnyH_ready (rs:=[6]) (by kernel_rfl) (by simp) ?_;refine AllReadyH.cons rfl (fun K hK=> ?_) AllReadyH.nil;go_simp)
 refine(HOne.out _).mono ?_;rintro en w6 ⟨rfl,rfl⟩
 (go_wp2_with fail;refine hK.out _ _ (hHeld) (fun hHeld=> ?_);clear hK K;try simp only[Act.put,Tk.z1,Tk.z2,Tk.z3,Tk.z4,Tk.z5,Tk.z6])
 (refine wpAnyH_ready (rs:=[7]) (by kernel_rfl) (by simp) ?_;refine AllReadyH.cons rfl (fun K hK=> ?_) AllReadyH.nil;go_simp)
 refine(hPt.out _ hbD).mono ?_;rintro en w7 ⟨E,rfl,hS1,-⟩;obtain⟨-,y0,y1,y6⟩:=HK.out _ _ hS1;have y2:w7.cell? ad=some (.bool X.sh):=by simpa[Addr.add] using HCell.out w7 (hVb.out.trans (hS1.C8 hVb.out.size)) 0 _ rfl
 (go_wp2_with fail;refine hK.out _ _ (⟨y0,y2,y6⟩) (fun hHeld=> ?_);clear hK K;try simp only[Act.put,Tk.z1,Tk.z2,Tk.z3,Tk.z4,Tk.z5,Tk.z6])
 refine wpAnyH_done (by kernel_rfl) ?_ _;clear hHeld z0 z1 z6 q0 hPt hSt0 HOne hbD;refine NoPanic.normal ?_;have q1:w7.cell? ⟨ad.block,ad.off+1,none⟩=some (.slice A1 X.gr.length c1):=(by simpa[Addr.add] using HCell.out w7 (hVb.out.trans (hS1.C8 hVb.out.size)) 1 _ rfl);replace hS1:=Qa.mk hS1;gi_wp2_with fail;refine⟨trivial,(callsIn_wide.2 (Wo A1 X.gr.length c1 w7)).mono ?_⟩;rintro en V2 ⟨rfl,hV2⟩;have hb2:Below w7.heap.size w7 V2:=(by rw[hV2];exact(Below.refl _ _).alloc (Nat.le_refl _) _);have b10:V2.cell? ⟨w7.heap.size,0,none⟩=some (.slice A1 X.gr.length c1):=(by rw[hV2];simp[go_sem]);have hS2:=hS1.out.step hb2;have hv2:V.heap.size<=V2.heap.size:=hS2.kp.size;obtain⟨g10,hg10⟩: ∃g10,g10=w7.heap.size:=⟨_,rfl⟩;rw[<-hg10] at b10;rw[<-hg10];have hbV2:=hVb.out.trans (hS2.C8 hVb.out.size);have hgd:=Xj (by rw[HX.out];exact HG.out.div:Zc X.sh X.gr=true);have HG8:=Qa.mk hgd;have HV2:=Qa.mk hv2;have HS2:=Qa.mk hS2;obtain⟨Ls,hLs⟩: ∃Ls,Ls=if 0<X.gr.length then Zy A1 else[]:=⟨_,rfl⟩
 have HGb:Qa (∀g∈Ls,g<V.heap.size/\g≠p/\some g≠none):=⟨fun g hg=>by
  rw[hLs] at hg
  have hgw:g<w.heap.size:=by
   split at hg
   ·exact Y3 Hg1.out (by assumption) _ hg
   ·cases hg
  have:=hVb.out.size;have:=hpV.out;have:=hpw.out
  exact⟨by omega,by omega,fun e=>by cases e⟩⟩
 have HRun:=Wn Fence.wide 2 trivial rfl (by omega) g10 A1 c1 X.gr (fun x hx=>by have:=hgd.2 x hx;omega) (by omega) V2 (Kd.Qf Hg1.out hbV2) b10 Ls (fun h=>by rw[hLs,if_pos h];exact fun g hg=>hg);clear hLs hV2 hb2 hS2 hv2 hg10 hbV2 hgd hS1 y0 y1 y6 y2 q1;gi_wp2_with fail
 refine Xw rfl (by omega) (gf:=138) (lb:= #[.pointer (some ⟨g10,0,none⟩)]) rfl trivial (enters_of Tryz.func138 (by kernel_rfl) rfl)
  HRun (fun h k=>h.trans k) ?keep (Below.refl _ _) (fun _=>rfl) (fun j W=>StW V w.heap.size p none [] (1+j) [] W) ?own ?start ?round ?done
 case keep=>exact Qz.putObj (N:=V2.heap.size) (fun g hg=>Nat.lt_of_lt_of_le (HGb.out g hg).1 HV2.out)
 case own=>exact fun j W W' row h hg hrow=>h.turn hg (fun r e=>⟨Nat.le_trans HV2.out (hrow r e).1,(hrow r e).2⟩)
 case start=>exact HS2.out
 case round=>
  rintro Lr j W hSt hj
  obtain⟨o2,ho2,ho3⟩: ∃o:Nat,(o:Int)=stV X.gr j/\o<2:=by
   rcases stV_bd X.gr j with h|h
   ·exact⟨0,by rw[h];rfl,by decide⟩
   ·exact⟨1,by rw[h];rfl,by decide⟩
  rw[<-ho2]
  have hN9:stN X.gr<=64:=by
   have h1:=Nc (gs:=X.gr) (fun x hx=>by have:=HG8.out.2 x hx;omega) X.gr.length;have h2:=Qdb HG8.out;rw[List.take_length] at h1;unfold stN;omega
  clear ho2;gi_wp2;refine⟨(KeepsOthers.refl W).from _,Qz.refl _ _,fun Z=>StW V w.heap.size p none [] (1+j) [] Z,hSt,fun _ Z Z' row h hg hrow=>h.turn hg (fun r e=>⟨Nat.le_trans HV2.out (hrow r e).1,(hrow r e).2⟩),?_⟩;clear hSt;rintro Zw hSw;obtain⟨-,z0,z1,z6⟩:=HK.out _ _ hSw;have hPt:=Qa.mk (hSw.put (v:=o2) (k:=1) (by omega) (by omega) (by simp;omega) (Below.refl _ _));replace hSw:=Qa.mk hSw;gi_wp2_with fail;refine⟨trivial,CallsIn.inRound Lr (callsIn_wide.2 (hPt.out.mono ?_))⟩;rintro en w5 ⟨E,rfl,hS5,hK5⟩;have hkl:=StW.keep0 hSw.out hS5 HGb.out;replace hS5:=Qa.mk hS5;replace hK5:=Qa.mk hK5;replace hkl:=Qa.mk hkl;clear z0 z1 z6 hPt;gi_wp2;exact⟨hK5.out.from _,hkl.out,by show StW V w.heap.size p none [] (1+((j+1:Nat):Int)) [] _;rw[show(1:Int)+((j+1:Nat):Int)=1+j+(1:Nat) by push_cast;omega];exact hS5.out⟩
 case done=>
  intro D W hD hSt hDf;obtain⟨⟨L,q1,hL1,hWrW,hq1,-⟩,hkpW,-,-⟩:=id hSt;rw[List.nil_append] at hWrW
  have hN9:stN X.gr<=64:=by
   have h1:=Nc (gs:=X.gr) (fun x hx=>by have:=HG8.out.2 x hx;omega) X.gr.length;have h2:=Qdb HG8.out;rw[List.take_length] at h1;unfold stN;omega
  obtain⟨hbW,z0,z1,z6⟩:=HK.out _ _ hSt;have hbase: ∀k,q1=some k->w.heap.size<=k:=fun k e=>(hWrW.Ni k e).1
  have hq9: ∀g,g<V.heap.size->some g≠q1:=fun g hg e=>by
   rcases hq1 with h|⟨z,h,hz⟩
   ·rw[h] at e;cases e
   ·rw[h] at e
    have:=Option.some.inj e;omega
  have HK3:Qa (∀(n:Int) (G:List Blk) (W':World),StW W w.heap.size p q1 L n G W'->Below w.heap.size w W'/\W'.cell? ⟨w.heap.size,0,none⟩=some (.slice (some ad) xs.length cC)/\W'.cell? ⟨w.heap.size,1,none⟩=some (.slice M mid.length cM)/\W'.cell? ⟨b6,0,none⟩=some (.func (.func 84) #[.pointer (some ⟨p,0,none⟩)] #[])/\W'.heap[D]? =some (.deferred (some []))):=⟨fun n G W' h=>by
   have k0:=hpw.out;have k1:=hpV.out;have k2:=hVb.out.size;have k3:=hb6V.out
   exact⟨hbW.trans (h.kp.below (by omega) hbase hbW.size),h.kp.cell z0 (by show w.heap.size≠p;omega) (hq9 w.heap.size hwV.out),h.kp.cell z1 (by show w.heap.size≠p;omega) (hq9 w.heap.size hwV.out),h.kp.cell z6 (by show b6≠p;exact hb6p.out) (hq9 _ hb6V.out),(Vy h.kp hWrW).2 D _ hDf rfl⟩⟩
  have hSW:=Qa.mk (StW.start hWrW)
  have HFar:Qa (∀(B:Option Addr) (l:List Int),(Kd.int .i64).C w B l.length l->Y1 p q1 W B l.length l):=⟨fun B l h=>by
   obtain⟨f1,f2⟩:=C_far h hbW (p:=p) (by have:=hpV.out;have:=hpw.out;omega);refine⟨f1,fun ad e h0=>⟨(f2 ad e h0).1,fun e2=> ?_⟩⟩;have h3:=hbase _ e2.symm;subst e;obtain⟨ad2,e3,hc⟩:=Qn h (Below.refl _ _) (k:=0) h0;cases e3;have:=World.block_lt_of_cell? _ _ hc;rw[Q21.add_block] at this
   omega⟩
  have HL1:=Qa.mk hL1;have hDw:Qa (w.heap.size<=D):=⟨Nat.le_trans (Nat.le_trans hVb.out.size HV2.out) hD⟩;clear HRun hSt hkpW hDf hbW hWrW hq1 hq9 hbase hL1 HK HS2 HV2 HGb;by_cases h2:xs.length=2
  case' pos=>
   have t7:((xs.length:Int)==2)=true:=(by rw[h2];rfl);have hm32:=I5 HG.out;dsimp only at hm32;have hmI:(mid.length:Int)<=32:=(by omega);have hMS:=Qa.mk (Ms M cM mid W (Kd.Qf HM.out (HK3.out _ _ _ hSW.out).1) (by omega));have hmb:=midI_bd mid;have hcM:Qa (J4 ⟨xs,mid⟩=2+(if midI mid=2 then(mid.length:Int) else 0)):=⟨by unfold J4;rw[if_pos h2]⟩;obtain⟨sd,hsd⟩: ∃sd:Nat,(sd:Int)=midI mid:=⟨(midI mid).toNat,by omega⟩;rw[<-hsd] at hMS hcM hmb;have HLr:Qa ((L.length:Int)<=65):=⟨by have:=HL1.out;omega⟩;clear h2 hsd hm32;gi_wp2_with fail;refine⟨trivial,(callsIn_wide.2 hMS.out).mono ?_⟩;rintro en wm ⟨rfl,hbm⟩;obtain⟨-,y0,y1,y6,-⟩:=HK3.out _ _ _ (hSW.out.step hbm);have hP:=Qa.mk (hSW.out.put (v:=sd) (k:=2) (by omega) (by omega) (by have:=HLr.out;push_cast;omega) hbm);clear z0 z1 z6 hbm hMS;gi_wp2_with fail;refine⟨trivial,(callsIn_wide.2 hP.out).mono ?_⟩;rintro en wn ⟨En,rfl,hSn,-⟩;clear y0 y1 y6 hP;obtain⟨-,z0,z1,z6,-⟩:=HK3.out _ _ _ hSn;replace hSn:=Qa.mk hSn;gi_wp2_with fail;clear z0 z1 z6;gi_loopw [54] (fun i wr=> ∃j:Nat,i= .int .i64 j/\j<=mid.length/\Qa (StW W w.heap.size p q1 L (2+(if(sd:Int)=2 then(j:Int) else 0)) [] wr)) (fun i _=>mid.length-(intOf i).toNat)
   case atStart=>exact⟨0,rfl,by omega,⟨by simpa using hSn.out⟩⟩
   case' round=>
    obtain⟨j,rfl,hj,hSj⟩:=hrel;obtain⟨hbj,z0,z1,z6,-⟩:=HK3.out _ _ _ hSj.out;clear hSn;by_cases hjt:j<mid.length
    case pos=>
     obtain⟨am,rfl,hcell⟩:=Yv HM.out hbj hjt;have hjI:(j:Int)<(mid.length:Int):=(by omega);obtain⟨x,hx⟩: ∃x,x=mid.getD j false:=⟨_,rfl⟩;rw[<-hx] at hcell;have hjT:=Qa.mk hjt;clear hx hjt hbj z0 z1;by_cases hs2:(sd:Int)=2
     ·have t8:((sd:Int)==2)=true:=by rw[hs2];rfl
      have t9:(sd==2)=true:=by rw[beq_iff_eq];omega
      obtain⟨o3,ho3,ho4⟩: ∃o:Nat,(o:Int)=oneI x/\o<2:=by
       cases x with
       |true=>exact⟨1,rfl,by decide⟩
       |false=>exact⟨0,rfl,by decide⟩
      have HOne:=Qa.mk (fun(W:World)=>Cb x W);rw[<-ho3] at HOne;replace ho3:=Qa.mk ho3;rw[if_pos hs2] at hSj;have hPt:=Qa.mk (fun(W':World) (hb:Below wr.heap.size wr W')=>hSj.out.put (v:=o3) (k:=1) (by omega) (by omega) (by have:=HLr.out;push_cast;omega) hb);replace hs2:=Qa.mk hs2;gi_wp2_with fail;refine Go.wpIn_wide.2 (wp_region_noPanic (Z6 (fun W'=>W'.cell? ⟨b6,0,none⟩=some (.func (.func 84) #[.pointer (some ⟨p,0,none⟩)] #[])) hmo z6 (fun hHeld=> ?_)));have hbD:Below wr.heap.size wr wr.drew:=(Below.refl _ _).drew;obtain⟨wD,hwD⟩: ∃wD,wD=wr.drew:=⟨_,rfl⟩;rw[<-hwD] at hHeld hbD ⊢;clear hwD
      (refine Tk.tk 0 (.func (.func 84) #[.pointer (some ⟨p,0,none⟩)] #[]) hHeld ?_)
      (refine Tk.tk 1 (.bool x) hHeld ?_)
      (refine wpAnyH_ready (rs:=[2]) (by kernel_rfl) (by simp) ?_;refine AllReadyH.cons rfl (fun K hK=> ?_) AllReadyH.nil;go_simp)
      refine(HOne.out _).mono ?_;rintro en w6 ⟨rfl,rfl⟩
      (go_wp2_with fail;refine hK.out _ _ (hHeld) (fun hHeld=> ?_);clear hK K;try simp only[Act.put,Tk.z1,Tk.z2,Tk.z3,Tk.z4,Tk.z5,Tk.z6])
      (refine wpAnyH_ready (rs:=[3]) (by kernel_rfl) (by simp) ?_;refine AllReadyH.cons rfl (fun K hK=> ?_) AllReadyH.nil;go_simp)
      refine(hPt.out _ hbD).mono ?_;rintro en w7 ⟨E7,rfl,hS7,-⟩;obtain⟨-,-,-,y6,-⟩:=HK3.out _ _ _ hS7
      (go_wp2_with fail;refine hK.out _ _ (y6) (fun hHeld=> ?_);clear hK K;try simp only[Act.put,Tk.z1,Tk.z2,Tk.z3,Tk.z4,Tk.z5,Tk.z6])
      refine wpAnyH_done (by kernel_rfl) ?_ _;have hS8:Qa (StW W w.heap.size p q1 L (2+(if(sd:Int)=2 then((j+1:Nat):Int) else 0)) [] w7):=⟨by rw[if_pos hs2.out,show(2:Int)+((j+1:Nat):Int)=2+j+(1:Nat) by push_cast;omega];exact hS7⟩;clear hHeld z6 hPt hSj HOne hbD hS7 y6 hcell;refine NoPanic.normal ?_;gi_wp2;go_roundw
      case rel=>exact⟨j+1,by go_num,hjT.out,hS8⟩
      case measure=>have:=hjT.out;simp[intOf];omega
     ·have t8:((sd:Int)==2)=false:=by simpa using hs2
      have t9:(sd==2)=false:=by simpa using fun h:sd=2=>hs2 (by omega)
      have hS8:Qa (StW W w.heap.size p q1 L (2+(if(sd:Int)=2 then((j+1:Nat):Int) else 0)) [] wr):=⟨by rw[if_neg hs2];rw[if_neg hs2] at hSj;exact hSj.out⟩;clear hs2;gi_wp2;go_roundw
      case rel=>exact⟨j+1,by go_num,hjT.out,hS8⟩
      case measure=>have:=hjT.out;simp[intOf];omega
    case' neg=>
     obtain rfl:j=mid.length:=(by omega);have hSM:Qa (StW W w.heap.size p q1 L (J4 ⟨xs,mid⟩) [] wr):=⟨by rw[hcM.out];exact hSj.out⟩;clear hjt hj hSj hbj z1 z6 hcM hmb hmI HLr hSW;obtain⟨wo,rfl⟩: ∃wo:World,wo=wr:=⟨_,rfl⟩;gi_wp2_with fail
  case' neg=>
   have t7:((xs.length:Int)==2)=false:=by simpa using fun h=>h2 (by omega)
   have hSM:Qa (StW W w.heap.size p q1 L (J4 ⟨xs,mid⟩) [] W):=⟨by unfold J4;rw[if_neg h2];exact hSW.out⟩;clear h2 hSW;gi_wp2_with fail
  all_goals
   gi_loopw [68] (fun i wr=> ∃k:Nat,i= .int .i64 k/\k<=xs.length/\Qa (StW W w.heap.size p q1 L (J4 ⟨xs,mid⟩+Zb ws xs k) [] wr)) (fun i _=>xs.length-(intOf i).toNat)
   case atStart=>exact⟨0,rfl,by omega,⟨by simpa[Zb] using hSM.out⟩⟩
   case round=>
    obtain⟨k,rfl,hk,hSt⟩:=hrel;clear z0;obtain⟨hbr,z0,z1,z6,-⟩:=HK3.out _ _ _ hSt.out;by_cases hlt:k<xs.length
    ·obtain⟨ad2,D1,d1,D2,d2,D3,d3,D4,d4,had,hch,e1,e2,e3,e4,hcap⟩:=ch_far HC.out (Below.refl _ _) hlt
     cases had;have hmem:xs.getD k ch0∈xs:=(by rw[List.getD_eq_getElem?_getD,List.getElem?_eq_getElem hlt];exact List.getElem_mem hlt);have hwi:Q16.isW ws=true:=(by rw[Hws.out,HX.out];exact Yw HG.out.div);have hF:ChF ws (xs.getD k ch0):=Ea hwi (by rw[Hws.out,HX.out];exact(HG.out.ch _ hmem).2.2);have hall: ∀c∈xs,ChF ws c:=fun c hcm=>Ea hwi (by rw[Hws.out,HX.out];exact(HG.out.ch c hcm).2.2)
     have hctb:=Yy hall k hk;have hnx:=Fx (ws:=ws) hlt;obtain⟨Y,hY⟩: ∃Y,Y=xs.getD k ch0:=⟨_,rfl⟩;rw[<-hY] at hch e1 e2 e3 e4 hcap hF hnx;have hcb:=Lj hF;have hBY:=HBW.out _ hmem;rw[<-hY] at hBY;replace hBY:=Qa.mk hBY;have m0:=hch wr hbr 0 _ rfl;have m1:=hch wr hbr 1 _ rfl;have m2:=hch wr hbr 2 _ rfl;have m3:=hch wr hbr 3 _ rfl;have m4:=hch wr hbr 4 _ rfl;rw[show k*5+4=k*5+1+1+1+1 by omega,Sec.Zf,Sec.Zf,Sec.Zf,Sec.Zf] at m4;rw[show k*5+3=k*5+1+1+1 by omega,Sec.Zf,Sec.Zf,Sec.Zf] at m3;rw[show k*5+2=k*5+1+1 by omega,Sec.Zf,Sec.Zf] at m2;rw[Sec.Zf] at m1;simp only[Nat.add_assoc,Nat.reduceAdd,Nat.add_zero] at m0 m1 m2 m3 m4;have hcMb:0<=J4 ⟨xs,mid⟩/\J4 ⟨xs,mid⟩<=100:=costM_bd HG.out;have hLL:=HL1.out;obtain⟨n0,hn0⟩: ∃n0,n0=J4 ⟨xs,mid⟩+Zb ws xs k:=⟨_,rfl⟩;rw[<-hn0] at hSt;have hn0b:0<=n0/\n0<=441000:=(by omega);have hn1:Qa (J4 ⟨xs,mid⟩+Zb ws xs (k+1)=n0+(4:Nat)+8*(Y.fi.length:Nat)+((wL ws Y.qu ws.length).getD 0 Sec.w0).cost +Ya Y.sc (Xo ws Y.qu)):=⟨by rw[hnx,hn0];unfold Vo;omega⟩;obtain⟨b12,hb12⟩: ∃b12,b12=wr.heap.size:=⟨_,rfl⟩;obtain⟨W12,hW12⟩: ∃W12,W12=wr.alloc (.cells #[.bool Y.sh,.slice D1 Y.gr.length d1,.slice D2 Y.sc.length d2,.slice D3 Y.qu.length d3,.slice D4 Y.fi.length d4] 46):=⟨_,rfl⟩;have hS12:=hSt.out.alloc #[.bool Y.sh,.slice D1 Y.gr.length d1,.slice D2 Y.sc.length d2,.slice D3 Y.qu.length d3,.slice D4 Y.fi.length d4] 46;rw[<-hW12,<-hb12,List.nil_append] at hS12;obtain⟨G,hGe⟩: ∃G:List Blk,G=[⟨b12, #[.bool Y.sh,.slice D1 Y.gr.length d1,.slice D2 Y.sc.length d2,.slice D3 Y.qu.length d3,.slice D4 Y.fi.length d4],46⟩]:=⟨_,rfl⟩;rw[<-hGe] at hS12
     have HK4:Qa (∀(n:Int) (W':World),StW W w.heap.size p q1 L n G W'->W'.cell? ⟨w.heap.size,0,none⟩=some (.slice (some ad) xs.length cC)/\W'.cell? ⟨b6,0,none⟩=some (.func (.func 84) #[.pointer (some ⟨p,0,none⟩)] #[])/\W'.cell? ⟨b12,2,none⟩=some (.slice D2 Y.sc.length d2)/\W'.cell? ⟨b12,3,none⟩=some (.slice D3 Y.qu.length d3)/\W'.cell? ⟨b12,4,none⟩=some (.slice D4 Y.fi.length d4)):=⟨fun n W' h=>by
      obtain⟨_,j0,_,j6,_⟩:=HK3.out _ _ _ h;have hB:=h.blk (b:=⟨b12, #[.bool Y.sh,.slice D1 Y.gr.length d1,.slice D2 Y.sc.length d2,.slice D3 Y.qu.length d3,.slice D4 Y.fi.length d4],46⟩) (by rw[hGe];simp)
      exact⟨j0,j6,by rw[Qb hB];rfl,by rw[Qb hB];rfl,by rw[Qb hB];rfl⟩⟩
     have HDrop:Qa (∀(n:Int) (W':World),StW W w.heap.size p q1 L n G W'->StW W w.heap.size p q1 L n [] W'):=⟨fun n W' h=>StW.drop (G1:=[]) (G2:=G) h⟩;have hkI:(k:Int)<(xs.length:Int):=(by omega);have hb6r:b6<wr.heap.size:=World.block_lt_of_cell? wr _ z6;have hlt':=Qa.mk hlt;replace HG:=Qa.mk HG.out;have hflI:(Y.fi.length:Int)<=12:=(by have:=hF.fl;omega);have HF:=Qa.mk hF;have HD3:=Qa.mk e3;have HD2:=Qa.mk e2;have HD4:=Qa.mk e4;have Hcap:=Qa.mk hcap;have Hcb:=Qa.mk hcb;have HLr:Qa ((L.length:Int)<=65):=⟨by omega⟩;have hP1:=Qa.mk (fun(W':World) (hb:Below W12.heap.size W12 W')=>hS12.put (v:=Y.fi.length) (k:=4) (by omega) (by have:=hF.fl;omega) (by push_cast;omega) hb);clear e1 e2 e3 e4 hcap hctb hnx hcb hcMb hLL hn0 hall hmem hwi hF hch hY hlt hGe hSt hk;gi_wp2_with fail;rw[<-hW12,<-hb12];obtain⟨z0,z6,f2,f3,f4⟩:=HK4.out _ _ hS12;clear hW12 hb12 m0 m1 m2 m3 m4;refine⟨trivial,(callsIn_wide.2 (hP1.out W12 (Below.refl _ _))).mono ?_⟩;rintro en w5 ⟨E5,rfl,hS5,-⟩;obtain⟨z0,z6,f2,f3,f4⟩:=HK4.out _ _ hS5;replace hS5:=Qa.mk hS5;clear hP1 hS12 hb6r;gi_wp2_with fail;clear z0 z6 f2 f3 f4;gi_loopw [80] (fun i wr=> ∃j:Nat,i= .int .i64 j/\j<=Y.fi.length/\Qa (StW W w.heap.size p q1 L (n0+(4:Nat)+8*j) G wr)) (fun i _=>Y.fi.length-(intOf i).toNat)
     case atStart=>exact⟨0,rfl,by omega,⟨by simpa using hS5.out⟩⟩
     case round=>
      obtain⟨j,rfl,hj,hSj⟩:=hrel;obtain⟨z0,z6,f2,f3,f4⟩:=HK4.out _ _ hSj.out;by_cases hjt:j<Y.fi.length
      ·obtain⟨a4,rfl,hcell⟩:=Qn HD4.out (HK3.out _ _ _ hSj.out).1 hjt
       have hjI:(j:Int)<(Y.fi.length:Int):=(by omega);have hv:=HF.out.fv _ (Qp Y.fi j hjt);obtain⟨x,hx⟩: ∃x,x=rd Y.fi j:=⟨_,rfl⟩;rw[<-hx] at hcell hv;have hP:=Qa.mk (hSj.out.signed (v:=x) (by omega) (by omega) (by have:=HLr.out;push_cast;omega) (Below.refl _ _));have hjT:=Qa.mk hjt;clear hx hjt hS5;gi_wp2_with fail;refine⟨trivial,(callsIn_wide.2 hP.out).mono ?_⟩;rintro en w6 ⟨E6,rfl,hS6⟩;replace hS6:=Qa.mk hS6;clear z0 z6 f2 f3 f4 hcell hP hSj;gi_wp2;go_roundw
       case rel=>exact⟨j+1,by go_num,hjT.out,⟨by rw[show n0+(4:Nat)+8*((j+1:Nat):Int)=n0+(4:Nat)+8*j+8 by push_cast;omega];exact hS6.out⟩⟩
       case measure=>have:=hjT.out;simp[intOf];omega
      ·obtain rfl:j=Y.fi.length:=by omega
       clear hjt hS5 hj;have hokc:=HF.out.ok;obtain⟨hRt,hCc⟩:=Qas hokc;have HCh:=Qa.mk (Cs A D3 cA d3 ws Y.qu wr (HLB.out.below (HK3.out _ _ _ hSj.out).1) (Kd.Qf HA.out (HK3.out _ _ _ hSj.out).1) (Kd.Qf HD3.out (HK3.out _ _ _ hSj.out).1) Hcap.out hokc HF.out.w0);obtain⟨cw,hcw⟩: ∃cw,cw=(wL ws Y.qu ws.length).getD 0 Sec.w0:=⟨_,rfl⟩;rw[<-hcw] at HCh hRt hCc;replace hRt:=Qa.mk hRt;replace hCc:=Qa.mk hCc;replace hcw:=Qa.mk hcw;clear hokc z0 z6;gi_wp2_with fail;refine⟨trivial,(callsIn_wide.2 HCh.out).mono ?_⟩;rintro en w7 ⟨As,cs,rfl,hCs,hAs,hb7⟩;have hS7:=hSj.out.step hb7;obtain⟨hbw7,-,-,-,-⟩:=HK3.out _ _ _ hS7;obtain⟨z0,z6,f2,f3,f4⟩:=HK4.out _ _ hS7;have hq128:=Qa.mk HF.out.q
       have hSec:=Qa.mk (hSj.out.section HB4.out (HLB.out.below hbw7) (c1:=cA) (c2:=d3) (cs:=cs) (HFar.out A ws HA.out) (HFar.out D3 Y.qu HD3.out) Hcap.out HF.out.ok HF.out.w0 hCs hAs hRt.out (by
        have h1:=HLr.out;have h2:=Hcb.out;have h3:=hflI;unfold Vo at h2;rw[<-hcw.out] at h2;rw[hCc.out]
        push_cast
        omega) (by rw[hcw.out];exact hBY.out) hb7)
       rw[hCc.out] at hSec;clear hb7 hCs hAs hS7 hSj HCh z0 z6;gi_wp2_with fail;refine⟨trivial,(callsIn_wide.2 hSec.out).mono ?_⟩;rintro en w8 ⟨rfl,hS8⟩;obtain⟨z0,z6,f2,f3,f4⟩:=HK4.out _ _ hS8;have hbw8:=(HK3.out _ _ _ hS8).1;obtain⟨a3,ha3,-⟩:=Qn HD3.out (Below.refl _ _) (k:=0) (by rw[hq128.out];omega);subst ha3;have hwi:Q16.isW ws=true:=(by rw[Hws.out,HX.out];exact Yw HG.out.div);have HU:=Qa.mk (Tx A cA ws a3 d3 Y.qu w8 (Kd.Qf HA.out hbw8) hwi (Kd.Qf HD3.out hbw8) hq128.out);replace hS8:=Qa.mk hS8;clear hwi hSec z0 z6 hbw7 hbw8;gi_wp2_with fail;rw[hq128.out];refine⟨trivial,(callsIn_wide.2 HU.out).mono ?_⟩;rintro en w9 ⟨gu,rfl,hgu,hgc,hb9⟩;have hul:=Yz ws Y.qu;have hC9:=CB_of hgc (by have:=HF.out.w32;omega);have hS9:=hS8.out.step hb9;obtain⟨z0,z6,f2,f3,f4⟩:=HK4.out _ _ hS9
       have hScl:=hS8.out.scales (c1:=d2) (c2:=ws.length) (HFar.out D2 Y.sc HD2.out) hC9 (fun g hg=>by rw[List.mem_singleton.1 hg];exact hgu) HF.out.sc (by have:=HF.out.w32;omega) (by have:=HF.out.w0;omega) HF.out.e (by
        have h1:=HLr.out;have h2:=Hcb.out;have h3:=hflI;unfold Vo at h2;rw[<-hcw.out] at h2
        push_cast
        omega) hb9
       rw[hul] at hScl;replace hScl:=Qa.mk hScl;clear hb9 hgc hgu hC9 hS9 hul hS8 HU z0 z6;gi_wp2_with fail;refine⟨trivial,(callsIn_wide.2 hScl.out).mono ?_⟩;rintro en wa ⟨rfl,hSa⟩;have hSb:=Qa.mk (HDrop.out _ _ hSa);have hfin:Qa (J4 ⟨xs,mid⟩+Zb ws xs (k+1)=n0+(4:Nat)+8*(Y.fi.length:Nat)+cw.cost+Ya Y.sc (Xo ws Y.qu)):=⟨by rw[hcw.out];exact hn1.out⟩;clear hScl hSa f2 f3 f4;gi_wp2;go_roundw
       case rel=>exact⟨k+1,by go_num,hlt'.out,⟨by rw[hfin.out];exact hSb.out⟩⟩
       case measure=>have:=hlt'.out;simp[intOf];omega
    ·obtain rfl:k=xs.length:=by omega
     clear hlt hk;have hDf:=(HK3.out _ _ _ hSt.out).2.2.2.2;obtain⟨⟨bs,q2,i1,i2,-,-⟩,-⟩:=hSt.out;have hgr:=grownBy_putObj' wr D (.deferred none);have hWf:=Qa.mk (i2.turn hgr (fun r e=>by cases e;exact⟨_,hDf,rfl⟩));have hbf:=Qa.mk (hbr.grown hgr hbr.size (fun r e=>by cases e;exact hDw.out))
     have hlen:Qa (((L++bs).length :Int)=Lm ⟨xs,mid⟩):=⟨by
      rw[List.length_append]
      push_cast
      rw[HL1.out,i1];unfold Zb Lm;rw[List.take_length,<-HX.out,<-Hws.out]
      push_cast
      omega⟩
     clear z0 z1 z6 hgr i1 i2 hSt;gi_wp2;refine⟨by simp,.inl ⟨_,_,rfl,run_takeDeferred hDf,?_⟩⟩;exact⟨.pointer (some ⟨p,0,none⟩),by simp[results,Tryz.f43,go_sem],p,q2,L++bs,rfl,hWf.out,hlen.out,hbf.out⟩
end Gn

end Go.Proofs.YtnflnicdjioflaaGreatDoor
