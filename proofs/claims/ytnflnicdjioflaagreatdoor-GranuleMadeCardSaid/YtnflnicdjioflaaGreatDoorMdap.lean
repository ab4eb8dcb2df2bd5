/- A part of the proof. -/
import Derived.Test.YtnflnicdjioflaaGreatDoorMdam
set_option linter.unusedVariables false
set_option linter.unusedSimpArgs false
set_option maxRecDepth 100000
set_option maxHeartbeats 8000000
namespace Go.Proofs.YtnflnicdjioflaaGreatDoor
open Go.RowKit Go.Proofs.YtnflnicdjioflaaGreatDoorW.PrintWords Go.Proofs.YtnflnicdjioflaaGreatDoorW.PrintLast Go.Proofs.YtnflnicdjioflaaGreatDoorW.PrintMore
namespace Q21
attribute [local go_sem] Qi Qj Qk Ql Qg Qh
open Q15
open Q16 (KL Xr)
def midB (n ch:Nat) (many:Nat):Bool:=if(ch:Int)=1 then decide (n=0) else decide ((n:Int)=many)
def okD (d:Dr) (m k:Nat):Bool:=decide ((rdL d.lis k).length =128)&&(Q16.rng (-2097152) 2097152 (rdL d.lis k)&&(decide ((rdL d.lim k).length =m)&&(Q16.rng 0 72057594037927936 (rdL d.lim k)&&Y6 (rdL d.fil k))))
def headD (d:Dr):Bool:=decide (1<=d.lis.length/\d.lis.length<=2/\d.lim.length=d.lis.length/\d.fil.length=d.lis.length)
def validD (d:Dr):Bool:=headD d&&(Zd d.sh d.gr&&(midB d.mid.length d.lis.length (Qm d.sh d.gr).length &&(List.range d.lis.length).all (okD d (Qm d.sh d.gr).length)))
def Jb (d:Dr) (w:World) (e:Ending) (w':World):Prop:=(∃A p,e= .returned (.tuple #[.slice A (if validD d then Qm d.sh d.gr else[]).length p,.bool (validD d)])/\(Kd.int .i64).C w' A (if validD d then Qm d.sh d.gr else[]).length (if validD d then Qm d.sh d.gr else[]))/\Below w.heap.size w w'
theorem Vs {d:Dr} (h:Kh d=true):d.gr.length<=200/\d.mid.length<=200/\d.fil.length<=4/\d.lis.length<=4/\d.lim.length<=4/\(∀k,(rdL d.fil k).length <=400)/\(∀k,(rdL d.lis k).length <=400)/\(∀k,(rdL d.lim k).length <=400):=by
 unfold Kh at h;simp only[Bool.and_eq_true,decide_eq_true_eq] at h;have h2:=List.all_eq_true.1 h.2
 have h3: ∀(xs:List (List Int)),(∀x∈xs,x∈d.fil++d.lis++d.lim)-> ∀k,(rdL xs k).length <=400:=fun xs hx k=>by
  by_cases hk:k<xs.length
  ·have:=h2 (rdL xs k) (hx _ (by simp[rdL,hk]))
   exact of_decide_eq_true this
  ·simp[rdL,hk]
 exact⟨h.1.1.1.1.1,h.1.1.1.1.2,h.1.1.1.2,h.1.1.2,h.1.2,h3 _ (fun x hx=>by simp[hx]),h3 _ (fun x hx=>by simp[hx]),h3 _ (fun x hx=>by simp[hx])⟩
theorem Jb.no {d:Dr} {w:World} {e:Ending} {w':World} (h:validD d=false) (he:e= .returned (.tuple #[.slice none 0 0,.bool false])) (hb:Below w.heap.size w w'):Jb d w e w':=by
 refine⟨⟨none,0,?_,?_⟩,hb⟩
 ·rw[h]
  exact he
 ·rw[h]
  exact Kd.V4 _ _
theorem Jb.yes {d:Dr} {w:World} {e:Ending} {w':World} {A:Option Addr} {n p:Nat} (h:validD d=true) (he:e= .returned (.tuple #[.slice A n p,.bool true])) (hn:n=(Qm d.sh d.gr).length) (hC:(Kd.int .i64).C w' A n (Qm d.sh d.gr)) (hb:Below w.heap.size w w'):Jb d w e w':=by
 refine⟨⟨A,p,?_,?_⟩,hb⟩
 ·rw[h,if_pos rfl,he,hn]
 ·rw[h,if_pos rfl,<-hn]
  exact hC
theorem Rt {d:Dr} (h:headD d=false):decide ((d.lis.length:Int)<1)=true\/decide ((d.lis.length:Int)<1)=false/\(decide (2<(d.lis.length:Int))=true\/decide (2<(d.lis.length:Int))=false/\((((d.lim.length:Int) != (d.lis.length:Int))=true)\/(((d.lim.length:Int) != (d.lis.length:Int))=false)/\(((d.fil.length:Int) != (d.lis.length:Int))=true))):=by
 unfold headD at h;rw[decide_eq_false_iff_not] at h;simp only[decide_eq_true_eq,decide_eq_false_iff_not,bne_iff_ne,bne_eq_false_iff_eq,ne_eq];omega
theorem Fb {d:Dr} (h:headD d=true):decide ((d.lis.length:Int)<1)=false/\decide (2<(d.lis.length:Int))=false/\((d.lim.length:Int) != (d.lis.length:Int))=false/\((d.fil.length:Int) != (d.lis.length:Int))=false:=by
 unfold headD at h;rw[decide_eq_true_eq] at h;simp only[decide_eq_false_iff_not,bne_eq_false_iff_eq];omega
theorem dw_head (d:Dr) (v:DrV) (w:World) (h:headD d=false):
  Calls Tryz.prog 25 #[.agg (Q7 d v)] w (Jb d w):=by
 have hu26:=Tryz.underlying26;have HF:Qa (validD d=false):=⟨by unfold validD;rw[h,Bool.false_and]⟩;have hw:=Rt h;clear h;unfold Q7;rcases hw with h1|⟨h1,h2|⟨h2,h3|⟨h3,h4⟩⟩⟩
 all_goals
  go_enter Tryz.func25,Tryz.ntmps25;go_wp2_with fail;go_ret2;exact Jb.no HF.out rfl ((Below.refl _ _).alloc (Nat.le_refl _) _)
theorem dw_div (d:Dr) (v:DrV) (w:World) (hL:Laid w) (hd:Kr w d v) (h:headD d=true) (hv:Zd d.sh d.gr=false):
  Calls Tryz.prog 25 #[.agg (Q7 d v)] w (Jb d w):=by
 have hu26:=Tryz.underlying26;have HF:Qa (validD d=false):=⟨by unfold validD;rw[hv,Bool.false_and,Bool.and_false]⟩;obtain⟨h1,h2,h3,h4⟩:=Fb h;have HC:=Qa.mk (fun(W:World) (hb:Below w.heap.size w W)=>X0 d.sh v.Ag v.cg d.gr W (hL.below hb) (hd.below hb).gr);have hE:Vr d.sh d.gr=1:=(by unfold Vr;rw[hv];rfl);rw[hE] at HC;clear h hv hd hL hE;unfold Q7;go_enter Tryz.func25,Tryz.ntmps25;go_wp2_with fail;have hb:Below w.heap.size w (w.alloc (.cells #[.bool d.sh,.slice v.Ag d.gr.length v.cg,.slice v.Am d.mid.length v.cm,.slice v.Af d.fil.length v.cf,.slice v.Al d.lis.length v.cl,.slice v.Ai d.lim.length v.ci] 26)):=(Below.refl _ _).alloc (Nat.le_refl _) _;refine(HC.out _ hb).mono ?_;rintro e w1 ⟨A,p,rfl,-,hbn⟩;replace hb:=bnx hb hbn;clear hbn;go_wp2_with fail;go_ret2;exact Jb.no HF.out rfl hb
theorem dw_yes (d:Dr) (v:DrV) (w:World) (hL:Laid w) (hd:Kr w d v) (hf:Kh d=true) (h:headD d=true) (hv:Zd d.sh d.gr=true):
  Calls Tryz.prog 25 #[.agg (Q7 d v)] w (Jb d w):=by
 have hu26:=Tryz.underlying26;obtain⟨h1,h2,h3,h4⟩:=Fb h;obtain⟨f1,f2,f3,f4,f5,f6,f7,f8⟩:=Vs hf;have hlI:(d.lis.length:Int)<=4:=by omega
 have hll:d.lim.length=d.lis.length/\d.fil.length=d.lis.length:=by
  unfold headD at h;rw[decide_eq_true_eq] at h;exact⟨h.2.2.1,h.2.2.2⟩
 have HV:Qa (validD d=(midB d.mid.length d.lis.length (Qm d.sh d.gr).length &&(List.range d.lis.length).all (okD d (Qm d.sh d.gr).length))):=⟨by unfold validD;rw[h,hv,Bool.true_and,Bool.true_and]⟩;have HC:=Qa.mk (fun(W:World) (hb:Below w.heap.size w W)=>X0 d.sh v.Ag v.cg d.gr W (hL.below hb) (hd.below hb).gr);have hE:Vr d.sh d.gr=0:=(by unfold Vr;rw[hv];rfl);have hW:K5 d.sh d.gr=Qm d.sh d.gr:=(by unfold K5;rw[hv];rfl);rw[hE,hW] at HC;obtain⟨L,hL2⟩: ∃L,L=Qm d.sh d.gr:=⟨_,rfl⟩;rw[<-hL2] at HC HV;have hYes:=Qa.mk (fun{e:Ending} {w':World} {A:Option Addr} {p:Nat} (h:validD d=true) (he:e= .returned (.tuple #[.slice A L.length p,.bool true])) (hC:(Kd.int .i64).C w' A L.length L) (hb:Below w.heap.size w w')=>Jb.yes (n:=L.length) h he (by rw[hL2]) (by rw[<-hL2];exact hC) hb);have HM:=Qa.mk (fun(W:World)=>K8 v.Am v.cm d.mid.length (d.lis.length:Int) (L.length:Int) W);have HD:=Qa.mk hd;have f6':=Qa.mk f6;have f7':=Qa.mk f7;have f8':=Qa.mk f8;have hll':=Qa.mk hll;clear h hv hd hL hE hW hf hL2 f1 f2 f3 f4 f5 f6 f7 f8 hll;unfold Q7
 cases hm:midB d.mid.length d.lis.length L.length with
 |false=>
  have hmv:=HV.out;rw[hm,Bool.false_and] at hmv;replace HV:=Qa.mk hmv;unfold midB at hm;rw[hm] at HM;clear hm hmv;go_enter Tryz.func25,Tryz.ntmps25;go_wp2_with fail;have hb:Below w.heap.size w (w.alloc (.cells #[.bool d.sh,.slice v.Ag d.gr.length v.cg,.slice v.Am d.mid.length v.cm,.slice v.Af d.fil.length v.cf,.slice v.Al d.lis.length v.cl,.slice v.Ai d.lim.length v.ci] 26)):=(Below.refl _ _).alloc (Nat.le_refl _) _;obtain⟨W,hW⟩: ∃W,W=w.alloc (.cells #[.bool d.sh,.slice v.Ag d.gr.length v.cg,.slice v.Am d.mid.length v.cm,.slice v.Af d.fil.length v.cf,.slice v.Al d.lis.length v.cl,.slice v.Ai d.lim.length v.ci] 26):=⟨_,rfl⟩;have k2:W.cell? ⟨w.heap.size,2,none⟩=some (.slice v.Am d.mid.length v.cm):=(by rw[hW];go_simp);rw[<-hW] at hb ⊢;clear hW;refine(HC.out _ hb).mono ?_;rintro e w1 ⟨A,p,rfl,-,hbn⟩;replace hb:=bnx hb hbn;replace k2:=cnx k2 hbn;clear hbn;go_wp2_with (first|(go_at_call 51;refine(HM.out _).mono ?_;rintro e w' ⟨rfl,hbn⟩;replace hb:=bnx hb hbn;clear hbn));go_ret2;exact Jb.no HV.out rfl hb
 |true=>
  have hmv:=HV.out;rw[hm,Bool.true_and] at hmv;replace HV:=Qa.mk hmv;unfold midB at hm;rw[hm] at HM;have HNo:Qa (∀k,k<d.lis.length->okD d L.length k=false->validD d=false):=⟨fun k hk h=>by rw[HV.out];exact List.all_eq_false.2 ⟨k,List.mem_range.2 hk,by rw[h];decide⟩⟩;have HYv:Qa ((∀k,k<d.lis.length->okD d L.length k=true)->validD d=true):=⟨fun h=>by rw[HV.out];exact List.all_eq_true.2 fun k hk=>h k (List.mem_range.1 hk)⟩;clear hm hmv HV;obtain⟨Ag,cg,Am,cm,Af,cf,Al,cl,Ai,ci⟩:=v;have gl:=HD.out.lis;have gi:=HD.out.lim;have gf:=HD.out.fil;dsimp only at gl gi gf HC HM ⊢;replace gl:=Qa.mk gl;replace gi:=Qa.mk gi;replace gf:=Qa.mk gf;clear HD;go_enter Tryz.func25,Tryz.ntmps25;go_wp2_with fail;have hb:Below w.heap.size w (w.alloc (.cells #[.bool d.sh,.slice Ag d.gr.length cg,.slice Am d.mid.length cm,.slice Af d.fil.length cf,.slice Al d.lis.length cl,.slice Ai d.lim.length ci] 26)):=(Below.refl _ _).alloc (Nat.le_refl _) _;obtain⟨W,hW⟩: ∃W,W=w.alloc (.cells #[.bool d.sh,.slice Ag d.gr.length cg,.slice Am d.mid.length cm,.slice Af d.fil.length cf,.slice Al d.lis.length cl,.slice Ai d.lim.length ci] 26):=⟨_,rfl⟩;have k2:W.cell? ⟨w.heap.size,2,none⟩=some (.slice Am d.mid.length cm):=(by rw[hW];go_simp);have k3:W.cell? ⟨w.heap.size,3,none⟩=some (.slice Af d.fil.length cf):=(by rw[hW];go_simp);have k4:W.cell? ⟨w.heap.size,4,none⟩=some (.slice Al d.lis.length cl):=(by rw[hW];go_simp);have k5:W.cell? ⟨w.heap.size,5,none⟩=some (.slice Ai d.lim.length ci):=(by rw[hW];go_simp);rw[<-hW] at hb ⊢;clear hW;refine(HC.out _ hb).mono ?_;rintro e w1 ⟨A,p,rfl,hCw,hbn⟩;replace hb:=bnx hb hbn;replace k2:=cnx k2 hbn;replace k3:=cnx k3 hbn;replace k4:=cnx k4 hbn;replace k5:=cnx k5 hbn;clear hbn;go_wp2_with fail;refine(HM.out _).mono ?_;rintro e w2 ⟨rfl,hbn⟩;replace hb:=bnx hb hbn;replace k2:=cnx k2 hbn;replace k3:=cnx k3 hbn;replace k4:=cnx k4 hbn;replace k5:=cnx k5 hbn;replace hCw:=Qa.mk (Kd.Qe hCw hbn);clear hbn;go_wp2_with fail;have K:=Qa.mk (And.intro k3 (And.intro k4 k5));replace hb:=Qa.mk hb;clear k2 k3 k4 k5;go_loopw [54] (fun i wr=> ∃k:Nat,i= .int .i64 k/\k<=d.lis.length/\Qa (∀j,j<k->okD d L.length j=true)/\Qa (Below w2.heap.size w2 wr)) (fun i _=>d.lis.length-(intOf i).toNat)
  case atStart=>exact⟨0,rfl,by omega,⟨fun j hj=>by omega⟩,⟨Below.refl _ _⟩⟩
  case round=>
   obtain⟨k,rfl,hk,ha,hbL⟩:=hrel;by_cases hlt:k<d.lis.length
   ·have hbw:=hb.out.trans (hbL.out.mono hb.out.size)
    obtain⟨ad1,B1,c1,rfl,m4,-,C1⟩:=Uh gl.out hbw hlt;obtain⟨ad2,B2,c2,rfl,m5,-,C2⟩:=Uh gi.out hbw (k:=k) (by rw[hll'.out.1];exact hlt);obtain⟨ad3,B3,c3,rfl,m3,-,C3⟩:=Uh gf.out hbw (k:=k) (by rw[hll'.out.2];exact hlt);obtain⟨k3,k4,k5⟩:=K.out;replace k3:=cnx k3 hbL.out;replace k4:=cnx k4 hbL.out;replace k5:=cnx k5 hbL.out;have hkI:(k:Int)<(d.lis.length:Int):=(by omega);have hkI2:(k:Int)<(d.lim.length:Int):=(by have:=hll'.out;omega);have hkI3:(k:Int)<(d.fil.length:Int):=(by have:=hll'.out;omega);have HC1:=fun(W:World) (hz:Below wr.heap.size wr W)=>X4 B1 c1 (rdL d.lis k) (-2097152) 2097152 W (Kd.Qe C1 hz) (by have:=f7'.out k;omega)
    have HC2:=fun(W:World) (hz:Below wr.heap.size wr W)=>X4 B2 c2 (rdL d.lim k) 0 72057594037927936 W (Kd.Qe C2 hz) (by have:=f8'.out k;omega)
    have HC3:=fun(W:World) (hz:Below wr.heap.size wr W)=>J5 B3 c3 (rdL d.fil k) W (Kd.Qe C3 hz) (by have:=f6'.out k;omega)
    have hok:okD d L.length k=(decide ((rdL d.lis k).length =128)&&(Q16.rng (-2097152) 2097152 (rdL d.lis k)&&(decide ((rdL d.lim k).length =L.length)&&(Q16.rng 0 72057594037927936 (rdL d.lim k)&&Y6 (rdL d.fil k))))):=rfl;obtain⟨x,hx⟩: ∃x,x=rdL d.lis k:=⟨_,rfl⟩;obtain⟨y,hy⟩: ∃y,y=rdL d.lim k:=⟨_,rfl⟩;obtain⟨z,hzz⟩: ∃z,z=rdL d.fil k:=⟨_,rfl⟩;rw[<-hx] at m4 HC1 hok;rw[<-hy] at m5 HC2 hok;rw[<-hzz] at m3 HC3 hok;obtain⟨q2,hq2⟩: ∃q2,q2=Q16.rng (-2097152) 2097152 x:=⟨_,rfl⟩;obtain⟨q4,hq4⟩: ∃q4,q4=Q16.rng 0 72057594037927936 y:=⟨_,rfl⟩;obtain⟨q5,hq5⟩: ∃q5,q5=Y6 z:=⟨_,rfl⟩;rw[<-hq2] at HC1 hok;rw[<-hq4] at HC2 hok;rw[<-hq5] at HC3 hok;replace HC1:=Qa.mk HC1;replace HC2:=Qa.mk HC2;replace HC3:=Qa.mk HC3;have hltk:=Qa.mk hlt;have hz:=Below.refl wr.heap.size wr;clear hx hy hzz hq2 hq4 hq5 C1 C2 C3 hbw hlt;by_cases hl1:x.length=128
    ·have t1:((x.length:Int) != 128)=false:=by rw[bne_eq_false_iff_eq];omega
     rw[decide_eq_true hl1,Bool.true_and] at hok;clear hl1
     cases q2 with
     |false=>
      have hno:Qa (okD d L.length k=false):=⟨by rw[hok,Bool.false_and]⟩;clear hok;go_wp2_with (first|(go_at_call 26;refine(HC1.out _ hz).mono ?_;rintro e w' ⟨rfl,hbn⟩;replace hz:=bnx hz hbn;replace k3:=cnx k3 hbn;replace k4:=cnx k4 hbn;replace k5:=cnx k5 hbn;replace m3:=cnx m3 hbn;replace m5:=cnx m5 hbn;clear hbn)|(go_at_call 26;refine(HC2.out _ hz).mono ?_;rintro e w' ⟨rfl,hbn⟩;replace hz:=bnx hz hbn;replace k3:=cnx k3 hbn;replace k4:=cnx k4 hbn;replace k5:=cnx k5 hbn;replace m3:=cnx m3 hbn;replace m5:=cnx m5 hbn;clear hbn)|(go_at_call 52;refine(HC3.out _ hz).mono ?_;rintro e w' ⟨rfl,hbn⟩;replace hz:=bnx hz hbn;replace k3:=cnx k3 hbn;replace k4:=cnx k4 hbn;replace k5:=cnx k5 hbn;replace m3:=cnx m3 hbn;replace m5:=cnx m5 hbn;clear hbn));go_ret2;exact Jb.no (HNo.out _ hltk.out hno.out) rfl (hb.out.trans ((hbL.out.trans (hz.mono hbL.out.size)).mono hb.out.size))
     |true=>
      rw[Bool.true_and] at hok;by_cases hl2:y.length=L.length
      ·have t2:((y.length:Int) != (L.length:Int))=false:=by rw[bne_eq_false_iff_eq];omega
       rw[decide_eq_true hl2,Bool.true_and] at hok;clear hl2
       cases q4 with
       |false=>
        have hno:Qa (okD d L.length k=false):=⟨by rw[hok,Bool.false_and]⟩;clear hok;go_wp2_with (first|(go_at_call 26;refine(HC1.out _ hz).mono ?_;rintro e w' ⟨rfl,hbn⟩;replace hz:=bnx hz hbn;replace k3:=cnx k3 hbn;replace k4:=cnx k4 hbn;replace k5:=cnx k5 hbn;replace m3:=cnx m3 hbn;replace m5:=cnx m5 hbn;clear hbn)|(go_at_call 26;refine(HC2.out _ hz).mono ?_;rintro e w' ⟨rfl,hbn⟩;replace hz:=bnx hz hbn;replace k3:=cnx k3 hbn;replace k4:=cnx k4 hbn;replace k5:=cnx k5 hbn;replace m3:=cnx m3 hbn;replace m5:=cnx m5 hbn;clear hbn)|(go_at_call 52;refine(HC3.out _ hz).mono ?_;rintro e w' ⟨rfl,hbn⟩;replace hz:=bnx hz hbn;replace k3:=cnx k3 hbn;replace k4:=cnx k4 hbn;replace k5:=cnx k5 hbn;replace m3:=cnx m3 hbn;replace m5:=cnx m5 hbn;clear hbn));go_ret2;exact Jb.no (HNo.out _ hltk.out hno.out) rfl (hb.out.trans ((hbL.out.trans (hz.mono hbL.out.size)).mono hb.out.size))
       |true=>
        rw[Bool.true_and] at hok
        cases q5 with
        |false=>
         have hno:Qa (okD d L.length k=false):=⟨hok⟩;clear hok;go_wp2_with (first|(go_at_call 26;refine(HC1.out _ hz).mono ?_;rintro e w' ⟨rfl,hbn⟩;replace hz:=bnx hz hbn;replace k3:=cnx k3 hbn;replace k4:=cnx k4 hbn;replace k5:=cnx k5 hbn;replace m3:=cnx m3 hbn;replace m5:=cnx m5 hbn;clear hbn)|(go_at_call 26;refine(HC2.out _ hz).mono ?_;rintro e w' ⟨rfl,hbn⟩;replace hz:=bnx hz hbn;replace k3:=cnx k3 hbn;replace k4:=cnx k4 hbn;replace k5:=cnx k5 hbn;replace m3:=cnx m3 hbn;replace m5:=cnx m5 hbn;clear hbn)|(go_at_call 52;refine(HC3.out _ hz).mono ?_;rintro e w' ⟨rfl,hbn⟩;replace hz:=bnx hz hbn;replace k3:=cnx k3 hbn;replace k4:=cnx k4 hbn;replace k5:=cnx k5 hbn;replace m3:=cnx m3 hbn;replace m5:=cnx m5 hbn;clear hbn));go_ret2;exact Jb.no (HNo.out _ hltk.out hno.out) rfl (hb.out.trans ((hbL.out.trans (hz.mono hbL.out.size)).mono hb.out.size))
        |true=>
         replace hok:=Qa.mk hok;go_wp2_with (first|(go_at_call 26;refine(HC1.out _ hz).mono ?_;rintro e w' ⟨rfl,hbn⟩;replace hz:=bnx hz hbn;replace k3:=cnx k3 hbn;replace k4:=cnx k4 hbn;replace k5:=cnx k5 hbn;replace m3:=cnx m3 hbn;replace m5:=cnx m5 hbn;clear hbn)|(go_at_call 26;refine(HC2.out _ hz).mono ?_;rintro e w' ⟨rfl,hbn⟩;replace hz:=bnx hz hbn;replace k3:=cnx k3 hbn;replace k4:=cnx k4 hbn;replace k5:=cnx k5 hbn;replace m3:=cnx m3 hbn;replace m5:=cnx m5 hbn;clear hbn)|(go_at_call 52;refine(HC3.out _ hz).mono ?_;rintro e w' ⟨rfl,hbn⟩;replace hz:=bnx hz hbn;replace k3:=cnx k3 hbn;replace k4:=cnx k4 hbn;replace k5:=cnx k5 hbn;replace m3:=cnx m3 hbn;replace m5:=cnx m5 hbn;clear hbn));go_roundw
         case rel=>exact⟨k+1,by go_num,hltk.out,⟨fun j hj=>by
          by_cases h:j=k
          ·rw[h];exact hok.out
          ·exact ha.out j (by omega)⟩,⟨hbL.out.trans (hz.mono hbL.out.size)⟩⟩
         case measure=>have:=hltk.out;simp[intOf];omega
      ·have t2:((y.length:Int) != (L.length:Int))=true:=by rw[bne_iff_ne];omega
       have hno:Qa (okD d L.length k=false):=⟨by rw[hok,decide_eq_false hl2,Bool.false_and]⟩;clear hok hl2;go_wp2_with (first|(go_at_call 26;refine(HC1.out _ hz).mono ?_;rintro e w' ⟨rfl,hbn⟩;replace hz:=bnx hz hbn;replace k3:=cnx k3 hbn;replace k4:=cnx k4 hbn;replace k5:=cnx k5 hbn;replace m3:=cnx m3 hbn;replace m5:=cnx m5 hbn;clear hbn)|(go_at_call 26;refine(HC2.out _ hz).mono ?_;rintro e w' ⟨rfl,hbn⟩;replace hz:=bnx hz hbn;replace k3:=cnx k3 hbn;replace k4:=cnx k4 hbn;replace k5:=cnx k5 hbn;replace m3:=cnx m3 hbn;replace m5:=cnx m5 hbn;clear hbn)|(go_at_call 52;refine(HC3.out _ hz).mono ?_;rintro e w' ⟨rfl,hbn⟩;replace hz:=bnx hz hbn;replace k3:=cnx k3 hbn;replace k4:=cnx k4 hbn;replace k5:=cnx k5 hbn;replace m3:=cnx m3 hbn;replace m5:=cnx m5 hbn;clear hbn));go_ret2;exact Jb.no (HNo.out _ hltk.out hno.out) rfl (hb.out.trans ((hbL.out.trans (hz.mono hbL.out.size)).mono hb.out.size))
    ·have t1:((x.length:Int) != 128)=true:=by rw[bne_iff_ne];omega
     have hno:Qa (okD d L.length k=false):=⟨by rw[hok,decide_eq_false hl1,Bool.false_and]⟩;clear hok hl1;go_wp2_with (first|(go_at_call 26;refine(HC1.out _ hz).mono ?_;rintro e w' ⟨rfl,hbn⟩;replace hz:=bnx hz hbn;replace k3:=cnx k3 hbn;replace k4:=cnx k4 hbn;replace k5:=cnx k5 hbn;replace m3:=cnx m3 hbn;replace m5:=cnx m5 hbn;clear hbn)|(go_at_call 26;refine(HC2.out _ hz).mono ?_;rintro e w' ⟨rfl,hbn⟩;replace hz:=bnx hz hbn;replace k3:=cnx k3 hbn;replace k4:=cnx k4 hbn;replace k5:=cnx k5 hbn;replace m3:=cnx m3 hbn;replace m5:=cnx m5 hbn;clear hbn)|(go_at_call 52;refine(HC3.out _ hz).mono ?_;rintro e w' ⟨rfl,hbn⟩;replace hz:=bnx hz hbn;replace k3:=cnx k3 hbn;replace k4:=cnx k4 hbn;replace k5:=cnx k5 hbn;replace m3:=cnx m3 hbn;replace m5:=cnx m5 hbn;clear hbn));go_ret2;exact Jb.no (HNo.out _ hltk.out hno.out) rfl (hb.out.trans ((hbL.out.trans (hz.mono hbL.out.size)).mono hb.out.size))
   ·obtain rfl:k=d.lis.length:=by omega
    have hv:=Qa.mk (HYv.out ha.out);have hCw2:=Qa.mk (Kd.Qe hCw.out hbL.out);clear ha HNo HYv;go_wp2_with fail;go_ret2;exact hYes.out hv.out rfl hCw2.out (hb.out.trans (hbL.out.mono hb.out.size))
theorem Jf (d:Dr) (v:DrV) (w:World) (hL:Laid w) (hd:Kr w d v) (hf:Kh d=true):
  Calls Tryz.prog 25 #[.agg (Q7 d v)] w (Jb d w):=by
 cases h:headD d with
 |false=>exact dw_head d v w h
 |true=>
  cases hv:Zd d.sh d.gr with
  |false=>exact dw_div d v w hL hd h hv
  |true=>exact dw_yes d v w hL hd hf h hv
end Q21

namespace Q21
attribute [local go_sem] Qi Qj Qk Ql Qg Qh
open Q15
open Q16 (KL Xr)
theorem Eu (d:Dr) (v:DrV) (w:World) (hL:Laid w) (hd:Kr w d v) (hf:Kh d=true):
  Calls Tryz.prog 24 #[.agg (Q7 d v)] w fun e w'=>e= .returned (.bool (validD d))/\Below w.heap.size w w':=by
 have hu26:=Tryz.underlying26;have HC:=Qa.mk (fun(W:World) (hb:Below w.heap.size w W)=>Jf d v W (hL.below hb) (hd.below hb) hf);clear hL hd hf;obtain⟨b,hbe⟩: ∃b,b=validD d:=⟨_,rfl⟩;rw[<-hbe];replace hbe:=Qa.mk hbe;unfold Q7 at HC ⊢;go_enter Tryz.func24,Tryz.ntmps24;go_wp2_with fail;have hb:Below w.heap.size w (w.alloc (.cells #[.bool d.sh,.slice v.Ag d.gr.length v.cg,.slice v.Am d.mid.length v.cm,.slice v.Af d.fil.length v.cf,.slice v.Al d.lis.length v.cl,.slice v.Ai d.lim.length v.ci] 26)):=(Below.refl _ _).alloc (Nat.le_refl _) _;refine(HC.out _ hb).mono ?_;rintro e w1 ⟨⟨A,p,rfl,-⟩,hbn⟩;replace hb:=bnx hb hbn;rw[<-hbe.out]
 generalize (if b=true then Qm d.sh d.gr else[]).length =n
 clear hbn;go_wp2_with fail;go_ret;exact⟨rfl,hb⟩
theorem okD_swap (d:Dr) (m k:Nat):okD d m k=(decide ((rdL d.lis k).length =128)&&(Q16.rng (-2097152) 2097152 (rdL d.lis k)&&(decide ((rdL d.lim k).length =m)&&(Y6 (rdL d.fil k)&&Q16.rng 0 72057594037927936 (rdL d.lim k))))):=by
 unfold okD;rw[Bool.and_comm (Q16.rng 0 72057594037927936 (rdL d.lim k))]
theorem rv_div (d:Dr) (v:DrV) (w:World) (hd:Kr w d v) (hv:Zd d.sh d.gr=false):
  Calls Tryz.prog 20 #[.agg (Q7 d v)] w fun e w'=>e= .returned (.bool (validD d))/\Below w.heap.size w w':=by
 have hu26:=Tryz.underlying26;have HF:Qa (validD d=false):=⟨by unfold validD;rw[hv,Bool.false_and,Bool.and_false]⟩;have HC:=Qa.mk (fun(W:World) (hb:Below w.heap.size w W)=>Ya d.sh v.Ag v.cg d.gr W (hd.below hb).gr);have hE:Vr d.sh d.gr=1:=(by unfold Vr;rw[hv];rfl);rw[hE] at HC
 have hw:decide ((d.lis.length:Int)<1)=true\/decide ((d.lis.length:Int)<1)=false/\(decide (2<(d.lis.length:Int))=true\/decide (2<(d.lis.length:Int))=false):=by
  simp only[decide_eq_true_eq,decide_eq_false_iff_not];omega
 clear hv hd hE;obtain⟨Ag,cg,Am,cm,Af,cf,Al,cl,Ai,ci⟩:=v;unfold Q7;dsimp only at HC ⊢;rcases hw with h1|⟨h1,h2|h2⟩
 all_goals
  go_enter Tryz.func20,Tryz.ntmps20;go_wp2_with fail;have hb:Below w.heap.size w (w.alloc (.cells #[.bool d.sh,.slice Ag d.gr.length cg,.slice Am d.mid.length cm,.slice Af d.fil.length cf,.slice Al d.lis.length cl,.slice Ai d.lim.length ci] 26)):=(Below.refl _ _).alloc (Nat.le_refl _) _;refine(HC.out _ hb).mono ?_;rintro e w1 ⟨A,p,rfl,-,hbn⟩;replace hb:=bnx hb hbn;clear hbn;go_wp2_with fail;go_ret;exact⟨by rw[HF.out];rfl,hb⟩
theorem rv_head (d:Dr) (v:DrV) (w:World) (hd:Kr w d v) (h:headD d=false) (hv:Zd d.sh d.gr=true):
  Calls Tryz.prog 20 #[.agg (Q7 d v)] w fun e w'=>e= .returned (.bool (validD d))/\Below w.heap.size w w':=by
 have hu26:=Tryz.underlying26;have HF:Qa (validD d=false):=⟨by unfold validD;rw[h,Bool.false_and]⟩;have HC:=Qa.mk (fun(W:World) (hb:Below w.heap.size w W)=>Ya d.sh v.Ag v.cg d.gr W (hd.below hb).gr);have hE:Vr d.sh d.gr=0:=(by unfold Vr;rw[hv];rfl);rw[hE] at HC;have hw:=Rt h;clear hv hd hE h;obtain⟨Ag,cg,Am,cm,Af,cf,Al,cl,Ai,ci⟩:=v;unfold Q7;dsimp only at HC ⊢;rcases hw with h1|⟨h1,h2|⟨h2,h3|⟨h3,h4⟩⟩⟩
 all_goals
  go_enter Tryz.func20,Tryz.ntmps20;go_wp2_with fail;have hb:Below w.heap.size w (w.alloc (.cells #[.bool d.sh,.slice Ag d.gr.length cg,.slice Am d.mid.length cm,.slice Af d.fil.length cf,.slice Al d.lis.length cl,.slice Ai d.lim.length ci] 26)):=(Below.refl _ _).alloc (Nat.le_refl _) _;obtain⟨W,hW⟩: ∃W,W=(w.alloc (.cells #[.bool d.sh,.slice Ag d.gr.length cg,.slice Am d.mid.length cm,.slice Af d.fil.length cf,.slice Al d.lis.length cl,.slice Ai d.lim.length ci] 26)):=⟨_,rfl⟩;have k3:W.cell? ⟨w.heap.size,3,none⟩=some (.slice Af d.fil.length cf):=(by rw[hW];go_simp);have k5:W.cell? ⟨w.heap.size,5,none⟩=some (.slice Ai d.lim.length ci):=(by rw[hW];go_simp);rw[<-hW] at hb ⊢;clear hW;refine(HC.out _ hb).mono ?_;rintro e w1 ⟨A,p,rfl,-,hbn⟩;replace hb:=bnx hb hbn;replace k3:=cnx k3 hbn;replace k5:=cnx k5 hbn;clear hbn;go_wp2_with fail;go_ret;exact⟨by rw[HF.out];rfl,hb⟩
theorem rv_yes (d:Dr) (v:DrV) (w:World) (hd:Kr w d v) (hf:Kh d=true) (h:headD d=true) (hv:Zd d.sh d.gr=true):
  Calls Tryz.prog 20 #[.agg (Q7 d v)] w fun e w'=>e= .returned (.bool (validD d))/\Below w.heap.size w w':=by
 have hu26:=Tryz.underlying26;obtain⟨h1,h2,h3,h4⟩:=Fb h;obtain⟨f1,f2,f3,f4,f5,f6,f7,f8⟩:=Vs hf;have hlI:(d.lis.length:Int)<=4:=by omega
 have hll:d.lim.length=d.lis.length/\d.fil.length=d.lis.length:=by
  unfold headD at h;rw[decide_eq_true_eq] at h;exact⟨h.2.2.1,h.2.2.2⟩
 have HV:Qa (validD d=(midB d.mid.length d.lis.length (Qm d.sh d.gr).length &&(List.range d.lis.length).all (okD d (Qm d.sh d.gr).length))):=⟨by unfold validD;rw[h,hv,Bool.true_and,Bool.true_and]⟩;have HC:=Qa.mk (fun(W:World) (hb:Below w.heap.size w W)=>Ya d.sh v.Ag v.cg d.gr W (hd.below hb).gr);have hE:Vr d.sh d.gr=0:=(by unfold Vr;rw[hv];rfl);have hW:K5 d.sh d.gr=Qm d.sh d.gr:=(by unfold K5;rw[hv];rfl);rw[hE,hW] at HC;obtain⟨L,hL2⟩: ∃L,L=Qm d.sh d.gr:=⟨_,rfl⟩;rw[<-hL2] at HC HV;obtain⟨b,hbe⟩: ∃b,b=validD d:=⟨_,rfl⟩;rw[<-hbe] at HV ⊢;have HM:=Qa.mk (fun(W:World)=>Sv v.Am v.cm d.mid.length (d.lis.length:Int) (L.length:Int) W);have HD:=Qa.mk hd;have f6':=Qa.mk f6;have f7':=Qa.mk f7;have f8':=Qa.mk f8;have hll':=Qa.mk hll;clear h hv hd hE hW hf hL2 f1 f2 f3 f4 f5 f6 f7 f8 hll hbe;obtain⟨Ag,cg,Am,cm,Af,cf,Al,cl,Ai,ci⟩:=v;have gl:=HD.out.lis;have gi:=HD.out.lim;have gf:=HD.out.fil;unfold Q7;dsimp only at gl gi gf HC HM ⊢;replace gl:=Qa.mk gl;replace gi:=Qa.mk gi;replace gf:=Qa.mk gf;clear HD
 cases hm:midB d.mid.length d.lis.length L.length with
 |false=>
  have hmv:=HV.out;rw[hm,Bool.false_and] at hmv;replace HV:=Qa.mk hmv;unfold midB at hm;rw[hm] at HM;clear hm hmv;go_enter Tryz.func20,Tryz.ntmps20;go_wp2_with fail;have hb:Below w.heap.size w (w.alloc (.cells #[.bool d.sh,.slice Ag d.gr.length cg,.slice Am d.mid.length cm,.slice Af d.fil.length cf,.slice Al d.lis.length cl,.slice Ai d.lim.length ci] 26)):=(Below.refl _ _).alloc (Nat.le_refl _) _;obtain⟨W,hW⟩: ∃W,W=(w.alloc (.cells #[.bool d.sh,.slice Ag d.gr.length cg,.slice Am d.mid.length cm,.slice Af d.fil.length cf,.slice Al d.lis.length cl,.slice Ai d.lim.length ci] 26)):=⟨_,rfl⟩;have k2:W.cell? ⟨w.heap.size,2,none⟩=some (.slice Am d.mid.length cm):=(by rw[hW];go_simp);have k3:W.cell? ⟨w.heap.size,3,none⟩=some (.slice Af d.fil.length cf):=(by rw[hW];go_simp);have k5:W.cell? ⟨w.heap.size,5,none⟩=some (.slice Ai d.lim.length ci):=(by rw[hW];go_simp);rw[<-hW] at hb ⊢;clear hW;refine(HC.out _ hb).mono ?_;rintro e w1 ⟨A,p,rfl,-,hbn⟩;replace hb:=bnx hb hbn;replace k2:=cnx k2 hbn;replace k3:=cnx k3 hbn;replace k5:=cnx k5 hbn;clear hbn;go_wp2_with (first|(go_at_call 45;refine(HM.out _).mono ?_;rintro e w' ⟨rfl,hbn⟩;replace hb:=bnx hb hbn;clear hbn));go_ret;exact⟨by rw[HV.out];rfl,hb⟩
 |true=>
  have hmv:=HV.out;rw[hm,Bool.true_and] at hmv;replace HV:=Qa.mk hmv;unfold midB at hm;rw[hm] at HM;have HNo:Qa (∀k,k<d.lis.length->okD d L.length k=false->b=false):=⟨fun k hk h=>by rw[HV.out];exact List.all_eq_false.2 ⟨k,List.mem_range.2 hk,by rw[h];decide⟩⟩;have HYv:Qa ((∀k,k<d.lis.length->okD d L.length k=true)->b=true):=⟨fun h=>by rw[HV.out];exact List.all_eq_true.2 fun k hk=>h k (List.mem_range.1 hk)⟩;clear hm hmv HV;go_enter Tryz.func20,Tryz.ntmps20;go_wp2_with fail;have hb:Below w.heap.size w (w.alloc (.cells #[.bool d.sh,.slice Ag d.gr.length cg,.slice Am d.mid.length cm,.slice Af d.fil.length cf,.slice Al d.lis.length cl,.slice Ai d.lim.length ci] 26)):=(Below.refl _ _).alloc (Nat.le_refl _) _;obtain⟨W,hW⟩: ∃W,W=(w.alloc (.cells #[.bool d.sh,.slice Ag d.gr.length cg,.slice Am d.mid.length cm,.slice Af d.fil.length cf,.slice Al d.lis.length cl,.slice Ai d.lim.length ci] 26)):=⟨_,rfl⟩;have k2:W.cell? ⟨w.heap.size,2,none⟩=some (.slice Am d.mid.length cm):=(by rw[hW];go_simp);have k3:W.cell? ⟨w.heap.size,3,none⟩=some (.slice Af d.fil.length cf):=(by rw[hW];go_simp);have k4:W.cell? ⟨w.heap.size,4,none⟩=some (.slice Al d.lis.length cl):=(by rw[hW];go_simp);have k5:W.cell? ⟨w.heap.size,5,none⟩=some (.slice Ai d.lim.length ci):=(by rw[hW];go_simp);rw[<-hW] at hb ⊢;clear hW;refine(HC.out _ hb).mono ?_;rintro e w1 ⟨A,p,rfl,-,hbn⟩;replace hb:=bnx hb hbn;replace k2:=cnx k2 hbn;replace k3:=cnx k3 hbn;replace k4:=cnx k4 hbn;replace k5:=cnx k5 hbn;clear hbn;go_wp2_with fail;refine(HM.out _).mono ?_;rintro e w2 ⟨rfl,hbn⟩;replace hb:=bnx hb hbn;replace k2:=cnx k2 hbn;replace k3:=cnx k3 hbn;replace k4:=cnx k4 hbn;replace k5:=cnx k5 hbn;clear hbn;go_wp2_with fail;have K:=Qa.mk (And.intro k3 (And.intro k4 k5));replace hb:=Qa.mk hb;clear k2 k3 k4 k5;go_loopw [57] (fun i wr=> ∃k:Nat,i= .int .i64 k/\k<=d.lis.length/\Qa (∀j,j<k->okD d L.length j=true)/\Qa (Below w2.heap.size w2 wr)) (fun i _=>d.lis.length-(intOf i).toNat)
  case atStart=>exact⟨0,rfl,by omega,⟨fun j hj=>by omega⟩,⟨Below.refl _ _⟩⟩
  case round=>
   obtain⟨k,rfl,hk,ha,hbL⟩:=hrel;by_cases hlt:k<d.lis.length
   ·have hbw:=hb.out.trans (hbL.out.mono hb.out.size)
    obtain⟨ad1,B1,c1,rfl,m4,-,C1⟩:=Uh gl.out hbw hlt;obtain⟨ad2,B2,c2,rfl,m5,-,C2⟩:=Uh gi.out hbw (k:=k) (by rw[hll'.out.1];exact hlt);obtain⟨ad3,B3,c3,rfl,m3,-,C3⟩:=Uh gf.out hbw (k:=k) (by rw[hll'.out.2];exact hlt);obtain⟨k3,k4,k5⟩:=K.out;replace k3:=cnx k3 hbL.out;replace k4:=cnx k4 hbL.out;replace k5:=cnx k5 hbL.out;have hkI:(k:Int)<(d.lis.length:Int):=(by omega);have hkI2:(k:Int)<(d.lim.length:Int):=(by have:=hll'.out;omega);have hkI3:(k:Int)<(d.fil.length:Int):=(by have:=hll'.out;omega);have HC1:=fun(W:World) (hz:Below wr.heap.size wr W)=>Oj 2097152 (by decide) B1 c1 (rdL d.lis k) W (Kd.Qe C1 hz) (by have:=f7'.out k;omega)
    have HC3:=fun(W:World) (hz:Below wr.heap.size wr W)=>Tn B3 c3 (rdL d.fil k) W (Kd.Qe C3 hz) (by have:=f6'.out k;omega)
    have hok:=okD_swap d L.length k;have hyl:=f8'.out k;obtain⟨x,hx⟩: ∃x,x=rdL d.lis k:=⟨_,rfl⟩;obtain⟨y,hy⟩: ∃y,y=rdL d.lim k:=⟨_,rfl⟩;obtain⟨z,hzz⟩: ∃z,z=rdL d.fil k:=⟨_,rfl⟩;rw[<-hx] at m4 HC1 hok;rw[<-hy] at m5 C2 hok hyl;rw[<-hzz] at m3 HC3 hok;obtain⟨q2,hq2⟩: ∃q2,q2=Q16.rng (-2097152) 2097152 x:=⟨_,rfl⟩;obtain⟨q5,hq5⟩: ∃q5,q5=Y6 z:=⟨_,rfl⟩;rw[<-hq2] at hok;rw[<-hq5] at HC3 hok;rw[show Q16.rng (-2097152) 2097152 x=q2 from hq2.symm] at HC1;replace HC1:=Qa.mk HC1;replace C2:=Qa.mk C2;replace HC3:=Qa.mk HC3;have hltk:=Qa.mk hlt;have hz:=Below.refl wr.heap.size wr;clear hx hy hzz hq2 hq5 C1 C3 hbw hlt;by_cases hl1:x.length=128
    ·have t1:((x.length:Int) != 128)=false:=by rw[bne_eq_false_iff_eq];omega
     rw[decide_eq_true hl1,Bool.true_and] at hok;clear hl1
     cases q2 with
     |false=>
      have hno:Qa (okD d L.length k=false):=⟨by rw[hok,Bool.false_and]⟩;clear hok;go_wp2_with (first|(go_at_call 46;refine(HC1.out _ hz).mono ?_;rintro e w' ⟨rfl,hbn⟩;replace hz:=bnx hz hbn;replace k3:=cnx k3 hbn;replace k4:=cnx k4 hbn;replace k5:=cnx k5 hbn;replace m3:=cnx m3 hbn;replace m5:=cnx m5 hbn;clear hbn)|(go_at_call 47;refine(HC3.out _ hz).mono ?_;rintro e w' ⟨rfl,hbn⟩;replace hz:=bnx hz hbn;replace k3:=cnx k3 hbn;replace k4:=cnx k4 hbn;replace k5:=cnx k5 hbn;replace m3:=cnx m3 hbn;replace m5:=cnx m5 hbn;clear hbn));go_ret;exact⟨by rw[HNo.out _ hltk.out hno.out];rfl,hb.out.trans ((hbL.out.trans (hz.mono hbL.out.size)).mono hb.out.size)⟩
     |true=>
      rw[Bool.true_and] at hok;by_cases hl2:y.length=L.length
      ·have t2:((y.length:Int) != (L.length:Int))=false:=by rw[bne_eq_false_iff_eq];omega
       rw[decide_eq_true hl2,Bool.true_and] at hok;clear hl2
       cases q5 with
       |false=>
        have hno:Qa (okD d L.length k=false):=⟨by rw[hok,Bool.false_and]⟩;clear hok;go_wp2_with (first|(go_at_call 46;refine(HC1.out _ hz).mono ?_;rintro e w' ⟨rfl,hbn⟩;replace hz:=bnx hz hbn;replace k3:=cnx k3 hbn;replace k4:=cnx k4 hbn;replace k5:=cnx k5 hbn;replace m3:=cnx m3 hbn;replace m5:=cnx m5 hbn;clear hbn)|(go_at_call 47;refine(HC3.out _ hz).mono ?_;rintro e w' ⟨rfl,hbn⟩;replace hz:=bnx hz hbn;replace k3:=cnx k3 hbn;replace k4:=cnx k4 hbn;replace k5:=cnx k5 hbn;replace m3:=cnx m3 hbn;replace m5:=cnx m5 hbn;clear hbn));go_ret;exact⟨by rw[HNo.out _ hltk.out hno.out];rfl,hb.out.trans ((hbL.out.trans (hz.mono hbL.out.size)).mono hb.out.size)⟩
       |true=>
        rw[Bool.true_and] at hok;have hylI:(y.length:Int)<=400:=(by omega);have HF:Qa (∀j,j<y.length-> ¬(0<=rd y j/\rd y j<=72057594037927936)->okD d L.length k=false):=⟨fun j hj h=>by rw[hok];exact List.all_eq_false.2 ⟨_,Qt y j hj,by simpa using h⟩⟩;have HT:Qa ((∀x∈y,0<=x/\x<=72057594037927936)->okD d L.length k=true):=⟨fun h=>by rw[hok];exact List.all_eq_true.2 fun x hx=>decide_eq_true (h x hx)⟩;clear hok hyl;go_wp2_with (first|(go_at_call 46;refine(HC1.out _ hz).mono ?_;rintro e w' ⟨rfl,hbn⟩;replace hz:=bnx hz hbn;replace k3:=cnx k3 hbn;replace k4:=cnx k4 hbn;replace k5:=cnx k5 hbn;replace m3:=cnx m3 hbn;replace m5:=cnx m5 hbn;clear hbn)|(go_at_call 47;refine(HC3.out _ hz).mono ?_;rintro e w' ⟨rfl,hbn⟩;replace hz:=bnx hz hbn;replace k3:=cnx k3 hbn;replace k4:=cnx k4 hbn;replace k5:=cnx k5 hbn;replace m3:=cnx m3 hbn;replace m5:=cnx m5 hbn;clear hbn));obtain⟨w3,hw3⟩: ∃w3,w3=w':=⟨_,rfl⟩;rw[<-hw3] at m3 m5 k3 k4 k5 hz ⊢;clear hw3;have KK:=Qa.mk (And.intro k3 (And.intro k4 k5));have hz3:=Qa.mk hz;clear m3 m5 k3 k4 k5 hz;obtain⟨wo,hwo⟩: ∃wo,wo=wr:=⟨_,rfl⟩;subst hwo;go_loopw [96] (fun i wr=> ∃j:Nat,i= .int .i64 j/\j<=y.length/\Qa (∀x∈y.take j,0<=x/\x<=72057594037927936)/\Qa (Below w3.heap.size w3 wr)) (fun i _=>y.length-(intOf i).toNat)
        case atStart=>exact⟨0,rfl,by omega,⟨by simp⟩,⟨Below.refl _ _⟩⟩
        case round=>
         obtain⟨j,rfl,hj,hja,hbJ⟩:=hrel;have hz:=hz3.out.trans (hbJ.out.mono hz3.out.size);by_cases hlj:j<y.length
         ·obtain⟨ad,rfl,hcell⟩:=Qq C2.out hz hlj
          have hT:=Qa.mk (Qx y j hlj);have hf:=HF.out j hlj;have hjI:(j:Int)<(y.length:Int):=(by omega);obtain⟨n,hx⟩: ∃n,n=rd y j:=⟨_,rfl⟩;rw[<-hx] at hcell hT hf;replace hf:=Qa.mk hf;clear hx;by_cases h1:n<0
          ·have hno:=Qa.mk (hf.out (by omega))
           go_wp2_with fail;go_ret;exact⟨by rw[HNo.out _ hltk.out hno.out];rfl,hb.out.trans ((hbL.out.trans (hz.mono hbL.out.size)).mono hb.out.size)⟩
          ·by_cases h2:72057594037927936<n
           ·have hno:=Qa.mk (hf.out (by omega))
            have h1':decide (n<0)=false:=(by simpa using h1);go_wp2_with fail;go_ret;exact⟨by rw[HNo.out _ hltk.out hno.out];rfl,hb.out.trans ((hbL.out.trans (hz.mono hbL.out.size)).mono hb.out.size)⟩
           ·have h1':decide (n<0)=false:=by simpa using h1
            have h2':decide (72057594037927936<n)=false:=(by simpa using h2);have h3:Qa (0<=n/\n<=72057594037927936):=⟨by omega⟩;clear h1 h2;go_wp2_with fail;go_roundw
            case rel=>exact⟨j+1,by go_num,by omega,⟨by
             rw[hT.out];intro x hx;rcases List.mem_append.1 hx with hx|hx
             ·exact hja.out x hx
             ·rw[List.mem_singleton.1 hx];exact h3.out⟩,hbJ⟩
            case measure=>simp[intOf];omega
         ·obtain rfl:j=y.length:=by omega
          have hA:=hja.out;rw[List.take_length] at hA;have hok:=Qa.mk (HT.out hA);clear hja hA;go_wp2_with fail;go_roundw
          case rel=>exact⟨k+1,by go_num,hltk.out,⟨fun j hj=>by
           by_cases h:j=k
           ·rw[h];exact hok.out
           ·exact ha.out j (by omega)⟩,⟨hbL.out.trans (hz.mono hbL.out.size)⟩⟩
          case measure=>have:=hltk.out;simp[intOf];omega
      ·have t2:((y.length:Int) != (L.length:Int))=true:=by rw[bne_iff_ne];omega
       have hno:Qa (okD d L.length k=false):=⟨by rw[hok,decide_eq_false hl2,Bool.false_and]⟩;clear hok hl2;go_wp2_with (first|(go_at_call 46;refine(HC1.out _ hz).mono ?_;rintro e w' ⟨rfl,hbn⟩;replace hz:=bnx hz hbn;replace k3:=cnx k3 hbn;replace k4:=cnx k4 hbn;replace k5:=cnx k5 hbn;replace m3:=cnx m3 hbn;replace m5:=cnx m5 hbn;clear hbn)|(go_at_call 47;refine(HC3.out _ hz).mono ?_;rintro e w' ⟨rfl,hbn⟩;replace hz:=bnx hz hbn;replace k3:=cnx k3 hbn;replace k4:=cnx k4 hbn;replace k5:=cnx k5 hbn;replace m3:=cnx m3 hbn;replace m5:=cnx m5 hbn;clear hbn));go_ret;exact⟨by rw[HNo.out _ hltk.out hno.out];rfl,hb.out.trans ((hbL.out.trans (hz.mono hbL.out.size)).mono hb.out.size)⟩
    ·have t1:((x.length:Int) != 128)=true:=by rw[bne_iff_ne];omega
     have hno:Qa (okD d L.length k=false):=⟨by rw[hok,decide_eq_false hl1,Bool.false_and]⟩;clear hok hl1;go_wp2_with (first|(go_at_call 46;refine(HC1.out _ hz).mono ?_;rintro e w' ⟨rfl,hbn⟩;replace hz:=bnx hz hbn;replace k3:=cnx k3 hbn;replace k4:=cnx k4 hbn;replace k5:=cnx k5 hbn;replace m3:=cnx m3 hbn;replace m5:=cnx m5 hbn;clear hbn)|(go_at_call 47;refine(HC3.out _ hz).mono ?_;rintro e w' ⟨rfl,hbn⟩;replace hz:=bnx hz hbn;replace k3:=cnx k3 hbn;replace k4:=cnx k4 hbn;replace k5:=cnx k5 hbn;replace m3:=cnx m3 hbn;replace m5:=cnx m5 hbn;clear hbn));go_ret;exact⟨by rw[HNo.out _ hltk.out hno.out];rfl,hb.out.trans ((hbL.out.trans (hz.mono hbL.out.size)).mono hb.out.size)⟩
   ·obtain rfl:k=d.lis.length:=by omega
    have hv:=Qa.mk (HYv.out ha.out);clear ha HNo HYv;go_wp2_with fail;go_ret;exact⟨by rw[hv.out];rfl,hb.out.trans (hbL.out.mono hb.out.size)⟩
theorem Az (d:Dr) (v:DrV) (w:World) (hd:Kr w d v) (hf:Kh d=true):
  Calls Tryz.prog 20 #[.agg (Q7 d v)] w fun e w'=>e= .returned (.bool (validD d))/\Below w.heap.size w w':=by
 cases hv:Zd d.sh d.gr with
 |false=>exact rv_div d v w hd hv
 |true=>
  cases h:headD d with
  |false=>exact rv_head d v w hd h hv
  |true=>exact rv_yes d v w hd hf h hv
end Q21

end Go.Proofs.YtnflnicdjioflaaGreatDoor
