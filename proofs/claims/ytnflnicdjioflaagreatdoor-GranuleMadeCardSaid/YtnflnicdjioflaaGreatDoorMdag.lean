/- A part of the proof. -/
import Derived.Test.YtnflnicdjioflaaGreatDoorMdae
set_option linter.unusedVariables false
set_option linter.unusedSimpArgs false
set_option maxRecDepth 100000
set_option maxHeartbeats 8000000
namespace Go.Proofs.YtnflnicdjioflaaGreatDoor
open Go.RowKit Go.Proofs.YtnflnicdjioflaaGreatDoorW.PrintWords Go.Proofs.YtnflnicdjioflaaGreatDoorW.PrintLast Go.Proofs.YtnflnicdjioflaaGreatDoorW.PrintMore
namespace Q21
attribute [local go_sem] Qi Qj Qk Ql Qg Qh
open Q15
def Vr (sh:Bool) (g:List Int):Int:=if Zd sh g then 0 else 1
def K5 (sh:Bool) (g:List Int):List Int:=if Zd sh g then Qm sh g else[]
def Outs (L:List Int) (E:Int) (w:World) (e:Ending) (w':World):Prop:= ∃A p,e= .returned (.tuple #[.slice A L.length p,.int .i64 E])/\(Kd.int .i64).C w' A L.length L/\Below w.heap.size w w'
theorem Zy {sh:Bool} {g:List Int} (h:Zd sh g=true):g.length<=8/\ ∀n∈g,1<=n/\n<=8:=by
 cases sh with
 |false=>
  have h0:g.length=0:=of_decide_eq_true h;exact⟨by omega,fun n hn=>by rw[List.length_eq_zero_iff.1 h0] at hn;cases hn⟩
 |true=>exact⟨(X9.1 h).1,(X9.1 h).2.1⟩
theorem Mj {sh:Bool} {g:List Int} (h:g.length<=8):(Qm sh g).length <=32:=by
 cases sh with
 |false=>exact(by decide:Xm.length<=32)
 |true=>rw[Hl];omega
theorem X0 (sh:Bool) (A:Option Addr) (cap:Nat) (g:List Int) (w:World) (hL:Laid w) (hr:(Kd.int .i64).C w A g.length g):
  Calls Tryz.prog 50 #[.bool sh,.slice A g.length cap] w (Outs (K5 sh g) (Vr sh g) w):=by
 have hb:=Below.refl w.heap.size w;have HC:=Yi sh A cap g w hr;unfold K5 Vr
 cases hd:Zd sh g with
 |false=>
  rw[hd] at HC;replace HC:=Qa.mk HC;rw[if_neg (by decide),if_neg (by decide)];clear hd hr hL;go_enter Tryz.func50,Tryz.ntmps50;go_wp2_with (first|(go_at_call 94;refine(HC.out).mono ?_;rintro e w' ⟨rfl,hbn⟩;replace hb:=bnx hb hbn;clear hbn));go_ret2;exact⟨none,0,rfl,Kd.V4 _ _,hb⟩
 |true=>
  rw[hd] at HC;obtain⟨h8,hn⟩:=Zy hd;have HW:=Qa.mk (fun(W:World) (hb:Below w.heap.size w W)=>Ob sh A cap g W (hL.below hb) (Kd.Qe hr hb) h8 hn);have hlen:=Mj (sh:=sh) h8;have HK:=Qa.mk (fun(B:Option Addr) (p:Nat) (W:World) (hC:(Kd.int .i64).C W B (Qm sh g).length (Qm sh g))=>Y2 B p (Qm sh g) W hC (by omega));replace HC:=Qa.mk HC;obtain⟨L,hLL⟩: ∃L,L=Qm sh g:=⟨_,rfl⟩;rw[if_pos rfl,if_pos rfl,<-hLL];rw[<-hLL] at HW HK;clear hd hr hL h8 hn hLL hlen;go_enter Tryz.func50,Tryz.ntmps50;go_wp2_with (first|(go_at_call 94;refine(HC.out).mono ?_;rintro e w' ⟨rfl,hbn⟩;replace hb:=bnx hb hbn;clear hbn));refine(HW.out _ hb).mono ?_;rintro e w1 ⟨B,p,rfl,hC,hbn⟩;replace hb:=bnx hb hbn;replace hC:=Qa.mk hC;clear hbn;go_wp2_with fail;refine(HK.out _ _ _ hC.out).mono ?_;rintro e w2 ⟨v,rfl,hR,hbn⟩;replace hb:=bnx hb hbn;obtain⟨B5,p5,rfl,_,hC5⟩:=Kd.Qu hR;replace hC5:=Qa.mk hC5;clear hbn hR;go_wp2;go_ret2;exact⟨_,_,rfl,hC5.out,hb⟩
theorem Om (sh:Bool) (A:Option Addr) (cap:Nat) (g:List Int) (w:World) (hL:Laid w) (hr:(Kd.int .i64).C w A g.length g):
  Calls Tryz.prog 42 #[.bool sh,.slice A g.length cap] w fun e w'=>e= .returned (.tuple #[.int .i64 (K5 sh g).length,.int .i64 (Vr sh g)])/\Below w.heap.size w w':=by
 have hb:=Below.refl w.heap.size w;have HC:=Qa.mk (X0 sh A cap g w hL hr);obtain⟨L,hLL⟩: ∃L,L=K5 sh g:=⟨_,rfl⟩;obtain⟨E,hE⟩: ∃E,E=Vr sh g:=⟨_,rfl⟩;rw[<-hLL,<-hE] at HC ⊢;clear hLL hE hL hr;go_enter Tryz.func42,Tryz.ntmps42;go_wp2_with fail;refine HC.out.mono ?_;rintro e w1 ⟨B,p,rfl,hC,hbn⟩;replace hb:=bnx hb hbn;clear hC hbn;go_wp2;go_ret2;exact⟨rfl,hb⟩
theorem Ya (sh:Bool) (A:Option Addr) (cap:Nat) (g:List Int) (w:World) (hr:(Kd.int .i64).C w A g.length g):
  Calls Tryz.prog 31 #[.bool sh,.slice A g.length cap] w (Outs (K5 sh g) (Vr sh g) w):=by
 have hb:=Below.refl w.heap.size w;have HC:=Is_calls sh A cap g w hr;unfold K5 Vr
 cases hd:Zd sh g with
 |false=>
  rw[hd] at HC;replace HC:=Qa.mk HC;rw[if_neg (by decide),if_neg (by decide)];clear hd hr;go_enter Tryz.func31,Tryz.ntmps31;go_wp2_with (first|(go_at_call 62;refine(HC.out).mono ?_;rintro e w' ⟨rfl,hbn⟩;replace hb:=bnx hb hbn;clear hbn));go_ret2;exact⟨none,0,rfl,Kd.V4 _ _,hb⟩
 |true=>
  rw[hd] at HC;obtain⟨h8,hn⟩:=Zy hd;have HW:=Qa.mk (fun(W:World) (hb:Below w.heap.size w W)=>Og sh A cap g W (Kd.Qe hr hb) h8 hn);replace HC:=Qa.mk HC;obtain⟨L,hLL⟩: ∃L,L=Qm sh g:=⟨_,rfl⟩;rw[if_pos rfl,if_pos rfl,<-hLL];rw[<-hLL] at HW;clear hd hr h8 hn hLL;go_enter Tryz.func31,Tryz.ntmps31;go_wp2_with (first|(go_at_call 62;refine(HC.out).mono ?_;rintro e w' ⟨rfl,hbn⟩;replace hb:=bnx hb hbn;clear hbn));refine(HW.out _ hb).mono ?_;rintro e w1 ⟨B,p,rfl,hC,hbn⟩;replace hb:=bnx hb hbn;replace hC:=Qa.mk hC;clear hbn;go_wp2;go_ret2;exact⟨_,_,rfl,hC.out,hb⟩
end Q21

namespace Q21
attribute [local go_sem] Qi Qj Qk Ql Qg Qh
open Q15
theorem Ho (g:Nat) (fs cs:Array Value) (p:Int->Bool) (A:Option Addr) (cap:Nat) (l:List Int) (w:World) (eg:Q15.Enters g) (hr:(Kd.int .i64).C w A l.length l) (hl:l.length<=1099511627776)
  (hp: ∀x∈l,Ua g fs cs w x (p x)):
  Calls Tryz.prog 96 #[.slice A l.length cap,.func (.func g) fs cs] w fun e w'=>(∃i:Int,e= .returned (.int .i64 i)/\ -1<=i/\i<=1099511627776/\decide (0<=i)=l.any p)/\Below w.heap.size w w':=by
 have HP:=Qa.mk hp;have HR:=Qa.mk hr;have hlI:(l.length:Int)<=1099511627776:=(by omega);obtain⟨Post,hPost⟩: ∃P:Ending->Prop,P=fun e=> ∃i:Int,e= .returned (.int .i64 i)/\ -1<=i/\i<=1099511627776/\decide (0<=i)=l.any p:=⟨_,rfl⟩
 have HPost:Qa (∀i:Int,-1<=i->i<=1099511627776->decide (0<=i)=l.any p->Post (.returned (.int .i64 i))):=⟨fun i h0 h1 h2=>by rw[hPost];exact⟨i,rfl,h0,h1,h2⟩⟩
 show Calls _ _ _ _ (fun e w'=>(fun e=> ∃i:Int,e= .returned (.int .i64 i)/\ -1<=i/\i<=1099511627776/\decide (0<=i)=l.any p) e/\Below w.heap.size w w')
 rw[<-hPost];clear hp hr hPost hl;unfold Q15.Enters at eg;go_enter Tryz.func96,Tryz.ntmps96;go_wp2;go_loopw [8] (fun i wr=> ∃k:Nat,i= .int .i64 k/\k<=l.length/\Qa ((l.take k).any p=false)/\Below w.heap.size w wr) (fun i _=>l.length-(intOf i).toNat)
 case atStart=>exact⟨0,rfl,by omega,⟨by simp⟩,Below.refl _ _⟩
 case round=>
  obtain⟨k,rfl,hk,ha,hb⟩:=hrel;by_cases hlt:k<l.length
  ·obtain⟨ad,rfl,hcell⟩:=Qq HR.out hb hlt
   have hc:=HP.out _ (Qt l k hlt) wr hb;have HT:=Qa.mk (Qx l k hlt);have HRD:=Qa.mk (Qt l k hlt);have hkI:(k:Int)<(l.length:Int):=(by omega);obtain⟨x,hx⟩: ∃x,x=rd l k:=⟨_,rfl⟩;rw[<-hx] at hcell hc HT HRD;clear hx
   cases hpm:p x with
   |false=>
    rw[hpm] at hc;have HC:=Qa.mk hc;have hpm:=Qa.mk hpm;clear hc;go_wp2_with (go_at_fn g;refine HC.out.mono ?_;rintro e w' ⟨rfl,hb1⟩);go_roundw
    case rel=>exact⟨k+1,by go_num,by omega,⟨by rw[HT.out,List.any_append,ha.out];simp[hpm.out]⟩,bnx hb hb1⟩
    case measure=>simp[intOf];omega
   |true=>
    rw[hpm] at hc;have HC:=Qa.mk hc;have hf:=Qa.mk (HPost.out (k:Int) (by omega) (by omega) (by rw[List.any_eq_true.2 ⟨x,HRD.out,hpm⟩];exact decide_eq_true (by omega)));clear hc hpm;go_wp2_with (go_at_fn g;refine HC.out.mono ?_;rintro e w' ⟨rfl,hb1⟩);go_ret;exact⟨hf.out,bnx hb hb1⟩
  ·obtain rfl:k=l.length:=by omega
   have hA:=ha.out;rw[List.take_length] at hA;have hf:=Qa.mk (HPost.out (-1) (by omega) (by omega) (by rw[hA];rfl));clear ha hA;go_wp2;go_ret;exact⟨hf.out,hb⟩
theorem Xx (g:Nat) (fs cs:Array Value) (p:Int->Bool) (A:Option Addr) (cap:Nat) (l:List Int) (w:World) (eg:Q15.Enters g) (hr:(Kd.int .i64).C w A l.length l) (hl:l.length<=1099511627776)
  (hp: ∀x∈l,Ua g fs cs w x (p x)):
  Calls Tryz.prog 53 #[.slice A l.length cap,.func (.func g) fs cs] w fun e w'=>e= .returned (.bool (l.any p))/\Below w.heap.size w w':=by
 have hb:=Below.refl w.heap.size w;have HC:=Qa.mk (Ho g fs cs p A cap l w eg hr hl hp);obtain⟨b,hbe⟩: ∃b,b=l.any p:=⟨_,rfl⟩;rw[<-hbe] at HC ⊢;clear hp hr hbe;go_enter Tryz.func53,Tryz.ntmps53;go_wp2_with fail;refine HC.out.mono ?_;rintro _ w1 ⟨⟨i,rfl,h0,h1,h2⟩,hbn⟩;replace hb:=bnx hb hbn;clear hbn
 cases b with
 |true=>
  have h3:decide (0<=i)=true:=h2;clear h2;go_wp2;go_ret;exact⟨rfl,hb⟩
 |false=>
  have h3:decide (0<=i)=false:=h2;have h4:i<0:=(by have:=of_decide_eq_false h2;omega);clear h2;go_wp2;go_ret;exact⟨rfl,hb⟩
def Va (lo hi n:Int):Bool:=decide (n<lo\/hi<n)
theorem Dp (lo hi:Int) (l:List Int):l.any (Va lo hi)= !Q16.rng lo hi l:=by
 unfold Q16.rng;rw[List.not_all_eq_any_not]
 congr 1
 funext n
 unfold Va;rw[<-decide_not];exact decide_eq_decide.2 (by omega)
theorem Ez (w:World) (x:Int):Ua 170 #[] #[] w x (Va (-127) 127 x):=by
 intro W hb
 show Calls Tryz.prog 170 #[.int .i64 x] W _
 unfold Va;by_cases h0:x< -127
 ·rw[decide_eq_true (.inl h0)]
  go_enter Tryz.func170,Tryz.ntmps170;go_wp2;go_ret;exact⟨rfl,Below.refl _ _⟩
 ·by_cases h1:127<x
  ·rw[decide_eq_true (.inr h1)]
   have h0':decide (x< -127)=false:=(by simpa using h0);go_enter Tryz.func170,Tryz.ntmps170;go_wp2;go_ret;exact⟨rfl,Below.refl _ _⟩
  ·rw[decide_eq_false (by omega)]
   have h0':decide (x< -127)=false:=(by simpa using h0);have h1':decide (127<x)=false:=(by simpa using h1);go_enter Tryz.func170,Tryz.ntmps170;go_wp2;go_ret;exact⟨rfl,Below.refl _ _⟩
theorem Qci (w:World) (a b:Addr) (lo hi:Int) (ha:w.cell? a=some (.int .i64 lo)) (hbc:w.cell? b=some (.int .i64 hi)) (x:Int):Ua 54 #[] #[.pointer (some a),.pointer (some b)] w x (Va lo hi x):=by
 intro W hb
 show Calls Tryz.prog 54 #[.int .i64 x,.pointer (some a),.pointer (some b)] W _
 have ha':=cnx ha hb;have hb':=cnx hbc hb;unfold Va;clear ha hbc;by_cases h0:x<lo
 ·rw[decide_eq_true (.inl h0)]
  go_enter Tryz.func54,Tryz.ntmps54;go_wp2;go_ret;exact⟨rfl,Below.refl _ _⟩
 ·by_cases h1:hi<x
  ·rw[decide_eq_true (.inr h1)]
   have h0':decide (x<lo)=false:=(by simpa using h0);go_enter Tryz.func54,Tryz.ntmps54;go_wp2;go_ret;exact⟨rfl,Below.refl _ _⟩
  ·rw[decide_eq_false (by omega)]
   have h0':decide (x<lo)=false:=(by simpa using h0);have h1':decide (hi<x)=false:=(by simpa using h1);go_enter Tryz.func54,Tryz.ntmps54;go_wp2;go_ret;exact⟨rfl,Below.refl _ _⟩
end Q21

namespace Q21
attribute [local go_sem] Qi Qj Qk Ql Qg Qh
open Q15
def Jy (l:List Int):Bool:=decide (l.length<=12)&&Q16.rng (-127) 127 l
theorem Rx (A:Option Addr) (cap:Nat) (l:List Int) (w:World) (hr:(Kd.int .i64).C w A l.length l) (hl:l.length<=1000000):
  Calls Tryz.prog 118 #[.slice A l.length cap] w fun e w'=>e= .returned (.bool (Jy l))/\Below w.heap.size w w':=by
 have hb:=Below.refl w.heap.size w;have HC:=fun(W:World) (hb:Below w.heap.size w W)=>Xx 170 #[] #[] (Va (-127) 127) A cap l W (fun _ _=>by kernel_rfl) (Kd.Qe hr hb) (by omega) (fun x _=>Ez W x)
 rw[Dp] at HC;unfold Jy;obtain⟨b,hbe⟩: ∃b,b=Q16.rng (-127) 127 l:=⟨_,rfl⟩;rw[<-hbe] at HC ⊢;replace HC:=Qa.mk HC;clear hr hbe;by_cases h12:l.length<=12
 ·rw[decide_eq_true h12]
  have h1:decide ((l.length:Int)<=12)=true:=decide_eq_true (by omega);clear h12 hl;cases b
  all_goals
   go_enter Tryz.func118,Tryz.ntmps118;go_wp2_with (first|(go_at_call 53;refine(HC.out _ hb).mono ?_;rintro e w' ⟨rfl,hbn⟩;replace hb:=bnx hb hbn;clear hbn));go_ret;exact⟨rfl,hb⟩
 ·rw[decide_eq_false h12]
  have h1:decide ((l.length:Int)<=12)=false:=decide_eq_false (by omega);clear h12 hl HC;go_enter Tryz.func118,Tryz.ntmps118;go_wp2;go_ret;exact⟨rfl,hb⟩
theorem X4 (A:Option Addr) (cap:Nat) (l:List Int) (lo hi:Int) (w:World) (hr:(Kd.int .i64).C w A l.length l) (hl:l.length<=1000000):
  Calls Tryz.prog 26 #[.slice A l.length cap,.int .i64 lo,.int .i64 hi] w fun e w'=>e= .returned (.bool (Q16.rng lo hi l))/\Below w.heap.size w w':=by
 have hb:=Below.refl w.heap.size w;have HC:=fun(W:World) (a b:Addr) (hb:Below w.heap.size w W) (h1:W.cell? a=some (.int .i64 lo)) (h2:W.cell? b=some (.int .i64 hi))=>Xx 54 #[] #[.pointer (some a),.pointer (some b)] (Va lo hi) A cap l W (fun _ _=>by kernel_rfl) (Kd.Qe hr hb) (by omega) (fun x _=>Qci W a b lo hi h1 h2 x)
 rw[Dp] at HC;obtain⟨b,hbe⟩: ∃b,b=Q16.rng lo hi l:=⟨_,rfl⟩;rw[<-hbe] at HC ⊢;replace HC:=Qa.mk HC;clear hr hbe hl;cases b
 all_goals
  go_enter Tryz.func26,Tryz.ntmps26;go_wp2_with fail;obtain⟨W,hW⟩: ∃W,W=(w.alloc (.cells #[.int .i64 lo] 3)).alloc (.cells #[.int .i64 hi] 3):=⟨_,rfl⟩;rw[<-hW];have k0:W.cell? ⟨w.heap.size,0,none⟩=some (.int .i64 lo):=(by rw[hW];go_simp);have k1:W.cell? ⟨w.heap.size+1,0,none⟩=some (.int .i64 hi):=(by rw[hW];go_simp);replace hb:Below w.heap.size w W:=(by rw[hW];exact(hb.alloc hb.size _).alloc (hb.alloc hb.size _).size _);clear hW;refine(HC.out W _ _ hb k0 k1).mono ?_;rintro _ w1 ⟨rfl,hbn⟩;replace hb:=bnx hb hbn;clear hbn k0 k1;go_wp2_with fail;go_ret;exact⟨rfl,hb⟩
end Q21

namespace Q21
attribute [local go_sem] Qi Qj Qk Ql Qg Qh
open Q15
theorem Oj (m:Int) (hm:0<=m/\m<=1099511627776) (A:Option Addr) (cap:Nat) (l:List Int) (w:World) (hr:(Kd.int .i64).C w A l.length l) (hl:l.length<=1000000):
  Calls Tryz.prog 46 #[.slice A l.length cap,.int .i64 m] w fun e w'=>e= .returned (.bool (Q16.rng (-m) m l))/\Below w.heap.size w w':=by
 have HR:=Qa.mk hr;have hlI:(l.length:Int)<=1000000:=(by omega);have HF:Qa (∀k,k<l.length-> ¬((-m)<=rd l k/\rd l k<=m)->Q16.rng (-m) m l=false):=⟨fun k hk h=>List.all_eq_false.2 ⟨_,Qt l k hk,by simpa using h⟩⟩;have HT:Qa ((∀x∈l,(-m)<=x/\x<=m)->Q16.rng (-m) m l=true):=⟨fun h=>List.all_eq_true.2 fun x hx=>decide_eq_true (h x hx)⟩;obtain⟨b,hbe⟩: ∃b,b=Q16.rng (-m) m l:=⟨_,rfl⟩;rw[<-hbe] at HF HT ⊢;clear hr hl hbe;go_enter Tryz.func46,Tryz.ntmps46;go_wp2;go_loopw [9] (fun i wr=> ∃k:Nat,i= .int .i64 k/\k<=l.length/\Qa (∀x∈l.take k,(-m)<=x/\x<=m)/\Below w.heap.size w wr) (fun i _=>l.length-(intOf i).toNat)
 case atStart=>exact⟨0,rfl,by omega,⟨by simp⟩,Below.refl _ _⟩
 case round=>
  obtain⟨k,rfl,hk,ha,hb⟩:=hrel;by_cases hlt:k<l.length
  ·obtain⟨ad,rfl,hcell⟩:=Qq HR.out hb hlt
   have hT:=Qa.mk (Qx l k hlt);have hf:=HF.out k hlt;have hkI:(k:Int)<(l.length:Int):=(by omega);obtain⟨n,hx⟩: ∃n,n=rd l k:=⟨_,rfl⟩;rw[<-hx] at hcell hT hf;replace hf:=Qa.mk hf;clear hx;by_cases h1:n<(-m)
   ·have hff:=Qa.mk (hf.out (by omega))
    go_wp2;go_ret;exact⟨by rw[hff.out];rfl,hb⟩
   ·by_cases h2:m<n
    ·have hff:=Qa.mk (hf.out (by omega))
     have h1':decide (n<(-m))=false:=(by simpa using h1);go_wp2;go_ret;exact⟨by rw[hff.out];rfl,hb⟩
    ·have h1':decide (n<(-m))=false:=by simpa using h1
     have h2':decide (m<n)=false:=(by simpa using h2);have h3:Qa ((-m)<=n/\n<=m):=⟨by omega⟩;clear h1 h2;go_wp2;go_roundw
     case rel=>exact⟨k+1,by go_num,by omega,⟨by
      rw[hT.out];intro x hx;rcases List.mem_append.1 hx with hx|hx
      ·exact ha.out x hx
      ·rw[List.mem_singleton.1 hx];exact h3.out⟩,hb⟩
     case measure=>simp[intOf];omega
  ·obtain rfl:k=l.length:=by omega
   have hA:=ha.out;rw[List.take_length] at hA;have hff:=Qa.mk (HT.out hA);clear ha hA;go_wp2;go_ret;exact⟨by rw[hff.out];rfl,hb⟩
theorem Eh (A:Option Addr) (cap:Nat) (l:List Int) (w:World) (hr:(Kd.int .i64).C w A l.length l) (hl:l.length<=1000000):
  Calls Tryz.prog 32 #[.slice A l.length cap] w fun e w'=>e= .returned (.bool (Q16.rng 0 95 l))/\Below w.heap.size w w':=by
 have HR:=Qa.mk hr;have hlI:(l.length:Int)<=1000000:=(by omega);have HF:Qa (∀k,k<l.length-> ¬(0<=rd l k/\rd l k<=95)->Q16.rng 0 95 l=false):=⟨fun k hk h=>List.all_eq_false.2 ⟨_,Qt l k hk,by simpa using h⟩⟩;have HT:Qa ((∀x∈l,0<=x/\x<=95)->Q16.rng 0 95 l=true):=⟨fun h=>List.all_eq_true.2 fun x hx=>decide_eq_true (h x hx)⟩;obtain⟨b,hbe⟩: ∃b,b=Q16.rng 0 95 l:=⟨_,rfl⟩;rw[<-hbe] at HF HT ⊢;clear hr hl hbe;go_enter Tryz.func32,Tryz.ntmps32;go_wp2;go_loopw [7] (fun i wr=> ∃k:Nat,i= .int .i64 k/\k<=l.length/\Qa (∀x∈l.take k,0<=x/\x<=95)/\Below w.heap.size w wr) (fun i _=>l.length-(intOf i).toNat)
 case atStart=>exact⟨0,rfl,by omega,⟨by simp⟩,Below.refl _ _⟩
 case round=>
  obtain⟨k,rfl,hk,ha,hb⟩:=hrel;by_cases hlt:k<l.length
  ·obtain⟨ad,rfl,hcell⟩:=Qq HR.out hb hlt
   have hT:=Qa.mk (Qx l k hlt);have hf:=HF.out k hlt;have hkI:(k:Int)<(l.length:Int):=(by omega);obtain⟨n,hx⟩: ∃n,n=rd l k:=⟨_,rfl⟩;rw[<-hx] at hcell hT hf;replace hf:=Qa.mk hf;clear hx;by_cases h1:n<0
   ·have hff:=Qa.mk (hf.out (by omega))
    go_wp2;go_ret;exact⟨by rw[hff.out];rfl,hb⟩
   ·by_cases h2:95<n
    ·have hff:=Qa.mk (hf.out (by omega))
     have h1':decide (n<0)=false:=(by simpa using h1);go_wp2;go_ret;exact⟨by rw[hff.out];rfl,hb⟩
    ·have h1':decide (n<0)=false:=by simpa using h1
     have h2':decide (95<n)=false:=(by simpa using h2);have h3:Qa (0<=n/\n<=95):=⟨by omega⟩;clear h1 h2;go_wp2;go_roundw
     case rel=>exact⟨k+1,by go_num,by omega,⟨by
      rw[hT.out];intro x hx;rcases List.mem_append.1 hx with hx|hx
      ·exact ha.out x hx
      ·rw[List.mem_singleton.1 hx];exact h3.out⟩,hb⟩
     case measure=>simp[intOf];omega
  ·obtain rfl:k=l.length:=by omega
   have hA:=ha.out;rw[List.take_length] at hA;have hff:=Qa.mk (HT.out hA);clear ha hA;go_wp2;go_ret;exact⟨by rw[hff.out];rfl,hb⟩
theorem Vo (A0 A1:Option Addr) (c0 c1:Nat) (l0 l1:List Int) (w:World) (hr0:(Kd.int .i64).C w A0 l0.length l0) (hr1:(Kd.int .i64).C w A1 l1.length l1) (hl:l0.length<=1099511627776):
  Calls Tryz.prog 34 #[.slice A0 l0.length c0,.slice A1 l1.length c1] w fun e w'=>e= .returned (.bool (decide (l0=l1)))/\Below w.heap.size w w':=by
 by_cases hn:l0.length=l1.length
 ·have HR0:=Qa.mk hr0
  have HR1:=Qa.mk hr1;rw[<-hn] at HR1 ⊢;have HN:=Qa.mk hn;clear hn hr0 hr1;go_enter Tryz.func34,Tryz.ntmps34;go_wp2;go_loopw [13] (fun i wr=> ∃k:Nat,i= .int .i64 k/\k<=l0.length/\Qa (l0.take k=l1.take k)/\Below w.heap.size w wr) (fun i _=>l0.length-(intOf i).toNat)
  case atStart=>exact⟨0,rfl,by omega,⟨rfl⟩,Below.refl _ _⟩
  case round=>
   obtain⟨k,rfl,hk,ha,hb⟩:=hrel;by_cases hlt:k<l0.length
   ·obtain⟨ad0,rfl,hcell0⟩:=Kd.Qbi HR0.out (k:Int) (by omega) (by omega)
    obtain⟨ad1,rfl,hcell1⟩:=Kd.Qbi HR1.out (k:Int) (by omega) (by omega);rw[Int.toNat_natCast] at hcell0 hcell1;replace hcell0:=cnx hcell0 hb;replace hcell1:=cnx hcell1 hb;have HT0:=Qa.mk (Qx l0 k hlt);have HT1:=Qa.mk (Qx l1 k (by have:=HN.out;omega));have hd0:=Jr l0 k hlt;have hd1:=Jr l1 k (by have:=HN.out;omega);have HNE:Qa (rd l0 k≠rd l1 k->l0≠l1):=⟨fun h e=>h (by rw[e])⟩;obtain⟨x,hx⟩: ∃x,x=rd l0 k:=⟨_,rfl⟩;obtain⟨y,hy⟩: ∃y,y=rd l1 k:=⟨_,rfl⟩;rw[<-hx] at hcell0 HT0 HNE;rw[<-hy] at hcell1 HT1 HNE;clear hx hy hd0 hd1;by_cases he:x=y
    ·subst he
     go_wp2;go_quiet (fail);go_wp2;go_roundw
     case rel=>exact⟨k+1,by go_num,by omega,⟨by rw[HT0.out,HT1.out,ha.out]⟩,below_drewN' hb nq⟩
     case measure=>simp[intOf];omega
    ·have HNE2:=Qa.mk (HNE.out he)
     have he2:(x != y)=true:=(by rw[bne_iff_ne];exact he);go_wp2;go_quiet (fail);go_wp2;go_ret;exact⟨by rw[decide_eq_false HNE2.out];rfl,below_drewN' hb nq⟩
   ·obtain rfl:k=l0.length:=by omega
    have e:l0=l1:=by
     have h1:=ha.out;rw[List.take_length,HN.out,List.take_length] at h1;exact h1
    have HE:=Qa.mk e;clear e;go_wp2;go_ret;exact⟨by rw[decide_eq_true HE.out];rfl,hb⟩
 ·have he:l0≠l1:=fun h=>hn (by rw[h])
  rw[decide_eq_false he];have hn2:(l0.length != l1.length)=true:=(by rw[bne_iff_ne];exact hn);have hn3:((l0.length:Int) != (l1.length:Int))=true:=(by rw[bne_iff_ne];omega);clear hn he;go_enter Tryz.func34,Tryz.ntmps34;go_wp2;go_ret;exact⟨rfl,Below.refl _ _⟩
theorem Sv (A:Option Addr) (cap n:Nat) (ch many:Int) (w:World):
  Calls Tryz.prog 45 #[.slice A n cap,.int .i64 ch,.int .i64 many] w fun e w'=>e= .returned (.bool (if ch=1 then decide (n=0) else decide ((n:Int)=many)))/\Below w.heap.size w w':=by
 have hb:=Below.refl w.heap.size w;by_cases h1:ch=1
 ·rw[if_pos h1]
  subst h1;by_cases h0:n=0
  ·rw[decide_eq_true h0]
   have h2:((n:Int)==0)=true:=beq_iff_eq.2 (by omega);clear h0;go_enter Tryz.func45,Tryz.ntmps45;go_wp2;go_ret;exact⟨rfl,hb⟩
  ·rw[decide_eq_false h0]
   have h2:((n:Int)==0)=false:=beq_eq_false_iff_ne.2 (by omega);clear h0;go_enter Tryz.func45,Tryz.ntmps45;go_wp2;go_ret;exact⟨rfl,hb⟩
 ·rw[if_neg h1]
  have h3:(ch==1)=false:=beq_eq_false_iff_ne.2 h1;by_cases h0:(n:Int)=many
  ·rw[decide_eq_true h0]
   have h2:((n:Int)==many)=true:=beq_iff_eq.2 h0;clear h0 h1;go_enter Tryz.func45,Tryz.ntmps45;go_wp2;go_ret;exact⟨rfl,hb⟩
  ·rw[decide_eq_false h0]
   have h2:((n:Int)==many)=false:=beq_eq_false_iff_ne.2 h0;clear h0 h1;go_enter Tryz.func45,Tryz.ntmps45;go_wp2;go_ret;exact⟨rfl,hb⟩
theorem K8 (A:Option Addr) (cap n:Nat) (ch many:Int) (w:World):
  Calls Tryz.prog 51 #[.slice A n cap,.int .i64 ch,.int .i64 many] w fun e w'=>e= .returned (.bool (if ch=1 then decide (n=0) else decide ((n:Int)=many)))/\Below w.heap.size w w':=by
 have hb:=Below.refl w.heap.size w;by_cases h1:ch=1
 ·rw[if_pos h1]
  subst h1;by_cases h0:n=0
  ·rw[decide_eq_true h0]
   have h2:((n:Int)==0)=true:=beq_iff_eq.2 (by omega);clear h0;go_enter Tryz.func51,Tryz.ntmps51;go_wp2;go_ret;exact⟨rfl,hb⟩
  ·rw[decide_eq_false h0]
   have h2:((n:Int)==0)=false:=beq_eq_false_iff_ne.2 (by omega);clear h0;go_enter Tryz.func51,Tryz.ntmps51;go_wp2;go_ret;exact⟨rfl,hb⟩
 ·rw[if_neg h1]
  have h3:(ch==1)=false:=beq_eq_false_iff_ne.2 h1;by_cases h0:(n:Int)=many
  ·rw[decide_eq_true h0]
   have h2:((n:Int)==many)=true:=beq_iff_eq.2 h0;clear h0 h1;go_enter Tryz.func51,Tryz.ntmps51;go_wp2;go_ret;exact⟨rfl,hb⟩
  ·rw[decide_eq_false h0]
   have h2:((n:Int)==many)=false:=beq_eq_false_iff_ne.2 h0;clear h0 h1;go_enter Tryz.func51,Tryz.ntmps51;go_wp2;go_ret;exact⟨rfl,hb⟩
end Q21

namespace Pre
attribute [local go_sem] Qi Qj Qk Ql Qg Qh
open Q15
open Q21 (Va Dp Xx)
def F6 (n:Int):Int:=if 0<n then 65536/2^n.toNat else 0
def J9 (l:List Int):Int:=(l.map F6).sum
def Kl (l:List Int):Int:=if(decide (256<l.length)|| !Q16.rng 0 16 l)=true then 1 else if J9 l=0 then 5 else if 65536<J9 l then 4 else 0
theorem Ih (n:Int):0<=F6 n/\F6 n<=65536:=by
 unfold F6;by_cases h:0<n
 ·rw[if_pos h]
  have hp:(0:Int)<2^n.toNat:=Int.pow_pos (by omega);exact⟨Int.ediv_nonneg (by omega) (by omega),Int.ediv_le_self _ (by omega)⟩
 ·rw[if_neg h];omega
theorem Ig (l:List Int):0<=J9 l/\J9 l<=65536*l.length:=by
 unfold J9
 induction l with
 |nil=>simp
 |cons a t ih=>
  have:=Ih a;simp only[List.map_cons,List.sum_cons,List.length_cons];omega
theorem Qbr (l:List Int) {k:Nat} (hk:k<l.length):J9 (l.take (k+1))=J9 (l.take k)+F6 (rd l k):=by
 rw[Qx l k hk];unfold J9;rw[List.map_append,List.sum_append];simp
theorem Qbm (x:Int) (w:World):
  Calls Tryz.prog 224 #[.int .i64 x] w fun e w'=>e= .returned (.bool (Va 0 16 x))/\Below w.heap.size w w':=by
 have hb:=Below.refl w.heap.size w
 have HX:=Qa.mk (show(x<0->Va 0 16 x=true)/\(16<x->Va 0 16 x=true)/\(¬x<0-> ¬16<x->Va 0 16 x=false) by
  unfold Va;simp only[decide_eq_true_eq,decide_eq_false_iff_not]
  omega)
 by_cases h0:x<0
 ·go_enter Tryz.func224,Tryz.ntmps224
  go_wp2;go_ret;exact⟨by rw[HX.out.1 h0];rfl,hb⟩
 ·by_cases h1:16<x
  ·have t1:decide (x<0)=false:=decide_eq_false h0
   have t2:decide (16<x)=true:=decide_eq_true h1;go_enter Tryz.func224,Tryz.ntmps224;go_wp2;go_ret;exact⟨by rw[HX.out.2.1 h1];rfl,hb⟩
  ·have t1:decide (x<0)=false:=decide_eq_false h0
   have t2:decide (16<x)=false:=decide_eq_false h1;have hE:=Qa.mk (HX.out.2.2 h0 h1);clear h0 h1;go_enter Tryz.func224,Tryz.ntmps224;go_wp2;go_ret;exact⟨by rw[hE.out];rfl,hb⟩
theorem chk1_fn (w:World) (x:Int):Ua 224 #[] #[] w x (Va 0 16 x):=fun W hb=>Qbm x W
theorem Et (A:Option Addr) (cap:Nat) (l:List Int) (w:World) (hr:(Kd.int .i64).C w A l.length l) (hl:l.length<=256) (h16: ∀n∈l,0<=n/\n<=16):
  Calls Tryz.prog 225 #[.slice A l.length cap] w fun e w'=>e= .returned (.int .i64 (J9 l))/\Below w.heap.size w w':=by
 have hlI:(l.length:Int)<=256:=(by omega);have HR:=Qa.mk hr;have H16:=Qa.mk h16;have HB:=Qa.mk (fun k=>Ig (l.take k));clear hr h16 hl;go_enter Tryz.func225,Tryz.ntmps225;go_wp2_with fail;go_loop [3,8] (fun s i=> ∃k:Nat,i= .int .i64 k/\k<=l.length/\s= .int .i64 (J9 (l.take k))) (fun _ i=>l.length-(intOf i).toNat)
 case atStart=>exact⟨0,rfl,by omega,rfl⟩
 case round=>
  obtain⟨k,rfl,hk,rfl⟩:=hrel;by_cases hlt:k<l.length
  ·obtain⟨ad,rfl,hcell⟩:=Qq HR.out (Below.refl _ _) hlt
   have hkI:(k:Int)<(l.length:Int):=(by omega);have hT:=Qbr l hlt;have hx:=H16.out _ (Qt l k hlt);have hbd:=HB.out k;have htl:((l.take k).length :Int)<=256:=(by rw[List.length_take];omega);obtain⟨s,hs⟩: ∃s,s=J9 (l.take k):=⟨_,rfl⟩;rw[<-hs] at hbd hT ⊢;have hsb:0<=s/\s<=16777216:=(by omega);obtain⟨x,hxe⟩: ∃x,x=rd l k:=⟨_,rfl⟩;rw[<-hxe] at hx hcell hT;have hfb:=Ih x;clear hbd htl hs hxe;by_cases h0:0<x
   ·have hfo:F6 x=65536/2^x.toNat:=by unfold F6;rw[if_pos h0]
    have hT':Qa (J9 (l.take (k+1))=s+65536/2^x.toNat):=⟨by rw[hT,hfo]⟩;rw[hfo] at hfb;obtain⟨y,hy⟩: ∃y,(65536:Int)/2^x.toNat=y:=⟨_,rfl⟩;rw[hy] at hfb hT';clear hT hfo;have hlt':=Qa.mk hlt;clear hlt;go_wp2_with fail;go_round
    case rel=>exact⟨k+1,by go_num,hlt'.out,by rw[hT'.out]⟩
    case measure=>have:=hlt'.out;simp[intOf];omega
   ·have hT':Qa (J9 (l.take (k+1))=s):=⟨by rw[hT];unfold F6;rw[if_neg h0];omega⟩
    have hlt':=Qa.mk hlt;clear hT hfb hlt;go_wp2_with fail;go_round
    case rel=>exact⟨k+1,by go_num,hlt'.out,by rw[hT'.out]⟩
    case measure=>have:=hlt'.out;simp[intOf];omega
  ·obtain rfl:k=l.length:=by omega
   rw[List.take_length];go_wp2_with fail;go_ret;exact⟨rfl,Below.refl _ _⟩
theorem Ju (A:Option Addr) (cap:Nat) (l:List Int) (w:World) (hr:(Kd.int .i64).C w A l.length l) (hl:l.length<=1000000):
  Calls Tryz.prog 197 #[.slice A l.length cap] w fun e w'=>e= .returned (.int .i64 (Kl l))/\Below w.heap.size w w':=by
 have HC:=Qa.mk (Xx 224 #[] #[] (Va 0 16) A cap l w (enters_of Tryz.func224 (by kernel_rfl) rfl) hr (by omega) (fun x _=>chk1_fn w x));rw[Dp] at HC;have hlI:(l.length:Int)<=1000000:=(by omega);have hb:=Below.refl w.heap.size w;by_cases h6:256<l.length
 ·have t1:decide (256<(l.length:Int))=true:=decide_eq_true (by omega)
  have hE:Qa (Kl l=1):=⟨by unfold Kl;rw[decide_eq_true h6];rfl⟩;clear hr HC h6;go_enter Tryz.func197,Tryz.ntmps197;go_wp2_with fail;go_ret;exact⟨by rw[hE.out];rfl,hb⟩
 ·have t1:decide (256<(l.length:Int))=false:=decide_eq_false (by omega)
  cases hq:Q16.rng 0 16 l with
  |false=>
   have hE:Qa (Kl l=1):=⟨by unfold Kl;rw[hq];simp⟩;rw[hq] at HC;clear hr hq;go_enter Tryz.func197,Tryz.ntmps197;go_wp2_with fail;refine HC.out.mono ?_;rintro e w1 ⟨rfl,hbn⟩;go_wp2_with fail;go_ret;exact⟨by rw[hE.out];rfl,hbn⟩
  |true=>
   have h16: ∀n∈l,0<=n/\n<=16:=fun n hn=>by
    have:=List.all_eq_true.1 hq n hn;simpa using this
   have HF:=Qa.mk (fun(W:World) (hb:Below w.heap.size w W)=>Et A cap l W (Kd.Qe hr hb) (by omega) h16);have hE:Qa (Kl l=if J9 l=0 then 5 else if 65536<J9 l then 4 else 0):=⟨by unfold Kl;rw[hq,decide_eq_false h6];rfl⟩;have hbd:=Ig l;rw[hq] at HC;obtain⟨f,hf⟩: ∃f,f=J9 l:=⟨_,rfl⟩;rw[<-hf] at HF hE hbd;have hfb:0<=f/\f<=65536000000:=(by omega);clear hr hq hf hbd h6 h16;by_cases h0:f=0
   ·have t2:(f==0)=true:=by rw[beq_iff_eq];exact h0
    have hE2:Qa (Kl l=5):=⟨by rw[hE.out,if_pos h0]⟩;clear hE h0;go_enter Tryz.func197,Tryz.ntmps197;go_wp2_with fail;refine HC.out.mono ?_;rintro e w1 ⟨rfl,hbn⟩;go_wp2_with fail;refine(HF.out _ hbn).mono ?_;rintro e w2 ⟨rfl,hbn2⟩;replace hbn:=bnx hbn hbn2;clear hbn2;go_wp2_with fail;go_ret;exact⟨by rw[hE2.out];rfl,hbn⟩
   ·have t2:(f==0)=false:=by rw[beq_eq_false_iff_ne];exact h0
    by_cases h1:65536<f
    ·have t3:decide (65536<f)=true:=decide_eq_true h1
     have hE2:Qa (Kl l=4):=⟨by rw[hE.out,if_neg h0,if_pos h1]⟩;clear hE h0 h1;go_enter Tryz.func197,Tryz.ntmps197;go_wp2_with fail;refine HC.out.mono ?_;rintro e w1 ⟨rfl,hbn⟩;go_wp2_with fail;refine(HF.out _ hbn).mono ?_;rintro e w2 ⟨rfl,hbn2⟩;replace hbn:=bnx hbn hbn2;clear hbn2;go_wp2_with fail;go_ret;exact⟨by rw[hE2.out];rfl,hbn⟩
    ·have t3:decide (65536<f)=false:=decide_eq_false h1
     have hE2:Qa (Kl l=0):=⟨by rw[hE.out,if_neg h0,if_neg h1]⟩;clear hE h0 h1;go_enter Tryz.func197,Tryz.ntmps197;go_wp2_with fail;refine HC.out.mono ?_;rintro e w1 ⟨rfl,hbn⟩;go_wp2_with fail;refine(HF.out _ hbn).mono ?_;rintro e w2 ⟨rfl,hbn2⟩;replace hbn:=bnx hbn hbn2;clear hbn2;go_wp2_with fail;go_ret;exact⟨by rw[hE2.out];rfl,hbn⟩
end Pre

namespace Pre
attribute [local go_sem] Qi Qj Qk Ql Qg Qh
open Q15
open Runs Go.Shelf
open Q16 (Q6 Zc)
attribute [local go_sem] Oper.semAt_some
def D9 (l:List Int) (n m:Nat):List Nat:=(List.range m).filter fun i=>decide (rd l i=n)
def Vd (l:List Int) (j:Nat):List Nat:=((List.range j).map fun a=>D9 l (a+1) l.length).flatten
def Yd (l:List Int) (j m:Nat):List Nat:=Vd l j++D9 l (j+1) m
def Z8 (l:List Int):List Nat:=Vd l 16
def Qae (l:List Int) (k:Nat):Nat:=(Z8 l).getD k 0
theorem Cx (l:List Int) (n m:Nat):D9 l n (m+1)=if rd l m=n then D9 l n m++[m] else D9 l n m:=by
 unfold D9;rw[List.range_succ,List.filter_append];by_cases h:rd l m=n
 ·rw[if_pos h];simp[h]
 ·rw[if_neg h];simp[h]
theorem U6 (l:List Int) (j:Nat):Vd l (j+1)=Vd l j++D9 l (j+1) l.length:=by
 unfold Vd;rw[List.range_succ,List.map_append,List.flatten_append];simp
theorem Gg (l:List Int) (j:Nat):Yd l j 0=Vd l j:=by simp[Yd,D9]
theorem Cs (l:List Int) (j:Nat):Yd l j l.length=Yd l (j+1) 0:=by rw[Gg,U6];rfl
theorem Gf (l:List Int) (j m:Nat):Yd l j (m+1)=if rd l m=((j+1:Nat):Int) then Yd l j m++[m] else Yd l j m:=by
 unfold Yd;rw[Cx];by_cases h:rd l m=((j+1:Nat):Int)
 ·rw[if_pos h,if_pos h,List.append_assoc]
 ·rw[if_neg h,if_neg h]
theorem Qax (l:List Int) (n m:Nat): ∀k,D9 l n m <+: D9 l n (m+k)
 |0=>List.prefix_refl _
 |k+1=>by
  refine(Qax l n m k).trans ?_;rw[<-Nat.add_assoc,Cx];by_cases h:rd l (m+k:Nat)=n
  ·rw[if_pos h];exact List.prefix_append _ _
  ·rw[if_neg h];exact List.prefix_refl _
theorem C8 (l:List Int) (j:Nat): ∀k,Vd l j <+: Vd l (j+k)
 |0=>List.prefix_refl _
 |k+1=>by
  refine(C8 l j k).trans ?_;rw[<-Nat.add_assoc,U6];exact List.prefix_append _ _
theorem Qeb {l:List Int} {j m:Nat} (hj:j<16) (hm:m<=l.length):Yd l j m <+: Z8 l:=by
 have h1:Yd l j m <+: Yd l j l.length:=by
  unfold Yd;have:=Qax l (j+1) m (l.length-m);rw[show m+(l.length-m)=l.length by omega] at this;exact(List.prefix_append_right_inj _).2 this
 have h2:=C8 l (j+1) (16-(j+1));rw[show j+1+(16-(j+1))=16 by omega] at h2;rw[Cs,Gg] at h1;exact h1.trans h2
theorem ord_at {l:List Int} {j m:Nat} (hj:j<16) (hm:m<l.length) (h:rd l m=((j+1:Nat):Int)):(Yd l j m).length <(Z8 l).length /\(Z8 l).getD (Yd l j m).length 0=m:=by
 have h1:=Qeb hj (show m+1<=l.length by omega);rw[Gf,if_pos h] at h1;obtain⟨t,ht⟩:=h1;rw[<-ht];simp
theorem ordL_mem {l:List Int} {i:Nat} (h:i∈Z8 l):i<l.length/\1<=rd l i/\rd l i<=16:=by
 unfold Z8 Vd D9 at h;simp only[List.mem_flatten,List.mem_map,List.mem_range] at h;obtain⟨_,⟨a,ha,rfl⟩,h⟩:=h;simp at h;omega
def V5 (S B1:Nat) (A B:World):Prop:=Below S A B/\B.heap[B1]? =A.heap[B1]?
theorem V5.trans {S B1:Nat} {A B C:World} (h:V5 S B1 A B) (k:V5 S B1 B C):V5 S B1 A C:=⟨h.1.trans k.1,k.2.trans h.2⟩
theorem V5.putObj {S B1 N:Nat} (h0:S<=N) (h1:B1<N) (W:World) (l:Nat) (o o':Obj) (hl:N<=l) (ho:W.heap[l]? =some o) (hc:o.isCells=false) (hw:o.isWalk=false):V5 S B1 W (W.putObj l o'):=
 ⟨(Below.refl S W).grown (grownBy_putObj' W l o') (by have:=(Array.getElem?_eq_some_iff.1 ho).1;omega) (fun k e=>by cases e;omega),World.putObj_heap_other (by omega)⟩
theorem M9 (F:Fence) (n:Nat) (hF:F.fn 234) (hro:F.round=none) (hn:1<=n) (B1:Nat) (A1:Option Addr) (cap:Nat) (l:List Int) (hl:l.length<=256) (wS w:World) (hr:(Kd.int .i64).C wS A1 l.length l) (hS:Below wS.heap.size wS w)
  (c1:w.cell? ⟨B1,0,none⟩=some (.slice A1 l.length cap)):
  Yg F n Tryz.prog 234 #[.pointer (some ⟨B1,0,none⟩)] (fun k=> #[.int .i64 (Qae l k:Nat)]) (V5 wS.heap.size B1) (Z8 l).length w:=fun L J W hW hY h0 hJd=>by
 clear hJd;have d1:=cnx c1 hW;have hS':=bnx hS hW;have HR:=Qa.mk hr;have HY:=Qa.mk hY;have hlI:(l.length:Int)<=256:=(by omega);clear hY c1 hr hl;refine callsIn_of_wp Tryz.func234 rfl hF ?_ hro;simp only[Tryz.ntmps234,List.size_toArray,List.length_cons,List.length_nil,Nat.reduceAdd,Nat.reduceSub,Array.replicate_succ,Array.replicate_zero,List.push_toArray,List.append_toArray,List.nil_append,List.cons_append];gi_wp2;gi_loopw [3] (fun i wr=> ∃j:Nat,i= .int .i64 ((j:Int)+1)/\j<=16/\wr.cell? ⟨B1,0,none⟩=some (.slice A1 l.length cap)/\Qa (Below wS.heap.size wS wr)/\Qa (J (Yd l j 0).length wr)) (fun i _=>17-(intOf i).toNat)
 case atStart=>exact⟨0,rfl,by omega,d1,⟨hS'⟩,⟨by simpa[Yd,D9,Vd] using h0⟩⟩
 case round=>
  obtain⟨j,rfl,hj,e1,hb,hJs⟩:=hrel;clear d1 hS';have hjI:(j:Int)<=16:=(by omega);by_cases hlt:j<16
  ·have hjI2:(j:Int)+1<=16:=by omega
   have hj16:=Qa.mk hlt;clear hlt hj;gi_wp2;gi_loopw [12] (fun i wr=> ∃m:Nat,i= .int .i64 m/\m<=l.length/\wr.cell? ⟨B1,0,none⟩=some (.slice A1 l.length cap)/\Qa (Below wS.heap.size wS wr)/\Qa (J (Yd l j m).length wr)) (fun i _=>l.length-(intOf i).toNat)
   case atStart=>exact⟨0,rfl,by omega,e1,hb,hJs⟩
   case round=>
    obtain⟨m,rfl,hm,e1',hb',hJm⟩:=hrel;clear e1 hb hJs;by_cases hltm:m<l.length
    ·obtain⟨ad,rfl,hcell⟩:=Qq HR.out hb'.out hltm
     have hmI:(m:Int)<(l.length:Int):=(by omega);have hltm':=Qa.mk hltm;by_cases he:rd l m=((j+1:Nat):Int)
     ·obtain⟨q1,q2⟩:=ord_at hj16.out hltm he
      obtain⟨fn,tmps,assign,body,hy,hR⟩:=HY.out (Yd l j m).length wr q1 hJm.out;rw[show Qae l (Yd l j m).length =m from q2] at hy;have hT:=Qa.mk (show(Yd l j (m+1)).length =(Yd l j m).length +1 by rw[Gf,if_pos he];simp);have he2:(rd l m)=(j:Int)+1:=(by rw[he];omega);rw[he2] at hcell;have hR2:=Qa.mk hR;clear hR he he2 q1 q2 hltm;gi_wp2;refine hR2.out.mono ?_;rintro e W3 ⟨rfl,hJ3,hk3⟩;have b1:=(Q6 hk3.2).trans e1';have hb3:=Qa.mk (hb'.out.trans hk3.1);replace hJ3:=Qa.mk hJ3;clear hR2 e1' hk3 hy;gi_wp2;go_roundw
      case rel=>exact⟨m+1,by go_num,hltm'.out,b1,hb3,⟨by rw[hT.out];exact hJ3.out⟩⟩
      case measure=>have:=hltm'.out;simp[intOf];omega
     ·have hT:=Qa.mk (show(Yd l j (m+1)).length =(Yd l j m).length by rw[Gf,if_neg he])
      obtain⟨x,hx⟩: ∃x,x=rd l m:=⟨_,rfl⟩;rw[<-hx] at hcell he;have t1:(x==(j:Int)+1)=false:=(by rw[beq_eq_false_iff_ne];omega);clear hx he hltm;gi_wp2;refine⟨fun f hf=>(by cases hf),?_⟩;gi_wp2;go_roundw
      case rel=>exact⟨m+1,by go_num,hltm'.out,e1',hb',⟨by rw[hT.out];exact hJm.out⟩⟩
      case measure=>have:=hltm'.out;simp[intOf];omega
    ·obtain rfl:m=l.length:=by omega
     have hJn:=Qa.mk (show J (Yd l (j+1) 0).length wr by rw[<-Cs];exact hJm.out);gi_wp2;go_roundw
     case rel=>exact⟨j+1,by go_num,by have:=hj16.out;omega,e1',hb',hJn⟩
     case measure=>have:=hj16.out;simp[intOf];omega
  ·obtain rfl:j=16:=by omega
   gi_wp2;go_end0;refine⟨⟨_,rfl⟩,?_⟩;have h:=hJs.out;rw[Gg] at h;exact h
theorem La (A:Option Addr) (n c:Nat) (w:World):
  Calls Tryz.prog 226 #[.slice A n c] w fun e w'=>e= .returned (.func (.func 234) #[] #[.pointer (some ⟨w.heap.size,0,none⟩)])/\w'=w.alloc (.cells #[.slice A n c] 22):=by
 go_enter Tryz.func226,Tryz.ntmps226;go_wp2;go_ret;exact⟨rfl,rfl⟩
end Pre

end Go.Proofs.YtnflnicdjioflaaGreatDoor
