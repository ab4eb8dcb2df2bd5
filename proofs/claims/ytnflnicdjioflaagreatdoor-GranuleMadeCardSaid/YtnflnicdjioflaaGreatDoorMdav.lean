/- A part of the proof. -/
import Derived.Test.YtnflnicdjioflaaGreatDoorMdas
import Derived.Test.YtnflnicdjioflaaGreatDoorMdaq
set_option linter.unusedVariables false
set_option linter.unusedSimpArgs false
set_option maxRecDepth 100000
set_option maxHeartbeats 8000000
namespace Go.Proofs.YtnflnicdjioflaaGreatDoor
open Go.RowKit Go.Proofs.YtnflnicdjioflaaGreatDoorW.PrintWords Go.Proofs.YtnflnicdjioflaaGreatDoorW.PrintLast Go.Proofs.YtnflnicdjioflaaGreatDoorW.PrintMore
namespace Bk
attribute [local go_sem] Qi Qj Qk Ql Qg Qh
open Q15
def Ki (k:Nat) (l:List Int):Bool:=F8 (Jl k) (Xt k) (T9 k) l
theorem Fits_yes (k:Nat) (hk:k<8) (A:Option Addr) (cap:Nat) (l:List Int) (w:World) (hL:Xp w) (hr:(Kd.int .i64).C w A l.length l) (hl:l.length<=1000000) (hA:Yo l=true):
  Calls Tryz.prog 186 #[.int .i64 k,.slice A l.length cap] w fun e w'=>e= .returned (.tuple #[.bool (Ki k l),.int .i64 0])/\Below w.heap.size w w':=by
 have hb:=Below.refl w.heap.size w;have HF:=Vp k A cap l w (by omega) (by omega) hr hl;have hE:bkE k l=0:=(by unfold bkE;rw[if_pos (show isB (k:Int)=true from decide_eq_true ⟨by omega,by omega⟩),if_pos hA]);rw[hE] at HF;replace HF:=Qa.mk HF;have HG:=Qa.mk (fun(W:World) (hb:Below w.heap.size w W)=>Ga (Jl k) (Xt k) (T9 k) A cap l W (Uz k) (Vu k) (Kd.Qe hr hb) hl hA);have HL:=Qa.mk (fun(W:World) (hb:Below w.heap.size w W)=>(hL.below hb).form k hk);have hu:=Tryz.underlying194;have hkI:(k:Int)<8:=(by omega);unfold Ki;obtain⟨d,hd⟩: ∃d,d=Jl k:=⟨_,rfl⟩;obtain⟨m,hm⟩: ∃m,m=Xt k:=⟨_,rfl⟩;obtain⟨e,hee⟩: ∃e,e=T9 k:=⟨_,rfl⟩;rw[<-hd,<-hm,<-hee] at HG HL ⊢;clear hE hr hl hd hm hee hL hk;unfold frm at HG;go_enter Tryz.func186,Tryz.ntmps186;go_wp2_with (first|(go_at_call 213;refine HF.out.mono ?_;rintro e w1 ⟨rfl,hbn⟩;obtain⟨l1,l2,l3⟩:=HL.out _ hbn;replace hb:=bnx hb hbn;clear hbn)|(go_at_call 214;refine((HG.out _ hb)).mono ?_;rintro e w' ⟨rfl,hbn⟩;replace hb:=bnx hb hbn;clear hbn));go_ret2;exact⟨rfl,hb⟩
theorem Cost_bad (k:Nat) (hk:k<8) (A:Option Addr) (cap:Nat) (l:List Int) (w:World) (hL:Xp w) (hr:(Kd.int .i64).C w A l.length l) (hl:l.length<=1000) (hA:Yo l=true) (hf:Ki k l=false):
  Calls Tryz.prog 187 #[.int .i64 k,.slice A l.length cap] w fun e w'=>e= .returned (.tuple #[.int .i64 0,.int .i64 4])/\Below w.heap.size w w':=by
 have hb:=Below.refl w.heap.size w;have HF:=Vp k A cap l w (by omega) (by omega) hr (by omega);have hE:bkE k l=0:=(by unfold bkE;rw[if_pos (show isB (k:Int)=true from decide_eq_true ⟨by omega,by omega⟩),if_pos hA]);rw[hE] at HF;replace HF:=Qa.mk HF;have HG:=fun(W:World) (hb:Below w.heap.size w W)=>Ga (Jl k) (Xt k) (T9 k) A cap l W (Uz k) (Vu k) (Kd.Qe hr hb) (by omega) hA
 have HL:=Qa.mk (fun(W:World) (hb:Below w.heap.size w W)=>(hL.below hb).form k hk);have hu:=Tryz.underlying194;have hkI:(k:Int)<8:=(by omega);unfold Ki at hf;rw[hf] at HG;replace HG:=Qa.mk HG;obtain⟨d,hd⟩: ∃d,d=Jl k:=⟨_,rfl⟩;obtain⟨m,hm⟩: ∃m,m=Xt k:=⟨_,rfl⟩;obtain⟨e,hee⟩: ∃e,e=T9 k:=⟨_,rfl⟩;rw[<-hd,<-hm,<-hee] at HG HL;clear hE hr hl hd hm hee hL hk hf;unfold frm at HG;go_enter Tryz.func187,Tryz.ntmps187;go_wp2_with (first|(go_at_call 213;refine HF.out.mono ?_;rintro e w1 ⟨rfl,hbn⟩;obtain⟨l1,l2,l3⟩:=HL.out _ hbn;replace hb:=bnx hb hbn;clear hbn)|(go_at_call 214;refine((HG.out _ hb)).mono ?_;rintro e w' ⟨rfl,hbn⟩;replace hb:=bnx hb hbn;clear hbn));go_ret2;exact⟨rfl,hb⟩
theorem Gs (k:Nat) (hk:k<8) (A:Option Addr) (cap:Nat) (l:List Int) (w:World) (hL:Xp w) (hr:(Kd.int .i64).C w A l.length l) (hl:l.length<=1000) (hcap:l.length<=cap) (hA:Yo l=true) (hf:Ki k l=true):
  Calls Tryz.prog 187 #[.int .i64 k,.slice A l.length cap] w fun e w'=>e= .returned (.tuple #[.int .i64 (Yt k l),.int .i64 0])/\Below w.heap.size w w':=by
 have hb:=Below.refl w.heap.size w;have HF:=Vp k A cap l w (by omega) (by omega) hr (by omega);have hE:bkE k l=0:=(by unfold bkE;rw[if_pos (show isB (k:Int)=true from decide_eq_true ⟨by omega,by omega⟩),if_pos hA]);rw[hE] at HF;replace HF:=Qa.mk HF;have HG:=fun(W:World) (hb:Below w.heap.size w W)=>Ga (Jl k) (Xt k) (T9 k) A cap l W (Uz k) (Vu k) (Kd.Qe hr hb) (by omega) hA
 have HC:=fun(W:World) (hb:Below w.heap.size w W)=>Qbn k hk A cap l W (hL.below hb) (Kd.Qe hr hb) hl hcap hA
 have HL:=Qa.mk (fun(W:World) (hb:Below w.heap.size w W)=>(hL.below hb).form k hk);have hu:=Tryz.underlying194;have hkI:(k:Int)<8:=(by omega);unfold Ki at hf;rw[hf] at HG;replace HG:=Qa.mk HG;obtain⟨c,hc⟩: ∃c,c=Yt k l:=⟨_,rfl⟩;rw[<-hc] at HC ⊢;replace HC:=Qa.mk HC;obtain⟨d,hd⟩: ∃d,d=Jl k:=⟨_,rfl⟩;obtain⟨m,hm⟩: ∃m,m=Xt k:=⟨_,rfl⟩;obtain⟨e,hee⟩: ∃e,e=T9 k:=⟨_,rfl⟩;rw[<-hd,<-hm,<-hee] at HG HL;clear hE hr hl hd hm hee hL hk hf hc;unfold frm at HG;go_enter Tryz.func187,Tryz.ntmps187;go_wp2_with (first|(go_at_call 213;refine HF.out.mono ?_;rintro e w1 ⟨rfl,hbn⟩;obtain⟨l1,l2,l3⟩:=HL.out _ hbn;replace hb:=bnx hb hbn;clear hbn)|(go_at_call 214;refine((HG.out _ hb)).mono ?_;rintro e w' ⟨rfl,hbn⟩;replace hb:=bnx hb hbn;clear hbn)|(go_at_call 215;refine((HC.out _ hb)).mono ?_;rintro e w' ⟨rfl,hbn⟩;replace hb:=bnx hb hbn;clear hbn));go_ret2;exact⟨rfl,hb⟩
end Bk

namespace Bk
attribute [local go_sem] Qi Qj Qk Ql Qg Qh
open Q15
def Jh (k:Nat):List Int:=(Vj k).map fun(n:Nat)=>(n:Int)
theorem Cm (k:Nat):(Jh k).length =(Vj k).length :=by simp[Jh]
theorem O7 (w:World) (e:TypeId) (s:ByteArray):Below w.heap.size w (Go.Lib.bytesWorld w e s):=by
 unfold Go.Lib.bytesWorld World.freeze;refine⟨rfl,rfl,rfl,?_,fun i hi=>Go.Lib.bytesWorld_at_old w e s i hi⟩;simp[World.alloc,World.drew,-World.alloc_eq,-World.drew_eq]
theorem bytes_at (w:World) (e:TypeId) (k i:Nat) (hk:k<8) (hi:i<(Vj k).length):(Go.Lib.bytesWorld w e (Uf k)).cell? ⟨w.heap.size,i,none⟩=some (.int .u8 ((Vj k)[i]+96)):=by
 unfold World.cell?;rw[Go.Lib.bytesWorld_at_new];obtain⟨b,hb,hx⟩:=Qdc hk hi;have h2:i<(Uf k).size :=(by rw[D5];exact hi);rw[getElem?_pos (Uf k) i h2] at hb
 injection hb with hb
 show(Go.Lib.bytesCells w e (Uf k))[i]? =_
 unfold Go.Lib.bytesCells;rw[Array.getElem?_append_left (by simpa using h2),Array.getElem?_map]
 have h3:(Uf k).data[i]? =some b:=by
  rw[Array.getElem?_eq_getElem (show i<(Uf k).data.size from h2)];exact congrArg some hb
 rw[h3,Option.map_some,hx]
theorem M7 (k:Nat) (hk:k<8) (w:World) (hL:Xp w):
  Calls Tryz.prog 193 #[.int .i64 k] w fun e w'=> ∃v,e= .returned v/\(Kd.int .i64).R 3 w' w.heap.size (fun _=>True) v (Jh k)/\Below w.heap.size w w':=by
 have l4:=hL.tab k hk;have hkI:(k:Int)<8:=(by omega);have hc:=Go.Lib.run_convert_string_bytes (P:=Tryz.prog) w 9 107 5 (Uf k) (u:= .string) Tryz.underlying9 Tryz.underlying107 Tryz.underlying5;have hbb:=O7 w 5 (Uf k);have hat:=Qa.mk (fun i hi=>bytes_at w 5 k i hk hi);obtain⟨W1,hW1⟩: ∃W1,W1=Go.Lib.bytesWorld w 5 (Uf k):=⟨_,rfl⟩;obtain⟨cp,hcp⟩: ∃cp,cp=grownCap w (Uf k).size 0 5:=⟨_,rfl⟩;obtain⟨N,hN⟩: ∃N,N=(Vj k).length :=⟨_,rfl⟩;rw[<-hW1] at hbb hat hc;rw[<-hcp,D5,<-hN] at hc
 have hN9:N<=256:=by
  rw[hN];have: ∀k,k<8->(Vj k).length <=256:=(by decide+kernel);exact this k hk
 have HT:Qa (∀i (hi:i<(Vj k).length),(Jh k).take (i+1)=(Jh k).take i++[((Vj k)[i]:Int)]):=⟨fun i hi=>by
  rw[List.take_add_one]
  congr 1
  unfold Jh;rw[List.getElem?_map,List.getElem?_eq_getElem hi]
  rfl⟩
 have HB:=Qa.mk (Wu k hk);have hN':=Qa.mk hN;have hlen:=Qa.mk (Cm k);obtain⟨S,hSe⟩: ∃S,S=Uf k:=⟨_,rfl⟩;rw[<-hSe] at l4 hc;clear hL hW1 hcp hSe hN;go_enter Tryz.func193,Tryz.ntmps193;go_wp2;go_loopw [3,11] (fun o i wr=> ∃k1:Nat,i= .int .i64 k1/\k1<=N/\Qa ((Kd.int .i64).R 3 wr W1.heap.size (fun _=>True) o ((Jh k).take k1))/\Below W1.heap.size W1 wr) (fun _ i _=>N-(intOf i).toNat)
 case atStart=>exact⟨0,rfl,by omega,⟨Kd.Xd _ _ _ _ _⟩,Below.refl _ _⟩
 case round=>
  obtain⟨i,rfl,hi,ho,hbL⟩:=hrel;by_cases hlt:i<N
  ·have hlt2:i<(Vj k).length :=by rw[<-hN'.out];exact hlt
   have hcell:=cnx (hat.out i hlt2) hbL;have hT:=Qa.mk (HT.out i hlt2);have hbd:=HB.out _ (List.getElem_mem hlt2);obtain⟨n,hn⟩: ∃n:Nat,n=(Vj k)[i]:=⟨_,rfl⟩;rw[<-hn] at hT hcell hbd;have hiI:(i:Int)<(N:Int):=(by omega);have f1:IntKind.u8.wrap ((n:Int)+96-97)=(n:Int)-1:=(by rw[show(n:Int)+96-97=(n:Int)-1 by omega];exact IntWalk.u8_in _ (by omega));have f2:IntKind.i64.wrap ((n:Int)-1)=(n:Int)-1:=IntWalk.i64_in _ (by omega);have f3:IntKind.i64.wrap ((n:Int)-1+1)=(n:Int):=(by rw[show(n:Int)-1+1=(n:Int) by omega];exact IntWalk.i64_in _ (by omega));obtain⟨Y,hY⟩: ∃Y,Y=(Jh k).take i:=⟨_,rfl⟩;have hYl:Y.length<=256:=(by rw[hY,List.length_take];omega);rw[<-hY] at ho hT;clear hY hn hlt2;go_wp2_with (first|(at_builtin;refine Kd.Zb (Kd.int .i64) (w0:=W1) W1.heap.size rfl (.tmp 15) (.tmp 20) 22 3 (.int .i64 0) 8 rfl Tryz.underlying22 Zg rfl (by decide) (by omega) u3 Y ((n:Int)) [.int .i64 ((n:Int))] (fun _=>True) (fun _=>False) rfl rfl rfl (fun _ hk=>hk.elim) (fun _ _=>trivial) ho.out (Qa.mk hbL).out (Qa.mk hbL).out.size (by omega) ?_;intro v1 wA hoA hbA hgA hatA;have HOA:=Qa.mk hoA;have HBA:=Qa.mk hbA;clear hoA hbA hgA hatA));go_roundw
   case rel=>exact⟨i+1,by go_num,by omega,⟨by rw[hT.out];exact HOA.out⟩,HBA.out⟩
   case measure=>simp[intOf];omega
  ·obtain rfl:i=N:=by omega
   have hR:=ho.out;rw[List.take_of_length_le (by rw[hlen.out,<-hN'.out];exact Nat.le_refl _)] at hR;have hR2:=Qa.mk hR;clear hR ho;go_wp2;go_ret;exact⟨_,rfl,Kd.Zo hR2.out hbb.size,bnx hbb hbL⟩
end Bk

namespace Pre
attribute [local go_sem] Qi Qj Qk Ql Qg Qh
open Q15
def wdRun (l:List Int):List Nat->Int×Int->List (Int×Int)->List (Int×Int)
 |[],_,out=>out
 |i::is,s,out=>wdRun l is (Uc l s i) (out.set i (Uc l s i))
theorem Qba (l:List Int): ∀(m k:Nat),k+m=(Z8 l).length ->wdRun l ((Z8 l).drop k) (Zu l k).1 (Zu l k).2=(Zu l (Z8 l).length).2
 |0,k,h=>by
  obtain rfl:k=(Z8 l).length :=(by omega);rw[List.drop_length];rfl
 |m+1,k,h=>by
  have hk:k<(Z8 l).length :=(by omega);rw[List.drop_eq_getElem_cons hk];have e:(Z8 l)[k]=(Z8 l).getD k 0:=(by rw[List.getD_eq_getElem?_getD,List.getElem?_eq_getElem hk];rfl);rw[e]
  show wdRun l ((Z8 l).drop (k+1)) (Zu l (k+1)).1 (Zu l (k+1)).2=_
  exact Qba l m (k+1) (by omega)
def Oc (l:List Int):Bool:=((wdRun l (Z8 l) (0,0) (List.replicate l.length (0,0))).zip l).all fun x=>decide (0<=x.1.2/\x.1.2<2^x.2.toNat)
theorem words_lt {l:List Int} (h:Oc l=true) {s:Nat} (hs:s<l.length):0<=rd (Jq l) s/\rd (Jq l) s<2^(rd l s).toNat :=by
 have h1:=Qba l (Z8 l).length 0 (by omega);unfold Oc at h;have e0:Zu l 0=((0,0),List.replicate l.length (0,0)):=rfl;rw[List.drop_zero,e0] at h1;rw[h1] at h;have hl:s<(Zu l (Z8 l).length).2.length :=by rw[Ut];exact hs
 have h2:=List.all_eq_true.1 h (((Zu l (Z8 l).length).2)[s],l[s]) (by
  rw[List.mem_iff_getElem]
  exact⟨s,by rw[List.length_zip];omega,by simp⟩)
 simp only[decide_eq_true_eq] at h2
 have e1:rd (Jq l) s=((Zu l (Z8 l).length).2)[s].2:=by
  unfold rd Jq;simp[List.getD_eq_getElem?_getD,hl]
 have e2:rd l s=l[s]:=by
  unfold rd;simp[List.getD_eq_getElem?_getD,hs]
 rw[e1,e2];exact h2
end Pre
namespace Bk
attribute [local go_sem] Qi Qj Qk Ql Qg Qh
open Q15
theorem lens_pre: ∀k,k<8->0<k->Pre.Kl (Jh k)=0:=by decide+kernel
theorem Qd7:Pre.Kl (Jh 0)≠0:=by decide+kernel
end Bk

namespace Bk
attribute [local go_sem] Qi Qj Qk Ql Qg Qh
open Q15
open Runs Go.Shelf
open Q16 (Q6 Zc Yf)
open Bts (Rws Row Blk Kp Wr WrP Yl)
attribute [local go_sem] Oper.semAt_some
def Ta (B1 B2:Nat) (A B:World):Prop:=B.heap[B1]? =A.heap[B1]? /\B.heap[B2]? =A.heap[B2]?
theorem Ta.trans {B1 B2:Nat} {A B C:World} (h:Ta B1 B2 A B) (k:Ta B1 B2 B C):Ta B1 B2 A C:=⟨k.1.trans h.1,k.2.trans h.2⟩
theorem Ta.putObj {B1 B2 N:Nat} (h1:B1<N) (h2:B2<N) (W:World) (l:Nat) (o o':Obj) (hl:N<=l) (ho:W.heap[l]? =some o) (hc:o.isCells=false) (hw:o.isWalk=false):Ta B1 B2 W (W.putObj l o'):=
 ⟨World.putObj_heap_other (by omega),World.putObj_heap_other (by omega)⟩
theorem M3 (F:Fence) (n:Nat) (hF:F.fn 221) (hro:F.round=none) (hn:1<=n) (B1 B2:Nat) (A:Option Addr) (cap len d:Nat) (hd:1<=d/\d<=4) (hl:len<=1000000) (hcap:len<=cap) (hA:0<len-> ∃ad,A=some ad) (w:World)
  (c1:w.cell? ⟨B1,0,none⟩=some (.int .i64 d)) (c2:w.cell? ⟨B2,0,none⟩=some (.slice A len cap)):
  Yg F n Tryz.prog 221 #[.pointer (some ⟨B1,0,none⟩),.pointer (some ⟨B2,0,none⟩)] (fun k=> #[gSl A (k*d) d]) (Ta B1 B2) (len/d) w:=fun L J W hW hY h0 hJd=>by
 clear hJd;have d1:=cnx c1 hW;have d2:=cnx c2 hW;have HY:=Qa.mk hY;have HA:=Qa.mk hA;have hlI:(len:Int)<=1000000:=(by omega);have hcI:(len:Int)<=(cap:Int):=(by omega);have hdI:1<=(d:Int)/\(d:Int)<=4:=by omega
 have hDV:Qa (∀k p:Nat,p=k*d->(p+d<=len->k<len/d)/\(p<=len-> ¬p+d<=len->k=len/d)):=⟨fun k p hp=>by
  subst hp;refine⟨fun h=> ?_,fun h1 h2=> ?_⟩
  ·have:k+1<=len/d:=(Nat.le_div_iff_mul_le (by omega)).2 (by rw[Nat.add_mul];omega)
   omega
  ·refine Nat.le_antisymm ((Nat.le_div_iff_mul_le (by omega)).2 h1) ?_
   have h3:len/d<k+1:=(Nat.div_lt_iff_lt_mul (by omega)).2 (by rw[Nat.add_mul];omega)
   omega⟩
 clear hY c1 c2 hl hA;refine callsIn_of_wp Tryz.func221 rfl hF ?_ hro;simp only[Tryz.ntmps221,List.size_toArray,List.length_cons,List.length_nil,Nat.reduceAdd,Nat.reduceSub,Array.replicate_succ,Array.replicate_zero,List.push_toArray,List.append_toArray,List.nil_append,List.cons_append];gi_wp2;gi_loopw [4] (fun i wr=> ∃k p:Nat,i= .int .i64 p/\p<=len/\Qa (p=k*d)/\wr.cell? ⟨B1,0,none⟩=some (.int .i64 d)/\wr.cell? ⟨B2,0,none⟩=some (.slice A len cap)/\Qa (J k wr)) (fun i _=>len-(intOf i).toNat)
 case atStart=>exact⟨0,0,rfl,by omega,⟨by omega⟩,d1,d2,⟨h0⟩⟩
 case round=>
  obtain⟨k,p,rfl,hp,hpk,e1,e2,hJ⟩:=hrel;clear d1 d2;have hpI:(p:Int)<=1000000:=(by omega);by_cases hlt:p+d<=len
  ·have hltI:(p:Int)+(d:Int)<=(len:Int):=by omega
   obtain⟨ad,rfl⟩:=HA.out (by omega);obtain⟨fn,tmps,assign,body,hy,hR⟩:=HY.out k wr ((hDV.out k p hpk.out).1 hlt) hJ.out;rw[<-hpk.out] at hy;have hT:=Qa.mk hlt;have hR2:=Qa.mk hR;simp only[gSl] at hy;clear hR hlt hp;gi_wp2;refine hR2.out.mono ?_;rintro e W3 ⟨rfl,hJ3,hk3⟩;have b1:=(Q6 hk3.1).trans e1;have b2:=(Q6 hk3.2).trans e2;replace hJ3:=Qa.mk hJ3;have hq9:Qa (p+d=(k+1)*d):=⟨by rw[hpk.out,Nat.add_mul];omega⟩;clear hR2 e1 e2 hk3 hy;gi_wp2;go_roundw
   case rel=>exact⟨k+1,p+d,by go_num,hT.out,hq9,b1,b2,hJ3⟩
   case measure=>have:=hT.out;simp[intOf];omega
  ·have hnl: ¬(p:Int)+(d:Int)<=(len:Int):=by omega
   have hK:=Qa.mk ((hDV.out k p hpk.out).2 hp hlt);clear hlt;gi_wp2;go_end0;refine⟨⟨_,rfl⟩,?_⟩;rw[<-hK.out];exact hJ.out
def Px (p:Nat) (q:Option Nat) (W:World) (bs:List Blk):Prop:= ∀b∈bs,W.heap[b.g]? =some (.cells b.cs b.t (0,0))/\b.g≠p/\some b.g≠q
theorem q_ne {q q':Option Nat} {W:World} {g:Nat} (hq:q'=q\/ ∃g,q'=some g/\W.heap.size<=g) (hg:g<W.heap.size) (h:some g≠q):some g≠q':=by
 rcases hq with e|⟨z,e,hz⟩
 ·rw[e];exact h
 ·rw[e]
  intro h2;have:=Option.some.inj h2;omega
theorem Px.kp {p:Nat} {q q':Option Nat} {W W':World} {bs:List Blk} (h:Px p q W bs) (hk:Kp p q W W') (hq:q'=q\/ ∃g,q'=some g/\W.heap.size<=g):Px p q' W' bs:=fun b hb=>by
 obtain⟨h1,h2,h3⟩:=h b hb;exact⟨hk.blk h1 h2 h3,h2,q_ne hq (Array.getElem?_eq_some_iff.1 h1).1 h3⟩
def Y9 (p:Nat) (q:Option Nat) (W:World) (A:Option Addr) (n:Nat) (xs:List Int):Prop:=(Kd.int .i64).C W A n xs/\ ∀ad,A=some ad->0<n->ad.block≠p/\some ad.block≠q
theorem Y9.kp {p:Nat} {q q':Option Nat} {W W':World} {A:Option Addr} {n:Nat} {xs:List Int} (h:Y9 p q W A n xs) (hk:Kp p q W W') (hq:q'=q\/ ∃g,q'=some g/\W.heap.size<=g):Y9 p q' W' A n xs:=by
 obtain⟨h1,h2⟩:=h;have h3:=Kd.Xn (enc:=Value.int .i64) (h1:=fun _=>rfl) (d:=(0:Int)) h1;obtain⟨r1,r2,r3⟩:=h3;refine⟨Kd.Z4 (d:=(0:Int)) ⟨r1,r2,fun h0=> ?_⟩,fun ad e h0=> ?_⟩
 ·obtain⟨ad,e,hc⟩:=r3 h0
  obtain⟨g1,g2⟩:=h2 ad e h0;exact⟨ad,e,fun j hj=>hk.cell (hc j hj) (by rw[add_block];exact g1) (by rw[add_block];exact g2)⟩
 ·obtain⟨g1,g2⟩:=h2 ad e h0
  obtain⟨ad',e',hc⟩:=r3 h0;rw[e] at e';cases e';have:=World.block_lt_of_cell? _ _ (hc 0 h0);rw[add_block] at this;exact⟨g1,q_ne hq this g2⟩
theorem Y9.step {p:Nat} {q:Option Nat} {W W':World} {A:Option Addr} {n:Nat} {xs:List Int} (h:Y9 p q W A n xs) (hb:Below W.heap.size W W'):Y9 p q W' A n xs:=⟨Kd.Qe h.1 hb,h.2⟩
theorem Px.step {p:Nat} {q:Option Nat} {W W':World} {bs:List Blk} (h:Px p q W bs) (hb:Below W.heap.size W W'):Px p q W' bs:=h.kp (Kp.of_below hb p q) (.inl rfl)
theorem WrP.step {base p:Nat} {q:Option Nat} {L:List Int} {W W1 W2:World} (h:WrP base p q L W W1) (hb:Below W1.heap.size W1 W2):WrP base p q L W W2:=by
 obtain⟨q1,h1,h2,h3⟩:=h;exact⟨q1,h1.step hb,h2,h3.Zl (hb.mono h3.size)⟩
theorem ownB_of {base p:Nat} {q:Option Nat} {L:List Int} {w W:World} {bs:List Blk} (hw:Wr w base p q L) (h: ∀b∈bs,W.heap[b.g]? =some (.cells b.cs b.t (0,0))/\w.heap.size<=b.g):Px p q W bs:=fun b hb=>by
 obtain⟨h1,h2⟩:=h b hb;exact⟨h1,by have:=Bts.Wr.plt hw;omega,fun e=>by have:=(Bts.Wr.Nb hw _ e.symm).2;omega⟩
theorem Es {base p:Nat} {q:Option Nat} {L:List Int} {w W:World} {A:Option Addr} {n:Nat} {xs:List Int} (hw:Wr w base p q L) (h:(Kd.int .i64).C W A n xs) (hA: ∀ad,A=some ad->w.heap.size<=ad.block):Y9 p q W A n xs:=
 ⟨h,fun ad e _=>⟨by have:=Bts.Wr.plt hw;have:=hA ad e;omega,fun e2=>by have:=(Bts.Wr.Nb hw _ e2.symm).2;have:=hA ad e;omega⟩⟩
theorem WrP.turn {base p:Nat} {q:Option Nat} {L:List Int} {w W W1:World} {row:Option Nat} (h:WrP base p q L w W) (hg:W.grownBy W1 row) (hr: ∀r,row=some r->w.heap.size<=r/\ ∃o:Obj,W.heap[r]? =some o/\o.isCells=false):WrP base p q L w W1:=by
 obtain⟨q',e0,e1,e2⟩:=h;exact⟨q',e0.turn hg (fun r e=>(hr r e).2),e1,e2.grown hg (fun r e=>(hr r e).1)⟩
theorem WrP.next {base p:Nat} {q q1:Option Nat} {L:List Int} {W W1 W2:World} (hq:q1=q\/ ∃g,q1=some g/\W.heap.size<=g) (hk:Kp p q W W1) (h2:WrP base p q1 L W1 W2):WrP base p q L W W2:=Bts.WrP.trans hk hq h2
theorem Gt {base p:Nat} {q:Option Nat} {L:List Int} {v n:Nat} {w:World} (hw:Wr w base p q L) (hn:n<=32) (hv:v<2^n) (hr:L.length+n<=1048576):
  Calls Tryz.prog 84 #[.pointer (some ⟨p,0,none⟩),.int .i64 v,.int .i64 n] w fun e w'=> ∃E:Int,e= .returned (.int .i64 E)/\WrP base p q (L++Bts.Yn v n) w w':=
 (Bts.Qdi base p q L v n w hw hn hv).mono fun e w' ⟨he,h⟩=>⟨_,he,by
  have e2:Bts.Ke L (Bts.Yn v n)=L++Bts.Yn v n:=by unfold Bts.Ke;rw[if_neg (by rw[Bts.Yj];omega)]
  rw[<-e2];exact h⟩
theorem Qbc {base p:Nat} {q:Option Nat} {L:List Int} {v:Nat} {w:World} (hw:Wr w base p q L) (h0:1<=v) (h1:v<2097152) (hr:(L.length:Int)+Z7 v<=1048576):
  Calls Tryz.prog 148 #[.pointer (some ⟨p,0,none⟩),.int .i64 v] w fun e w'=> ∃E:Int,e= .returned (.int .i64 E)/\WrP base p q (L++Bts.Bf v) w w':=
 (Bts.Oq base p q L v w hw h0 h1).mono fun e w' ⟨he,h⟩=>⟨_,he,by
  have e2:Bts.Ke L (Bts.Bf v)=L++Bts.Bf v:=by
   unfold Bts.Ke;rw[if_neg];rw[Bts.Rp];unfold Z7 at hr;rw[Int.toNat_natCast] at hr;omega
  rw[<-e2];exact h⟩
theorem Qdz (v:Nat):((Bts.Bf v).length :Int)=Z7 v:=by
 rw[Bts.Rp];unfold Z7;rw[Int.toNat_natCast]
 push_cast
 rfl
theorem Ie {k:Nat} (hk:k<8) {l:List Int} (h:Yo l=true) {i j:Nat} (hij:i<=j):Zf k l i<=Zf k l j:=by
 induction j with
 |zero=>
      obtain rfl:i=0:=(by omega);exact Int.le_refl _
 |succ j ih=>
  by_cases e:i=j+1
  ·rw[e];exact Int.le_refl _
  ·have h1:=ih (by omega)
   have h2:=Ro hk (g:=Kj (Jl k) l j) (by unfold Kj;rw[List.length_take];have:=Uz k;omega) (Pn h);simp only[Zf];omega
theorem sum_mono {f:Int->Int} {g:List Int} (h: ∀x∈g,0<=f x) {i j:Nat} (hij:i<=j):((g.take i).map f).sum <=((g.take j).map f).sum :=by
 induction g generalizing i j with
 |nil=>simp
 |cons x g ih=>
  cases j with
  |zero=>
       obtain rfl:i=0:=(by omega);exact Int.le_refl _
  |succ j=>
   cases i with
   |zero=>
    have h1:=ih (fun y hy=>h y (by simp[hy])) (i:=0) (j:=j) (by omega);have h2:=h x (by simp);simp only[List.take_zero,List.map_nil,List.sum_nil,List.take_succ_cons,List.map_cons,List.sum_cons] at h1 ⊢;omega
   |succ i=>
    have h1:=ih (fun y hy=>h y (by simp[hy])) (i:=i) (j:=j) (by omega);simp only[List.take_succ_cons,List.map_cons,List.sum_cons];omega
theorem far_grp {p:Nat} {q:Option Nat} {W:World} {ad:Addr} {l:List Int} {d j:Nat} (hd:1<=d) (h:Y9 p q W (some ad) l.length l) (hj:j*d+d<=l.length):Y9 p q W (some (ad.add (j*d))) (Kj d l j).length (Kj d l j):=
 ⟨grp_C hd h.1 hj,fun a e _=>by
  injection e with e
  rw[<-e,add_block]
  exact h.2 ad rfl (by omega)⟩
theorem Qdg (k:Nat) (hk:k<8) (A:Option Addr) (cap:Nat) (w:World) (hr:(Kd.int .i64).C w A (Jh k).length (Jh k)):
  Calls Tryz.prog 151 #[.slice A (Jh k).length cap] w fun e w'=> ∃(A':Option Addr) (n c:Nat) (E:Int),e= .returned (.tuple #[.slice A' n c,.int .i64 E])/\(0<k->n=(Jh k).length /\(Kd.int .i64).C w' A' n (Pre.Jq (Jh k))/\ ∀ad,A'=some ad->w.heap.size<=ad.block)/\Below w.heap.size w w':=by
 have hl:(Jh k).length <=1000000:=by
  rw[Cm];have: ∀k,k<8->(Vj k).length <=256:=(by decide+kernel);have:=this k hk;omega
 by_cases h0:0<k
 ·refine(Pre.Lv A cap (Jh k) w hr (lens_pre k hk h0)).mono ?_
  rintro e w' ⟨v,rfl,hR,hb⟩;have hbd:=(Kd.Q9 hR).1;obtain⟨A',c,rfl,_,hC⟩:=Kd.Qu hR;rw[Pre.Uy] at hC;exact⟨A',_,c,0,rfl,fun _=>⟨Pre.Uy _,by rw[Pre.Uy];exact hC,fun ad e=>by subst e;exact(hbd ad.block rfl).2.1⟩,hb⟩
 ·obtain rfl:k=0:=by omega
  refine(Pre.Codes_no A cap (Jh 0) w hr hl Qd7).mono ?_;rintro e w' ⟨rfl,hb⟩;exact⟨none,0,0,_,rfl,fun h=>absurd h (by omega),hb⟩
end Bk

namespace Sec
attribute [local go_sem] Qi Qj Qk Ql Qg Qh
open Q15
open Bk
structure Ok (ws l:List Int):Prop where
 wid: ∀x∈ws,1<=x/\x<=128
 len:ws.length<=128
 sum:ws.sum=l.length
 vals:Yo l=true
theorem Vw {ws:List Int} (h: ∀x∈ws,1<=x/\x<=128):ws.length<=ws.sum/\ws.sum<=128*ws.length:=by
 induction ws with
 |nil=>simp
 |cons x ws ih=>
  have h1:=h x (by simp);have h2:=ih (fun y hy=>h y (by simp[hy]));simp only[List.sum_cons,List.length_cons]
  push_cast
  omega
theorem Qat (A:Option Addr) (cap:Nat) (ws l:List Int) (w:World) (hr:(Kd.int .i64).C w A ws.length ws) (hok:Ok ws l):
  Calls Tryz.prog 185 #[.slice A ws.length cap] w fun e w'=>e= .returned (.tuple #[.int .i64 l.length,.bool true])/\Below w.heap.size w w':=by
 have HR:=Qa.mk hr;have hlI:(ws.length:Int)<=128:=(by have:=hok.len;omega);have HW:Qa (∀k,k<ws.length->1<=rd ws k/\rd ws k<=128):=⟨fun k hk=>hok.wid _ (Qt ws k hk)⟩
 have HB:Qa (∀k,0<=(ws.take k).sum /\(ws.take k).sum <=16384):=⟨fun k=>by
  have h:=Vw (ws:=ws.take k) (fun x hx=>hok.wid x (List.mem_of_mem_take hx));have h2:(ws.take k).length <=ws.length:=(by rw[List.length_take];omega);have:=hok.len
  omega⟩
 have HE:=Qa.mk hok.sum;obtain⟨N,hN⟩: ∃N:Int,N=l.length:=⟨_,rfl⟩;rw[<-hN] at HE ⊢;clear hr hok hN;go_enter Tryz.func185,Tryz.ntmps185;go_wp2;go_loopw [4,9] (fun s i wr=> ∃(k:Nat) (z:Int),s= .int .i64 z/\i= .int .i64 k/\k<=ws.length/\Qa (z=(ws.take k).sum)/\Below w.heap.size w wr) (fun _ i _=>ws.length-(intOf i).toNat)
 case atStart=>exact⟨0,0,rfl,rfl,by omega,⟨by simp⟩,Below.refl _ _⟩
 case round=>
  obtain⟨k,z,rfl,rfl,hk,hz,hb⟩:=hrel;by_cases hlt:k<ws.length
  ·obtain⟨ad,rfl,hcell⟩:=Qq HR.out hb hlt
   have hkI:(k:Int)<(ws.length:Int):=(by omega);have hx9:=HW.out k hlt;have h1:=HB.out k;rw[<-hz.out] at h1;have hT:Qa ((ws.take (k+1)).sum =z+rd ws k):=⟨by rw[Qx ws k hlt,List.sum_append,hz.out];simp⟩;obtain⟨x,hx⟩: ∃x,x=rd ws k:=⟨_,rfl⟩;rw[<-hx] at hcell hx9 hT;have t1:decide (x<1)=false:=decide_eq_false (by omega);have t2:decide (128<x)=false:=decide_eq_false (by omega);clear hx;go_wp2;go_roundw
   case rel=>exact⟨k+1,z+x,by go_num,by go_num,by omega,⟨by rw[hT.out]⟩,hb⟩
   case measure=>simp[intOf];omega
  ·obtain rfl:k=ws.length:=by omega
   have hz2:=hz.out;rw[List.take_length,HE.out] at hz2;have hzN:=Qa.mk hz2;clear hz hz2;go_wp2;go_ret2;exact⟨by rw[hzN.out];rfl,hb⟩
theorem Dk (A B:Option Addr) (c1 c2:Nat) (ws l:List Int) (w:World) (hL:Xp w) (hr:(Kd.int .i64).C w A ws.length ws) (hr2:(Kd.int .i64).C w B l.length l) (hok:Ok ws l):
  Calls Tryz.prog 140 #[.slice A ws.length c1,.slice B l.length c2] w fun e w'=>e= .returned (.int .i64 0)/\Below w.heap.size w w':=by
 have hb:=Below.refl w.heap.size w;have HR:=Qa.mk (Qat A c1 ws l w hr hok);have hl9:l.length<=1000000:=(by have:=Vw hok.wid;have:=hok.len;have:=hok.sum;omega);have HF:=Qa.mk (fun(W:World) (hb:Below w.heap.size w W)=>Fits_yes 0 (by omega) B c2 l W (hL.below hb) (Kd.Qe hr2 hb) hl9 hok.vals);obtain⟨F,hF⟩: ∃F,F=Ki 0 l:=⟨_,rfl⟩;rw[<-hF] at HF;clear hr hr2 hok hF hL hl9;go_enter Tryz.func140,Tryz.ntmps140;go_wp2_with (first|(go_at_call 185;refine(HR.out).mono ?_;rintro e w' ⟨rfl,hbn⟩;replace hb:=bnx hb hbn;clear hbn)|(go_at_call 186;refine((HF.out _ hb)).mono ?_;rintro e w' ⟨rfl,hbn⟩;replace hb:=bnx hb hbn;clear hbn));go_ret;exact⟨rfl,hb⟩
theorem Nl (v:Int) (w:World) (h0: -1000000<=v) (h1:v<=1000000):
  Calls Tryz.prog 142 #[.int .i64 v] w fun e w'=>e= .returned (.int .i64 (Z7 v))/\Below w.heap.size w w':=by
 have hb:=Below.refl w.heap.size w;obtain⟨G,hG⟩: ∃G,G=Z7 v:=⟨_,rfl⟩;rw[<-hG];replace hG:=Qa.mk hG;go_enter Tryz.func142,Tryz.ntmps142;go_wp2;go_loopw [0,3] (fun x o wr=> ∃u n:Int,x= .int .i64 u/\o= .int .i64 n/\ -1000000<=u/\u<=1000000/\1<=n/\n+2*u<=2000100/\n<=2000100/\Qa (G+1=n+Z7 u)/\Below w.heap.size w wr) (fun x _ _=>(intOf x).toNat)
 case atStart=>exact⟨v,1,rfl,rfl,h0,h1,by omega,by omega,by omega,⟨by rw[hG.out];omega⟩,hb⟩
 case round=>
  obtain⟨u,n,rfl,rfl,hu0,hu1,hn0,hnu,hn1,hg,hb⟩:=hrel;by_cases h2:1<u
  ·have hs:=Qa.mk (Cg h2)
   have hd:Int.tdiv u 2=u/2:=Int.tdiv_eq_ediv_of_nonneg (by omega);obtain⟨q,hq⟩: ∃q,q=u/2:=⟨_,rfl⟩;rw[<-hq] at hs hd;have hq1:1<=q/\q+1<=u:=(by omega);clear hq;go_wp2;go_roundw
   case rel=>exact⟨q,n+2,by go_num,by go_num,by omega,by omega,by omega,by omega,by omega,⟨by have:=hg.out;have:=hs.out;omega⟩,hb⟩
   case measure=>simp[intOf];omega
  ·have hs:=Qa.mk (Im (v:=u) (by omega))
   have hr:Qa (n=G):=⟨by have:=hg.out;have:=hs.out;omega⟩;go_wp2;go_ret;exact⟨by rw[<-hr.out];rfl,hb⟩
end Sec

namespace Bk
attribute [local go_sem] Qi Qj Qk Ql Qg Qh
open Bts
def BW (k:Nat):Prop:= ∀(base p:Nat) (q:Option Nat) (L:List Int) (A:Option Addr) (cap:Nat) (l:List Int) (w:World) (hw:Wr w base p q L) (hB4:4<=base) (hL:Xp w) (hr:Y9 p q w A l.length l) (hl:l.length<=1000) (hcap:l.length<=cap) (hA:Yo l=true) (hf:Ki k l=true) (hroom:(L.length:Int)+Yt k l<=1048576),
  Calls Tryz.prog 150 #[.pointer (some ⟨p,0,none⟩),.int .i64 k,.slice A l.length cap] w fun e w'=>e= .returned (.int .i64 0)/\ ∃bs:List Int,(bs.length:Int)=Yt k l/\WrP base p q (L++bs) w w'
end Bk

namespace Bk
attribute [local go_sem] Qi Qj Qk Ql Qg Qh
open Q15
open Runs Go.Shelf
open Q16 (Q6 Zc Yf)
open Q21 (Qb Qf)
open Bts
attribute [local go_sem] Oper.semAt_some
theorem bWrite_3 (base p:Nat) (q:Option Nat) (L:List Int) (k:Nat) (hk:k<8) (A:Option Addr) (cap:Nat) (l:List Int) (w:World) (hw:Wr w base p q L) (hB4:4<=base) (hL:Xp w) (hr:Y9 p q w A l.length l) (hl:l.length<=1000) (hcap:l.length<=cap) (hA:Yo l=true) (hf:Ki k l=true) (hroom:(L.length:Int)+Yt k l<=1048576) (hesc:T9 k=false) (hk0: ¬0<k):
  Calls Tryz.prog 150 #[.pointer (some ⟨p,0,none⟩),.int .i64 k,.slice A l.length cap] w fun e w'=>e= .returned (.int .i64 0)/\ ∃bs:List Int,(bs.length:Int)=Yt k l/\WrP base p q (L++bs) w w':=by
 have hkI:(k:Int)<8:=(by omega);have hu:=Tryz.underlying194;have HR:=Qa.mk hr;have hl':=Qa.mk hl;have HL:=Qa.mk hL;have HW:=Qa.mk hw;have HCost:=Qa.mk (fun(W:World) (hb:Below w.heap.size w W)=>Gs k hk A cap l W (hL.below hb) (Kd.Qe hr.1 hb) hl hcap hA hf);have HLn:=Qa.mk (fun(W:World) (hb:Below w.heap.size w W)=>Dn base p q L W (hw.step hb))
 have hc9:0<=Yt k l/\Yt k l<=104000:=by
  have h1:=Y4 hk hA (l.length/Jl k);have h2:l.length/Jl k<=l.length:=Nat.div_le_self _ _;unfold Yt;omega
 have hroom':=Qa.mk hroom;obtain⟨C,hC⟩: ∃C,C=Yt k l:=⟨_,rfl⟩;rw[<-hC] at HCost hc9;have hrc:(L.length:Int)+C<=1048576:=(by rw[hC];exact hroom);replace hC:=Qa.mk hC;obtain⟨Z,hZ⟩: ∃Z:Int,Z=L.length:=⟨_,rfl⟩;have hz9:0<=Z/\Z<=2000000:=(by omega);have hzc:Qa (decide (1048576<Z+C)=false):=⟨decide_eq_false (by omega)⟩;rw[<-hZ] at HLn;replace hZ:=Qa.mk hZ;clear hrc hroom hr hl hL hw;have hmo:Tryz.prog.follows .mixedOrders =true:=(by kernel_rfl);refine(callsIn_wide (n:=3)).1 ?_;refine callsIn_of_wp_marks Tryz.func150 rfl trivial ?_ rfl;simp only[Tryz.ntmps150,List.size_toArray,List.length_cons,List.length_nil,Nat.reduceAdd,Nat.reduceSub,Array.replicate_succ,Array.replicate_zero,List.push_toArray,List.append_toArray,List.nil_append,List.cons_append];gi_wp2_with fail;obtain⟨W0,hW0⟩: ∃W0,W0=(w.alloc (.cells #[.pointer (some ⟨p,0,none⟩)] 69)).alloc (.cells #[.int .i64 k] 3):=⟨_,rfl⟩;have hb0:Below w.heap.size w W0:=(by rw[hW0];exact((Below.refl _ _).alloc (Nat.le_refl _) _).alloc (by simp) _);have c3:W0.cell? ⟨w.heap.size,0,none⟩=some (.pointer (some ⟨p,0,none⟩)):=(by rw[hW0];simp[go_sem]);have c4:W0.cell? ⟨w.heap.size+1,0,none⟩=some (.int .i64 k):=(by rw[hW0];simp[go_sem]);have hR0:=((Rws.start w).alloc #[.pointer (some ⟨p,0,none⟩)] 69).alloc #[.int .i64 k] 3;simp only[World.size_alloc,List.nil_append,List.cons_append] at hR0;rw[<-hW0] at hR0;have h3:=(hR0.blk ⟨w.heap.size, #[.pointer (some ⟨p,0,none⟩)],69⟩ (by simp)).1;have h4:=(hR0.blk ⟨w.heap.size+1, #[.int .i64 k],3⟩ (by simp)).1;dsimp only at h3 h4;clear hR0;rw[<-hW0];clear hW0;refine⟨trivial,(callsIn_wide.2 (HCost.out W0 hb0)).mono ?_⟩;rintro en w1 ⟨rfl,hb1⟩;replace c3:=cnx c3 hb1;replace c4:=cnx c4 hb1;replace h3:=Qv h3 hb1;replace h4:=Qv h4 hb1;replace hb0:=bnx hb0 hb1;clear hb1;gi_wp2_with fail;refine⟨trivial,(callsIn_wide.2 (HLn.out w1 hb0)).mono ?_⟩;rintro en w2 ⟨rfl,hw2⟩;subst hw2;replace hzc:=hzc.out;have hLz:=HL.out.below hb0;obtain⟨l1,l2,l3⟩:=hLz.form k hk;obtain⟨d,hde⟩: ∃d,d=Jl k:=⟨_,rfl⟩;obtain⟨m,hme⟩: ∃m,m=Xt k:=⟨_,rfl⟩;obtain⟨e,hee⟩: ∃e,e=T9 k:=⟨_,rfl⟩;rw[<-hde] at l1;rw[<-hme] at l2;rw[<-hee] at l3;have hd9:=Uz k;have hm9:=Vu k;rw[<-hde] at hd9;rw[<-hme] at hm9;replace hde:=Qa.mk hde;replace hme:=Qa.mk hme;replace hee:=Qa.mk hee;replace hLz:=Qa.mk hLz;obtain⟨W3,hW3⟩: ∃W3,W3=w1:=⟨_,rfl⟩;rw[<-hW3] at hb0 c3 c4 h3 h4 hLz l1 l2 l3 ⊢;clear hW3;gi_wp2_with fail;clear hzc;have HLen0:=fun(W:World) (hb:Below W3.heap.size W3 W)=>M7 k hk W (hLz.out.below hb)
 obtain⟨lz,hlz⟩: ∃lz,lz=Jh k:=⟨_,rfl⟩;rw[<-hlz] at HLen0;have HLen:=Qa.mk HLen0;clear HLen0;replace hlz:=Qa.mk hlz;have hS:Qa (∀w':World,Below W3.heap.size W3 w'->w'.cell? ⟨2,k*3,none⟩=some (.int .i64 d)/\w'.cell? ⟨2,k*3+1,none⟩=some (.int .i64 m)/\w'.cell? ⟨2,k*3+2,none⟩=some (.bool e)/\w'.cell? ⟨w.heap.size+1,0,none⟩=some (.int .i64 k)):=⟨fun w' hb=>⟨cnx l1 hb,cnx l2 hb,cnx l3 hb,cnx c4 hb⟩⟩;refine Go.wpIn_wide.2 (wp_region_noPanic (Qr (S:=fun w'=>w'.cell? ⟨2,k*3,none⟩=some (.int .i64 d)/\w'.cell? ⟨2,k*3+1,none⟩=some (.int .i64 m)/\w'.cell? ⟨2,k*3+2,none⟩=some (.bool e)/\w'.cell? ⟨w.heap.size+1,0,none⟩=some (.int .i64 k)) (ds:=[]) hmo (hS.out _ (Below.refl _ _).drew) (fun hHeld=> ?_)));clear l1 l2 l3
 (refine Tk.tl 0 (.int .i64 k) hHeld ?_)
 (refine Tk.tl 1 (.pointer (some ⟨2,k*3,none⟩)) hHeld ?_)
 (refine Tk.tl 2 (.agg #[.int .i64 d,.int .i64 m,.bool e]) hHeld ?_)
 (refine Tk.tl 3 (.int .i64 k) hHeld ?_)
 have hRw:Qa (Rws W3 W3.drew [] []):=⟨(Rws.start W3).drew⟩;refine join_ (σ:=Value×Nat×Nat) 2 #[true,true,true,true,true,true,true,false,false] (fun s=>[(38,s.1),(9,.pointer (some ⟨s.2.1,0,none⟩)),(10,.pointer (some ⟨s.2.2,0,none⟩))]) (fun s w'=>Rws W3 w' [rI 3 s.1 lz] [⟨s.2.1, #[.int .i64 0,.int .i64 0,.bool false],194⟩,⟨s.2.2, #[.slice none 0 0],22⟩]) ?_ ?_
 ·intro s xj hRw
  obtain⟨v4,n5,n6⟩:=s;replace hRw:=Qa.mk hRw;simp only[Fq,Act.put,Tk.z1,Tk.z2,Tk.z3,Tk.z4,Tk.z5,Tk.z6] at hRw ⊢
  (refine Qd (rs:=[7]) (by kernel_rfl) (by simp) ?_;refine Qc.cons rfl (by decide) (fun K hK=> ?_) Qc.nil)
  have hG:=(hRw.out.blk ⟨n5, #[.int .i64 0,.int .i64 0,.bool false],194⟩ (by simp)).1;have z0:xj.cell? ⟨n5,0,none⟩=some (.int .i64 0):=(by rw[Qs hG];rfl);have y0:=Qf hG 0;have z1:xj.cell? ⟨n5,1,none⟩=some (.int .i64 0):=(by rw[Qs hG];rfl);have y1:=Qf hG 1;have z2:xj.cell? ⟨n5,2,none⟩=some (.bool false):=(by rw[Qs hG];rfl);have y2:=Qf hG 2;have hRx:=hRw.out;clear hG;replace hRx:=Rws.set (G1:=[]) (G2:=[⟨n6, #[.slice none 0 0],22⟩]) (b:=⟨n5, #[.int .i64 0,.int .i64 0,.bool false],194⟩) hRx 0 (.int .i64 d);simp only[List.setIfInBounds_toArray,List.set_cons_zero,List.set_cons_succ,List.nil_append,List.cons_append] at hRx;replace hRx:=Rws.set (G1:=[]) (G2:=[⟨n6, #[.slice none 0 0],22⟩]) (b:=⟨n5, #[.int .i64 d,.int .i64 0,.bool false],194⟩) hRx 1 (.int .i64 m);simp only[List.setIfInBounds_toArray,List.set_cons_zero,List.set_cons_succ,List.nil_append,List.cons_append] at hRx;replace hRx:=Rws.set (G1:=[]) (G2:=[⟨n6, #[.slice none 0 0],22⟩]) (b:=⟨n5, #[.int .i64 d,.int .i64 m,.bool false],194⟩) hRx 2 (.bool e);simp only[List.setIfInBounds_toArray,List.set_cons_zero,List.set_cons_succ,List.nil_append,List.cons_append] at hRx;replace hRx:=Qa.mk hRx;go_simp;go_wp2_with fail;refine hK.out _ _ (hS.out _ hRx.out.below) (fun hHeld=> ?_);clear hK K
  try simp only[Act.put,Tk.z1,Tk.z2,Tk.z3,Tk.z4,Tk.z5,Tk.z6]
  obtain⟨x7,hxN⟩: ∃x,x=(((xj.setCell ⟨n5,0,none⟩ (.int .i64 d)).setCell ⟨n5,1,none⟩ (.int .i64 m)).setCell ⟨n5,2,none⟩ (.bool e)):=⟨_,rfl⟩;have hRy:=hRx.out;rw[<-hxN] at hRy ⊢;replace hRw:=Qa.mk hRy;clear hxN hRx hRy z0 y0 z1 y1 z2 y2
  (refine Qd (rs:=[8]) (by kernel_rfl) (by simp) ?_;refine Qc.cons rfl (by decide) (fun K hK=> ?_) Qc.nil)
  obtain⟨A4,p4,h4e⟩:=Kd.Ze (P6 (hRw.out.row (rI 3 v4 lz) (by simp)));subst h4e;have hG:=(hRw.out.blk ⟨n6, #[.slice none 0 0],22⟩ (by simp)).1;have z0:x7.cell? ⟨n6,0,none⟩=some (.slice none 0 0):=(by rw[Qs hG];rfl);have y0:=Qf hG 0;have hRx:=hRw.out;clear hG;replace hRx:=Rws.set (G1:=[⟨n5, #[.int .i64 d,.int .i64 m,.bool e],194⟩]) (G2:=[]) (b:=⟨n6, #[.slice none 0 0],22⟩) hRx 0 ((.slice A4 lz.length p4));simp only[List.setIfInBounds_toArray,List.set_cons_zero,List.set_cons_succ,List.nil_append,List.cons_append] at hRx;replace hRx:=Qa.mk hRx;go_simp;go_wp2_with fail;refine hK.out _ _ (hS.out _ hRx.out.below) (fun hHeld=> ?_);clear hK K
  try simp only[Act.put,Tk.z1,Tk.z2,Tk.z3,Tk.z4,Tk.z5,Tk.z6]
  obtain⟨x8,hxN⟩: ∃x,x=(x7.setCell ⟨n6,0,none⟩ ((.slice A4 lz.length p4))):=⟨_,rfl⟩;have hRy:=hRx.out;rw[<-hxN] at hRy ⊢;replace hRw:=Qa.mk hRy;clear hxN hRx hRy z0 y0;refine Qo (by kernel_rfl) ?_ _;clear hHeld;refine NoPanic.normal ?_;obtain⟨W5,hW5⟩: ∃W5,W5=x8:=⟨_,rfl⟩;rw[<-hW5] at hRw ⊢;clear hW5;have hR5:=hRw.out;have hb5:=hR5.below;have G5:=hR5.blk ⟨n5, #[.int .i64 d,.int .i64 m,.bool e],194⟩ (by simp);have G6:=hR5.blk ⟨n6, #[.slice A4 lz.length p4],22⟩ (by simp);have hlR:=P6 (hR5.row (rI 3 (.slice A4 lz.length p4) lz) (by simp))
  have hl4: ∀ad,A4=some ad->w.heap.size<=ad.block:=fun ad e=>by
   subst e;have:=((Kd.Q9 hlR).1 ad.block rfl).2.1;have:=hb0.size;omega
  obtain⟨A4',p4',e4,_,hC4⟩:=Kd.Qu hlR;cases e4;have g60:W5.cell? ⟨n6,0,none⟩=some (.slice A4 lz.length p4):=(by rw[Qb G6.1];rfl);have g50:W5.cell? ⟨n5,0,none⟩=some (.int .i64 d):=(by rw[Qb G5.1];rfl);have g51:W5.cell? ⟨n5,1,none⟩=some (.int .i64 m):=(by rw[Qb G5.1];rfl);have g52:W5.cell? ⟨n5,2,none⟩=some (.bool e):=(by rw[Qb G5.1];rfl);have HCo:=Qdg k hk A4 p4 W5 (by rw[<-hlz.out];exact hC4);rw[<-hlz.out] at HCo;replace HCo:=Qa.mk HCo;replace G5:=Qa.mk G5;replace G6:=Qa.mk G6;replace hl4:=Qa.mk hl4;replace hC4:=Qa.mk hC4;clear hlR hR5 hRw hHeld;gi_wp2_with fail;refine⟨trivial,(callsIn_wide.2 HCo.out).mono ?_⟩;rintro en W6 ⟨A6,m6,c6,E6,rfl,hcd,hb6⟩;replace hcd:=Qa.mk hcd;replace g50:=cnx g50 hb6;replace g51:=cnx g51 hb6;replace g52:=cnx g52 hb6;have hz5:=World.block_lt_of_cell? _ _ g50;dsimp only at hz5;clear g60;gi_wp2_with fail;obtain⟨n11,hn11⟩: ∃n11,n11=W6.heap.size:=⟨_,rfl⟩;obtain⟨W7,hW7⟩: ∃W7,W7=W6.alloc (.cells #[.slice A6 m6 c6] 22):=⟨_,rfl⟩;have hR7:=(Rws.start W6).alloc #[.slice A6 m6 c6] 22;simp only[List.nil_append,List.cons_append] at hR7;rw[<-hW7,<-hn11] at hR7;rw[<-hW7,<-hn11];refine⟨trivial,(callsIn_wide.2 (Bh d m e A l.length cap W7)).mono ?_⟩;rintro en Wc ⟨rfl,hWc⟩;obtain⟨n12,hn12⟩: ∃n12,n12=W7.heap.size:=⟨_,rfl⟩;have hsc:Wc.heap.size=n12+2:=(by rw[hWc,hn12];simp);have hRc:=(hR7.alloc #[.int .i64 d,.int .i64 m,.bool e] 194).alloc #[.slice A l.length cap] 22;simp only[World.size_alloc,List.nil_append,List.cons_append] at hRc;rw[<-hWc,<-hn12] at hRc;rw[<-hn12];have b12:Wc.cell? ⟨n12,0,none⟩=some (.int .i64 d):=(by rw[Qb (hRc.blk ⟨n12, #[.int .i64 d,.int .i64 m,.bool e],194⟩ (by simp)).1];rfl);have b13:Wc.cell? ⟨n12+1,0,none⟩=some (.slice A l.length cap):=(by rw[Qb (hRc.blk ⟨n12+1, #[.slice A l.length cap],22⟩ (by simp)).1];rfl);have hb56:=bnx (bnx hb5 hb6) hRc.below;have hbc:Below w.heap.size w Wc:=bnx hb0 hb56
  have hOwn:Px p q Wc [⟨w.heap.size, #[.pointer (some ⟨p,0,none⟩)],69⟩,⟨w.heap.size+1, #[.int .i64 k],3⟩,⟨n5, #[.int .i64 d,.int .i64 m,.bool e],194⟩,⟨n6, #[.slice A4 lz.length p4],22⟩,⟨n11, #[.slice A6 m6 c6],22⟩,⟨n12, #[.int .i64 d,.int .i64 m,.bool e],194⟩,⟨n12+1, #[.slice A l.length cap],22⟩]:=ownB_of HW.out (fun b hb=>by
   have s0:=hb0.size;have s5:=hb5.size;have s6:=hb6.size;have r5:=G5.out.2;have r6:=G6.out.2;have r11:=(hRc.blk ⟨n11, #[.slice A6 m6 c6],22⟩ (by simp)).2;have r12:=(hRc.blk ⟨n12, #[.int .i64 d,.int .i64 m,.bool e],194⟩ (by simp)).2;dsimp only at r5 r6 r11 r12;simp only[List.mem_cons,List.not_mem_nil,or_false] at hb;rcases hb with rfl|rfl|rfl|rfl|rfl|rfl|rfl
   ·exact⟨Qv h3 hb56,Nat.le_refl _⟩
   ·exact⟨Qv h4 hb56,by simp⟩
   ·exact⟨Qv G5.out.1 (bnx hb6 hRc.below),by dsimp only;omega⟩
   ·exact⟨Qv G6.out.1 (bnx hb6 hRc.below),by dsimp only;omega⟩
   ·exact⟨(hRc.blk ⟨n11, #[.slice A6 m6 c6],22⟩ (by simp)).1,by dsimp only;omega⟩
   ·exact⟨(hRc.blk ⟨n12, #[.int .i64 d,.int .i64 m,.bool e],194⟩ (by simp)).1,by dsimp only;omega⟩
   ·exact⟨(hRc.blk ⟨n12+1, #[.slice A l.length cap],22⟩ (by simp)).1,by dsimp only;omega⟩)
  have hFl:Y9 p q Wc A l.length l:=HR.out.step hbc;have hFz:Y9 p q Wc A4 lz.length lz:=Es HW.out (Kd.Qe hC4.out (bnx hb6 hRc.below)) hl4.out
  have hFw:0<k->m6=lz.length/\Y9 p q Wc A6 m6 (Pre.Jq lz):=fun h0=>by
   obtain⟨e1,e2,e3⟩:=hcd.out h0;exact⟨e1,Es HW.out (Kd.Qe e2 hRc.below) (fun ad e=>by have:=e3 ad e;have:=hb0.size;have:=hb5.size;omega)⟩
  have hWrc:=HW.out.step hbc;replace hOwn:=Qa.mk hOwn;replace hFl:=Qa.mk hFl;replace hFz:=Qa.mk hFz;replace hFw:=Qa.mk hFw;replace hWrc:=Qa.mk hWrc;replace hbc:=Qa.mk hbc;replace hsc:=Qa.mk hsc;clear hW7 hn11 hWc hn12 hR7 hRc hb56 hcd hC4 hl4 G5 G6 h3 h4 c3 c4 g50 g51 g52 hz5 hb5 hb6 HR HCo hb0;gi_wp2_with fail
  have hAs:Qa (0<l.length-> ∃ad,A=some ad):=⟨fun h=>by
   obtain⟨ad,e,_⟩:=Qq hFl.out.1 (Below.refl _ _) h
   exact⟨ad,e⟩⟩
  refine Yy rfl (by omega) (gf:=221) (lb:= #[.pointer (some ⟨n12,0,none⟩),.pointer (some ⟨n12+1,0,none⟩)]) rfl trivial (enters_of Tryz.func221 (by kernel_rfl) rfl)
   (M3 Fence.wide _ trivial rfl (by omega) n12 (n12+1) A cap l.length d hd9 (by have:=hl'.out;omega) hcap hAs.out Wc b12 b13)
   (fun h k=>h.trans k) (fun W l' o o' hl'=>Ta.putObj (N:=Wc.heap.size) (by have:=hsc.out;omega) (by have:=hsc.out;omega) W l' o o' hl') (Below.refl _ _) (fun _=>rfl)
   (fun j W=> ∃bs:List Int,(bs.length:Int)=Zf k l j/\WrP base p q (L++bs) Wc W)
   ?own ?start
   (fun j=>{tmps:= #[.pointer (some ⟨p,0,none⟩),.int .i64 k,.slice A l.length cap,.pointer (some ⟨w.heap.size,0,none⟩),.pointer (some ⟨w.heap.size+1,0,none⟩),undef,.int .i64 0,.int .i64 C,.int .i64 0,.pointer (some ⟨n5,0,none⟩),.pointer (some ⟨n6,0,none⟩),.pointer (some ⟨n11,0,none⟩),.int .i64 E6,gSl A (j*d) d,undef,undef,undef,undef,.pointer (some ⟨p,0,none⟩),.bool false,.tuple #[.int .i64 C,.int .i64 0],.int .i64 k,.slice A l.length cap,.tuple #[.int .i64 C,.int .i64 0],.int .i64 C,.int .i64 0,.int .i64 0,.bool false,undef,.pointer (some ⟨p,0,none⟩),.int .i64 Z,.int .i64 C,.int .i64 (Z+C),.bool false,.int .i64 k,.pointer (some ⟨2,k*3,none⟩),.agg #[.int .i64 d,.int .i64 m,.bool e],.int .i64 k,.slice A4 lz.length p4,.tuple #[.slice A6 m6 c6,.int .i64 E6],.slice A4 lz.length p4,.tuple #[.slice A6 m6 c6,.int .i64 E6],.slice A6 m6 c6,.int .i64 E6,.agg #[.int .i64 d,.int .i64 m,.bool e],.slice A l.length cap,.func (.func 221) #[] #[.pointer (some ⟨n12,0,none⟩),.pointer (some ⟨n12+1,0,none⟩)],gSl A (j*d) d,undef,undef,undef,undef,undef,undef,undef,undef,undef,undef,undef,undef,undef,undef,undef,undef,undef,undef,undef,undef,undef,undef,undef,undef,undef,undef,undef,undef,undef,undef,undef,undef,undef,undef,undef,undef,undef,undef,undef,undef,undef,undef,undef,undef,undef,undef],defers:=[]}) ?assign ?body ?done
  case own=>exact fun j W W' row ⟨bs,e1,e2⟩ hg hrow=>⟨bs,e1,WrP.turn e2 hg (fun r e=>⟨(hrow r e).1,(hrow r e).2⟩)⟩
  case start=>exact⟨[],rfl,by rw[List.append_nil];exact Bts.WrP.refl hWrc.out⟩
  case assign=>
   intro l' j W K _ hK;gi_wp2;exact hK
  case body=>
   rintro Lr j W ⟨bs,hbs,q1,hWr,hq1,hkp⟩ hj;obtain⟨ad,rfl⟩:=hAs.out (by have:=Ex hd9.1 hj;omega);have hjd:=Ex hd9.1 hj;have hO:=hOwn.out.kp hkp hq1;have hFl1:=hFl.out.kp hkp hq1;have hFz1:=hFz.out.kp hkp hq1;have hFw1:0<k->m6=lz.length/\Y9 p q1 W A6 m6 (Pre.Jq lz):=fun h0=>⟨(hFw.out h0).1,(hFw.out h0).2.kp hkp hq1⟩
   have hGf:=far_grp hd9.1 hFl1 hjd;have hgl:=Qcv hjd;have hga:=Pn (d:=d) (j:=j) hA;have hst:Zf k l (j+1)=Zf k l j+F9 k (Kj d l j):=(by rw[hde.out];rfl);have hmono:Zf k l (j+1)<=Yt k l:=Ie hk hA (show j+1<=l.length/Jl k by rw[<-hde.out];exact hj);have hc09:=Y4 hk hA j;obtain⟨ag,hag⟩: ∃ag,ag=ad.add (j*d):=⟨_,rfl⟩;obtain⟨gr,hgr⟩: ∃gr,gr=Kj d l j:=⟨_,rfl⟩;rw[<-hag,<-hgr] at hGf;rw[<-hgr] at hgl hga hst;obtain⟨c0,hc0⟩: ∃c0,c0=Zf k l j:=⟨_,rfl⟩;rw[<-hc0] at hst hbs hc09;obtain⟨bT,hbTe⟩: ∃bT:Nat->Int,bT=fun i=>((gr.take i).map (J4 m e)).sum :=⟨_,rfl⟩
   have hbT0:bT 0=0:=(by rw[hbTe];simp);have hbTs: ∀i,i<d->bT (i+1)=bT i+J4 m e (rd gr i):=fun i hi=>by rw[hbTe];dsimp only;rw[Qx gr i (by omega),List.map_append,List.sum_append];simp
   have hbTm: ∀i,i<=d->bT i<=bT d:=fun i hi=>by rw[hbTe];exact sum_mono (fun x hx=>(Pj hm9 (Jd hga hx)).1) hi
   have hbTd:bT d=besS k gr:=(by rw[hbTe,<-hgl];dsimp only;rw[List.take_length,hme.out,hee.out];rfl);have hwb:=Qcj hk gr;have hE:F9 k gr=(if 0<k then wlI k gr else 0)+besS k gr:=rfl;obtain⟨E0,hE0⟩: ∃E0:Int,E0=(if 0<k then wlI k gr else 0):=⟨_,rfl⟩;rw[<-hE0] at hE;obtain⟨L1,hL1⟩: ∃L1,L1=L++bs:=⟨_,rfl⟩;rw[<-hL1] at hWr;have hL1l:(L1.length:Int)=L.length+c0:=(by rw[hL1,List.length_append,<-hbs];push_cast;rfl);have hRm:(L1.length:Int)+(E0+bT d)<=1048576:=(by have:=hroom'.out;omega);have hfin: ∀bs2:List Int,(bs2.length:Int)=E0+bT d->((bs++bs2).length :Int)=Zf k l (j+1):=fun bs2 h=>by rw[List.length_append];push_cast;omega
   simp only[gSl];rw[<-hag];have q3:W.cell? ⟨w.heap.size,0,none⟩=some (.pointer (some ⟨p,0,none⟩)):=(by rw[Qb (hO ⟨w.heap.size, #[.pointer (some ⟨p,0,none⟩)],69⟩ (by simp)).1];rfl);have q4:W.cell? ⟨w.heap.size+1,0,none⟩=some (.int .i64 k):=(by rw[Qb (hO ⟨w.heap.size+1, #[.int .i64 k],3⟩ (by simp)).1];rfl);have q50:W.cell? ⟨n5,0,none⟩=some (.int .i64 d):=(by rw[Qb (hO ⟨n5, #[.int .i64 d,.int .i64 m,.bool e],194⟩ (by simp)).1];rfl);have q51:W.cell? ⟨n5,1,none⟩=some (.int .i64 m):=(by rw[Qb (hO ⟨n5, #[.int .i64 d,.int .i64 m,.bool e],194⟩ (by simp)).1];rfl);have q52:W.cell? ⟨n5,2,none⟩=some (.bool e):=(by rw[Qb (hO ⟨n5, #[.int .i64 d,.int .i64 m,.bool e],194⟩ (by simp)).1];rfl);have q60:W.cell? ⟨n6,0,none⟩=some (.slice A4 lz.length p4):=(by rw[Qb (hO ⟨n6, #[.slice A4 lz.length p4],22⟩ (by simp)).1];rfl);have q11:W.cell? ⟨n11,0,none⟩=some (.slice A6 m6 c6):=(by rw[Qb (hO ⟨n11, #[.slice A6 m6 c6],22⟩ (by simp)).1];rfl);have hz5:=World.block_lt_of_cell? _ _ q50;dsimp only at hz5;replace hO:=Qa.mk hO;replace hGf:=Qa.mk hGf;replace hWr:=Qa.mk hWr;replace hq1:=Qa.mk hq1;replace hkp:=Qa.mk hkp;replace hbT0:=Qa.mk hbT0;replace hbTs:=Qa.mk hbTs;replace hbTm:=Qa.mk hbTm;replace hRm:=Qa.mk hRm;replace hfin:=Qa.mk hfin;replace hga:=Qa.mk hga;replace hbs:=Qa.mk hbs;replace hL1:=Qa.mk hL1;clear hbTe hbTd hst hc0 hgr hag hmono hFl1 hjd hj hL1l hroom';have hgl:=Qa.mk hgl;obtain rfl:e=false:=(by rw[hee.out];exact hesc);have hk0I:decide ((0:Int)<(k:Int))=false:=decide_eq_false (by omega);have hP3:Qa (∃b2:List Int,(b2.length:Int)=E0+bT 0/\WrP base p q1 (L1++b2) W W):=⟨[],by rw[hbT0.out,hE0,if_neg hk0];rfl,by rw[List.append_nil];exact Bts.WrP.refl hWr.out⟩;clear hFw1 hFz1 hwb hE0 hE;gi_wp2_with fail;obtain⟨wz,hwz⟩: ∃wz:World,wz=W:=⟨_,rfl⟩;have hPz:Qa (∃b2:List Int,(b2.length:Int)=E0+bT 0/\WrP base p q1 (L1++b2) W wz):=(by rw[hwz];exact hP3);rw[<-hwz];clear hwz hP3 q3 q4 q50 q51 q52 q60 q11 hz5;gi_wp2_with fail;obtain⟨wo,hwo⟩: ∃wo:World,wo=wz:=⟨_,rfl⟩;rw[<-hwo] at hPz ⊢;clear hwo;gi_loopw [65] (fun x wr=> ∃i:Nat,x= .int .i64 i/\i<=d/\Qa (∃b2:List Int,(b2.length:Int)=E0+bT i/\WrP base p q1 (L1++b2) W wr)) (fun x _=>d-(intOf x).toNat)
   case atStart=>exact⟨0,rfl,by omega,hPz⟩
   case round=>
    obtain⟨i,rfl,hi,hrl⟩:=hrel;obtain⟨b2,hb2,q2,hWr2,hq2,hkp2⟩:=hrl.out;replace hb2:=Qa.mk hb2;replace hWr2:=Qa.mk hWr2;replace hq2:=Qa.mk hq2;replace hkp2:=Qa.mk hkp2;by_cases hlt:i<d
    ·have hO2:=hO.out.kp hkp2.out hq2.out
     have hG2:=hGf.out.kp hkp2.out hq2.out;obtain⟨ad2,had2,hcell⟩:=Qq hG2.1 (Below.refl _ _) (show i<gr.length by have:=hgl.out;omega);cases had2;have hv:=Jd hga.out (Qt gr i (by have:=hgl.out;omega));have hbs1:=hbTs.out i hlt;have hbm:=hbTm.out (i+1) (by omega);have hrm:=hRm.out;have hb2l:=hb2.out;obtain⟨v,hve⟩: ∃v,v=rd gr i:=⟨_,rfl⟩;rw[<-hve] at hcell hbs1 hv;have hiI:(i:Int)<(d:Int):=(by omega);have r3:wr.cell? ⟨w.heap.size,0,none⟩=some (.pointer (some ⟨p,0,none⟩)):=(by rw[Qb (hO2 ⟨w.heap.size, #[.pointer (some ⟨p,0,none⟩)],69⟩ (by simp)).1];rfl);replace hO2:=Qa.mk hO2;clear hG2 hve;by_cases hv0:v=0
     ·have hz0:Qa (bT (i+1)=bT i):=⟨by rw[hbs1];unfold J4;rw[if_pos hv0];omega⟩
      clear hbs1 hbm hrm hb2l;subst hv0;gi_wp2;go_roundw
      case rel=>exact⟨i+1,by go_num,by omega,⟨b2,by rw[hb2.out,hz0.out],q2,hWr2.out,hq2.out,hkp2.out⟩⟩
      case measure=>simp[intOf];omega
     ·have hvn:(v==0)=false:=by simpa using hv0
      by_cases hneg:v<0
      ·have hb91:1<=J4 m false v:=by unfold J4;rw[if_neg hv0];split<;>first|(unfold Z7;omega)|omega
       have HP1:Calls Tryz.prog 84 #[.pointer (some ⟨p,0,none⟩),.int .i64 1,.int .i64 1] wr fun en w'=> ∃E:Int,en= .returned (.int .i64 E)/\WrP base p q2 (L1++b2++Yn 1 1) wr w':=Gt (v:=1) (n:=1) hWr2.out (by omega) (by omega) (by rw[List.length_append];omega)
       replace HP1:=Qa.mk HP1;replace hbs1:=Qa.mk hbs1;replace hbm:=Qa.mk hbm;replace hrm:=Qa.mk hrm;replace hb2l:=Qa.mk hb2l;replace hb91:=Qa.mk hb91;gi_wp2_with fail;refine⟨trivial,CallsIn.inRound Lr (callsIn_wide.2 (HP1.out.mono ?_))⟩;rintro en W3 ⟨E3,rfl,q3,hWr3,hq3,hkp3⟩;have hO3:=hO2.out.kp hkp3 hq3;have s3:W3.cell? ⟨w.heap.size,0,none⟩=some (.pointer (some ⟨p,0,none⟩)):=(by rw[Qb (hO3 ⟨w.heap.size, #[.pointer (some ⟨p,0,none⟩)],69⟩ (by simp)).1];rfl);have s50:W3.cell? ⟨n5,0,none⟩=some (.int .i64 d):=(by rw[Qb (hO3 ⟨n5, #[.int .i64 d,.int .i64 m,.bool false],194⟩ (by simp)).1];rfl);have s51:W3.cell? ⟨n5,1,none⟩=some (.int .i64 m):=(by rw[Qb (hO3 ⟨n5, #[.int .i64 d,.int .i64 m,.bool false],194⟩ (by simp)).1];rfl);have s52:W3.cell? ⟨n5,2,none⟩=some (.bool false):=(by rw[Qb (hO3 ⟨n5, #[.int .i64 d,.int .i64 m,.bool false],194⟩ (by simp)).1];rfl);have hn1:(Yn 1 1).length =1:=Yj _ _;obtain⟨B3,hB3⟩: ∃B3,B3=b2++Yn 1 1:=⟨_,rfl⟩;have hB3l:(B3.length:Int)=E0+bT i+1:=(by rw[hB3,List.length_append];have:=hb2.out;push_cast;omega);rw[List.append_assoc,<-hB3] at hWr3;clear hB3 hn1;replace hWr3:=Qa.mk hWr3;replace hq3:=Qa.mk hq3;replace hkp3:=Qa.mk hkp3;replace hB3l:=Qa.mk hB3l;clear HP1 hO3;gi_wp2_with fail;refine Held.Z9 (fun w'=>w'.cell? ⟨n5,1,none⟩=some (.int .i64 m)/\w'.cell? ⟨n5,2,none⟩=some (.bool false)/\Below W3.heap.size W3 w') hmo (by kernel_rfl) (fun⟨_,_,h⟩=>h) ⟨s51,s52,(Below.refl _ _).drew⟩ (fun hHeld=> ?_)
       (refine Tk.tk 0 (.pointer (some ⟨n5,2,none⟩)) hHeld ?_)
       (refine Tk.tk 1 (.bool false) hHeld ?_)
       (refine Tk.tk 2 (.bool false) hHeld ?_)
       (refine Tk.tz 3 hHeld ?_)
       (refine Tk.tz 4 hHeld ?_)
       (refine Tk.tz 5 hHeld ?_)
       (refine Tk.tz 6 hHeld ?_)
       (refine Tk.tz 7 hHeld ?_)
       (refine Tk.tk 8 (.bool false) hHeld ?_)
       refine wpAnyH_done (by kernel_rfl) ?_ _;obtain⟨u51,u52,hh⟩:=hHeld;have hbq:bT (i+1)=bT i+1:=(by rw[hbs1.out];unfold J4;rw[if_neg hv0,if_neg (by simp)]);have hnew:Qa (∃b2:List Int,(b2.length:Int)=E0+bT (i+1)/\WrP base p q1 (L1++b2) W _):=⟨B3,by rw[hB3l.out,hbq];omega,WrP.step (Bts.WrP.trans hkp2.out hq2.out ⟨q3,hWr3.out,hq3.out,hkp3.out⟩) hh⟩;clear s3 s50 s51 s52 u51 u52 hh hbq;gi_wp2;go_roundw
       case rel=>exact⟨i+1,by go_num,by omega,hnew⟩
       case measure=>simp[intOf];omega
      ·have hneg':0<=v:=by omega
       have hb91:1<=J4 m false v:=(by unfold J4;rw[if_neg hv0];split<;>first|(unfold Z7;omega)|omega);have HP1:Calls Tryz.prog 84 #[.pointer (some ⟨p,0,none⟩),.int .i64 0,.int .i64 1] wr fun en w'=> ∃E:Int,en= .returned (.int .i64 E)/\WrP base p q2 (L1++b2++Yn 0 1) wr w':=Gt (v:=0) (n:=1) hWr2.out (by omega) (by omega) (by rw[List.length_append];omega)
       replace HP1:=Qa.mk HP1;replace hbs1:=Qa.mk hbs1;replace hbm:=Qa.mk hbm;replace hrm:=Qa.mk hrm;replace hb2l:=Qa.mk hb2l;replace hb91:=Qa.mk hb91;gi_wp2_with fail;refine⟨trivial,CallsIn.inRound Lr (callsIn_wide.2 (HP1.out.mono ?_))⟩;rintro en W3 ⟨E3,rfl,q3,hWr3,hq3,hkp3⟩;have hO3:=hO2.out.kp hkp3 hq3;have s3:W3.cell? ⟨w.heap.size,0,none⟩=some (.pointer (some ⟨p,0,none⟩)):=(by rw[Qb (hO3 ⟨w.heap.size, #[.pointer (some ⟨p,0,none⟩)],69⟩ (by simp)).1];rfl);have s50:W3.cell? ⟨n5,0,none⟩=some (.int .i64 d):=(by rw[Qb (hO3 ⟨n5, #[.int .i64 d,.int .i64 m,.bool false],194⟩ (by simp)).1];rfl);have s51:W3.cell? ⟨n5,1,none⟩=some (.int .i64 m):=(by rw[Qb (hO3 ⟨n5, #[.int .i64 d,.int .i64 m,.bool false],194⟩ (by simp)).1];rfl);have s52:W3.cell? ⟨n5,2,none⟩=some (.bool false):=(by rw[Qb (hO3 ⟨n5, #[.int .i64 d,.int .i64 m,.bool false],194⟩ (by simp)).1];rfl);have hn1:(Yn 0 1).length =1:=Yj _ _;obtain⟨B3,hB3⟩: ∃B3,B3=b2++Yn 0 1:=⟨_,rfl⟩;have hB3l:(B3.length:Int)=E0+bT i+1:=(by rw[hB3,List.length_append];have:=hb2.out;push_cast;omega);rw[List.append_assoc,<-hB3] at hWr3;clear hB3 hn1;replace hWr3:=Qa.mk hWr3;replace hq3:=Qa.mk hq3;replace hkp3:=Qa.mk hkp3;replace hB3l:=Qa.mk hB3l;clear HP1 hO3;gi_wp2_with fail;refine Held.Z9 (fun w'=>w'.cell? ⟨n5,1,none⟩=some (.int .i64 m)/\w'.cell? ⟨n5,2,none⟩=some (.bool false)/\Below W3.heap.size W3 w') hmo (by kernel_rfl) (fun⟨_,_,h⟩=>h) ⟨s51,s52,(Below.refl _ _).drew⟩ (fun hHeld=> ?_)
       (refine Tk.tk 0 (.pointer (some ⟨n5,2,none⟩)) hHeld ?_)
       (refine Tk.tk 1 (.bool false) hHeld ?_)
       (refine Tk.tk 2 (.bool false) hHeld ?_)
       (refine Tk.tz 3 hHeld ?_)
       (refine Tk.tz 4 hHeld ?_)
       (refine Tk.tz 5 hHeld ?_)
       (refine Tk.tz 6 hHeld ?_)
       (refine Tk.tz 7 hHeld ?_)
       (refine Tk.tk 8 (.bool false) hHeld ?_)
       refine wpAnyH_done (by kernel_rfl) ?_ _;obtain⟨u51,u52,hh⟩:=hHeld;have hbq:bT (i+1)=bT i+1:=(by rw[hbs1.out];unfold J4;rw[if_neg hv0,if_neg (by simp)]);have hnew:Qa (∃b2:List Int,(b2.length:Int)=E0+bT (i+1)/\WrP base p q1 (L1++b2) W _):=⟨B3,by rw[hB3l.out,hbq];omega,WrP.step (Bts.WrP.trans hkp2.out hq2.out ⟨q3,hWr3.out,hq3.out,hkp3.out⟩) hh⟩;clear s3 s50 s51 s52 u51 u52 hh hbq;gi_wp2;go_roundw
       case rel=>exact⟨i+1,by go_num,by omega,hnew⟩
       case measure=>simp[intOf];omega
    ·obtain rfl:d=i:=by omega
     gi_wp2;refine⟨(V7 hkp2.out hWr.out).from _,?_,bs++b2,hfin.out b2 hb2.out,?_⟩
     ·have hB:=hO.out.kp hkp2.out hq2.out
      have g12:=(hO.out ⟨n12, #[.int .i64 d,.int .i64 m,.bool false],194⟩ (by simp)).1;have g13:=(hO.out ⟨n12+1, #[.slice (some ad) l.length cap],22⟩ (by simp)).1;have k12:=(hB ⟨n12, #[.int .i64 d,.int .i64 m,.bool false],194⟩ (by simp)).1;have k13:=(hB ⟨n12+1, #[.slice (some ad) l.length cap],22⟩ (by simp)).1;exact⟨k12.trans g12.symm,k13.trans g13.symm⟩
     ·rw[<-List.append_assoc,<-hL1.out]
      exact Bts.WrP.trans hkp.out hq1.out ⟨q2,hWr2.out,hq2.out,hkp2.out⟩
  case done=>
   rintro D W hD ⟨bs,hbs,hP⟩ hDf;have hgD:=grownBy_putObj' W D (.deferred none);have h1:=WrP.turn hP hgD (fun r e=>by cases e;exact⟨hD,_,hDf,rfl⟩);have hfin:Qa (∃bs:List Int,(bs.length:Int)=Yt k l/\WrP base p q (L++bs) w (W.putObj D (.deferred none))):=⟨bs,by rw[hbs,hde.out];rfl,Bts.WrP.trans (Kp.of_below hbc.out p q) (.inl rfl) h1⟩;clear h1 hP hbs;gi_wp2;refine⟨by simp,.inl ⟨_,_,rfl,run_takeDeferred hDf,?_⟩⟩;exact⟨.int .i64 0,by simp[results,Tryz.f150,go_sem],rfl,hfin.out⟩
 ·intro hJ1
  replace hJ1:=Qa.mk hJ1;refine Qd (rs:=[4,5,6]) (by kernel_rfl) (by simp) ?_;refine Qc.cons rfl (by decide) (fun K hK=> ?_) (Qc.cons rfl (by decide) (fun K hK=> ?_) (Qc.cons rfl (by decide) (fun K hK=> ?_) (Qc.nil)))
  ·go_simp
   refine(HLen.out _ hRw.out.below).mono ?_;rintro e x4 ⟨v4,rfl,Rn,hbn⟩;have hRx:=hRw.out.call hbn (r:=rI 3 v4 lz) (Kd.Yk Rn) (Nat.le_refl _);clear Rn hbn;go_wp2_with fail;refine hK.out _ _ (hS.out _ hRx.below) (fun hHeld=> ?_);clear hK K
   try simp only[Act.put,Tk.z1,Tk.z2,Tk.z3,Tk.z4,Tk.z5,Tk.z6]
   simp only[List.nil_append,List.cons_append] at hRx;replace hRw:=Qa.mk hRx;clear hRx;refine Qd (rs:=[5,6]) (by kernel_rfl) (by simp) ?_;refine Qc.cons rfl (by decide) (fun K hK=> ?_) (Qc.cons rfl (by decide) (fun K hK=> ?_) (Qc.nil))
   ·refine Zi (w1:=x4.alloc (.cells #[.int .i64 0,.int .i64 0,.bool false] 194)) (v:= .pointer (some ⟨x4.heap.size,0,none⟩)) (by kernel_rfl) rfl (by kernel_rfl) ?_
    have hRx:=hRw.out.alloc #[.int .i64 0,.int .i64 0,.bool false] 194;refine hK.out _ _ (hS.out _ hRx.below) (fun hHeld=> ?_);clear hK K
    try simp only[Act.put,Tk.z1,Tk.z2,Tk.z3,Tk.z4,Tk.z5,Tk.z6]
    obtain⟨x5,hxN⟩: ∃x,x=x4.alloc (.cells #[.int .i64 0,.int .i64 0,.bool false] 194):=⟨_,rfl⟩;obtain⟨n5,hnN⟩: ∃n,n=x4.heap.size:=⟨_,rfl⟩;rw[<-hxN] at hRx ⊢;rw[<-hnN] at hRx ⊢;clear hxN hnN;simp only[List.nil_append,List.cons_append] at hRx;replace hRw:=Qa.mk hRx;clear hRx
    (refine Qd (rs:=[6]) (by kernel_rfl) (by simp) ?_;refine Qc.cons rfl (by decide) (fun K hK=> ?_) Qc.nil)
    refine Zi (w1:=x5.alloc (.cells #[.slice none 0 0] 22)) (v:= .pointer (some ⟨x5.heap.size,0,none⟩)) (by kernel_rfl) rfl (by kernel_rfl) ?_;have hRx:=hRw.out.alloc #[.slice none 0 0] 22;refine hK.out _ _ (hS.out _ hRx.below) (fun hHeld=> ?_);clear hK K
    try simp only[Act.put,Tk.z1,Tk.z2,Tk.z3,Tk.z4,Tk.z5,Tk.z6]
    obtain⟨x6,hxN⟩: ∃x,x=x5.alloc (.cells #[.slice none 0 0] 22):=⟨_,rfl⟩;obtain⟨n6,hnN⟩: ∃n,n=x5.heap.size:=⟨_,rfl⟩;rw[<-hxN] at hRx ⊢;rw[<-hnN] at hRx ⊢;clear hxN hnN;simp only[List.nil_append,List.cons_append] at hRx;replace hRw:=Qa.mk hRx;clear hRx;exact Ka (by kernel_rfl) (by kernel_rfl) (hJ1.out (v4,n5,n6) _ hRw.out)
   ·refine Zi (w1:=x4.alloc (.cells #[.slice none 0 0] 22)) (v:= .pointer (some ⟨x4.heap.size,0,none⟩)) (by kernel_rfl) rfl (by kernel_rfl) ?_
    have hRx:=hRw.out.alloc #[.slice none 0 0] 22;refine hK.out _ _ (hS.out _ hRx.below) (fun hHeld=> ?_);clear hK K
    try simp only[Act.put,Tk.z1,Tk.z2,Tk.z3,Tk.z4,Tk.z5,Tk.z6]
    obtain⟨x6,hxN⟩: ∃x,x=x4.alloc (.cells #[.slice none 0 0] 22):=⟨_,rfl⟩;obtain⟨n6,hnN⟩: ∃n,n=x4.heap.size:=⟨_,rfl⟩;rw[<-hxN] at hRx ⊢;rw[<-hnN] at hRx ⊢;clear hxN hnN;simp only[List.nil_append,List.cons_append] at hRx;replace hRw:=Qa.mk hRx;clear hRx
    (refine Qd (rs:=[5]) (by kernel_rfl) (by simp) ?_;refine Qc.cons rfl (by decide) (fun K hK=> ?_) Qc.nil)
    refine Zi (w1:=x6.alloc (.cells #[.int .i64 0,.int .i64 0,.bool false] 194)) (v:= .pointer (some ⟨x6.heap.size,0,none⟩)) (by kernel_rfl) rfl (by kernel_rfl) ?_;have hRx:=hRw.out.alloc #[.int .i64 0,.int .i64 0,.bool false] 194;refine hK.out _ _ (hS.out _ hRx.below) (fun hHeld=> ?_);clear hK K
    try simp only[Act.put,Tk.z1,Tk.z2,Tk.z3,Tk.z4,Tk.z5,Tk.z6]
    obtain⟨x5,hxN⟩: ∃x,x=x6.alloc (.cells #[.int .i64 0,.int .i64 0,.bool false] 194):=⟨_,rfl⟩;obtain⟨n5,hnN⟩: ∃n,n=x6.heap.size:=⟨_,rfl⟩;rw[<-hxN] at hRx ⊢;rw[<-hnN] at hRx ⊢;clear hxN hnN;simp only[List.nil_append,List.cons_append] at hRx;replace hRx:=Rws.intoG (G1:=[]) (G2:=[⟨n6, #[.slice none 0 0],22⟩]) (b:=⟨n5, #[.int .i64 0,.int .i64 0,.bool false],194⟩) hRx;simp only[List.nil_append,List.cons_append] at hRx;replace hRw:=Qa.mk hRx;clear hRx;exact Ka (by kernel_rfl) (by kernel_rfl) (hJ1.out (v4,n5,n6) _ hRw.out)
  ·refine Zi (w1:=W3.drew.alloc (.cells #[.int .i64 0,.int .i64 0,.bool false] 194)) (v:= .pointer (some ⟨W3.drew.heap.size,0,none⟩)) (by kernel_rfl) rfl (by kernel_rfl) ?_
   have hRx:=hRw.out.alloc #[.int .i64 0,.int .i64 0,.bool false] 194;refine hK.out _ _ (hS.out _ hRx.below) (fun hHeld=> ?_);clear hK K
   try simp only[Act.put,Tk.z1,Tk.z2,Tk.z3,Tk.z4,Tk.z5,Tk.z6]
   obtain⟨x5,hxN⟩: ∃x,x=W3.drew.alloc (.cells #[.int .i64 0,.int .i64 0,.bool false] 194):=⟨_,rfl⟩;obtain⟨n5,hnN⟩: ∃n,n=W3.drew.heap.size:=⟨_,rfl⟩;rw[<-hxN] at hRx ⊢;rw[<-hnN] at hRx ⊢;clear hxN hnN;simp only[List.nil_append,List.cons_append] at hRx;replace hRw:=Qa.mk hRx;clear hRx;refine Qd (rs:=[4,6]) (by kernel_rfl) (by simp) ?_;refine Qc.cons rfl (by decide) (fun K hK=> ?_) (Qc.cons rfl (by decide) (fun K hK=> ?_) (Qc.nil))
   ·go_simp
    refine(HLen.out _ hRw.out.below).mono ?_;rintro e x4 ⟨v4,rfl,Rn,hbn⟩;have hRx:=hRw.out.call hbn (r:=rI 3 v4 lz) (Kd.Yk Rn) (Nat.le_refl _);clear Rn hbn;go_wp2_with fail;refine hK.out _ _ (hS.out _ hRx.below) (fun hHeld=> ?_);clear hK K
    try simp only[Act.put,Tk.z1,Tk.z2,Tk.z3,Tk.z4,Tk.z5,Tk.z6]
    simp only[List.nil_append,List.cons_append] at hRx;replace hRw:=Qa.mk hRx;clear hRx
    (refine Qd (rs:=[6]) (by kernel_rfl) (by simp) ?_;refine Qc.cons rfl (by decide) (fun K hK=> ?_) Qc.nil)
    refine Zi (w1:=x4.alloc (.cells #[.slice none 0 0] 22)) (v:= .pointer (some ⟨x4.heap.size,0,none⟩)) (by kernel_rfl) rfl (by kernel_rfl) ?_;have hRx:=hRw.out.alloc #[.slice none 0 0] 22;refine hK.out _ _ (hS.out _ hRx.below) (fun hHeld=> ?_);clear hK K
    try simp only[Act.put,Tk.z1,Tk.z2,Tk.z3,Tk.z4,Tk.z5,Tk.z6]
    obtain⟨x6,hxN⟩: ∃x,x=x4.alloc (.cells #[.slice none 0 0] 22):=⟨_,rfl⟩;obtain⟨n6,hnN⟩: ∃n,n=x4.heap.size:=⟨_,rfl⟩;rw[<-hxN] at hRx ⊢;rw[<-hnN] at hRx ⊢;clear hxN hnN;simp only[List.nil_append,List.cons_append] at hRx;replace hRw:=Qa.mk hRx;clear hRx;exact Ka (by kernel_rfl) (by kernel_rfl) (hJ1.out (v4,n5,n6) _ hRw.out)
   ·refine Zi (w1:=x5.alloc (.cells #[.slice none 0 0] 22)) (v:= .pointer (some ⟨x5.heap.size,0,none⟩)) (by kernel_rfl) rfl (by kernel_rfl) ?_
    have hRx:=hRw.out.alloc #[.slice none 0 0] 22;refine hK.out _ _ (hS.out _ hRx.below) (fun hHeld=> ?_);clear hK K
    try simp only[Act.put,Tk.z1,Tk.z2,Tk.z3,Tk.z4,Tk.z5,Tk.z6]
    obtain⟨x6,hxN⟩: ∃x,x=x5.alloc (.cells #[.slice none 0 0] 22):=⟨_,rfl⟩;obtain⟨n6,hnN⟩: ∃n,n=x5.heap.size:=⟨_,rfl⟩;rw[<-hxN] at hRx ⊢;rw[<-hnN] at hRx ⊢;clear hxN hnN;simp only[List.nil_append,List.cons_append] at hRx;replace hRw:=Qa.mk hRx;clear hRx
    (refine Qd (rs:=[4]) (by kernel_rfl) (by simp) ?_;refine Qc.cons rfl (by decide) (fun K hK=> ?_) Qc.nil)
    go_simp;refine(HLen.out _ hRw.out.below).mono ?_;rintro e x4 ⟨v4,rfl,Rn,hbn⟩;have hRx:=hRw.out.call hbn (r:=rI 3 v4 lz) (Kd.Yk Rn) (Nat.le_refl _);clear Rn hbn;go_wp2_with fail;refine hK.out _ _ (hS.out _ hRx.below) (fun hHeld=> ?_);clear hK K
    try simp only[Act.put,Tk.z1,Tk.z2,Tk.z3,Tk.z4,Tk.z5,Tk.z6]
    simp only[List.nil_append,List.cons_append] at hRx;replace hRw:=Qa.mk hRx;clear hRx;exact Ka (by kernel_rfl) (by kernel_rfl) (hJ1.out (v4,n5,n6) _ hRw.out)
  ·refine Zi (w1:=W3.drew.alloc (.cells #[.slice none 0 0] 22)) (v:= .pointer (some ⟨W3.drew.heap.size,0,none⟩)) (by kernel_rfl) rfl (by kernel_rfl) ?_
   have hRx:=hRw.out.alloc #[.slice none 0 0] 22;refine hK.out _ _ (hS.out _ hRx.below) (fun hHeld=> ?_);clear hK K
   try simp only[Act.put,Tk.z1,Tk.z2,Tk.z3,Tk.z4,Tk.z5,Tk.z6]
   obtain⟨x6,hxN⟩: ∃x,x=W3.drew.alloc (.cells #[.slice none 0 0] 22):=⟨_,rfl⟩;obtain⟨n6,hnN⟩: ∃n,n=W3.drew.heap.size:=⟨_,rfl⟩;rw[<-hxN] at hRx ⊢;rw[<-hnN] at hRx ⊢;clear hxN hnN;simp only[List.nil_append,List.cons_append] at hRx;replace hRw:=Qa.mk hRx;clear hRx;refine Qd (rs:=[4,5]) (by kernel_rfl) (by simp) ?_;refine Qc.cons rfl (by decide) (fun K hK=> ?_) (Qc.cons rfl (by decide) (fun K hK=> ?_) (Qc.nil))
   ·go_simp
    refine(HLen.out _ hRw.out.below).mono ?_;rintro e x4 ⟨v4,rfl,Rn,hbn⟩;have hRx:=hRw.out.call hbn (r:=rI 3 v4 lz) (Kd.Yk Rn) (Nat.le_refl _);clear Rn hbn;go_wp2_with fail;refine hK.out _ _ (hS.out _ hRx.below) (fun hHeld=> ?_);clear hK K
    try simp only[Act.put,Tk.z1,Tk.z2,Tk.z3,Tk.z4,Tk.z5,Tk.z6]
    simp only[List.nil_append,List.cons_append] at hRx;replace hRw:=Qa.mk hRx;clear hRx
    (refine Qd (rs:=[5]) (by kernel_rfl) (by simp) ?_;refine Qc.cons rfl (by decide) (fun K hK=> ?_) Qc.nil)
    refine Zi (w1:=x4.alloc (.cells #[.int .i64 0,.int .i64 0,.bool false] 194)) (v:= .pointer (some ⟨x4.heap.size,0,none⟩)) (by kernel_rfl) rfl (by kernel_rfl) ?_;have hRx:=hRw.out.alloc #[.int .i64 0,.int .i64 0,.bool false] 194;refine hK.out _ _ (hS.out _ hRx.below) (fun hHeld=> ?_);clear hK K
    try simp only[Act.put,Tk.z1,Tk.z2,Tk.z3,Tk.z4,Tk.z5,Tk.z6]
    obtain⟨x5,hxN⟩: ∃x,x=x4.alloc (.cells #[.int .i64 0,.int .i64 0,.bool false] 194):=⟨_,rfl⟩;obtain⟨n5,hnN⟩: ∃n,n=x4.heap.size:=⟨_,rfl⟩;rw[<-hxN] at hRx ⊢;rw[<-hnN] at hRx ⊢;clear hxN hnN;simp only[List.nil_append,List.cons_append] at hRx;replace hRx:=Rws.intoG (G1:=[]) (G2:=[⟨n6, #[.slice none 0 0],22⟩]) (b:=⟨n5, #[.int .i64 0,.int .i64 0,.bool false],194⟩) hRx;simp only[List.nil_append,List.cons_append] at hRx;replace hRw:=Qa.mk hRx;clear hRx;exact Ka (by kernel_rfl) (by kernel_rfl) (hJ1.out (v4,n5,n6) _ hRw.out)
   ·refine Zi (w1:=x6.alloc (.cells #[.int .i64 0,.int .i64 0,.bool false] 194)) (v:= .pointer (some ⟨x6.heap.size,0,none⟩)) (by kernel_rfl) rfl (by kernel_rfl) ?_
    have hRx:=hRw.out.alloc #[.int .i64 0,.int .i64 0,.bool false] 194;refine hK.out _ _ (hS.out _ hRx.below) (fun hHeld=> ?_);clear hK K
    try simp only[Act.put,Tk.z1,Tk.z2,Tk.z3,Tk.z4,Tk.z5,Tk.z6]
    obtain⟨x5,hxN⟩: ∃x,x=x6.alloc (.cells #[.int .i64 0,.int .i64 0,.bool false] 194):=⟨_,rfl⟩;obtain⟨n5,hnN⟩: ∃n,n=x6.heap.size:=⟨_,rfl⟩;rw[<-hxN] at hRx ⊢;rw[<-hnN] at hRx ⊢;clear hxN hnN;simp only[List.nil_append,List.cons_append] at hRx;replace hRx:=Rws.intoG (G1:=[]) (G2:=[⟨n6, #[.slice none 0 0],22⟩]) (b:=⟨n5, #[.int .i64 0,.int .i64 0,.bool false],194⟩) hRx;simp only[List.nil_append,List.cons_append] at hRx;replace hRw:=Qa.mk hRx;clear hRx
    (refine Qd (rs:=[4]) (by kernel_rfl) (by simp) ?_;refine Qc.cons rfl (by decide) (fun K hK=> ?_) Qc.nil)
    go_simp;refine(HLen.out _ hRw.out.below).mono ?_;rintro e x4 ⟨v4,rfl,Rn,hbn⟩;have hRx:=hRw.out.call hbn (r:=rI 3 v4 lz) (Kd.Yk Rn) (Nat.le_refl _);clear Rn hbn;go_wp2_with fail;refine hK.out _ _ (hS.out _ hRx.below) (fun hHeld=> ?_);clear hK K
    try simp only[Act.put,Tk.z1,Tk.z2,Tk.z3,Tk.z4,Tk.z5,Tk.z6]
    simp only[List.nil_append,List.cons_append] at hRx;replace hRw:=Qa.mk hRx;clear hRx;exact Ka (by kernel_rfl) (by kernel_rfl) (hJ1.out (v4,n5,n6) _ hRw.out)
end Bk

end Go.Proofs.YtnflnicdjioflaaGreatDoor
