/- A part of the proof. -/
import Derived.Test.YtnflnicdjioflaaGreatDoorSxar
import Derived.Test.YtnflnicdjioflaaGreatDoorSxaq
set_option linter.unusedVariables false
set_option linter.unusedSimpArgs false
set_option maxRecDepth 100000
set_option maxHeartbeats 8000000
namespace Go.Proofs.YtnflnicdjioflaaGreatDoor
open Go.RowKit Go.Proofs.YtnflnicdjioflaaGreatDoorW.PrintWords Go.Proofs.YtnflnicdjioflaaGreatDoorW.PrintLast Go.Proofs.YtnflnicdjioflaaGreatDoorW.PrintMore
namespace Bk
attribute [local go_sem] Qh Qi Qk Ql Qd Qe
open Q15
def Ke (k:Nat) (l:List Int):Bool:=F4 (Jb k) (Xt k) (Gc k) l
theorem Fits_yes (k:Nat) (hk:k<8) (A:Option Addr) (cap:Nat) (l:List Int) (w:World) (hL:Xn w) (hr:(Kd.int .i64).C w A l.length l) (hl:l.length<=1000000) (hA:Yk l=true):
  Calls Tryz.prog 186 #[.int .i64 k,.slice A l.length cap] w fun e w'=>e= .returned (.tuple #[.bool (Ke k l),.int .i64 0])/\Below w.heap.size w w':=by
 have hb:=Below.refl w.heap.size w;have HF:=Vn k A cap l w (by omega) (by omega) hr hl;have hE:bkE k l=0:=(by unfold bkE;rw[if_pos (show isB (k:Int)=true from decide_eq_true ⟨by omega,by omega⟩),if_pos hA]);rw[hE] at HF;replace HF:=Qa.mk HF;have HG:=Qa.mk (fun(W:World) (hb:Below w.heap.size w W)=>Gd (Jb k) (Xt k) (Gc k) A cap l W (Uu k) (Vp k) (Kd.Qf hr hb) hl hA);have HL:=Qa.mk (fun(W:World) (hb:Below w.heap.size w W)=>(hL.below hb).form k hk);have hu:=Tryz.underlying194;have hkI:(k:Int)<8:=(by omega);unfold Ke;obtain⟨d,hd⟩: ∃d,d=Jb k:=⟨_,rfl⟩;obtain⟨m,hm⟩: ∃m,m=Xt k:=⟨_,rfl⟩;obtain⟨e,hee⟩: ∃e,e=Gc k:=⟨_,rfl⟩;rw[<-hd,<-hm,<-hee] at HG HL ⊢;clear hE hr hl hd hm hee hL hk;unfold frm at HG;go_enter Tryz.func186,Tryz.ntmps186;go_wp2_with (first|(go_at_call 213;refine HF.out.mono ?_;rintro e w1 ⟨rfl,hbn⟩;obtain⟨l1,l2,l3⟩:=HL.out _ hbn;replace hb:=bnx hb hbn;clear hbn)|(go_at_call 214;refine((HG.out _ hb)).mono ?_;rintro e w' ⟨rfl,hbn⟩;replace hb:=bnx hb hbn;clear hbn));go_ret2;exact⟨rfl,hb⟩
theorem Cost_bad (k:Nat) (hk:k<8) (A:Option Addr) (cap:Nat) (l:List Int) (w:World) (hL:Xn w) (hr:(Kd.int .i64).C w A l.length l) (hl:l.length<=1000) (hA:Yk l=true) (hf:Ke k l=false):
  Calls Tryz.prog 187 #[.int .i64 k,.slice A l.length cap] w fun e w'=>e= .returned (.tuple #[.int .i64 0,.int .i64 4])/\Below w.heap.size w w':=by
 have hb:=Below.refl w.heap.size w;have HF:=Vn k A cap l w (by omega) (by omega) hr (by omega);have hE:bkE k l=0:=(by unfold bkE;rw[if_pos (show isB (k:Int)=true from decide_eq_true ⟨by omega,by omega⟩),if_pos hA]);rw[hE] at HF;replace HF:=Qa.mk HF;have HG:=fun(W:World) (hb:Below w.heap.size w W)=>Gd (Jb k) (Xt k) (Gc k) A cap l W (Uu k) (Vp k) (Kd.Qf hr hb) (by omega) hA
 have HL:=Qa.mk (fun(W:World) (hb:Below w.heap.size w W)=>(hL.below hb).form k hk);have hu:=Tryz.underlying194;have hkI:(k:Int)<8:=(by omega);unfold Ke at hf;rw[hf] at HG;replace HG:=Qa.mk HG;obtain⟨d,hd⟩: ∃d,d=Jb k:=⟨_,rfl⟩;obtain⟨m,hm⟩: ∃m,m=Xt k:=⟨_,rfl⟩;obtain⟨e,hee⟩: ∃e,e=Gc k:=⟨_,rfl⟩;rw[<-hd,<-hm,<-hee] at HG HL;clear hE hr hl hd hm hee hL hk hf;unfold frm at HG;go_enter Tryz.func187,Tryz.ntmps187;go_wp2_with (first|(go_at_call 213;refine HF.out.mono ?_;rintro e w1 ⟨rfl,hbn⟩;obtain⟨l1,l2,l3⟩:=HL.out _ hbn;replace hb:=bnx hb hbn;clear hbn)|(go_at_call 214;refine((HG.out _ hb)).mono ?_;rintro e w' ⟨rfl,hbn⟩;replace hb:=bnx hb hbn;clear hbn));go_ret2;exact⟨rfl,hb⟩
theorem Gy (k:Nat) (hk:k<8) (A:Option Addr) (cap:Nat) (l:List Int) (w:World) (hL:Xn w) (hr:(Kd.int .i64).C w A l.length l) (hl:l.length<=1000) (hcap:l.length<=cap) (hA:Yk l=true) (hf:Ke k l=true):
  Calls Tryz.prog 187 #[.int .i64 k,.slice A l.length cap] w fun e w'=>e= .returned (.tuple #[.int .i64 (Yp k l),.int .i64 0])/\Below w.heap.size w w':=by
 have hb:=Below.refl w.heap.size w;have HF:=Vn k A cap l w (by omega) (by omega) hr (by omega);have hE:bkE k l=0:=(by unfold bkE;rw[if_pos (show isB (k:Int)=true from decide_eq_true ⟨by omega,by omega⟩),if_pos hA]);rw[hE] at HF;replace HF:=Qa.mk HF;have HG:=fun(W:World) (hb:Below w.heap.size w W)=>Gd (Jb k) (Xt k) (Gc k) A cap l W (Uu k) (Vp k) (Kd.Qf hr hb) (by omega) hA
 have HC:=fun(W:World) (hb:Below w.heap.size w W)=>Qbm k hk A cap l W (hL.below hb) (Kd.Qf hr hb) hl hcap hA
 have HL:=Qa.mk (fun(W:World) (hb:Below w.heap.size w W)=>(hL.below hb).form k hk);have hu:=Tryz.underlying194;have hkI:(k:Int)<8:=(by omega);unfold Ke at hf;rw[hf] at HG;replace HG:=Qa.mk HG;obtain⟨c,hc⟩: ∃c,c=Yp k l:=⟨_,rfl⟩;rw[<-hc] at HC ⊢;replace HC:=Qa.mk HC;obtain⟨d,hd⟩: ∃d,d=Jb k:=⟨_,rfl⟩;obtain⟨m,hm⟩: ∃m,m=Xt k:=⟨_,rfl⟩;obtain⟨e,hee⟩: ∃e,e=Gc k:=⟨_,rfl⟩;rw[<-hd,<-hm,<-hee] at HG HL;clear hE hr hl hd hm hee hL hk hf hc;unfold frm at HG;go_enter Tryz.func187,Tryz.ntmps187;go_wp2_with (first|(go_at_call 213;refine HF.out.mono ?_;rintro e w1 ⟨rfl,hbn⟩;obtain⟨l1,l2,l3⟩:=HL.out _ hbn;replace hb:=bnx hb hbn;clear hbn)|(go_at_call 214;refine((HG.out _ hb)).mono ?_;rintro e w' ⟨rfl,hbn⟩;replace hb:=bnx hb hbn;clear hbn)|(go_at_call 215;refine((HC.out _ hb)).mono ?_;rintro e w' ⟨rfl,hbn⟩;replace hb:=bnx hb hbn;clear hbn));go_ret2;exact⟨rfl,hb⟩
end Bk

namespace Bk
attribute [local go_sem] Qh Qi Qk Ql Qd Qe
open Q15
def Y8 (k:Nat):List Int:=(Vh k).map fun(n:Nat)=>(n:Int)
theorem L8 (k:Nat):(Y8 k).length =(Vh k).length :=by simp[Y8]
theorem O6 (w:World) (e:TypeId) (s:ByteArray):Below w.heap.size w (Go.Lib.bytesWorld w e s):=by
 unfold Go.Lib.bytesWorld World.freeze;refine⟨rfl,rfl,rfl,?_,fun i hi=>Go.Lib.bytesWorld_at_old w e s i hi⟩;simp[World.alloc,World.drew,-World.alloc_eq,-World.drew_eq]
theorem bytes_at (w:World) (e:TypeId) (k i:Nat) (hk:k<8) (hi:i<(Vh k).length):(Go.Lib.bytesWorld w e (V9 k)).cell? ⟨w.heap.size,i,none⟩=some (.int .u8 ((Vh k)[i]+96)):=by
 unfold World.cell?;rw[Go.Lib.bytesWorld_at_new];obtain⟨b,hb,hx⟩:=Qdc hk hi;have h2:i<(V9 k).size :=(by rw[D5];exact hi);rw[getElem?_pos (V9 k) i h2] at hb
 injection hb with hb
 show(Go.Lib.bytesCells w e (V9 k))[i]? =_
 unfold Go.Lib.bytesCells;rw[Array.getElem?_append_left (by simpa using h2),Array.getElem?_map]
 have h3:(V9 k).data[i]? =some b:=by
  rw[Array.getElem?_eq_getElem (show i<(V9 k).data.size from h2)];exact congrArg some hb
 rw[h3,Option.map_some,hx]
theorem Mr (k:Nat) (hk:k<8) (w:World) (hL:Xn w):
  Calls Tryz.prog 193 #[.int .i64 k] w fun e w'=> ∃v,e= .returned v/\(Kd.int .i64).R 3 w' w.heap.size (fun _=>True) v (Y8 k)/\Below w.heap.size w w':=by
 have l4:=hL.tab k hk;have hkI:(k:Int)<8:=(by omega);have hc:=Go.Lib.run_convert_string_bytes (P:=Tryz.prog) w 9 107 5 (V9 k) (u:= .string) Tryz.underlying9 Tryz.underlying107 Tryz.underlying5;have hbb:=O6 w 5 (V9 k);have hat:=Qa.mk (fun i hi=>bytes_at w 5 k i hk hi);obtain⟨W1,hW1⟩: ∃W1,W1=Go.Lib.bytesWorld w 5 (V9 k):=⟨_,rfl⟩;obtain⟨cp,hcp⟩: ∃cp,cp=grownCap w (V9 k).size 0 5:=⟨_,rfl⟩;obtain⟨N,hN⟩: ∃N,N=(Vh k).length :=⟨_,rfl⟩;rw[<-hW1] at hbb hat hc;rw[<-hcp,D5,<-hN] at hc
 have hN9:N<=256:=by
  rw[hN];have: ∀k,k<8->(Vh k).length <=256:=(by decide+kernel);exact this k hk
 have HT:Qa (∀i (hi:i<(Vh k).length),(Y8 k).take (i+1)=(Y8 k).take i++[((Vh k)[i]:Int)]):=⟨fun i hi=>by
  rw[List.take_add_one]
  congr 1
  unfold Y8;rw[List.getElem?_map,List.getElem?_eq_getElem hi]
  rfl⟩
 have HB:=Qa.mk (Wu k hk);have hN':=Qa.mk hN;have hlen:=Qa.mk (L8 k);obtain⟨S,hSe⟩: ∃S,S=V9 k:=⟨_,rfl⟩;rw[<-hSe] at l4 hc;clear hL hW1 hcp hSe hN;go_enter Tryz.func193,Tryz.ntmps193;go_wp2;go_loopw [3,11] (fun o i wr=> ∃k1:Nat,i= .int .i64 k1/\k1<=N/\Qa ((Kd.int .i64).R 3 wr W1.heap.size (fun _=>True) o ((Y8 k).take k1))/\Below W1.heap.size W1 wr) (fun _ i _=>N-(intOf i).toNat)
 case atStart=>exact⟨0,rfl,by omega,⟨Kd.Zx _ _ _ _ _⟩,Below.refl _ _⟩
 case round=>
  obtain⟨i,rfl,hi,ho,hbL⟩:=hrel;by_cases hlt:i<N
  ·have hlt2:i<(Vh k).length :=by rw[<-hN'.out];exact hlt
   have hcell:=cnx (hat.out i hlt2) hbL;have hT:=Qa.mk (HT.out i hlt2);have hbd:=HB.out _ (List.getElem_mem hlt2);obtain⟨n,hn⟩: ∃n:Nat,n=(Vh k)[i]:=⟨_,rfl⟩;rw[<-hn] at hT hcell hbd;have hiI:(i:Int)<(N:Int):=(by omega);have f1:IntKind.u8.wrap ((n:Int)+96-97)=(n:Int)-1:=(by rw[show(n:Int)+96-97=(n:Int)-1 by omega];exact IntWalk.u8_in _ (by omega));have f2:IntKind.i64.wrap ((n:Int)-1)=(n:Int)-1:=IntWalk.i64_in _ (by omega);have f3:IntKind.i64.wrap ((n:Int)-1+1)=(n:Int):=(by rw[show(n:Int)-1+1=(n:Int) by omega];exact IntWalk.i64_in _ (by omega));obtain⟨Y,hY⟩: ∃Y,Y=(Y8 k).take i:=⟨_,rfl⟩;have hYl:Y.length<=256:=(by rw[hY,List.length_take];omega);rw[<-hY] at ho hT;clear hY hn hlt2;go_wp2_with (first|(at_builtin;refine Kd.Q3 (Kd.int .i64) (w0:=W1) W1.heap.size rfl (.tmp 15) (.tmp 20) 22 3 (.int .i64 0) 8 rfl Tryz.underlying22 Qw rfl (by decide) (by omega) u3 Y ((n:Int)) [.int .i64 ((n:Int))] (fun _=>True) (fun _=>False) rfl rfl rfl (fun _ hk=>hk.elim) (fun _ _=>trivial) ho.out (Qa.mk hbL).out (Qa.mk hbL).out.size (by omega) ?_;intro v1 wA hoA hbA hgA hatA;have HOA:=Qa.mk hoA;have HBA:=Qa.mk hbA;clear hoA hbA hgA hatA));go_roundw
   case rel=>exact⟨i+1,by go_num,by omega,⟨by rw[hT.out];exact HOA.out⟩,HBA.out⟩
   case measure=>simp[intOf];omega
  ·obtain rfl:i=N:=by omega
   have hR:=ho.out;rw[List.take_of_length_le (by rw[hlen.out,<-hN'.out];exact Nat.le_refl _)] at hR;have hR2:=Qa.mk hR;clear hR ho;go_wp2;go_ret;exact⟨_,rfl,Kd.Zz hR2.out hbb.size,bnx hbb hbL⟩
end Bk

namespace Pre
attribute [local go_sem] Qh Qi Qk Ql Qd Qe
open Q15
def wdRun (l:List Int):List Nat->Int×Int->List (Int×Int)->List (Int×Int)
 |[],_,out=>out
 |i::is,s,out=>wdRun l is (V7 l s i) (out.set i (V7 l s i))
theorem Qa7 (l:List Int): ∀(m k:Nat),k+m=(Xc l).length ->wdRun l ((Xc l).drop k) (Zv l k).1 (Zv l k).2=(Zv l (Xc l).length).2
 |0,k,h=>by
  obtain rfl:k=(Xc l).length :=(by omega);rw[List.drop_length];rfl
 |m+1,k,h=>by
  have hk:k<(Xc l).length :=(by omega);rw[List.drop_eq_getElem_cons hk];have e:(Xc l)[k]=(Xc l).getD k 0:=(by rw[List.getD_eq_getElem?_getD,List.getElem?_eq_getElem hk];rfl);rw[e]
  show wdRun l ((Xc l).drop (k+1)) (Zv l (k+1)).1 (Zv l (k+1)).2=_
  exact Qa7 l m (k+1) (by omega)
def Oc (l:List Int):Bool:=((wdRun l (Xc l) (0,0) (List.replicate l.length (0,0))).zip l).all fun x=>decide (0<=x.1.2/\x.1.2<2^x.2.toNat)
theorem words_lt {l:List Int} (h:Oc l=true) {s:Nat} (hs:s<l.length):0<=rd (Ji l) s/\rd (Ji l) s<2^(rd l s).toNat :=by
 have h1:=Qa7 l (Xc l).length 0 (by omega);unfold Oc at h;have e0:Zv l 0=((0,0),List.replicate l.length (0,0)):=rfl;rw[List.drop_zero,e0] at h1;rw[h1] at h;have hl:s<(Zv l (Xc l).length).2.length :=by rw[Ul];exact hs
 have h2:=List.all_eq_true.1 h (((Zv l (Xc l).length).2)[s],l[s]) (by
  rw[List.mem_iff_getElem]
  exact⟨s,by rw[List.length_zip];omega,by simp⟩)
 simp only[decide_eq_true_eq] at h2
 have e1:rd (Ji l) s=((Zv l (Xc l).length).2)[s].2:=by
  unfold rd Ji;simp[List.getD_eq_getElem?_getD,hl]
 have e2:rd l s=l[s]:=by
  unfold rd;simp[List.getD_eq_getElem?_getD,hs]
 rw[e1,e2];exact h2
end Pre
namespace Bk
attribute [local go_sem] Qh Qi Qk Ql Qd Qe
open Q15
theorem lens_pre: ∀k,k<8->0<k->Pre.Kh (Y8 k)=0:=by decide+kernel
theorem Qec:Pre.Kh (Y8 0)≠0:=by decide+kernel
end Bk

end Go.Proofs.YtnflnicdjioflaaGreatDoor
