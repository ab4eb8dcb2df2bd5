/- A part of the proof. -/
import Derived.Test.YtnflnicdjioflaaGreatDoorMdae
set_option linter.unusedVariables false
set_option linter.unusedSimpArgs false
set_option maxRecDepth 100000
set_option maxHeartbeats 8000000
namespace Go.Proofs.YtnflnicdjioflaaGreatDoor
open Go.RowKit Go.Proofs.YtnflnicdjioflaaGreatDoorW.PrintWords Go.Proofs.YtnflnicdjioflaaGreatDoorW.PrintLast Go.Proofs.YtnflnicdjioflaaGreatDoorW.PrintMore
namespace Q16
attribute [local go_sem] Qi Qj Qk Ql Qg Qh
open Q15
theorem list_at {w w1:World} {A:Option Addr} {ls:List (List Int)} (hr:KL.C w A ls.length ls) (hb:Below w.heap.size w w1) {k:Nat} (hk:k<ls.length):
  ∃ad A' c,A=some ad/\w1.cell? (ad.add k)=some (.slice A' (ls[k]).length c)/\(ls[k]).length <=c/\(Kd.int .i64).C w1 A' (ls[k]).length ls[k]:=by
 obtain⟨_,_,h⟩:=hr;obtain⟨ad,e,h2⟩:=h (by omega);subst e;obtain⟨cs,hz,⟨A',c,hcs,hc,hC⟩,hcell⟩:=h2 k _ (List.getElem?_eq_getElem hk);subst hcs;have:=hcell 0 _ rfl;exact⟨ad,A',c,rfl,cnx (by simpa[KL,Kd.slice] using this) hb,hc,Kd.Qe hC hb⟩
theorem Vg (A:Option Addr) (cap:Nat) (ls:List (List Int)) (w:World) (hr:KL.C w A ls.length ls) (hl:ls.length<=1000) (hn: ∀l∈ls,l.length<=1000):
  Calls Tryz.prog 58 #[.slice A ls.length cap] w fun e w'=> ∃v,e= .returned v/\(Kd.int .i64).R 3 w' w.heap.size (fun _=>True) v ls.flatten/\Below w.heap.size w w':=by
 have HR:=Qa.mk hr;have HN:=Qa.mk hn;have hlI:(ls.length:Int)<=1000:=(by omega);clear hr hn hl;go_enter Tryz.func58,Tryz.ntmps58;go_wp2;go_loopw [3,8] (fun s i wr=> ∃k:Nat,i= .int .i64 k/\k<=ls.length/\Qa ((Kd.int .i64).R 3 wr w.heap.size (fun _=>True) s (ls.take k).flatten)/\Qa (((ls.take k).flatten).length <=k*1000)/\Below w.heap.size w wr) (fun _ i _=>ls.length-(intOf i).toNat)
 case atStart=>exact⟨0,rfl,by omega,⟨Kd.Xd _ _ _ _ _⟩,⟨by simp⟩,Below.refl _ _⟩
 case round=>
  obtain⟨k,rfl,hk,hR,hle,hb⟩:=hrel;by_cases hlt:k<ls.length
  ·obtain⟨ad,A',c,rfl,hcell,hc,hC⟩:=list_at HR.out hb hlt
   have hT:ls.take (k+1)=ls.take k++[ls[k]]:=List.take_succ_eq_append_getElem hlt;have hn:=HN.out _ (List.getElem_mem hlt);obtain⟨l,hle2⟩: ∃l,l=ls[k]:=⟨_,rfl⟩;rw[<-hle2] at hcell hc hC hT hn;replace hT:=Qa.mk hT;replace hC:=Qa.mk hC;clear hle2;have hlen:((ls.take k).flatten.length +l.length)*8<=140737488355328:=(by have:=hle.out;omega);replace hlen:=Qa.mk hlen;replace hn:=Qa.mk hn;go_wp2_with (at_builtin;refine Kd.X8 (Kd.int .i64) (Rr:=(Kd.int .i64).K wr) (w0:=w) w.heap.size rfl (.tmp 12) (.tmp 13) 22 3 (.int .i64 0) 8 rfl Tryz.underlying22 Zg rfl (by decide) (by decide) u3 (ls.take k).flatten l A' l.length c (fun _=>True) (fun _=>False) rfl rfl hR.out hC.out (fun _ _ h=>h) (fun _ h=>h.elim) (fun _ _=>trivial) hb hb.size hlen.out ?_;intro v1 wA hoA hbA hgA hatA;have HOA:=Qa.mk hoA;clear hoA hgA hatA);go_roundw
   case rel=>exact⟨k+1,by go_num,by omega,⟨by rw[hT.out,List.flatten_append];simpa using HOA.out⟩,⟨by rw[hT.out,List.flatten_append,List.length_append];have:=hle.out;have:=hn.out;simp only[List.flatten_cons,List.flatten_nil,List.append_nil];omega⟩,hbA⟩
   case measure=>simp[intOf];omega
  ·obtain rfl:k=ls.length:=by omega
   have hR':=hR.out;rw[List.take_length] at hR';replace hR':=Qa.mk hR';clear hR hle;go_wp2;go_ret;exact⟨_,rfl,hR'.out,hb⟩
end Q16

namespace Q16
attribute [local go_sem] Qi Qj Qk Ql Qg Qh
open Q15
def Zn (c l:List Int) (k:Nat):List Int:=(c.drop (off l k)).take (wd l k)
theorem Zx {c l:List Int} (hc:c.length=128) (hl:isW l=true) {k:Nat} (hk:k<l.length):(Zn c l k).length =wd l k:=by
 have:=Za hl hk;unfold Zn;rw[List.length_take,List.length_drop];omega
theorem J3 {c l:List Int} {w:World} {a:Addr} (hr:(Kd.int .i64).C w (some a) c.length c) (hc:c.length=128) (hl:isW l=true) {k:Nat} (hk:k<l.length):
  (Kd.int .i64).C w (some (a.add (off l k))) (Zn c l k).length (Zn c l k):=by
 have hn:=Za hl hk;have hlen:=Zx hc hl hk;obtain⟨h0,h1,h2⟩:=hr;refine⟨rfl,by rw[hlen];omega,fun _=>⟨_,rfl,fun j p hj=> ?_⟩⟩;obtain⟨ad,e,h3⟩:=h2 (by omega);cases e
 have hj':c[off l k+j]? =some p:=by
  unfold Zn at hj
  have hlt:j<wd l k:=by
   have:=(List.getElem?_eq_some_iff.1 hj).1;rw[List.length_take] at this;omega
  rw[List.getElem?_take_of_lt hlt,List.getElem?_drop] at hj;exact hj
 obtain⟨cs,hz,hK,hcell⟩:=h3 _ p hj';refine⟨cs,hz,hK,fun i u hu=> ?_⟩;have:=hcell i u hu;rw[Addr.add_add];rw[show off l k+(j*(Kd.int .i64).sz +i)=(off l k+j)*(Kd.int .i64).sz +i by show off l k+(j*1+i)=(off l k+j)*1+i;omega];exact this
end Q16

namespace Q16
attribute [local go_sem] Qi Qj Qk Ql Qg Qh
open Q15
def bands (c l:List Int):List (List Int):=(List.range l.length).map (Zn c l)
end Q16

namespace Q16
attribute [local go_sem] Qi Qj Qk Ql Qg Qh
open Q15
def Kg (p q lo hi:Int) (c l s:List Int):Int:=if Ti c.length l [s.length]=0 then if rng p q c then if rng lo hi s then 0 else 6 else 6 else Ti c.length l [s.length]
theorem Qdx {n m:Nat} {l:List Int} (h:Ti n l [m]=0):isW l=true/\n=128/\m=l.length:=by
 unfold Ti at h
 split at h
 ·split at h
  ·split at h
   ·rename_i h1 h2 h3
    simp at h3;exact⟨h1,h2,h3⟩
   ·omega
  ·omega
 ·omega
theorem I4 {w:World} {B:Nat} {A:Option Addr} {n c:Nat} (h:w.cell? ⟨B,0,none⟩=some (.slice A n c)):Lens w B [n]:=fun j m hj=>by
 cases j with
 |zero=>cases hj;exact⟨A,c,h⟩
 |succ j=>simp at hj
theorem rng_mem {lo hi:Int} {l:List Int} (h:rng lo hi l=true) {x:Int} (hx:x∈l):lo<=x/\x<=hi:=by
 have:=List.all_eq_true.1 h x hx;simpa using this
theorem N8 {p q lo hi:Int} {c l s:List Int} (h:Kg p q lo hi c l s=0):isW l=true/\c.length=128/\s.length=l.length/\rng p q c=true/\rng lo hi s=true/\Ti c.length l [s.length]=0:=by
 unfold Kg at h
 split at h
 ·rename_i h0
  obtain⟨g0,g1,g2⟩:=Qdx h0
  split at h
  ·split at h
   ·rename_i h1 h2
    exact⟨g0,g1,g2,h1,h2,h0⟩
   ·omega
  ·omega
 ·rename_i h0;exact absurd h h0
theorem chk_band {c l:List Int} (hc:rng (-2097152) 2097152 c=true) (hl:isW l=true) (h1:c.length=128) {k:Nat} (hk:k<l.length) {s:Int} (hs:0<=s/\s<=95):chk isC (Zn c l k) s=0:=by
 have hlen:=Zx h1 hl hk;have hn:=Za hl hk;unfold chk;rw[if_pos (by simp[isS,hs]),if_pos (by omega),if_pos];refine List.all_eq_true.2 fun x hx=> ?_
 have:=rng_mem hc (List.mem_of_mem_drop (List.mem_of_mem_take hx));simp[isC,this]
end Q16

namespace Q16
attribute [local go_sem] Qi Qj Qk Ql Qg Qh
open Q15
theorem Sk {c l s:List Int} {a:Addr} {A2:Option Addr} {cap B:Nat} {w:World} (hr:(Kd.int .i64).C w (some a) c.length c) (hc:c.length=128) (hl:isW l=true) (hs:(Kd.int .i64).C w A2 s.length s) (hsl:s.length=l.length)
  (hB:w.cell? ⟨B,0,none⟩=some (.slice A2 s.length cap)) {k:Nat} (hk:k<l.length):Ed 60 #[] #[.pointer (some ⟨B,0,none⟩)] a l w k (Yq (Zn c l k) (rd s k)):=by
 intro W hb0;have HC:=fun W2 (hb:Below w.heap.size w W2)=>Py (some (a.add (off l k))) (wd l k) (Zn c l k) (rd s k) W2 (Kd.Qe (J3 hr hc hl hk) hb)
 rw[Zx hc hl hk] at HC;obtain⟨ad,rfl,hcell⟩:=Qq hs hb0 (show k<s.length by omega);have hB':=cnx hB hb0;have hks:(k:Int)<(s.length:Int):=(by omega);obtain⟨r,hre⟩: ∃r,r=Yq (Zn c l k) (rd s k):=⟨_,rfl⟩;rw[<-hre] at HC ⊢;obtain⟨e,hee⟩: ∃e,e=chk isC (Zn c l k) (rd s k):=⟨_,rfl⟩;rw[<-hee] at HC;obtain⟨x,hx⟩: ∃x,x=rd s k:=⟨_,rfl⟩;rw[<-hx] at HC hcell;unfold encB;obtain⟨o,ho⟩: ∃o,o=a.add (off l k):=⟨_,rfl⟩;obtain⟨d,hd⟩: ∃d,d=wd l k:=⟨_,rfl⟩;rw[<-ho,<-hd] at HC ⊢;replace HC:=Qa.mk HC;have hb:=Below.refl W.heap.size W;clear hr hs hre hee hx ho hd hc hl hB hsl
 show Calls Tryz.prog 60 #[.int .i64 k,.slice (some o) d d,.pointer (some ⟨B,0,none⟩)] W _
 go_enter Tryz.func60,Tryz.ntmps60;go_wp2_with (first|(go_at_call 61;refine(HC.out _ (bnx hb0 hb)).mono ?_;rintro e w' ⟨v,rfl,hR,hbn⟩;replace hb:=bnx hb hbn;clear hbn;obtain⟨A5,p5,rfl,_,_⟩:=Kd.Qu hR;have HRR:=Qa.mk hR;clear hR));go_ret;exact⟨_,rfl,HRR.out,hb⟩
theorem Ww {c l s:List Int} {a:Addr} {A2:Option Addr} {cap B:Nat} {w:World} (hr:(Kd.int .i64).C w (some a) c.length c) (hc:c.length=128) (hl:isW l=true) (hs:(Kd.int .i64).C w A2 s.length s) (hsl:s.length=l.length)
  (hB:w.cell? ⟨B,0,none⟩=some (.slice A2 s.length cap)) {k:Nat} (hk:k<l.length):Ed 69 #[] #[.pointer (some ⟨B,0,none⟩)] a l w k (Xc (Zn c l k) (rd s k)):=by
 intro W hb0;have HC:=fun W2 (hb:Below w.heap.size w W2)=>Ei (some (a.add (off l k))) (wd l k) (Zn c l k) (rd s k) W2 (Kd.Qe (J3 hr hc hl hk) hb)
 rw[Zx hc hl hk] at HC;obtain⟨ad,rfl,hcell⟩:=Qq hs hb0 (show k<s.length by omega);have hB':=cnx hB hb0;have hks:(k:Int)<(s.length:Int):=(by omega);obtain⟨r,hre⟩: ∃r,r=Xc (Zn c l k) (rd s k):=⟨_,rfl⟩;rw[<-hre] at HC ⊢;obtain⟨e,hee⟩: ∃e,e=chk isQ (Zn c l k) (rd s k):=⟨_,rfl⟩;rw[<-hee] at HC;obtain⟨x,hx⟩: ∃x,x=rd s k:=⟨_,rfl⟩;rw[<-hx] at HC hcell;unfold encB;obtain⟨o,ho⟩: ∃o,o=a.add (off l k):=⟨_,rfl⟩;obtain⟨d,hd⟩: ∃d,d=wd l k:=⟨_,rfl⟩;rw[<-ho,<-hd] at HC ⊢;replace HC:=Qa.mk HC;have hb:=Below.refl W.heap.size W;clear hr hs hre hee hx ho hd hc hl hB hsl
 show Calls Tryz.prog 69 #[.int .i64 k,.slice (some o) d d,.pointer (some ⟨B,0,none⟩)] W _
 go_enter Tryz.func69,Tryz.ntmps69;go_wp2_with (first|(go_at_call 70;refine(HC.out _ (bnx hb0 hb)).mono ?_;rintro e w' ⟨v,rfl,hR,hbn⟩;replace hb:=bnx hb hbn;clear hbn;obtain⟨A5,p5,rfl,_,_⟩:=Kd.Qu hR;have HRR:=Qa.mk hR;clear hR));go_ret;exact⟨_,rfl,HRR.out,hb⟩
end Q16

namespace Q16
attribute [local go_sem] Qi Qj Qk Ql Qg Qh
open Q15
theorem Ve (A0 A1 A2:Option Addr) (c0 c1 c2:Nat) (c l s:List Int) (w:World) (hr0:(Kd.int .i64).C w A0 c.length c) (hr1:(Kd.int .i64).C w A1 l.length l) (hr2:(Kd.int .i64).C w A2 s.length s) (hc0:c.length<=c0) (hc9:c0<=9223372036854775807)
  (he:Kg (-2097152) 2097152 0 95 c l s=0):
  Calls Tryz.prog 29 #[.slice A0 c.length c0,.slice A1 l.length c1,.slice A2 s.length c2] w fun e w'=> ∃v,e= .returned (.tuple #[v,.int .i64 0])/\(Kd.int .i64).R 3 w' w.heap.size (fun _=>True) v ((List.range l.length).map fun k=>Yq (Zn c l k) (rd s k)).flatten /\Below w.heap.size w w':=by
 obtain⟨g0,g1,g2,g3,g4,g5⟩:=N8 he;have hl32:=(Q0.1 g0).2.2;have hb:=Below.refl w.heap.size w
 obtain⟨a,rfl⟩: ∃a,A0=some a:=by
  obtain⟨_,_,h⟩:=hr0;obtain⟨a,e,_⟩:=h (by omega);exact⟨a,e⟩
 have HF:=fun(W:World) (hb:Below w.heap.size w W) B h=>Rl (some a) A1 c.length c0 c1 1 l B [s.length] W (Kd.Qe hr1 hb) (by omega) (by omega) h (show 1<=1000000 by decide) (by simp;omega)
 have HC:=fun(W:World) (hb:Below w.heap.size w W)=>M6 (some a) c0 c W (Kd.Qe hr0 hb) (by omega)
 have HL:=fun(W:World) (hb:Below w.heap.size w W)=>Da A2 c2 s W (Kd.Qe hr2 hb) (by omega)
 have HE:=fun(W:World) (hb:Below w.heap.size w W) (B:Nat) (hB:W.cell? ⟨B,0,none⟩=some (.slice A2 s.length c2))=>F4 60 #[] #[.pointer (some ⟨B,0,none⟩)] (fun _ _=>by kernel_rfl) a c0 A1 c1 l g0 (by omega) hc9 (fun k=>Yq (Zn c l k) (rd s k)) W (Kd.Qe hr1 hb)
  (fun k hk=>Sk (Kd.Qe hr0 hb) g1 g0 (Kd.Qe hr2 hb) g2 hB hk)
 rw[g5,g1] at HF;rw[g3,g1] at HC;rw[g4] at HL;rw[g1];have hrl:((List.range l.length).map fun k=>Yq (Zn c l k) (rd s k)).length <=1000:=by rw[List.length_map,List.length_range];omega
 have hrn: ∀x∈(List.range l.length).map fun k=>Yq (Zn c l k) (rd s k),x.length<=1000:=fun x hx=>by
  obtain⟨k,_,rfl⟩:=List.mem_map.1 hx;have:=Qb6 (Zn c l k) (rd s k);omega
 obtain⟨r,hre⟩: ∃r,r=(List.range l.length).map fun k=>Yq (Zn c l k) (rd s k):=⟨_,rfl⟩
 rw[<-hre] at HE hrl hrn ⊢;have HJ:=fun A p W hK=>Vg A p r W hK hrl hrn
 obtain⟨rf,hrf⟩: ∃x,x=r.flatten:=⟨_,rfl⟩;rw[<-hrf] at HJ ⊢;replace HJ:=Qa.mk HJ;clear hrf hrl hrn;replace HF:=Qa.mk HF;replace HC:=Qa.mk HC;replace HL:=Qa.mk HL;replace HE:=Qa.mk HE;clear hr0 hr1 hr2 hre g0 g1 g2 g3 g4 g5 he hc0 hl32;go_enter Tryz.func29,Tryz.ntmps29;go_wp2_with fail;obtain⟨W,hW⟩: ∃W,W=(w.alloc (.cells #[.slice A2 s.length c2] 22)).alloc (.cells #[.slice A2 s.length c2] 22):=⟨_,rfl⟩;rw[<-hW];have k1:W.cell? ⟨w.heap.size,0,none⟩=some (.slice A2 s.length c2):=(by rw[hW];go_simp);have k2:W.cell? ⟨w.heap.size+1,0,none⟩=some (.slice A2 s.length c2):=(by rw[hW];go_simp);replace hb:Below w.heap.size w W:=(by rw[hW];exact(hb.alloc hb.size _).alloc (hb.alloc hb.size _).size _);clear hW;refine(HF.out W hb _ (I4 k2)).mono ?_;rintro _ w1 ⟨rfl,hbn⟩;replace k1:=cnx k1 hbn;replace hb:=bnx hb hbn;clear hbn k2;go_wp2_with fail;refine(HC.out _ hb).mono ?_;rintro _ w2 ⟨rfl,hbn⟩;replace k1:=cnx k1 hbn;replace hb:=bnx hb hbn;clear hbn;go_wp2_with fail;refine(HL.out _ hb).mono ?_;rintro _ w3 ⟨rfl,hbn⟩;replace k1:=cnx k1 hbn;replace hb:=bnx hb hbn;clear hbn;go_wp2_with fail;refine(HE.out _ hb _ k1).mono ?_;rintro _ w4 ⟨v,rfl,hR,hbn⟩;replace hb:=bnx hb hbn;obtain⟨A5,p5,rfl,_,hK⟩:=Kd.Qu hR;replace hK:=Qa.mk hK;clear hR hbn;go_wp2_with fail;refine(HJ.out A5 p5 w4 hK.out).mono ?_;rintro _ w5 ⟨v,rfl,hR,hbn⟩;clear hK;have hR2:=Kd.Zo hR hb.size;replace hb:=bnx hb hbn;obtain⟨A6,p6,rfl,_,_⟩:=Kd.Qu hR2;replace hR2:=Qa.mk hR2;clear hR hbn;go_wp2;go_ret2;exact⟨_,rfl,hR2.out,hb⟩
theorem Tx (A0 A1 A2:Option Addr) (c0 c1 c2:Nat) (c l s:List Int) (w:World) (hr0:(Kd.int .i64).C w A0 c.length c) (hr1:(Kd.int .i64).C w A1 l.length l) (hr2:(Kd.int .i64).C w A2 s.length s) (hc0:c.length<=c0) (hc9:c0<=9223372036854775807)
  (he:Kg (-1023) 1023 0 95 c l s=0):
  Calls Tryz.prog 36 #[.slice A0 c.length c0,.slice A1 l.length c1,.slice A2 s.length c2] w fun e w'=> ∃v,e= .returned (.tuple #[v,.int .i64 0])/\(Kd.int .i64).R 3 w' w.heap.size (fun _=>True) v ((List.range l.length).map fun k=>Xc (Zn c l k) (rd s k)).flatten /\Below w.heap.size w w':=by
 obtain⟨g0,g1,g2,g3,g4,g5⟩:=N8 he;have hl32:=(Q0.1 g0).2.2;have hb:=Below.refl w.heap.size w
 obtain⟨a,rfl⟩: ∃a,A0=some a:=by
  obtain⟨_,_,h⟩:=hr0;obtain⟨a,e,_⟩:=h (by omega);exact⟨a,e⟩
 have HF:=fun(W:World) (hb:Below w.heap.size w W) B h=>Rl (some a) A1 c.length c0 c1 1 l B [s.length] W (Kd.Qe hr1 hb) (by omega) (by omega) h (show 1<=1000000 by decide) (by simp;omega)
 have HC:=fun(W:World) (hb:Below w.heap.size w W)=>Ry (some a) c0 c W (Kd.Qe hr0 hb) (by omega)
 have HL:=fun(W:World) (hb:Below w.heap.size w W)=>Da A2 c2 s W (Kd.Qe hr2 hb) (by omega)
 have HE:=fun(W:World) (hb:Below w.heap.size w W) (B:Nat) (hB:W.cell? ⟨B,0,none⟩=some (.slice A2 s.length c2))=>F4 69 #[] #[.pointer (some ⟨B,0,none⟩)] (fun _ _=>by kernel_rfl) a c0 A1 c1 l g0 (by omega) hc9 (fun k=>Xc (Zn c l k) (rd s k)) W (Kd.Qe hr1 hb)
  (fun k hk=>Ww (Kd.Qe hr0 hb) g1 g0 (Kd.Qe hr2 hb) g2 hB hk)
 rw[g5,g1] at HF;rw[g3,g1] at HC;rw[g4] at HL;rw[g1];have hrl:((List.range l.length).map fun k=>Xc (Zn c l k) (rd s k)).length <=1000:=by rw[List.length_map,List.length_range];omega
 have hrn: ∀x∈(List.range l.length).map fun k=>Xc (Zn c l k) (rd s k),x.length<=1000:=fun x hx=>by
  obtain⟨k,_,rfl⟩:=List.mem_map.1 hx;have:=Qa9 (Zn c l k) (rd s k);omega
 obtain⟨r,hre⟩: ∃r,r=(List.range l.length).map fun k=>Xc (Zn c l k) (rd s k):=⟨_,rfl⟩
 rw[<-hre] at HE hrl hrn ⊢;have HJ:=fun A p W hK=>Vg A p r W hK hrl hrn
 obtain⟨rf,hrf⟩: ∃x,x=r.flatten:=⟨_,rfl⟩;rw[<-hrf] at HJ ⊢;replace HJ:=Qa.mk HJ;clear hrf hrl hrn;replace HF:=Qa.mk HF;replace HC:=Qa.mk HC;replace HL:=Qa.mk HL;replace HE:=Qa.mk HE;clear hr0 hr1 hr2 hre g0 g1 g2 g3 g4 g5 he hc0 hl32;go_enter Tryz.func36,Tryz.ntmps36;go_wp2_with fail;obtain⟨W,hW⟩: ∃W,W=(w.alloc (.cells #[.slice A2 s.length c2] 22)).alloc (.cells #[.slice A2 s.length c2] 22):=⟨_,rfl⟩;rw[<-hW];have k1:W.cell? ⟨w.heap.size,0,none⟩=some (.slice A2 s.length c2):=(by rw[hW];go_simp);have k2:W.cell? ⟨w.heap.size+1,0,none⟩=some (.slice A2 s.length c2):=(by rw[hW];go_simp);replace hb:Below w.heap.size w W:=(by rw[hW];exact(hb.alloc hb.size _).alloc (hb.alloc hb.size _).size _);clear hW;refine(HF.out W hb _ (I4 k2)).mono ?_;rintro _ w1 ⟨rfl,hbn⟩;replace k1:=cnx k1 hbn;replace hb:=bnx hb hbn;clear hbn k2;go_wp2_with fail;refine(HC.out _ hb).mono ?_;rintro _ w2 ⟨rfl,hbn⟩;replace k1:=cnx k1 hbn;replace hb:=bnx hb hbn;clear hbn;go_wp2_with fail;refine(HL.out _ hb).mono ?_;rintro _ w3 ⟨rfl,hbn⟩;replace k1:=cnx k1 hbn;replace hb:=bnx hb hbn;clear hbn;go_wp2_with fail;refine(HE.out _ hb _ k1).mono ?_;rintro _ w4 ⟨v,rfl,hR,hbn⟩;replace hb:=bnx hb hbn;obtain⟨A5,p5,rfl,_,hK⟩:=Kd.Qu hR;replace hK:=Qa.mk hK;clear hR hbn;go_wp2_with fail;refine(HJ.out A5 p5 w4 hK.out).mono ?_;rintro _ w5 ⟨v,rfl,hR,hbn⟩;clear hK;have hR2:=Kd.Zo hR hb.size;replace hb:=bnx hb hbn;obtain⟨A6,p6,rfl,_,_⟩:=Kd.Qu hR2;replace hR2:=Qa.mk hR2;clear hR hbn;go_wp2;go_ret2;exact⟨_,rfl,hR2.out,hb⟩
end Q16

end Go.Proofs.YtnflnicdjioflaaGreatDoor
