/- A part of the proof. -/
import Derived.Test.YtnflnicdjioflaaGreatDoorSxae
set_option linter.unusedVariables false
set_option linter.unusedSimpArgs false
set_option maxRecDepth 100000
set_option maxHeartbeats 8000000
namespace Go.Proofs.YtnflnicdjioflaaGreatDoor
open Go.RowKit Go.Proofs.YtnflnicdjioflaaGreatDoorW.PrintWords Go.Proofs.YtnflnicdjioflaaGreatDoorW.PrintLast Go.Proofs.YtnflnicdjioflaaGreatDoorW.PrintMore
namespace Q16
attribute [local go_sem] Qh Qi Qk Ql Qd Qe
open Q15
def Zj (c l:List Int) (k:Nat):List Int:=(c.drop (off l k)).take (wd l k)
theorem Z8 {c l:List Int} (hc:c.length=128) (hl:isW l=true) {k:Nat} (hk:k<l.length):(Zj c l k).length =wd l k:=by
 have:=Q7 hl hk;unfold Zj;rw[List.length_take,List.length_drop];omega
theorem V6 {c l:List Int} {w:World} {a:Addr} (hr:(Kd.int .i64).C w (some a) c.length c) (hc:c.length=128) (hl:isW l=true) {k:Nat} (hk:k<l.length):
  (Kd.int .i64).C w (some (a.add (off l k))) (Zj c l k).length (Zj c l k):=by
 have hn:=Q7 hl hk;have hlen:=Z8 hc hl hk;obtain⟨h0,h1,h2⟩:=hr;refine⟨rfl,by rw[hlen];omega,fun _=>⟨_,rfl,fun j p hj=> ?_⟩⟩;obtain⟨ad,e,h3⟩:=h2 (by omega);cases e
 have hj':c[off l k+j]? =some p:=by
  unfold Zj at hj
  have hlt:j<wd l k:=by
   have:=(List.getElem?_eq_some_iff.1 hj).1;rw[List.length_take] at this;omega
  rw[List.getElem?_take_of_lt hlt,List.getElem?_drop] at hj;exact hj
 obtain⟨cs,hz,hK,hcell⟩:=h3 _ p hj';refine⟨cs,hz,hK,fun i u hu=> ?_⟩;have:=hcell i u hu;rw[Addr.add_add];rw[show off l k+(j*(Kd.int .i64).sz +i)=(off l k+j)*(Kd.int .i64).sz +i by show off l k+(j*1+i)=(off l k+j)*1+i;omega];exact this
end Q16

namespace Q16
attribute [local go_sem] Qh Qi Qk Ql Qd Qe
open Q15
def Tf (a:Addr) (c0:Nat) (l:List Int) (k:Nat):List Value:=[.slice (some (a.add (off l k))) (wd l k) (c0-off l k)]
def bands (c l:List Int):List (List Int):=(List.range l.length).map (Zj c l)
theorem Qbi {c l:List Int} {a:Addr} {c0:Nat} {w:World} {A:Option Addr} (hr:(Kd.int .i64).C w (some a) c.length c) (hc:c.length=128) (hc0:128<=c0) (hl:isW l=true) (h:(Kd.raw 1).C w A l.length ((List.range l.length).map (Tf a c0 l))):KL.C w A (bands c l).length (bands c l):=by
 have hlen:(bands c l).length =l.length:=(by unfold bands;rw[List.length_map,List.length_range]);obtain⟨h0,h1,h2⟩:=h;refine⟨rfl,by rw[hlen];exact h1,fun hp=> ?_⟩;obtain⟨ad,e,h3⟩:=h2 (by omega);refine⟨ad,e,fun j p hj=> ?_⟩
 have hjl:j<l.length:=by
  have:=(List.getElem?_eq_some_iff.1 hj).1;omega
 have hp':p=Zj c l j:=by
  unfold bands at hj;rw[List.getElem?_map,List.getElem?_range hjl] at hj;exact(Option.some.inj hj).symm
 obtain⟨cs,hz,⟨hcs,_⟩,hcell⟩:=h3 j (Tf a c0 l j) (by rw[List.getElem?_map,List.getElem?_range hjl];rfl);have hb:=Z8 hc hl hjl;have hn:=Q7 hl hjl;refine⟨cs,hz,⟨some (a.add (off l j)),c0-off l j,?_,?_,?_⟩,hcell⟩
 ·rw[hcs,hp',hb];rfl
 ·rw[hp',hb];omega
 ·rw[hp'];exact V6 hr hc hl hjl
theorem Qd1 {a:Addr} {A1:Option Addr} {c0 cap:Nat} {c l:List Int} {w:World} (hr0:(Kd.int .i64).C w (some a) c.length c) (hc:c.length=128) (hc0:128<=c0) (hc9:c0<=9223372036854775807) (hl:isW l=true) (hr1:(Kd.int .i64).C w A1 l.length l):
  Calls Tryz.prog 111 #[.slice (some a) 128 c0,.slice A1 l.length cap] w fun e w'=> ∃A p,e= .returned (.slice A l.length p)/\KL.C w' A (bands c l).length (bands c l)/\Below w.heap.size w w':=by
 have HR:=Qa.mk hr1;have HZ:=Qa.mk hr0;have HN:=Qa.mk (fun k (hk:k<l.length)=>Q7 hl hk);have hll:(l.length:Int)<=32:=(by have:=(Qx.1 hl).2.2;omega);have HL:=Qa.mk hl;have HC:=Qa.mk hc;clear hr0 hr1 hl hc;go_enter Tryz.func111,Tryz.ntmps111;go_wp2;go_loopw [0,5,10] (fun x s i wr=> ∃k:Nat,i= .int .i64 k/\k<=l.length/\(∃B m cp,x= .slice (some B) m cp/\Qa (k<l.length->B=a.add (off l k)/\m=128-off l k/\cp=c0-off l k))/\Qa ((Kd.raw 1).R 22 wr w.heap.size (fun _=>True) s ((List.range k).map (Tf a c0 l)))/\Below w.heap.size w wr) (fun _ _ i _=>l.length-(intOf i).toNat)
 case atStart=>exact⟨0,rfl,by omega,⟨a,128,c0,rfl,⟨fun _=>by simp[off,Jo]⟩⟩,⟨Kd.Zx _ _ _ _ _⟩,Below.refl _ _⟩
 case round=>
  obtain⟨k,rfl,hk,⟨B,m,cp,rfl,hx⟩,hR,hb⟩:=hrel;by_cases hlt:k<l.length
  ·obtain⟨ad,rfl,hcell⟩:=Qn HR.out hb hlt
   obtain⟨rfl,hm,hcp⟩:=hx.out hlt;obtain⟨q1,q2,q3,q4⟩:=HN.out k hlt;rw[q4] at hcell;have hle:((List.range k).map (Tf a c0 l)).length =k:=(by rw[List.length_map,List.length_range]);have hT:(List.range (k+1)).map (Tf a c0 l)=(List.range k).map (Tf a c0 l)++[Tf a c0 l k]:=(by rw[List.range_succ,List.map_append];rfl);have hce:Tf a c0 l k=[.slice (some (a.add (off l k))) (wd l k) (c0-off l k)]:=rfl;obtain⟨o,ho⟩: ∃o,o=off l k:=⟨_,rfl⟩;obtain⟨d,hd⟩: ∃d,d=wd l k:=⟨_,rfl⟩;rw[<-ho] at hm hcp hce q1 q3 ⊢;rw[<-hd] at hcell hce q1 q2 q3;have i1:(d:Int)<=(m:Int):=(by omega);have i2:(d:Int)<=(cp:Int):=(by omega);have i3:(m:Int)<=(cp:Int):=(by omega);have i4:(cp:Int)<=9223372036854775807:=(by omega);have i5:(1:Int)<=(d:Int):=(by omega);have hkI:(k:Int)<(l.length:Int):=(by omega);rw[<-hcp] at hce;replace hm:=Qa.mk hm;replace hcp:=Qa.mk hcp;replace hce:=Qa.mk hce;replace q1:=Qa.mk q1;replace hT:=Qa.mk hT;replace hle:=Qa.mk hle;obtain⟨a',ha'⟩: ∃a',a'=a.add o:=⟨_,rfl⟩;rw[<-ha'];replace ha':=Qa.mk ha';replace ho:=Qa.mk ho;replace hd:=Qa.mk hd;clear q2 q3 q4 hx;have hlen:(((List.range k).map (Tf a c0 l)).length +1)*24<=140737488355328:=(by rw[hle.out];omega);replace hlen:=Qa.mk hlen;go_wp2_with (at_builtin;refine Kd.Q3 (Kd.raw 1) (w0:=w) w.heap.size rfl (.tmp 14) (.tmp 18) 24 22 (.slice none 0 0) 24 rfl Tryz.underlying24 Jk rfl (by decide) (by decide) u5 ((List.range k).map (Tf a c0 l)) [.slice (some a') d cp] [.slice (some a') d cp] (fun _=>True) (fun _=>False) rfl rfl ⟨rfl,rfl,fun u hu=>by rw[List.mem_singleton.1 hu];rfl⟩ (fun _ hk=>hk.elim) (fun _ _=>trivial) hR.out hb hb.size hlen.out ?_;intro v1 wA hoA hbA hgA hatA;have HOA:=Qa.mk hoA;clear hoA hgA hatA);go_roundw
   case rel=>
    refine⟨k+1,by go_num,by omega,?_,⟨by rw[hT.out,hce.out,<-ha'.out];exact HOA.out⟩,hbA⟩;by_cases hcd:cp=d
    ·refine⟨a',_,_,by rw[if_pos hcd],⟨fun h=> ?_⟩⟩
     obtain⟨p1,p2,p3,p4⟩:=HN.out (k+1) h;have:=q1.out;have:=hcp.out;have:=ho.out
     exfalso;omega
    ·refine⟨a'.add d,_,_,by rw[if_neg hcd],⟨fun h=>⟨?_,?_,?_⟩⟩⟩
     ·rw[ha'.out,Addr.add_add,q1.out]
     ·rw[hm.out,q1.out];omega
     ·rw[hcp.out,q1.out];omega
   case measure=>simp[intOf];omega
  ·obtain rfl:k=l.length:=by omega
   have hR':=hR.out;obtain⟨A5,p5,rfl,_,hK⟩:=Kd.Qs hR';rw[List.length_map,List.length_range] at hK ⊢;have hF:=Qbi (Kd.Qf HZ.out hb) HC.out hc0 HL.out hK;replace hF:=Qa.mk hF;clear hR hx hR' hK;go_wp2;go_ret;exact⟨_,_,rfl,hF.out,hb⟩
end Q16

namespace Q16
attribute [local go_sem] Qh Qi Qk Ql Qd Qe
open Q15
def Fb (p q lo hi:Int) (c l s:List Int):Int:=if Tj c.length l [s.length]=0 then if rng p q c then if rng lo hi s then 0 else 6 else 6 else Tj c.length l [s.length]
theorem Qd4 {n m:Nat} {l:List Int} (h:Tj n l [m]=0):isW l=true/\n=128/\m=l.length:=by
 unfold Tj at h
 split at h
 ·split at h
  ·split at h
   ·rename_i h1 h2 h3
    simp at h3;exact⟨h1,h2,h3⟩
   ·omega
  ·omega
 ·omega
theorem I1 {w:World} {B:Nat} {A:Option Addr} {n c:Nat} (h:w.cell? ⟨B,0,none⟩=some (.slice A n c)):Lens w B [n]:=fun j m hj=>by
 cases j with
 |zero=>cases hj;exact⟨A,c,h⟩
 |succ j=>simp at hj
theorem Nl {lo hi:Int} {l:List Int} (h:rng lo hi l=true) {x:Int} (hx:x∈l):lo<=x/\x<=hi:=by
 have:=List.all_eq_true.1 h x hx;simpa using this
theorem Lp {p q lo hi:Int} {c l s:List Int} (h:Fb p q lo hi c l s=0):isW l=true/\c.length=128/\s.length=l.length/\rng p q c=true/\rng lo hi s=true/\Tj c.length l [s.length]=0:=by
 unfold Fb at h
 split at h
 ·rename_i h0
  obtain⟨g0,g1,g2⟩:=Qd4 h0
  split at h
  ·split at h
   ·rename_i h1 h2
    exact⟨g0,g1,g2,h1,h2,h0⟩
   ·omega
  ·omega
 ·rename_i h0;exact absurd h h0
end Q16

namespace Q16
attribute [local go_sem] Qh Qi Qk Ql Qd Qe
open Q15
theorem bands_at {c l:List Int} {w w1:World} {A:Option Addr} (h:KL.C w A (bands c l).length (bands c l)) (hb:Below w.heap.size w w1) {k:Nat} (hk:k<l.length):
  ∃ad A' cp,A=some ad/\w1.cell? (ad.add k)=some (.slice A' (Zj c l k).length cp)/\(Kd.int .i64).C w1 A' (Zj c l k).length (Zj c l k):=by
 have hlen:(bands c l).length =l.length:=(by unfold bands;rw[List.length_map,List.length_range]);obtain⟨ad,A',cp,e,h1,_,h2⟩:=Qc4 h hb (show k<(bands c l).length by omega);have he:(bands c l)[k]'(by omega)=Zj c l k:=(by simp[bands]);rw[he] at h1 h2;exact⟨ad,A',cp,e,h1,h2⟩
end Q16

namespace Q16
attribute [local go_sem] Qh Qi Qk Ql Qd Qe
open Q15
theorem Cv (w:World):
  Calls Tryz.prog 110 #[] w fun e w'=> ∃A p,e= .returned (.slice A Zh.length p)/\(Kd.int .i64).C w' A Zh.length Zh/\Below w.heap.size w w':=
 (Cu w).mono fun e w' ⟨v,he,hR,hb⟩=>by
  obtain⟨A,p,rfl,_,hC⟩:=Kd.Qs hR;exact⟨A,p,he,hC,hb⟩
end Q16

namespace Q16
attribute [local go_sem] Qh Qi Qk Ql Qd Qe
open Q15
theorem Qdv {c l:List Int} (hc:rng (-1023) 1023 c=true) (hl:isW l=true) (h1:c.length=128) {k:Nat} (hk:k<l.length) {s:Int} (hs:0<=s/\s<=95):chk isQ (Zj c l k) s=0:=by
 have hlen:=Z8 h1 hl hk;have hn:=Q7 hl hk;unfold chk;rw[if_pos (by simp[isS,hs]),if_pos (by omega),if_pos];refine List.all_eq_true.2 fun x hx=> ?_
 have:=Nl hc (List.mem_of_mem_drop (List.mem_of_mem_take hx));simp[isQ,this]
theorem Qap (A0 A1 A2:Option Addr) (c0 c1 c2:Nat) (c l s:List Int) (w:World) (hr0:(Kd.int .i64).C w A0 c.length c) (hr1:(Kd.int .i64).C w A1 l.length l) (hr2:(Kd.int .i64).C w A2 s.length s) (hc0:c.length<=c0) (hc9:c0<=9223372036854775807)
  (he:Fb (-1023) 1023 0 95 c l s=0):
  Calls Tryz.prog 78 #[.slice A0 c.length c0,.slice A1 l.length c1,.slice A2 s.length c2] w fun e w'=> ∃v,e= .returned (.tuple #[v,.int .i64 0])/\(Kd.int .i64).R 3 w' w.heap.size (fun _=>True) v ((List.range l.length).map fun k=>Zn (Zj c l k) (rd s k)).flatten /\Below w.heap.size w w':=by
 obtain⟨g0,g1,g2,g3,g4,g5⟩:=Lp he;have hl32:=(Qx.1 g0).2.2;have hb:=Below.refl w.heap.size w
 obtain⟨a,rfl⟩: ∃a,A0=some a:=by
  obtain⟨_,_,h⟩:=hr0;obtain⟨a,e,_⟩:=h (by omega);exact⟨a,e⟩
 have HF:=fun(W:World) (hb:Below w.heap.size w W) B h=>Ik (some a) A1 c.length c0 c1 1 l B [s.length] W (Kd.Qf hr1 hb) (by omega) (by omega) h (show 1<=1000000 by decide) (by simp;omega)
 have HC:=fun(W:World) (hb:Below w.heap.size w W)=>Y4 1023 (by decide) (some a) c0 c W (Kd.Qf hr0 hb) (by omega)
 have HL:=fun(W:World) (hb:Below w.heap.size w W)=>N8 95 A2 c2 s W (Kd.Qf hr2 hb) (by omega)
 rw[g5,g1] at HF;rw[g3,g1] at HC;rw[g4] at HL;have HP:=Cv;have HCut:=fun(W:World) (hb:Below w.heap.size w W)=>Qd1 (c0:=c0) (cap:=c1) (Kd.Qf hr0 hb) g1 (by omega) hc9 g0 (Kd.Qf hr1 hb)
 have HS:=fun(W:World) (hb:Below w.heap.size w W) (k:Nat) (hk:k<l.length)=>Qn hr2 hb (show k<s.length by omega)
 have HB:=fun(k:Nat) (hk:k<l.length) (W:World) (Ap A':Option Addr) (cp cp':Nat) (hp:(Kd.int .i64).C W Ap Zh.length Zh) (hbd:(Kd.int .i64).C W A' (Zj c l k).length (Zj c l k))=>
  Px Ap A' cp cp' (Zj c l k) (rd s k) W hp hbd (by rw[Z8 g1 g0 hk];have:=Q7 g0 hk;omega) (fun n hn=>Nl g3 (List.mem_of_mem_drop (List.mem_of_mem_take hn))) (Nl g4 (Qp s k (by omega))).1 (Nl g4 (Qp s k (by omega))).2
 have HX: ∀k,k<l.length->(Zj c l k).map (fun q=>sg q (V (Yh (rd s k)) (Xp q)))=Zn (Zj c l k) (rd s k):=fun k hk=>by
  unfold Zn;rw[if_pos (Qdv g3 g0 g1 hk (Nl g4 (Qp s k (by omega))))]
 have HXL: ∀k,k<l.length->(Zn (Zj c l k) (rd s k)).length <=128:=fun k hk=>by
  rw[<-HX k hk,List.length_map,Z8 g1 g0 hk];have:=Q7 g0 hk;omega
 have HB2:=fun(k:Nat) (hk:k<l.length)=>HX k hk▸HB k hk
 rw[g1];have hsl:(s.length:Int)=l.length:=(by omega);obtain⟨r,hre⟩: ∃r:Nat->List Int,r=fun k=>Zn (Zj c l k) (rd s k):=⟨_,rfl⟩
 obtain⟨T,hT⟩: ∃T,T=Zh.length:=⟨_,rfl⟩;rw[<-hT] at HP;replace HF:=Qa.mk HF;replace HC:=Qa.mk HC;replace HL:=Qa.mk HL;replace HP:=Qa.mk HP;replace HCut:=Qa.mk HCut;replace HS:=Qa.mk HS;have HB3:Qa (∀k,k<l.length-> ∀(W:World) (Ap A':Option Addr) (cp cp':Nat),(Kd.int .i64).C W Ap T Zh->(Kd.int .i64).C W A' (Zj c l k).length (Zj c l k)->Calls Tryz.prog 129 #[.slice Ap T cp,.slice A' (Zj c l k).length cp',.int .i64 (rd s k)] W fun e w'=> ∃v,e= .returned v/\(Kd.int .i64).R 3 w' W.heap.size (fun _=>True) v (r k)/\Below W.heap.size W w'):=⟨fun k hk W Ap A' cp cp' h1 h2=>by rw[hT,hre];exact HB2 k hk W Ap A' cp cp' (by rw[<-hT];exact h1) h2⟩;have HRL:Qa (∀k,k<l.length->(r k).length <=128):=⟨fun k hk=>by rw[hre];exact HXL k hk⟩;rw[<-hre];replace hT:=Qa.mk hT;have hsI:(l.length:Int)<=(s.length:Int):=(by omega);have hlI:(l.length:Int)<=32:=(by omega);clear HB HB2 HX HXL hre hr0 hr1 hr2 hc0 hc9 g0 g1 g2 g3 g4 g5 he hsl hl32;go_enter Tryz.func78,Tryz.ntmps78;go_wp2_with fail;obtain⟨W,hW⟩: ∃W,W=w.alloc (.cells #[.slice A2 s.length c2] 22):=⟨_,rfl⟩;rw[<-hW];have k1:W.cell? ⟨w.heap.size,0,none⟩=some (.slice A2 s.length c2):=(by rw[hW];go_simp);replace hb:Below w.heap.size w W:=(by rw[hW];exact hb.alloc hb.size _);clear hW;refine(HF.out W hb _ (I1 k1)).mono ?_;rintro _ w1 ⟨rfl,hbn⟩;replace hb:=bnx hb hbn;clear hbn k1;go_wp2_with fail;refine(HC.out _ hb).mono ?_;rintro _ w2 ⟨rfl,hbn⟩;replace hb:=bnx hb hbn;clear hbn;go_wp2_with fail;refine(HL.out _ hb).mono ?_;rintro _ w3 ⟨rfl,hbn⟩;replace hb:=bnx hb hbn;clear hbn;go_wp2_with (first|(go_at_call 110;refine(HP.out _).mono ?_;rintro e w1 ⟨Ap,pp,rfl,hCp,hb1⟩;replace hb:=bnx hb hb1;have HPW:=Qa.mk hCp;clear hCp hb1)|(go_at_call 111;refine(HCut.out _ hb).mono ?_;rintro e w2 ⟨Ac,pc,rfl,hK,hb2⟩;replace hb:=bnx hb hb2;have HPW2:=Qa.mk (Kd.Qf HPW.out hb2);have HKL:=Qa.mk hK;clear hK hb2 HPW));go_loopw [9,34] (fun o i wr=> ∃k:Nat,i= .int .i64 k/\k<=l.length/\Qa ((Kd.int .i64).R 3 wr w2.heap.size (fun _=>True) o ((List.range k).map r).flatten)/\Qa (((List.range k).map r).flatten.length <=k*128)/\Below w2.heap.size w2 wr) (fun _ i _=>l.length-(intOf i).toNat)
 case atStart=>exact⟨0,rfl,by omega,⟨Kd.Zx _ _ _ _ _⟩,⟨by simp⟩,Below.refl _ _⟩
 case round=>
  obtain⟨k,rfl,hk,ho,hle,hbL⟩:=hrel;by_cases hlt:k<l.length
  ·obtain⟨ad,A',cp,rfl,hcell,hCB⟩:=bands_at HKL.out hbL hlt
   obtain⟨ads,rfl,hcs⟩:=HS.out _ (bnx hb hbL) k hlt;have HN:=Qa.mk (HB3.out k hlt wr Ap A' pp cp (Kd.Qf HPW2.out hbL) hCB);have hkI:(k:Int)<(l.length:Int):=(by omega);have hks:(k:Int)<(s.length:Int):=(by omega);have HT:Qa (((List.range (k+1)).map r).flatten =((List.range k).map r).flatten ++r k):=⟨by rw[List.range_succ,List.map_append,List.flatten_append];simp⟩;have hzl:=HRL.out k hlt;have hyl:=hle.out;obtain⟨y,hy⟩: ∃y,y=((List.range k).map r).flatten :=⟨_,rfl⟩;rw[<-hy] at ho HT hyl;obtain⟨z,hz⟩: ∃z,z=r k:=⟨_,rfl⟩;rw[<-hz] at HN HT hzl;have hlen:Qa ((y.length+z.length)*8<=140737488355328):=⟨by omega⟩;have hlen2:Qa ((y++z).length <=(k+1)*128):=⟨by rw[List.length_append];omega⟩;obtain⟨x,hx⟩: ∃x,x=rd s k:=⟨_,rfl⟩;rw[<-hx] at HN hcs;obtain⟨n,hn⟩: ∃n,n=(Zj c l k).length :=⟨_,rfl⟩;rw[<-hn] at HN hcell;clear hy hz hx hn hCB hle hyl hzl;go_wp2_with (first|(go_at_call 129;refine HN.out.mono ?_;rintro e w5 ⟨v5,rfl,hR5,hb1⟩;obtain⟨B5,p5,rfl,_,hC5⟩:=Kd.Qs hR5;have HC5:=Qa.mk hC5;have HO1:=Qa.mk (Kd.Q4 ho.out hb1);have HB1:=Qa.mk (bnx hbL hb1);clear ho hb1 hbL hC5 hR5)|(at_builtin;refine Kd.X8 (Kd.int .i64) (Rr:=(Kd.int .i64).K w5) (w0:=w2) w2.heap.size rfl (.tmp 39) (.tmp 46) 22 3 (.int .i64 0) 8 rfl Tryz.underlying22 Qw rfl (by decide) (by decide) u9 y z B5 z.length p5 (fun _=>True) (fun _=>False) rfl rfl HO1.out HC5.out (fun _ _ h=>h) (fun _ h=>h.elim) (fun _ _=>trivial) HB1.out HB1.out.size hlen.out ?_;intro v1 wA hoA hbA hgA hatA;have HOA:=Qa.mk hoA;have HBA:=Qa.mk hbA;clear hoA hgA hatA hbA));go_roundw
   case rel=>exact⟨k+1,by go_num,by omega,⟨by rw[HT.out];exact HOA.out⟩,⟨by rw[HT.out];exact hlen2.out⟩,HBA.out⟩
   case measure=>simp[intOf];omega
  ·obtain rfl:k=l.length:=by omega
   go_wp2;go_ret2;exact⟨_,rfl,Kd.Zz ho.out hb.size,bnx hb hbL⟩
end Q16

namespace Q16
attribute [local go_sem] Qh Qi Qk Ql Qd Qe
open Q15
theorem Ww {c l s:List Int} {a:Addr} {A2:Option Addr} {cap B:Nat} {w:World} (hr:(Kd.int .i64).C w (some a) c.length c) (hc:c.length=128) (hl:isW l=true) (hs:(Kd.int .i64).C w A2 s.length s) (hsl:s.length=l.length)
  (hB:w.cell? ⟨B,0,none⟩=some (.slice A2 s.length cap)) {k:Nat} (hk:k<l.length):Qa9 69 #[] #[.pointer (some ⟨B,0,none⟩)] a l w k (Zn (Zj c l k) (rd s k)):=by
 intro W hb0;have HC:=fun W2 (hb:Below w.heap.size w W2)=>Cy (some (a.add (off l k))) (wd l k) (Zj c l k) (rd s k) W2 (Kd.Qf (V6 hr hc hl hk) hb)
 rw[Z8 hc hl hk] at HC;obtain⟨ad,rfl,hcell⟩:=Qn hs hb0 (show k<s.length by omega);have hB':=cnx hB hb0;have hks:(k:Int)<(s.length:Int):=(by omega);obtain⟨r,hre⟩: ∃r,r=Zn (Zj c l k) (rd s k):=⟨_,rfl⟩;rw[<-hre] at HC ⊢;obtain⟨e,hee⟩: ∃e,e=chk isQ (Zj c l k) (rd s k):=⟨_,rfl⟩;rw[<-hee] at HC;obtain⟨x,hx⟩: ∃x,x=rd s k:=⟨_,rfl⟩;rw[<-hx] at HC hcell;unfold encB;obtain⟨o,ho⟩: ∃o,o=a.add (off l k):=⟨_,rfl⟩;obtain⟨d,hd⟩: ∃d,d=wd l k:=⟨_,rfl⟩;rw[<-ho,<-hd] at HC ⊢;replace HC:=Qa.mk HC;have hb:=Below.refl W.heap.size W;clear hr hs hre hee hx ho hd hc hl hB hsl
 show Calls Tryz.prog 69 #[.int .i64 k,.slice (some o) d d,.pointer (some ⟨B,0,none⟩)] W _
 go_enter Tryz.func69,Tryz.ntmps69;go_wp2_with (first|(go_at_call 70;refine(HC.out _ (bnx hb0 hb)).mono ?_;rintro e w' ⟨v,rfl,hR,hbn⟩;replace hb:=bnx hb hbn;clear hbn;obtain⟨A5,p5,rfl,_,_⟩:=Kd.Qs hR;have HRR:=Qa.mk hR;clear hR));go_ret;exact⟨_,rfl,HRR.out,hb⟩
end Q16

namespace Q16
attribute [local go_sem] Qh Qi Qk Ql Qd Qe
open Q15
theorem Ty (A0 A1 A2:Option Addr) (c0 c1 c2:Nat) (c l s:List Int) (w:World) (hr0:(Kd.int .i64).C w A0 c.length c) (hr1:(Kd.int .i64).C w A1 l.length l) (hr2:(Kd.int .i64).C w A2 s.length s) (hc0:c.length<=c0) (hc9:c0<=9223372036854775807)
  (he:Fb (-1023) 1023 0 95 c l s=0):
  Calls Tryz.prog 36 #[.slice A0 c.length c0,.slice A1 l.length c1,.slice A2 s.length c2] w fun e w'=> ∃v,e= .returned (.tuple #[v,.int .i64 0])/\(Kd.int .i64).R 3 w' w.heap.size (fun _=>True) v ((List.range l.length).map fun k=>Zn (Zj c l k) (rd s k)).flatten /\Below w.heap.size w w':=by
 obtain⟨g0,g1,g2,g3,g4,g5⟩:=Lp he;have hl32:=(Qx.1 g0).2.2;have hb:=Below.refl w.heap.size w
 obtain⟨a,rfl⟩: ∃a,A0=some a:=by
  obtain⟨_,_,h⟩:=hr0;obtain⟨a,e,_⟩:=h (by omega);exact⟨a,e⟩
 have HF:=fun(W:World) (hb:Below w.heap.size w W) B h=>Qbu (some a) A1 c.length c0 c1 1 l B [s.length] W (Kd.Qf hr1 hb) (by omega) (by omega) h (show 1<=1000000 by decide) (by simp;omega)
 have HC:=fun(W:World) (hb:Below w.heap.size w W)=>Ro (some a) c0 c W (Kd.Qf hr0 hb) (by omega)
 have HL:=fun(W:World) (hb:Below w.heap.size w W)=>Rp A2 c2 s W (Kd.Qf hr2 hb) (by omega)
 have HE:=fun(W:World) (hb:Below w.heap.size w W) (B:Nat) (hB:W.cell? ⟨B,0,none⟩=some (.slice A2 s.length c2))=>Ic 69 #[] #[.pointer (some ⟨B,0,none⟩)] (fun _ _=>by kernel_rfl) a c0 A1 c1 l g0 (by omega) hc9 (fun k=>Zn (Zj c l k) (rd s k)) W (Kd.Qf hr1 hb)
  (fun k hk=>Ww (Kd.Qf hr0 hb) g1 g0 (Kd.Qf hr2 hb) g2 hB hk)
 rw[g5,g1] at HF;rw[g3,g1] at HC;rw[g4] at HL;rw[g1];have hrl:((List.range l.length).map fun k=>Zn (Zj c l k) (rd s k)).length <=1000:=by rw[List.length_map,List.length_range];omega
 have hrn: ∀x∈(List.range l.length).map fun k=>Zn (Zj c l k) (rd s k),x.length<=1000:=fun x hx=>by
  obtain⟨k,_,rfl⟩:=List.mem_map.1 hx;have:=Qa6 (Zj c l k) (rd s k);omega
 obtain⟨r,hre⟩: ∃r,r=(List.range l.length).map fun k=>Zn (Zj c l k) (rd s k):=⟨_,rfl⟩
 rw[<-hre] at HE hrl hrn ⊢;have HJ:=fun A p W hK=>Uw A p r W hK hrl hrn
 obtain⟨rf,hrf⟩: ∃x,x=r.flatten:=⟨_,rfl⟩;rw[<-hrf] at HJ ⊢;replace HJ:=Qa.mk HJ;clear hrf hrl hrn;replace HF:=Qa.mk HF;replace HC:=Qa.mk HC;replace HL:=Qa.mk HL;replace HE:=Qa.mk HE;clear hr0 hr1 hr2 hre g0 g1 g2 g3 g4 g5 he hc0 hl32;go_enter Tryz.func36,Tryz.ntmps36;go_wp2_with fail;obtain⟨W,hW⟩: ∃W,W=(w.alloc (.cells #[.slice A2 s.length c2] 22)).alloc (.cells #[.slice A2 s.length c2] 22):=⟨_,rfl⟩;rw[<-hW];have k1:W.cell? ⟨w.heap.size,0,none⟩=some (.slice A2 s.length c2):=(by rw[hW];go_simp);have k2:W.cell? ⟨w.heap.size+1,0,none⟩=some (.slice A2 s.length c2):=(by rw[hW];go_simp);replace hb:Below w.heap.size w W:=(by rw[hW];exact(hb.alloc hb.size _).alloc (hb.alloc hb.size _).size _);clear hW;refine(HF.out W hb _ (I1 k2)).mono ?_;rintro _ w1 ⟨rfl,hbn⟩;replace k1:=cnx k1 hbn;replace hb:=bnx hb hbn;clear hbn k2;go_wp2_with fail;refine(HC.out _ hb).mono ?_;rintro _ w2 ⟨rfl,hbn⟩;replace k1:=cnx k1 hbn;replace hb:=bnx hb hbn;clear hbn;go_wp2_with fail;refine(HL.out _ hb).mono ?_;rintro _ w3 ⟨rfl,hbn⟩;replace k1:=cnx k1 hbn;replace hb:=bnx hb hbn;clear hbn;go_wp2_with fail;refine(HE.out _ hb _ k1).mono ?_;rintro _ w4 ⟨v,rfl,hR,hbn⟩;replace hb:=bnx hb hbn;obtain⟨A5,p5,rfl,_,hK⟩:=Kd.Qs hR;replace hK:=Qa.mk hK;clear hR hbn;go_wp2_with fail;refine(HJ.out A5 p5 w4 hK.out).mono ?_;rintro _ w5 ⟨v,rfl,hR,hbn⟩;clear hK;have hR2:=Kd.Zz hR hb.size;replace hb:=bnx hb hbn;obtain⟨A6,p6,rfl,_,_⟩:=Kd.Qs hR2;replace hR2:=Qa.mk hR2;clear hR hbn;go_wp2;go_ret2;exact⟨_,rfl,hR2.out,hb⟩
end Q16

end Go.Proofs.YtnflnicdjioflaaGreatDoor
