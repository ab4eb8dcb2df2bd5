/- A part of the proof. -/
import Derived.Test.YtnflnicdjioflaaGreatDoorSxaz
import Derived.Test.YtnflnicdjioflaaGreatDoorSxbc
import Derived.Test.YtnflnicdjioflaaGreatDoorSxav
set_option linter.unusedVariables false
set_option linter.unusedSimpArgs false
set_option maxRecDepth 100000
set_option maxHeartbeats 8000000
namespace Go.Proofs.YtnflnicdjioflaaGreatDoor
open Go.RowKit Go.Proofs.YtnflnicdjioflaaGreatDoorW.PrintWords Go.Proofs.YtnflnicdjioflaaGreatDoorW.PrintLast Go.Proofs.YtnflnicdjioflaaGreatDoorW.PrintMore
namespace Sec
attribute [local go_sem] Qh Qi Qk Ql Qd Qe
open Q15
open Q21 (Qb Qj)
open Bts
open Bk
theorem Wj {w:World} {A:Option Addr} {s:List (Int×Int)} (h:Cells w A (Zt s)) {k:Nat} (hk:k<s.length): ∃ad,A=some ad/\w.cell? (ad.add (k*2))=some (.int .i64 (s[k]).1)/\w.cell? (ad.add (k*2+1))=some (.int .i64 (s[k]).2):=by
 have hl:=Nr s;obtain⟨ad,e,hc⟩:=h (fun e=>by rw[e] at hl;simp at hl;omega)
 have key: ∀(s:List (Int×Int)) (k:Nat) (hk:k<s.length),(Zt s)[k*2]? =some (.int .i64 (s[k]).1)/\(Zt s)[k*2+1]? =some (.int .i64 (s[k]).2):=by
  intro s
  induction s with
  |nil=>intro k hk;simp at hk
  |cons p s ih=>
   intro k hk
   cases k with
   |zero=>exact⟨rfl,rfl⟩
   |succ k=>
    have:=ih k (by simpa using hk);rw[Tn,show(k+1)*2=k*2+2 by omega];exact this
 exact⟨ad,e,hc _ _ (key s k hk).1,hc _ _ (key s k hk).2⟩
theorem Zf (ad:Addr) (j:Nat):ad.add (j+1)=⟨(ad.add j).block,(ad.add j).off +1,none⟩:=by
 unfold Addr.add;by_cases h:j=0
 ·subst h;simp
 ·simp[h,Nat.add_assoc]
theorem Re (s:List (Int×Int)) {k:Nat} (hk:k<s.length):Qo (s.take (k+1))=Qo (s.take k)++List.replicate (s[k]).2.toNat (s[k]).1:=by
 unfold Qo;rw[List.take_add_one,List.getElem?_eq_getElem hk,List.map_append,List.flatten_append];simp
theorem Ky (s:List (Int×Int)) (k:Nat):(Qo (s.take k)).length <=(Qo s).length :=by
 conv=>rhs;rw[<-List.take_append_drop k s]
 unfold Qo;rw[List.map_append,List.flatten_append,List.length_append];omega
theorem Oi (A:Option Addr) (cap:Nat) (s:List (Int×Int)) (w:World) (hs:Cells w A (Zt s)) (hel: ∀p∈s,0<=p.1/\p.1<8/\1<=p.2/\p.2<=128) (hsl:s.length<=128) (hfl:(Qo s).length <=128):
  Calls Tryz.prog 220 #[.slice A s.length cap] w fun e w'=> ∃v,e= .returned (.tuple #[v,.int .i64 0])/\(Kd.int .i64).R 3 w' w.heap.size (fun _=>True) v (Qo s)/\Below w.heap.size w w':=by
 have hu:=Tryz.underlying153;have hslI:(s.length:Int)<=128:=(by omega);have HS:=Qa.mk hs;have HE:=Qa.mk hel;have HF:=Qa.mk hfl;have HRep:=Qa.mk (fun(W:World) (A0:Option Addr) (k:Int) (c:Nat) (hr:(Kd.int .i64).C W A0 1 [k]) (h1:1<=c) (h2:c<=128)=>Nk A0 1 k c W hr h1 (by omega));clear hs hel hfl hsl;go_enter Tryz.func220,Tryz.ntmps220;go_wp2;go_loopw [4,9] (fun o i wr=> ∃k:Nat,i= .int .i64 k/\k<=s.length/\Qa ((Kd.int .i64).R 3 wr w.heap.size (fun _=>True) o (Qo (s.take k)))/\Qa (Below w.heap.size w wr)) (fun _ i _=>s.length-(intOf i).toNat)
 case atStart=>exact⟨0,rfl,by omega,⟨Kd.Zx _ _ _ _ _⟩,⟨Below.refl _ _⟩⟩
 case round=>
  obtain⟨k,rfl,hk,hR,hb⟩:=hrel;by_cases hlt:k<s.length
  ·obtain⟨ad,rfl,m1,m2⟩:=Wj (HS.out.below hb.out) hlt
   obtain⟨e1,e2,e3,e4⟩:=HE.out _ (List.getElem_mem hlt);have hfl:=Ky s (k+1);have hft:=Qa.mk (Re s hlt);rw[Zf] at m2;obtain⟨bk,hbk⟩: ∃bk,bk=(s[k]).1:=⟨_,rfl⟩;obtain⟨nb,hnb⟩: ∃nb:Nat,(nb:Int)=(s[k]).2:=⟨(s[k]).2.toNat,by omega⟩;rw[<-hbk] at m1 e1 e2 hft;rw[<-hnb] at m2 e3 e4 hft;rw[Int.toNat_natCast] at hft;rw[hft.out,List.length_append,List.length_replicate] at hfl
   obtain⟨o,A4,p4,rfl⟩: ∃(o:Option Addr) (A4:Unit) (p4:Nat),u4= .slice o (Qo (s.take k)).length p4:=by
    obtain⟨o,p,h,_⟩:=Kd.Qs hR.out;exact⟨o,(),p,h⟩
   obtain⟨fl,hfle⟩: ∃fl,fl=Qo (s.take k):=⟨_,rfl⟩;rw[<-hfle] at hR hft hfl;rw[<-hfle];have hroom:(fl.length:Int)+(nb:Int)<=128:=(by have:=HF.out;omega);have hlt':=Qa.mk hlt;have hkI:(k:Int)<(s.length:Int):=(by omega);obtain⟨w1,hw1⟩: ∃w1,w1=wr.alloc (.cells #[.int .i64 bk,.int .i64 nb] 153):=⟨_,rfl⟩;have hb1:=(Below.refl wr.heap.size wr).alloc (Nat.le_refl _) (.cells #[.int .i64 bk,.int .i64 nb] 153);have g1:w1.heap[wr.heap.size]? =some (.cells #[.int .i64 bk,.int .i64 nb] 153 (0,0)):=(by rw[hw1];exact heap_alloc_new _ _);have z0:w1.cell? ⟨wr.heap.size,0,none⟩=some (.int .i64 bk):=(by rw[Qb g1];rfl);have z1:w1.cell? ⟨wr.heap.size,1,none⟩=some (.int .i64 nb):=(by rw[Qb g1];rfl);rw[<-hw1] at hb1;have HR1:=Qa.mk (Kd.Q4 hR.out hb1);have HB1:=Qa.mk (bnx hb.out hb1);have e12:decide (bk<0)=false:=decide_eq_false (by omega);have e13:decide (8<=bk)=false:=decide_eq_false (by omega);have e14:decide ((nb:Int)<1)=false:=decide_eq_false (by omega);have e15:decide (128-(fl.length:Int)<(nb:Int))=false:=decide_eq_false (by omega);have hwr:IntKind.i64.wrap (128-(fl.length:Int))=128-(fl.length:Int):=IntWalk.i64_in _ (by omega);replace hfl:=Qa.mk hfl;replace hw1:=Qa.mk hw1;replace e3:=Qa.mk e3;replace e4:=Qa.mk e4;clear hbk hnb hfle g1 hb1 hlt e1 e2 hk;go_wp2_with fail;have hsz:w1.heap.size=wr.heap.size+1:=(by rw[hw1.out];simp);have hC1:=one_C w1 bk 3;rw[hsz] at hC1;rw[<-hw1.out];refine(HRep.out _ _ bk nb hC1 (by have:=e3.out;omega) (by have:=e4.out;omega)).mono ?_;rintro e w3 ⟨g3,rfl,hg3,-,hb3⟩;have hb13:=bnx ((Below.refl w1.heap.size w1).alloc (Nat.le_refl _) (.cells #[.int .i64 bk] 3)) hb3;have HR3:=Qa.mk (Kd.Q4 HR1.out hb13);have HB3:=Qa.mk (bnx HB1.out hb13);have hC3:=preC_C hg3 (by have:=e4.out;omega);rw[List.length_replicate] at hC3;replace hC3:=Qa.mk hC3;clear hC1 hg3 hb3 hb13 HR1 HB1 hsz hw1 z0 z1 m1 m2;go_wp2_with (at_builtin;refine Kd.X8 (Kd.int .i64) (Rr:=(Kd.int .i64).K w3) (w0:=w) w.heap.size rfl (.tmp 34) (.tmp 40) 22 3 (.int .i64 0) 8 rfl Tryz.underlying22 Qw rfl (by decide) (by decide) (.slice o fl.length p4) fl (List.replicate nb bk) (some ⟨g3,0,none⟩) nb nb (fun _=>True) (fun _=>False) rfl rfl HR3.out hC3.out (fun _ _ h=>h) (fun _ h=>h.elim) (fun _ _=>trivial) HB3.out HB3.out.size (by omega) ?_;intro v1 wA hoA hbA hgA hatA;have HOA:=Qa.mk hoA;have HBA:=Qa.mk hbA;clear hoA hgA hatA hbA);go_roundw
   case rel=>exact⟨k+1,by go_num,hlt'.out,⟨by rw[hft.out];exact HOA.out⟩,HBA⟩
   case measure=>have:=hlt'.out;simp[intOf];omega
  ·obtain rfl:k=s.length:=by omega
   rw[List.take_length] at hR;go_wp2;go_ret2;exact⟨_,rfl,hR.out,hb.out⟩
end Sec

namespace Gn
attribute [local go_sem] Qh Qi Qk Ql Qd Qe
open Q15
open Q21
open Bk (Z6)
def chG (x c:Ch):Bool:=Zc c.sh c.gr&&(decide (c.sh=x.sh/\c.gr=x.gr)&&Ga (Qm x.sh x.gr) c.sc c.qu c.fi)
def K9 (n m k:Nat):Bool:=if(n:Int)=1 then decide (m=0) else decide ((m:Int)=k)
def Jz (g:Gr):Bool:=decide (1<=g.chs.length/\g.chs.length<=2)&&(Zc (chK g 0).sh (chK g 0).gr &&(K9 g.chs.length g.mid.length (Qm (chK g 0).sh (chK g 0).gr).length &&g.chs.all (chG (chK g 0))))
theorem strG_eq {a b:List Int} (ha: ∀x∈a,1<=x/\x<=8) (hb: ∀x∈b,1<=x/\x<=8):strG a=strG b↔a=b:=by
 constructor
 ·intro h
  have h1:strL a=strL b:=by
   have:=congrArg (fun x:ByteArray=>x.data.toList) h;simpa[strG] using this
  clear h
  induction a generalizing b with
  |nil=>cases b with
   |nil=>rfl
   |cons y l=>cases h1
  |cons x k ih=>cases b with
   |nil=>cases h1
   |cons y l=>
    have h2:UInt8.ofNat (48+x.toNat)=UInt8.ofNat (48+y.toNat):=(List.cons.inj h1).1;have h3:=congrArg UInt8.toNat h2;obtain⟨x1,x2⟩:=ha x (by simp);obtain⟨y1,y2⟩:=hb y (by simp);rw[UInt8.toNat_ofNat',UInt8.toNat_ofNat'] at h3;have h4:x=y:=(by omega);rw[h4,ih (fun z hz=>ha z (by simp[hz])) (fun z hz=>hb z (by simp[hz])) (List.cons.inj h1).2]
 ·rintro rfl;rfl
def Hf (ok:Bool) (ws:List Int) (w:World) (e:Ending) (w':World):Prop:=
 if ok=true then∃A c,e= .returned (.tuple #[.slice A ws.length c,.bool true])/\(Kd.int .i64).C w' A ws.length ws/\Below w.heap.size w w' else e= .returned (.tuple #[.slice none 0 0,.bool false])/\Below w.heap.size w w'
theorem Oy {α:Type} {l:List α} {p:α->Bool} {d:α} {k:Nat} (hk:k<l.length) (h:(l.take k).all p=true):((l.take (k+1)).all p=p (l.getD k d))/\(p (l.getD k d)=false->l.all p=false):=by
 have e:l.take (k+1)=l.take k++[l.getD k d]:=(by rw[List.take_succ_eq_append_getElem hk,List.getD_eq_getElem?_getD,List.getElem?_eq_getElem hk];rfl);refine⟨by rw[e,List.all_append,h];simp,fun hf=> ?_⟩;rw[Bool.eq_false_iff];intro ha;have:=List.all_eq_true.1 ha _ (show l.getD k d∈l by rw[List.getD_eq_getElem?_getD,List.getElem?_eq_getElem hk];exact List.getElem_mem hk);rw[hf] at this;cases this
theorem Lb (AC M:Option Addr) (cC cM:Nat) (g:Gr) (w:World) (hL:Laid w) (hc:kCh.C w AC g.chs.length g.chs) (hbd: ∀x∈g.chs,x.sc.length<=1000000/\x.qu.length<=1000000/\x.fi.length<=1000000) (hn:1<=g.chs.length/\g.chs.length<=2) (hd:Zc (chK g 0).sh (chK g 0).gr =true) (hm:K9 g.chs.length g.mid.length (Qm (chK g 0).sh (chK g 0).gr).length =true):
  Calls Tryz.prog 35 #[.agg #[.slice AC g.chs.length cC,.slice M g.mid.length cM]] w (Hf (g.chs.all (chG (chK g 0))) (Qm (chK g 0).sh (chK g 0).gr) w):=by
 obtain⟨xs,mid⟩:=g;dsimp only at hc hbd hn hm ⊢;obtain⟨w1,hw1⟩: ∃w1,w1=w.alloc (.cells #[.slice AC xs.length cC,.slice M mid.length cM] 31):=⟨_,rfl⟩;have hb:Below w.heap.size w w1:=(by rw[hw1];exact(Below.refl _ _).alloc (Nat.le_refl _) _);have hu31:=Tryz.underlying31;have hu46:=Tryz.underlying46;obtain⟨ad,A1,c1,A2,c2,A3,c3,A4,c4,rfl,hcell,g1,-,-,-⟩:=Jt hc hb (k:=0) (by omega);have hx:chK ⟨xs,mid⟩ 0=xs.getD 0 ch0:=rfl;rw[<-hx] at hcell g1;have HW:=Qa.mk (fun(W:World) (hb2:Below w1.heap.size w1 W)=>X3 (chK ⟨xs,mid⟩ 0).sh A1 c1 (chK ⟨xs,mid⟩ 0).gr W (hL.below (bnx hb hb2)) (Kd.Qf g1 hb2));unfold D7 Kb at HW;rw[hd,if_pos rfl,if_pos rfl] at HW;have HD:=Qa.mk (fun(W:World) (hb2:Below w1.heap.size w1 W)=>Ue (chK ⟨xs,mid⟩ 0).sh A1 c1 (chK ⟨xs,mid⟩ 0).gr W (Kd.Qf g1 hb2) (Xj hd).2 (Xj hd).1);have HWi:=Qa.mk (Yw hd);have Hin:=Qa.mk (Xj hd);obtain⟨X,hX⟩: ∃X,X=chK ⟨xs,mid⟩ 0:=⟨_,rfl⟩;rw[<-hX] at hcell HW hm HD HWi Hin ⊢;have hchG:Qa (∀c,chG X c=(Zc c.sh c.gr&&(decide (c.sh=X.sh/\c.gr=X.gr)&&Ga (Qm X.sh X.gr) c.sc c.qu c.fi))):=⟨fun c=>rfl⟩;obtain⟨ws,hws⟩: ∃ws,ws=Qm X.sh X.gr:=⟨_,rfl⟩;rw[<-hws] at HW hm HWi hchG ⊢;have HM:=Qa.mk (fun(W:World)=>K4 M cM mid.length (xs.length:Int) (ws.length:Int) W);rw[show(if(xs.length:Int)=1 then decide (mid.length=0) else decide ((mid.length:Int)=(ws.length:Int)))=true from hm] at HM;have n0:w1.cell? ad=some (.bool X.sh):=(by simpa[Addr.add] using hcell 0 _ rfl);have n1:w1.cell? ⟨ad.block,ad.off+1,none⟩=some (.slice A1 X.gr.length c1):=(by simpa[Addr.add] using hcell 1 _ rfl);have n2:w1.cell? ⟨ad.block,ad.off+2,none⟩=some (.slice A2 X.sc.length c2):=(by simpa[Addr.add] using hcell 2 _ rfl);have n3:w1.cell? ⟨ad.block,ad.off+3,none⟩=some (.slice A3 X.qu.length c3):=(by simpa[Addr.add] using hcell 3 _ rfl);have n4:w1.cell? ⟨ad.block,ad.off+4,none⟩=some (.slice A4 X.fi.length c4):=(by simpa[Addr.add] using hcell 4 _ rfl);have t1:decide ((xs.length:Int)<1)=false:=decide_eq_false (by omega);have t2:decide (2<(xs.length:Int))=false:=decide_eq_false (by omega);have t3:(0:Int)<(xs.length:Int):=(by omega);have HC:=Qa.mk hc;have HL:=Qa.mk hL;have Hbd:=Qa.mk hbd;rw[hw1] at n0 n1 n2 n3 n4;obtain⟨OK,hOK⟩: ∃OK,OK=xs.all (chG X):=⟨_,rfl⟩;rw[<-hOK];replace hOK:=Qa.mk hOK;have hn2:=Qa.mk hn.2;clear hcell hX hx hd hn hL hc g1 hm hws hbd;go_enter Tryz.func35,Tryz.ntmps35;go_wp2_with fail;rw[<-hw1];have hB1:w1.heap[w.heap.size]? =some (.cells #[.slice (some ad) xs.length cC,.slice M mid.length cM] 31 (0,0)):=(by rw[hw1];exact heap_alloc_new _ _);obtain⟨w1b,hw1b⟩: ∃w1b,w1b=w1.alloc (.cells #[.bool X.sh,.slice A1 X.gr.length c1,.slice A2 X.sc.length c2,.slice A3 X.qu.length c3,.slice A4 X.fi.length c4] 46):=⟨_,rfl⟩;have hb1b:Below w1.heap.size w1 w1b:=(by rw[hw1b];exact(Below.refl _ _).alloc (Nat.le_refl _) _);have hBb:w1b.heap[w1.heap.size]? =some (.cells #[.bool X.sh,.slice A1 X.gr.length c1,.slice A2 X.sc.length c2,.slice A3 X.qu.length c3,.slice A4 X.fi.length c4] 46 (0,0)):=(by rw[hw1b];exact heap_alloc_new _ _);rw[<-hw1b];clear hw1b;refine(HW.out _ hb1b).mono ?_;rintro e w2 ⟨B,q,rfl,hCw,hbn⟩;have hb12:=bnx hb1b hbn;have hb2:=bnx hb hb12;have z1:w2.cell? ⟨w.heap.size,1,none⟩=some (.slice M mid.length cM):=(by rw[Qb ((hb12.block _ (Qr hB1)).trans hB1)];rfl);have z0:w2.cell? ⟨w.heap.size,0,none⟩=some (.slice (some ad) xs.length cC):=(by rw[Qb ((hb12.block _ (Qr hB1)).trans hB1)];rfl);have y0:w2.cell? ⟨w1.heap.size,0,none⟩=some (.bool X.sh):=(by rw[Qb ((hbn.block _ (Qr hBb)).trans hBb)];rfl);have y1:w2.cell? ⟨w1.heap.size,1,none⟩=some (.slice A1 X.gr.length c1):=(by rw[Qb ((hbn.block _ (Qr hBb)).trans hBb)];rfl);replace hCw:=Qa.mk hCw;obtain⟨b5,hb5⟩: ∃b5,b5=w1.heap.size:=⟨_,rfl⟩;have hb5':w.heap.size+1=b5:=(by rw[hb5,hw1];simp);rw[<-hb5] at y0 y1;rw[hb5'];clear hb5';clear hbn n0 n1 n2 n3 n4 hw1 hb hB1 hBb hb5 hb1b;go_wp2_with fail;refine(HM.out _).mono ?_;rintro e w3 ⟨rfl,hbn⟩;replace hb2:=bnx hb2 hbn;replace hb12:=bnx hb12 hbn;replace z0:=cnx z0 hbn;replace y0:=cnx y0 hbn;replace y1:=cnx y1 hbn;replace hCw:=Qa.mk (Kd.Qf hCw.out hbn);clear hbn z1;go_wp2_with fail;have hnI:(xs.length:Int)<=2:=(by have:=hn2.out;omega);go_loopw [47] (fun i wr=> ∃k:Nat,i= .int .i64 k/\k<=xs.length/\Qa ((xs.take k).all (chG X)=true)/\Below w3.heap.size w3 wr) (fun i _=>xs.length-(intOf i).toNat)
 case atStart=>exact⟨0,rfl,by omega,⟨by simp⟩,Below.refl _ _⟩
 case round=>
  obtain⟨k,rfl,hk,ha,hb3⟩:=hrel;by_cases hlt:k<xs.length
  ·obtain⟨ad2,D1,d1,D2,d2,D3,d3,D4,d4,had,hcell,g1,g2,g3,g4⟩:=Jt HC.out (bnx hb2 hb3) hlt
   cases had;obtain⟨hT1,hT2⟩:=Oy (d:=ch0) hlt ha.out;have hT3:=Qa.mk (hchG.out (xs.getD k ch0));obtain⟨l2,l3,l4⟩:=Hbd.out (xs.getD k ch0) (by rw[List.getD_eq_getElem?_getD,List.getElem?_eq_getElem hlt];exact List.getElem_mem hlt);obtain⟨Y,hY⟩: ∃Y,Y=xs.getD k ch0:=⟨_,rfl⟩;rw[<-hY] at hcell g1 g2 g3 g4 hT1 hT2 hT3 l2 l3 l4;have m0:wr.cell? (ad.add (k*5))=some (.bool Y.sh):=hcell 0 _ rfl;have m1:wr.cell? (ad.add (k*5+1))=some (.slice D1 Y.gr.length d1):=hcell 1 _ rfl;have m2:wr.cell? (ad.add (k*5+1+1))=some (.slice D2 Y.sc.length d2):=hcell 2 _ rfl;have m3:wr.cell? (ad.add (k*5+1+1+1))=some (.slice D3 Y.qu.length d3):=hcell 3 _ rfl;have m4:wr.cell? (ad.add (k*5+1+1+1+1))=some (.slice D4 Y.fi.length d4):=hcell 4 _ rfl;rw[Sec.Zf] at m1 m2 m3 m4;rw[Sec.Zf] at m2 m3 m4;rw[Sec.Zf] at m3 m4;rw[Sec.Zf] at m4;simp only[Nat.add_assoc,Nat.reduceAdd] at m1 m2 m3 m4;have HWy:=Qa.mk (fun(W:World) (hb:Below wr.heap.size wr W)=>X3 Y.sh D1 d1 Y.gr W (HL.out.below (bnx hb2 (bnx hb3 hb))) (Kd.Qf g1 hb));unfold D7 Kb at HWy;have hkI:(k:Int)<(xs.length:Int):=(by omega);obtain⟨b9,hb9⟩: ∃b9,b9=wr.heap.size:=⟨_,rfl⟩;obtain⟨W9,hW9⟩: ∃W9,W9=wr.alloc (.cells #[.bool Y.sh,.slice D1 Y.gr.length d1,.slice D2 Y.sc.length d2,.slice D3 Y.qu.length d3,.slice D4 Y.fi.length d4] 46):=⟨_,rfl⟩;have hbW9:Below wr.heap.size wr W9:=(by rw[hW9];exact(Below.refl _ _).alloc (Nat.le_refl _) _);have hB9:W9.heap[b9]? =some (.cells #[.bool Y.sh,.slice D1 Y.gr.length d1,.slice D2 Y.sc.length d2,.slice D3 Y.qu.length d3,.slice D4 Y.fi.length d4] 46 (0,0)):=(by rw[hW9,hb9];exact heap_alloc_new _ _);have u0:=cnx (cnx y0 hb3) hbW9;have u1:=cnx (cnx y1 hb3) hbW9;have hlt':=Qa.mk hlt;have fin:=Qa.mk (fun(W:World) (h:Below wr.heap.size wr W)=>bnx hb2 (bnx hb3 h));have fin3:=Qa.mk (fun(W:World) (h:Below wr.heap.size wr W)=>bnx hb3 h);have HDy:=Qa.mk (fun(hv:Zc Y.sh Y.gr=true) (W:World) (hb:Below wr.heap.size wr W)=>Ue Y.sh D1 d1 Y.gr W (Kd.Qf g1 hb) (Xj hv).2 (Xj hv).1);have HDx:=Qa.mk (fun(W:World) (hb:Below wr.heap.size wr W)=>HD.out W (bnx hb12 (bnx hb3 hb)));have HIy:=Qa.mk (fun(W:World) (hb:Below wr.heap.size wr W)=>Ho Y.sh D1 D2 D3 D4 B Y.gr.length d1 d2 d3 d4 q ws Y.sc Y.qu Y.fi W (Kd.Qf hCw.out (bnx hb3 hb)) HWi.out (Kd.Qf g2 hb) (Kd.Qf g3 hb) (Kd.Qf g4 hb) l2 l3 l4);clear hcell g1 g2 g3 g4 hY hlt l2 l3 l4 hb2 hb3 hb12 z0 y0 y1 HD HM HW ha hchG
   cases hdv:Zc Y.sh Y.gr with
   |false=>
    rw[hdv,if_neg (by decide),if_neg (by decide)] at HWy;rw[hdv,Bool.false_and] at hT3;have hE:Qa (OK=false):=⟨by rw[hOK.out];exact hT2 hT3.out⟩;clear hT1 hT2 hT3 HDy HIy hdv HDx;go_wp2_with fail;rw[<-hW9,<-hb9];refine(HWy.out _ hbW9).mono ?_;rintro e w4 ⟨B2,q2,rfl,-,hbn⟩;have v0:w4.cell? ⟨b9,0,none⟩=some (.bool Y.sh):=(by rw[Qb ((hbn.block _ (Qr hB9)).trans hB9)];rfl);have hb94:=bnx hbW9 hbn;clear hbn hB9 hW9 hbW9 hb9 m0 m1 m2 m3 m4 HWy u0 u1;go_wp2_with fail;refine Z6 (fun w'=>w'.cell? ⟨b9,0,none⟩=some (.bool Y.sh)/\Below w4.heap.size w4 w') (by kernel_rfl) ⟨v0,(Below.refl _ _).drew⟩ (fun hHeld=> ?_)
    (refine Tk.tk 0 (.int .i64 1) hHeld ?_)
    (refine Tk.tk 1 (.bool true) hHeld ?_)
    (refine Tk.tk 2 (.bool true) hHeld ?_)
    (refine Tk.tz 3 hHeld ?_)
    (refine Tk.tz 4 hHeld ?_)
    (refine Tk.tz 5 hHeld ?_)
    (refine Tk.tz 6 hHeld ?_)
    (refine Tk.tz 8 hHeld ?_)
    (refine Tk.tz 9 hHeld ?_)
    (refine Tk.tz 10 hHeld ?_)
    (refine Tk.tz 11 hHeld ?_)
    (refine wpAnyH_ready (rs:=[7]) (by kernel_rfl) (by simp) ?_;refine AllReadyH.cons rfl (fun K hK=> ?_) AllReadyH.nil;go_simp)
    (go_wp2_with fail;refine hK.out _ _ (hHeld) (fun hHeld=> ?_);clear hK K;try simp only[Act.put,Tk.z1,Tk.z2,Tk.z3,Tk.z4,Tk.z5,Tk.z6])
    (refine wpAnyH_ready (rs:=[12]) (by kernel_rfl) (by simp) ?_;refine AllReadyH.cons rfl (fun K hK=> ?_) AllReadyH.nil;go_simp)
    (go_wp2_with fail;refine hK.out _ _ (hHeld) (fun hHeld=> ?_);clear hK K;try simp only[Act.put,Tk.z1,Tk.z2,Tk.z3,Tk.z4,Tk.z5,Tk.z6])
    (refine Tk.tz 13 hHeld ?_)
    (refine Tk.tk 14 (.bool true) hHeld ?_)
    (refine Tk.tk 15 (.bool true) hHeld ?_)
    (refine Tk.tz 16 hHeld ?_)
    (refine Tk.tz 17 hHeld ?_)
    (refine wpAnyH_ready (rs:=[18]) (by kernel_rfl) (by simp) ?_;refine AllReadyH.cons rfl (fun K hK=> ?_) AllReadyH.nil;go_simp)
    (go_wp2_with fail;refine hK.out _ _ (hHeld) (fun hHeld=> ?_);clear hK K;try simp only[Act.put,Tk.z1,Tk.z2,Tk.z3,Tk.z4,Tk.z5,Tk.z6])
    (refine Tk.tz 19 hHeld ?_)
    (refine Tk.tk 20 (.bool true) hHeld ?_)
    refine wpAnyH_done (by kernel_rfl) ?_ _;obtain⟨_,hh⟩:=hHeld;go_wp2;go_ret2;unfold Hf;rw[hE.out,if_neg (by decide)];exact⟨rfl,fin.out _ (bnx hb94 hh)⟩
   |true=>
    rw[hdv,if_pos rfl,if_pos rfl] at HWy;rw[hdv,Bool.true_and] at hT3;replace HDy:=Qa.mk (HDy.out hdv);have hstr:=strG_eq (Xj hdv).2 Hin.out.2;obtain⟨gy,hgy⟩: ∃gy,gy=strG Y.gr:=⟨_,rfl⟩;obtain⟨gx,hgx⟩: ∃gx,gx=strG X.gr:=⟨_,rfl⟩;rw[<-hgy] at HDy hstr;rw[<-hgx] at HDx hstr;obtain⟨CK,hCK⟩: ∃CK,CK=Ga ws Y.sc Y.qu Y.fi:=⟨_,rfl⟩;rw[<-hCK] at HIy hT3;have hw4: ∃w4,Below W9.heap.size W9 w4:=⟨W9,Below.refl _ _⟩;clear hdv hgy hgx hCK hw4;go_wp2_with fail;rw[<-hW9,<-hb9];refine(HWy.out _ hbW9).mono ?_;rintro e w4 ⟨B2,q2,rfl,-,hbn⟩;have hB4:=(hbn.block _ (Qr hB9)).trans hB9;have v0:w4.cell? ⟨b9,0,none⟩=some (.bool Y.sh):=(by rw[Qb hB4];rfl);have v1:w4.cell? ⟨b9,1,none⟩=some (.slice D1 Y.gr.length d1):=(by rw[Qb hB4];rfl);have v2:w4.cell? ⟨b9,2,none⟩=some (.slice D2 Y.sc.length d2):=(by rw[Qb hB4];rfl);have v3:w4.cell? ⟨b9,3,none⟩=some (.slice D3 Y.qu.length d3):=(by rw[Qb hB4];rfl);have v4:w4.cell? ⟨b9,4,none⟩=some (.slice D4 Y.fi.length d4):=(by rw[Qb hB4];rfl);replace u0:=cnx u0 hbn;replace u1:=cnx u1 hbn;have hb94:=bnx hbW9 hbn;clear hbn hB9 hB4 hW9 hbW9 hb9 m0 m1 m2 m3 m4 HWy;go_wp2_with fail;refine Z6 (fun w'=>w'.cell? ⟨b9,0,none⟩=some (.bool Y.sh)/\w'.cell? ⟨b9,1,none⟩=some (.slice D1 Y.gr.length d1)/\w'.cell? ⟨b9,2,none⟩=some (.slice D2 Y.sc.length d2)/\w'.cell? ⟨b9,3,none⟩=some (.slice D3 Y.qu.length d3)/\w'.cell? ⟨b9,4,none⟩=some (.slice D4 Y.fi.length d4)/\w'.cell? ⟨b5,0,none⟩=some (.bool X.sh)/\w'.cell? ⟨b5,1,none⟩=some (.slice A1 X.gr.length c1)/\Below w4.heap.size w4 w') (by kernel_rfl) ⟨v0,v1,v2,v3,v4,u0,u1,(Below.refl _ _).drew⟩ (fun hHeld=> ?_);clear v0 v1 v2 v3 v4 u0 u1
    (refine Tk.tk 0 (.int .i64 0) hHeld ?_)
    (refine Tk.tk 1 (.bool false) hHeld ?_)
    (refine Tk.tk 2 (.bool false) hHeld ?_)
    (refine Tk.tk 3 (.pointer (some ⟨b9,0,none⟩)) hHeld ?_)
    (refine Tk.tk 4 (.bool Y.sh) hHeld ?_)
    (refine Tk.tk 5 (.pointer (some ⟨b9,1,none⟩)) hHeld ?_)
    (refine Tk.tk 6 (.slice D1 Y.gr.length d1) hHeld ?_)
    (refine Tk.tk 8 (.pointer (some ⟨b5,0,none⟩)) hHeld ?_)
    (refine Tk.tk 9 (.bool X.sh) hHeld ?_)
    (refine Tk.tk 10 (.pointer (some ⟨b5,1,none⟩)) hHeld ?_)
    (refine Tk.tk 11 (.slice A1 X.gr.length c1) hHeld ?_)
    (refine wpAnyH_ready (rs:=[7]) (by kernel_rfl) (by simp) ?_;refine AllReadyH.cons rfl (fun K hK=> ?_) AllReadyH.nil;go_simp)
    refine(HDy.out _ (bnx hb94 hHeld.2.2.2.2.2.2.2)).mono ?_;rintro e w6 ⟨rfl,hb6⟩
    (go_wp2_with fail;refine hK.out _ _ (⟨cnx hHeld.1 hb6,cnx hHeld.2.1 hb6,cnx hHeld.2.2.1 hb6,cnx hHeld.2.2.2.1 hb6,cnx hHeld.2.2.2.2.1 hb6,cnx hHeld.2.2.2.2.2.1 hb6,cnx hHeld.2.2.2.2.2.2.1 hb6,bnx hHeld.2.2.2.2.2.2.2 hb6⟩) (fun hHeld=> ?_);clear hK K;try simp only[Act.put,Tk.z1,Tk.z2,Tk.z3,Tk.z4,Tk.z5,Tk.z6])
    (refine wpAnyH_ready (rs:=[12]) (by kernel_rfl) (by simp) ?_;refine AllReadyH.cons rfl (fun K hK=> ?_) AllReadyH.nil;go_simp)
    refine(HDx.out _ (bnx hb94 hHeld.2.2.2.2.2.2.2)).mono ?_;rintro e w7 ⟨rfl,hb7⟩
    (go_wp2_with fail;refine hK.out _ _ (⟨cnx hHeld.1 hb7,cnx hHeld.2.1 hb7,cnx hHeld.2.2.1 hb7,cnx hHeld.2.2.2.1 hb7,cnx hHeld.2.2.2.2.1 hb7,cnx hHeld.2.2.2.2.2.1 hb7,cnx hHeld.2.2.2.2.2.2.1 hb7,bnx hHeld.2.2.2.2.2.2.2 hb7⟩) (fun hHeld=> ?_);clear hK K;try simp only[Act.put,Tk.z1,Tk.z2,Tk.z3,Tk.z4,Tk.z5,Tk.z6])
    by_cases hsd:Y.sh=X.sh/\Y.gr=X.gr
    ·have hstr2:=hstr.2 hsd.2
     have hsh:=hsd.1;rw[decide_eq_true hsd,Bool.true_and] at hT3;clear hsd hstr;replace hT1:=Qa.mk (hT1.trans hT3.out);replace hT2:=Qa.mk (fun h=>hT2 (hT3.out.trans h))
     (refine Tk.tk 13 (.bool false) hHeld ?_)
     clear hstr2 hsh
     (refine Tk.tk 14 (.bool false) hHeld ?_)
     (refine Tk.tk 15 (.bool false) hHeld ?_)
     (refine Tk.tk 16 (.agg #[.bool Y.sh,.slice D1 Y.gr.length d1,.slice D2 Y.sc.length d2,.slice D3 Y.qu.length d3,.slice D4 Y.fi.length d4]) hHeld ?_)
     (refine Tk.tk 17 (.slice B ws.length q) hHeld ?_)
     (refine wpAnyH_ready (rs:=[18]) (by kernel_rfl) (by simp) ?_;refine AllReadyH.cons rfl (fun K hK=> ?_) AllReadyH.nil;go_simp)
     refine(HIy.out _ (bnx hb94 hHeld.2.2.2.2.2.2.2)).mono ?_;rintro e w8 ⟨rfl,hb8⟩
     (go_wp2_with fail;refine hK.out _ _ (⟨cnx hHeld.1 hb8,cnx hHeld.2.1 hb8,cnx hHeld.2.2.1 hb8,cnx hHeld.2.2.2.1 hb8,cnx hHeld.2.2.2.2.1 hb8,cnx hHeld.2.2.2.2.2.1 hb8,cnx hHeld.2.2.2.2.2.2.1 hb8,bnx hHeld.2.2.2.2.2.2.2 hb8⟩) (fun hHeld=> ?_);clear hK K;try simp only[Act.put,Tk.z1,Tk.z2,Tk.z3,Tk.z4,Tk.z5,Tk.z6])
     cases CK with
     |true=>
      (refine Tk.tk 19 (.bool false) hHeld ?_)
      (refine Tk.tk 20 (.bool false) hHeld ?_)
      refine wpAnyH_done (by kernel_rfl) ?_ _;obtain⟨_,_,_,_,_,_,_,hh⟩:=hHeld;have hT:=hT1;clear hT1 hT2 hT3;go_wp2;go_roundw
      case rel=>exact⟨k+1,by go_num,hlt'.out,hT,fin3.out _ (bnx hb94 hh)⟩
      case measure=>have:=hlt'.out;simp[intOf];omega
     |false=>
      (refine Tk.tk 19 (.bool true) hHeld ?_)
      (refine Tk.tk 20 (.bool true) hHeld ?_)
      refine wpAnyH_done (by kernel_rfl) ?_ _;obtain⟨_,_,_,_,_,_,_,hh⟩:=hHeld;have hE:Qa (OK=false):=⟨by rw[hOK.out];exact hT2.out rfl⟩;clear hT1 hT2 hT3;go_wp2;go_ret2;unfold Hf;rw[hE.out,if_neg (by decide)];exact⟨rfl,fin.out _ (bnx hb94 hh)⟩
    ·have hE:Qa (OK=false):=⟨by rw[hOK.out];exact hT2 (by rw[hT3.out,decide_eq_false hsd,Bool.false_and])⟩
     have hne:Y.sh=X.sh-> ¬gy.toList=gx.toList:=fun h1 h2=>hsd ⟨h1,hstr.1 (by
      rw[ByteArray.toList_eq,ByteArray.toList_eq] at h2;cases gy;cases gx
      exact congrArg ByteArray.mk (Array.toList_inj.1 h2))⟩
     clear hsd hT1 hT2 hstr;refine Tk.tk 13 (.bool true) hHeld ?_ (hy:=Or.inl ⟨by rfl,fun wS hS=>by(try dsimp only at hS);go_simp;exact hne⟩)
     (refine Tk.tk 14 (.bool true) hHeld ?_)
     (refine Tk.tk 15 (.bool true) hHeld ?_)
     (refine Tk.tz 16 hHeld ?_)
     (refine Tk.tz 17 hHeld ?_)
     (refine wpAnyH_ready (rs:=[18]) (by kernel_rfl) (by simp) ?_;refine AllReadyH.cons rfl (fun K hK=> ?_) AllReadyH.nil;go_simp)
     (go_wp2_with fail;refine hK.out _ _ (hHeld) (fun hHeld=> ?_);clear hK K;try simp only[Act.put,Tk.z1,Tk.z2,Tk.z3,Tk.z4,Tk.z5,Tk.z6])
     (refine Tk.tz 19 hHeld ?_)
     (refine Tk.tk 20 (.bool true) hHeld ?_)
     refine wpAnyH_done (by kernel_rfl) ?_ _;obtain⟨_,_,_,_,_,_,_,hh⟩:=hHeld;clear hne;go_wp2;go_ret2;unfold Hf;rw[hE.out,if_neg (by decide)];exact⟨rfl,fin.out _ (bnx hb94 hh)⟩
  ·obtain rfl:k=xs.length:=by omega
   have hE:Qa (OK=true):=⟨by rw[hOK.out];have:=ha.out;rwa [List.take_length] at this⟩;have hCr:=Kd.Qf hCw.out hb3;have hbf:=bnx hb2 hb3;clear hCw hb2 hb3 hb12 z0 y0 y1 HD HM HW ha hchG hk;replace hCr:=Qa.mk hCr;go_wp2;go_ret2;unfold Hf;rw[hE.out,if_pos rfl];exact⟨_,_,rfl,hCr.out,hbf⟩
end Gn

namespace Sec
attribute [local go_sem] Qh Qi Qk Ql Qd Qe
open Q15
open Runs Go.Shelf
open Q16 (Q6 Za Yc)
open Q21 (Qb Qj)
open Bts
open Bk
attribute [local go_sem] Oper.semAt_some
theorem Gg (s:List (Int×Int)) {k:Nat} (hk:k<s.length):Z7 (s.take (k+1))=Z7 (s.take k)+(3+Xb (s[k]).2):=by
 unfold Z7;rw[List.take_add_one,List.getElem?_eq_getElem hk,List.map_append,List.sum_append];simp
theorem Rj {s:List (Int×Int)} (h: ∀p∈s,1<=p.2/\p.2<=128):0<=Z7 s/\Z7 s<=18*s.length:=by
 induction s with
 |nil=>simp[Z7]
 |cons p s ih=>
  have h1:=h p (by simp);have h2:=ih (fun q hq=>h q (by simp[hq]));have h3:=Dt (n:=p.2.toNat) (by omega) (by omega);rw[show((p.2.toNat:Nat):Int)=p.2 by omega] at h3;have h4:Z7 (p::s)=3+Xb p.2+Z7 s:=rfl;rw[h4,List.length_cons]
  push_cast
  omega
theorem adj_at: ∀{s:List (Int×Int)},AdjS s-> ∀{k:Nat} (h:k+1<s.length),(s[k]).1≠(s[k+1]).1
 |[],_,k,h=>by simp at h
 |[_],_,k,h=>by simp at h
 |p::q::s,ha,0,_=>ha.1
 |p::q::s,ha,k+1,h=>adj_at (s:=q::s) ha.2 (k:=k) (by simpa using h)
theorem Bh (C:Nat->Nat->Int) (b:List Int) {k:Nat} (hk:k<b.length):cbk C 0 (b.take (k+1))=cbk C 0 (b.take k)+C (rd b k).toNat k:=by
 rw[Qu b k hk,H7,List.length_take,Nat.min_eq_left (by omega),Nat.zero_add];simp[cbk]
theorem Qcx {s:List (Int×Int)} (h: ∀p∈s,0<=p.1/\p.1<8/\1<=p.2/\p.2<=128) {j:Nat} (hj:j<(Qo s).length):0<=rd (Qo s) j/\rd (Qo s) j<8:=by
 have hm:=Qp (Qo s) j hj;unfold Qo at hm;obtain⟨x,hx,h2⟩:=List.mem_flatten.1 hm;obtain⟨p,hp,rfl⟩:=List.mem_map.1 hx;have:=h p hp;have h3:=List.eq_of_mem_replicate h2;unfold Qo;rw[h3];omega
theorem Pm {ws l:List Int} {s:List (Int×Int)} (hok:Ok ws l) (hn:(Qo s).length =ws.length) (hf: ∀j,j<ws.length->0<=Xe ws l (rd (Qo s) j).toNat j) (he: ∀p∈s,0<=p.1/\p.1<8/\1<=p.2/\p.2<=128): ∀j,j<=ws.length->0<=Z7 s+cbk (Xe ws l) 0 ((Qo s).take j)/\Z7 s+cbk (Xe ws l) 0 ((Qo s).take j)<=18*s.length+13312*j
 |0,_=>by
  have:=Rj (s:=s) (fun p hp=>by have:=he p hp;omega);simp only[List.take_zero,cbk];omega
 |j+1,h=>by
  have h1:=Pm hok hn hf he j (by omega);have h2:=Qcx he (show j<(Qo s).length by omega);have h3:=hf j (by omega);have h4:=Py (k:=(rd (Qo s) j).toNat) (by omega) (Vk (ws:=ws) hok.vals j);have h5:=Vl hok (j:=j) (by omega);have h6:=Vz hok (j:=j) (by omega);rw[Bh _ _ (by omega)];have h7:Xe ws l (rd (Qo s) j).toNat j=Q5 (rd (Qo s) j).toNat (Xf ws l j):=rfl
  push_cast
  omega
theorem Qa0 (A B:Option Addr) (c1 c2:Nat) (ws l:List Int) (As:Option Addr) (cs:Nat) (s:List (Int×Int)) (w:World) (hL:Xn w) (hr:(Kd.int .i64).C w A ws.length ws) (hr2:(Kd.int .i64).C w B l.length l) (hcap:l.length<=c2) (hok:Ok ws l) (h0:0<ws.length)
  (hs:Cells w As (Zt s)) (hel: ∀p∈s,0<=p.1/\p.1<8/\1<=p.2/\p.2<=128) (hsl:s.length<=128) (hadj:AdjS s) (hfl:(Qo s).length =ws.length) (hfit: ∀j,j<ws.length->0<=Xe ws l (rd (Qo s) j).toNat j):
  Calls Tryz.prog 191 #[.slice A ws.length c1,.slice B l.length c2,.slice As s.length cs] w fun e w'=>e= .returned (.tuple #[.int .i64 (Z7 s+cbk (Xe ws l) 0 (Qo s)),.bool true])/\Below w.heap.size w w':=by
 obtain⟨bd,rfl,_⟩:=Qn hr2 (Below.refl _ _) (k:=0) (by have:=Vr hok.wid;have:=hok.sum;omega);have HO:=Qa.mk hok;have HR:=Qa.mk hr;have HR2:=Qa.mk hr2;have HL:=Qa.mk hL;have HC:=Qa.mk hcap;have HS:=Qa.mk hs;have HE:=Qa.mk hel;have HJ:=Qa.mk hadj;have HN:=Qa.mk hfl;have HF:=Qa.mk hfit;have hslI:(s.length:Int)<=128:=(by omega);have HBk:=Qa.mk (fun(W:World) (hb:Below w.heap.size w W)=>Oi As cs s W (hs.below hb) hel hsl (by have:=hok.len;omega));have hu:=Tryz.underlying163;have hu2:=Tryz.underlying153;have hmo:Tryz.prog.follows .mixedOrders =true:=(by kernel_rfl);have HG0:Qa (∀g∈Zy A,g<w.heap.size):=⟨Y3 hr h0⟩;clear hr hr2 hL hok hcap hs hel hadj hfit hfl h0;refine(callsIn_wide (n:=3)).1 ?_;refine callsIn_of_wp_marks Tryz.func191 rfl trivial ?_ rfl;simp only[Tryz.ntmps191,List.size_toArray,List.length_cons,List.length_nil,Nat.reduceAdd,Nat.reduceSub,Array.replicate_succ,Array.replicate_zero,List.push_toArray,List.append_toArray,List.nil_append,List.cons_append];gi_wp2_with fail;obtain⟨W0,hW0⟩: ∃W0,W0=(w.alloc (.cells #[.int .i64 0] 3)).alloc (.cells #[.bool false] 4):=⟨_,rfl⟩;have hR0:=((Rws.start w).alloc #[.int .i64 0] 3).alloc #[.bool false] 4;simp only[World.size_alloc,List.nil_append,List.cons_append] at hR0;rw[<-hW0] at hR0 ⊢;clear hW0;refine⟨trivial,(callsIn_wide.2 (HBk.out W0 hR0.below)).mono ?_⟩;rintro en W1 ⟨v8,rfl,hR8,hb8⟩;obtain⟨A8,c8,rfl,-,-⟩:=Kd.Qs hR8;have hR1:=hR0.call hb8 (r:=rI 3 (.slice A8 (Qo s).length c8) (Qo s)) (Kd.Yg hR8) (Nat.le_refl _);obtain⟨g8,hg8⟩: ∃g8,g8=W1.heap.size:=⟨_,rfl⟩;have hR2:=(hR1.alloc #[.slice A8 (Qo s).length c8] 22).alloc #[.int .i64 0] 3;simp only[World.size_alloc,List.nil_append,List.cons_append] at hR2;rw[<-hg8] at hR2;have hne:(((Qo s).length :Int) != (ws.length:Int))=false:=(by rw[HN.out];simp);have hne2:((Qo s).length != ws.length)=false:=(by rw[HN.out];simp);clear hR1 hR0 hb8 hR8;gi_wp2_with fail;rw[<-hg8];obtain⟨g10,hg10⟩: ∃g10,g10=g8+1:=⟨_,rfl⟩;rw[<-hg10] at hR2 ⊢;obtain⟨W2,hW2⟩: ∃W2,W2=(W1.alloc (.cells #[.slice A8 (Qo s).length c8] 22)).alloc (.cells #[.int .i64 0] 3):=⟨_,rfl⟩;rw[<-hW2] at hR2 ⊢;replace hR2:=Qa.mk hR2;clear hW2 hg10 hg8 hne hne2;obtain⟨wo,hwo⟩: ∃wo:World,wo=W2:=⟨_,rfl⟩;rw[<-hwo] at hR2 ⊢;clear hwo W2;gi_loopw [32] (fun i wr=> ∃k:Nat,i= .int .i64 k/\k<=s.length/\Qa (Rws w wr [rI 3 (.slice A8 (Qo s).length c8) (Qo s)] [⟨w.heap.size, #[.int .i64 0],3⟩,⟨w.heap.size+1, #[.bool false],4⟩,⟨g8, #[.slice A8 (Qo s).length c8],22⟩,⟨g10, #[.int .i64 (Z7 (s.take k))],3⟩])) (fun i _=>s.length-(intOf i).toNat)
 case atStart=>exact⟨0,rfl,by omega,⟨by simpa[Z7] using hR2.out⟩⟩
 case round=>
  obtain⟨k,rfl,hk,hRr⟩:=hrel;by_cases hlt:k<s.length
  ·obtain⟨ad,had,m1,m2⟩:=Wj (HS.out.below hRr.out.below) hlt
   subst had;rw[Zf] at m2;obtain⟨e1,e2,e3,e4⟩:=HE.out _ (List.getElem_mem hlt);have hst:=Gg s hlt;have hhb:=Rj (s:=s.take k) (fun p hp=>by have:=HE.out p (List.mem_of_mem_take hp);omega);have htl:(s.take k).length <=128:=(by rw[List.length_take];omega);have hpv:Qa (∀j (h:k=j+1),(s[j]'(by omega)).1≠(s[k]).1):=⟨fun j h=>by subst h;exact adj_at HJ.out (by omega)⟩;obtain⟨bk,hbk⟩: ∃bk,bk=(s[k]).1:=⟨_,rfl⟩;obtain⟨nb,hnb⟩: ∃nb:Nat,(nb:Int)=(s[k]).2:=⟨(s[k]).2.toNat,by omega⟩;rw[<-hbk] at m1 e1 e2 hpv;rw[<-hnb] at m2 e3 e4 hst;obtain⟨hd,hhd⟩: ∃hd,hd=Z7 (s.take k):=⟨_,rfl⟩;rw[<-hhd] at hRr hst hhb;have hgb:1<=Xb (nb:Int)/\Xb (nb:Int)<=15:=Dt (by omega) (by omega);have HGm:=Qa.mk (fun(W:World)=>Ns (nb:Int) W (by omega) (by omega));obtain⟨gm,hgm⟩: ∃gm,gm=Xb (nb:Int):=⟨_,rfl⟩;rw[<-hgm] at hgb HGm hst;have hw1:IntKind.i64.wrap (3+gm)=3+gm:=IntWalk.i64_in _ (by omega);obtain⟨hn,hhn⟩: ∃hn,hn=Z7 (s.take (k+1)):=⟨_,rfl⟩;rw[<-hhn] at hst;have hw2:IntKind.i64.wrap (hd+(3+gm))=hn:=(by rw[hst];exact IntWalk.i64_in _ (by omega));have hkI:(k:Int)<(s.length:Int):=(by omega);have hlt':=Qa.mk hlt;replace hhn:=Qa.mk hhn;obtain⟨g12,hg12⟩: ∃g12,g12=wr.heap.size:=⟨_,rfl⟩;obtain⟨W4,hW4⟩: ∃W4,W4=wr.alloc (.cells #[.int .i64 bk,.int .i64 nb] 153):=⟨_,rfl⟩;have hR4:=hRr.out.alloc #[.int .i64 bk,.int .i64 nb] 153;simp only[List.nil_append,List.cons_append] at hR4;rw[<-hW4,<-hg12] at hR4;have hb4:Below wr.heap.size wr W4:=(by rw[hW4];exact(Below.refl _ _).alloc (Nat.le_refl _) _);have z0:W4.cell? ⟨g12,0,none⟩=some (.int .i64 bk):=(by rw[Qb (hR4.blk ⟨g12, #[.int .i64 bk,.int .i64 nb],153⟩ (by simp)).1];rfl);have z1:W4.cell? ⟨g12,1,none⟩=some (.int .i64 nb):=(by rw[Qb (hR4.blk ⟨g12, #[.int .i64 bk,.int .i64 nb],153⟩ (by simp)).1];rfl);have z10:W4.cell? ⟨g10,0,none⟩=some (.int .i64 hd):=(by rw[Qb (hR4.blk ⟨g10, #[.int .i64 (hd)],3⟩ (by simp)).1];rfl);have y10:=Qj (hR4.blk ⟨g10, #[.int .i64 (hd)],3⟩ (by simp)).1 0
   have hfin:Qa (∀W,Below W4.heap.size W4 W->Rws w (W.setCell ⟨g10,0,none⟩ (.int .i64 hn)) [rI 3 (.slice A8 (Qo s).length c8) (Qo s)] [⟨w.heap.size, #[.int .i64 0],3⟩,⟨w.heap.size+1, #[.bool false],4⟩,⟨g8, #[.slice A8 (Qo s).length c8],22⟩,⟨g10, #[.int .i64 (hn)],3⟩]/\W.cell? ⟨g10,0,none⟩=some (.int .i64 hd)/\W.frozen? ⟨g10,0,none⟩=false):=⟨fun W hb=>by
    have h:=hR4.step hb;have h2:=Rws.set (G1:=[⟨w.heap.size, #[.int .i64 0],3⟩,⟨w.heap.size+1, #[.bool false],4⟩,⟨g8, #[.slice A8 (Qo s).length c8],22⟩]) (G2:=[⟨g12, #[.int .i64 bk,.int .i64 nb],153⟩]) (b:=⟨g10, #[.int .i64 (hd)],3⟩) h 0 (.int .i64 hn);simp only[List.nil_append,List.cons_append,List.setIfInBounds_toArray,List.set_cons_zero] at h2
    exact⟨Rws.drop (L1:=[rI 3 (.slice A8 (Qo s).length c8) (Qo s)]) (L2:=[]) (G:=[⟨w.heap.size, #[.int .i64 0],3⟩,⟨w.heap.size+1, #[.bool false],4⟩,⟨g8, #[.slice A8 (Qo s).length c8],22⟩,⟨g10, #[.int .i64 (hn)],3⟩]) (G2:=_) h2,by rw[Qb (h.blk ⟨g10, #[.int .i64 (hd)],3⟩ (by simp)).1];rfl,Qj (h.blk ⟨g10, #[.int .i64 (hd)],3⟩ (by simp)).1 0⟩⟩
   have hpc:Qa (∀j (h:k=j+1),∃pb,W4.cell? (ad.add (j*2))=some (.int .i64 pb)/\(bk==pb)=false):=⟨fun j h=>by
    obtain⟨ad2,e,q1,_⟩:=Wj (HS.out.below hRr.out.below) (show j<s.length by omega);cases e
    exact⟨_,cnx q1 hb4,by have:=hpv.out j h;simpa using fun e=>this e.symm⟩⟩
   clear hbk hnb hhd hgm hst hhb htl hpv hlt hk hb4 hR4 hRr e1 e2 e3 e4;gi_wp2_with fail;rw[<-hW4,<-hg12];clear hW4 hg12;rcases k with _|j
   ·refine Go.wpIn_wide.2 (wp_region_noPanic (Z6 (fun W=>W.cell? ⟨g12,0,none⟩=some (.int .i64 bk)/\W.cell? ⟨g12,1,none⟩=some (.int .i64 nb)/\W.cell? ⟨g10,0,none⟩=some (.int .i64 hd)) (by kernel_rfl) ⟨z0,z1,z10⟩ (fun hHeld=> ?_)))
    (refine Tk.tk 0 (.int .i64 0) hHeld ?_)
    (refine Tk.tk 1 (.bool false) hHeld ?_)
    (refine Tk.tk 2 (.bool false) hHeld ?_)
    (refine Tk.tz 3 hHeld ?_)
    (refine Tk.tz 4 hHeld ?_)
    (refine Tk.tz 5 hHeld ?_)
    (refine Tk.tz 6 hHeld ?_)
    (refine Tk.tz 7 hHeld ?_)
    (refine Tk.tz 8 hHeld ?_)
    (refine Tk.tz 9 hHeld ?_)
    (refine Tk.tz 10 hHeld ?_)
    (refine Tk.tz 11 hHeld ?_)
    (refine Tk.tk 12 (.bool false) hHeld ?_)
    refine wpAnyH_done (by kernel_rfl) ?_ _;refine NoPanic.normal ?_;clear hHeld;gi_wp2_with fail;have hS5:Qa (∀W,Below W4.heap.size W4 W->W.cell? ⟨g12,1,none⟩=some (.int .i64 nb)/\W.cell? ⟨g10,0,none⟩=some (.int .i64 hd)/\Below W4.heap.size W4 W):=⟨fun W hb=>⟨cnx z1 hb,cnx z10 hb,hb⟩⟩;refine Go.wpIn_wide.2 (wp_region_noPanic (Qt (S:=fun W=>W.cell? ⟨g12,1,none⟩=some (.int .i64 nb)/\W.cell? ⟨g10,0,none⟩=some (.int .i64 hd)/\Below W4.heap.size W4 W) (ds:=[6]) hmo (hS5.out _ ((Below.refl _ _).drew.drew)) (fun hHeld=> ?_)))
    (refine Tk.tl 0 (.int .i64 hd) hHeld ?_)
    (refine Tk.tl 1 (.pointer (some ⟨g12,1,none⟩)) hHeld ?_)
    (refine Tk.tl 2 (.int .i64 nb) hHeld ?_)
    (refine Qg (rs:=[3]) (by kernel_rfl) (by simp) ?_;refine Qc.cons rfl (by decide) (fun K hK=> ?_) Qc.nil)
    go_simp;refine(HGm.out _).mono ?_;rintro en w5 ⟨rfl,hb5⟩;go_wp2_with fail;refine hK.out _ _ (hS5.out _ (bnx hHeld.2.2 hb5)) (fun hHeld=> ?_);clear hK K
    try simp only[Act.put,Tk.z1,Tk.z2,Tk.z3,Tk.z4,Tk.z5,Tk.z6]
    (refine Tk.tl 4 (.int .i64 (3+gm)) hHeld ?_)
    (refine Tk.tl 5 (.int .i64 hn) hHeld ?_)
    obtain⟨f1,f2,f3⟩:=hfin.out _ hHeld.2.2;replace f1:=Qa.mk f1
    (refine Qg (rs:=[6]) (by kernel_rfl) (by simp) ?_;refine Qc.Zl rfl (by decide) (fun K hK=> ?_) Qc.nil)
    go_simp;go_wp2_with fail;refine hK.out _ _ ?_;clear hK K
    try simp only[Act.put,Tk.z1,Tk.z2,Tk.z3,Tk.z4,Tk.z5,Tk.z6]
    refine Qq (by kernel_rfl) ?_ _;refine NoPanic.normal ?_;obtain⟨wn,hwn⟩: ∃wn,wn=w5.setCell ⟨g10,0,none⟩ (.int .i64 hn):=⟨_,rfl⟩;rw[<-hwn] at f1 ⊢;clear hwn f2 f3 hHeld hS5 z0 z1 z10 y10 hfin hpc;gi_wp2;go_roundw
    case rel=>exact⟨1,by go_num,hlt'.out,⟨by rw[<-hhn.out];exact f1.out⟩⟩
    case measure=>have:=hlt'.out;simp[intOf];omega
   ·obtain⟨pb,zp,hpb⟩:=hpc.out j rfl
    have hwj:IntKind.i64.wrap (((j+1:Nat):Int)-1)=(j:Int):=(by rw[show((j+1:Nat):Int)-1=(j:Int) by push_cast;omega];exact IntWalk.i64_in _ (by omega));have hwj2:IntKind.i64.wrap (j:Int)=(j:Int):=IntWalk.i64_in _ (by omega);have hjl:j<s.length:=(by omega);have hj0:decide (0<((j+1:Nat):Int))=true:=decide_eq_true (by omega);refine Go.wpIn_wide.2 (wp_region_noPanic (Z6 (fun W=>W.cell? ⟨g12,0,none⟩=some (.int .i64 bk)/\W.cell? ⟨g12,1,none⟩=some (.int .i64 nb)/\W.cell? ⟨g10,0,none⟩=some (.int .i64 hd)/\W.cell? (ad.add (j*2))=some (.int .i64 pb)) (by kernel_rfl) ⟨z0,z1,z10,zp⟩ (fun hHeld=> ?_)))
    (refine Tk.tk 0 (.int .i64 ((j+1:Nat):Int)) hHeld ?_)
    (refine Tk.tk 1 (.bool true) hHeld ?_)
    (refine Tk.tk 2 (.bool true) hHeld ?_)
    (refine Tk.tk 3 (.pointer (some ⟨g12,0,none⟩)) hHeld ?_)
    (refine Tk.tk 4 (.int .i64 bk) hHeld ?_)
    (refine Tk.tk 5 (.slice (some ad) s.length cs) hHeld ?_)
    (refine Tk.tk 6 (.int .i64 ((j+1:Nat):Int)) hHeld ?_)
    (refine Tk.tk 7 (.int .i64 j) hHeld ?_)
    (refine Tk.tk 8 (.pointer (some (ad.add (j*2)))) hHeld ?_)
    (refine Tk.tk 9 (.pointer (some (ad.add (j*2)))) hHeld ?_)
    (refine Tk.tk 10 (.int .i64 pb) hHeld ?_)
    (refine Tk.tk 11 (.bool false) hHeld ?_)
    (refine Tk.tk 12 (.bool false) hHeld ?_)
    refine wpAnyH_done (by kernel_rfl) ?_ _;refine NoPanic.normal ?_;clear hHeld;gi_wp2_with fail;have hS5:Qa (∀W,Below W4.heap.size W4 W->W.cell? ⟨g12,1,none⟩=some (.int .i64 nb)/\W.cell? ⟨g10,0,none⟩=some (.int .i64 hd)/\Below W4.heap.size W4 W):=⟨fun W hb=>⟨cnx z1 hb,cnx z10 hb,hb⟩⟩;refine Go.wpIn_wide.2 (wp_region_noPanic (Qt (S:=fun W=>W.cell? ⟨g12,1,none⟩=some (.int .i64 nb)/\W.cell? ⟨g10,0,none⟩=some (.int .i64 hd)/\Below W4.heap.size W4 W) (ds:=[6]) hmo (hS5.out _ ((Below.refl _ _).drew.drew)) (fun hHeld=> ?_)))
    (refine Tk.tl 0 (.int .i64 hd) hHeld ?_)
    (refine Tk.tl 1 (.pointer (some ⟨g12,1,none⟩)) hHeld ?_)
    (refine Tk.tl 2 (.int .i64 nb) hHeld ?_)
    (refine Qg (rs:=[3]) (by kernel_rfl) (by simp) ?_;refine Qc.cons rfl (by decide) (fun K hK=> ?_) Qc.nil)
    go_simp;refine(HGm.out _).mono ?_;rintro en w5 ⟨rfl,hb5⟩;go_wp2_with fail;refine hK.out _ _ (hS5.out _ (bnx hHeld.2.2 hb5)) (fun hHeld=> ?_);clear hK K
    try simp only[Act.put,Tk.z1,Tk.z2,Tk.z3,Tk.z4,Tk.z5,Tk.z6]
    (refine Tk.tl 4 (.int .i64 (3+gm)) hHeld ?_)
    (refine Tk.tl 5 (.int .i64 hn) hHeld ?_)
    obtain⟨f1,f2,f3⟩:=hfin.out _ hHeld.2.2;replace f1:=Qa.mk f1
    (refine Qg (rs:=[6]) (by kernel_rfl) (by simp) ?_;refine Qc.Zl rfl (by decide) (fun K hK=> ?_) Qc.nil)
    go_simp;go_wp2_with fail;refine hK.out _ _ ?_;clear hK K
    try simp only[Act.put,Tk.z1,Tk.z2,Tk.z3,Tk.z4,Tk.z5,Tk.z6]
    refine Qq (by kernel_rfl) ?_ _;refine NoPanic.normal ?_;obtain⟨wn,hwn⟩: ∃wn,wn=w5.setCell ⟨g10,0,none⟩ (.int .i64 hn):=⟨_,rfl⟩;rw[<-hwn] at f1 ⊢;clear hwn f2 f3 hHeld hS5 z0 z1 z10 y10 hfin hpc;gi_wp2;go_roundw
    case rel=>exact⟨j+1+1,by go_num,hlt'.out,⟨by rw[<-hhn.out];exact f1.out⟩⟩
    case measure=>have:=hlt'.out;simp[intOf];omega
  ·obtain rfl:k=s.length:=by omega
   rw[List.take_length] at hRr;obtain⟨g1,hg1⟩: ∃g1,g1=wr.heap.size:=⟨_,rfl⟩;have hg1w:w.heap.size<=g1:=(by rw[hg1];exact hRr.out.below.size);gi_wp2_with fail;refine⟨trivial,(callsIn_wide.2 (Kt A (some bd) ws.length c1 l.length c2 wr)).mono ?_⟩;rintro en W6 ⟨rfl,hW6⟩;have hR6:=(hRr.out.alloc #[.slice A ws.length c1] 22).alloc #[.slice (some bd) l.length c2] 22;have hs6:W6.heap.size=g1+1+1:=(by rw[hW6,hg1];simp);simp only[World.size_alloc,List.nil_append,List.cons_append] at hR6;rw[<-hW6,<-hg1] at hR6;rw[<-hg1];clear hW6 hg1 hRr hR2 wo;have b1:W6.cell? ⟨g1,0,none⟩=some (.slice A ws.length c1):=(by rw[Qb (hR6.blk ⟨g1, #[.slice A ws.length c1],22⟩ (by simp)).1];rfl);have b2:W6.cell? ⟨g1+1,0,none⟩=some (.slice (some bd) l.length c2):=(by rw[Qb (hR6.blk ⟨(g1+1), #[.slice (some bd) l.length c2],22⟩ (by simp)).1];rfl);replace hs6:=Qa.mk hs6;replace hR6:=Qa.mk hR6;have HA1:=Qa.mk (Kd.Qf HR.out hR6.out.below)
   have HG:Qa (∀g∈g1::(g1+1)::Zy A,g<W6.heap.size):=⟨fun g hg=>by
    rw[hs6.out];rcases List.mem_cons.1 hg with rfl|hg
    ·omega
    ·rcases List.mem_cons.1 hg with rfl|hg
     ·omega
     ·have:=HG0.out g hg;omega⟩
   have hS0:=Rj (s:=s) (fun p hp=>by have:=HE.out p hp;omega);gi_wp2_with fail
   refine Xw rfl (by omega) (gf:=192) (lb:= #[.pointer (some ⟨g1,0,none⟩),.pointer (some ⟨g1+1,0,none⟩)]) rfl trivial (enters_of Tryz.func192 (by kernel_rfl) rfl)
    (Kr Fence.wide _ trivial rfl (by omega) g1 (g1+1) A (some bd) c1 c2 ws l HO.out HC.out W6 HA1.out (fun _=>⟨bd,rfl⟩) b1 b2)
    (fun h k=>h.trans k) ?keep (Below.refl _ _) (fun _=>rfl) (fun j W=>Rws w W [rI 3 (.slice A8 (Qo s).length c8) (Qo s)] [⟨w.heap.size, #[.int .i64 0],3⟩,⟨w.heap.size+1, #[.bool false],4⟩,⟨g8, #[.slice A8 (Qo s).length c8],22⟩,⟨g10, #[.int .i64 (Z7 s+cbk (Xe ws l) 0 ((Qo s).take j))],3⟩,⟨g1, #[.slice A ws.length c1],22⟩,⟨(g1+1), #[.slice (some bd) l.length c2],22⟩]) ?own ?start ?round ?done
   case keep=>exact Qz.putObj (N:=W6.heap.size) HG.out
   case own=>exact fun j W W' row h hg hrow=>Rws.Jf h hg (fun r e=>⟨by have:=(hrow r e).1;have:=hs6.out;omega,(hrow r e).2⟩)
   case start=>simpa[cbk] using hR6.out
   case round=>
    rintro L j W hRw hj;have hof:=Vz HO.out hj;have hbC:Qa (∀W',Below w.heap.size w W'->(Kd.int .i64).C W' (some (bd.add (V8 ws j))) (Xf ws l j).length (Xf ws l j)):=⟨fun W' hb=>V6 HO.out hj (Kd.Qf HR2.out hb)⟩;have hbA:Yk (Xf ws l j)=true:=Vk HO.out.vals j;have hbl:=Vl HO.out hj;have hjf:j<(Qo s).length :=(by rw[HN.out];exact hj);have hcb:=Bh (Xe ws l) (Qo s) hjf;have hft:=HF.out j hj;have hbe:0<=rd (Qo s) j/\rd (Qo s) j<8:=Qcx HE.out hjf;simp only[O1,gSl];obtain⟨ag,hag⟩: ∃ag,ag=bd.add (V8 ws j):=⟨_,rfl⟩;obtain⟨d,hd⟩: ∃d,d=(rd ws j).toNat :=⟨_,rfl⟩;have hcc:Xe ws l (rd (Qo s) j).toNat j=Q5 (rd (Qo s) j).toNat (Xf ws l j):=rfl;rw[hcc] at hcb hft;obtain⟨x,hx⟩: ∃x,x=Xf ws l j:=⟨_,rfl⟩;rw[<-hx] at hbC hbA hbl hcb hft;rw[<-hag] at hbC ⊢;rw[<-hd] at hbl hof ⊢;have hxl:x.length<=128:=(by omega);rw[<-hbl];obtain⟨kb,hkb⟩: ∃kb:Nat,(kb:Int)=rd (Qo s) j:=⟨(rd (Qo s) j).toNat,by omega⟩;rw[<-hkb,Int.toNat_natCast] at hcb hft;rw[<-hkb] at hbe;have hk8:kb<8:=(by omega);have hbb:=Py hk8 hbA;have hjT:=Qa.mk hj;have hj9:(j:Int)<=128:=(by have:=HO.out.len;omega);have hjF:(j:Int)<((Qo s).length :Int):=(by omega);have hsum:=Pm HO.out HN.out HF.out HE.out j (by omega);obtain⟨sm,hsm⟩: ∃sm,sm=Z7 s+cbk (Xe ws l) 0 ((Qo s).take j):=⟨_,rfl⟩;rw[<-hsm] at hRw hsum;obtain⟨sn,hsn⟩: ∃sn,sn=Z7 s+cbk (Xe ws l) 0 ((Qo s).take (j+1)):=⟨_,rfl⟩;have hsnc:sn=sm+Q5 kb x:=(by rw[hsn,hcb,hsm];omega);replace hsn:=Qa.mk hsn;clear hof hag hx hj hd hbl hcc hcb hsm;gi_wp2;have hal:=(Below.refl W.heap.size W).alloc (Nat.le_refl _) (.cells #[.int .i64 j,.slice (some ag) x.length x.length] 163);have hRa:=hRw.alloc #[.int .i64 j,.slice (some ag) x.length x.length] 163;simp only[List.nil_append,List.cons_append] at hRa
    have hszW:W6.heap.size<=W.heap.size:=by
     have h1:=Array.getElem?_eq_some_iff.1 (hRw.blk ⟨(g1+1), #[.slice (some bd) l.length c2],22⟩ (by simp)).1;obtain⟨h1,_⟩:=h1;dsimp only at h1;have:=hs6.out;omega
    refine⟨(Zq hal).from _,Qz.step HG.out hszW hal,fun Z=>Rws w Z [rI 3 (.slice A8 (Qo s).length c8) (Qo s)] [⟨w.heap.size, #[.int .i64 0],3⟩,⟨w.heap.size+1, #[.bool false],4⟩,⟨g8, #[.slice A8 (Qo s).length c8],22⟩,⟨g10, #[.int .i64 (sm)],3⟩,⟨g1, #[.slice A ws.length c1],22⟩,⟨(g1+1), #[.slice (some bd) l.length c2],22⟩,⟨W.heap.size, #[.int .i64 j,.slice (some ag) x.length x.length],163⟩],hRa,fun _ Z Z' row h hg hrow=>Rws.Jf h hg (fun r e=>⟨by have:=(hrow r e).1;have:=hs6.out;omega,(hrow r e).2⟩),?_⟩;clear hal hRa hszW hRw;obtain⟨g13,hg13⟩: ∃g13,g13=W.heap.size:=⟨_,rfl⟩;rw[<-hg13];rintro Z hRw;clear hg13;obtain⟨W,rfl⟩: ∃W:World,W=Z:=⟨_,rfl⟩;have hrw8:=Pv (hRw.row (rI 3 (.slice A8 (Qo s).length c8) (Qo s)) (by simp));obtain⟨A8',c8',hv8,-,hC8⟩:=Kd.Qs hrw8
    obtain⟨rfl,rfl⟩:A8=A8'/\c8=c8':=by
     have h9:Value.slice A8 (Qo s).length c8=Value.slice A8' (Qo s).length c8':=hv8
     injection h9 with h1 _ h3
     exact⟨h1,h3⟩
    obtain⟨ad8,hA8,zL⟩:=Qn hC8 (Below.refl _ _) hjf;subst hA8;rw[<-hkb] at zL;replace hkb:=Qa.mk hkb;have z8:W.cell? ⟨g8,0,none⟩=some (.slice (some ad8) (Qo s).length c8):=(by rw[Qb (hRw.blk ⟨g8, #[.slice (some ad8) (Qo s).length c8],22⟩ (by simp)).1];rfl);have za:W.cell? ⟨g13,0,none⟩=some (.int .i64 j):=(by rw[Qb (hRw.blk ⟨g13, #[.int .i64 j,.slice (some ag) x.length x.length],163⟩ (by simp)).1];rfl);have zb:W.cell? ⟨g13,1,none⟩=some (.slice (some ag) x.length x.length):=(by rw[Qb (hRw.blk ⟨g13, #[.int .i64 j,.slice (some ag) x.length x.length],163⟩ (by simp)).1];rfl);have HCk:=Qa.mk (fun(W':World) (hb:Below W.heap.size W W')=>Ol kb hk8 (some ag) x.length x W' (HL.out.below (bnx hRw.below hb)) (hbC.out _ (bnx hRw.below hb)) (by omega) (Nat.le_refl _) hbA);have hwr:IntKind.i64.wrap (sm+Q5 kb x)=sn:=(by rw[<-hsnc];exact IntWalk.i64_in _ (by omega));obtain⟨bc,hbce⟩: ∃bc,bc=Q5 kb x:=⟨_,rfl⟩;rw[<-hbce] at hwr hft;replace hRw:=Qa.mk hRw;replace hsnc:=Qa.mk hsnc;clear hrw8 hv8 hC8 hbb hsum;gi_wp2_with fail;refine Held.Xd (fun W'=>W'.cell? ⟨g8,0,none⟩=some (.slice (some ad8) (Qo s).length c8)/\W'.cell? ⟨g13,0,none⟩=some (.int .i64 j)/\W'.cell? ⟨g13,1,none⟩=some (.slice (some ag) x.length x.length)/\W'.cell? (ad8.add j)=some (.int .i64 kb)/\Below W.heap.size W W') hmo (by kernel_rfl) (fun⟨_,_,h⟩=>h) ⟨z8,za,zb,zL,(Below.refl _ _).drew⟩ (fun hHeld=> ?_)
    (refine Tk.tk 0 (.slice (some ad8) (Qo s).length c8) hHeld ?_)
    (refine Tk.tk 1 (.pointer (some ⟨g13,0,none⟩)) hHeld ?_)
    (refine Tk.tk 2 (.int .i64 j) hHeld ?_)
    (refine Tk.tk 3 (.pointer (some (ad8.add j))) hHeld ?_)
    (refine Tk.tk 4 (.int .i64 kb) hHeld ?_)
    (refine Tk.tk 5 (.pointer (some ⟨g13,1,none⟩)) hHeld ?_)
    (refine Tk.tk 6 (.slice (some ag) x.length x.length) hHeld ?_)
    (refine wpAnyH_ready (rs:=[7]) (by kernel_rfl) (by simp) ?_;refine AllReadyH.cons rfl (fun K hK=> ?_) AllReadyH.nil;go_simp)
    refine(HCk.out _ hHeld.2.2.2.2).mono ?_;rintro en w5 ⟨c,E,rfl,hE,hb5⟩
    obtain⟨rfl,rfl⟩:E=0/\c=bc:=by
     rcases hE with ⟨e1,e2,-⟩|⟨-,e2,-⟩
     ·exact⟨e1,by rw[hbce];exact e2⟩
     ·rw[hbce,e2] at hft
      omega
    (go_wp2_with fail;refine hK.out _ _ (⟨cnx hHeld.1 hb5,cnx hHeld.2.1 hb5,cnx hHeld.2.2.1 hb5,cnx hHeld.2.2.2.1 hb5,bnx hHeld.2.2.2.2 hb5⟩) (fun hHeld=> ?_);clear hK K;try simp only[Act.put,Tk.z1,Tk.z2,Tk.z3,Tk.z4,Tk.z5,Tk.z6])
    (refine Tk.tk 8 (.tuple #[.int .i64 c,.int .i64 0]) hHeld ?_)
    (refine Tk.tk 9 (.int .i64 c) hHeld ?_)
    (refine Tk.tk 10 (.int .i64 0) hHeld ?_)
    (refine Tk.tk 11 (.int .i64 c) hHeld ?_)
    (refine Tk.tk 12 (.int .i64 0) hHeld ?_)
    refine wpAnyH_done (by kernel_rfl) ?_ _;have hbW:=hHeld.2.2.2.2;have hR5:=hRw.out.step hbW;have z10:w5.cell? ⟨g10,0,none⟩=some (.int .i64 sm):=(by rw[Qb (hR5.blk ⟨g10, #[.int .i64 (sm)],3⟩ (by simp)).1];rfl);have y10:=Qj (hR5.blk ⟨g10, #[.int .i64 (sm)],3⟩ (by simp)).1 0;have hfin:=Rws.set (G1:=[⟨w.heap.size, #[.int .i64 0],3⟩,⟨w.heap.size+1, #[.bool false],4⟩,⟨g8, #[.slice (some ad8) (Qo s).length c8],22⟩]) (G2:=[⟨g1, #[.slice A ws.length c1],22⟩,⟨(g1+1), #[.slice (some bd) l.length c2],22⟩,⟨g13, #[.int .i64 j,.slice (some ag) x.length x.length],163⟩]) (b:=⟨g10, #[.int .i64 (sm)],3⟩) hR5 0 (.int .i64 sn);simp only[List.nil_append,List.cons_append,List.setIfInBounds_toArray,List.set_cons_zero] at hfin;have hK5:=(Zq hbW).trans (KeepsOthers.setCell w5 ⟨g10,0,none⟩ (.int .i64 sn));replace hbce:=Qa.mk hbce;replace hfin:=Qa.mk hfin;replace hK5:=Qa.mk hK5;clear hHeld z8 za zb zL hE hb5 hbW hR5 HCk;gi_wp2;refine⟨hK5.out.from _,Qz.two (b1:=⟨g1, #[.slice A ws.length c1],22⟩) (b2:=⟨(g1+1), #[.slice (some bd) l.length c2],22⟩) hRw.out hfin.out (by simp) (by simp) (by simp) (by simp) HG0.out,?_⟩;dsimp only;rw[<-hsn.out];exact Rws.drop (L1:=[rI 3 (.slice (some ad8) (Qo s).length c8) (Qo s)]) (L2:=[]) (G:=[⟨w.heap.size, #[.int .i64 0],3⟩,⟨w.heap.size+1, #[.bool false],4⟩,⟨g8, #[.slice (some ad8) (Qo s).length c8],22⟩,⟨g10, #[.int .i64 (sn)],3⟩,⟨g1, #[.slice A ws.length c1],22⟩,⟨(g1+1), #[.slice (some bd) l.length c2],22⟩]) (G2:=_) hfin.out
   case done=>
    rintro D W hD hRw hDf;rw[show(Qo s).take ws.length=Qo s by rw[<-HN.out,List.take_length]] at hRw;have hsum:=Pm HO.out HN.out HF.out HE.out ws.length (Nat.le_refl _);rw[show(Qo s).take ws.length=Qo s by rw[<-HN.out,List.take_length]] at hsum;obtain⟨tt,htt⟩: ∃tt,tt=Z7 s+cbk (Xe ws l) 0 (Qo s):=⟨_,rfl⟩;rw[<-htt] at hRw hsum;have h1:=Rws.Jf hRw (grownBy_putObj' W D (.deferred none)) (fun r e=>by cases e;exact⟨by have:=hs6.out;omega,_,hDf,rfl⟩);have z10:W.cell? ⟨g10,0,none⟩=some (.int .i64 tt):=(by rw[Qb (hRw.blk ⟨g10, #[.int .i64 (tt)],3⟩ (by simp)).1];rfl);have z6:W.cell? ⟨w.heap.size,0,none⟩=some (.int .i64 0):=(by rw[Qb (hRw.blk ⟨w.heap.size, #[.int .i64 0],3⟩ (by simp)).1];rfl);have z7:W.cell? ⟨w.heap.size+1,0,none⟩=some (.bool false):=(by rw[Qb (hRw.blk ⟨w.heap.size+1, #[.bool false],4⟩ (by simp)).1];rfl);have y6:=Qj (hRw.blk ⟨w.heap.size, #[.int .i64 0],3⟩ (by simp)).1 0;have y7:=Qj (hRw.blk ⟨w.heap.size+1, #[.bool false],4⟩ (by simp)).1 0;have hq:=Rws.set (G1:=[]) (G2:=[⟨w.heap.size+1, #[.bool false],4⟩,⟨g8, #[.slice A8 (Qo s).length c8],22⟩,⟨g10, #[.int .i64 (tt)],3⟩,⟨g1, #[.slice A ws.length c1],22⟩,⟨(g1+1), #[.slice (some bd) l.length c2],22⟩]) (b:=⟨w.heap.size, #[.int .i64 0],3⟩) hRw 0 (.int .i64 tt);simp only[List.nil_append,List.cons_append,List.setIfInBounds_toArray,List.set_cons_zero] at hq;have hq2:=Rws.set (G1:=[⟨w.heap.size, #[.int .i64 tt],3⟩]) (G2:=[⟨g8, #[.slice A8 (Qo s).length c8],22⟩,⟨g10, #[.int .i64 (tt)],3⟩,⟨g1, #[.slice A ws.length c1],22⟩,⟨(g1+1), #[.slice (some bd) l.length c2],22⟩]) (b:=⟨w.heap.size+1, #[.bool false],4⟩) hq 0 (.bool true);simp only[List.nil_append,List.cons_append,List.setIfInBounds_toArray,List.set_cons_zero] at hq2;have hDf2:=((KeepsOthers.setCell W ⟨w.heap.size,0,none⟩ (.int .i64 tt)).trans (KeepsOthers.setCell _ ⟨w.heap.size+1,0,none⟩ (.bool true))).same D _ hDf rfl;have hq3:=Rws.Jf hq2 (grownBy_putObj' _ D (.deferred none)) (fun r e=>by cases e;exact⟨by have:=hs6.out;omega,_,hDf2,rfl⟩);have r6:=(hq3.blk ⟨w.heap.size, #[.int .i64 tt],3⟩ (by simp)).1;have r7:=(hq3.blk ⟨w.heap.size+1, #[.bool true],4⟩ (by simp)).1;have hc6:=Qb r6 0;have hc7:=Qb r7 0;have hbe:=Qa.mk hq3.below;replace htt:=Qa.mk htt;clear hRw h1 hq hq2 hq3 r6 r7;gi_wp2;refine⟨by simp,.inl ⟨_,_,rfl,run_takeDeferred hDf2,?_⟩⟩;exact⟨.tuple #[.int .i64 tt,.bool true],by simp[results,Tryz.f191,go_sem,hc6,hc7],by rw[htt.out],hbe.out⟩
end Sec

end Go.Proofs.YtnflnicdjioflaaGreatDoor
