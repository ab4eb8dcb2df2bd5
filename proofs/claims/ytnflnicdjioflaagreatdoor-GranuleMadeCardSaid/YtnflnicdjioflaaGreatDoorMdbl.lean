/- A part of the proof. -/
import Derived.Test.YtnflnicdjioflaaGreatDoorMdbk
import Derived.Test.YtnflnicdjioflaaGreatDoorMdbb
import Derived.Test.YtnflnicdjioflaaGreatDoorMdaw
import Derived.Test.YtnflnicdjioflaaGreatDoorMdbh
import Derived.Test.YtnflnicdjioflaaGreatDoorMdbj
set_option linter.unusedVariables false
set_option linter.unusedSimpArgs false
set_option maxRecDepth 100000
set_option maxHeartbeats 8000000
namespace Go.Proofs.YtnflnicdjioflaaGreatDoor
open Go.RowKit Go.Proofs.YtnflnicdjioflaaGreatDoorW.PrintWords Go.Proofs.YtnflnicdjioflaaGreatDoorW.PrintLast Go.Proofs.YtnflnicdjioflaaGreatDoorW.PrintMore
namespace Gn
attribute [local go_sem] Qi Qj Qk Ql Qg Qh
open Q15
open Q21
open Bts
open Bk
structure Hm (w:World) (g:Gr) (A:Option Addr) (c:Nat) (M:Option Addr) (m:Nat):Prop where
 chs:kCh.C w A g.chs.length g.chs
 mid:Kd.bool.C w M g.mid.length g.mid
theorem Hm.below {w W:World} {g:Gr} {A M:Option Addr} {c m:Nat} (h:Hm w g A c M m) (hb:Below w.heap.size w W):Hm W g A c M m:=⟨Kd.Qe h.chs hb,Kd.Qe h.mid hb⟩
abbrev grV (g:Gr) (A:Option Addr) (c:Nat) (M:Option Addr) (m:Nat):Value:= .agg #[.slice A g.chs.length c,.slice M g.mid.length m]
def Sm (g:Gr):Prop:= ∀x∈g.chs,x.sc.length<=1000000/\x.qu.length<=1000000/\x.fi.length<=1000000
theorem Ju (g:Gr) (A:Option Addr) (c:Nat) (M:Option Addr) (m:Nat) (w:World) (hL:Laid w) (h:Hm w g A c M m) (hs:Sm g):
  Calls Tryz.prog 21 #[grV g A c M m] w fun e w'=>e= .returned (.int .i64 (if Ul g=true then 0 else 1))/\Below w.heap.size w w':=by
 have hu31:=Tryz.underlying31;unfold grV;obtain⟨w1,hw1⟩: ∃w1,w1=w.alloc (.cells #[.slice A g.chs.length c,.slice M g.mid.length m] 31):=⟨_,rfl⟩;have hb:Below w.heap.size w w1:=(by rw[hw1];exact(Below.refl _ _).alloc (Nat.le_refl _) _);have HC:=Qa.mk (fun(W:World) (hb:Below w.heap.size w W)=>Vx A M c m g W (hL.below hb) (h.below hb).chs hs);unfold P7 at HC;obtain⟨ws,hws⟩: ∃ws,ws=Qm (chK g 0).sh (chK g 0).gr :=⟨_,rfl⟩;rw[<-hws] at HC;clear hL h hs hws
 cases hg:Ul g with
 |true=>
  simp only[hg,if_true] at HC;rw[if_pos rfl];clear hg;go_enter Tryz.func21,Tryz.ntmps21;go_wp2_with fail;rw[<-hw1];refine(HC.out _ hb).mono ?_;rintro e w2 ⟨B,q,rfl,-,hbn⟩;replace hb:=bnx hb hbn;clear hbn hw1;go_wp2;go_ret;exact⟨rfl,hb⟩
 |false=>
  simp only[hg,Bool.false_eq_true,if_false] at HC;rw[if_neg (by decide)];clear hg;go_enter Tryz.func21,Tryz.ntmps21;go_wp2_with fail;rw[<-hw1];refine(HC.out _ hb).mono ?_;rintro e w2 ⟨rfl,hbn⟩;replace hb:=bnx hb hbn;clear hbn hw1;go_wp2;go_ret;exact⟨rfl,hb⟩
theorem Gs (g:Gr) (A:Option Addr) (c:Nat) (M:Option Addr) (m:Nat) (w:World) (hL:Laid w) (hLB:Xp w) (hB4:4<=w.heap.size) (h:Hm w g A c M m) (hs:Sm g) (hg:Ul g=true) (hBW: ∀c∈g.chs,∀p∈((Sec.wL (Qm (chK g 0).sh (chK g 0).gr) c.qu (Qm (chK g 0).sh (chK g 0).gr).length).getD 0 Sec.w0).secs,BW p.1.toNat):
  Calls Tryz.prog 19 #[grV g A c M m] w fun e w'=>e= .returned (.tuple #[.int .i64 (Cc g),.int .i64 0])/\Below w.heap.size w w':=by
 have hu31:=Tryz.underlying31;unfold grV;obtain⟨w1,hw1⟩: ∃w1,w1=w.alloc (.cells #[.slice A g.chs.length c,.slice M g.mid.length m] 31):=⟨_,rfl⟩;have hb:Below w.heap.size w w1:=(by rw[hw1];exact(Below.refl _ _).alloc (Nat.le_refl _) _);have hB1:w1.heap[w.heap.size]? =some (.cells #[.slice A g.chs.length c,.slice M g.mid.length m] 31 (0,0)):=(by rw[hw1];exact heap_alloc_new _ _);have HC:=Qa.mk (fun(W:World) (hb:Below w.heap.size w W)=>Vx A M c m g W (hL.below hb) (h.below hb).chs hs);unfold P7 at HC;simp only[hg,if_true] at HC;obtain⟨ws,hws⟩: ∃ws,ws=Qm (chK g 0).sh (chK g 0).gr :=⟨_,rfl⟩;rw[<-hws] at HC hBW;have HWr:=Qa.mk (fun(W:World) (B:Option Addr) (q:Nat) (hb:Below w.heap.size w W) (hC:(Kd.int .i64).C W B ws.length ws)=>Lt A M B c m q g ws W hws (hLB.below hb) (by have:=hb.size;omega) (h.below hb).chs (h.below hb).mid hC (Bg.1 hg) hBW);clear hL h hs hg hws hLB hB4 hBW;go_enter Tryz.func19,Tryz.ntmps19;go_wp2_with fail;rw[<-hw1];refine(HC.out _ hb).mono ?_;rintro e w2 ⟨B,q,rfl,hC,hbn⟩;have hB2:=(hbn.block _ (Qp hB1)).trans hB1;have z0:w2.cell? ⟨w.heap.size,0,none⟩=some (.slice A g.chs.length c):=(by rw[Qb hB2];rfl);have z1:w2.cell? ⟨w.heap.size,1,none⟩=some (.slice M g.mid.length m):=(by rw[Qb hB2];rfl);replace hb:=bnx hb hbn;replace hC:=Qa.mk hC;clear hbn hw1 hB1 hB2 HC;go_wp2_with fail;refine(HWr.out w2 B q hb hC.out).mono ?_;rintro e w3 ⟨p,q1,bs,rfl,hW,hlen,hbn⟩;replace hb:=bnx hb hbn;have HLn:=Qa.mk (Dn w2.heap.size p q1 bs w3 hW);rw[hlen] at HLn;clear hbn hW hlen z0 z1 HWr hC;go_wp2_with fail;refine HLn.out.mono ?_;rintro e w4 ⟨rfl,rfl⟩;go_wp2;go_ret2;exact⟨rfl,hb⟩
end Gn

namespace Sp
attribute [local go_sem] Qi Qj Qk Ql Qg Qh
open Q15
open Q21
open Gn
open Q16 (isW Q0 Zn Kg)
open St (Y5 Hy Hz)
open Bd (Ye)
open Bts (Rws Row Blk)
def Pf (ws:List Int) (c:Ch):List Int:=((List.range ws.length).map fun k=>Xc (Zn c.qu ws k) (rd c.sc k)).flatten
def Di (ws:List Int) (c:Ch):List Int:=U4 (Zh c.fi) (Pf ws c) 128
def Kk (g:Gr) (ws:List Int) (j:Nat):List Int:=
 if g.chs.length=2 then(if j=0 then Hy (Di ws (chK g 0)) (Di ws (chK g 1)) (Y5 ws g.mid ws.length) else Hz (Di ws (chK g 0)) (Di ws (chK g 1)) (Y5 ws g.mid ws.length)).map Jw
 else Di ws (chK g j)
def spJ (g:Gr) (ws:List Int) (j:Nat):List Int:=Ye (chK g j).sh (chK g j).gr (Kk g ws j) 128
theorem Zx {ws c:List Int} (hw:isW ws=true) (hc:c.length=128) {k:Nat} (hk:k<ws.length):(Zn c ws k).length =Q16.wd ws k:=by
 obtain⟨o1,o2,o3,-⟩:=Q16.Za hw hk;unfold Q16.Zn;rw[List.length_take,List.length_drop];omega
theorem Qcg {l:List Int} {s:Int} (h:chk isQ l s=0):(Xc l s).length =l.length:=by unfold Xc;rw[if_pos h,List.length_map]
theorem valJ_len {ws:List Int} {c:Ch} (hw:isW ws=true) (hq:c.qu.length=128) (hk: ∀k,k<ws.length->chk isQ (Zn c.qu ws k) (rd c.sc k)=0):(Pf ws c).length =128:=by
 have key: ∀n,n<=ws.length->(((List.range n).map fun k=>Xc (Zn c.qu ws k) (rd c.sc k)).flatten).length =Q16.off ws n:=by
  intro n
  induction n with
  |zero=>intro _;simp[Q16.off]
  |succ n ih=>
   intro hn;rw[List.range_succ,List.map_append,List.flatten_append,List.length_append,ih (by omega),(Q16.Za hw (by omega:n<ws.length)).1];simp only[List.map_cons,List.map_nil,List.flatten_cons,List.flatten_nil,List.append_nil];rw[Qcg (hk n (by omega)),Zx hw hq (by omega)]
 unfold Pf;rw[key _ (Nat.le_refl _)];unfold Q16.off;rw[List.take_length,(Q0.1 hw).2.1];rfl
theorem Qey {l:List Int} {s:Int} (hs:chk isQ l s=0): ∀x∈Xc l s,-2097152<=x/\x<=2097152:=by
 intro x hx;unfold Xc at hx;rw[if_pos hs] at hx;obtain⟨q,_,rfl⟩:=List.mem_map.1 hx;obtain⟨h1,h2,h3⟩:=K3 hs;have:=V_bd (x:=Jj s) (Yh q) (by have:=Np h1.1 h1.2;omega);unfold sg
 split<;>omega
theorem valJ_bd {ws:List Int} {c:Ch} (hk: ∀k,k<ws.length->chk isQ (Zn c.qu ws k) (rd c.sc k)=0): ∀x∈Pf ws c,-2097152<=x/\x<=2097152:=by
 intro x hx;obtain⟨l,hl,hx⟩:=List.mem_flatten.1 hx;obtain⟨k,hk2,rfl⟩:=List.mem_map.1 hl;exact Qey (hk k (List.mem_range.1 hk2)) x hx
theorem chkB {ws:List Int} {c:Ch} (hw:isW ws=true) (h:ChF ws c) (hs:c.sc.length=ws.length) {k:Nat} (hk:k<ws.length):chk isQ (Zn c.qu ws k) (rd c.sc k)=0:=by
 have h1:=Sca.Nj h.e _ (Qt c.sc k (by omega));have h2:=Zx hw h.q hk;obtain⟨-,-,o3,-⟩:=Q16.Za hw hk
 have h3:(Zn c.qu ws k).all isQ=true:=List.all_eq_true.2 fun x hx=>by
  have hm:x∈c.qu:=List.mem_of_mem_drop (List.mem_of_mem_take hx);have:=List.all_eq_true.1 h.ok.vals x hm;unfold isQ;simpa using this
 have hS:isS (rd c.sc k)=true:=(by unfold isS;simpa using h1);unfold chk;rw[if_pos hS,if_pos (by omega),if_pos h3]
theorem Rws.blkc {wr w w1:World} {L:List Row} {G:List Blk} (h:Rws wr w L G) (hb:Below w.heap.size w w1) {b:Blk} (hg:w1.heap[b.g]? =some (.cells b.cs b.t (0,0))) (hs:w.heap.size<=b.g):Rws wr w1 L (G++[b]):=by
 refine⟨bnx h.below hb,fun r hr=>Na (h.row r hr) hb,h.pair,fun c hc=> ?_,fun r hr c hc=> ?_,?_⟩
 ·rcases List.mem_append.1 hc with hc|hc
  ·exact⟨Qv (h.blk c hc).1 hb,(h.blk c hc).2⟩
  ·rw[List.mem_singleton.1 hc]
   exact⟨hg,Nat.le_trans h.below.size hs⟩
 ·rcases List.mem_append.1 hc with hc|hc
  ·exact h.far r hr c hc
  ·rw[List.mem_singleton.1 hc]
   intro e;have:=Fh (h.row r hr) _ e;omega
 ·refine List.pairwise_append.2 ⟨h.gs,List.pairwise_singleton _ _,fun a ha c hc=> ?_⟩
  rw[List.mem_singleton.1 hc];have:=Qp (h.blk a ha).1;omega
def Ht (w:World) (A:Option Addr) (xs:List Ch):Prop:= ∀(k:Nat) (ad:Addr) (B:Option Addr) (c:Nat),k<xs.length->A=some ad->w.cell? (ad.add (k*5+3))=some (.slice B (xs.getD k ch0).qu.length c)->(xs.getD k ch0).qu.length <=c/\c<=9223372036854775807
theorem Ko {w:World} {g:Nat} {l:List Int} (h:w.heap[g]? =some (.cells (l.map (Value.int .i64)).toArray 3 (0,0))) (hl:l.length<=1000000):(Kd.int .i64).C w (some ⟨g,0,none⟩) l.length l:=by
 refine Kd.Z4 (enc:=Value.int .i64) (h1:=fun _=>rfl) (d:=(0:Int)) ⟨rfl,by omega,fun _=>⟨_,rfl,fun j hj=> ?_⟩⟩;rw[add_plain,Qb h];simp[hj]
def SOut (n:Nat) (Y:Nat->List Int) (w:World) (e:Ending) (w':World):Prop:=
 ∃(go cp:Nat) (cur:Array Value) (F:Nat->Nat),e= .returned (.tuple #[.slice (some ⟨go,0,none⟩) n cp,.int .i64 0])/\w'.heap[go]? =some (.cells cur 22 (0,0))/\(∀j,j<n->cur[j]? =some (.slice (some ⟨F j,0,none⟩) 128 128))/\(∀j,j<n->w'.heap[F j]? =some (.cells ((Y j).map (Value.int .i64)).toArray 3 (0,0)))/\Below w.heap.size w w'
end Sp

namespace Md
attribute [local go_sem] Qi Qj Qk Ql Qg Qh
open Q15
open Q21
open Q16 (isW)
open Gn
open Sca (scE J2)
open Sp
open Bd (Ye)
theorem Qa1 {m:Int} (hm:0<=m) (sh:Bool) (g c:List Int) (hc: ∀x∈c,-m<=x/\x<=m): ∀k,∀x∈Ye sh g c k,-m<=x/\x<=m
 |0,x,hx=>by
  unfold Ye at hx;rw[List.eq_of_mem_replicate hx];omega
 |k+1,x,hx=>by
  unfold Ye at hx;rcases List.mem_or_eq_of_mem_set hx with h|h
  ·exact Qa1 hm sh g c hc k x h
  ·rw[h]
   unfold rd;rw[List.getD_eq_getElem?_getD]
   cases e:c[(k:Int).toNat]? with
   |none=>simp only[Option.getD_none];omega
   |some y=>exact hc y (List.mem_of_getElem? e)
theorem midJ_bd (g:Gr) (ws:List Int) (j:Nat): ∀x∈Kk g ws j,-2097152<=x/\x<=2097152:=by
 intro x hx;unfold Kk at hx
 split at hx
 ·obtain⟨y,_,rfl⟩:=List.mem_map.1 hx
  exact Ia y
 ·exact Dy _ _ _ x hx
theorem spJ_bd (g:Gr) (ws:List Int) (j:Nat): ∀x∈spJ g ws j,-2097152<=x/\x<=2097152:=Qa1 (by omega) _ _ _ (midJ_bd g ws j) 128
theorem Qb5 {c l s:List Int} (hs: ∀k,k<l.length->0<=rd s k/\rd s k<=95):Q16.rng (-1023) 1023 (Vv c l s)=true:=by
 refine List.all_eq_true.2 fun x hx=> ?_
 unfold Vv at hx;obtain⟨y,hy,hxy⟩:=List.mem_flatten.1 hx;obtain⟨j,hj,rfl⟩:=List.mem_map.1 hy;replace hj:=List.mem_range.1 hj;have hsj:=hs j hj;unfold Yq at hxy
 split at hxy
 ·obtain⟨n,hn,rfl⟩:=List.mem_map.1 hxy
  have hq:=qn_bd (x:=Jj (rd s j)) (c:=Yh n) (by have:=Np hsj.1 hsj.2;omega);refine decide_eq_true ?_;unfold sg
  split<;>omega
 ·cases hxy
theorem Qe1 {s:List Int} {u:List Bool} (hs: ∀x∈s,0<=x/\x<=95):scE (X7 s u s.length) u=0:=by
 have hrd: ∀i,i<s.length->rd (X7 s u s.length) i=if u.getD i false=true then rd s i else 0:=fun i hi=>by
  unfold X7 rd;rw[Int.toNat_natCast,List.getD_eq_getElem?_getD,List.getElem?_map,List.getElem?_range hi];simp[hi]
 unfold scE;rw[if_pos,if_neg]
 ·intro h
  unfold J2 at h;obtain⟨i,hi,hp⟩:=List.any_eq_true.1 h
  have hi2:i<s.length:=by
   have:=List.mem_range.1 hi;simpa[X7] using this
  rw[hrd i hi2] at hp
  cases e:u.getD i false with
  |true=>rw[e] at hp;simp at hp
  |false=>rw[e] at hp;simp at hp
 ·refine List.all_eq_true.2 fun x hx=> ?_
  unfold X7 at hx;obtain⟨i,hi,rfl⟩:=List.mem_map.1 hx;replace hi:=List.mem_range.1 hi;rw[if_pos hi]
  split
  ·exact decide_eq_true (hs _ (Qt s i hi))
  ·rfl
theorem errS_mk {p q lo hi:Int} {c l s:List Int} (g0:Q16.isW l=true) (g1:c.length=128) (g2:s.length=l.length) (g3:Q16.rng p q c=true) (g4:Q16.rng lo hi s=true):Q16.Kg p q lo hi c l s=0:=by
 unfold Q16.Kg
 have hf:Q16.Ti c.length l [s.length]=0:=by
  unfold Q16.Ti;rw[if_pos g0,if_pos g1,if_pos (by simp[g2])]
 rw[if_pos hf,g3,g4];rfl
theorem Qc2 {d:Dr} {sc:List (List Int)} (he:X6 d sc=0):GrOk (Yc d sc)/\(Yc d sc).chs.length =d.lis.length:=by
 have hG:Yc d sc=⟨(List.range d.lis.length).map (Df d sc),d.mid⟩:=(by unfold Yc;rw[if_pos he]);unfold X6 at he
 have hv:validD d=true:=by
  cases h:validD d with
  |true=>rfl
  |false=>rw[h] at he;simp at he
 rw[if_pos hv] at he
 have hl:Vt d sc=true:=by
  cases h:Vt d sc with
  |true=>rfl
  |false=>rw[h] at he;simp at he
 rw[if_pos hl] at he
 have hr:sc.all (Q16.rng 0 95)=true:=by
  cases h:sc.all (Q16.rng 0 95) with
  |true=>rfl
  |false=>rw[h] at he;simp at he
 clear he;unfold validD headD at hv;simp only[Bool.and_eq_true,decide_eq_true_eq,List.all_eq_true,List.mem_range] at hv;obtain⟨⟨n1,n2,n3,n4⟩,hdv,hmd,hok⟩:=hv;unfold Vt at hl;simp only[Bool.and_eq_true,decide_eq_true_eq,List.all_eq_true] at hl;obtain⟨hl1,hl2⟩:=hl;rw[List.all_eq_true] at hr
 have hK:chK (Yc d sc) 0=Df d sc 0:=by
  rw[hG];unfold chK;rw[List.getD_eq_getElem?_getD,List.getElem?_map,List.getElem?_range (by omega)];rfl
 have hlen:(Yc d sc).chs.length =d.lis.length:=(by rw[hG];simp);refine⟨⟨by rw[hlen];exact⟨n1,n2⟩,by rw[hK];exact hdv,?_,?_⟩,hlen⟩
 ·rw[hK,hlen,hG]
  exact hmd
 ·intro c hc
  rw[hK];rw[hG] at hc;obtain⟨k,hk,rfl⟩:=List.mem_map.1 hc;replace hk:=List.mem_range.1 hk;refine⟨rfl,rfl,?_⟩
  have hs:rdL sc k∈sc:=by
   unfold rdL;rw[List.getD_eq_getElem?_getD,List.getElem?_eq_getElem (show k<sc.length by omega)];exact List.getElem_mem _
  have hsl:=hl2 _ hs;have hsr: ∀x∈rdL sc k,0<=x/\x<=95:=fun x hx=>by simpa using List.all_eq_true.1 (hr _ hs) x hx
  have hkk:=hok k hk;unfold okD at hkk;simp only[Bool.and_eq_true,decide_eq_true_eq] at hkk;obtain⟨k1,k2,k3,k4,k5⟩:=hkk;have hW:=Xo hdv;have hE:Q16.Kg (-2097152) 2097152 0 95 (rdL d.lis k) (Qm d.sh d.gr) (rdL sc k)=0:=errS_mk hW k1 hsl k2 (hr _ hs);have hql:=Sj hE
  show Kz (Qm d.sh d.gr) (Df d sc k).sc (Df d sc k).qu (Df d sc k).fi =true
  unfold Kz Df;dsimp only;rw[decide_eq_true (show(X7 (rdL sc k) (Xb (Qm d.sh d.gr) (Vv (rdL d.lis k) (Qm d.sh d.gr) (rdL sc k))) (rdL sc k).length).length =(Qm d.sh d.gr).length by rw[<-hsl];simp[X7]),decide_eq_true hql,k5,Qb5 (fun j hj=>hsr _ (Qt _ j (by omega))),Qe1 hsr];rfl
end Md

namespace Rq
attribute [local go_sem] Qi Qj Qk Ql Qg Qh
open Q15
open Q21
open Q16 (isW)
open Gn
open Sp (Ht)
theorem Qek (AC M:Option Addr) (cC cM:Nat) (xs:List Ch) (mid:List Bool) (w:World) (hc:kCh.C w AC xs.length xs) (hq:Ht w AC xs) (hbd: ∀x∈xs,x.sc.length<=1000000/\x.qu.length<=1000000/\x.fi.length<=1000000/\x.gr.length<=1000000) (hn:1<=xs.length/\xs.length<=2) (hd:Zd (xs.getD 0 ch0).sh (xs.getD 0 ch0).gr =true):
  Calls Tryz.prog 22 #[.agg #[.slice AC xs.length cC,.slice M mid.length cM]] w fun e w'=>e= .returned (.bool (Ul ⟨xs,mid⟩))/\Below w.heap.size w w':=by
 obtain⟨w1,hw1⟩: ∃w1,w1=w.alloc (.cells #[.slice AC xs.length cC,.slice M mid.length cM] 31):=⟨_,rfl⟩;have hb:Below w.heap.size w w1:=(by rw[hw1];exact(Below.refl _ _).alloc (Nat.le_refl _) _);have hu31:=Tryz.underlying31;have hu46:=Tryz.underlying46;obtain⟨ad,A1,c1,A2,c2,A3,c3,A4,c4,rfl,hcell,g1,-,-,-⟩:=V6 hc hb (k:=0) (by omega);have HW:=Qa.mk (fun(W:World) (hb2:Below w1.heap.size w1 W)=>Q21.Ya (xs.getD 0 ch0).sh A1 c1 (xs.getD 0 ch0).gr W (Kd.Qe g1 hb2));unfold K5 Vr at HW;rw[hd,if_pos rfl,if_pos rfl] at HW;have HS:=Qa.mk (fun(W:World) (hb2:Below w1.heap.size w1 W) (B:Option Addr) (q:Nat) (l:List Int) (hl:(Kd.int .i64).C W B l.length l) (hl9:l.length<=1000000)=>Vo B A1 q c1 l (xs.getD 0 ch0).gr W hl (Kd.Qe g1 hb2) (by omega));have HWi:=Qa.mk (Xo hd)
 have hgO:Ul ⟨xs,mid⟩=(Tj xs.length mid.length (Qm (xs.getD 0 ch0).sh (xs.getD 0 ch0).gr).length &&xs.all (chG (xs.getD 0 ch0))):=by
  unfold Ul;rw[show chK ⟨xs,mid⟩ 0=xs.getD 0 ch0 from rfl,hd,decide_eq_true (show 1<=xs.length/\xs.length<=2 from hn)];rfl
 obtain⟨X,hX⟩: ∃X,X=xs.getD 0 ch0:=⟨_,rfl⟩;have hdX:=Qa.mk hd;rw[<-hX] at hcell HW HWi HS hgO hdX;have hchG:Qa (∀c,chG X c=(Zd c.sh c.gr&&(decide (c.sh=X.sh/\c.gr=X.gr)&&Kz (Qm X.sh X.gr) c.sc c.qu c.fi))):=⟨fun c=>rfl⟩;obtain⟨ws,hws⟩: ∃ws,ws=Qm X.sh X.gr:=⟨_,rfl⟩;rw[<-hws] at HW HWi hchG hgO;have HM:=Qa.mk (fun(W:World)=>Sv M cM mid.length (xs.length:Int) (ws.length:Int) W);rw[show(if(xs.length:Int)=1 then decide (mid.length=0) else decide ((mid.length:Int)=(ws.length:Int)))=Tj xs.length mid.length ws.length from rfl] at HM;have n0:w1.cell? ad=some (.bool X.sh):=(by simpa[Addr.add] using hcell 0 _ rfl);have n1:w1.cell? ⟨ad.block,ad.off+1,none⟩=some (.slice A1 X.gr.length c1):=(by simpa[Addr.add] using hcell 1 _ rfl);have n2:w1.cell? ⟨ad.block,ad.off+2,none⟩=some (.slice A2 X.sc.length c2):=(by simpa[Addr.add] using hcell 2 _ rfl);have n3:w1.cell? ⟨ad.block,ad.off+3,none⟩=some (.slice A3 X.qu.length c3):=(by simpa[Addr.add] using hcell 3 _ rfl);have n4:w1.cell? ⟨ad.block,ad.off+4,none⟩=some (.slice A4 X.fi.length c4):=(by simpa[Addr.add] using hcell 4 _ rfl);have t1:decide ((xs.length:Int)<1)=false:=decide_eq_false (by omega);have t2:decide (2<(xs.length:Int))=false:=decide_eq_false (by omega);have t3:(0:Int)<(xs.length:Int):=(by omega);have hwl:=Qa.mk ((Q16.Q0.1 HWi.out).2.2);have HC:=Qa.mk hc;have HQ:=Qa.mk hq;have Hbd:=Qa.mk hbd;rw[hw1] at n0 n1 n2 n3 n4;obtain⟨OK,hOK⟩: ∃OK,OK=Ul ⟨xs,mid⟩:=⟨_,rfl⟩;rw[<-hOK] at hgO ⊢;replace hgO:=Qa.mk hgO;obtain⟨mo,hmo⟩: ∃mo,mo=Tj xs.length mid.length ws.length:=⟨_,rfl⟩;rw[<-hmo] at hgO HM;have hn2:=Qa.mk hn.2;clear hcell hX hd hn hc g1 hws hbd hOK hq hmo;go_enter Tryz.func22,Tryz.ntmps22;go_wp2_with fail;rw[<-hw1];have hB1:w1.heap[w.heap.size]? =some (.cells #[.slice (some ad) xs.length cC,.slice M mid.length cM] 31 (0,0)):=(by rw[hw1];exact heap_alloc_new _ _);obtain⟨w1b,hw1b⟩: ∃w1b,w1b=w1.alloc (.cells #[.bool X.sh,.slice A1 X.gr.length c1,.slice A2 X.sc.length c2,.slice A3 X.qu.length c3,.slice A4 X.fi.length c4] 46):=⟨_,rfl⟩;have hb1b:Below w1.heap.size w1 w1b:=(by rw[hw1b];exact(Below.refl _ _).alloc (Nat.le_refl _) _);have hBb:w1b.heap[w1.heap.size]? =some (.cells #[.bool X.sh,.slice A1 X.gr.length c1,.slice A2 X.sc.length c2,.slice A3 X.qu.length c3,.slice A4 X.fi.length c4] 46 (0,0)):=(by rw[hw1b];exact heap_alloc_new _ _);rw[<-hw1b];clear hw1b;refine(HW.out _ hb1b).mono ?_;rintro e w2 ⟨B,q,rfl,hCw,hbn⟩;have hb12:=bnx hb1b hbn;have hb2:=bnx hb hb12;have z1:w2.cell? ⟨w.heap.size,1,none⟩=some (.slice M mid.length cM):=(by rw[Qb ((hb12.block _ (Qp hB1)).trans hB1)];rfl);have z0:w2.cell? ⟨w.heap.size,0,none⟩=some (.slice (some ad) xs.length cC):=(by rw[Qb ((hb12.block _ (Qp hB1)).trans hB1)];rfl);have y0:w2.cell? ⟨w1.heap.size,0,none⟩=some (.bool X.sh):=(by rw[Qb ((hbn.block _ (Qp hBb)).trans hBb)];rfl);have y1:w2.cell? ⟨w1.heap.size,1,none⟩=some (.slice A1 X.gr.length c1):=(by rw[Qb ((hbn.block _ (Qp hBb)).trans hBb)];rfl);replace hCw:=Qa.mk hCw;obtain⟨b5,hb5⟩: ∃b5,b5=w1.heap.size:=⟨_,rfl⟩;have hb5':w.heap.size+1=b5:=(by rw[hb5,hw1];simp);rw[<-hb5] at y0 y1;rw[hb5'];clear hb5';clear hbn n0 n1 n2 n3 n4 hw1 hb hB1 hBb hb5 hb1b;go_wp2_with fail;refine(HM.out _).mono ?_;rintro e w3 ⟨rfl,hbn⟩;replace hb2:=bnx hb2 hbn;replace hb12:=bnx hb12 hbn;replace z0:=cnx z0 hbn;replace y0:=cnx y0 hbn;replace y1:=cnx y1 hbn;replace hCw:=Qa.mk (Kd.Qe hCw.out hbn);clear hbn z1
 cases mo with
 |false=>
  have hE:Qa (OK=false):=⟨by rw[hgO.out];rfl⟩;go_wp2_with fail;go_ret;exact⟨by rw[hE.out];rfl,hb2⟩
 |true=>
  have hgO2:Qa (OK=xs.all (chG X)):=⟨by rw[hgO.out];rfl⟩;go_wp2_with fail;have hnI:(xs.length:Int)<=2:=(by have:=hn2.out;omega);go_loopw [46] (fun i wr=> ∃k:Nat,i= .int .i64 k/\k<=xs.length/\Qa ((xs.take k).all (chG X)=true)/\Below w3.heap.size w3 wr) (fun i _=>xs.length-(intOf i).toNat)
  case atStart=>exact⟨0,rfl,by omega,⟨by simp⟩,Below.refl _ _⟩
  case round=>
   obtain⟨k,rfl,hk,ha,hb3⟩:=hrel;by_cases hlt:k<xs.length
   ·obtain⟨ad2,D1,d1,D2,d2,D3,d3,D4,d4,had,hcell,g1,g2,g3,g4⟩:=V6 HC.out (bnx hb2 hb3) hlt
    cases had;obtain⟨hT1,hT2⟩:=Oz (d:=ch0) hlt ha.out;have hT3:=Qa.mk (hchG.out (xs.getD k ch0));obtain⟨l2,l3,l4,l1⟩:=Hbd.out (xs.getD k ch0) (by rw[List.getD_eq_getElem?_getD,List.getElem?_eq_getElem hlt];exact List.getElem_mem hlt)
    have hcap:(xs.getD k ch0).qu.length <=d3/\d3<=9223372036854775807:=by
     obtain⟨ad2,E1,e1,E2,e2,E3,e3,E4,e4,had,hcell0,-⟩:=V6 HC.out (Below.refl _ _) hlt;cases had;have h0:=hcell0 3 _ rfl;have h1:=hcell 3 _ rfl;have h2:=cnx h0 (bnx hb2 hb3);rw[h1] at h2;cases h2;exact HQ.out k ad _ _ hlt rfl h0
    obtain⟨Y,hY⟩: ∃Y,Y=xs.getD k ch0:=⟨_,rfl⟩;rw[<-hY] at hcell g1 g2 g3 g4 hT1 hT2 hT3 l2 l3 l4 l1 hcap;have m0:wr.cell? (ad.add (k*5))=some (.bool Y.sh):=hcell 0 _ rfl;have m1:wr.cell? (ad.add (k*5+1))=some (.slice D1 Y.gr.length d1):=hcell 1 _ rfl;have m2:wr.cell? (ad.add (k*5+1+1))=some (.slice D2 Y.sc.length d2):=hcell 2 _ rfl;have m3:wr.cell? (ad.add (k*5+1+1+1))=some (.slice D3 Y.qu.length d3):=hcell 3 _ rfl;have m4:wr.cell? (ad.add (k*5+1+1+1+1))=some (.slice D4 Y.fi.length d4):=hcell 4 _ rfl;rw[Sec.Q4] at m1 m2 m3 m4;rw[Sec.Q4] at m2 m3 m4;rw[Sec.Q4] at m3 m4;rw[Sec.Q4] at m4;simp only[Nat.add_assoc,Nat.reduceAdd] at m1 m2 m3 m4;have hkI:(k:Int)<(xs.length:Int):=(by omega);obtain⟨b9,hb9⟩: ∃b9,b9=wr.heap.size:=⟨_,rfl⟩;obtain⟨W9,hW9⟩: ∃W9,W9=wr.alloc (.cells #[.bool Y.sh,.slice D1 Y.gr.length d1,.slice D2 Y.sc.length d2,.slice D3 Y.qu.length d3,.slice D4 Y.fi.length d4] 46):=⟨_,rfl⟩;have hbW9:Below wr.heap.size wr W9:=(by rw[hW9];exact(Below.refl _ _).alloc (Nat.le_refl _) _);have hB9:W9.heap[b9]? =some (.cells #[.bool Y.sh,.slice D1 Y.gr.length d1,.slice D2 Y.sc.length d2,.slice D3 Y.qu.length d3,.slice D4 Y.fi.length d4] 46 (0,0)):=(by rw[hW9,hb9];exact heap_alloc_new _ _);have u0:=cnx y0 hb3;have u1:=cnx y1 hb3;have hb5l:b5<wr.heap.size:=World.block_lt_of_cell? _ _ u0;have hb5n:b5≠wr.heap.size:=Nat.ne_of_lt hb5l;have hlt':=Qa.mk hlt;have fin:=Qa.mk (fun(W:World) (h:Below wr.heap.size wr W)=>bnx hb2 (bnx hb3 h));have fin3:=Qa.mk (fun(W:World) (h:Below wr.heap.size wr W)=>bnx hb3 h);have HIy:=Qa.mk (fun(W:World) (hb:Below wr.heap.size wr W)=>Sq Y.sh D1 D2 D3 D4 B Y.gr.length d1 d2 d3 d4 q ws Y.sc Y.qu Y.fi W (Kd.Qe hCw.out (bnx hb3 hb)) HWi.out (Kd.Qe g2 hb) (Kd.Qe g3 hb) (Kd.Qe g4 hb) l2 l3 l4 hcap.1 hcap.2);have HSy:=Qa.mk (fun(W:World) (hb:Below wr.heap.size wr W)=>HS.out W (bnx hb12 (bnx hb3 hb)) D1 d1 Y.gr (Kd.Qe g1 hb) l1);by_cases hs:Y.sh=X.sh
    ·by_cases hg:Y.gr=X.gr
     ·rw[show Zd Y.sh Y.gr=true from by rw[hs,hg];exact hdX.out,decide_eq_true (show Y.sh=X.sh/\Y.gr=X.gr from⟨hs,hg⟩),Bool.true_and,Bool.true_and] at hT3
      rw[decide_eq_true hg] at HSy;have hsb:(Y.sh != X.sh)=false:=(by rw[hs];simp);obtain⟨ck,hck⟩: ∃ck,ck=Kz ws Y.sc Y.qu Y.fi:=⟨_,rfl⟩;rw[<-hck] at hT3 HIy;rw[hs] at m0 hW9 hB9 HIy;clear hck hs hg hsb hcell g1 g2 g3 g4 hY hlt l1 l2 l3 l4 hcap hb2 hb3 hb12 z0 y0 y1 HM HW ha hchG;go_wp2_with fail;rw[<-hW9,<-hb9];refine(HSy.out _ hbW9).mono ?_;rintro e w4 ⟨rfl,hbn⟩;have hB4:=(hbn.block _ (Qp hB9)).trans hB9;have v0:w4.cell? ⟨b9,0,none⟩=some (.bool X.sh):=(by rw[Qb hB4];rfl);have v1:w4.cell? ⟨b9,1,none⟩=some (.slice D1 Y.gr.length d1):=(by rw[Qb hB4];rfl);have v2:w4.cell? ⟨b9,2,none⟩=some (.slice D2 Y.sc.length d2):=(by rw[Qb hB4];rfl);have v3:w4.cell? ⟨b9,3,none⟩=some (.slice D3 Y.qu.length d3):=(by rw[Qb hB4];rfl);have v4:w4.cell? ⟨b9,4,none⟩=some (.slice D4 Y.fi.length d4):=(by rw[Qb hB4];rfl);have hb94:=bnx hbW9 hbn;clear hbn hB9 hB4 hW9 hbW9 hb9 m0 m1 m2 m3 m4 u0 u1;go_wp2_with fail;refine(HIy.out _ hb94).mono ?_;rintro e w5 ⟨rfl,hbn⟩;have hb95:=bnx hb94 hbn;clear hbn v0 v1 v2 v3 v4 hb94
      cases ck with
      |false=>
       have hE:Qa (OK=false):=⟨by rw[hgO2.out];exact hT2 hT3.out⟩;clear hT1 hT2 hT3;go_wp2_with fail;go_ret;exact⟨by rw[hE.out];rfl,fin.out _ hb95⟩
      |true=>
       have hT4:Qa ((xs.take (k+1)).all (chG X)=true):=⟨by rw[hT1];exact hT3.out⟩;clear hT1 hT2 hT3;go_wp2_with fail;go_roundw
       case rel=>exact⟨k+1,by go_num,hlt'.out,hT4,fin3.out _ hb95⟩
       case measure=>have:=hlt'.out;simp[intOf];omega
     ·have hE:Qa (OK=false):=⟨by rw[hgO2.out];exact hT2 (by rw[hT3.out,decide_eq_false (show¬(Y.sh=X.sh/\Y.gr=X.gr) from fun h=>hg h.2),Bool.false_and,Bool.and_false])⟩
      rw[decide_eq_false hg] at HSy;rw[hs] at m0 hW9 hB9;clear hs hg HIy hT1 hT2 hT3 hcell g1 g2 g3 g4 hY hlt l1 l2 l3 l4 hcap hb2 hb3 hb12 z0 y0 y1 HM HW ha hchG;go_wp2_with fail;rw[<-hW9];refine(HSy.out _ hbW9).mono ?_;rintro e w4 ⟨rfl,hbn⟩;have hb94:=bnx hbW9 hbn;clear hbn hB9 hW9 hbW9 hb9 m0 m1 m2 m3 m4 u0 u1;go_wp2_with fail;go_ret;exact⟨by rw[hE.out];rfl,fin.out _ hb94⟩
    ·have hE:Qa (OK=false):=⟨by rw[hgO2.out];exact hT2 (by rw[hT3.out,decide_eq_false (show¬(Y.sh=X.sh/\Y.gr=X.gr) from fun h=>hs h.1),Bool.false_and,Bool.and_false])⟩
     have hsb:(Y.sh != X.sh)=true:=by simpa using hs
     have hX2:Y.sh= !X.sh:=by
      cases h1:Y.sh<;>cases h2:X.sh<;>simp_all
     have hbf:=Qa.mk hbW9;obtain⟨sx,hsx⟩: ∃sx,sx=X.sh:=⟨_,rfl⟩;rw[hX2,<-hsx] at m0 hsb hW9;rw[<-hsx] at u0;have hW8:=Qa.mk hW9;clear hs hX2 hsx hB9 HIy HSy hT1 hT2 hT3 hbW9 hW9 hcell g1 g2 g3 g4 hY hlt l1 l2 l3 l4 hcap hb2 hb3 hb12 z0 y0 y1 HM HW ha hchG;cases sx
     all_goals
      go_wp2_with fail;go_ret;exact⟨by rw[hE.out];rfl,by have:=fin.out _ hbf.out;rw[hW8.out] at this;exact this⟩
   ·obtain rfl:k=xs.length:=by omega
    have hE:Qa (OK=true):=⟨by rw[hgO2.out];have:=ha.out;rwa [List.take_length] at this⟩;go_wp2_with fail;go_ret;exact⟨by rw[hE.out];rfl,bnx hb2 hb3⟩
end Rq

namespace Rq
attribute [local go_sem] Qi Qj Qk Ql Qg Qh
open Q15
open Q21
open Gn
open Sp (Ht)
theorem Qej (AC M:Option Addr) (cC cM:Nat) (xs:List Ch) (mid:List Bool) (w:World) (hl:xs.length<=1000000) (hn: ¬(1<=xs.length/\xs.length<=2)):
  Calls Tryz.prog 22 #[.agg #[.slice AC xs.length cC,.slice M mid.length cM]] w fun e w'=>e= .returned (.bool false)/\Below w.heap.size w w':=by
 have hb:Below w.heap.size w (w.alloc (.cells #[.slice AC xs.length cC,.slice M mid.length cM] 31)):=(Below.refl _ _).alloc (Nat.le_refl _) _;have hu31:=Tryz.underlying31;have hlI:(xs.length:Int)<=1000000:=(by omega);by_cases h1:(xs.length:Int)<1
 ·have t1:decide ((xs.length:Int)<1)=true:=decide_eq_true h1
  clear h1 hn hl;go_enter Tryz.func22,Tryz.ntmps22;go_wp2_with fail;go_ret;exact⟨rfl,hb⟩
 ·have t1:decide ((xs.length:Int)<1)=false:=decide_eq_false h1
  have t2:decide (2<(xs.length:Int))=true:=decide_eq_true (by omega);clear h1 hn hl;go_enter Tryz.func22,Tryz.ntmps22;go_wp2_with fail;go_ret;exact⟨rfl,hb⟩
theorem Qb7 (AC M:Option Addr) (cC cM:Nat) (xs:List Ch) (mid:List Bool) (w:World) (hc:kCh.C w AC xs.length xs) (hn:1<=xs.length/\xs.length<=2) (hd:Zd (xs.getD 0 ch0).sh (xs.getD 0 ch0).gr =false):
  Calls Tryz.prog 22 #[.agg #[.slice AC xs.length cC,.slice M mid.length cM]] w fun e w'=>e= .returned (.bool false)/\Below w.heap.size w w':=by
 obtain⟨w1,hw1⟩: ∃w1,w1=w.alloc (.cells #[.slice AC xs.length cC,.slice M mid.length cM] 31):=⟨_,rfl⟩;have hb:Below w.heap.size w w1:=(by rw[hw1];exact(Below.refl _ _).alloc (Nat.le_refl _) _);have hu31:=Tryz.underlying31;have hu46:=Tryz.underlying46;obtain⟨ad,A1,c1,A2,c2,A3,c3,A4,c4,rfl,hcell,g1,-,-,-⟩:=V6 hc hb (k:=0) (by omega);have HW:=Qa.mk (fun(W:World) (hb2:Below w1.heap.size w1 W)=>Q21.Ya (xs.getD 0 ch0).sh A1 c1 (xs.getD 0 ch0).gr W (Kd.Qe g1 hb2));unfold K5 Vr at HW;rw[hd,if_neg (by decide),if_neg (by decide)] at HW;obtain⟨X,hX⟩: ∃X,X=xs.getD 0 ch0:=⟨_,rfl⟩;rw[<-hX] at hcell HW;have n0:w1.cell? ad=some (.bool X.sh):=(by simpa[Addr.add] using hcell 0 _ rfl);have n1:w1.cell? ⟨ad.block,ad.off+1,none⟩=some (.slice A1 X.gr.length c1):=(by simpa[Addr.add] using hcell 1 _ rfl);have n2:w1.cell? ⟨ad.block,ad.off+2,none⟩=some (.slice A2 X.sc.length c2):=(by simpa[Addr.add] using hcell 2 _ rfl);have n3:w1.cell? ⟨ad.block,ad.off+3,none⟩=some (.slice A3 X.qu.length c3):=(by simpa[Addr.add] using hcell 3 _ rfl);have n4:w1.cell? ⟨ad.block,ad.off+4,none⟩=some (.slice A4 X.fi.length c4):=(by simpa[Addr.add] using hcell 4 _ rfl);have t1:decide ((xs.length:Int)<1)=false:=decide_eq_false (by omega);have t2:decide (2<(xs.length:Int))=false:=decide_eq_false (by omega);have t3:(0:Int)<(xs.length:Int):=(by omega);rw[hw1] at n0 n1 n2 n3 n4;clear hcell hX hd hn hc g1;go_enter Tryz.func22,Tryz.ntmps22;go_wp2_with fail;rw[<-hw1];obtain⟨w1b,hw1b⟩: ∃w1b,w1b=w1.alloc (.cells #[.bool X.sh,.slice A1 X.gr.length c1,.slice A2 X.sc.length c2,.slice A3 X.qu.length c3,.slice A4 X.fi.length c4] 46):=⟨_,rfl⟩;have hb1b:Below w1.heap.size w1 w1b:=(by rw[hw1b];exact(Below.refl _ _).alloc (Nat.le_refl _) _);rw[<-hw1b];clear hw1b;refine(HW.out _ hb1b).mono ?_;rintro e w2 ⟨B,q,rfl,-,hbn⟩;have hb2:=bnx hb (bnx hb1b hbn);clear hbn n0 n1 n2 n3 n4 hw1 hb hb1b;go_wp2_with fail;go_ret;exact⟨rfl,hb2⟩
theorem Nc (g:Gr) (AC M:Option Addr) (cC cM:Nat) (w:World) (hc:kCh.C w AC g.chs.length g.chs) (hq:Ht w AC g.chs) (hl:g.chs.length<=1000000) (hbd: ∀x∈g.chs,x.sc.length<=1000000/\x.qu.length<=1000000/\x.fi.length<=1000000/\x.gr.length<=1000000):
  Calls Tryz.prog 22 #[.agg #[.slice AC g.chs.length cC,.slice M g.mid.length cM]] w fun e w'=>e= .returned (.bool (Ul g))/\Below w.heap.size w w':=by
 obtain⟨xs,mid⟩:=g;by_cases hn:1<=xs.length/\xs.length<=2
 ·cases hd:Zd (xs.getD 0 ch0).sh (xs.getD 0 ch0).gr with
  |true=>exact Qek AC M cC cM xs mid w hc hq hbd hn hd
  |false=>
   have e:Ul ⟨xs,mid⟩=false:=by
    unfold Ul;rw[show chK ⟨xs,mid⟩ 0=xs.getD 0 ch0 from rfl,hd,Bool.false_and,Bool.and_false]
   rw[e];exact Qb7 AC M cC cM xs mid w hc hn hd
 ·have e:Ul ⟨xs,mid⟩=false:=by
   unfold Ul;rw[decide_eq_false (show¬(1<=(⟨xs,mid⟩:Gr).chs.length /\(⟨xs,mid⟩:Gr).chs.length <=2) from hn),Bool.false_and]
  rw[e];exact Qej AC M cC cM xs mid w hl hn
end Rq

namespace Sp
attribute [local go_sem] Qi Qj Qk Ql Qg Qh
open Q15
open Q21
open Gn
open Bk (Z6)
open Q16 (isW Q0 Zn Kg)
open St (Y5 Hy Hz at_ sV)
open Bd (Ye)
open Bts
open Runs Go.Shelf
attribute [local go_sem] Oper.semAt_some
theorem info_sl:(Tryz.prog.info? 22).map (fun i=>(i.zero,i.size,i.bytes))=some (some (.slice none 0 0),1,24):=by kernel_rfl
abbrev lisG (F:Nat->Nat) (R:Nat->List Int) (k:Nat):List Blk:=(List.range k).map fun j=>⟨F j,((R j).map (Value.int .i64)).toArray,3⟩
abbrev lisC (F:Nat->Nat) (k:Nat):List Value:=(List.range k).map fun j=>sV (F j)
theorem lis_new (F:Nat->Nat) (R:Nat->List Int) (k g:Nat):lisG F R k++[⟨g,((R k).map (Value.int .i64)).toArray,3⟩]=lisG (fun j=>if j=k then g else F j) R (k+1)/\lisC F k++[sV g]=lisC (fun j=>if j=k then g else F j) (k+1):=by
 unfold lisG lisC;rw[List.range_succ,List.map_append,List.map_append];refine⟨?_,?_⟩
 ·congr 1
  ·refine List.map_congr_left fun j hj=> ?_
   dsimp only;rw[if_neg (by have:=List.mem_range.1 hj;omega)]
  ·simp
 ·congr 1
  ·refine List.map_congr_left fun j hj=> ?_
   dsimp only;rw[if_neg (by have:=List.mem_range.1 hj;omega)]
  ·simp
theorem Rws.sub {wr w:World} {L:List Row} {G G':List Blk} (h:Rws wr w L G) (hs:G'.Sublist G):Rws wr w L G':=
 ⟨h.below,h.row,h.pair,fun b hb=>h.blk b (hs.subset hb),fun r hr b hb=>h.far r hr b (hs.subset hb),h.gs.sublist hs⟩
theorem Rws.unrow {wr w:World} {e n:Nat} {v:Value} {xs:List Value} {G:List Blk} (h:Rws wr w [⟨e,1,v,n,xs⟩] G) (hn:0<n): ∃(g cap:Nat) (cur:Array Value),v= .slice (some ⟨g,0,none⟩) n cap/\Rws wr w [] (⟨g,cur,e⟩::G)/\ ∀j,j<n->cur[j]? =xs[j]? :=by
 obtain⟨h1,h2⟩:=h.row _ (List.mem_singleton.2 rfl);dsimp only at h1 h2;rcases h2 with ⟨-,h0⟩|⟨g,cap,cur,rfl,hb,hg,h3,h4,h5,h6⟩
 ·omega
 ·refine⟨g,cap,cur,rfl,⟨h.below,by simp,.nil,fun b hb2=> ?_,by simp,?_⟩,fun j hj=> ?_⟩
  ·rcases List.mem_cons.1 hb2 with rfl|hb2
   ·exact⟨hg,hb⟩
   ·exact h.blk b hb2
  ·refine List.pairwise_cons.2 ⟨fun b hb2 e=> ?_,h.gs⟩
   have:=h.far _ (List.mem_singleton.2 rfl) b hb2;exact this (congrArg some e)
  ·rw[<-h6,List.getElem?_take_of_lt (by omega)]
   simp
theorem Lx (a:Addr) (n:Nat): ∀j,a.add (n+(j+1))=⟨(a.add n).block,(a.add n).off +(j+1),none⟩
 |0=>Sec.Q4 a n
 |j+1=>by rw[show n+(j+1+1)=n+(j+1)+1 by omega,Sec.Q4,Lx a n j];rfl
theorem Mw (g:Gr) (A M:Option Addr) (c m:Nat) (w:World) (hL:Laid w) (h:Hm w g A c M m) (hs:Sm g) (hg:Ul g=true) (hcq:Ht w A g.chs):
  Calls Tryz.prog 13 #[grV g A c M m] w (SOut g.chs.length (spJ g (Qm (chK g 0).sh (chK g 0).gr)) w):=by
 obtain⟨xs,mid⟩:=g;unfold grV;have hG:=Bg.1 hg;have hn:=hG.n;dsimp only at hn;have hC:=Qa.mk h.chs;have hM:=Qa.mk h.mid;dsimp only at hC hM;have HW:=Qa.mk (fun(W:World) (hb:Below w.heap.size w W)=>Vx A M c m ⟨xs,mid⟩ W (hL.below hb) (h.below hb).chs hs);unfold P7 at HW;simp only[hg,if_true] at HW;have hws:=Xo hG.div;have hmid:=hG.mid
 have HF:=Qa.mk (fun k (hk:k<xs.length)=>(show ChF (Qm (chK ⟨xs,mid⟩ 0).sh (chK ⟨xs,mid⟩ 0).gr) (xs.getD k ch0)/\Zd (xs.getD k ch0).sh (xs.getD k ch0).gr =true/\(xs.getD k ch0).sc.length =(Qm (chK ⟨xs,mid⟩ 0).sh (chK ⟨xs,mid⟩ 0).gr).length by
  have hm:xs.getD k ch0∈xs:=(by rw[List.getD_eq_getElem?_getD,List.getElem?_eq_getElem hk];exact List.getElem_mem _);obtain⟨e1,e2,e3⟩:=hG.ch _ hm;have h4:=Qbl hws e3;refine⟨h4,by rw[e1,e2];exact hG.div,?_⟩
  rw[h4.sc,Y7]))
 obtain⟨ws,hwsE⟩: ∃ws,ws=Qm (chK ⟨xs,mid⟩ 0).sh (chK ⟨xs,mid⟩ 0).gr :=⟨_,rfl⟩;rw[<-hwsE] at HW hws hmid HF ⊢;obtain⟨ad,-,-,-,-,-,-,-,-,rfl,-⟩:=V6 hC.out (Below.refl _ _) (k:=0) (by omega);have HQ:=Qa.mk hcq;have HLd:=Qa.mk hL;have HWs:=Qa.mk hws;have HMo:=Qa.mk hmid;have hmo:Tryz.prog.follows .mixedOrders =true:=(by kernel_rfl);have hu31:=Tryz.underlying31;have hu46:=Tryz.underlying46;have hnI:1<=(xs.length:Int)/\(xs.length:Int)<=2:=(by omega);have HN:=Qa.mk hn;have HY:Qa (∀j,spJ ⟨xs,mid⟩ ws j=Ye (chK ⟨xs,mid⟩ j).sh (chK ⟨xs,mid⟩ j).gr (Kk ⟨xs,mid⟩ ws j) 128):=⟨fun j=>rfl⟩;have hGx:Qa (∀j,chK ⟨xs,mid⟩ j=xs.getD j ch0):=⟨fun j=>rfl⟩;clear h hs hg hG hL hcq hws hwsE hmid hn;dsimp only;refine(callsIn_wide (n:=3)).1 ?_;refine callsIn_of_wp Tryz.func13 rfl trivial ?_ rfl;simp only[Tryz.ntmps13,List.size_toArray,List.length_cons,List.length_nil,Nat.reduceAdd,Nat.reduceSub,Array.replicate_succ,Array.replicate_zero,List.push_toArray,List.append_toArray,List.nil_append,List.cons_append];gi_wp2_with fail;obtain⟨W0,hW0⟩: ∃W0,W0=w.alloc (.cells #[.slice (some ad) xs.length c,.slice M mid.length m] 31):=⟨_,rfl⟩;have hR0:=((Rws.start w).nil 22 1).alloc #[.slice (some ad) xs.length c,.slice M mid.length m] 31;simp only[List.nil_append] at hR0;rw[<-hW0] at hR0 ⊢;clear hW0;refine⟨trivial,(callsIn_wide.2 (HW.out W0 hR0.below)).mono ?_⟩;rintro en W1 ⟨B,q,rfl,hB,hb1⟩;have hb01:=Qa.mk (bnx hR0.below hb1);have z0:W1.cell? ⟨w.heap.size,0,none⟩=some (.slice (some ad) xs.length c):=(by rw[Qb ((hR0.step hb1).blk ⟨w.heap.size, #[.slice (some ad) xs.length c,.slice M mid.length m],31⟩ (by simp)).1];rfl);have z1:W1.cell? ⟨w.heap.size,1,none⟩=some (.slice M mid.length m):=(by rw[Qb ((hR0.step hb1).blk ⟨w.heap.size, #[.slice (some ad) xs.length c,.slice M mid.length m],31⟩ (by simp)).1];rfl);have HZ:=Qa.mk (And.intro z0 z1);have hBr:=Qa.mk (fun(W:World) (hb:Below W1.heap.size W1 W)=>Kd.Qe hB hb);have hs1:=Qa.mk hb01.out.size;clear hR0 hb1 hB HW z1;gi_wp2_with fail;gi_loopw [6,26] (fun x i wr=> ∃(k:Nat) (F:Nat->Nat),i= .int .i64 k/\k<=xs.length/\Qa (Rws W1 wr [⟨22,1,x,k,lisC F k⟩] (lisG F (fun j=>Di ws (xs.getD j ch0)) k))) (fun _ i _=>xs.length-(intOf i).toNat)
 case atStart=>exact⟨0,fun _=>0,rfl,by omega,⟨(Rws.start W1).nil 22 1⟩⟩
 case round=>
  obtain⟨k,F,rfl,hk,hRw⟩:=hrel;clear z0;by_cases hlt:k<xs.length
  ·have hbw:=bnx hb01.out hRw.out.below
   obtain⟨_,A1,c1,A2,c2,A3,c3,A4,c4,e,hcell,g1,g2,g3,g4⟩:=V6 hC.out hbw hlt;cases e;have hq9:=HQ.out k ad A3 c3 hlt rfl;obtain⟨_,B1,d1,B2,d2,B3,d3,B4,d4,e,hcell0,-,-,-,-⟩:=V6 hC.out (Below.refl _ _) hlt;cases e;have hq8:=cnx (hcell0 3 _ rfl) hbw;rw[hcell 3 _ rfl] at hq8
   injection hq8 with hq8
   rw[hq8] at hq9;obtain⟨q1,q2⟩:=hq9 (hcell0 3 _ rfl)
   injection hq8 with e3 _ e4
   subst e3 e4;clear hcell0;obtain⟨f1,f2,f3⟩:=HF.out k hlt;have hck:=fun j (hj:j<ws.length)=>chkB HWs.out f1 f3 hj
   have hvl:=valJ_len HWs.out f1.q hck;have hvb:=valJ_bd hck
   have hfil:Jy (xs.getD k ch0).fi =true:=by
    unfold Jy;simp only[Bool.and_eq_true,decide_eq_true_eq];exact⟨f1.fl,List.all_eq_true.2 fun x hx=>by simpa using f1.fv x hx⟩
   obtain⟨X,hX⟩: ∃X,X=xs.getD k ch0:=⟨_,rfl⟩;have hRX:Di ws (xs.getD k ch0)=U4 (Zh X.fi) (Pf ws X) 128:=(by rw[hX];rfl);rw[<-hX] at hcell g1 g2 g3 g4 f1 f2 f3 hck hvl hvb hfil q1;have herr:Kg (-1023) 1023 0 95 X.qu ws X.sc=0:=Qct HWs.out f1.q f3 f1.ok.vals (List.all_eq_true.2 fun x hx=>by simpa using Sca.Nj f1.e x hx);have HV:=Qa.mk (fun(W:World) (hb:Below wr.heap.size wr W)=>Q16.Tx A3 B A2 c3 q c2 X.qu ws X.sc W (Kd.Qe g3 hb) (hBr.out W (bnx hRw.out.below hb)) (Kd.Qe g2 hb) q1 q2 herr);have HS:=Qa.mk (fun(W:World) (hb:Below wr.heap.size wr W) (A9:Option Addr) (c9:Nat) (hv:(Kd.int .i64).C W A9 (Pf ws X).length (Pf ws X))=>Sr A9 A4 c9 c4 (Pf ws X) X.fi W hv (Kd.Qe g4 hb) hfil (by omega) (fun x hx=>by have:=hvb x hx;omega));rw[hvl] at HS;have m0:wr.cell? (ad.add (k*5))=some (.bool X.sh):=hcell 0 _ rfl;have m1:=hcell 1 _ rfl;have m2:=hcell 2 _ rfl;have m3:=hcell 3 _ rfl;have m4:=hcell 4 _ rfl;rw[Lx] at m1 m2 m3 m4;have z0:=cnx HZ.out.1 hRw.out.below;have hkI:(k:Int)<(xs.length:Int):=(by omega);have hT:=Qa.mk hlt;replace hvl:=Qa.mk hvl;clear hX hck hvb hfil q1 q2 f1 f2 f3 hcell hlt hk herr g1 g2 g3 g4;gi_wp2_with fail;obtain⟨W9,hW9⟩: ∃W9,W9=wr.alloc (.cells #[.bool X.sh,.slice A1 X.gr.length c1,.slice A2 X.sc.length c2,.slice A3 X.qu.length c3,.slice A4 X.fi.length c4] 46):=⟨_,rfl⟩;have hbW9:Below wr.heap.size wr W9:=(by rw[hW9];exact(Below.refl _ _).alloc (Nat.le_refl _) _);have hR9:=Rws.blkc hRw.out hbW9 (b:=⟨wr.heap.size, #[.bool X.sh,.slice A1 X.gr.length c1,.slice A2 X.sc.length c2,.slice A3 X.qu.length c3,.slice A4 X.fi.length c4],46⟩) (by rw[hW9];exact heap_alloc_new _ _) (Nat.le_refl _);obtain⟨b9,hb9⟩: ∃b9,b9=wr.heap.size:=⟨_,rfl⟩;rw[<-hW9,<-hb9];rw[<-hb9] at hR9;refine⟨trivial,(callsIn_wide.2 (HV.out W9 hbW9)).mono ?_⟩;rintro en W10 ⟨v,rfl,hv,hb10⟩;obtain⟨A9,c9,rfl,-,hv9⟩:=Kd.Qu hv;have hR10:=hR9.step hb10;have hbw10:=bnx hbW9 hb10;have hvl9:((List.range ws.length).map fun k=>Xc (Zn X.qu ws k) (rd X.sc k)).flatten.length =128:=hvl.out;have HS2:=Qa.mk (HS.out W10 hbw10 A9 c9 (by rw[<-hvl.out];exact hv9));rw[hvl9];have u4:W10.cell? ⟨b9,4,none⟩=some (.slice A4 X.fi.length c4):=(by rw[Qb (hR10.blk ⟨b9, #[.bool X.sh,.slice A1 X.gr.length c1,.slice A2 X.sc.length c2,.slice A3 X.qu.length c3,.slice A4 X.fi.length c4],46⟩ (by simp)).1];rfl);clear hW9 hR9 hb10 hv hv9 hvl9 m0 m1 m2 m3 m4 z0 HV HS hbW9 hb9;replace hR10:=Qa.mk hR10;replace hbw10:=Qa.mk hbw10;gi_wp2_with fail;refine⟨trivial,(callsIn_wide.2 HS2.out).mono ?_⟩;rintro en W11 ⟨gr,rfl,hgr,hgs,hb11⟩;rw[<-hRX] at hgr;have hR11:=Rws.blkc hR10.out hb11 (b:=⟨gr,((Di ws (xs.getD k ch0)).map (Value.int .i64)).toArray,3⟩) hgr hgs;replace hR11:=Rws.sub hR11 (G':=lisG F (fun j=>Di ws (xs.getD j ch0)) k++[⟨gr,((Di ws (xs.getD k ch0)).map (Value.int .i64)).toArray,3⟩]) (List.Sublist.append (List.sublist_append_left _ _) (List.Sublist.refl _));have hRl:=Qa.mk (hR11.alloc #[sV gr] 22);have hl9:Qa ((k+1)*24<=140737488355328):=⟨by have:=hT.out;have:=HN.out.2;omega⟩;clear hgr hgs hb11 hR11 hR10 hbw10 HS2 u4;gi_wp2_with (refine appIn (wr:=W1) (L1:=[]) (L2:=[]) (G:=_) rfl (.tmp 39) (.tmp 44) 24 22 rfl (.slice none 0 0) 1 24 Tryz.underlying24 info_sl rfl (by decide) (by decide) u6 k (lisC F k) rfl hRl.out ⟨W11.heap.size,0,none⟩ 1 1 [sV gr] rfl rfl (new_at _ _ _) (by simp[Value.oneCell']) hl9.out ?_;intro v1 wA hRA hgA hkA;have HRA:=Qa.mk hRA;have HKA:=Qa.mk hkA;clear hRA hgA hkA;obtain⟨A4,p4,hv4⟩:=ownsl (HRA.out.row _ (List.mem_append_right _ (List.mem_cons_self)));dsimp only at hv4;subst hv4;skip);obtain⟨n1,n2⟩:=lis_new F (fun j=>Di ws (xs.getD j ch0)) k gr;have hfin:=Qa.mk (Rws.sub HRA.out (List.sublist_append_left _ _));rw[n1,n2] at hfin;go_roundw
   case rel=>exact⟨k+1,fun j=>if j=k then gr else F j,by go_num,hT.out,hfin⟩
   case measure=>have:=hT.out;simp[intOf];omega
  ·obtain rfl:k=xs.length:=by omega
   obtain⟨go,cp,cur,rfl,hR2,hcj⟩:=Rws.unrow hRw.out HN.out.1;have hcF:Qa (∀j,j<xs.length->cur[j]? =some (sV (F j))):=⟨fun j hj=>by rw[hcj j hj];unfold lisC;simp[hj]⟩
   have hFj:Qa (∀j,j<xs.length->wr.heap[F j]? =some (.cells ((Di ws (xs.getD j ch0)).map (Value.int .i64)).toArray 3 (0,0))/\F j≠go):=⟨fun j hj=>by
    have hm:(⟨F j,((Di ws (xs.getD j ch0)).map (Value.int .i64)).toArray,3⟩:Blk)∈lisG F (fun j=>Di ws (xs.getD j ch0)) xs.length:=List.mem_map.2 ⟨j,List.mem_range.2 hj,rfl⟩
    exact⟨(hR2.blk _ (List.mem_cons_of_mem _ hm)).1,fun e=>(List.pairwise_cons.1 hR2.gs).1 _ hm e.symm⟩⟩
   have hgo:=Qa.mk (And.intro (hR2.blk ⟨go,cur,22⟩ (by simp)).1 (Nat.le_trans hs1.out (hR2.blk ⟨go,cur,22⟩ (by simp)).2));have hbw:=bnx hb01.out hR2.below;have z0':=cnx HZ.out.1 hR2.below;have z1':=cnx HZ.out.2 hR2.below;have hB2:=Qa.mk (hBr.out wr hR2.below);replace hbw:=Qa.mk hbw;clear hlt hk hRw hR2 hcj hb01 HZ;by_cases h2:xs.length=2
   case' pos=>
    have hd2:((xs.length:Int)==2)=true:=(by rw[h2];rfl);have h2I:(1:Int)<(xs.length:Int):=(by omega);have hne: ¬xs=[]:=fun e=>by rw[e] at h2;simp at h2
    obtain⟨r0,hr0⟩: ∃r,r=Di ws (xs.getD 0 ch0):=⟨_,rfl⟩;obtain⟨r1,hr1⟩: ∃r,r=Di ws (xs.getD 1 ch0):=⟨_,rfl⟩;have hF0:=(hFj.out 0 (by omega)).1;have hF1:=(hFj.out 1 (by omega)).1;rw[<-hr0] at hF0;rw[<-hr1] at hF1;have l0:r0.length=128:=(by rw[hr0];exact Xk _ _ _);have l1:r1.length=128:=by rw[hr1];exact Xk _ _ _
    have hml:mid.length=ws.length:=by
     have:=HMo.out;unfold Tj at this;rw[if_neg (by omega)] at this;have:=of_decide_eq_true this;omega
    have HPt:=Qa.mk (fun(W:World) (hb:Below wr.heap.size wr W)=>St.Qbe (some ⟨F 0,0,none⟩) (some ⟨F 1,0,none⟩) B M 128 128 q m r0 r1 ws mid W (Kd.Qe (Ko hF0 (by omega)) hb) (Kd.Qe (Ko hF1 (by omega)) hb) (Kd.Qe hB2.out hb) (Kd.Qe hM.out (bnx hbw.out hb)) HWs.out l0 l1 hml (fun k hk=>by
     have b0:=Dy _ _ 128 _ (show rd r0 (k:Nat)∈U4 (Zh (xs.getD 0 ch0).fi) (Pf ws (xs.getD 0 ch0)) 128 by rw[<-show r0=U4 (Zh (xs.getD 0 ch0).fi) (Pf ws (xs.getD 0 ch0)) 128 from hr0];exact Qt r0 k (by omega));have b1:=Dy _ _ 128 _ (show rd r1 (k:Nat)∈U4 (Zh (xs.getD 1 ch0).fi) (Pf ws (xs.getD 1 ch0)) 128 by rw[<-show r1=U4 (Zh (xs.getD 1 ch0).fi) (Pf ws (xs.getD 1 ch0)) 128 from hr1];exact Qt r1 k (by omega))
     omega))
    rw[l0,l1] at HPt;unfold St.POut at HPt;obtain⟨X,hX⟩: ∃X,X=Hy r0 r1 (Y5 ws mid ws.length):=⟨_,rfl⟩;obtain⟨Y,hYE⟩: ∃Y,Y=Hz r0 r1 (Y5 ws mid ws.length):=⟨_,rfl⟩;have lX:X.length=128:=(by rw[hX];unfold St.Hy;rw[List.length_map,List.length_range,l0]);have lY:Y.length=128:=by rw[hYE];unfold St.Hz;rw[List.length_map,List.length_range,l0]
    have hmj:Qa (Kk ⟨xs,mid⟩ ws 0=X.map Jw/\Kk ⟨xs,mid⟩ ws 1=Y.map Jw):=⟨by
     unfold Kk;dsimp only;rw[if_pos h2,if_pos h2,if_pos rfl,if_neg (by decide),hX,hYE,hr0,hr1]
     exact⟨rfl,rfl⟩⟩
    rw[<-hX,<-hYE] at HPt;replace lX:=Qa.mk lX;replace lY:=Qa.mk lY;have h2':=Qa.mk h2;have k0:wr.cell? ⟨go,0,none⟩=some (sV (F 0)):=(by rw[Qb hgo.out.1];exact hcF.out 0 (by omega));have k1:wr.cell? ⟨go,1,none⟩=some (sV (F 1)):=(by rw[Qb hgo.out.1];exact hcF.out 1 (by omega));clear h2 hr0 hr1 hF0 hF1 l0 l1 hml hX hYE;gi_wp2_with fail;refine Go.wpIn_wide.2 (wp_region_noPanic (Z6 (fun W=>W.cell? ⟨go,0,none⟩=some (sV (F 0))/\W.cell? ⟨go,1,none⟩=some (sV (F 1))/\W.cell? ⟨w.heap.size,1,none⟩=some (.slice M mid.length m)) hmo ⟨k0,k1,z1'⟩ (fun hHeld=> ?_)))
    (refine Tk.tk 0 (.slice (some ⟨go,0,none⟩) xs.length cp) hHeld ?_)
    (refine Tk.tk 1 (.pointer (some ⟨go,0,none⟩)) hHeld ?_)
    (refine Tk.tk 2 (sV (F 0)) hHeld ?_)
    (refine Tk.tk 3 (.slice (some ⟨go,0,none⟩) xs.length cp) hHeld ?_)
    (refine Tk.tk 4 (.pointer (some ⟨go,1,none⟩)) hHeld ?_)
    (refine Tk.tk 5 (sV (F 1)) hHeld ?_)
    (refine Tk.tk 6 (.slice B ws.length q) hHeld ?_)
    (refine Tk.tk 7 (.pointer (some ⟨w.heap.size,1,none⟩)) hHeld ?_)
    (refine Tk.tk 8 (.slice M mid.length m) hHeld ?_)
    (refine wpAnyH_ready (rs:=[9]) (by kernel_rfl) (by simp) ?_;refine AllReadyH.cons rfl (fun K hK=> ?_) AllReadyH.nil;go_simp)
    refine(HPt.out _ (Below.refl _ _).drew).mono ?_;rintro en W2 ⟨gx,gy,rfl,hgx,hgy,hxs,hys,hxy,hb2⟩;have hb2':=bnx (Below.refl wr.heap.size wr).drew hb2
    (go_wp2_with fail;refine hK.out _ _ (⟨cnx k0 hb2',cnx k1 hb2',cnx z1' hb2'⟩) (fun hHeld=> ?_);clear hK K;try simp only[Act.put,Tk.z1,Tk.z2,Tk.z3,Tk.z4,Tk.z5,Tk.z6])
    (refine Tk.tk 10 (.tuple #[sV gx,sV gy,.int .i64 0]) hHeld ?_)
    (refine Tk.tk 11 (sV gx) hHeld ?_)
    (refine Tk.tk 12 (sV gy) hHeld ?_)
    (refine Tk.tk 13 (.int .i64 0) hHeld ?_)
    (refine Tk.tk 14 (sV gx) hHeld ?_)
    (refine Tk.tk 15 (sV gy) hHeld ?_)
    (refine Tk.tk 16 (.int .i64 0) hHeld ?_)
    refine wpAnyH_done (by kernel_rfl) ?_ _;refine NoPanic.normal ?_;have hCx:=Qa.mk (fun(W:World) (hb:Below W2.heap.size W2 W)=>Tg (some ⟨gx,0,none⟩) 128 X W (Kd.Qe (Ko hgx (by rw[lX.out];decide)) hb) (by rw[lX.out];decide));have hCy:=Qa.mk (fun(W:World) (hb:Below W2.heap.size W2 W)=>Tg (some ⟨gy,0,none⟩) 128 Y W (Kd.Qe (Ko hgy (by rw[lY.out];decide)) hb) (by rw[lY.out];decide));rw[lX.out] at hCx;rw[lY.out] at hCy;replace hb2':=Qa.mk hb2';have hZ0:=Qa.mk z0';clear hgx hgy hxs hys hxy hb2 hHeld k0 k1 HPt z0' z1' hne;gi_wp2_with fail;refine⟨trivial,(callsIn_wide.2 (hCx.out W2 (Below.refl _ _))).mono ?_⟩;rintro en W3 ⟨h0,rfl,hh0,hs0,hb3⟩;gi_wp2_with fail;refine⟨trivial,(callsIn_wide.2 (hCy.out W3 hb3)).mono ?_⟩;rintro en W4 ⟨h1,rfl,hh1,hs4,hb4⟩;have e0:=(hb4.block _ (Qp hh0)).trans hh0;have l30:=Qp hh0;have l41:=Qp hh1;have hb04:=bnx hbw.out (bnx hb2'.out (bnx hb3 hb4));obtain⟨Wz,hWz⟩: ∃W,W=W4.alloc (.cells #[sV h0,sV h1] 22):=⟨_,rfl⟩;have hb45:Below W4.heap.size W4 Wz:=(by rw[hWz];exact(Below.refl _ _).alloc (Nat.le_refl _) _);have hbz:=Qa.mk (bnx hb04 hb45);have hgz0:Wz.heap[W4.heap.size]? =some (.cells #[sV h0,sV h1] 22 (0,0)):=(by rw[hWz];exact heap_alloc_new _ _);obtain⟨gz,hgzE⟩: ∃g,g=W4.heap.size:=⟨_,rfl⟩;rw[<-hgzE] at hgz0;have hgz:=Qa.mk (And.intro hgz0 (show w.heap.size<=gz by rw[hgzE];exact hb04.size))
    have hx0:Qa (∀j,j<xs.length-> #[sV h0,sV h1][j]? =some (sV (if j=0 then h0 else h1))):=⟨fun j hj=>by
     rw[h2'.out] at hj;have:j=0\/j=1:=by omega
     rcases this with rfl|rfl<;>rfl⟩
    have hx1:Qa (∀j,j<xs.length->Wz.heap[if j=0 then h0 else h1]? =some (.cells ((Kk ⟨xs,mid⟩ ws j).map (Value.int .i64)).toArray 3 (0,0))/\(if j=0 then h0 else h1)≠gz):=⟨fun j hj=>by
     rw[h2'.out] at hj;have hj2:j=0\/j=1:=(by omega);have:=hb4.size;rcases hj2 with rfl|rfl
     ·rw[if_pos rfl,hmj.out.1]
      exact⟨Qv e0 hb45,by omega⟩
     ·rw[if_neg (by decide),hmj.out.2]
      exact⟨Qv hh1 hb45,by omega⟩⟩
    obtain⟨Fz,hFzE⟩: ∃F:Nat->Nat,F=fun j=>if j=0 then h0 else h1:=⟨_,rfl⟩
    have hcz:Qa (∀j,j<xs.length-> #[sV h0,sV h1][j]? =some (sV (Fz j))):=⟨fun j hj=>by rw[hFzE];exact hx0.out j hj⟩;have hFz:Qa (∀j,j<xs.length->Wz.heap[Fz j]? =some (.cells ((Kk ⟨xs,mid⟩ ws j).map (Value.int .i64)).toArray 3 (0,0))/\Fz j≠gz):=⟨fun j hj=>by rw[hFzE];exact hx1.out j hj⟩;have y0:=cnx hZ0.out (bnx hb2'.out (bnx hb3 hb4));have y0l:=World.block_lt_of_cell? _ _ y0;clear hx0 hx1 hFzE hh0 hh1 hs0 hs4 e0 l30 l41 hb04 hb45 hb3 hb4 hgz0 hmj;gi_wp2_with fail;rw[<-hWz,<-hgzE];obtain⟨curz,hcE⟩: ∃c,c= #[sV h0,sV h1]:=⟨_,rfl⟩;rw[<-hcE] at hgz hcz;obtain⟨wq,rfl⟩: ∃W:World,W=wr:=⟨_,rfl⟩;obtain⟨cp,hcp⟩: ∃c:Nat,c=2:=⟨_,rfl⟩;have hV:Value.slice (some ⟨gz,0,none⟩) 2 2= .slice (some ⟨gz,0,none⟩) xs.length cp:=(by rw[h2'.out,hcp]);rw[hV];clear hV hcp hWz hgzE hcE hgo hcF hFj hB2 hbw hb2' hCx hCy y0 y0l
   case' neg=>
    have hd2:((xs.length:Int)==2)=false:=(by simpa using (show¬(xs.length:Int)=2 by omega));have hmj:Qa (∀j,Kk ⟨xs,mid⟩ ws j=Di ws (xs.getD j ch0)):=⟨fun j=>by unfold Kk;rw[if_neg h2];rfl⟩;have h2':=Qa.mk h2;have hFz:Qa (∀j,j<xs.length->wr.heap[F j]? =some (.cells ((Kk ⟨xs,mid⟩ ws j).map (Value.int .i64)).toArray 3 (0,0))/\F j≠go):=⟨fun j hj=>by rw[hmj.out];exact hFj.out j hj⟩;clear h2 hmj;gi_wp2_with fail;obtain⟨Wz,rfl⟩: ∃W:World,W=wr:=⟨_,rfl⟩;obtain⟨gz,rfl⟩: ∃g:Nat,g=go:=⟨_,rfl⟩;obtain⟨Fz,rfl⟩: ∃F':Nat->Nat,F'=F:=⟨_,rfl⟩;obtain⟨curz,rfl⟩: ∃c:Array Value,c=cur:=⟨_,rfl⟩;have hbz:=hbw;have hgz:=hgo;have hcz:=hcF;clear hgo hcF hFj hB2 hbw z0' z1'
   all_goals
    gi_loopw [72] (fun i wr=> ∃(k:Nat) (cu:Array Value) (F:Nat->Nat),i= .int .i64 k/\k<=xs.length/\Qa (wr.heap[gz]? =some (.cells cu 22 (0,0))/\(∀j,j<xs.length->cu[j]? =some (sV (F j)))/\(∀j,j<xs.length->wr.heap[F j]? =some (.cells ((if j<k then spJ ⟨xs,mid⟩ ws j else Kk ⟨xs,mid⟩ ws j).map (Value.int .i64)).toArray 3 (0,0))/\F j≠gz))/\Qa (Kp gz none Wz wr)) (fun i _=>xs.length-(intOf i).toNat)
    case atStart=>exact⟨0,curz,Fz,rfl,by omega,⟨hgz.out.1,hcz.out,fun j hj=>by rw[if_neg (by omega)];exact hFz.out j hj⟩,⟨Kp.refl _ _ _⟩⟩
    case round=>
     obtain⟨k,cu,F,rfl,hk,hI,hK⟩:=hrel;by_cases hlt:k<xs.length
     ·obtain⟨i1,i2,i3⟩:=hI.out
      have hbr:=hbz.out.trans (hK.out.below (B:=w.heap.size) hgz.out.2 (fun k e=>by cases e) hbz.out.size);obtain⟨_,A1,c1,A2,c2,A3,c3,A4,c4,e,hcell,g1,-,-,-⟩:=V6 hC.out hbr hlt;cases e;obtain⟨-,f2,-⟩:=HF.out k hlt;have hfk:=(i3 k hlt).1;rw[if_neg (by omega)] at hfk
      have hzl:(Kk ⟨xs,mid⟩ ws k).length =128:=by
       unfold Kk
       split
       ·rw[List.length_map]
        split
        ·unfold St.Hy;rw[List.length_map,List.length_range];exact Xk _ _ _
        ·unfold St.Hz;rw[List.length_map,List.length_range];exact Xk _ _ _
       ·exact Xk _ _ _
      have hyk:spJ ⟨xs,mid⟩ ws k=Ye (xs.getD k ch0).sh (xs.getD k ch0).gr (Kk ⟨xs,mid⟩ ws k) 128:=rfl;obtain⟨X,hX⟩: ∃X,X=xs.getD k ch0:=⟨_,rfl⟩;rw[<-hX] at hcell g1 f2 hyk;obtain⟨Z,hZE⟩: ∃Z,Z=Kk ⟨xs,mid⟩ ws k:=⟨_,rfl⟩;rw[<-hZE] at hfk hzl hyk;obtain⟨fk,hfkE⟩: ∃f,f=F k:=⟨_,rfl⟩;have hck:=i2 k hlt;rw[<-hfkE] at hfk hck;have HSc:=Qa.mk (fun(W:World) (hb:Below wr.heap.size wr W)=>Bd.Ms A1 (some ⟨fk,0,none⟩) c1 128 X.sh X.gr Z W (HLd.out.below (bnx hbr hb)) (Kd.Qe g1 hb) f2 (Kd.Qe (Ko hfk (by omega)) hb) hzl);rw[hzl] at HSc;rw[<-hyk] at HSc;have m0:wr.cell? (ad.add (k*5))=some (.bool X.sh):=hcell 0 _ rfl;have m1:=hcell 1 _ rfl;have m2:=hcell 2 _ rfl;have m3:=hcell 3 _ rfl;have m4:=hcell 4 _ rfl;rw[Lx] at m1 m2 m3 m4;have hkI:(k:Int)<(xs.length:Int):=(by omega);have hT:=Qa.mk hlt;obtain⟨W9,hW9⟩: ∃W9,W9=wr.alloc (.cells #[.bool X.sh,.slice A1 X.gr.length c1,.slice A2 X.sc.length c2,.slice A3 X.qu.length c3,.slice A4 X.fi.length c4] 46):=⟨_,rfl⟩;have hbW9:Below wr.heap.size wr W9:=(by rw[hW9];exact(Below.refl _ _).alloc (Nat.le_refl _) _);obtain⟨b9,hb9⟩: ∃b,b=wr.heap.size:=⟨_,rfl⟩;have hB9:W9.heap[b9]? =some (.cells #[.bool X.sh,.slice A1 X.gr.length c1,.slice A2 X.sc.length c2,.slice A3 X.qu.length c3,.slice A4 X.fi.length c4] 46 (0,0)):=(by rw[hW9,hb9];exact heap_alloc_new _ _);clear hfk hzl hyk hX hZE hfkE f2 g1 hcell hbr hlt hk;gi_wp2_with fail;rw[<-hW9,<-hb9];have hbs:wr.heap.size<=b9:=(by rw[hb9];exact Nat.le_refl _);clear hW9 hb9;have s0:=Qb hB9 0;have s1:=Qb hB9 1;have sg:W9.cell? ⟨gz,k,none⟩=some (sV fk):=(by rw[Qb (Qv i1 hbW9)];exact hck);refine Go.wpIn_wide.2 (wp_region_noPanic (Z6 (fun W=>W.cell? ⟨b9,0,none⟩=some (.bool X.sh)/\W.cell? ⟨b9,1,none⟩=some (.slice A1 X.gr.length c1)) hmo ⟨s0,s1⟩ (fun hHeld=> ?_)));clear m0 m1 m2 m3 m4
      (refine Tk.tk 0 (.slice (some ⟨gz,0,none⟩) xs.length cp) hHeld ?_)
      (refine Tk.tk 1 (.int .i64 k) hHeld ?_)
      (refine Tk.tk 2 (.slice (some ⟨gz,0,none⟩) xs.length cp) hHeld ?_)
      (refine Tk.tk 3 (.int .i64 k) hHeld ?_)
      (refine Tk.tk 4 (.pointer (some ⟨gz,k,none⟩)) hHeld ?_)
      (refine Tk.tk 6 (.pointer (some ⟨b9,0,none⟩)) hHeld ?_)
      (refine Tk.tk 7 (.bool X.sh) hHeld ?_)
      (refine Tk.tk 8 (.pointer (some ⟨b9,1,none⟩)) hHeld ?_)
      (refine Tk.tk 9 (.slice A1 X.gr.length c1) hHeld ?_)
      (refine wpAnyH_ready (rs:=[5]) (by kernel_rfl) (by simp) ?_;refine AllReadyH.cons rfl (fun K hK=> ?_) AllReadyH.nil;go_simp)
      (go_wp2_with fail;refine hK.out _ _ (hHeld) (fun hHeld=> ?_);clear hK K;try simp only[Act.put,Tk.z1,Tk.z2,Tk.z3,Tk.z4,Tk.z5,Tk.z6])
      (refine wpAnyH_ready (rs:=[10]) (by kernel_rfl) (by simp) ?_;refine AllReadyH.cons rfl (fun K hK=> ?_) AllReadyH.nil;go_simp)
      refine(HSc.out _ (bnx hbW9 (Below.refl _ _).drew)).mono ?_;rintro en W10 ⟨gs,rfl,hgs,hgs2,hb10⟩;have hb9T:=bnx (Below.refl W9.heap.size W9).drew hb10
      (go_wp2_with fail;refine hK.out _ _ (⟨cnx s0 hb9T,cnx s1 hb9T⟩) (fun hHeld=> ?_);clear hK K;try simp only[Act.put,Tk.z1,Tk.z2,Tk.z3,Tk.z4,Tk.z5,Tk.z6])
      (refine Tk.tk 11 (.tuple #[sV gs,.int .i64 0]) hHeld ?_)
      (refine Tk.tk 12 (sV gs) hHeld ?_)
      (refine Tk.tk 13 (.int .i64 0) hHeld ?_)
      (refine Tk.tk 14 (.pointer (some ⟨gz,k,none⟩)) hHeld ?_)
      (refine wpAnyH_ready (rs:=[15]) (by kernel_rfl) (by simp) ?_;refine AllReadyH.cons rfl (fun K hK=> ?_) AllReadyH.nil;go_simp)
      have hbT:=bnx hbW9 hb9T;have hG10:=Qv i1 hbT;have fz:=Qf hG10 k;have zk:=cnx sg hb9T;have hgl:=Qp i1;have hne:gz≠b9:=(by omega);have hB10:=Js (Qv hB9 hb9T) (p:=⟨gz,k,none⟩) (Ne.symm hne) (sV gs);go_simp
      (go_wp2_with fail;refine hK.out _ _ (⟨by rw[Qb hB10];rfl,by rw[Qb hB10];rfl⟩) (fun hHeld=> ?_);clear hK K;try simp only[Act.put,Tk.z1,Tk.z2,Tk.z3,Tk.z4,Tk.z5,Tk.z6])
      refine wpAnyH_done (by kernel_rfl) ?_ _;refine NoPanic.normal ?_;have hcu:k<cu.size:=(Array.getElem?_eq_some_iff.1 hck).1;have hG11:=Q3 hG10 k (sV gs);have hgsl:gs≠gz:=by have:=hbT.size;have:=(Below.refl W9.heap.size W9).drew.size;have:=hbW9.size;omega
      have hIn:Qa ((W10.setCell ⟨gz,k,none⟩ (sV gs)).heap[gz]? =some (.cells (cu.setIfInBounds k (sV gs)) 22 (0,0))/\(∀j,j<xs.length->(cu.setIfInBounds k (sV gs))[j]? =some (sV (if j=k then gs else F j)))/\(∀j,j<xs.length->(W10.setCell ⟨gz,k,none⟩ (sV gs)).heap[if j=k then gs else F j]? =some (.cells ((if j<k+1 then spJ ⟨xs,mid⟩ ws j else Kk ⟨xs,mid⟩ ws j).map (Value.int .i64)).toArray 3 (0,0))/\(if j=k then gs else F j)≠gz)):=⟨hG11,fun j hj=>by
       by_cases e:j=k
       ·subst e;rw[if_pos rfl,Array.getElem?_setIfInBounds,if_pos rfl,if_pos hcu]
       ·rw[if_neg e,Array.getElem?_setIfInBounds,if_neg (Ne.symm e)];exact i2 j hj,fun j hj=>by
       by_cases e:j=k
       ·subst e
        rw[if_pos rfl,if_pos (by omega)];exact⟨Js hgs (p:=⟨gz,j,none⟩) hgsl _,hgsl⟩
       ·obtain⟨p1,p2⟩:=i3 j hj
        rw[if_neg e];refine⟨Js ?_ (p:=⟨gz,k,none⟩) p2 _,p2⟩;rw[Qv p1 hbT];by_cases e2:j<k
        ·rw[if_pos e2,if_pos (by omega)]
        ·rw[if_neg e2,if_neg (by omega)]⟩
      have hKn:=Qa.mk ((hK.out.Zl (hbT.mono hK.out.size)).Km k (sV gs));clear hG11 hG10 hgs hgs2 hb10 hb9T hbT fz zk hgl hne hB10 hHeld sg s0 s1 hB9 hbW9 i1 i2 i3 HSc hck hcu hgsl hI hK;gi_wp2;go_roundw
      case rel=>exact⟨k+1,_,fun j=>if j=k then gs else F j,by go_num,hT.out,hIn,hKn⟩
      case measure=>have:=hT.out;simp[intOf];omega
     ·obtain rfl:k=xs.length:=by omega
      obtain⟨i1,i2,i3⟩:=hI.out;have hbr:=Qa.mk (hbz.out.trans (hK.out.below (B:=w.heap.size) hgz.out.2 (fun k e=>by cases e) hbz.out.size));have hfin:Qa (∀j,j<xs.length->wr.heap[F j]? =some (.cells ((spJ ⟨xs,mid⟩ ws j).map (Value.int .i64)).toArray 3 (0,0))):=⟨fun j hj=>by have:=(i3 j hj).1;rwa [if_pos hj] at this⟩;replace i1:=Qa.mk i1;replace i2:=Qa.mk i2;clear i3 hI hK hlt hk;gi_wp2;go_ret2;exact⟨gz,cp,cu,F,rfl,i1.out,i2.out,hfin.out,hbr.out⟩
end Sp

namespace Gn
attribute [local go_sem] Qi Qj Qk Ql Qg Qh
open Q15
open Q21
open Bts
def grpS (sh:Bool):List Int:=if sh then[8] else[]
def manyS (sh:Bool):Nat:=if sh then 4 else 15
def chS (sh:Bool):Ch:=⟨sh,grpS sh,List.replicate (manyS sh) 0,List.replicate 128 0,[]⟩
def Fv (n:Nat) (sh:Bool):Gr:=⟨List.replicate n (chS sh),if n=2 then List.replicate (manyS sh) false else[]⟩
theorem I6 (c:Nat) (hc:c<=1000000): ∀W:World,(Instr.makeSlice 23 (.int .i64 (c:Int)) (.int .i64 (c:Int))).run Tryz.prog W= .ok (.slice (some ⟨W.heap.size,0,none⟩) c c) (W.alloc (.cells (List.replicate c (Value.bool false)).toArray 4)):=fun W=>by
  rw[Pre.Bn 23 4 (.bool false) 1 1 Tryz.underlying23 Dv c (by decide) (by omega) W]
  congr 3
  show madeCells #[.bool false] (c*1)=_
  apply Array.ext
  · simp[size_madeCells]
  · intro i h1 h2
    simp[madeCells,Nat.mod_one]
theorem Qcn (W:World) (n base:Nat) (hb:base<=W.heap.size) (hn:n<=1000000):(Kd.int .i64).R 3 (W.alloc (.cells (List.replicate n (Value.int .i64 0)).toArray 3)) base (fun _=>True) (.slice (some ⟨W.heap.size,0,none⟩) n n) (List.replicate n 0):=by
  refine Kd.Vm (enc:=Value.int .i64) (h1:=fun _=>rfl) ?_ (fun _ _=>trivial);refine⟨by simp[encs],.inr ⟨W.heap.size,n,_,by rw[List.length_replicate],hb,heap_alloc_new W _,by rw[List.length_replicate];exact Nat.le_refl _,by unfold maxLen;omega,by simp,?_⟩⟩;simp[encs]
theorem RB_zeros (W:World) (n base:Nat) (hb:base<=W.heap.size) (hn:n<=1000000):Kd.bool.R 4 (W.alloc (.cells (List.replicate n (Value.bool false)).toArray 4)) base (fun _=>True) (.slice (some ⟨W.heap.size,0,none⟩) n n) (List.replicate n false):=by
  refine Kd.Vm (enc:=Value.bool) (h1:=fun _=>rfl) ?_ (fun _ _=>trivial);refine⟨by simp[encs],.inr ⟨W.heap.size,n,_,by rw[List.length_replicate],hb,heap_alloc_new W _,by rw[List.length_replicate];exact Nat.le_refl _,by unfold maxLen;omega,by simp,?_⟩⟩;simp[encs]
theorem Mv (n:Nat) (hn:n=1\/n=2) (w:World) (hL:Laid w):
    Calls Tryz.prog 16 #[.int .i64 n,.bool false] w (Tv (Fv n false) 0 w):=by
  have hu31:=Tryz.underlying31;have hu46:=Tryz.underlying46;have t1:decide ((n:Int)<1)=false:=decide_eq_false (by omega);have t2:decide (2<(n:Int))=false:=decide_eq_false (by omega);have hnI:(n:Int)<=2:=(by omega);have Hn:=Qa.mk hn;obtain⟨w1,hw1⟩: ∃w1,w1=w.alloc (.cells #[.slice none 0 0,.slice none 0 0] 31):=⟨_,rfl⟩;have hb:Below w.heap.size w w1:=(by rw[hw1];exact(Below.refl _ _).alloc (Nat.le_refl _) _);have hR1:w1.heap[w.heap.size]? =some (.cells #[.slice none 0 0,.slice none 0 0] 31 (0,0)):=(by rw[hw1];exact heap_alloc_new _ _);have HL:=Qa.mk hL;obtain⟨w2,hw2⟩: ∃w2,w2=w1:=⟨_,rfl⟩;have hb12:Below w1.heap.size w1 w2:=(by rw[hw2];exact Below.refl _ _);have hC8:(Kd.int .i64).C w2 none 0 []:=Kd.V4 _ _;have HCnt:=Qa.mk (Om false none 0 [] w2 (HL.out.below (bnx hb hb12)) hC8);have hR2:=(hb12.block _ (Qp hR1)).trans hR1;have hb2:=bnx hb hb12;have HC8:=Qa.mk hC8;have hmk: ∀W:World,(Instr.makeSlice 22 (.int .i64 15) (.int .i64 15)).run Tryz.prog W= .ok (.slice (some ⟨W.heap.size,0,none⟩) 15 15) (W.alloc (.cells (List.replicate 15 (Value.int .i64 0)).toArray 3)):=Sec.Ym 15 (by omega);have hmk2: ∀W:World,(Instr.makeSlice 22 (.int .i64 128) (.int .i64 128)).run Tryz.prog W= .ok (.slice (some ⟨W.heap.size,0,none⟩) 128 128) (W.alloc (.cells (List.replicate 128 (Value.int .i64 0)).toArray 3)):=Sec.Ym 128 (by omega);have hmk3: ∀W:World,(Instr.makeSlice 23 (.int .i64 15) (.int .i64 15)).run Tryz.prog W= .ok (.slice (some ⟨W.heap.size,0,none⟩) 15 15) (W.alloc (.cells (List.replicate 15 (Value.bool false)).toArray 4)):=I6 15 (by omega);replace hmk:=Qa.mk hmk;replace hmk2:=Qa.mk hmk2;clear hn hL hC8;go_enter Tryz.func16,Tryz.ntmps16;go_wp2_with fail;rw[<-hw1];rw[<-hw2];refine HCnt.out.mono ?_;rintro e w3 ⟨rfl,hb3⟩;have hR3:=(hb3.block _ (Qp hR2)).trans hR2;have hb23:=Qa.mk hb3;replace hb3:=bnx hb2 hb3;clear hR1 hR2 hb2 hb12 hb hw1 HCnt hw2;have he1:(K5 false []).length =15:=(by decide+kernel);have he2:Vr false []=0:=(by decide+kernel);rw[he1,he2];rw[show((15:Nat):Int)=15 from rfl];clear he1 he2;obtain⟨bg,hbg⟩: ∃bg,bg=w3.heap.size:=⟨_,rfl⟩;obtain⟨w4,hw4⟩: ∃w4,w4=w3.alloc (.cells #[.slice none 0 0,.slice none 0 0] 31):=⟨_,rfl⟩;have hb34:Below w3.heap.size w3 w4:=(by rw[hw4];exact(Below.refl _ _).alloc (Nat.le_refl _) _);have hG4:w4.heap[bg]? =some (.cells #[.slice none 0 0,.slice none 0 0] 31 (0,0)):=(by rw[hw4,hbg];exact heap_alloc_new _ _);have hs4:w4.heap.size=bg+1:=(by rw[hw4,hbg];simp);have hR4:=(hb34.block _ (Qp hR3)).trans hR3;have hb4:=bnx hb3 hb34;have hb24:=Qa.mk (bnx hb23.out hb34);have hbgw:Qa (w.heap.size<bg):=⟨by rw[hbg];exact Qp hR3⟩;have HC4:=Qa.mk (Kd.Qe HC8.out hb24.out);clear hR3 hb3 hb23 hb34 HC8 HL hb24;go_wp2_with fail;rw[<-hw4,<-hbg];clear hw4 hbg;replace hR4:=Qa.mk hR4;replace hs4:=Qa.mk hs4;go_loopw [27] (fun i wr=> ∃k:Nat,i= .int .i64 k/\k<=n/\Qa (∃vC,wr.heap[bg]? =some (.cells #[vC,.slice none 0 0] 31 (0,0))/\kCh.R 46 wr (bg+1) (fun _=>True) vC (List.replicate k (chS false))/\Kp bg none w4 wr)) (fun i _=>n-(intOf i).toNat)
  case atStart=>exact⟨0,rfl,by omega,⟨_,hG4,Kd.Xd _ _ _ _ _,Kp.refl _ _ _⟩⟩
  case round=>
    obtain⟨k,rfl,hk,hI⟩:=hrel;obtain⟨vC,hG,HR,hKp⟩:=hI.out;clear hI hG4;obtain⟨aC,cC,rfl⟩:=Kd.Ze HR;rw[List.length_replicate] at hG HR;by_cases hlt:k<n
    · have hkI:(k:Int)<(n:Int):=by omega
      have hlt':=Qa.mk hlt;have HCw:=Qa.mk (Sec.C_kp HC4.out hKp (fun ad e=>by cases e));have hbr:Qa (bg+1<=wr.heap.size):=⟨by have:=hKp.size;have:=hs4.out;omega⟩;have hown:Qa (∀b,wr.heap.size<=b->some b≠(Value.slice aC k cC).ownBlock):=⟨fun b hb e=>by have:=((Kd.Q9 HR).1 b e.symm).2.2.1;omega⟩;have hgne:some bg≠(Value.slice aC k cC).ownBlock :=fun e=>by have:=((Kd.Q9 HR).1 bg e.symm).2.1;omega
      have hS6:Qa (∀W,Below wr.heap.size wr W->W.cell? ⟨bg,0,none⟩=some (.slice aC k cC)):=⟨fun W hb=>by rw[Qb ((hb.block _ (Qp hG)).trans hG)];rfl⟩;have HG:=Qa.mk hG;have HRr:=Qa.mk HR;have HKp:=Qa.mk hKp;replace hgne:=Qa.mk hgne;clear hlt hG HR hKp hk;go_upto_region 10 with fail;refine Qr (S:=fun W=>W.cell? ⟨bg,0,none⟩=some (.slice aC k cC)) (ds:=[12]) (by kernel_rfl) (hS6.out _ (Below.refl _ _).drew) (fun hHeld=> ?_)
      (refine Tk.tl 0 (.pointer (some ⟨bg,0,none⟩)) hHeld ?_)
      (refine Tk.tl 1 (.slice aC k cC) hHeld ?_)
      (refine Tk.tl 2 (.bool false) hHeld ?_)
      (refine Tk.tl 3 (.slice none 0 0) hHeld ?_)
      (refine Tk.tl 5 (.int .i64 15) hHeld ?_)
      refine Ord.Iq 3 wr _ #[true,true,true,true,true,true,true,true,true,true,false,false,false] [(4,33),(6,35),(7,36),(8,37),(9,38)]
        [(4,fun v w=>(Kd.int .i64).R 3 w wr.heap.size (fun _=>True) v []),
         (6,fun v w=>(Kd.int .i64).R 3 w wr.heap.size (fun _=>True) v (List.replicate 15 0)),
         (7,fun v w=>(Kd.int .i64).R 3 w wr.heap.size (fun _=>True) v (List.replicate 128 0)),
         (8,fun v w=> ∃v1 v2 v3,v= .agg #[.bool false,v1,v2,v3,.slice none 0 0]/\(Kd.int .i64).R 3 w wr.heap.size (fun _=>True) v1 []/\(Kd.int .i64).R 3 w wr.heap.size (fun _=>True) v2 (List.replicate 15 0)/\(Kd.int .i64).R 3 w wr.heap.size (fun _=>True) v3 (List.replicate 128 0)),
         (9,fun v w=> ∃g v1 v2 v3,v= .slice (some ⟨g,0,none⟩) 1 1/\w.heap[g]? =some (.cells #[.bool false,v1,v2,v3,.slice none 0 0] 46 (0,0))/\(Kd.int .i64).R 3 w wr.heap.size (fun _=>True) v1 []/\(Kd.int .i64).R 3 w wr.heap.size (fun _=>True) v2 (List.replicate 15 0)/\(Kd.int .i64).R 3 w wr.heap.size (fun _=>True) v3 (List.replicate 128 0))]
        rfl (by decide) (by kernel_rfl) (fun W hb=>hS6.out W hb) ((Below.refl _ _).drew) ?gstays ?gobl ?grest
      case gstays=>
        refine Ord.Xu ?_ (Ord.Xu ?_ (Ord.Xu ?_ (Ord.Xu ?_ (Ord.Xu ?_ Ord.Qa5))))
        · rintro v W W' hb h
          exact Kd.Qw h hb
        · rintro v W W' hb h
          exact Kd.Qw h hb
        · rintro v W W' hb h
          exact Kd.Qw h hb
        · rintro v W W' hb ⟨v1,v2,v3,e,h1,h2,h3⟩
          exact⟨v1,v2,v3,e,Kd.Qw h1 hb,Kd.Qw h2 hb,Kd.Qw h3 hb⟩
        · rintro v W W' hb ⟨g,v1,v2,v3,e,e2,h1,h2,h3⟩
          exact⟨g,v1,v2,v3,e,(hb.block _ (Qp e2)).trans e2,Kd.Qw h1 hb,Kd.Qw h2 hb,Kd.Qw h3 hb⟩
      case gobl=>
        refine Ord.Uu.cons ?_ (Ord.Uu.cons ?_ (Ord.Uu.cons ?_ (Ord.Uu.cons ?_ (Ord.Uu.cons ?_ Ord.Uu.nil))))
        · rintro o x W K ho hb hdp hK
          cases ho;refine goes_ Tryz.func28 (by kernel_rfl) rfl #[.slice none 0 0] (by kernel_rfl) rfl rfl (by kernel_rfl) ((Y2 none 0 [] W (Kd.Qe HCw.out hb) (by simp)).mono ?_);rintro e w1 ⟨v,rfl,r1,r2⟩;exact⟨_,rfl,Ord.Dc (by kernel_rfl) (hK.out _ _ r2 (Kd.Zo r1 hb.size))⟩
        · rintro o x W K ho hb hdp hK
          have ho2:=(Option.some.inj ho);simp only[List.getElem_toArray,List.getElem_cons_succ,List.getElem_cons_zero] at ho2;clear ho hdp;subst ho2
          generalize hA:Ord.frA _ _ x=A9
          have hev:A9.tmps[34]?.getD undef= .int .i64 15:=(by rw[<-hA];kernel_rfl);refine Zi (w1:=W.alloc (.cells (List.replicate 15 (Value.int .i64 0)).toArray 3)) (v:= .slice (some ⟨W.heap.size,0,none⟩) 15 15) (by rw[<-hA];kernel_rfl) rfl (by have h9:=hmk.out;clear hA;go_simp) ?_;rw[<-hA];exact Ord.Dc (by kernel_rfl) (hK.out _ _ ((Below.refl _ _).alloc (Nat.le_refl _) _) (Qcn W 15 _ hb.size (by omega)))
        · rintro o x W K ho hb hdp hK
          cases ho;refine Zi (w1:=W.alloc (.cells (List.replicate 128 (Value.int .i64 0)).toArray 3)) (v:= .slice (some ⟨W.heap.size,0,none⟩) 128 128) (by kernel_rfl) rfl (by have h9:=hmk2.out;simp only[Ord.frA,List.foldl_cons,List.foldl_nil];go_simp) ?_;exact Ord.Dc (by kernel_rfl) (hK.out _ _ ((Below.refl _ _).alloc (Nat.le_refl _) _) (Qcn W 128 _ hb.size (by omega)))
        · rintro o x W K ho hb hdp hK
          cases ho;have h1:=hdp _ (.head _) (by kernel_rfl);have h2:=hdp _ (.tail _ (.head _)) (by kernel_rfl);have h3:=hdp _ (.tail _ (.tail _ (.head _))) (by kernel_rfl);dsimp only at h1 h2 h3;obtain⟨A1,q1,k1⟩:=Kd.Ze h1;obtain⟨A2,q2,k2⟩:=Kd.Ze h2;obtain⟨A3,q3,k3⟩:=Kd.Ze h3;refine Zi (w1:=W) (v:= .agg #[.bool false,x 4,x 6,x 7,.slice none 0 0]) (by kernel_rfl) rfl (by simp only[Ord.frA,List.foldl_cons,List.foldl_nil];rw[k1,k2,k3];kernel_rfl) ?_;exact Ord.Dc (by kernel_rfl) (hK.out _ _ (Below.refl _ _) ⟨x 4,x 6,x 7,rfl,h1,h2,h3⟩)
        · rintro o x W K ho hb hdp hK
          cases ho;obtain⟨v1,v2,v3,e1,h1,h2,h3⟩:=hdp _ (.tail _ (.tail _ (.tail _ (.head _)))) (by kernel_rfl);dsimp only at e1;obtain⟨A1,q1,rfl⟩:=Kd.Ze h1;obtain⟨A2,q2,rfl⟩:=Kd.Ze h2;obtain⟨A3,q3,rfl⟩:=Kd.Ze h3;refine Zi (w1:=W.alloc (.cells #[.bool false,.slice A1 ([]:List Int).length q1,.slice A2 (List.replicate 15 (0:Int)).length q2,.slice A3 (List.replicate 128 (0:Int)).length q3,.slice none 0 0] 46)) (v:= .slice (some ⟨W.heap.size,0,none⟩) 1 1) (by kernel_rfl) rfl (by simp only[Ord.frA,List.foldl_cons,List.foldl_nil];rw[e1];kernel_rfl) ?_;have hba:=(Below.refl W.heap.size W).alloc (Nat.le_refl _) (.cells #[.bool false,.slice A1 ([]:List Int).length q1,.slice A2 (List.replicate 15 (0:Int)).length q2,.slice A3 (List.replicate 128 (0:Int)).length q3,.slice none 0 0] 46);exact Ord.Dc (by kernel_rfl) (hK.out _ _ hba ⟨_,_,_,_,rfl,heap_alloc_new _ _,Kd.Qw h1 hba,Kd.Qw h2 hba,Kd.Qw h3 hba⟩)
      case grest=>
        intro x w7 hb7 hφ;obtain⟨g,v1,v2,v3,e1,e2,r1,r2,r3⟩:=hφ _ (.tail _ (.tail _ (.tail _ (.tail _ (.head _)))));dsimp only at e1;clear hφ;have hG7:=(hb7.block _ (Qp HG.out)).trans HG.out;have z0:w7.cell? ⟨bg,0,none⟩=some (.slice aC k cC):=(by rw[Qb hG7];rfl);have HR7:=Kd.Qw HRr.out hb7
        have hM7:Zj (kCh.M w7 (bg+1) (fun b=>wr.heap.size<=b)) 5 w7 (some ⟨g,0,none⟩) 1 [chS false]:=⟨rfl,by omega,fun _=>⟨_,rfl,fun j p hj=>by
          have hj0:j=0:=by
            have:=(List.getElem?_eq_some_iff.1 hj).1;simp at this;omega
          subst hj0;obtain rfl:chS false=p:=(by simpa using hj);refine⟨[.bool false,v1,v2,v3,.slice none 0 0],rfl,Qc1 w7 (bg+1) (fun b=>wr.heap.size<=b) (chS false) (Yx r1 hbr.out) (Yx r2 hbr.out) (Yx r3 hbr.out) (Kd.Xd _ _ _ _ _),fun i u hi=> ?_⟩
          rw[show(⟨g,0,none⟩:Addr).add (0*5+i)=⟨g,i,none⟩ by
            unfold Addr.add;by_cases h0:i=0
            · simp[h0]
            · simp[h0],Qb e2]
          simpa using hi⟩⟩
        have hs7:wr.heap.size<=w7.heap.size:=hb7.size;have hK7:=Qa.mk (HKp.out.Zl (hb7.mono HKp.out.size));have hln:Qa (((List.replicate k (chS false)).length +1)*104<=140737488355328):=⟨by rw[List.length_replicate];omega⟩;simp only[Ord.frA,List.foldl_cons,List.foldl_nil];rw[e1];clear e1 e2 r1 r2 r3;simp only[Act.put,List.setIfInBounds_toArray,List.set_cons_zero,List.set_cons_succ]
        (refine Qd (rs:=[10]) (by kernel_rfl) (by simp) ?_;refine Qc.cons rfl (by decide) (fun K hK=> ?_) Qc.nil)
        refine Kd.Xz kCh (Rr:=kCh.M w7 (bg+1) (fun b=>wr.heap.size<=b)) (w0:=w7) (bg+1) rfl (.tmp 30) (.tmp 38) 29 46 (.agg #[(.bool false),(.slice none 0 0),(.slice none 0 0),(.slice none 0 0),(.slice none 0 0)]) 104 rfl Tryz.underlying29 Qcw rfl (by decide) (by decide) (.slice aC k cC) (List.replicate k (chS false)) [chS false] (some ⟨g,0,none⟩) 1 1 (fun _=>True) (fun b=>wr.heap.size<=b) rfl rfl HR7 hM7 (fun _ _ h=>h) (fun b hb=>⟨trivial,hown.out b hb⟩) (fun _ _=>trivial) (Below.refl _ _) (by have:=hbr.out;omega) hln.out ?_;intro v8 w8 R8 B8 hg8 hat8;have hG8:=(hg8.block _ (Qp hG7) hgne.out).trans hG7;have z8:w8.cell? ⟨bg,0,none⟩=some (.slice aC k cC):=(by rw[Qb hG8];rfl);have y8:=Qf hG8 0;obtain⟨a8,c8,h8e⟩:=Kd.Ze R8;subst h8e;have hl8:(List.replicate k (chS false)++[chS false])=List.replicate (k+1) (chS false):=List.replicate_succ'.symm;rw[hl8,List.length_replicate] at R8;rw[hl8,List.length_replicate];have hK8:=Qa.mk (hK7.out.Zl (B8.mono (by have:=HKp.out.size;have:=hs4.out;omega)));have hG8':=Qa.mk hG8;replace R8:=Qa.mk R8;clear hM7 HR7 hl8 hg8 hat8 hG7 hG8 z0 B8 hb7 hs7;refine hK.out _ _ z8 (fun hHeld=> ?_);clear hK K
        try simp only[Act.put,Tk.z1,Tk.z2,Tk.z3,Tk.z4,Tk.z5,Tk.z6]
        (refine Tk.tl 11 (.pointer (some ⟨bg,0,none⟩)) hHeld ?_)
        (refine Qd (rs:=[12]) (by kernel_rfl) (by simp) ?_;refine Qc.Zp rfl (by decide) (fun K hK=> ?_) Qc.nil)
        go_simp;go_wp2_with fail;refine hK.out _ _ ?_;clear hK K
        try simp only[Act.put,List.setIfInBounds_toArray,List.set_cons_zero,List.set_cons_succ]
        refine Qo (by kernel_rfl) ?_ _;clear hHeld z8 y8;go_wp2_with fail;go_roundw
        case rel=>exact⟨k+1,by go_num,hlt'.out,⟨_,Q3 hG8'.out 0 _,Kd.Z5 (Kd.Jv (p:=⟨bg,0,none⟩) (Yx R8.out (Nat.le_refl _)) (fun b hb=>by simp only;omega) _) (fun _ _=>trivial),Kp.Km hK8.out 0 _⟩⟩
        case measure=>have:=hlt'.out;simp[intOf];omega
    · obtain rfl:k=n:=by omega
      have hR5:=hKp.blk hR4.out (by have:=hbgw.out;omega) (by simp);have hb5:=hb4.trans (hKp.below (B:=w.heap.size) (by have:=hbgw.out;omega) (fun k h=>by cases h) hb4.size);have hbr:bg+1<=wr.heap.size:=(by have:=hKp.size;have:=hs4.out;omega);have f0:=Qf hR5 0;have f1:=Qf hR5 1;have c0:wr.cell? ⟨w.heap.size,0,none⟩=some (.slice none 0 0):=(by rw[Qb hR5];rfl);have c1:wr.cell? ⟨w.heap.size,1,none⟩=some (.slice none 0 0):=(by rw[Qb hR5];rfl);have g0:wr.cell? ⟨bg,0,none⟩=some (.slice aC k cC):=(by rw[Qb hG];rfl);have g1:wr.cell? ⟨bg,1,none⟩=some (.slice none 0 0):=(by rw[Qb hG];rfl);have y1:=Qf hG 1;have hbgr:bg<wr.heap.size:=(by omega);have hwr:w.heap.size<wr.heap.size:=(by have:=hbgw.out;omega);have hne:w.heap.size≠bg:=(by have:=hbgw.out;omega);replace hR5:=Qa.mk hR5;replace hb5:=Qa.mk hb5;have hG5:=Qa.mk hG;replace HR:=Qa.mk HR;clear hlt hk hKp hG hR4 hs4 HC4 hb4;rcases Hn.out with h1|h2
      · subst h1
        clear y1;go_wp2_with fail;have hfin:((wr.setCell ⟨w.heap.size,0,none⟩ (.slice aC 1 cC)).setCell ⟨w.heap.size,1,none⟩ (.slice none 0 0)).heap[w.heap.size]? =some (.cells #[.slice aC 1 cC,.slice none 0 0] 31 (0,0)):=Q3 (Q3 hR5.out 0 (.slice aC 1 cC)) 1 (.slice none 0 0)
        (try simp only[Exit.inBlock,Exit.then]);refine bodyPost_ret (Y1 rfl _ _ w.heap.size 31 #[.slice aC 1 cC,.slice none 0 0] (0,0) _ rfl hfin hu31 rfl (by kernel_rfl)) rfl ?_
        have hR9:=Kd.Zo (Kd.Z5 (Kd.Jv (p:=⟨w.heap.size,1,none⟩) (Kd.Jv (p:=⟨w.heap.size,0,none⟩) (Yx HR.out (Nat.le_refl _)) (fun b hb=>by have:=hbgw.out;simp only;omega) (.slice aC 1 cC)) (fun b hb=>by have:=hbgw.out;simp only;omega) (.slice none 0 0)) (fun _ _=>trivial)) (show w.heap.size<=bg+1 by have:=hbgw.out;omega);exact⟨⟨_,_,rfl,hR9,Kd.Xd _ _ _ _ _⟩,(hb5.out.setCell (p:=⟨w.heap.size,0,none⟩) (Nat.le_refl _) _).setCell (p:=⟨w.heap.size,1,none⟩) (Nat.le_refl _) _⟩
      · subst h2
        go_wp2_with fail;obtain⟨W7,hW7⟩: ∃W7,W7=((wr.setCell ⟨bg,1,none⟩ (.slice (some ⟨wr.heap.size,0,none⟩) 15 15)).setCell ⟨w.heap.size,0,none⟩ (.slice aC 2 cC)).setCell ⟨w.heap.size,1,none⟩ (.slice (some ⟨wr.heap.size,0,none⟩) 15 15):=⟨_,rfl⟩;have hs7:W7.heap.size=wr.heap.size:=(by rw[hW7];simp[World.setCell]);have hq7:W7.heap[w.heap.size]? =some (.cells #[.slice aC 2 cC,.slice (some ⟨wr.heap.size,0,none⟩) 15 15] 31 (0,0)):=(by rw[hW7];exact Q3 (Q3 (Js hR5.out (p:=⟨bg,1,none⟩) hne _) 0 (.slice aC 2 cC)) 1 (.slice (some ⟨wr.heap.size,0,none⟩) 15 15));have hb7:Below w.heap.size w W7:=(by rw[hW7];exact((hb5.out.setCell (p:=⟨bg,1,none⟩) (by have:=hbgw.out;simp only;omega) _).setCell (p:=⟨w.heap.size,0,none⟩) (Nat.le_refl _) _).setCell (p:=⟨w.heap.size,1,none⟩) (Nat.le_refl _) _);have hR9:=Kd.Jv (p:=⟨w.heap.size,1,none⟩) (Kd.Jv (p:=⟨w.heap.size,0,none⟩) (Kd.Jv (p:=⟨bg,1,none⟩) (Yx HR.out (Nat.le_refl _)) (fun b hb=>by simp only;omega) (.slice (some ⟨wr.heap.size,0,none⟩) 15 15)) (fun b hb=>by have:=hbgw.out;simp only;omega) (.slice aC 2 cC)) (fun b hb=>by have:=hbgw.out;simp only;omega) (.slice (some ⟨wr.heap.size,0,none⟩) 15 15);rw[<-hW7] at hR9 ⊢;clear hW7;have hba:=(Below.refl W7.heap.size W7).alloc (Nat.le_refl _) (.cells (List.replicate 15 (Value.bool false)).toArray 4);have hRM:=RB_zeros W7 15 w.heap.size (by omega) (by omega);rw[hs7] at hRM;have hfin:=(hba.block _ (Qp hq7)).trans hq7
        (try simp only[Exit.inBlock,Exit.then]);refine bodyPost_ret (Y1 rfl _ _ w.heap.size 31 #[.slice aC 2 cC,.slice (some ⟨wr.heap.size,0,none⟩) 15 15] (0,0) _ rfl hfin hu31 rfl (by kernel_rfl)) rfl ?_
        exact⟨⟨_,_,rfl,Kd.Zo (Kd.Z5 (Kd.Qw hR9 hba) (fun _ _=>trivial)) (by have:=hbgw.out;omega),hRM⟩,bnx hb7 hba⟩
end Gn

namespace Gn
attribute [local go_sem] Qi Qj Qk Ql Qg Qh
open Q15
open Q21
open Sca (Y0)
theorem O9 {w W:World} {A:Option Addr} {xs:List Ch} (h:kCh.C w A xs.length xs) (hb:Below w.heap.size w W) {k:Nat} (hk:k<xs.length):
  ∃ad A1 c1 A2 c2 A3 c3 A4 c4,A=some ad/\W.cell? (ad.add (k*5))=some (.bool (xs.getD k ch0).sh)/\W.cell? ⟨(ad.add (k*5)).block,(ad.add (k*5)).off +1,none⟩=some (.slice A1 (xs.getD k ch0).gr.length c1)/\W.cell? ⟨(ad.add (k*5)).block,(ad.add (k*5)).off +2,none⟩=some (.slice A2 (xs.getD k ch0).sc.length c2)/\W.cell? ⟨(ad.add (k*5)).block,(ad.add (k*5)).off +3,none⟩=some (.slice A3 (xs.getD k ch0).qu.length c3)/\W.cell? ⟨(ad.add (k*5)).block,(ad.add (k*5)).off +4,none⟩=some (.slice A4 (xs.getD k ch0).fi.length c4)/\
   (Kd.int .i64).C W A1 (xs.getD k ch0).gr.length (xs.getD k ch0).gr /\(Kd.int .i64).C W A2 (xs.getD k ch0).sc.length (xs.getD k ch0).sc /\(Kd.int .i64).C W A3 (xs.getD k ch0).qu.length (xs.getD k ch0).qu /\(Kd.int .i64).C W A4 (xs.getD k ch0).fi.length (xs.getD k ch0).fi :=by
 obtain⟨ad,A1,c1,A2,c2,A3,c3,A4,c4,e,hch,g1,g2,g3,g4⟩:=V6 h hb hk;have m0:=hch 0 _ rfl;have m1:=hch 1 _ rfl;have m2:=hch 2 _ rfl;have m3:=hch 3 _ rfl;have m4:=hch 4 _ rfl;rw[show k*5+4=k*5+1+1+1+1 by omega,Sec.Q4,Sec.Q4,Sec.Q4,Sec.Q4] at m4;rw[show k*5+3=k*5+1+1+1 by omega,Sec.Q4,Sec.Q4,Sec.Q4] at m3;rw[show k*5+2=k*5+1+1 by omega,Sec.Q4,Sec.Q4] at m2;rw[Sec.Q4] at m1;simp only[Nat.add_assoc,Nat.reduceAdd,Nat.add_zero] at m0 m1 m2 m3 m4;exact⟨ad,A1,c1,A2,c2,A3,c3,A4,c4,e,m0,m1,m2,m3,m4,g1,g2,g3,g4⟩
def Sm4 (g:Gr):Prop:= ∀x∈g.chs,x.gr.length<=1000000/\x.sc.length<=1000000/\x.qu.length<=1000000/\x.fi.length<=1000000
theorem getD_mem {xs:List Ch} {k:Nat} (hk:k<xs.length):xs.getD k ch0∈xs:=by rw[List.getD_eq_getElem?_getD,List.getElem?_eq_getElem hk];exact List.getElem_mem hk
theorem Gx (g:Gr) (A B:Option Addr) (c c':Nat) (M N:Option Addr) (m m':Nat) (w:World) (h:Hm w g A c M m) (h2:Hm w g B c' N m') (hn:g.chs.length<=1000/\g.mid.length<=1000) (hs:Sm4 g):
  Calls Tryz.prog 11 #[grV g A c M m,grV g B c' N m'] w fun e w'=>e= .returned (.bool true)/\Below w.heap.size w w':=by
 have hu31:=Tryz.underlying31;have hu46:=Tryz.underlying46;obtain⟨xs,mid⟩:=g;unfold grV;have HS:=Qa.mk hs;clear hs;have h1:=h.chs;have h1m:=h.mid;have h2c:=h2.chs;have h2m:=h2.mid;dsimp only at h1 h1m h2c h2m hn ⊢;have HA:=Qa.mk h1;have HM:=Qa.mk h1m;have HB:=Qa.mk h2c;have HN:=Qa.mk h2m;have hxI:(xs.length:Int)<=1000/\(mid.length:Int)<=1000:=(by omega);obtain⟨w1,hw1⟩: ∃w1,w1=(w.alloc (.cells #[.slice A xs.length c,.slice M mid.length m] 31)).alloc (.cells #[.slice B xs.length c',.slice N mid.length m'] 31):=⟨_,rfl⟩;obtain⟨hb,hG1,hG2,-⟩:=U9 (w:=w) hw1;clear h h2 h1 h1m h2c h2m hn;go_enter Tryz.func11,Tryz.ntmps11;go_wp2_with fail;rw[<-hw1];clear hw1;have Hb:=Qa.mk hb;have z0:w1.cell? ⟨w.heap.size,0,none⟩=some (.slice A xs.length c):=(by rw[Qb hG1];rfl);have z1:w1.cell? ⟨w.heap.size,1,none⟩=some (.slice M mid.length m):=(by rw[Qb hG1];rfl);have y0:w1.cell? ⟨w.heap.size+1,0,none⟩=some (.slice B xs.length c'):=(by rw[Qb hG2];rfl);have y1:w1.cell? ⟨w.heap.size+1,1,none⟩=some (.slice N mid.length m'):=(by rw[Qb hG2];rfl);clear hG1 hG2 hb;go_wp2_with fail;go_loopw [29] (fun i wr=> ∃k:Nat,i= .int .i64 k/\k<=mid.length/\Below w1.heap.size w1 wr) (fun i _=>mid.length-(intOf i).toNat)
 case atStart=>exact⟨0,rfl,by omega,Below.refl _ _⟩
 case round=>
  obtain⟨k,rfl,hk,hb3⟩:=hrel;have q1:=cnx y1 hb3;by_cases hlt:k<mid.length
  ·obtain⟨am,rfl,e1⟩:=Y0 HM.out (bnx Hb.out hb3) hlt
   obtain⟨an,rfl,e2⟩:=Y0 HN.out (bnx Hb.out hb3) hlt;have hkI:(k:Int)<(mid.length:Int):=(by omega);obtain⟨x,hx⟩: ∃x,x=mid.getD k false:=⟨_,rfl⟩;rw[<-hx] at e1 e2;have hlt':=Qa.mk hlt;clear hx hlt;go_wp2;go_roundw
   case rel=>exact⟨k+1,by go_num,hlt'.out,hb3⟩
   case measure=>have:=hlt'.out;simp[intOf];omega
  ·obtain rfl:k=mid.length:=by omega
   have q0:=cnx z0 hb3;clear hlt hk;go_wp2_with fail;obtain⟨w2,rfl⟩: ∃w2:World,w2=wr:=⟨_,rfl⟩;clear q0 q1;go_loopw [45] (fun i wr=> ∃k:Nat,i= .int .i64 k/\k<=xs.length/\Below w1.heap.size w1 wr) (fun i _=>xs.length-(intOf i).toNat)
   case atStart=>exact⟨0,rfl,by omega,hb3⟩
   case round=>
    obtain⟨k,rfl,hk,hb4⟩:=hrel;by_cases hlt:k<xs.length
    ·obtain⟨ad,A1,c1,A2,c2,A3,c3,A4,c4,rfl,m0,m1,m2,m3,m4,g1,g2,g3,g4⟩:=O9 HA.out (bnx Hb.out hb4) hlt
     obtain⟨ad2,B1,d1,B2,d2,B3,d3,B4,d4,rfl,n0,n1,n2,n3,n4,f1,f2,f3,f4⟩:=O9 HB.out (bnx Hb.out hb4) hlt;have q0:=cnx y0 hb4;have hkI:(k:Int)<(xs.length:Int):=(by omega);have hlt':=Qa.mk hlt;obtain⟨X,hX⟩: ∃X,X=xs.getD k ch0:=⟨_,rfl⟩;obtain⟨s1,s2,s3,s4⟩:=HS.out _ (getD_mem hlt);rw[<-hX] at s1 s2 s3 s4 m0 m1 m2 m3 m4 n0 n1 n2 n3 n4 g1 g2 g3 g4 f1 f2 f3 f4;have HSm:=Qa.mk (fun(W:World) (hb:Below wr.heap.size wr W)=>And.intro (Vo A1 B1 c1 d1 X.gr X.gr W (Kd.Qe g1 hb) (Kd.Qe f1 hb) (by omega)) (And.intro (Vo A2 B2 c2 d2 X.sc X.sc W (Kd.Qe g2 hb) (Kd.Qe f2 hb) (by omega)) (And.intro (Vo A3 B3 c3 d3 X.qu X.qu W (Kd.Qe g3 hb) (Kd.Qe f3 hb) (by omega)) (Vo A4 B4 c4 d4 X.fi X.fi W (Kd.Qe g4 hb) (Kd.Qe f4 hb) (by omega)))));simp only[decide_true] at HSm;have hq0:w.heap.size+1<wr.heap.size:=World.block_lt_of_cell? wr _ q0;have hn0:(ad2.add (k*5)).block <wr.heap.size:=World.block_lt_of_cell? wr _ n0;clear hX hlt g1 g2 g3 g4 f1 f2 f3 f4 s1 s2 s3 s4;go_wp2_with fail;obtain⟨W5,hW5⟩: ∃W5,W5=(wr.alloc (.cells #[.bool X.sh,.slice A1 X.gr.length c1,.slice A2 X.sc.length c2,.slice A3 X.qu.length c3,.slice A4 X.fi.length c4] 46)).alloc (.cells #[.bool X.sh,.slice B1 X.gr.length d1,.slice B2 X.sc.length d2,.slice B3 X.qu.length d3,.slice B4 X.fi.length d4] 46):=⟨_,rfl⟩;obtain⟨hb5,hH1,hH2,-⟩:=U9 (w:=wr) hW5;rw[<-hW5];have fin:=Qa.mk (fun(W:World) (h:Below wr.heap.size wr W)=>bnx hb4 h);have HH:=Qa.mk (fun(W:World) (hb:Below W5.heap.size W5 W)=>And.intro (Qb ((hb.block _ (Qp hH1)).trans hH1)) (Qb ((hb.block _ (Qp hH2)).trans hH2)));clear hW5 m0 m1 m2 m3 m4 n0 n1 n2 n3 n4 q0 hq0 hn0 hH1 hH2 hb4;refine((HSm.out _ hb5).1).mono ?_;rintro e w6 ⟨rfl,hb6⟩;have u2:w6.cell? ⟨wr.heap.size,2,none⟩=some (.slice A2 X.sc.length c2):=(by rw[(HH.out _ hb6).1];rfl);have v2:w6.cell? ⟨wr.heap.size+1,2,none⟩=some (.slice B2 X.sc.length d2):=(by rw[(HH.out _ hb6).2];rfl);go_wp2_with fail;refine((HSm.out _ (bnx hb5 hb6)).2.1).mono ?_;clear u2 v2;rintro e w7 ⟨rfl,hbn⟩;replace hb6:=bnx hb6 hbn;clear hbn;have u3:w7.cell? ⟨wr.heap.size,3,none⟩=some (.slice A3 X.qu.length c3):=(by rw[(HH.out _ hb6).1];rfl);have v3:w7.cell? ⟨wr.heap.size+1,3,none⟩=some (.slice B3 X.qu.length d3):=(by rw[(HH.out _ hb6).2];rfl);go_wp2_with fail;refine((HSm.out _ (bnx hb5 hb6)).2.2.1).mono ?_;clear u3 v3;rintro e w8 ⟨rfl,hbn⟩;replace hb6:=bnx hb6 hbn;clear hbn;have u4:w8.cell? ⟨wr.heap.size,4,none⟩=some (.slice A4 X.fi.length c4):=(by rw[(HH.out _ hb6).1];rfl);have v4:w8.cell? ⟨wr.heap.size+1,4,none⟩=some (.slice B4 X.fi.length d4):=(by rw[(HH.out _ hb6).2];rfl);go_wp2_with fail;refine((HSm.out _ (bnx hb5 hb6)).2.2.2).mono ?_;clear u4 v4;rintro e w9 ⟨rfl,hbn⟩;replace hb6:=bnx hb6 hbn;clear hbn;replace hb5:=bnx hb5 hb6;clear hb6 HH HSm;go_wp2;go_roundw
     case rel=>exact⟨k+1,by go_num,hlt'.out,fin.out _ hb5⟩
     case measure=>have:=hlt'.out;simp[intOf];omega
    ·obtain rfl:k=xs.length:=by omega
     have hbf:=bnx Hb.out hb4;clear hlt hk hb4;go_wp2;go_ret;exact⟨rfl,hbf⟩
end Gn

namespace Gn
attribute [local go_sem] Qi Qj Qk Ql Qg Qh
open Q15
open Q21
open Bk
theorem Sz (n:Nat) (sh:Bool) (hn:0<n):chK (Fv n sh) 0=chS sh:=by
 unfold chK Fv
 cases n with
 |zero=>omega
 |succ n=>rfl
theorem sil1_ok:Ul (Fv 1 false)=true:=by
 refine Bg.2 ⟨by decide,?_,?_,?_⟩
 ·rw[Sz 1 false (by decide)];decide+kernel
 ·rw[Sz 1 false (by decide)];decide+kernel
 ·intro c hc
  obtain rfl:=List.mem_singleton.1 hc;rw[Sz 1 false (by decide)];refine⟨rfl,rfl,?_⟩
  decide+kernel
theorem Qer:Cc (Fv 1 false)=15:=by
 unfold Cc;rw[Sz 1 false (by decide)]
 show 1+(stN []:Int)+J8 (Fv 1 false)+([chS false].map (Vq Xm)).sum =15
 have h1:Vq Xm (chS false)=14:=by
  show 4+8*((0:Nat):Int)+((Sec.wL Xm zeros Xm.length).getD 0 Sec.w0).cost +Sca.Yb (chS false).sc (Xb Xm zeros)=14
  have h2:Sca.Yb (chS false).sc (Xb Xm zeros)=0:=by
   unfold Sca.Yb;rw[Qcf];rfl
  rw[h2,Qcb];rfl
 rw[List.map_cons,List.map_nil,List.sum_cons,List.sum_nil,h1]
 decide+kernel
theorem dr0_no:validD ⟨false,[],[],[],[],[]⟩=false:=by decide+kernel
theorem bw_zero:BW 0:=fun base p q L A cap l w hw hB4 hL hr hl hcap hA hf hroom=>bWrite_3 base p q L 0 (by decide) A cap l w hw hB4 hL hr hl hcap hA hf hroom rfl (by decide)
theorem Qeq: ∀p∈((Sec.wL Xm zeros Xm.length).getD 0 Sec.w0).secs,p.1.toNat=0:=by decide+kernel
theorem sil1_bw: ∀c∈(Fv 1 false).chs,∀p∈((Sec.wL (Qm (chK (Fv 1 false) 0).sh (chK (Fv 1 false) 0).gr) c.qu (Qm (chK (Fv 1 false) 0).sh (chK (Fv 1 false) 0).gr).length).getD 0 Sec.w0).secs,BW p.1.toNat:=by
 rw[Sz 1 false (by decide)];intro c hc;obtain rfl:=List.mem_singleton.1 hc;intro p hp;rw[Qeq p hp];exact bw_zero
theorem O1 (w:World) (hL:Laid w) (hB:Xp w) (hB4:4<=w.heap.size):
  Calls Tryz.prog 8 #[] w fun e w'=>e= .returned (.bool true)/\Below w.heap.size w w':=by
 have hu31:=Tryz.underlying31;have hu26:=Tryz.underlying26;have HS:=Qa.mk (Mv 1 (.inl rfl) w hL);obtain⟨G,hG⟩: ∃G,G=Fv 1 false:=⟨_,rfl⟩;have hok:=sil1_ok;have hco:=Qer
 have hsm:Sm (Fv 1 false):=by
  intro x hx;obtain rfl:=List.mem_singleton.1 hx
  decide+kernel
 have hbw:=sil1_bw;rw[<-hG] at HS hok hco hsm hbw;have HCo:=Qa.mk (fun(W:World) (A M:Option Addr) (c m:Nat) (hb:Below w.heap.size w W) (h:Hm W G A c M m)=>Gs G A c M m W (hL.below hb) (hB.below hb) (by have:=hb.size;omega) h hsm hok hbw);rw[hco] at HCo;have HCh:=Qa.mk (fun(W:World) (A M:Option Addr) (c m:Nat) (hb:Below w.heap.size w W) (h:Hm W G A c M m)=>Ju G A c M m W (hL.below hb) h hsm);rw[hok] at HCh;simp only[if_true] at HCh;have HV:=Qa.mk (fun(W:World) (hb:Below w.heap.size w W)=>Eu ⟨false,[],[],[],[],[]⟩ ⟨none,0,none,0,none,0,none,0,none,0⟩ W (hL.below hb) ⟨Kd.V4 _ _,Kd.V4 _ _,Kd.V4 _ _,Kd.V4 _ _,Kd.V4 _ _⟩ (by decide+kernel));rw[dr0_no] at HV;unfold Q7 at HV;simp only[List.length_nil] at HV;clear hL hB hB4 hG hok hco hsm hbw;go_enter Tryz.func8,Tryz.ntmps8;go_wp2_with fail;refine HS.out.mono ?_;intro e w1 hg;obtain⟨A,c,M,m,rfl,h1,h2,hb1⟩:=hg.reads;have hGA:Hm w1 G A c M m:=⟨h1,h2⟩;clear hg h1 h2 HS;go_wp2_with fail;obtain⟨w2,hw2⟩: ∃w2,w2=w1.alloc (.cells #[.slice A G.chs.length c,.slice M G.mid.length m] 31):=⟨_,rfl⟩;have hb12:Below w1.heap.size w1 w2:=(by rw[hw2];exact(Below.refl _ _).alloc (Nat.le_refl _) _);have hB2:w2.heap[w1.heap.size]? =some (.cells #[.slice A G.chs.length c,.slice M G.mid.length m] 31 (0,0)):=(by rw[hw2];exact heap_alloc_new _ _);have hb2:=bnx hb1 hb12;rw[<-hw2];refine(HCo.out w2 A M c m hb2 (hGA.below hb12)).mono ?_;rintro e w3 ⟨rfl,hb3⟩;have hG3:=Qa.mk ((hGA.below hb12).below hb3);have hB3:=(hb3.block _ (Qp hB2)).trans hB2;have z0:w3.cell? ⟨w1.heap.size,0,none⟩=some (.slice A G.chs.length c):=(by rw[Qb hB3];rfl);have z1:w3.cell? ⟨w1.heap.size,1,none⟩=some (.slice M G.mid.length m):=(by rw[Qb hB3];rfl);replace hb2:=bnx hb2 hb3;clear hw2 hb12 hB2 hb3 hB3 hb1 hGA HCo;go_wp2_with fail;refine(HCh.out w3 A M c m hb2 hG3.out).mono ?_;rintro e w4 ⟨rfl,hb4⟩;replace hb2:=bnx hb2 hb4;clear hb4 z0 z1 hG3 HCh;go_wp2_with fail;refine(HV.out w4 hb2).mono ?_;rintro e w5 ⟨rfl,hb5⟩;replace hb2:=bnx hb2 hb5;clear hb5 HV;go_wp2;go_ret;exact⟨rfl,hb2⟩
end Gn

end Go.Proofs.YtnflnicdjioflaaGreatDoor
