/- A part of the proof. -/
import Derived.Test.YtnflnicdjioflaaGreatDoorMdap
import Derived.ProofKit
import Derived.OpenShut
import Derived.ShutString
import Derived.ChangeOld
import Derived.Lib.SmallJoins
set_option linter.unusedVariables false
set_option linter.unusedSimpArgs false
set_option maxRecDepth 100000
set_option maxHeartbeats 8000000
namespace Go.Proofs.YtnflnicdjioflaaGreatDoor
open Go.RowKit Go.Proofs.YtnflnicdjioflaaGreatDoorW.PrintWords Go.Proofs.YtnflnicdjioflaaGreatDoorW.PrintLast Go.Proofs.YtnflnicdjioflaaGreatDoorW.PrintMore
namespace Q21
attribute [local go_sem] Qi Qj Qk Ql Qg Qh
open Q15
open Q16 (KL Xr isW off wd Za Zn Zx J3 Q0 Kg)
structure Ch where
 sh:Bool
 gr:List Int
 sc:List Int
 qu:List Int
 fi:List Int
def kCh:Kd Ch:=Kd.iso (Kd.pair Kd.bool (Kd.pair (Kd.slice 3 (Kd.int .i64)) (Kd.pair (Kd.slice 3 (Kd.int .i64)) (Kd.pair (Kd.slice 3 (Kd.int .i64)) (Kd.slice 3 (Kd.int .i64)))))) (fun x:Ch=>(x.sh,x.gr,x.sc,x.qu,x.fi))
theorem I1 {w:World} {x:Ch} {cs:List Value} (h:kCh.K w x cs): ∃A1 c1 A2 c2 A3 c3 A4 c4,cs=[.bool x.sh,.slice A1 x.gr.length c1,.slice A2 x.sc.length c2,.slice A3 x.qu.length c3,.slice A4 x.fi.length c4]/\x.gr.length<=c1/\(Kd.int .i64).C w A1 x.gr.length x.gr/\x.sc.length<=c2/\(Kd.int .i64).C w A2 x.sc.length x.sc/\x.qu.length<=c3/\(Kd.int .i64).C w A3 x.qu.length x.qu/\x.fi.length<=c4/\(Kd.int .i64).C w A4 x.fi.length x.fi:=by
 obtain⟨_,_,rfl,rfl,⟨_,_,rfl,⟨A1,c1,rfl,l1,g1⟩,⟨_,_,rfl,⟨A2,c2,rfl,l2,g2⟩,⟨_,_,rfl,⟨A3,c3,rfl,l3,g3⟩,⟨A4,c4,rfl,l4,g4⟩⟩⟩⟩⟩:=h;exact⟨A1,c1,A2,c2,A3,c3,A4,c4,rfl,l1,g1,l2,g2,l3,g3,l4,g4⟩
theorem Qc1 (w:World) (base:Nat) (ok:Nat->Prop) (x:Ch) {v1:Value} (g1:(Kd.int .i64).R 3 w base ok v1 x.gr) {v2:Value} (g2:(Kd.int .i64).R 3 w base ok v2 x.sc) {v3:Value} (g3:(Kd.int .i64).R 3 w base ok v3 x.qu) {v4:Value} (g4:(Kd.int .i64).R 3 w base ok v4 x.fi):kCh.M w base ok x [.bool x.sh,v1,v2,v3,v4]:=⟨[.bool x.sh],[v1,v2,v3,v4],rfl,rfl,⟨[v1],[v2,v3,v4],rfl,⟨v1,rfl,g1⟩,⟨[v2],[v3,v4],rfl,⟨v2,rfl,g2⟩,⟨[v3],[v4],rfl,⟨v3,rfl,g3⟩,⟨v4,rfl,g4⟩⟩⟩⟩⟩
theorem Qcw:(Tryz.prog.info? 46).map (fun i=>(i.zero,i.size,i.bytes))=some (some (.agg #[(.bool false),(.slice none 0 0),(.slice none 0 0),(.slice none 0 0),(.slice none 0 0)]),5,104):=by kernel_rfl
structure Gr where
 chs:List Ch
 mid:List Bool
def Tv (g:Gr) (E:Int) (w:World) (e:Ending) (w':World):Prop:=(∃vC vM,e= .returned (.tuple #[.agg #[vC,vM],.int .i64 E])/\kCh.R 46 w' w.heap.size (fun _=>True) vC g.chs/\Kd.bool.R 4 w' w.heap.size (fun _=>True) vM g.mid)/\Below w.heap.size w w'
theorem Tv.reads {g:Gr} {E:Int} {w:World} {e:Ending} {w':World} (h:Tv g E w e w'): ∃A p M q,e= .returned (.tuple #[.agg #[.slice A g.chs.length p,.slice M g.mid.length q],.int .i64 E])/\kCh.C w' A g.chs.length g.chs/\Kd.bool.C w' M g.mid.length g.mid/\Below w.heap.size w w':=by
 obtain⟨⟨vC,vM,rfl,h1,h2⟩,hb⟩:=h;obtain⟨A,p,rfl,_,c1⟩:=Kd.Qu h1;obtain⟨M,q,rfl,_,c2⟩:=Kd.Qu h2;exact⟨A,p,M,q,rfl,c1,c2,hb⟩
def Vv (c l s:List Int):List Int:=((List.range l.length).map fun k=>Yq (Zn c l k) (rd s k)).flatten
def X7 (s:List Int) (u:List Bool) (b:Nat):List Int:=(List.range s.length).map fun i=>if i<b then(if u.getD i false then rd s i else 0) else rd s i
def Df (d:Dr) (sc:List (List Int)) (k:Nat):Ch:=
 ⟨d.sh,d.gr,X7 (rdL sc k) (Xb (Qm d.sh d.gr) (Vv (rdL d.lis k) (Qm d.sh d.gr) (rdL sc k))) (rdL sc k).length,Vv (rdL d.lis k) (Qm d.sh d.gr) (rdL sc k),rdL d.fil k⟩
def Vt (d:Dr) (sc:List (List Int)):Bool:=decide (sc.length=d.lis.length)&&sc.all fun l=>decide (l.length=(Qm d.sh d.gr).length)
def X6 (d:Dr) (sc:List (List Int)):Int:=if validD d then if Vt d sc then if sc.all (Q16.rng 0 95) then 0 else 6 else 4 else 1
def Yc (d:Dr) (sc:List (List Int)):Gr:=if X6 d sc=0 then⟨(List.range d.lis.length).map (Df d sc),d.mid⟩ else⟨[],[]⟩
theorem Tv.err {d:Dr} {sc:List (List Int)} {w:World} {E:Int} {e:Ending} {w':World} (h:X6 d sc=E) (h0:E≠0) (he:e= .returned (.tuple #[.agg #[.slice none 0 0,.slice none 0 0],.int .i64 E])) (hb:Below w.heap.size w w'):Tv (Yc d sc) (X6 d sc) w e w':=by
 have hg:Yc d sc=⟨[],[]⟩:=(by unfold Yc;rw[h,if_neg h0]);rw[hg,h];exact⟨⟨_,_,he,Kd.Xd _ _ _ _ _,Kd.Xd _ _ _ _ _⟩,hb⟩
theorem Xo {sh:Bool} {g:List Int} (h:Zd sh g=true):isW (Qm sh g)=true:=by
 cases sh with
 |false=>exact(by decide+kernel:isW Xm=true)
 |true=>
  obtain⟨h8,hn,hs⟩:=X9.1 h;rw[Q0]
  have key: ∀l:List Int,(∀n∈l,1<=n/\n<=8)->(∀x∈Qm true l,1<=x)/\(Qm true l).sum =16*l.sum/\(Qm true l).length =4*l.length:=by
   intro l
   induction l with
   |nil=>intro _;simp[Qm]
   |cons a t ih=>
    intro hl;obtain⟨i1,i2,i3⟩:=ih (fun n hn=>hl n (by simp[hn]));have ha:=hl a (by simp);have he:Qm true (a::t)=[a*2,a*2,a*4,a*8]++Qm true t:=(by simp[Qm]);rw[he];refine⟨fun x hx=> ?_,?_,?_⟩
    ·rcases List.mem_append.1 hx with hx|hx
     ·simp at hx
      omega
     ·exact i1 x hx
    ·rw[List.sum_append,i2]
     simp;omega
    ·rw[List.length_append,i3]
     simp;omega
  obtain⟨k1,k2,k3⟩:=key g hn;exact⟨k1,by rw[k2,hs];rfl,by rw[k3];omega⟩
theorem K7 {l:List Int} (hl:isW l=true) {f:Nat->List Int} (hf: ∀k,k<l.length->(f k).length =wd l k): ∀n,n<=l.length->(((List.range n).map f).flatten).length =off l n
 |0,_=>by simp[off]
 |n+1,hn=>by
  rw[List.range_succ,List.map_append,List.flatten_append,List.length_append,K7 hl hf n (by omega),(Za hl (k:=n) (by omega)).1];simp[hf n (by omega)]
theorem Sj {c l s:List Int} (he:Kg (-2097152) 2097152 0 95 c l s=0):(Vv c l s).length =128:=by
 obtain⟨g0,g1,g2,g3,g4,g5⟩:=Q16.N8 he;unfold Vv;rw[K7 g0 (fun k hk=> ?_) l.length (Nat.le_refl _),Ah g0];have hs:=List.all_eq_true.1 g4 _ (Qt s k (by omega));simp only[decide_eq_true_eq] at hs;unfold Yq;rw[if_pos (Q16.chk_band g3 g0 g1 hk hs),List.length_map,Zx g1 g0 hk]
theorem Qct {p q lo hi:Int} {c l s:List Int} (h1:isW l=true) (h2:c.length=128) (h3:s.length=l.length) (h4:Q16.rng p q c=true) (h5:Q16.rng lo hi s=true):Kg p q lo hi c l s=0:=by
 unfold Kg Q16.Ti;simp[h1,h2,h3,h4,h5]
theorem Qe0 (s:List Int) (u:List Bool) (b:Nat):(X7 s u b).length =s.length:=by simp[X7]
theorem Qcl (s:List Int) (u:List Bool):X7 s u 0=s:=by
 apply List.ext_getElem
 ·simp[X7]
 ·intro i h1 h2
  simp[X7,rd,h2]
theorem Qck {s:List Int} {u:List Bool} {b:Nat} (hu:u.getD b false=true):X7 s u (b+1)=X7 s u b:=by
 apply List.ext_getElem
 ·simp[X7]
 ·intro i h1 h2
  simp only[X7,List.getElem_map,List.getElem_range];by_cases h:i<b
  ·rw[if_pos h,if_pos (by omega)]
  ·by_cases h3:i=b
   ·subst h3
    rw[if_pos (Nat.lt_succ_self i),if_pos hu,if_neg (Nat.lt_irrefl i)]
   ·rw[if_neg (by omega),if_neg h]
theorem Qe2 {s:List Int} {u:List Bool} {b:Nat} (hu:u.getD b false=false):X7 s u (b+1)=(X7 s u b).set b 0:=by
 apply List.ext_getElem
 ·simp[X7]
 ·intro i h1 h2
  rw[List.getElem_set];simp only[X7,List.getElem_map,List.getElem_range];by_cases h:b=i
  ·subst h
   rw[if_pos (by omega),if_pos rfl,hu];rfl
  ·rw[if_neg h]
   by_cases h3:i<b
   ·rw[if_pos h3,if_pos (by omega)]
   ·rw[if_neg (by omega),if_neg h3]
end Q21

namespace Q21
attribute [local go_sem] Qi Qj Qk Ql Qg Qh
open Q15
open Q16 (KL Xr isW off wd Za Zn Zx J3 Q0 Kg)
def G9 (w:World) (A:Option Addr) (xs:List (List Int)):Prop:= ∀(k:Nat) (ad:Addr) (B:Option Addr) (c:Nat),k<xs.length->A=some ad->w.cell? (ad.add k)=some (.slice B (rdL xs k).length c)->c<=9223372036854775807
theorem KL_at9 {w W:World} {A:Option Addr} {xs:List (List Int)} (h:KL.C w A xs.length xs) (hc:G9 w A xs) (hb:Below w.heap.size w W) {k:Nat} (hk:k<xs.length):
  ∃ad B c,A=some ad/\W.cell? (ad.add k)=some (.slice B (rdL xs k).length c)/\(rdL xs k).length <=c/\c<=9223372036854775807/\(Kd.int .i64).C W B (rdL xs k).length (rdL xs k):=by
 obtain⟨ad,B,c,e,h1,h2,h3⟩:=Uh h (Below.refl _ _) hk;exact⟨ad,B,c,e,cnx h1 hb,h2,hc k ad B c hk e h1,Kd.Qe h3 hb⟩
theorem U9 {w W:World} {c1 c2:Array Value} {t1 t2:TypeId} (hW:W=(w.alloc (.cells c1 t1)).alloc (.cells c2 t2)):
  Below w.heap.size w W/\W.heap[w.heap.size]? =some (.cells c1 t1 (0,0))/\W.heap[w.heap.size+1]? =some (.cells c2 t2 (0,0))/\W.heap.size=w.heap.size+2:=by
 have hs:(w.alloc (.cells c1 t1)).heap.size =w.heap.size+1:=(by go_simp);subst hW;refine⟨((Below.refl _ _).alloc (Nat.le_refl _) _).alloc (by omega) _,?_,?_,by go_simp⟩
 ·rw[Below.heap_alloc _ _ _ (by omega)]
  exact heap_alloc_new _ _
 ·rw[<-hs]
  exact heap_alloc_new _ _
theorem make_no (d:Dr) (v:DrV) (As:Option Addr) (cs:Nat) (sc:List (List Int)) (w:World) (hL:Laid w) (hd:Kr w d v) (hf:Kh d=true) (hv:validD d=false):
  Calls Tryz.prog 9 #[.agg (Q7 d v),.slice As sc.length cs] w (Tv (Yc d sc) (X6 d sc) w):=by
 have hu26:=Tryz.underlying26;have hu31:=Tryz.underlying31;have hE:Qa (X6 d sc=1):=⟨by unfold X6;rw[if_neg (by rw[hv];decide)]⟩;have HC:=Qa.mk (fun(W:World) (hb:Below w.heap.size w W)=>Jf d v W (hL.below hb) (hd.below hb) hf);unfold Jb at HC;rw[hv] at HC;simp only[Bool.false_eq_true,if_false] at HC;clear hL hd hf hv;unfold Q7 at HC ⊢;go_enter Tryz.func9,Tryz.ntmps9;go_wp2_with fail;obtain⟨W,hW⟩: ∃W,W=(w.alloc (.cells (Q7 d v) 26)).alloc (.cells #[.slice none 0 0,.slice none 0 0] 31):=⟨_,rfl⟩;obtain⟨hb,-,hR,-⟩:=U9 (w:=w) hW;unfold Q7 at hW;rw[<-hW];clear hW;refine(HC.out _ hb).mono ?_;rintro e w1 ⟨⟨A,p,rfl,-⟩,hbn⟩;replace hb:=bnx hb hbn;have hR1:=(hbn.block _ (Qp hR)).trans hR;have f0:=Qf hR1 0;have f1:=Qf hR1 1;have c0:w1.cell? ⟨w.heap.size+1,0,none⟩=some (.slice none 0 0):=(by rw[Qb hR1];rfl);have c1:w1.cell? ⟨w.heap.size+1,1,none⟩=some (.slice none 0 0):=(by rw[Qb hR1];rfl);clear hbn;go_wp2_with fail
 (try simp only[Exit.inBlock,Exit.then]);refine bodyPost_ret (Y1 rfl _ _ (w.heap.size+1) 31 #[.slice none 0 0,.slice none 0 0] (0,0) _ rfl (Q3 (Q3 hR1 0 _) 1 _) hu31 rfl (by kernel_rfl)) rfl ?_
 exact Tv.err hE.out (by decide) rfl ((hb.setCell (p:=⟨w.heap.size+1,0,none⟩) (Nat.le_succ _) _).setCell (p:=⟨w.heap.size+1,1,none⟩) (Nat.le_succ _) _)
end Q21

namespace Q21
attribute [local go_sem] Qi Qj Qk Ql Qg Qh
open Q15
open Q16 (KL Xr isW off wd Za Zn Zx J3 Q0 Kg)
open Bts (Kp P5 Gu Yx Ny)
open Q16 (Ve)
theorem lensB_no {d:Dr} {sc:List (List Int)} {k:Nat} (hk:k<sc.length) (h:(rdL sc k).length ≠(Qm d.sh d.gr).length):Vt d sc=false:=by
 unfold Vt;rw[List.all_eq_false.2 ⟨rdL sc k,by simp[rdL,hk],by simpa using h⟩,Bool.and_false]
theorem Qd6 {d:Dr} {sc:List (List Int)} (h0:sc.length=d.lis.length) (h: ∀k,k<sc.length->(rdL sc k).length =(Qm d.sh d.gr).length):Vt d sc=true:=by
 unfold Vt;rw[decide_eq_true h0,Bool.true_and];refine List.all_eq_true.2 fun x hx=> ?_
 obtain⟨k,hk,rfl⟩:=List.getElem_of_mem hx;have:=h k hk;simpa[rdL,hk] using this
theorem all_rdL {sc:List (List Int)} {p:List Int->Bool} (h: ∀k,k<sc.length->p (rdL sc k)=true):sc.all p=true:=by
 refine List.all_eq_true.2 fun x hx=> ?_
 obtain⟨k,hk,rfl⟩:=List.getElem_of_mem hx;have:=h k hk;simpa[rdL,hk] using this
theorem Qbg {sc:List (List Int)} {p:List Int->Bool} {k:Nat} (hk:k<sc.length) (h:p (rdL sc k)=false):sc.all p=false:=
 List.all_eq_false.2 ⟨rdL sc k,by simp[rdL,hk],by rw[h];decide⟩
def MkI (d:Dr) (sc:List (List Int)) (W0:World) (g:Nat) (M:Option Addr) (cm k:Nat) (wr:World):Prop:=
 ∃vC,wr.heap[g]? =some (.cells #[vC,.slice M d.mid.length cm] 31 (0,0))/\kCh.R 46 wr W0.heap.size (fun b=>W0.heap.size<=b) vC ((List.range k).map (Df d sc))/\Kp g none W0 wr
def Kq (wr:World) (gr sc fi:List Int) (s:Value×Value×Value×Nat) (w':World):Prop:=
 (Kd.int .i64).R 3 w' wr.heap.size (fun k=>True/\some k≠s.2.1.ownBlock) s.1 gr/\(Kd.int .i64).R 3 w' wr.heap.size (fun _=>True) s.2.1 sc/\(Kd.int .i64).R 3 w' wr.heap.size (fun k=>True/\some k≠s.2.1.ownBlock) s.2.2.1 fi/\w'.heap[s.2.2.2]? =some (.cells #[.bool false,.slice none 0 0,.slice none 0 0,.slice none 0 0,.slice none 0 0] 46 (0,0))/\wr.heap.size<=s.2.2.2/\Below wr.heap.size wr w'
def Qcm (sh:Bool) (wr:World) (gr sc fi:List Int) (s:Value×Value×Value×Nat) (w':World):Prop:=
 (Kd.int .i64).R 3 w' wr.heap.size (fun k=>True/\some k≠s.2.1.ownBlock) s.1 gr/\(Kd.int .i64).R 3 w' wr.heap.size (fun _=>True) s.2.1 sc/\(Kd.int .i64).R 3 w' wr.heap.size (fun k=>True/\some k≠s.2.1.ownBlock) s.2.2.1 fi/\w'.heap[s.2.2.2]? =some (.cells #[.bool sh,s.1,s.2.1,.slice none 0 0,s.2.2.1] 46 (0,0))/\wr.heap.size<=s.2.2.2/\Below wr.heap.size wr w'
theorem Kq.stored (sh:Bool) {wr w':World} {gr sc fi:List Int} {s:Value×Value×Value×Nat} (h:Kq wr gr sc fi s w'):Qcm sh wr gr sc fi s (((((w'.setCell ⟨s.2.2.2,0,none⟩ (.bool sh)).setCell ⟨s.2.2.2,1,none⟩ s.1).setCell ⟨s.2.2.2,2,none⟩ s.2.1).setCell ⟨s.2.2.2,3,none⟩ (.slice none 0 0)).setCell ⟨s.2.2.2,4,none⟩ s.2.2.1):=by
 obtain⟨v1,v2,v3,g⟩:=s;obtain⟨R1,R2,R3,hG,hle,hb⟩:=h;dsimp only at R1 R2 R3 hG hle ⊢;have G1:=Q3 hG 0 (.bool sh);have G2:=Q3 G1 1 v1;have G3:=Q3 G2 2 v2;have G4:=Q3 G3 3 (.slice none 0 0);refine⟨?_,?_,?_,Q3 G4 4 v3,hle,((((hb.setCell (p:=⟨g,0,none⟩) hle _).setCell (p:=⟨g,1,none⟩) hle _).setCell (p:=⟨g,2,none⟩) hle _).setCell (p:=⟨g,3,none⟩) hle _).setCell (p:=⟨g,4,none⟩) hle _⟩
 ·exact Kd.X5 (Kd.X5 (Kd.X5 (Kd.X5 (Kd.X5 R1 hG (by decide) 0 _) G1 (by decide) 1 _) G2 (by decide) 2 _) G3 (by decide) 3 _) G4 (by decide) 4 _
 ·exact Kd.X5 (Kd.X5 (Kd.X5 (Kd.X5 (Kd.X5 R2 hG (by decide) 0 _) G1 (by decide) 1 _) G2 (by decide) 2 _) G3 (by decide) 3 _) G4 (by decide) 4 _
 ·exact Kd.X5 (Kd.X5 (Kd.X5 (Kd.X5 (Kd.X5 R3 hG (by decide) 0 _) G1 (by decide) 1 _) G2 (by decide) 2 _) G3 (by decide) 3 _) G4 (by decide) 4 _
theorem Ui {wr wa wb wc w':World} {ba bb bc:Nat} {gr sc fi:List Int} {v1 v2 v3:Value} {g:Nat} (R1:(Kd.int .i64).R 3 wa ba (fun _=>True) v1 gr) (R2:(Kd.int .i64).R 3 wb bb (fun _=>True) v2 sc) (R3:(Kd.int .i64).R 3 wc bc (fun _=>True) v3 fi)
  (h0:wr.heap.size<=ba) (h1:wa.heap.size<=bb) (h1':wr.heap.size<=bb) (h2:wb.heap.size<=bc) (h2':wr.heap.size<=bc) (k1:Below wa.heap.size wa w') (k2:Below wb.heap.size wb w') (k3:Below wc.heap.size wc w')
  (hg:w'.heap[g]? =some (.cells #[.bool false,.slice none 0 0,.slice none 0 0,.slice none 0 0,.slice none 0 0] 46 (0,0))) (hle:wr.heap.size<=g) (hb:Below wr.heap.size wr w'):Kq wr gr sc fi (v1,v2,v3,g) w':=
 ⟨Kd.Zo (Kd.Qw (P5 R1 R2 h1) k1) h0,Kd.Zo (Kd.Qw R2 k2) h1',Kd.Zo (Kd.Qw (Gu R3 R2 h2) k3) h2',hg,hle,hb⟩
theorem make_yes (d:Dr) (v:DrV) (As:Option Addr) (cs:Nat) (sc:List (List Int)) (w:World) (hL:Laid w) (hd:Kr w d v) (hf:Kh d=true) (hv:validD d=true) (hS:KL.C w As sc.length sc) (hc9:G9 w v.Al d.lis) (hsl:sc.length<=4):
  Calls Tryz.prog 9 #[.agg (Q7 d v),.slice As sc.length cs] w (Tv (Yc d sc) (X6 d sc) w):=by
 have hu26:=Tryz.underlying26;have hu31:=Tryz.underlying31;obtain⟨f1,f2,f3,f4,f5,f6,f7,f8⟩:=Vs hf;have hlI:(d.lis.length:Int)<=4:=(by omega);have hslI:(sc.length:Int)<=4:=(by omega);have hwb:(Qm d.sh d.gr).length <=32:=Mj (Zy (by unfold validD at hv;simp only[Bool.and_eq_true] at hv;exact hv.2.1)).1;have HC:=Qa.mk (fun(W:World) (hb:Below w.heap.size w W)=>Jf d v W (hL.below hb) (hd.below hb) hf);unfold Jb at HC;rw[hv] at HC;simp only[if_true] at HC;obtain⟨L,hL2⟩: ∃L,L=Qm d.sh d.gr:=⟨_,rfl⟩;have HN4:=Qa.mk (fun(h:Vt d sc=false)=>(by unfold X6;rw[if_pos hv,if_neg (by rw[h];decide)]:X6 d sc=4));have HN6:=Qa.mk (fun(h:Vt d sc=true) (h2:sc.all (Q16.rng 0 95)=false)=>(by unfold X6;rw[if_pos hv,if_pos h,if_neg (by rw[h2];decide)]:X6 d sc=6));have HY:=Qa.mk (fun(h:Vt d sc=true) (h2:sc.all (Q16.rng 0 95)=true)=>(by unfold X6;rw[if_pos hv,if_pos h,if_pos h2]:X6 d sc=0));have HL0:=Qa.mk (@lensB_no d sc);have HL1:=Qa.mk (@Qd6 d sc);rw[<-hL2] at HC HL0 HL1 hwb;have hwbI:(L.length:Int)<=32:=(by omega);replace hL2:=Qa.mk hL2;have HD:=Qa.mk hd;have HS:=Qa.mk hS;have H9:=Qa.mk hc9;have f6':=Qa.mk f6;have f7':=Qa.mk f7;have hvv:=Qa.mk hv;clear hL hd hf hv hS hc9 f6 f7 f8 hwb f3 f4 f5;obtain⟨Ag,cg,Am,cm,Af,cf,Al,cl,Ai,ci⟩:=v;dsimp only at HD H9 HC ⊢;unfold Q7 at HC ⊢;dsimp only at HC ⊢;go_enter Tryz.func9,Tryz.ntmps9;go_wp2_with fail;obtain⟨W,hW⟩: ∃W,W=(w.alloc (.cells #[.bool d.sh,.slice Ag d.gr.length cg,.slice Am d.mid.length cm,.slice Af d.fil.length cf,.slice Al d.lis.length cl,.slice Ai d.lim.length ci] 26)).alloc (.cells #[.slice none 0 0,.slice none 0 0] 31):=⟨_,rfl⟩;obtain⟨hb,hB,hR,-⟩:=U9 (w:=w) hW;rw[<-hW];clear hW;refine(HC.out _ hb).mono ?_;rintro e w1 ⟨⟨A,p,rfl,hCw⟩,hbn⟩;replace hb:=bnx hb hbn;have hR1:=(hbn.block _ (Qp hR)).trans hR;have hB1:=(hbn.block _ (Qp hB)).trans hB;have f0:=Qf hR1 0;have f1:=Qf hR1 1;have k4:w1.cell? ⟨w.heap.size,4,none⟩=some (.slice Al d.lis.length cl):=(by rw[Qb hB1];rfl);replace hCw:=Qa.mk hCw;clear hbn hB hR;by_cases he:sc.length=d.lis.length
 ·have t1:((sc.length:Int) != (d.lis.length:Int))=false:=by rw[bne_eq_false_iff_eq];omega
  have he':=Qa.mk he;clear he;replace hb:=Qa.mk hb;replace hR1:=Qa.mk hR1;replace hB1:=Qa.mk hB1;go_wp2_with fail;go_loop [37] (fun i=> ∃k:Nat,i= .int .i64 k/\k<=sc.length/\Qa (∀j,j<k->(rdL sc j).length =L.length)) (fun i=>sc.length-(intOf i).toNat)
  case atStart=>exact⟨0,rfl,by omega,⟨fun j hj=>by omega⟩⟩
  case round=>
   obtain⟨k,rfl,hk,ha⟩:=hrel;by_cases hlt:k<sc.length
   ·obtain⟨ad,B,c,rfl,m,-,-⟩:=Uh HS.out hb.out hlt
    have hkI:(k:Int)<(sc.length:Int):=(by omega);have hno:= @HL0.out k hlt;obtain⟨x,hx⟩: ∃x,x=rdL sc k:=⟨_,rfl⟩;rw[<-hx] at m hno;replace hx:=Qa.mk hx;by_cases hl:x.length=L.length
    ·have t2:((x.length:Int) != (L.length:Int))=false:=by rw[bne_eq_false_iff_eq];omega
     replace hl:=Qa.mk hl;clear hno;go_wp2_with fail;go_round
     case rel=>exact⟨k+1,by go_num,by omega,⟨fun j hj=>by
      by_cases h:j=k
      ·rw[h,<-hx.out];exact hl.out
      ·exact ha.out j (by omega)⟩⟩
     case measure=>simp[intOf];omega
    ·have t2:((x.length:Int) != (L.length:Int))=true:=by rw[bne_iff_ne];omega
     have hE:=Qa.mk (HN4.out (hno hl));clear hno hl;have c0:w1.cell? ⟨w.heap.size+1,0,none⟩=some (.slice none 0 0):=(by rw[Qb hR1.out];rfl);have c1:w1.cell? ⟨w.heap.size+1,1,none⟩=some (.slice none 0 0):=(by rw[Qb hR1.out];rfl);go_wp2_with fail
     (try simp only[Exit.inBlock,Exit.then]);refine bodyPost_ret (Y1 rfl _ _ (w.heap.size+1) 31 #[.slice none 0 0,.slice none 0 0] (0,0) _ rfl (Q3 (Q3 hR1.out 0 _) 1 _) hu31 rfl (by kernel_rfl)) rfl ?_
     exact Tv.err hE.out (by decide) rfl ((hb.out.setCell (p:=⟨w.heap.size+1,0,none⟩) (Nat.le_succ _) _).setCell (p:=⟨w.heap.size+1,1,none⟩) (Nat.le_succ _) _)
   ·obtain rfl:k=sc.length:=by omega
    have hlb:=Qa.mk (HL1.out he'.out ha.out);go_wp2_with fail;go_loopw [50] (fun i wr=> ∃k:Nat,i= .int .i64 k/\k<=sc.length/\Qa (∀j,j<k->Q16.rng 0 95 (rdL sc j)=true)/\Qa (Below w1.heap.size w1 wr)) (fun i _=>sc.length-(intOf i).toNat)
    case atStart=>exact⟨0,rfl,by omega,⟨fun j hj=>by omega⟩,⟨Below.refl _ _⟩⟩
    case round=>
     obtain⟨k,rfl,hk,ha2,hb2⟩:=hrel;by_cases hlt:k<sc.length
     ·have hbw:=hb.out.trans (hb2.out.mono hb.out.size)
      obtain⟨ad,B,c,rfl,m,-,C1⟩:=Uh HS.out hbw hlt;have hkI:(k:Int)<(sc.length:Int):=(by omega);have HC1:=X4 B c (rdL sc k) 0 95 wr C1 (by have:=ha.out k hlt;omega);obtain⟨q,hq⟩: ∃q,q=Q16.rng 0 95 (rdL sc k):=⟨_,rfl⟩;rw[<-hq] at HC1;replace hq:=Qa.mk hq;replace HC1:=Qa.mk HC1;clear C1 hbw
      cases q with
      |true=>
       go_wp2_with fail;refine HC1.out.mono ?_;rintro e w' ⟨rfl,hbn⟩;go_wp2_with fail;go_roundw
       case rel=>exact⟨k+1,by go_num,by omega,⟨fun j hj=>by
        by_cases h:j=k
        ·rw[h,<-hq.out]
        ·exact ha2.out j (by omega)⟩,⟨hb2.out.trans (hbn.mono hb2.out.size)⟩⟩
       case measure=>simp[intOf];omega
      |false=>
       have hE:=Qa.mk (HN6.out hlb.out (Qbg hlt hq.out.symm));go_wp2_with fail;refine HC1.out.mono ?_;rintro e w' ⟨rfl,hbn⟩;replace hbn:=hb2.out.trans (hbn.mono hb2.out.size);have hR2:=(hbn.block _ (Qp hR1.out)).trans hR1.out;have f0:=Qf hR2 0;have f1:=Qf hR2 1;have c0:w'.cell? ⟨w.heap.size+1,0,none⟩=some (.slice none 0 0):=(by rw[Qb hR2];rfl);have c1:w'.cell? ⟨w.heap.size+1,1,none⟩=some (.slice none 0 0):=(by rw[Qb hR2];rfl);replace hbn:=Qa.mk hbn;go_wp2_with fail
       (try simp only[Exit.inBlock,Exit.then]);refine bodyPost_ret (Y1 rfl _ _ (w.heap.size+1) 31 #[.slice none 0 0,.slice none 0 0] (0,0) _ rfl (Q3 (Q3 hR2 0 _) 1 _) hu31 rfl (by kernel_rfl)) rfl ?_
       exact Tv.err hE.out (by decide) rfl (((hb.out.trans (hbn.out.mono hb.out.size)).setCell (p:=⟨w.heap.size+1,0,none⟩) (Nat.le_succ _) _).setCell (p:=⟨w.heap.size+1,1,none⟩) (Nat.le_succ _) _)
     ·obtain rfl:k=sc.length:=by omega
      have hE:=Qa.mk (HY.out hlb.out (all_rdL ha2.out));have hB2:=Qa.mk ((hb2.out.block _ (Qp hB1.out)).trans hB1.out);have hR2:=Qa.mk ((hb2.out.block _ (Qp hR1.out)).trans hR1.out);have hb3:=Qa.mk (hb.out.trans (hb2.out.mono hb.out.size));have hCw2:=Qa.mk (Kd.Qe hCw.out hb2.out);have k0:wr.cell? ⟨w.heap.size,0,none⟩=some (.bool d.sh):=(by rw[Qb hB2.out];rfl);have k1:wr.cell? ⟨w.heap.size,1,none⟩=some (.slice Ag d.gr.length cg):=(by rw[Qb hB2.out];rfl);have k2:wr.cell? ⟨w.heap.size,2,none⟩=some (.slice Am d.mid.length cm):=(by rw[Qb hB2.out];rfl);have k3:wr.cell? ⟨w.heap.size,3,none⟩=some (.slice Af d.fil.length cf):=(by rw[Qb hB2.out];rfl);have k4:wr.cell? ⟨w.heap.size,4,none⟩=some (.slice Al d.lis.length cl):=(by rw[Qb hB2.out];rfl);have HM:=Qa.mk (Eb Am cm d.mid wr (Kd.Qe HD.out.mid hb3.out) (by omega));clear hb hR1 hB1 hCw hb2 f0 f1 HN4 HN6 HY HL0 HL1 HC;go_wp2_with fail;refine HM.out.mono ?_;rintro e w3 ⟨vM,rfl,RM,hbn⟩;obtain⟨M,cm2,rfl⟩:=Kd.Ze RM;have hwr:=Qp hR2.out;have RM2:Kd.bool.R 4 w3 wr.heap.size (fun b=>w.heap.size+1<b/\b<w3.heap.size) (.slice M d.mid.length cm2) d.mid:=Kd.Z5 (Kd.Q9 RM) (fun b hb=>⟨by have:=hb.2.1;omega,hb.2.2.1⟩);replace k0:=cnx k0 hbn;replace k1:=cnx k1 hbn;replace k2:=cnx k2 hbn;replace k3:=cnx k3 hbn;replace k4:=cnx k4 hbn;replace hb3:=Qa.mk (hb3.out.trans (hbn.mono hb3.out.size));replace hR2:=Qa.mk ((hbn.block _ (Qp hR2.out)).trans hR2.out);replace hCw2:=Qa.mk (Kd.Qe hCw2.out hbn);have hz:=World.block_lt_of_cell? w3 _ k0;dsimp only at hz;have hRMb:=Qa.mk (show w.heap.size<=wr.heap.size by omega);clear hbn RM HM hB2 hwr;replace RM2:=Qa.mk RM2;go_wp2_with fail;obtain⟨W0,hW0⟩: ∃W0,W0=w3.alloc (.cells #[.slice none 0 0,.slice M d.mid.length cm2] 31):=⟨_,rfl⟩;have hal:Below w3.heap.size w3 W0:=(by rw[hW0];exact(Below.refl _ _).alloc (Nat.le_refl _) _);have hG0:W0.heap[w3.heap.size]? =some (.cells #[.slice none 0 0,.slice M d.mid.length cm2] 31 (0,0)):=(by rw[hW0];exact heap_alloc_new _ _);obtain⟨g,hg⟩: ∃g,g=w3.heap.size:=⟨_,rfl⟩;rw[<-hW0];clear hW0;have hgw:w.heap.size<=g:=(by rw[hg];exact hb3.out.size);have hg0:g<W0.heap.size:=(by rw[hg];exact Qp hG0);have hz':w.heap.size<g:=(by rw[hg];exact hz);replace k0:=cnx k0 hal;replace k1:=cnx k1 hal;replace k2:=cnx k2 hal;replace k3:=cnx k3 hal;replace k4:=cnx k4 hal;have hcellR:W0.heap[w.heap.size+1]? =some (.cells #[.slice none 0 0,.slice none 0 0] 31 (0,0)):=(hal.block _ (Qp hR2.out)).trans hR2.out;have hz1:w.heap.size+1<g:=(by rw[hg];exact Qp hR2.out);replace hb3:=Qa.mk (hb3.out.trans (hal.mono hb3.out.size));have H3:Qa (∀wr,Kp g none W0 wr->(Kd.int .i64).C wr A L.length L):=⟨fun wr h=>Kd.Qe hCw2.out (hal.trans (by rw[<-hg];exact h.below (B:=g) (Nat.le_refl _) (fun k h=>by cases h) (Nat.le_of_lt hg0)))⟩;have hWL:=Qa.mk (show isW L=true by rw[hL2.out];exact Xo (by have h:=hvv.out;unfold validD at h;simp only[Bool.and_eq_true] at h;exact h.2.1))
      have hErr:Qa (∀k,k<d.lis.length-> ∀x,x=rdL d.lis k-> ∀y,y=rdL sc k->Kg (-2097152) 2097152 0 95 x L y=0):=⟨fun k hk x hx y hy=>by
       subst hx;subst hy;have h:=hvv.out;unfold validD at h;simp only[Bool.and_eq_true] at h;have h2:=List.all_eq_true.1 h.2.2.2 k (List.mem_range.2 hk);unfold okD at h2;simp only[Bool.and_eq_true,decide_eq_true_eq] at h2
       exact Qct hWL.out h2.1 (ha.out k (by rw[he'.out];exact hk)) h2.2.1 (ha2.out k (by rw[he'.out];exact hk))⟩
      replace RM2:=Qa.mk (Kd.Qw (Kd.Z5 RM2.out (ok':=fun b=>w.heap.size+1<b/\b≠g) (fun b hb=>⟨hb.1,by have:=hb.2;omega⟩)) hal);rw[<-hg] at hG0 ⊢;have K:=Qa.mk (And.intro k0 (And.intro k1 (And.intro k3 k4)));have hInv0:Qa (MkI d sc W0 g M cm2 0 W0):=⟨_,hG0,Kd.Xd _ _ _ _ _,Kp.refl _ _ _⟩;replace hcellR:=Qa.mk hcellR;replace hz':=Qa.mk hz';replace hz1:=Qa.mk hz1;replace hg0:=Qa.mk hg0;clear hal hG0 hg hgw hz k0 k1 k2 k3 k4 hR2
      have hvL:=Qa.mk (show d.lim.length=d.lis.length/\d.fil.length=d.lis.length by
       have h:=hvv.out;unfold validD headD at h;simp only[Bool.and_eq_true,decide_eq_true_eq] at h
       exact⟨h.1.2.2.1,h.1.2.2.2⟩)
      go_loopw [66] (fun i wr=> ∃k:Nat,i= .int .i64 k/\k<=d.lis.length/\Qa (MkI d sc W0 g M cm2 k wr)) (fun i _=>d.lis.length-(intOf i).toNat)
      case atStart=>exact⟨0,rfl,by omega,hInv0⟩
      case round=>
       obtain⟨k,rfl,hk,hI⟩:=hrel;by_cases hlt:k<d.lis.length
       ·obtain⟨vC,hG,HR,hKp⟩:=hI.out
        have hbA:=hKp.below (B:=w.heap.size) (by have:=hz'.out;omega) (fun k h=>by cases h) (by have:=hb3.out.size;omega);have hbw:=hb3.out.trans hbA;have gl:=HD.out.lis;have gf:=HD.out.fil;have h9:=H9.out;dsimp only at gl gf h9;obtain⟨adL,BL,cL,rfl,mL,lL,l9,CL⟩:=KL_at9 gl h9 hbw hlt;obtain⟨adS,BS,cS,rfl,mS,-,CS⟩:=Uh HS.out hbw (k:=k) (by rw[he'.out];exact hlt);obtain⟨adF,BF,cF,rfl,mF,-,CF⟩:=Uh gf hbw (k:=k) (by rw[hvL.out.2];exact hlt);have CG:=(HD.out.below hbw).gr;dsimp only at CG;have k0:=hKp.cell K.out.1 (by have:=hz'.out;simp only;omega) (by simp);have k1:=hKp.cell K.out.2.1 (by have:=hz'.out;simp only;omega) (by simp);have k3:=hKp.cell K.out.2.2.1 (by have:=hz'.out;simp only;omega) (by simp);have k4:=hKp.cell K.out.2.2.2 (by have:=hz'.out;simp only;omega) (by simp);have hS:Qa (∀w',Below wr.heap.size wr w'->w'.cell? ⟨w.heap.size,0,none⟩=some (.bool d.sh)/\w'.cell? ⟨w.heap.size,1,none⟩=some (.slice Ag d.gr.length cg)/\w'.cell? ⟨w.heap.size,3,none⟩=some (.slice (some adF) d.fil.length cf)/\w'.cell? (adS.add k)=some (.slice BS (rdL sc k).length cS)/\w'.cell? (adF.add k)=some (.slice BF (rdL d.fil k).length cF)):=⟨fun w' h=>⟨cnx k0 h,cnx k1 h,cnx k3 h,cnx mS h,cnx mF h⟩⟩;have hkI:(k:Int)<(d.lis.length:Int):=(by omega);have hkI2:(k:Int)<(sc.length:Int):=(by have:=he'.out;omega);have hkI3:(k:Int)<(d.fil.length:Int):=(by have:=hvL.out.2;omega);have hmo:=Qa.mk (show Tryz.prog.follows .mixedOrders =true by kernel_rfl);have lG:=f1;have lS:=ha.out k (by omega);have lF:=f6'.out k;have lLL:=f7'.out k;obtain⟨x,hx⟩: ∃x,x=rdL d.lis k:=⟨_,rfl⟩;obtain⟨y,hy⟩: ∃y,y=rdL sc k:=⟨_,rfl⟩;obtain⟨z,hzz⟩: ∃z,z=rdL d.fil k:=⟨_,rfl⟩;rw[<-hx] at mL lL CL lLL;rw[<-hy] at mS CS lS hS;rw[<-hzz] at mF CF lF hS;have HC1:=Qa.mk (fun(W:World) (hb:Below wr.heap.size wr W)=>Y2 Ag cg d.gr W (Kd.Qe CG hb) (by omega));have HC2:=Qa.mk (fun(W:World) (hb:Below wr.heap.size wr W)=>Y2 BS cS y W (Kd.Qe CS hb) (by omega));have HC3:=Qa.mk (fun(W:World) (hb:Below wr.heap.size wr W)=>Y2 BF cF z W (Kd.Qe CF hb) (by omega));replace hx:=Qa.mk hx;replace hy:=Qa.mk hy;replace hzz:=Qa.mk hzz;replace CL:=Qa.mk CL;replace CS:=Qa.mk CS;replace lS:=Qa.mk lS;replace lL:=Qa.mk lL;replace l9:=Qa.mk l9;replace lLL:=Qa.mk lLL;have hltk:=Qa.mk hlt;have hI2:=Qa.mk (And.intro hG (And.intro HR hKp));replace hbw:=Qa.mk hbw;clear hI hG HR hKp gl gf h9 CF CG hlt lG lF hbA;go_upto_region 1 with fail;go_cut [15] from 71 to 88 (fun u wx=> ∃s:Value×Value×Value×Nat,u= .pointer (some ⟨s.2.2.2,0,none⟩)/\Qa (Qcm d.sh wr d.gr y z s wx))
        case first=>
         have hu46:=Tryz.underlying46;refine Qr (S:=fun w'=>w'.cell? ⟨w.heap.size,0,none⟩=some (.bool d.sh)/\w'.cell? ⟨w.heap.size,1,none⟩=some (.slice Ag d.gr.length cg)/\w'.cell? ⟨w.heap.size,3,none⟩=some (.slice (some adF) d.fil.length cf)/\w'.cell? (adS.add k)=some (.slice BS y.length cS)/\w'.cell? (adF.add k)=some (.slice BF z.length cF)) (ds:=[]) hmo.out (hS.out _ (Below.refl _ _).drew) (fun hHeld=> ?_)
         (refine Tk.tl 0 (.pointer (some ⟨w.heap.size,0,none⟩)) hHeld ?_)
         (refine Tk.tl 1 (.bool d.sh) hHeld ?_)
         (refine Tk.tl 2 (.pointer (some ⟨w.heap.size,1,none⟩)) hHeld ?_)
         (refine Tk.tl 3 (.slice Ag d.gr.length cg) hHeld ?_)
         (refine Tk.tl 5 (.slice (some adS) sc.length cs) hHeld ?_)
         (refine Tk.tl 6 (.int .i64 k) hHeld ?_)
         (refine Tk.tl 7 (.pointer (some (adS.add k))) hHeld ?_)
         (refine Tk.tl 8 (.slice BS y.length cS) hHeld ?_)
         (refine Tk.tl 10 (.pointer (some ⟨w.heap.size,3,none⟩)) hHeld ?_)
         (refine Tk.tl 11 (.slice (some adF) d.fil.length cf) hHeld ?_)
         (refine Tk.tl 12 (.int .i64 k) hHeld ?_)
         (refine Tk.tl 13 (.pointer (some (adF.add k))) hHeld ?_)
         (refine Tk.tl 14 (.slice BF z.length cF) hHeld ?_)
         have hb:=Qa.mk (show Below wr.heap.size wr wr.drew from(Below.refl _ _).drew);refine Qd (rs:=[4,17]) (by kernel_rfl) (by simp) ?_;refine Qc.cons rfl (by decide) (fun K hK=> ?_) (Qc.cons rfl (by decide) (fun K hK=> ?_) Qc.nil)
         ·go_simp
          have s1:=Qa.mk (hb.out.size);refine(HC1.out _ hb.out).mono ?_;rintro e x1 ⟨v1,rfl,R1,hbn⟩;replace hb:=Qa.mk (bnx hb.out hbn);have q1:=Qa.mk (Below.refl x1.heap.size x1);replace R1:=Qa.mk R1;clear hbn;go_wp2_with fail;refine hK.out _ _ (hS.out _ hb.out) (fun hHeld=> ?_);clear hK K;try simp only[Act.put,Tk.z1,Tk.z2,Tk.z3,Tk.z4,Tk.z5,Tk.z6]
          refine Qd (rs:=[9,17]) (by kernel_rfl) (by simp) ?_;refine Qc.cons rfl (by decide) (fun K hK=> ?_) (Qc.cons rfl (by decide) (fun K hK=> ?_) Qc.nil)
          ·go_simp
           have s12:=Qa.mk q1.out.size;have s2:=Qa.mk (hb.out.size);refine(HC2.out _ hb.out).mono ?_;rintro e x2 ⟨v2,rfl,R2,hbn⟩;replace hb:=Qa.mk (bnx hb.out hbn);have q2:=Qa.mk (Below.refl x2.heap.size x2);replace q1:=Qa.mk (bnx q1.out hbn);replace R2:=Qa.mk R2;clear hbn;go_wp2_with fail;refine hK.out _ _ (hS.out _ hb.out) (fun hHeld=> ?_);clear hK K;try simp only[Act.put,Tk.z1,Tk.z2,Tk.z3,Tk.z4,Tk.z5,Tk.z6]
           refine Qd (rs:=[15,17]) (by kernel_rfl) (by simp) ?_;refine Qc.cons rfl (by decide) (fun K hK=> ?_) (Qc.cons rfl (by decide) (fun K hK=> ?_) Qc.nil)
           ·go_simp
            have s23:=Qa.mk q2.out.size;have s3:=Qa.mk (hb.out.size);refine(HC3.out _ hb.out).mono ?_;rintro e x3 ⟨v3,rfl,R3,hbn⟩;replace hb:=Qa.mk (bnx hb.out hbn);have q3:=Qa.mk (Below.refl x3.heap.size x3);replace q1:=Qa.mk (bnx q1.out hbn);replace q2:=Qa.mk (bnx q2.out hbn);replace R3:=Qa.mk R3;clear hbn;go_wp2_with fail;refine hK.out _ _ (hS.out _ hb.out) (fun hHeld=> ?_);clear hK K;try simp only[Act.put,Tk.z1,Tk.z2,Tk.z3,Tk.z4,Tk.z5,Tk.z6]
            refine Qd (rs:=[16,17]) (by kernel_rfl) (by simp) ?_;refine Qc.cons rfl (by decide) (fun K hK=> ?_) (Qc.cons rfl (by decide) (fun K hK=> ?_) Qc.nil)
            ·obtain⟨A1,p1,rfl⟩:=Kd.Ze R1.out
             obtain⟨A2,p2,rfl⟩:=Kd.Ze R2.out;obtain⟨A3,p3,rfl⟩:=Kd.Ze R3.out;refine Zi (w1:=x3) (v:= .agg #[.bool d.sh,.slice A1 d.gr.length p1,.slice A2 y.length p2,.slice none 0 0,.slice A3 z.length p3]) (by kernel_rfl) rfl (by kernel_rfl) ?_;refine hK.out _ _ (hS.out _ hb.out) (fun hHeld=> ?_);clear hK K;try simp only[Act.put,Tk.z1,Tk.z2,Tk.z3,Tk.z4,Tk.z5,Tk.z6]
             (refine Qd (rs:=[17]) (by kernel_rfl) (by simp) ?_;refine Qc.cons rfl (by decide) (fun K hK=> ?_) Qc.nil)
             go_wp2_with fail;refine hK.out _ _ (hS.out _ ?_) (fun hHeld=> ?_)
             ·exact hb.out.alloc hb.out.size _
             clear hK K;try simp only[Act.put,Tk.z1,Tk.z2,Tk.z3,Tk.z4,Tk.z5,Tk.z6]
             obtain⟨xa,hxa⟩: ∃xa,xa=x3.alloc (.cells #[.bool false,.slice none 0 0,.slice none 0 0,.slice none 0 0,.slice none 0 0] 46):=⟨_,rfl⟩;obtain⟨g2,hg2⟩: ∃g2,g2=x3.heap.size:=⟨_,rfl⟩;have hG:=Qa.mk (show xa.heap[g2]? =some (.cells #[.bool false,.slice none 0 0,.slice none 0 0,.slice none 0 0,.slice none 0 0] 46 (0,0)) by rw[hxa,hg2];exact heap_alloc_new _ _);have hgl:=Qa.mk (show wr.heap.size<=g2 by rw[hg2];exact hb.out.size);have hal:Below x3.heap.size x3 xa:=(by rw[hxa];exact(Below.refl _ _).alloc (Nat.le_refl _) _);replace q1:=Qa.mk (bnx q1.out hal);replace q2:=Qa.mk (bnx q2.out hal);replace q3:=Qa.mk (bnx q3.out hal);replace hb:=Qa.mk (bnx hb.out hal);clear hal;rw[<-hxa,<-hg2];clear hxa hg2;have hF:=Ui R1.out R2.out R3.out s1.out s12.out s2.out s23.out s3.out q1.out q2.out q3.out hG.out hgl.out hb.out;have z0:xa.cell? ⟨g2,0,none⟩=some (.bool false):=(by rw[Qs hG.out];rfl);have z1:xa.cell? ⟨g2,1,none⟩=some (.slice none 0 0):=(by rw[Qs hG.out];rfl);have z2:xa.cell? ⟨g2,2,none⟩=some (.slice none 0 0):=(by rw[Qs hG.out];rfl);have z3:xa.cell? ⟨g2,3,none⟩=some (.slice none 0 0):=(by rw[Qs hG.out];rfl);have z4:xa.cell? ⟨g2,4,none⟩=some (.slice none 0 0):=(by rw[Qs hG.out];rfl);have y0:=Qf hG.out 0;have y1:=Qf hG.out 1;have y2:=Qf hG.out 2;have y3:=Qf hG.out 3;have y4:=Qf hG.out 4;have hF2:=Qa.mk (Kq.stored d.sh hF);replace hb:=Qa.mk (hF2.out.2.2.2.2.2);dsimp only at hb;clear hF
             (refine Qd (rs:=[18]) (by kernel_rfl) (by simp) ?_;refine Qc.cons rfl (by decide) (fun K hK=> ?_) Qc.nil)
             go_simp;go_wp2_with fail;refine hK.out _ _ (hS.out _ hb.out) (fun hHeld=> ?_);clear hK K;try simp only[Act.put,Tk.z1,Tk.z2,Tk.z3,Tk.z4,Tk.z5,Tk.z6]
             refine Qo (by kernel_rfl) ?_ _;go_wp2_with fail;go_meet;exact⟨_,rfl,hF2⟩
            ·go_wp2_with fail
             refine hK.out _ _ (hS.out _ ?_) (fun hHeld=> ?_)
             ·exact hb.out.alloc hb.out.size _
             clear hK K;try simp only[Act.put,Tk.z1,Tk.z2,Tk.z3,Tk.z4,Tk.z5,Tk.z6]
             obtain⟨xa,hxa⟩: ∃xa,xa=x3.alloc (.cells #[.bool false,.slice none 0 0,.slice none 0 0,.slice none 0 0,.slice none 0 0] 46):=⟨_,rfl⟩;obtain⟨g2,hg2⟩: ∃g2,g2=x3.heap.size:=⟨_,rfl⟩;have hG:=Qa.mk (show xa.heap[g2]? =some (.cells #[.bool false,.slice none 0 0,.slice none 0 0,.slice none 0 0,.slice none 0 0] 46 (0,0)) by rw[hxa,hg2];exact heap_alloc_new _ _);have hgl:=Qa.mk (show wr.heap.size<=g2 by rw[hg2];exact hb.out.size);have hal:Below x3.heap.size x3 xa:=(by rw[hxa];exact(Below.refl _ _).alloc (Nat.le_refl _) _);replace q1:=Qa.mk (bnx q1.out hal);replace q2:=Qa.mk (bnx q2.out hal);replace q3:=Qa.mk (bnx q3.out hal);replace hb:=Qa.mk (bnx hb.out hal);clear hal;rw[<-hxa,<-hg2];clear hxa hg2;obtain⟨A1,p1,rfl⟩:=Kd.Ze R1.out;obtain⟨A2,p2,rfl⟩:=Kd.Ze R2.out;obtain⟨A3,p3,rfl⟩:=Kd.Ze R3.out
             (refine Qd (rs:=[16]) (by kernel_rfl) (by simp) ?_;refine Qc.cons rfl (by decide) (fun K hK=> ?_) Qc.nil)
             refine Zi (w1:=xa) (v:= .agg #[.bool d.sh,.slice A1 d.gr.length p1,.slice A2 y.length p2,.slice none 0 0,.slice A3 z.length p3]) (by kernel_rfl) rfl (by kernel_rfl) ?_;refine hK.out _ _ (hS.out _ hb.out) (fun hHeld=> ?_);clear hK K;try simp only[Act.put,Tk.z1,Tk.z2,Tk.z3,Tk.z4,Tk.z5,Tk.z6]
             have hF:=Ui R1.out R2.out R3.out s1.out s12.out s2.out s23.out s3.out q1.out q2.out q3.out hG.out hgl.out hb.out;have z0:xa.cell? ⟨g2,0,none⟩=some (.bool false):=(by rw[Qs hG.out];rfl);have z1:xa.cell? ⟨g2,1,none⟩=some (.slice none 0 0):=(by rw[Qs hG.out];rfl);have z2:xa.cell? ⟨g2,2,none⟩=some (.slice none 0 0):=(by rw[Qs hG.out];rfl);have z3:xa.cell? ⟨g2,3,none⟩=some (.slice none 0 0):=(by rw[Qs hG.out];rfl);have z4:xa.cell? ⟨g2,4,none⟩=some (.slice none 0 0):=(by rw[Qs hG.out];rfl);have y0:=Qf hG.out 0;have y1:=Qf hG.out 1;have y2:=Qf hG.out 2;have y3:=Qf hG.out 3;have y4:=Qf hG.out 4;have hF2:=Qa.mk (Kq.stored d.sh hF);replace hb:=Qa.mk (hF2.out.2.2.2.2.2);dsimp only at hb;clear hF
             (refine Qd (rs:=[18]) (by kernel_rfl) (by simp) ?_;refine Qc.cons rfl (by decide) (fun K hK=> ?_) Qc.nil)
             go_simp;go_wp2_with fail;refine hK.out _ _ (hS.out _ hb.out) (fun hHeld=> ?_);clear hK K;try simp only[Act.put,Tk.z1,Tk.z2,Tk.z3,Tk.z4,Tk.z5,Tk.z6]
             refine Qo (by kernel_rfl) ?_ _;go_wp2_with fail;go_meet;exact⟨_,rfl,hF2⟩
           ·go_wp2_with fail
            refine hK.out _ _ (hS.out _ ?_) (fun hHeld=> ?_)
            ·exact hb.out.alloc hb.out.size _
            clear hK K;try simp only[Act.put,Tk.z1,Tk.z2,Tk.z3,Tk.z4,Tk.z5,Tk.z6]
            obtain⟨xa,hxa⟩: ∃xa,xa=x2.alloc (.cells #[.bool false,.slice none 0 0,.slice none 0 0,.slice none 0 0,.slice none 0 0] 46):=⟨_,rfl⟩;obtain⟨g2,hg2⟩: ∃g2,g2=x2.heap.size:=⟨_,rfl⟩;have hG:=Qa.mk (show xa.heap[g2]? =some (.cells #[.bool false,.slice none 0 0,.slice none 0 0,.slice none 0 0,.slice none 0 0] 46 (0,0)) by rw[hxa,hg2];exact heap_alloc_new _ _);have hgl:=Qa.mk (show wr.heap.size<=g2 by rw[hg2];exact hb.out.size);have hal:Below x2.heap.size x2 xa:=(by rw[hxa];exact(Below.refl _ _).alloc (Nat.le_refl _) _);replace q1:=Qa.mk (bnx q1.out hal);replace q2:=Qa.mk (bnx q2.out hal);replace hb:=Qa.mk (bnx hb.out hal);clear hal;rw[<-hxa,<-hg2];clear hxa hg2
            (refine Qd (rs:=[15]) (by kernel_rfl) (by simp) ?_;refine Qc.cons rfl (by decide) (fun K hK=> ?_) Qc.nil)
            go_simp;have s23:=Qa.mk q2.out.size;have s3:=Qa.mk (hb.out.size);refine(HC3.out _ hb.out).mono ?_;rintro e x3 ⟨v3,rfl,R3,hbn⟩;replace hb:=Qa.mk (bnx hb.out hbn);have q3:=Qa.mk (Below.refl x3.heap.size x3);replace q1:=Qa.mk (bnx q1.out hbn);replace q2:=Qa.mk (bnx q2.out hbn);replace R3:=Qa.mk R3;replace hG:=Qa.mk ((hbn.block _ (Qp hG.out)).trans hG.out);clear hbn;go_wp2_with fail;refine hK.out _ _ (hS.out _ hb.out) (fun hHeld=> ?_);clear hK K;try simp only[Act.put,Tk.z1,Tk.z2,Tk.z3,Tk.z4,Tk.z5,Tk.z6]
            obtain⟨A1,p1,rfl⟩:=Kd.Ze R1.out;obtain⟨A2,p2,rfl⟩:=Kd.Ze R2.out;obtain⟨A3,p3,rfl⟩:=Kd.Ze R3.out
            (refine Qd (rs:=[16]) (by kernel_rfl) (by simp) ?_;refine Qc.cons rfl (by decide) (fun K hK=> ?_) Qc.nil)
            refine Zi (w1:=x3) (v:= .agg #[.bool d.sh,.slice A1 d.gr.length p1,.slice A2 y.length p2,.slice none 0 0,.slice A3 z.length p3]) (by kernel_rfl) rfl (by kernel_rfl) ?_;refine hK.out _ _ (hS.out _ hb.out) (fun hHeld=> ?_);clear hK K;try simp only[Act.put,Tk.z1,Tk.z2,Tk.z3,Tk.z4,Tk.z5,Tk.z6]
            have hF:=Ui R1.out R2.out R3.out s1.out s12.out s2.out s23.out s3.out q1.out q2.out q3.out hG.out hgl.out hb.out;have z0:x3.cell? ⟨g2,0,none⟩=some (.bool false):=(by rw[Qs hG.out];rfl);have z1:x3.cell? ⟨g2,1,none⟩=some (.slice none 0 0):=(by rw[Qs hG.out];rfl);have z2:x3.cell? ⟨g2,2,none⟩=some (.slice none 0 0):=(by rw[Qs hG.out];rfl);have z3:x3.cell? ⟨g2,3,none⟩=some (.slice none 0 0):=(by rw[Qs hG.out];rfl);have z4:x3.cell? ⟨g2,4,none⟩=some (.slice none 0 0):=(by rw[Qs hG.out];rfl);have y0:=Qf hG.out 0;have y1:=Qf hG.out 1;have y2:=Qf hG.out 2;have y3:=Qf hG.out 3;have y4:=Qf hG.out 4;have hF2:=Qa.mk (Kq.stored d.sh hF);replace hb:=Qa.mk (hF2.out.2.2.2.2.2);dsimp only at hb;clear hF
            (refine Qd (rs:=[18]) (by kernel_rfl) (by simp) ?_;refine Qc.cons rfl (by decide) (fun K hK=> ?_) Qc.nil)
            go_simp;go_wp2_with fail;refine hK.out _ _ (hS.out _ hb.out) (fun hHeld=> ?_);clear hK K;try simp only[Act.put,Tk.z1,Tk.z2,Tk.z3,Tk.z4,Tk.z5,Tk.z6]
            refine Qo (by kernel_rfl) ?_ _;go_wp2_with fail;go_meet;exact⟨_,rfl,hF2⟩
          ·go_wp2_with fail
           refine hK.out _ _ (hS.out _ ?_) (fun hHeld=> ?_)
           ·exact hb.out.alloc hb.out.size _
           clear hK K;try simp only[Act.put,Tk.z1,Tk.z2,Tk.z3,Tk.z4,Tk.z5,Tk.z6]
           obtain⟨xa,hxa⟩: ∃xa,xa=x1.alloc (.cells #[.bool false,.slice none 0 0,.slice none 0 0,.slice none 0 0,.slice none 0 0] 46):=⟨_,rfl⟩;obtain⟨g2,hg2⟩: ∃g2,g2=x1.heap.size:=⟨_,rfl⟩;have hG:=Qa.mk (show xa.heap[g2]? =some (.cells #[.bool false,.slice none 0 0,.slice none 0 0,.slice none 0 0,.slice none 0 0] 46 (0,0)) by rw[hxa,hg2];exact heap_alloc_new _ _);have hgl:=Qa.mk (show wr.heap.size<=g2 by rw[hg2];exact hb.out.size);have hal:Below x1.heap.size x1 xa:=(by rw[hxa];exact(Below.refl _ _).alloc (Nat.le_refl _) _);replace q1:=Qa.mk (bnx q1.out hal);replace hb:=Qa.mk (bnx hb.out hal);clear hal;rw[<-hxa,<-hg2];clear hxa hg2
           (refine Qd (rs:=[9]) (by kernel_rfl) (by simp) ?_;refine Qc.cons rfl (by decide) (fun K hK=> ?_) Qc.nil)
           go_simp;have s12:=Qa.mk q1.out.size;have s2:=Qa.mk (hb.out.size);refine(HC2.out _ hb.out).mono ?_;rintro e x2 ⟨v2,rfl,R2,hbn⟩;replace hb:=Qa.mk (bnx hb.out hbn);have q2:=Qa.mk (Below.refl x2.heap.size x2);replace q1:=Qa.mk (bnx q1.out hbn);replace R2:=Qa.mk R2;replace hG:=Qa.mk ((hbn.block _ (Qp hG.out)).trans hG.out);clear hbn;go_wp2_with fail;refine hK.out _ _ (hS.out _ hb.out) (fun hHeld=> ?_);clear hK K;try simp only[Act.put,Tk.z1,Tk.z2,Tk.z3,Tk.z4,Tk.z5,Tk.z6]
           (refine Qd (rs:=[15]) (by kernel_rfl) (by simp) ?_;refine Qc.cons rfl (by decide) (fun K hK=> ?_) Qc.nil)
           go_simp;have s23:=Qa.mk q2.out.size;have s3:=Qa.mk (hb.out.size);refine(HC3.out _ hb.out).mono ?_;rintro e x3 ⟨v3,rfl,R3,hbn⟩;replace hb:=Qa.mk (bnx hb.out hbn);have q3:=Qa.mk (Below.refl x3.heap.size x3);replace q1:=Qa.mk (bnx q1.out hbn);replace q2:=Qa.mk (bnx q2.out hbn);replace R3:=Qa.mk R3;replace hG:=Qa.mk ((hbn.block _ (Qp hG.out)).trans hG.out);clear hbn;go_wp2_with fail;refine hK.out _ _ (hS.out _ hb.out) (fun hHeld=> ?_);clear hK K;try simp only[Act.put,Tk.z1,Tk.z2,Tk.z3,Tk.z4,Tk.z5,Tk.z6]
           obtain⟨A1,p1,rfl⟩:=Kd.Ze R1.out;obtain⟨A2,p2,rfl⟩:=Kd.Ze R2.out;obtain⟨A3,p3,rfl⟩:=Kd.Ze R3.out
           (refine Qd (rs:=[16]) (by kernel_rfl) (by simp) ?_;refine Qc.cons rfl (by decide) (fun K hK=> ?_) Qc.nil)
           refine Zi (w1:=x3) (v:= .agg #[.bool d.sh,.slice A1 d.gr.length p1,.slice A2 y.length p2,.slice none 0 0,.slice A3 z.length p3]) (by kernel_rfl) rfl (by kernel_rfl) ?_;refine hK.out _ _ (hS.out _ hb.out) (fun hHeld=> ?_);clear hK K;try simp only[Act.put,Tk.z1,Tk.z2,Tk.z3,Tk.z4,Tk.z5,Tk.z6]
           have hF:=Ui R1.out R2.out R3.out s1.out s12.out s2.out s23.out s3.out q1.out q2.out q3.out hG.out hgl.out hb.out;have z0:x3.cell? ⟨g2,0,none⟩=some (.bool false):=(by rw[Qs hG.out];rfl);have z1:x3.cell? ⟨g2,1,none⟩=some (.slice none 0 0):=(by rw[Qs hG.out];rfl);have z2:x3.cell? ⟨g2,2,none⟩=some (.slice none 0 0):=(by rw[Qs hG.out];rfl);have z3:x3.cell? ⟨g2,3,none⟩=some (.slice none 0 0):=(by rw[Qs hG.out];rfl);have z4:x3.cell? ⟨g2,4,none⟩=some (.slice none 0 0):=(by rw[Qs hG.out];rfl);have y0:=Qf hG.out 0;have y1:=Qf hG.out 1;have y2:=Qf hG.out 2;have y3:=Qf hG.out 3;have y4:=Qf hG.out 4;have hF2:=Qa.mk (Kq.stored d.sh hF);replace hb:=Qa.mk (hF2.out.2.2.2.2.2);dsimp only at hb;clear hF
           (refine Qd (rs:=[18]) (by kernel_rfl) (by simp) ?_;refine Qc.cons rfl (by decide) (fun K hK=> ?_) Qc.nil)
           go_simp;go_wp2_with fail;refine hK.out _ _ (hS.out _ hb.out) (fun hHeld=> ?_);clear hK K;try simp only[Act.put,Tk.z1,Tk.z2,Tk.z3,Tk.z4,Tk.z5,Tk.z6]
           refine Qo (by kernel_rfl) ?_ _;go_wp2_with fail;go_meet;exact⟨_,rfl,hF2⟩
         ·go_wp2_with fail
          refine hK.out _ _ (hS.out _ ?_) (fun hHeld=> ?_)
          ·exact((Below.refl _ _).alloc (Nat.le_refl _) _).drew
          clear hK K;try simp only[Act.put,Tk.z1,Tk.z2,Tk.z3,Tk.z4,Tk.z5,Tk.z6]
          obtain⟨xa,hxa⟩: ∃xa,xa=(wr.alloc (.cells #[.bool false,.slice none 0 0,.slice none 0 0,.slice none 0 0,.slice none 0 0] 46)).drew :=⟨_,rfl⟩;obtain⟨g2,hg2⟩: ∃g2,g2=wr.heap.size:=⟨_,rfl⟩;have hG:=Qa.mk (show xa.heap[g2]? =some (.cells #[.bool false,.slice none 0 0,.slice none 0 0,.slice none 0 0,.slice none 0 0] 46 (0,0)) by rw[hxa,hg2];exact heap_alloc_new _ _);have hgl:=Qa.mk (show wr.heap.size<=g2 by omega);replace hb:=Qa.mk (show Below wr.heap.size wr xa by rw[hxa];exact((Below.refl _ _).alloc (Nat.le_refl _) _).drew);rw[<-hxa,<-hg2];clear hxa hg2
          (refine Qd (rs:=[4]) (by kernel_rfl) (by simp) ?_;refine Qc.cons rfl (by decide) (fun K hK=> ?_) Qc.nil)
          go_simp;have s1:=Qa.mk (hb.out.size);refine(HC1.out _ hb.out).mono ?_;rintro e x1 ⟨v1,rfl,R1,hbn⟩;replace hb:=Qa.mk (bnx hb.out hbn);have q1:=Qa.mk (Below.refl x1.heap.size x1);replace R1:=Qa.mk R1;replace hG:=Qa.mk ((hbn.block _ (Qp hG.out)).trans hG.out);clear hbn;go_wp2_with fail;refine hK.out _ _ (hS.out _ hb.out) (fun hHeld=> ?_);clear hK K;try simp only[Act.put,Tk.z1,Tk.z2,Tk.z3,Tk.z4,Tk.z5,Tk.z6]
          (refine Qd (rs:=[9]) (by kernel_rfl) (by simp) ?_;refine Qc.cons rfl (by decide) (fun K hK=> ?_) Qc.nil)
          go_simp;have s12:=Qa.mk q1.out.size;have s2:=Qa.mk (hb.out.size);refine(HC2.out _ hb.out).mono ?_;rintro e x2 ⟨v2,rfl,R2,hbn⟩;replace hb:=Qa.mk (bnx hb.out hbn);have q2:=Qa.mk (Below.refl x2.heap.size x2);replace q1:=Qa.mk (bnx q1.out hbn);replace R2:=Qa.mk R2;replace hG:=Qa.mk ((hbn.block _ (Qp hG.out)).trans hG.out);clear hbn;go_wp2_with fail;refine hK.out _ _ (hS.out _ hb.out) (fun hHeld=> ?_);clear hK K;try simp only[Act.put,Tk.z1,Tk.z2,Tk.z3,Tk.z4,Tk.z5,Tk.z6]
          (refine Qd (rs:=[15]) (by kernel_rfl) (by simp) ?_;refine Qc.cons rfl (by decide) (fun K hK=> ?_) Qc.nil)
          go_simp;have s23:=Qa.mk q2.out.size;have s3:=Qa.mk (hb.out.size);refine(HC3.out _ hb.out).mono ?_;rintro e x3 ⟨v3,rfl,R3,hbn⟩;replace hb:=Qa.mk (bnx hb.out hbn);have q3:=Qa.mk (Below.refl x3.heap.size x3);replace q1:=Qa.mk (bnx q1.out hbn);replace q2:=Qa.mk (bnx q2.out hbn);replace R3:=Qa.mk R3;replace hG:=Qa.mk ((hbn.block _ (Qp hG.out)).trans hG.out);clear hbn;go_wp2_with fail;refine hK.out _ _ (hS.out _ hb.out) (fun hHeld=> ?_);clear hK K;try simp only[Act.put,Tk.z1,Tk.z2,Tk.z3,Tk.z4,Tk.z5,Tk.z6]
          obtain⟨A1,p1,rfl⟩:=Kd.Ze R1.out;obtain⟨A2,p2,rfl⟩:=Kd.Ze R2.out;obtain⟨A3,p3,rfl⟩:=Kd.Ze R3.out
          (refine Qd (rs:=[16]) (by kernel_rfl) (by simp) ?_;refine Qc.cons rfl (by decide) (fun K hK=> ?_) Qc.nil)
          refine Zi (w1:=x3) (v:= .agg #[.bool d.sh,.slice A1 d.gr.length p1,.slice A2 y.length p2,.slice none 0 0,.slice A3 z.length p3]) (by kernel_rfl) rfl (by kernel_rfl) ?_;refine hK.out _ _ (hS.out _ hb.out) (fun hHeld=> ?_);clear hK K;try simp only[Act.put,Tk.z1,Tk.z2,Tk.z3,Tk.z4,Tk.z5,Tk.z6]
          have hF:=Ui R1.out R2.out R3.out s1.out s12.out s2.out s23.out s3.out q1.out q2.out q3.out hG.out hgl.out hb.out;have z0:x3.cell? ⟨g2,0,none⟩=some (.bool false):=(by rw[Qs hG.out];rfl);have z1:x3.cell? ⟨g2,1,none⟩=some (.slice none 0 0):=(by rw[Qs hG.out];rfl);have z2:x3.cell? ⟨g2,2,none⟩=some (.slice none 0 0):=(by rw[Qs hG.out];rfl);have z3:x3.cell? ⟨g2,3,none⟩=some (.slice none 0 0):=(by rw[Qs hG.out];rfl);have z4:x3.cell? ⟨g2,4,none⟩=some (.slice none 0 0):=(by rw[Qs hG.out];rfl);have y0:=Qf hG.out 0;have y1:=Qf hG.out 1;have y2:=Qf hG.out 2;have y3:=Qf hG.out 3;have y4:=Qf hG.out 4;have hF2:=Qa.mk (Kq.stored d.sh hF);replace hb:=Qa.mk (hF2.out.2.2.2.2.2);dsimp only at hb;clear hF
          (refine Qd (rs:=[18]) (by kernel_rfl) (by simp) ?_;refine Qc.cons rfl (by decide) (fun K hK=> ?_) Qc.nil)
          go_simp;go_wp2_with fail;refine hK.out _ _ (hS.out _ hb.out) (fun hHeld=> ?_);clear hK K;try simp only[Act.put,Tk.z1,Tk.z2,Tk.z3,Tk.z4,Tk.z5,Tk.z6]
          refine Qo (by kernel_rfl) ?_ _;go_wp2_with fail;go_meet;exact⟨_,rfl,hF2⟩
        case rest=>
         obtain⟨wo,rfl⟩: ∃wo:World,wo=wr:=⟨_,rfl⟩;obtain⟨⟨v1,v2,v3,g2⟩,rfl,hF⟩:=hcut;obtain⟨R1,R2,R3,hG2,hgl,hbc⟩:=hF.out;dsimp only at R1 R2 R3 hG2 hgl ⊢;obtain⟨hG,HR,hKp⟩:=hI2.out
         have hL128:0<L.length:=by
          have h:=Zy (sh:=d.sh) (g:=d.gr) (by have h:=hvv.out;unfold validD at h;simp only[Bool.and_eq_true] at h;exact h.2.1);have h2:=(Q0.1 hWL.out).2.1
          cases hLe:L with
          |nil=>rw[hLe] at h2;simp at h2
          |cons a t=>simp
         obtain⟨gz,cz,hv2⟩:=Ny R2 (by rw[lS.out];exact hL128);subst hv2;have hbz:wo.heap.size<=gz:=((Kd.Q9 R2).1 gz rfl).2.1;have hg2z:g2≠gz:=fun e=>Kd.R_ne R2 hG2 (by decide) (by rw[e];rfl)
         have hQ0:=Ve BL A BS cL p cS x L y wc (Kd.Qe CL.out hbc) (Kd.Qe (H3.out wo hKp) hbc) (Kd.Qe CS.out hbc) lL.out l9.out (hErr.out k hltk.out x hx.out y hy.out);have HQ:=Qa.mk hQ0;have mS2:=cnx mS hbc;replace hG:=Qv hG hbc;clear k0 k1 k3 k4 mL mS mF hS HC1 HC2 HC3 hQ0;obtain⟨A1,p1,rfl⟩:=Kd.Ze R1;obtain⟨A3,p3,rfl⟩:=Kd.Ze R3;replace hF:=Qa.mk (And.intro R1 (And.intro R2 R3));replace hbc:=Qa.mk hbc;replace hGG:=Qa.mk (And.intro hG hG2);clear R1 R2 R3 hG hG2;replace HR:=Qa.mk HR;replace hKp:=Qa.mk hKp;go_wp2_with fail;refine HQ.out.mono ?_;rintro e w4 ⟨v4,rfl,R4,hb4⟩;have hq128:=Sj (hErr.out k hltk.out x hx.out y hy.out);have R4':(Kd.int .i64).R 3 w4 wc.heap.size (fun _=>True) v4 (Vv x L y):=R4;obtain⟨Q,hQe⟩: ∃Q,Q=Vv x L y:=⟨_,rfl⟩;rw[<-hQe] at R4' hq128;clear R4 HQ;obtain⟨gq,cq,hv4⟩:=Ny R4' (by rw[hq128];decide);subst hv4;rw[hq128] at R4' ⊢;obtain⟨hG,hG2⟩:=hGG.out;replace hG:=Qv hG hb4;replace hG2:=Qv hG2 hb4;obtain⟨R1,R2,R3⟩:=hF.out;have z3:w4.cell? ⟨g2,3,none⟩=some (.slice none 0 0):=(by rw[Qs hG2];rfl);have y3:=Qf hG2 3;have hg2lt:=Qp hG2;have hgg2:g≠g2:=(by have:=hKp.out.size;have:=hg0.out;omega);obtain⟨w5,hw5⟩: ∃w5,w5=w4.setCell ⟨g2,3,none⟩ (.slice (some ⟨gq,0,none⟩) 128 cq):=⟨_,rfl⟩;have hGn:w5.heap[g]? =some (.cells #[vC,.slice M d.mid.length cm2] 31 (0,0)):=(by rw[hw5];exact Js hG (p:=⟨g2,3,none⟩) hgg2 _);have hG2n:w5.heap[g2]? =some (.cells #[.bool d.sh,.slice A1 d.gr.length p1,.slice (some ⟨gz,0,none⟩) y.length cz,.slice (some ⟨gq,0,none⟩) 128 cq,.slice A3 z.length p3] 46 (0,0)):=(by rw[hw5];exact Q3 hG2 3 _);have R1n:(Kd.int .i64).R 3 w5 wo.heap.size (fun b=>True/\some b≠(Value.slice (some ⟨gz,0,none⟩) y.length cz).ownBlock) (.slice A1 d.gr.length p1) d.gr:=(by rw[hw5];exact Kd.X5 (Kd.Qw R1 hb4) hG2 (by decide) 3 _);have R2n:(Kd.int .i64).R 3 w5 wo.heap.size (fun _=>True) (.slice (some ⟨gz,0,none⟩) y.length cz) y:=(by rw[hw5];exact Kd.X5 (Kd.Qw R2 hb4) hG2 (by decide) 3 _);have R3n:(Kd.int .i64).R 3 w5 wo.heap.size (fun b=>True/\some b≠(Value.slice (some ⟨gz,0,none⟩) y.length cz).ownBlock) (.slice A3 z.length p3) z:=by rw[hw5];exact Kd.X5 (Kd.Qw R3 hb4) hG2 (by decide) 3 _
         have R4n:(Kd.int .i64).R 3 w5 wo.heap.size (fun b=>True/\some b≠(Value.slice (some ⟨gz,0,none⟩) y.length cz).ownBlock) (.slice (some ⟨gq,0,none⟩) 128 cq) Q:=by
          rw[hw5];exact Kd.X5 (Kd.Zo (Gu R4' R2 (Nat.le_refl _)) hbc.out.size) hG2 (by decide) 3 _
         have hb5:Below wo.heap.size wo w5:=(by rw[hw5];exact(bnx hbc.out hb4).setCell (p:=⟨g2,3,none⟩) hgl _);replace hF:=Qa.mk (And.intro R1n (And.intro R2n (And.intro R3n R4n)));have CQ:=(Kd.R_reads' R4n).2.2;rw[hq128] at CQ;have HU:=Qa.mk (Uv A p L ⟨gq,0,none⟩ cq Q w5 (Kd.Qe (H3.out wo hKp.out) hb5) hWL.out (by rw[hq128];exact CQ) hq128);replace hGG:=Qa.mk (And.intro hGn hG2n);replace hb5:=Qa.mk hb5;replace hQe:=Qa.mk hQe;replace hq128:=Qa.mk hq128;clear R1 R2 R3 R4' hG hG2 hGn hG2n R1n R2n R3n R4n CQ hb4 hbc mS2;go_wp2_with fail;rw[<-hw5];clear hw5 z3 y3;refine HU.out.mono ?_;rintro e w6 ⟨gu,rfl,hgu,hU,hb6⟩;replace hb5:=Qa.mk (bnx hb5.out hb6);replace hGG:=Qa.mk (And.intro (Qv hGG.out.1 hb6) (Qv hGG.out.2 hb6));replace hF:=Qa.mk (And.intro (Kd.Qw hF.out.1 hb6) (And.intro (Kd.Qw hF.out.2.1 hb6) (And.intro (Kd.Qw hF.out.2.2.1 hb6) (Kd.Qw hF.out.2.2.2 hb6))));have hguz:gu≠gz:=fun e=>Kd.R_ne hF.out.2.1 hU (by decide) (by rw[e];rfl)
         have hul:=Y7 L Q;obtain⟨u,hue⟩: ∃u,u=Xb L Q:=⟨_,rfl⟩;rw[<-hue] at hU hul;replace hue:=Qa.mk hue;replace hU:=Qa.mk hU;replace hul:=Qa.mk hul;replace hguz:=Qa.mk hguz;replace hg2z:=Qa.mk hg2z;clear hb6 HU hL128;go_wp2_with fail;go_loopw [108] (fun i wr=> ∃b:Nat,i= .int .i64 b/\b<=L.length/\Qa ((Kd.int .i64).R 3 wr wo.heap.size (fun _=>True) (.slice (some ⟨gz,0,none⟩) y.length cz) (X7 y u b)/\Kp gz none w6 wr)) (fun i _=>L.length-(intOf i).toNat)
         case atStart=>exact⟨0,rfl,by omega,⟨by rw[Qcl];exact hF.out.2.1,Kp.refl _ _ _⟩⟩
         case round=>
          obtain⟨b,rfl,hbL,hZ⟩:=hrel;by_cases hltb:b<L.length
          ·have m1:wr.cell? ⟨gu,b,none⟩=some (.bool (u.getD b false)):=by
            have h:=hZ.out.2.blk hU.out hguz.out (by simp);have hl:b<u.length:=(by rw[hul.out];exact hltb);rw[Qb h];simp[hl]
           have hbI:(b:Int)<(L.length:Int):=(by omega);have hltb':=Qa.mk hltb;obtain⟨q,hq⟩: ∃q,q=u.getD b false:=⟨_,rfl⟩;rw[<-hq] at m1;replace hq:=Qa.mk hq;clear hltb
           cases q with
           |true=>
            go_wp2_with fail;go_roundw
            case rel=>exact⟨b+1,by go_num,hltb'.out,⟨by rw[Qck hq.out.symm];exact hZ.out.1,hZ.out.2⟩⟩
            case measure=>have:=hltb'.out;simp[intOf];omega
           |false=>
            have hGz:=hZ.out.2.blk hGG.out.2 hg2z.out (by simp);have z2:wr.cell? ⟨g2,2,none⟩=some (.slice (some ⟨gz,0,none⟩) y.length cz):=(by rw[Qs hGz];rfl);have hly:b<y.length:=(by rw[lS.out];exact hltb'.out);have hlyI:(b:Int)<(y.length:Int):=(by omega);have hcl:=Kd.Gv 0 hZ.out.1 b (by omega) (by omega);rw[Int.toNat_natCast] at hcl;obtain⟨n1,n2⟩:=hcl;obtain⟨nv,hnv⟩: ∃nv,nv=rdOf 0 (X7 y u b) (b:Int):=⟨_,rfl⟩;rw[<-hnv] at n1;clear hnv hGz hly;go_wp2_with fail;go_roundw
            case rel=>exact⟨b+1,by go_num,hltb'.out,⟨by
             have h:=Kd.Ef hZ.out.1 (b:Int) 0;rw[Int.toNat_natCast] at h;rw[Qe2 hq.out.symm]
             exact h,hZ.out.2.Km b _⟩⟩
            case measure=>have:=hltb'.out;simp[intOf];omega
          ·obtain rfl:b=L.length:=by omega
           obtain⟨RZ,hkz⟩:=hZ.out;rw[<-lS.out] at RZ;have hbz5:=hkz.below (B:=wo.heap.size) hbz (fun k h=>by cases h) hb5.out.size;have hwz:=hb5.out.trans hbz5;have hgz:g≠gz:=(by have:=hKp.out.size;have:=hg0.out;omega);have hG:=hkz.blk hGG.out.1 hgz (by simp);have hG2:=hkz.blk hGG.out.2 hg2z.out (by simp);obtain⟨R1,-,R3,R4⟩:=hF.out;have S1:=Kd.Kt R1 (fun k hk hlt=>hkz.block k hlt (fun e=>hk.2 (by rw[e];rfl)) (by simp));have S3:=Kd.Kt R3 (fun k hk hlt=>hkz.block k hlt (fun e=>hk.2 (by rw[e];rfl)) (by simp));have S4:=Kd.Kt R4 (fun k hk hlt=>hkz.block k hlt (fun e=>hk.2 (by rw[e];rfl)) (by simp));have hsz:W0.heap.size<=wo.heap.size:=hKp.out.size
           have hM:kCh.M wr W0.heap.size (fun k=>wo.heap.size<=k) (Df d sc k) [.bool d.sh,.slice A1 d.gr.length p1,.slice (some ⟨gz,0,none⟩) y.length cz,.slice (some ⟨gq,0,none⟩) 128 cq,.slice A3 z.length p3]:=by
            have E2:(Df d sc k).sc =X7 y u y.length:=(by rw[hue.out,hQe.out,hL2.out,hx.out,hy.out];rfl);have E3:(Df d sc k).qu =Q:=(by rw[hQe.out,hL2.out,hx.out,hy.out];rfl);have E4:(Df d sc k).fi =z:=(by rw[hzz.out];rfl);refine Qc1 wr W0.heap.size _ (Df d sc k) (Yx S1 hsz) ?_ ?_ ?_
            ·rw[E2];exact Yx RZ hsz
            ·rw[E3];exact Yx S4 hsz
            ·rw[E4];exact Yx S3 hsz
           have HRz:=Kd.Qw HR.out hwz;have hvb:Qa (∀b,wo.heap.size<=b->W0.heap.size<=b/\some b≠vC.ownBlock):=⟨fun b hb=>⟨by omega,fun e=>by have:=((Kd.Q9 HR.out).1 b e.symm).2.2.1;omega⟩⟩;have hgne:some g≠vC.ownBlock:=fun e=>by have:=(Kd.Q9 HR.out).1 g e.symm;have:=this.1;have:=hg0.out;omega
           have y0:wr.cell? ⟨g,0,none⟩=some vC:=(by rw[Qs hG];rfl);obtain⟨aC,cC,rfl⟩:=Kd.Ze HRz;rw[List.length_map,List.length_range] at HRz y0 hG hgne hvb;have e0:wr.cell? ⟨g2,0,none⟩=some (.bool d.sh):=(by rw[Qs hG2];rfl);have e1:wr.cell? ⟨g2,1,none⟩=some (.slice A1 d.gr.length p1):=(by rw[Qs hG2];rfl);have e2:wr.cell? ⟨g2,2,none⟩=some (.slice (some ⟨gz,0,none⟩) y.length cz):=(by rw[Qs hG2];rfl);have e3:wr.cell? ⟨g2,3,none⟩=some (.slice (some ⟨gq,0,none⟩) 128 cq):=(by rw[Qs hG2];rfl);have e4:wr.cell? ⟨g2,4,none⟩=some (.slice A3 z.length p3):=(by rw[Qs hG2];rfl);have hzs:Qa (W0.heap.size<=wr.heap.size):=⟨by have:=hwz.size;omega⟩;have hln:Qa ((((List.range k).map (Df d sc)).length +1)*104<=140737488355328):=⟨by have:=hltk.out;simp;omega⟩;have hu46:=Tryz.underlying46;replace hG:=Qa.mk hG;replace HRz:=Qa.mk HRz;replace hM:=Qa.mk hM;replace hwz:=Qa.mk hwz;replace hgne:=Qa.mk hgne;replace hsz:=Qa.mk hsz;clear RZ hkz R1 R3 R4 S1 S3 S4 hbz5 hgz hG2 hZ hbz hgl;go_wp2_with (first|(at_builtin;refine Kd.Zb kCh (w0:=wr) W0.heap.size rfl (.tmp 121) (.tmp 123) 29 46 (.agg #[(.bool false),(.slice none 0 0),(.slice none 0 0),(.slice none 0 0),(.slice none 0 0)]) 104 rfl Tryz.underlying29 Qcw rfl (by decide) (by decide) (.slice aC k cC) ((List.range k).map (Df d sc)) (Df d sc k) [.bool d.sh,.slice A1 d.gr.length p1,.slice (some ⟨gz,0,none⟩) y.length cz,.slice (some ⟨gq,0,none⟩) 128 cq,.slice A3 z.length p3] (fun b=>W0.heap.size<=b) (fun b=>wo.heap.size<=b) rfl rfl hM.out hvb.out (fun b hb=>Nat.le_trans hzs.out hb) HRz.out (Below.refl _ _) hzs.out hln.out ?_;intro v7 w7 hR7 hb7 hg7 hat7;clear hat7;have hG7:=(hg7.block g (Qp hG.out) hgne.out).trans hG.out;have hb8:=Qa.mk hb7;clear hg7 hb7 y0 e0 e1 e2 e3 e4;have y7:=Qf hG7 0;have y0:w7.cell? ⟨g,0,none⟩=some (.slice aC k cC):=(by rw[Qs hG7];rfl);obtain⟨a7,c7,h7e⟩:=Kd.Ze hR7;subst h7e;replace hG7:=Qa.mk hG7;replace hR7:=Qa.mk hR7));go_roundw
           case rel=>
            refine⟨k+1,by go_num,hltk.out,⟨⟨_,Q3 hG7.out 0 _,?_,?_⟩⟩⟩
            ·rw[List.range_succ,List.map_append]
             refine Kd.Jv (p:=⟨g,0,none⟩) ?_ (fun b hb=>by have:=hg0.out;simp only;omega) _;have h:=hR7.out;rw[List.length_append,List.length_map,List.length_range] at h;exact h
            ·exact Kp.Km (hKp.out.Zl (hwz.out.mono hsz.out |>.trans hb8.out)) 0 _
           case measure=>have:=hltk.out;simp[intOf];omega
       ·obtain rfl:k=d.lis.length:=by omega
        obtain⟨vC,hG,HR,hKp⟩:=hI.out;obtain⟨AC,cC,rfl⟩:=Kd.Ze HR;rw[List.length_map,List.length_range] at hG HR;have hbA:=hKp.below (B:=w.heap.size) (by have:=hz'.out;omega) (fun k h=>by cases h) (by have:=hb3.out.size;omega);have g0:wr.cell? ⟨g,0,none⟩=some (.slice AC d.lis.length cC):=(by rw[Qb hG];rfl);have g1:wr.cell? ⟨g,1,none⟩=some (.slice M d.mid.length cm2):=(by rw[Qb hG];rfl);have hR3:=hKp.blk hcellR.out (by have:=hz1.out;omega) (by simp);have f0:=Qf hR3 0;have f1:=Qf hR3 1;have c0:wr.cell? ⟨w.heap.size+1,0,none⟩=some (.slice none 0 0):=(by rw[Qb hR3];rfl);have c1:wr.cell? ⟨w.heap.size+1,1,none⟩=some (.slice none 0 0):=(by rw[Qb hR3];rfl);have RM3:=Kd.Kt RM2.out (fun b hb hlt=>hKp.block b hlt hb.2 (by simp));have hfin:Qa (Yc d sc=⟨(List.range d.lis.length).map (Df d sc),d.mid⟩):=⟨by unfold Yc;rw[if_pos hE.out]⟩;have HR2:=Qa.mk (Kd.Jv (p:=⟨w.heap.size+1,1,none⟩) (Kd.Jv (p:=⟨w.heap.size+1,0,none⟩) HR (fun b hb=>by have:=hz1.out;have:=hg0.out;simp only;omega) (.slice AC d.lis.length cC)) (fun b hb=>by have:=hz1.out;have:=hg0.out;simp only;omega) (.slice M d.mid.length cm2));replace RM3:=Qa.mk (Kd.Jv (p:=⟨w.heap.size+1,1,none⟩) (Kd.Jv (p:=⟨w.heap.size+1,0,none⟩) RM3 (fun b hb=>by have:=hb.1;simp only;omega) (.slice AC d.lis.length cC)) (fun b hb=>by have:=hb.1;simp only;omega) (.slice M d.mid.length cm2));replace hbA:=Qa.mk (hb3.out.trans hbA);clear HR hKp hI hG;go_wp2_with fail
        (try simp only[Exit.inBlock,Exit.then]);refine bodyPost_ret (Y1 rfl _ _ (w.heap.size+1) 31 #[.slice AC d.lis.length cC,.slice M d.mid.length cm2] (0,0) _ rfl (Q3 (Q3 hR3 0 _) 1 _) hu31 rfl (by kernel_rfl)) rfl ?_
        rw[hfin.out,hE.out];have h1:=Kd.Zo (base':=w.heap.size) (Kd.Z5 HR2.out (ok':=fun _=>True) (fun _ _=>trivial)) (by have:=hz'.out;have:=hg0.out;omega);have h2:=Kd.Zo (base':=w.heap.size) (Kd.Z5 RM3.out (ok':=fun _=>True) (fun _ _=>trivial)) hRMb.out;exact⟨⟨_,_,rfl,h1,h2⟩,(hbA.out.setCell (p:=⟨w.heap.size+1,0,none⟩) (Nat.le_succ _) _).setCell (p:=⟨w.heap.size+1,1,none⟩) (Nat.le_succ _) _⟩
 ·have t1:((sc.length:Int) != (d.lis.length:Int))=true:=by rw[bne_iff_ne];omega
  have hE:Qa (X6 d sc=4):=⟨HN4.out (by unfold Vt;rw[decide_eq_false he,Bool.false_and])⟩;clear he;have c0:w1.cell? ⟨w.heap.size+1,0,none⟩=some (.slice none 0 0):=(by rw[Qb hR1];rfl);have c1:w1.cell? ⟨w.heap.size+1,1,none⟩=some (.slice none 0 0):=(by rw[Qb hR1];rfl);go_wp2_with fail
  (try simp only[Exit.inBlock,Exit.then]);refine bodyPost_ret (Y1 rfl _ _ (w.heap.size+1) 31 #[.slice none 0 0,.slice none 0 0] (0,0) _ rfl (Q3 (Q3 hR1 0 _) 1 _) hu31 rfl (by kernel_rfl)) rfl ?_
  exact Tv.err hE.out (by decide) rfl ((hb.setCell (p:=⟨w.heap.size+1,0,none⟩) (Nat.le_succ _) _).setCell (p:=⟨w.heap.size+1,1,none⟩) (Nat.le_succ _) _)
end Q21

namespace Opn
open Go.ChangeShapes Go.WideShapes Go.ChangeAt Go.RowKit Go.Joins Go.Deep Go.Proofs.YtnflnicdjioflaaGreatDoorW.PrintWords
open Q16 (KL)
open Q21
section
variable {H:Type} (enc:TypeId×Value->H) (P:Program) (w:World) (base:Nat) (spare:Nat->Bool) (held:Bool) {α:Type}
def Ou (t:TypeId) (d:Kd α):Prop:= ∀(fuel:Nat) (cs:List Value) (y:DataW H×List MemPlace),DataW.trod enc P w base spare held fuel t cs=some y-> ∃x,d.K w x cs
variable {enc P w base spare held}
theorem Fg {t:TypeId} {k:IntKind} (ht:P.underlying t=some (.int k)):Ou enc P w base spare held t (Kd.int k):=fun fuel cs y h=>by
 obtain⟨n,rfl,_⟩:=DataW.trod_int ht h;exact⟨n,rfl⟩
theorem Sc {t:TypeId} (ht:P.underlying t=some .bool):Ou enc P w base spare held t Kd.bool:=fun fuel cs y h=>by
 obtain⟨n,rfl,_⟩:=DataW.trod_bool ht h;exact⟨n,rfl⟩
theorem Bb {a:Addr} {n:Nat} {cs:List Value} (h:w.cells? base a n=some cs):cs.length=n/\ ∀i u,cs[i]? =some u->w.cell? (a.add i)=some u:=by
 obtain⟨_,h1,h2⟩:=World.cells?_some h;exact⟨h1,fun i u hi=>by rw[h2 i (by have:=(List.getElem?_eq_some_iff.1 hi).1;omega)];exact hi⟩
theorem Un {t e:TypeId} {d:Kd α} (ht:P.underlying t=some (.slice e)) (hC:P.cellsOf e=d.sz) (he:Ou enc P w base spare held e d) {fuel:Nat} {cs:List Value} {y:DataW H×List MemPlace} (h:DataW.trod enc P w base spare held fuel t cs=some y):
  ∃(A:Option Addr) (xs:List α) (c:Nat),cs=[.slice A xs.length c]/\xs.length<=c/\c<=9223372036854775807/\d.C w A xs.length xs/\ ∀k,k<xs.length-> ∃(ad:Addr) (el:List Value) (n:Nat) (z:DataW H×List MemPlace),A=some ad/\DataW.trod enc P w base spare held n e el=some z/\ ∀i u,el[i]? =some u->w.cell? (ad.add (k*d.sz+i))=some u:=by
 rcases DataW.trod_slice ht h with ⟨rfl,-⟩|⟨a,len,cap,elems,rest,n,_,rfl,rfl,hb,hl,hm,hlen,hel,_⟩
 ·exact⟨none,[],0,rfl,Nat.le_refl _,by omega,Kd.V4 _ _,fun k hk=>by cases hk⟩
 ·unfold maxLen at hm
  have hx: ∀k,k<len-> ∃(el:List Value) (z:DataW H×List MemPlace) (x:α),el.length=d.sz/\DataW.trod enc P w base spare held n e el=some z/\d.K w x el/\ ∀i u,el[i]? =some u->w.cell? (a.add (k*d.sz+i))=some u:=by
   intro k hk;have h1:=hel k hk;rw[List.getElem?_eq_getElem (by omega),hC,Option.bind_eq_some_iff] at h1;obtain⟨el,h2,h3⟩:=h1;obtain⟨h4,h5⟩:=Bb h2;obtain⟨x,h6⟩:=he n el _ h3;exact⟨el,_,x,h4,h3,h6,fun i u hi=>by rw[<-Addr.add_add];exact h5 i u hi⟩
  have hX: ∃xs:List α,xs.length=len/\ ∀k (hk:k<xs.length),∃(el:List Value) (z:DataW H×List MemPlace),el.length=d.sz/\DataW.trod enc P w base spare held n e el=some z/\d.K w xs[k] el/\ ∀i u,el[i]? =some u->w.cell? (a.add (k*d.sz+i))=some u:=by
   have key: ∀m,m<=len-> ∃xs:List α,xs.length=m/\ ∀k (hk:k<xs.length),∃(el:List Value) (z:DataW H×List MemPlace),el.length=d.sz/\DataW.trod enc P w base spare held n e el=some z/\d.K w xs[k] el/\ ∀i u,el[i]? =some u->w.cell? (a.add (k*d.sz+i))=some u:=by
    intro m
    induction m with
    |zero=>exact fun _=>⟨[],rfl,fun k hk=>by cases hk⟩
    |succ m ih=>
     intro hm';obtain⟨xs,h1,h2⟩:=ih (by omega);obtain⟨el,z,x,g1,g2,g3,g4⟩:=hx m (by omega);refine⟨xs++[x],by simp[h1],fun k hk=> ?_⟩;by_cases hlt:k<xs.length
     ·rw[List.getElem_append_left hlt]
      exact h2 k hlt
     ·have:k=m:=by simp at hk;omega
      subst this;refine⟨el,z,g1,g2,?_,g4⟩;rw[List.getElem_append_right (by omega)];simpa using g3
   exact key len (Nat.le_refl _)
  obtain⟨xs,h1,h2⟩:=hX;subst h1;refine⟨some a,xs,cap,rfl,hl,hm,⟨rfl,by omega,fun _=>⟨a,rfl,fun j p hj=> ?_⟩⟩,fun k hk=> ?_⟩
  ·obtain⟨hj1,rfl⟩:=List.getElem?_eq_some_iff.1 hj
   obtain⟨el,z,g1,g2,g3,g4⟩:=h2 j hj1;exact⟨el,g1,g3,g4⟩
  ·obtain⟨el,z,g1,g2,g3,g4⟩:=h2 k hk
   exact⟨a,el,n,z,rfl,g2,g4⟩
theorem Qad {t e:TypeId} {d:Kd α} (ht:P.underlying t=some (.slice e)) (hC:P.cellsOf e=d.sz) (he:Ou enc P w base spare held e d):Ou enc P w base spare held t (Kd.slice e d):=fun fuel cs y h=>by
 obtain⟨A,xs,c,rfl,h1,h2,h3,_⟩:=Un ht hC he h;exact⟨xs,A,c,rfl,h1,h3⟩
theorem Bw {t:TypeId} (ht:P.underlying t=some (.slice 22)) (h2:P.underlying 22=some (.slice 3)) (h3:P.underlying 3=some (.int .i64)) (hC:P.cellsOf 3=1) (hC2:P.cellsOf 22=1) {fuel:Nat} {cs:List Value} {y:DataW H×List MemPlace} (h:DataW.trod enc P w base spare held fuel t cs=some y):
  ∃(A:Option Addr) (xs:List (List Int)) (c:Nat),cs=[.slice A xs.length c]/\xs.length<=c/\c<=9223372036854775807/\KL.C w A xs.length xs/\G9 w A xs:=by
 obtain⟨A,xs,c,rfl,g1,g2,g3,g4⟩:=Un (d:=Kd.slice 3 (Kd.int .i64)) ht hC2 (Qad h2 hC (Fg h3)) h;refine⟨A,xs,c,rfl,g1,g2,g3,fun k ad B c' hk hA hc=> ?_⟩;obtain⟨ad',el,n,z,e1,e2,e3⟩:=g4 k hk;rw[hA] at e1;cases e1;obtain⟨A2,ys,c2,rfl,k1,k2,_⟩:=Un (d:=Kd.int .i64) h2 hC (Fg h3) e2;have:=e3 0 _ rfl;rw[show k*(Kd.slice 3 (Kd.int .i64)).sz +0=k from Nat.mul_one k,hc] at this
 injection this with this
 injection this with _ _ e4
 rw[e4];exact k2
theorem trod_at {fs:Array Field} {t:TypeId} {fuel:Nat} {cs:List Value} {y:DataW H×List MemPlace} (hs:Tryz.prog.underlying t=some (.struct fs)) (hone:oneCellFields Tryz.prog fs=true) (h:DataW.trod enc Tryz.prog w base spare held fuel t cs=some y):
  cs.length=Tryz.prog.cellsOf t/\ ∃n,∀(i:Nat) (f:Field) (c:Value),fs[i]? =some f->cs[i]? =some c-> ∃z,DataW.trod enc Tryz.prog w base spare held n f.type [c]=some z:=by
 obtain⟨xs,n,_,rfl,hl,hlen,hf⟩:=DataW.trod_struct hs h;refine⟨hl,n,fun i f c hi hc=> ?_⟩
 have hi':i<xs.length:=by
  have:=(Array.getElem?_eq_some_iff.1 hi).1;omega
 obtain⟨o1,o2⟩:=hone_of hone i f hi;have h1:=hf i f hi;rw[o1,o2,List.getElem?_eq_getElem hi'] at h1;obtain⟨hc1,rfl⟩:=List.getElem?_eq_some_iff.1 hc;rw[List.drop_eq_getElem_cons hc1] at h1;exact⟨xs[i],h1⟩
theorem list6 {cs:List Value} (h:cs.length=6): ∃a b c d e f,cs=[a,b,c,d,e,f]:=by
 match cs,h with
 |[a,b,c,d,e,f],_=>exact⟨a,b,c,d,e,f,rfl⟩
abbrev uI:=Tryz.underlying3
abbrev uL:=Tryz.underlying22
abbrev uB:=Tryz.underlying4
theorem cI:Tryz.prog.cellsOf 3=1:=by kernel_rfl
theorem cB:Tryz.prog.cellsOf 4=1:=by kernel_rfl
theorem cL:Tryz.prog.cellsOf 22=1:=by kernel_rfl
theorem Qb0 {r:Reach} {b0:Nat} {v:Value} {d:DataW H} {p:List MemPlace} (hv:Value.okWide Tryz.prog w r b0 26 v) (h:DataW.Trod enc Tryz.prog w base spare held 26 v d p):
  ∃(dr:Dr) (dv:DrV),v= .agg (Q7 dr dv)/\Kr w dr dv/\G9 w dv.Al dr.lis:=by
 obtain⟨cs,rfl,hsz⟩:=okWide_struct Tryz.underlying26 hv;obtain⟨fuel,hf⟩:=h;obtain⟨hl,n,hf⟩:=trod_at Tryz.underlying26 (by kernel_rfl) hf;rw[show Tryz.prog.cellsOf 26=6 by kernel_rfl] at hl;obtain⟨cs⟩:=cs;obtain⟨a,b,c,d,e,f,rfl⟩:=list6 (cs:=cs) hl;obtain⟨z0,h0⟩:=hf 0 _ _ rfl rfl;obtain⟨z1,h1⟩:=hf 1 _ _ rfl rfl;obtain⟨z2,h2⟩:=hf 2 _ _ rfl rfl;obtain⟨z3,h3⟩:=hf 3 _ _ rfl rfl;obtain⟨z4,h4⟩:=hf 4 _ _ rfl rfl;obtain⟨z5,h5⟩:=hf 5 _ _ rfl rfl;obtain⟨sh,k0⟩:=Sc uB _ _ _ h0;obtain⟨A1,l1,c1,e1,_,_,k1,_⟩:=Un (d:=Kd.int .i64) uL cI (Fg uI) h1;obtain⟨A2,l2,c2,e2,_,_,k2,_⟩:=Un (d:=Kd.bool) Tryz.underlying23 cB (Sc uB) h2;obtain⟨A3,l3,c3,e3,_,_,k3,_⟩:=Bw Tryz.underlying24 uL uI cI cL h3;obtain⟨A4,l4,c4,e4,_,_,k4,k9⟩:=Bw Tryz.underlying24 uL uI cI cL h4;obtain⟨A5,l5,c5,e5,_,_,k5,_⟩:=Bw Tryz.underlying24 uL uI cI cL h5;cases k0;cases e1;cases e2;cases e3;cases e4;cases e5;exact⟨⟨sh,l1,l2,l3,l4,l5⟩,⟨A1,c1,A2,c2,A3,c3,A4,c4,A5,c5⟩,rfl,⟨k1,k2,k3,k4,k5⟩,k9⟩
theorem Qb1 {r:Reach} {b0:Nat} {v:Value} {d:DataW H} {p:List MemPlace} (hv:Value.okWide Tryz.prog w r b0 24 v) (h:DataW.Trod enc Tryz.prog w base spare held 24 v d p):
  ∃(A:Option Addr) (xs:List (List Int)) (c:Nat),v= .slice A xs.length c/\KL.C w A xs.length xs:=by
 obtain⟨a,len,cap,rfl⟩:=okWide_slice Tryz.underlying24 hv;obtain⟨fuel,hf⟩:=h;obtain⟨A3,l3,c3,e3,_,_,k3,_⟩:=Bw Tryz.underlying24 uL uI cI cL hf
 injection e3 with e3
 rw[e3];exact⟨A3,l3,c3,rfl,k3⟩
end
end Opn

end Go.Proofs.YtnflnicdjioflaaGreatDoor
