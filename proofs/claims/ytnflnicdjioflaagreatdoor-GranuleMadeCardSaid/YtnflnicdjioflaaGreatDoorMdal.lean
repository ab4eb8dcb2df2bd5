/- A part of the proof. -/
import Derived.Test.YtnflnicdjioflaaGreatDoorMdaj
import Derived.Test.YtnflnicdjioflaaGreatDoorMdak
import Derived.Lib.AppendZeros
import Derived.RangeFuncOwn
import Derived.Laws.Append
set_option linter.unusedVariables false
set_option linter.unusedSimpArgs false
set_option maxRecDepth 100000
set_option maxHeartbeats 8000000
namespace Go.Proofs.YtnflnicdjioflaaGreatDoor
open Go.RowKit Go.Proofs.YtnflnicdjioflaaGreatDoorW.PrintWords Go.Proofs.YtnflnicdjioflaaGreatDoorW.PrintLast Go.Proofs.YtnflnicdjioflaaGreatDoorW.PrintMore
namespace Bts
attribute [local go_sem] Qi Qj Qk Ql Qg Qh
open Q15 (cnx bnx)
open Q21 (Qb Qf)
open Runs Go.Shelf
open Q16 (Q6 Zc)
attribute [local go_sem] Oper.semAt_some
def Hr (v m k:Nat):Int:=((v/2^(m-1-k))%2:Nat)
theorem and_one (a:Nat) (h:a<9223372036854775808):bits .and .i64 (a:Int) 1=((a%2:Nat):Int):=by
 have h1:(BitVec.ofInt 64 (a:Int) &&& BitVec.ofInt 64 1).toNat =a%2:=by
  rw[BitVec.toNat_and];simp[Nat.and_one_is_mod]
 show IntKind.i64.wrap ((BitVec.ofInt 64 (a:Int) &&& BitVec.ofInt 64 1).toNat :Int)=_
 rw[h1];exact IntWalk.i64_in _ (by omega)
def Ta (B1 Bc:Nat) (A B:World):Prop:=A.heap.size<=B.heap.size/\B.heap[B1]? =A.heap[B1]? /\B.heap[Bc]? =A.heap[Bc]?
theorem Ad (F:Fence) (n:Nat) (hF:F.fn 212) (hro:F.round=none) (hn:1<=n) (B1 Bc v m:Nat) (hv:v<4294967296) (hm:m<=32) (w:World) (c1:w.cell? ⟨B1,0,none⟩=some (.int .i64 m)) (c2:w.cell? ⟨Bc,0,none⟩=some (.int .i64 v)):
  Yg F n Tryz.prog 212 #[.pointer (some ⟨B1,0,none⟩),.pointer (some ⟨Bc,0,none⟩)] (fun k=> #[.int .i64 (Hr v m k)]) (Ta B1 Bc) m w:=fun l J W hW hY h0 hJd=>by
 clear hJd;have d1:=cnx c1 hW;have d2:=cnx c2 hW;have HY:=Qa.mk hY;have hmI:(m:Int)<=32:=(by omega);have hvI:(v:Int)<=4294967296:=(by omega);have hv':=Qa.mk hv;clear hY c1 c2 hm hv;refine callsIn_of_wp Tryz.func212 rfl hF ?_ hro;simp only[Tryz.ntmps212,List.size_toArray,List.length_cons,List.length_nil,Nat.reduceAdd,Nat.reduceSub,Array.replicate_succ,Array.replicate_zero,List.push_toArray,List.append_toArray,List.nil_append,List.cons_append];gi_wp2;gi_loopw [4] (fun i wr=> ∃(z:Int) (k:Nat),i= .int .i64 z/\Qa (z=(m:Int)-1-(k:Int))/\ -1<=z/\z<=31/\wr.cell? ⟨B1,0,none⟩=some (.int .i64 m)/\wr.cell? ⟨Bc,0,none⟩=some (.int .i64 v)/\Qa (J k wr)) (fun i _=>(intOf i+1).toNat)
 case atStart=>exact⟨(m:Int)-1,0,rfl,⟨by omega⟩,by omega,by omega,d1,d2,⟨h0⟩⟩
 case round=>
  obtain⟨z,k,rfl,hz,hz0,hz1,e1,e2,hJs⟩:=hrel;clear d1 d2;by_cases hlt:0<=z
  ·obtain⟨fn,tmps,assign,body,hy,hR⟩:=HY.out k wr (by have:=hz.out;omega) hJs.out
   have hR2:=Qa.mk hR;obtain⟨b,hb⟩: ∃b,b=Hr v m k:=⟨_,rfl⟩
   have hx:bits .and .i64 ((v:Int)/2^z.toNat) 1=b:=by
    have e1:z.toNat=m-1-k:=(by have:=hz.out;omega);have e2:(v:Int)/2^z.toNat=((v/2^(m-1-k):Nat):Int):=(by rw[e1];simp);rw[e2,and_one _ (by have:=Nat.div_le_self v (2^(m-1-k));have:=hv'.out;omega),hb];rfl
   rw[<-hb] at hy;replace hb:=Qa.mk hb;clear hR;gi_wp2;refine hR2.out.mono ?_;rintro e W3 ⟨rfl,hJ3,hk3⟩;have b1:=(Q6 hk3.2.1).trans e1;have b2:=(Q6 hk3.2.2).trans e2;replace hJ3:=Qa.mk hJ3;clear hR2 e1 e2 hk3 hy hx;gi_wp2;go_roundw
   case rel=>exact⟨z-1,k+1,rfl,⟨by have:=hz.out;omega⟩,by omega,by omega,b1,b2,hJ3⟩
   case measure=>simp[intOf];omega
  ·obtain rfl:k=m:=by have:=hz.out;omega
   gi_wp2;go_end0;exact⟨⟨_,rfl⟩,hJs.out⟩
end Bts

namespace Bts
attribute [local go_sem] Qi Qj Qk Ql Qg Qh
open Q15 (cnx bnx)
open Q21 (Qb Qf)
open Runs Go.Shelf
open Q16 (Q6 Zc Yf)
attribute [local go_sem] Oper.semAt_some
theorem Kp.grown {p:Nat} {q:Option Nat} {w W W':World} {row:Option Nat} (h:Kp p q w W) (hg:W.grownBy W' row) (hr: ∀r,row=some r->w.heap.size<=r):Kp p q w W':=
 ⟨hg.os.trans h.os,hg.tape.trans h.tape,hg.output.trans h.output,Nat.le_trans h.size hg.size,fun k hk hp hne=>(hg.block k (Nat.lt_of_lt_of_le hk h.size) (fun e=>by have:=hr k e.symm;omega)).trans (h.block k hk hp hne)⟩
theorem Yl {W W':World} {g:Nat} {cs:Array Value} {t:TypeId} {row:Option Nat} (h:W.heap[g]? =some (.cells cs t (0,0))) (hg:W.grownBy W' row) (hr: ∀r,row=some r-> ∃o:Obj,W.heap[r]? =some o/\o.isCells=false):W'.heap[g]? =some (.cells cs t (0,0)):=
 (hg.block g (Qp h) (fun e=>by
  obtain⟨o,ho,hc⟩:=hr g e.symm;rw[h] at ho;cases ho
  cases hc)).trans h
theorem Wr.turn {w w1:World} {base p:Nat} {q:Option Nat} {l:List Int} {row:Option Nat} (h:Wr w base p q l) (hg:w.grownBy w1 row) (hr: ∀r,row=some r-> ∃o:Obj,w.heap[r]? =some o/\o.isCells=false):Wr w1 base p q l:=by
 obtain⟨v,h1,h2,h3⟩:=h;exact⟨v,Yl h1 hg hr,Yf h2 hg hr,h3⟩
theorem Wr.step {w w1:World} {base p:Nat} {q:Option Nat} {l:List Int} (h:Wr w base p q l) (hb:Below w.heap.size w w1):Wr w1 base p q l:=by
 obtain⟨v,h1,h2,h3⟩:=h;exact⟨v,Qv h1 hb,Kd.Qw h2 hb,h3⟩
theorem Wr.qne {w:World} {base p:Nat} {q:Option Nat} {l:List Int} (h:Wr w base p q l) {g:Nat} {cs:Array Value} {t:TypeId} (hg:w.heap[g]? =some (.cells cs t (0,0))) (ht:5≠t):some g≠q:=by
 obtain⟨v,_,h2,h3,_⟩:=h;rw[h3];exact Kd.R_ne h2 hg ht
theorem Wr.pne {w:World} {base p:Nat} {q:Option Nat} {l:List Int} (h:Wr w base p q l) {g:Nat} {cs:Array Value} {t:TypeId} (hg:w.heap[g]? =some (.cells cs t (0,0))) (ht:109≠t):g≠p:=by
 obtain⟨v,h1,_⟩:=h;exact fun e=>(blk_ne h1 hg ht) e.symm
theorem V7 {p:Nat} {q:Option Nat} {W W':World} (h:Kp p q W W') {base:Nat} {l:List Int} (hw:Wr W base p q l):KeepsOthers W W':=⟨h.size,fun k o hk ho=>(h.block k (Array.getElem?_eq_some_iff.1 hk).1 (fun e=>by
  obtain⟨v,h1,_⟩:=hw;rw[e,h1] at hk;cases hk
  cases ho) (fun e=>by
  obtain⟨v,_,h2,h3,_⟩:=hw;obtain⟨_,_,_,q2,_,cells,hc⟩:=(Kd.Q9 h2).1 k (by rw[<-h3,e]);rw[hc] at hk;cases hk
  cases ho)).trans hk⟩
def Yn (v m:Nat):List Int:=(List.range m).map (Hr v m)
theorem Yj (v m:Nat):(Yn v m).length =m:=by simp[Yn]
theorem bitN_bit (v m k:Nat):Hr v m k=0\/Hr v m k=1:=by unfold Hr;omega
theorem each_num (base p:Nat) (q:Option Nat) (l:List Int) (B1 Bc v m:Nat) (w:World) (hw:Wr w base p q l) (hv:v<4294967296) (hm:m<=32) (hl:l.length+m<=1048576)
  (c1:w.heap[B1]? =some (.cells #[.int .i64 m] 3 (0,0))) (c2:w.heap[Bc]? =some (.cells #[.int .i64 v] 3 (0,0))):
  Calls Tryz.prog 181 #[.func (.func 212) #[] #[.pointer (some ⟨B1,0,none⟩),.pointer (some ⟨Bc,0,none⟩)],.func (.func 183) #[.pointer (some ⟨p,0,none⟩)] #[]] w fun e w'=>e= .returned (.tuple #[])/\WrP base p q (l++Yn v m) w w':=by
 obtain⟨W2,hW2⟩: ∃W2,W2=w.alloc (.cells #[.func (.func 183) #[.pointer (some ⟨p,0,none⟩)] #[]] 179):=⟨_,rfl⟩;have hB2:Below w.heap.size w W2:=(by rw[hW2];exact(Below.refl _ _).alloc (Nat.le_refl _) _);have hD:W2.heap[w.heap.size]? =some (.cells #[.func (.func 183) #[.pointer (some ⟨p,0,none⟩)] #[]] 179 (0,0)):=(by rw[hW2];exact heap_alloc_new _ _);have s2:W2.heap.size=w.heap.size+1:=(by rw[hW2];simp);have hW:=Qa.mk (hw.step hB2);have hplt:=hw.plt;have hq0:=fun k e=>(hw.Nb k e).2
 have hl':=Qa.mk hl;replace hplt:=Qa.mk hplt;replace hq0:=Qa.mk hq0;refine(callsIn_wide (n:=3)).1 ?_;refine callsIn_of_wp_marks Tryz.func181 rfl trivial ?_ rfl;simp only[Tryz.ntmps181,List.size_toArray,List.length_cons,List.length_nil,Nat.reduceAdd,Nat.reduceSub,Array.replicate_succ,Array.replicate_zero,List.push_toArray,List.append_toArray,List.nil_append,List.cons_append];clear hl hw;gi_wp2_with fail;rw[<-hW2];have C1:=Qv c1 hB2;have C2:=Qv c2 hB2
 refine Yy rfl (by omega) (gf:=212) (lb:= #[.pointer (some ⟨B1,0,none⟩),.pointer (some ⟨Bc,0,none⟩)]) rfl trivial (enters_of Tryz.func212 (by kernel_rfl) rfl)
  (Ad Fence.wide _ trivial rfl (by omega) B1 Bc v m hv hm W2 (by rw[Qb C1];rfl) (by rw[Qb C2];rfl))
  (fun h k=>⟨Nat.le_trans h.1 k.1,k.2.1.trans h.2.1,k.2.2.trans h.2.2⟩) ?keep (Below.refl _ _) (fun _=>rfl)
  (fun k W=> ∃q',Wr W base p q' (l++(List.range k).map (Hr v m))/\(q'=q\/ ∃g,q'=some g/\w.heap.size<=g)/\Kp p q w W/\W.heap[w.heap.size]? =some (.cells #[.func (.func 183) #[.pointer (some ⟨p,0,none⟩)] #[]] 179 (0,0))/\W.heap[B1]? =some (.cells #[.int .i64 m] 3 (0,0))/\W.heap[Bc]? =some (.cells #[.int .i64 v] 3 (0,0)))
  ?own ?start
  (fun k=>{tmps:= #[.func (.func 212) #[] #[.pointer (some ⟨B1,0,none⟩),.pointer (some ⟨Bc,0,none⟩)],.func (.func 183) #[.pointer (some ⟨p,0,none⟩)] #[],undef,.pointer (some ⟨w.heap.size,0,none⟩),.int .i64 (Hr v m k),.func (.func 212) #[] #[.pointer (some ⟨B1,0,none⟩),.pointer (some ⟨Bc,0,none⟩)],.int .i64 (Hr v m k),undef,undef,undef],defers:=[]}) ?assign ?body ?done
 case keep=>
  intro W l' o o' hl' ho hc hw';refine⟨by simp[World.putObj],World.putObj_heap_other ?_,World.putObj_heap_other ?_⟩
  ·have:=Qp C1;omega
  ·have:=Qp C2;omega
 case own=>
  rintro k W W' row ⟨q',e0,e1,e2,e3,e4,e5⟩ hg hrow;exact⟨q',e0.turn hg (fun r e=>(hrow r e).2),e1,e2.grown hg (fun r e=>by have:=(hrow r e).1;omega),Yl e3 hg (fun r e=>(hrow r e).2),Yl e4 hg (fun r e=>(hrow r e).2),Yl e5 hg (fun r e=>(hrow r e).2)⟩
 case start=>exact⟨q,by simpa using hW.out,.inl rfl,Kp.of_below hB2 _ _,hD,C1,C2⟩
 case assign=>
  intro l' k W K _ hK;gi_wp2;exact hK
 case body=>
  rintro L k W ⟨q',e0,e1,e2,e3,e4,e5⟩ hk;have hlen:(l++(List.range k).map (Hr v m)).length +1<=1048576:=(by have:=hl'.out;simp;omega);have hadd:=Qdl base p q' _ (Hr v m k) W e0 (bitN_bit v m k) hlen;have z0:W.cell? ⟨w.heap.size,0,none⟩=some (.func (.func 183) #[.pointer (some ⟨p,0,none⟩)] #[]):=(by rw[Qb e3];rfl);obtain⟨b,hb⟩: ∃b,b=Hr v m k:=⟨_,rfl⟩;rw[<-hb] at hadd ⊢;replace hadd:=Qa.mk hadd;replace hb:=Qa.mk hb;have E:=Qa.mk (And.intro e0 (And.intro e1 (And.intro e2 (And.intro e3 (And.intro e4 e5)))));clear e0 e1 e2 e3 e4 e5 hlen hD C1 C2 c1 c2;gi_wp2_with fail;refine⟨trivial,CallsIn.inRound L (callsIn_wide.2 (hadd.out.mono ?_))⟩;rintro e W3 ⟨rfl,hP⟩;replace hP:=Qa.mk hP;gi_wp2;obtain⟨e0,e1,e2,e3,e4,e5⟩:=E.out;obtain⟨q2,p0,p1,p2⟩:=hP.out;have t3:=p2.blk e3 (e0.pne e3 (by decide)) (e0.qne e3 (by decide));have t4:=p2.blk e4 (e0.pne e4 (by decide)) (e0.qne e4 (by decide));have t5:=p2.blk e5 (e0.pne e5 (by decide)) (e0.qne e5 (by decide));refine⟨(V7 p2 e0).from _,⟨p2.size,t4.trans e4.symm,t5.trans e5.symm⟩,q2,?_,?_,e2.trans p2 e1,t3,t4,t5⟩
  ·rw[List.range_succ,List.map_append,<-List.append_assoc]
   rw[hb.out] at p0;exact p0
  ·rcases p1 with e|⟨g,e,hg⟩
   ·rw[e];exact e1
   ·exact .inr ⟨g,e,Nat.le_trans e2.size hg⟩
 case done=>
  rintro D W hD ⟨q',e0,e1,e2,e3,e4,e5⟩ hK;have hgD:=grownBy_putObj' W D (.deferred none);have hrD: ∀r,some D=some r-> ∃o:Obj,W.heap[r]? =some o/\o.isCells=false:=fun r e=>by cases e;exact⟨_,hK,rfl⟩
  have hfin:WrP base p q (l++Yn v m) w (W.putObj D (.deferred none)):=⟨q',e0.turn hgD hrD,e1,e2.grown hgD (fun r e=>by cases e;omega)⟩;gi_wp2;refine⟨by simp,.inl ⟨_,_,rfl,run_takeDeferred hK,?_⟩⟩;exact⟨.tuple #[],by simp[results,Tryz.f181,go_sem],rfl,hfin⟩
end Bts

namespace Bts
attribute [local go_sem] Qi Qj Qk Ql Qg Qh
open Q15 (cnx bnx)
open Q21 (Qb Qf)
def Er (fs:List (Nat×Nat)):Array Value:=(fs.map fun f=>[Value.int .i64 f.1,Value.int .i64 f.2]).flatten.toArray
def Jg (fs:List (Nat×Nat)):List Int:=(fs.map fun f=>Yn f.1 f.2).flatten
def Jm (fs:List (Nat×Nat)):Nat:=(fs.map (·.2)).sum
theorem Qdw (fs:List (Nat×Nat)):(Jg fs).length =Jm fs:=by
 unfold Jg Jm
 induction fs with
 |nil=>rfl
 |cons f t ih=>simp[Yj,ih]
theorem Ce {fs:List (Nat×Nat)} {k:Nat} (hk:k<fs.length):(Er fs)[2*k]? =some (.int .i64 (fs[k]).1)/\(Er fs)[2*k+1]? =some (.int .i64 (fs[k]).2):=by
 unfold Er
 induction fs generalizing k with
 |nil=>simp at hk
 |cons f t ih=>
  cases k with
  |zero=>simp
  |succ k=>
   have h:=ih (k:=k) (by simpa using hk);simp only[List.map_cons,List.flatten_cons,List.getElem?_toArray] at h ⊢;rw[show 2*(k+1)=2*k+2 by omega,show 2*k+2+1=(2*k+1)+2 by omega];rw[List.getElem?_append_right (by simp),List.getElem?_append_right (by simp)];simpa using h
theorem Ps {fs:List (Nat×Nat)} {k:Nat} (hk:k<fs.length):Jg (fs.take (k+1))=Jg (fs.take k)++Yn (fs[k]).1 (fs[k]).2/\Jm (fs.take (k+1))=Jm (fs.take k)+(fs[k]).2:=by
 have h:fs.take (k+1)=fs.take k++[fs[k]]:=(by rw[List.take_add_one,List.getElem?_eq_getElem hk];rfl);unfold Jg Jm;rw[h,List.map_append,List.map_append,List.flatten_append,List.sum_append];simp only[List.map_cons,List.map_nil,List.flatten_cons,List.flatten_nil,List.append_nil,List.sum_cons,List.sum_nil,Nat.add_zero,and_self]
theorem Ae (v n:Int) (w:World):
  Calls Tryz.prog 182 #[.int .i64 v,.int .i64 n] w fun e w'=>e= .returned (.func (.func 212) #[] #[.pointer (some ⟨w.heap.size+1,0,none⟩),.pointer (some ⟨w.heap.size,0,none⟩)])/\w'=(w.alloc (.cells #[.int .i64 v] 3)).alloc (.cells #[.int .i64 n] 3):=by
 go_enter Tryz.func182,Tryz.ntmps182;go_wp2;go_ret;exact⟨rfl,rfl⟩
theorem Qac {w w':World} {v n:Int} (h:w'=(w.alloc (.cells #[.int .i64 v] 3)).alloc (.cells #[.int .i64 n] 3)):Below w.heap.size w w'/\w'.heap[w.heap.size]? =some (.cells #[.int .i64 v] 3 (0,0))/\w'.heap[w.heap.size+1]? =some (.cells #[.int .i64 n] 3 (0,0)):=by
 have hs:(w.alloc (.cells #[.int .i64 v] 3)).heap.size =w.heap.size+1:=(by go_simp);subst h;refine⟨((Below.refl _ _).alloc (Nat.le_refl _) _).alloc (by omega) _,?_,?_⟩
 ·rw[Below.heap_alloc _ _ _ (by omega)]
  exact heap_alloc_new _ _
 ·rw[<-hs]
  exact heap_alloc_new _ _
theorem Ur (base p:Nat) (q:Option Nat) (l:List Int) (fs:List (Nat×Nat)) (g cf:Nat) (w:World) (hw:Wr w base p q l) (hg:w.heap[g]? =some (.cells (Er fs) 140 (0,0))) (hf: ∀f∈fs,f.1<4294967296/\f.2<=32) (hn:fs.length<=4):
  Calls Tryz.prog 137 #[.pointer (some ⟨p,0,none⟩),.slice (some ⟨g,0,none⟩) fs.length cf] w fun e w'=>e= .returned (.int .i64 (if l.length+Jm fs>1048576 then 2 else 0))/\WrP base p q (if l.length+Jm fs>1048576 then l else l++Jg fs) w w':=by
 have hu:=Tryz.underlying140;have hnI:(fs.length:Int)<=4:=(by omega);have hwl:l.length<=1048576:=by obtain⟨v,_,_,_,_,_,h⟩:=hw;exact h
 have hfk:Qa (∀k (h:k<fs.length),(fs[k]).1<4294967296/\(fs[k]).2<=32/\Jm (fs.take k)<=32*k):=⟨fun k h=>by
  refine⟨(hf _ (List.getElem_mem h)).1,(hf _ (List.getElem_mem h)).2,?_⟩
  induction k with
  |zero=>simp[Jm]
  |succ k ih=>
   have h1:=ih (by omega);have h2:=(hf _ (List.getElem_mem (show k<fs.length by omega))).2;rw[(Ps (show k<fs.length by omega)).2]
   omega⟩
 have HG:=Qa.mk hg;have HW:=Qa.mk hw;replace hwl:=Qa.mk hwl;obtain⟨full,hfull⟩: ∃full,full=decide (l.length+Jm fs>1048576):=⟨_,rfl⟩
 have hpost:Qa (∀(e:Ending) (w':World),(e= .returned (.int .i64 (if full=true then 2 else 0))/\WrP base p q (if full=true then l else l++Jg fs) w w')->(e= .returned (.int .i64 (if l.length+Jm fs>1048576 then 2 else 0))/\WrP base p q (if l.length+Jm fs>1048576 then l else l++Jg fs) w w')):=⟨fun e w' h=>by
  rw[hfull] at h
  simpa using h⟩
 refine Calls.mono ?_ (fun e w' h=>hpost.out e w' h);clear hpost hg hw hf hn;replace hfull:=Qa.mk hfull;go_enter Tryz.func137,Tryz.ntmps137;go_wp2_with fail;go_loopw [5,12] (fun s i wr=> ∃k:Nat,i= .int .i64 k/\k<=fs.length/\s= .int .i64 (Jm (fs.take k):Nat)/\Qa (Below w.heap.size w wr)) (fun _ i _=>fs.length-(intOf i).toNat)
 case atStart=>exact⟨0,rfl,by omega,by simp[Jm],⟨Below.refl _ _⟩⟩
 case round=>
  obtain⟨k,rfl,hk,rfl,hb⟩:=hrel;by_cases hlt:k<fs.length
  ·have hkI:(k:Int)<(fs.length:Int):=by omega
   have hG:=Qv HG.out hb.out;obtain⟨q1,q2⟩:=Ce hlt;obtain⟨b1,b2,b3⟩:=hfk.out k hlt;obtain⟨-,ht⟩:=Ps hlt;obtain⟨x,hx⟩: ∃x,x=(fs[k]).1:=⟨_,rfl⟩;obtain⟨y,hy⟩: ∃y,y=(fs[k]).2:=⟨_,rfl⟩;rw[<-hx] at q1 b1;rw[<-hy] at q2 b2 ht;have m1:wr.cell? ⟨g,k*2,none⟩=some (.int .i64 x):=(by rw[Qb hG,Nat.mul_comm];exact q1);have m2:wr.cell? ⟨g,k*2+1,none⟩=some (.int .i64 y):=(by rw[Qb hG,Nat.mul_comm];exact q2);obtain⟨s,hs⟩: ∃s,s=Jm (fs.take k):=⟨_,rfl⟩;rw[<-hs] at b3 ht ⊢;have hsI:(s:Int)<=128:=(by omega);have hyI:(y:Int)<=32:=(by omega);replace ht:=Qa.mk ht;have hlt':=Qa.mk hlt;clear hx hy hs q1 q2 b1 b2 b3 hG hlt;go_wp2_with fail;go_roundw
   case rel=>exact⟨k+1,by go_num,hlt'.out,by rw[ht.out];go_num,⟨(hb.out.alloc hb.out.size _)⟩⟩
   case measure=>have:=hlt'.out;simp[intOf];omega
  ·obtain rfl:k=fs.length:=by omega
   rw[List.take_length];have hW:=HW.out.step hb.out;obtain⟨vb,hB,-⟩:=hW;have k1:wr.cell? ⟨p,1,none⟩=some (.int .i64 l.length):=by rw[Qb hB];rfl
   have hft:decide (1048576<(l.length:Int)+(Jm fs:Int))=full:=by
    rw[hfull.out]
    apply decide_eq_decide.2
    omega
   have hsI:(Jm fs:Int)<=128:=by
    rcases Nat.eq_zero_or_pos fs.length with h0|h0
    ·rw[List.length_eq_zero_iff.1 h0];simp[Jm]
    ·have h1:=hfk.out (fs.length-1) (by omega)
     have h2:=(Ps (show fs.length-1<fs.length by omega)).2;rw[show fs.length-1+1=fs.length by omega,List.take_length] at h2;omega
   have hlI:(l.length:Int)<=2000000:=(by have:=hwl.out;omega);replace hb:=Qa.mk hb.out;clear hB
   cases full with
   |true=>
    go_wp2_with fail;go_ret;exact⟨rfl,q,HW.out.step hb.out,.inl rfl,Kp.of_below hb.out _ _⟩
   |false=>
    have hroom:Qa (l.length+Jm fs<=1048576):=⟨by have:=hfull.out;simp at this;omega⟩;go_wp2_with fail;go_loopw [30] (fun i wr'=> ∃k:Nat,i= .int .i64 k/\k<=fs.length/\Qa (WrP base p q (l++Jg (fs.take k)) w wr')) (fun i _=>fs.length-(intOf i).toNat)
    case atStart=>exact⟨0,rfl,by omega,⟨q,by simpa[Jg] using HW.out.step hb.out,.inl rfl,Kp.of_below hb.out _ _⟩⟩
    case round=>
     obtain⟨k,rfl,hk,hP⟩:=hrel;by_cases hlt:k<fs.length
     ·obtain⟨wo,rfl⟩: ∃wo:World,wo=wr:=⟨_,rfl⟩
      obtain⟨q1,hW1,hq1,hK1⟩:=hP.out;have hkI:(k:Int)<(fs.length:Int):=(by omega);have hG:=hK1.blk HG.out (HW.out.pne HG.out (by decide)) (HW.out.qne HG.out (by decide));obtain⟨r1,r2⟩:=Ce hlt;obtain⟨b1,b2,b3⟩:=hfk.out k hlt;obtain⟨hbt,ht⟩:=Ps hlt
      have hroom2:(l++Jg (fs.take k)).length +(fs[k]).2<=1048576:=by
       have h1:Jm (fs.take (k+1))<=Jm fs:=by
        conv=>rhs;rw[<-List.take_append_drop (k+1) fs]
        unfold Jm;rw[List.map_append,List.sum_append];omega
       have:=hroom.out;rw[List.length_append,Qdw];omega
      obtain⟨x,hx⟩: ∃x,x=(fs[k]).1:=⟨_,rfl⟩;obtain⟨y,hy⟩: ∃y,y=(fs[k]).2:=⟨_,rfl⟩;rw[<-hx] at r1 b1 hbt;rw[<-hy] at r2 b2 ht hbt hroom2;have m1:wo.cell? ⟨g,k*2,none⟩=some (.int .i64 x):=(by rw[Qb hG,Nat.mul_comm];exact r1);have m2:wo.cell? ⟨g,k*2+1,none⟩=some (.int .i64 y):=(by rw[Qb hG,Nat.mul_comm];exact r2);have hlt':=Qa.mk hlt;replace hbt:=Qa.mk hbt;replace b1:=Qa.mk b1;replace b2:=Qa.mk b2;replace hroom2:=Qa.mk hroom2;have hE:=Qa.mk (And.intro hW1 (And.intro hq1 hK1));clear hx hy r1 r2 ht hG hlt b3 hW1 hq1 hK1;go_wp2_with fail;obtain⟨w1,hw1⟩: ∃w1,w1=wo.alloc (.cells #[.int .i64 x,.int .i64 y] 140):=⟨_,rfl⟩;rw[<-hw1];have hb1:=Qa.mk (show Below wo.heap.size wo w1 by rw[hw1];exact(Below.refl _ _).alloc (Nat.le_refl _) _);clear hw1 m1 m2;refine(Ae x y w1).mono ?_;rintro e w2 ⟨rfl,hw2⟩;obtain⟨hb2,n1,n2⟩:=Qac hw2;have hW2:=(hE.out.1.step hb1.out).step hb2;have HEach:=Qa.mk (each_num base p q1 (l++Jg (fs.take k)) (w1.heap.size+1) w1.heap.size x y w2 hW2 b1.out b2.out hroom2.out n2 n1);replace hb2:=Qa.mk hb2;clear hw2 n1 n2 hW2;go_wp2_with fail;refine HEach.out.mono ?_;rintro e w3 ⟨rfl,hP3⟩
      have hfin:Qa (WrP base p q (l++Jg (fs.take (k+1))) w w3):=⟨by
       obtain⟨q3,c1,c2,c3⟩:=hP3;obtain⟨d1,d2,d3⟩:=hE.out;refine⟨q3,by rw[hbt.out,<-List.append_assoc];exact c1,?_,(d3.Zl ((bnx hb1.out hb2.out).mono d3.size)).trans c3 ?_⟩
       ·have hs:=(bnx hb1.out hb2.out).size
        rcases c2 with e|⟨b,e,hle⟩
        ·rw[e];exact d2
        ·exact .inr ⟨b,e,by have:=d3.size;omega⟩
       ·exact d2⟩
      clear hP3;go_wp2_with fail;go_roundw
      case rel=>exact⟨k+1,by go_num,hlt'.out,hfin⟩
      case measure=>have:=hlt'.out;simp[intOf];omega
     ·obtain rfl:k=fs.length:=by omega
      rw[List.take_length] at hP;go_wp2_with fail;go_ret;exact⟨rfl,hP.out⟩
end Bts

namespace Pre
attribute [local go_sem] Qi Qj Qk Ql Qg Qh
open Q15
open Runs Go.Shelf
open Q16 (Q6 Zc Yf)
open Q21 (Qb Qf)
open Bts (Rws Row Blk Yl)
attribute [local go_sem] Oper.semAt_some
theorem Rws.turn {wr w w1:World} {G:List Blk} {row:Option Nat} (h:Rws wr w [] G) (hg:w.grownBy w1 row) (hr: ∀r,row=some r->wr.heap.size<=r/\ ∃o:Obj,w.heap[r]? =some o/\o.isCells=false):Rws wr w1 [] G:=
 ⟨h.below.grown hg h.below.size (fun r e=>(hr r e).1),by simp,.nil,fun b hb=>⟨Yl (h.blk b hb).1 hg (fun r e=>(hr r e).2),(h.blk b hb).2⟩,by simp,h.gs⟩
theorem Qd1:(Tryz.prog.info? 204).map (fun i=>(i.zero,i.size,i.bytes))=some (some (.agg #[.int .i64 0,.int .i64 0]),2,16):=by kernel_rfl
theorem Qai (n:Nat):madeCells #[.int .i64 0,.int .i64 0] (n*2)=Zk (List.replicate n (0,0)):=by
 apply Array.ext'
 induction n with
 |zero=>simp[madeCells,Zk]
 |succ n ih=>
  unfold Zk at ih ⊢;rw[List.replicate_succ',List.map_append,List.flatten_append];simp only[List.toList_toArray] at ih ⊢;rw[<-ih];unfold madeCells;rw[show(n+1)*2=n*2+1+1 by omega,Array.range_succ,Array.range_succ];simp[Nat.add_mod]
theorem Qbz (n:Nat) (hn:n<=1000000): ∀W:World,(Instr.makeSlice 201 (.int .i64 (n:Int)) (.int .i64 (n:Int))).run Tryz.prog W= .ok (.slice (some ⟨W.heap.size,0,none⟩) n n) (W.alloc (.cells (Zk (List.replicate n (0,0))) 204)):=fun W=>by
 rw[<-Qai];exact Bn 201 204 (.agg #[.int .i64 0,.int .i64 0]) 2 16 Tryz.underlying201 Qd1 n (by decide) hn W
theorem Qbb (A:Option Addr) (cap:Nat) (l:List Int) (w:World) (hr:(Kd.int .i64).C w A l.length l) (hl:l.length<=256):
  Calls Tryz.prog 198 #[.slice A l.length cap] w fun e w'=> ∃g,e= .returned (.slice (some ⟨g,0,none⟩) l.length l.length)/\w'.heap[g]? =some (.cells (Zk (Zu l (Z8 l).length).2) 204 (0,0))/\w.heap.size<=g/\Below w.heap.size w w':=by
 have hlI:(l.length:Int)<=256:=(by omega);have hu:=Tryz.underlying204;have HR:=Qa.mk hr;have hl':=Qa.mk hl;refine(callsIn_wide (n:=3)).1 ?_;refine callsIn_of_wp_marks Tryz.func198 rfl trivial ?_ rfl;simp only[Tryz.ntmps198,List.size_toArray,List.length_cons,List.length_nil,Nat.reduceAdd,Nat.reduceSub,Array.replicate_succ,Array.replicate_zero,List.push_toArray,List.append_toArray,List.nil_append,List.cons_append];have hmk:=Qbz l.length (by omega);obtain⟨P0,hP0⟩: ∃P0,P0=Zk (List.replicate l.length (0,0)):=⟨_,rfl⟩;rw[<-hP0] at hmk;replace hP0:=Qa.mk hP0;clear hl hr;gi_wp2_with fail;obtain⟨W6,hW6⟩: ∃W6,W6=(((w.alloc (.cells #[.slice A l.length cap] 22)).alloc (.cells P0 204)).alloc (.cells #[.slice (some ⟨w.heap.size+1,0,none⟩) l.length l.length] 201)).alloc (.cells #[.int .i64 0,.int .i64 0] 204):=⟨_,rfl⟩
 have hR6:Rws w W6 [] [⟨w.heap.size, #[.slice A l.length cap],22⟩,⟨w.heap.size+1,P0,204⟩,⟨w.heap.size+1+1, #[.slice (some ⟨w.heap.size+1,0,none⟩) l.length l.length],201⟩,⟨w.heap.size+1+1+1, #[.int .i64 0,.int .i64 0],204⟩]:=by
  have h:=((((Bts.Rws.start w).alloc #[.slice A l.length cap] 22).alloc P0 204).alloc #[.slice (some ⟨w.heap.size+1,0,none⟩) l.length l.length] 201).alloc #[.int .i64 0,.int .i64 0] 204;simp only[World.size_alloc,List.nil_append,List.cons_append] at h;rw[hW6];exact h
 have hs6:W6.heap.size=w.heap.size+1+1+1+1:=(by rw[hW6];simp);rw[<-hW6];clear hW6 hmk;refine⟨trivial,(callsIn_wide.2 (La A l.length cap W6)).mono ?_⟩;rintro e W7 ⟨rfl,hW7⟩
 have hR7:Rws w W7 [] [⟨w.heap.size, #[.slice A l.length cap],22⟩,⟨w.heap.size+1,P0,204⟩,⟨w.heap.size+1+1, #[.slice (some ⟨w.heap.size+1,0,none⟩) l.length l.length],201⟩,⟨w.heap.size+1+1+1, #[.int .i64 0,.int .i64 0],204⟩,⟨W6.heap.size, #[.slice A l.length cap],22⟩]:=by
  have h:=hR6.alloc #[.slice A l.length cap] 22;simp only[List.nil_append,List.cons_append] at h;rw[hW7];exact h
 have hs7:W7.heap.size=w.heap.size+5:=(by rw[hW7];simp;omega);have b7:W7.cell? ⟨W6.heap.size,0,none⟩=some (.slice A l.length cap):=(by rw[Qb (hR7.blk ⟨W6.heap.size, #[.slice A l.length cap],22⟩ (by simp)).1];rfl);rw[hs6] at hR7 b7 ⊢;replace hs7:=Qa.mk hs7;replace hR7:=Qa.mk hR7;clear hW7 hR6 hs6;gi_wp2_with fail;have hmo:Tryz.prog.follows .mixedOrders =true:=by kernel_rfl
 refine Yy rfl (by omega) (gf:=234) (lb:= #[.pointer (some ⟨w.heap.size+1+1+1+1,0,none⟩)]) rfl trivial (enters_of Tryz.func234 (by kernel_rfl) rfl)
  (M9 Fence.wide _ trivial rfl (by omega) (w.heap.size+1+1+1+1) A cap l hl'.out w W7 HR.out hR7.out.below b7)
  (fun h k=>h.trans k) (fun W l' o o' hl'=>V5.putObj (N:=W7.heap.size) (by have:=hs7.out;omega) (by have:=hs7.out;omega) W l' o o' hl') (Below.refl _ _) (fun _=>rfl)
  (fun k W=>Rws w W [] [⟨w.heap.size, #[.slice A l.length cap],22⟩,⟨w.heap.size+1,Zk (Zu l k).2,204⟩,⟨w.heap.size+1+1, #[.slice (some ⟨w.heap.size+1,0,none⟩) l.length l.length],201⟩,⟨w.heap.size+1+1+1, #[.int .i64 (Zu l k).1.1,.int .i64 (Zu l k).1.2],204⟩,⟨w.heap.size+1+1+1+1, #[.slice A l.length cap],22⟩])
  ?own ?start
  (fun k=>{tmps:= #[.slice A l.length cap,.pointer (some ⟨w.heap.size,0,none⟩),.slice none 0 0,.pointer (some ⟨w.heap.size+1+1,0,none⟩),.pointer (some ⟨w.heap.size+1+1+1,0,none⟩),.int .i64 (Qae l k:Nat),.slice A l.length cap,.int .i64 l.length,.slice (some ⟨w.heap.size+1,0,none⟩) l.length l.length,.agg #[.int .i64 0,.int .i64 0],.slice A l.length cap,.func (.func 234) #[] #[.pointer (some ⟨w.heap.size+1+1+1+1,0,none⟩)],.int .i64 (Qae l k:Nat),undef,undef,undef,undef,undef,undef,undef,undef,undef,undef,undef,undef,undef,undef,undef,undef,undef,undef,undef,undef,undef,undef,undef,undef,undef,undef,undef],defers:=[]}) ?assign ?body ?done
 case own=>exact fun k W W' row h hg hrow=>Rws.turn h hg (fun r e=>⟨by have:=(hrow r e).1;have:=hs7.out;omega,(hrow r e).2⟩)
 case start=>rw[hP0.out] at hR7;exact hR7.out
 case assign=>
  intro l' k W K _ hK;gi_wp2;exact hK
 case body=>
  rintro L k W hRw hk;obtain⟨i1,i2,i3⟩:=Cr hk;obtain⟨i,hi⟩: ∃i,i=Qae l k:=⟨_,rfl⟩;have hi':(Z8 l).getD k 0=i:=hi.symm;have hbd:=Pt l k (by omega);have hbd1:=Pt l (k+1) (by omega);have hsm:=Mi hl'.out (show k<=(Z8 l).length by omega);have hsm1:=Mi hl'.out (show k+1<=(Z8 l).length by omega);have hstp:Zu l (k+1)=(Uc l (Zu l k).1 i,(Zu l k).2.set i (Uc l (Zu l k).1 i)):=(by rw[hi];rfl);rw[hi'] at i1 i2 i3;rw[<-hi]
  have hle:(Zu l k).1.1<=rd l (i:Nat):=by
   by_cases h0:k=0
   ·rw[hbd.2.2.2.2.1 h0];simp only;omega
   ·rw[(hbd.2.2.2.2.2 (by omega)).1,<-hi']
    have:=Qc4 (show k-1+1<(Z8 l).length by omega);rw[show k-1+1=k by omega] at this;exact this
  have e1:=Qs (hRw.blk ⟨w.heap.size, #[.slice A l.length cap],22⟩ (by simp)).1 0;have g4:=(hRw.blk ⟨w.heap.size+1+1+1, #[.int .i64 (Zu l k).1.1,.int .i64 (Zu l k).1.2],204⟩ (by simp)).1;have gO:=(hRw.blk ⟨w.heap.size+1,Zk (Zu l k).2,204⟩ (by simp)).1;have g3:=(hRw.blk ⟨w.heap.size+1+1, #[.slice (some ⟨w.heap.size+1,0,none⟩) l.length l.length],201⟩ (by simp)).1;obtain⟨ad,hA,hcell⟩:=Qq HR.out hRw.below i1;subst hA;obtain⟨q,hq⟩: ∃q,q=Zu l k:=⟨_,rfl⟩;obtain⟨⟨n0,c0⟩,out⟩:=q;rw[<-hq] at hbd hsm hstp hle g4 gO hRw;obtain⟨n1,hn1⟩: ∃n1,n1=rd l (i:Nat):=⟨_,rfl⟩;rw[<-hn1] at i2 i3 hle hcell;dsimp only at hbd hsm hle g4 gO;have m1:W.cell? ⟨w.heap.size,0,none⟩=some (.slice (some ad) l.length cap):=e1;have m40:W.cell? ⟨w.heap.size+1+1+1,0,none⟩=some (.int .i64 n0):=(by rw[Qb g4];rfl);have m41:W.cell? ⟨w.heap.size+1+1+1,1,none⟩=some (.int .i64 c0):=(by rw[Qb g4];rfl);have f40:=Qf g4 0;have f41:=Qf g4 1;have hiI:(i:Int)<(l.length:Int):=(by omega);clear e1;by_cases h0:k=0
  ·have hz0:n0=0/\c0=0:=by
    have h:=hbd.2.2.2.2.1 h0;cases h;exact⟨rfl,rfl⟩
   obtain⟨hz1,hz2⟩:=hz0;subst hz1;subst hz2;replace h0:=Qa.mk h0;replace hi:=Qa.mk hi;replace hi':=Qa.mk hi';replace hn1:=Qa.mk hn1;replace hq:=Qa.mk hq;replace hbd:=Qa.mk hbd;replace hbd1:=Qa.mk hbd1;replace hstp:=Qa.mk hstp;replace hRw:=Qa.mk hRw;gi_wp2_with fail;replace hi:=hi.out;replace hi':=hi'.out;replace hn1:=hn1.out;replace hq:=hq.out;replace hbd:=hbd.out;replace hbd1:=hbd1.out;replace hstp:=hstp.out;replace hRw:=hRw.out;obtain⟨c,hcdef⟩: ∃c:Int,(if(0:Int)=0 then 0 else(0:Int)+1)=c:=⟨_,rfl⟩;have hc:c=0:=(by rw[<-hcdef];rfl);obtain⟨W1,hW1⟩: ∃W1,W1=W:=⟨_,rfl⟩;rw[<-hW1];have hRw1:=hRw;rw[<-hW1] at hRw1
   have hcell1:W1.cell? (ad.add i)=some (.int .i64 n1):=by
    obtain⟨ad',e',h'⟩:=Qq HR.out hRw1.below i1;cases e';rw[<-hn1] at h';exact h'
   have hkeep1:KeepsOthers W W1:=by rw[hW1];exact KeepsOthers.refl _
   have hkk1:V5 w.heap.size (w.heap.size+1+1+1+1) W W1:=by
    rw[hW1];exact⟨Below.refl _ W,rfl⟩
   have hb7:=True.intro;have hcC:=True.intro;clear m40 m41 f40 f41 g4 gO;have hpp:(0:Int)<2^(n1-(0:Int)).toNat :=Int.pow_pos (by omega)
   have hst1:Uc l ((0:Int),(0:Int)) i=(n1,c*2^(n1-(0:Int)).toNat):=by
    unfold Uc;rw[<-hn1,hcdef]
   rw[hst1] at hstp;rw[hstp] at hbd1 hsm1;dsimp only at hbd1 hsm1;obtain⟨c1,hc1⟩: ∃c1,c*2^(n1-(0:Int)).toNat =c1:=⟨_,rfl⟩;rw[hc1] at hbd1 hsm1 hstp;have hc1b:0<=c1/\c1<=268435456:=⟨hbd1.2.2.1,hsm1⟩;have hsub:IntKind.i64.wrap (n1-(0:Int))=n1-(0:Int):=IntWalk.i64_in _ (by omega);have hshw:IntKind.i64.wrap c1=c1:=IntWalk.i64_in _ (by omega);have hdI:0<=n1-(0:Int)/\n1-(0:Int)<=16:=(by omega);obtain⟨dd,hdd⟩: ∃dd,n1-(0:Int)=dd:=⟨_,rfl⟩;rw[hdd] at hsub hdI hc1;have mc:W1.cell? (ad.add i)=some (.int .i64 n1):=hcell1;have hRx:Rws w W1 [] [⟨w.heap.size, #[.slice (some ad) l.length cap],22⟩,⟨w.heap.size+1,Zk out,204⟩,⟨w.heap.size+1+1, #[.slice (some ⟨w.heap.size+1,0,none⟩) l.length l.length],201⟩,⟨w.heap.size+1+1+1, #[.int .i64 (0:Int),.int .i64 c],204⟩,⟨w.heap.size+1+1+1+1, #[.slice (some ad) l.length cap],22⟩]:=(by rw[hc];exact hRw1);clear hc;have g4:=(hRx.blk ⟨w.heap.size+1+1+1, #[.int .i64 (0:Int),.int .i64 c],204⟩ (by simp)).1;have n40:W1.cell? ⟨w.heap.size+1+1+1,0,none⟩=some (.int .i64 (0:Int)):=(by rw[Qb g4];rfl);have n41:W1.cell? ⟨w.heap.size+1+1+1,1,none⟩=some (.int .i64 c):=(by rw[Qb g4];rfl);have nn1:W1.cell? ⟨w.heap.size,0,none⟩=some (.slice (some ad) l.length cap):=(by rw[Qb (hRx.blk ⟨w.heap.size, #[.slice (some ad) l.length cap],22⟩ (by simp)).1];rfl);have hko1:KeepsOthers W W1:=hkeep1;have hkp1:V5 w.heap.size (w.heap.size+1+1+1+1) W W1:=hkk1;replace hRx:=Qa.mk hRx;replace hko1:=Qa.mk hko1;replace hkp1:=Qa.mk hkp1;replace hstp:=Qa.mk hstp;have houtl:=Qa.mk (show out.length=l.length by have:=Ut l k;rw[<-hq] at this;exact this);clear hRw hRw1 hcell1 hkeep1 hkk1 g4 hbd hbd1 hsm hsm1 hst1 hcdef hle hpp hq hW1 hn1 hi hi' i1 m1 hcell hb7;refine Held.Zm (fun w'=>w'.cell? ⟨w.heap.size,0,none⟩=some (.slice (some ad) l.length cap)/\w'.cell? (ad.add i)=some (.int .i64 n1)/\w'.cell? ⟨w.heap.size+1+1+1,0,none⟩=some (.int .i64 (0:Int))/\w'.cell? ⟨w.heap.size+1+1+1,1,none⟩=some (.int .i64 c)) [15] hmo (by kernel_rfl) (fun⟨_,_,h⟩=>h) ⟨nn1,mc,n40,n41⟩ (fun hHeld=> ?_)
   (refine Tk.tl 0 (.slice (some ad) l.length cap) hHeld ?_)
   (refine Tk.tl 1 (.int .i64 i) hHeld ?_)
   (refine Tk.tl 2 (.pointer (some (ad.add i))) hHeld ?_)
   (refine Tk.tl 3 (.int .i64 n1) hHeld ?_)
   (refine Tk.tl 4 (.pointer (some ⟨w.heap.size+1+1+1,1,none⟩)) hHeld ?_)
   (refine Tk.tl 5 (.int .i64 c) hHeld ?_)
   (refine Tk.tl 6 (.slice (some ad) l.length cap) hHeld ?_)
   (refine Tk.tl 7 (.int .i64 i) hHeld ?_)
   (refine Tk.tl 8 (.pointer (some (ad.add i))) hHeld ?_)
   (refine Tk.tl 9 (.int .i64 n1) hHeld ?_)
   (refine Tk.tl 10 (.pointer (some ⟨w.heap.size+1+1+1,0,none⟩)) hHeld ?_)
   (refine Tk.tl 11 (.int .i64 (0:Int)) hHeld ?_)
   (refine Tk.tl 12 (.int .i64 dd) hHeld ?_)
   (refine Tk.tl 13 (.int .i64 c1) hHeld ?_)
   have G4:=(hRx.out.blk ⟨w.heap.size+1+1+1, #[.int .i64 (0:Int),.int .i64 c],204⟩ (by simp)).1;have y40:=Qf G4 0;have y41:=Qf G4 1
   (refine Qd (rs:=[14]) (by kernel_rfl) (by simp) ?_;refine Qc.cons rfl (by decide) (fun K hK=> ?_) Qc.nil)
   refine Zi (w1:=W1.drew) (v:= .agg #[.int .i64 n1,.int .i64 c1]) (by kernel_rfl) rfl (by kernel_rfl) ?_;refine hK.out _ _ hHeld (fun hHeld=> ?_);clear hK K;try simp only[Act.put,Tk.z1,Tk.z2,Tk.z3,Tk.z4,Tk.z5,Tk.z6]
   (refine Qd (rs:=[15]) (by kernel_rfl) (by simp) ?_;refine Qc.Zp rfl (by decide) (fun K hK=> ?_) Qc.nil)
   go_simp;go_wp2_with fail;refine hK.out _ _ ?_;clear hK K
   try simp only[Act.put,Tk.z1,Tk.z2,Tk.z3,Tk.z4,Tk.z5,Tk.z6]
   refine Qo (by kernel_rfl) ?_ _;obtain⟨W2,hW2⟩: ∃W2,W2=((W1.setCell ⟨w.heap.size+1+1+1,0,none⟩ (.int .i64 n1)).setCell ⟨w.heap.size+1+1+1,1,none⟩ (.int .i64 c1)).drew :=⟨_,rfl⟩
   have hR2:Rws w W2 [] [⟨w.heap.size, #[.slice (some ad) l.length cap],22⟩,⟨w.heap.size+1,Zk out,204⟩,⟨w.heap.size+1+1, #[.slice (some ⟨w.heap.size+1,0,none⟩) l.length l.length],201⟩,⟨w.heap.size+1+1+1, #[.int .i64 n1,.int .i64 c1],204⟩,⟨w.heap.size+1+1+1+1, #[.slice (some ad) l.length cap],22⟩]:=by
    rw[hW2];exact(Bts.Rws.set (G1:=[⟨w.heap.size, #[.slice (some ad) l.length cap],22⟩,⟨w.heap.size+1,Zk out,204⟩,⟨w.heap.size+1+1, #[.slice (some ⟨w.heap.size+1,0,none⟩) l.length l.length],201⟩]) (G2:=[⟨w.heap.size+1+1+1+1, #[.slice (some ad) l.length cap],22⟩]) (b:=⟨w.heap.size+1+1+1, #[.int .i64 n1,.int .i64 c],204⟩) (Bts.Rws.set (G1:=[⟨w.heap.size, #[.slice (some ad) l.length cap],22⟩,⟨w.heap.size+1,Zk out,204⟩,⟨w.heap.size+1+1, #[.slice (some ⟨w.heap.size+1,0,none⟩) l.length l.length],201⟩]) (G2:=[⟨w.heap.size+1+1+1+1, #[.slice (some ad) l.length cap],22⟩]) (b:=⟨w.heap.size+1+1+1, #[.int .i64 (0:Int),.int .i64 c],204⟩) hRx.out 0 (.int .i64 n1)) 1 (.int .i64 c1)).drew
   have hko2:KeepsOthers W W2:=by
    rw[hW2];have h:=(hko1.out.trans (KeepsOthers.setCell W1 ⟨w.heap.size+1+1+1,0,none⟩ (.int .i64 n1))).trans (KeepsOthers.setCell (W1.setCell ⟨w.heap.size+1+1+1,0,none⟩ (.int .i64 n1)) ⟨w.heap.size+1+1+1,1,none⟩ (.int .i64 c1));exact⟨h.size,h.same⟩
   have hkp2:V5 w.heap.size (w.heap.size+1+1+1+1) W W2:=by
    rw[hW2];exact⟨((hkp1.out.1.setCell (p:=⟨w.heap.size+1+1+1,0,none⟩) (by simp only;omega) _).setCell (p:=⟨w.heap.size+1+1+1,1,none⟩) (by simp only;omega) _).drew,((Below.heap_setCell _ _ _ _ (by simp only;omega)).trans (Below.heap_setCell _ _ _ _ (by simp only;omega))).trans hkp1.out.2⟩
   rw[<-hW2];have G5:=(hR2.blk ⟨w.heap.size+1+1+1, #[.int .i64 n1,.int .i64 c1],204⟩ (by simp)).1;have G3:=(hR2.blk ⟨w.heap.size+1+1, #[.slice (some ⟨w.heap.size+1,0,none⟩) l.length l.length],201⟩ (by simp)).1;have GO:=(hR2.blk ⟨w.heap.size+1,Zk out,204⟩ (by simp)).1;have p40:W2.cell? ⟨w.heap.size+1+1+1,0,none⟩=some (.int .i64 n1):=(by rw[Qb G5];rfl);have p41:W2.cell? ⟨w.heap.size+1+1+1,1,none⟩=some (.int .i64 c1):=(by rw[Qb G5];rfl);have p3:W2.cell? ⟨w.heap.size+1+1,0,none⟩=some (.slice (some ⟨w.heap.size+1,0,none⟩) l.length l.length):=(by rw[Qb G3];rfl);obtain⟨o1,o2⟩:=Fp (ps:=out) (k:=i) (by rw[houtl.out];omega);have po0:W2.cell? ⟨w.heap.size+1,i*2,none⟩=some (.int .i64 (out[i]'(by rw[houtl.out];omega)).1):=(by rw[Qb GO,Nat.mul_comm];exact o1);have po1:W2.cell? ⟨w.heap.size+1,i*2+1,none⟩=some (.int .i64 (out[i]'(by rw[houtl.out];omega)).2):=(by rw[Qb GO,Nat.mul_comm];exact o2);have fo0:=Qf GO (i*2);have fo1:=Qf GO (i*2+1);obtain⟨u0,hu0⟩: ∃u0,u0=(out[i]'(by rw[houtl.out];omega)).1:=⟨_,rfl⟩;obtain⟨u1,hu1⟩: ∃u1,u1=(out[i]'(by rw[houtl.out];omega)).2:=⟨_,rfl⟩;rw[<-hu0] at po0;rw[<-hu1] at po1;replace hR2:=Qa.mk hR2;replace hko2:=Qa.mk hko2;replace hkp2:=Qa.mk hkp2;clear hW2 hHeld mc n40 n41 nn1 hRx hko1 hkp1 G4 G5 G3 GO y40 y41 o1 o2 hu0 hu1 hc1 hc1b hshw hdI hsub hdd hcC;gi_wp2_with fail;refine⟨((hko2.out.trans (KeepsOthers.setCell _ _ _)).trans (KeepsOthers.setCell _ _ _)).from _,⟨(hkp2.out.1.setCell (p:=⟨w.heap.size+1,i*2,none⟩) (by simp only;omega) _).setCell (p:=⟨w.heap.size+1,i*2+1,none⟩) (by simp only;omega) _,((Below.heap_setCell _ _ _ _ (by simp only;omega)).trans (Below.heap_setCell _ _ _ _ (by simp only;omega))).trans hkp2.out.2⟩,?_⟩;have h2:=Bts.Rws.set (G1:=[⟨w.heap.size, #[.slice (some ad) l.length cap],22⟩]) (G2:=[⟨w.heap.size+1+1, #[.slice (some ⟨w.heap.size+1,0,none⟩) l.length l.length],201⟩,⟨w.heap.size+1+1+1, #[.int .i64 n1,.int .i64 c1],204⟩,⟨w.heap.size+1+1+1+1, #[.slice (some ad) l.length cap],22⟩]) (b:=⟨w.heap.size+1,(Zk out).setIfInBounds (i*2) (.int .i64 n1),204⟩) (Bts.Rws.set (G1:=[⟨w.heap.size, #[.slice (some ad) l.length cap],22⟩]) (G2:=[⟨w.heap.size+1+1, #[.slice (some ⟨w.heap.size+1,0,none⟩) l.length l.length],201⟩,⟨w.heap.size+1+1+1, #[.int .i64 n1,.int .i64 c1],204⟩,⟨w.heap.size+1+1+1+1, #[.slice (some ad) l.length cap],22⟩]) (b:=⟨w.heap.size+1,Zk out,204⟩) hR2.out (i*2) (.int .i64 n1)) (i*2+1) (.int .i64 c1);have h3:=Sg out (n1,c1) i;rw[Nat.mul_comm 2 i] at h3;dsimp only at h2;rw[h3] at h2
   have h4:Rws w ((W2.setCell ⟨w.heap.size+1,i*2,none⟩ (.int .i64 n1)).setCell ⟨w.heap.size+1,i*2+1,none⟩ (.int .i64 c1)) [] [⟨w.heap.size, #[.slice (some ad) l.length cap],22⟩,⟨w.heap.size+1,Zk (Zu l (k+1)).2,204⟩,⟨w.heap.size+1+1, #[.slice (some ⟨w.heap.size+1,0,none⟩) l.length l.length],201⟩,⟨w.heap.size+1+1+1, #[.int .i64 (Zu l (k+1)).1.1,.int .i64 (Zu l (k+1)).1.2],204⟩,⟨w.heap.size+1+1+1+1, #[.slice (some ad) l.length cap],22⟩]:=by
    rw[hstp.out];exact h2
   exact h4
  ·have hn0:1<=n0:=(hbd.2.2.2.2.2 (by omega)).2
   have hc0:0<=c0:=hbd.2.2.1;replace hi:=Qa.mk hi;replace hi':=Qa.mk hi';replace hn1:=Qa.mk hn1;replace hq:=Qa.mk hq;replace hbd:=Qa.mk hbd;replace hbd1:=Qa.mk hbd1;replace hstp:=Qa.mk hstp;replace hRw:=Qa.mk hRw;gi_wp2_with fail;replace hi:=hi.out;replace hi':=hi'.out;replace hn1:=hn1.out;replace hq:=hq.out;replace hbd:=hbd.out;replace hbd1:=hbd1.out;replace hstp:=hstp.out;replace hRw:=hRw.out;obtain⟨c,hcdef⟩: ∃c,(if n0=0 then 0 else c0+1)=c:=⟨_,rfl⟩;have hc:c0+1=c:=(by rw[<-hcdef,if_neg (by omega)]);rw[hc];obtain⟨W1,hW1⟩: ∃W1,W1=W.setCell ⟨w.heap.size+1+1+1,1,none⟩ (.int .i64 c):=⟨_,rfl⟩;rw[<-hW1];have hRw1:=Bts.Rws.set (G1:=[⟨w.heap.size, #[.slice (some ad) l.length cap],22⟩,⟨w.heap.size+1,Zk out,204⟩,⟨w.heap.size+1+1, #[.slice (some ⟨w.heap.size+1,0,none⟩) l.length l.length],201⟩]) (G2:=[⟨w.heap.size+1+1+1+1, #[.slice (some ad) l.length cap],22⟩]) (b:=⟨w.heap.size+1+1+1, #[.int .i64 n0,.int .i64 c0],204⟩) hRw 1 (.int .i64 c);rw[<-hW1] at hRw1
   have hcell1:W1.cell? (ad.add i)=some (.int .i64 n1):=by
    obtain⟨ad',e',h'⟩:=Qq HR.out hRw1.below i1;cases e';rw[<-hn1] at h';exact h'
   have hkeep1:KeepsOthers W W1:=by rw[hW1];exact KeepsOthers.setCell _ _ _
   have hkk1:V5 w.heap.size (w.heap.size+1+1+1+1) W W1:=by
    rw[hW1];exact⟨(Below.refl _ W).setCell (p:=⟨w.heap.size+1+1+1,1,none⟩) (by simp only;omega) _,Below.heap_setCell _ _ _ _ (by simp only;omega)⟩
   have hb7:=True.intro;have hcC:=True.intro;clear m40 m41 f40 f41 g4 gO;have hpp:(0:Int)<2^(n1-n0).toNat :=Int.pow_pos (by omega)
   have hst1:Uc l (n0,c0) i=(n1,c*2^(n1-n0).toNat):=by
    unfold Uc;rw[<-hn1,hcdef]
   rw[hst1] at hstp;rw[hstp] at hbd1 hsm1;dsimp only at hbd1 hsm1;obtain⟨c1,hc1⟩: ∃c1,c*2^(n1-n0).toNat =c1:=⟨_,rfl⟩;rw[hc1] at hbd1 hsm1 hstp;have hc1b:0<=c1/\c1<=268435456:=⟨hbd1.2.2.1,hsm1⟩;have hsub:IntKind.i64.wrap (n1-n0)=n1-n0:=IntWalk.i64_in _ (by omega);have hshw:IntKind.i64.wrap c1=c1:=IntWalk.i64_in _ (by omega);have hdI:0<=n1-n0/\n1-n0<=16:=(by omega);obtain⟨dd,hdd⟩: ∃dd,n1-n0=dd:=⟨_,rfl⟩;rw[hdd] at hsub hdI hc1;have mc:W1.cell? (ad.add i)=some (.int .i64 n1):=hcell1;have hRx:Rws w W1 [] [⟨w.heap.size, #[.slice (some ad) l.length cap],22⟩,⟨w.heap.size+1,Zk out,204⟩,⟨w.heap.size+1+1, #[.slice (some ⟨w.heap.size+1,0,none⟩) l.length l.length],201⟩,⟨w.heap.size+1+1+1, #[.int .i64 n0,.int .i64 c],204⟩,⟨w.heap.size+1+1+1+1, #[.slice (some ad) l.length cap],22⟩]:=hRw1;have g4:=(hRx.blk ⟨w.heap.size+1+1+1, #[.int .i64 n0,.int .i64 c],204⟩ (by simp)).1;have n40:W1.cell? ⟨w.heap.size+1+1+1,0,none⟩=some (.int .i64 n0):=(by rw[Qb g4];rfl);have n41:W1.cell? ⟨w.heap.size+1+1+1,1,none⟩=some (.int .i64 c):=(by rw[Qb g4];rfl);have nn1:W1.cell? ⟨w.heap.size,0,none⟩=some (.slice (some ad) l.length cap):=(by rw[Qb (hRx.blk ⟨w.heap.size, #[.slice (some ad) l.length cap],22⟩ (by simp)).1];rfl);have hko1:KeepsOthers W W1:=hkeep1;have hkp1:V5 w.heap.size (w.heap.size+1+1+1+1) W W1:=hkk1;replace hRx:=Qa.mk hRx;replace hko1:=Qa.mk hko1;replace hkp1:=Qa.mk hkp1;replace hstp:=Qa.mk hstp;have houtl:=Qa.mk (show out.length=l.length by have:=Ut l k;rw[<-hq] at this;exact this);clear hRw hRw1 hcell1 hkeep1 hkk1 g4 hbd hbd1 hsm hsm1 hst1 hcdef hle hpp hq hW1 hn1 hi hi' i1 m1 hcell hb7;refine Held.Zm (fun w'=>w'.cell? ⟨w.heap.size,0,none⟩=some (.slice (some ad) l.length cap)/\w'.cell? (ad.add i)=some (.int .i64 n1)/\w'.cell? ⟨w.heap.size+1+1+1,0,none⟩=some (.int .i64 n0)/\w'.cell? ⟨w.heap.size+1+1+1,1,none⟩=some (.int .i64 c)) [15] hmo (by kernel_rfl) (fun⟨_,_,h⟩=>h) ⟨nn1,mc,n40,n41⟩ (fun hHeld=> ?_)
   (refine Tk.tl 0 (.slice (some ad) l.length cap) hHeld ?_)
   (refine Tk.tl 1 (.int .i64 i) hHeld ?_)
   (refine Tk.tl 2 (.pointer (some (ad.add i))) hHeld ?_)
   (refine Tk.tl 3 (.int .i64 n1) hHeld ?_)
   (refine Tk.tl 4 (.pointer (some ⟨w.heap.size+1+1+1,1,none⟩)) hHeld ?_)
   (refine Tk.tl 5 (.int .i64 c) hHeld ?_)
   (refine Tk.tl 6 (.slice (some ad) l.length cap) hHeld ?_)
   (refine Tk.tl 7 (.int .i64 i) hHeld ?_)
   (refine Tk.tl 8 (.pointer (some (ad.add i))) hHeld ?_)
   (refine Tk.tl 9 (.int .i64 n1) hHeld ?_)
   (refine Tk.tl 10 (.pointer (some ⟨w.heap.size+1+1+1,0,none⟩)) hHeld ?_)
   (refine Tk.tl 11 (.int .i64 n0) hHeld ?_)
   (refine Tk.tl 12 (.int .i64 dd) hHeld ?_)
   (refine Tk.tl 13 (.int .i64 c1) hHeld ?_)
   have G4:=(hRx.out.blk ⟨w.heap.size+1+1+1, #[.int .i64 n0,.int .i64 c],204⟩ (by simp)).1;have y40:=Qf G4 0;have y41:=Qf G4 1
   (refine Qd (rs:=[14]) (by kernel_rfl) (by simp) ?_;refine Qc.cons rfl (by decide) (fun K hK=> ?_) Qc.nil)
   refine Zi (w1:=W1.drew) (v:= .agg #[.int .i64 n1,.int .i64 c1]) (by kernel_rfl) rfl (by kernel_rfl) ?_;refine hK.out _ _ hHeld (fun hHeld=> ?_);clear hK K;try simp only[Act.put,Tk.z1,Tk.z2,Tk.z3,Tk.z4,Tk.z5,Tk.z6]
   (refine Qd (rs:=[15]) (by kernel_rfl) (by simp) ?_;refine Qc.Zp rfl (by decide) (fun K hK=> ?_) Qc.nil)
   go_simp;go_wp2_with fail;refine hK.out _ _ ?_;clear hK K
   try simp only[Act.put,Tk.z1,Tk.z2,Tk.z3,Tk.z4,Tk.z5,Tk.z6]
   refine Qo (by kernel_rfl) ?_ _;obtain⟨W2,hW2⟩: ∃W2,W2=((W1.setCell ⟨w.heap.size+1+1+1,0,none⟩ (.int .i64 n1)).setCell ⟨w.heap.size+1+1+1,1,none⟩ (.int .i64 c1)).drew :=⟨_,rfl⟩
   have hR2:Rws w W2 [] [⟨w.heap.size, #[.slice (some ad) l.length cap],22⟩,⟨w.heap.size+1,Zk out,204⟩,⟨w.heap.size+1+1, #[.slice (some ⟨w.heap.size+1,0,none⟩) l.length l.length],201⟩,⟨w.heap.size+1+1+1, #[.int .i64 n1,.int .i64 c1],204⟩,⟨w.heap.size+1+1+1+1, #[.slice (some ad) l.length cap],22⟩]:=by
    rw[hW2];exact(Bts.Rws.set (G1:=[⟨w.heap.size, #[.slice (some ad) l.length cap],22⟩,⟨w.heap.size+1,Zk out,204⟩,⟨w.heap.size+1+1, #[.slice (some ⟨w.heap.size+1,0,none⟩) l.length l.length],201⟩]) (G2:=[⟨w.heap.size+1+1+1+1, #[.slice (some ad) l.length cap],22⟩]) (b:=⟨w.heap.size+1+1+1, #[.int .i64 n1,.int .i64 c],204⟩) (Bts.Rws.set (G1:=[⟨w.heap.size, #[.slice (some ad) l.length cap],22⟩,⟨w.heap.size+1,Zk out,204⟩,⟨w.heap.size+1+1, #[.slice (some ⟨w.heap.size+1,0,none⟩) l.length l.length],201⟩]) (G2:=[⟨w.heap.size+1+1+1+1, #[.slice (some ad) l.length cap],22⟩]) (b:=⟨w.heap.size+1+1+1, #[.int .i64 n0,.int .i64 c],204⟩) hRx.out 0 (.int .i64 n1)) 1 (.int .i64 c1)).drew
   have hko2:KeepsOthers W W2:=by
    rw[hW2];have h:=(hko1.out.trans (KeepsOthers.setCell W1 ⟨w.heap.size+1+1+1,0,none⟩ (.int .i64 n1))).trans (KeepsOthers.setCell (W1.setCell ⟨w.heap.size+1+1+1,0,none⟩ (.int .i64 n1)) ⟨w.heap.size+1+1+1,1,none⟩ (.int .i64 c1));exact⟨h.size,h.same⟩
   have hkp2:V5 w.heap.size (w.heap.size+1+1+1+1) W W2:=by
    rw[hW2];exact⟨((hkp1.out.1.setCell (p:=⟨w.heap.size+1+1+1,0,none⟩) (by simp only;omega) _).setCell (p:=⟨w.heap.size+1+1+1,1,none⟩) (by simp only;omega) _).drew,((Below.heap_setCell _ _ _ _ (by simp only;omega)).trans (Below.heap_setCell _ _ _ _ (by simp only;omega))).trans hkp1.out.2⟩
   rw[<-hW2];have G5:=(hR2.blk ⟨w.heap.size+1+1+1, #[.int .i64 n1,.int .i64 c1],204⟩ (by simp)).1;have G3:=(hR2.blk ⟨w.heap.size+1+1, #[.slice (some ⟨w.heap.size+1,0,none⟩) l.length l.length],201⟩ (by simp)).1;have GO:=(hR2.blk ⟨w.heap.size+1,Zk out,204⟩ (by simp)).1;have p40:W2.cell? ⟨w.heap.size+1+1+1,0,none⟩=some (.int .i64 n1):=(by rw[Qb G5];rfl);have p41:W2.cell? ⟨w.heap.size+1+1+1,1,none⟩=some (.int .i64 c1):=(by rw[Qb G5];rfl);have p3:W2.cell? ⟨w.heap.size+1+1,0,none⟩=some (.slice (some ⟨w.heap.size+1,0,none⟩) l.length l.length):=(by rw[Qb G3];rfl);obtain⟨o1,o2⟩:=Fp (ps:=out) (k:=i) (by rw[houtl.out];omega);have po0:W2.cell? ⟨w.heap.size+1,i*2,none⟩=some (.int .i64 (out[i]'(by rw[houtl.out];omega)).1):=(by rw[Qb GO,Nat.mul_comm];exact o1);have po1:W2.cell? ⟨w.heap.size+1,i*2+1,none⟩=some (.int .i64 (out[i]'(by rw[houtl.out];omega)).2):=(by rw[Qb GO,Nat.mul_comm];exact o2);have fo0:=Qf GO (i*2);have fo1:=Qf GO (i*2+1);obtain⟨u0,hu0⟩: ∃u0,u0=(out[i]'(by rw[houtl.out];omega)).1:=⟨_,rfl⟩;obtain⟨u1,hu1⟩: ∃u1,u1=(out[i]'(by rw[houtl.out];omega)).2:=⟨_,rfl⟩;rw[<-hu0] at po0;rw[<-hu1] at po1;replace hR2:=Qa.mk hR2;replace hko2:=Qa.mk hko2;replace hkp2:=Qa.mk hkp2;clear hW2 hHeld mc n40 n41 nn1 hRx hko1 hkp1 G4 G5 G3 GO y40 y41 o1 o2 hu0 hu1 hc1 hc1b hshw hdI hsub hdd hc hcC;gi_wp2_with fail;refine⟨((hko2.out.trans (KeepsOthers.setCell _ _ _)).trans (KeepsOthers.setCell _ _ _)).from _,⟨(hkp2.out.1.setCell (p:=⟨w.heap.size+1,i*2,none⟩) (by simp only;omega) _).setCell (p:=⟨w.heap.size+1,i*2+1,none⟩) (by simp only;omega) _,((Below.heap_setCell _ _ _ _ (by simp only;omega)).trans (Below.heap_setCell _ _ _ _ (by simp only;omega))).trans hkp2.out.2⟩,?_⟩;have h2:=Bts.Rws.set (G1:=[⟨w.heap.size, #[.slice (some ad) l.length cap],22⟩]) (G2:=[⟨w.heap.size+1+1, #[.slice (some ⟨w.heap.size+1,0,none⟩) l.length l.length],201⟩,⟨w.heap.size+1+1+1, #[.int .i64 n1,.int .i64 c1],204⟩,⟨w.heap.size+1+1+1+1, #[.slice (some ad) l.length cap],22⟩]) (b:=⟨w.heap.size+1,(Zk out).setIfInBounds (i*2) (.int .i64 n1),204⟩) (Bts.Rws.set (G1:=[⟨w.heap.size, #[.slice (some ad) l.length cap],22⟩]) (G2:=[⟨w.heap.size+1+1, #[.slice (some ⟨w.heap.size+1,0,none⟩) l.length l.length],201⟩,⟨w.heap.size+1+1+1, #[.int .i64 n1,.int .i64 c1],204⟩,⟨w.heap.size+1+1+1+1, #[.slice (some ad) l.length cap],22⟩]) (b:=⟨w.heap.size+1,Zk out,204⟩) hR2.out (i*2) (.int .i64 n1)) (i*2+1) (.int .i64 c1);have h3:=Sg out (n1,c1) i;rw[Nat.mul_comm 2 i] at h3;dsimp only at h2;rw[h3] at h2
   have h4:Rws w ((W2.setCell ⟨w.heap.size+1,i*2,none⟩ (.int .i64 n1)).setCell ⟨w.heap.size+1,i*2+1,none⟩ (.int .i64 c1)) [] [⟨w.heap.size, #[.slice (some ad) l.length cap],22⟩,⟨w.heap.size+1,Zk (Zu l (k+1)).2,204⟩,⟨w.heap.size+1+1, #[.slice (some ⟨w.heap.size+1,0,none⟩) l.length l.length],201⟩,⟨w.heap.size+1+1+1, #[.int .i64 (Zu l (k+1)).1.1,.int .i64 (Zu l (k+1)).1.2],204⟩,⟨w.heap.size+1+1+1+1, #[.slice (some ad) l.length cap],22⟩]:=by
    rw[hstp.out];exact h2
   exact h4
 case done=>
  rintro D W hD hRw hDf;have hgD:=grownBy_putObj' W D (.deferred none);have hsz:=hs7.out;have h1:Rws w (W.putObj D (.deferred none)) [] _:=Rws.turn hRw hgD (fun r e=>by cases e;exact⟨by omega,_,hDf,rfl⟩);have G3:=(h1.blk ⟨w.heap.size+1+1, #[.slice (some ⟨w.heap.size+1,0,none⟩) l.length l.length],201⟩ (by simp)).1;have GO:=(h1.blk ⟨w.heap.size+1,Zk (Zu l (Z8 l).length).2,204⟩ (by simp)).1;have p3:(W.putObj D (.deferred none)).cell? ⟨w.heap.size+1+1,0,none⟩=some (.slice (some ⟨w.heap.size+1,0,none⟩) l.length l.length):=(by rw[Qb G3];rfl);have hb:=h1.below;have G3':=(hRw.blk ⟨w.heap.size+1+1, #[.slice (some ⟨w.heap.size+1,0,none⟩) l.length l.length],201⟩ (by simp)).1;have p3':W.cell? ⟨w.heap.size+1+1,0,none⟩=some (.slice (some ⟨w.heap.size+1,0,none⟩) l.length l.length):=(by rw[Qb G3'];rfl);clear G3';replace GO:=Qa.mk GO;clear G3;gi_wp2;refine⟨by simp,.inl ⟨_,_,rfl,run_takeDeferred hDf,?_⟩⟩;exact⟨.slice (some ⟨w.heap.size+1,0,none⟩) l.length l.length,by simp[results,Tryz.f198,go_sem],w.heap.size+1,rfl,GO.out,by omega,hb⟩
end Pre

namespace Bts
attribute [local go_sem] Qi Qj Qk Ql Qg Qh
open Q15 (cnx bnx)
variable {P:Program} {wr W:World} {L L1 L2:List Row} {G G2:List Blk}
theorem new_at (W:World) (news:List Value) (e:Nat): ∀j u,news[j]? =some u->(W.alloc (.cells news.toArray e)).cell? ((⟨W.heap.size,0,none⟩:Addr).add j)=some u:=by
 simpa using World.news_of_block (cs:=news.toArray) (t:=e) (fr:=(0,0)) (heap_alloc_new W (.cells news.toArray e))
theorem ownsl {W:World} {base e sz n:Nat} {v:Value} {xs:List Value} (h:W.ownsRow base e sz v n xs): ∃A c,v= .slice A n c:=by
 rcases h.2 with ⟨hv,rfl⟩|⟨g,cap,cur,hv,_⟩
 ·exact⟨_,_,hv⟩
 ·exact⟨_,_,hv⟩
theorem Qed {base e sz n:Nat} {v:Value} {xs:List Value} {W1:World} (h:W.ownsRow base e sz v n xs) (hg:W.grownBy W1 v.ownBlock):KeepsOthers W W1:=
 KeepsOthers.of_grownBy hg (fun j o hj ho=>by
  rcases h.2 with ⟨hv,_⟩|⟨g,cap,cur,hv,_,hg2,_⟩
  ·rw[hv] at hj;cases hj
  ·rw[hv] at hj
   cases hj;rw[hg2] at ho;cases ho
   rfl)
theorem Rws.drop (h:Rws wr W (L1++L2) (G++G2)):Rws wr W L1 G:=
 ⟨h.below,fun r hr=>h.row r (by simp[hr]),(List.pairwise_append.1 h.pair).1,fun b hb=>h.blk b (by simp[hb]),fun r hr b hb=>h.far r (by simp[hr]) b (by simp[hb]),(List.pairwise_append.1 h.gs).1⟩
theorem app_run (t ty e:TypeId) (z:Value) (sz bytes:Nat) (ht:P.underlying t=some (.slice e)) (hinfo:(P.info? e).map (fun i=>(i.zero,i.size,i.bytes))=some (some z,sz,bytes)) (hz:z.cells.size=sz) (hs0:0<sz) (hb0:0<bytes)
  (v:Value) (n:Nat) (xs:List Value) (h:Rws wr W (L1++⟨e,sz,v,n,xs⟩::L2) G) (ad:Addr) (m c:Nat) (news:List Value) (hn:news.length=m*sz)
  (hc: ∀j u,news[j]? =some u->W.cell? (ad.add j)=some u) (h1: ∀u∈news,u.oneCell'=true) (hl:(n+m)*bytes<=140737488355328):
  ∃v1 w1,(Builtin.append_ #[t,t] ty #[v,.slice (some ad) m c]).run P W= .ok v1 w1/\Rws wr w1 (L1++⟨e,sz,v1,n+m,xs++news⟩::L2) G/\W.grownBy w1 v.ownBlock/\KeepsOthers W w1:=by
 obtain⟨i,hi,hzz⟩:=Option.map_eq_some_iff.1 hinfo;simp only[Prod.mk.injEq] at hzz;obtain⟨hz1,hz2,hz3⟩:=hzz;have ho:W.ownsRow wr.heap.size e sz v n xs:=h.row ⟨e,sz,v,n,xs⟩ (by simp);have hlen:n+m<=140737488355328:=Nat.le_trans (Nat.le_mul_of_pos_right _ hb0) hl;obtain⟨v1,w1,hrun,r1,r2,_,r4⟩:=run_append_own_at (P:=P) W wr.heap.size t ty e i z sz bytes ht hi hz1 hz2 hz3 hz hs0 v n xs ho ad m c news hn hc h1 (by unfold maxLen;omega) hl h.below.size;refine⟨v1,w1,hrun,?_,r2,Qed ho r2⟩
 exact Rws.app (r:=⟨e,sz,v,n,xs⟩) (r1:=⟨e,sz,v1,n+m,xs++news⟩) h r1 (h.below.grown r2 h.below.size (fun r er=>Yw ho r er)) r2 (by
  rcases r4 with e4|e4
  ·exact .inl e4
  ·exact .inr ⟨_,e4,Nat.le_refl _⟩)
theorem appIn {F:Fence} {n0:Nat} {ops:Array Oper} {rest:List Oper} {o:Oper} {a:Act} {Q:Exit->Act->World->Prop}
  (hg:o.guard=none) (s x:Operand) (t e:TypeId) (hop:o.op=Op.call {callee:=Callee.builtin Builtin.append,args:= #[s,x],argTypes:= #[t,t]}) (z:Value) (sz bytes:Nat)
  (ht:P.underlying t=some (.slice e)) (hinfo:(P.info? e).map (fun i=>(i.zero,i.size,i.bytes))=some (some z,sz,bytes)) (hz:z.cells.size=sz) (hs0:0<sz) (hb0:0<bytes)
  (v:Value) (n:Nat) (xs:List Value) (hs:a.eval s=v) (h:Rws wr W (L1++⟨e,sz,v,n,xs⟩::L2) G) (ad:Addr) (m c:Nat) (news:List Value) (hx:a.eval x= .slice (some ad) m c) (hn:news.length=m*sz)
  (hc: ∀j u,news[j]? =some u->W.cell? (ad.add j)=some u) (h1: ∀u∈news,u.oneCell'=true) (hl:(n+m)*bytes<=140737488355328)
  (hK: ∀v1 w1,Rws wr w1 (L1++⟨e,sz,v1,n+m,xs++news⟩::L2) G->W.grownBy w1 v.ownBlock->KeepsOthers W w1->wpListIn F n0 P ops Q rest (a.put o.dst v1) w1):
  wpListIn F n0 P ops Q (o::rest) a W:=by
 refine wpListIn_plain hg fun K hK'=> ?_
 obtain⟨v',w',hrun,r1,r2,r3⟩:=app_run (P:=P) t o.type e z sz bytes ht hinfo hz hs0 hb0 v n xs h ad m c news hn hc h1 hl;unfold Oper.wpIn;refine⟨?_,?_⟩
 ·simp[Oper.about,hop,resolve,Target.leads,Sem.run_pure]
 ·rw[Oper.semAt_plain F _ _ (by rw[hop];intro c hc';cases hc')]
  simp[execOp,hop,resolve,invoke,builtin,hs,hx,hrun,Result.andThen];exact hK' _ _ (hK v' w' r1 r2 r3)
end Bts

namespace Bts
attribute [local go_sem] Qi Qj Qk Ql Qg Qh
open Q15 (cnx bnx)
variable {P:Program} {W:World}
def Cells (w:World) (A:Option Addr) (cs:List Value):Prop:=cs≠[]-> ∃ad,A=some ad/\ ∀j u,cs[j]? =some u->w.cell? (ad.add j)=some u
theorem Cells.below {w w1:World} {A:Option Addr} {cs:List Value} (h:Cells w A cs) (hb:Below w.heap.size w w1):Cells w1 A cs:=fun hn=>by
 obtain⟨ad,e,hc⟩:=h hn;exact⟨ad,e,fun j u hj=>cnx (hc j u hj) hb⟩
def Typed (w:World) (A:Option Addr) (t:Nat):Prop:= ∀ad,A=some ad-> ∃cells,w.heap[ad.block]? =some (.cells cells t (0,0))
theorem Typed.below {w w1:World} {A:Option Addr} {t:Nat} (h:Typed w A t) (hb:Below w.heap.size w w1):Typed w1 A t:=fun ad e=>by
 obtain⟨cs,hc⟩:=h ad e;exact⟨cs,Qv hc hb⟩
theorem Typed.ne {w:World} {A:Option Addr} {t t' g:Nat} {cs:Array Value} (h:Typed w A t) (hg:w.heap[g]? =some (.cells cs t' (0,0))) (ht:t≠t'): ∀ad,A=some ad->ad.block≠g:=fun ad e hbl=>by
 obtain⟨cs2,hc⟩:=h ad e;rw[hbl,hg] at hc;cases hc;exact ht rfl
theorem Nh (t ty e:TypeId) (i:TypeInfo) (ht:P.underlying t=some (.slice e)) (hi:P.info? e=some i) (b A:Option Addr) (n c q:Nat) (hc:n<=c) (w:World):
  (Builtin.append_ #[t,t] ty #[.slice b n c,.slice A 0 q]).run P w= .ok (.slice b n c) w:=by
 cases b<;>cases A<;>simp[Builtin.append_,run_underlying ht,sizeOf,typeInfo,hi,Builtin.lenOf,Builtin.firstCells,loadCells,loadCellsFrom,hc,storeCells]
theorem app_full (t ty e:TypeId) (z:Value) (sz bytes:Nat) (ht:P.underlying t=some (.slice e)) (hinfo:(P.info? e).map (fun i=>(i.zero,i.size,i.bytes))=some (some z,sz,bytes)) (hs0:0<sz) (hb0:0<bytes)
  (b:Addr) (n:Nat) (olds:List Value) (hlo:olds.length=n*sz) (hol:Cells W (some b) olds) (A:Option Addr) (m c:Nat) (news:List Value) (hl:news.length=m*sz) (hn:Cells W A news) (hbig:(n+m)*bytes<=140737488355328):
  ∃A' c' w1,(Builtin.append_ #[t,t] ty #[.slice (some b) n n,.slice A m c]).run P W= .ok (.slice A' (n+m) c') w1/\Below W.heap.size W w1/\Cells w1 A' (olds++news)/\(A'=some b\/ ∃ad,A'=some ad/\W.heap.size<=ad.block/\ ∃cells,w1.heap[ad.block]? =some (.cells cells e (0,0))):=by
 obtain⟨i,hi,hzz⟩:=Option.map_eq_some_iff.1 hinfo;simp only[Prod.mk.injEq] at hzz;obtain⟨hz1,hz2,hz3⟩:=hzz;subst hz2;have hlen:n+m<=140737488355328:=Nat.le_trans (Nat.le_mul_of_pos_right _ hb0) hbig;by_cases hm:m=0
 ·subst hm
  obtain rfl:news=[]:=List.eq_nil_of_length_eq_zero (by simpa using hl);exact⟨some b,n,W,Nh t ty e i ht hi (some b) A n n c (Nat.le_refl _) W,Below.refl _ _,by rw[List.append_nil];exact hol,.inl rfl⟩
 ·have hne:news≠[]:=fun e2=>by
   rw[e2] at hl;have:=Nat.mul_pos (Nat.pos_of_ne_zero hm) hs0;simp at hl;omega
  obtain⟨a,rfl,ha⟩:=hn hne
  have hr:=run_append_grow (P:=P) W t ty e i z ht hi hz1 b n n olds hlo (fun j v hj=>by
   have h0:olds≠[]:=fun e2=>by rw[e2] at hj;simp at hj
   obtain⟨b',e2,hb'⟩:=hol h0;cases e2
   exact hb' j v hj) a m c news hl ha (by omega) (by omega) (growslice_fits (by omega) (by rw[hz3];exact hbig))
  refine⟨_,_,_,hr,(Below.refl _ _).drew.alloc (Nat.le_refl _) _,fun _=>⟨_,rfl,fun j u hj=> ?_⟩,.inr ⟨_,rfl,Nat.le_refl _,_,heap_alloc_new W.drew _⟩⟩;have h9:=heap_alloc_new W.drew (.cells (olds.toArray++news.toArray++Builtin.zeroCells z.cells (grownCap W (n+m) n e-(n+m))) e)
  have e9:((⟨W.heap.size,0,none⟩:Addr).add j)=⟨W.heap.size,j,none⟩:=by
   unfold Addr.add;by_cases h0:j=0
   ·simp[h0]
   ·simp[h0]
  rw[e9];refine(Go.Proofs.YtnflnicdjioflaaGreatDoor.Q21.Qb h9 j).trans ?_;rw[Array.getElem?_append_left]
  ·rw[List.append_toArray]
   simpa using hj
  ·have:=(List.getElem?_eq_some_iff.1 hj).1
   simpa using this
theorem Qdm {ops:Array Oper} {o:Oper} {a:Act} {Q:Exit->Act->World->Prop} {Kc:Act->World->Prop} (hw:Region.wanted o (yielded ops a.tmps)=true)
  (s x:Operand) (t e:TypeId) (hop:o.op=Op.call {callee:=Callee.builtin Builtin.append,args:= #[s,x],argTypes:= #[t,t]}) (z:Value) (sz bytes:Nat)
  (ht:P.underlying t=some (.slice e)) (hinfo:(P.info? e).map (fun i=>(i.zero,i.size,i.bytes))=some (some z,sz,bytes)) (hs0:0<sz) (hb0:0<bytes)
  (b:Addr) (n:Nat) (olds:List Value) (hs:a.eval s= .slice (some b) n n) (hlo:olds.length=n*sz) (hol:Cells W (some b) olds) (A:Option Addr) (m c:Nat) (news:List Value) (hx:a.eval x= .slice A m c) (hl:news.length=m*sz) (hn:Cells W A news) (hbig:(n+m)*bytes<=140737488355328)
  (hK: ∀A' c' w1,Below W.heap.size W w1->Cells w1 A' (olds++news)->(A'=some b\/ ∃ad,A'=some ad/\W.heap.size<=ad.block/\ ∃cells,w1.heap[ad.block]? =some (.cells cells e (0,0)))->Kc (a.put o.dst (.slice A' (n+m) c')) w1):
  if Region.wanted o (yielded ops a.tmps)=true then Oper.wp P o a W Kc Q else Kc (a.put o.dst undef) W:=by
 rw[if_pos hw];obtain⟨A',c',w1,hrun,r1,r2,r3⟩:=app_full (P:=P) t o.type e z sz bytes ht hinfo hs0 hb0 b n olds hlo hol A m c news hl hn hbig;unfold Oper.wp;simp[execOp,hop,resolve,invoke,builtin,hs,hx,hrun,Result.andThen,Oper.upon];exact hK A' c' w1 r1 r2 r3
end Bts

end Go.Proofs.YtnflnicdjioflaaGreatDoor
