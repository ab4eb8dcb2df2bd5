/- A part of the proof. -/
import Derived.Test.YtnflnicdjioflaaGreatDoorSxao
set_option linter.unusedVariables false
set_option linter.unusedSimpArgs false
set_option maxRecDepth 100000
set_option maxHeartbeats 8000000
namespace Go.Proofs.YtnflnicdjioflaaGreatDoor
open Go.RowKit Go.Proofs.YtnflnicdjioflaaGreatDoorW.PrintWords Go.Proofs.YtnflnicdjioflaaGreatDoorW.PrintLast Go.Proofs.YtnflnicdjioflaaGreatDoorW.PrintMore
namespace Sp
attribute [local go_sem] Qh Qi Qk Ql Qd Qe
open Q15
open Q21
def clL (l:List Int) (n:Nat):List Int:=(l.take n).map Z5++List.replicate (l.length-n) 0
theorem clL_len {l:List Int} {n:Nat} (hn:n<=l.length):(clL l n).length =l.length:=by
 unfold clL;rw[List.length_append,List.length_map,List.length_take,List.length_replicate];omega
theorem clL_set {l:List Int} {n:Nat} (hn:n<l.length):(clL l n).set n (Z5 (rd l n))=clL l (n+1):=by
 have h1:((l.take n).map Z5).length =n:=(by rw[List.length_map,List.length_take];omega);unfold clL;rw[List.set_append_right _ _ (by rw[h1];exact Nat.le_refl _),h1,Nat.sub_self,show l.length-n=(l.length-(n+1))+1 by omega,List.replicate_succ,List.set_cons_zero,Qu l n hn,List.map_append,List.append_assoc];rfl
theorem clL_all (l:List Int):clL l l.length=l.map Z5:=by
 unfold clL;rw[List.take_length,Nat.sub_self,List.replicate_zero,List.append_nil]
theorem Ti (A:Option Addr) (c1:Nat) (d:List Int) (w:World) (hr:(Kd.int .i64).C w A d.length d) (hd:d.length<=1000):
  Calls Tryz.prog 39 #[.slice A d.length c1] w fun e w'=> ∃g,e= .returned (.slice (some ⟨g,0,none⟩) d.length d.length)/\w'.heap[g]? =some (.cells ((d.map Z5).map (Value.int .i64)).toArray 3 (0,0))/\w.heap.size<=g/\Below w.heap.size w w':=by
 have HR:=Qa.mk hr;have hdI:(d.length:Int)<=1000:=(by omega);have hmk: ∀W:World,(Instr.makeSlice 22 (.int .i64 (d.length:Int)) (.int .i64 (d.length:Int))).run Tryz.prog W= .ok (.slice (some ⟨W.heap.size,0,none⟩) d.length d.length) (W.alloc (.cells (List.replicate d.length (Value.int .i64 0)).toArray 3)):=Sec.X9 d.length (by omega);obtain⟨Z0,hZ0⟩: ∃Z0,Z0=(List.replicate d.length (Value.int .i64 0)).toArray :=⟨_,rfl⟩;rw[<-hZ0] at hmk;replace hZ0:=Qa.mk hZ0;clear hr hd;go_enter Tryz.func39,Tryz.ntmps39;go_wp2_with fail;obtain⟨g,hg⟩: ∃g,g=w.heap.size:=⟨_,rfl⟩;obtain⟨W2,hW2⟩: ∃W2,W2=w.alloc (.cells Z0 3):=⟨_,rfl⟩;have hb2:Below w.heap.size w W2:=by rw[hW2];exact(Below.refl _ _).alloc (Nat.le_refl _) _
 have hG2:W2.heap[g]? =some (.cells ((clL d 0).map (Value.int .i64)).toArray 3 (0,0)):=by
  rw[hW2,hg];refine(heap_alloc_new _ _).trans ?_;rw[hZ0.out];simp[clL]
 have hgw:=Qa.mk (show w.heap.size<=g by rw[hg];exact Nat.le_refl _);have HFin:=Qa.mk (fun(W:World) (h:Bts.Kp g none W2 W)=>hb2.trans (h.below (B:=w.heap.size) hgw.out (fun k e=>by cases e) hb2.size));rw[<-hW2,<-hg];clear hW2 hg hb2 hmk;go_loopw [11] (fun i wr=> ∃n:Nat,i= .int .i64 n/\n<=d.length/\Qa (wr.heap[g]? =some (.cells ((clL d n).map (Value.int .i64)).toArray 3 (0,0)))/\Qa (Bts.Kp g none W2 wr)) (fun i _=>d.length-(intOf i).toNat)
 case atStart=>exact⟨0,rfl,by omega,⟨hG2⟩,⟨Bts.Kp.refl _ _ _⟩⟩
 case round=>
  obtain⟨n,rfl,hn,hG,hKp⟩:=hrel;have hbw:=HFin.out _ hKp.out;clear hG2;by_cases hlt:n<d.length
  ·obtain⟨ad,rfl,hcell⟩:=Qn HR.out hbw hlt
   have hnI:(n:Int)<(d.length:Int):=(by omega);have hyl:=clL_len (Nat.le_of_lt hlt);have hset:=Qa.mk (clL_set hlt);obtain⟨x,hx⟩: ∃x,x=rd d n:=⟨_,rfl⟩;rw[<-hx] at hcell hset;obtain⟨Z,hZ⟩: ∃Z,Z=clL d n:=⟨_,rfl⟩;rw[<-hZ] at hG hyl hset;have hlt':=Qa.mk hlt;have HCl:=Qa.mk (fun(W:World)=>Ra x W);obtain⟨u,hu⟩: ∃u,u=Z5 x:=⟨_,rfl⟩;rw[<-hu] at HCl hset;clear hx hZ hlt hn hu;go_wp2_with fail;refine(HCl.out _).mono ?_;rintro e w6 ⟨rfl,hb6⟩;have hG6:=(hb6.block _ (Qr hG.out)).trans hG.out;have hK6:=hKp.out.Zk (hb6.mono hKp.out.size);have hnl:n<Z.length:=(by have:=hlt'.out;omega);have z6:w6.cell? ⟨g,n,none⟩=some (.int .i64 Z[n]):=(by rw[Qb hG6];simp[hnl]);have y6:=Qj hG6 n;have hG7:=Q9 hG6 n (.int .i64 u)
   have hG8:Qa ((w6.setCell ⟨g,n,none⟩ (.int .i64 u)).heap[g]? =some (.cells ((clL d (n+1)).map (Value.int .i64)).toArray 3 (0,0))):=⟨by
    rw[hG7,<-hset.out]
    simp⟩
   have hK8:=Qa.mk (hK6.Dj n (.int .i64 u));obtain⟨q6,hq6⟩: ∃q6,q6=Z[n]:=⟨_,rfl⟩;rw[<-hq6] at z6;clear hq6 hG6 hG7 hK6 hb6 hnl HCl;go_wp2_with fail;go_roundw
   case rel=>exact⟨n+1,by go_num,hlt'.out,hG8,hK8⟩
   case measure=>have:=hlt'.out;simp[intOf];omega
  ·obtain rfl:n=d.length:=by omega
   have hfin:Qa (wr.heap[g]? =some (.cells ((d.map Z5).map (Value.int .i64)).toArray 3 (0,0))):=⟨by
    have:=hG.out
    rwa [clL_all] at this⟩
   clear hlt hn hG hKp;go_wp2;go_ret;exact⟨g,rfl,hfin.out,hgw.out,hbw⟩
end Sp

end Go.Proofs.YtnflnicdjioflaaGreatDoor
