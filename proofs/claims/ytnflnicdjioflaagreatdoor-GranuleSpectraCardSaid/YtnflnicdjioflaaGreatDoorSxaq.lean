/- A part of the proof. -/
import Derived.Test.YtnflnicdjioflaaGreatDoorSxal
set_option linter.unusedVariables false
set_option linter.unusedSimpArgs false
set_option maxRecDepth 100000
set_option maxHeartbeats 8000000
namespace Go.Proofs.YtnflnicdjioflaaGreatDoor
open Go.RowKit Go.Proofs.YtnflnicdjioflaaGreatDoorW.PrintWords Go.Proofs.YtnflnicdjioflaaGreatDoorW.PrintLast Go.Proofs.YtnflnicdjioflaaGreatDoorW.PrintMore
namespace Pre
attribute [local go_sem] Qh Qi Qk Ql Qd Qe
open Q15
open Runs Go.Shelf
open Q21 (Qb)
open Bts (Rws Row Blk)
theorem Codes_no (A:Option Addr) (cap:Nat) (l:List Int) (w:World) (hr:(Kd.int .i64).C w A l.length l) (hl:l.length<=1000000) (he:Kh l≠0):
  Calls Tryz.prog 151 #[.slice A l.length cap] w fun e w'=>e= .returned (.tuple #[.slice none 0 0,.int .i64 (Kh l)])/\Below w.heap.size w w':=by
 have hb:=Below.refl w.heap.size w;have HF:=Vw A cap l w hr hl;obtain⟨E,hE⟩: ∃E,E=Kh l:=⟨_,rfl⟩;rw[<-hE] at HF he ⊢;replace HF:=Qa.mk HF;have h0':(E != 0)=true:=bne_iff_ne.2 he;clear hE hr hl;go_enter Tryz.func151,Tryz.ntmps151;go_wp2_with (first|(go_at_call 197;refine(HF.out).mono ?_;rintro e w' ⟨rfl,hbn⟩;replace hb:=bnx hb hbn;clear hbn));go_ret2;exact⟨rfl,hb⟩
theorem Le (A:Option Addr) (cap:Nat) (l:List Int) (w:World) (hr:(Kd.int .i64).C w A l.length l) (he:Kh l=0):
  Calls Tryz.prog 151 #[.slice A l.length cap] w fun e w'=> ∃v,e= .returned (.tuple #[v,.int .i64 0])/\(Kd.int .i64).R 3 w' w.heap.size (fun _=>True) v (Ji l)/\Below w.heap.size w w':=by
 have hl:l.length<=256:=by
  unfold Kh at he;by_cases h:256<l.length
  ·rw[decide_eq_true h] at he;simp at he
  ·omega
 have hb:=Below.refl w.heap.size w;have HF:=Vw A cap l w hr (by omega);rw[he] at HF;have HW:=fun(W:World) (hb:Below w.heap.size w W)=>Qa8 A cap l W (Kd.Qf hr hb) hl
 obtain⟨ps,hps⟩: ∃ps,ps=(Zv l (Xc l).length).2:=⟨_,rfl⟩;have hpl:ps.length=l.length:=(by rw[hps,Ul]);have hcd:Ji l=ps.map (·.2):=(by rw[hps];rfl);rw[<-hps] at HW;rw[hcd];rw[<-hpl] at HW;have hlI:(ps.length:Int)<=256:=(by omega);replace HF:=Qa.mk HF;replace HW:=Qa.mk HW;replace hpl:=Qa.mk hpl;clear he hr hl hps hcd;have hu:=Tryz.underlying204;rw[<-hpl.out] at HF ⊢;go_enter Tryz.func151,Tryz.ntmps151;go_wp2_with (first|(go_at_call 197;refine(HF.out).mono ?_;rintro e w' ⟨rfl,hbn⟩;replace hb:=bnx hb hbn;clear hbn)|(go_at_call 198;refine(HW.out _ hb).mono ?_;rintro e w2 ⟨g,rfl,hg,hgs,hb2⟩;replace hb:=bnx hb hb2;have HG:=Qa.mk hg;clear hg hb2));go_loopw [5,16] (fun o i wr=> ∃k:Nat,i= .int .i64 k/\k<=ps.length/\Qa ((Kd.int .i64).R 3 wr w2.heap.size (fun _=>True) o ((ps.take k).map (·.2)))/\Below w2.heap.size w2 wr) (fun _ i _=>ps.length-(intOf i).toNat)
 case atStart=>exact⟨0,rfl,by omega,⟨Kd.Zx _ _ _ _ _⟩,Below.refl _ _⟩
 case round=>
  obtain⟨k,rfl,hk,ho,hbL⟩:=hrel;by_cases hlt:k<ps.length
  ·obtain⟨q1,q2⟩:=Fj hlt
   have HT:Qa ((ps.take (k+1)).map (·.2)=(ps.take k).map (·.2)++[(ps[k]).2]):=⟨by rw[List.take_add_one,List.map_append,List.getElem?_eq_getElem hlt];rfl⟩;have m1:=cnx (show w2.cell? ⟨g,k*2,none⟩=some (.int .i64 (ps[k]).1) by rw[Qb HG.out,Nat.mul_comm];exact q1) hbL;have m2:=cnx (show w2.cell? ⟨g,k*2+1,none⟩=some (.int .i64 (ps[k]).2) by rw[Qb HG.out,Nat.mul_comm];exact q2) hbL;obtain⟨p1,hp1⟩: ∃p1,p1=(ps[k]).1:=⟨_,rfl⟩;obtain⟨p2,hp2⟩: ∃p2,p2=(ps[k]).2:=⟨_,rfl⟩;rw[<-hp1] at m1;rw[<-hp2] at m2 HT;have hal:Qa (Below wr.heap.size wr (wr.alloc (.cells #[.int .i64 p1,.int .i64 p2] 204))):=⟨Below.alloc (Below.refl _ _) (Nat.le_refl _) _⟩;obtain⟨y,hy⟩: ∃y,y=(ps.take k).map (·.2):=⟨_,rfl⟩;have hyl:y.length<=256:=(by rw[hy];simp;omega);rw[<-hy] at ho HT;clear hy hp1 hp2 q1 q2;go_wp2_with (first|(at_builtin;refine Kd.Q3 (Kd.int .i64) (w0:=w2) w2.heap.size rfl (.tmp 20) (.tmp 23) 22 3 (.int .i64 0) 8 rfl Tryz.underlying22 Qw rfl (by decide) (by omega) u5 y (p2) [.int .i64 (p2)] (fun _=>True) (fun _=>False) rfl (by show Value.slice (some ⟨wr.heap.size+1,0,none⟩) 1 1=_;rw[World.size_alloc]) rfl (fun _ hk=>hk.elim) (fun _ _=>trivial) (Kd.Q4 ho.out hal.out) (bnx hbL hal.out) (bnx hbL hal.out).size (by omega) ?_;intro v1 wA hoA hbA hgA hatA;have HOA:=Qa.mk hoA;have HBA:=Qa.mk hbA;clear hoA hbA hgA hatA));go_roundw
   case rel=>exact⟨k+1,by go_num,by omega,⟨by rw[HT.out];exact HOA.out⟩,HBA.out⟩
   case measure=>simp[intOf];omega
  ·obtain rfl:k=ps.length:=by omega
   rw[List.take_length] at ho;go_wp2;go_ret2;exact⟨_,rfl,Kd.Zz ho.out hb.size,bnx hb hbL⟩
end Pre

end Go.Proofs.YtnflnicdjioflaaGreatDoor
