/- A part of the proof. -/
import Derived.Test.YtnflnicdjioflaaGreatDoorSxaj
set_option linter.unusedVariables false
set_option linter.unusedSimpArgs false
set_option maxRecDepth 100000
set_option maxHeartbeats 8000000
namespace Go.Proofs.YtnflnicdjioflaaGreatDoor
open Go.RowKit Go.Proofs.YtnflnicdjioflaaGreatDoorW.PrintWords Go.Proofs.YtnflnicdjioflaaGreatDoorW.PrintLast Go.Proofs.YtnflnicdjioflaaGreatDoorW.PrintMore
namespace Bts
attribute [local go_sem] Qh Qi Qk Ql Qd Qe
open Q15 (cnx bnx)
open Q21 (Qb Qj)
def Ee (fs:List (Nat×Nat)):Array Value:=(fs.map fun f=>[Value.int .i64 f.1,Value.int .i64 f.2]).flatten.toArray
def Y7 (fs:List (Nat×Nat)):List Int:=(fs.map fun f=>Yj f.1 f.2).flatten
def Jc (fs:List (Nat×Nat)):Nat:=(fs.map (·.2)).sum
theorem Qd2 (fs:List (Nat×Nat)):(Y7 fs).length =Jc fs:=by
 unfold Y7 Jc
 induction fs with
 |nil=>rfl
 |cons f t ih=>simp[Yf,ih]
theorem Lt {fs:List (Nat×Nat)} {k:Nat} (hk:k<fs.length):(Ee fs)[2*k]? =some (.int .i64 (fs[k]).1)/\(Ee fs)[2*k+1]? =some (.int .i64 (fs[k]).2):=by
 unfold Ee
 induction fs generalizing k with
 |nil=>simp at hk
 |cons f t ih=>
  cases k with
  |zero=>simp
  |succ k=>
   have h:=ih (k:=k) (by simpa using hk);simp only[List.map_cons,List.flatten_cons,List.getElem?_toArray] at h ⊢;rw[show 2*(k+1)=2*k+2 by omega,show 2*k+2+1=(2*k+1)+2 by omega];rw[List.getElem?_append_right (by simp),List.getElem?_append_right (by simp)];simpa using h
theorem Pn {fs:List (Nat×Nat)} {k:Nat} (hk:k<fs.length):Y7 (fs.take (k+1))=Y7 (fs.take k)++Yj (fs[k]).1 (fs[k]).2/\Jc (fs.take (k+1))=Jc (fs.take k)+(fs[k]).2:=by
 have h:fs.take (k+1)=fs.take k++[fs[k]]:=(by rw[List.take_add_one,List.getElem?_eq_getElem hk];rfl);unfold Y7 Jc;rw[h,List.map_append,List.map_append,List.flatten_append,List.sum_append];simp only[List.map_cons,List.map_nil,List.flatten_cons,List.flatten_nil,List.append_nil,List.sum_cons,List.sum_nil,Nat.add_zero,and_self]
theorem Ey (v n:Int) (w:World):
  Calls Tryz.prog 182 #[.int .i64 v,.int .i64 n] w fun e w'=>e= .returned (.func (.func 212) #[] #[.pointer (some ⟨w.heap.size+1,0,none⟩),.pointer (some ⟨w.heap.size,0,none⟩)])/\w'=(w.alloc (.cells #[.int .i64 v] 3)).alloc (.cells #[.int .i64 n] 3):=by
 go_enter Tryz.func182,Tryz.ntmps182;go_wp2;go_ret;exact⟨rfl,rfl⟩
theorem Qaa {w w':World} {v n:Int} (h:w'=(w.alloc (.cells #[.int .i64 v] 3)).alloc (.cells #[.int .i64 n] 3)):Below w.heap.size w w'/\w'.heap[w.heap.size]? =some (.cells #[.int .i64 v] 3 (0,0))/\w'.heap[w.heap.size+1]? =some (.cells #[.int .i64 n] 3 (0,0)):=by
 have hs:(w.alloc (.cells #[.int .i64 v] 3)).heap.size =w.heap.size+1:=(by go_simp);subst h;refine⟨((Below.refl _ _).alloc (Nat.le_refl _) _).alloc (by omega) _,?_,?_⟩
 ·rw[Below.heap_alloc _ _ _ (by omega)]
  exact heap_alloc_new _ _
 ·rw[<-hs]
  exact heap_alloc_new _ _
theorem Ui (base p:Nat) (q:Option Nat) (l:List Int) (fs:List (Nat×Nat)) (g cf:Nat) (w:World) (hw:Wr w base p q l) (hg:w.heap[g]? =some (.cells (Ee fs) 140 (0,0))) (hf: ∀f∈fs,f.1<4294967296/\f.2<=32) (hn:fs.length<=4):
  Calls Tryz.prog 137 #[.pointer (some ⟨p,0,none⟩),.slice (some ⟨g,0,none⟩) fs.length cf] w fun e w'=>e= .returned (.int .i64 (if l.length+Jc fs>1048576 then 2 else 0))/\WrP base p q (if l.length+Jc fs>1048576 then l else l++Y7 fs) w w':=by
 have hu:=Tryz.underlying140;have hnI:(fs.length:Int)<=4:=(by omega);have hwl:l.length<=1048576:=by obtain⟨v,_,_,_,_,_,h⟩:=hw;exact h
 have hfk:Qa (∀k (h:k<fs.length),(fs[k]).1<4294967296/\(fs[k]).2<=32/\Jc (fs.take k)<=32*k):=⟨fun k h=>by
  refine⟨(hf _ (List.getElem_mem h)).1,(hf _ (List.getElem_mem h)).2,?_⟩
  induction k with
  |zero=>simp[Jc]
  |succ k ih=>
   have h1:=ih (by omega);have h2:=(hf _ (List.getElem_mem (show k<fs.length by omega))).2;rw[(Pn (show k<fs.length by omega)).2]
   omega⟩
 have HG:=Qa.mk hg;have HW:=Qa.mk hw;replace hwl:=Qa.mk hwl;obtain⟨full,hfull⟩: ∃full,full=decide (l.length+Jc fs>1048576):=⟨_,rfl⟩
 have hpost:Qa (∀(e:Ending) (w':World),(e= .returned (.int .i64 (if full=true then 2 else 0))/\WrP base p q (if full=true then l else l++Y7 fs) w w')->(e= .returned (.int .i64 (if l.length+Jc fs>1048576 then 2 else 0))/\WrP base p q (if l.length+Jc fs>1048576 then l else l++Y7 fs) w w')):=⟨fun e w' h=>by
  rw[hfull] at h
  simpa using h⟩
 refine Calls.mono ?_ (fun e w' h=>hpost.out e w' h);clear hpost hg hw hf hn;replace hfull:=Qa.mk hfull;go_enter Tryz.func137,Tryz.ntmps137;go_wp2_with fail;go_loopw [5,12] (fun s i wr=> ∃k:Nat,i= .int .i64 k/\k<=fs.length/\s= .int .i64 (Jc (fs.take k):Nat)/\Qa (Below w.heap.size w wr)) (fun _ i _=>fs.length-(intOf i).toNat)
 case atStart=>exact⟨0,rfl,by omega,by simp[Jc],⟨Below.refl _ _⟩⟩
 case round=>
  obtain⟨k,rfl,hk,rfl,hb⟩:=hrel;by_cases hlt:k<fs.length
  ·have hkI:(k:Int)<(fs.length:Int):=by omega
   have hG:=Qv HG.out hb.out;obtain⟨q1,q2⟩:=Lt hlt;obtain⟨b1,b2,b3⟩:=hfk.out k hlt;obtain⟨-,ht⟩:=Pn hlt;obtain⟨x,hx⟩: ∃x,x=(fs[k]).1:=⟨_,rfl⟩;obtain⟨y,hy⟩: ∃y,y=(fs[k]).2:=⟨_,rfl⟩;rw[<-hx] at q1 b1;rw[<-hy] at q2 b2 ht;have m1:wr.cell? ⟨g,k*2,none⟩=some (.int .i64 x):=(by rw[Qb hG,Nat.mul_comm];exact q1);have m2:wr.cell? ⟨g,k*2+1,none⟩=some (.int .i64 y):=(by rw[Qb hG,Nat.mul_comm];exact q2);obtain⟨s,hs⟩: ∃s,s=Jc (fs.take k):=⟨_,rfl⟩;rw[<-hs] at b3 ht ⊢;have hsI:(s:Int)<=128:=(by omega);have hyI:(y:Int)<=32:=(by omega);replace ht:=Qa.mk ht;have hlt':=Qa.mk hlt;clear hx hy hs q1 q2 b1 b2 b3 hG hlt;go_wp2_with fail;go_roundw
   case rel=>exact⟨k+1,by go_num,hlt'.out,by rw[ht.out];go_num,⟨(hb.out.alloc hb.out.size _)⟩⟩
   case measure=>have:=hlt'.out;simp[intOf];omega
  ·obtain rfl:k=fs.length:=by omega
   rw[List.take_length];have hW:=HW.out.step hb.out;obtain⟨vb,hB,-⟩:=hW;have k1:wr.cell? ⟨p,1,none⟩=some (.int .i64 l.length):=by rw[Qb hB];rfl
   have hft:decide (1048576<(l.length:Int)+(Jc fs:Int))=full:=by
    rw[hfull.out]
    apply decide_eq_decide.2
    omega
   have hsI:(Jc fs:Int)<=128:=by
    rcases Nat.eq_zero_or_pos fs.length with h0|h0
    ·rw[List.length_eq_zero_iff.1 h0];simp[Jc]
    ·have h1:=hfk.out (fs.length-1) (by omega)
     have h2:=(Pn (show fs.length-1<fs.length by omega)).2;rw[show fs.length-1+1=fs.length by omega,List.take_length] at h2;omega
   have hlI:(l.length:Int)<=2000000:=(by have:=hwl.out;omega);replace hb:=Qa.mk hb.out;clear hB
   cases full with
   |true=>
    go_wp2_with fail;go_ret;exact⟨rfl,q,HW.out.step hb.out,.inl rfl,Kp.of_below hb.out _ _⟩
   |false=>
    have hroom:Qa (l.length+Jc fs<=1048576):=⟨by have:=hfull.out;simp at this;omega⟩;go_wp2_with fail;go_loopw [30] (fun i wr'=> ∃k:Nat,i= .int .i64 k/\k<=fs.length/\Qa (WrP base p q (l++Y7 (fs.take k)) w wr')) (fun i _=>fs.length-(intOf i).toNat)
    case atStart=>exact⟨0,rfl,by omega,⟨q,by simpa[Y7] using HW.out.step hb.out,.inl rfl,Kp.of_below hb.out _ _⟩⟩
    case round=>
     obtain⟨k,rfl,hk,hP⟩:=hrel;by_cases hlt:k<fs.length
     ·obtain⟨wo,rfl⟩: ∃wo:World,wo=wr:=⟨_,rfl⟩
      obtain⟨q1,hW1,hq1,hK1⟩:=hP.out;have hkI:(k:Int)<(fs.length:Int):=(by omega);have hG:=hK1.blk HG.out (HW.out.pne HG.out (by decide)) (HW.out.qne HG.out (by decide));obtain⟨r1,r2⟩:=Lt hlt;obtain⟨b1,b2,b3⟩:=hfk.out k hlt;obtain⟨hbt,ht⟩:=Pn hlt
      have hroom2:(l++Y7 (fs.take k)).length +(fs[k]).2<=1048576:=by
       have h1:Jc (fs.take (k+1))<=Jc fs:=by
        conv=>rhs;rw[<-List.take_append_drop (k+1) fs]
        unfold Jc;rw[List.map_append,List.sum_append];omega
       have:=hroom.out;rw[List.length_append,Qd2];omega
      obtain⟨x,hx⟩: ∃x,x=(fs[k]).1:=⟨_,rfl⟩;obtain⟨y,hy⟩: ∃y,y=(fs[k]).2:=⟨_,rfl⟩;rw[<-hx] at r1 b1 hbt;rw[<-hy] at r2 b2 ht hbt hroom2;have m1:wo.cell? ⟨g,k*2,none⟩=some (.int .i64 x):=(by rw[Qb hG,Nat.mul_comm];exact r1);have m2:wo.cell? ⟨g,k*2+1,none⟩=some (.int .i64 y):=(by rw[Qb hG,Nat.mul_comm];exact r2);have hlt':=Qa.mk hlt;replace hbt:=Qa.mk hbt;replace b1:=Qa.mk b1;replace b2:=Qa.mk b2;replace hroom2:=Qa.mk hroom2;have hE:=Qa.mk (And.intro hW1 (And.intro hq1 hK1));clear hx hy r1 r2 ht hG hlt b3 hW1 hq1 hK1;go_wp2_with fail;obtain⟨w1,hw1⟩: ∃w1,w1=wo.alloc (.cells #[.int .i64 x,.int .i64 y] 140):=⟨_,rfl⟩;rw[<-hw1];have hb1:=Qa.mk (show Below wo.heap.size wo w1 by rw[hw1];exact(Below.refl _ _).alloc (Nat.le_refl _) _);clear hw1 m1 m2;refine(Ey x y w1).mono ?_;rintro e w2 ⟨rfl,hw2⟩;obtain⟨hb2,n1,n2⟩:=Qaa hw2;have hW2:=(hE.out.1.step hb1.out).step hb2;have HEach:=Qa.mk (each_num base p q1 (l++Y7 (fs.take k)) (w1.heap.size+1) w1.heap.size x y w2 hW2 b1.out b2.out hroom2.out n2 n1);replace hb2:=Qa.mk hb2;clear hw2 n1 n2 hW2;go_wp2_with fail;refine HEach.out.mono ?_;rintro e w3 ⟨rfl,hP3⟩
      have hfin:Qa (WrP base p q (l++Y7 (fs.take (k+1))) w w3):=⟨by
       obtain⟨q3,c1,c2,c3⟩:=hP3;obtain⟨d1,d2,d3⟩:=hE.out;refine⟨q3,by rw[hbt.out,<-List.append_assoc];exact c1,?_,(d3.Zk ((bnx hb1.out hb2.out).mono d3.size)).trans c3 ?_⟩
       ·have hs:=(bnx hb1.out hb2.out).size
        rcases c2 with e|⟨b,e,hle⟩
        ·rw[e];exact d2
        ·exact .inr ⟨b,e,by have:=d3.size;omega⟩
       ·exact d2⟩
      clear hP3;go_wp2_with fail;go_roundw
      case rel=>exact⟨k+1,by go_num,hlt'.out,hfin⟩
      case measure=>have:=hlt'.out;simp[intOf];omega
     ·obtain rfl:k=fs.length:=by omega
      rw[List.take_length] at hP;go_wp2_with fail;go_ret;exact⟨rfl,hP.out⟩
end Bts

namespace Bts
attribute [local go_sem] Qh Qi Qk Ql Qd Qe
open Q15 (cnx bnx)
open Q21 (Qb Qj)
def Ka (l k:List Int):List Int:=if l.length+k.length>1048576 then l else l++k
def Ck (l k:List Int):Int:=if l.length+k.length>1048576 then 2 else 0
theorem fB1 (v n:Nat):Y7 [(v,n)]=Yj v n:=by simp[Y7]
theorem Qdk (w:World):
  Calls Tryz.prog 83 #[] w fun e w'=> ∃p,e= .returned (.pointer (some ⟨p,0,none⟩))/\Wr w' w.heap.size p none []/\Below w.heap.size w w':=by
 have hu:=Tryz.underlying109;go_enter Tryz.func83,Tryz.ntmps83;go_wp2;go_ret;refine⟨w.heap.size,rfl,⟨.slice none 0 0,heap_alloc_new _ _,by rw[Qek];exact Kd.Zx _ _ _ _ _,rfl,Qbx,Nat.le_refl _,by simp⟩,(Below.refl _ _).alloc (Nat.le_refl _) _⟩
theorem Dm (base p:Nat) (q:Option Nat) (l:List Int) (w:World) (hw:Wr w base p q l):
  Calls Tryz.prog 44 #[.pointer (some ⟨p,0,none⟩)] w fun e w'=>e= .returned (.int .i64 l.length)/\w=w':=by
 obtain⟨v,hB,-⟩:=hw;have k1:w.cell? ⟨p,1,none⟩=some (.int .i64 l.length):=(by rw[Qb hB];rfl);clear hB;go_enter Tryz.func44,Tryz.ntmps44;go_wp2_with fail;go_ret;exact⟨rfl,rfl⟩
theorem Qdl (base p:Nat) (q:Option Nat) (l:List Int) (v n:Nat) (w:World) (hw:Wr w base p q l) (hn:n<=32) (hv:v<2^n):
  Calls Tryz.prog 84 #[.pointer (some ⟨p,0,none⟩),.int .i64 v,.int .i64 n] w fun e w'=>e= .returned (.int .i64 (Ck l (Yj v n)))/\WrP base p q (Ka l (Yj v n)) w w':=by
 have hv32:v<4294967296:=Nat.lt_of_lt_of_le hv (Nat.pow_le_pow_right (by omega) hn);have HP:=Qa.mk (fun(W:World) (hb:Below w.heap.size w W) (g cf:Nat) (hg:W.heap[g]? =some (.cells #[.int .i64 v,.int .i64 n] 140 (0,0)))=>Ui base p q l [(v,n)] g cf W (hw.step hb) hg (fun f hf=>by rw[List.mem_singleton.1 hf];exact⟨hv32,hn⟩) (by simp));have hnI:(n:Int)<=32:=(by omega);have hvI:(v:Int)<=4294967295:=(by omega);have hE:Qa (Jc [(v,n)]=(Yj v n).length /\Y7 [(v,n)]=Yj v n):=⟨by simp[Jc,Yf],fB1 v n⟩;have b1:decide ((n:Int)<0)=false:=decide_eq_false (by omega);have b2:decide (32<(n:Int))=false:=decide_eq_false (by omega);have b3:decide ((v:Int)<0)=false:=decide_eq_false (by omega)
 have b4:decide (wrap64 (2^n)<=(v:Int))=false:=decide_eq_false (by
  have hp:((2^n:Nat):Int)=2^n:=(by simp);have hp2:(2:Nat)^n<=2^32:=Nat.pow_le_pow_right (by omega) hn;rw[IntWalk.wrap64_in _ (by omega)]
  omega)
 clear hw hn hv hv32;go_enter Tryz.func84,Tryz.ntmps84;go_wp2_with fail;obtain⟨W,hW⟩: ∃W,W=w.alloc (.cells #[.int .i64 v,.int .i64 n] 140):=⟨_,rfl⟩;have hb:Below w.heap.size w W:=(by rw[hW];exact(Below.refl _ _).alloc (Nat.le_refl _) _);have hG:W.heap[w.heap.size]? =some (.cells #[.int .i64 v,.int .i64 n] 140 (0,0)):=(by rw[hW];exact heap_alloc_new _ _);rw[<-hW];have H:=Qa.mk (HP.out W hb w.heap.size 1 hG);simp only[List.length_cons,List.length_nil,Nat.zero_add] at H;replace hb:=Qa.mk hb;clear hW hG HP;refine H.out.mono ?_;rintro e w' ⟨rfl,q',h1,h2,h3⟩
 have hfin:Qa (WrP base p q (Ka l (Yj v n)) w w'):=⟨by
  refine⟨q',?_,?_,(Kp.of_below hb.out p q).trans h3 (.inl rfl)⟩
  ·rw[hE.out.1,hE.out.2] at h1
   exact h1
  ·rcases h2 with e|⟨g,e,hg⟩
   ·exact .inl e
   ·exact .inr ⟨g,e,Nat.le_trans hb.out.size hg⟩⟩
 rw[hE.out.1];obtain⟨E,hEe⟩: ∃E:Int,(if l.length+(Yj v n).length >1048576 then 2 else 0)=E:=⟨_,rfl⟩;rw[hEe];have hEr:Qa (Ck l (Yj v n)=E):=⟨hEe⟩;clear h1 h2 h3 H hEe;go_wp2_with fail;go_ret;exact⟨by rw[hEr.out];rfl,hfin.out⟩
end Bts

namespace Bts
attribute [local go_sem] Qh Qi Qk Ql Qd Qe
open Q15 (cnx bnx)
open Q21 (Qb Qj)
theorem and_low (v:Int) (n:Nat) (hn:n<=32):bits .and .i64 v (2^n-1)=v%2^n:=by
 have hp:((2^n:Nat):Int)=2^n:=(by simp);have hp2:(2:Nat)^n<=2^32:=Nat.pow_le_pow_right (by omega) hn;have hp0:0<2^n:=Nat.pow_pos (by omega);have hd:(2:Nat)^n∣2^64:=Nat.pow_dvd_pow 2 (by omega)
 have h2:(BitVec.ofInt 64 ((2:Int)^n-1)).toNat =2^n-1:=by
  rw[BitVec.toNat_ofInt];rw[Int.emod_eq_of_lt (by omega) (by omega)];omega
 have h1:(BitVec.ofInt 64 v &&& BitVec.ofInt 64 ((2:Int)^n-1)).toNat =(v%2^n).toNat :=by
  rw[BitVec.toNat_and,h2,Nat.and_two_pow_sub_one_eq_mod,BitVec.toNat_ofInt]
  have h3:((v%((2^64:Nat):Int)).toNat %2^n:Nat)=((v%((2^64:Nat):Int))%((2^n:Nat):Int)).toNat :=by
   have h0:0<=v%((2^64:Nat):Int):=Int.emod_nonneg _ (by decide);obtain⟨z,hz⟩:=Int.eq_ofNat_of_zero_le h0;rw[hz,<-Int.natCast_emod,Int.toNat_natCast,Int.toNat_natCast]
  rw[h3,Int.emod_emod_of_dvd _ (Int.natCast_dvd_natCast.2 hd),hp]
 show IntKind.i64.wrap ((BitVec.ofInt 64 v &&& BitVec.ofInt 64 ((2:Int)^n-1)).toNat :Int)=_
 have h4:0<=v%2^n/\v%2^n<2^n:=⟨Int.emod_nonneg _ (by omega),Int.emod_lt_of_pos _ (by omega)⟩;rw[h1,Int.toNat_of_nonneg h4.1];exact IntWalk.i64_in _ (by omega)
theorem Mh (base p:Nat) (q:Option Nat) (l:List Int) (v:Int) (w:World) (hw:Wr w base p q l) (h0: -128<=v) (h1:v<=127):
  Calls Tryz.prog 88 #[.pointer (some ⟨p,0,none⟩),.int .i64 v,.int .i64 8] w fun e w'=>e= .returned (.int .i64 (Ck l (Yj (v%256).toNat 8)))/\WrP base p q (Ka l (Yj (v%256).toNat 8)) w w':=by
 obtain⟨x,hx⟩: ∃x,x=(v%256).toNat :=⟨_,rfl⟩;rw[<-hx];have hx8:x<256:=(by omega);have hxv:v%256=(x:Int):=(by omega);have HP:=Qa.mk (fun(W:World) (hb:Below w.heap.size w W) (g cf:Nat) (hg:W.heap[g]? =some (.cells #[.int .i64 x,.int .i64 8] 140 (0,0)))=>Ui base p q l [(x,8)] g cf W (hw.step hb) hg (fun f hf=>by rw[List.mem_singleton.1 hf];exact⟨by simp only;omega,by simp⟩) (by simp));have hE:Qa (Jc [(x,8)]=(Yj x 8).length /\Y7 [(x,8)]=Yj x 8):=⟨by simp[Jc,Yf],fB1 x 8⟩
 have b1:bits .and .i64 v 255=(x:Int):=by
  have h:=and_low v 8 (by omega);rw[show(2:Int)^8-1=255 by decide,show(2:Int)^8=256 by decide] at h;rw[h,hxv]
 have b2:decide (v< -128)=false:=decide_eq_false (by omega);have b3:decide (128<=v)=false:=decide_eq_false (by omega);replace hxv:=Qa.mk hxv;replace hx:=Qa.mk hx;clear hw;go_enter Tryz.func88,Tryz.ntmps88;go_wp2_with fail;obtain⟨W,hW⟩: ∃W,W=w.alloc (.cells #[.int .i64 x,.int .i64 8] 140):=⟨_,rfl⟩;have hb:Below w.heap.size w W:=(by rw[hW];exact(Below.refl _ _).alloc (Nat.le_refl _) _);have hG:W.heap[w.heap.size]? =some (.cells #[.int .i64 x,.int .i64 8] 140 (0,0)):=(by rw[hW];exact heap_alloc_new _ _);rw[<-hW];have H:=Qa.mk (HP.out W hb w.heap.size 1 hG);simp only[List.length_cons,List.length_nil,Nat.zero_add] at H;replace hb:=Qa.mk hb;clear hW hG HP;refine H.out.mono ?_;rintro e w' ⟨rfl,q',h1,h2,h3⟩
 have hfin:Qa (WrP base p q (Ka l (Yj x 8)) w w'):=⟨by
  refine⟨q',?_,?_,(Kp.of_below hb.out p q).trans h3 (.inl rfl)⟩
  ·rw[hE.out.1,hE.out.2] at h1
   exact h1
  ·rcases h2 with e|⟨g,e,hg⟩
   ·exact .inl e
   ·exact .inr ⟨g,e,Nat.le_trans hb.out.size hg⟩⟩
 rw[hE.out.1];obtain⟨E,hEe⟩: ∃E:Int,(if l.length+(Yj x 8).length >1048576 then 2 else 0)=E:=⟨_,rfl⟩;rw[hEe];have hEr:Qa (Ck l (Yj x 8)=E):=⟨hEe⟩;clear h1 h2 h3 H hEe;go_wp2_with fail;go_ret;exact⟨by rw[hEr.out];rfl,hfin.out⟩
def Bn (v:Nat):List Int:=Yj 0 v.log2++Yj v (v.log2+1)
theorem Rh (v:Nat):(Bn v).length =2*v.log2+1:=by simp[Bn,Yf];omega
theorem Oo (base p:Nat) (q:Option Nat) (l:List Int) (v:Nat) (w:World) (hw:Wr w base p q l) (h0:1<=v) (h1:v<2097152):
  Calls Tryz.prog 148 #[.pointer (some ⟨p,0,none⟩),.int .i64 v] w fun e w'=>e= .returned (.int .i64 (Ck l (Bn v)))/\WrP base p q (Ka l (Bn v)) w w':=by
 obtain⟨K,hK⟩: ∃K,K=v.log2:=⟨_,rfl⟩;have hK1:2^K<=v:=(by rw[hK];exact Nat.log2_self_le (by omega));have hK2:v<2^(K+1):=by rw[hK];exact Nat.lt_log2_self
 have hK20:K<=20:=by
  by_cases h:K<=20
  ·exact h
  ·have:2^21<=2^K:=Nat.pow_le_pow_right (by omega) (by omega)
   omega
 have HP:=Qa.mk (fun(W:World) (hb:Below w.heap.size w W) (g cf:Nat) (hg:W.heap[g]? =some (.cells #[.int .i64 (0:Nat),.int .i64 K,.int .i64 v,.int .i64 (K+1:Nat)] 140 (0,0)))=>Ui base p q l [(0,K),(v,K+1)] g cf W (hw.step hb) hg (fun f hf=>by
  simp only[List.mem_cons,List.not_mem_nil,or_false] at hf
  rcases hf with rfl|rfl<;>exact⟨by simp only;omega,by simp only;omega⟩) (by simp))
 have hE:Qa (Jc [(0,K),(v,K+1)]=(Bn v).length /\Y7 [(0,K),(v,K+1)]=Bn v):=⟨by simp[Jc,Rh,hK];omega,by simp[Y7,Bn,hK]⟩;have hvI:(v:Int)<=2097151:=(by omega);have hv1:(1:Int)<=v:=by omega
 have hstep:Qa (∀k:Nat,k<K->0<(v:Int)/2^(k+1)):=⟨fun k hk=>by
  have h:2^(k+1)<=2^K:=Nat.pow_le_pow_right (by omega) (by omega);have h2:0<v/2^(k+1):=Nat.div_pos (by omega) (Nat.pow_pos (by omega));have h3:(v:Int)/2^(k+1)=((v/2^(k+1):Nat):Int):=by simp
  omega⟩
 have hstop:Qa ((v:Int)/2^(K+1)=0):=⟨by
  have h2:v/2^(K+1)=0:=Nat.div_eq_of_lt hK2;have h3:(v:Int)/2^(K+1)=((v/2^(K+1):Nat):Int):=by simp
  omega⟩
 have hKI:(K:Int)<=20:=(by omega);replace hK:=Qa.mk hK;clear hw hK1 hK2 h0 h1;go_enter Tryz.func148,Tryz.ntmps148;go_wp2_with fail;go_loop [5] (fun i=> ∃k:Nat,i= .int .i64 k/\k<=K) (fun i=>K-(intOf i).toNat)
 case atStart=>exact⟨0,rfl,by omega⟩
 case round=>
  obtain⟨k,rfl,hk⟩:=hrel;have hkI:(k:Int)<=20:=(by omega);by_cases hlt:k<K
  ·have hpos:=hstep.out k hlt
   obtain⟨t,ht⟩: ∃t,t=(v:Int)/2^(k+1):=⟨_,rfl⟩;rw[<-ht] at hpos;have ht':(v:Int)/2^(k+1)=t:=ht.symm;clear ht;go_wp2_with fail;go_round
   case rel=>exact⟨k+1,by go_num,hlt⟩
   case measure=>simp[intOf];omega
  ·obtain rfl:k=K:=by omega
   have hz:=hstop.out;go_wp2_with fail;obtain⟨W,hW⟩: ∃W,W=w.alloc (.cells #[.int .i64 0,.int .i64 k,.int .i64 v,.int .i64 ((k:Int)+1)] 140):=⟨_,rfl⟩;have hb:Below w.heap.size w W:=(by rw[hW];exact(Below.refl _ _).alloc (Nat.le_refl _) _);have hG:W.heap[w.heap.size]? =some (.cells #[.int .i64 (0:Nat),.int .i64 k,.int .i64 v,.int .i64 (k+1:Nat)] 140 (0,0)):=(by rw[hW];exact heap_alloc_new _ _);rw[<-hW];have H:=Qa.mk (HP.out W hb w.heap.size 2 hG);simp only[List.length_cons,List.length_nil,Nat.zero_add] at H;replace hb:=Qa.mk hb;clear hW hG HP;refine H.out.mono ?_;rintro e w' ⟨rfl,q',h1,h2,h3⟩
   have hfin:Qa (WrP base p q (Ka l (Bn v)) w w'):=⟨by
    refine⟨q',?_,?_,(Kp.of_below hb.out p q).trans h3 (.inl rfl)⟩
    ·rw[hE.out.1,hE.out.2] at h1
     exact h1
    ·rcases h2 with e|⟨g,e,hg⟩
     ·exact .inl e
     ·exact .inr ⟨g,e,Nat.le_trans hb.out.size hg⟩⟩
   rw[hE.out.1];obtain⟨E,hEe⟩: ∃E:Int,(if l.length+(Bn v).length >1048576 then 2 else 0)=E:=⟨_,rfl⟩;rw[hEe];have hEr:Qa (Ck l (Bn v)=E):=⟨hEe⟩;clear h1 h2 h3 H hEe;go_wp2_with fail;go_ret;exact⟨by rw[hEr.out];rfl,hfin.out⟩
end Bts

namespace Bk
theorem X6 (k k':IntKind) (x y:Int):Builtin.max2 (.int k x) (.int k' y)=pure (.int k (max x y)):=by
 simp only[Builtin.max2,gt_iff_lt];by_cases h:x<y
 ·rw[if_pos h,show max x y=y by omega]
 ·rw[if_neg h,show max x y=x by omega]
theorem X7 (k k':IntKind) (x y:Int):Builtin.min2 (.int k x) (.int k' y)=pure (.int k (min x y)):=by
 simp only[Builtin.min2];by_cases h:y<x
 ·rw[if_pos h,show min x y=y by omega]
 ·rw[if_neg h,show min x y=x by omega]
attribute [local go_sem] X6 X7 Qk Ql Qd Qe
open Q15
def dimL:List Nat:=[1,4,4,2,2,2,2,1]
def mostL:List Int:=[0,1,2,4,7,12,15,31]
def escL:List Bool:=[false,false,false,false,false,false,true,true]
def Jb (k:Nat):Nat:=dimL.getD k 1
def Xt (k:Nat):Int:=mostL.getD k 0
def Gc (k:Nat):Bool:=escL.getD k false
def szI (v:Int):Int:=max v (-v)
theorem Ws {v m:Int} (h: -m<=v/\v<=m):0<=szI v/\szI v<=m:=by unfold szI;omega
def isB (b:Int):Bool:=decide (0<=b/\b<8)
def Yk (l:List Int):Bool:=Q16.rng (-1023) 1023 l
theorem Y5 {l:List Int} (h:Yk l=true) {x:Int} (hx:x∈l): -1023<=x/\x<=1023:=by
 have:=List.all_eq_true.1 h x hx;simpa using this
def bkE (b:Int) (l:List Int):Int:=if isB b=true then(if Yk l=true then 0 else 6) else 5
def F4 (d:Nat) (m:Int) (e:Bool) (l:List Int):Bool:=l.all (fun v=>decide (szI v<=m)||e)&&decide (l.length%d=0)
def Xb (v:Int):Int:=2*(v.toNat.log2:Int)+1
def Jw (m:Int) (e:Bool) (v:Int):Int:=if v=0 then 0 else if e=true/\m<=szI v then 1+Xb (szI v-m+1) else 1
def Rb (m v:Int):Int:=min (szI v) m
def Fv (m:Int) (l:List Int):Int:=l.foldl (fun s d=>s*(m+1)+d) 0
def Sq (m:Int) (l:List Int):Int:=Fv m (l.map (Rb m))
def frm (d:Nat) (m:Int) (e:Bool):Value:= .agg #[.int .i64 d,.int .i64 m,.bool e]
theorem Uu (k:Nat):1<=Jb k/\Jb k<=4:=by
 by_cases h:k<8
 ·have: ∀k,k<8->1<=Jb k/\Jb k<=4:=by decide
  exact this k h
 ·unfold Jb;rw[List.getD_eq_getElem?_getD,List.getElem?_eq_none (by simpa[dimL] using h)];decide
theorem Vp (k:Nat):0<=Xt k/\Xt k<=31:=by
 by_cases h:k<8
 ·have: ∀k,k<8->0<=Xt k/\Xt k<=31:=by decide
  exact this k h
 ·unfold Xt;rw[List.getD_eq_getElem?_getD,List.getElem?_eq_none (by simpa[mostL] using h)];decide
theorem Qa3 (b:Int) (w:World) (h0: -1000000<=b) (h1:b<=1000000):
  Calls Tryz.prog 229 #[.int .i64 b] w fun e w'=>e= .returned (.bool (isB b))/\Below w.heap.size w w':=by
 have hb:=Below.refl w.heap.size w;by_cases h:0<=b
 ·by_cases h2:b<8
  ·have hi:Qa (isB b=true):=⟨decide_eq_true ⟨h,h2⟩⟩
   go_enter Tryz.func229,Tryz.ntmps229;go_wp2;go_ret;exact⟨by rw[hi.out];simp[h2],hb⟩
  ·have hi:Qa (isB b=false):=⟨decide_eq_false (by omega)⟩
   go_enter Tryz.func229,Tryz.ntmps229;go_wp2;go_ret;exact⟨by rw[hi.out];simp[h2],hb⟩
 ·have hi:Qa (isB b=false):=⟨decide_eq_false (by omega)⟩
  go_enter Tryz.func229,Tryz.ntmps229;go_wp2;go_ret;exact⟨by rw[hi.out];rfl,hb⟩
theorem Gv (v:Int) (w:World) (h0: -1000000<=v) (h1:v<=1000000):
  Calls Tryz.prog 196 #[.int .i64 v] w fun e w'=>e= .returned (.int .i64 (szI v))/\Below w.heap.size w w':=by
 have hb:=Below.refl w.heap.size w;go_enter Tryz.func196,Tryz.ntmps196;go_wp2;go_ret;exact⟨rfl,hb⟩
theorem Qdq (A:Option Addr) (cap:Nat) (l:List Int) (w:World) (hr:(Kd.int .i64).C w A l.length l) (hl:l.length<=1000000):
  Calls Tryz.prog 230 #[.slice A l.length cap] w fun e w'=>e= .returned (.bool (Yk l))/\Below w.heap.size w w':=by
 have HR:=Qa.mk hr;have hlI:(l.length:Int)<=1000000:=(by omega);have HF:Qa (∀k,k<l.length-> ¬((-1023)<=rd l k/\rd l k<=1023)->Yk l=false):=⟨fun k hk h=>List.all_eq_false.2 ⟨_,Qp l k hk,by simpa using h⟩⟩;have HT:Qa ((∀x∈l,(-1023)<=x/\x<=1023)->Yk l=true):=⟨fun h=>List.all_eq_true.2 fun x hx=>decide_eq_true (h x hx)⟩;obtain⟨b,hbe⟩: ∃b,b=Yk l:=⟨_,rfl⟩;rw[<-hbe] at HF HT ⊢;clear hr hl hbe;go_enter Tryz.func230,Tryz.ntmps230;go_wp2;go_loopw [7] (fun i wr=> ∃k:Nat,i= .int .i64 k/\k<=l.length/\Qa (∀x∈l.take k,(-1023)<=x/\x<=1023)/\Below w.heap.size w wr) (fun i _=>l.length-(intOf i).toNat)
 case atStart=>exact⟨0,rfl,by omega,⟨by simp⟩,Below.refl _ _⟩
 case round=>
  obtain⟨k,rfl,hk,ha,hb⟩:=hrel;by_cases hlt:k<l.length
  ·obtain⟨ad,rfl,hcell⟩:=Qn HR.out hb hlt
   have hT:=Qa.mk (Qu l k hlt);have hf:=HF.out k hlt;have hkI:(k:Int)<(l.length:Int):=(by omega);obtain⟨n,hx⟩: ∃n,n=rd l k:=⟨_,rfl⟩;rw[<-hx] at hcell hT hf;replace hf:=Qa.mk hf;clear hx;by_cases h1:n<(-1023)
   ·have hff:=Qa.mk (hf.out (by omega))
    go_wp2;go_ret;exact⟨by rw[hff.out];rfl,hb⟩
   ·by_cases h2:1023<n
    ·have hff:=Qa.mk (hf.out (by omega))
     have h1':decide (n<(-1023))=false:=(by simpa using h1);go_wp2;go_ret;exact⟨by rw[hff.out];rfl,hb⟩
    ·have h1':decide (n<(-1023))=false:=by simpa using h1
     have h2':decide (1023<n)=false:=(by simpa using h2);have h3:Qa ((-1023)<=n/\n<=1023):=⟨by omega⟩;clear h1 h2;go_wp2;go_roundw
     case rel=>exact⟨k+1,by go_num,by omega,⟨by
      rw[hT.out];intro x hx;rcases List.mem_append.1 hx with hx|hx
      ·exact ha.out x hx
      ·rw[List.mem_singleton.1 hx];exact h3.out⟩,hb⟩
     case measure=>simp[intOf];omega
  ·obtain rfl:k=l.length:=by omega
   have hA:=ha.out;rw[List.take_length] at hA;have hff:=Qa.mk (HT.out hA);clear ha hA;go_wp2;go_ret;exact⟨by rw[hff.out];rfl,hb⟩
theorem Vn (b:Int) (A:Option Addr) (cap:Nat) (l:List Int) (w:World) (h0: -1000000<=b) (h1:b<=1000000) (hr:(Kd.int .i64).C w A l.length l) (hl:l.length<=1000000):
  Calls Tryz.prog 213 #[.int .i64 b,.slice A l.length cap] w fun e w'=>e= .returned (.int .i64 (bkE b l))/\Below w.heap.size w w':=by
 have hb:=Below.refl w.heap.size w;have HT:=Qa.mk (fun(W:World)=>Qa3 b W h0 h1);have HA:=Qa.mk (fun(W:World) (hb:Below w.heap.size w W)=>Qdq A cap l W (Kd.Qf hr hb) hl);have hE:Qa (bkE b l=if isB b=true then(if Yk l=true then 0 else 6) else 5):=⟨rfl⟩;obtain⟨t,ht⟩: ∃t,t=isB b:=⟨_,rfl⟩;obtain⟨a,ha⟩: ∃a,a=Yk l:=⟨_,rfl⟩;rw[<-ht] at HT hE;rw[<-ha] at HA hE;clear ht ha hr hl;rcases t with _|_
 ·go_enter Tryz.func213,Tryz.ntmps213
  go_wp2_with (first|(go_at_call 229;refine((HT.out _)).mono ?_;rintro e w' ⟨rfl,hbn⟩;replace hb:=bnx hb hbn;clear hbn));go_ret;exact⟨by rw[hE.out];rfl,hb⟩
 ·rcases a with _|_
  ·go_enter Tryz.func213,Tryz.ntmps213
   go_wp2_with (first|(go_at_call 229;refine((HT.out _)).mono ?_;rintro e w' ⟨rfl,hbn⟩;replace hb:=bnx hb hbn;clear hbn)|(go_at_call 230;refine((HA.out _ hb)).mono ?_;rintro e w' ⟨rfl,hbn⟩;replace hb:=bnx hb hbn;clear hbn));go_ret;exact⟨by rw[hE.out];rfl,hb⟩
  ·go_enter Tryz.func213,Tryz.ntmps213
   go_wp2_with (first|(go_at_call 229;refine((HT.out _)).mono ?_;rintro e w' ⟨rfl,hbn⟩;replace hb:=bnx hb hbn;clear hbn)|(go_at_call 230;refine((HA.out _ hb)).mono ?_;rintro e w' ⟨rfl,hbn⟩;replace hb:=bnx hb hbn;clear hbn));go_ret;exact⟨by rw[hE.out];rfl,hb⟩
theorem Lu {v:Int} (h:1<v):Xb v=Xb (v/2)+2:=by
 unfold Xb;rw[show(v/2).toNat =v.toNat/2 by omega];rw[Nat.log2_def v.toNat,if_pos (by omega)]
 push_cast
 omega
theorem Im {v:Int} (h:v<=1):Xb v=1:=by
 unfold Xb;rw[Nat.log2_def,if_neg (by omega)];rfl
theorem Io (v:Int) (w:World) (h0: -1000000<=v) (h1:v<=1000000):
  Calls Tryz.prog 237 #[.int .i64 v] w fun e w'=>e= .returned (.int .i64 (Xb v))/\Below w.heap.size w w':=by
 have hb:=Below.refl w.heap.size w;obtain⟨G,hG⟩: ∃G,G=Xb v:=⟨_,rfl⟩;rw[<-hG];replace hG:=Qa.mk hG;go_enter Tryz.func237,Tryz.ntmps237;go_wp2;go_loopw [0,3] (fun x o wr=> ∃u n:Int,x= .int .i64 u/\o= .int .i64 n/\ -1000000<=u/\u<=1000000/\1<=n/\n+2*u<=2000100/\n<=2000100/\Qa (G+1=n+Xb u)/\Below w.heap.size w wr) (fun x _ _=>(intOf x).toNat)
 case atStart=>exact⟨v,1,rfl,rfl,h0,h1,by omega,by omega,by omega,⟨by rw[hG.out];omega⟩,hb⟩
 case round=>
  obtain⟨u,n,rfl,rfl,hu0,hu1,hn0,hnu,hn1,hg,hb⟩:=hrel;by_cases h2:1<u
  ·have hs:=Qa.mk (Lu h2)
   have hd:Int.tdiv u 2=u/2:=Int.tdiv_eq_ediv_of_nonneg (by omega);obtain⟨q,hq⟩: ∃q,q=u/2:=⟨_,rfl⟩;rw[<-hq] at hs hd;have hq1:1<=q/\q+1<=u:=(by omega);clear hq;go_wp2;go_roundw
   case rel=>exact⟨q,n+2,by go_num,by go_num,by omega,by omega,by omega,by omega,by omega,⟨by have:=hg.out;have:=hs.out;omega⟩,hb⟩
   case measure=>simp[intOf];omega
  ·have hs:=Qa.mk (Im (v:=u) (by omega))
   have hr:Qa (n=G):=⟨by have:=hg.out;have:=hs.out;omega⟩;go_wp2;go_ret;exact⟨by rw[<-hr.out];rfl,hb⟩
end Bk

end Go.Proofs.YtnflnicdjioflaaGreatDoor
