/- A part of the proof. -/
import Derived.Test.YtnflnicdjioflaaGreatDoorMdag
import Derived.Test.YtnflnicdjioflaaGreatDoorMdaf
set_option linter.unusedVariables false
set_option linter.unusedSimpArgs false
set_option maxRecDepth 100000
set_option maxHeartbeats 8000000
namespace Go.Proofs.YtnflnicdjioflaaGreatDoor
open Go.RowKit Go.Proofs.YtnflnicdjioflaaGreatDoorW.PrintWords Go.Proofs.YtnflnicdjioflaaGreatDoorW.PrintLast Go.Proofs.YtnflnicdjioflaaGreatDoorW.PrintMore
namespace Pre
attribute [local go_sem] Qi Qj Qk Ql Qg Qh
open Q15
def Uc (l:List Int) (s:Int×Int) (i:Nat):Int×Int:=(rd l i,(if s.1=0 then 0 else s.2+1)*2^(rd l i-s.1).toNat)
def Zu (l:List Int):Nat->(Int×Int)×List (Int×Int)
 |0=>((0,0),List.replicate l.length (0,0))
 |k+1=>let i:=(Z8 l).getD k 0;let s:=Uc l (Zu l k).1 i;(s,(Zu l k).2.set i s)
def Jq (l:List Int):List Int:=(Zu l (Z8 l).length).2.map (·.2)
theorem Ut (l:List Int): ∀k,(Zu l k).2.length =l.length
 |0=>by simp[Zu]
 |k+1=>by simp[Zu,Ut l k]
theorem Uy (l:List Int):(Jq l).length =l.length:=by simp[Jq,Ut]
theorem rowO_len (l:List Int) (n m:Nat):(D9 l n m).length <=m:=by
 unfold D9;exact Nat.le_trans (List.length_filter_le _ _) (by simp)
theorem Cz (l:List Int): ∀j,(Vd l j).length <=j*l.length
 |0=>by simp[Vd]
 |j+1=>by
  rw[U6,List.length_append,Nat.succ_mul];have:=Cz l j;have:=rowO_len l (j+1) l.length;omega
theorem Ng (l:List Int): ∀j,(Vd l j).Pairwise (fun a b:Nat=>rd l a<=rd l b)/\ ∀a∈Vd l j,rd l (a:Nat)<=j
 |0=>by simp[Vd]
 |j+1=>by
  obtain⟨h1,h2⟩:=Ng l j;rw[U6]
  have h3: ∀a∈D9 l (j+1) l.length,rd l a=((j+1:Nat):Int):=fun a ha=>by
   unfold D9 at ha;simp only[List.mem_filter,decide_eq_true_eq] at ha;exact ha.2
  refine⟨List.pairwise_append.2 ⟨h1,?_,fun a ha b hb=> ?_⟩,fun a ha=> ?_⟩
  ·refine List.Pairwise.imp_of_mem (R:=fun _ _=>True) (fun ha hb _=> ?_) (List.pairwise_of_forall (fun _ _=>trivial))
   rw[h3 _ ha,h3 _ hb];exact Int.le_refl _
  ·have:=h2 a ha
   rw[h3 b hb];omega
  ·rcases List.mem_append.1 ha with ha|ha
   ·have:=h2 a ha
    omega
   ·rw[h3 a ha]
    exact Int.le_refl _
theorem Cr {l:List Int} {k:Nat} (hk:k<(Z8 l).length):(Z8 l).getD k 0<l.length/\1<=rd l ((Z8 l).getD k 0:Nat)/\rd l ((Z8 l).getD k 0:Nat)<=16:=by
 have h:(Z8 l).getD k 0∈Z8 l:=by
  rw[List.getD_eq_getElem?_getD,List.getElem?_eq_getElem hk];exact List.getElem_mem hk
 exact ordL_mem h
theorem Qc4 {l:List Int} {k:Nat} (hk:k+1<(Z8 l).length):rd l ((Z8 l).getD k 0:Nat)<=rd l ((Z8 l).getD (k+1) 0:Nat):=by
 have h:=List.pairwise_iff_getElem.1 (Ng l 16).1 k (k+1) (by have:Z8 l=Vd l 16:=rfl;rw[<-this];omega) hk (by omega);simp only[List.getD_eq_getElem?_getD,List.getElem?_eq_getElem hk,List.getElem?_eq_getElem (show k<(Z8 l).length by omega),Option.getD_some];exact h
theorem Pt (l:List Int): ∀k,k<=(Z8 l).length ->0<=(Zu l k).1.1/\(Zu l k).1.1<=16/\0<=(Zu l k).1.2/\(Zu l k).1.2<=k*2^(Zu l k).1.1.toNat /\(k=0->(Zu l k).1=(0,0))/\(0<k->(Zu l k).1.1=rd l ((Z8 l).getD (k-1) 0:Nat)/\1<=(Zu l k).1.1)
 |0,_=>by simp[Zu]
 |k+1,hk=>by
  obtain⟨h1,h2,h3,h4,h5,h6⟩:=Pt l k (by omega);obtain⟨g1,g2,g3⟩:=Cr (show k<(Z8 l).length by omega)
  have hle:(Zu l k).1.1<=rd l ((Z8 l).getD k 0:Nat):=by
   by_cases h0:k=0
   ·rw[h5 h0];simp only;omega
   ·rw[(h6 (by omega)).1]
    have:=Qc4 (show k-1+1<(Z8 l).length by omega);rw[show k-1+1=k by omega] at this;exact this
  simp only[Zu,Uc];obtain⟨n,hn⟩: ∃n,n=rd l ((Z8 l).getD k 0:Nat):=⟨_,rfl⟩;rw[<-hn] at g2 g3 hle ⊢;obtain⟨s,hs⟩: ∃s,s=(Zu l k).1:=⟨_,rfl⟩;rw[<-hs] at h1 h2 h3 h4 h5 h6 hle ⊢;have hp:(0:Int)<2^(n-s.1).toNat :=Int.pow_pos (by omega);have hp1:(0:Int)<2^s.1.toNat:=Int.pow_pos (by omega);have hpp:(2:Int)^s.1.toNat*2^(n-s.1).toNat =2^n.toNat:=(by rw[<-Int.pow_add];congr 1;omega);refine⟨by omega,by omega,?_,?_,by omega,fun _=>⟨by simp[hn],by omega⟩⟩
  ·exact Int.mul_nonneg (by by_cases h0:s.1=0<;>simp[h0];omega) (by omega)
  ·rw[<-hpp,<-Int.mul_assoc]
   refine Int.mul_le_mul_of_nonneg_right ?_ (by omega);by_cases h0:s.1=0
   ·rw[if_pos h0]
    have:(0:Int)<=((k+1:Nat):Int)*2^s.1.toNat:=Int.mul_nonneg (by omega) (by omega);omega
   ·rw[if_neg h0]
    push_cast
    rw[Int.add_mul];omega
theorem Mi {l:List Int} (hl:l.length<=256) {k:Nat} (hk:k<=(Z8 l).length):(Zu l k).1.2<=268435456:=by
 obtain⟨h1,h2,h3,h4,_⟩:=Pt l k hk;have hk2:k<=4096:=(by have h:(Z8 l).length <=16*l.length:=Cz l 16;omega);have hp:(2:Nat)^(Zu l k).1.1.toNat <=2^16:=Nat.pow_le_pow_right (by omega) (by omega);have hp2:((2^(Zu l k).1.1.toNat :Nat):Int)=2^(Zu l k).1.1.toNat :=by simp
 have hpI:(2:Int)^(Zu l k).1.1.toNat <=65536:=by
  rw[<-hp2];have:(2:Nat)^16=65536:=(by decide);omega
 have hpI0:(0:Int)<2^(Zu l k).1.1.toNat :=Int.pow_pos (by omega);have h5:(k:Int)*2^(Zu l k).1.1.toNat <=4096*65536:=Int.mul_le_mul (by omega) hpI (by omega) (by omega);omega
def Zk (ps:List (Int×Int)):Array Value:=(ps.map fun p=>[Value.int .i64 p.1,Value.int .i64 p.2]).flatten.toArray
theorem Fp {ps:List (Int×Int)} {k:Nat} (hk:k<ps.length):(Zk ps)[2*k]? =some (.int .i64 (ps[k]).1)/\(Zk ps)[2*k+1]? =some (.int .i64 (ps[k]).2):=by
 unfold Zk
 induction ps generalizing k with
 |nil=>simp at hk
 |cons f t ih=>
  cases k with
  |zero=>simp
  |succ k=>
   have h:=ih (k:=k) (by simpa using hk);simp only[List.map_cons,List.flatten_cons,List.getElem?_toArray] at h ⊢;rw[show 2*(k+1)=2*k+2 by omega,show 2*k+2+1=(2*k+1)+2 by omega];rw[List.getElem?_append_right (by simp),List.getElem?_append_right (by simp)];simpa using h
theorem Sg (ps:List (Int×Int)) (p:Int×Int): ∀k,((Zk ps).setIfInBounds (2*k) (.int .i64 p.1)).setIfInBounds (2*k+1) (.int .i64 p.2)=Zk (ps.set k p):=by
 unfold Zk;simp only[List.setIfInBounds_toArray]
 induction ps with
 |nil=>intro k;simp
 |cons f t ih=>
  intro k
  cases k with
  |zero=>simp
  |succ k=>
   have h:=ih k;simp only[List.map_cons,List.flatten_cons,List.set_cons_succ,List.cons_append,List.nil_append];rw[show 2*(k+1)=2*k+1+1 by omega,show 2*k+1+1+1=(2*k+1)+1+1 by omega];simp only[List.set_cons_succ];have h2:=congrArg Array.toList h;simp only at h2;rw[h2]
end Pre

end Go.Proofs.YtnflnicdjioflaaGreatDoor
