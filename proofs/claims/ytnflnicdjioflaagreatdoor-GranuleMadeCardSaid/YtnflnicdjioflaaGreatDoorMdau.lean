/- A part of the proof. -/
import Derived.Test.YtnflnicdjioflaaGreatDoorMdar
import Derived.Test.YtnflnicdjioflaaGreatDoorMdas
import Derived.Test.YtnflnicdjioflaaGreatDoorRows
import Derived.LaidMore
import Derived.Stop.Joined
set_option linter.unusedVariables false
set_option linter.unusedSimpArgs false
set_option maxRecDepth 100000
set_option maxHeartbeats 8000000
namespace Go.Proofs.YtnflnicdjioflaaGreatDoor
namespace Opn
open Go.ChangeShapes Go.WideShapes Go.ChangeAt Go.RowKit Go.Joins Go.Deep Go.Proofs.YtnflnicdjioflaaGreatDoorW.PrintWords
open Q21 (Laid Xm Ji)
open Bk
section
variable {H:Type} {enc:TypeId×Value->H} {P:Program} {w:World} {base:Nat} {spare:Nat->Bool} {held:Bool}
theorem Qbh {n:Nat} {t e:TypeId} {fuel:Nat} {cs:List Value} {Ds:List (DataW H)} {p:List MemPlace} (ht:P.underlying t=some (.array n e)) (h:DataW.trod enc P w base spare held fuel t cs=some (.agg Ds,p)):
  ∀j,j<n-> ∃(m:Nat) (x:DataW H×List MemPlace),DataW.trod enc P w base spare held m e ((cs.drop (j*P.cellsOf e)).take (P.cellsOf e))=some x/\Ds[j]? =some x.1:=by
 obtain⟨xs,m,rfl,hx,hlen,hn,hel⟩:=DataW.trod_array ht h;intro j hj;have h1:=hel j hj;rw[List.getElem?_eq_getElem (by omega)] at h1;refine⟨m,_,h1,?_⟩
 have h2:Ds=xs.map (·.1):=by
  have:=congrArg Prod.fst hx
  injection this
 rw[h2,List.getElem?_map,List.getElem?_eq_getElem (by omega)];rfl
theorem drop_at {cs:List Value} {j:Nat} {l:List Value} {k:Nat} (h:(cs.drop j).take k=l) {i:Nat} {c:Value} (hi:l[i]? =some c):cs[j+i]? =some c:=by
 rw[<-h] at hi
 have hk:i<k:=by
  have:=(List.getElem?_eq_some_iff.1 hi).1;rw[List.length_take] at this;omega
 rw[List.getElem?_take_of_lt hk,List.getElem?_drop] at hi;exact hi
theorem O0 {n:Nat} {t e:TypeId} {fuel:Nat} {cs:List Value} {L:List Int} {p:List MemPlace} (ht:P.underlying t=some (.array n e)) (he:P.underlying e=some (.int .i64)) (hC:P.cellsOf e=1) (h:DataW.trod enc P w base spare held fuel t cs=some (.agg (L.map fun v=> .lit (.int .i64 v)),p)):
  ∀j,j<n->cs[j]? =some (.int .i64 (rd L j)):=by
 intro j hj;obtain⟨m,x,h1,h2⟩:=Qbh ht h j hj;obtain⟨v,h3,rfl,_⟩:=DataW.trod_int he h1;rw[hC,Nat.mul_one] at h3;have h4:=drop_at h3 (i:=0) rfl;rw[List.getElem?_map] at h2
 cases hL:L[j]? with
 |none=>rw[hL] at h2;cases h2
 |some u=>
  rw[hL] at h2
  injection h2 with h2
  injection h2 with h2
  injection h2 with _ h2
  rw[Nat.add_zero] at h4;rw[h4,<-h2];simp[rd,hL]
end
theorem list3 {cs:List Value} (h:cs.length=3): ∃a b c,cs=[a,b,c]:=by
 match cs,h with
 |[a,b,c],_=>exact⟨a,b,c,rfl⟩
theorem gLongs:Tryz.prog.globalNamed "shawm/bands.longs" =some 0:=by kernel_rfl
theorem gShorts:Tryz.prog.globalNamed "shawm/bands.shorts" =some 1:=by kernel_rfl
theorem gForms:Tryz.prog.globalNamed "shawm/book.forms" =some 2:=by kernel_rfl
theorem gTabs:Tryz.prog.globalNamed "shawm/book.tables" =some 3:=by kernel_rfl
abbrev laidAll:List (String×DataW Unit):=[("shawm/bands.longs",Rows.laid_shawm_bands_longs),("shawm/bands.shorts",Rows.laid_shawm_bands_shorts),("shawm/book.forms",Rows.laid_shawm_book_forms),("shawm/book.tables",Rows.laid_shawm_book_tables)]
def litS {H:Type}:DataW H->List UInt8
 | .lit (.string b)=>b
 |_=>[]
def Ao {H:Type}:DataW H->List (DataW H)
 | .agg l=>l
 |_=>[]
theorem tabEq: ∀k,k<8->((Ao (Rows.laid_shawm_book_tables (H:=Unit))).map litS)[k]? =some (Uf k).data.toList :=by decide+kernel
theorem formD: ∀k,k<8->(Ao (Rows.laid_shawm_book_forms (H:=Unit)))[k]? =some (.agg [.lit (.int .i64 (Jl k:Nat)),.lit (.int .i64 (Xt k)),.lit (.bool (T9 k))])
 |0,_=>rfl
 |1,_=>rfl
 |2,_=>rfl
 |3,_=>rfl
 |4,_=>rfl
 |5,_=>rfl
 |6,_=>rfl
 |7,_=>rfl
 |n+8,h=>absurd h (by omega)
theorem of_laid {W:World} (h:laidMetH Tryz.prog laidAll W):Laid W/\Xp W:=by
 rw[MakeChecks.laidMetH_plain _ _ _ (by kernel_rfl)] at h;obtain⟨ps,⟨g0,t0,cs0,f0,p0,q0,hg0,ht0,hv0,hd0,⟨g1,t1,cs1,f1,p1,q1,hg1,ht1,hv1,hd1,⟨g2,t2,cs2,f2,p2,q2,hg2,ht2,hv2,hd2,⟨g3,t3,cs3,f3,p3,q3,hg3,ht3,hv3,hd3,_,_⟩,_⟩,_⟩,_⟩,_,_⟩:=h;obtain rfl:=Option.some.inj (gLongs.symm.trans hg0);obtain rfl:=Option.some.inj (gShorts.symm.trans hg1);obtain rfl:=Option.some.inj (gForms.symm.trans hg2);obtain rfl:=Option.some.inj (gTabs.symm.trans hg3);have c0:=World.var?_cell hg0 hv0;have c1:=World.var?_cell hg1 hv1;have c2:=World.var?_cell hg2 hv2;have c3:=World.var?_cell hg3 hv3;obtain rfl:=Option.some.inj (ht0.symm.trans (show _=some 171 by kernel_rfl));obtain rfl:=Option.some.inj (ht1.symm.trans (show _=some 172 by kernel_rfl));obtain rfl:=Option.some.inj (ht2.symm.trans (show _=some 195 by kernel_rfl));obtain rfl:=Option.some.inj (ht3.symm.trans (show _=some 220 by kernel_rfl));have a0:=O0 (L:=Xm) Tryz.underlying171 uI cI hd0;have a1:=O0 (L:=Ji) Tryz.underlying172 uI cI hd1;refine⟨⟨?_,?_⟩,⟨fun k hk=> ?_,fun k hk=> ?_⟩⟩
 ·refine Kd.Z4 (d:=(0:Int)) (enc:=Value.int .i64) (h1:=fun _=>rfl) ⟨rfl,by decide,fun _=>⟨_,rfl,fun j hj=> ?_⟩⟩
  have e:(⟨0,0,none⟩:Addr).add j=⟨0,j,none⟩:=by simp[Addr.add];exact fun h=>h.symm
  rw[e,c0,<-Array.getElem?_toList,a0 j hj];rfl
 ·refine Kd.Z4 (d:=(0:Int)) (enc:=Value.int .i64) (h1:=fun _=>rfl) ⟨rfl,by decide,fun _=>⟨_,rfl,fun j hj=> ?_⟩⟩
  have e:(⟨1,0,none⟩:Addr).add j=⟨1,j,none⟩:=by simp[Addr.add];exact fun h=>h.symm
  rw[e,c1,<-Array.getElem?_toList,a1 j hj];rfl
 ·obtain⟨m,x,h1,h2⟩:=Qbh Tryz.underlying195 hd2 k hk
  have h3:(Ao (Rows.laid_shawm_book_forms (H:=Unit)))[k]? =some x.1:=h2;rw[formD k hk] at h3
  injection h3 with h3
  rw[show Tryz.prog.cellsOf 194=3 by kernel_rfl] at h1;obtain⟨y0,y1,y2,n,rfl,hl,j0,j1,j2⟩:=trod_struct3 Tryz.underlying194 h1;rw[show Tryz.prog.cellsOf 194=3 by kernel_rfl] at hl;obtain⟨v0,v1,v2,hcs⟩:=list3 hl;rw[hcs] at j0 j1 j2;dsimp only at j0 j1 j2;rw[cI] at j0 j1;rw[cB] at j2;obtain⟨n0,e0,rfl,_⟩:=DataW.trod_int uI j0;obtain⟨n1,e1,rfl,_⟩:=DataW.trod_int uI j1;obtain⟨n2,e2,rfl⟩:=DataW.trod_bool uB j2;cases e0;cases e1;cases e2
  injection h3 with h3
  injection h3 with g0 h3
  injection h3 with g1 h3
  injection h3 with g2 h3
  cases g0;cases g1;cases g2;refine⟨?_,?_,?_⟩
  ·rw[c2,<-Array.getElem?_toList]
   exact drop_at hcs (i:=0) rfl
  ·rw[c2,<-Array.getElem?_toList]
   exact drop_at hcs (i:=1) rfl
  ·rw[c2,<-Array.getElem?_toList]
   exact drop_at hcs (i:=2) rfl
 ·obtain⟨m,x,h1,h2⟩:=Qbh Tryz.underlying220 hd3 k hk
  obtain⟨s,h3,rfl,_⟩:=DataW.trod_string Tryz.underlying9 h1;rw[show Tryz.prog.cellsOf 9=1 by kernel_rfl,Nat.mul_one] at h3;have h4:=drop_at h3 (i:=0) rfl;rw[c3,<-Array.getElem?_toList];rw[Nat.add_zero] at h4;rw[h4];have h5:=tabEq k hk;rw[List.getElem?_map] at h5;have h6:(Ao (Rows.laid_shawm_book_tables (H:=Unit)))[k]? =some (.lit (.string s.data.toList)):=h2;rw[h6] at h5
  injection h5 with h5
  have h7:s.data=(Uf k).data :=Array.toList_inj.1 h5
  have h8:s=Uf k:=by
   cases s;exact congrArg ByteArray.mk h7
  rw[h8]
end Opn

end Go.Proofs.YtnflnicdjioflaaGreatDoor
