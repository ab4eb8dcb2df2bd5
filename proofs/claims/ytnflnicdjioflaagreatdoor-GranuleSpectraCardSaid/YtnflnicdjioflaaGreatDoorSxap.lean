/- A part of the proof. -/
import Derived.Test.YtnflnicdjioflaaGreatDoorSxak
import Derived.ProofKit
import Derived.OpenShut
import Derived.ShutString
import Derived.ChangeOld
import Derived.Lib.SmallJoins
set_option linter.unusedVariables false
set_option linter.unusedSimpArgs false
set_option maxRecDepth 100000
set_option maxHeartbeats 8000000
namespace Go.Proofs.YtnflnicdjioflaaGreatDoor
open Go.RowKit Go.Proofs.YtnflnicdjioflaaGreatDoorW.PrintWords Go.Proofs.YtnflnicdjioflaaGreatDoorW.PrintLast Go.Proofs.YtnflnicdjioflaaGreatDoorW.PrintMore
namespace Q21
attribute [local go_sem] Qh Qi Qk Ql Qd Qe
open Q15
open Q16 (KL Jk)
theorem Ei (d:Dr) (v:DrV) (w:World) (hL:Laid w) (hd:DrAt w d v) (hf:fewD d=true):
  Calls Tryz.prog 24 #[.agg (Jp d v)] w fun e w'=>e= .returned (.bool (validD d))/\Below w.heap.size w w':=by
 have hu26:=Tryz.underlying26;have HC:=Qa.mk (fun(W:World) (hb:Below w.heap.size w W)=>Bj d v W (hL.below hb) (hd.below hb) hf);clear hL hd hf;obtain⟨b,hbe⟩: ∃b,b=validD d:=⟨_,rfl⟩;rw[<-hbe];replace hbe:=Qa.mk hbe;unfold Jp at HC ⊢;go_enter Tryz.func24,Tryz.ntmps24;go_wp2_with fail;have hb:Below w.heap.size w (w.alloc (.cells #[.bool d.sh,.slice v.Ag d.gr.length v.cg,.slice v.Am d.mid.length v.cm,.slice v.Af d.fil.length v.cf,.slice v.Al d.lis.length v.cl,.slice v.Ai d.lim.length v.ci] 26)):=(Below.refl _ _).alloc (Nat.le_refl _) _;refine(HC.out _ hb).mono ?_;rintro e w1 ⟨⟨A,p,rfl,-⟩,hbn⟩;replace hb:=bnx hb hbn;rw[<-hbe.out]
 generalize (if b=true then Qm d.sh d.gr else[]).length =n
 clear hbn;go_wp2_with fail;go_ret;exact⟨rfl,hb⟩
end Q21

namespace Q21
attribute [local go_sem] Qh Qi Qk Ql Qd Qe
open Q15
open Q16 (KL Jk isW off wd Q7 Zj Z8 V6 Qx Fb)
structure Ch where
 sh:Bool
 gr:List Int
 sc:List Int
 qu:List Int
 fi:List Int
def kCh:Kd Ch:=Kd.iso (Kd.pair Kd.bool (Kd.pair (Kd.slice 3 (Kd.int .i64)) (Kd.pair (Kd.slice 3 (Kd.int .i64)) (Kd.pair (Kd.slice 3 (Kd.int .i64)) (Kd.slice 3 (Kd.int .i64)))))) (fun x:Ch=>(x.sh,x.gr,x.sc,x.qu,x.fi))
theorem Iz {w:World} {x:Ch} {cs:List Value} (h:kCh.K w x cs): ∃A1 c1 A2 c2 A3 c3 A4 c4,cs=[.bool x.sh,.slice A1 x.gr.length c1,.slice A2 x.sc.length c2,.slice A3 x.qu.length c3,.slice A4 x.fi.length c4]/\x.gr.length<=c1/\(Kd.int .i64).C w A1 x.gr.length x.gr/\x.sc.length<=c2/\(Kd.int .i64).C w A2 x.sc.length x.sc/\x.qu.length<=c3/\(Kd.int .i64).C w A3 x.qu.length x.qu/\x.fi.length<=c4/\(Kd.int .i64).C w A4 x.fi.length x.fi:=by
 obtain⟨_,_,rfl,rfl,⟨_,_,rfl,⟨A1,c1,rfl,l1,g1⟩,⟨_,_,rfl,⟨A2,c2,rfl,l2,g2⟩,⟨_,_,rfl,⟨A3,c3,rfl,l3,g3⟩,⟨A4,c4,rfl,l4,g4⟩⟩⟩⟩⟩:=h;exact⟨A1,c1,A2,c2,A3,c3,A4,c4,rfl,l1,g1,l2,g2,l3,g3,l4,g4⟩
theorem kCh_mkM (w:World) (base:Nat) (ok:Nat->Prop) (x:Ch) {v1:Value} (g1:(Kd.int .i64).R 3 w base ok v1 x.gr) {v2:Value} (g2:(Kd.int .i64).R 3 w base ok v2 x.sc) {v3:Value} (g3:(Kd.int .i64).R 3 w base ok v3 x.qu) {v4:Value} (g4:(Kd.int .i64).R 3 w base ok v4 x.fi):kCh.M w base ok x [.bool x.sh,v1,v2,v3,v4]:=⟨[.bool x.sh],[v1,v2,v3,v4],rfl,rfl,⟨[v1],[v2,v3,v4],rfl,⟨v1,rfl,g1⟩,⟨[v2],[v3,v4],rfl,⟨v2,rfl,g2⟩,⟨[v3],[v4],rfl,⟨v3,rfl,g3⟩,⟨v4,rfl,g4⟩⟩⟩⟩⟩
theorem info_ch:(Tryz.prog.info? 46).map (fun i=>(i.zero,i.size,i.bytes))=some (some (.agg #[(.bool false),(.slice none 0 0),(.slice none 0 0),(.slice none 0 0),(.slice none 0 0)]),5,104):=by kernel_rfl
structure Gr where
 chs:List Ch
 mid:List Bool
def GOut (g:Gr) (E:Int) (w:World) (e:Ending) (w':World):Prop:=(∃vC vM,e= .returned (.tuple #[.agg #[vC,vM],.int .i64 E])/\kCh.R 46 w' w.heap.size (fun _=>True) vC g.chs/\Kd.bool.R 4 w' w.heap.size (fun _=>True) vM g.mid)/\Below w.heap.size w w'
theorem GOut.reads {g:Gr} {E:Int} {w:World} {e:Ending} {w':World} (h:GOut g E w e w'): ∃A p M q,e= .returned (.tuple #[.agg #[.slice A g.chs.length p,.slice M g.mid.length q],.int .i64 E])/\kCh.C w' A g.chs.length g.chs/\Kd.bool.C w' M g.mid.length g.mid/\Below w.heap.size w w':=by
 obtain⟨⟨vC,vM,rfl,h1,h2⟩,hb⟩:=h;obtain⟨A,p,rfl,_,c1⟩:=Kd.Qs h1;obtain⟨M,q,rfl,_,c2⟩:=Kd.Qs h2;exact⟨A,p,M,q,rfl,c1,c2,hb⟩
theorem Yw {sh:Bool} {g:List Int} (h:Zc sh g=true):isW (Qm sh g)=true:=by
 cases sh with
 |false=>exact(by decide+kernel:isW Xk=true)
 |true=>
  obtain⟨h8,hn,hs⟩:=Xr.1 h;rw[Qx]
  have key: ∀l:List Int,(∀n∈l,1<=n/\n<=8)->(∀x∈Qm true l,1<=x)/\(Qm true l).sum =16*l.sum/\(Qm true l).length =4*l.length:=by
   intro l
   induction l with
   |nil=>intro _;simp[Qm]
   |cons a t ih=>
    intro hl;obtain⟨i1,i2,i3⟩:=ih (fun n hn=>hl n (by simp[hn]));have ha:=hl a (by simp);have he:Qm true (a::t)=[a*2,a*2,a*4,a*8]++Qm true t:=(by simp[Qm]);rw[he];refine⟨fun x hx=> ?_,?_,?_⟩
    ·rcases List.mem_append.1 hx with hx|hx
     ·simp at hx
      omega
     ·exact i1 x hx
    ·rw[List.sum_append,i2]
     simp;omega
    ·rw[List.length_append,i3]
     simp;omega
  obtain⟨k1,k2,k3⟩:=key g hn;exact⟨k1,by rw[k2,hs];rfl,by rw[k3];omega⟩
theorem Qcw {p q lo hi:Int} {c l s:List Int} (h1:isW l=true) (h2:c.length=128) (h3:s.length=l.length) (h4:Q16.rng p q c=true) (h5:Q16.rng lo hi s=true):Fb p q lo hi c l s=0:=by
 unfold Fb Q16.Tj;simp[h1,h2,h3,h4,h5]
end Q21

namespace Q21
attribute [local go_sem] Qh Qi Qk Ql Qd Qe
open Q15
open Q16 (KL Jk isW off wd Q7 Zj Z8 V6 Qx Fb)
open Bts (Kp Un Qbe)

def ChRows (wr:World) (gr sc fi:List Int) (s:Value×Value×Value×Nat) (w':World):Prop:=
 (Kd.int .i64).R 3 w' wr.heap.size (fun k=>True/\some k≠s.2.1.ownBlock) s.1 gr/\(Kd.int .i64).R 3 w' wr.heap.size (fun _=>True) s.2.1 sc/\(Kd.int .i64).R 3 w' wr.heap.size (fun k=>True/\some k≠s.2.1.ownBlock) s.2.2.1 fi/\w'.heap[s.2.2.2]? =some (.cells #[.bool false,.slice none 0 0,.slice none 0 0,.slice none 0 0,.slice none 0 0] 46 (0,0))/\wr.heap.size<=s.2.2.2/\Below wr.heap.size wr w'
def ChRows2 (sh:Bool) (wr:World) (gr sc fi:List Int) (s:Value×Value×Value×Nat) (w':World):Prop:=
 (Kd.int .i64).R 3 w' wr.heap.size (fun k=>True/\some k≠s.2.1.ownBlock) s.1 gr/\(Kd.int .i64).R 3 w' wr.heap.size (fun _=>True) s.2.1 sc/\(Kd.int .i64).R 3 w' wr.heap.size (fun k=>True/\some k≠s.2.1.ownBlock) s.2.2.1 fi/\w'.heap[s.2.2.2]? =some (.cells #[.bool sh,s.1,s.2.1,.slice none 0 0,s.2.2.1] 46 (0,0))/\wr.heap.size<=s.2.2.2/\Below wr.heap.size wr w'
theorem ChRows.stored (sh:Bool) {wr w':World} {gr sc fi:List Int} {s:Value×Value×Value×Nat} (h:ChRows wr gr sc fi s w'):ChRows2 sh wr gr sc fi s (((((w'.setCell ⟨s.2.2.2,0,none⟩ (.bool sh)).setCell ⟨s.2.2.2,1,none⟩ s.1).setCell ⟨s.2.2.2,2,none⟩ s.2.1).setCell ⟨s.2.2.2,3,none⟩ (.slice none 0 0)).setCell ⟨s.2.2.2,4,none⟩ s.2.2.1):=by
 obtain⟨v1,v2,v3,g⟩:=s;obtain⟨R1,R2,R3,hG,hle,hb⟩:=h;dsimp only at R1 R2 R3 hG hle ⊢;have G1:=Q9 hG 0 (.bool sh);have G2:=Q9 G1 1 v1;have G3:=Q9 G2 2 v2;have G4:=Q9 G3 3 (.slice none 0 0);refine⟨?_,?_,?_,Q9 G4 4 v3,hle,((((hb.setCell (p:=⟨g,0,none⟩) hle _).setCell (p:=⟨g,1,none⟩) hle _).setCell (p:=⟨g,2,none⟩) hle _).setCell (p:=⟨g,3,none⟩) hle _).setCell (p:=⟨g,4,none⟩) hle _⟩
 ·exact Kd.Yn (Kd.Yn (Kd.Yn (Kd.Yn (Kd.Yn R1 hG (by decide) 0 _) G1 (by decide) 1 _) G2 (by decide) 2 _) G3 (by decide) 3 _) G4 (by decide) 4 _
 ·exact Kd.Yn (Kd.Yn (Kd.Yn (Kd.Yn (Kd.Yn R2 hG (by decide) 0 _) G1 (by decide) 1 _) G2 (by decide) 2 _) G3 (by decide) 3 _) G4 (by decide) 4 _
 ·exact Kd.Yn (Kd.Yn (Kd.Yn (Kd.Yn (Kd.Yn R3 hG (by decide) 0 _) G1 (by decide) 1 _) G2 (by decide) 2 _) G3 (by decide) 3 _) G4 (by decide) 4 _
end Q21

namespace Opn
open Go.ChangeShapes Go.WideShapes Go.ChangeAt Go.RowKit Go.Joins Go.Deep Go.Proofs.YtnflnicdjioflaaGreatDoorW.PrintWords
open Q16 (KL)
open Q21
section
variable {H:Type} (enc:TypeId×Value->H) (P:Program) (w:World) (base:Nat) (spare:Nat->Bool) (held:Bool) {α:Type}
def Pq (t:TypeId) (d:Kd α):Prop:= ∀(fuel:Nat) (cs:List Value) (y:DataW H×List MemPlace),DataW.trod enc P w base spare held fuel t cs=some y-> ∃x,d.K w x cs
variable {enc P w base spare held}
theorem Cc {t:TypeId} {k:IntKind} (ht:P.underlying t=some (.int k)):Pq enc P w base spare held t (Kd.int k):=fun fuel cs y h=>by
 obtain⟨n,rfl,_⟩:=DataW.trod_int ht h;exact⟨n,rfl⟩
theorem Rx {t:TypeId} (ht:P.underlying t=some .bool):Pq enc P w base spare held t Kd.bool:=fun fuel cs y h=>by
 obtain⟨n,rfl,_⟩:=DataW.trod_bool ht h;exact⟨n,rfl⟩
theorem Bi {a:Addr} {n:Nat} {cs:List Value} (h:w.cells? base a n=some cs):cs.length=n/\ ∀i u,cs[i]? =some u->w.cell? (a.add i)=some u:=by
 obtain⟨_,h1,h2⟩:=World.cells?_some h;exact⟨h1,fun i u hi=>by rw[h2 i (by have:=(List.getElem?_eq_some_iff.1 hi).1;omega)];exact hi⟩
theorem Dx {t e:TypeId} {d:Kd α} (ht:P.underlying t=some (.slice e)) (hC:P.cellsOf e=d.sz) (he:Pq enc P w base spare held e d) {fuel:Nat} {cs:List Value} {y:DataW H×List MemPlace} (h:DataW.trod enc P w base spare held fuel t cs=some y):
  ∃(A:Option Addr) (xs:List α) (c:Nat),cs=[.slice A xs.length c]/\xs.length<=c/\c<=9223372036854775807/\d.C w A xs.length xs/\ ∀k,k<xs.length-> ∃(ad:Addr) (el:List Value) (n:Nat) (z:DataW H×List MemPlace),A=some ad/\DataW.trod enc P w base spare held n e el=some z/\ ∀i u,el[i]? =some u->w.cell? (ad.add (k*d.sz+i))=some u:=by
 rcases DataW.trod_slice ht h with ⟨rfl,-⟩|⟨a,len,cap,elems,rest,n,_,rfl,rfl,hb,hl,hm,hlen,hel,_⟩
 ·exact⟨none,[],0,rfl,Nat.le_refl _,by omega,Kd.Uc _ _,fun k hk=>by cases hk⟩
 ·unfold maxLen at hm
  have hx: ∀k,k<len-> ∃(el:List Value) (z:DataW H×List MemPlace) (x:α),el.length=d.sz/\DataW.trod enc P w base spare held n e el=some z/\d.K w x el/\ ∀i u,el[i]? =some u->w.cell? (a.add (k*d.sz+i))=some u:=by
   intro k hk;have h1:=hel k hk;rw[List.getElem?_eq_getElem (by omega),hC,Option.bind_eq_some_iff] at h1;obtain⟨el,h2,h3⟩:=h1;obtain⟨h4,h5⟩:=Bi h2;obtain⟨x,h6⟩:=he n el _ h3;exact⟨el,_,x,h4,h3,h6,fun i u hi=>by rw[<-Addr.add_add];exact h5 i u hi⟩
  have hX: ∃xs:List α,xs.length=len/\ ∀k (hk:k<xs.length),∃(el:List Value) (z:DataW H×List MemPlace),el.length=d.sz/\DataW.trod enc P w base spare held n e el=some z/\d.K w xs[k] el/\ ∀i u,el[i]? =some u->w.cell? (a.add (k*d.sz+i))=some u:=by
   have key: ∀m,m<=len-> ∃xs:List α,xs.length=m/\ ∀k (hk:k<xs.length),∃(el:List Value) (z:DataW H×List MemPlace),el.length=d.sz/\DataW.trod enc P w base spare held n e el=some z/\d.K w xs[k] el/\ ∀i u,el[i]? =some u->w.cell? (a.add (k*d.sz+i))=some u:=by
    intro m
    induction m with
    |zero=>exact fun _=>⟨[],rfl,fun k hk=>by cases hk⟩
    |succ m ih=>
     intro hm';obtain⟨xs,h1,h2⟩:=ih (by omega);obtain⟨el,z,x,g1,g2,g3,g4⟩:=hx m (by omega);refine⟨xs++[x],by simp[h1],fun k hk=> ?_⟩;by_cases hlt:k<xs.length
     ·rw[List.getElem_append_left hlt]
      exact h2 k hlt
     ·have:k=m:=by simp at hk;omega
      subst this;refine⟨el,z,g1,g2,?_,g4⟩;rw[List.getElem_append_right (by omega)];simpa using g3
   exact key len (Nat.le_refl _)
  obtain⟨xs,h1,h2⟩:=hX;subst h1;refine⟨some a,xs,cap,rfl,hl,hm,⟨rfl,by omega,fun _=>⟨a,rfl,fun j p hj=> ?_⟩⟩,fun k hk=> ?_⟩
  ·obtain⟨hj1,rfl⟩:=List.getElem?_eq_some_iff.1 hj
   obtain⟨el,z,g1,g2,g3,g4⟩:=h2 j hj1;exact⟨el,g1,g3,g4⟩
  ·obtain⟨el,z,g1,g2,g3,g4⟩:=h2 k hk
   exact⟨a,el,n,z,rfl,g2,g4⟩
theorem Qab {t e:TypeId} {d:Kd α} (ht:P.underlying t=some (.slice e)) (hC:P.cellsOf e=d.sz) (he:Pq enc P w base spare held e d):Pq enc P w base spare held t (Kd.slice e d):=fun fuel cs y h=>by
 obtain⟨A,xs,c,rfl,h1,h2,h3,_⟩:=Dx ht hC he h;exact⟨xs,A,c,rfl,h1,h3⟩
theorem Wv {fs:Array Field} {t:TypeId} {fuel:Nat} {cs:List Value} {y:DataW H×List MemPlace} (hs:Tryz.prog.underlying t=some (.struct fs)) (hone:oneCellFields Tryz.prog fs=true) (h:DataW.trod enc Tryz.prog w base spare held fuel t cs=some y):
  cs.length=Tryz.prog.cellsOf t/\ ∃n,∀(i:Nat) (f:Field) (c:Value),fs[i]? =some f->cs[i]? =some c-> ∃z,DataW.trod enc Tryz.prog w base spare held n f.type [c]=some z:=by
 obtain⟨xs,n,_,rfl,hl,hlen,hf⟩:=DataW.trod_struct hs h;refine⟨hl,n,fun i f c hi hc=> ?_⟩
 have hi':i<xs.length:=by
  have:=(Array.getElem?_eq_some_iff.1 hi).1;omega
 obtain⟨o1,o2⟩:=hone_of hone i f hi;have h1:=hf i f hi;rw[o1,o2,List.getElem?_eq_getElem hi'] at h1;obtain⟨hc1,rfl⟩:=List.getElem?_eq_some_iff.1 hc;rw[List.drop_eq_getElem_cons hc1] at h1;exact⟨xs[i],h1⟩
theorem list5 {cs:List Value} (h:cs.length=5): ∃a b c d e,cs=[a,b,c,d,e]:=by
 match cs,h with
 |[a,b,c,d,e],_=>exact⟨a,b,c,d,e,rfl⟩
theorem list2 {cs:List Value} (h:cs.length=2): ∃a b,cs=[a,b]:=by
 match cs,h with
 |[a,b],_=>exact⟨a,b,rfl⟩
abbrev uI:=Tryz.underlying3
abbrev uL:=Tryz.underlying22
abbrev uB:=Tryz.underlying4
theorem cI:Tryz.prog.cellsOf 3=1:=by kernel_rfl
theorem cB:Tryz.prog.cellsOf 4=1:=by kernel_rfl
theorem Pg:Pq enc Tryz.prog w base spare held 22 (Kd.slice 3 (Kd.int .i64)):=Qab uL cI (Cc uI)
theorem opens_ch:Pq enc Tryz.prog w base spare held 46 kCh:=fun fuel cs y h=>by
 obtain⟨hl,n,hf⟩:=Wv Tryz.underlying46 (by kernel_rfl) h;rw[show Tryz.prog.cellsOf 46=5 by kernel_rfl] at hl;obtain⟨a,b,c,d,e,rfl⟩:=list5 hl;obtain⟨z0,h0⟩:=hf 0 _ _ rfl rfl;obtain⟨z1,h1⟩:=hf 1 _ _ rfl rfl;obtain⟨z2,h2⟩:=hf 2 _ _ rfl rfl;obtain⟨z3,h3⟩:=hf 3 _ _ rfl rfl;obtain⟨z4,h4⟩:=hf 4 _ _ rfl rfl;obtain⟨sh,k0⟩:=Rx uB _ _ _ h0;obtain⟨gr,k1⟩:=Pg _ _ _ h1;obtain⟨sc,k2⟩:=Pg _ _ _ h2;obtain⟨qu,k3⟩:=Pg _ _ _ h3;obtain⟨fi,k4⟩:=Pg _ _ _ h4;exact⟨⟨sh,gr,sc,qu,fi⟩,[a],[b,c,d,e],rfl,k0,[b],[c,d,e],rfl,k1,[c],[d,e],rfl,k2,[d],[e],rfl,k3,k4⟩
end
end Opn

end Go.Proofs.YtnflnicdjioflaaGreatDoor
