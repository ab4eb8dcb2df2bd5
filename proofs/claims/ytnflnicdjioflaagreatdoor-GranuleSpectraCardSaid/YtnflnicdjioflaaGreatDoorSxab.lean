/- A part of the proof. -/
import Derived.RangeFuncWrites
import Derived.RangeFuncBox
import Derived.RangeFuncLeaves
set_option linter.unusedVariables false
set_option linter.unusedSimpArgs false
set_option maxRecDepth 100000
set_option maxHeartbeats 8000000
namespace Go.Proofs.YtnflnicdjioflaaGreatDoor
namespace Runs
open Go Go.RowKit
variable {F:Fence} {n:Nat} {P:Program}
def Qcp (F:Fence) (n:Nat) (P:Program) (g:Nat) (lb:Array Value) (encs:Nat->Array Value) (Kp:World->World->Prop) (Bc:Nat) (N:Nat) (w:World):Prop:=
 ∀(l:Nat) (J:Nat->World->Prop) (W:World),Below w.heap.size w W->(∀k W1 v,J k W1->J k (W1.setCell ⟨Bc,0,none⟩ v))->
  (∀k W1,k<N->J k W1->YieldAt F (n-1) P l (encs k) W1 fun e W'=>e= .returned (.bool true)/\J (k+1) W'/\Kp W1 W')->
  J 0 W->CallsIn F n P g (#[.func (.yield l) #[] #[]]++lb) W fun e W'=>(∃v,e= .returned v)/\J N W'
def We (B:Nat) (Kp:World->World->Prop) (I:Nat->World->Prop) (k:Nat) (W:World):Exit->Act->World->Prop
 | .normal,_,W'=>KeepsFrom B W W'/\Kp W W'/\I k W'
 |_,_,_=>False
theorem Xh (W:World) {b k:Nat} (v:Value) (h:k≠b):(W.setCell ⟨b,0,none⟩ v).heap[k]? =W.heap[k]? :=Below.heap_setCell _ _ _ k h
theorem Md {g:Operand} {ps:Array Tmp} {assign body:Code} {Q:Exit->Act->World->Prop} {a:Act} {w:World}
  (hro:F.round=none) (h1:1<=n) {gf:Nat} {lb:Array Value} (hg:a.eval g= .func (.func gf) #[] lb) (hFg:F.fn gf) (eg: ∀args w,(callFunc gf args).run P w= .ok (.enter gf args) w)
  {encs:Nat->Array Value} {Kp:World->World->Prop} {Bc N:Nat} {w0:World} (hseq:Qcp F (n-1) P gf lb encs Kp Bc N w0) (hBc:Bc<w.heap.size)
  (hKt: ∀{A B C:World},Kp A B->Kp B C->Kp A C) (hKb: ∀(W:World) (l:Nat) (o o':Obj),w.heap.size<=l->W.heap[l]? =some o->o.isCells=false->o.isWalk=false->Kp W (W.putObj l o')) (hb0:Below w0.heap.size w0 w) (hps: ∀k,(encs k).size =ps.size)
  (I:Nat->World->Prop) (hI:OwnFrom w.heap.size I) (hIc: ∀k W v,I k W->I k (W.setCell ⟨Bc,0,none⟩ v)) (h0:I 0 w) (a₁:Nat->Act)
  (hassign: ∀(l:Nat) (k:Nat) (W:World) (K:Act->World->Prop),k<N->K (a₁ k) W->
   assign.wpIn (F.inRound l) (n-1-1) P (Exit.then K (fun _ _ _=>False)) {tmps:=(ps.zip (encs k)).foldl (fun t (p,v)=>t.setIfInBounds p v) a.tmps,defers:=[]} W)
  (hbody: ∀(l:Nat) (k:Nat) (W:World),I k W->k<N->body.wpIn (F.inRound l) (n-1-1) P (We w.heap.size Kp I (k+1) W) (a₁ k) W)
  (hdone: ∀(D:Nat) (W:World),w.heap.size<=D->I N W->W.heap[D]? =some (.deferred (some []))->Q .normal {a with defers:={target:= .collected D,args:= #[]}::a.defers} W):
  (Code.rangeFunc g ps assign body).wpIn F n P Q a w:=by
 refine wpIn_rangeFunc ?_;intro fn hfn;rw[hro];obtain⟨rec,hrec⟩: ∃rec:LoopState->Option Code->Loop,rec=fun st pe=>{state:=st,pending:=pe,fn,tmps:=a.tmps,params:=ps,assign,body,defers:=w.heap.size}:=⟨_,rfl⟩
 obtain⟨W1,hW1⟩: ∃W1,(w.alloc (.deferred (some []))).alloc (.loop (rec .ready none))=W1:=⟨_,rfl⟩
 have hL1:W1.heap[w.heap.size+1]? =some (.loop (rec .ready none)):=by
  rw[<-hW1];have:=World.alloc_heap_new (w.alloc (.deferred (some []))) (.loop (rec .ready none))
  rwa [World.size_alloc] at this
 have hK1:W1.heap[w.heap.size]? =some (.deferred (some [])):=by
  rw[<-hW1];exact(Below.heap_alloc _ _ _ (by simp)).trans (World.alloc_heap_new w _)
 have hI1:I 0 W1:=by
  rw[<-hW1];exact hI.alloc _ (hI.alloc _ h0)
 have hb1:Below w0.heap.size w0 W1:=by
  rw[<-hW1];exact hb0.trans ((((Below.refl _ w).alloc (Nat.le_refl _) _).alloc (by simp) _).mono hb0.size)
 refine⟨w.heap.size+1,[{target:= .collected w.heap.size,args:= #[]}],W1,{target:= .fn (.func gf) lb,args:= #[.func (.yield (w.heap.size+1)) #[] #[]]},W1,gf,
  #[.func (.yield (w.heap.size+1)) #[] #[]]++lb,W1,?_,?_,?_,?_,fun _=>h1,?_⟩
 ·rw[<-hW1,hrec]
  exact run_enterLoop_outer _ _ _ _ _
 ·simp only[resolve,hg]
  simp[go_sem]
 ·intro f' hf'
  simp[Target.leads] at hf';subst hf';exact hFg
 ·simp[invoke,go_sem,eg]
 ·refine(hseq (w.heap.size+1) (fun k W=>I k W/\W.heap[w.heap.size+1]? =some (.loop (rec .ready none))/\W.heap[w.heap.size]? =some (.deferred (some []))) W1 hb1
   (fun k W v hs=>⟨hIc k W v hs.1,(Xh W v (by omega)).trans hs.2.1,(Xh W v (by omega)).trans hs.2.2⟩) ?_ ⟨hI1,hL1,hK1⟩).mono ?_
  ·rintro k W hk ⟨hi,hl,hd⟩
   have hlt:w.heap.size+1<W.heap.size:=(Array.getElem?_eq_some_iff.1 hl).1;have hy:=run_yield (P:=P) (args:=encs k) hl (by rw[hrec];exact hps k);rw[hrec] at hy;refine⟨fn,_,assign,body,hy,roundIn_of_wpIn hfn (hassign _ k W _ hk ⟨_,run_beginRound hl (by rw[hrec]),?_⟩)⟩;obtain⟨W2,hW2⟩: ∃W2,W2=W.putObj (w.heap.size+1) (.loop {rec .ready none with state:= .busy }):=⟨_,rfl⟩;rw[<-hW2];have hl2:W2.heap[w.heap.size+1]? =some (.loop {rec .ready none with state:= .busy }):=(by rw[hW2];exact World.putObj_heap_same hlt);have hd2:W2.heap[w.heap.size]? =some (.deferred (some [])):=(by rw[hW2];exact(World.putObj_heap_other (by omega)).trans hd);have hw2:Kp W W2:=(by rw[hW2];exact hKb _ _ _ _ (by omega) hl rfl rfl);have hi2:I k W2:=(by rw[hW2];exact hI.putObj _ hi (by omega) hl rfl);refine wpIn_mono (hbody _ k W2 hi2 hk) ?_;rintro e a3 W3 hp
   cases e with
   |normal=>
    obtain⟨hk3,hkp3,hi3⟩:=hp;have hl3:=hk3.same _ _ (by omega) hl2 rfl;have hd3:=hk3.same _ _ (Nat.le_refl _) hd2 rfl
    have hr:(Instr.endRound (w.heap.size+1) none).run P W3= .ok (.bool true) (W3.putObj (w.heap.size+1) (.loop (rec .ready none))):=by
     have:=run_endRound (P:=P) none hl3;rw[hrec] at this ⊢;exact this
    exact⟨_,_,hr,rfl,⟨hI.putObj _ hi3 (by omega) hl3 rfl,World.putObj_heap_same (Array.getElem?_eq_some_iff.1 hl3).1,(World.putObj_heap_other (by omega)).trans hd3⟩,hKt (hKt hw2 hkp3) (hKb _ _ _ _ (by omega) hl3 rfl rfl)⟩
   |ret=>exact hp.elim
   |exit id=>exact hp.elim
   |goto t=>exact hp.elim
   |panic ch=>exact hp.elim
   |outgrown=>exact hp.elim
  ·rintro e W2 ⟨⟨v,rfl⟩,hi,hl,hd⟩
   have hr:=run_endLoop (P:=P) hl (by rw[hrec];simp);rw[hrec] at hr;exact⟨none,_,hr,hdone _ _ (Nat.le_refl _) (hI.putObj _ hi (by omega) hl rfl) ((World.putObj_heap_other (by omega)).trans hd)⟩
end Runs

namespace Runs
open Go Go.RowKit
variable {F:Fence} {n:Nat} {P:Program}
def Yd (F:Fence) (n:Nat) (P:Program) (g:Nat) (lb:Array Value) (encs:Nat->Array Value) (Kp:World->World->Prop) (N:Nat) (w:World):Prop:=
 ∀(l:Nat) (J:Nat->World->Prop) (W:World),Below w.heap.size w W->
  (∀k W1,k<N->J k W1->YieldAt F (n-1) P l (encs k) W1 fun e W'=>e= .returned (.bool true)/\J (k+1) W'/\Kp W1 W')->
  J 0 W->(∀k W1,J k W1->J k W1.drew)->CallsIn F n P g (#[.func (.yield l) #[] #[]]++lb) W fun e W'=>(∃v,e= .returned v)/\J N W'
theorem _root_.Go.OwnFrom.drew {β:Type} {B:Nat} {I:β->World->Prop} (h:OwnFrom B I) {s:β} {W:World} (hs:I s W):I s W.drew:=
 have hb:=(Below.refl W.heap.size W).drew
 h s W _ none hs ⟨hb.os,hb.tape,hb.output,hb.size,fun i hi _=>hb.block i hi⟩ (fun r e=>by cases e)
theorem Yt {g:Operand} {ps:Array Tmp} {assign body:Code} {Q:Exit->Act->World->Prop} {a:Act} {w:World}
  (hro:F.round=none) (h1:1<=n) {gf:Nat} {lb:Array Value} (hg:a.eval g= .func (.func gf) #[] lb) (hFg:F.fn gf) (eg: ∀args w,(callFunc gf args).run P w= .ok (.enter gf args) w)
  {encs:Nat->Array Value} {Kp:World->World->Prop} {N:Nat} {w0:World} (hseq:Yd F (n-1) P gf lb encs Kp N w0)
  (hKt: ∀{A B C:World},Kp A B->Kp B C->Kp A C) (hKb: ∀(W:World) (l:Nat) (o o':Obj),w.heap.size<=l->W.heap[l]? =some o->o.isCells=false->o.isWalk=false->Kp W (W.putObj l o')) (hb0:Below w0.heap.size w0 w) (hps: ∀k,(encs k).size =ps.size)
  (I:Nat->World->Prop) (hI:OwnFrom w.heap.size I) (h0:I 0 w) (a₁:Nat->Act)
  (hassign: ∀(l:Nat) (k:Nat) (W:World) (K:Act->World->Prop),k<N->K (a₁ k) W->
   assign.wpIn (F.inRound l) (n-1-1) P (Exit.then K (fun _ _ _=>False)) {tmps:=(ps.zip (encs k)).foldl (fun t (p,v)=>t.setIfInBounds p v) a.tmps,defers:=[]} W)
  (hbody: ∀(l:Nat) (k:Nat) (W:World),I k W->k<N->body.wpIn (F.inRound l) (n-1-1) P (We w.heap.size Kp I (k+1) W) (a₁ k) W)
  (hdone: ∀(D:Nat) (W:World),w.heap.size<=D->I N W->W.heap[D]? =some (.deferred (some []))->Q .normal {a with defers:={target:= .collected D,args:= #[]}::a.defers} W):
  (Code.rangeFunc g ps assign body).wpIn F n P Q a w:=by
 refine wpIn_rangeFunc ?_;intro fn hfn;rw[hro];obtain⟨rec,hrec⟩: ∃rec:LoopState->Option Code->Loop,rec=fun st pe=>{state:=st,pending:=pe,fn,tmps:=a.tmps,params:=ps,assign,body,defers:=w.heap.size}:=⟨_,rfl⟩
 obtain⟨W1,hW1⟩: ∃W1,(w.alloc (.deferred (some []))).alloc (.loop (rec .ready none))=W1:=⟨_,rfl⟩
 have hL1:W1.heap[w.heap.size+1]? =some (.loop (rec .ready none)):=by
  rw[<-hW1];have:=World.alloc_heap_new (w.alloc (.deferred (some []))) (.loop (rec .ready none))
  rwa [World.size_alloc] at this
 have hK1:W1.heap[w.heap.size]? =some (.deferred (some [])):=by
  rw[<-hW1];exact(Below.heap_alloc _ _ _ (by simp)).trans (World.alloc_heap_new w _)
 have hI1:I 0 W1:=by
  rw[<-hW1];exact hI.alloc _ (hI.alloc _ h0)
 have hb1:Below w0.heap.size w0 W1:=by
  rw[<-hW1];exact hb0.trans ((((Below.refl _ w).alloc (Nat.le_refl _) _).alloc (by simp) _).mono hb0.size)
 refine⟨w.heap.size+1,[{target:= .collected w.heap.size,args:= #[]}],W1,{target:= .fn (.func gf) lb,args:= #[.func (.yield (w.heap.size+1)) #[] #[]]},W1,gf,
  #[.func (.yield (w.heap.size+1)) #[] #[]]++lb,W1,?_,?_,?_,?_,fun _=>h1,?_⟩
 ·rw[<-hW1,hrec]
  exact run_enterLoop_outer _ _ _ _ _
 ·simp only[resolve,hg]
  simp[go_sem]
 ·intro f' hf'
  simp[Target.leads] at hf';subst hf';exact hFg
 ·simp[invoke,go_sem,eg]
 ·refine(hseq (w.heap.size+1) (fun k W=>I k W/\W.heap[w.heap.size+1]? =some (.loop (rec .ready none))/\W.heap[w.heap.size]? =some (.deferred (some []))) W1 hb1
   ?_ ⟨hI1,hL1,hK1⟩ (fun k W h=>⟨hI.drew h.1,h.2⟩)).mono ?_
  ·rintro k W hk ⟨hi,hl,hd⟩
   have hlt:w.heap.size+1<W.heap.size:=(Array.getElem?_eq_some_iff.1 hl).1;have hy:=run_yield (P:=P) (args:=encs k) hl (by rw[hrec];exact hps k);rw[hrec] at hy;refine⟨fn,_,assign,body,hy,roundIn_of_wpIn hfn (hassign _ k W _ hk ⟨_,run_beginRound hl (by rw[hrec]),?_⟩)⟩;obtain⟨W2,hW2⟩: ∃W2,W2=W.putObj (w.heap.size+1) (.loop {rec .ready none with state:= .busy }):=⟨_,rfl⟩;rw[<-hW2];have hl2:W2.heap[w.heap.size+1]? =some (.loop {rec .ready none with state:= .busy }):=(by rw[hW2];exact World.putObj_heap_same hlt);have hd2:W2.heap[w.heap.size]? =some (.deferred (some [])):=(by rw[hW2];exact(World.putObj_heap_other (by omega)).trans hd);have hw2:Kp W W2:=(by rw[hW2];exact hKb _ _ _ _ (by omega) hl rfl rfl);have hi2:I k W2:=(by rw[hW2];exact hI.putObj _ hi (by omega) hl rfl);refine wpIn_mono (hbody _ k W2 hi2 hk) ?_;rintro e a3 W3 hp
   cases e with
   |normal=>
    obtain⟨hk3,hkp3,hi3⟩:=hp;have hl3:=hk3.same _ _ (by omega) hl2 rfl;have hd3:=hk3.same _ _ (Nat.le_refl _) hd2 rfl
    have hr:(Instr.endRound (w.heap.size+1) none).run P W3= .ok (.bool true) (W3.putObj (w.heap.size+1) (.loop (rec .ready none))):=by
     have:=run_endRound (P:=P) none hl3;rw[hrec] at this ⊢;exact this
    exact⟨_,_,hr,rfl,⟨hI.putObj _ hi3 (by omega) hl3 rfl,World.putObj_heap_same (Array.getElem?_eq_some_iff.1 hl3).1,(World.putObj_heap_other (by omega)).trans hd3⟩,hKt (hKt hw2 hkp3) (hKb _ _ _ _ (by omega) hl3 rfl rfl)⟩
   |ret=>exact hp.elim
   |exit id=>exact hp.elim
   |goto t=>exact hp.elim
   |panic ch=>exact hp.elim
   |outgrown=>exact hp.elim
  ·rintro e W2 ⟨⟨v,rfl⟩,hi,hl,hd⟩
   have hr:=run_endLoop (P:=P) hl (by rw[hrec];simp);rw[hrec] at hr;exact⟨none,_,hr,hdone _ _ (Nat.le_refl _) (hI.putObj _ hi (by omega) hl rfl) ((World.putObj_heap_other (by omega)).trans hd)⟩
end Runs

namespace Runs
open Go Go.RowKit
variable {F:Fence} {n:Nat} {P:Program}
theorem Xw {g:Operand} {ps:Array Tmp} {assign body:Code} {Q:Exit->Act->World->Prop} {a:Act} {w:World}
  (hro:F.round=none) (h1:1<=n) {gf:Nat} {lb:Array Value} (hg:a.eval g= .func (.func gf) #[] lb) (hFg:F.fn gf) (eg: ∀args w,(callFunc gf args).run P w= .ok (.enter gf args) w)
  {encs:Nat->Array Value} {Kp:World->World->Prop} {N:Nat} {w0:World} (hseq:Yd F (n-1) P gf lb encs Kp N w0)
  (hKt: ∀{A B C:World},Kp A B->Kp B C->Kp A C) (hKb: ∀(W:World) (l:Nat) (o o':Obj),w.heap.size<=l->W.heap[l]? =some o->o.isCells=false->o.isWalk=false->Kp W (W.putObj l o')) (hb0:Below w0.heap.size w0 w) (hps: ∀k,(encs k).size =ps.size)
  (I:Nat->World->Prop) (hI:OwnFrom w.heap.size I) (h0:I 0 w)
  (hround: ∀(l:Nat) (k:Nat) (W:World),I k W->k<N->assign.wpIn (F.inRound l) (n-1-1) P (Exit.then (fun a' W1=>KeepsFrom w.heap.size W W1/\Kp W W1/\ ∃J:World->Prop,J W1/\OwnFrom w.heap.size (fun(_:Unit) W=>J W)/\
   ∀W2,J W2->body.wpIn (F.inRound l) (n-1-1) P (We w.heap.size Kp I (k+1) W2) a' W2) (fun _ _ _=>False)) {tmps:=(ps.zip (encs k)).foldl (fun t (p,v)=>t.setIfInBounds p v) a.tmps,defers:=[]} W)
  (hdone: ∀(D:Nat) (W:World),w.heap.size<=D->I N W->W.heap[D]? =some (.deferred (some []))->Q .normal {a with defers:={target:= .collected D,args:= #[]}::a.defers} W):
  (Code.rangeFunc g ps assign body).wpIn F n P Q a w:=by
 refine wpIn_rangeFunc ?_;intro fn hfn;rw[hro];obtain⟨rec,hrec⟩: ∃rec:LoopState->Option Code->Loop,rec=fun st pe=>{state:=st,pending:=pe,fn,tmps:=a.tmps,params:=ps,assign,body,defers:=w.heap.size}:=⟨_,rfl⟩
 obtain⟨W1,hW1⟩: ∃W1,(w.alloc (.deferred (some []))).alloc (.loop (rec .ready none))=W1:=⟨_,rfl⟩
 have hL1:W1.heap[w.heap.size+1]? =some (.loop (rec .ready none)):=by
  rw[<-hW1];have:=World.alloc_heap_new (w.alloc (.deferred (some []))) (.loop (rec .ready none))
  rwa [World.size_alloc] at this
 have hK1:W1.heap[w.heap.size]? =some (.deferred (some [])):=by
  rw[<-hW1];exact(Below.heap_alloc _ _ _ (by simp)).trans (World.alloc_heap_new w _)
 have hI1:I 0 W1:=by
  rw[<-hW1];exact hI.alloc _ (hI.alloc _ h0)
 have hb1:Below w0.heap.size w0 W1:=by
  rw[<-hW1];exact hb0.trans ((((Below.refl _ w).alloc (Nat.le_refl _) _).alloc (by simp) _).mono hb0.size)
 refine⟨w.heap.size+1,[{target:= .collected w.heap.size,args:= #[]}],W1,{target:= .fn (.func gf) lb,args:= #[.func (.yield (w.heap.size+1)) #[] #[]]},W1,gf,
  #[.func (.yield (w.heap.size+1)) #[] #[]]++lb,W1,?_,?_,?_,?_,fun _=>h1,?_⟩
 ·rw[<-hW1,hrec]
  exact run_enterLoop_outer _ _ _ _ _
 ·simp only[resolve,hg]
  simp[go_sem]
 ·intro f' hf'
  simp[Target.leads] at hf';subst hf';exact hFg
 ·simp[invoke,go_sem,eg]
 ·refine(hseq (w.heap.size+1) (fun k W=>I k W/\W.heap[w.heap.size+1]? =some (.loop (rec .ready none))/\W.heap[w.heap.size]? =some (.deferred (some []))) W1 hb1
   ?_ ⟨hI1,hL1,hK1⟩ (fun k W h=>⟨hI.drew h.1,h.2⟩)).mono ?_
  ·rintro k W hk ⟨hi,hl,hd⟩
   have hlt:w.heap.size+1<W.heap.size:=(Array.getElem?_eq_some_iff.1 hl).1;have hy:=run_yield (P:=P) (args:=encs k) hl (by rw[hrec];exact hps k);rw[hrec] at hy;refine⟨fn,_,assign,body,hy,roundIn_of_wpIn hfn (wpIn_mono (hround _ k W hi hk) ?_)⟩;rintro e0 a0 W0 hp0
   cases e0 with
   |ret=>exact hp0.elim
   |exit id=>exact hp0.elim
   |goto t=>exact hp0.elim
   |panic ch=>exact hp0.elim
   |outgrown=>exact hp0.elim
   |normal=>
   obtain⟨hk1,hkp1,J,hJ1,hJo,hbody⟩:=hp0;have hl0:=hk1.same _ _ (by omega) hl rfl;have hd0:=hk1.same _ _ (Nat.le_refl _) hd rfl;have hlt0:w.heap.size+1<W0.heap.size:=(Array.getElem?_eq_some_iff.1 hl0).1;obtain⟨W2,hW2⟩: ∃W2,W2=W0.putObj (w.heap.size+1) (.loop {rec .ready none with state:= .busy }):=⟨_,rfl⟩;have hbr:(Instr.beginRound (w.heap.size+1)).run P W0=_:=run_beginRound hl0 (by rw[hrec]);rw[<-hW2] at hbr;have hl2:W2.heap[w.heap.size+1]? =some (.loop {rec .ready none with state:= .busy }):=(by rw[hW2];exact World.putObj_heap_same hlt0);have hd2:W2.heap[w.heap.size]? =some (.deferred (some [])):=(by rw[hW2];exact(World.putObj_heap_other (by omega)).trans hd0);have hw2:Kp W W2:=hKt hkp1 (by rw[hW2];exact hKb _ _ _ _ (by omega) hl0 rfl rfl);have hi2:J W2:=(by rw[hW2];exact hJo.putObj (s:=()) _ hJ1 (by omega) hl0 rfl);refine⟨_,hbr,?_⟩;refine wpIn_mono (hbody W2 hi2) ?_;rintro e a3 W3 hp
   cases e with
   |normal=>
    obtain⟨hk3,hkp3,hi3⟩:=hp;have hl3:=hk3.same _ _ (by omega) hl2 rfl;have hd3:=hk3.same _ _ (Nat.le_refl _) hd2 rfl
    have hr:(Instr.endRound (w.heap.size+1) none).run P W3= .ok (.bool true) (W3.putObj (w.heap.size+1) (.loop (rec .ready none))):=by
     have:=run_endRound (P:=P) none hl3;rw[hrec] at this ⊢;exact this
    exact⟨_,_,hr,rfl,⟨hI.putObj _ hi3 (by omega) hl3 rfl,World.putObj_heap_same (Array.getElem?_eq_some_iff.1 hl3).1,(World.putObj_heap_other (by omega)).trans hd3⟩,hKt (hKt hw2 hkp3) (hKb _ _ _ _ (by omega) hl3 rfl rfl)⟩
   |ret=>exact hp.elim
   |exit id=>exact hp.elim
   |goto t=>exact hp.elim
   |panic ch=>exact hp.elim
   |outgrown=>exact hp.elim
  ·rintro e W2 ⟨⟨v,rfl⟩,hi,hl,hd⟩
   have hr:=run_endLoop (P:=P) hl (by rw[hrec];simp);rw[hrec] at hr;exact⟨none,_,hr,hdone _ _ (Nat.le_refl _) (hI.putObj _ hi (by omega) hl rfl) ((World.putObj_heap_other (by omega)).trans hd)⟩
end Runs

namespace Runs
open Go Go.RowKit
def markD (D:Nat):Deferred:={target:= .collected D,args:= #[]}
def Marks (B:Nat) (Ds:List Nat) (W:World):Prop:=Ds.Nodup/\ ∀D∈Ds,B<=D/\W.heap[D]? =some (.deferred (some []))
theorem Marks.keep {B:Nat} {Ds:List Nat} {W W1:World} (h:Marks B Ds W) (hk:KeepsOthers W W1):Marks B Ds W1:=⟨h.1,fun D hD=>⟨(h.2 D hD).1,hk.same D _ (h.2 D hD).2 rfl⟩⟩
theorem Marks.cons {B D:Nat} {Ds:List Nat} {W:World} (h:Marks B Ds W) (hB:B<=D) (hD:W.heap[D]? =some (.deferred (some []))) (hn: ∀D'∈Ds,D'<D):Marks B (D::Ds) W:=
 ⟨List.nodup_cons.2 ⟨fun hm=>by have:=hn D hm;omega,h.1⟩,fun D' hm=>by
  rcases List.mem_cons.1 hm with rfl|hm
  ·exact⟨hB,hD⟩
  ·exact h.2 D' hm⟩
theorem Bw {F:Fence} {n:Nat} {P:Program} {fn:Func} {tmps:Array Value} {R:Ending->World->Prop} {B:Nat} {J:World->Prop}
  (hJ: ∀W D,J W->B<=D->W.heap[D]? =some (.deferred (some []))->J (W.putObj D (.deferred none))) (hend: ∀W,J W->LeavesInM F n P fn tmps R [] .returning W): ∀(Ds:List Nat) (W:World),Marks B Ds W->J W->LeavesInM F n P fn tmps R (Ds.map markD) .returning W
 |[],W,_,h=>hend W h
 |D::Ds,W,hm,h=>by
  obtain⟨h1,h2⟩:=hm;obtain⟨hn,hn2⟩:=List.nodup_cons.1 h1;obtain⟨hb,hd⟩:=h2 D (by simp);refine⟨by simp,.inl ⟨D,_,rfl,run_takeDeferred hd,Bw hJ hend Ds _ ⟨hn2,fun D' hD'=> ?_⟩ (hJ W D h hb hd)⟩⟩;obtain⟨a,b⟩:=h2 D' (by simp[hD']);exact⟨a,(World.putObj_heap_other (fun e=>hn (by rw[<-e];exact hD'))).trans b⟩
end Runs

end Go.Proofs.YtnflnicdjioflaaGreatDoor
