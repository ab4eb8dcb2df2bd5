/- A range over a function whose iterator writes a variable of its own between two rounds: what it promises, and the statement's law (no round leaves early). -/
import Derived.RangeFuncWrites
import Derived.RangeFuncBox
import Derived.Test.YtljadjoljhanfaaMd
import Derived.RangeFuncNested
import Derived.RangeFuncBound
import Derived.RangeFuncCalls
import Derived.RangeFuncLeaves
import Derived.Shelf.Abstract
import Derived.Shelf.RegionOpen
import Derived.OwnWalkIn
import Derived.TacticsInMore
import Derived.LoopNIn
import Derived.LoopIn
import Derived.WalkKit
import Derived.WalkSpells
import Derived.WalkLawsBesides
import Derived.KernelRfl
import Derived.Deep.RegionHeld3
import Derived.Deep.LoopGhost
import Derived.Deep.AppendLies
import Derived.Laws.Rows
import Derived.Shelf.GgClosure.Gives
import Derived.Test.YtljadjoljhanfaaWWords
import Derived.Test.YtljadjoljhanfaaWLast
import Derived.Test.YtljadjoljhanfaaWMore
import Derived.Test.YtljadjoljhanfaaMc
import Derived.Test.YtljadjoljhanfaaWLast
set_option linter.unusedVariables false
set_option linter.unusedSimpArgs false
namespace Go.Proofs.Ytljadjoljhanfaa.Runs
open Go Go.RowKit

variable {F : Fence} {n : Nat} {P : Program}

/-- The iterator hands the N elements encs 0, encs 1, .. to yield; between two rounds it makes blocks and writes the cell at block Bc; what a round must keep: Kp. -/
def SeqRuns (F : Fence) (n : Nat) (P : Program) (g : Nat) (lb : Array Value) (encs : Nat → Array Value) (Kp : World → World → Prop) (Bc : Nat) (N : Nat) (w : World) : Prop :=
  ∀ (l : Nat) (J : Nat → World → Prop) (W : World), Below w.heap.size w W → (∀ k W1 v, J k W1 → J k (W1.setCell ⟨Bc, 0, none⟩ v)) →
    (∀ k W1, k < N → J k W1 → YieldAt F (n - 1) P l (encs k) W1 fun e W' => e = .returned (.bool true) ∧ J (k + 1) W' ∧ Kp W1 W') →
    J 0 W → CallsIn F n P g (#[.func (.yield l) #[] #[]] ++ lb) W fun e W' => (∃ v, e = .returned v) ∧ J N W'

/-- How a round ends: it goes on. -/
def runPost (B : Nat) (Kp : World → World → Prop) (I : Nat → World → Prop) (k : Nat) (W : World) : Exit → Act → World → Prop
  | .normal, _, W' => KeepsFrom B W W' ∧ Kp W W' ∧ I k W'
  | _, _, _ => False

theorem heap_setCell_ne (W : World) {b k : Nat} (v : Value) (h : k ≠ b) : (W.setCell ⟨b, 0, none⟩ v).heap[k]? = W.heap[k]? := Below.heap_setCell _ _ _ k h

/-- The statement. -/
theorem wpIn_rangeRuns {g : Operand} {ps : Array Tmp} {assign body : Code} {Q : Exit → Act → World → Prop} {a : Act} {w : World}
    (hro : F.round = none) (h1 : 1 ≤ n) {gf : Nat} {lb : Array Value} (hg : a.eval g = .func (.func gf) #[] lb) (hFg : F.fn gf) (eg : ∀ args w, (callFunc gf args).run P w = .ok (.enter gf args) w)
    {encs : Nat → Array Value} {Kp : World → World → Prop} {Bc N : Nat} {w0 : World} (hseq : SeqRuns F (n - 1) P gf lb encs Kp Bc N w0) (hBc : Bc < w.heap.size)
    (hKt : ∀ {A B C : World}, Kp A B → Kp B C → Kp A C) (hKb : ∀ (W : World) (l : Nat) (o o' : Obj), w.heap.size ≤ l → W.heap[l]? = some o → o.isCells = false → o.isWalk = false → Kp W (W.putObj l o')) (hb0 : Below w0.heap.size w0 w) (hps : ∀ k, (encs k).size = ps.size)
    (I : Nat → World → Prop) (hI : OwnFrom w.heap.size I) (hIc : ∀ k W v, I k W → I k (W.setCell ⟨Bc, 0, none⟩ v)) (h0 : I 0 w) (a₁ : Nat → Act)
    (hassign : ∀ (l : Nat) (k : Nat) (W : World) (K : Act → World → Prop), k < N → K (a₁ k) W →
      assign.wpIn (F.inRound l) (n - 1 - 1) P (Exit.then K (fun _ _ _ => False)) { tmps := (ps.zip (encs k)).foldl (fun t (p, v) => t.setIfInBounds p v) a.tmps, defers := [] } W)
    (hbody : ∀ (l : Nat) (k : Nat) (W : World), I k W → k < N → body.wpIn (F.inRound l) (n - 1 - 1) P (runPost w.heap.size Kp I (k + 1) W) (a₁ k) W)
    (hdone : ∀ (D : Nat) (W : World), w.heap.size ≤ D → I N W → W.heap[D]? = some (.deferred (some [])) → Q .normal { a with defers := { target := .collected D, args := #[] } :: a.defers } W) :
    (Code.rangeFunc g ps assign body).wpIn F n P Q a w := by
  refine wpIn_rangeFunc ?_
  intro fn hfn
  rw [hro]
  obtain ⟨rec, hrec⟩ : ∃ rec : LoopState → Option Code → Loop, rec = fun st pe => { state := st, pending := pe, fn, tmps := a.tmps, params := ps, assign, body, defers := w.heap.size } := ⟨_, rfl⟩
  obtain ⟨W1, hW1⟩ : ∃ W1, (w.alloc (.deferred (some []))).alloc (.loop (rec .ready none)) = W1 := ⟨_, rfl⟩
  have hL1 : W1.heap[w.heap.size + 1]? = some (.loop (rec .ready none)) := by
    rw [← hW1]
    have := World.alloc_heap_new (w.alloc (.deferred (some []))) (.loop (rec .ready none))
    rwa [World.size_alloc] at this
  have hK1 : W1.heap[w.heap.size]? = some (.deferred (some [])) := by
    rw [← hW1]
    exact (Below.heap_alloc _ _ _ (by simp)).trans (World.alloc_heap_new w _)
  have hI1 : I 0 W1 := by
    rw [← hW1]
    exact hI.alloc _ (hI.alloc _ h0)
  have hb1 : Below w0.heap.size w0 W1 := by
    rw [← hW1]
    exact hb0.trans ((((Below.refl _ w).alloc (Nat.le_refl _) _).alloc (by simp) _).mono hb0.size)
  refine ⟨w.heap.size + 1, [{ target := .collected w.heap.size, args := #[] }], W1, { target := .fn (.func gf) lb, args := #[.func (.yield (w.heap.size + 1)) #[] #[]] }, W1, gf,
    #[.func (.yield (w.heap.size + 1)) #[] #[]] ++ lb, W1, ?_, ?_, ?_, ?_, fun _ => h1, ?_⟩
  · rw [← hW1, hrec]
    exact run_enterLoop_outer _ _ _ _ _
  · simp only [resolve, hg]
    simp [go_sem]
  · intro f' hf'
    simp [Target.leads] at hf'
    subst hf'
    exact hFg
  · simp [invoke, go_sem, eg]
  · refine (hseq (w.heap.size + 1) (fun k W => I k W ∧ W.heap[w.heap.size + 1]? = some (.loop (rec .ready none)) ∧ W.heap[w.heap.size]? = some (.deferred (some []))) W1 hb1
      (fun k W v hs => ⟨hIc k W v hs.1, (heap_setCell_ne W v (by omega)).trans hs.2.1, (heap_setCell_ne W v (by omega)).trans hs.2.2⟩) ?_ ⟨hI1, hL1, hK1⟩).mono ?_
    · rintro k W hk ⟨hi, hl, hd⟩
      have hlt : w.heap.size + 1 < W.heap.size := (Array.getElem?_eq_some_iff.1 hl).1
      have hy := run_yield (P := P) (args := encs k) hl (by rw [hrec]; exact hps k)
      rw [hrec] at hy
      refine ⟨fn, _, assign, body, hy, roundIn_of_wpIn hfn (hassign _ k W _ hk ⟨_, run_beginRound hl (by rw [hrec]), ?_⟩)⟩
      obtain ⟨W2, hW2⟩ : ∃ W2, W2 = W.putObj (w.heap.size + 1) (.loop { rec .ready none with state := .busy }) := ⟨_, rfl⟩
      rw [← hW2]
      have hl2 : W2.heap[w.heap.size + 1]? = some (.loop { rec .ready none with state := .busy }) := by rw [hW2]; exact World.putObj_heap_same hlt
      have hd2 : W2.heap[w.heap.size]? = some (.deferred (some [])) := by rw [hW2]; exact (World.putObj_heap_other (by omega)).trans hd
      have hw2 : Kp W W2 := by rw [hW2]; exact hKb _ _ _ _ (by omega) hl rfl rfl
      have hi2 : I k W2 := by rw [hW2]; exact hI.putObj _ hi (by omega) hl rfl
      refine wpIn_mono (hbody _ k W2 hi2 hk) ?_
      rintro e a3 W3 hp
      cases e with
      | normal =>
        obtain ⟨hk3, hkp3, hi3⟩ := hp
        have hl3 := hk3.same _ _ (by omega) hl2 rfl
        have hd3 := hk3.same _ _ (Nat.le_refl _) hd2 rfl
        have hr : (Instr.endRound (w.heap.size + 1) none).run P W3 = .ok (.bool true) (W3.putObj (w.heap.size + 1) (.loop (rec .ready none))) := by
          have := run_endRound (P := P) none hl3
          rw [hrec] at this ⊢
          exact this
        exact ⟨_, _, hr, rfl, ⟨hI.putObj _ hi3 (by omega) hl3 rfl, World.putObj_heap_same (Array.getElem?_eq_some_iff.1 hl3).1, (World.putObj_heap_other (by omega)).trans hd3⟩, hKt (hKt hw2 hkp3) (hKb _ _ _ _ (by omega) hl3 rfl rfl)⟩
      | ret => exact hp.elim
      | exit id => exact hp.elim
      | goto t => exact hp.elim
      | panic ch => exact hp.elim
      | outgrown => exact hp.elim
    · rintro e W2 ⟨⟨v, rfl⟩, hi, hl, hd⟩
      have hr := run_endLoop (P := P) hl (by rw [hrec]; simp)
      rw [hrec] at hr
      exact ⟨none, _, hr, hdone _ _ (Nat.le_refl _) (hI.putObj _ hi (by omega) hl rfl) ((World.putObj_heap_other (by omega)).trans hd)⟩

end Go.Proofs.Ytljadjoljhanfaa.Runs
/- Bands: the iterator over them. -/
namespace Go.Proofs.Ytljadjoljhanfaa.Q16
open Go.RowKit Go.Proofs.YtljadjoljhanfaaW.PrintWords Go.Proofs.YtljadjoljhanfaaW.PrintLast Go.Proofs.YtljadjoljhanfaaW.PrintMore
attribute [local go_sem] max2_int min2_int max_two min_two max_three min_three
open Go.Proofs.Ytljadjoljhanfaa.Q15 Go.Proofs.Ytljadjoljhanfaa.Runs Go.Shelf
attribute [local go_sem] Oper.semAt_some

/-- Where band k begins, and its width. -/
def off (l : List Int) (k : Nat) : Nat := (l.take k).sum.toNat
def wd (l : List Int) (k : Nat) : Nat := (rd l k).toNat
/-- What is handed over for band k. -/
def encB (a : Addr) (l : List Int) (k : Nat) : Array Value := #[.int .i64 k, .slice (some (a.add (off l k))) (wd l k) (wd l k)]
theorem off_next {l : List Int} (h : isW l = true) {k : Nat} (hk : k < l.length) : off l (k + 1) = off l k + wd l k ∧ 1 ≤ wd l k ∧ off l k + wd l k ≤ 128 ∧ rd l k = (wd l k : Nat) := by
  obtain ⟨h1, h2, h3⟩ := isW_iff.1 h
  have h4 := h1 _ (rd_mem l k hk)
  have h5 := sum_take_le h1 (k + 1)
  have h6 := sum_pos (l := l.take k) (fun x hx => h1 x (List.mem_of_mem_take hx))
  unfold off wd
  rw [take_rd l k hk, List.sum_append] at h5 ⊢
  simp only [List.sum_cons, List.sum_nil] at h5 ⊢
  omega

/-- What a round must keep: what lay when all began, and the iterator's two cells. -/
def Keep3 (S B1 Bc : Nat) (A B : World) : Prop := Below S A B ∧ B.heap[B1]? = A.heap[B1]? ∧ B.heap[Bc]? = A.heap[Bc]?
theorem Keep3.trans {S B1 Bc : Nat} {A B C : World} (h : Keep3 S B1 Bc A B) (k : Keep3 S B1 Bc B C) : Keep3 S B1 Bc A C := ⟨h.1.trans k.1, k.2.1.trans h.2.1, k.2.2.trans h.2.2⟩
theorem Keep3.putObj {S B1 Bc N : Nat} (h0 : S ≤ N) (h1 : B1 < N) (h2 : Bc < N) (W : World) (l : Nat) (o o' : Obj) (hl : N ≤ l) (ho : W.heap[l]? = some o) (hc : o.isCells = false) (hw : o.isWalk = false) : Keep3 S B1 Bc W (W.putObj l o') :=
  ⟨(Below.refl S W).grown (grownBy_putObj' W l o') (by have := (Array.getElem?_eq_some_iff.1 ho).1; omega) (fun k e => by cases e; omega), World.putObj_heap_other (by omega), World.putObj_heap_other (by omega)⟩
theorem cell_heap {A B : World} {b : Nat} (h : B.heap[b]? = A.heap[b]?) {o : Nat} : B.cell? ⟨b, o, none⟩ = A.cell? ⟨b, o, none⟩ := by simp [World.cell?, h]
theorem frozen_heap {A B : World} {b : Nat} (h : B.heap[b]? = A.heap[b]?) {o : Nat} : B.frozen? ⟨b, o, none⟩ = A.frozen? ⟨b, o, none⟩ := by simp [World.frozen?, h]
theorem addr_add_zero (a : Addr) : a.add 0 = a := by simp [Addr.add]

set_option maxRecDepth 100000 in
set_option maxHeartbeats 1000000 in
theorem parts1_runs (F : Fence) (n : Nat) (hF : F.fn 91) (hro : F.round = none) (hn : 1 ≤ n) (B1 Bc : Nat) (a : Addr) (c0 : Nat) (A1 : Option Addr) (cap : Nat) (l : List Int) (hl : isW l = true) (hc0 : 128 ≤ c0) (hc9 : c0 ≤ 9223372036854775807)
    (wS w : World) (hr : (Kd.int .i64).C wS A1 l.length l) (hS : Below wS.heap.size wS w) (s1 : wS.heap.size ≤ B1) (s2 : wS.heap.size ≤ Bc) (hne : B1 ≠ Bc) (l1 : B1 < w.heap.size) (l2 : Bc < w.heap.size)
    (c1 : w.cell? ⟨B1, 0, none⟩ = some (.slice A1 l.length cap)) (c2 : w.cell? ⟨Bc, 0, none⟩ = some (.slice (some a) 128 c0)) (f2 : w.frozen? ⟨Bc, 0, none⟩ = false) :
    SeqRuns F n Try.prog 91 #[.pointer (some ⟨B1, 0, none⟩), .pointer (some ⟨Bc, 0, none⟩)] (encB a l) (Keep3 wS.heap.size B1 Bc) Bc l.length w := fun L J W hW hJ hY h0 => by
  have d1 := cnx c1 hW
  have d2 := cnx c2 hW
  have g2 := (hW.frozen (p := ⟨Bc, 0, none⟩) (by simp; omega)).trans f2
  have hS' := bnx hS hW
  have HR := Aside0.mk hr
  have HY := Aside0.mk hY
  have HJ := Aside0.mk hJ
  have HN := Aside0.mk (fun k (hk : k < l.length) => off_next hl hk)
  have hll : (l.length : Int) ≤ 32 := by have := (isW_iff.1 hl).2.2; omega
  clear hY hJ c1 c2 f2 hr hl
  refine callsIn_of_wp Try.func91 rfl hF ?_ hro
  simp only [Try.ntmps91, List.size_toArray, List.length_cons, List.length_nil, Nat.reduceAdd, Nat.reduceSub, Array.replicate_succ, Array.replicate_zero, List.push_toArray, List.append_toArray, List.nil_append, List.cons_append]
  gi_wp2
  gi_loopw [8] (fun i wr => ∃ k : Nat, i = .int .i64 k ∧ k ≤ l.length ∧ wr.cell? ⟨B1, 0, none⟩ = some (.slice A1 l.length cap) ∧ Aside0 (k < l.length → wr.cell? ⟨Bc, 0, none⟩ = some (.slice (some (a.add (off l k))) (128 - off l k) (c0 - off l k))) ∧ wr.frozen? ⟨Bc, 0, none⟩ = false ∧ Below wS.heap.size wS wr ∧ w.heap.size ≤ wr.heap.size ∧ Aside0 (J k wr)) (fun i _ => l.length - (intOf i).toNat)
  case atStart => exact ⟨0, rfl, by omega, d1, ⟨fun _ => by rw [d2]; simp [off, addr_add_zero]⟩, g2, hS', hW.size, ⟨h0⟩⟩
  case round =>
    obtain ⟨k, rfl, hk, e1, e2, e3, hb, hsz, hJs⟩ := hrel
    clear d1 d2 g2 hS'
    by_cases hlt : k < l.length
    · obtain ⟨ad, rfl, hcell⟩ := el_at HR.out hb hlt
      have e2' := e2.out hlt
      obtain ⟨q1, q2, q3, q4⟩ := HN.out k hlt
      rw [q4] at hcell
      obtain ⟨fn, tmps, assign, body, hy, hR⟩ := HY.out k wr hlt hJs.out
      have hR2 := Aside0.mk hR
      clear hR q4
      unfold encB at hy
      obtain ⟨o, ho⟩ : ∃ o, o = off l k := ⟨_, rfl⟩
      obtain ⟨d, hd⟩ : ∃ d, d = wd l k := ⟨_, rfl⟩
      rw [← ho] at e2' q1 q3 hy
      rw [← hd] at hcell q1 q2 q3 hy
      obtain ⟨m, hm⟩ : ∃ m, m = 128 - o := ⟨_, rfl⟩
      obtain ⟨c, hc⟩ : ∃ c, c = c0 - o := ⟨_, rfl⟩
      rw [← hm, ← hc] at e2'
      have i1 : (d : Int) ≤ (m : Int) := by omega
      have i2 : (d : Int) ≤ (c : Int) := by omega
      have i3 : (m : Int) ≤ (c : Int) := by omega
      have i4 : (c : Int) ≤ 9223372036854775807 := by omega
      have i5 : (1 : Int) ≤ (d : Int) := by omega
      replace hm := Aside0.mk hm
      replace hc := Aside0.mk hc
      replace q1 := Aside0.mk q1
      obtain ⟨a', ha'⟩ : ∃ a', a' = a.add o := ⟨_, rfl⟩
      rw [← ha'] at e2' hy
      replace ho := Aside0.mk ho
      replace hd := Aside0.mk hd
      replace ha' := Aside0.mk ha'
      clear q2 q3 e2
      gi_wp2
      refine hR2.out.mono ?_
      rintro e W3 ⟨rfl, hJ3, hk3⟩
      have b1 := (cell_heap hk3.2.1).trans e1
      have b2 := (cell_heap hk3.2.2).trans e2'
      have b3 := (frozen_heap hk3.2.2 (o := 0)).trans e3
      have hb3 : Below wS.heap.size wS W3 := hb.trans hk3.1
      have hs3 := hk3.1.size
      replace hJ3 := Aside0.mk hJ3
      clear hR2 e1 e2' e3 hk3 hb hy
      gi_wp2
      go_roundw
      case rel =>
        refine ⟨k + 1, by go_num, by omega, (World.cell?_setCell_far _ _ _ _ (by simp; omega)).trans b1, ⟨fun hk1 => ?_⟩, ?_, hb3.setCell (by simp; omega) _, by simp; omega, ⟨HJ.out _ _ _ hJ3.out⟩⟩
        · obtain ⟨p1, p2, p3, p4⟩ := HN.out (k + 1) hk1
          have hq := q1.out
          have hmo := hm.out
          have hco := hc.out
          rw [hq] at p3 ⊢
          rw [World.cell?_setCell_same' _ _ _ (by rw [b2]; rfl), if_neg (by omega), ha'.out, Addr.add_add]
          rw [show m - d = 128 - (o + d) by omega, show c - d = c0 - (o + d) by omega]
        · simpa using b3
      case measure => simp [intOf]; omega
    · obtain rfl : k = l.length := by omega
      gi_wp2
      go_end0
      exact ⟨⟨_, rfl⟩, hJs.out⟩

set_option maxHeartbeats 400000 in
theorem parts_calls (A0 A1 : Option Addr) (n0 c0 n1 c1 : Nat) (w : World) :
    Calls Try.prog 66 #[.slice A0 n0 c0, .slice A1 n1 c1] w fun e w' => e = .returned (.func (.func 91) #[] #[.pointer (some ⟨w.heap.size + 1, 0, none⟩), .pointer (some ⟨w.heap.size, 0, none⟩)]) ∧ w' = (w.alloc (.cells #[.slice A0 n0 c0] 22)).alloc (.cells #[.slice A1 n1 c1] 22) := by
  go_enter Try.func66, Try.ntmps66
  go_wp2
  go_ret
  exact ⟨rfl, rfl⟩

end Go.Proofs.Ytljadjoljhanfaa.Q16
/- A region that draws its order and ends in a store, inside a round of a range over a function: the plain walk's words for 'last' operations. -/
namespace Go.Proofs.Ytljadjoljhanfaa.Held
open Go Go.Proofs.YtljadjoljhanfaaW.PrintLast

theorem wpIn_region_last {l n : Nat} {P : Program} {id : Nat} {ops : Array Oper} {Q : Exit → Act → World → Prop} {a : Act} {w : World} (S : World → Prop) (ds : List Nat) (hm : P.follows .mixedOrders = true) (hd : noDefer ops = true) (hq : ¬ LetsOut Q)
    (hS : S w.drew) (h : S w.drew → wpAnyLast P .any ops Q S ds ops.size (Array.replicate ops.size false) a w.drew) : (Code.region id ops true).wpIn (Fence.wide.inRound l) n P Q a w :=
  wpIn_region_any hm (wpAny_wide hd hq _ _ _ _ (wpAny_of_last _ _ _ _ (h hS)))

end Go.Proofs.Ytljadjoljhanfaa.Held
/- What each[int] returns: a number for each band. -/
namespace Go.Proofs.Ytljadjoljhanfaa.Q16
open Go.RowKit Go.Proofs.YtljadjoljhanfaaW.PrintWords Go.Proofs.YtljadjoljhanfaaW.PrintLast Go.Proofs.YtljadjoljhanfaaW.PrintMore
attribute [local go_sem] max2_int min2_int max_two min_two max_three min_three
open Go.Proofs.Ytljadjoljhanfaa.Q15 Go.Proofs.Ytljadjoljhanfaa.Runs Go.Shelf
attribute [local go_sem] Oper.semAt_some

/-- The function value that is asked of each band. -/
def FnPart (g : Nat) (fs cs : Array Value) (a : Addr) (l : List Int) (w : World) (k : Nat) (r : Int) : Prop :=
  ∀ W, Below w.heap.size w W → Calls Try.prog g (fs ++ encB a l k ++ cs) W fun e w' => e = .returned (.int .i64 r) ∧ Below W.heap.size W w'

theorem R_set {α : Type} {D : Kd α} {e base : Nat} {W : World} {v : Value} {xs : List α} (h : D.R e W base (fun _ => True) v xs) {p : Addr} (hp : p.block < base) (u : Value) : D.R e (W.setCell p u) base (fun _ => True) v xs :=
  Kd.R_mono (Kd.R_far (Kd.R_bound h) (fun k hk e => by have := hk.2.1; omega) u) (fun _ _ => trivial)
theorem R_turn {α : Type} {D : Kd α} {e base : Nat} {W W' : World} {v : Value} {xs : List α} {row : Option Nat} (h : D.R e W base (fun _ => True) v xs) (hg : W.grownBy W' row) (hr : ∀ r, row = some r → ∃ o : Obj, W.heap[r]? = some o ∧ o.isCells = false) : D.R e W' base (fun _ => True) v xs :=
  Kd.R_mono (Kd.R_grown (Kd.R_bound h) hg (fun k hk e => by
    obtain ⟨_, _, _, q, _, cells, hc⟩ := hk
    obtain ⟨o, ho, hco⟩ := hr k e.symm
    rw [hc] at ho
    cases ho
    cases hco)) (fun _ _ => trivial)
theorem keeps_row {α : Type} {D : Kd α} {e base : Nat} {W W' : World} {v : Value} {xs : List α} (h : D.R e W base (fun _ => True) v xs) (hg : W.grownBy W' v.ownBlock) : KeepsOthers W W' :=
  ⟨hg.size, fun k o hk ho => (hg.block k (Array.getElem?_eq_some_iff.1 hk).1 (fun e => by
    obtain ⟨_, _, _, q, _, cells, hc⟩ := (Kd.R_bound h).1 k e.symm
    rw [hk] at hc
    cases hc
    cases ho)).trans hk⟩

set_option maxRecDepth 100000 in
set_option maxHeartbeats 1000000 in
theorem each_calls (g : Nat) (fs cs : Array Value) (eg : Q15.Enters g) (a : Addr) (c0 : Nat) (A1 : Option Addr) (cap : Nat) (l : List Int) (hl : isW l = true) (hc0 : 128 ≤ c0) (hc9 : c0 ≤ 9223372036854775807) (r : Nat → Int)
    (w : World) (hr : (Kd.int .i64).C w A1 l.length l) (hof : ∀ k, k < l.length → FnPart g fs cs a l w k (r k)) :
    Calls Try.prog 33 #[.slice (some a) 128 c0, .slice A1 l.length cap, .func (.func g) fs cs] w fun e w' => ∃ v, e = .returned v ∧ (Kd.int .i64).R 3 w' w.heap.size (fun _ => True) v ((List.range l.length).map r) ∧ Below w.heap.size w w' := by
  obtain ⟨W2, hW2⟩ : ∃ W2, W2 = (w.alloc (.cells #[.func (.func g) fs cs] 47)).alloc (.cells #[.slice none 0 0] 22) := ⟨_, rfl⟩
  have hB2 : Below w.heap.size w W2 := by rw [hW2]; exact ((Below.refl _ _).alloc (Nat.le_refl _) _).alloc (by simp) _
  have a0 : W2.cell? ⟨w.heap.size, 0, none⟩ = some (.func (.func g) fs cs) := by rw [hW2]; go_simp
  have a1 : W2.cell? ⟨w.heap.size + 1, 0, none⟩ = some (.slice none 0 0) := by rw [hW2]; go_simp
  have f1 : W2.frozen? ⟨w.heap.size + 1, 0, none⟩ = false := by rw [hW2]; go_simp
  have s2 : w.heap.size + 2 ≤ W2.heap.size := by rw [hW2]; simp
  have hOF := Aside0.mk hof
  have hR1 := Aside0.mk hr
  have hL := Aside0.mk hl
  have hll : (l.length : Int) ≤ 32 := by have := (isW_iff.1 hl).2.2; omega
  clear hof hr hl
  unfold Q15.Enters at eg
  refine (callsIn_wide (n := 3)).1 ?_
  refine callsIn_of_wp_marks Try.func33 rfl trivial ?_ rfl
  simp only [Try.ntmps33, List.size_toArray, List.length_cons, List.length_nil, Nat.reduceAdd, Nat.reduceSub, Array.replicate_succ, Array.replicate_zero, List.push_toArray, List.append_toArray, List.nil_append, List.cons_append]
  gi_wp2_with fail
  rw [← hW2]
  clear hW2
  refine ⟨trivial, (callsIn_wide.2 (parts_calls (some a) A1 128 c0 l.length cap W2)).mono ?_⟩
  rintro e W3 ⟨rfl, hw3⟩
  have hb3 : Below W2.heap.size W2 W3 := by rw [hw3]; exact ((Below.refl _ _).alloc (Nat.le_refl _) _).alloc (by simp) _
  have d1 : W3.cell? ⟨W2.heap.size, 0, none⟩ = some (.slice (some a) 128 c0) := by rw [hw3]; go_simp
  have d2 : W3.cell? ⟨W2.heap.size + 1, 0, none⟩ = some (.slice A1 l.length cap) := by rw [hw3]; go_simp
  have g1 : W3.frozen? ⟨W2.heap.size, 0, none⟩ = false := by rw [hw3]; go_simp
  have s3 : W2.heap.size + 2 ≤ W3.heap.size := by rw [hw3]; simp
  have hB3 := bnx hB2 hb3
  clear hw3
  gi_wp2_with fail
  have hmo : Try.prog.follows .mixedOrders = true := by kernel_rfl
  refine wpIn_rangeRuns rfl (by omega) (gf := 91) (lb := #[.pointer (some ⟨W2.heap.size + 1, 0, none⟩), .pointer (some ⟨W2.heap.size, 0, none⟩)]) rfl trivial (enters_of Try.func91 (by kernel_rfl) rfl)
    (parts1_runs Fence.wide _ trivial rfl (by omega) (W2.heap.size + 1) W2.heap.size a c0 A1 cap l hL.out hc0 hc9 w W3 hR1.out hB3 (by omega) (by omega) (by omega) (by omega) (by omega) d2 d1 g1) (by omega)
    (fun h k => h.trans k) (fun W l' o o' hl' => Keep3.putObj (N := W3.heap.size) (by omega) (by omega) (by omega) W l' o o' hl') (Below.refl _ _) (fun _ => rfl)
    (fun k W => W.cell? ⟨w.heap.size, 0, none⟩ = some (.func (.func g) fs cs) ∧ W.frozen? ⟨w.heap.size + 1, 0, none⟩ = false ∧ (∃ v, W.cell? ⟨w.heap.size + 1, 0, none⟩ = some v ∧ (Kd.int .i64).R 3 W W3.heap.size (fun _ => True) v ((List.range k).map r)) ∧ Below w.heap.size w W ∧ W3.heap.size ≤ W.heap.size)
    ?own ?cell ?start
    (fun k => { tmps := #[.slice (some a) 128 c0, .slice A1 l.length cap, .func (.func g) fs cs, undef, undef, .pointer (some ⟨w.heap.size, 0, none⟩), .slice none 0 0, .pointer (some ⟨w.heap.size + 1, 0, none⟩), .int .i64 k, .slice (some (a.add (off l k))) (wd l k) (wd l k), .slice (some a) 128 c0, .slice A1 l.length cap, .func (.func 91) #[] #[.pointer (some ⟨W2.heap.size + 1, 0, none⟩), .pointer (some ⟨W2.heap.size, 0, none⟩)], .int .i64 k, .slice (some (a.add (off l k))) (wd l k) (wd l k), undef, undef, undef, undef, undef, undef, undef, undef], defers := [] }) ?assign ?body ?done
  case own =>
    rintro k W W' row ⟨e0, e1, ⟨v, e2, e3⟩, e4, e5⟩ hg hrow
    exact ⟨cell_kept e0 hg (fun r e => (hrow r e).2), (frozen_kept e2 hg (fun r e => (hrow r e).2)).trans e1, ⟨v, cell_kept e2 hg (fun r e => (hrow r e).2), R_turn e3 hg (fun r e => (hrow r e).2)⟩, e4.grown hg e4.size (fun r e => by have := (hrow r e).1; omega), Nat.le_trans e5 hg.size⟩
  case cell =>
    rintro k W v ⟨e0, e1, ⟨u, e2, e3⟩, e4, e5⟩
    exact ⟨(World.cell?_setCell_far _ _ _ _ (by simp; omega)).trans e0, by simpa using e1, ⟨u, (World.cell?_setCell_far _ _ _ _ (by simp; omega)).trans e2, R_set e3 (by simp; omega) _⟩, e4.setCell (by simp; omega) _, by simpa using e5⟩
  case start => exact ⟨cnx a0 hb3, (hb3.frozen (p := ⟨w.heap.size + 1, 0, none⟩) (by simp; omega)).trans f1, ⟨_, cnx a1 hb3, Kd.R_nil _ _ _ _ _⟩, hB3, Nat.le_refl _⟩
  case assign =>
    intro l' k W K _ hK
    unfold encB
    gi_wp2
    exact hK
  case body =>
    rintro L k W ⟨e0, e1, ⟨v, e2, e3⟩, e4, e5⟩ hk
    have hF := hOF.out k hk
    unfold FnPart encB at hF
    obtain ⟨o, ho⟩ : ∃ o, o = a.add (off l k) := ⟨_, rfl⟩
    obtain ⟨d, hd⟩ : ∃ d, d = wd l k := ⟨_, rfl⟩
    rw [← ho, ← hd] at hF ⊢
    replace hF := Aside0.mk hF
    replace ho := Aside0.mk ho
    replace hd := Aside0.mk hd
    gi_wp2_with fail
    refine Held.wpIn_region_last (fun w' => w'.cell? ⟨w.heap.size, 0, none⟩ = some (.func (.func g) fs cs) ∧ w'.cell? ⟨w.heap.size + 1, 0, none⟩ = some v ∧ Below W3.heap.size W w') [7] hmo (by kernel_rfl) (fun ⟨_, _, h⟩ => h) ⟨e0, e2, (Below.refl _ _).drew⟩ (fun hHeld => ?_)
    (refine wpAnyLast_take (i := 0) (v := v) rfl (by kernel_rfl) (by kernel_rfl) (by kernel_rfl) (by kernel_rfl) (by kernel_rfl) (fun _ _ _ h => h) (Or.inl ⟨by rfl, fun wS hS => by (try dsimp only at hS); go_simp⟩) hHeld ?_; simp only [Act.put, List.setIfInBounds_toArray, List.set_cons_zero, List.set_cons_succ])
    (refine wpAnyLast_take (i := 1) (v := .func (.func g) fs cs) rfl (by kernel_rfl) (by kernel_rfl) (by kernel_rfl) (by kernel_rfl) (by kernel_rfl) (fun _ _ _ h => h) (Or.inl ⟨by rfl, fun wS hS => by (try dsimp only at hS); go_simp⟩) hHeld ?_; simp only [Act.put, List.setIfInBounds_toArray, List.set_cons_zero, List.set_cons_succ])
    (refine wpAnyLast_take (i := 2) (v := .int .i64 k) rfl (by kernel_rfl) (by kernel_rfl) (by kernel_rfl) (by kernel_rfl) (by kernel_rfl) (fun _ _ _ h => h) (Or.inl ⟨by rfl, fun wS hS => by (try dsimp only at hS); go_simp⟩) hHeld ?_; simp only [Act.put, List.setIfInBounds_toArray, List.set_cons_zero, List.set_cons_succ])
    (refine wpAnyLast_take (i := 3) (v := .slice (some o) d d) rfl (by kernel_rfl) (by kernel_rfl) (by kernel_rfl) (by kernel_rfl) (by kernel_rfl) (fun _ _ _ h => h) (Or.inl ⟨by rfl, fun wS hS => by (try dsimp only at hS); go_simp⟩) hHeld ?_; simp only [Act.put, List.setIfInBounds_toArray, List.set_cons_zero, List.set_cons_succ])
    (refine wpAnyLast_ready (rs := [4]) (by kernel_rfl) (by simp) ?_; refine AllReadyL.cons rfl (by decide) (fun K hK => ?_) AllReadyL.nil)
    go_simp
    simp only [Array.append_assoc] at hF
    have hbd : Below W.heap.size W W.drew := (Below.refl _ _).drew
    refine (hF.out _ (bnx e4 hbd)).mono ?_
    rintro e w1 ⟨rfl, hb1⟩
    have hbw := bnx hbd hb1
    have hbw3 : Below W3.heap.size W w1 := hbw.mono e5
    (go_wp2_with fail; refine hK.out _ _ (⟨cnx e0 hbw, cnx e2 hbw, hbw3⟩) (fun hHeld => ?_); clear hK K; try simp only [Act.put, List.setIfInBounds_toArray, List.set_cons_zero, List.set_cons_succ])
    have hR := Kd.R_below e3 hbw
    (refine wpAnyLast_ready (rs := [5]) (by kernel_rfl) (by simp) ?_; refine AllReadyL.cons rfl (by decide) (fun K hK => ?_) AllReadyL.nil)
    go_simp
    (go_wp2_with fail; refine hK.out _ _ (⟨cell_alloc_l _ hHeld.1, cell_alloc_l _ hHeld.2.1, hbw3.alloc (Nat.le_trans e5 hbw.size) _⟩) (fun hHeld => ?_); clear hK K; try simp only [Act.put, List.setIfInBounds_toArray, List.set_cons_zero, List.set_cons_succ])
    (refine wpAnyLast_ready (rs := [6]) (by kernel_rfl) (by simp) ?_; refine AllReadyL.cons rfl (by decide) (fun K hK => ?_) AllReadyL.nil)
    refine Kd.R_append_step (Kd.int .i64) (w0 := W) W3.heap.size rfl (.tmp 15) (.tmp 20) 22 3 (.int .i64 0) 8 rfl Try.underlying22 info_int rfl (by decide) (by decide) v ((List.range k).map r) (r k) [.int .i64 (r k)] (fun _ => True) (fun _ => False) rfl rfl rfl (fun _ hk => hk.elim) (fun _ _ => trivial) hR hbw3 (Nat.le_trans e5 hbw.size) (by simp; omega) ?_
    intro v1 w2 hR2 hB2' hg2 hat2
    have p0 := (hB2'.cell (p := ⟨w.heap.size, 0, none⟩) (by simp; omega)).trans e0
    have p1 := (hB2'.cell (p := ⟨w.heap.size + 1, 0, none⟩) (by simp; omega)).trans e2
    have p2 := (hB2'.frozen (p := ⟨w.heap.size + 1, 0, none⟩) (by simp; omega)).trans e1
    (go_wp2_with fail; refine hK.out _ _ (⟨p0, p1, hB2'⟩) (fun hHeld => ?_); clear hK K; try simp only [Act.put, List.setIfInBounds_toArray, List.set_cons_zero, List.set_cons_succ])
    have hko := (keeps_below hbw).trans (keeps_row hR hg2)
    obtain ⟨A4, p4, rfl, _, _⟩ := Kd.R_reads hR2
    (refine wpAnyLast_ready (rs := [7]) (by kernel_rfl) (by simp) ?_; refine AllReadyL.cons_last rfl (by decide) (fun K hK => ?_) AllReadyL.nil)
    go_simp
    go_wp2_with fail
    refine hK.out _ _ ?_
    clear hK K
    refine wpAnyLast_done (by kernel_rfl) ?_ _
    have hBw : Below w.heap.size W w2 := hB2'.mono (by omega)
    have hsz : W3.heap.size ≤ w2.heap.size := Nat.le_trans e5 hB2'.size
    refine ⟨(hko.trans (KeepsOthers.setCell _ _ _)).from _, ⟨hBw.setCell (by simp) _, (heap_setCell_ne _ _ (by omega)).trans (hB2'.block _ (by omega)), (heap_setCell_ne _ _ (by omega)).trans (hB2'.block _ (by omega))⟩,
      (World.cell?_setCell_far _ _ _ _ (by simp)).trans p0, by simpa using p2, ⟨_, World.cell?_setCell_same' _ _ _ (by rw [p1]; rfl), ?_⟩, (e4.trans hBw).setCell (by simp) _, by simpa using hsz⟩
    rw [List.range_succ, List.map_append]
    simp only [List.length_append, List.length_map, List.length_range, List.length_cons, List.length_nil, Nat.zero_add] at hR2
    exact R_set (p := ⟨w.heap.size + 1, 0, none⟩) hR2 (show w.heap.size + 1 < W3.heap.size by omega) _
  case done =>
    rintro D W hD ⟨e0, e1, ⟨v, e2, e3⟩, e4, e5⟩ hK
    have hgD := grownBy_putObj' W D (.deferred none)
    have hrD : ∀ r, some D = some r → ∃ o : Obj, W.heap[r]? = some o ∧ o.isCells = false := fun r e => by cases e; exact ⟨_, hK, rfl⟩
    have hR9 := Kd.R_lower (base' := w.heap.size) (R_turn e3 hgD hrD) (by omega)
    have hB9 : Below w.heap.size w (W.putObj D (.deferred none)) := e4.grown hgD e4.size (fun r e => by cases e; omega)
    obtain ⟨A4, p4, rfl, _, _⟩ := Kd.R_reads e3
    gi_wp2
    refine ⟨by simp, .inl ⟨_, _, rfl, run_takeDeferred hK, ?_⟩⟩
    rw [List.length_map, List.length_range] at hR9
    exact ⟨.slice A4 l.length p4, by simp [results, Try.f33, go_sem], _, rfl, hR9, hB9⟩

end Go.Proofs.Ytljadjoljhanfaa.Q16
/- What each[[]int] returns: a list for each band. -/
namespace Go.Proofs.Ytljadjoljhanfaa.Q16
open Go.RowKit Go.Proofs.YtljadjoljhanfaaW.PrintWords Go.Proofs.YtljadjoljhanfaaW.PrintLast Go.Proofs.YtljadjoljhanfaaW.PrintMore
attribute [local go_sem] max2_int min2_int max_two min_two max_three min_three
open Go.Proofs.Ytljadjoljhanfaa.Q15 Go.Proofs.Ytljadjoljhanfaa.Runs Go.Shelf
attribute [local go_sem] Oper.semAt_some

/-- Rows of numbers. -/
abbrev KL : Kd (List Int) := Kd.slice 3 (Kd.int .i64)
/-- The function value that is asked of each band, where it returns a list. -/
def FnList (g : Nat) (fs cs : Array Value) (a : Addr) (l : List Int) (w : World) (k : Nat) (r : List Int) : Prop :=
  ∀ W, Below w.heap.size w W → Calls Try.prog g (fs ++ encB a l k ++ cs) W fun e w' => ∃ v, e = .returned v ∧ (Kd.int .i64).R 3 w' W.heap.size (fun _ => True) v r ∧ Below W.heap.size W w'
theorem info_list : (Try.prog.info? 22).map (fun i => (i.zero, i.size, i.bytes)) = some (some (.slice none 0 0), 1, 24) := by kernel_rfl

set_option maxRecDepth 100000 in
set_option maxHeartbeats 1000000 in
theorem eachL_calls (g : Nat) (fs cs : Array Value) (eg : Q15.Enters g) (a : Addr) (c0 : Nat) (A1 : Option Addr) (cap : Nat) (l : List Int) (hl : isW l = true) (hc0 : 128 ≤ c0) (hc9 : c0 ≤ 9223372036854775807) (r : Nat → List Int)
    (w : World) (hr : (Kd.int .i64).C w A1 l.length l) (hof : ∀ k, k < l.length → FnList g fs cs a l w k (r k)) :
    Calls Try.prog 46 #[.slice (some a) 128 c0, .slice A1 l.length cap, .func (.func g) fs cs] w fun e w' => ∃ v, e = .returned v ∧ KL.R 22 w' w.heap.size (fun _ => True) v ((List.range l.length).map r) ∧ Below w.heap.size w w' := by
  obtain ⟨W2, hW2⟩ : ∃ W2, W2 = (w.alloc (.cells #[.func (.func g) fs cs] 58)).alloc (.cells #[.slice none 0 0] 42) := ⟨_, rfl⟩
  have hB2 : Below w.heap.size w W2 := by rw [hW2]; exact ((Below.refl _ _).alloc (Nat.le_refl _) _).alloc (by simp) _
  have a0 : W2.cell? ⟨w.heap.size, 0, none⟩ = some (.func (.func g) fs cs) := by rw [hW2]; go_simp
  have a1 : W2.cell? ⟨w.heap.size + 1, 0, none⟩ = some (.slice none 0 0) := by rw [hW2]; go_simp
  have f1 : W2.frozen? ⟨w.heap.size + 1, 0, none⟩ = false := by rw [hW2]; go_simp
  have s2 : w.heap.size + 2 ≤ W2.heap.size := by rw [hW2]; simp
  have hOF := Aside0.mk hof
  have hR1 := Aside0.mk hr
  have hL := Aside0.mk hl
  have hll : (l.length : Int) ≤ 32 := by have := (isW_iff.1 hl).2.2; omega
  clear hof hr hl
  unfold Q15.Enters at eg
  refine (callsIn_wide (n := 3)).1 ?_
  refine callsIn_of_wp_marks Try.func46 rfl trivial ?_ rfl
  simp only [Try.ntmps46, List.size_toArray, List.length_cons, List.length_nil, Nat.reduceAdd, Nat.reduceSub, Array.replicate_succ, Array.replicate_zero, List.push_toArray, List.append_toArray, List.nil_append, List.cons_append]
  gi_wp2_with fail
  rw [← hW2]
  clear hW2
  refine ⟨trivial, (callsIn_wide.2 (parts_calls (some a) A1 128 c0 l.length cap W2)).mono ?_⟩
  rintro e W3 ⟨rfl, hw3⟩
  have hb3 : Below W2.heap.size W2 W3 := by rw [hw3]; exact ((Below.refl _ _).alloc (Nat.le_refl _) _).alloc (by simp) _
  have d1 : W3.cell? ⟨W2.heap.size, 0, none⟩ = some (.slice (some a) 128 c0) := by rw [hw3]; go_simp
  have d2 : W3.cell? ⟨W2.heap.size + 1, 0, none⟩ = some (.slice A1 l.length cap) := by rw [hw3]; go_simp
  have g1 : W3.frozen? ⟨W2.heap.size, 0, none⟩ = false := by rw [hw3]; go_simp
  have s3 : W2.heap.size + 2 ≤ W3.heap.size := by rw [hw3]; simp
  have hB3 := bnx hB2 hb3
  clear hw3
  gi_wp2_with fail
  have hmo : Try.prog.follows .mixedOrders = true := by kernel_rfl
  refine wpIn_rangeRuns rfl (by omega) (gf := 91) (lb := #[.pointer (some ⟨W2.heap.size + 1, 0, none⟩), .pointer (some ⟨W2.heap.size, 0, none⟩)]) rfl trivial (enters_of Try.func91 (by kernel_rfl) rfl)
    (parts1_runs Fence.wide _ trivial rfl (by omega) (W2.heap.size + 1) W2.heap.size a c0 A1 cap l hL.out hc0 hc9 w W3 hR1.out hB3 (by omega) (by omega) (by omega) (by omega) (by omega) d2 d1 g1) (by omega)
    (fun h k => h.trans k) (fun W l' o o' hl' => Keep3.putObj (N := W3.heap.size) (by omega) (by omega) (by omega) W l' o o' hl') (Below.refl _ _) (fun _ => rfl)
    (fun k W => W.cell? ⟨w.heap.size, 0, none⟩ = some (.func (.func g) fs cs) ∧ W.frozen? ⟨w.heap.size + 1, 0, none⟩ = false ∧ (∃ v, W.cell? ⟨w.heap.size + 1, 0, none⟩ = some v ∧ KL.R 22 W W3.heap.size (fun _ => True) v ((List.range k).map r)) ∧ Below w.heap.size w W ∧ W3.heap.size ≤ W.heap.size)
    ?own ?cell ?start
    (fun k => { tmps := #[.slice (some a) 128 c0, .slice A1 l.length cap, .func (.func g) fs cs, undef, undef, .pointer (some ⟨w.heap.size, 0, none⟩), .slice none 0 0, .pointer (some ⟨w.heap.size + 1, 0, none⟩), .int .i64 k, .slice (some (a.add (off l k))) (wd l k) (wd l k), .slice (some a) 128 c0, .slice A1 l.length cap, .func (.func 91) #[] #[.pointer (some ⟨W2.heap.size + 1, 0, none⟩), .pointer (some ⟨W2.heap.size, 0, none⟩)], .int .i64 k, .slice (some (a.add (off l k))) (wd l k) (wd l k), undef, undef, undef, undef, undef, undef, undef, undef], defers := [] }) ?assign ?body ?done
  case own =>
    rintro k W W' row ⟨e0, e1, ⟨v, e2, e3⟩, e4, e5⟩ hg hrow
    exact ⟨cell_kept e0 hg (fun r e => (hrow r e).2), (frozen_kept e2 hg (fun r e => (hrow r e).2)).trans e1, ⟨v, cell_kept e2 hg (fun r e => (hrow r e).2), R_turn e3 hg (fun r e => (hrow r e).2)⟩, e4.grown hg e4.size (fun r e => by have := (hrow r e).1; omega), Nat.le_trans e5 hg.size⟩
  case cell =>
    rintro k W v ⟨e0, e1, ⟨u, e2, e3⟩, e4, e5⟩
    exact ⟨(World.cell?_setCell_far _ _ _ _ (by simp; omega)).trans e0, by simpa using e1, ⟨u, (World.cell?_setCell_far _ _ _ _ (by simp; omega)).trans e2, R_set e3 (by simp; omega) _⟩, e4.setCell (by simp; omega) _, by simpa using e5⟩
  case start => exact ⟨cnx a0 hb3, (hb3.frozen (p := ⟨w.heap.size + 1, 0, none⟩) (by simp; omega)).trans f1, ⟨_, cnx a1 hb3, Kd.R_nil _ _ _ _ _⟩, hB3, Nat.le_refl _⟩
  case assign =>
    intro l' k W K _ hK
    unfold encB
    gi_wp2
    exact hK
  case body =>
    rintro L k W ⟨e0, e1, ⟨v, e2, e3⟩, e4, e5⟩ hk
    have hF := hOF.out k hk
    unfold FnList encB at hF
    obtain ⟨o, ho⟩ : ∃ o, o = a.add (off l k) := ⟨_, rfl⟩
    obtain ⟨d, hd⟩ : ∃ d, d = wd l k := ⟨_, rfl⟩
    rw [← ho, ← hd] at hF ⊢
    replace hF := Aside0.mk hF
    replace ho := Aside0.mk ho
    replace hd := Aside0.mk hd
    gi_wp2_with fail
    refine Held.wpIn_region_last (fun w' => w'.cell? ⟨w.heap.size, 0, none⟩ = some (.func (.func g) fs cs) ∧ w'.cell? ⟨w.heap.size + 1, 0, none⟩ = some v ∧ Below W3.heap.size W w') [7] hmo (by kernel_rfl) (fun ⟨_, _, h⟩ => h) ⟨e0, e2, (Below.refl _ _).drew⟩ (fun hHeld => ?_)
    (refine wpAnyLast_take (i := 0) (v := v) rfl (by kernel_rfl) (by kernel_rfl) (by kernel_rfl) (by kernel_rfl) (by kernel_rfl) (fun _ _ _ h => h) (Or.inl ⟨by rfl, fun wS hS => by (try dsimp only at hS); go_simp⟩) hHeld ?_; simp only [Act.put, List.setIfInBounds_toArray, List.set_cons_zero, List.set_cons_succ])
    (refine wpAnyLast_take (i := 1) (v := .func (.func g) fs cs) rfl (by kernel_rfl) (by kernel_rfl) (by kernel_rfl) (by kernel_rfl) (by kernel_rfl) (fun _ _ _ h => h) (Or.inl ⟨by rfl, fun wS hS => by (try dsimp only at hS); go_simp⟩) hHeld ?_; simp only [Act.put, List.setIfInBounds_toArray, List.set_cons_zero, List.set_cons_succ])
    (refine wpAnyLast_take (i := 2) (v := .int .i64 k) rfl (by kernel_rfl) (by kernel_rfl) (by kernel_rfl) (by kernel_rfl) (by kernel_rfl) (fun _ _ _ h => h) (Or.inl ⟨by rfl, fun wS hS => by (try dsimp only at hS); go_simp⟩) hHeld ?_; simp only [Act.put, List.setIfInBounds_toArray, List.set_cons_zero, List.set_cons_succ])
    (refine wpAnyLast_take (i := 3) (v := .slice (some o) d d) rfl (by kernel_rfl) (by kernel_rfl) (by kernel_rfl) (by kernel_rfl) (by kernel_rfl) (fun _ _ _ h => h) (Or.inl ⟨by rfl, fun wS hS => by (try dsimp only at hS); go_simp⟩) hHeld ?_; simp only [Act.put, List.setIfInBounds_toArray, List.set_cons_zero, List.set_cons_succ])
    (refine wpAnyLast_ready (rs := [4]) (by kernel_rfl) (by simp) ?_; refine AllReadyL.cons rfl (by decide) (fun K hK => ?_) AllReadyL.nil)
    go_simp
    simp only [Array.append_assoc] at hF
    have hbd : Below W.heap.size W W.drew := (Below.refl _ _).drew
    refine (hF.out _ (bnx e4 hbd)).mono ?_
    rintro e w1 ⟨x, rfl, hx, hb1⟩
    have hxM : KL.M w1 W3.heap.size (fun k => W.drew.heap.size ≤ k) (r k) [x] := ⟨x, rfl, Kd.R_lower (Kd.R_mono (Kd.R_bound hx) (fun k hk => hk.2.1)) (Nat.le_trans e5 hbd.size)⟩
    obtain ⟨A5, p5, rfl, _, _⟩ := Kd.R_reads hx
    have hbw := bnx hbd hb1
    have hbw3 : Below W3.heap.size W w1 := hbw.mono e5
    (go_wp2_with fail; refine hK.out _ _ (⟨cnx e0 hbw, cnx e2 hbw, hbw3⟩) (fun hHeld => ?_); clear hK K; try simp only [Act.put, List.setIfInBounds_toArray, List.set_cons_zero, List.set_cons_succ])
    have hR := Kd.R_below e3 hbw
    (refine wpAnyLast_ready (rs := [5]) (by kernel_rfl) (by simp) ?_; refine AllReadyL.cons rfl (by decide) (fun K hK => ?_) AllReadyL.nil)
    go_simp
    (go_wp2_with fail; refine hK.out _ _ (⟨cell_alloc_l _ hHeld.1, cell_alloc_l _ hHeld.2.1, hbw3.alloc (Nat.le_trans e5 hbw.size) _⟩) (fun hHeld => ?_); clear hK K; try simp only [Act.put, List.setIfInBounds_toArray, List.set_cons_zero, List.set_cons_succ])
    (refine wpAnyLast_ready (rs := [6]) (by kernel_rfl) (by simp) ?_; refine AllReadyL.cons rfl (by decide) (fun K hK => ?_) AllReadyL.nil)
    refine Kd.R_append_step KL (w0 := W) W3.heap.size rfl (.tmp 15) (.tmp 20) 42 22 (.slice none 0 0) 24 rfl Try.underlying42 info_list rfl (by decide) (by decide) v ((List.range k).map r) (r k) [.slice A5 (r k).length p5] (fun _ => True) (fun k => W.drew.heap.size ≤ k) rfl rfl hxM (fun j hj => ⟨trivial, fun e => by have := ((Kd.R_bound e3).1 j e.symm).2.2.1; have := hbd.size; omega⟩) (fun _ _ => trivial) hR hbw3 (Nat.le_trans e5 hbw.size) (by simp; omega) ?_
    intro v1 w2 hR2 hB2' hg2 hat2
    have p0 := (hB2'.cell (p := ⟨w.heap.size, 0, none⟩) (by simp; omega)).trans e0
    have p1 := (hB2'.cell (p := ⟨w.heap.size + 1, 0, none⟩) (by simp; omega)).trans e2
    have p2 := (hB2'.frozen (p := ⟨w.heap.size + 1, 0, none⟩) (by simp; omega)).trans e1
    (go_wp2_with fail; refine hK.out _ _ (⟨p0, p1, hB2'⟩) (fun hHeld => ?_); clear hK K; try simp only [Act.put, List.setIfInBounds_toArray, List.set_cons_zero, List.set_cons_succ])
    have hko := (keeps_below hbw).trans (keeps_row hR hg2)
    obtain ⟨A4, p4, rfl, _, _⟩ := Kd.R_reads hR2
    (refine wpAnyLast_ready (rs := [7]) (by kernel_rfl) (by simp) ?_; refine AllReadyL.cons_last rfl (by decide) (fun K hK => ?_) AllReadyL.nil)
    go_simp
    go_wp2_with fail
    refine hK.out _ _ ?_
    clear hK K
    refine wpAnyLast_done (by kernel_rfl) ?_ _
    have hBw : Below w.heap.size W w2 := hB2'.mono (by omega)
    have hsz : W3.heap.size ≤ w2.heap.size := Nat.le_trans e5 hB2'.size
    refine ⟨(hko.trans (KeepsOthers.setCell _ _ _)).from _, ⟨hBw.setCell (by simp) _, (heap_setCell_ne _ _ (by omega)).trans (hB2'.block _ (by omega)), (heap_setCell_ne _ _ (by omega)).trans (hB2'.block _ (by omega))⟩,
      (World.cell?_setCell_far _ _ _ _ (by simp)).trans p0, by simpa using p2, ⟨_, World.cell?_setCell_same' _ _ _ (by rw [p1]; rfl), ?_⟩, (e4.trans hBw).setCell (by simp) _, by simpa using hsz⟩
    rw [List.range_succ, List.map_append]
    simp only [List.length_append, List.length_map, List.length_range, List.length_cons, List.length_nil, Nat.zero_add] at hR2
    exact R_set (p := ⟨w.heap.size + 1, 0, none⟩) hR2 (show w.heap.size + 1 < W3.heap.size by omega) _
  case done =>
    rintro D W hD ⟨e0, e1, ⟨v, e2, e3⟩, e4, e5⟩ hK
    have hgD := grownBy_putObj' W D (.deferred none)
    have hrD : ∀ r, some D = some r → ∃ o : Obj, W.heap[r]? = some o ∧ o.isCells = false := fun r e => by cases e; exact ⟨_, hK, rfl⟩
    have hR9 := Kd.R_lower (base' := w.heap.size) (R_turn e3 hgD hrD) (by omega)
    have hB9 : Below w.heap.size w (W.putObj D (.deferred none)) := e4.grown hgD e4.size (fun r e => by cases e; omega)
    obtain ⟨A4, p4, rfl, _, _⟩ := Kd.R_reads e3
    gi_wp2
    refine ⟨by simp, .inl ⟨_, _, rfl, run_takeDeferred hK, ?_⟩⟩
    rw [List.length_map, List.length_range] at hR9
    exact ⟨.slice A4 l.length p4, by simp [results, Try.f46, go_sem], _, rfl, hR9, hB9⟩

end Go.Proofs.Ytljadjoljhanfaa.Q16
/- Lists of bands, put together. -/
namespace Go.Proofs.Ytljadjoljhanfaa.Q16
open Go.RowKit Go.Proofs.YtljadjoljhanfaaW.PrintWords Go.Proofs.YtljadjoljhanfaaW.PrintLast Go.Proofs.YtljadjoljhanfaaW.PrintMore
attribute [local go_sem] max2_int min2_int max_two min_two max_three min_three
open Go.Proofs.Ytljadjoljhanfaa.Q15

theorem list_at {w w1 : World} {A : Option Addr} {ls : List (List Int)} (hr : KL.C w A ls.length ls) (hb : Below w.heap.size w w1) {k : Nat} (hk : k < ls.length) :
    ∃ ad A' c, A = some ad ∧ w1.cell? (ad.add k) = some (.slice A' (ls[k]).length c) ∧ (ls[k]).length ≤ c ∧ (Kd.int .i64).C w1 A' (ls[k]).length ls[k] := by
  obtain ⟨_, _, h⟩ := hr
  obtain ⟨ad, e, h2⟩ := h (by omega)
  subst e
  obtain ⟨cs, hz, ⟨A', c, hcs, hc, hC⟩, hcell⟩ := h2 k _ (List.getElem?_eq_getElem hk)
  subst hcs
  have := hcell 0 _ rfl
  exact ⟨ad, A', c, rfl, cnx (by simpa [KL, Kd.slice] using this) hb, hc, Kd.C_below hC hb⟩

set_option maxRecDepth 100000 in
set_option maxHeartbeats 1000000 in
theorem joined_calls (A : Option Addr) (cap : Nat) (ls : List (List Int)) (w : World) (hr : KL.C w A ls.length ls) (hl : ls.length ≤ 1000) (hn : ∀ l ∈ ls, l.length ≤ 1000) :
    Calls Try.prog 45 #[.slice A ls.length cap] w fun e w' => ∃ v, e = .returned v ∧ (Kd.int .i64).R 3 w' w.heap.size (fun _ => True) v ls.flatten ∧ Below w.heap.size w w' := by
  have HR := Aside0.mk hr
  have HN := Aside0.mk hn
  have hlI : (ls.length : Int) ≤ 1000 := by omega
  clear hr hn hl
  go_enter Try.func45, Try.ntmps45
  go_wp2
  go_loopw [3, 8] (fun s i wr => ∃ k : Nat, i = .int .i64 k ∧ k ≤ ls.length ∧ Aside0 ((Kd.int .i64).R 3 wr w.heap.size (fun _ => True) s (ls.take k).flatten) ∧ Aside0 (((ls.take k).flatten).length ≤ k * 1000) ∧ Below w.heap.size w wr) (fun _ i _ => ls.length - (intOf i).toNat)
  case atStart => exact ⟨0, rfl, by omega, ⟨Kd.R_nil _ _ _ _ _⟩, ⟨by simp⟩, Below.refl _ _⟩
  case round =>
    obtain ⟨k, rfl, hk, hR, hle, hb⟩ := hrel
    by_cases hlt : k < ls.length
    · obtain ⟨ad, A', c, rfl, hcell, hc, hC⟩ := list_at HR.out hb hlt
      have hT : ls.take (k + 1) = ls.take k ++ [ls[k]] := List.take_succ_eq_append_getElem hlt
      have hn := HN.out _ (List.getElem_mem hlt)
      obtain ⟨l, hle2⟩ : ∃ l, l = ls[k] := ⟨_, rfl⟩
      rw [← hle2] at hcell hc hC hT hn
      replace hT := Aside0.mk hT
      replace hC := Aside0.mk hC
      clear hle2
      have hlen : ((ls.take k).flatten.length + l.length) * 8 ≤ 140737488355328 := by have := hle.out; omega
      replace hlen := Aside0.mk hlen
      replace hn := Aside0.mk hn
      go_wp2_with (at_builtin; refine Kd.R_append_rows (Kd.int .i64) (Rr := (Kd.int .i64).K wr) (w0 := w) w.heap.size rfl (.tmp 12) (.tmp 13) 22 3 (.int .i64 0) 8 rfl Try.underlying22 info_int rfl (by decide) (by decide) u3 (ls.take k).flatten l A' l.length c (fun _ => True) (fun _ => False) rfl rfl hR.out hC.out (fun _ _ h => h) (fun _ h => h.elim) (fun _ _ => trivial) hb hb.size hlen.out ?_; intro v1 wA hoA hbA hgA hatA; have HOA := Aside0.mk hoA; clear hoA hgA hatA)
      go_roundw
      case rel => exact ⟨k + 1, by go_num, by omega, ⟨by rw [hT.out, List.flatten_append]; simpa using HOA.out⟩, ⟨by rw [hT.out, List.flatten_append, List.length_append]; have := hle.out; have := hn.out; simp only [List.flatten_cons, List.flatten_nil, List.append_nil]; omega⟩, hbA⟩
      case measure => simp [intOf]; omega
    · obtain rfl : k = ls.length := by omega
      have hR' := hR.out
      rw [List.take_length] at hR'
      replace hR' := Aside0.mk hR'
      clear hR hle
      go_wp2
      go_ret
      exact ⟨_, rfl, hR'.out, hb⟩

end Go.Proofs.Ytljadjoljhanfaa.Q16
/- Bands as lists; what the functions that are asked of each band return. -/
namespace Go.Proofs.Ytljadjoljhanfaa.Q16
open Go.RowKit Go.Proofs.YtljadjoljhanfaaW.PrintWords Go.Proofs.YtljadjoljhanfaaW.PrintLast Go.Proofs.YtljadjoljhanfaaW.PrintMore
attribute [local go_sem] max2_int min2_int max_two min_two max_three min_three
open Go.Proofs.Ytljadjoljhanfaa.Q15

/-- Band k of a list of 128 numbers. -/
def band (c l : List Int) (k : Nat) : List Int := (c.drop (off l k)).take (wd l k)
theorem band_len {c l : List Int} (hc : c.length = 128) (hl : isW l = true) {k : Nat} (hk : k < l.length) : (band c l k).length = wd l k := by
  have := off_next hl hk
  unfold band
  rw [List.length_take, List.length_drop]
  omega
theorem band_C {c l : List Int} {w : World} {a : Addr} (hr : (Kd.int .i64).C w (some a) c.length c) (hc : c.length = 128) (hl : isW l = true) {k : Nat} (hk : k < l.length) :
    (Kd.int .i64).C w (some (a.add (off l k))) (band c l k).length (band c l k) := by
  have hn := off_next hl hk
  have hlen := band_len hc hl hk
  obtain ⟨h0, h1, h2⟩ := hr
  refine ⟨rfl, by rw [hlen]; omega, fun _ => ⟨_, rfl, fun j p hj => ?_⟩⟩
  obtain ⟨ad, e, h3⟩ := h2 (by omega)
  cases e
  have hj' : c[off l k + j]? = some p := by
    unfold band at hj
    have hlt : j < wd l k := by
      have := (List.getElem?_eq_some_iff.1 hj).1
      rw [List.length_take] at this
      omega
    rw [List.getElem?_take_of_lt hlt, List.getElem?_drop] at hj
    exact hj
  obtain ⟨cs, hz, hK, hcell⟩ := h3 _ p hj'
  refine ⟨cs, hz, hK, fun i u hu => ?_⟩
  have := hcell i u hu
  rw [Addr.add_add]
  rw [show off l k + (j * (Kd.int .i64).sz + i) = (off l k + j) * (Kd.int .i64).sz + i by show off l k + (j * 1 + i) = (off l k + j) * 1 + i; omega]
  exact this

end Go.Proofs.Ytljadjoljhanfaa.Q16
