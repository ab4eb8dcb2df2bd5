/- A part of the proof. -/
import Derived.Test.YtnflnicdjioflaaGreatDoorQmam
set_option linter.unusedVariables false
set_option linter.unusedSimpArgs false
namespace Go.Proofs.YtnflnicdjioflaaGreatDoor
open Go.RowKit Go.Proofs.YtnflnicdjioflaaGreatDoorW.PrintWords Go.Proofs.YtnflnicdjioflaaGreatDoorW.PrintLast Go.Proofs.YtnflnicdjioflaaGreatDoorW.PrintMore
namespace Bts
attribute [local go_sem] max2_int min2_int max_two min_two max_three min_three
open Q15 (cnx bnx)
open Q21 (cell_blk frozen_blk)
open Runs Go.Shelf
open Q16 (cell_heap frozen_heap)
attribute [local go_sem] Oper.semAt_some
def bitN (v m k : Nat) : Int := ((v / 2 ^ (m - 1 - k)) % 2 : Nat)
theorem and_one (a : Nat) (h : a < 9223372036854775808) : bits .and .i64 (a : Int) 1 = ((a % 2 : Nat) : Int) := by
 have h1 : (BitVec.ofInt 64 (a : Int) &&& BitVec.ofInt 64 1).toNat = a % 2 := by
  rw [BitVec.toNat_and]
  simp [Nat.and_one_is_mod]
 show IntKind.i64.wrap ((BitVec.ofInt 64 (a : Int) &&& BitVec.ofInt 64 1).toNat : Int) = _
 rw [h1]
 exact IntWalk.i64_in _ (by omega)
def KeepB (B1 Bc : Nat) (A B : World) : Prop := A.heap.size ≤ B.heap.size ∧ B.heap[B1]? = A.heap[B1]? ∧ B.heap[Bc]? = A.heap[Bc]?
set_option maxRecDepth 100000 in
set_option maxHeartbeats 1000000 in
theorem number1_runs (F : Fence) (n : Nat) (hF : F.fn 212) (hro : F.round = none) (hn : 1 ≤ n) (B1 Bc v m : Nat) (hv : v < 4294967296) (hm : m ≤ 32) (w : World) (c1 : w.cell? ⟨B1, 0, none⟩ = some (.int .i64 m)) (c2 : w.cell? ⟨Bc, 0, none⟩ = some (.int .i64 v)) :
  SeqRuns0 F n Tryz.prog 212 #[.pointer (some ⟨B1, 0, none⟩), .pointer (some ⟨Bc, 0, none⟩)] (fun k => #[.int .i64 (bitN v m k)]) (KeepB B1 Bc) m w := fun l J W hW hY h0 => by
 have d1 := cnx c1 hW
 have d2 := cnx c2 hW
 have HY := Aside0.mk hY
 have hmI : (m : Int) ≤ 32 := by omega
 have hvI : (v : Int) ≤ 4294967296 := by omega
 have hv' := Aside0.mk hv
 clear hY c1 c2 hm hv
 refine callsIn_of_wp Tryz.func212 rfl hF ?_ hro
 simp only [Tryz.ntmps212, List.size_toArray, List.length_cons, List.length_nil, Nat.reduceAdd, Nat.reduceSub, Array.replicate_succ, Array.replicate_zero, List.push_toArray, List.append_toArray, List.nil_append, List.cons_append]
 gi_wp2
 gi_loopw [4] (fun i wr => ∃ (z : Int) (k : Nat), i = .int .i64 z ∧ Aside0 (z = (m : Int) - 1 - (k : Int)) ∧ -1 ≤ z ∧ z ≤ 31 ∧ wr.cell? ⟨B1, 0, none⟩ = some (.int .i64 m) ∧ wr.cell? ⟨Bc, 0, none⟩ = some (.int .i64 v) ∧ Aside0 (J k wr)) (fun i _ => (intOf i + 1).toNat)
 case atStart => exact ⟨(m : Int) - 1, 0, rfl, ⟨by omega⟩, by omega, by omega, d1, d2, ⟨h0⟩⟩
 case round =>
  obtain ⟨z, k, rfl, hz, hz0, hz1, e1, e2, hJs⟩ := hrel
  clear d1 d2
  by_cases hlt : 0 ≤ z
  ·obtain ⟨fn, tmps, assign, body, hy, hR⟩ := HY.out k wr (by have := hz.out; omega) hJs.out
   have hR2 := Aside0.mk hR
   obtain ⟨b, hb⟩ : ∃ b, b = bitN v m k := ⟨_, rfl⟩
   have hx : bits .and .i64 ((v : Int) / 2 ^ z.toNat) 1 = b := by
    have e1 : z.toNat = m - 1 - k := by have := hz.out; omega
    have e2 : (v : Int) / 2 ^ z.toNat = ((v / 2 ^ (m - 1 - k) : Nat) : Int) := by rw [e1]; simp
    rw [e2, and_one _ (by have := Nat.div_le_self v (2 ^ (m - 1 - k)); have := hv'.out; omega), hb]
    rfl
   rw [← hb] at hy
   replace hb := Aside0.mk hb
   clear hR
   gi_wp2
   refine hR2.out.mono ?_
   rintro e W3 ⟨rfl, hJ3, hk3⟩
   have b1 := (cell_heap hk3.2.1).trans e1
   have b2 := (cell_heap hk3.2.2).trans e2
   replace hJ3 := Aside0.mk hJ3
   clear hR2 e1 e2 hk3 hy hx
   gi_wp2
   go_roundw
   case rel => exact ⟨z - 1, k + 1, rfl, ⟨by have := hz.out; omega⟩, by omega, by omega, b1, b2, hJ3⟩
   case measure => simp [intOf]; omega
  ·obtain rfl : k = m := by have := hz.out; omega
   gi_wp2
   go_end0
   exact ⟨⟨_, rfl⟩, hJs.out⟩
end Bts

namespace Bts
attribute [local go_sem] max2_int min2_int max_two min_two max_three min_three
open Q15 (cnx bnx)
open Q21 (cell_blk frozen_blk)
open Runs Go.Shelf
open Q16 (cell_heap frozen_heap R_turn)
attribute [local go_sem] Oper.semAt_some
theorem Kp.grown {p : Nat} {q : Option Nat} {w W W' : World} {row : Option Nat} (h : Kp p q w W) (hg : W.grownBy W' row) (hr : ∀ r, row = some r → w.heap.size ≤ r) : Kp p q w W' :=
 ⟨hg.os.trans h.os, hg.tape.trans h.tape, hg.output.trans h.output, Nat.le_trans h.size hg.size, fun k hk hp hne => (hg.block k (Nat.lt_of_lt_of_le hk h.size) (fun e => by have := hr k e.symm; omega)).trans (h.block k hk hp hne)⟩
theorem heap_kept {W W' : World} {g : Nat} {cs : Array Value} {t : TypeId} {row : Option Nat} (h : W.heap[g]? = some (.cells cs t (0, 0))) (hg : W.grownBy W' row) (hr : ∀ r, row = some r → ∃ o : Obj, W.heap[r]? = some o ∧ o.isCells = false) : W'.heap[g]? = some (.cells cs t (0, 0)) :=
 (hg.block g (blk_lt h) (fun e => by
  obtain ⟨o, ho, hc⟩ := hr g e.symm
  rw [h] at ho
  cases ho
  cases hc)).trans h
theorem Wr.turn {w w1 : World} {base p : Nat} {q : Option Nat} {l : List Int} {row : Option Nat} (h : Wr w base p q l) (hg : w.grownBy w1 row) (hr : ∀ r, row = some r → ∃ o : Obj, w.heap[r]? = some o ∧ o.isCells = false) : Wr w1 base p q l := by
 obtain ⟨v, h1, h2, h3⟩ := h
 exact ⟨v, heap_kept h1 hg hr, R_turn h2 hg hr, h3⟩
theorem Wr.step {w w1 : World} {base p : Nat} {q : Option Nat} {l : List Int} (h : Wr w base p q l) (hb : Below w.heap.size w w1) : Wr w1 base p q l := by
 obtain ⟨v, h1, h2, h3⟩ := h
 exact ⟨v, blk_below h1 hb, Kd.R_below h2 hb, h3⟩
theorem Wr.qne {w : World} {base p : Nat} {q : Option Nat} {l : List Int} (h : Wr w base p q l) {g : Nat} {cs : Array Value} {t : TypeId} (hg : w.heap[g]? = some (.cells cs t (0, 0))) (ht : 5 ≠ t) : some g ≠ q := by
 obtain ⟨v, _, h2, h3, _⟩ := h
 rw [h3]
 exact Kd.R_ne h2 hg ht
theorem Wr.pne {w : World} {base p : Nat} {q : Option Nat} {l : List Int} (h : Wr w base p q l) {g : Nat} {cs : Array Value} {t : TypeId} (hg : w.heap[g]? = some (.cells cs t (0, 0))) (ht : 109 ≠ t) : g ≠ p := by
 obtain ⟨v, h1, _⟩ := h
 exact fun e => (blk_ne h1 hg ht) e.symm
theorem keeps_of_kp {p : Nat} {q : Option Nat} {W W' : World} (h : Kp p q W W') {base : Nat} {l : List Int} (hw : Wr W base p q l) : KeepsOthers W W' := ⟨h.size, fun k o hk ho => (h.block k (Array.getElem?_eq_some_iff.1 hk).1 (fun e => by
  obtain ⟨v, h1, _⟩ := hw
  rw [e, h1] at hk
  cases hk
  cases ho) (fun e => by
  obtain ⟨v, _, h2, h3, _⟩ := hw
  obtain ⟨_, _, _, q2, _, cells, hc⟩ := (Kd.R_bound h2).1 k (by rw [← h3, e])
  rw [hc] at hk
  cases hk
  cases ho)).trans hk⟩
def numB (v m : Nat) : List Int := (List.range m).map (bitN v m)
theorem numB_len (v m : Nat) : (numB v m).length = m := by simp [numB]
theorem bitN_bit (v m k : Nat) : bitN v m k = 0 ∨ bitN v m k = 1 := by unfold bitN; omega
set_option maxRecDepth 100000 in
set_option maxHeartbeats 2000000 in
theorem each_num (base p : Nat) (q : Option Nat) (l : List Int) (B1 Bc v m : Nat) (w : World) (hw : Wr w base p q l) (hv : v < 4294967296) (hm : m ≤ 32) (hl : l.length + m ≤ 1048576)
  (c1 : w.heap[B1]? = some (.cells #[.int .i64 m] 3 (0, 0))) (c2 : w.heap[Bc]? = some (.cells #[.int .i64 v] 3 (0, 0))) :
  Calls Tryz.prog 181 #[.func (.func 212) #[] #[.pointer (some ⟨B1, 0, none⟩), .pointer (some ⟨Bc, 0, none⟩)], .func (.func 183) #[.pointer (some ⟨p, 0, none⟩)] #[]] w fun e w' => e = .returned (.tuple #[]) ∧ WrP base p q (l ++ numB v m) w w' := by
 obtain ⟨W2, hW2⟩ : ∃ W2, W2 = w.alloc (.cells #[.func (.func 183) #[.pointer (some ⟨p, 0, none⟩)] #[]] 179) := ⟨_, rfl⟩
 have hB2 : Below w.heap.size w W2 := by rw [hW2]; exact (Below.refl _ _).alloc (Nat.le_refl _) _
 have hD : W2.heap[w.heap.size]? = some (.cells #[.func (.func 183) #[.pointer (some ⟨p, 0, none⟩)] #[]] 179 (0, 0)) := by rw [hW2]; exact heap_alloc_new _ _
 have s2 : W2.heap.size = w.heap.size + 1 := by rw [hW2]; simp
 have hW := Aside0.mk (hw.step hB2)
 have hplt := hw.plt
 have hq0 := fun k e => (hw.qbase k e).2
 have hl' := Aside0.mk hl
 replace hplt := Aside0.mk hplt
 replace hq0 := Aside0.mk hq0
 refine (callsIn_wide (n := 3)).1 ?_
 refine callsIn_of_wp_marks Tryz.func181 rfl trivial ?_ rfl
 simp only [Tryz.ntmps181, List.size_toArray, List.length_cons, List.length_nil, Nat.reduceAdd, Nat.reduceSub, Array.replicate_succ, Array.replicate_zero, List.push_toArray, List.append_toArray, List.nil_append, List.cons_append]
 clear hl hw
 gi_wp2_with fail
 rw [← hW2]
 have C1 := blk_below c1 hB2
 have C2 := blk_below c2 hB2
 refine wpIn_rangeRuns0 rfl (by omega) (gf := 212) (lb := #[.pointer (some ⟨B1, 0, none⟩), .pointer (some ⟨Bc, 0, none⟩)]) rfl trivial (enters_of Tryz.func212 (by kernel_rfl) rfl)
  (number1_runs Fence.wide _ trivial rfl (by omega) B1 Bc v m hv hm W2 (by rw [cell_blk C1]; rfl) (by rw [cell_blk C2]; rfl))
  (fun h k => ⟨Nat.le_trans h.1 k.1, k.2.1.trans h.2.1, k.2.2.trans h.2.2⟩) ?keep (Below.refl _ _) (fun _ => rfl)
  (fun k W => ∃ q', Wr W base p q' (l ++ (List.range k).map (bitN v m)) ∧ (q' = q ∨ ∃ g, q' = some g ∧ w.heap.size ≤ g) ∧ Kp p q w W ∧ W.heap[w.heap.size]? = some (.cells #[.func (.func 183) #[.pointer (some ⟨p, 0, none⟩)] #[]] 179 (0, 0)) ∧ W.heap[B1]? = some (.cells #[.int .i64 m] 3 (0, 0)) ∧ W.heap[Bc]? = some (.cells #[.int .i64 v] 3 (0, 0)))
  ?own ?start
  (fun k => { tmps := #[.func (.func 212) #[] #[.pointer (some ⟨B1, 0, none⟩), .pointer (some ⟨Bc, 0, none⟩)], .func (.func 183) #[.pointer (some ⟨p, 0, none⟩)] #[], undef, .pointer (some ⟨w.heap.size, 0, none⟩), .int .i64 (bitN v m k), .func (.func 212) #[] #[.pointer (some ⟨B1, 0, none⟩), .pointer (some ⟨Bc, 0, none⟩)], .int .i64 (bitN v m k), undef, undef, undef], defers := [] }) ?assign ?body ?done
 case keep =>
  intro W l' o o' hl' ho hc hw'
  refine ⟨by simp [World.putObj], World.putObj_heap_other ?_, World.putObj_heap_other ?_⟩
  ·have := blk_lt C1; omega
  ·have := blk_lt C2; omega
 case own =>
  rintro k W W' row ⟨q', e0, e1, e2, e3, e4, e5⟩ hg hrow
  exact ⟨q', e0.turn hg (fun r e => (hrow r e).2), e1, e2.grown hg (fun r e => by have := (hrow r e).1; omega), heap_kept e3 hg (fun r e => (hrow r e).2), heap_kept e4 hg (fun r e => (hrow r e).2), heap_kept e5 hg (fun r e => (hrow r e).2)⟩
 case start => exact ⟨q, by simpa using hW.out, .inl rfl, Kp.of_below hB2 _ _, hD, C1, C2⟩
 case assign =>
  intro l' k W K _ hK
  gi_wp2
  exact hK
 case body =>
  rintro L k W ⟨q', e0, e1, e2, e3, e4, e5⟩ hk
  have hlen : (l ++ (List.range k).map (bitN v m)).length + 1 ≤ 1048576 := by have := hl'.out; simp; omega
  have hadd := add_calls base p q' _ (bitN v m k) W e0 (bitN_bit v m k) hlen
  have z0 : W.cell? ⟨w.heap.size, 0, none⟩ = some (.func (.func 183) #[.pointer (some ⟨p, 0, none⟩)] #[]) := by rw [cell_blk e3]; rfl
  obtain ⟨b, hb⟩ : ∃ b, b = bitN v m k := ⟨_, rfl⟩
  rw [← hb] at hadd ⊢
  replace hadd := Aside0.mk hadd
  replace hb := Aside0.mk hb
  have E := Aside0.mk (And.intro e0 (And.intro e1 (And.intro e2 (And.intro e3 (And.intro e4 e5)))))
  clear e0 e1 e2 e3 e4 e5 hlen hD C1 C2 c1 c2
  gi_wp2_with fail
  refine ⟨trivial, CallsIn.inRound L (callsIn_wide.2 (hadd.out.mono ?_))⟩
  rintro e W3 ⟨rfl, hP⟩
  replace hP := Aside0.mk hP
  gi_wp2
  obtain ⟨e0, e1, e2, e3, e4, e5⟩ := E.out
  obtain ⟨q2, p0, p1, p2⟩ := hP.out
  have t3 := p2.blk e3 (e0.pne e3 (by decide)) (e0.qne e3 (by decide))
  have t4 := p2.blk e4 (e0.pne e4 (by decide)) (e0.qne e4 (by decide))
  have t5 := p2.blk e5 (e0.pne e5 (by decide)) (e0.qne e5 (by decide))
  refine ⟨(keeps_of_kp p2 e0).from _, ⟨p2.size, t4.trans e4.symm, t5.trans e5.symm⟩, q2, ?_, ?_, e2.trans p2 e1, t3, t4, t5⟩
  ·rw [List.range_succ, List.map_append, ← List.append_assoc]
   rw [hb.out] at p0
   exact p0
  ·rcases p1 with e | ⟨g, e, hg⟩
   ·rw [e]; exact e1
   ·exact .inr ⟨g, e, Nat.le_trans e2.size hg⟩
 case done =>
  rintro D W hD ⟨q', e0, e1, e2, e3, e4, e5⟩ hK
  have hgD := grownBy_putObj' W D (.deferred none)
  have hrD : ∀ r, some D = some r → ∃ o : Obj, W.heap[r]? = some o ∧ o.isCells = false := fun r e => by cases e; exact ⟨_, hK, rfl⟩
  have hfin : WrP base p q (l ++ numB v m) w (W.putObj D (.deferred none)) := ⟨q', e0.turn hgD hrD, e1, e2.grown hgD (fun r e => by cases e; omega)⟩
  gi_wp2
  refine ⟨by simp, .inl ⟨_, _, rfl, run_takeDeferred hK, ?_⟩⟩
  exact ⟨.tuple #[], by simp [results, Tryz.f181, go_sem], rfl, hfin⟩
end Bts

end Go.Proofs.YtnflnicdjioflaaGreatDoor
