/- A part of the proof. -/
import Derived.Test.YtnflnicdjioflaaGreatDoorQmal
set_option linter.unusedVariables false
set_option linter.unusedSimpArgs false
namespace Go.Proofs.YtnflnicdjioflaaGreatDoor
open Go.RowKit Go.Proofs.YtnflnicdjioflaaGreatDoorW.PrintWords Go.Proofs.YtnflnicdjioflaaGreatDoorW.PrintLast Go.Proofs.YtnflnicdjioflaaGreatDoorW.PrintMore
namespace Pre
attribute [local go_sem] max2_int min2_int max_two min_two max_three min_three
open Q15
open Runs Go.Shelf
open Q16 (cell_heap frozen_heap)
attribute [local go_sem] Oper.semAt_some
def rowO (l : List Int) (n m : Nat) : List Nat := (List.range m).filter fun i => decide (rd l i = n)
def rowsO (l : List Int) (j : Nat) : List Nat := ((List.range j).map fun a => rowO l (a + 1) l.length).flatten
def ordTo (l : List Int) (j m : Nat) : List Nat := rowsO l j ++ rowO l (j + 1) m
def ordL (l : List Int) : List Nat := rowsO l 16
def ordAt (l : List Int) (k : Nat) : Nat := (ordL l).getD k 0
theorem rowO_succ (l : List Int) (n m : Nat) : rowO l n (m + 1) = if rd l m = n then rowO l n m ++ [m] else rowO l n m := by
 unfold rowO
 rw [List.range_succ, List.filter_append]
 by_cases h : rd l m = n
 ·rw [if_pos h]; simp [h]
 ·rw [if_neg h]; simp [h]
theorem rowsO_succ (l : List Int) (j : Nat) : rowsO l (j + 1) = rowsO l j ++ rowO l (j + 1) l.length := by
 unfold rowsO
 rw [List.range_succ, List.map_append, List.flatten_append]
 simp
theorem ordTo_zero (l : List Int) (j : Nat) : ordTo l j 0 = rowsO l j := by simp [ordTo, rowO]
theorem ordTo_end (l : List Int) (j : Nat) : ordTo l j l.length = ordTo l (j + 1) 0 := by rw [ordTo_zero, rowsO_succ]; rfl
theorem ordTo_succ (l : List Int) (j m : Nat) : ordTo l j (m + 1) = if rd l m = ((j + 1 : Nat) : Int) then ordTo l j m ++ [m] else ordTo l j m := by
 unfold ordTo
 rw [rowO_succ]
 by_cases h : rd l m = ((j + 1 : Nat) : Int)
 ·rw [if_pos h, if_pos h, List.append_assoc]
 ·rw [if_neg h, if_neg h]
theorem rowO_pre (l : List Int) (n m : Nat) : ∀ k, rowO l n m <+: rowO l n (m + k)
 | 0 => List.prefix_refl _
 | k + 1 => by
  refine (rowO_pre l n m k).trans ?_
  rw [← Nat.add_assoc, rowO_succ]
  by_cases h : rd l (m + k : Nat) = n
  ·rw [if_pos h]; exact List.prefix_append _ _
  ·rw [if_neg h]; exact List.prefix_refl _
theorem rowsO_pre (l : List Int) (j : Nat) : ∀ k, rowsO l j <+: rowsO l (j + k)
 | 0 => List.prefix_refl _
 | k + 1 => by
  refine (rowsO_pre l j k).trans ?_
  rw [← Nat.add_assoc, rowsO_succ]
  exact List.prefix_append _ _
theorem ordTo_pre {l : List Int} {j m : Nat} (hj : j < 16) (hm : m ≤ l.length) : ordTo l j m <+: ordL l := by
 have h1 : ordTo l j m <+: ordTo l j l.length := by
  unfold ordTo
  have := rowO_pre l (j + 1) m (l.length - m)
  rw [show m + (l.length - m) = l.length by omega] at this
  exact (List.prefix_append_right_inj _).2 this
 have h2 := rowsO_pre l (j + 1) (16 - (j + 1))
 rw [show j + 1 + (16 - (j + 1)) = 16 by omega] at h2
 rw [ordTo_end, ordTo_zero] at h1
 exact h1.trans h2
theorem ord_at {l : List Int} {j m : Nat} (hj : j < 16) (hm : m < l.length) (h : rd l m = ((j + 1 : Nat) : Int)) : (ordTo l j m).length < (ordL l).length ∧ (ordL l).getD (ordTo l j m).length 0 = m := by
 have h1 := ordTo_pre hj (show m + 1 ≤ l.length by omega)
 rw [ordTo_succ, if_pos h] at h1
 obtain ⟨t, ht⟩ := h1
 rw [← ht]
 simp
theorem ordL_mem {l : List Int} {i : Nat} (h : i ∈ ordL l) : i < l.length ∧ 1 ≤ rd l i ∧ rd l i ≤ 16 := by
 unfold ordL rowsO rowO at h
 simp only [List.mem_flatten, List.mem_map, List.mem_range] at h
 obtain ⟨_, ⟨a, ha, rfl⟩, h⟩ := h
 simp at h
 omega
def Keep2 (S B1 : Nat) (A B : World) : Prop := Below S A B ∧ B.heap[B1]? = A.heap[B1]?
theorem Keep2.trans {S B1 : Nat} {A B C : World} (h : Keep2 S B1 A B) (k : Keep2 S B1 B C) : Keep2 S B1 A C := ⟨h.1.trans k.1, k.2.trans h.2⟩
theorem Keep2.putObj {S B1 N : Nat} (h0 : S ≤ N) (h1 : B1 < N) (W : World) (l : Nat) (o o' : Obj) (hl : N ≤ l) (ho : W.heap[l]? = some o) (hc : o.isCells = false) (hw : o.isWalk = false) : Keep2 S B1 W (W.putObj l o') :=
 ⟨(Below.refl S W).grown (grownBy_putObj' W l o') (by have := (Array.getElem?_eq_some_iff.1 ho).1; omega) (fun k e => by cases e; omega), World.putObj_heap_other (by omega)⟩
set_option maxRecDepth 100000 in
set_option maxHeartbeats 2000000 in
theorem ordered1_runs (F : Fence) (n : Nat) (hF : F.fn 234) (hro : F.round = none) (hn : 1 ≤ n) (B1 : Nat) (A1 : Option Addr) (cap : Nat) (l : List Int) (hl : l.length ≤ 256) (wS w : World) (hr : (Kd.int .i64).C wS A1 l.length l) (hS : Below wS.heap.size wS w)
  (c1 : w.cell? ⟨B1, 0, none⟩ = some (.slice A1 l.length cap)) :
  SeqRuns0 F n Tryz.prog 234 #[.pointer (some ⟨B1, 0, none⟩)] (fun k => #[.int .i64 (ordAt l k : Nat)]) (Keep2 wS.heap.size B1) (ordL l).length w := fun L J W hW hY h0 => by
 have d1 := cnx c1 hW
 have hS' := bnx hS hW
 have HR := Aside0.mk hr
 have HY := Aside0.mk hY
 have hlI : (l.length : Int) ≤ 256 := by omega
 clear hY c1 hr hl
 refine callsIn_of_wp Tryz.func234 rfl hF ?_ hro
 simp only [Tryz.ntmps234, List.size_toArray, List.length_cons, List.length_nil, Nat.reduceAdd, Nat.reduceSub, Array.replicate_succ, Array.replicate_zero, List.push_toArray, List.append_toArray, List.nil_append, List.cons_append]
 gi_wp2
 gi_loopw [3] (fun i wr => ∃ j : Nat, i = .int .i64 ((j : Int) + 1) ∧ j ≤ 16 ∧ wr.cell? ⟨B1, 0, none⟩ = some (.slice A1 l.length cap) ∧ Aside0 (Below wS.heap.size wS wr) ∧ Aside0 (J (ordTo l j 0).length wr)) (fun i _ => 17 - (intOf i).toNat)
 case atStart => exact ⟨0, rfl, by omega, d1, ⟨hS'⟩, ⟨by simpa [ordTo, rowO, rowsO] using h0⟩⟩
 case round =>
  obtain ⟨j, rfl, hj, e1, hb, hJs⟩ := hrel
  clear d1 hS'
  have hjI : (j : Int) ≤ 16 := by omega
  by_cases hlt : j < 16
  ·have hjI2 : (j : Int) + 1 ≤ 16 := by omega
   have hj16 := Aside0.mk hlt
   clear hlt hj
   gi_wp2
   gi_loopw [12] (fun i wr => ∃ m : Nat, i = .int .i64 m ∧ m ≤ l.length ∧ wr.cell? ⟨B1, 0, none⟩ = some (.slice A1 l.length cap) ∧ Aside0 (Below wS.heap.size wS wr) ∧ Aside0 (J (ordTo l j m).length wr)) (fun i _ => l.length - (intOf i).toNat)
   case atStart => exact ⟨0, rfl, by omega, e1, hb, hJs⟩
   case round =>
    obtain ⟨m, rfl, hm, e1', hb', hJm⟩ := hrel
    clear e1 hb hJs
    by_cases hltm : m < l.length
    ·obtain ⟨ad, rfl, hcell⟩ := el_at HR.out hb'.out hltm
     have hmI : (m : Int) < (l.length : Int) := by omega
     have hltm' := Aside0.mk hltm
     by_cases he : rd l m = ((j + 1 : Nat) : Int)
     ·obtain ⟨q1, q2⟩ := ord_at hj16.out hltm he
      obtain ⟨fn, tmps, assign, body, hy, hR⟩ := HY.out (ordTo l j m).length wr q1 hJm.out
      rw [show ordAt l (ordTo l j m).length = m from q2] at hy
      have hT := Aside0.mk (show (ordTo l j (m + 1)).length = (ordTo l j m).length + 1 by rw [ordTo_succ, if_pos he]; simp)
      have he2 : (rd l m) = (j : Int) + 1 := by rw [he]; omega
      rw [he2] at hcell
      have hR2 := Aside0.mk hR
      clear hR he he2 q1 q2 hltm
      gi_wp2
      refine hR2.out.mono ?_
      rintro e W3 ⟨rfl, hJ3, hk3⟩
      have b1 := (cell_heap hk3.2).trans e1'
      have hb3 := Aside0.mk (hb'.out.trans hk3.1)
      replace hJ3 := Aside0.mk hJ3
      clear hR2 e1' hk3 hy
      gi_wp2
      go_roundw
      case rel => exact ⟨m + 1, by go_num, hltm'.out, b1, hb3, ⟨by rw [hT.out]; exact hJ3.out⟩⟩
      case measure => have := hltm'.out; simp [intOf]; omega
     ·have hT := Aside0.mk (show (ordTo l j (m + 1)).length = (ordTo l j m).length by rw [ordTo_succ, if_neg he])
      obtain ⟨x, hx⟩ : ∃ x, x = rd l m := ⟨_, rfl⟩
      rw [← hx] at hcell he
      have t1 : (x == (j : Int) + 1) = false := by rw [beq_eq_false_iff_ne]; omega
      clear hx he hltm
      gi_wp2
      refine ⟨fun f hf => (by cases hf), ?_⟩
      gi_wp2
      go_roundw
      case rel => exact ⟨m + 1, by go_num, hltm'.out, e1', hb', ⟨by rw [hT.out]; exact hJm.out⟩⟩
      case measure => have := hltm'.out; simp [intOf]; omega
    ·obtain rfl : m = l.length := by omega
     have hJn := Aside0.mk (show J (ordTo l (j + 1) 0).length wr by rw [← ordTo_end]; exact hJm.out)
     gi_wp2
     go_roundw
     case rel => exact ⟨j + 1, by go_num, by have := hj16.out; omega, e1', hb', hJn⟩
     case measure => have := hj16.out; simp [intOf]; omega
  ·obtain rfl : j = 16 := by omega
   gi_wp2
   go_end0
   refine ⟨⟨_, rfl⟩, ?_⟩
   have h := hJs.out
   rw [ordTo_zero] at h
   exact h
set_option maxHeartbeats 400000 in
theorem ordered_calls (A : Option Addr) (n c : Nat) (w : World) :
  Calls Tryz.prog 226 #[.slice A n c] w fun e w' => e = .returned (.func (.func 234) #[] #[.pointer (some ⟨w.heap.size, 0, none⟩)]) ∧ w' = w.alloc (.cells #[.slice A n c] 22) := by
 go_enter Tryz.func226, Tryz.ntmps226
 go_wp2
 go_ret
 exact ⟨rfl, rfl⟩
end Pre

namespace Pre
attribute [local go_sem] max2_int min2_int max_two min_two max_three min_three
open Q15
def cdStep (l : List Int) (s : Int × Int) (i : Nat) : Int × Int := (rd l i, (if s.1 = 0 then 0 else s.2 + 1) * 2 ^ (rd l i - s.1).toNat)
def wdSt (l : List Int) : Nat → (Int × Int) × List (Int × Int)
 | 0 => ((0, 0), List.replicate l.length (0, 0))
 | k + 1 => let i := (ordL l).getD k 0; let s := cdStep l (wdSt l k).1 i; (s, (wdSt l k).2.set i s)
def codesI (l : List Int) : List Int := (wdSt l (ordL l).length).2.map (·.2)
theorem wdSt_len (l : List Int) : ∀ k, (wdSt l k).2.length = l.length
 | 0 => by simp [wdSt]
 | k + 1 => by simp [wdSt, wdSt_len l k]
theorem codesI_len (l : List Int) : (codesI l).length = l.length := by simp [codesI, wdSt_len]
theorem rowO_len (l : List Int) (n m : Nat) : (rowO l n m).length ≤ m := by
 unfold rowO
 exact Nat.le_trans (List.length_filter_le _ _) (by simp)
theorem rowsO_len (l : List Int) : ∀ j, (rowsO l j).length ≤ j * l.length
 | 0 => by simp [rowsO]
 | j + 1 => by
  rw [rowsO_succ, List.length_append, Nat.succ_mul]
  have := rowsO_len l j
  have := rowO_len l (j + 1) l.length
  omega
theorem rowsO_sorted (l : List Int) : ∀ j, (rowsO l j).Pairwise (fun a b : Nat => rd l a ≤ rd l b) ∧ ∀ a ∈ rowsO l j, rd l (a : Nat) ≤ j
 | 0 => by simp [rowsO]
 | j + 1 => by
  obtain ⟨h1, h2⟩ := rowsO_sorted l j
  rw [rowsO_succ]
  have h3 : ∀ a ∈ rowO l (j + 1) l.length, rd l a = ((j + 1 : Nat) : Int) := fun a ha => by
   unfold rowO at ha
   simp only [List.mem_filter, decide_eq_true_eq] at ha
   exact ha.2
  refine ⟨List.pairwise_append.2 ⟨h1, ?_, fun a ha b hb => ?_⟩, fun a ha => ?_⟩
  ·refine List.Pairwise.imp_of_mem (R := fun _ _ => True) (fun ha hb _ => ?_) (List.pairwise_of_forall (fun _ _ => trivial))
   rw [h3 _ ha, h3 _ hb]
   exact Int.le_refl _
  ·have := h2 a ha
   rw [h3 b hb]
   omega
  ·rcases List.mem_append.1 ha with ha | ha
   ·have := h2 a ha
    omega
   ·rw [h3 a ha]
    exact Int.le_refl _
theorem ordL_getD {l : List Int} {k : Nat} (hk : k < (ordL l).length) : (ordL l).getD k 0 < l.length ∧ 1 ≤ rd l ((ordL l).getD k 0 : Nat) ∧ rd l ((ordL l).getD k 0 : Nat) ≤ 16 := by
 have h : (ordL l).getD k 0 ∈ ordL l := by
  rw [List.getD_eq_getElem?_getD, List.getElem?_eq_getElem hk]
  exact List.getElem_mem hk
 exact ordL_mem h
theorem ordL_le {l : List Int} {k : Nat} (hk : k + 1 < (ordL l).length) : rd l ((ordL l).getD k 0 : Nat) ≤ rd l ((ordL l).getD (k + 1) 0 : Nat) := by
 have h := List.pairwise_iff_getElem.1 (rowsO_sorted l 16).1 k (k + 1) (by have : ordL l = rowsO l 16 := rfl; rw [← this]; omega) hk (by omega)
 simp only [List.getD_eq_getElem?_getD, List.getElem?_eq_getElem hk, List.getElem?_eq_getElem (show k < (ordL l).length by omega), Option.getD_some]
 exact h
theorem wdSt_bd (l : List Int) : ∀ k, k ≤ (ordL l).length → 0 ≤ (wdSt l k).1.1 ∧ (wdSt l k).1.1 ≤ 16 ∧ 0 ≤ (wdSt l k).1.2 ∧ (wdSt l k).1.2 ≤ k * 2 ^ (wdSt l k).1.1.toNat ∧ (k = 0 → (wdSt l k).1 = (0, 0)) ∧ (0 < k → (wdSt l k).1.1 = rd l ((ordL l).getD (k - 1) 0 : Nat) ∧ 1 ≤ (wdSt l k).1.1)
 | 0, _ => by simp [wdSt]
 | k + 1, hk => by
  obtain ⟨h1, h2, h3, h4, h5, h6⟩ := wdSt_bd l k (by omega)
  obtain ⟨g1, g2, g3⟩ := ordL_getD (show k < (ordL l).length by omega)
  have hle : (wdSt l k).1.1 ≤ rd l ((ordL l).getD k 0 : Nat) := by
   by_cases h0 : k = 0
   ·rw [h5 h0]; simp only; omega
   ·rw [(h6 (by omega)).1]
    have := ordL_le (show k - 1 + 1 < (ordL l).length by omega)
    rw [show k - 1 + 1 = k by omega] at this
    exact this
  simp only [wdSt, cdStep]
  obtain ⟨n, hn⟩ : ∃ n, n = rd l ((ordL l).getD k 0 : Nat) := ⟨_, rfl⟩
  rw [← hn] at g2 g3 hle ⊢
  obtain ⟨s, hs⟩ : ∃ s, s = (wdSt l k).1 := ⟨_, rfl⟩
  rw [← hs] at h1 h2 h3 h4 h5 h6 hle ⊢
  have hp : (0 : Int) < 2 ^ (n - s.1).toNat := Int.pow_pos (by omega)
  have hp1 : (0 : Int) < 2 ^ s.1.toNat := Int.pow_pos (by omega)
  have hpp : (2 : Int) ^ s.1.toNat * 2 ^ (n - s.1).toNat = 2 ^ n.toNat := by rw [← Int.pow_add]; congr 1; omega
  refine ⟨by omega, by omega, ?_, ?_, by omega, fun _ => ⟨by simp [hn], by omega⟩⟩
  ·exact Int.mul_nonneg (by by_cases h0 : s.1 = 0 <;> simp [h0]; omega) (by omega)
  ·rw [← hpp, ← Int.mul_assoc]
   refine Int.mul_le_mul_of_nonneg_right ?_ (by omega)
   by_cases h0 : s.1 = 0
   ·rw [if_pos h0]
    have : (0 : Int) ≤ ((k + 1 : Nat) : Int) * 2 ^ s.1.toNat := Int.mul_nonneg (by omega) (by omega)
    omega
   ·rw [if_neg h0]
    push_cast
    rw [Int.add_mul]
    omega
theorem wdSt_small {l : List Int} (hl : l.length ≤ 256) {k : Nat} (hk : k ≤ (ordL l).length) : (wdSt l k).1.2 ≤ 268435456 := by
 obtain ⟨h1, h2, h3, h4, _⟩ := wdSt_bd l k hk
 have hk2 : k ≤ 4096 := by have h : (ordL l).length ≤ 16 * l.length := rowsO_len l 16; omega
 have hp : (2 : Nat) ^ (wdSt l k).1.1.toNat ≤ 2 ^ 16 := Nat.pow_le_pow_right (by omega) (by omega)
 have hp2 : ((2 ^ (wdSt l k).1.1.toNat : Nat) : Int) = 2 ^ (wdSt l k).1.1.toNat := by simp
 have hpI : (2 : Int) ^ (wdSt l k).1.1.toNat ≤ 65536 := by
  rw [← hp2]
  have : (2 : Nat) ^ 16 = 65536 := by decide
  omega
 have hpI0 : (0 : Int) < 2 ^ (wdSt l k).1.1.toNat := Int.pow_pos (by omega)
 have h5 : (k : Int) * 2 ^ (wdSt l k).1.1.toNat ≤ 4096 * 65536 := Int.mul_le_mul (by omega) hpI (by omega) (by omega)
 omega
def pCells (ps : List (Int × Int)) : Array Value := (ps.map fun p => [Value.int .i64 p.1, Value.int .i64 p.2]).flatten.toArray
theorem pCells_at {ps : List (Int × Int)} {k : Nat} (hk : k < ps.length) : (pCells ps)[2 * k]? = some (.int .i64 (ps[k]).1) ∧ (pCells ps)[2 * k + 1]? = some (.int .i64 (ps[k]).2) := by
 unfold pCells
 induction ps generalizing k with
 | nil => simp at hk
 | cons f t ih =>
  cases k with
  | zero => simp
  | succ k =>
   have h := ih (k := k) (by simpa using hk)
   simp only [List.map_cons, List.flatten_cons, List.getElem?_toArray] at h ⊢
   rw [show 2 * (k + 1) = 2 * k + 2 by omega, show 2 * k + 2 + 1 = (2 * k + 1) + 2 by omega]
   rw [List.getElem?_append_right (by simp), List.getElem?_append_right (by simp)]
   simpa using h
theorem pCells_set (ps : List (Int × Int)) (p : Int × Int) : ∀ k, ((pCells ps).setIfInBounds (2 * k) (.int .i64 p.1)).setIfInBounds (2 * k + 1) (.int .i64 p.2) = pCells (ps.set k p) := by
 unfold pCells
 simp only [List.setIfInBounds_toArray]
 induction ps with
 | nil => intro k; simp
 | cons f t ih =>
  intro k
  cases k with
  | zero => simp
  | succ k =>
   have h := ih k
   simp only [List.map_cons, List.flatten_cons, List.set_cons_succ, List.cons_append, List.nil_append]
   rw [show 2 * (k + 1) = 2 * k + 1 + 1 by omega, show 2 * k + 1 + 1 + 1 = (2 * k + 1) + 1 + 1 by omega]
   simp only [List.set_cons_succ]
   have h2 := congrArg Array.toList h
   simp only at h2
   rw [h2]
end Pre

end Go.Proofs.YtnflnicdjioflaaGreatDoor
