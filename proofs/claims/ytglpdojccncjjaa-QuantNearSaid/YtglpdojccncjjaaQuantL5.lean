/- The law QuantNear. -/
import Derived.Test.YtglpdojccncjjaaQuantL3
import Derived.WalkKit
import Derived.WalkSpells
import Derived.WalkLawsBesides
import Derived.KernelRfl
import Derived.Deep.RegionHeld3
import Derived.Deep.LoopGhost
import Derived.Deep.AppendLies
import Derived.Laws.Rows
import Derived.Shelf.GgClosure.Gives
import Derived.Test.YtglpdojccncjjaaWWords
import Derived.Test.YtglpdojccncjjaaWLast
import Derived.Test.YtglpdojccncjjaaWMore
set_option linter.unusedVariables false
set_option linter.unusedSimpArgs false
set_option linter.unusedSectionVars false
namespace Go.Proofs.Ytglpdojccncjjaa.Q15
open Go.RowKit Go.Proofs.YtglpdojccncjjaaW.PrintWords Go.Proofs.YtglpdojccncjjaaW.PrintLast Go.Proofs.YtglpdojccncjjaaW.PrintMore
attribute [local go_sem] max2_max min2_min max_two min_two max_three min_three

/-- What the walk must know of the coefficient, its quantum and the values. -/
structure Near (c s q k size v top : Int) : Prop where
  hQ : QC c s q 0
  hV : VC k s v 0
  hT : VC 1023 s top 0
  bc : -2097152 ≤ c ∧ c ≤ 2097152
  bq : -1023 ≤ q ∧ q ≤ 1023
  bk : 0 ≤ k ∧ k ≤ 1023
  bs : 0 ≤ size ∧ size ≤ 2097152
  bv : 0 ≤ v ∧ v ≤ 2097152
  bt : 0 ≤ top ∧ top ≤ 2097152
  esize : max c (-c) = size
  ek : max q (-q) = k
  sign : (0 < c ∧ ¬ q < 0) ∨ (¬ 0 < c ∧ ¬ c < 0) ∨ (¬ 0 < c ∧ c < 0 ∧ ¬ 0 < q)

theorem absI_of_pos {a : Int} (h : 0 ≤ a) : absI a = a := by unfold absI; omega
theorem near_of {c s : Int} (hs : isS s = true) (hc : isC c = true) : Near c s (sg c (qn (stepI s) (absI c))) (qn (stepI s) (absI c)) (absI c) (V (stepI s) (qn (stepI s) (absI c))) (V (stepI s) 1023) := by
  have hb := isS_bd hs
  have hx := stepI_bd hb.1 hb.2
  have hcb := isC_bd hc
  have hq := qn_bd (x := stepI s) (c := absI c) (by omega)
  refine ⟨fun w => Quantum_at c s _ w ⟨hs, hc, rfl⟩, fun w => Value_at _ s _ w ⟨hs, isQ_yes (by omega), ?_⟩, fun w => Value_at _ s _ w ⟨hs, isQ_yes (by omega), ?_⟩, hcb, ?_, hq, ⟨absI_nonneg c, by unfold absI; omega⟩, V_bd _ (by omega), V_bd _ (by omega), rfl, sg_abs _ hq.1, ?_⟩
  · rw [absI_of_pos hq.1]
    unfold sg
    rw [if_neg (by omega)]
  · rw [show absI 1023 = 1023 by decide]
    unfold sg
    rw [if_neg (by omega)]
  · unfold sg; split <;> omega
  · unfold sg; split <;> omega
theorem VC_at {j s : Int} (hs : isS s = true) (h0 : 0 ≤ j) (h1 : j ≤ 1023) : VC j s (V (stepI s) j) 0 := fun w => Value_at _ s _ w ⟨hs, isQ_yes (by omega), by
  rw [show absI j = j by unfold absI; omega]
  unfold sg
  rw [if_neg (by omega)]⟩

section
variable {w : World} {c s q k size v top : Int} (hs : -9223372036854775808 ≤ s ∧ s ≤ 9223372036854775807) (N : Near c s q k size v top)
include hs N
set_option maxRecDepth 100000 in
set_option maxHeartbeats 2000000 in
theorem near_one (h : top < size) (hv : v = top) :
    Calls Try.prog 9 #[.int .i64 c, .int .i64 s] w fun e w' => e = .returned (.bool true) ∧ Below w.heap.size w w' := by
  subst hv
  obtain ⟨hQ, hV, hT, bc, bq, bk, bs, bv, bt, es, ek, sign⟩ := N
  replace hQ := Aside0.mk hQ
  replace hV := Aside0.mk hV
  replace hT := Aside0.mk hT
  have hb := Below.refl w.heap.size w
  have sign2 : (0 < c ∧ ¬ q < 0) ∨ (¬ 0 < c ∧ c < 0 ∧ ¬ 0 < q) := by omega
  clear sign
  rcases sign2 with ⟨g1, g2⟩ | ⟨g1, g2, g3⟩
  all_goals
    go_enter Try.func9, Try.ntmps9
    go_wp2_with fail
    refine (hQ.out _).mono ?_; rintro _ w1 ⟨rfl, hbn⟩; replace hb := bnx hb hbn; clear hbn
    go_wp2_with fail
    refine (hV.out _).mono ?_; rintro _ w2 ⟨rfl, hbn⟩; replace hb := bnx hb hbn; clear hbn
    go_wp2_with fail
    refine (hT.out _).mono ?_; rintro _ w3 ⟨rfl, hbn⟩; replace hb := bnx hb hbn; clear hbn
    go_wp2_with (first | (go_at_call 17; refine (awake_calls _).mono ?_; rintro e w' ⟨rfl, hbn⟩; replace hb := bnx hb hbn; clear hbn))
    go_ret
    exact ⟨rfl, hb⟩
set_option maxRecDepth 100000 in
set_option maxHeartbeats 2000000 in
theorem near_two (h : ¬ top < size) (hv : v = size) :
    Calls Try.prog 9 #[.int .i64 c, .int .i64 s] w fun e w' => e = .returned (.bool true) ∧ Below w.heap.size w w' := by
  subst hv
  obtain ⟨hQ, hV, hT, bc, bq, bk, bs, bv, bt, es, ek, sign⟩ := N
  replace hQ := Aside0.mk hQ
  replace hV := Aside0.mk hV
  replace hT := Aside0.mk hT
  have hb := Below.refl w.heap.size w
  rcases sign with ⟨g1, g2⟩ | ⟨g1, g2⟩ | ⟨g1, g2, g3⟩
  all_goals
    go_enter Try.func9, Try.ntmps9
    go_wp2_with fail
    refine (hQ.out _).mono ?_; rintro _ w1 ⟨rfl, hbn⟩; replace hb := bnx hb hbn; clear hbn
    go_wp2_with fail
    refine (hV.out _).mono ?_; rintro _ w2 ⟨rfl, hbn⟩; replace hb := bnx hb hbn; clear hbn
    go_wp2_with fail
    refine (hT.out _).mono ?_; rintro _ w3 ⟨rfl, hbn⟩; replace hb := bnx hb hbn; clear hbn
    go_wp2_with (first | (go_at_call 17; refine (awake_calls _).mono ?_; rintro e w' ⟨rfl, hbn⟩; replace hb := bnx hb hbn; clear hbn))
    go_ret
    exact ⟨rfl, hb⟩
set_option maxRecDepth 100000 in
set_option maxHeartbeats 4000000 in
theorem near_three (h : ¬ top < size) (hv : v < size) {f u : Int} (hf : k < f ∧ f ≤ 1023) (hmid : ∀ j, k ≤ j → j < f → VC j s v 0) (hU : VC f s u 0) (bu : 0 ≤ u ∧ u ≤ 2097152) (hu : size < u) (hd : 2 * (size - v) ≤ u - v) :
    Calls Try.prog 9 #[.int .i64 c, .int .i64 s] w fun e w' => e = .returned (.bool true) ∧ Below w.heap.size w w' := by
  obtain ⟨hQ, hV, hT, bc, bq, bk, bs, bv, bt, es, ek, sign⟩ := N
  replace hQ := Aside0.mk hQ
  replace hV := Aside0.mk hV
  replace hT := Aside0.mk hT
  replace hmid := Aside0.mk hmid
  replace hU := Aside0.mk hU
  have hb := Below.refl w.heap.size w
  have em : max (size - v) (v - size) = size - v := by omega
  have em2 : max (u - v) (v - u) = u - v := by omega
  have hp : (u - size) * (v - size) < 0 := Int.mul_neg_of_pos_of_neg (by omega) (by omega)
  have hp2 : -4398046511104 ≤ (u - size) * (v - size) := by
    have := (mul_bd (a := u - size) (b := size - v) (A := 2097152) (B := 2097152) (by omega) (by omega) (by omega) (by omega)).2
    rw [show v - size = -(size - v) by omega, Int.mul_neg]
    omega
  have sign2 : (0 < c ∧ ¬ q < 0) ∨ (¬ 0 < c ∧ c < 0 ∧ ¬ 0 < q) := by omega
  clear sign
  rcases sign2 with ⟨g1, g2⟩ | ⟨g1, g2, g3⟩
  all_goals
    go_enter Try.func9, Try.ntmps9
    go_wp2_with fail
    refine (hQ.out _).mono ?_; rintro _ w1 ⟨rfl, hbn⟩; replace hb := bnx hb hbn; clear hbn
    go_wp2_with fail
    refine (hV.out _).mono ?_; rintro _ w2 ⟨rfl, hbn⟩; replace hb := bnx hb hbn; clear hbn
    go_wp2_with fail
    refine (hT.out _).mono ?_; rintro _ w3 ⟨rfl, hbn⟩; replace hb := bnx hb hbn; clear hbn
    go_wp2_with fail
    go_loopw [14] (fun i wr => ∃ j : Int, i = .int .i64 j ∧ k ≤ j ∧ j < f ∧ Below w.heap.size w wr) (fun i _ => (f - intOf i).toNat)
    case atStart => exact ⟨k, rfl, by omega, by omega, hb⟩
    case round =>
      obtain ⟨j, rfl, hj0, hj1, hbj⟩ := hrel
      clear hb
      have hb := hbj
      clear hbj
      by_cases hlt : j + 1 < f
      · have HJ := Aside0.mk (hmid.out (j + 1) (by omega) hlt)
        go_wp2_with fail
        refine (HJ.out _).mono ?_; rintro _ w4 ⟨rfl, hbn⟩; replace hb := bnx hb hbn; clear hbn
        go_wp2_with fail
        go_roundw
        case rel => exact ⟨j + 1, by go_num, by omega, hlt, hb⟩
        case measure => simp [intOf]; omega
      · obtain rfl : f = j + 1 := by omega
        have hne : ¬ u = v := by omega
        go_wp2_with fail
        refine (hU.out _).mono ?_; rintro _ w4 ⟨rfl, hbn⟩; replace hb := bnx hb hbn; clear hbn
        go_wp2_with (first | (go_at_call 17; refine (awake_calls _).mono ?_; rintro e w' ⟨rfl, hbn⟩; replace hb := bnx hb hbn; clear hbn))
        go_ret
        exact ⟨rfl, hb⟩
set_option maxRecDepth 100000 in
set_option maxHeartbeats 4000000 in
theorem near_four (h : ¬ top < size) (hv : size < v) {u : Int} (hk : 1 ≤ k) (hU : VC (k - 1) s u 0) (bu : 0 ≤ u ∧ u ≤ 2097152) (hu : u < size) (hd : 2 * (v - size) ≤ v - u) :
    Calls Try.prog 9 #[.int .i64 c, .int .i64 s] w fun e w' => e = .returned (.bool true) ∧ Below w.heap.size w w' := by
  obtain ⟨hQ, hV, hT, bc, bq, bk, bs, bv, bt, es, ek, sign⟩ := N
  replace hQ := Aside0.mk hQ
  replace hV := Aside0.mk hV
  replace hT := Aside0.mk hT
  replace hU := Aside0.mk hU
  have hb := Below.refl w.heap.size w
  have em : max (size - v) (v - size) = v - size := by omega
  have em2 : max (u - v) (v - u) = v - u := by omega
  have hne : ¬ u = v := by omega
  have hp : (u - size) * (v - size) < 0 := Int.mul_neg_of_neg_of_pos (by omega) (by omega)
  have hp2 : -4398046511104 ≤ (u - size) * (v - size) := by
    have := (mul_bd (a := size - u) (b := v - size) (A := 2097152) (B := 2097152) (by omega) (by omega) (by omega) (by omega)).2
    rw [show u - size = -(size - u) by omega, Int.neg_mul]
    omega
  have sign2 : (0 < c ∧ ¬ q < 0) ∨ (¬ 0 < c ∧ c < 0 ∧ ¬ 0 < q) := by omega
  clear sign
  rcases sign2 with ⟨g1, g2⟩ | ⟨g1, g2, g3⟩
  all_goals
    go_enter Try.func9, Try.ntmps9
    go_wp2_with fail
    refine (hQ.out _).mono ?_; rintro _ w1 ⟨rfl, hbn⟩; replace hb := bnx hb hbn; clear hbn
    go_wp2_with fail
    refine (hV.out _).mono ?_; rintro _ w2 ⟨rfl, hbn⟩; replace hb := bnx hb hbn; clear hbn
    go_wp2_with fail
    refine (hT.out _).mono ?_; rintro _ w3 ⟨rfl, hbn⟩; replace hb := bnx hb hbn; clear hbn
    go_wp2_with fail
    go_loopw [14] (fun i wr => i = .int .i64 k ∧ Below w.heap.size w wr) (fun i _ => 0)
    case atStart => exact ⟨rfl, hb⟩
    case round =>
      obtain ⟨rfl, hbj⟩ := hrel
      clear hb
      have hb := hbj
      clear hbj
      go_wp2_with fail
      refine (hU.out _).mono ?_; rintro _ w4 ⟨rfl, hbn⟩; replace hb := bnx hb hbn; clear hbn
      go_wp2_with (first | (go_at_call 17; refine (awake_calls _).mono ?_; rintro e w' ⟨rfl, hbn⟩; replace hb := bnx hb hbn; clear hbn))
      go_ret
      exact ⟨rfl, hb⟩
end

set_option maxRecDepth 100000 in
set_option maxHeartbeats 2000000 in
theorem QuantNear_row {w : World} (c : Int) (hc : -9223372036854775808 ≤ c ∧ c ≤ 9223372036854775807) (s : Int) (hs : -9223372036854775808 ≤ s ∧ s ≤ 9223372036854775807) :
    Calls Try.prog 9 #[.int .i64 c, .int .i64 s] w fun e w' => e = .returned (.bool true) ∧ Below w.heap.size w w' := by
  have hb := Below.refl w.heap.size w
  by_cases hS : isS s = true
  · by_cases hC : isC c = true
    · have N := near_of hS hC
      have hx : 0 ≤ stepI s := by have := stepI_bd (isS_bd hS).1 (isS_bd hS).2; omega
      have ha := absI_nonneg c
      by_cases h : V (stepI s) 1023 < absI c
      · exact near_one hs N h (near_top hx h)
      · rcases Int.lt_trichotomy (V (stepI s) (qn (stepI s) (absI c))) (absI c) with h1 | h1 | h1
        · obtain ⟨f, f1, f2, f3, f4, f5⟩ := near_low hx ha (by omega) h1
          have hq := qn_bd (x := stepI s) (c := absI c) hx
          refine near_three hs N h h1 ⟨f1, f2⟩ (fun j j0 j1 => ?_) (VC_at hS (by omega) f2) (V_bd f hx) f4 (by omega)
          rw [← f3 j j0 j1]
          exact VC_at hS (by omega) (by omega)
        · exact near_two hs N h h1
        · obtain ⟨f1, f2, f3⟩ := near_high hx ha h1
          have hq := qn_bd (x := stepI s) (c := absI c) hx
          exact near_four hs N h h1 f1 (VC_at hS (by omega) (by omega)) (V_bd _ hx) f2 (by omega)
    · have C1 := Quantum_calls c s w
      rw [if_pos hS, if_neg hC] at C1
      go_enter Try.func9, Try.ntmps9
      go_wp2_with (first | (go_at_call 15; refine (C1).mono ?_; rintro e w' ⟨rfl, hbn⟩; replace hb := bnx hb hbn; clear hbn) | (go_at_call 17; refine (awake_calls _).mono ?_; rintro e w' ⟨rfl, hbn⟩; replace hb := bnx hb hbn; clear hbn))
      go_ret
      exact ⟨rfl, hb⟩
  · have C1 := Quantum_calls c s w
    rw [if_neg hS] at C1
    go_enter Try.func9, Try.ntmps9
    go_wp2_with (first | (go_at_call 15; refine (C1).mono ?_; rintro e w' ⟨rfl, hbn⟩; replace hb := bnx hb hbn; clear hbn) | (go_at_call 17; refine (awake_calls _).mono ?_; rintro e w' ⟨rfl, hbn⟩; replace hb := bnx hb hbn; clear hbn))
    go_ret
    exact ⟨rfl, hb⟩

end Go.Proofs.Ytglpdojccncjjaa.Q15
