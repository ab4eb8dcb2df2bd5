/- The laws QuantOdd and QuantRising. -/
import Derived.Test.YtglpdojccncjjaaQuantLaw
import Derived.WalkKit
import Derived.WalkSpells
import Derived.WalkLawsBesides
import Derived.KernelRfl
import Derived.Deep.RegionHeld3
import Derived.Deep.LoopGhost
import Derived.Deep.AppendLies
import Derived.Laws.Rows
import Derived.Shelf.GgClosure.Gives
import Derived.Test.YtglpdojccncjjaaWWords
import Derived.Test.YtglpdojccncjjaaWLast
import Derived.Test.YtglpdojccncjjaaWMore
set_option linter.unusedVariables false
set_option linter.unusedSimpArgs false
namespace Go.Proofs.Ytglpdojccncjjaa.Q15
open Go.RowKit Go.Proofs.YtglpdojccncjjaaW.PrintWords Go.Proofs.YtglpdojccncjjaaW.PrintLast Go.Proofs.YtglpdojccncjjaaW.PrintMore
attribute [local go_sem] max2_max min2_min max_two min_two max_three min_three

theorem isQ_yes {q : Int} (h : -1023 ≤ q ∧ q ≤ 1023) : isQ q = true := by simp [isQ, h]
theorem isC_yes {q : Int} (h : -2097152 ≤ q ∧ q ≤ 2097152) : isC q = true := by simp [isC, h]
theorem sgn_bd (n : Int) {r : Int} (h : 0 ≤ r ∧ r ≤ 2097152) : -2097152 ≤ sg n r ∧ sg n r ≤ 2097152 := by unfold sg; split <;> omega

abbrev VC (q s a e : Int) : Prop := ∀ w : World, Calls Try.prog 13 #[.int .i64 q, .int .i64 s] w fun x w' => x = .returned (.tuple #[.int .i64 a, .int .i64 e]) ∧ Below w.heap.size w w'
abbrev QC (c s a e : Int) : Prop := ∀ w : World, Calls Try.prog 15 #[.int .i64 c, .int .i64 s] w fun x w' => x = .returned (.tuple #[.int .i64 a, .int .i64 e]) ∧ Below w.heap.size w w'

theorem VC_any (q s : Int) : ∃ a e, VC q s a e ∧ (e ≠ 0 ∨ (e = 0 ∧ isS s = true ∧ isQ q = true ∧ a = sg q (V (stepI s) (absI q)))) ∧ (-2097152 ≤ a ∧ a ≤ 2097152) := by
  by_cases hs : isS s = true
  · by_cases hq : isQ q = true
    · have hb := isS_bd hs
      have hv := V_bd (x := stepI s) (absI q) (by have := stepI_bd hb.1 hb.2; omega)
      exact ⟨_, 0, fun w => Value_at q s _ w ⟨hs, hq, rfl⟩, .inr ⟨rfl, hs, hq, rfl⟩, sgn_bd _ hv⟩
    · refine ⟨0, 6, fun w => ?_, .inl (by decide), by decide, by decide⟩
      have := Value_calls q s w
      rwa [if_pos hs, if_neg hq] at this
  · refine ⟨0, 1, fun w => ?_, .inl (by decide), by decide, by decide⟩
    have := Value_calls q s w
    rwa [if_neg hs] at this
theorem QC_any (c s : Int) : ∃ a e, QC c s a e ∧ (e ≠ 0 ∨ (e = 0 ∧ isS s = true ∧ isC c = true ∧ a = sg c (qn (stepI s) (absI c)))) ∧ (-2097152 ≤ a ∧ a ≤ 2097152) := by
  by_cases hs : isS s = true
  · by_cases hq : isC c = true
    · have hb := isS_bd hs
      have hv := qn_bd (x := stepI s) (c := absI c) (by have := stepI_bd hb.1 hb.2; omega)
      exact ⟨_, 0, fun w => Quantum_at c s _ w ⟨hs, hq, rfl⟩, .inr ⟨rfl, hs, hq, rfl⟩, sgn_bd _ (by omega)⟩
    · refine ⟨0, 6, fun w => ?_, .inl (by decide), by decide, by decide⟩
      have := Quantum_calls c s w
      rwa [if_pos hs, if_neg hq] at this
  · refine ⟨0, 1, fun w => ?_, .inl (by decide), by decide, by decide⟩
    have := Quantum_calls c s w
    rwa [if_neg hs] at this

/-- The three ways of a comparison of two values that may be errors. -/
theorem rise_value (q r s : Int) (h : q ≤ r) : ∃ a e b f, VC q s a e ∧ VC r s b f ∧ (e ≠ 0 ∨ (e = 0 ∧ f ≠ 0) ∨ (e = 0 ∧ f = 0 ∧ decide (a > b) = false)) := by
  obtain ⟨a, e, h1, h2, _⟩ := VC_any q s
  obtain ⟨b, f, g1, g2, _⟩ := VC_any r s
  refine ⟨a, e, b, f, h1, g1, ?_⟩
  rcases h2 with h2 | ⟨h2, h3, h4, rfl⟩
  · exact .inl h2
  · rcases g2 with g2 | ⟨g2, g3, g4, rfl⟩
    · exact .inr (.inl ⟨h2, g2⟩)
    · refine .inr (.inr ⟨h2, g2, ?_⟩)
      have hb := isS_bd h3
      have := sgV_mono (x := stepI s) (a := q) (b := r) (by have := stepI_bd hb.1 hb.2; omega) h (isQ_bd h4).1 (isQ_bd g4).2
      simpa using this
theorem rise_scale (q s t : Int) (h : s ≤ t) : ∃ a e b f, VC q s a e ∧ VC q t b f ∧ (-2097152 ≤ a ∧ a ≤ 2097152) ∧ (-2097152 ≤ b ∧ b ≤ 2097152) ∧ (e ≠ 0 ∨ (e = 0 ∧ f ≠ 0) ∨ (e = 0 ∧ f = 0 ∧ decide (max a (-a) > max b (-b)) = false)) := by
  obtain ⟨a, e, h1, h2, ha⟩ := VC_any q s
  obtain ⟨b, f, g1, g2, hb⟩ := VC_any q t
  refine ⟨a, e, b, f, h1, g1, ha, hb, ?_⟩
  rcases h2 with h2 | ⟨h2, h3, h4, rfl⟩
  · exact .inl h2
  · rcases g2 with g2 | ⟨g2, g3, g4, rfl⟩
    · exact .inr (.inl ⟨h2, g2⟩)
    · refine .inr (.inr ⟨h2, g2, ?_⟩)
      have hs := isS_bd h3
      have ht := isS_bd g3
      have h5 := stepI_bd hs.1 hs.2
      have h6 := stepI_bd ht.1 ht.2
      rw [sg_abs _ (V_bd _ (by omega)).1, sg_abs _ (V_bd _ (by omega)).1]
      have := V_up (absI q) (step_mono hs.1 h ht.2)
      simpa using this
theorem rise_quantum (c d s : Int) (h : c ≤ d) : ∃ a e b f, QC c s a e ∧ QC d s b f ∧ (e ≠ 0 ∨ (e = 0 ∧ f ≠ 0) ∨ (e = 0 ∧ f = 0 ∧ decide (a ≤ b) = true)) := by
  obtain ⟨a, e, h1, h2, _⟩ := QC_any c s
  obtain ⟨b, f, g1, g2, _⟩ := QC_any d s
  refine ⟨a, e, b, f, h1, g1, ?_⟩
  rcases h2 with h2 | ⟨h2, h3, h4, rfl⟩
  · exact .inl h2
  · rcases g2 with g2 | ⟨g2, g3, g4, rfl⟩
    · exact .inr (.inl ⟨h2, g2⟩)
    · refine .inr (.inr ⟨h2, g2, ?_⟩)
      have hb := isS_bd h3
      have := sgq_mono (x := stepI s) (a := c) (b := d) (by have := stepI_bd hb.1 hb.2; omega) h
      simpa using this

theorem odd_value (q s : Int) (hq : -1023 ≤ q ∧ q ≤ 1023) : ∃ a e, VC q s (-a) e ∧ VC (-q) s a e ∧ (-2097152 ≤ a ∧ a ≤ 2097152) := by
  by_cases hs : isS s = true
  · have hb := isS_bd hs
    have hv := V_bd (x := stepI s) (absI q) (by have := stepI_bd hb.1 hb.2; omega)
    refine ⟨-(sg q (V (stepI s) (absI q))), 0, fun w => Value_at q s _ w ⟨hs, isQ_yes hq, by rw [Int.neg_neg]⟩, fun w => Value_at (-q) s _ w ⟨hs, isQ_yes (by omega), sg_neg (f := V (stepI s)) (V_zero _) q⟩, ?_⟩
    have := sgn_bd q hv
    omega
  · refine ⟨0, 1, fun w => ?_, fun w => ?_, by decide, by decide⟩
    · have := Value_calls q s w
      rwa [if_neg hs] at this
    · have := Value_calls (-q) s w
      rwa [if_neg hs] at this
theorem odd_quantum (c s : Int) (hc : -2097152 ≤ c ∧ c ≤ 2097152) : ∃ a e, QC c s (-a) e ∧ QC (-c) s a e ∧ (-2097152 ≤ a ∧ a ≤ 2097152) := by
  by_cases hs : isS s = true
  · have hb := isS_bd hs
    have hx := stepI_bd hb.1 hb.2
    have hv := qn_bd (x := stepI s) (c := absI c) (by omega)
    refine ⟨-(sg c (qn (stepI s) (absI c))), 0, fun w => Quantum_at c s _ w ⟨hs, isC_yes hc, by rw [Int.neg_neg]⟩, fun w => Quantum_at (-c) s _ w ⟨hs, isC_yes (by omega), sg_neg (f := qn (stepI s)) (qn_zero (by omega)) c⟩, ?_⟩
    have := sgn_bd c (r := qn (stepI s) (absI c)) (by omega)
    omega
  · refine ⟨0, 1, fun w => ?_, fun w => ?_, by decide, by decide⟩
    · have := Quantum_calls c s w
      rwa [if_neg hs] at this
    · have := Quantum_calls (-c) s w
      rwa [if_neg hs] at this

set_option maxRecDepth 100000 in
set_option maxHeartbeats 2000000 in
theorem QuantOdd_row {w : World} (q : Int) (hq : -9223372036854775808 ≤ q ∧ q ≤ 9223372036854775807) (c : Int) (hc : -9223372036854775808 ≤ c ∧ c ≤ 9223372036854775807) (s : Int) (hs : -9223372036854775808 ≤ s ∧ s ≤ 9223372036854775807) :
    Calls Try.prog 8 #[.int .i64 q, .int .i64 c, .int .i64 s] w fun e w' => e = .returned (.bool true) ∧ Below w.heap.size w w' := by
  have hb := Below.refl w.heap.size w
  by_cases h0 : q < -1023
  · go_enter Try.func8, Try.ntmps8
    go_wp2_with (first | (go_at_call 17; refine (awake_calls _).mono ?_; rintro e w' ⟨rfl, hbn⟩; replace hb := bnx hb hbn; clear hbn))
    go_ret
    exact ⟨rfl, hb⟩
  by_cases h1 : q > 1023
  · go_enter Try.func8, Try.ntmps8
    go_wp2_with (first | (go_at_call 17; refine (awake_calls _).mono ?_; rintro e w' ⟨rfl, hbn⟩; replace hb := bnx hb hbn; clear hbn))
    go_ret
    exact ⟨rfl, hb⟩
  by_cases h2 : c < -2097152
  · go_enter Try.func8, Try.ntmps8
    go_wp2_with (first | (go_at_call 17; refine (awake_calls _).mono ?_; rintro e w' ⟨rfl, hbn⟩; replace hb := bnx hb hbn; clear hbn))
    go_ret
    exact ⟨rfl, hb⟩
  by_cases h3 : c > 2097152
  · go_enter Try.func8, Try.ntmps8
    go_wp2_with (first | (go_at_call 17; refine (awake_calls _).mono ?_; rintro e w' ⟨rfl, hbn⟩; replace hb := bnx hb hbn; clear hbn))
    go_ret
    exact ⟨rfl, hb⟩
  obtain ⟨a, e, A1, A2, ha⟩ := odd_value q s (by omega)
  obtain ⟨x, g, X1, X2, hx⟩ := odd_quantum c s (by omega)
  replace A1 := Aside0.mk A1
  replace A2 := Aside0.mk A2
  replace X1 := Aside0.mk X1
  replace X2 := Aside0.mk X2
  have c6 := fun A cap w hr => Values_at A cap [-2, -1, 0, 1, 2] 0 [-3, -1, 0, 1, 3] w hr (by decide +kernel)
  have c7 := fun A cap w hr => Noise_at A cap [-1, 0, 1] 0 0 w hr (by decide +kernel)
  replace c6 := Aside0.mk c6
  replace c7 := Aside0.mk c7
  go_enter Try.func8, Try.ntmps8
  go_wp2_with fail
  refine (A1.out _).mono ?_; rintro e w1 ⟨rfl, hb2⟩; replace hb := bnx hb hb2; clear hb2
  go_wp2_with fail
  refine (A2.out _).mono ?_; rintro e w2 ⟨rfl, hb2⟩; replace hb := bnx hb hb2; clear hb2
  go_wp2_with fail
  refine (X1.out _).mono ?_; rintro e w3 ⟨rfl, hb2⟩; replace hb := bnx hb hb2; clear hb2
  go_wp2_with fail
  refine (X2.out _).mono ?_; rintro e w5 ⟨rfl, hb2⟩; replace hb := bnx hb hb2; clear hb2
  go_wp2_with fail
  refine (c6.out _ _ _ (lit_C [-2, -1, 0, 1, 2] w5 3 (by decide))).mono ?_; rintro e w6 ⟨v, rfl, hR, hb2⟩; replace hb := bnx (hb.alloc hb.size _) hb2; clear hb2
  obtain ⟨A6, p6, rfl, _, hC⟩ := Kd.R_reads hR
  have HC6 := Aside0.mk hC
  clear hC hR
  go_wp2_with fail
  have hx := (Below.refl w6.heap.size w6).alloc (Nat.le_refl _) (.cells #[.int .i64 (-1), .int .i64 0, .int .i64 1] 3)
  refine (c7.out _ _ _ (lit_C [-1, 0, 1] w6 3 (by decide))).mono ?_; rintro e w7 ⟨rfl, hb2⟩; replace hb := bnx (hb.alloc hb.size _) hb2
  replace HC6 := Aside0.mk (Kd.C_below HC6.out (bnx hx hb2))
  clear hb2 hx
  go_wp2_with fail
  have hx := (Below.refl w7.heap.size w7).alloc (Nat.le_refl _) (.cells #[.int .i64 (-3), .int .i64 (-1), .int .i64 0, .int .i64 1, .int .i64 3] 3)
  refine (ints_eq A6 _ p6 _ [-3, -1, 0, 1, 3] [-3, -1, 0, 1, 3] _ (Kd.C_below HC6.out hx) (lit_C [-3, -1, 0, 1, 3] w7 3 (by decide)) (by decide) rfl).mono ?_; rintro e w8 ⟨rfl, hb2⟩; replace hb := bnx (hb.alloc hb.size _) hb2
  clear hb2 hx
  go_wp2_with (first | (go_at_call 17; refine (awake_calls _).mono ?_; rintro e w' ⟨rfl, hbn⟩; replace hb := bnx hb hbn; clear hbn))
  go_ret
  exact ⟨rfl, hb⟩

set_option maxRecDepth 100000 in
set_option maxHeartbeats 4000000 in
theorem QuantRising_row {w : World} (q0 q1 : Int) (hq0 : -9223372036854775808 ≤ q0 ∧ q0 ≤ 9223372036854775807) (hq1 : -9223372036854775808 ≤ q1 ∧ q1 ≤ 9223372036854775807) (c0 c1 : Int) (hc0 : -9223372036854775808 ≤ c0 ∧ c0 ≤ 9223372036854775807) (hc1 : -9223372036854775808 ≤ c1 ∧ c1 ≤ 9223372036854775807) (s0 s1 : Int) (hs0 : -9223372036854775808 ≤ s0 ∧ s0 ≤ 9223372036854775807) (hs1 : -9223372036854775808 ≤ s1 ∧ s1 ≤ 9223372036854775807) :
    Calls Try.prog 7 #[.agg #[.int .i64 q0, .int .i64 q1], .agg #[.int .i64 c0, .int .i64 c1], .agg #[.int .i64 s0, .int .i64 s1]] w fun e w' => e = .returned (.bool true) ∧ Below w.heap.size w w' := by
  have hb := Below.refl w.heap.size w
  obtain ⟨a, e, b, f, A1, A2, ha⟩ := rise_value (min q0 q1) (max q0 q1) s0 (by omega)
  obtain ⟨x, g, y, h, X1, X2, hx, hy, hxy⟩ := rise_scale q0 (min s0 s1) (max s0 s1) (by omega)
  obtain ⟨u, i, v, j, U1, U2, hu⟩ := rise_quantum (min c0 c1) (max c0 c1) s0 (by omega)
  replace A1 := Aside0.mk A1
  replace A2 := Aside0.mk A2
  replace X1 := Aside0.mk X1
  replace X2 := Aside0.mk X2
  replace U1 := Aside0.mk U1
  replace U2 := Aside0.mk U2
  replace ha := Aside0.mk ha
  replace hxy := Aside0.mk hxy
  replace hu := Aside0.mk hu
  go_enter Try.func7, Try.ntmps7
  go_wp2_with fail
  obtain ⟨W, hW⟩ : ∃ W, W = (((w.alloc (.cells #[.int .i64 q0, .int .i64 q1] 36)).alloc (.cells #[.int .i64 c0, .int .i64 c1] 36)).alloc (.cells #[.int .i64 s0, .int .i64 s1] 36)) := ⟨_, rfl⟩
  rw [← hW]
  have k1 : W.cell? ⟨w.heap.size, 0, none⟩ = some (.int .i64 q0) := by rw [hW]; go_simp
  have k2 : W.cell? ⟨w.heap.size, 1, none⟩ = some (.int .i64 q1) := by rw [hW]; go_simp
  have k3 : W.cell? ⟨w.heap.size + 1, 0, none⟩ = some (.int .i64 c0) := by rw [hW]; go_simp
  have k4 : W.cell? ⟨w.heap.size + 1, 1, none⟩ = some (.int .i64 c1) := by rw [hW]; go_simp
  have k5 : W.cell? ⟨w.heap.size + 1 + 1, 0, none⟩ = some (.int .i64 s0) := by rw [hW]; go_simp
  have k6 : W.cell? ⟨w.heap.size + 1 + 1, 1, none⟩ = some (.int .i64 s1) := by rw [hW]; go_simp
  replace hb : Below w.heap.size w W := by rw [hW]; exact ((hb.alloc hb.size _).alloc (hb.alloc hb.size _).size _).alloc ((hb.alloc hb.size _).alloc (hb.alloc hb.size _).size _).size _
  clear hW
  refine (A1.out _).mono ?_; rintro _ w1 ⟨rfl, hbn⟩; replace k1 := cnx k1 hbn; replace k2 := cnx k2 hbn; replace k3 := cnx k3 hbn; replace k4 := cnx k4 hbn; replace k5 := cnx k5 hbn; replace k6 := cnx k6 hbn; replace hb := bnx hb hbn; clear hbn
  go_wp2_with fail
  refine (A2.out _).mono ?_; rintro _ w2 ⟨rfl, hbn⟩; replace k1 := cnx k1 hbn; replace k2 := cnx k2 hbn; replace k3 := cnx k3 hbn; replace k4 := cnx k4 hbn; replace k5 := cnx k5 hbn; replace k6 := cnx k6 hbn; replace hb := bnx hb hbn; clear hbn
  have ha := ha.out
  rcases ha with ha | ⟨rfl, ha⟩ | ⟨rfl, rfl, ha⟩
  all_goals
    go_wp2_with fail
    refine (X1.out _).mono ?_; rintro _ w3 ⟨rfl, hbn⟩; replace k1 := cnx k1 hbn; replace k2 := cnx k2 hbn; replace k3 := cnx k3 hbn; replace k4 := cnx k4 hbn; replace k5 := cnx k5 hbn; replace k6 := cnx k6 hbn; replace hb := bnx hb hbn; clear hbn
    go_wp2_with fail
    refine (X2.out _).mono ?_; rintro _ w4 ⟨rfl, hbn⟩; replace k1 := cnx k1 hbn; replace k2 := cnx k2 hbn; replace k3 := cnx k3 hbn; replace k4 := cnx k4 hbn; replace k5 := cnx k5 hbn; replace k6 := cnx k6 hbn; replace hb := bnx hb hbn; clear hbn
    have hxy := hxy.out
    rcases hxy with hxy | ⟨rfl, hxy⟩ | ⟨rfl, rfl, hxy⟩
  all_goals
    go_wp2_with fail
    refine (U1.out _).mono ?_; rintro _ w5 ⟨rfl, hbn⟩; replace k1 := cnx k1 hbn; replace k2 := cnx k2 hbn; replace k3 := cnx k3 hbn; replace k4 := cnx k4 hbn; replace k5 := cnx k5 hbn; replace k6 := cnx k6 hbn; replace hb := bnx hb hbn; clear hbn
    go_wp2_with fail
    refine (U2.out _).mono ?_; rintro _ w6 ⟨rfl, hbn⟩; replace k1 := cnx k1 hbn; replace k2 := cnx k2 hbn; replace k3 := cnx k3 hbn; replace k4 := cnx k4 hbn; replace k5 := cnx k5 hbn; replace k6 := cnx k6 hbn; replace hb := bnx hb hbn; clear hbn
    have hu := hu.out
    rcases hu with hu | ⟨rfl, hu⟩ | ⟨rfl, rfl, hu⟩
  all_goals
    go_wp2_with (first | (go_at_call 17; refine (awake_calls _).mono ?_; rintro e w' ⟨rfl, hbn⟩; replace hb := bnx hb hbn; clear hbn))
    go_ret
    exact ⟨rfl, hb⟩

end Go.Proofs.Ytglpdojccncjjaa.Q15
