/- The plain laws of layer 15: rising, odd, idempotent, nearest, best. -/
import Derived.Test.YtglpdojccncjjaaQuantU
set_option linter.unusedVariables false
set_option linter.unusedSimpArgs false
namespace Go.Proofs.Ytglpdojccncjjaa.Q15

theorem max2_max (k k' : IntKind) (x y : Int) : Builtin.max2 (.int k x) (.int k' y) = pure (.int k (max x y)) := by
  simp only [Builtin.max2, gt_iff_lt]
  by_cases h : x < y
  · rw [if_pos h, show max x y = y by omega]
  · rw [if_neg h, show max x y = x by omega]
theorem min2_min (k k' : IntKind) (x y : Int) : Builtin.min2 (.int k x) (.int k' y) = pure (.int k (min x y)) := by
  simp only [Builtin.min2]
  by_cases h : y < x
  · rw [if_pos h, show min x y = y by omega]
  · rw [if_neg h, show min x y = x by omega]
theorem steps_mono : ((List.range 95).all fun k => decide (stepI (k : Nat) ≤ stepI ((k + 1 : Nat) : Int))) = true := by decide +kernel
theorem step_mono {a b : Int} (h0 : 0 ≤ a) (h : a ≤ b) (h1 : b ≤ 95) : stepI a ≤ stepI b := by
  obtain ⟨n, rfl⟩ := Int.eq_ofNat_of_zero_le h0
  obtain ⟨d, hd⟩ := Int.eq_ofNat_of_zero_le (show 0 ≤ b - n by omega)
  obtain rfl : b = ((n + d : Nat) : Int) := by omega
  induction d with
  | zero => exact Int.le_refl _
  | succ d ih =>
    have h := List.all_eq_true.1 steps_mono (n + d) (by simp; omega)
    simp only [decide_eq_true_eq] at h
    exact Int.le_trans (ih (by omega) (by omega) (by omega)) h
theorem V_up {x y : Int} (q : Int) (h : x ≤ y) : V x q ≤ V y q := by
  unfold V
  have := Int.mul_le_mul_of_nonneg_left h (show 0 ≤ 2 * P q by have := P_bd q; omega)
  omega
theorem absI_neg (n : Int) : absI (-n) = absI n := by unfold absI; omega
theorem absI_nonneg (n : Int) : 0 ≤ absI n := by unfold absI; omega

/-- The first quantum whose value is at least c, or 1023. -/
def upq (x c : Int) : Int := fst (fun k => decide (V x k ≥ c)) 0 1023
theorem upq_bd (x c : Int) : 0 ≤ upq x c ∧ upq x c ≤ 1023 := fst_bd _ (by decide)
theorem upq_at {x c : Int} (h : upq x c < 1023) : c ≤ V x (upq x c) := by simpa [upq] using fst_at _ h
theorem upq_before {x c k : Int} (h0 : 0 ≤ k) (h : k < upq x c) : V x k < c := by simpa using fst_before _ h0 h (by decide)
theorem upq_le {x c k : Int} (h0 : 0 ≤ k) (h : c ≤ V x k) : upq x c ≤ k := by
  rcases Int.lt_or_le k (upq x c) with h1 | h1
  · have := upq_before h0 h1; omega
  · exact h1
/-- The first quantum with the value that m has. -/
def back (x m : Int) : Int := fst (fun k => decide (V x k ≥ V x m)) 0 m
theorem back_bd (x : Int) {m : Int} (h : 0 ≤ m) : 0 ≤ back x m ∧ back x m ≤ m := fst_bd _ h
theorem back_val {x m : Int} (hx : 0 ≤ x) (h : 0 ≤ m) (h1 : m ≤ 1023) : V x (back x m) = V x m := by
  have hb := back_bd x h
  have h2 := V_mono hx hb.1 hb.2 h1
  rcases Int.lt_or_eq_of_le hb.2 with h3 | h3
  · have : V x m ≤ V x (back x m) := by simpa [back] using fst_at _ h3
    omega
  · rw [h3]
theorem back_le {x m k : Int} (h0 : 0 ≤ k) (hm : 0 ≤ m) (h : V x m ≤ V x k) : back x m ≤ k := by
  rcases Int.lt_or_le k (back x m) with h1 | h1
  · have : V x k < V x m := by simpa using fst_before _ h0 h1 hm
    omega
  · exact h1
/-- The quantum of c, in these words. -/
theorem qn_up (x c : Int) : qn x c = if upq x c = 0 then 0 else if absI (V x (upq x c - 1) - c) ≤ absI (V x (upq x c) - c) then back x (upq x c - 1) else upq x c := rfl
/-- The two ways. -/
theorem qn_ways {x c : Int} (hx : 0 ≤ x) :
    (upq x c = 0 ∧ qn x c = 0) ∨
    (1 ≤ upq x c ∧ V x (upq x c - 1) < c ∧ absI (V x (upq x c - 1) - c) ≤ absI (V x (upq x c) - c) ∧ qn x c = back x (upq x c - 1)) ∨
    (1 ≤ upq x c ∧ V x (upq x c - 1) < c ∧ absI (V x (upq x c) - c) < absI (V x (upq x c - 1) - c) ∧ qn x c = upq x c) := by
  have hb := upq_bd x c
  rw [qn_up]
  by_cases h0 : upq x c = 0
  · exact .inl ⟨h0, by rw [if_pos h0]⟩
  · have hv := upq_before (x := x) (c := c) (k := upq x c - 1) (by omega) (by omega)
    rw [if_neg h0]
    split
    · rename_i h; exact .inr (.inl ⟨by omega, hv, h, rfl⟩)
    · rename_i h; exact .inr (.inr ⟨by omega, hv, by omega, rfl⟩)

theorem back_mono {x a b : Int} (hx : 0 ≤ x) (h0 : 0 ≤ a) (h : a ≤ b) (h1 : b ≤ 1023) : back x a ≤ back x b := by
  have hb := back_bd x (show 0 ≤ b by omega)
  refine back_le hb.1 h0 ?_
  rw [back_val hx (by omega) h1]
  exact V_mono hx h0 h h1
theorem upq_mono {x a b : Int} (h : a ≤ b) : upq x a ≤ upq x b := by
  rcases Int.lt_or_le (upq x b) 1023 with h1 | h1
  · exact upq_le (upq_bd x b).1 (by have := upq_at h1; omega)
  · have := upq_bd x a; omega
theorem qn_le_upq {x c : Int} (hx : 0 ≤ x) : 0 ≤ qn x c ∧ qn x c ≤ upq x c := by
  have hb := upq_bd x c
  rcases qn_ways (c := c) hx with ⟨h, e⟩ | ⟨h, _, _, e⟩ | ⟨h, _, _, e⟩
  · omega
  · have := back_bd x (show 0 ≤ upq x c - 1 by omega); omega
  · omega
/-- Quanta never fall with the coefficient. -/
theorem qn_mono {x a b : Int} (hx : 0 ≤ x) (h : a ≤ b) : qn x a ≤ qn x b := by
  have ha := upq_bd x a
  have hb := upq_bd x b
  have hm := upq_mono (x := x) h
  have q0 := qn_le_upq (c := a) hx
  have q1 := qn_le_upq (c := b) hx
  rcases Int.lt_or_eq_of_le hm with hl | he
  · have hva : a ≤ V x (upq x a) := upq_at (by omega)
    rcases qn_ways (c := b) hx with ⟨h2, e⟩ | ⟨h2, _, _, e⟩ | ⟨h2, _, _, e⟩
    · omega
    · have g1 := back_bd x (show 0 ≤ upq x b - 1 by omega)
      have : upq x a ≤ back x (upq x b - 1) := upq_le g1.1 (by
        rw [back_val hx (by omega) (by omega)]
        exact Int.le_trans hva (V_mono hx ha.1 (by omega) (by omega)))
      omega
    · omega
  · rcases qn_ways (c := b) hx with ⟨h2, e⟩ | ⟨h2, h3, h4, e⟩ | ⟨h2, _, _, e⟩
    · omega
    · rcases qn_ways (c := a) hx with ⟨g2, f⟩ | ⟨g2, g3, g4, f⟩ | ⟨g2, g3, g4, f⟩
      · omega
      · rw [e, f, he]; exact Int.le_refl _
      · exfalso
        rw [he] at g3 g4
        have hV := V_mono hx (show 0 ≤ upq x b - 1 by omega) (show upq x b - 1 ≤ upq x b by omega) hb.2
        unfold absI at h4 g4
        omega
    · omega
theorem qn_zero {x : Int} (hx : 0 ≤ x) : qn x 0 = 0 := by
  have := upq_le (x := x) (c := 0) (k := 0) (Int.le_refl _) (by rw [V_zero]; exact Int.le_refl _)
  have := upq_bd x 0
  have := qn_le_upq (c := 0) hx
  omega
theorem sgq_mono {x a b : Int} (hx : 0 ≤ x) (h : a ≤ b) : sg a (qn x (absI a)) ≤ sg b (qn x (absI b)) := by
  have q0 := qn_le_upq (c := absI a) hx
  have q1 := qn_le_upq (c := absI b) hx
  unfold sg
  split
  · split
    · have := qn_mono (x := x) hx (show absI b ≤ absI a by unfold absI; omega)
      omega
    · omega
  · split
    · omega
    · exact qn_mono hx (by unfold absI; omega)
theorem sgV_mono {x a b : Int} (hx : 0 ≤ x) (h : a ≤ b) (h0 : -1023 ≤ a) (h1 : b ≤ 1023) : sg a (V x (absI a)) ≤ sg b (V x (absI b)) := by
  have q0 := V_bd (x := x) (absI a) hx
  have q1 := V_bd (x := x) (absI b) hx
  unfold sg
  split
  · split
    · have := V_mono (x := x) hx (absI_nonneg b) (show absI b ≤ absI a by unfold absI; omega) (by unfold absI; omega)
      omega
    · omega
  · split
    · omega
    · exact V_mono hx (absI_nonneg a) (by unfold absI; omega) (by unfold absI; omega)
theorem sg_abs (n : Int) {r : Int} (h : 0 ≤ r) : max (sg n r) (-(sg n r)) = r := by unfold sg; split <;> omega
/-- A value's sign turns with the quantum's. -/
theorem sg_neg {f : Int → Int} (h : f 0 = 0) (q : Int) : sg (-q) (f (absI (-q))) = -(sg q (f (absI q))) := by
  rw [absI_neg]
  by_cases h0 : q = 0
  · subst h0
    rw [show absI 0 = 0 by decide, h]
    rfl
  · unfold sg
    split <;> split <;> omega

/-- The quantum of a value has that value, and is no greater. -/
theorem qn_V {x k : Int} (hx : 0 ≤ x) (h0 : 0 ≤ k) (h1 : k ≤ 1023) : 0 ≤ qn x (V x k) ∧ qn x (V x k) ≤ k ∧ V x (qn x (V x k)) = V x k := by
  have hu := upq_le (x := x) (c := V x k) h0 (Int.le_refl _)
  have hb := upq_bd x (V x k)
  have hV : V x (upq x (V x k)) = V x k := by
    have h2 := V_mono hx hb.1 hu h1
    rcases Int.lt_or_eq_of_le hu with h3 | h3
    · have := upq_at (x := x) (c := V x k) (by omega); omega
    · rw [h3]
  rcases qn_ways (c := V x k) hx with ⟨h, e⟩ | ⟨h2, h3, h4, e⟩ | ⟨h2, _, _, e⟩
  · rw [h] at hV; rw [e]; exact ⟨Int.le_refl _, h0, hV⟩
  · exfalso; rw [hV] at h4; unfold absI at h4; omega
  · rw [e]; exact ⟨hb.1, hu, hV⟩
theorem absI_sgn (n : Int) {r : Int} (h : 0 ≤ r) : absI (sg n r) = r := sg_abs n h
theorem again_one {x q : Int} (hx : 0 ≤ x) (h : -1023 ≤ q ∧ q ≤ 1023) :
    let v := sg q (V x (absI q)); let r := sg v (qn x (absI v))
    (-2097152 ≤ v ∧ v ≤ 2097152) ∧ absI r ≤ absI q ∧ sg r (V x (absI r)) = v ∧ dsq x v = 0 := by
  have hq : 0 ≤ absI q ∧ absI q ≤ 1023 := by unfold absI; omega
  have hv := V_bd (x := x) (absI q) hx
  obtain ⟨h0, h1, h2⟩ := qn_V hx hq.1 hq.2
  have hav : absI (sg q (V x (absI q))) = V x (absI q) := absI_sgn q hv.1
  have har : absI (sg (sg q (V x (absI q))) (qn x (V x (absI q)))) = qn x (V x (absI q)) := absI_sgn _ h0
  dsimp only
  refine ⟨by unfold sg; split <;> omega, by rw [hav, har]; exact h1, ?_, ?_⟩
  · rw [hav, har, h2]
    generalize V x (absI q) = v at *
    by_cases hz : v = 0
    · subst hz
      unfold sg; split <;> split <;> omega
    · have hr : qn x v ≠ 0 := fun e => by rw [e, V_zero] at h2; omega
      unfold sg; split <;> split <;> (try split) <;> omega
  · unfold dsq
    rw [hav, h2]
    simp

/-- How near the value of a quantum is. -/
theorem near_top {x c : Int} (hx : 0 ≤ x) (h : V x 1023 < c) : V x (qn x c) = V x 1023 := by
  have hb := upq_bd x c
  have hu : upq x c = 1023 := by
    rcases Int.lt_or_eq_of_le hb.2 with h1 | h1
    · have := upq_at h1
      have := V_mono hx hb.1 hb.2 (Int.le_refl _)
      omega
    · exact h1
  rcases qn_ways (c := c) hx with ⟨h2, e⟩ | ⟨h2, h3, h4, e⟩ | ⟨h2, _, _, e⟩
  · omega
  · rw [hu] at h4
    rw [e, hu, back_val hx (by decide) (by decide)]
    have := V_mono hx (show (0 : Int) ≤ 1023 - 1 by decide) (show (1023 : Int) - 1 ≤ 1023 by decide) (by decide)
    unfold absI at h4
    omega
  · rw [e, hu]
theorem near_low {x c : Int} (hx : 0 ≤ x) (hc : 0 ≤ c) (h : c ≤ V x 1023) (hl : V x (qn x c) < c) :
    ∃ f, qn x c < f ∧ f ≤ 1023 ∧ (∀ j, qn x c ≤ j → j < f → V x j = V x (qn x c)) ∧ c < V x f ∧ 2 * (c - V x (qn x c)) ≤ V x f - V x (qn x c) := by
  have hb := upq_bd x c
  have hu : c ≤ V x (upq x c) := by
    rcases Int.lt_or_eq_of_le hb.2 with h1 | h1
    · exact upq_at h1
    · rw [h1]; exact h
  rcases qn_ways (c := c) hx with ⟨h2, e⟩ | ⟨h2, h3, h4, e⟩ | ⟨h2, _, _, e⟩
  · rw [h2] at hu; rw [e] at hl; omega
  · have g := back_bd x (show 0 ≤ upq x c - 1 by omega)
    have gv := back_val hx (show 0 ≤ upq x c - 1 by omega) (by omega)
    rw [e] at hl ⊢
    refine ⟨upq x c, by omega, hb.2, fun j j0 j1 => ?_, ?_, ?_⟩
    · have a1 := V_mono hx g.1 j0 (by omega)
      have a2 := V_mono hx (show 0 ≤ j by omega) (show j ≤ upq x c - 1 by omega) (by omega)
      omega
    · unfold absI at h4; omega
    · unfold absI at h4; omega
  · rw [e] at hl; omega
theorem near_high {x c : Int} (hx : 0 ≤ x) (hc : 0 ≤ c) (hl : c < V x (qn x c)) :
    1 ≤ qn x c ∧ V x (qn x c - 1) < c ∧ 2 * (V x (qn x c) - c) ≤ V x (qn x c) - V x (qn x c - 1) := by
  have hb := upq_bd x c
  rcases qn_ways (c := c) hx with ⟨h2, e⟩ | ⟨h2, h3, h4, e⟩ | ⟨h2, h3, h4, e⟩
  · rw [e, V_zero] at hl; omega
  · have gv := back_val hx (show 0 ≤ upq x c - 1 by omega) (by omega)
    rw [e, gv] at hl; omega
  · rw [e] at hl ⊢
    refine ⟨h2, h3, ?_⟩
    unfold absI at h4
    omega

end Go.Proofs.Ytglpdojccncjjaa.Q15
