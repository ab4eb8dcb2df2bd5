/- What each function of layer 15's reference returns: numbers. -/
import Derived.Test.YtglpdojccncjjaaQuantD
import Derived.Test.YtglpdojccncjjaaQuantNear
import Derived.WalkKit
import Derived.WalkSpells
import Derived.WalkLawsBesides
import Derived.KernelRfl
import Derived.Deep.RegionHeld3
import Derived.Deep.LoopGhost
import Derived.Deep.AppendLies
import Derived.Laws.Rows
import Derived.Shelf.GgClosure.Gives
import Derived.Test.YtglpdojccncjjaaWWords
import Derived.Test.YtglpdojccncjjaaWLast
import Derived.Test.YtglpdojccncjjaaWMore
namespace Go.Proofs.Ytglpdojccncjjaa.Q15
open Go.RowKit Go.Proofs.YtglpdojccncjjaaW.PrintWords Go.Proofs.YtglpdojccncjjaaW.PrintLast Go.Proofs.YtglpdojccncjjaaW.PrintMore
attribute [local go_sem] max2_int min2_int max_two min_two max_three min_three

set_option maxHeartbeats 1000000 in
theorem cube_calls (n r : Int) (w : World) (hn0 : 0 ≤ n) (hn1 : n ≤ 4611686018427387904) (hr0 : 0 ≤ r) (hr1 : r * r * r ≤ n) (hr2 : n < (r + 1) * (r + 1) * (r + 1)) :
    Calls Try.prog 58 #[.int .i64 n] w fun e w' => e = .returned (.tuple #[.int .i64 r, .int .i64 0]) ∧ Below w.heap.size w w' := by
  have hR := Aside0.mk hr1
  have hR2 := Aside0.mk hr2
  clear hr1 hr2
  go_enter Try.func58, Try.ntmps58
  go_wp2
  go_loopw [4, 5] (fun a b wr => ∃ (x B : Int), a = .int .i64 x ∧ b = .int .i64 (B / 2) ∧ 0 ≤ x ∧ 1 ≤ B ∧ Aside0 (∃ j : Nat, B = 2 ^ j) ∧ x + B ≤ 2097152 ∧ Aside0 (x * x * x ≤ n) ∧ Aside0 (n < (x + B) * (x + B) * (x + B)) ∧ Below w.heap.size w wr) (fun _ b _ => (intOf b).toNat)
  case atStart => exact ⟨0, 2097152, rfl, rfl, by omega, by omega, ⟨21, by decide⟩, by omega, ⟨by omega⟩, ⟨by omega⟩, Below.refl _ _⟩
  case round =>
    obtain ⟨x, B, rfl, rfl, hx, hB, ⟨j, hj⟩, hxB, h1, h2, hb⟩ := hrel
    by_cases hlt : B = 1
    · subst hlt
      have e : x = r := cube_root hx hr0 h1.out h2.out hR.out hR2.out
      subst e
      clear hj
      go_wp2
      go_ret2
      exact ⟨rfl, hb⟩
    · have hj2 : ∃ k : Nat, B = 2 * 2 ^ k := by
        cases j with
        | zero => exact absurd hj (by omega)
        | succ k => exact ⟨k, by rw [hj, Int.pow_succ, Int.mul_comm]⟩
      obtain ⟨k, hk⟩ := hj2
      obtain ⟨C, hC⟩ : ∃ C : Int, C = 2 ^ k := ⟨_, rfl⟩
      rw [← hC] at hk
      have HC := Aside0.mk (⟨k, hC⟩ : ∃ k : Nat, C = 2 ^ k)
      clear hC hj
      subst hk
      have hd : 2 * C / 2 = C := by omega
      rw [hd]
      have hy : 0 ≤ x + C ∧ x + C ≤ 2097151 := by omega
      have hs := mul_bd hy.1 hy.2 hy.1 hy.2
      have hs3 := mul_bd hs.1 hs.2 hy.1 hy.2
      have e2 : x + 2 * C = x + C + C := by omega
      by_cases hle : (x + C) * (x + C) * (x + C) ≤ n
      · have HA := Aside0.mk hle
        have H2 : Aside0 (n < (x + C + C) * (x + C + C) * (x + C + C)) := ⟨by rw [← e2]; exact h2.out⟩
        clear h1 h2 e2 hd
        go_wp2
        go_roundw
        case rel => exact ⟨x + C, C, rfl, rfl, by omega, by omega, HC, by omega, HA, H2, hb⟩
        case measure => simp [intOf]; omega
      · have H2 : Aside0 (n < (x + C) * (x + C) * (x + C)) := ⟨by omega⟩
        have hle' : n < (x + C) * (x + C) * (x + C) := by omega
        clear h2 e2 hd
        go_wp2
        go_roundw
        case rel => exact ⟨x, C, rfl, rfl, by omega, by omega, HC, by omega, h1, H2, hb⟩
        case measure => simp [intOf]; omega

set_option maxHeartbeats 400000 in
theorem rpower_calls (q : Int) (w : World) (h0 : -1023 ≤ q) (h1 : q ≤ 1023) :
    Calls Try.prog 32 #[.int .i64 q] w fun e w' => e = .returned (.int .i64 (P (absI q))) ∧ Below w.heap.size w w' := by
  have ha : 0 ≤ absI q ∧ absI q ≤ 1023 := by unfold absI; omega
  have hc := P_cube ha.1 ha.2
  rw [← q4_abs] at hc
  have hp := P_bd (absI q)
  obtain ⟨p, hpe⟩ : ∃ p, p = P (absI q) := ⟨_, rfl⟩
  rw [← hpe] at hc hp ⊢
  have b1 : -4190208 ≤ 4096 * q ∧ 4096 * q ≤ 4190208 := by omega
  have b2 : 0 ≤ 4096 * q * q ∧ 4096 * q * q ≤ 4286582784 := by
    rcases Int.le_total 0 q with h | h
    · exact mul_bd (by omega) b1.2 h h1
    · have := mul_bd (a := -(4096 * q)) (b := -q) (by omega) (show -(4096 * q) ≤ 4190208 by omega) (by omega) (show -q ≤ 1023 by omega)
      rwa [Int.neg_mul_neg] at this
  have b3 : -4385174188032 ≤ 4096 * q * q * q ∧ 4096 * q * q * q ≤ 4385174188032 := by
    rcases Int.le_total 0 q with h | h
    · have := mul_bd b2.1 b2.2 h h1; omega
    · have := mul_bd b2.1 b2.2 (show 0 ≤ -q by omega) (show -q ≤ 1023 by omega)
      rw [Int.mul_neg] at this
      omega
  have b4 : 0 ≤ 4096 * q * q * q * q ∧ 4096 * q * q * q * q ≤ 4600000000000000 := by
    have h3 : 0 ≤ 4096 * q * q * q * q := by rw [q4_abs]; exact (mul_bd (mul_bd (mul_bd (mul_bd (by omega) (Int.le_refl 4096) ha.1 ha.2).1 (mul_bd (by omega) (Int.le_refl 4096) ha.1 ha.2).2 ha.1 ha.2).1 (mul_bd (mul_bd (by omega) (Int.le_refl 4096) ha.1 ha.2).1 (mul_bd (by omega) (Int.le_refl 4096) ha.1 ha.2).2 ha.1 ha.2).2 ha.1 ha.2).1 (mul_bd (mul_bd (mul_bd (by omega) (Int.le_refl 4096) ha.1 ha.2).1 (mul_bd (by omega) (Int.le_refl 4096) ha.1 ha.2).2 ha.1 ha.2).1 (mul_bd (mul_bd (by omega) (Int.le_refl 4096) ha.1 ha.2).1 (mul_bd (by omega) (Int.le_refl 4096) ha.1 ha.2).2 ha.1 ha.2).2 ha.1 ha.2).2 ha.1 ha.2).1
    refine ⟨h3, ?_⟩
    have h5 := mul_bd (show 0 ≤ p + 1 by omega) (show p + 1 ≤ 164926 by omega) (show 0 ≤ p + 1 by omega) (show p + 1 ≤ 164926 by omega)
    have h6 := mul_bd h5.1 h5.2 (show 0 ≤ p + 1 by omega) (show p + 1 ≤ 164926 by omega)
    omega
  have HC := fun w => cube_calls (4096 * q * q * q * q) p w b4.1 (by omega) hp.1 hc.1 hc.2
  replace HC := Aside0.mk HC
  clear hc hpe
  go_enter Try.func32, Try.ntmps32
  go_wp2_with (first | (go_at_call 58; refine (HC.out _).mono ?_; rintro e w' ⟨rfl, hb⟩))
  go_ret
  exact ⟨rfl, hb⟩

set_option maxHeartbeats 400000 in
theorem rstep_calls (s : Int) (w : World) (h0 : 0 ≤ s) (h1 : s ≤ 95) :
    Calls Try.prog 75 #[.int .i64 s] w fun e w' => e = .returned (.tuple #[.int .i64 (stepI s), .int .i64 0]) ∧ Below w.heap.size w w' := by
  obtain ⟨c, hc⟩ : ∃ c, c = ([4096, 4871, 5793, 6889] : List Int).getD (s % 4).toNat 0 := ⟨_, rfl⟩
  have hq : ([.int .i64 4096, .int .i64 4871, .int .i64 5793, .int .i64 6889] : List Value)[(s % 4).toNat]? = some (.int .i64 c) := by
    rw [hc]
    have : s % 4 = 0 ∨ s % 4 = 1 ∨ s % 4 = 2 ∨ s % 4 = 3 := by omega
    rcases this with h | h | h | h <;> rw [h] <;> rfl
  have h2 : (2 : Int) ^ (s / 4).toNat ≤ 2 ^ 23 := by
    have : (2 : Nat) ^ (s / 4).toNat ≤ 2 ^ 23 := Nat.pow_le_pow_right (by omega) (by omega)
    exact_mod_cast this
  have h3 : 0 ≤ c ∧ c ≤ 6889 := by
    rw [hc]
    have : s % 4 = 0 ∨ s % 4 = 1 ∨ s % 4 = 2 ∨ s % 4 = 3 := by omega
    rcases this with h | h | h | h <;> rw [h] <;> decide
  have h4 := mul_bd h3.1 h3.2 (Int.pow_nonneg (show (0 : Int) ≤ 2 by omega)) h2
  have HS : Aside0 (wrap64 ((wrap64 (c * 2 ^ (s / 4).toNat)).tdiv 256) = stepI s) := ⟨by
    rw [show wrap64 (c * 2 ^ (s / 4).toNat) = c * 2 ^ (s / 4).toNat from by unfold wrap64; omega, Int.tdiv_eq_ediv_of_nonneg h4.1, show stepI s = c * 2 ^ (s / 4).toNat / 256 from by rw [hc]; rfl]
    unfold wrap64
    omega⟩
  clear hc h2 h3 h4
  go_enter Try.func75, Try.ntmps75
  go_wp2
  go_ret2
  exact ⟨by rw [HS.out]; rfl, (Below.refl _ _).alloc (Nat.le_refl _) _⟩

set_option maxHeartbeats 400000 in
theorem near256_calls (a : Int) (w : World) (h0 : 0 ≤ a) (h1 : a ≤ 1152921504606846976) :
    Calls Try.prog 76 #[.int .i64 a, .int .i64 256] w fun e w' => e = .returned (.int .i64 ((2 * a + 256) / 512)) ∧ Below w.heap.size w w' := by
  by_cases h : 128 ≤ a % 256
  · have e : (2 * a + 256) / 512 = a / 256 + 1 := by omega
    rw [e]
    clear e
    go_enter Try.func76, Try.ntmps76
    go_wp2_with (first | go_in)
    go_ret
    exact ⟨rfl, Below.refl _ _⟩
  · have e : (2 * a + 256) / 512 = a / 256 := by omega
    rw [e]
    clear e
    go_enter Try.func76, Try.ntmps76
    go_wp2_with (first | go_in)
    go_ret
    exact ⟨rfl, Below.refl _ _⟩

set_option maxHeartbeats 400000 in
theorem stands_calls (p s : Int) (w : World) (hp0 : 0 ≤ p) (hp1 : p ≤ 164925) (h0 : 0 ≤ s) (h1 : s ≤ 95) :
    Calls Try.prog 60 #[.int .i64 p, .int .i64 s] w fun e w' => e = .returned (.int .i64 (min 2097152 ((2 * (p * stepI s) + 256) / 512))) ∧ Below w.heap.size w w' := by
  have hs := stepI_bd h0 h1
  have HS := fun w => rstep_calls s w h0 h1
  obtain ⟨x, hx⟩ : ∃ x, x = stepI s := ⟨_, rfl⟩
  rw [← hx] at hs HS ⊢
  have hm := mul_bd hp0 hp1 (show 0 ≤ x by omega) hs.2
  have HN := fun w => near256_calls (p * x) w hm.1 (by omega)
  replace HS := Aside0.mk HS
  replace HN := Aside0.mk HN
  clear hx
  go_enter Try.func60, Try.ntmps60
  go_wp2_with (first | (go_at_call 75; refine (HS.out _).mono ?_; rintro e w' ⟨rfl, hb0⟩) | (go_at_call 76; refine (HN.out _).mono ?_; rintro e w' ⟨rfl, hb1⟩))
  all_goals
    go_ret
    exact ⟨ret_int (by omega), bnx hb0 hb1⟩

set_option maxHeartbeats 400000 in
theorem rScale_calls (n : Int) (w : World) : Calls Try.prog 35 #[.int .i64 n] w fun e w' => e = .returned (.bool (isS n)) ∧ Below w.heap.size w w' := by
  by_cases h1 : 0 ≤ n
  · by_cases h2 : n ≤ 95
    · rw [show isS n = true by unfold isS; simp [h1, h2]]
      go_enter Try.func35, Try.ntmps35
      go_wp2
      go_ret
      exact ⟨rfl, Below.refl _ _⟩
    · rw [show isS n = false by unfold isS; simp [h2]]
      have h3 : decide (n ≤ 95) = false := by simpa using h2
      go_enter Try.func35, Try.ntmps35
      go_wp2
      go_ret
      exact ⟨rfl, Below.refl _ _⟩
  · rw [show isS n = false by unfold isS; simp [h1]]
    have h3 : decide (0 ≤ n) = false := by simpa using h1
    go_enter Try.func35, Try.ntmps35
    go_wp2
    go_ret
    exact ⟨rfl, Below.refl _ _⟩

set_option maxHeartbeats 400000 in
theorem rquantum_calls (n : Int) (w : World) : Calls Try.prog 31 #[.int .i64 n] w fun e w' => e = .returned (.bool (isQ n)) ∧ Below w.heap.size w w' := by
  by_cases h1 : -1023 ≤ n
  · by_cases h2 : n ≤ 1023
    · rw [show isQ n = true by unfold isQ; simp [h1, h2]]
      go_enter Try.func31, Try.ntmps31
      go_wp2
      go_ret
      exact ⟨rfl, Below.refl _ _⟩
    · rw [show isQ n = false by unfold isQ; simp [h2]]
      have h3 : decide (n ≤ 1023) = false := by simpa using h2
      go_enter Try.func31, Try.ntmps31
      go_wp2
      go_ret
      exact ⟨rfl, Below.refl _ _⟩
  · rw [show isQ n = false by unfold isQ; simp [h1]]
    have h3 : decide (-1023 ≤ n) = false := by simpa using h1
    go_enter Try.func31, Try.ntmps31
    go_wp2
    go_ret
    exact ⟨rfl, Below.refl _ _⟩

theorem V_min (x q : Int) : min 2097152 ((2 * (P q * x) + 256) / 512) = V x q := by unfold V; rw [Int.min_comm, Int.mul_assoc]

set_option maxHeartbeats 400000 in
theorem rvalue_calls (q s : Int) (w : World) (h0 : -1023 ≤ q) (h1 : q ≤ 1023) (h2 : 0 ≤ s) (h3 : s ≤ 95) :
    Calls Try.prog 36 #[.int .i64 q, .int .i64 s] w fun e w' => e = .returned (.int .i64 (sg q (V (stepI s) (absI q)))) ∧ Below w.heap.size w w' := by
  have hs := stepI_bd h2 h3
  have hv := V_bd (x := stepI s) (absI q) (by omega)
  have hp := P_bd (absI q)
  have HS := fun w => stands_calls (P (absI q)) s w hp.1 hp.2 h2 h3
  rw [V_min] at HS
  have HP := fun w => rpower_calls q w h0 h1
  obtain ⟨p, hpe⟩ : ∃ p, p = P (absI q) := ⟨_, rfl⟩
  obtain ⟨v, hve⟩ : ∃ v, v = V (stepI s) (absI q) := ⟨_, rfl⟩
  rw [← hpe] at HS HP
  rw [← hve] at HS hv ⊢
  replace HS := Aside0.mk HS
  replace HP := Aside0.mk HP
  clear hpe hve hp
  by_cases hq : q < 0
  · go_enter Try.func36, Try.ntmps36
    go_wp2_with (first | (go_at_call 32; refine (HP.out _).mono ?_; rintro e w' ⟨rfl, hb0⟩) | (go_at_call 60; refine (HS.out _).mono ?_; rintro e w' ⟨rfl, hb1⟩))
    go_ret
    exact ⟨ret_int (by unfold sg; rw [if_pos hq]), bnx hb0 hb1⟩
  · go_enter Try.func36, Try.ntmps36
    go_wp2_with (first | (go_at_call 32; refine (HP.out _).mono ?_; rintro e w' ⟨rfl, hb0⟩) | (go_at_call 60; refine (HS.out _).mono ?_; rintro e w' ⟨rfl, hb1⟩))
    go_ret
    exact ⟨ret_int (by unfold sg; rw [if_neg (by omega)]), bnx hb0 hb1⟩

set_option maxHeartbeats 400000 in
theorem rPower_calls (q : Int) (w : World) :
    Calls Try.prog 12 #[.int .i64 q] w fun e w' => e = .returned (.tuple (if isQ q then #[.int .i64 (P (absI q)), .int .i64 0] else #[.int .i64 0, .int .i64 6])) ∧ Below w.heap.size w w' := by
  cases h : isQ q with
  | true =>
    obtain ⟨h1, h2⟩ := isQ_bd h
    go_enter Try.func12, Try.ntmps12
    go_wp2_with (first | (go_at_call 31; refine (rquantum_calls _ _).mono ?_; rintro e w' ⟨rfl, hb1⟩) | (go_at_call 32; refine (rpower_calls _ _ h1 h2).mono ?_; rintro e w' ⟨rfl, hb⟩))
    go_ret2
    exact ⟨rfl, bnx hb1 hb⟩
  | false =>
    go_enter Try.func12, Try.ntmps12
    go_wp2_with (first | (go_at_call 31; refine (rquantum_calls _ _).mono ?_; rintro e w' ⟨rfl, hb1⟩))
    go_ret2
    exact ⟨rfl, hb1⟩

set_option maxHeartbeats 400000 in
theorem rValue_calls (q s : Int) (w : World) :
    Calls Try.prog 14 #[.int .i64 q, .int .i64 s] w fun e w' => e = .returned (.tuple (if isS s then if isQ q then #[.int .i64 (sg q (V (stepI s) (absI q))), .int .i64 0] else #[.int .i64 0, .int .i64 6] else #[.int .i64 0, .int .i64 1])) ∧ Below w.heap.size w w' := by
  cases h : isS s with
  | true =>
    obtain ⟨g1, g2⟩ := isS_bd h
    cases k : isQ q with
    | true =>
      obtain ⟨h1, h2⟩ := isQ_bd k
      go_enter Try.func14, Try.ntmps14
      go_wp2_with (first | (go_at_call 35; refine (rScale_calls _ _).mono ?_; rintro e w' ⟨rfl, hb0⟩) | (go_at_call 31; refine (rquantum_calls _ _).mono ?_; rintro e w' ⟨rfl, hb1⟩) | (go_at_call 36; refine (rvalue_calls _ _ _ h1 h2 g1 g2).mono ?_; rintro e w' ⟨rfl, hb⟩))
      go_ret2
      exact ⟨rfl, bnx (bnx hb0 hb1) hb⟩
    | false =>
      go_enter Try.func14, Try.ntmps14
      go_wp2_with (first | (go_at_call 35; refine (rScale_calls _ _).mono ?_; rintro e w' ⟨rfl, hb0⟩) | (go_at_call 31; refine (rquantum_calls _ _).mono ?_; rintro e w' ⟨rfl, hb1⟩))
      go_ret2
      exact ⟨rfl, bnx hb0 hb1⟩
  | false =>
    go_enter Try.func14, Try.ntmps14
    go_wp2_with (first | (go_at_call 35; refine (rScale_calls _ _).mono ?_; rintro e w' ⟨rfl, hb0⟩))
    go_ret2
    exact ⟨rfl, hb0⟩

end Go.Proofs.Ytglpdojccncjjaa.Q15
