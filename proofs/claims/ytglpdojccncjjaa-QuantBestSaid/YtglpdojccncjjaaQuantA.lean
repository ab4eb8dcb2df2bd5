/- What each function of package quant returns: values, searches, quanta. -/
import Derived.Test.YtglpdojccncjjaaProg
import Derived.Test.YtglpdojccncjjaaQuantSpec
import Derived.Test.YtglpdojccncjjaaQuantPow
import Derived.WalkKit
import Derived.WalkSpells
import Derived.WalkLawsBesides
import Derived.KernelRfl
import Derived.Deep.RegionHeld3
import Derived.Deep.LoopGhost
import Derived.Deep.AppendLies
import Derived.Laws.Rows
import Derived.Shelf.GgClosure.Gives
import Derived.Test.YtglpdojccncjjaaWWords
import Derived.Test.YtglpdojccncjjaaWLast
import Derived.Test.YtglpdojccncjjaaWMore
namespace Go.Proofs.Ytglpdojccncjjaa.Q15
open Go.RowKit Go.Proofs.YtglpdojccncjjaaW.PrintWords Go.Proofs.YtglpdojccncjjaaW.PrintLast Go.Proofs.YtglpdojccncjjaaW.PrintMore
attribute [local go_sem] max2_int min2_int max_two min_two max_three min_three

theorem ret_int {k : IntKind} {a b : Int} (h : a = b) : Ending.returned (.int k a) = .returned (.int k b) := by rw [h]
theorem pow_at (q : Int) (h0 : 0 ≤ q) (h1 : q ≤ 1023) : POW[q.toNat]? = some (.int .i64 (P q)) := by
  have hl := powTab_len
  unfold POW P
  rw [List.getElem?_toArray, List.getElem?_map, List.getElem?_eq_getElem (by omega), List.getD_eq_getElem?_getD, List.getElem?_eq_getElem (by omega)]
  rfl

set_option maxHeartbeats 400000 in
theorem step_calls (s : Int) (w : World) (h0 : 0 ≤ s) (h1 : s ≤ 95) :
    Calls Try.prog 61 #[.int .i64 s] w fun e w' => e = .returned (.tuple #[.int .i64 (stepI s), .int .i64 0]) ∧ Below w.heap.size w w' := by
  obtain ⟨c, hc⟩ : ∃ c, c = ([4096, 4871, 5793, 6889] : List Int).getD (s % 4).toNat 0 := ⟨_, rfl⟩
  have hq : ([.int .i64 4096, .int .i64 4871, .int .i64 5793, .int .i64 6889] : List Value)[(s % 4).toNat]? = some (.int .i64 c) := by
    rw [hc]
    have : s % 4 = 0 ∨ s % 4 = 1 ∨ s % 4 = 2 ∨ s % 4 = 3 := by omega
    rcases this with h | h | h | h <;> rw [h] <;> rfl
  have h2 : (2 : Int) ^ (s / 4).toNat ≤ 2 ^ 23 := by
    have : (2 : Nat) ^ (s / 4).toNat ≤ 2 ^ 23 := Nat.pow_le_pow_right (by omega) (by omega)
    exact_mod_cast this
  have h3 : 0 ≤ c ∧ c ≤ 6889 := by
    rw [hc]
    have : s % 4 = 0 ∨ s % 4 = 1 ∨ s % 4 = 2 ∨ s % 4 = 3 := by omega
    rcases this with h | h | h | h <;> rw [h] <;> decide
  have h4 := mul_bd h3.1 h3.2 (Int.pow_nonneg (show (0 : Int) ≤ 2 by omega)) h2
  have HS : Aside0 (wrap64 (c * 2 ^ (s / 4).toNat) / 256 = stepI s) := ⟨by
    rw [show wrap64 (c * 2 ^ (s / 4).toNat) = c * 2 ^ (s / 4).toNat from by unfold wrap64; omega, hc]
    rfl⟩
  clear hc h2 h3 h4
  go_enter Try.func61, Try.ntmps61
  go_wp2
  go_ret2
  exact ⟨by rw [HS.out]; rfl, (Below.refl _ _).alloc (Nat.le_refl _) _⟩

theorem run_index_agg {P : Program} {T E len : Nat} {cs : Array Value} {q : Int} {v : Value} (hT : P.underlying T = some (.array len E)) (hs : (P.info? E).map (·.size) = some 1) (hE : P.plainKey E = true)
    (h0 : 0 ≤ q) (h1 : q < len) (hx : cs[q.toNat]? = some v) (w : World) : (Instr.index T (.agg cs) (.int .i64 q)).run P w = .ok v w := by
  cases hi : P.info? E with
  | none => simp [hi] at hs
  | some i =>
    have hz : i.size = 1 := by simpa [hi] using hs
    have hr := run_part_plain (P := P) (w := w) hE hx
    have hsz : (sizeOf E).run P w = .ok 1 w := by simp [sizeOf, typeInfo, hi, hz]
    simp [Instr.index, asIntOf, run_underlying hT, h0, h1, hsz, hr]

set_option maxHeartbeats 400000 in
theorem xvalue_calls (x q : Int) (w : World) (hx0 : 0 ≤ x) (hx1 : x ≤ 268435456) (h0 : 0 ≤ q) (h1 : q ≤ 1023) :
    Calls Try.prog 59 #[.int .i64 x, .int .i64 q] w fun e w' => e = .returned (.int .i64 (V x q)) ∧ Below w.heap.size w w' := by
  have hP := P_bd q
  have hm := mul_bd (show 0 ≤ 2 * P q by omega) (show 2 * P q ≤ 329850 by omega) hx0 hx1
  have hat := fun w => run_index_agg (P := Try.prog) (T := 60) (E := 3) (len := 1024) (by kernel_rfl) (by kernel_rfl) (by kernel_rfl) h0 (by omega) (pow_at q h0 h1) w
  go_enter Try.func59, Try.ntmps59
  go_wp2_with (go_at_call 57; refine (powers_calls _).mono ?_; rintro e w' ⟨rfl, hb⟩)
  all_goals
    go_ret
    exact ⟨ret_int (by unfold V; omega), hb⟩

set_option maxHeartbeats 400000 in
theorem power_calls (q : Int) (w : World) (h0 : -1023 ≤ q) (h1 : q ≤ 1023) :
    Calls Try.prog 30 #[.int .i64 q] w fun e w' => e = .returned (.int .i64 (P (absI q))) ∧ Below w.heap.size w w' := by
  obtain ⟨m, hm⟩ : ∃ m, m = absI q := ⟨_, rfl⟩
  have hm' : m = (if q < -q then -q else q) := by rw [hm]; unfold absI; omega
  have h2 : 0 ≤ m ∧ m ≤ 1023 := by omega
  have hat := fun w => run_index_agg (P := Try.prog) (T := 60) (E := 3) (len := 1024) (by kernel_rfl) (by kernel_rfl) (by kernel_rfl) h2.1 (by omega) (pow_at m h2.1 h2.2) w
  rw [← hm]
  by_cases hq : q < -q
  · rw [if_pos hq] at hm'
    clear hm
    subst hm'
    go_enter Try.func30, Try.ntmps30
    go_wp2_with (go_at_call 57; refine (powers_calls _).mono ?_; rintro e w' ⟨rfl, hb⟩)
    go_ret
    exact ⟨rfl, hb⟩
  · rw [if_neg hq] at hm'
    clear hm
    subst hm'
    go_enter Try.func30, Try.ntmps30
    go_wp2_with (go_at_call 57; refine (powers_calls _).mono ?_; rintro e w' ⟨rfl, hb⟩)
    go_ret
    exact ⟨rfl, hb⟩

set_option maxHeartbeats 400000 in
theorem isQ_calls (n : Int) (w : World) : Calls Try.prog 29 #[.int .i64 n] w fun e w' => e = .returned (.bool (isQ n)) ∧ Below w.heap.size w w' := by
  by_cases h1 : -1023 ≤ n
  · by_cases h2 : n ≤ 1023
    · rw [show isQ n = true by unfold isQ; simp [h1, h2]]
      go_enter Try.func29, Try.ntmps29
      go_wp2
      go_ret
      exact ⟨rfl, Below.refl _ _⟩
    · rw [show isQ n = false by unfold isQ; simp [h2]]
      have h3 : decide (n ≤ 1023) = false := by simpa using h2
      go_enter Try.func29, Try.ntmps29
      go_wp2
      go_ret
      exact ⟨rfl, Below.refl _ _⟩
  · rw [show isQ n = false by unfold isQ; simp [h1]]
    have h3 : decide (-1023 ≤ n) = false := by simpa using h1
    go_enter Try.func29, Try.ntmps29
    go_wp2
    go_ret
    exact ⟨rfl, Below.refl _ _⟩

set_option maxHeartbeats 400000 in
theorem isC_calls (n : Int) (w : World) : Calls Try.prog 37 #[.int .i64 n] w fun e w' => e = .returned (.bool (isC n)) ∧ Below w.heap.size w w' := by
  by_cases h1 : -2097152 ≤ n
  · by_cases h2 : n ≤ 2097152
    · rw [show isC n = true by unfold isC; simp [h1, h2]]
      go_enter Try.func37, Try.ntmps37
      go_wp2
      go_ret
      exact ⟨rfl, Below.refl _ _⟩
    · rw [show isC n = false by unfold isC; simp [h2]]
      have h3 : decide (n ≤ 2097152) = false := by simpa using h2
      go_enter Try.func37, Try.ntmps37
      go_wp2
      go_ret
      exact ⟨rfl, Below.refl _ _⟩
  · rw [show isC n = false by unfold isC; simp [h1]]
    have h3 : decide (-2097152 ≤ n) = false := by simpa using h1
    go_enter Try.func37, Try.ntmps37
    go_wp2
    go_ret
    exact ⟨rfl, Below.refl _ _⟩

set_option maxHeartbeats 400000 in
theorem isS_calls (n : Int) (w : World) : Calls Try.prog 33 #[.int .i64 n] w fun e w' => e = .returned (.bool (isS n)) ∧ Below w.heap.size w w' := by
  by_cases h1 : 0 ≤ n
  · by_cases h2 : n ≤ 95
    · rw [show isS n = true by unfold isS; simp [h1, h2]]
      go_enter Try.func33, Try.ntmps33
      go_wp2
      go_ret
      exact ⟨rfl, Below.refl _ _⟩
    · rw [show isS n = false by unfold isS; simp [h2]]
      have h3 : decide (n ≤ 95) = false := by simpa using h2
      go_enter Try.func33, Try.ntmps33
      go_wp2
      go_ret
      exact ⟨rfl, Below.refl _ _⟩
  · rw [show isS n = false by unfold isS; simp [h1]]
    have h3 : decide (0 ≤ n) = false := by simpa using h1
    go_enter Try.func33, Try.ntmps33
    go_wp2
    go_ret
    exact ⟨rfl, Below.refl _ _⟩

theorem isQ_bd {q : Int} (h : isQ q = true) : -1023 ≤ q ∧ q ≤ 1023 := by simpa [isQ] using h
theorem isC_bd {q : Int} (h : isC q = true) : -2097152 ≤ q ∧ q ≤ 2097152 := by simpa [isC] using h
theorem isS_bd {q : Int} (h : isS q = true) : 0 ≤ q ∧ q ≤ 95 := by simpa [isS] using h

set_option maxHeartbeats 400000 in
theorem Power_calls (q : Int) (w : World) :
    Calls Try.prog 11 #[.int .i64 q] w fun e w' => e = .returned (.tuple (if isQ q then #[.int .i64 (P (absI q)), .int .i64 0] else #[.int .i64 0, .int .i64 6])) ∧ Below w.heap.size w w' := by
  cases h : isQ q with
  | true =>
    obtain ⟨h1, h2⟩ := isQ_bd h
    go_enter Try.func11, Try.ntmps11
    go_wp2_with (first | (go_at_call 29; refine (isQ_calls _ _).mono ?_; rintro e w' ⟨rfl, hb1⟩) | (go_at_call 30; refine (power_calls _ _ h1 h2).mono ?_; rintro e w' ⟨rfl, hb⟩))
    go_ret2
    exact ⟨rfl, hb1.trans (hb.mono hb1.size)⟩
  | false =>
    go_enter Try.func11, Try.ntmps11
    go_wp2_with (first | (go_at_call 29; refine (isQ_calls _ _).mono ?_; rintro e w' ⟨rfl, hb1⟩))
    go_ret2
    exact ⟨rfl, hb1⟩

set_option maxHeartbeats 400000 in
theorem with_calls (s : Int) (w : World) (h0 : 0 ≤ s) (h1 : s ≤ 95) :
    Calls Try.prog 39 #[.int .i64 s] w fun e w' => e = .returned (.int .i64 (stepI s)) ∧ Below w.heap.size w w' := by
  go_enter Try.func39, Try.ntmps39
  go_wp2_with (go_at_call 61; refine (step_calls _ _ h0 h1).mono ?_; rintro e w' ⟨rfl, hb⟩)
  go_ret
  exact ⟨rfl, hb⟩

/-- A function of one number, with what was bound and what was captured. -/
def FnInt (g : Nat) (fs cs : Array Value) (w : World) (x r : Int) : Prop :=
  ∀ W, Below w.heap.size w W → Calls Try.prog g (fs ++ #[.int .i64 x] ++ cs) W fun e w' => e = .returned (.int .i64 r) ∧ Below W.heap.size W w'
def FnBool (g : Nat) (fs cs : Array Value) (w : World) (x : Int) (r : Bool) : Prop :=
  ∀ W, Below w.heap.size w W → Calls Try.prog g (fs ++ #[.int .i64 x] ++ cs) W fun e w' => e = .returned (.bool r) ∧ Below W.heap.size W w'
def Enters (g : Nat) : Prop := ∀ args w, (callFunc g args).run Try.prog w = .ok (.enter g args) w

set_option maxHeartbeats 400000 in
theorem signed_calls (g : Nat) (fs cs : Array Value) (n r : Int) (w : World) (eg : Enters g) (hn0 : -4611686018427387904 ≤ n) (hn1 : n ≤ 4611686018427387904) (hr0 : -4611686018427387904 ≤ r) (hr1 : r ≤ 4611686018427387904)
    (hf : FnInt g fs cs w (absI n) r) :
    Calls Try.prog 38 #[.int .i64 n, .func (.func g) fs cs] w fun e w' => e = .returned (.int .i64 (sg n r)) ∧ Below w.heap.size w w' := by
  have hc := hf w (Below.refl _ _)
  unfold Enters at eg
  by_cases hn : n < 0
  · rw [show absI n = -n by unfold absI; omega] at hc
    have HC := Aside0.mk hc
    clear hc hf
    go_enter Try.func38, Try.ntmps38
    go_wp2_with (go_at_fn g; refine HC.out.mono ?_; rintro e w' ⟨rfl, hb⟩)
    go_ret
    exact ⟨ret_int (by unfold sg; rw [if_pos hn]), hb⟩
  · rw [show absI n = n by unfold absI; omega] at hc
    have HC := Aside0.mk hc
    clear hc hf
    go_enter Try.func38, Try.ntmps38
    go_wp2_with (go_at_fn g; refine HC.out.mono ?_; rintro e w' ⟨rfl, hb⟩)
    go_ret
    exact ⟨ret_int (by unfold sg; rw [if_neg (by omega)]), hb⟩

end Go.Proofs.Ytglpdojccncjjaa.Q15
