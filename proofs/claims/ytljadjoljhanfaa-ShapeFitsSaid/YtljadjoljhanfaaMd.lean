/- The plain logarithm of layer 3: what Log returns, and that it never falls. -/
import Derived.Test.YtljadjoljhanfaaMa
import Derived.WalkKit
import Derived.WalkSpells
import Derived.WalkLawsBesides
import Derived.KernelRfl
import Derived.Deep.RegionHeld3
import Derived.Deep.LoopGhost
import Derived.Deep.AppendLies
import Derived.Laws.Rows
import Derived.Shelf.GgClosure.Gives
import Derived.Test.YtljadjoljhanfaaWWords
import Derived.Test.YtljadjoljhanfaaWLast
import Derived.Test.YtljadjoljhanfaaWMore
set_option linter.unusedVariables false
set_option linter.unusedSimpArgs false
namespace Go.Proofs.Ytljadjoljhanfaa.Q15

/-- The exponent: the greatest e with 2^e ≤ n. -/
def lg2 (n : Int) : Int := (Nat.log2 n.toNat : Nat)
/-- The mantissa in units of 2^-30. -/
def mant (n e : Int) : Int := if e ≤ 30 then n * 2 ^ (30 - e).toNat else n / 2 ^ (e - 30).toNat
/-- One bit of the fraction. -/
def lstep (m f : Int) : Int × Int := if m * m / 1073741824 ≥ 2147483648 then (m * m / 1073741824 / 2, 2 * f + 1) else (m * m / 1073741824, 2 * f)
def lsteps : Nat → Int → Int → Int × Int
  | 0, m, f => (m, f)
  | n + 1, m, f => lsteps n (lstep m f).1 (lstep m f).2
def logI (n : Int) : Int := 256 * lg2 n + (lsteps 8 (mant n (lg2 n)) 0).2

theorem lg2_spec {n : Int} (h : 1 ≤ n) : 0 ≤ lg2 n ∧ 2 ^ (lg2 n).toNat ≤ n ∧ n < 2 ^ ((lg2 n).toNat + 1) := by
  obtain ⟨k, rfl⟩ := Int.eq_ofNat_of_zero_le (show 0 ≤ n by omega)
  have hk : k ≠ 0 := by omega
  have h1 := (Nat.log2_lt hk (k := Nat.log2 k + 1)).1 (Nat.lt_succ_self _)
  have h2 := Nat.log2_self_le hk
  unfold lg2
  simp only [Int.toNat_natCast]
  exact ⟨by omega, by exact_mod_cast h2, by exact_mod_cast h1⟩
theorem pow_le_pow {a b : Nat} (h : a ≤ b) : (2 : Int) ^ a ≤ 2 ^ b := by
  have := Nat.pow_le_pow_right (n := 2) (by decide) h
  exact_mod_cast this
theorem pow_pos (a : Nat) : (0 : Int) < 2 ^ a := by
  have := Nat.pow_pos (n := a) (show 0 < 2 by decide)
  exact_mod_cast this
theorem lg2_eq {n e : Int} (h : 1 ≤ n) (h0 : 0 ≤ e) (h1 : 2 ^ e.toNat ≤ n) (h2 : n < 2 ^ (e.toNat + 1)) : e = lg2 n := by
  obtain ⟨g0, g1, g2⟩ := lg2_spec h
  rcases Int.lt_trichotomy e (lg2 n) with h3 | h3 | h3
  · have := pow_le_pow (show e.toNat + 1 ≤ (lg2 n).toNat by omega)
    omega
  · exact h3
  · have := pow_le_pow (show (lg2 n).toNat + 1 ≤ e.toNat by omega)
    omega
theorem lg2_mono {a b : Int} (h : 1 ≤ a) (hab : a ≤ b) : lg2 a ≤ lg2 b := by
  obtain ⟨g0, g1, g2⟩ := lg2_spec h
  obtain ⟨k0, k1, k2⟩ := lg2_spec (show 1 ≤ b by omega)
  rcases Int.lt_or_le (lg2 b) (lg2 a) with h3 | h3
  · have := pow_le_pow (show (lg2 b).toNat + 1 ≤ (lg2 a).toNat by omega)
    omega
  · exact h3
theorem mant_mono {a b e : Int} (h : a ≤ b) : mant a e ≤ mant b e := by
  unfold mant
  split
  · exact Int.mul_le_mul_of_nonneg_right h (Int.le_of_lt (pow_pos _))
  · exact Int.ediv_le_ediv (pow_pos _) h
theorem mant_bd {n e : Int} (h : 1 ≤ n) (he : e = lg2 n) : 1073741824 ≤ mant n e ∧ mant n e ≤ 2147483647 := by
  obtain ⟨g0, g1, g2⟩ := lg2_spec h
  rw [← he] at g0 g1 g2
  unfold mant
  split
  · rename_i h30
    have e1 : (2 : Int) ^ e.toNat * 2 ^ (30 - e).toNat = 1073741824 := by
      rw [← Int.pow_add, show e.toNat + (30 - e).toNat = 30 by omega]; rfl
    have e2 : (2 : Int) ^ (e.toNat + 1) * 2 ^ (30 - e).toNat = 2147483648 := by
      rw [← Int.pow_add, show e.toNat + 1 + (30 - e).toNat = 31 by omega]; rfl
    have a1 := Int.mul_le_mul_of_nonneg_right g1 (Int.le_of_lt (pow_pos (30 - e).toNat))
    have a2 := Int.mul_lt_mul_of_pos_right g2 (pow_pos (30 - e).toNat)
    omega
  · rename_i h30
    have e1 : (1073741824 : Int) * 2 ^ (e - 30).toNat = 2 ^ e.toNat := by
      rw [show (1073741824 : Int) = 2 ^ 30 from rfl, ← Int.pow_add, show 30 + (e - 30).toNat = e.toNat by omega]
    have e2 : (2147483648 : Int) * 2 ^ (e - 30).toNat = 2 ^ (e.toNat + 1) := by
      rw [show (2147483648 : Int) = 2 ^ 31 from rfl, ← Int.pow_add, show 31 + (e - 30).toNat = e.toNat + 1 by omega]
    have a1 := (Int.le_ediv_iff_mul_le (a := 1073741824) (b := n) (pow_pos (e - 30).toNat)).2 (by omega)
    have a2 := (Int.ediv_lt_iff_lt_mul (a := n) (b := 2147483648) (pow_pos (e - 30).toNat)).2 (by omega)
    omega
theorem sq_mono {a b : Int} (h0 : 0 ≤ a) (h : a ≤ b) : a * a ≤ b * b := (mul_bd h0 h h0 h).2
/-- The order in which a step is monotone: the bits that are known, then the mantissa. -/
def Lx (m f m' f' : Int) : Prop := f < f' ∨ f = f' ∧ m ≤ m'
theorem lstep_bd {m f : Int} (h0 : 0 ≤ m) : 0 ≤ (lstep m f).1 := by
  have := Int.mul_nonneg h0 h0
  unfold lstep
  split <;> simp only <;> omega
theorem lstep_lx {m f m' f' : Int} (h0 : 0 ≤ m) (h : Lx m f m' f') : Lx (lstep m f).1 (lstep m f).2 (lstep m' f').1 (lstep m' f').2 := by
  unfold Lx lstep at *
  rcases h with h | ⟨rfl, h⟩
  · left
    split <;> split <;> simp only <;> omega
  · have hs := sq_mono h0 h
    have hd : m * m / 1073741824 ≤ m' * m' / 1073741824 := Int.ediv_le_ediv (by decide) hs
    generalize m * m / 1073741824 = x at hd ⊢
    generalize m' * m' / 1073741824 = y at hd ⊢
    split <;> split
    · exact .inr ⟨rfl, by simp only; omega⟩
    · exfalso; omega
    · exact .inl (by simp only; omega)
    · exact .inr ⟨rfl, hd⟩
theorem lsteps_lx : ∀ (n : Nat) {m f m' f' : Int}, 0 ≤ m → 0 ≤ m' → Lx m f m' f' → Lx (lsteps n m f).1 (lsteps n m f).2 (lsteps n m' f').1 (lsteps n m' f').2
  | 0, _, _, _, _, _, _, h => h
  | n + 1, _, _, _, _, h0, h1, h => lsteps_lx n (lstep_bd h0) (lstep_bd h1) (lstep_lx h0 h)
theorem lsteps_bd : ∀ (n : Nat) {m f a : Int}, 0 ≤ f → f ≤ a → 0 ≤ (lsteps n m f).2 ∧ (lsteps n m f).2 ≤ 2 ^ n * (a + 1) - 1
  | 0, m, f, a, h0, h => by unfold lsteps; simp; omega
  | n + 1, m, f, a, h0, h => by
    have hf : 0 ≤ (lstep m f).2 ∧ (lstep m f).2 ≤ 2 * a + 1 := by
      unfold lstep
      split <;> simp only <;> omega
    have := lsteps_bd n (m := (lstep m f).1) hf.1 hf.2
    unfold lsteps
    rw [Int.pow_succ, Int.mul_assoc, show 2 * (a + 1) = 2 * a + 1 + 1 by omega]
    exact this
theorem frac_bd (m : Int) : 0 ≤ (lsteps 8 m 0).2 ∧ (lsteps 8 m 0).2 ≤ 255 := by
  have := lsteps_bd 8 (m := m) (f := 0) (a := 0) (by decide) (by decide)
  rw [show (2 : Int) ^ 8 * (0 + 1) - 1 = 255 by decide] at this
  exact this
/-- Logarithms never fall. -/
theorem logI_mono {a b : Int} (h : 1 ≤ a) (hab : a ≤ b) : logI a ≤ logI b := by
  have he := lg2_mono h hab
  unfold logI
  have f1 := frac_bd (mant a (lg2 a))
  have f2 := frac_bd (mant b (lg2 b))
  rcases Int.lt_or_eq_of_le he with h1 | h1
  · omega
  · have m1 := mant_bd h rfl
    have m2 := mant_bd (show 1 ≤ b by omega) rfl
    rw [h1] at m1 f1 ⊢
    have := lsteps_lx 8 (m := mant a (lg2 b)) (m' := mant b (lg2 b)) (f := 0) (f' := 0) (by omega) (by omega) (.inr ⟨rfl, mant_mono hab⟩)
    unfold Lx at this
    omega
theorem logI_bd {n : Int} (h : 1 ≤ n) (h1 : n ≤ 4611686018427387904) : 0 ≤ logI n ∧ logI n ≤ 16127 := by
  obtain ⟨g0, g1, g2⟩ := lg2_spec h
  have hl : lg2 n ≤ 62 := by
    rcases Int.lt_or_le 62 (lg2 n) with h2 | h2
    · have := pow_le_pow (show 63 ≤ (lg2 n).toNat by omega)
      rw [show (2 : Int) ^ 63 = 9223372036854775808 by decide] at this
      omega
    · exact h2
  have := frac_bd (mant n (lg2 n))
  unfold logI
  omega

end Go.Proofs.Ytljadjoljhanfaa.Q15
/- What fixed.Log and the reference's Level return. -/
namespace Go.Proofs.Ytljadjoljhanfaa.Q15
open Go.RowKit Go.Proofs.YtljadjoljhanfaaW.PrintWords Go.Proofs.YtljadjoljhanfaaW.PrintLast Go.Proofs.YtljadjoljhanfaaW.PrintMore
attribute [local go_sem] max2_int min2_int max_two min_two max_three min_three

set_option maxHeartbeats 400000 in
theorem greatestL_calls (g : Nat) (fs cs : Array Value) (p : Int → Bool) (lo hi : Int) (w : World) (eg : Enters g) (h0 : 0 ≤ lo) (h1 : lo ≤ hi) (h2 : hi ≤ 1099511627776)
    (hp : ∀ x, lo < x → x ≤ hi → FnBool g fs cs w x (p x)) :
    Calls Try.prog 112 #[.int .i64 lo, .int .i64 hi, .func (.func g) fs cs] w fun e w' => (∃ r : Int, e = .returned (.int .i64 r) ∧ lo ≤ r ∧ r ≤ hi ∧ (r = lo ∨ p r = true) ∧ (r = hi ∨ p (r + 1) = false)) ∧ Below w.heap.size w w' := by
  have HP := Aside0.mk hp
  clear hp
  unfold Enters at eg
  go_enter Try.func112, Try.ntmps112
  go_wp2
  go_loopw [0, 1] (fun a b wr => ∃ l h : Int, a = .int .i64 l ∧ b = .int .i64 h ∧ lo ≤ l ∧ l ≤ h ∧ h ≤ hi ∧ Aside0 (l = lo ∨ p l = true) ∧ Aside0 (h = hi ∨ p (h + 1) = false) ∧ Below w.heap.size w wr) (fun a b _ => (intOf b - intOf a).toNat)
  case atStart => exact ⟨lo, hi, rfl, rfl, by omega, h1, by omega, ⟨.inl rfl⟩, ⟨.inl rfl⟩, Below.refl _ _⟩
  case round =>
    obtain ⟨l, h, rfl, rfl, a1, a2, a3, a4, a5, hb⟩ := hrel
    by_cases hlt : l < h
    · have hmid : l < l + (h - l + 1) / 2 ∧ l + (h - l + 1) / 2 ≤ h := by omega
      have hc := HP.out (l + (h - l + 1) / 2) (by omega) (by omega) wr hb
      cases hpm : p (l + (h - l + 1) / 2) with
      | true =>
        rw [hpm] at hc
        have HC := Aside0.mk hc
        have hpm := Aside0.mk hpm
        clear hc
        go_wp2_with (go_at_fn g; refine HC.out.mono ?_; rintro e w' ⟨rfl, hb1⟩)
        go_roundw
        case rel => exact ⟨l + (h - l + 1) / 2, h, rfl, rfl, by omega, hmid.2, a3, ⟨.inr hpm.out⟩, a5, hb.trans (hb1.mono hb.size)⟩
        case measure => simp [intOf]; omega
      | false =>
        rw [hpm] at hc
        have HC := Aside0.mk hc
        have hpm := Aside0.mk hpm
        clear hc
        go_wp2_with (go_at_fn g; refine HC.out.mono ?_; rintro e w' ⟨rfl, hb1⟩)
        go_roundw
        case rel => exact ⟨l, l + (h - l + 1) / 2 - 1, rfl, rfl, by omega, by omega, by omega, a4, ⟨.inr (by rw [show l + (h - l + 1) / 2 - 1 + 1 = l + (h - l + 1) / 2 by omega]; exact hpm.out)⟩, hb.trans (hb1.mono hb.size)⟩
        case measure => simp [intOf]; omega
    · obtain rfl : l = h := by omega
      go_wp2
      go_ret
      exact ⟨⟨l, rfl, a1, a3, a4.out, a5.out⟩, hb⟩

set_option maxHeartbeats 400000 in
theorem log1_calls (e n : Int) (B : Nat) (w : World) (hc : w.cell? ⟨B, 0, none⟩ = some (.int .i64 n)) (h0 : 0 ≤ e) (h1 : e ≤ 62) :
    Calls Try.prog 113 #[.int .i64 e, .pointer (some ⟨B, 0, none⟩)] w fun x w' => x = .returned (.bool (decide (2 ^ e.toNat ≤ n))) ∧ Below w.heap.size w w' := by
  have hb := Below.refl w.heap.size w
  have l1 := World.block_lt_of_cell? w _ hc
  go_enter Try.func113, Try.ntmps113
  go_wp2
  go_ret
  have := Int.le_ediv_iff_mul_le (a := 1) (b := n) (pow_pos e.toNat)
  rw [Int.one_mul] at this
  have hE : decide (0 < n / 2 ^ e.toNat) = decide (2 ^ e.toNat ≤ n) := decide_eq_decide.2 (by omega)
  refine ⟨?_, hb⟩
  show Ending.returned (Value.bool (decide (0 < n / 2 ^ e.toNat))) = _
  rw [hE]
theorem fn_log1 (B : Nat) (n x : Int) (W : World) (hc : W.cell? ⟨B, 0, none⟩ = some (.int .i64 n)) (h0 : 0 ≤ x) (h1 : x ≤ 62) : FnBool 113 #[] #[.pointer (some ⟨B, 0, none⟩)] W x (decide (2 ^ x.toNat ≤ n)) := fun W' hb => log1_calls x n B W' (cnx hc hb) h0 h1
theorem lg2_of {n e : Int} (h : 1 ≤ n) (h9 : n ≤ 4611686018427387904) (h0 : 0 ≤ e) (h1 : e ≤ 62) (h2 : e = 0 ∨ decide (2 ^ e.toNat ≤ n) = true) (h3 : e = 62 ∨ decide (2 ^ (e + 1).toNat ≤ n) = false) : e = lg2 n := by
  refine lg2_eq h h0 ?_ ?_
  · rcases h2 with rfl | h2
    · simpa using h
    · simpa using h2
  · rcases h3 with rfl | h3
    · rw [show (2 : Int) ^ ((62 : Int).toNat + 1) = 9223372036854775808 by decide]; omega
    · rw [show e.toNat + 1 = (e + 1).toNat by omega]
      simpa using h3
theorem mant_low {n e : Int} (h0 : 0 ≤ e) (h : e ≤ 30) : n * 1073741824 / 2 ^ e.toNat = mant n e := by
  unfold mant
  rw [if_pos h, show (1073741824 : Int) = 2 ^ (30 - e).toNat * 2 ^ e.toNat by rw [← Int.pow_add, show (30 - e).toNat + e.toNat = 30 by omega]; rfl, ← Int.mul_assoc]
  exact Int.mul_ediv_cancel _ (by have := pow_pos e.toNat; omega)
theorem enters_log1 : Enters 113 := enters_of Try.func113 (by kernel_rfl) rfl

theorem mant_ge {n e : Int} (h0 : 1 ≤ n) (h : e ≤ 30) : n ≤ mant n e := by
  unfold mant
  rw [if_pos h]
  have := Int.mul_le_mul_of_nonneg_left (show (1 : Int) ≤ 2 ^ (30 - e).toNat by have := pow_pos (30 - e).toNat; omega) (show 0 ≤ n by omega)
  omega
theorem mant_high {n e : Int} (h : ¬ e ≤ 30) : n / 2 ^ (e - 30).toNat = mant n e := by unfold mant; rw [if_neg h]

theorem log_f {k : Nat} {f : Int} (hk : k < 8) (h : f ≤ 2 ^ k - 1) : f ≤ 127 ∧ 2 * f ≤ 2 ^ (k + 1) - 1 ∧ 2 * f + 1 ≤ 2 ^ (k + 1) - 1 := by
  have := pow_le_pow (show k ≤ 7 by omega)
  rw [Int.pow_succ]
  rw [show (2 : Int) ^ 7 = 128 by decide] at this
  omega
theorem log_s {k : Nat} {m f r : Int} (hk : k < 8) (h : (lsteps (8 - k) m f).2 = r) :
    (2147483648 ≤ m * m / 1073741824 → (lsteps (8 - (k + 1)) (m * m / 1073741824 / 2) (2 * f + 1)).2 = r) ∧ (¬ 2147483648 ≤ m * m / 1073741824 → (lsteps (8 - (k + 1)) (m * m / 1073741824) (2 * f)).2 = r) := by
  rw [show 8 - k = 8 - (k + 1) + 1 by omega] at h
  unfold lsteps lstep at h
  refine ⟨fun hq => ?_, fun hq => ?_⟩
  · rw [if_pos hq] at h; exact h
  · rw [if_neg hq] at h; exact h

set_option maxRecDepth 100000 in
set_option maxHeartbeats 1000000 in
theorem Log_calls (n : Int) (w : World) (h0 : 1 ≤ n) (h1 : n ≤ 4611686018427387904) :
    Calls Try.prog 108 #[.int .i64 n] w fun e w' => e = .returned (.tuple #[.int .i64 (logI n), .int .i64 0]) ∧ Below w.heap.size w w' := by
  have hb := Below.refl w.heap.size w
  go_enter Try.func108, Try.ntmps108
  go_wp2_with fail
  obtain ⟨W, hW⟩ : ∃ W, W = w.alloc (.cells #[.int .i64 n] 3) := ⟨_, rfl⟩
  rw [← hW]
  have hcell : W.cell? ⟨w.heap.size, 0, none⟩ = some (.int .i64 n) := by rw [hW]; go_simp
  replace hb : Below w.heap.size w W := by rw [hW]; exact hb.alloc hb.size _
  clear hW
  refine (greatestL_calls 113 #[] #[.pointer (some ⟨w.heap.size, 0, none⟩)] (fun e => decide (2 ^ e.toNat ≤ n)) 0 62 W enters_log1 (by decide) (by decide) (by decide) (fun x x0 x1 => fn_log1 _ n x W hcell (by omega) x1)).mono ?_
  rintro _ w1 ⟨⟨e, rfl, e0, e1, e2, e3⟩, hbn⟩
  have he := lg2_of h0 h1 e0 e1 e2 e3
  have hm := mant_bd h0 he
  have HE := Aside0.mk he
  replace hcell := cnx hcell hbn
  replace hb := bnx hb hbn
  clear hbn e2 e3 he
  by_cases h30 : e ≤ 30
  · have hn := mant_ge h0 h30
    have hml := mant_low (n := n) e0 h30
    go_wp2_with fail
    go_loopw [5, 6, 25] (fun a b i wr => ∃ (k : Nat) (m f : Int), i = .int .i64 k ∧ a = .int .i64 m ∧ b = .int .i64 f ∧ k ≤ 8 ∧ 1073741824 ≤ m ∧ m ≤ 2147483647 ∧ 0 ≤ f ∧ f ≤ 255 ∧ Aside0 (f ≤ 2 ^ k - 1) ∧ Aside0 ((lsteps (8 - k) m f).2 = (lsteps 8 (mant n e) 0).2) ∧ Below w.heap.size w wr) (fun _ _ i _ => 8 - (intOf i).toNat)
    case atStart => exact ⟨0, _, 0, rfl, rfl, rfl, by omega, hm.1, hm.2, by omega, by omega, ⟨by simp⟩, ⟨rfl⟩, hb⟩
    case round =>
      obtain ⟨k, m, f, rfl, rfl, rfl, hk, m0, m1, f0, f1, hf, hst, hbr⟩ := hrel
      clear hb
      have hb := hbr
      clear hbr
      by_cases hlt : k < 8
      · obtain ⟨f2, HF1, HF2⟩ := log_f hlt hf.out
        have HS := log_s hlt hst.out
        have hmm := mul_bd (a := m) (b := m) (A := 2147483647) (B := 2147483647) (by omega) m1 (by omega) m1
        have hmm2 := sq_mono (a := 1073741824) (b := m) (by decide) m0
        clear hf hst
        by_cases hq : 2147483648 ≤ m * m / 1073741824
        · replace HS := Aside0.mk (HS.1 hq)
          replace HF1 := Aside0.mk HF1
          replace HF2 := Aside0.mk HF2
          go_wp2
          go_roundw
          case rel => exact ⟨k + 1, _, _, by go_num, rfl, rfl, by omega, by omega, by omega, by omega, by omega, HF2, HS, hb⟩
          case measure => simp [intOf]; omega
        · replace HS := Aside0.mk (HS.2 hq)
          replace HF1 := Aside0.mk HF1
          replace HF2 := Aside0.mk HF2
          go_wp2
          go_roundw
          case rel => exact ⟨k + 1, _, _, by go_num, rfl, rfl, by omega, by omega, by omega, by omega, by omega, HF1, HS, hb⟩
          case measure => simp [intOf]; omega
      · obtain rfl : k = 8 := by omega
        have hE : 256 * e + f = logI n := by
          have h2 := hst.out
          rw [Nat.sub_self] at h2
          unfold logI
          rw [← HE.out, ← h2]
          rfl
        replace hE := Aside0.mk hE
        go_wp2
        go_ret2
        exact ⟨by rw [← hE.out]; rfl, hb⟩
  · have hmh := mant_high (n := n) h30
    go_wp2_with fail
    go_loopw [5, 6, 25] (fun a b i wr => ∃ (k : Nat) (m f : Int), i = .int .i64 k ∧ a = .int .i64 m ∧ b = .int .i64 f ∧ k ≤ 8 ∧ 1073741824 ≤ m ∧ m ≤ 2147483647 ∧ 0 ≤ f ∧ f ≤ 255 ∧ Aside0 (f ≤ 2 ^ k - 1) ∧ Aside0 ((lsteps (8 - k) m f).2 = (lsteps 8 (mant n e) 0).2) ∧ Below w.heap.size w wr) (fun _ _ i _ => 8 - (intOf i).toNat)
    case atStart => exact ⟨0, _, 0, rfl, rfl, rfl, by omega, hm.1, hm.2, by omega, by omega, ⟨by simp⟩, ⟨rfl⟩, hb⟩
    case round =>
      obtain ⟨k, m, f, rfl, rfl, rfl, hk, m0, m1, f0, f1, hf, hst, hbr⟩ := hrel
      clear hb
      have hb := hbr
      clear hbr
      by_cases hlt : k < 8
      · obtain ⟨f2, HF1, HF2⟩ := log_f hlt hf.out
        have HS := log_s hlt hst.out
        have hmm := mul_bd (a := m) (b := m) (A := 2147483647) (B := 2147483647) (by omega) m1 (by omega) m1
        have hmm2 := sq_mono (a := 1073741824) (b := m) (by decide) m0
        clear hf hst
        by_cases hq : 2147483648 ≤ m * m / 1073741824
        · replace HS := Aside0.mk (HS.1 hq)
          replace HF1 := Aside0.mk HF1
          replace HF2 := Aside0.mk HF2
          go_wp2
          go_roundw
          case rel => exact ⟨k + 1, _, _, by go_num, rfl, rfl, by omega, by omega, by omega, by omega, by omega, HF2, HS, hb⟩
          case measure => simp [intOf]; omega
        · replace HS := Aside0.mk (HS.2 hq)
          replace HF1 := Aside0.mk HF1
          replace HF2 := Aside0.mk HF2
          go_wp2
          go_roundw
          case rel => exact ⟨k + 1, _, _, by go_num, rfl, rfl, by omega, by omega, by omega, by omega, by omega, HF1, HS, hb⟩
          case measure => simp [intOf]; omega
      · obtain rfl : k = 8 := by omega
        have hE : 256 * e + f = logI n := by
          have h2 := hst.out
          rw [Nat.sub_self] at h2
          unfold logI
          rw [← HE.out, ← h2]
          rfl
        replace hE := Aside0.mk hE
        go_wp2
        go_ret2
        exact ⟨by rw [← hE.out]; rfl, hb⟩

end Go.Proofs.Ytljadjoljhanfaa.Q15
/- What the reference's logarithm returns. -/
namespace Go.Proofs.Ytljadjoljhanfaa.Q15
open Go.RowKit Go.Proofs.YtljadjoljhanfaaW.PrintWords Go.Proofs.YtljadjoljhanfaaW.PrintLast Go.Proofs.YtljadjoljhanfaaW.PrintMore
attribute [local go_sem] max2_int min2_int max_two min_two max_three min_three

theorem lg2_gt {n : Int} {e : Int} (h : 1 ≤ n) (h0 : 0 ≤ e) : 1 < n / 2 ^ e.toNat ↔ e < lg2 n := by
  obtain ⟨g0, g1, g2⟩ := lg2_spec h
  have h2 := Int.le_ediv_iff_mul_le (a := 2) (b := n) (pow_pos e.toNat)
  have h3 : (2 : Int) * 2 ^ e.toNat = 2 ^ (e.toNat + 1) := by rw [Int.pow_succ, Int.mul_comm]
  rw [h3] at h2
  constructor
  · intro h4
    have h5 := h2.1 (by omega)
    rcases Int.lt_or_le e (lg2 n) with h6 | h6
    · exact h6
    · have := pow_le_pow (show (lg2 n).toNat + 1 ≤ e.toNat + 1 by omega)
      omega
  · intro h4
    have := pow_le_pow (show e.toNat + 1 ≤ (lg2 n).toNat by omega)
    have := h2.2 (by omega)
    omega
theorem lg2_le {n : Int} (h : 1 ≤ n) (h1 : n ≤ 4611686018427387904) : lg2 n ≤ 62 := by
  obtain ⟨g0, g1, g2⟩ := lg2_spec h
  rcases Int.lt_or_le 62 (lg2 n) with h2 | h2
  · have := pow_le_pow (show 63 ≤ (lg2 n).toNat by omega)
    rw [show (2 : Int) ^ 63 = 9223372036854775808 by decide] at this
    omega
  · exact h2
theorem mant_shl {n e : Int} (h : e ≤ 30) : n * 2 ^ (30 - e).toNat = mant n e := by unfold mant; rw [if_pos h]

set_option maxRecDepth 100000 in
set_option maxHeartbeats 1000000 in
theorem rLog_calls (n : Int) (w : World) (h0 : 1 ≤ n) (h1 : n ≤ 4611686018427387904) :
    Calls Try.prog 109 #[.int .i64 n] w fun e w' => e = .returned (.tuple #[.int .i64 (logI n), .int .i64 0]) ∧ Below w.heap.size w w' := by
  have hb := Below.refl w.heap.size w
  have hl := lg2_le h0 h1
  have hl0 := (lg2_spec h0).1
  have HG := Aside0.mk (fun (e : Int) (he : 0 ≤ e) => lg2_gt (n := n) (e := e) h0 he)
  obtain ⟨L, hL⟩ : ∃ L, L = lg2 n := ⟨_, rfl⟩
  rw [← hL] at hl hl0 HG
  replace hL := Aside0.mk hL
  go_enter Try.func109, Try.ntmps109
  go_wp2_with fail
  go_loopw [4] (fun a wr => ∃ e : Int, a = .int .i64 e ∧ 0 ≤ e ∧ e ≤ L ∧ Below w.heap.size w wr) (fun a _ => (L - intOf a).toNat)
  case atStart => exact ⟨0, rfl, by omega, by omega, hb⟩
  case round =>
    obtain ⟨e, rfl, e0, e1, hbr⟩ := hrel
    clear hb
    have hb := hbr
    clear hbr
    by_cases hlt : e < L
    · have hgt := (HG.out e e0).2 hlt
      go_wp2
      go_roundw
      case rel => exact ⟨e + 1, by go_num, by omega, by omega, hb⟩
      case measure => simp [intOf]; omega
    · obtain rfl : L = e := by omega
      have hgt : decide (1 < n / 2 ^ L.toNat) = false := decide_eq_false (fun h => hlt ((HG.out L e0).1 h))
      have hm := mant_bd h0 hL.out
      by_cases h30 : L ≤ 30
      · have hn := mant_ge h0 h30
        have hml := mant_shl (n := n) h30
        go_wp2_with fail
        go_loopw [5, 6, 29] (fun a b i wr => ∃ (k : Nat) (m f : Int), i = .int .i64 k ∧ a = .int .i64 m ∧ b = .int .i64 f ∧ k ≤ 8 ∧ 1073741824 ≤ m ∧ m ≤ 2147483647 ∧ 0 ≤ f ∧ f ≤ 255 ∧ Aside0 (f ≤ 2 ^ k - 1) ∧ Aside0 ((lsteps (8 - k) m f).2 = (lsteps 8 (mant n L) 0).2) ∧ Below w.heap.size w wr) (fun _ _ i _ => 8 - (intOf i).toNat)
        case atStart => exact ⟨0, _, 0, rfl, rfl, rfl, by omega, hm.1, hm.2, by omega, by omega, ⟨by simp⟩, ⟨rfl⟩, hb⟩
        case round =>
          obtain ⟨k, m, f, rfl, rfl, rfl, hk, m0, m1, f0, f1, hf, hst, hbr⟩ := hrel
          clear hb
          have hb := hbr
          clear hbr
          by_cases hlt : k < 8
          · obtain ⟨f2, HF1, HF2⟩ := log_f hlt hf.out
            have HS := log_s hlt hst.out
            have hmm := mul_bd (a := m) (b := m) (A := 2147483647) (B := 2147483647) (by omega) m1 (by omega) m1
            have hmm2 := sq_mono (a := 1073741824) (b := m) (by decide) m0
            rw [Int.mul_comm 2 f] at HF1 HF2 HS
            clear hf hst
            by_cases hq : 2147483648 ≤ m * m / 1073741824
            · replace HS := Aside0.mk (HS.1 hq)
              replace HF1 := Aside0.mk HF1
              replace HF2 := Aside0.mk HF2
              go_wp2
              go_roundw
              case rel => exact ⟨k + 1, _, _, by go_num, rfl, rfl, by omega, by omega, by omega, by omega, by omega, HF2, HS, hb⟩
              case measure => simp [intOf]; omega
            · replace HS := Aside0.mk (HS.2 hq)
              replace HF1 := Aside0.mk HF1
              replace HF2 := Aside0.mk HF2
              go_wp2
              go_roundw
              case rel => exact ⟨k + 1, _, _, by go_num, rfl, rfl, by omega, by omega, by omega, by omega, by omega, HF1, HS, hb⟩
              case measure => simp [intOf]; omega
          · obtain rfl : k = 8 := by omega
            have hE : 256 * L + f = logI n := by
              have h2 := hst.out
              rw [Nat.sub_self] at h2
              unfold logI
              rw [← hL.out, ← h2]
              rfl
            replace hE := Aside0.mk hE
            go_wp2
            go_ret2
            exact ⟨by rw [← hE.out]; rfl, hb⟩
      · have hmh := mant_high (n := n) h30
        go_wp2_with fail
        go_loopw [5, 6, 29] (fun a b i wr => ∃ (k : Nat) (m f : Int), i = .int .i64 k ∧ a = .int .i64 m ∧ b = .int .i64 f ∧ k ≤ 8 ∧ 1073741824 ≤ m ∧ m ≤ 2147483647 ∧ 0 ≤ f ∧ f ≤ 255 ∧ Aside0 (f ≤ 2 ^ k - 1) ∧ Aside0 ((lsteps (8 - k) m f).2 = (lsteps 8 (mant n L) 0).2) ∧ Below w.heap.size w wr) (fun _ _ i _ => 8 - (intOf i).toNat)
        case atStart => exact ⟨0, _, 0, rfl, rfl, rfl, by omega, hm.1, hm.2, by omega, by omega, ⟨by simp⟩, ⟨rfl⟩, hb⟩
        case round =>
          obtain ⟨k, m, f, rfl, rfl, rfl, hk, m0, m1, f0, f1, hf, hst, hbr⟩ := hrel
          clear hb
          have hb := hbr
          clear hbr
          by_cases hlt : k < 8
          · obtain ⟨f2, HF1, HF2⟩ := log_f hlt hf.out
            have HS := log_s hlt hst.out
            have hmm := mul_bd (a := m) (b := m) (A := 2147483647) (B := 2147483647) (by omega) m1 (by omega) m1
            have hmm2 := sq_mono (a := 1073741824) (b := m) (by decide) m0
            rw [Int.mul_comm 2 f] at HF1 HF2 HS
            clear hf hst
            by_cases hq : 2147483648 ≤ m * m / 1073741824
            · replace HS := Aside0.mk (HS.1 hq)
              replace HF1 := Aside0.mk HF1
              replace HF2 := Aside0.mk HF2
              go_wp2
              go_roundw
              case rel => exact ⟨k + 1, _, _, by go_num, rfl, rfl, by omega, by omega, by omega, by omega, by omega, HF2, HS, hb⟩
              case measure => simp [intOf]; omega
            · replace HS := Aside0.mk (HS.2 hq)
              replace HF1 := Aside0.mk HF1
              replace HF2 := Aside0.mk HF2
              go_wp2
              go_roundw
              case rel => exact ⟨k + 1, _, _, by go_num, rfl, rfl, by omega, by omega, by omega, by omega, by omega, HF1, HS, hb⟩
              case measure => simp [intOf]; omega
          · obtain rfl : k = 8 := by omega
            have hE : 256 * L + f = logI n := by
              have h2 := hst.out
              rw [Nat.sub_self] at h2
              unfold logI
              rw [← hL.out, ← h2]
              rfl
            replace hE := Aside0.mk hE
            go_wp2
            go_ret2
            exact ⟨by rw [← hE.out]; rfl, hb⟩

theorem Level_calls (n : Int) (w : World) (h0 : 1 ≤ n) (h1 : n ≤ 4611686018427387904) :
    Calls Try.prog 90 #[.int .i64 n] w fun e w' => e = .returned (.int .i64 (logI n)) ∧ Below w.heap.size w w' := by
  have HC := fun w => rLog_calls n w h0 h1
  have hl := logI_bd h0 h1
  obtain ⟨L, hL⟩ : ∃ L, L = logI n := ⟨_, rfl⟩
  rw [← hL] at HC hl ⊢
  replace HC := Aside0.mk HC
  clear hL
  have hb := Below.refl w.heap.size w
  go_enter Try.func90, Try.ntmps90
  go_wp2_with (first | (go_at_call 109; refine (HC.out _).mono ?_; rintro e w' ⟨rfl, hbn⟩; replace hb := bnx hb hbn; clear hbn))
  go_ret
  exact ⟨rfl, hb⟩

end Go.Proofs.Ytljadjoljhanfaa.Q15
/- What package shape's small functions return: widths, ranges, the form of lists. -/
namespace Go.Proofs.Ytljadjoljhanfaa.Q16
open Go.RowKit Go.Proofs.YtljadjoljhanfaaW.PrintWords Go.Proofs.YtljadjoljhanfaaW.PrintLast Go.Proofs.YtljadjoljhanfaaW.PrintMore
attribute [local go_sem] max2_int min2_int max_two min_two max_three min_three
open Go.Proofs.Ytljadjoljhanfaa.Q15

/-- Widths of bands. -/
def isW (l : List Int) : Bool := l.all (fun w => decide (1 ≤ w)) && decide (l.sum = 128) && decide (l.length ≤ 32)
/-- All numbers are from low to high. -/
def rng (low high : Int) (l : List Int) : Bool := l.all fun n => decide (low ≤ n ∧ n ≤ high)
/-- The error of the lengths of lists. -/
def formE (n : Nat) (ws : List Int) (ls : List Nat) : Int := if isW ws then if n = 128 then if ls.all (fun m => decide (m = ws.length)) then 0 else 4 else 4 else 1
/-- A row of slices: their lengths. -/
def Lens (w : World) (B : Nat) (ls : List Nat) : Prop := ∀ j n, ls[j]? = some n → ∃ A c, w.cell? ⟨B, j, none⟩ = some (.slice A n c)
theorem Lens.below {w w1 : World} {B : Nat} {ls : List Nat} (h : Lens w B ls) (hb : Below w.heap.size w w1) : Lens w1 B ls := fun j n hj => by
  obtain ⟨A, c, hc⟩ := h j n hj
  exact ⟨A, c, cnx hc hb⟩

theorem sum_pos : ∀ {l : List Int}, (∀ x ∈ l, 1 ≤ x) → (l.length : Int) ≤ l.sum
  | [], _ => by simp
  | a :: t, h => by
    have h1 := h a (by simp)
    have h2 := sum_pos (l := t) (fun x hx => h x (by simp [hx]))
    simp only [List.sum_cons, List.length_cons]
    omega
theorem isW_iff {l : List Int} : isW l = true ↔ (∀ x ∈ l, 1 ≤ x) ∧ l.sum = 128 ∧ l.length ≤ 32 := by
  unfold isW
  simp [List.all_eq_true, and_assoc]
theorem sum_take_le {l : List Int} (h : ∀ x ∈ l, 1 ≤ x) (k : Nat) : (l.take k).sum ≤ l.sum := by
  have h1 : (l.take k).sum + (l.drop k).sum = l.sum := by rw [← List.sum_append, List.take_append_drop]
  have h2 := sum_pos (l := l.drop k) (fun x hx => h x (List.mem_of_mem_drop hx))
  omega
/-- A width is below 1, or above what is left: they are no widths. -/
theorem isW_not {l : List Int} {k : Nat} (hk : k < l.length) (h : rd l k < 1 ∨ 128 - (l.take k).sum < rd l k) : isW l = false := by
  rw [← Bool.not_eq_true]
  intro hw
  obtain ⟨h1, h2, h3⟩ := isW_iff.1 hw
  have h4 := h1 _ (rd_mem l k hk)
  have h5 := sum_take_le h1 (k + 1)
  rw [take_rd l k hk, List.sum_append] at h5
  simp only [List.sum_cons, List.sum_nil] at h5
  omega
theorem isW_all {l : List Int} (h : ∀ x ∈ l, 1 ≤ x) : isW l = (decide (1 ≤ l.length) && decide (l.length ≤ 32) && decide (128 - l.sum = 0)) := by
  have h1 : l.all (fun w => decide (1 ≤ w)) = true := by rw [List.all_eq_true]; intro x hx; exact decide_eq_true (h x hx)
  unfold isW
  rw [h1, Bool.true_and]
  cases l with
  | nil => decide
  | cons a t =>
    rw [decide_eq_true (show 1 ≤ (a :: t).length by simp), Bool.true_and, Bool.and_comm]
    congr 1
    exact decide_eq_decide.2 (by omega)

set_option maxHeartbeats 1000000 in
theorem isWidths_calls (A : Option Addr) (cap : Nat) (l : List Int) (w : World) (hr : (Kd.int .i64).C w A l.length l) (hl : l.length ≤ 1099511627776) :
    Calls Try.prog 60 #[.slice A l.length cap] w fun e w' => e = .returned (.bool (isW l)) ∧ Below w.heap.size w w' := by
  have HR := Aside0.mk hr
  clear hr
  go_enter Try.func60, Try.ntmps60
  go_wp2
  go_loopw [3, 8] (fun s i wr => ∃ (k : Nat) (z : Int), i = .int .i64 k ∧ s = .int .i64 z ∧ k ≤ l.length ∧ 0 ≤ z ∧ z ≤ 128 ∧ Aside0 (z = 128 - (l.take k).sum) ∧ Aside0 (∀ x ∈ l.take k, 1 ≤ x) ∧ Below w.heap.size w wr) (fun _ i _ => l.length - (intOf i).toNat)
  case atStart => exact ⟨0, 128, rfl, rfl, by omega, by omega, by omega, ⟨by simp⟩, ⟨by simp⟩, Below.refl _ _⟩
  case round =>
    obtain ⟨k, z, rfl, rfl, hk, hz0, hz1, hn, ha, hb⟩ := hrel
    by_cases hlt : k < l.length
    · obtain ⟨ad, rfl, hcell⟩ := el_at HR.out hb hlt
      have hno := isW_not hlt
      have hT := take_rd l k hlt
      rw [← hn.out] at hno
      obtain ⟨n, hx⟩ : ∃ n, n = rd l k := ⟨_, rfl⟩
      rw [← hx] at hcell hno hT
      replace hno := Aside0.mk hno
      replace hT := Aside0.mk hT
      clear hx
      by_cases h1 : n < 1
      · go_wp2
        go_ret
        exact ⟨by rw [hno.out (.inl h1)]; rfl, hb⟩
      · by_cases h2 : z < n
        · go_wp2
          go_ret
          exact ⟨by rw [hno.out (.inr h2)]; rfl, hb⟩
        · go_wp2
          go_roundw
          case rel => exact ⟨k + 1, z - n, by go_num, rfl, by omega, by omega, by omega, ⟨by rw [hT.out, List.sum_append, hn.out]; simp; omega⟩, ⟨by
            rw [hT.out]
            intro x hx
            rcases List.mem_append.1 hx with hx | hx
            · exact ha.out x hx
            · rw [List.mem_singleton.1 hx]; omega⟩, hb⟩
          case measure => simp [intOf]; omega
    · obtain rfl : k = l.length := by omega
      have hA := ha.out
      have hN := hn.out
      rw [List.take_length] at hA hN
      have hW := isW_all hA
      rw [← hN] at hW
      replace hW := Aside0.mk hW
      clear ha hn hA hN
      by_cases g1 : 1 ≤ l.length
      · by_cases g2 : l.length ≤ 32
        · have g1' : decide ((1 : Int) ≤ (l.length : Int)) = true := by simp; omega
          have g2' : decide ((l.length : Int) ≤ (32 : Int)) = true := by simp; omega
          rw [decide_eq_true g1, decide_eq_true g2, Bool.true_and, Bool.true_and] at hW
          clear g1 g2
          go_wp2
          go_ret
          exact ⟨by rw [hW.out]; rfl, hb⟩
        · have g1' : decide ((1 : Int) ≤ (l.length : Int)) = true := by simp; omega
          have g2' : decide ((l.length : Int) ≤ (32 : Int)) = false := by simp; omega
          rw [decide_eq_false g2, Bool.and_false, Bool.false_and] at hW
          clear g1 g2
          go_wp2
          go_ret
          exact ⟨by rw [hW.out]; rfl, hb⟩
      · have g1' : decide ((1 : Int) ≤ (l.length : Int)) = false := by simp; omega
        rw [decide_eq_false g1, Bool.false_and, Bool.false_and] at hW
        clear g1
        go_wp2
        go_ret
        exact ⟨by rw [hW.out]; rfl, hb⟩

theorem rng_not {low high : Int} {l : List Int} {k : Nat} (hk : k < l.length) (h : rd l k < low ∨ high < rd l k) : rng low high l = false := by
  rw [← Bool.not_eq_true]
  intro hw
  have := List.all_eq_true.1 hw _ (rd_mem l k hk)
  simp only [decide_eq_true_eq] at this
  omega
set_option maxHeartbeats 1000000 in
theorem inRange_calls (low high : Int) (A : Option Addr) (cap : Nat) (l : List Int) (w : World) (hr : (Kd.int .i64).C w A l.length l) (hl : l.length ≤ 1099511627776) :
    Calls Try.prog 61 #[.int .i64 low, .int .i64 high, .slice A l.length cap] w fun e w' => e = .returned (.bool (rng low high l)) ∧ Below w.heap.size w w' := by
  have HR := Aside0.mk hr
  clear hr
  go_enter Try.func61, Try.ntmps61
  go_wp2
  go_loopw [11] (fun i wr => ∃ (k : Nat), i = .int .i64 k ∧ k ≤ l.length ∧ Aside0 (∀ x ∈ l.take k, low ≤ x ∧ x ≤ high) ∧ Below w.heap.size w wr) (fun i _ => l.length - (intOf i).toNat)
  case atStart => exact ⟨0, rfl, by omega, ⟨by simp⟩, Below.refl _ _⟩
  case round =>
    obtain ⟨k, rfl, hk, ha, hb⟩ := hrel
    by_cases hlt : k < l.length
    · obtain ⟨ad, rfl, hcell⟩ := el_at HR.out hb hlt
      have hno := rng_not (low := low) (high := high) hlt
      have hT := take_rd l k hlt
      obtain ⟨n, hx⟩ : ∃ n, n = rd l k := ⟨_, rfl⟩
      rw [← hx] at hcell hno hT
      replace hno := Aside0.mk hno
      replace hT := Aside0.mk hT
      clear hx
      by_cases h1 : n < low
      · go_wp2
        go_ret
        exact ⟨by rw [hno.out (.inl h1)]; rfl, hb⟩
      · by_cases h2 : high < n
        · go_wp2
          go_ret
          exact ⟨by rw [hno.out (.inr h2)]; rfl, hb⟩
        · go_wp2
          go_roundw
          case rel => exact ⟨k + 1, by go_num, by omega, ⟨by
            rw [hT.out]
            intro x hx
            rcases List.mem_append.1 hx with hx | hx
            · exact ha.out x hx
            · rw [List.mem_singleton.1 hx]; omega⟩, hb⟩
          case measure => simp [intOf]; omega
    · obtain rfl : k = l.length := by omega
      have hA := ha.out
      rw [List.take_length] at hA
      have hW : Aside0 (rng low high l = true) := ⟨List.all_eq_true.2 fun x hx => decide_eq_true (hA x hx)⟩
      clear ha hA
      go_wp2
      go_ret
      exact ⟨by rw [hW.out]; rfl, hb⟩

section
variable (A : Option Addr) (cap : Nat) (l : List Int) (w : World) (hr : (Kd.int .i64).C w A l.length l) (hl : l.length ≤ 1099511627776)
include hr hl
theorem isCoefs_calls : Calls Try.prog 31 #[.slice A l.length cap] w fun e w' => e = .returned (.bool (rng (-2097152) 2097152 l)) ∧ Below w.heap.size w w' := by
  have hb := Below.refl w.heap.size w
  have HC := Aside0.mk (inRange_calls (-2097152) 2097152 A cap l w hr hl)
  obtain ⟨b, hbe⟩ : ∃ b, b = rng (-2097152) 2097152 l := ⟨_, rfl⟩
  rw [← hbe] at HC ⊢
  clear hr hbe
  go_enter Try.func31, Try.ntmps31
  go_wp2_with (first | (go_at_call 61; refine (HC.out).mono ?_; rintro e w' ⟨rfl, hbn⟩; replace hb := bnx hb hbn; clear hbn))
  go_ret
  exact ⟨rfl, hb⟩
theorem isScales_calls : Calls Try.prog 44 #[.slice A l.length cap] w fun e w' => e = .returned (.bool (rng 0 95 l)) ∧ Below w.heap.size w w' := by
  have hb := Below.refl w.heap.size w
  have HC := Aside0.mk (inRange_calls 0 95 A cap l w hr hl)
  obtain ⟨b, hbe⟩ : ∃ b, b = rng 0 95 l := ⟨_, rfl⟩
  rw [← hbe] at HC ⊢
  clear hr hbe
  go_enter Try.func44, Try.ntmps44
  go_wp2_with (first | (go_at_call 61; refine (HC.out).mono ?_; rintro e w' ⟨rfl, hbn⟩; replace hb := bnx hb hbn; clear hbn))
  go_ret
  exact ⟨rfl, hb⟩
theorem isLimits_calls : Calls Try.prog 32 #[.slice A l.length cap] w fun e w' => e = .returned (.bool (rng 0 72057594037927936 l)) ∧ Below w.heap.size w w' := by
  have hb := Below.refl w.heap.size w
  have HC := Aside0.mk (inRange_calls 0 72057594037927936 A cap l w hr hl)
  obtain ⟨b, hbe⟩ : ∃ b, b = rng 0 72057594037927936 l := ⟨_, rfl⟩
  rw [← hbe] at HC ⊢
  clear hr hbe
  go_enter Try.func32, Try.ntmps32
  go_wp2_with (first | (go_at_call 61; refine (HC.out).mono ?_; rintro e w' ⟨rfl, hbn⟩; replace hb := bnx hb hbn; clear hbn))
  go_ret
  exact ⟨rfl, hb⟩
theorem isQuanta_calls : Calls Try.prog 51 #[.slice A l.length cap] w fun e w' => e = .returned (.bool (rng (-1023) 1023 l)) ∧ Below w.heap.size w w' := by
  have hb := Below.refl w.heap.size w
  have HC := Aside0.mk (inRange_calls (-1023) 1023 A cap l w hr hl)
  obtain ⟨b, hbe⟩ : ∃ b, b = rng (-1023) 1023 l := ⟨_, rfl⟩
  rw [← hbe] at HC ⊢
  clear hr hbe
  go_enter Try.func51, Try.ntmps51
  go_wp2_with (first | (go_at_call 61; refine (HC.out).mono ?_; rintro e w' ⟨rfl, hbn⟩; replace hb := bnx hb hbn; clear hbn))
  go_ret
  exact ⟨rfl, hb⟩
end

set_option maxHeartbeats 1000000 in
theorem form_calls (A0 A : Option Addr) (n0 c0 cap c2 : Nat) (l : List Int) (B : Nat) (ls : List Nat) (w : World) (hr : (Kd.int .i64).C w A l.length l) (hl : l.length ≤ 1099511627776) (hn0 : n0 ≤ 1099511627776) (hls : Lens w B ls) (hll : ls.length ≤ 1000000) (hle : ∀ n ∈ ls, n ≤ 1099511627776) :
    Calls Try.prog 30 #[.slice A0 n0 c0, .slice A l.length cap, .slice (some ⟨B, 0, none⟩) ls.length c2] w fun e w' => e = .returned (.int .i64 (formE n0 l ls)) ∧ Below w.heap.size w w' := by
  have hb := Below.refl w.heap.size w
  have HW := Aside0.mk (isWidths_calls A cap l w hr hl)
  have HLS := Aside0.mk hls
  have HLE := Aside0.mk hle
  clear hr hls hle
  unfold formE
  cases hw : isW l with
  | false =>
    rw [hw] at HW
    clear hw
    go_enter Try.func30, Try.ntmps30
    go_wp2_with (first | (go_at_call 60; refine (HW.out).mono ?_; rintro e w' ⟨rfl, hbn⟩; replace hb := bnx hb hbn; clear hbn))
    go_ret
    exact ⟨rfl, hb⟩
  | true =>
    rw [hw] at HW
    clear hw
    by_cases h128 : n0 = 128
    · subst h128
      rw [if_pos rfl, if_pos rfl]
      obtain ⟨E, hE⟩ : ∃ E : Int, E = (if ls.all (fun m => decide (m = l.length)) then 0 else 4) := ⟨_, rfl⟩
      rw [← hE]
      have HX : Aside0 (∀ k n, ls[k]? = some n → n ≠ l.length → E = 4) := ⟨fun k n hk hne => by
        rw [hE, if_neg]
        intro h
        have := List.all_eq_true.1 h n (List.mem_of_getElem? hk)
        simp at this
        exact hne this⟩
      have HY : Aside0 ((∀ x ∈ ls, x = l.length) → E = 0) := ⟨fun h => by rw [hE, if_pos (List.all_eq_true.2 fun x hx => decide_eq_true (h x hx))]⟩
      clear hE
      go_enter Try.func30, Try.ntmps30
      go_wp2_with (first | (go_at_call 60; refine (HW.out).mono ?_; rintro e w' ⟨rfl, hbn⟩; replace hb := bnx hb hbn; clear hbn))
      go_loopw [17] (fun i wr => ∃ (k : Nat), i = .int .i64 k ∧ k ≤ ls.length ∧ Aside0 (∀ x ∈ ls.take k, x = l.length) ∧ Below w.heap.size w wr) (fun i _ => ls.length - (intOf i).toNat)
      case atStart => exact ⟨0, rfl, by omega, ⟨by simp⟩, hb⟩
      case round =>
        obtain ⟨k, rfl, hk, ha, hbr⟩ := hrel
        clear hb
        have hb := hbr
        clear hbr
        by_cases hlt : k < ls.length
        · have hk? := List.getElem?_eq_getElem hlt
          obtain ⟨A2, c3, hcell⟩ := HLS.out k _ hk?
          replace hcell := cnx hcell hb
          have hle := HLE.out _ (List.getElem_mem hlt)
          have hX := HX.out k _ hk?
          have hT : ls.take (k + 1) = ls.take k ++ [ls[k]] := List.take_succ_eq_append_getElem hlt
          obtain ⟨n, hx⟩ : ∃ n, n = ls[k] := ⟨_, rfl⟩
          rw [← hx] at hcell hX hT hle
          replace hX := Aside0.mk hX
          replace hT := Aside0.mk hT
          clear hx hk?
          by_cases h1 : n = l.length
          · have h1' : decide ((n : Int) = (l.length : Int)) = true := by simp; omega
            have h1'' : ((n : Int) != (l.length : Int)) = false := by simp; omega
            have hn := Aside0.mk h1
            clear h1
            go_wp2
            go_roundw
            case rel => exact ⟨k + 1, by go_num, by omega, ⟨by
              rw [hT.out]
              intro x hx
              rcases List.mem_append.1 hx with hx | hx
              · exact ha.out x hx
              · rw [List.mem_singleton.1 hx]; exact hn.out⟩, hb⟩
            case measure => simp [intOf]; omega
          · have h1' : decide ((n : Int) = (l.length : Int)) = false := by simp; omega
            have h1'' : ((n : Int) != (l.length : Int)) = true := by simp; omega
            have hf := Aside0.mk (hX.out h1)
            clear h1
            go_wp2
            go_ret
            exact ⟨by rw [hf.out]; rfl, hb⟩
        · obtain rfl : k = ls.length := by omega
          have hA := ha.out
          rw [List.take_length] at hA
          have hf := Aside0.mk (HY.out hA)
          clear ha hA
          go_wp2
          go_ret
          exact ⟨by rw [hf.out]; rfl, hb⟩
    · rw [if_neg h128, if_pos rfl]
      have h1' : ((n0 : Int) != (128 : Int)) = true := by simp; omega
      clear h128
      go_enter Try.func30, Try.ntmps30
      go_wp2_with (first | (go_at_call 60; refine (HW.out).mono ?_; rintro e w' ⟨rfl, hbn⟩; replace hb := bnx hb hbn; clear hbn))
      go_ret
      exact ⟨rfl, hb⟩

end Go.Proofs.Ytljadjoljhanfaa.Q16
/- What the reference's small functions return: widths, ranges, the form of lists. -/
namespace Go.Proofs.Ytljadjoljhanfaa.Q16
open Go.RowKit Go.Proofs.YtljadjoljhanfaaW.PrintWords Go.Proofs.YtljadjoljhanfaaW.PrintLast Go.Proofs.YtljadjoljhanfaaW.PrintMore
attribute [local go_sem] max2_int min2_int max_two min_two max_three min_three
open Go.Proofs.Ytljadjoljhanfaa.Q15

theorem isW_not2 {l : List Int} {k : Nat} (hk : k < l.length) (h : rd l k < 1 ∨ 128 < rd l k) : isW l = false := by
  by_cases h1 : rd l k < 1
  · exact isW_not hk (.inl h1)
  · rw [← Bool.not_eq_true]
    intro hw
    obtain ⟨g1, g2, g3⟩ := isW_iff.1 hw
    have h5 := sum_take_le g1 (k + 1)
    have h6 := sum_pos (l := l.take k) (fun x hx => g1 x (List.mem_of_mem_take hx))
    rw [take_rd l k hk, List.sum_append] at h5
    simp only [List.sum_cons, List.sum_nil] at h5
    omega
theorem isW_all2 {l : List Int} (h : ∀ x ∈ l, 1 ≤ x) : isW l = (decide (1 ≤ l.length) && decide (l.length ≤ 32) && decide (l.sum = 128)) := by
  rw [isW_all h]
  congr 1
  exact decide_eq_decide.2 (by omega)

set_option maxHeartbeats 1000000 in
theorem rWidths_calls (A : Option Addr) (cap : Nat) (l : List Int) (w : World) (hr : (Kd.int .i64).C w A l.length l) (hl : l.length ≤ 1099511627776) :
    Calls Try.prog 63 #[.slice A l.length cap] w fun e w' => e = .returned (.bool (isW l)) ∧ Below w.heap.size w w' := by
  have HR := Aside0.mk hr
  clear hr
  go_enter Try.func63, Try.ntmps63
  go_wp2
  go_loopw [3, 8] (fun s i wr => ∃ (k : Nat) (z : Int), i = .int .i64 k ∧ s = .int .i64 z ∧ k ≤ l.length ∧ 0 ≤ z ∧ z ≤ k * 128 ∧ Aside0 (z = (l.take k).sum) ∧ Aside0 (∀ x ∈ l.take k, 1 ≤ x) ∧ Below w.heap.size w wr) (fun _ i _ => l.length - (intOf i).toNat)
  case atStart => exact ⟨0, 0, rfl, rfl, by omega, by omega, by omega, ⟨by simp⟩, ⟨by simp⟩, Below.refl _ _⟩
  case round =>
    obtain ⟨k, z, rfl, rfl, hk, hz0, hz1, hn, ha, hb⟩ := hrel
    by_cases hlt : k < l.length
    · obtain ⟨ad, rfl, hcell⟩ := el_at HR.out hb hlt
      have hno := isW_not2 hlt
      have hT := take_rd l k hlt
      obtain ⟨n, hx⟩ : ∃ n, n = rd l k := ⟨_, rfl⟩
      rw [← hx] at hcell hno hT
      replace hno := Aside0.mk hno
      replace hT := Aside0.mk hT
      clear hx
      by_cases h1 : n < 1
      · go_wp2
        go_ret
        exact ⟨by rw [hno.out (.inl h1)]; rfl, hb⟩
      · by_cases h2 : 128 < n
        · go_wp2
          go_ret
          exact ⟨by rw [hno.out (.inr h2)]; rfl, hb⟩
        · go_wp2
          go_roundw
          case rel => exact ⟨k + 1, z + n, by go_num, rfl, by omega, by omega, by omega, ⟨by rw [hT.out, List.sum_append, hn.out]; simp⟩, ⟨by
            rw [hT.out]
            intro x hx
            rcases List.mem_append.1 hx with hx | hx
            · exact ha.out x hx
            · rw [List.mem_singleton.1 hx]; omega⟩, hb⟩
          case measure => simp [intOf]; omega
    · obtain rfl : k = l.length := by omega
      have hA := ha.out
      have hN := hn.out
      rw [List.take_length] at hA hN
      have hW := isW_all2 hA
      rw [← hN] at hW
      replace hW := Aside0.mk hW
      clear ha hn hA hN
      by_cases g1 : 1 ≤ l.length
      · by_cases g2 : l.length ≤ 32
        · have g1' : decide ((1 : Int) ≤ (l.length : Int)) = true := by simp; omega
          have g2' : decide ((l.length : Int) ≤ (32 : Int)) = true := by simp; omega
          rw [decide_eq_true g1, decide_eq_true g2, Bool.true_and, Bool.true_and] at hW
          clear g1 g2
          go_wp2
          go_ret
          exact ⟨by rw [hW.out]; rfl, hb⟩
        · have g1' : decide ((1 : Int) ≤ (l.length : Int)) = true := by simp; omega
          have g2' : decide ((l.length : Int) ≤ (32 : Int)) = false := by simp; omega
          rw [decide_eq_false g2, Bool.and_false, Bool.false_and] at hW
          clear g1 g2
          go_wp2
          go_ret
          exact ⟨by rw [hW.out]; rfl, hb⟩
      · have g1' : decide ((1 : Int) ≤ (l.length : Int)) = false := by simp; omega
        rw [decide_eq_false g1, Bool.false_and, Bool.false_and] at hW
        clear g1
        go_wp2
        go_ret
        exact ⟨by rw [hW.out]; rfl, hb⟩

set_option maxHeartbeats 1000000 in
theorem within_calls (most : Int) (hm : 0 ≤ most ∧ most ≤ 4611686018427387904) (A : Option Addr) (cap : Nat) (l : List Int) (w : World) (hr : (Kd.int .i64).C w A l.length l) (hl : l.length ≤ 1099511627776) :
    Calls Try.prog 73 #[.int .i64 most, .slice A l.length cap] w fun e w' => e = .returned (.bool (rng (-most) most l)) ∧ Below w.heap.size w w' := by
  have HR := Aside0.mk hr
  clear hr
  go_enter Try.func73, Try.ntmps73
  go_wp2
  go_loopw [9] (fun i wr => ∃ (k : Nat), i = .int .i64 k ∧ k ≤ l.length ∧ Aside0 (∀ x ∈ l.take k, -most ≤ x ∧ x ≤ most) ∧ Below w.heap.size w wr) (fun i _ => l.length - (intOf i).toNat)
  case atStart => exact ⟨0, rfl, by omega, ⟨by simp⟩, Below.refl _ _⟩
  case round =>
    obtain ⟨k, rfl, hk, ha, hb⟩ := hrel
    by_cases hlt : k < l.length
    · obtain ⟨ad, rfl, hcell⟩ := el_at HR.out hb hlt
      have hno := rng_not (low := -most) (high := most) hlt
      have hT := take_rd l k hlt
      obtain ⟨n, hx⟩ : ∃ n, n = rd l k := ⟨_, rfl⟩
      rw [← hx] at hcell hno hT
      replace hno := Aside0.mk hno
      replace hT := Aside0.mk hT
      clear hx
      by_cases h1 : n < -most
      · go_wp2
        go_ret
        exact ⟨by rw [hno.out (.inl h1)]; rfl, hb⟩
      · by_cases h2 : most < n
        · go_wp2
          go_ret
          exact ⟨by rw [hno.out (.inr h2)]; rfl, hb⟩
        · go_wp2
          go_roundw
          case rel => exact ⟨k + 1, by go_num, by omega, ⟨by
            rw [hT.out]
            intro x hx
            rcases List.mem_append.1 hx with hx | hx
            · exact ha.out x hx
            · rw [List.mem_singleton.1 hx]; omega⟩, hb⟩
          case measure => simp [intOf]; omega
    · obtain rfl : k = l.length := by omega
      have hA := ha.out
      rw [List.take_length] at hA
      have hW : Aside0 (rng (-most) most l = true) := ⟨List.all_eq_true.2 fun x hx => decide_eq_true (hA x hx)⟩
      clear ha hA
      go_wp2
      go_ret
      exact ⟨by rw [hW.out]; rfl, hb⟩

theorem Within_calls (most : Int) (hm : 0 ≤ most ∧ most ≤ 4611686018427387904) (A : Option Addr) (cap : Nat) (l : List Int) (w : World) (hr : (Kd.int .i64).C w A l.length l) (hl : l.length ≤ 1099511627776) :
    Calls Try.prog 38 #[.int .i64 most, .slice A l.length cap] w fun e w' => e = .returned (.bool (rng (-most) most l)) ∧ Below w.heap.size w w' := by
  have hb := Below.refl w.heap.size w
  have HC := Aside0.mk (within_calls most hm A cap l w hr hl)
  obtain ⟨b, hbe⟩ : ∃ b, b = rng (-most) most l := ⟨_, rfl⟩
  rw [← hbe] at HC ⊢
  clear hr hbe
  go_enter Try.func38, Try.ntmps38
  go_wp2_with (first | (go_at_call 73; refine (HC.out).mono ?_; rintro e w' ⟨rfl, hbn⟩; replace hb := bnx hb hbn; clear hbn))
  go_ret
  exact ⟨rfl, hb⟩
set_option maxHeartbeats 1000000 in
theorem all_calls (most : Int) (A : Option Addr) (cap : Nat) (l : List Int) (w : World) (hr : (Kd.int .i64).C w A l.length l) (hl : l.length ≤ 1099511627776) :
    Calls Try.prog 39 #[.slice A l.length cap, .int .i64 most] w fun e w' => e = .returned (.bool (rng 0 most l)) ∧ Below w.heap.size w w' := by
  have HR := Aside0.mk hr
  clear hr
  go_enter Try.func39, Try.ntmps39
  go_wp2
  go_loopw [9] (fun i wr => ∃ (k : Nat), i = .int .i64 k ∧ k ≤ l.length ∧ Aside0 (∀ x ∈ l.take k, 0 ≤ x ∧ x ≤ most) ∧ Below w.heap.size w wr) (fun i _ => l.length - (intOf i).toNat)
  case atStart => exact ⟨0, rfl, by omega, ⟨by simp⟩, Below.refl _ _⟩
  case round =>
    obtain ⟨k, rfl, hk, ha, hb⟩ := hrel
    by_cases hlt : k < l.length
    · obtain ⟨ad, rfl, hcell⟩ := el_at HR.out hb hlt
      have hno := rng_not (low := 0) (high := most) hlt
      have hT := take_rd l k hlt
      obtain ⟨n, hx⟩ : ∃ n, n = rd l k := ⟨_, rfl⟩
      rw [← hx] at hcell hno hT
      replace hno := Aside0.mk hno
      replace hT := Aside0.mk hT
      clear hx
      by_cases h1 : n < 0
      · go_wp2
        go_ret
        exact ⟨by rw [hno.out (.inl h1)]; rfl, hb⟩
      · by_cases h2 : most < n
        · go_wp2
          go_ret
          exact ⟨by rw [hno.out (.inr h2)]; rfl, hb⟩
        · go_wp2
          go_roundw
          case rel => exact ⟨k + 1, by go_num, by omega, ⟨by
            rw [hT.out]
            intro x hx
            rcases List.mem_append.1 hx with hx | hx
            · exact ha.out x hx
            · rw [List.mem_singleton.1 hx]; omega⟩, hb⟩
          case measure => simp [intOf]; omega
    · obtain rfl : k = l.length := by omega
      have hA := ha.out
      rw [List.take_length] at hA
      have hW : Aside0 (rng 0 most l = true) := ⟨List.all_eq_true.2 fun x hx => decide_eq_true (hA x hx)⟩
      clear ha hA
      go_wp2
      go_ret
      exact ⟨by rw [hW.out]; rfl, hb⟩

set_option maxHeartbeats 1000000 in
theorem forms_calls (A0 A : Option Addr) (n0 c0 cap c2 : Nat) (l : List Int) (B : Nat) (ls : List Nat) (w : World) (hr : (Kd.int .i64).C w A l.length l) (hl : l.length ≤ 1099511627776) (hn0 : n0 ≤ 1099511627776) (hls : Lens w B ls) (hll : ls.length ≤ 1000000) (hle : ∀ n ∈ ls, n ≤ 1099511627776) :
    Calls Try.prog 37 #[.slice A0 n0 c0, .slice A l.length cap, .slice (some ⟨B, 0, none⟩) ls.length c2] w fun e w' => e = .returned (.int .i64 (formE n0 l ls)) ∧ Below w.heap.size w w' := by
  have hb := Below.refl w.heap.size w
  have HW := Aside0.mk (rWidths_calls A cap l w hr hl)
  have HLS := Aside0.mk hls
  have HLE := Aside0.mk hle
  clear hr hls hle
  unfold formE
  cases hw : isW l with
  | false =>
    rw [hw] at HW
    clear hw
    go_enter Try.func37, Try.ntmps37
    go_wp2_with (first | (go_at_call 63; refine (HW.out).mono ?_; rintro e w' ⟨rfl, hbn⟩; replace hb := bnx hb hbn; clear hbn))
    go_ret
    exact ⟨rfl, hb⟩
  | true =>
    rw [hw] at HW
    clear hw
    by_cases h128 : n0 = 128
    · subst h128
      rw [if_pos rfl, if_pos rfl]
      obtain ⟨E, hE⟩ : ∃ E : Int, E = (if ls.all (fun m => decide (m = l.length)) then 0 else 4) := ⟨_, rfl⟩
      rw [← hE]
      have HX : Aside0 (∀ k n, ls[k]? = some n → n ≠ l.length → E = 4) := ⟨fun k n hk hne => by
        rw [hE, if_neg]
        intro h
        have := List.all_eq_true.1 h n (List.mem_of_getElem? hk)
        simp at this
        exact hne this⟩
      have HY : Aside0 ((∀ x ∈ ls, x = l.length) → E = 0) := ⟨fun h => by rw [hE, if_pos (List.all_eq_true.2 fun x hx => decide_eq_true (h x hx))]⟩
      clear hE
      go_enter Try.func37, Try.ntmps37
      go_wp2_with (first | (go_at_call 63; refine (HW.out).mono ?_; rintro e w' ⟨rfl, hbn⟩; replace hb := bnx hb hbn; clear hbn))
      go_loopw [17] (fun i wr => ∃ (k : Nat), i = .int .i64 k ∧ k ≤ ls.length ∧ Aside0 (∀ x ∈ ls.take k, x = l.length) ∧ Below w.heap.size w wr) (fun i _ => ls.length - (intOf i).toNat)
      case atStart => exact ⟨0, rfl, by omega, ⟨by simp⟩, hb⟩
      case round =>
        obtain ⟨k, rfl, hk, ha, hbr⟩ := hrel
        clear hb
        have hb := hbr
        clear hbr
        by_cases hlt : k < ls.length
        · have hk? := List.getElem?_eq_getElem hlt
          obtain ⟨A2, c3, hcell⟩ := HLS.out k _ hk?
          replace hcell := cnx hcell hb
          have hle := HLE.out _ (List.getElem_mem hlt)
          have hX := HX.out k _ hk?
          have hT : ls.take (k + 1) = ls.take k ++ [ls[k]] := List.take_succ_eq_append_getElem hlt
          obtain ⟨n, hx⟩ : ∃ n, n = ls[k] := ⟨_, rfl⟩
          rw [← hx] at hcell hX hT hle
          replace hX := Aside0.mk hX
          replace hT := Aside0.mk hT
          clear hx hk?
          by_cases h1 : n = l.length
          · have h1' : decide ((n : Int) = (l.length : Int)) = true := by simp; omega
            have h1'' : ((n : Int) != (l.length : Int)) = false := by simp; omega
            have hn := Aside0.mk h1
            clear h1
            go_wp2
            go_roundw
            case rel => exact ⟨k + 1, by go_num, by omega, ⟨by
              rw [hT.out]
              intro x hx
              rcases List.mem_append.1 hx with hx | hx
              · exact ha.out x hx
              · rw [List.mem_singleton.1 hx]; exact hn.out⟩, hb⟩
            case measure => simp [intOf]; omega
          · have h1' : decide ((n : Int) = (l.length : Int)) = false := by simp; omega
            have h1'' : ((n : Int) != (l.length : Int)) = true := by simp; omega
            have hf := Aside0.mk (hX.out h1)
            clear h1
            go_wp2
            go_ret
            exact ⟨by rw [hf.out]; rfl, hb⟩
        · obtain rfl : k = ls.length := by omega
          have hA := ha.out
          rw [List.take_length] at hA
          have hf := Aside0.mk (HY.out hA)
          clear ha hA
          go_wp2
          go_ret
          exact ⟨by rw [hf.out]; rfl, hb⟩
    · rw [if_neg h128, if_pos rfl]
      have h1' : ((n0 : Int) != (128 : Int)) = true := by simp; omega
      clear h128
      go_enter Try.func37, Try.ntmps37
      go_wp2_with (first | (go_at_call 63; refine (HW.out).mono ?_; rintro e w' ⟨rfl, hbn⟩; replace hb := bnx hb hbn; clear hbn))
      go_ret
      exact ⟨rfl, hb⟩

end Go.Proofs.Ytljadjoljhanfaa.Q16
