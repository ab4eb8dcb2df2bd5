/- The plain functions of layer 15's reference, and that they are the program's. -/
import Derived.Test.YtglpdojccncjjaaQuantSpec
namespace Go.Proofs.Ytglpdojccncjjaa.Q15

theorem powTab_cubes : ((List.range 1024).all fun k => decide (P (k : Nat) * P (k : Nat) * P (k : Nat) ≤ 4096 * (k : Nat) * (k : Nat) * (k : Nat) * (k : Nat) ∧ 4096 * ((k : Nat) : Int) * (k : Nat) * (k : Nat) * (k : Nat) < (P (k : Nat) + 1) * (P (k : Nat) + 1) * (P (k : Nat) + 1))) = true := by decide +kernel
theorem cube_mono {a b : Int} (h0 : 0 ≤ a) (h : a ≤ b) : a * a * a ≤ b * b * b := (mul_bd (mul_bd h0 h h0 h).1 (mul_bd h0 h h0 h).2 h0 h).2
theorem cube_lt {a b : Int} (h0 : 0 ≤ a) (hb : 0 ≤ b) (h : a * a * a < b * b * b) : a < b := by
  rcases Int.lt_or_le a b with h1 | h1
  · exact h1
  · have := cube_mono hb h1; omega
/-- The root of a cube is one. -/
theorem cube_root {a b n : Int} (ha : 0 ≤ a) (hb : 0 ≤ b) (h1 : a * a * a ≤ n) (h2 : n < (a + 1) * (a + 1) * (a + 1)) (h3 : b * b * b ≤ n) (h4 : n < (b + 1) * (b + 1) * (b + 1)) : a = b := by
  have e1 := cube_lt ha (show 0 ≤ b + 1 by omega) (Int.lt_of_le_of_lt h1 h4)
  have e2 := cube_lt hb (show 0 ≤ a + 1 by omega) (Int.lt_of_le_of_lt h3 h2)
  omega
theorem P_cube {q : Int} (h0 : 0 ≤ q) (h1 : q ≤ 1023) : P q * P q * P q ≤ 4096 * q * q * q * q ∧ 4096 * q * q * q * q < (P q + 1) * (P q + 1) * (P q + 1) := by
  have h := List.all_eq_true.1 powTab_cubes q.toNat (by simp; omega)
  simp only [decide_eq_true_eq] at h
  rwa [Int.toNat_of_nonneg h0] at h
theorem q4_abs (q : Int) : 4096 * q * q * q * q = 4096 * absI q * absI q * absI q * absI q := by
  unfold absI
  rcases Int.le_total 0 q with h | h
  · rw [show max q (-q) = q by omega]
  · rw [show max q (-q) = -q by omega]
    simp only [Int.mul_neg, Int.neg_mul, Int.neg_neg]

/-- The first place at which a list has at least v; its length, if there is none. -/
def firstL (l : List Int) (v : Int) : Nat := l.findIdx fun x => decide (x ≥ v)
/-- The list up to the first place at which it has at least v. -/
def upToL (l : List Int) (v : Int) : List Int := l.take (firstL l v + 1)
/-- The values of all quanta from 0 on with a step. -/
def tab (x : Int) : List Int := powTab.map fun p => min 2097152 ((2 * (p * x) + 256) / 512)
def nearL (l : List Int) (c : Int) : Int :=
  let at_ := firstL l c
  if at_ = l.length ∨ (at_ > 0 ∧ c - l.getD (at_ - 1) 0 ≤ l.getD at_ 0 - c) then (firstL l (l.getD (at_ - 1) 0) : Int) else at_

theorem tab_len (x : Int) : (tab x).length = 1024 := by unfold tab; rw [List.length_map]; exact powTab_len
theorem tab_at (x : Int) {k : Nat} (h : k < 1024) : (tab x)[k]'(by rw [tab_len]; exact h) = V x k := by
  have hl := powTab_len
  unfold tab V P
  rw [List.getElem_map, List.getD_eq_getElem?_getD, Int.toNat_natCast, List.getElem?_eq_getElem (by omega), Int.min_comm, Int.mul_assoc]
  rfl
theorem fst_pref (p : Int → Bool) (hi : Int) (h0 : 0 ≤ hi) : fst p 0 hi = ((List.range hi.toNat).findIdx fun k => p (k : Nat)) := by unfold fst; simp

end Go.Proofs.Ytglpdojccncjjaa.Q15
