/- A part of the proof. -/
import Derived.Test.YtnflnicdjioflaaGreatDoorQmad
import Derived.Laws.Entries
set_option linter.unusedVariables false
set_option linter.unusedSimpArgs false
namespace Go.Proofs.YtnflnicdjioflaaGreatDoor
open Go.RowKit Go.Proofs.YtnflnicdjioflaaGreatDoorW.PrintWords Go.Proofs.YtnflnicdjioflaaGreatDoorW.PrintLast Go.Proofs.YtnflnicdjioflaaGreatDoorW.PrintMore
namespace Bts
attribute [local go_sem] max2_int min2_int max_two min_two max_three min_three
def byteTo (l : List Int) (i : Nat) : Nat → Int
 | 0 => 0
 | m + 1 => byteTo l i m + l.getD (8 * i + m) 0 * 2 ^ (7 - m)
def byteAt (l : List Int) (i : Nat) : Int := byteTo l i 8
def packL (l : List Int) : List Int := (List.range ((l.length + 7) / 8)).map (byteAt l)
def isBits (l : List Int) : Prop := ∀ x ∈ l, x = 0 ∨ x = 1
theorem packL_len (l : List Int) : (packL l).length = (l.length + 7) / 8 := by simp [packL]
theorem packL_nil : packL [] = [] := rfl
theorem gD_in {l : List Int} {i : Nat} (h : i < l.length) : l.getD i 0 = l[i] := by simp [List.getD_eq_getElem?_getD, h]
theorem gD_out {l : List Int} {i : Nat} (h : l.length ≤ i) : l.getD i 0 = 0 := by simp [List.getD_eq_getElem?_getD, h]
theorem gD_app {l k : List Int} {i : Nat} (h : i < l.length) : (l ++ k).getD i 0 = l.getD i 0 := by simp [List.getD_eq_getElem?_getD, List.getElem?_append_left h]
theorem getD_bit {l : List Int} (h : isBits l) (i : Nat) : l.getD i 0 = 0 ∨ l.getD i 0 = 1 := by
 by_cases hi : i < l.length
 ·rw [gD_in hi]
  exact h _ (List.getElem_mem hi)
 ·rw [gD_out (by omega)]
  exact .inl rfl
theorem byteTo_bd {l : List Int} (h : isBits l) (i : Nat) : ∀ m, m ≤ 8 → ∃ a : Int, byteTo l i m = a * 2 ^ (8 - m) ∧ 0 ≤ a ∧ a ≤ 2 ^ m - 1
 | 0, _ => ⟨0, by simp [byteTo], by omega, by simp⟩
 | m + 1, hm => by
  obtain ⟨a, e, a0, a1⟩ := byteTo_bd h i m (by omega)
  refine ⟨2 * a + l.getD (8 * i + m) 0, ?_, ?_, ?_⟩
  ·rw [byteTo, e, show 8 - m = (7 - m) + 1 by omega, Int.pow_succ, show 8 - (m + 1) = 7 - m by omega, Int.add_mul, Int.mul_comm (2 ^ (7 - m)) 2, ← Int.mul_assoc, Int.mul_comm a 2]
  ·rcases getD_bit h (8 * i + m) with e | e <;> rw [e] <;> omega
  ·rw [Int.pow_succ]
   rcases getD_bit h (8 * i + m) with e | e <;> rw [e] <;> omega
theorem byteTo_app {l k : List Int} (i : Nat) : ∀ m, 8 * i + m ≤ l.length → byteTo (l ++ k) i m = byteTo l i m
 | 0, _ => rfl
 | m + 1, hm => by
  rw [byteTo, byteTo, byteTo_app i m (by omega), gD_app (by omega)]
theorem byteTo_past {l : List Int} (i : Nat) : ∀ m m', m ≤ m' → l.length ≤ 8 * i + m → byteTo l i m' = byteTo l i m := by
 intro m m' hm hl
 induction m' with
 | zero => rw [show m = 0 by omega]
 | succ n ih =>
  by_cases h : m = n + 1
  ·rw [h]
  ·rw [byteTo, ih (by omega), gD_out (by omega)]
   simp
theorem isBits_app {l k : List Int} (h : isBits l) (h2 : isBits k) : isBits (l ++ k) := fun x hx => by
 rcases List.mem_append.1 hx with hx | hx
 ·exact h x hx
 ·exact h2 x hx
theorem isBits_nil : isBits [] := fun x hx => by cases hx
theorem isBits_one {b : Int} (h : b = 0 ∨ b = 1) : isBits [b] := fun x hx => by rw [List.mem_singleton.1 hx]; exact h
theorem packL_new {l : List Int} (b : Int) (h : l.length % 8 = 0) : packL (l ++ [b]) = packL l ++ [b * 128] := by
 unfold packL
 have h1 : ((l ++ [b]).length + 7) / 8 = (l.length + 7) / 8 + 1 := by simp; omega
 rw [h1, List.range_succ, List.map_append]
 congr 1
 ·refine List.map_congr_left fun i hi => ?_
  have hi := List.mem_range.1 hi
  exact byteTo_app i 8 (by omega)
 ·simp only [List.map_cons, List.map_nil]
  congr 1
  have h2 : (l.length + 7) / 8 = l.length / 8 := by omega
  have h3 : 8 * (l.length / 8) = l.length := by omega
  unfold byteAt
  rw [byteTo_past (l := l ++ [b]) _ 1 8 (by omega) (by simp; omega), byteTo, byteTo, h2]
  simp [h3]
theorem packL_in {l : List Int} (b : Int) (h : l.length % 8 ≠ 0) : packL (l ++ [b]) = (packL l).set (l.length / 8) (byteAt l (l.length / 8) + b * 2 ^ (7 - l.length % 8)) := by
 have h1 : ((l ++ [b]).length + 7) / 8 = (l.length + 7) / 8 := by simp; omega
 apply List.ext_getElem
 ·rw [packL_len, h1, List.length_set, packL_len]
 ·intro i p1 p2
  rw [packL_len] at p1
  rw [List.getElem_set]
  simp only [packL, List.getElem_map, List.getElem_range]
  by_cases hi : l.length / 8 = i
  ·rw [if_pos hi]
   subst hi
   unfold byteAt
   rw [byteTo_past (l := l ++ [b]) _ (l.length % 8 + 1) 8 (by omega) (by simp; omega), byteTo_past (l := l) _ (l.length % 8) 8 (by omega) (by omega), byteTo, byteTo_app _ _ (by omega)]
   have h3 : 8 * (l.length / 8) + l.length % 8 = l.length := by omega
   rw [h3]
   simp
  ·rw [if_neg hi]
   exact byteTo_app i 8 (by simp at p1; omega)
theorem byteAt_low {l : List Int} (h : isBits l) (h8 : l.length % 8 ≠ 0) : ∃ a : Int, byteAt l (l.length / 8) = a * 2 ^ (8 - l.length % 8) ∧ 0 ≤ a ∧ a ≤ 2 ^ (l.length % 8) - 1 := by
 unfold byteAt
 rw [byteTo_past (l := l) _ (l.length % 8) 8 (by omega) (by omega)]
 exact byteTo_bd h _ _ (by omega)
theorem rd_packL {l : List Int} {i : Nat} (h : i < (l.length + 7) / 8) : rd (packL l) i = byteAt l i := by
 simp [rd, packL, h]
theorem or_bits (a b : Int) (r : Nat) (hr : r < 8) (ha : 0 ≤ a) (ha1 : a ≤ 2 ^ r - 1) (hb : b = 0 ∨ b = 1) :
  bits .or .u8 (a * 2 ^ (8 - r)) (b * 2 ^ (7 - r)) = a * 2 ^ (8 - r) + b * 2 ^ (7 - r) := by
 have key : ∀ r : Fin 8, ∀ a : Fin 128, ∀ b : Fin 2, a.val ≤ 2 ^ r.val - 1 → bits .or .u8 ((a.val : Int) * 2 ^ (8 - r.val)) ((b.val : Int) * 2 ^ (7 - r.val)) = (a.val : Int) * 2 ^ (8 - r.val) + (b.val : Int) * 2 ^ (7 - r.val) := by decide +kernel
 obtain ⟨n, rfl⟩ := Int.eq_ofNat_of_zero_le ha
 have h1 : n ≤ 2 ^ r - 1 := by
  have : ((2 ^ r : Nat) : Int) = 2 ^ r := by simp
  omega
 have h2 : 2 ^ r ≤ 128 := Nat.pow_le_pow_right (n := 2) (by omega) (show r ≤ 7 by omega)
 rcases hb with rfl | rfl
 ·exact key ⟨r, hr⟩ ⟨n, by omega⟩ ⟨0, by omega⟩ h1
 ·exact key ⟨r, hr⟩ ⟨n, by omega⟩ ⟨1, by omega⟩ h1
end Bts

namespace Q15
theorem peak_ge (l : List Int) : ∀ a, (∀ n ∈ l, n ≤ l.foldl (fun a n => max (max a n) (-n)) a ∧ -n ≤ l.foldl (fun a n => max (max a n) (-n)) a) ∧ a ≤ l.foldl (fun a n => max (max a n) (-n)) a := by
 induction l with
 | nil => intro a; exact ⟨by simp, Int.le_refl _⟩
 | cons n t ih =>
  intro a
  have h := ih (max (max a n) (-n))
  simp only [List.foldl_cons]
  refine ⟨fun x hx => ?_, by omega⟩
  rcases List.mem_cons.1 hx with rfl | hx
  ·omega
  ·exact h.1 x hx
theorem peak_abs {l : List Int} {n : Int} (h : n ∈ l) : absI n ≤ peakI l := by
 have := (peak_ge l 0).1 n h
 unfold absI peakI
 omega
end Q15

namespace Pre
attribute [local go_sem] max2_int min2_int max_two min_two max_three min_three
theorem make_run (t e : TypeId) (z : Value) (sz by' : Nat) (ht : Tryz.prog.underlying t = some (.slice e)) (hi : (Tryz.prog.info? e).map (fun i => (i.zero, i.size, i.bytes)) = some (some z, sz, by')) (n : Nat) (hb : by' ≤ 1000) (hn : n ≤ 1000000) (W : World) :
  (Instr.makeSlice t (.int .i64 (n : Int)) (.int .i64 (n : Int))).run Tryz.prog W = .ok (.slice (some ⟨W.heap.size, 0, none⟩) n n) (W.alloc (.cells (madeCells z.cells (n * sz)) e)) := by
 cases h : Tryz.prog.info? e with
 | none => rw [h] at hi; cases hi
 | some i =>
  rw [h] at hi
  simp only [Option.map_some, Option.some.injEq, Prod.mk.injEq] at hi
  obtain ⟨h1, h2, h3⟩ := hi
  have hp : by' * n ≤ 1000 * 1000000 := Nat.mul_le_mul hb hn
  have hp3 : ((by' : Int) * (n : Int)) = ((by' * n : Nat) : Int) := (Int.natCast_mul _ _).symm
  have hp2 : ((by' : Int) * (n : Int)) ≤ 1000000000 := by rw [hp3]; omega
  have := run_make (P := Tryz.prog) W t e i z ht h h1 .i64 .i64 (n : Int) (n : Int) (by omega) (by omega) (by rw [h3]; omega) (by omega)
  rw [Int.toNat_natCast, h2] at this
  exact this
end Pre

end Go.Proofs.YtnflnicdjioflaaGreatDoor
