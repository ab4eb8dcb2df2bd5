/- Noise, the least scale and the greatest one, as plain functions. -/
import Derived.Test.YtglpdojccncjjaaQuantNear
namespace Go.Proofs.Ytglpdojccncjjaa.Q15

theorem peak_ge (l : List Int) : ∀ a, (∀ n ∈ l, n ≤ l.foldl (fun a n => max (max a n) (-n)) a ∧ -n ≤ l.foldl (fun a n => max (max a n) (-n)) a) ∧ a ≤ l.foldl (fun a n => max (max a n) (-n)) a := by
  induction l with
  | nil => intro a; exact ⟨by simp, Int.le_refl _⟩
  | cons n t ih =>
    intro a
    have h := ih (max (max a n) (-n))
    simp only [List.foldl_cons]
    refine ⟨fun x hx => ?_, by omega⟩
    rcases List.mem_cons.1 hx with rfl | hx
    · omega
    · exact h.1 x hx
theorem peak_abs {l : List Int} {n : Int} (h : n ∈ l) : absI n ≤ peakI l := by
  have := (peak_ge l 0).1 n h
  unfold absI peakI
  omega
theorem near_lt (l : List Int) (c : Int) (h : 1 ≤ l.length) : nearL l c < l.length := by
  have h1 := first_le l c
  have h3 : firstL l (l.getD (firstL l c - 1) 0) ≤ firstL l c - 1 := by
    rcases Nat.lt_or_ge (firstL l c - 1) (firstL l (l.getD (firstL l c - 1) 0)) with h2 | h2
    · have := first_lt h2
      omega
    · exact h2
  unfold nearL
  dsimp only
  split <;> omega
theorem V_zero (x : Int) : V x 0 = 0 := by
  unfold V
  rw [show P 0 = 0 by decide +kernel]
  omega
/-- A number less the value of its quantum, with signs. -/
theorem sq_sg (c v : Int) : (c - sg c v) * (c - sg c v) = (absI c - v) * (absI c - v) := by
  unfold sg absI
  split
  · rw [show max c (-c) = -c by omega, show c - -v = -(-c - v) by omega, Int.neg_mul_neg]
  · rw [show max c (-c) = c by omega]

theorem foldl_add (l : List Int) : ∀ a, l.foldl (· + ·) a = a + l.foldl (· + ·) 0 := by
  induction l with
  | nil => intro a; simp
  | cons n t ih => intro a; simp only [List.foldl_cons]; rw [ih (a + n), ih (0 + n)]; omega
theorem noiseI_nil (x : Int) : noiseI x [] = 0 := rfl
theorem noiseI_cons (x n : Int) (t : List Int) : noiseI x (n :: t) = dsq x n + noiseI x t := by
  unfold noiseI
  rw [List.map_cons, List.foldl_cons, foldl_add]
  omega
theorem noiseI_snoc (x n : Int) (t : List Int) : noiseI x (t ++ [n]) = noiseI x t + dsq x n := by
  unfold noiseI
  rw [List.map_append, List.foldl_append]
  rfl
theorem noiseI_bd {x : Int} (hx : 0 ≤ x) (l : List Int) (h : ∀ n ∈ l, -2097152 ≤ n ∧ n ≤ 2097152) : 0 ≤ noiseI x l ∧ noiseI x l ≤ l.length * 4398046511104 := by
  induction l with
  | nil => rw [noiseI_nil]; simp
  | cons n t ih =>
    have h1 := ih (fun y hy => h y (by simp [hy]))
    have h2 := h n (by simp)
    have h3 := dsq_bd hx h2.1 h2.2
    rw [noiseI_cons, List.length_cons]
    omega
/-- What was worked out is the noise, or both are above the limit. -/
theorem noiseTo_eq {x limit : Int} (hx : 0 ≤ x) (l : List Int) (h : ∀ n ∈ l, -2097152 ≤ n ∧ n ≤ 2097152) : ∀ s, s ≤ limit → (noiseTo x limit s l ≤ limit ↔ s + noiseI x l ≤ limit) ∧ (s + noiseI x l ≤ limit → noiseTo x limit s l = s + noiseI x l) := by
  induction l with
  | nil => intro s hs; rw [noiseI_nil]; simp [noiseTo, hs]
  | cons n t ih =>
    intro s hs
    have hn := h n (by simp)
    have hd := dsq_bd hx hn.1 hn.2
    have hb := noiseI_bd hx t (fun y hy => h y (by simp [hy]))
    rw [noiseI_cons]
    simp only [noiseTo]
    split
    · rename_i hgt
      exact ⟨⟨fun h => by omega, fun h => by omega⟩, fun h => by omega⟩
    · have := ih (fun y hy => h y (by simp [hy])) (s + dsq x n) (by omega)
      rw [show s + (dsq x n + noiseI x t) = s + dsq x n + noiseI x t by omega]
      exact this
theorem noiseTo_all {x : Int} (hx : 0 ≤ x) (l : List Int) (hl : l.length ≤ 128) (h : ∀ n ∈ l, -2097152 ≤ n ∧ n ≤ 2097152) : noiseTo x 72057594037927936 0 l = noiseI x l := by
  have hb := noiseI_bd hx l h
  have := (noiseTo_eq (limit := 72057594037927936) hx l h 0 (by omega)).2 (by omega)
  omega

theorem top_last : V (stepI 95) 1023 = 2097152 := by decide +kernel
theorem leastT_is {top s : Int} (h0 : 0 ≤ s) (h1 : s ≤ 95) (h2 : ∀ j, 0 ≤ j → j < s → V (stepI j) 1023 < top) (h3 : top ≤ V (stepI s) 1023) : leastT top = s := by
  unfold leastT
  refine (IsFirst.eq ⟨h0, h1, ?_, ?_⟩ (fun a b a0 ab b1 ha => ?_)).symm
  · rcases Int.lt_or_eq_of_le h0 with h | h
    · right
      have := h2 (s - 1) (by omega) (by omega)
      simpa using this
    · left; exact h.symm
  · right; simpa using h3
  · have := top_mono a0 ab (by omega)
    simp only [decide_eq_true_eq] at ha ⊢
    omega
theorem leastT_bd (top : Int) : 0 ≤ leastT top ∧ leastT top ≤ 95 := fst_bd _ (by omega)

/-- From one number down to another one. -/
def downL (a b : Int) : List Int := (List.range (a - b + 1).toNat).map fun k => a - (k : Nat)
theorem downL_mem {a b x : Int} : x ∈ downL a b ↔ b ≤ x ∧ x ≤ a := by
  unfold downL
  rw [List.mem_map]
  constructor
  · rintro ⟨k, hk, rfl⟩
    rw [List.mem_range] at hk
    omega
  · intro h
    exact ⟨(a - x).toNat, by rw [List.mem_range]; omega, by omega⟩
theorem downL_cons {a b : Int} (h : b ≤ a) : downL a b = a :: downL (a - 1) b := by
  unfold downL
  rw [show (a - b + 1).toNat = (a - 1 - b + 1).toNat + 1 by omega, List.range_succ_eq_map, List.map_cons, List.map_map]
  congr 1
  · omega
  · apply List.map_congr_left
    intro k _
    simp only [Function.comp]
    omega
theorem downL_nil {a b : Int} (h : a < b) : downL a b = [] := by
  unfold downL
  rw [show (a - b + 1).toNat = 0 by omega]
  rfl
/-- The greatest scale that fits, with which the noise is at most limit. -/
def mostI (l : List Int) (limit : Int) : Option Int := (downL 95 (leastI l)).find? fun s => decide (noiseI (stepI s) l ≤ limit)
theorem find_down {p : Int → Bool} {a b s : Int} (h0 : b ≤ s) (h1 : s ≤ a) (h2 : ∀ j, s < j → j ≤ a → p j = false) (h3 : p s = true) : (downL a b).find? p = some s := by
  obtain ⟨d, hd⟩ := Int.eq_ofNat_of_zero_le (show 0 ≤ a - s by omega)
  induction d generalizing a with
  | zero =>
    obtain rfl : a = s := by omega
    rw [downL_cons h0, List.find?_cons_of_pos h3]
  | succ d ih =>
    rw [downL_cons (by omega), List.find?_cons_of_neg (by rw [h2 a (by omega) (by omega)]; simp)]
    exact ih (by omega) (fun j j0 j1 => h2 j j0 (by omega)) (by omega)
theorem find_down_none {p : Int → Bool} {a b : Int} (h : ∀ j, b ≤ j → j ≤ a → p j = false) : (downL a b).find? p = none := by
  rw [List.find?_eq_none]
  intro x hx
  rw [downL_mem] at hx
  rw [h x hx.1 hx.2]
  simp

end Go.Proofs.Ytglpdojccncjjaa.Q15
