/- The plain functions of layer 15's reference, and that they are the program's. -/
import Derived.Test.YtljadjoljhanfaaMa
import Derived.WalkKit
import Derived.WalkSpells
import Derived.WalkLawsBesides
import Derived.KernelRfl
import Derived.Deep.RegionHeld3
import Derived.Deep.LoopGhost
import Derived.Deep.AppendLies
import Derived.Laws.Rows
import Derived.Shelf.GgClosure.Gives
import Derived.Test.YtljadjoljhanfaaWWords
import Derived.Test.YtljadjoljhanfaaWLast
import Derived.Test.YtljadjoljhanfaaWMore
import Derived.Deep.QuietTactic
import Derived.BigQuiet
set_option linter.unusedVariables false
set_option linter.unusedSimpArgs false
namespace Go.Proofs.Ytljadjoljhanfaa.Q15

theorem powTab_cubes : ((List.range 1024).all fun k => decide (P (k : Nat) * P (k : Nat) * P (k : Nat) ≤ 4096 * (k : Nat) * (k : Nat) * (k : Nat) * (k : Nat) ∧ 4096 * ((k : Nat) : Int) * (k : Nat) * (k : Nat) * (k : Nat) < (P (k : Nat) + 1) * (P (k : Nat) + 1) * (P (k : Nat) + 1))) = true := by decide +kernel
theorem cube_mono {a b : Int} (h0 : 0 ≤ a) (h : a ≤ b) : a * a * a ≤ b * b * b := (mul_bd (mul_bd h0 h h0 h).1 (mul_bd h0 h h0 h).2 h0 h).2
theorem cube_lt {a b : Int} (_h0 : 0 ≤ a) (hb : 0 ≤ b) (h : a * a * a < b * b * b) : a < b := by
  rcases Int.lt_or_le a b with h1 | h1
  · exact h1
  · have := cube_mono hb h1; omega
/-- The root of a cube is one. -/
theorem cube_root {a b n : Int} (ha : 0 ≤ a) (hb : 0 ≤ b) (h1 : a * a * a ≤ n) (h2 : n < (a + 1) * (a + 1) * (a + 1)) (h3 : b * b * b ≤ n) (h4 : n < (b + 1) * (b + 1) * (b + 1)) : a = b := by
  have e1 := cube_lt ha (show 0 ≤ b + 1 by omega) (Int.lt_of_le_of_lt h1 h4)
  have e2 := cube_lt hb (show 0 ≤ a + 1 by omega) (Int.lt_of_le_of_lt h3 h2)
  omega
theorem P_cube {q : Int} (h0 : 0 ≤ q) (h1 : q ≤ 1023) : P q * P q * P q ≤ 4096 * q * q * q * q ∧ 4096 * q * q * q * q < (P q + 1) * (P q + 1) * (P q + 1) := by
  have h := List.all_eq_true.1 powTab_cubes q.toNat (by simp; omega)
  simp only [decide_eq_true_eq] at h
  rwa [Int.toNat_of_nonneg h0] at h
theorem q4_abs (q : Int) : 4096 * q * q * q * q = 4096 * absI q * absI q * absI q * absI q := by
  unfold absI
  rcases Int.le_total 0 q with h | h
  · rw [show max q (-q) = q by omega]
  · rw [show max q (-q) = -q by omega]
    simp only [Int.mul_neg, Int.neg_mul, Int.neg_neg]

/-- The first place at which a list has at least v; its length, if there is none. -/
def firstL (l : List Int) (v : Int) : Nat := l.findIdx fun x => decide (x ≥ v)
/-- The list up to the first place at which it has at least v. -/
def upToL (l : List Int) (v : Int) : List Int := l.take (firstL l v + 1)
/-- The values of all quanta from 0 on with a step. -/
def tab (x : Int) : List Int := powTab.map fun p => min 2097152 ((2 * (p * x) + 256) / 512)
def nearL (l : List Int) (c : Int) : Int :=
  let at_ := firstL l c
  if at_ = l.length ∨ (at_ > 0 ∧ c - l.getD (at_ - 1) 0 ≤ l.getD at_ 0 - c) then (firstL l (l.getD (at_ - 1) 0) : Int) else at_

theorem tab_len (x : Int) : (tab x).length = 1024 := by unfold tab; rw [List.length_map]; exact powTab_len
theorem tab_at (x : Int) {k : Nat} (h : k < 1024) : (tab x)[k]'(by rw [tab_len]; exact h) = V x k := by
  have hl := powTab_len
  unfold tab V P
  rw [List.getElem_map, List.getD_eq_getElem?_getD, Int.toNat_natCast, List.getElem?_eq_getElem (by omega), Int.min_comm, Int.mul_assoc]
  rfl
theorem fst_pref (p : Int → Bool) (hi : Int) (_h0 : 0 ≤ hi) : fst p 0 hi = ((List.range hi.toNat).findIdx fun k => p (k : Nat)) := by unfold fst; simp

end Go.Proofs.Ytljadjoljhanfaa.Q15
/- The nearest value in a table is that of the quantum. -/
namespace Go.Proofs.Ytljadjoljhanfaa.Q15

theorem first_le (l : List Int) (v : Int) : firstL l v ≤ l.length := List.findIdx_le_length
theorem first_lt {l : List Int} {v : Int} {j : Nat} (h : j < firstL l v) : l.getD j 0 < v := by
  have hl := Nat.lt_of_lt_of_le h (first_le l v)
  have := List.not_of_lt_findIdx h
  rw [List.getD_eq_getElem?_getD, List.getElem?_eq_getElem hl]
  simpa using this
theorem first_ge {l : List Int} {v : Int} (h : firstL l v < l.length) : v ≤ l.getD (firstL l v) 0 := by
  have := List.findIdx_getElem (w := h)
  rw [List.getD_eq_getElem?_getD, List.getElem?_eq_getElem h]
  simpa [firstL] using this
/-- What the first place is, by what it does. -/
theorem first_is {l : List Int} {v : Int} {j : Nat} (hj : j ≤ l.length) (h1 : ∀ i, i < j → l.getD i 0 < v) (h2 : j < l.length → v ≤ l.getD j 0) : firstL l v = j := by
  rcases Nat.lt_trichotomy (firstL l v) j with h | h | h
  · have h3 := first_ge (l := l) (v := v) (by omega)
    have h4 := h1 _ h
    omega
  · exact h
  · have h3 := first_lt h
    have h4 := first_le l v
    have h5 := h2 (by omega)
    omega
theorem getD_take {l : List Int} {i n : Nat} (h : i < n) : (l.take n).getD i 0 = l.getD i 0 := by
  rw [List.getD_eq_getElem?_getD, List.getD_eq_getElem?_getD, List.getElem?_take_of_lt h]
theorem tab_getD (x : Int) {k : Nat} (h : k < 1024) : (tab x).getD k 0 = V x k := by
  rw [List.getD_eq_getElem?_getD, List.getElem?_eq_getElem (by rw [tab_len]; exact h), Option.getD_some, tab_at x h]
theorem up_len (x great : Int) : (upToL (tab x) great).length = min (firstL (tab x) great + 1) 1024 := by
  unfold upToL
  rw [List.length_take, tab_len]
theorem first_up (x great v : Int) (hv : v ≤ great) : firstL (upToL (tab x) great) v = if firstL (tab x) v < 1024 then firstL (tab x) v else (upToL (tab x) great).length := by
  have hl := tab_len x
  have hle : firstL (tab x) v ≤ firstL (tab x) great := by
    rcases Nat.lt_or_ge (firstL (tab x) great) (firstL (tab x) v) with h | h
    · have h1 := first_lt h
      have h2 := first_ge (l := tab x) (v := great) (by have := first_le (tab x) v; omega)
      omega
    · exact h
  have hlu := up_len x great
  have hg : ∀ i, i < firstL (tab x) great + 1 → (upToL (tab x) great).getD i 0 = (tab x).getD i 0 := fun i hi => getD_take hi
  have hfl := first_le (tab x) v
  split
  · rename_i h
    refine first_is (by omega) (fun i hi => ?_) (fun _ => ?_)
    · rw [hg i (by omega)]; exact first_lt hi
    · rw [hg _ (by omega)]; exact first_ge (by omega)
  · rename_i h
    refine first_is (Nat.le_refl _) (fun i hi => ?_) (fun h => absurd h (Nat.lt_irrefl _))
    rw [hg i (by omega)]
    exact first_lt (by omega)
/-- The search in the program, by the table. -/
theorem fst_tab (x c : Int) : fst (fun k => decide (V x k ≥ c)) 0 1023 = min (firstL (tab x) c : Int) 1023 := by
  have hb := fst_bd (fun k => decide (V x k ≥ c)) (show (0 : Int) ≤ 1023 by omega)
  obtain ⟨r, hr⟩ : ∃ r, r = fst (fun k => decide (V x k ≥ c)) 0 1023 := ⟨_, rfl⟩
  have hA : ∀ k : Int, 0 ≤ k → k < r → V x k < c := fun k h0 h => by
    have := fst_before (fun k => decide (V x k ≥ c)) (lo := 0) (hi := 1023) h0 (by omega) (by omega)
    simpa using this
  have hB : r < 1023 → c ≤ V x r := fun h => by
    have := fst_at (fun k => decide (V x k ≥ c)) (lo := 0) (hi := 1023) (by omega)
    rw [← hr] at this
    simpa using this
  rw [← hr] at hb ⊢
  have hl := tab_len x
  have hf := first_le (tab x) c
  rcases Int.lt_or_le r 1023 with h | h
  · have : firstL (tab x) c = r.toNat := first_is (by omega) (fun i hi => by rw [tab_getD x (by omega)]; exact hA i (by omega) (by omega)) (fun _ => by
      rw [tab_getD x (by omega), Int.toNat_of_nonneg hb.1]; exact hB h)
    omega
  · have : 1023 ≤ firstL (tab x) c := by
      rcases Nat.lt_or_ge (firstL (tab x) c) 1023 with h1 | h1
      · have h2 := first_ge (l := tab x) (v := c) (by omega)
        rw [tab_getD x (by omega)] at h2
        have := hA (firstL (tab x) c : Int) (by omega) (by omega)
        omega
      · exact h1
    omega
theorem fst_tab2 (x : Int) (m : Nat) (hm : m ≤ 1022) (_ : 0 ≤ x) : fst (fun k => decide (V x k ≥ V x m)) 0 m = firstL (tab x) (V x m) := by
  have hb := fst_bd (fun k => decide (V x k ≥ V x m)) (show (0 : Int) ≤ m by omega)
  obtain ⟨r, hr⟩ : ∃ r, r = fst (fun k => decide (V x k ≥ V x m)) 0 m := ⟨_, rfl⟩
  have hA : ∀ k : Int, 0 ≤ k → k < r → V x k < V x m := fun k h0 h => by
    have := fst_before (fun k => decide (V x k ≥ V x m)) (lo := 0) (hi := m) h0 (by omega) (by omega)
    simpa using this
  have hB : r < m → V x m ≤ V x r := fun h => by
    have := fst_at (fun k => decide (V x k ≥ V x m)) (lo := 0) (hi := m) (by omega)
    rw [← hr] at this
    simpa using this
  rw [← hr] at hb ⊢
  have hl := tab_len x
  have : firstL (tab x) (V x m) = r.toNat := first_is (by omega) (fun i hi => by rw [tab_getD x (by omega)]; exact hA i (by omega) (by omega)) (fun _ => by
    rw [tab_getD x (by omega), Int.toNat_of_nonneg hb.1]
    rcases Int.lt_or_eq_of_le hb.2 with h | h
    · exact hB h
    · rw [h]; exact Int.le_refl _)
  omega
theorem near_qn (x great c : Int) (hx : 0 ≤ x) (_ : 0 ≤ c) (hg : c ≤ great) : nearL (upToL (tab x) great) c = qn x c := by
  have hl := tab_len x
  have hf := first_le (tab x) c
  have hlu := up_len x great
  have hfu := first_up x great c hg
  have hgle : firstL (tab x) c ≤ firstL (tab x) great := by
    rcases Nat.lt_or_ge (firstL (tab x) great) (firstL (tab x) c) with h | h
    · have h1 := first_lt h
      have h2 := first_ge (l := tab x) (v := great) (by omega)
      omega
    · exact h
  have hG : ∀ i, i < firstL (tab x) great + 1 → (upToL (tab x) great).getD i 0 = (tab x).getD i 0 := fun i hi => getD_take hi
  obtain ⟨f, hfe⟩ : ∃ f, f = firstL (tab x) c := ⟨_, rfl⟩
  have hlt : ∀ i, i < f → V x i < c := fun i hi => by
    have := first_lt (l := tab x) (v := c) (by omega : i < firstL (tab x) c)
    rwa [tab_getD x (by omega)] at this
  have hge : f < 1024 → c ≤ V x f := fun h => by
    have := first_ge (l := tab x) (v := c) (by omega)
    rwa [tab_getD x (by omega), ← hfe] at this
  unfold nearL qn
  rw [hfu, fst_tab, ← hfe]
  dsimp only
  by_cases h1 : f < 1024
  · rw [if_pos h1]
    rw [show min (f : Int) 1023 = f by omega]
    by_cases h0 : f = 0
    · rw [if_neg (by omega), if_pos (by omega), h0]; rfl
    · have g1 : (upToL (tab x) great).getD (f - 1) 0 = V x (f - 1 : Nat) := by rw [hG _ (by omega), tab_getD x (by omega)]
      have g2 : (upToL (tab x) great).getD f 0 = V x f := by rw [hG _ (by omega), tab_getD x (by omega)]
      have e1 : ((f : Int) - 1) = ((f - 1 : Nat) : Int) := by omega
      have v1 := hlt (f - 1) (by omega)
      have v2 := hge h1
      rw [g1, g2, if_neg (show ¬ (f : Int) = 0 by omega), e1]
      by_cases hc : c - V x (f - 1 : Nat) ≤ V x f - c
      · rw [if_pos (by omega), if_pos (by unfold absI; omega), first_up x great _ (by omega), fst_tab2 x (f - 1) (by omega) hx]
        have : firstL (tab x) (V x (f - 1 : Nat)) ≤ f - 1 := by
          rcases Nat.lt_or_ge (f - 1) (firstL (tab x) (V x (f - 1 : Nat))) with h | h
          · have := first_lt h
            rw [tab_getD x (by omega)] at this
            omega
          · exact h
        rw [if_pos (by omega)]
      · rw [if_neg (by omega), if_neg (by unfold absI; omega)]
  · have h2 : f = 1024 := by omega
    rw [if_neg h1]
    have h3 : (upToL (tab x) great).length = 1024 := by omega
    have g1 : (upToL (tab x) great).getD ((upToL (tab x) great).length - 1) 0 = V x 1023 := by rw [hG _ (by omega), h3, tab_getD x (by omega)]; rfl
    have v1 : V x 1023 < c := hlt 1023 (by omega)
    have v2 : V x 1022 < c := hlt 1022 (by omega)
    have vm := V_mono hx (show (0 : Int) ≤ 1022 by omega) (show (1022 : Int) ≤ 1023 by omega) (by omega)
    rw [if_pos (by omega), g1, show min (f : Int) 1023 = 1023 by omega, if_neg (show ¬ (1023 : Int) = 0 by omega), first_up x great _ (by omega), show (1023 : Int) - 1 = 1022 by omega]
    by_cases hv : V x 1022 = V x 1023
    · rw [if_pos (show absI (V x 1022 - c) ≤ absI (V x 1023 - c) by rw [hv]; exact Int.le_refl _), ← hv]
      have e := fst_tab2 x 1022 (by omega) hx
      rw [show ((1022 : Nat) : Int) = 1022 by rfl] at e
      rw [e]
      have : firstL (tab x) (V x 1022) ≤ 1022 := by
        rcases Nat.lt_or_ge 1022 (firstL (tab x) (V x 1022)) with h | h
        · have := first_lt h
          rw [tab_getD x (by omega)] at this
          exact absurd this (by show ¬ V x 1022 < _; omega)
        · exact h
      rw [if_pos (by omega)]
    · rw [if_neg (show ¬ absI (V x 1022 - c) ≤ absI (V x 1023 - c) by unfold absI; omega)]
      have : firstL (tab x) (V x 1023) = 1023 := first_is (by omega) (fun i hi => by
        rw [tab_getD x (by omega)]
        have := V_mono hx (show (0 : Int) ≤ (i : Int) by omega) (show (i : Int) ≤ 1022 by omega) (by omega)
        omega) (fun _ => by rw [tab_getD x (by omega)]; exact Int.le_refl _)
      rw [this]
      rfl

end Go.Proofs.Ytljadjoljhanfaa.Q15
/- Noise, the least scale and the greatest one, as plain functions. -/
namespace Go.Proofs.Ytljadjoljhanfaa.Q15

theorem peak_ge (l : List Int) : ∀ a, (∀ n ∈ l, n ≤ l.foldl (fun a n => max (max a n) (-n)) a ∧ -n ≤ l.foldl (fun a n => max (max a n) (-n)) a) ∧ a ≤ l.foldl (fun a n => max (max a n) (-n)) a := by
  induction l with
  | nil => intro a; exact ⟨by simp, Int.le_refl _⟩
  | cons n t ih =>
    intro a
    have h := ih (max (max a n) (-n))
    simp only [List.foldl_cons]
    refine ⟨fun x hx => ?_, by omega⟩
    rcases List.mem_cons.1 hx with rfl | hx
    · omega
    · exact h.1 x hx
theorem peak_abs {l : List Int} {n : Int} (h : n ∈ l) : absI n ≤ peakI l := by
  have := (peak_ge l 0).1 n h
  unfold absI peakI
  omega
theorem near_lt (l : List Int) (c : Int) (h : 1 ≤ l.length) : nearL l c < l.length := by
  have h1 := first_le l c
  have h3 : firstL l (l.getD (firstL l c - 1) 0) ≤ firstL l c - 1 := by
    rcases Nat.lt_or_ge (firstL l c - 1) (firstL l (l.getD (firstL l c - 1) 0)) with h2 | h2
    · have := first_lt h2
      omega
    · exact h2
  unfold nearL
  dsimp only
  split <;> omega
theorem V_zero (x : Int) : V x 0 = 0 := by
  unfold V
  rw [show P 0 = 0 by decide +kernel]
  omega
/-- A number less the value of its quantum, with signs. -/
theorem sq_sg (c v : Int) : (c - sg c v) * (c - sg c v) = (absI c - v) * (absI c - v) := by
  unfold sg absI
  split
  · rw [show max c (-c) = -c by omega, show c - -v = -(-c - v) by omega, Int.neg_mul_neg]
  · rw [show max c (-c) = c by omega]

theorem foldl_add (l : List Int) : ∀ a, l.foldl (· + ·) a = a + l.foldl (· + ·) 0 := by
  induction l with
  | nil => intro a; simp
  | cons n t ih => intro a; simp only [List.foldl_cons]; rw [ih (a + n), ih (0 + n)]; omega
theorem noiseI_nil (x : Int) : noiseI x [] = 0 := rfl
theorem noiseI_cons (x n : Int) (t : List Int) : noiseI x (n :: t) = dsq x n + noiseI x t := by
  unfold noiseI
  rw [List.map_cons, List.foldl_cons, foldl_add]
  omega
theorem noiseI_snoc (x n : Int) (t : List Int) : noiseI x (t ++ [n]) = noiseI x t + dsq x n := by
  unfold noiseI
  rw [List.map_append, List.foldl_append]
  rfl
theorem noiseI_bd {x : Int} (hx : 0 ≤ x) (l : List Int) (h : ∀ n ∈ l, -2097152 ≤ n ∧ n ≤ 2097152) : 0 ≤ noiseI x l ∧ noiseI x l ≤ l.length * 4398046511104 := by
  induction l with
  | nil => rw [noiseI_nil]; simp
  | cons n t ih =>
    have h1 := ih (fun y hy => h y (by simp [hy]))
    have h2 := h n (by simp)
    have h3 := dsq_bd hx h2.1 h2.2
    rw [noiseI_cons, List.length_cons]
    omega
/-- What was worked out is the noise, or both are above the limit. -/
theorem noiseTo_eq {x limit : Int} (hx : 0 ≤ x) (l : List Int) (h : ∀ n ∈ l, -2097152 ≤ n ∧ n ≤ 2097152) : ∀ s, s ≤ limit → (noiseTo x limit s l ≤ limit ↔ s + noiseI x l ≤ limit) ∧ (s + noiseI x l ≤ limit → noiseTo x limit s l = s + noiseI x l) := by
  induction l with
  | nil => intro s hs; rw [noiseI_nil]; simp [noiseTo, hs]
  | cons n t ih =>
    intro s hs
    have hn := h n (by simp)
    have hd := dsq_bd hx hn.1 hn.2
    have hb := noiseI_bd hx t (fun y hy => h y (by simp [hy]))
    rw [noiseI_cons]
    simp only [noiseTo]
    split
    · rename_i hgt
      exact ⟨⟨fun h => by omega, fun h => by omega⟩, fun h => by omega⟩
    · have := ih (fun y hy => h y (by simp [hy])) (s + dsq x n) (by omega)
      rw [show s + (dsq x n + noiseI x t) = s + dsq x n + noiseI x t by omega]
      exact this
theorem noiseTo_all {x : Int} (hx : 0 ≤ x) (l : List Int) (hl : l.length ≤ 128) (h : ∀ n ∈ l, -2097152 ≤ n ∧ n ≤ 2097152) : noiseTo x 72057594037927936 0 l = noiseI x l := by
  have hb := noiseI_bd hx l h
  have := (noiseTo_eq (limit := 72057594037927936) hx l h 0 (by omega)).2 (by omega)
  omega

theorem top_last : V (stepI 95) 1023 = 2097152 := by decide +kernel
theorem leastT_is {top s : Int} (h0 : 0 ≤ s) (h1 : s ≤ 95) (h2 : ∀ j, 0 ≤ j → j < s → V (stepI j) 1023 < top) (h3 : top ≤ V (stepI s) 1023) : leastT top = s := by
  unfold leastT
  refine (IsFirst.eq ⟨h0, h1, ?_, ?_⟩ (fun a b a0 ab b1 ha => ?_)).symm
  · rcases Int.lt_or_eq_of_le h0 with h | h
    · right
      have := h2 (s - 1) (by omega) (by omega)
      simpa using this
    · left; exact h.symm
  · right; simpa using h3
  · have := top_mono a0 ab (by omega)
    simp only [decide_eq_true_eq] at ha ⊢
    omega
theorem leastT_bd (top : Int) : 0 ≤ leastT top ∧ leastT top ≤ 95 := fst_bd _ (by omega)

/-- From one number down to another one. -/
def downL (a b : Int) : List Int := (List.range (a - b + 1).toNat).map fun k => a - (k : Nat)
theorem downL_mem {a b x : Int} : x ∈ downL a b ↔ b ≤ x ∧ x ≤ a := by
  unfold downL
  rw [List.mem_map]
  constructor
  · rintro ⟨k, hk, rfl⟩
    rw [List.mem_range] at hk
    omega
  · intro h
    exact ⟨(a - x).toNat, by rw [List.mem_range]; omega, by omega⟩
theorem downL_cons {a b : Int} (h : b ≤ a) : downL a b = a :: downL (a - 1) b := by
  unfold downL
  rw [show (a - b + 1).toNat = (a - 1 - b + 1).toNat + 1 by omega, List.range_succ_eq_map, List.map_cons, List.map_map]
  congr 1
  · omega
  · apply List.map_congr_left
    intro k _
    simp only [Function.comp]
    omega
theorem downL_nil {a b : Int} (h : a < b) : downL a b = [] := by
  unfold downL
  rw [show (a - b + 1).toNat = 0 by omega]
  rfl
/-- The greatest scale that fits, with which the noise is at most limit. -/
def mostI (l : List Int) (limit : Int) : Option Int := (downL 95 (leastI l)).find? fun s => decide (noiseI (stepI s) l ≤ limit)
theorem find_down {p : Int → Bool} {a b s : Int} (h0 : b ≤ s) (h1 : s ≤ a) (h2 : ∀ j, s < j → j ≤ a → p j = false) (h3 : p s = true) : (downL a b).find? p = some s := by
  obtain ⟨d, hd⟩ := Int.eq_ofNat_of_zero_le (show 0 ≤ a - s by omega)
  induction d generalizing a with
  | zero =>
    obtain rfl : a = s := by omega
    rw [downL_cons h0, List.find?_cons_of_pos h3]
  | succ d ih =>
    rw [downL_cons (by omega), List.find?_cons_of_neg (by rw [h2 a (by omega) (by omega)]; simp)]
    exact ih (by omega) (fun j j0 j1 => h2 j j0 (by omega)) (by omega)
theorem find_down_none {p : Int → Bool} {a b : Int} (h : ∀ j, b ≤ j → j ≤ a → p j = false) : (downL a b).find? p = none := by
  rw [List.find?_eq_none]
  intro x hx
  rw [downL_mem] at hx
  rw [h x hx.1 hx.2]
  simp

end Go.Proofs.Ytljadjoljhanfaa.Q15
/- What each function of layer 15's reference returns: numbers. -/
namespace Go.Proofs.Ytljadjoljhanfaa.Q15
open Go.RowKit Go.Proofs.YtljadjoljhanfaaW.PrintWords Go.Proofs.YtljadjoljhanfaaW.PrintLast Go.Proofs.YtljadjoljhanfaaW.PrintMore
attribute [local go_sem] max2_int min2_int max_two min_two max_three min_three

set_option maxHeartbeats 1000000 in
theorem cube_calls (n r : Int) (w : World) (hn0 : 0 ≤ n) (hn1 : n ≤ 4611686018427387904) (hr0 : 0 ≤ r) (hr1 : r * r * r ≤ n) (hr2 : n < (r + 1) * (r + 1) * (r + 1)) :
    Calls Try.prog 100 #[.int .i64 n] w fun e w' => e = .returned (.tuple #[.int .i64 r, .int .i64 0]) ∧ Below w.heap.size w w' := by
  have hR := Aside0.mk hr1
  have hR2 := Aside0.mk hr2
  clear hr1 hr2
  go_enter Try.func100, Try.ntmps100
  go_wp2
  go_loopw [4, 5] (fun a b wr => ∃ (x B : Int), a = .int .i64 x ∧ b = .int .i64 (B / 2) ∧ 0 ≤ x ∧ 1 ≤ B ∧ Aside0 (∃ j : Nat, B = 2 ^ j) ∧ x + B ≤ 2097152 ∧ Aside0 (x * x * x ≤ n) ∧ Aside0 (n < (x + B) * (x + B) * (x + B)) ∧ Below w.heap.size w wr) (fun _ b _ => (intOf b).toNat)
  case atStart => exact ⟨0, 2097152, rfl, rfl, by omega, by omega, ⟨21, by decide⟩, by omega, ⟨by omega⟩, ⟨by omega⟩, Below.refl _ _⟩
  case round =>
    obtain ⟨x, B, rfl, rfl, hx, hB, ⟨j, hj⟩, hxB, h1, h2, hb⟩ := hrel
    by_cases hlt : B = 1
    · subst hlt
      have e : x = r := cube_root hx hr0 h1.out h2.out hR.out hR2.out
      subst e
      clear hj
      go_wp2
      go_ret2
      exact ⟨rfl, hb⟩
    · have hj2 : ∃ k : Nat, B = 2 * 2 ^ k := by
        cases j with
        | zero => exact absurd hj (by omega)
        | succ k => exact ⟨k, by rw [hj, Int.pow_succ, Int.mul_comm]⟩
      obtain ⟨k, hk⟩ := hj2
      obtain ⟨C, hC⟩ : ∃ C : Int, C = 2 ^ k := ⟨_, rfl⟩
      rw [← hC] at hk
      have HC := Aside0.mk (⟨k, hC⟩ : ∃ k : Nat, C = 2 ^ k)
      clear hC hj
      subst hk
      have hd : 2 * C / 2 = C := by omega
      rw [hd]
      have hy : 0 ≤ x + C ∧ x + C ≤ 2097151 := by omega
      have hs := mul_bd hy.1 hy.2 hy.1 hy.2
      have hs3 := mul_bd hs.1 hs.2 hy.1 hy.2
      have e2 : x + 2 * C = x + C + C := by omega
      by_cases hle : (x + C) * (x + C) * (x + C) ≤ n
      · have HA := Aside0.mk hle
        have H2 : Aside0 (n < (x + C + C) * (x + C + C) * (x + C + C)) := ⟨by rw [← e2]; exact h2.out⟩
        clear h1 h2 e2 hd
        go_wp2
        go_roundw
        case rel => exact ⟨x + C, C, rfl, rfl, by omega, by omega, HC, by omega, HA, H2, hb⟩
        case measure => simp [intOf]; omega
      · have H2 : Aside0 (n < (x + C) * (x + C) * (x + C)) := ⟨by omega⟩
        have hle' : n < (x + C) * (x + C) * (x + C) := by omega
        clear h2 e2 hd
        go_wp2
        go_roundw
        case rel => exact ⟨x, C, rfl, rfl, by omega, by omega, HC, by omega, h1, H2, hb⟩
        case measure => simp [intOf]; omega

set_option maxHeartbeats 400000 in
theorem rpower_calls (q : Int) (w : World) (h0 : -1023 ≤ q) (h1 : q ≤ 1023) :
    Calls Try.prog 74 #[.int .i64 q] w fun e w' => e = .returned (.int .i64 (P (absI q))) ∧ Below w.heap.size w w' := by
  have ha : 0 ≤ absI q ∧ absI q ≤ 1023 := by unfold absI; omega
  have hc := P_cube ha.1 ha.2
  rw [← q4_abs] at hc
  have hp := P_bd (absI q)
  obtain ⟨p, hpe⟩ : ∃ p, p = P (absI q) := ⟨_, rfl⟩
  rw [← hpe] at hc hp ⊢
  have b1 : -4190208 ≤ 4096 * q ∧ 4096 * q ≤ 4190208 := by omega
  have b2 : 0 ≤ 4096 * q * q ∧ 4096 * q * q ≤ 4286582784 := by
    rcases Int.le_total 0 q with h | h
    · exact mul_bd (by omega) b1.2 h h1
    · have := mul_bd (a := -(4096 * q)) (b := -q) (by omega) (show -(4096 * q) ≤ 4190208 by omega) (by omega) (show -q ≤ 1023 by omega)
      rwa [Int.neg_mul_neg] at this
  have b3 : -4385174188032 ≤ 4096 * q * q * q ∧ 4096 * q * q * q ≤ 4385174188032 := by
    rcases Int.le_total 0 q with h | h
    · have := mul_bd b2.1 b2.2 h h1; omega
    · have := mul_bd b2.1 b2.2 (show 0 ≤ -q by omega) (show -q ≤ 1023 by omega)
      rw [Int.mul_neg] at this
      omega
  have b4 : 0 ≤ 4096 * q * q * q * q ∧ 4096 * q * q * q * q ≤ 4600000000000000 := by
    have h3 : 0 ≤ 4096 * q * q * q * q := by rw [q4_abs]; exact (mul_bd (mul_bd (mul_bd (mul_bd (by omega) (Int.le_refl 4096) ha.1 ha.2).1 (mul_bd (by omega) (Int.le_refl 4096) ha.1 ha.2).2 ha.1 ha.2).1 (mul_bd (mul_bd (by omega) (Int.le_refl 4096) ha.1 ha.2).1 (mul_bd (by omega) (Int.le_refl 4096) ha.1 ha.2).2 ha.1 ha.2).2 ha.1 ha.2).1 (mul_bd (mul_bd (mul_bd (by omega) (Int.le_refl 4096) ha.1 ha.2).1 (mul_bd (by omega) (Int.le_refl 4096) ha.1 ha.2).2 ha.1 ha.2).1 (mul_bd (mul_bd (by omega) (Int.le_refl 4096) ha.1 ha.2).1 (mul_bd (by omega) (Int.le_refl 4096) ha.1 ha.2).2 ha.1 ha.2).2 ha.1 ha.2).2 ha.1 ha.2).1
    refine ⟨h3, ?_⟩
    have h5 := mul_bd (show 0 ≤ p + 1 by omega) (show p + 1 ≤ 164926 by omega) (show 0 ≤ p + 1 by omega) (show p + 1 ≤ 164926 by omega)
    have h6 := mul_bd h5.1 h5.2 (show 0 ≤ p + 1 by omega) (show p + 1 ≤ 164926 by omega)
    omega
  have HC := fun w => cube_calls (4096 * q * q * q * q) p w b4.1 (by omega) hp.1 hc.1 hc.2
  replace HC := Aside0.mk HC
  clear hc hpe
  go_enter Try.func74, Try.ntmps74
  go_wp2_with (first | (go_at_call 100; refine (HC.out _).mono ?_; rintro e w' ⟨rfl, hb⟩))
  go_ret
  exact ⟨rfl, hb⟩

set_option maxHeartbeats 400000 in
theorem rstep_calls (s : Int) (w : World) (h0 : 0 ≤ s) (h1 : s ≤ 95) :
    Calls Try.prog 105 #[.int .i64 s] w fun e w' => e = .returned (.tuple #[.int .i64 (stepI s), .int .i64 0]) ∧ Below w.heap.size w w' := by
  obtain ⟨c, hc⟩ : ∃ c, c = ([4096, 4871, 5793, 6889] : List Int).getD (s % 4).toNat 0 := ⟨_, rfl⟩
  have hq : ([.int .i64 4096, .int .i64 4871, .int .i64 5793, .int .i64 6889] : List Value)[(s % 4).toNat]? = some (.int .i64 c) := by
    rw [hc]
    have : s % 4 = 0 ∨ s % 4 = 1 ∨ s % 4 = 2 ∨ s % 4 = 3 := by omega
    rcases this with h | h | h | h <;> rw [h] <;> rfl
  have h2 : (2 : Int) ^ (s / 4).toNat ≤ 2 ^ 23 := by
    have : (2 : Nat) ^ (s / 4).toNat ≤ 2 ^ 23 := Nat.pow_le_pow_right (by omega) (by omega)
    exact_mod_cast this
  have h3 : 0 ≤ c ∧ c ≤ 6889 := by
    rw [hc]
    have : s % 4 = 0 ∨ s % 4 = 1 ∨ s % 4 = 2 ∨ s % 4 = 3 := by omega
    rcases this with h | h | h | h <;> rw [h] <;> decide
  have h4 := mul_bd h3.1 h3.2 (Int.pow_nonneg (show (0 : Int) ≤ 2 by omega)) h2
  have HS : Aside0 (wrap64 ((wrap64 (c * 2 ^ (s / 4).toNat)).tdiv 256) = stepI s) := ⟨by
    rw [show wrap64 (c * 2 ^ (s / 4).toNat) = c * 2 ^ (s / 4).toNat from by unfold wrap64; omega, Int.tdiv_eq_ediv_of_nonneg h4.1, show stepI s = c * 2 ^ (s / 4).toNat / 256 from by rw [hc]; rfl]
    unfold wrap64
    omega⟩
  clear hc h2 h3 h4
  go_enter Try.func105, Try.ntmps105
  go_wp2
  go_ret2
  exact ⟨by rw [HS.out]; rfl, (Below.refl _ _).alloc (Nat.le_refl _) _⟩

set_option maxHeartbeats 400000 in
theorem near256_calls (a : Int) (w : World) (h0 : 0 ≤ a) (h1 : a ≤ 1152921504606846976) :
    Calls Try.prog 106 #[.int .i64 a, .int .i64 256] w fun e w' => e = .returned (.int .i64 ((2 * a + 256) / 512)) ∧ Below w.heap.size w w' := by
  by_cases h : 128 ≤ a % 256
  · have e : (2 * a + 256) / 512 = a / 256 + 1 := by omega
    rw [e]
    clear e
    go_enter Try.func106, Try.ntmps106
    go_wp2_with (first | go_in)
    go_ret
    exact ⟨rfl, Below.refl _ _⟩
  · have e : (2 * a + 256) / 512 = a / 256 := by omega
    rw [e]
    clear e
    go_enter Try.func106, Try.ntmps106
    go_wp2_with (first | go_in)
    go_ret
    exact ⟨rfl, Below.refl _ _⟩

set_option maxHeartbeats 400000 in
theorem stands_calls (p s : Int) (w : World) (hp0 : 0 ≤ p) (hp1 : p ≤ 164925) (h0 : 0 ≤ s) (h1 : s ≤ 95) :
    Calls Try.prog 85 #[.int .i64 p, .int .i64 s] w fun e w' => e = .returned (.int .i64 (min 2097152 ((2 * (p * stepI s) + 256) / 512))) ∧ Below w.heap.size w w' := by
  have hs := stepI_bd h0 h1
  have HS := fun w => rstep_calls s w h0 h1
  obtain ⟨x, hx⟩ : ∃ x, x = stepI s := ⟨_, rfl⟩
  rw [← hx] at hs HS ⊢
  have hm := mul_bd hp0 hp1 (show 0 ≤ x by omega) hs.2
  have HN := fun w => near256_calls (p * x) w hm.1 (by omega)
  replace HS := Aside0.mk HS
  replace HN := Aside0.mk HN
  clear hx
  go_enter Try.func85, Try.ntmps85
  go_wp2_with (first | (go_at_call 105; refine (HS.out _).mono ?_; rintro e w' ⟨rfl, hb0⟩) | (go_at_call 106; refine (HN.out _).mono ?_; rintro e w' ⟨rfl, hb1⟩))
  all_goals
    go_ret
    exact ⟨ret_int (by omega), bnx hb0 hb1⟩

theorem V_min (x q : Int) : min 2097152 ((2 * (P q * x) + 256) / 512) = V x q := by unfold V; rw [Int.min_comm, Int.mul_assoc]

end Go.Proofs.Ytljadjoljhanfaa.Q15
/- What each function of layer 15's reference returns: tables. -/
namespace Go.Proofs.Ytljadjoljhanfaa.Q15
open Go.RowKit Go.Proofs.YtljadjoljhanfaaW.PrintWords Go.Proofs.YtljadjoljhanfaaW.PrintLast Go.Proofs.YtljadjoljhanfaaW.PrintMore
attribute [local go_sem] max2_int min2_int max_two min_two max_three min_three

def Rising (l : List Int) : Prop := ∀ i j : Nat, i ≤ j → j < l.length → l.getD i 0 ≤ l.getD j 0
theorem rd_getD (l : List Int) (i : Int) : rd l i = l.getD i.toNat 0 := rfl

set_option maxHeartbeats 400000 in
theorem rfirst_calls (A : Option Addr) (cap : Nat) (l : List Int) (v : Int) (w : World) (hr : (Kd.int .i64).C w A l.length l) (hl : l.length ≤ 1099511627776) (hs : Rising l) :
    Calls Try.prog 104 #[.slice A l.length cap, .int .i64 v] w fun e w' => e = .returned (.int .i64 (firstL l v)) ∧ Below w.heap.size w w' := by
  have HR := Aside0.mk hr
  have HS := Aside0.mk hs
  clear hr hs
  go_enter Try.func104, Try.ntmps104
  go_wp2
  go_loopw [5, 6] (fun a b wr => ∃ x y : Int, a = .int .i64 x ∧ b = .int .i64 y ∧ 0 ≤ x ∧ x ≤ y ∧ y ≤ l.length ∧ Aside0 (x = 0 ∨ rd l (x - 1) < v) ∧ Aside0 (y = l.length ∨ v ≤ rd l y) ∧ Below w.heap.size w wr) (fun a b _ => (intOf b - intOf a).toNat)
  case atStart => exact ⟨0, l.length, rfl, rfl, by omega, by omega, by omega, ⟨.inl rfl⟩, ⟨.inl rfl⟩, Below.refl _ _⟩
  case round =>
    obtain ⟨x, y, rfl, rfl, hx, hxy, hy, h1, h2, hb⟩ := hrel
    by_cases hlt : x < y
    · obtain ⟨m, hm⟩ : ∃ m, m = (x + y) / 2 := ⟨_, rfl⟩
      have hmb : x ≤ m ∧ m < y := by omega
      obtain ⟨ad, rfl, hcell⟩ := Kd.at_int HR.out m (by omega) (by omega)
      replace hcell := cnx hcell hb
      obtain ⟨z, hz⟩ : ∃ z, z = rd l m := ⟨_, rfl⟩
      rw [← hz] at hcell
      have HZ := Aside0.mk hz
      clear hz
      subst hm
      by_cases hge : v ≤ z
      · go_wp2
        go_roundw
        case rel => exact ⟨x, (x + y) / 2, rfl, rfl, hx, by omega, by omega, h1, ⟨.inr (by rw [← HZ.out]; exact hge)⟩, hb⟩
        case measure => simp [intOf]; omega
      · have hge' : z < v := by omega
        go_wp2
        go_roundw
        case rel => exact ⟨(x + y) / 2 + 1, y, rfl, rfl, by omega, by omega, hy, ⟨.inr (by rw [show (x + y) / 2 + 1 - 1 = (x + y) / 2 by omega, ← HZ.out]; exact hge')⟩, h2, hb⟩
        case measure => simp [intOf]; omega
    · obtain rfl : x = y := by omega
      have e : firstL l v = x.toNat := first_is (by omega) (fun i hi => by
        have h3 := h1.out.resolve_left (by omega)
        have h4 := HS.out i (x - 1).toNat (by omega) (by omega)
        rw [rd_getD] at h3
        omega) (fun hi => by
        have h3 := h2.out.resolve_left (by omega)
        rw [rd_getD] at h3
        exact h3)
      have HE := Aside0.mk e
      clear e
      go_wp2
      go_ret
      exact ⟨ret_int (by have := HE.out; omega), hb⟩

theorem near_bd (l : List Int) (c : Int) : 0 ≤ nearL l c ∧ nearL l c ≤ l.length := by
  have h1 := first_le l c
  have h2 := first_le l (l.getD (firstL l c - 1) 0)
  unfold nearL
  dsimp only
  split <;> omega

set_option maxHeartbeats 1000000 in
theorem nearest_calls (A : Option Addr) (cap : Nat) (l : List Int) (c : Int) (w : World) (hr : (Kd.int .i64).C w A l.length l) (hl : l.length ≤ 1099511627776) (hl0 : 1 ≤ l.length) (hs : Rising l) (hc0 : -1099511627776 ≤ c) (hc1 : c ≤ 1099511627776)
    (hb : ∀ x ∈ l, 0 ≤ x ∧ x ≤ 1099511627776) :
    Calls Try.prog 81 #[.int .i64 c, .slice A l.length cap] w fun e w' => e = .returned (.int .i64 (sg c (nearL l (absI c)))) ∧ Below w.heap.size w w' := by
  have HF := fun v W hb => rfirst_calls A cap l v W (Kd.C_below hr hb) hl hs
  replace HF := Aside0.mk HF
  have HR := Aside0.mk hr
  have HBD := Aside0.mk hb
  clear hr hs hb
  obtain ⟨m, hm⟩ : ∃ m, m = absI c := ⟨_, rfl⟩
  have hdi : (c < 0 ∧ m = -c) ∨ (¬ c < 0 ∧ m = c) := by rw [hm]; unfold absI; omega
  have hmb : 0 ≤ m ∧ m ≤ 1099511627776 := by omega
  rw [← hm]
  have hN := near_bd l m
  have hfe := first_le l m
  have hnl : nearL l m = if firstL l m = l.length ∨ (firstL l m > 0 ∧ m - l.getD (firstL l m - 1) 0 ≤ l.getD (firstL l m) 0 - m) then (firstL l (l.getD (firstL l m - 1) 0) : Int) else (firstL l m : Int) := rfl
  have HF1 := fun W hb => HF.out m W hb
  obtain ⟨f, hf⟩ : ∃ f, f = firstL l m := ⟨_, rfl⟩
  rw [← hf] at hfe hnl HF1
  obtain ⟨r, hr⟩ : ∃ r, r = nearL l m := ⟨_, rfl⟩
  rw [← hr] at hN hnl ⊢
  replace HF1 := Aside0.mk HF1
  clear hm hf hr
  by_cases hp : f = l.length ∨ (f > 0 ∧ m - l.getD (f - 1) 0 ≤ l.getD f 0 - m)
  · rw [if_pos hp] at hnl
    have hf1 : 1 ≤ f := by omega
    obtain ⟨ad, rfl, hcell⟩ := Kd.at_int HR.out ((f : Int) - 1) (by omega) (by omega)
    rw [rd_getD, show ((f : Int) - 1).toNat = f - 1 by omega] at hcell
    have hzb : 0 ≤ l.getD (f - 1) 0 ∧ l.getD (f - 1) 0 ≤ 1099511627776 := HBD.out _ (by rw [List.getD_eq_getElem?_getD, List.getElem?_eq_getElem (by omega), Option.getD_some]; exact List.getElem_mem _)
    obtain ⟨z, hz⟩ : ∃ z, z = l.getD (f - 1) 0 := ⟨_, rfl⟩
    rw [← hz] at hcell hnl hp hzb
    have HF2 := fun W hb => HF.out z W hb
    obtain ⟨r2, hr2⟩ : ∃ r2, r2 = firstL l z := ⟨_, rfl⟩
    rw [← hr2] at hnl HF2
    replace HF2 := Aside0.mk HF2
    clear hz hr2
    subst hnl
    by_cases ha : f = l.length
    · have ht1 : ((f : Int) == (l.length : Int)) = true := by rw [beq_iff_eq]; omega
      clear hp ha
      rcases hdi with ⟨hneg, rfl⟩ | ⟨hneg, rfl⟩
      all_goals
        go_enter Try.func81, Try.ntmps81
        go_wp2_with fail
        refine (HF1.out _ (Below.refl _ _)).mono ?_
        rintro e w1 ⟨rfl, hb0⟩
        replace hcell := cnx hcell hb0
        go_wp2_with fail
        go_quiet (fail)
        go_wp2_with fail
        have hb1 := below_drewN' hb0 nq
        refine (HF2.out _ hb1).mono ?_
        rintro e w2 ⟨rfl, hb2⟩
        go_wp2
        go_ret
        exact ⟨ret_int (by unfold sg; split <;> omega), bnx hb1 hb2⟩
    · have hc := hp.resolve_left ha
      have ht1 : ((f : Int) == (l.length : Int)) = false := by rw [beq_eq_false_iff_ne]; omega
      have ht2 : decide (0 < f) = true := by simp; omega
      obtain ⟨ad2, he2, hcell2⟩ := Kd.at_int HR.out (f : Int) (by omega) (by omega)
      cases he2
      rw [rd_getD, Int.toNat_natCast] at hcell2
      have hzb2 : 0 ≤ l.getD f 0 ∧ l.getD f 0 ≤ 1099511627776 := HBD.out _ (by rw [List.getD_eq_getElem?_getD, List.getElem?_eq_getElem (by omega), Option.getD_some]; exact List.getElem_mem _)
      have hcd := hc.2
      obtain ⟨z2, hz2⟩ : ∃ z2, z2 = l.getD f 0 := ⟨_, rfl⟩
      rw [← hz2] at hcell2 hzb2 hcd
      have hflt : (f : Int) < (l.length : Int) := by omega
      clear hp ha hc hz2
      rcases hdi with ⟨hneg, rfl⟩ | ⟨hneg, rfl⟩
      all_goals
        go_enter Try.func81, Try.ntmps81
        go_wp2_with fail
        refine (HF1.out _ (Below.refl _ _)).mono ?_
        rintro e w1 ⟨rfl, hb0⟩
        replace hcell := cnx hcell hb0
        replace hcell2 := cnx hcell2 hb0
        go_wp2_with fail
        go_quiet (fail)
        go_wp2_with fail
        have hb1 := below_drewN' hb0 nq
        refine (HF2.out _ hb1).mono ?_
        rintro e w2 ⟨rfl, hb2⟩
        go_wp2
        go_ret
        exact ⟨ret_int (by unfold sg; split <;> omega), bnx hb1 hb2⟩
  · rw [if_neg hp] at hnl
    have hfl : f < l.length := by omega
    have ht1 : ((f : Int) == (l.length : Int)) = false := by rw [beq_eq_false_iff_ne]; omega
    subst hnl
    by_cases h0 : f = 0
    · have ht2 : decide (0 < f) = false := by simp; omega
      clear hp h0
      rcases hdi with ⟨hneg, rfl⟩ | ⟨hneg, rfl⟩
      all_goals
        go_enter Try.func81, Try.ntmps81
        go_wp2_with fail
        refine (HF1.out _ (Below.refl _ _)).mono ?_
        rintro e w1 ⟨rfl, hb0⟩
        go_wp2_with fail
        go_quiet (fail)
        have hb1 := below_drewN' hb0 nq
        go_wp2
        go_ret
        exact ⟨ret_int (by unfold sg; split <;> omega), hb1⟩
    · have ht2 : decide (0 < f) = true := by simp; omega
      have hcd : ¬ (m - l.getD (f - 1) 0 ≤ l.getD f 0 - m) := fun h => hp (.inr ⟨by omega, h⟩)
      obtain ⟨ad, rfl, hcell⟩ := Kd.at_int HR.out ((f : Int) - 1) (by omega) (by omega)
      rw [rd_getD, show ((f : Int) - 1).toNat = f - 1 by omega] at hcell
      have hzb : 0 ≤ l.getD (f - 1) 0 ∧ l.getD (f - 1) 0 ≤ 1099511627776 := HBD.out _ (by rw [List.getD_eq_getElem?_getD, List.getElem?_eq_getElem (by omega), Option.getD_some]; exact List.getElem_mem _)
      obtain ⟨z, hz⟩ : ∃ z, z = l.getD (f - 1) 0 := ⟨_, rfl⟩
      rw [← hz] at hcell hzb hcd
      obtain ⟨ad2, he2, hcell2⟩ := Kd.at_int HR.out (f : Int) (by omega) (by omega)
      cases he2
      rw [rd_getD, Int.toNat_natCast] at hcell2
      have hzb2 : 0 ≤ l.getD f 0 ∧ l.getD f 0 ≤ 1099511627776 := HBD.out _ (by rw [List.getD_eq_getElem?_getD, List.getElem?_eq_getElem (by omega), Option.getD_some]; exact List.getElem_mem _)
      obtain ⟨z2, hz2⟩ : ∃ z2, z2 = l.getD f 0 := ⟨_, rfl⟩
      rw [← hz2] at hcell2 hzb2 hcd
      have hcd' : z2 - m < m - z := by omega
      have hflt : (f : Int) < (l.length : Int) := by omega
      have hf1 : 1 ≤ f := by omega
      clear hp hz2 hz h0 hcd
      rcases hdi with ⟨hneg, rfl⟩ | ⟨hneg, rfl⟩
      all_goals
        go_enter Try.func81, Try.ntmps81
        go_wp2_with fail
        refine (HF1.out _ (Below.refl _ _)).mono ?_
        rintro e w1 ⟨rfl, hb0⟩
        replace hcell := cnx hcell hb0
        replace hcell2 := cnx hcell2 hb0
        go_wp2_with fail
        go_quiet (fail)
        have hb1 := below_drewN' hb0 nq
        go_wp2
        go_ret
        exact ⟨ret_int (by unfold sg; split <;> omega), hb1⟩

end Go.Proofs.Ytljadjoljhanfaa.Q15
/- What each function of layer 15's reference returns: lists. -/
namespace Go.Proofs.Ytljadjoljhanfaa.Q15
open Go.RowKit Go.Proofs.YtljadjoljhanfaaW.PrintWords Go.Proofs.YtljadjoljhanfaaW.PrintLast Go.Proofs.YtljadjoljhanfaaW.PrintMore
attribute [local go_sem] max2_int min2_int max_two min_two max_three min_three

theorem pow_rd (k : Nat) : rd powTab k = P k := by unfold rd P; rw [Int.toNat_natCast]
theorem tab_take (x : Int) {k : Nat} (h : k < 1024) : (tab x).take (k + 1) = (tab x).take k ++ [V x k] := by
  rw [List.take_succ_eq_append_getElem (by rw [tab_len]; exact h), tab_at x h]
theorem tab_rising {x : Int} (hx : 0 ≤ x) : Rising (tab x) := fun i j hij hj => by
  rw [tab_len] at hj
  rw [tab_getD x (by omega), tab_getD x hj]
  exact V_mono hx (by omega) (by omega) (by omega)
theorem rising_take {l : List Int} (h : Rising l) (n : Nat) : Rising (l.take n) := fun i j hij hj => by
  rw [List.length_take] at hj
  rw [getD_take (by omega), getD_take (by omega)]
  exact h i j hij (by omega)
theorem up_rising {x : Int} (hx : 0 ≤ x) (g : Int) : Rising (upToL (tab x) g) := rising_take (tab_rising hx) _
theorem up_bd {x : Int} (hx : 0 ≤ x) (g : Int) : ∀ y ∈ upToL (tab x) g, 0 ≤ y ∧ y ≤ 2097152 := fun y hy => by
  have := List.mem_of_mem_take hy
  obtain ⟨k, hk, rfl⟩ := List.mem_iff_getElem.1 this
  rw [tab_len] at hk
  rw [tab_at x hk]
  exact V_bd _ hx
theorem up_pos (x g : Int) : 1 ≤ (upToL (tab x) g).length ∧ (upToL (tab x) g).length ≤ 1024 := by rw [up_len]; omega

set_option maxHeartbeats 400000 in
theorem Powers_calls (w : World) :
    Calls Try.prog 40 #[] w fun e w' => ∃ v : Value, e = .returned v ∧ (Kd.int .i64).R 3 w' w.heap.size (fun _ => True) v powTab ∧ Below w.heap.size w w' := by
  have hpl := powTab_len
  go_enter Try.func40, Try.ntmps40
  go_wp2
  go_loopw [1, 3] (fun o i wr => ∃ k : Nat, i = .int .i64 k ∧ (k : Int) ≤ 1024 ∧ Aside0 ((Kd.int .i64).R 3 wr w.heap.size (fun _ => True) o (powTab.take k)) ∧ Below w.heap.size w wr) (fun _ i _ => (1024 - intOf i).toNat)
  case atStart => exact ⟨0, rfl, by omega, ⟨Kd.R_nil _ _ _ _ _⟩, Below.refl _ _⟩
  case round =>
    obtain ⟨k, rfl, hk, ho, hb⟩ := hrel
    by_cases hlt : (k : Int) < 1024
    · have HC := fun w => rpower_calls k w (by omega) (by omega)
      rw [show absI (k : Int) = k by unfold absI; omega, ← pow_rd] at HC
      have HT := Aside0.mk (take_rd powTab k (by omega))
      obtain ⟨x, hx⟩ : ∃ x, x = rd powTab k := ⟨_, rfl⟩
      rw [← hx] at HC HT
      obtain ⟨y, hy⟩ : ∃ y, y = powTab.take k := ⟨_, rfl⟩
      have hyl : y.length ≤ 1099511627776 := by rw [hy]; simp; omega
      rw [← hy] at ho HT
      replace HC := Aside0.mk HC
      clear hx hy hpl
      go_wp2_with (first | (go_at_call 74; refine (HC.out _).mono ?_; rintro e w' ⟨rfl, hb1⟩; have HO1 := Aside0.mk (Kd.R_below ho.out hb1); have HB1 := Aside0.mk (bnx hb hb1); clear ho hb hb1) | (at_builtin; refine Kd.R_append (Kd.int .i64) (w0 := w) w.heap.size rfl (.tmp 6) (.tmp 9) 22 3 (.int .i64 0) 8 rfl Try.underlying22 info_int rfl (by decide) (by omega) u1 y (x) [.int .i64 (x)] (fun _ => True) (fun _ => False) rfl rfl rfl (fun _ hk => hk.elim) (fun _ _ => trivial) HO1.out HB1.out HB1.out.size (by omega) ?_; intro v1 wA hoA hbA hgA hatA; have HOA := Aside0.mk hoA; have HBA := Aside0.mk hbA; clear hoA hbA hgA hatA))
      go_roundw
      case rel => exact ⟨k + 1, by go_num, by omega, ⟨by rw [HT.out]; exact HOA.out⟩, HBA.out⟩
      case measure => simp [intOf]; omega
    · obtain rfl : k = 1024 := by omega
      have e : powTab.take 1024 = powTab := List.take_of_length_le (by omega)
      rw [e] at ho
      clear e
      go_wp2
      go_ret
      exact ⟨_, rfl, ho.out, hb⟩

set_option maxRecDepth 100000 in
set_option maxHeartbeats 1000000 in
theorem values_calls (A : Option Addr) (cap : Nat) (s g : Int) (w : World) (hr : (Kd.int .i64).C w A powTab.length powTab) (h2 : 0 ≤ s) (h3 : s ≤ 95) :
    Calls Try.prog 79 #[.slice A powTab.length cap, .int .i64 s, .int .i64 g] w fun e w' => ∃ v : Value, e = .returned v ∧ (Kd.int .i64).R 3 w' w.heap.size (fun _ => True) v (upToL (tab (stepI s)) g) ∧ Below w.heap.size w w' := by
  have hs := stepI_bd h2 h3
  have HS := fun p w hp0 hp1 => stands_calls p s w hp0 hp1 h2 h3
  have hpl := powTab_len
  have HR := Aside0.mk hr
  obtain ⟨x, hx⟩ : ∃ x, x = stepI s := ⟨_, rfl⟩
  rw [← hx] at hs HS ⊢
  replace HS := Aside0.mk HS
  obtain ⟨n, hn⟩ : ∃ n, n = powTab.length := ⟨_, rfl⟩
  rw [← hn] at HR hpl ⊢
  clear hx hr hn
  go_enter Try.func79, Try.ntmps79
  go_wp2
  go_loopw [7, 13] (fun o i wr => ∃ k : Nat, i = .int .i64 k ∧ k ≤ n ∧ Aside0 (∀ j, j < k → (tab x).getD j 0 < g) ∧ Aside0 ((Kd.int .i64).R 3 wr w.heap.size (fun _ => True) o ((tab x).take k)) ∧ Below w.heap.size w wr) (fun _ i _ => n - (intOf i).toNat)
  case atStart => exact ⟨0, rfl, by omega, ⟨fun j hj => by omega⟩, ⟨Kd.R_nil _ _ _ _ _⟩, Below.refl _ _⟩
  case round =>
    obtain ⟨k, rfl, hk, hj, ho, hb⟩ := hrel
    by_cases hlt : k < n
    · obtain ⟨ad, rfl, hcell⟩ := Kd.at_int HR.out (k : Int) (by omega) (by omega)
      rw [pow_rd, Int.toNat_natCast] at hcell
      replace hcell := cnx hcell hb
      have hp := P_bd k
      have HC := fun w => HS.out (P k) w hp.1 hp.2
      rw [V_min] at HC
      have HT := Aside0.mk (tab_take x (show k < 1024 by omega))
      have HG := Aside0.mk (tab_getD x (show k < 1024 by omega))
      have hv := V_bd (x := x) k (by omega)
      obtain ⟨p, hpe⟩ : ∃ p, p = P k := ⟨_, rfl⟩
      obtain ⟨v, hv'⟩ : ∃ v, v = V x k := ⟨_, rfl⟩
      rw [← hpe] at hcell hp HC
      rw [← hv'] at HC HT HG hv
      obtain ⟨y, hy⟩ : ∃ y, y = (tab x).take k := ⟨_, rfl⟩
      have hyl : y.length ≤ 1099511627776 := by rw [hy]; simp; omega
      rw [← hy] at ho HT
      replace HC := Aside0.mk HC
      have HJ1 : Aside0 (v < g → ∀ j, j < k + 1 → (tab x).getD j 0 < g) := ⟨fun h j h1 => by
        rcases Nat.lt_succ_iff_lt_or_eq.1 h1 with h2 | rfl
        · exact hj.out j h2
        · rw [HG.out]; exact h⟩
      have HJ2 : Aside0 (g ≤ v → upToL (tab x) g = y ++ [v]) := ⟨fun h => by
        unfold upToL
        rw [first_is (j := k) (by rw [tab_len]; omega) hj.out (fun _ => by rw [HG.out]; exact h), HT.out]⟩
      have hnb : (n : Int) ≤ 1024 := by omega
      clear hpe hv' hy hj hpl hs h2 h3
      by_cases hge : g ≤ v
      · go_wp2_with (first | (go_at_call 85; refine (HC.out _).mono ?_; rintro e w' ⟨rfl, hb1⟩; have HO1 := Aside0.mk (Kd.R_below ho.out hb1); have HB1 := Aside0.mk (bnx hb hb1); clear ho hb hb1) | (at_builtin; refine Kd.R_append (Kd.int .i64) (w0 := w) w.heap.size rfl (.tmp 20) (.tmp 22) 22 3 (.int .i64 0) 8 rfl Try.underlying22 info_int rfl (by decide) (by omega) u7 y (v) [.int .i64 (v)] (fun _ => True) (fun _ => False) rfl rfl rfl (fun _ hk => hk.elim) (fun _ _ => trivial) HO1.out HB1.out HB1.out.size (by omega) ?_; intro v1 wA hoA hbA hgA hatA; have HOA := Aside0.mk hoA; have HBA := Aside0.mk hbA; clear hoA hbA hgA hatA))
        go_ret
        exact ⟨_, rfl, by rw [HJ2.out hge]; exact HOA.out, HBA.out⟩
      · go_wp2_with (first | (go_at_call 85; refine (HC.out _).mono ?_; rintro e w' ⟨rfl, hb1⟩; have HO1 := Aside0.mk (Kd.R_below ho.out hb1); have HB1 := Aside0.mk (bnx hb hb1); clear ho hb hb1) | (at_builtin; refine Kd.R_append (Kd.int .i64) (w0 := w) w.heap.size rfl (.tmp 20) (.tmp 22) 22 3 (.int .i64 0) 8 rfl Try.underlying22 info_int rfl (by decide) (by omega) u7 y (v) [.int .i64 (v)] (fun _ => True) (fun _ => False) rfl rfl rfl (fun _ hk => hk.elim) (fun _ _ => trivial) HO1.out HB1.out HB1.out.size (by omega) ?_; intro v1 wA hoA hbA hgA hatA; have HOA := Aside0.mk hoA; have HBA := Aside0.mk hbA; clear hoA hbA hgA hatA))
        go_roundw
        case rel => exact ⟨k + 1, by go_num, by omega, ⟨HJ1.out (by omega)⟩, ⟨by rw [HT.out]; exact HOA.out⟩, HBA.out⟩
        case measure => simp [intOf]; omega
    · obtain rfl : k = n := by omega
      have e : (tab x).take k = upToL (tab x) g := by
        unfold upToL
        have : firstL (tab x) g = 1024 := first_is (by rw [tab_len]; omega) (fun i hi => hj.out i (by omega)) (fun h => by rw [tab_len] at h; omega)
        rw [this, List.take_of_length_le (by rw [tab_len]; omega), List.take_of_length_le (by rw [tab_len]; omega)]
      rw [e] at ho
      clear e
      go_wp2
      go_ret
      exact ⟨_, rfl, ho.out, hb⟩

end Go.Proofs.Ytljadjoljhanfaa.Q15
/- What each function of layer 15's reference returns: errors, quanta, values. -/
namespace Go.Proofs.Ytljadjoljhanfaa.Q15
open Go.RowKit Go.Proofs.YtljadjoljhanfaaW.PrintWords Go.Proofs.YtljadjoljhanfaaW.PrintLast Go.Proofs.YtljadjoljhanfaaW.PrintMore
attribute [local go_sem] max2_int min2_int max_two min_two max_three min_three

def within (m : Int) (n : Int) : Bool := decide (-m ≤ n ∧ n ≤ m)

set_option maxHeartbeats 400000 in
theorem within_calls (m : Int) (A : Option Addr) (cap : Nat) (l : List Int) (w : World) (hr : (Kd.int .i64).C w A l.length l) (hl : l.length ≤ 1099511627776) (hm0 : 0 ≤ m) (hm1 : m ≤ 1099511627776) :
    Calls Try.prog 73 #[.int .i64 m, .slice A l.length cap] w fun e w' => e = .returned (.bool (l.all (within m))) ∧ Below w.heap.size w w' := by
  have HR := Aside0.mk hr
  clear hr
  go_enter Try.func73, Try.ntmps73
  go_wp2
  go_loopw [9] (fun i wr => ∃ k : Nat, i = .int .i64 k ∧ k ≤ l.length ∧ Aside0 ((l.take k).all (within m) = true) ∧ Below w.heap.size w wr) (fun i _ => l.length - (intOf i).toNat)
  case atStart => exact ⟨0, rfl, by omega, ⟨by simp⟩, Below.refl _ _⟩
  case round =>
    obtain ⟨k, rfl, hk, ha, hb⟩ := hrel
    by_cases hlt : k < l.length
    · obtain ⟨ad, rfl, hcell⟩ := el_at HR.out hb hlt
      have HT := Aside0.mk (take_rd l k hlt)
      have HRD := Aside0.mk (rd_mem l k hlt)
      obtain ⟨x, hx⟩ : ∃ x, x = rd l k := ⟨_, rfl⟩
      rw [← hx] at hcell HT HRD
      clear hx
      by_cases h1 : x < -m
      · have hno := HRD.out
        have HE : Aside0 (l.all (within m) = false) := ⟨List.all_eq_false.2 ⟨x, HRD.out, by unfold within; simp; omega⟩⟩
        clear hno
        go_wp2
        go_ret
        exact ⟨by rw [HE.out]; rfl, hb⟩
      · by_cases h2 : m < x
        · have HE : Aside0 (l.all (within m) = false) := ⟨List.all_eq_false.2 ⟨x, HRD.out, by unfold within; simp; omega⟩⟩
          go_wp2
          go_ret
          exact ⟨by rw [HE.out]; rfl, hb⟩
        · have hd1 : decide (x < -m) = false := by simp; omega
          have hd2 : decide (m < x) = false := by simp; omega
          have HX : Aside0 (within m x = true) := ⟨by unfold within; simp; omega⟩
          go_wp2
          go_roundw
          case rel => exact ⟨k + 1, by go_num, by omega, ⟨by rw [HT.out, List.all_append, ha.out]; simp [HX.out]⟩, hb⟩
          case measure => simp [intOf]; omega
    · obtain rfl : k = l.length := by omega
      go_wp2
      go_ret
      refine ⟨?_, hb⟩
      have := ha.out
      rw [List.take_length] at this
      rw [this]
      rfl

set_option maxHeartbeats 400000 in
theorem Within_calls (m : Int) (A : Option Addr) (cap : Nat) (l : List Int) (w : World) (hr : (Kd.int .i64).C w A l.length l) (hl : l.length ≤ 1099511627776) (hm0 : 0 ≤ m) (hm1 : m ≤ 1099511627776) :
    Calls Try.prog 38 #[.int .i64 m, .slice A l.length cap] w fun e w' => e = .returned (.bool (l.all (within m))) ∧ Below w.heap.size w w' := by
  have HW := fun W hb => within_calls m A cap l W (Kd.C_below hr hb) hl hm0 hm1
  replace HW := Aside0.mk HW
  clear hr
  go_enter Try.func38, Try.ntmps38
  go_wp2_with (first | (go_at_call 73; refine (HW.out _ (Below.refl _ _)).mono ?_; rintro e w' ⟨rfl, hb⟩))
  go_ret
  exact ⟨rfl, hb⟩

/-- The error of a list. -/
def errL (m : Int) (l : List Int) : Int := if l.length ≤ 128 then if l.all (within m) then 0 else 6 else 2

set_option maxHeartbeats 400000 in
theorem list_calls (m : Int) (A : Option Addr) (cap : Nat) (l : List Int) (w : World) (hr : (Kd.int .i64).C w A l.length l) (hm0 : 0 ≤ m) (hm1 : m ≤ 1099511627776) :
    Calls Try.prog 64 #[.slice A l.length cap, .int .i64 m] w fun e w' => e = .returned (.int .i64 (errL m l)) ∧ Below w.heap.size w w' := by
  have HW := fun (hl : l.length ≤ 128) W hb => Within_calls m A cap l W (Kd.C_below hr hb) (by omega) hm0 hm1
  replace HW := Aside0.mk HW
  clear hr
  unfold errL
  by_cases hn : l.length ≤ 128
  · rw [if_pos hn]
    cases k : l.all (within m) with
    | true =>
      rw [k] at HW
      go_enter Try.func64, Try.ntmps64
      go_wp2_with (first | (go_at_call 38; refine (HW.out hn _ (Below.refl _ _)).mono ?_; rintro e w' ⟨rfl, hb⟩))
      go_ret
      exact ⟨rfl, hb⟩
    | false =>
      rw [k] at HW
      go_enter Try.func64, Try.ntmps64
      go_wp2_with (first | (go_at_call 38; refine (HW.out hn _ (Below.refl _ _)).mono ?_; rintro e w' ⟨rfl, hb⟩))
      go_ret
      exact ⟨rfl, hb⟩
  · rw [if_neg hn]
    have hn' : (128 : Int) < (l.length : Int) := by omega
    go_enter Try.func64, Try.ntmps64
    go_wp2
    go_ret
    exact ⟨rfl, Below.refl _ _⟩

theorem within_C : within 2097152 = isC := by funext n; unfold within isC; rfl
theorem within_Q : within 1023 = isQ := by funext n; unfold within isQ; rfl
theorem chk_err {s : Int} (h : isS s = true) (l : List Int) : chk isC l s = errL 2097152 l ∧ chk isQ l s = errL 1023 l := by
  unfold chk errL
  rw [if_pos h, if_pos h, within_C, within_Q]
  exact ⟨rfl, rfl⟩

set_option maxHeartbeats 400000 in
theorem greatest_calls (A : Option Addr) (cap : Nat) (l : List Int) (w : World) (hr : (Kd.int .i64).C w A l.length l) (hl : l.length ≤ 1099511627776) (hp : ∀ n ∈ l, -2097152 ≤ n ∧ n ≤ 2097152) :
    Calls Try.prog 80 #[.slice A l.length cap] w fun e w' => e = .returned (.int .i64 (peakI l)) ∧ Below w.heap.size w w' := by
  have HP := Aside0.mk hp
  have HR := Aside0.mk hr
  clear hp hr
  go_enter Try.func80, Try.ntmps80
  go_wp2
  go_loopw [3, 8] (fun s i wr => ∃ (k : Nat) (z : Int), i = .int .i64 k ∧ s = .int .i64 z ∧ k ≤ l.length ∧ 0 ≤ z ∧ z ≤ 2097152 ∧ Aside0 (z = peakI (l.take k)) ∧ Below w.heap.size w wr) (fun _ i _ => l.length - (intOf i).toNat)
  case atStart => exact ⟨0, 0, rfl, rfl, by omega, by omega, by omega, ⟨by simp [peakI]⟩, Below.refl _ _⟩
  case round =>
    obtain ⟨k, z, rfl, rfl, hk, hz0, hz1, hn, hb⟩ := hrel
    by_cases hlt : k < l.length
    · obtain ⟨ad, rfl, hcell⟩ := el_at HR.out hb hlt
      have hc := HP.out _ (rd_mem l k hlt)
      have hT := take_rd l k hlt
      obtain ⟨n, hx⟩ : ∃ n, n = rd l k := ⟨_, rfl⟩
      rw [← hx] at hcell hc hT
      have hT2 : peakI (l.take (k + 1)) = max (max z n) (-n) := by
        rw [hT, hn.out]
        unfold peakI
        rw [List.foldl_append]
        rfl
      obtain ⟨j, hj⟩ : ∃ j, (if z < n then n else z) = j := ⟨_, rfl⟩
      obtain ⟨j2, hj2⟩ : ∃ j2, (if j < -n then -n else j) = j2 := ⟨_, rfl⟩
      have hb2 : 0 ≤ j2 ∧ j2 ≤ 2097152 := by omega
      have hT3 : Aside0 (j2 = peakI (l.take (k + 1))) := ⟨by rw [hT2]; omega⟩
      clear hx hT hT2 hn
      go_wp2
      go_roundw
      case rel => exact ⟨k + 1, j2, by go_num, rfl, by omega, hb2.1, hb2.2, hT3, hb⟩
      case measure => simp [intOf]; omega
    · obtain rfl : k = l.length := by omega
      rw [List.take_length] at hn
      go_wp2
      go_ret
      exact ⟨ret_int hn.out, hb⟩

end Go.Proofs.Ytljadjoljhanfaa.Q15
/- What each function of layer 15's reference returns: lists, noise. -/
namespace Go.Proofs.Ytljadjoljhanfaa.Q15
open Go.RowKit Go.Proofs.YtljadjoljhanfaaW.PrintWords Go.Proofs.YtljadjoljhanfaaW.PrintLast Go.Proofs.YtljadjoljhanfaaW.PrintMore
attribute [local go_sem] max2_int min2_int max_two min_two max_three min_three

theorem sg_bd {c r m : Int} (h0 : 0 ≤ r) (h1 : r ≤ m) : -m ≤ sg c r ∧ sg c r ≤ m := by unfold sg; split <;> omega

set_option maxRecDepth 100000 in
set_option maxHeartbeats 1000000 in
theorem QuantizeBy_calls (A0 A1 : Option Addr) (c0 c1 : Nat) (l : List Int) (s : Int) (w : World) (hr0 : (Kd.int .i64).C w A0 powTab.length powTab) (hr : (Kd.int .i64).C w A1 l.length l) (hl : l.length ≤ 1099511627776) (hp : ∀ n ∈ l, -2097152 ≤ n ∧ n ≤ 2097152) (h2 : 0 ≤ s) (h3 : s ≤ 95) :
    Calls Try.prog 50 #[.slice A0 powTab.length c0, .slice A1 l.length c1, .int .i64 s] w fun e w' => ∃ v, e = .returned v ∧ (Kd.int .i64).R 3 w' w.heap.size (fun _ => True) v (l.map fun c => sg c (qn (stepI s) (absI c))) ∧ Below w.heap.size w w' := by
  have hs := stepI_bd h2 h3
  have HG := fun W hb => greatest_calls A1 c1 l W (Kd.C_below hr hb) hl hp
  have HV := fun g W hb => values_calls A0 c0 s g W (Kd.C_below hr0 hb) h2 h3
  have hup := up_pos (stepI s) (peakI l)
  have HN := fun c (hc : c ∈ l) A cap W hr => nearest_calls A cap (upToL (tab (stepI s)) (peakI l)) c W hr (by omega) hup.1 (up_rising (by omega) _) (by have := hp c hc; omega) (by have := hp c hc; omega) (fun x hx => by have := up_bd (x := stepI s) (by omega) (peakI l) x hx; omega)
  have HN2 : ∀ c, c ∈ l → nearL (upToL (tab (stepI s)) (peakI l)) (absI c) = qn (stepI s) (absI c) := fun c hc => near_qn (stepI s) (peakI l) (absI c) (by omega) (by unfold absI; omega) (peak_abs hc)
  have HV' := HV (peakI l)
  obtain ⟨g, hg⟩ : ∃ g, g = peakI l := ⟨_, rfl⟩
  rw [← hg] at HG HV' HN HN2 hup
  obtain ⟨x, hx⟩ : ∃ x, x = stepI s := ⟨_, rfl⟩
  rw [← hx] at HV' HN HN2 hup hs ⊢
  obtain ⟨t, ht⟩ : ∃ t, t = upToL (tab x) g := ⟨_, rfl⟩
  rw [← ht] at HV' HN HN2 hup
  have HR := Aside0.mk hr
  replace HG := Aside0.mk HG
  replace HV' := Aside0.mk HV'
  replace HN := Aside0.mk HN
  replace HN2 := Aside0.mk HN2
  obtain ⟨n0, hn0⟩ : ∃ n0, n0 = powTab.length := ⟨_, rfl⟩
  rw [← hn0] at HV' ⊢
  clear hg hx ht hr hr0 hp HV hn0
  go_enter Try.func50, Try.ntmps50
  go_wp2_with (first | (go_at_call 80; refine (HG.out _ (Below.refl _ _)).mono ?_; rintro e w' ⟨rfl, hb0⟩) | (go_at_call 79; refine (HV'.out _ hb0).mono ?_; rintro e w1 ⟨v, rfl, hR, hb1⟩; obtain ⟨A, cp, rfl, _, hC⟩ := Kd.R_reads hR; have HC := Aside0.mk hC; have HB0 := bnx hb0 hb1; clear hC hR))
  go_loopw [8, 18] (fun o i wr => ∃ k : Nat, i = .int .i64 k ∧ k ≤ l.length ∧ Aside0 ((Kd.int .i64).R 3 wr w1.heap.size (fun _ => True) o ((l.take k).map fun c => sg c (qn x (absI c)))) ∧ Below w1.heap.size w1 wr) (fun _ i _ => l.length - (intOf i).toNat)
  case atStart => exact ⟨0, rfl, by omega, ⟨Kd.R_nil _ _ _ _ _⟩, Below.refl _ _⟩
  case round =>
    obtain ⟨k, rfl, hk, ho, hb⟩ := hrel
    have hbw := bnx HB0 hb
    by_cases hlt : k < l.length
    · obtain ⟨ad, rfl, hcell⟩ := el_at HR.out hbw hlt
      have hc := HN.out _ (rd_mem l k hlt) A cp wr (Kd.C_below HC.out hb)
      rw [HN2.out _ (rd_mem l k hlt)] at hc
      have HT := Aside0.mk (take_rd l k hlt)
      obtain ⟨z, hx⟩ : ∃ z, z = rd l k := ⟨_, rfl⟩
      rw [← hx] at hcell hc HT
      clear hx
      obtain ⟨r, hr⟩ : ∃ r, r = sg z (qn x (absI z)) := ⟨_, rfl⟩
      have HRr := Aside0.mk hr
      rw [← hr] at hc
      clear hr
      have HC1 := Aside0.mk hc
      clear hc
      obtain ⟨y, hy⟩ : ∃ y, y = (l.take k).map fun c => sg c (qn x (absI c)) := ⟨_, rfl⟩
      have hyl : y.length ≤ 1099511627776 := by rw [hy]; simp; omega
      rw [← hy] at ho
      have HY := Aside0.mk hy
      clear hy
      go_wp2_with (first | (go_at_call 81; refine HC1.out.mono ?_; rintro e w' ⟨rfl, hb1⟩; have HO1 := Aside0.mk (Kd.R_below ho.out hb1); have HB1 := Aside0.mk (bnx hb hb1); clear ho hb hb1 hbw) | (at_builtin; refine Kd.R_append (Kd.int .i64) (w0 := w1) w1.heap.size rfl (.tmp 22) (.tmp 26) 22 3 (.int .i64 0) 8 rfl Try.underlying22 info_int rfl (by decide) (by omega) u8 y (r) [.int .i64 (r)] (fun _ => True) (fun _ => False) rfl rfl rfl (fun _ hk => hk.elim) (fun _ _ => trivial) HO1.out HB1.out HB1.out.size (by omega) ?_; intro v1 wA hoA hbA hgA hatA; have HOA := Aside0.mk hoA; have HBA := Aside0.mk hbA; clear hoA hbA hgA hatA))
      go_roundw
      case rel => exact ⟨k + 1, by go_num, by omega, ⟨by rw [HT.out, List.map_append, ← HY.out, List.map_cons, List.map_nil, ← HRr.out]; exact HOA.out⟩, HBA.out⟩
      case measure => simp [intOf]; omega
    · obtain rfl : k = l.length := by omega
      rw [List.take_length] at ho
      go_wp2
      go_ret
      exact ⟨_, rfl, Kd.R_lower ho.out HB0.size, hbw⟩

end Go.Proofs.Ytljadjoljhanfaa.Q15
/- What each function of layer 15's reference returns: values, noise, scales. -/
namespace Go.Proofs.Ytljadjoljhanfaa.Q15
open Go.RowKit Go.Proofs.YtljadjoljhanfaaW.PrintWords Go.Proofs.YtljadjoljhanfaaW.PrintLast Go.Proofs.YtljadjoljhanfaaW.PrintMore
attribute [local go_sem] max2_int min2_int max_two min_two max_three min_three

/-- A list's error, with a scale. -/
theorem chk_isS {s : Int} (h : isS s = false) (p : Int → Bool) (l : List Int) : chk p l s = 1 := by unfold chk; rw [if_neg (by rw [h]; simp)]

set_option maxRecDepth 100000 in
set_option maxHeartbeats 1000000 in
theorem ValuesBy_calls (A0 A1 : Option Addr) (c0 c1 : Nat) (l : List Int) (s : Int) (w : World) (hr0 : (Kd.int .i64).C w A0 powTab.length powTab) (hr : (Kd.int .i64).C w A1 l.length l) (hl : l.length ≤ 1099511627776) (hp : ∀ n ∈ l, -1023 ≤ n ∧ n ≤ 1023) (h2 : 0 ≤ s) (h3 : s ≤ 95) :
    Calls Try.prog 54 #[.slice A0 powTab.length c0, .slice A1 l.length c1, .int .i64 s] w fun e w' => ∃ v, e = .returned v ∧ (Kd.int .i64).R 3 w' w.heap.size (fun _ => True) v (l.map fun q => sg q (V (stepI s) (absI q))) ∧ Below w.heap.size w w' := by
  have hs := stepI_bd h2 h3
  have HS := fun p w hp0 hp1 => stands_calls p s w hp0 hp1 h2 h3
  have hpl := powTab_len
  obtain ⟨x, hx⟩ : ∃ x, x = stepI s := ⟨_, rfl⟩
  rw [← hx] at HS hs ⊢
  have HR := Aside0.mk hr
  have HR0 := Aside0.mk hr0
  have HP := Aside0.mk hp
  replace HS := Aside0.mk HS
  obtain ⟨n0, hn0⟩ : ∃ n0, n0 = powTab.length := ⟨_, rfl⟩
  rw [← hn0] at HR0 hpl ⊢
  replace hpl : (1024 : Int) ≤ n0 := by omega
  clear hx hr hr0 hp hn0
  go_enter Try.func54, Try.ntmps54
  go_wp2
  go_loopw [7, 13] (fun o i wr => ∃ k : Nat, i = .int .i64 k ∧ k ≤ l.length ∧ Aside0 ((Kd.int .i64).R 3 wr w.heap.size (fun _ => True) o ((l.take k).map fun q => sg q (V x (absI q)))) ∧ Below w.heap.size w wr) (fun _ i _ => l.length - (intOf i).toNat)
  case atStart => exact ⟨0, rfl, by omega, ⟨Kd.R_nil _ _ _ _ _⟩, Below.refl _ _⟩
  case round =>
    obtain ⟨k, rfl, hk, ho, hb⟩ := hrel
    by_cases hlt : k < l.length
    · obtain ⟨ad, rfl, hcell⟩ := el_at HR.out hb hlt
      have hz := HP.out _ (rd_mem l k hlt)
      have HT := Aside0.mk (take_rd l k hlt)
      obtain ⟨z, hx⟩ : ∃ z, z = rd l k := ⟨_, rfl⟩
      rw [← hx] at hcell hz HT
      clear hx
      have hm : 0 ≤ absI z ∧ absI z ≤ 1023 := by unfold absI; omega
      obtain ⟨m, hme⟩ : ∃ m, m = absI z := ⟨_, rfl⟩
      have hdi : (z < 0 ∧ m = -z) ∨ (¬ z < 0 ∧ m = z) := by rw [hme]; unfold absI; omega
      rw [← hme] at hm
      obtain ⟨ad2, rfl, hcell2⟩ := Kd.at_int HR0.out m (by omega) (by omega)
      replace hcell2 := cnx hcell2 hb
      have hrp : rd powTab m = P m := rfl
      rw [hrp] at hcell2
      have hp := P_bd m
      have HC := fun w => HS.out (P m) w hp.1 hp.2
      rw [V_min] at HC
      have hv := V_bd (x := x) m (by omega)
      have HV : Aside0 (sg z (V x (absI z)) = if z < 0 then - V x m else V x m) := ⟨by rw [hme]; rfl⟩
      obtain ⟨p, hpe⟩ : ∃ p, p = P m := ⟨_, rfl⟩
      obtain ⟨v, hve⟩ : ∃ v, v = V x m := ⟨_, rfl⟩
      rw [← hpe] at hcell2 hp HC
      rw [← hve] at HC hv HV
      replace HC := Aside0.mk HC
      obtain ⟨y, hy⟩ : ∃ y, y = (l.take k).map fun q => sg q (V x (absI q)) := ⟨_, rfl⟩
      have hyl : y.length ≤ 1099511627776 := by rw [hy]; simp; omega
      rw [← hy] at ho
      have HY := Aside0.mk hy
      clear hy hme hpe hve hrp
      rcases hdi with ⟨hneg, rfl⟩ | ⟨hneg, rfl⟩
      · replace HV : Aside0 (sg z (V x (absI z)) = -v) := ⟨by rw [HV.out, if_pos hneg]⟩
        go_wp2_with (first | (go_at_call 85; refine (HC.out _).mono ?_; rintro e w' ⟨rfl, hb1⟩; have HO1 := Aside0.mk (Kd.R_below ho.out hb1); have HB1 := Aside0.mk (bnx hb hb1); clear ho hb hb1) | (at_builtin; refine Kd.R_append (Kd.int .i64) (w0 := w) w.heap.size rfl (.tmp 30) (.tmp 32) 22 3 (.int .i64 0) 8 rfl Try.underlying22 info_int rfl (by decide) (by omega) u7 y (-v) [.int .i64 (-v)] (fun _ => True) (fun _ => False) rfl rfl rfl (fun _ hk => hk.elim) (fun _ _ => trivial) HO1.out HB1.out HB1.out.size (by omega) ?_; intro v1 wA hoA hbA hgA hatA; have HOA := Aside0.mk hoA; have HBA := Aside0.mk hbA; clear hoA hbA hgA hatA))
        go_roundw
        case rel => exact ⟨k + 1, by go_num, by omega, ⟨by rw [HT.out, List.map_append, ← HY.out, List.map_cons, List.map_nil, HV.out]; exact HOA.out⟩, HBA.out⟩
        case measure => simp [intOf]; omega
      · replace HV : Aside0 (sg m (V x (absI m)) = v) := ⟨by rw [HV.out, if_neg hneg]⟩
        go_wp2_with (first | (go_at_call 85; refine (HC.out _).mono ?_; rintro e w' ⟨rfl, hb1⟩; have HO1 := Aside0.mk (Kd.R_below ho.out hb1); have HB1 := Aside0.mk (bnx hb hb1); clear ho hb hb1) | (at_builtin; refine Kd.R_append (Kd.int .i64) (w0 := w) w.heap.size rfl (.tmp 30) (.tmp 32) 22 3 (.int .i64 0) 8 rfl Try.underlying22 info_int rfl (by decide) (by omega) u7 y (v) [.int .i64 (v)] (fun _ => True) (fun _ => False) rfl rfl rfl (fun _ hk => hk.elim) (fun _ _ => trivial) HO1.out HB1.out HB1.out.size (by omega) ?_; intro v1 wA hoA hbA hgA hatA; have HOA := Aside0.mk hoA; have HBA := Aside0.mk hbA; clear hoA hbA hgA hatA))
        go_roundw
        case rel => exact ⟨k + 1, by go_num, by omega, ⟨by rw [HT.out, List.map_append, ← HY.out, List.map_cons, List.map_nil, HV.out]; exact HOA.out⟩, HBA.out⟩
        case measure => simp [intOf]; omega
    · obtain rfl : k = l.length := by omega
      rw [List.take_length] at ho
      go_wp2
      go_ret
      exact ⟨_, rfl, ho.out, hb⟩

theorem chkC_s {l : List Int} {s : Int} (h : isS s = true) : errL 2097152 l = chk isC l s := (chk_err h l).1.symm
theorem chkQ_s {l : List Int} {s : Int} (h : isS s = true) : errL 1023 l = chk isQ l s := (chk_err h l).2.symm

set_option maxHeartbeats 400000 in
theorem Stands_calls (q r : Int) (A : Option Addr) (cap : Nat) (t : List Int) (w : World) (hr : (Kd.int .i64).C w A t.length t) (h0 : -1099511627776 ≤ q) (h1 : absI q < t.length) (hv : rd t (absI q) = r) (hr0 : -1099511627776 ≤ r) (hr1 : r ≤ 1099511627776) :
    Calls Try.prog 107 #[.int .i64 q, .slice A t.length cap] w fun e w' => e = .returned (.int .i64 (sg q r)) ∧ Below w.heap.size w w' := by
  obtain ⟨m, hme⟩ : ∃ m, m = absI q := ⟨_, rfl⟩
  have hdi : (q < 0 ∧ m = -q) ∨ (¬ q < 0 ∧ m = q) := by rw [hme]; unfold absI; omega
  rw [← hme] at h1 hv
  obtain ⟨ad, rfl, hcell⟩ := Kd.at_int hr m (by omega) (by omega)
  rw [hv] at hcell
  clear hme hv hr
  rcases hdi with ⟨hneg, rfl⟩ | ⟨hneg, rfl⟩
  · go_enter Try.func107, Try.ntmps107
    go_wp2
    go_ret
    exact ⟨ret_int (by unfold sg; rw [if_pos hneg]), Below.refl _ _⟩
  · go_enter Try.func107, Try.ntmps107
    go_wp2
    go_ret
    exact ⟨ret_int (by unfold sg; rw [if_neg (by omega)]), Below.refl _ _⟩

end Go.Proofs.Ytljadjoljhanfaa.Q15
/- What each function of layer 15's reference returns: noise, Least, Most. -/
namespace Go.Proofs.Ytljadjoljhanfaa.Q15
open Go.RowKit Go.Proofs.YtljadjoljhanfaaW.PrintWords Go.Proofs.YtljadjoljhanfaaW.PrintLast Go.Proofs.YtljadjoljhanfaaW.PrintMore
attribute [local go_sem] max2_int min2_int max_two min_two max_three min_three

theorem absI_sg {c r : Int} (h : 0 ≤ r) : absI (sg c r) = r := by unfold absI sg; split <;> omega

set_option maxRecDepth 100000 in
set_option maxHeartbeats 1000000 in
theorem rnoise_calls (x g : Int) (A0 A1 : Option Addr) (c0 c1 : Nat) (l : List Int) (w : World) (hx : 0 ≤ x) (hr0 : (Kd.int .i64).C w A0 l.length l) (hr1 : (Kd.int .i64).C w A1 (upToL (tab x) g).length (upToL (tab x) g)) (hl : l.length ≤ 4096)
    (hp : ∀ n ∈ l, (-2097152 ≤ n ∧ n ≤ 2097152) ∧ absI n ≤ g) :
    Calls Try.prog 88 #[.slice A0 l.length c0, .slice A1 (upToL (tab x) g).length c1] w fun e w' => e = .returned (.int .i64 (noiseI x l)) ∧ Below w.heap.size w w' := by
  have hup := up_pos x g
  have HN : ∀ c, c ∈ l → ∀ W, Below w.heap.size w W → Calls Try.prog 81 #[.int .i64 c, .slice A1 (upToL (tab x) g).length c1] W fun e w' => e = .returned (.int .i64 (sg c (qn x (absI c)))) ∧ Below W.heap.size W w' := fun c hc W hb => by
    have hc1 := hp c hc
    have := nearest_calls A1 c1 (upToL (tab x) g) c W (Kd.C_below hr1 hb) (by omega) hup.1 (up_rising hx _) (by omega) (by omega) (fun y hy => by have := up_bd hx g y hy; omega)
    rwa [near_qn x g (absI c) hx (by unfold absI; omega) hc1.2] at this
  have HT : ∀ c, c ∈ l → ∀ W, Below w.heap.size w W → Calls Try.prog 107 #[.int .i64 (sg c (qn x (absI c))), .slice A1 (upToL (tab x) g).length c1] W fun e w' => e = .returned (.int .i64 (sg (sg c (qn x (absI c))) (V x (qn x (absI c))))) ∧ Below W.heap.size W w' := fun c hc W hb => by
    have hc1 := hp c hc
    have hq := qn_bd (x := x) (c := absI c) hx
    have hv := V_bd (x := x) (qn x (absI c)) hx
    have hlt := near_lt (upToL (tab x) g) (absI c) hup.1
    rw [near_qn x g (absI c) hx (by unfold absI; omega) hc1.2] at hlt
    refine Stands_calls (sg c (qn x (absI c))) _ A1 c1 (upToL (tab x) g) W (Kd.C_below hr1 hb) (by unfold sg; split <;> omega) (by rw [absI_sg hq.1]; exact hlt) ?_ (by omega) (by omega)
    rw [absI_sg hq.1, rd_getD]
    have hlu := up_len x g
    unfold upToL
    rw [getD_take (by omega), tab_getD x (by omega), Int.toNat_of_nonneg hq.1]
  obtain ⟨t, ht⟩ : ∃ t, t = upToL (tab x) g := ⟨_, rfl⟩
  rw [← ht] at HN HT ⊢
  have HR := Aside0.mk hr0
  have HP := Aside0.mk hp
  replace HN := Aside0.mk HN
  replace HT := Aside0.mk HT
  clear hr0 hr1 hp hup ht
  go_enter Try.func88, Try.ntmps88
  go_wp2
  go_loopw [5, 11] (fun s i wr => ∃ (k : Nat) (z : Int), i = .int .i64 k ∧ s = .int .i64 z ∧ k ≤ l.length ∧ 0 ≤ z ∧ z ≤ k * 4398046511104 ∧ Aside0 (z = noiseI x (l.take k)) ∧ Below w.heap.size w wr) (fun _ i _ => l.length - (intOf i).toNat)
  case atStart => exact ⟨0, 0, rfl, rfl, by omega, by omega, by omega, ⟨rfl⟩, Below.refl _ _⟩
  case round =>
    obtain ⟨k, z, rfl, rfl, hk, hz0, hz1, hn, hb⟩ := hrel
    by_cases hlt : k < l.length
    · obtain ⟨ad, rfl, hcell⟩ := el_at HR.out hb hlt
      have hc := HP.out _ (rd_mem l k hlt)
      have hC1 := HN.out _ (rd_mem l k hlt)
      have hC2 := HT.out _ (rd_mem l k hlt)
      have hT := take_rd l k hlt
      obtain ⟨n, hxx⟩ : ∃ n, n = rd l k := ⟨_, rfl⟩
      rw [← hxx] at hcell hc hT hC1 hC2
      clear hxx
      have hd := dsq_bd hx hc.1.1 hc.1.2
      have hq := qn_bd (x := x) (c := absI n) hx
      have hv := V_bd (qn x (absI n)) hx
      have hss : sg (sg n (qn x (absI n))) (V x (qn x (absI n))) = sg n (V x (qn x (absI n))) := by
        by_cases h0 : qn x (absI n) = 0
        · rw [h0, V_zero]
          unfold sg
          split <;> split <;> rfl
        · unfold sg
          split <;> split <;> omega
      rw [hss] at hC2
      have hsq : dsq x n = (n - sg n (V x (qn x (absI n)))) * (n - sg n (V x (qn x (absI n)))) := by rw [sq_sg]; rfl
      have hvs := sg_bd (c := n) hv.1 hv.2
      have hqs := sg_bd (c := n) hq.1 hq.2
      have hT2 : noiseI x (l.take (k + 1)) = z + dsq x n := by rw [hT, noiseI_snoc, hn.out]
      obtain ⟨q, hqe⟩ : ∃ q, q = sg n (qn x (absI n)) := ⟨_, rfl⟩
      obtain ⟨v, hve⟩ : ∃ v, v = sg n (V x (qn x (absI n))) := ⟨_, rfl⟩
      rw [← hqe] at hC1 hC2 hqs
      rw [← hve] at hC2 hsq hvs
      rw [hsq] at hd hT2
      have HT2 := Aside0.mk hT2
      have HC1 := Aside0.mk hC1
      have HC2 := Aside0.mk hC2
      clear hC1 hC2 hT hT2 hss hsq hqe hve hq hv hn
      go_wp2_with (first | (go_at_call 81; refine (HC1.out _ hb).mono ?_; rintro e w' ⟨rfl, hb1⟩) | (go_at_call 107; refine (HC2.out _ (bnx hb hb1)).mono ?_; rintro e w' ⟨rfl, hb2⟩))
      go_roundw
      case rel => exact ⟨k + 1, _, by go_num, rfl, by omega, by omega, by omega, ⟨HT2.out.symm⟩, bnx (bnx hb hb1) hb2⟩
      case measure => simp [intOf]; omega
    · obtain rfl : k = l.length := by omega
      rw [List.take_length] at hn
      go_wp2
      go_ret
      exact ⟨ret_int hn.out, hb⟩

set_option maxHeartbeats 400000 in
theorem NoiseBy_calls (A0 A1 : Option Addr) (c0 c1 : Nat) (l : List Int) (s : Int) (w : World) (hr0 : (Kd.int .i64).C w A0 powTab.length powTab) (hr : (Kd.int .i64).C w A1 l.length l) (hl : l.length ≤ 4096) (hp : ∀ n ∈ l, -2097152 ≤ n ∧ n ≤ 2097152) (h2 : 0 ≤ s) (h3 : s ≤ 95) :
    Calls Try.prog 56 #[.slice A0 powTab.length c0, .slice A1 l.length c1, .int .i64 s] w fun e w' => e = .returned (.int .i64 (noiseI (stepI s) l)) ∧ Below w.heap.size w w' := by
  have hs := stepI_bd h2 h3
  have HG := fun W hb => greatest_calls A1 c1 l W (Kd.C_below hr hb) (by omega) hp
  have HV := fun W hb => values_calls A0 c0 s (peakI l) W (Kd.C_below hr0 hb) h2 h3
  have HN := fun A cap W hb hr1 => rnoise_calls (stepI s) (peakI l) A1 A c1 cap l W (by omega) (Kd.C_below hr hb) hr1 hl (fun n hn => ⟨hp n hn, peak_abs hn⟩)
  obtain ⟨g, hg⟩ : ∃ g, g = peakI l := ⟨_, rfl⟩
  rw [← hg] at HG HV HN
  obtain ⟨t, ht⟩ : ∃ t, t = upToL (tab (stepI s)) g := ⟨_, rfl⟩
  rw [← ht] at HV HN
  obtain ⟨r, hre⟩ : ∃ r, r = noiseI (stepI s) l := ⟨_, rfl⟩
  rw [← hre] at HN ⊢
  obtain ⟨n0, hn0⟩ : ∃ n0, n0 = powTab.length := ⟨_, rfl⟩
  rw [← hn0] at HV ⊢
  replace HG := Aside0.mk HG
  replace HV := Aside0.mk HV
  replace HN := Aside0.mk HN
  clear hg ht hre hr hr0 hp hn0
  go_enter Try.func56, Try.ntmps56
  go_wp2_with (first | (go_at_call 80; refine (HG.out _ (Below.refl _ _)).mono ?_; rintro e w' ⟨rfl, hb0⟩) | (go_at_call 79; refine (HV.out _ hb0).mono ?_; rintro e w1 ⟨v, rfl, hR, hb1⟩; obtain ⟨A, cp, rfl, _, hC⟩ := Kd.R_reads hR; have HC := Aside0.mk hC; have HB0 := bnx hb0 hb1; clear hC hR) | (go_at_call 88; refine (HN.out _ _ _ HB0 HC.out).mono ?_; rintro e w2 ⟨rfl, hb2⟩))
  go_ret
  exact ⟨rfl, bnx HB0 hb2⟩

set_option maxHeartbeats 400000 in
theorem rleast_calls (A : Option Addr) (cap : Nat) (l : List Int) (w : World) (hr : (Kd.int .i64).C w A l.length l) (hl : l.length ≤ 1099511627776) (hp : ∀ n ∈ l, -2097152 ≤ n ∧ n ≤ 2097152) :
    Calls Try.prog 65 #[.slice A l.length cap] w fun e w' => e = .returned (.int .i64 (leastI l)) ∧ Below w.heap.size w w' := by
  have HG := fun W hb => greatest_calls A cap l W (Kd.C_below hr hb) hl hp
  have HP := fun w => rpower_calls 1023 w (by omega) (by omega)
  rw [show absI 1023 = 1023 by decide] at HP
  have hpb := P_bd 1023
  have HS := fun s w h0 h1 => stands_calls (P 1023) s w hpb.1 hpb.2 h0 h1
  simp only [V_min] at HS
  have hgb := peak_bd l hp 0 (by omega) (by omega)
  unfold leastI
  obtain ⟨g, hg⟩ : ∃ g, g = peakI l := ⟨_, rfl⟩
  rw [show l.foldl (fun a n => max (max a n) (-n)) 0 = g from hg.symm] at hgb
  rw [← hg] at HG ⊢
  obtain ⟨p, hpe⟩ : ∃ p, p = P 1023 := ⟨_, rfl⟩
  rw [← hpe] at HP HS hpb
  replace HG := Aside0.mk HG
  replace HP := Aside0.mk HP
  replace HS := Aside0.mk HS
  clear hg hpe hr hp
  go_enter Try.func65, Try.ntmps65
  go_wp2_with (first | (go_at_call 74; refine (HP.out _).mono ?_; rintro e w' ⟨rfl, hb0⟩) | (go_at_call 80; refine (HG.out _ hb0).mono ?_; rintro e w' ⟨rfl, hb1⟩))
  have HB1 := bnx hb0 hb1
  go_loopw [3] (fun s wr => ∃ z : Int, s = .int .i64 z ∧ 0 ≤ z ∧ z ≤ 95 ∧ Aside0 (∀ j, 0 ≤ j → j < z → V (stepI j) 1023 < g) ∧ Below w.heap.size w wr) (fun s _ => (95 - intOf s).toNat)
  case atStart => exact ⟨0, rfl, by omega, by omega, ⟨fun j h0 h1 => by omega⟩, HB1⟩
  case round =>
    obtain ⟨z, rfl, hz0, hz1, hj, hb⟩ := hrel
    have HC := fun w => HS.out z w hz0 hz1
    have hvb := V_bd (x := stepI z) 1023 (by have := stepI_bd hz0 hz1; omega)
    have HZ : Aside0 (V (stepI z) 1023 < g → z + 1 ≤ 95 ∧ ∀ j, 0 ≤ j → j < z + 1 → V (stepI j) 1023 < g) := ⟨fun h => ⟨by
      rcases Int.lt_or_eq_of_le hz1 with h1 | h1
      · omega
      · rw [h1, top_last] at h; omega, fun j h0 h1 => by
      rcases Int.lt_or_eq_of_le (show j ≤ z by omega) with h2 | h2
      · exact hj.out j h0 h2
      · rw [h2]; exact h⟩⟩
    have HY : Aside0 (g ≤ V (stepI z) 1023 → leastT g = z) := ⟨fun h => leastT_is hz0 hz1 hj.out h⟩
    obtain ⟨v, hv⟩ : ∃ v, v = V (stepI z) 1023 := ⟨_, rfl⟩
    rw [← hv] at HC HZ HY hvb
    replace HC := Aside0.mk HC
    clear hv
    by_cases hlt : v < g
    · have hz2 := (HZ.out hlt).1
      have HZ2 := Aside0.mk (HZ.out hlt).2
      go_wp2_with (first | (go_at_call 85; refine (HC.out _).mono ?_; rintro e w' ⟨rfl, hb2⟩))
      go_roundw
      case rel => exact ⟨z + 1, rfl, by omega, hz2, HZ2, bnx hb hb2⟩
      case measure => simp [intOf]; omega
    · have HE := HY.out (by omega)
      have HE := Aside0.mk HE
      clear HY
      go_wp2_with (first | (go_at_call 85; refine (HC.out _).mono ?_; rintro e w' ⟨rfl, hb2⟩))
      go_ret
      exact ⟨ret_int HE.out.symm, bnx hb hb2⟩

end Go.Proofs.Ytljadjoljhanfaa.Q15
/- What each function of layer 15's reference returns: Least, Most; two lists are the same. -/
namespace Go.Proofs.Ytljadjoljhanfaa.Q15
open Go.RowKit Go.Proofs.YtljadjoljhanfaaW.PrintWords Go.Proofs.YtljadjoljhanfaaW.PrintLast Go.Proofs.YtljadjoljhanfaaW.PrintMore
attribute [local go_sem] max2_int min2_int max_two min_two max_three min_three

theorem isS_zero : isS 0 = true := by decide

set_option maxHeartbeats 400000 in
theorem rLeast_no (A : Option Addr) (cap : Nat) (l : List Int) (w : World) (hr : (Kd.int .i64).C w A l.length l) (hk : chk isC l 0 ≠ 0) :
    Calls Try.prog 29 #[.slice A l.length cap] w fun e w' => e = .returned (.tuple #[.int .i64 0, .int .i64 (chk isC l 0)]) ∧ Below w.heap.size w w' := by
  have HC := fun W hb => list_calls 2097152 A cap l W (Kd.C_below hr hb) (by omega) (by omega)
  rw [chkC_s isS_zero] at HC
  obtain ⟨e0, he0⟩ : ∃ e0, e0 = chk isC l 0 := ⟨_, rfl⟩
  rw [← he0] at HC hk ⊢
  replace HC := Aside0.mk HC
  have hk' : (e0 == 0) = false := beq_eq_false_iff_ne.2 hk
  clear he0 hr
  go_enter Try.func29, Try.ntmps29
  go_wp2_with (first | (go_at_call 64; refine (HC.out _ (Below.refl _ _)).mono ?_; rintro e w' ⟨rfl, hb1⟩))
  go_ret2
  exact ⟨rfl, hb1⟩

set_option maxHeartbeats 400000 in
theorem rLeast_yes (A : Option Addr) (cap : Nat) (l : List Int) (w : World) (hr : (Kd.int .i64).C w A l.length l) (hk : chk isC l 0 = 0) :
    Calls Try.prog 29 #[.slice A l.length cap] w fun e w' => e = .returned (.tuple #[.int .i64 (leastI l), .int .i64 0]) ∧ Below w.heap.size w w' := by
  obtain ⟨hs, hl, hp⟩ := chk_zero hk
  have HC := fun W hb => list_calls 2097152 A cap l W (Kd.C_below hr hb) (by omega) (by omega)
  rw [chkC_s isS_zero, hk] at HC
  have HL := fun W hb => rleast_calls A cap l W (Kd.C_below hr hb) (by omega) (fun n hn => isC_bd (hp n hn))
  replace HC := Aside0.mk HC
  replace HL := Aside0.mk HL
  clear hk hr hp
  go_enter Try.func29, Try.ntmps29
  go_wp2_with (first | (go_at_call 64; refine (HC.out _ (Below.refl _ _)).mono ?_; rintro e w' ⟨rfl, hb0⟩) | (go_at_call 65; refine (HL.out _ hb0).mono ?_; rintro e w' ⟨rfl, hb1⟩))
  go_ret2
  exact ⟨rfl, bnx hb0 hb1⟩

/-- What MostBy returns. -/
def mostT (o : Option Int) : Value := match o with | some s => .tuple #[.int .i64 s, .bool true] | none => .tuple #[.int .i64 0, .bool false]

set_option maxRecDepth 100000 in
set_option maxHeartbeats 1000000 in
theorem MostBy_calls (A0 A1 : Option Addr) (c0 c1 : Nat) (l : List Int) (limit : Int) (w : World) (hr0 : (Kd.int .i64).C w A0 powTab.length powTab) (hr : (Kd.int .i64).C w A1 l.length l) (hl : l.length ≤ 4096) (hp : ∀ n ∈ l, -2097152 ≤ n ∧ n ≤ 2097152) :
    Calls Try.prog 42 #[.slice A0 powTab.length c0, .slice A1 l.length c1, .int .i64 limit] w fun e w' => e = .returned (mostT (mostI l limit)) ∧ Below w.heap.size w w' := by
  have HL := fun W hb => rleast_calls A1 c1 l W (Kd.C_below hr hb) (by omega) hp
  have HN := fun s W hb h2 h3 => NoiseBy_calls A0 A1 c0 c1 l s W (Kd.C_below hr0 hb) (Kd.C_below hr hb) hl hp h2 h3
  have hlb : 0 ≤ leastI l ∧ leastI l ≤ 95 := leastT_bd _
  have hm : mostI l limit = (downL 95 (leastI l)).find? fun s => decide (noiseI (stepI s) l ≤ limit) := rfl
  obtain ⟨low, hlow⟩ : ∃ low, low = leastI l := ⟨_, rfl⟩
  rw [← hlow] at HL hlb hm
  obtain ⟨r, hre⟩ : ∃ r, r = mostI l limit := ⟨_, rfl⟩
  rw [← hre] at hm ⊢
  obtain ⟨n0, hn0⟩ : ∃ n0, n0 = powTab.length := ⟨_, rfl⟩
  rw [← hn0] at HN ⊢
  replace HL := Aside0.mk HL
  replace HN := Aside0.mk HN
  replace hm := Aside0.mk hm
  clear hlow hre hr hr0 hp hn0
  go_enter Try.func42, Try.ntmps42
  go_wp2_with (first | (go_at_call 65; refine (HL.out _ (Below.refl _ _)).mono ?_; rintro e w' ⟨rfl, hb0⟩))
  go_loopw [9] (fun s wr => ∃ z : Int, s = .int .i64 z ∧ low - 1 ≤ z ∧ z ≤ 95 ∧ Aside0 (∀ j, z < j → j ≤ 95 → decide (noiseI (stepI j) l ≤ limit) = false) ∧ Below w.heap.size w wr) (fun s _ => (intOf s + 1).toNat)
  case atStart => exact ⟨95, rfl, by omega, by omega, ⟨fun j h0 h1 => by omega⟩, hb0⟩
  case round =>
    obtain ⟨z, rfl, hz0, hz1, hj, hb⟩ := hrel
    by_cases hlt : low ≤ z
    · have hC := HN.out z wr hb (by omega) hz1
      have HJ : Aside0 (¬ noiseI (stepI z) l ≤ limit → ∀ j, z - 1 < j → j ≤ 95 → decide (noiseI (stepI j) l ≤ limit) = false) := ⟨fun h j h0 h1 => by
        rcases Int.lt_or_eq_of_le (show z ≤ j by omega) with h2 | h2
        · exact hj.out j h2 h1
        · rw [← h2]; simpa using h⟩
      have HF : Aside0 (noiseI (stepI z) l ≤ limit → r = some z) := ⟨fun h => by
        rw [hm.out]
        exact find_down hlt hz1 hj.out (by simpa using h)⟩
      obtain ⟨n, hn⟩ : ∃ n, n = noiseI (stepI z) l := ⟨_, rfl⟩
      rw [← hn] at hC HJ HF
      have HC := Aside0.mk hC
      clear hn hC hj
      by_cases hle : n ≤ limit
      · have hr := HF.out hle
        subst hr
        clear HF HJ hm
        go_wp2_with (first | (go_at_call 56; refine (HC.out).mono ?_; rintro e w' ⟨rfl, hb2⟩))
        go_ret2
        exact ⟨rfl, bnx hb hb2⟩
      · have HJ2 := Aside0.mk (HJ.out hle)
        have hle' : limit < n := by omega
        clear HF HJ
        go_wp2_with (first | (go_at_call 56; refine (HC.out).mono ?_; rintro e w' ⟨rfl, hb2⟩))
        go_roundw
        case rel => exact ⟨z - 1, rfl, by omega, by omega, HJ2, bnx hb hb2⟩
        case measure => simp [intOf]; omega
    · obtain rfl : z = low - 1 := by omega
      have hr : r = none := by
        rw [hm.out]
        exact find_down_none (fun j h0 h1 => hj.out j (by omega) h1)
      subst hr
      clear hm
      go_wp2
      go_ret2
      exact ⟨rfl, hb⟩

/-- The error of a limit and a list, and what Most returns. -/
def mostR (l : List Int) (limit : Int) : Value :=
  if limit < 0 ∨ 72057594037927936 < limit then .tuple #[.int .i64 0, .int .i64 1] else if chk isC l 0 = 0 then match mostI l limit with | some s => .tuple #[.int .i64 s, .int .i64 0] | none => .tuple #[.int .i64 0, .int .i64 5] else .tuple #[.int .i64 0, .int .i64 (chk isC l 0)]

set_option maxHeartbeats 1000000 in
theorem Ints_calls (A0 A1 : Option Addr) (c0 c1 : Nat) (l0 l1 : List Int) (w : World) (hr0 : (Kd.int .i64).C w A0 l0.length l0) (hr1 : (Kd.int .i64).C w A1 l1.length l1) (hl : l0.length ≤ 1099511627776) :
    Calls Try.prog 13 #[.slice A0 l0.length c0, .slice A1 l1.length c1] w fun e w' => e = .returned (.bool (decide (l0 = l1))) ∧ Below w.heap.size w w' := by
  by_cases hn : l0.length = l1.length
  · have HR0 := Aside0.mk hr0
    have HR1 := Aside0.mk hr1
    rw [← hn] at HR1 ⊢
    have HN := Aside0.mk hn
    clear hn hr0 hr1
    go_enter Try.func13, Try.ntmps13
    go_wp2
    go_loopw [13] (fun i wr => ∃ k : Nat, i = .int .i64 k ∧ k ≤ l0.length ∧ Aside0 (l0.take k = l1.take k) ∧ Below w.heap.size w wr) (fun i _ => l0.length - (intOf i).toNat)
    case atStart => exact ⟨0, rfl, by omega, ⟨rfl⟩, Below.refl _ _⟩
    case round =>
      obtain ⟨k, rfl, hk, ha, hb⟩ := hrel
      by_cases hlt : k < l0.length
      · obtain ⟨ad0, rfl, hcell0⟩ := Kd.at_int HR0.out (k : Int) (by omega) (by omega)
        obtain ⟨ad1, rfl, hcell1⟩ := Kd.at_int HR1.out (k : Int) (by omega) (by omega)
        rw [Int.toNat_natCast] at hcell0 hcell1
        replace hcell0 := cnx hcell0 hb
        replace hcell1 := cnx hcell1 hb
        have HT0 := Aside0.mk (take_rd l0 k hlt)
        have HT1 := Aside0.mk (take_rd l1 k (by have := HN.out; omega))
        have hd0 := rd_nat l0 k hlt
        have hd1 := rd_nat l1 k (by have := HN.out; omega)
        have HNE : Aside0 (rd l0 k ≠ rd l1 k → l0 ≠ l1) := ⟨fun h e => h (by rw [e])⟩
        obtain ⟨x, hx⟩ : ∃ x, x = rd l0 k := ⟨_, rfl⟩
        obtain ⟨y, hy⟩ : ∃ y, y = rd l1 k := ⟨_, rfl⟩
        rw [← hx] at hcell0 HT0 HNE
        rw [← hy] at hcell1 HT1 HNE
        clear hx hy hd0 hd1
        by_cases he : x = y
        · subst he
          go_wp2
          go_quiet (fail)
          go_wp2
          go_roundw
          case rel => exact ⟨k + 1, by go_num, by omega, ⟨by rw [HT0.out, HT1.out, ha.out]⟩, below_drewN' hb nq⟩
          case measure => simp [intOf]; omega
        · have HNE2 := Aside0.mk (HNE.out he)
          have he2 : (x != y) = true := by rw [bne_iff_ne]; exact he
          go_wp2
          go_quiet (fail)
          go_wp2
          go_ret
          exact ⟨by rw [decide_eq_false HNE2.out]; rfl, below_drewN' hb nq⟩
      · obtain rfl : k = l0.length := by omega
        have e : l0 = l1 := by
          have h1 := ha.out
          rw [List.take_length, HN.out, List.take_length] at h1
          exact h1
        have HE := Aside0.mk e
        clear e
        go_wp2
        go_ret
        exact ⟨by rw [decide_eq_true HE.out]; rfl, hb⟩
  · have he : l0 ≠ l1 := fun h => hn (by rw [h])
    rw [decide_eq_false he]
    have hn2 : (l0.length != l1.length) = true := by rw [bne_iff_ne]; exact hn
    have hn3 : ((l0.length : Int) != (l1.length : Int)) = true := by rw [bne_iff_ne]; omega
    clear hn he
    go_enter Try.func13, Try.ntmps13
    go_wp2
    go_ret
    exact ⟨rfl, Below.refl _ _⟩

end Go.Proofs.Ytljadjoljhanfaa.Q15
