/- The nearest value in a table is that of the quantum. -/
import Derived.Test.YtglpdojccncjjaaQuantRspec
namespace Go.Proofs.Ytglpdojccncjjaa.Q15

theorem first_le (l : List Int) (v : Int) : firstL l v ≤ l.length := List.findIdx_le_length
theorem first_lt {l : List Int} {v : Int} {j : Nat} (h : j < firstL l v) : l.getD j 0 < v := by
  have hl := Nat.lt_of_lt_of_le h (first_le l v)
  have := List.not_of_lt_findIdx h
  rw [List.getD_eq_getElem?_getD, List.getElem?_eq_getElem hl]
  simpa using this
theorem first_ge {l : List Int} {v : Int} (h : firstL l v < l.length) : v ≤ l.getD (firstL l v) 0 := by
  have := List.findIdx_getElem (w := h)
  rw [List.getD_eq_getElem?_getD, List.getElem?_eq_getElem h]
  simpa [firstL] using this
/-- What the first place is, by what it does. -/
theorem first_is {l : List Int} {v : Int} {j : Nat} (hj : j ≤ l.length) (h1 : ∀ i, i < j → l.getD i 0 < v) (h2 : j < l.length → v ≤ l.getD j 0) : firstL l v = j := by
  rcases Nat.lt_trichotomy (firstL l v) j with h | h | h
  · have h3 := first_ge (l := l) (v := v) (by omega)
    have h4 := h1 _ h
    omega
  · exact h
  · have h3 := first_lt h
    have h4 := first_le l v
    have h5 := h2 (by omega)
    omega
theorem getD_take {l : List Int} {i n : Nat} (h : i < n) : (l.take n).getD i 0 = l.getD i 0 := by
  rw [List.getD_eq_getElem?_getD, List.getD_eq_getElem?_getD, List.getElem?_take_of_lt h]
theorem tab_getD (x : Int) {k : Nat} (h : k < 1024) : (tab x).getD k 0 = V x k := by
  rw [List.getD_eq_getElem?_getD, List.getElem?_eq_getElem (by rw [tab_len]; exact h), Option.getD_some, tab_at x h]
theorem up_len (x great : Int) : (upToL (tab x) great).length = min (firstL (tab x) great + 1) 1024 := by
  unfold upToL
  rw [List.length_take, tab_len]
theorem first_up (x great v : Int) (hv : v ≤ great) : firstL (upToL (tab x) great) v = if firstL (tab x) v < 1024 then firstL (tab x) v else (upToL (tab x) great).length := by
  have hl := tab_len x
  have hle : firstL (tab x) v ≤ firstL (tab x) great := by
    rcases Nat.lt_or_ge (firstL (tab x) great) (firstL (tab x) v) with h | h
    · have h1 := first_lt h
      have h2 := first_ge (l := tab x) (v := great) (by have := first_le (tab x) v; omega)
      omega
    · exact h
  have hlu := up_len x great
  have hg : ∀ i, i < firstL (tab x) great + 1 → (upToL (tab x) great).getD i 0 = (tab x).getD i 0 := fun i hi => getD_take hi
  have hfl := first_le (tab x) v
  split
  · rename_i h
    refine first_is (by omega) (fun i hi => ?_) (fun _ => ?_)
    · rw [hg i (by omega)]; exact first_lt hi
    · rw [hg _ (by omega)]; exact first_ge (by omega)
  · rename_i h
    refine first_is (Nat.le_refl _) (fun i hi => ?_) (fun h => absurd h (Nat.lt_irrefl _))
    rw [hg i (by omega)]
    exact first_lt (by omega)
/-- The search in the program, by the table. -/
theorem fst_tab (x c : Int) : fst (fun k => decide (V x k ≥ c)) 0 1023 = min (firstL (tab x) c : Int) 1023 := by
  have hb := fst_bd (fun k => decide (V x k ≥ c)) (show (0 : Int) ≤ 1023 by omega)
  obtain ⟨r, hr⟩ : ∃ r, r = fst (fun k => decide (V x k ≥ c)) 0 1023 := ⟨_, rfl⟩
  have hA : ∀ k : Int, 0 ≤ k → k < r → V x k < c := fun k h0 h => by
    have := fst_before (fun k => decide (V x k ≥ c)) (lo := 0) (hi := 1023) h0 (by omega) (by omega)
    simpa using this
  have hB : r < 1023 → c ≤ V x r := fun h => by
    have := fst_at (fun k => decide (V x k ≥ c)) (lo := 0) (hi := 1023) (by omega)
    rw [← hr] at this
    simpa using this
  rw [← hr] at hb ⊢
  have hl := tab_len x
  have hf := first_le (tab x) c
  rcases Int.lt_or_le r 1023 with h | h
  · have : firstL (tab x) c = r.toNat := first_is (by omega) (fun i hi => by rw [tab_getD x (by omega)]; exact hA i (by omega) (by omega)) (fun _ => by
      rw [tab_getD x (by omega), Int.toNat_of_nonneg hb.1]; exact hB h)
    omega
  · have : 1023 ≤ firstL (tab x) c := by
      rcases Nat.lt_or_ge (firstL (tab x) c) 1023 with h1 | h1
      · have h2 := first_ge (l := tab x) (v := c) (by omega)
        rw [tab_getD x (by omega)] at h2
        have := hA (firstL (tab x) c : Int) (by omega) (by omega)
        omega
      · exact h1
    omega
theorem fst_tab2 (x : Int) (m : Nat) (hm : m ≤ 1022) (_ : 0 ≤ x) : fst (fun k => decide (V x k ≥ V x m)) 0 m = firstL (tab x) (V x m) := by
  have hb := fst_bd (fun k => decide (V x k ≥ V x m)) (show (0 : Int) ≤ m by omega)
  obtain ⟨r, hr⟩ : ∃ r, r = fst (fun k => decide (V x k ≥ V x m)) 0 m := ⟨_, rfl⟩
  have hA : ∀ k : Int, 0 ≤ k → k < r → V x k < V x m := fun k h0 h => by
    have := fst_before (fun k => decide (V x k ≥ V x m)) (lo := 0) (hi := m) h0 (by omega) (by omega)
    simpa using this
  have hB : r < m → V x m ≤ V x r := fun h => by
    have := fst_at (fun k => decide (V x k ≥ V x m)) (lo := 0) (hi := m) (by omega)
    rw [← hr] at this
    simpa using this
  rw [← hr] at hb ⊢
  have hl := tab_len x
  have : firstL (tab x) (V x m) = r.toNat := first_is (by omega) (fun i hi => by rw [tab_getD x (by omega)]; exact hA i (by omega) (by omega)) (fun _ => by
    rw [tab_getD x (by omega), Int.toNat_of_nonneg hb.1]
    rcases Int.lt_or_eq_of_le hb.2 with h | h
    · exact hB h
    · rw [h]; exact Int.le_refl _)
  omega
theorem near_qn (x great c : Int) (hx : 0 ≤ x) (_ : 0 ≤ c) (hg : c ≤ great) : nearL (upToL (tab x) great) c = qn x c := by
  have hl := tab_len x
  have hf := first_le (tab x) c
  have hlu := up_len x great
  have hfu := first_up x great c hg
  have hgle : firstL (tab x) c ≤ firstL (tab x) great := by
    rcases Nat.lt_or_ge (firstL (tab x) great) (firstL (tab x) c) with h | h
    · have h1 := first_lt h
      have h2 := first_ge (l := tab x) (v := great) (by omega)
      omega
    · exact h
  have hG : ∀ i, i < firstL (tab x) great + 1 → (upToL (tab x) great).getD i 0 = (tab x).getD i 0 := fun i hi => getD_take hi
  obtain ⟨f, hfe⟩ : ∃ f, f = firstL (tab x) c := ⟨_, rfl⟩
  have hlt : ∀ i, i < f → V x i < c := fun i hi => by
    have := first_lt (l := tab x) (v := c) (by omega : i < firstL (tab x) c)
    rwa [tab_getD x (by omega)] at this
  have hge : f < 1024 → c ≤ V x f := fun h => by
    have := first_ge (l := tab x) (v := c) (by omega)
    rwa [tab_getD x (by omega), ← hfe] at this
  unfold nearL qn
  rw [hfu, fst_tab, ← hfe]
  dsimp only
  by_cases h1 : f < 1024
  · rw [if_pos h1]
    rw [show min (f : Int) 1023 = f by omega]
    by_cases h0 : f = 0
    · rw [if_neg (by omega), if_pos (by omega), h0]; rfl
    · have g1 : (upToL (tab x) great).getD (f - 1) 0 = V x (f - 1 : Nat) := by rw [hG _ (by omega), tab_getD x (by omega)]
      have g2 : (upToL (tab x) great).getD f 0 = V x f := by rw [hG _ (by omega), tab_getD x (by omega)]
      have e1 : ((f : Int) - 1) = ((f - 1 : Nat) : Int) := by omega
      have v1 := hlt (f - 1) (by omega)
      have v2 := hge h1
      rw [g1, g2, if_neg (show ¬ (f : Int) = 0 by omega), e1]
      by_cases hc : c - V x (f - 1 : Nat) ≤ V x f - c
      · rw [if_pos (by omega), if_pos (by unfold absI; omega), first_up x great _ (by omega), fst_tab2 x (f - 1) (by omega) hx]
        have : firstL (tab x) (V x (f - 1 : Nat)) ≤ f - 1 := by
          rcases Nat.lt_or_ge (f - 1) (firstL (tab x) (V x (f - 1 : Nat))) with h | h
          · have := first_lt h
            rw [tab_getD x (by omega)] at this
            omega
          · exact h
        rw [if_pos (by omega)]
      · rw [if_neg (by omega), if_neg (by unfold absI; omega)]
  · have h2 : f = 1024 := by omega
    rw [if_neg h1]
    have h3 : (upToL (tab x) great).length = 1024 := by omega
    have g1 : (upToL (tab x) great).getD ((upToL (tab x) great).length - 1) 0 = V x 1023 := by rw [hG _ (by omega), h3, tab_getD x (by omega)]; rfl
    have v1 : V x 1023 < c := hlt 1023 (by omega)
    have v2 : V x 1022 < c := hlt 1022 (by omega)
    have vm := V_mono hx (show (0 : Int) ≤ 1022 by omega) (show (1022 : Int) ≤ 1023 by omega) (by omega)
    rw [if_pos (by omega), g1, show min (f : Int) 1023 = 1023 by omega, if_neg (show ¬ (1023 : Int) = 0 by omega), first_up x great _ (by omega), show (1023 : Int) - 1 = 1022 by omega]
    by_cases hv : V x 1022 = V x 1023
    · rw [if_pos (show absI (V x 1022 - c) ≤ absI (V x 1023 - c) by rw [hv]; exact Int.le_refl _), ← hv]
      have e := fst_tab2 x 1022 (by omega) hx
      rw [show ((1022 : Nat) : Int) = 1022 by rfl] at e
      rw [e]
      have : firstL (tab x) (V x 1022) ≤ 1022 := by
        rcases Nat.lt_or_ge 1022 (firstL (tab x) (V x 1022)) with h | h
        · have := first_lt h
          rw [tab_getD x (by omega)] at this
          exact absurd this (by show ¬ V x 1022 < _; omega)
        · exact h
      rw [if_pos (by omega)]
    · rw [if_neg (show ¬ absI (V x 1022 - c) ≤ absI (V x 1023 - c) by unfold absI; omega)]
      have : firstL (tab x) (V x 1023) = 1023 := first_is (by omega) (fun i hi => by
        rw [tab_getD x (by omega)]
        have := V_mono hx (show (0 : Int) ≤ (i : Int) by omega) (show (i : Int) ≤ 1022 by omega) (by omega)
        omega) (fun _ => by rw [tab_getD x (by omega)]; exact Int.le_refl _)
      rw [this]
      rfl

end Go.Proofs.Ytglpdojccncjjaa.Q15
