/- The plain functions of layer 15: what the program's functions return. -/
import Derived.Test.YtglpdojccncjjaaQuantTab
namespace Go.Proofs.Ytglpdojccncjjaa.Q15

/-- P of a quantum from 0 on. -/
def P (q : Int) : Int := powTab.getD q.toNat 0
/-- The step of a scale. -/
def stepI (s : Int) : Int := ([4096, 4871, 5793, 6889] : List Int).getD (s % 4).toNat 0 * 2 ^ (s / 4).toNat / 256
/-- The value of a quantum from 0 on with a step. -/
def V (x q : Int) : Int := min ((2 * P q * x + 256) / 512) 2097152
/-- What a binary search finds. -/
def IsFirst (p : Int → Bool) (lo hi r : Int) : Prop := lo ≤ r ∧ r ≤ hi ∧ (r = lo ∨ p (r - 1) = false) ∧ (r = hi ∨ p r = true)
def fst (p : Int → Bool) (lo hi : Int) : Int := lo + ((List.range (hi - lo).toNat).findIdx fun k => p (lo + (k : Nat)))
def absI (n : Int) : Int := max n (-n)
/-- The quantum of a coefficient from 0 on with a step. -/
def qn (x c : Int) : Int :=
  let q := fst (fun k => decide (V x k ≥ c)) 0 1023
  if q = 0 then 0 else if absI (V x (q - 1) - c) ≤ absI (V x q - c) then fst (fun k => decide (V x k ≥ V x (q - 1))) 0 (q - 1) else q
def sg (n r : Int) : Int := if n < 0 then -r else r

theorem powTab_len : powTab.length = 1024 := by decide +kernel
theorem powTab_mono : powTab.Pairwise (· ≤ ·) := by
  have h : ((powTab.zip powTab.tail).all fun x => decide (x.1 ≤ x.2)) = true := by decide +kernel
  have gen : ∀ l : List Int, ((l.zip l.tail).all fun x => decide (x.1 ≤ x.2)) = true → l.Pairwise (· ≤ ·) := by
    intro l
    induction l with
    | nil => intro _; exact .nil
    | cons a t ih =>
      intro h
      cases t with
      | nil => exact .cons (by simp) .nil
      | cons b t =>
        simp only [List.tail_cons, List.zip_cons_cons, List.all_cons, Bool.and_eq_true, decide_eq_true_eq] at h
        have h2 := ih h.2
        refine .cons (fun x hx => ?_) h2
        rcases List.mem_cons.1 hx with rfl | hx
        · exact h.1
        · exact Int.le_trans h.1 (List.rel_of_pairwise_cons h2 hx)
  exact gen _ h
theorem powTab_all : powTab.all (fun x => decide (0 ≤ x ∧ x ≤ 164925)) = true := by decide +kernel

theorem P_bd (q : Int) : 0 ≤ P q ∧ P q ≤ 164925 := by
  unfold P
  rw [List.getD_eq_getElem?_getD]
  cases h : powTab[q.toNat]? with
  | none => simp
  | some x =>
    have := List.all_eq_true.1 powTab_all x (List.mem_of_getElem? h)
    simpa using this
theorem P_mono {a b : Int} (h0 : 0 ≤ a) (h : a ≤ b) (h1 : b ≤ 1023) : P a ≤ P b := by
  unfold P
  have hl := powTab_len
  rcases Int.lt_or_eq_of_le h with h | rfl
  · rw [List.getD_eq_getElem?_getD, List.getD_eq_getElem?_getD, List.getElem?_eq_getElem (by omega), List.getElem?_eq_getElem (by omega)]
    exact (List.pairwise_iff_getElem.1 powTab_mono) _ _ _ _ (by omega)
  · exact Int.le_refl _
theorem mul_bd {a b A B : Int} (h0 : 0 ≤ a) (h1 : a ≤ A) (g0 : 0 ≤ b) (g1 : b ≤ B) : 0 ≤ a * b ∧ a * b ≤ A * B :=
  ⟨Int.mul_nonneg h0 g0, Int.le_trans (Int.mul_le_mul_of_nonneg_right h1 g0) (Int.mul_le_mul_of_nonneg_left g1 (by omega))⟩
theorem stepI_all : ((List.range 96).all fun k => decide (16 ≤ stepI (k : Nat) ∧ stepI (k : Nat) ≤ 268435456)) = true := by decide +kernel
theorem stepI_bd {s : Int} (h0 : 0 ≤ s) (h1 : s ≤ 95) : 16 ≤ stepI s ∧ stepI s ≤ 268435456 := by
  have h := List.all_eq_true.1 stepI_all s.toNat (by simp; omega)
  simp only [decide_eq_true_eq] at h
  rwa [Int.toNat_of_nonneg h0] at h
theorem V_bd {x : Int} (q : Int) (h0 : 0 ≤ x) : 0 ≤ V x q ∧ V x q ≤ 2097152 := by
  unfold V
  have := Int.mul_nonneg (a := 2 * P q) (b := x) (by have := P_bd q; omega) h0
  omega
theorem V_mono {x a b : Int} (hx : 0 ≤ x) (h0 : 0 ≤ a) (h : a ≤ b) (h1 : b ≤ 1023) : V x a ≤ V x b := by
  unfold V
  have := Int.mul_le_mul_of_nonneg_right (c := x) (show 2 * P a ≤ 2 * P b by have := P_mono h0 h h1; omega) hx
  omega

theorem fst_bd (p : Int → Bool) {lo hi : Int} (h : lo ≤ hi) : lo ≤ fst p lo hi ∧ fst p lo hi ≤ hi := by
  unfold fst
  have := List.findIdx_le_length (p := fun k : Nat => p (lo + k)) (xs := List.range (hi - lo).toNat)
  simp at this
  omega
theorem fst_at (p : Int → Bool) {lo hi : Int} (h : fst p lo hi < hi) : p (fst p lo hi) = true := by
  have hl : (List.range (hi - lo).toNat).findIdx (fun k : Nat => p (lo + k)) < (List.range (hi - lo).toNat).length := by
    unfold fst at h
    simp
    omega
  have := List.findIdx_getElem (w := hl)
  simpa [fst] using this
theorem fst_before (p : Int → Bool) {lo hi x : Int} (h0 : lo ≤ x) (h : x < fst p lo hi) (hh : lo ≤ hi) : p x = false := by
  have hb := (fst_bd p hh).2
  have hx : (x - lo).toNat < (List.range (hi - lo).toNat).findIdx (fun k : Nat => p (lo + k)) := by
    unfold fst at h
    omega
  have := List.not_of_lt_findIdx hx
  simp only [List.getElem_range] at this
  rw [show lo + ((x - lo).toNat : Int) = x by omega] at this
  exact Bool.eq_false_iff.2 (by simpa using this)
/-- What the search finds is the first, if the test rises. -/
theorem IsFirst.eq {p : Int → Bool} {lo hi r : Int} (h : IsFirst p lo hi r) (hm : ∀ a b, lo ≤ a → a ≤ b → b < hi → p a = true → p b = true) : r = fst p lo hi := by
  obtain ⟨h0, h1, h2, h3⟩ := h
  have hb := fst_bd p (Int.le_trans h0 h1)
  rcases Int.lt_trichotomy r (fst p lo hi) with h | h | h
  · have h4 := fst_before p h0 h (Int.le_trans h0 h1)
    rcases h3 with h3 | h3
    · omega
    · rw [h3] at h4; cases h4
  · exact h
  · have h4 := fst_at p (lo := lo) (hi := hi) (by omega)
    have h5 := hm _ (r - 1) hb.1 (by omega) (by omega) h4
    rcases h2 with h2 | h2
    · omega
    · rw [h5] at h2; cases h2

/-- The square of what a coefficient differs by from the value of its quantum. -/
def dsq (x n : Int) : Int := (absI n - V x (qn x (absI n))) * (absI n - V x (qn x (absI n)))
/-- The noise, as far as it is worked out. -/
def noiseTo (x limit : Int) : Int → List Int → Int
  | s, [] => s
  | s, n :: t => if s + dsq x n > limit then s + dsq x n else noiseTo x limit (s + dsq x n) t
def noiseI (x : Int) (l : List Int) : Int := (l.map (dsq x)).foldl (· + ·) 0

theorem sq_bd {d : Int} (h0 : -2097152 ≤ d) (h1 : d ≤ 2097152) : 0 ≤ d * d ∧ d * d ≤ 4398046511104 := by
  rcases Int.le_total 0 d with h | h
  · exact mul_bd h h1 h h1
  · have := mul_bd (a := -d) (b := -d) (by omega) (show -d ≤ 2097152 by omega) (by omega) (show -d ≤ 2097152 by omega)
    rwa [Int.neg_mul_neg] at this
theorem dsq_bd {x n : Int} (hx : 0 ≤ x) (h0 : -2097152 ≤ n) (h1 : n ≤ 2097152) : 0 ≤ dsq x n ∧ dsq x n ≤ 4398046511104 := by
  have hv := V_bd (qn x (absI n)) hx
  have ha : 0 ≤ absI n ∧ absI n ≤ 2097152 := by unfold absI; omega
  unfold dsq
  exact sq_bd (by omega) (by omega)

/-- The error of a list with a scale. -/
def isS (n : Int) : Bool := decide (0 ≤ n ∧ n ≤ 95)
def isC (n : Int) : Bool := decide (-2097152 ≤ n ∧ n ≤ 2097152)
def isQ (n : Int) : Bool := decide (-1023 ≤ n ∧ n ≤ 1023)
def chk (p : Int → Bool) (l : List Int) (s : Int) : Int := if isS s then if l.length ≤ 128 then if l.all p then 0 else 6 else 2 else 1
def peakI (l : List Int) : Int := l.foldl (fun a n => max (max a n) (-n)) 0

/-- The least scale that fits numbers up to top. -/
def leastT (top : Int) : Int := fst (fun s => decide (V (stepI s) 1023 ≥ top)) 0 95
def leastI (l : List Int) : Int := leastT (peakI l)
theorem tops_mono : ((List.range 95).all fun k => decide (V (stepI (k : Nat)) 1023 ≤ V (stepI ((k + 1 : Nat) : Int)) 1023)) = true := by decide +kernel
theorem top_mono {a b : Int} (h0 : 0 ≤ a) (h : a ≤ b) (h1 : b ≤ 95) : V (stepI a) 1023 ≤ V (stepI b) 1023 := by
  obtain ⟨n, rfl⟩ := Int.eq_ofNat_of_zero_le h0
  obtain ⟨d, hd⟩ := Int.eq_ofNat_of_zero_le (show 0 ≤ b - n by omega)
  obtain rfl : b = ((n + d : Nat) : Int) := by omega
  induction d with
  | zero => exact Int.le_refl _
  | succ d ih =>
    have h := List.all_eq_true.1 tops_mono (n + d) (by simp; omega)
    simp only [decide_eq_true_eq] at h
    exact Int.le_trans (ih (by omega) (by omega) (by omega)) h
theorem peak_bd (l : List Int) (h : ∀ n ∈ l, -2097152 ≤ n ∧ n ≤ 2097152) (a : Int) (h0 : 0 ≤ a) (h1 : a ≤ 2097152) : 0 ≤ l.foldl (fun a n => max (max a n) (-n)) a ∧ l.foldl (fun a n => max (max a n) (-n)) a ≤ 2097152 := by
  induction l generalizing a with
  | nil => exact ⟨h0, h1⟩
  | cons n t ih =>
    have hn := h n (by simp)
    exact ih (fun x hx => h x (by simp [hx])) (max (max a n) (-n)) (by omega) (by omega)

end Go.Proofs.Ytglpdojccncjjaa.Q15
