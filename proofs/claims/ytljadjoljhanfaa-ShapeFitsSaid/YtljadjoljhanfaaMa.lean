/- The plain numbers of layer 15: the table of powers. -/
import Derived.Test.YtljadjoljhanfaaWWords
import Derived.Test.YtljadjoljhanfaaProg
import Derived.WalkKit
import Derived.WalkSpells
import Derived.WalkLawsBesides
import Derived.Laws.Rows
import Derived.WalkKit
import Derived.WalkSpells
import Derived.WalkLawsBesides
import Derived.KernelRfl
import Derived.Deep.RegionHeld3
import Derived.Deep.LoopGhost
import Derived.Deep.AppendLies
import Derived.Laws.Rows
import Derived.Shelf.GgClosure.Gives
import Derived.Test.YtljadjoljhanfaaWWords
import Derived.Test.YtljadjoljhanfaaWLast
import Derived.Test.YtljadjoljhanfaaWMore
set_option linter.unusedVariables false
set_option linter.unusedSimpArgs false
namespace Go.Proofs.Ytljadjoljhanfaa.Q15

/-- P of the quanta from 0 on, as the program lists them. -/
def powTab : List Int := [
  0, 16, 40, 69, 101, 136, 174, 214, 256, 299, 344, 391, 439, 489, 539, 591, 645, 699, 754, 811, 868, 926, 986, 1046, 1107, 1169, 1232, 1296, 1360, 1425, 1491, 1558,
  1625, 1693, 1762, 1831, 1901, 1972, 2044, 2116, 2188, 2262, 2335, 2410, 2485, 2560, 2637, 2713, 2791, 2868, 2947, 3026, 3105, 3185, 3265, 3346, 3427, 3509, 3592, 3674, 3758, 3842, 3926, 4010,
  4096, 4181, 4267, 4353, 4440, 4528, 4615, 4703, 4792, 4881, 4970, 5060, 5150, 5241, 5332, 5423, 5515, 5607, 5699, 5792, 5886, 5979, 6073, 6168, 6262, 6357, 6453, 6549, 6645, 6741, 6838, 6935,
  7033, 7130, 7229, 7327, 7426, 7525, 7625, 7725, 7825, 7925, 8026, 8127, 8229, 8330, 8432, 8535, 8637, 8740, 8844, 8947, 9051, 9155, 9260, 9365, 9470, 9575, 9681, 9787, 9893, 10000, 10106, 10213,
  10321, 10428, 10536, 10645, 10753, 10862, 10971, 11080, 11190, 11300, 11410, 11520, 11631, 11742, 11853, 11964, 12076, 12188, 12300, 12412, 12525, 12638, 12751, 12865, 12979, 13093, 13207, 13321, 13436, 13551, 13666, 13782,
  13897, 14013, 14129, 14246, 14362, 14479, 14597, 14714, 14831, 14949, 15067, 15186, 15304, 15423, 15542, 15661, 15781, 15900, 16020, 16140, 16261, 16381, 16502, 16623, 16744, 16866, 16987, 17109, 17231, 17354, 17476, 17599,
  17722, 17845, 17968, 18092, 18216, 18340, 18464, 18589, 18713, 18838, 18963, 19088, 19214, 19340, 19465, 19592, 19718, 19844, 19971, 20098, 20225, 20352, 20480, 20608, 20736, 20864, 20992, 21120, 21249, 21378, 21507, 21636,
  21766, 21895, 22025, 22155, 22286, 22416, 22547, 22677, 22808, 22940, 23071, 23202, 23334, 23466, 23598, 23731, 23863, 23996, 24129, 24262, 24395, 24528, 24662, 24796, 24929, 25064, 25198, 25332, 25467, 25602, 25737, 25872,
  26007, 26143, 26279, 26415, 26551, 26687, 26823, 26960, 27097, 27234, 27371, 27508, 27646, 27783, 27921, 28059, 28197, 28335, 28474, 28613, 28751, 28890, 29029, 29169, 29308, 29448, 29588, 29728, 29868, 30008, 30149, 30289,
  30430, 30571, 30712, 30853, 30995, 31137, 31278, 31420, 31562, 31705, 31847, 31990, 32132, 32275, 32418, 32561, 32705, 32848, 32992, 33136, 33280, 33424, 33568, 33713, 33857, 34002, 34147, 34292, 34437, 34583, 34728, 34874,
  35020, 35166, 35312, 35458, 35605, 35751, 35898, 36045, 36192, 36339, 36487, 36634, 36782, 36929, 37077, 37226, 37374, 37522, 37671, 37819, 37968, 38117, 38266, 38416, 38565, 38714, 38864, 39014, 39164, 39314, 39464, 39615,
  39765, 39916, 40067, 40218, 40369, 40520, 40672, 40823, 40975, 41127, 41279, 41431, 41583, 41735, 41888, 42041, 42193, 42346, 42500, 42653, 42806, 42960, 43113, 43267, 43421, 43575, 43729, 43883, 44038, 44192, 44347, 44502,
  44657, 44812, 44967, 45123, 45278, 45434, 45590, 45746, 45902, 46058, 46214, 46371, 46527, 46684, 46841, 46998, 47155, 47312, 47470, 47627, 47785, 47943, 48101, 48259, 48417, 48575, 48733, 48892, 49051, 49210, 49368, 49527,
  49687, 49846, 50005, 50165, 50325, 50485, 50645, 50805, 50965, 51125, 51286, 51446, 51607, 51768, 51929, 52090, 52251, 52412, 52574, 52735, 52897, 53059, 53221, 53383, 53545, 53707, 53870, 54032, 54195, 54358, 54521, 54684,
  54847, 55010, 55174, 55337, 55501, 55665, 55829, 55993, 56157, 56321, 56485, 56650, 56815, 56979, 57144, 57309, 57474, 57639, 57805, 57970, 58136, 58302, 58467, 58633, 58799, 58965, 59132, 59298, 59465, 59631, 59798, 59965,
  60132, 60299, 60466, 60633, 60801, 60968, 61136, 61304, 61472, 61640, 61808, 61976, 62145, 62313, 62482, 62650, 62819, 62988, 63157, 63326, 63496, 63665, 63834, 64004, 64174, 64344, 64514, 64684, 64854, 65024, 65194, 65365,
  65536, 65706, 65877, 66048, 66219, 66390, 66561, 66733, 66904, 67076, 67248, 67420, 67591, 67764, 67936, 68108, 68280, 68453, 68625, 68798, 68971, 69144, 69317, 69490, 69663, 69837, 70010, 70184, 70357, 70531, 70705, 70879,
  71053, 71227, 71401, 71576, 71750, 71925, 72100, 72275, 72450, 72625, 72800, 72975, 73150, 73326, 73501, 73677, 73853, 74029, 74205, 74381, 74557, 74733, 74910, 75086, 75263, 75440, 75617, 75793, 75971, 76148, 76325, 76502,
  76680, 76857, 77035, 77213, 77391, 77568, 77747, 77925, 78103, 78281, 78460, 78638, 78817, 78996, 79175, 79354, 79533, 79712, 79891, 80071, 80250, 80430, 80609, 80789, 80969, 81149, 81329, 81509, 81690, 81870, 82050, 82231,
  82412, 82592, 82773, 82954, 83135, 83317, 83498, 83679, 83861, 84042, 84224, 84406, 84588, 84769, 84952, 85134, 85316, 85498, 85681, 85863, 86046, 86229, 86411, 86594, 86777, 86961, 87144, 87327, 87511, 87694, 87878, 88061,
  88245, 88429, 88613, 88797, 88981, 89166, 89350, 89534, 89719, 89904, 90088, 90273, 90458, 90643, 90828, 91014, 91199, 91384, 91570, 91755, 91941, 92127, 92313, 92499, 92685, 92871, 93057, 93244, 93430, 93617, 93803, 93990,
  94177, 94364, 94551, 94738, 94925, 95112, 95300, 95487, 95675, 95862, 96050, 96238, 96426, 96614, 96802, 96990, 97178, 97367, 97555, 97744, 97932, 98121, 98310, 98499, 98688, 98877, 99066, 99255, 99445, 99634, 99824, 100013,
  100203, 100393, 100583, 100773, 100963, 101153, 101343, 101534, 101724, 101915, 102105, 102296, 102487, 102678, 102869, 103060, 103251, 103442, 103634, 103825, 104017, 104208, 104400, 104592, 104784, 104976, 105168, 105360, 105552, 105744, 105937, 106129,
  106322, 106514, 106707, 106900, 107093, 107286, 107479, 107672, 107865, 108059, 108252, 108446, 108639, 108833, 109027, 109221, 109415, 109609, 109803, 109997, 110191, 110386, 110580, 110775, 110969, 111164, 111359, 111554, 111749, 111944, 112139, 112334,
  112529, 112725, 112920, 113116, 113312, 113507, 113703, 113899, 114095, 114291, 114487, 114684, 114880, 115076, 115273, 115469, 115666, 115863, 116060, 116257, 116454, 116651, 116848, 117045, 117242, 117440, 117637, 117835, 118033, 118230, 118428, 118626,
  118824, 119022, 119220, 119419, 119617, 119815, 120014, 120212, 120411, 120610, 120809, 121008, 121207, 121406, 121605, 121804, 122003, 122203, 122402, 122602, 122801, 123001, 123201, 123401, 123601, 123801, 124001, 124201, 124401, 124602, 124802, 125003,
  125203, 125404, 125605, 125806, 126007, 126208, 126409, 126610, 126811, 127012, 127214, 127415, 127617, 127819, 128020, 128222, 128424, 128626, 128828, 129030, 129232, 129435, 129637, 129839, 130042, 130245, 130447, 130650, 130853, 131056, 131259, 131462,
  131665, 131868, 132071, 132275, 132478, 132682, 132885, 133089, 133293, 133497, 133701, 133905, 134109, 134313, 134517, 134721, 134926, 135130, 135335, 135540, 135744, 135949, 136154, 136359, 136564, 136769, 136974, 137179, 137385, 137590, 137796, 138001,
  138207, 138412, 138618, 138824, 139030, 139236, 139442, 139648, 139854, 140061, 140267, 140474, 140680, 140887, 141093, 141300, 141507, 141714, 141921, 142128, 142335, 142542, 142750, 142957, 143165, 143372, 143580, 143787, 143995, 144203, 144411, 144619,
  144827, 145035, 145243, 145451, 145660, 145868, 146077, 146285, 146494, 146703, 146911, 147120, 147329, 147538, 147747, 147957, 148166, 148375, 148584, 148794, 149003, 149213, 149423, 149632, 149842, 150052, 150262, 150472, 150682, 150893, 151103, 151313,
  151524, 151734, 151945, 152155, 152366, 152577, 152788, 152999, 153210, 153421, 153632, 153843, 154054, 154266, 154477, 154689, 154900, 155112, 155323, 155535, 155747, 155959, 156171, 156383, 156595, 156808, 157020, 157232, 157445, 157657, 157870, 158082,
  158295, 158508, 158721, 158934, 159147, 159360, 159573, 159786, 160000, 160213, 160426, 160640, 160853, 161067, 161281, 161495, 161708, 161922, 162136, 162350, 162565, 162779, 162993, 163207, 163422, 163636, 163851, 164066, 164280, 164495, 164710, 164925]

end Go.Proofs.Ytljadjoljhanfaa.Q15
/- The plain functions of layer 15: what the program's functions return. -/
namespace Go.Proofs.Ytljadjoljhanfaa.Q15

/-- P of a quantum from 0 on. -/
def P (q : Int) : Int := powTab.getD q.toNat 0
/-- The step of a scale. -/
def stepI (s : Int) : Int := ([4096, 4871, 5793, 6889] : List Int).getD (s % 4).toNat 0 * 2 ^ (s / 4).toNat / 256
/-- The value of a quantum from 0 on with a step. -/
def V (x q : Int) : Int := min ((2 * P q * x + 256) / 512) 2097152
/-- What a binary search finds. -/
def IsFirst (p : Int → Bool) (lo hi r : Int) : Prop := lo ≤ r ∧ r ≤ hi ∧ (r = lo ∨ p (r - 1) = false) ∧ (r = hi ∨ p r = true)
def fst (p : Int → Bool) (lo hi : Int) : Int := lo + ((List.range (hi - lo).toNat).findIdx fun k => p (lo + (k : Nat)))
def absI (n : Int) : Int := max n (-n)
/-- The quantum of a coefficient from 0 on with a step. -/
def qn (x c : Int) : Int :=
  let q := fst (fun k => decide (V x k ≥ c)) 0 1023
  if q = 0 then 0 else if absI (V x (q - 1) - c) ≤ absI (V x q - c) then fst (fun k => decide (V x k ≥ V x (q - 1))) 0 (q - 1) else q
def sg (n r : Int) : Int := if n < 0 then -r else r

theorem powTab_len : powTab.length = 1024 := by decide +kernel
theorem powTab_mono : powTab.Pairwise (· ≤ ·) := by
  have h : ((powTab.zip powTab.tail).all fun x => decide (x.1 ≤ x.2)) = true := by decide +kernel
  have gen : ∀ l : List Int, ((l.zip l.tail).all fun x => decide (x.1 ≤ x.2)) = true → l.Pairwise (· ≤ ·) := by
    intro l
    induction l with
    | nil => intro _; exact .nil
    | cons a t ih =>
      intro h
      cases t with
      | nil => exact .cons (by simp) .nil
      | cons b t =>
        simp only [List.tail_cons, List.zip_cons_cons, List.all_cons, Bool.and_eq_true, decide_eq_true_eq] at h
        have h2 := ih h.2
        refine .cons (fun x hx => ?_) h2
        rcases List.mem_cons.1 hx with rfl | hx
        · exact h.1
        · exact Int.le_trans h.1 (List.rel_of_pairwise_cons h2 hx)
  exact gen _ h
theorem powTab_all : powTab.all (fun x => decide (0 ≤ x ∧ x ≤ 164925)) = true := by decide +kernel

theorem P_bd (q : Int) : 0 ≤ P q ∧ P q ≤ 164925 := by
  unfold P
  rw [List.getD_eq_getElem?_getD]
  cases h : powTab[q.toNat]? with
  | none => simp
  | some x =>
    have := List.all_eq_true.1 powTab_all x (List.mem_of_getElem? h)
    simpa using this
theorem P_mono {a b : Int} (h0 : 0 ≤ a) (h : a ≤ b) (h1 : b ≤ 1023) : P a ≤ P b := by
  unfold P
  have hl := powTab_len
  rcases Int.lt_or_eq_of_le h with h | rfl
  · rw [List.getD_eq_getElem?_getD, List.getD_eq_getElem?_getD, List.getElem?_eq_getElem (by omega), List.getElem?_eq_getElem (by omega)]
    exact (List.pairwise_iff_getElem.1 powTab_mono) _ _ _ _ (by omega)
  · exact Int.le_refl _
theorem mul_bd {a b A B : Int} (h0 : 0 ≤ a) (h1 : a ≤ A) (g0 : 0 ≤ b) (g1 : b ≤ B) : 0 ≤ a * b ∧ a * b ≤ A * B :=
  ⟨Int.mul_nonneg h0 g0, Int.le_trans (Int.mul_le_mul_of_nonneg_right h1 g0) (Int.mul_le_mul_of_nonneg_left g1 (by omega))⟩
theorem stepI_all : ((List.range 96).all fun k => decide (16 ≤ stepI (k : Nat) ∧ stepI (k : Nat) ≤ 268435456)) = true := by decide +kernel
theorem stepI_bd {s : Int} (h0 : 0 ≤ s) (h1 : s ≤ 95) : 16 ≤ stepI s ∧ stepI s ≤ 268435456 := by
  have h := List.all_eq_true.1 stepI_all s.toNat (by simp; omega)
  simp only [decide_eq_true_eq] at h
  rwa [Int.toNat_of_nonneg h0] at h
theorem V_bd {x : Int} (q : Int) (h0 : 0 ≤ x) : 0 ≤ V x q ∧ V x q ≤ 2097152 := by
  unfold V
  have := Int.mul_nonneg (a := 2 * P q) (b := x) (by have := P_bd q; omega) h0
  omega
theorem V_mono {x a b : Int} (hx : 0 ≤ x) (h0 : 0 ≤ a) (h : a ≤ b) (h1 : b ≤ 1023) : V x a ≤ V x b := by
  unfold V
  have := Int.mul_le_mul_of_nonneg_right (c := x) (show 2 * P a ≤ 2 * P b by have := P_mono h0 h h1; omega) hx
  omega

theorem fst_bd (p : Int → Bool) {lo hi : Int} (h : lo ≤ hi) : lo ≤ fst p lo hi ∧ fst p lo hi ≤ hi := by
  unfold fst
  have := List.findIdx_le_length (p := fun k : Nat => p (lo + k)) (xs := List.range (hi - lo).toNat)
  simp at this
  omega
theorem fst_at (p : Int → Bool) {lo hi : Int} (h : fst p lo hi < hi) : p (fst p lo hi) = true := by
  have hl : (List.range (hi - lo).toNat).findIdx (fun k : Nat => p (lo + k)) < (List.range (hi - lo).toNat).length := by
    unfold fst at h
    simp
    omega
  have := List.findIdx_getElem (w := hl)
  simpa [fst] using this
theorem fst_before (p : Int → Bool) {lo hi x : Int} (h0 : lo ≤ x) (h : x < fst p lo hi) (hh : lo ≤ hi) : p x = false := by
  have hb := (fst_bd p hh).2
  have hx : (x - lo).toNat < (List.range (hi - lo).toNat).findIdx (fun k : Nat => p (lo + k)) := by
    unfold fst at h
    omega
  have := List.not_of_lt_findIdx hx
  simp only [List.getElem_range] at this
  rw [show lo + ((x - lo).toNat : Int) = x by omega] at this
  exact Bool.eq_false_iff.2 (by simpa using this)
/-- What the search finds is the first, if the test rises. -/
theorem IsFirst.eq {p : Int → Bool} {lo hi r : Int} (h : IsFirst p lo hi r) (hm : ∀ a b, lo ≤ a → a ≤ b → b < hi → p a = true → p b = true) : r = fst p lo hi := by
  obtain ⟨h0, h1, h2, h3⟩ := h
  have hb := fst_bd p (Int.le_trans h0 h1)
  rcases Int.lt_trichotomy r (fst p lo hi) with h | h | h
  · have h4 := fst_before p h0 h (Int.le_trans h0 h1)
    rcases h3 with h3 | h3
    · omega
    · rw [h3] at h4; cases h4
  · exact h
  · have h4 := fst_at p (lo := lo) (hi := hi) (by omega)
    have h5 := hm _ (r - 1) hb.1 (by omega) (by omega) h4
    rcases h2 with h2 | h2
    · omega
    · rw [h5] at h2; cases h2

/-- The square of what a coefficient differs by from the value of its quantum. -/
def dsq (x n : Int) : Int := (absI n - V x (qn x (absI n))) * (absI n - V x (qn x (absI n)))
/-- The noise, as far as it is worked out. -/
def noiseTo (x limit : Int) : Int → List Int → Int
  | s, [] => s
  | s, n :: t => if s + dsq x n > limit then s + dsq x n else noiseTo x limit (s + dsq x n) t
def noiseI (x : Int) (l : List Int) : Int := (l.map (dsq x)).foldl (· + ·) 0

theorem sq_bd {d : Int} (h0 : -2097152 ≤ d) (h1 : d ≤ 2097152) : 0 ≤ d * d ∧ d * d ≤ 4398046511104 := by
  rcases Int.le_total 0 d with h | h
  · exact mul_bd h h1 h h1
  · have := mul_bd (a := -d) (b := -d) (by omega) (show -d ≤ 2097152 by omega) (by omega) (show -d ≤ 2097152 by omega)
    rwa [Int.neg_mul_neg] at this
theorem dsq_bd {x n : Int} (hx : 0 ≤ x) (h0 : -2097152 ≤ n) (h1 : n ≤ 2097152) : 0 ≤ dsq x n ∧ dsq x n ≤ 4398046511104 := by
  have hv := V_bd (qn x (absI n)) hx
  have ha : 0 ≤ absI n ∧ absI n ≤ 2097152 := by unfold absI; omega
  unfold dsq
  exact sq_bd (by omega) (by omega)

/-- The error of a list with a scale. -/
def isS (n : Int) : Bool := decide (0 ≤ n ∧ n ≤ 95)
def isC (n : Int) : Bool := decide (-2097152 ≤ n ∧ n ≤ 2097152)
def isQ (n : Int) : Bool := decide (-1023 ≤ n ∧ n ≤ 1023)
def chk (p : Int → Bool) (l : List Int) (s : Int) : Int := if isS s then if l.length ≤ 128 then if l.all p then 0 else 6 else 2 else 1
def peakI (l : List Int) : Int := l.foldl (fun a n => max (max a n) (-n)) 0

/-- The least scale that fits numbers up to top. -/
def leastT (top : Int) : Int := fst (fun s => decide (V (stepI s) 1023 ≥ top)) 0 95
def leastI (l : List Int) : Int := leastT (peakI l)
theorem tops_mono : ((List.range 95).all fun k => decide (V (stepI (k : Nat)) 1023 ≤ V (stepI ((k + 1 : Nat) : Int)) 1023)) = true := by decide +kernel
theorem top_mono {a b : Int} (h0 : 0 ≤ a) (h : a ≤ b) (h1 : b ≤ 95) : V (stepI a) 1023 ≤ V (stepI b) 1023 := by
  obtain ⟨n, rfl⟩ := Int.eq_ofNat_of_zero_le h0
  obtain ⟨d, hd⟩ := Int.eq_ofNat_of_zero_le (show 0 ≤ b - n by omega)
  obtain rfl : b = ((n + d : Nat) : Int) := by omega
  induction d with
  | zero => exact Int.le_refl _
  | succ d ih =>
    have h := List.all_eq_true.1 tops_mono (n + d) (by simp; omega)
    simp only [decide_eq_true_eq] at h
    exact Int.le_trans (ih (by omega) (by omega) (by omega)) h
theorem peak_bd (l : List Int) (h : ∀ n ∈ l, -2097152 ≤ n ∧ n ≤ 2097152) (a : Int) (h0 : 0 ≤ a) (h1 : a ≤ 2097152) : 0 ≤ l.foldl (fun a n => max (max a n) (-n)) a ∧ l.foldl (fun a n => max (max a n) (-n)) a ≤ 2097152 := by
  induction l generalizing a with
  | nil => exact ⟨h0, h1⟩
  | cons n t ih =>
    have hn := h n (by simp)
    exact ih (fun x hx => h x (by simp [hx])) (max (max a n) (-n)) (by omega) (by omega)

end Go.Proofs.Ytljadjoljhanfaa.Q15
namespace Go.Proofs.Ytljadjoljhanfaa.Q15
open Go.RowKit Go.Proofs.YtljadjoljhanfaaW.PrintWords

theorem fill_row : ∀ (vals : List Value) (k : Nat) (cells : Array Value), (∀ v ∈ vals, v.cells = #[v]) → k + vals.length = cells.size →
    Instr.fill (fun i => some (i * 1, 1)) cells ((List.range' k vals.length).zip vals) = some (cells.toList.take k ++ vals).toArray
  | [], k, cells, _, hk => by
    simp at hk
    simp [Instr.fill, List.take_of_length_le (show cells.toList.length ≤ k by simp [hk])]
  | v :: vs, k, cells, h1, hk => by
    have hv := h1 v (by simp)
    have hlt : k < cells.size := by simp at hk; omega
    simp only [List.length_cons, List.range'_succ, List.zip_cons_cons, Instr.fill, Nat.mul_one, hv]
    rw [if_neg (by simp; omega)]
    have e : (#[v].zipIdx.foldl (fun cs (c, j) => cs.setIfInBounds (k + j) c) cells) = cells.setIfInBounds k v := by simp
    rw [show (Array.foldl (fun cs (x : Value × Nat) => match x with | (c, j) => cs.setIfInBounds (k + j) c) cells #[v].zipIdx) = cells.setIfInBounds k v from by simp]
    have ih := fill_row vs (k + 1) (cells.setIfInBounds k v) (fun u hu => h1 u (by simp [hu])) (by simp at hk ⊢; omega)
    simp only [Nat.mul_one] at ih
    rw [ih]
    congr 2
    apply List.ext_getElem?
    intro i
    simp only [Array.toList_setIfInBounds, List.getElem?_append, List.length_take, List.length_set, Array.length_toList]
    by_cases hi : i < k
    · simp [hi, show i < k + 1 by omega, show min (k + 1) cells.size = k + 1 by omega, show min k cells.size = k by omega, show k ≠ i by omega]
    · by_cases hi2 : i = k
      · subst hi2
        simp [show min (i + 1) cells.size = i + 1 by omega, show min i cells.size = i by omega]
      · have e2 : i - k = (i - (k + 1)) + 1 := by omega
        simp [hi, show ¬ i < k + 1 by omega, show min (k + 1) cells.size = k + 1 by omega, show min k cells.size = k by omega, e2]

def POW : Array Value := (powTab.map (Value.int .i64)).toArray

theorem powers_form : ∃ parts : Array (Nat × Operand), Try.f110 = 
{ name := "shawm/quant.powers", origin := "", params := #[], resultTypes := #[95], nfree := 0, ntmps := 2,
  results := #[Go.ResultVar.cell 0 95],
  body :=
    some
      ((Go.Code.region 0
            #[{ dst := some 0, op := Go.Op.alloc 95, type := 0, pos := "powers.go:6", after := #[], guard := none }]
            false).seq
        ((Go.Code.region 1
              #[{ dst := some 1,
                  op :=
                    Go.Op.build 95 parts,
                  type := 95, pos := "powers.go:7", after := #[], guard := none },
                { dst := none, op := Go.Op.store 95 (Go.Operand.tmp 0) (Go.Operand.tmp 1), type := 0,
                  pos := "powers.go:7",
                  after := #[{ on := 0, ground := Go.Ground.data }, { on := 0, ground := Go.Ground.phase }],
                  guard := none }]
              false).seq
          Go.Code.ret)),
  norace := false, file := "shawm/quant/powers.go", endLine := 73, tmpNames := #["", ""] }
   ∧ ∀ a : Act, parts.toList.map (fun (i, x) => (i, a.eval x)) = (List.range' 0 1024).zip (powTab.map (Value.int .i64)) := ⟨_, rfl, fun _ => by kernel_rfl⟩

theorem powers_size : POW.size = 1024 := by simp [POW]; decide +kernel

theorem powers_built (parts : Array (Nat × Operand)) (a : Act) (h : parts.toList.map (fun (i, x) => (i, a.eval x)) = (List.range' 0 1024).zip (powTab.map (Value.int .i64))) :
    Try.prog.built 95 (parts.map fun (i, x) => (i, a.eval x)).toList = some POW := by
  rw [Array.toList_map, h]
  have hf := fill_row (powTab.map (Value.int .i64)) 0 (Array.replicate 1024 (.int .i64 0)) (by intro v hv; simp at hv; obtain ⟨x, _, rfl⟩ := hv; rfl) (by simp; decide +kernel)
  have hl : (powTab.map (Value.int .i64)).length = 1024 := by simp; decide +kernel
  rw [hl] at hf
  have e : Try.prog.built 95 ((List.range' 0 1024).zip (powTab.map (Value.int .i64))) = Instr.fill (fun i => some (i * 1, 1)) (Array.replicate 1024 (.int .i64 0)) ((List.range' 0 1024).zip (powTab.map (Value.int .i64))) := by
    generalize (List.range' 0 1024).zip (powTab.map (Value.int .i64)) = l
    kernel_rfl
  rw [e, hf]
  simp [POW]

theorem wpList_value {P : Program} {ops : Array Oper} {rest : List Oper} {o : Oper} {a : Act} {w w' : World} {v : Value} {Q : Exit → Act → World → Prop} (hgd : o.guard = none)
    (hr : (execOp a.eval o).run P w = .ok (.value v) w') (h : wpList P ops Q rest (a.put o.dst v) w') : wpList P ops Q (o :: rest) a w :=
  wpList_plain hgd fun _ hK => by
    unfold Oper.wp
    rw [hr]
    exact hK _ _ h

def ZER : Array Value := Array.replicate 1024 (.int .i64 0)
theorem run_allocTab (ρ : Operand → Value) (o : Oper) (ho : o.op = .alloc 95) (w : World) :
    (execOp ρ o).run Try.prog w = .ok (.value (.pointer (some ⟨w.heap.size, 0, none⟩))) (w.alloc (.cells ZER 95)) := by
  obtain ⟨d, op, ty, pos, af, gu⟩ := o
  subst ho
  kernel_rfl
theorem tab_size : (Try.prog.info? 95).map (·.size) = some POW.size := by rw [powers_size]; kernel_rfl
theorem zer_size : ZER.size = POW.size := by rw [powers_size]; simp [ZER]
theorem tab_one : POW.all (·.oneCell') = true := by
  rw [Array.all_eq_true_iff_forall_mem]
  intro v hv
  simp [POW] at hv
  obtain ⟨x, _, rfl⟩ := hv
  rfl

set_option maxHeartbeats 400000 in
theorem powers_calls (w : World) :
    Calls Try.prog 110 #[] w fun e w' => e = .returned (.agg POW) ∧ Below w.heap.size w w' := by
  obtain ⟨parts, hf, hp⟩ := powers_form
  have hfn : Try.prog.funcs[110]? = some _ := Try.func110.trans (congrArg some hf)
  refine calls_of_wp hfn rfl ?_
  clear hfn hf
  have HB : ∀ a : Act, Try.prog.built 95 (parts.map fun (i, x) => (i, a.eval x)).toList = some POW := fun a => powers_built parts a (hp a)
  have HB := Aside0.mk HB
  clear hp
  simp only [List.size_toArray, List.length_nil, Nat.reduceSub, Array.replicate_succ, Array.replicate_zero, List.push_toArray, List.append_toArray, List.nil_append, List.cons_append]
  go_wp2_with (first | (refine wpList_value rfl (run_allocTab _ _ rfl _) ?_) | (refine wpList_build rfl 95 parts rfl (by rw [HB.out]; rfl) ?_; rw [HB.out, Option.getD_some]) | (refine wpList_store_row rfl 95 (.tmp 0) (.tmp 1) rfl w.heap.size POW rfl rfl 95 ZER (heap_alloc_new _ _) tab_size zer_size tab_one ?_))
  refine bodyPost_ret (v := .agg POW) (results_cell_row rfl _ _ w.heap.size 95 POW (0, 0) (.array 1024 3) rfl (setRow_heap _ _ ZER _ _ _ (heap_alloc_new _ _)) (by kernel_rfl) rfl tab_size) rfl ⟨rfl, ?_⟩
  have h := (Below.refl w.heap.size w).alloc (Nat.le_refl _) (.cells ZER 95)
  exact h.trans ⟨rfl, rfl, rfl, by simp, fun k hk => setRow_other _ _ _ _ (by omega)⟩

end Go.Proofs.Ytljadjoljhanfaa.Q15
/- What each function of package quant returns: values, searches, quanta. -/
namespace Go.Proofs.Ytljadjoljhanfaa.Q15
open Go.RowKit Go.Proofs.YtljadjoljhanfaaW.PrintWords Go.Proofs.YtljadjoljhanfaaW.PrintLast Go.Proofs.YtljadjoljhanfaaW.PrintMore
attribute [local go_sem] max2_int min2_int max_two min_two max_three min_three

theorem ret_int {k : IntKind} {a b : Int} (h : a = b) : Ending.returned (.int k a) = .returned (.int k b) := by rw [h]
theorem pow_at (q : Int) (h0 : 0 ≤ q) (h1 : q ≤ 1023) : POW[q.toNat]? = some (.int .i64 (P q)) := by
  have hl := powTab_len
  unfold POW P
  rw [List.getElem?_toArray, List.getElem?_map, List.getElem?_eq_getElem (by omega), List.getD_eq_getElem?_getD, List.getElem?_eq_getElem (by omega)]
  rfl

set_option maxHeartbeats 400000 in
theorem step_calls (s : Int) (w : World) (h0 : 0 ≤ s) (h1 : s ≤ 95) :
    Calls Try.prog 98 #[.int .i64 s] w fun e w' => e = .returned (.tuple #[.int .i64 (stepI s), .int .i64 0]) ∧ Below w.heap.size w w' := by
  obtain ⟨c, hc⟩ : ∃ c, c = ([4096, 4871, 5793, 6889] : List Int).getD (s % 4).toNat 0 := ⟨_, rfl⟩
  have hq : ([.int .i64 4096, .int .i64 4871, .int .i64 5793, .int .i64 6889] : List Value)[(s % 4).toNat]? = some (.int .i64 c) := by
    rw [hc]
    have : s % 4 = 0 ∨ s % 4 = 1 ∨ s % 4 = 2 ∨ s % 4 = 3 := by omega
    rcases this with h | h | h | h <;> rw [h] <;> rfl
  have h2 : (2 : Int) ^ (s / 4).toNat ≤ 2 ^ 23 := by
    have : (2 : Nat) ^ (s / 4).toNat ≤ 2 ^ 23 := Nat.pow_le_pow_right (by omega) (by omega)
    exact_mod_cast this
  have h3 : 0 ≤ c ∧ c ≤ 6889 := by
    rw [hc]
    have : s % 4 = 0 ∨ s % 4 = 1 ∨ s % 4 = 2 ∨ s % 4 = 3 := by omega
    rcases this with h | h | h | h <;> rw [h] <;> decide
  have h4 := mul_bd h3.1 h3.2 (Int.pow_nonneg (show (0 : Int) ≤ 2 by omega)) h2
  have HS : Aside0 (wrap64 (c * 2 ^ (s / 4).toNat) / 256 = stepI s) := ⟨by
    rw [show wrap64 (c * 2 ^ (s / 4).toNat) = c * 2 ^ (s / 4).toNat from by unfold wrap64; omega, hc]
    rfl⟩
  clear hc h2 h3 h4
  go_enter Try.func98, Try.ntmps98
  go_wp2
  go_ret2
  exact ⟨by rw [HS.out]; rfl, (Below.refl _ _).alloc (Nat.le_refl _) _⟩

theorem run_index_agg {P : Program} {T E len : Nat} {cs : Array Value} {q : Int} {v : Value} (hT : P.underlying T = some (.array len E)) (hs : (P.info? E).map (·.size) = some 1) (hE : P.plainKey E = true)
    (h0 : 0 ≤ q) (h1 : q < len) (hx : cs[q.toNat]? = some v) (w : World) : (Instr.index T (.agg cs) (.int .i64 q)).run P w = .ok v w := by
  cases hi : P.info? E with
  | none => simp [hi] at hs
  | some i =>
    have hz : i.size = 1 := by simpa [hi] using hs
    have hr := run_part_plain (P := P) (w := w) hE hx
    have hsz : (sizeOf E).run P w = .ok 1 w := by simp [sizeOf, typeInfo, hi, hz]
    simp [Instr.index, asIntOf, run_underlying hT, h0, h1, hsz, hr]

set_option maxHeartbeats 400000 in
theorem xvalue_calls (x q : Int) (w : World) (hx0 : 0 ≤ x) (hx1 : x ≤ 268435456) (h0 : 0 ≤ q) (h1 : q ≤ 1023) :
    Calls Try.prog 99 #[.int .i64 x, .int .i64 q] w fun e w' => e = .returned (.int .i64 (V x q)) ∧ Below w.heap.size w w' := by
  have hP := P_bd q
  have hm := mul_bd (show 0 ≤ 2 * P q by omega) (show 2 * P q ≤ 329850 by omega) hx0 hx1
  have hat := fun w => run_index_agg (P := Try.prog) (T := 95) (E := 3) (len := 1024) (by kernel_rfl) (by kernel_rfl) (by kernel_rfl) h0 (by omega) (pow_at q h0 h1) w
  go_enter Try.func99, Try.ntmps99
  go_wp2_with (go_at_call 110; refine (powers_calls _).mono ?_; rintro e w' ⟨rfl, hb⟩)
  all_goals
    go_ret
    exact ⟨ret_int (by unfold V; omega), hb⟩

set_option maxHeartbeats 400000 in
theorem isQ_calls (n : Int) (w : World) : Calls Try.prog 82 #[.int .i64 n] w fun e w' => e = .returned (.bool (isQ n)) ∧ Below w.heap.size w w' := by
  by_cases h1 : -1023 ≤ n
  · by_cases h2 : n ≤ 1023
    · rw [show isQ n = true by unfold isQ; simp [h1, h2]]
      go_enter Try.func82, Try.ntmps82
      go_wp2
      go_ret
      exact ⟨rfl, Below.refl _ _⟩
    · rw [show isQ n = false by unfold isQ; simp [h2]]
      have h3 : decide (n ≤ 1023) = false := by simpa using h2
      go_enter Try.func82, Try.ntmps82
      go_wp2
      go_ret
      exact ⟨rfl, Below.refl _ _⟩
  · rw [show isQ n = false by unfold isQ; simp [h1]]
    have h3 : decide (-1023 ≤ n) = false := by simpa using h1
    go_enter Try.func82, Try.ntmps82
    go_wp2
    go_ret
    exact ⟨rfl, Below.refl _ _⟩

set_option maxHeartbeats 400000 in
theorem isC_calls (n : Int) (w : World) : Calls Try.prog 68 #[.int .i64 n] w fun e w' => e = .returned (.bool (isC n)) ∧ Below w.heap.size w w' := by
  by_cases h1 : -2097152 ≤ n
  · by_cases h2 : n ≤ 2097152
    · rw [show isC n = true by unfold isC; simp [h1, h2]]
      go_enter Try.func68, Try.ntmps68
      go_wp2
      go_ret
      exact ⟨rfl, Below.refl _ _⟩
    · rw [show isC n = false by unfold isC; simp [h2]]
      have h3 : decide (n ≤ 2097152) = false := by simpa using h2
      go_enter Try.func68, Try.ntmps68
      go_wp2
      go_ret
      exact ⟨rfl, Below.refl _ _⟩
  · rw [show isC n = false by unfold isC; simp [h1]]
    have h3 : decide (-2097152 ≤ n) = false := by simpa using h1
    go_enter Try.func68, Try.ntmps68
    go_wp2
    go_ret
    exact ⟨rfl, Below.refl _ _⟩

set_option maxHeartbeats 400000 in
theorem isS_calls (n : Int) (w : World) : Calls Try.prog 92 #[.int .i64 n] w fun e w' => e = .returned (.bool (isS n)) ∧ Below w.heap.size w w' := by
  by_cases h1 : 0 ≤ n
  · by_cases h2 : n ≤ 95
    · rw [show isS n = true by unfold isS; simp [h1, h2]]
      go_enter Try.func92, Try.ntmps92
      go_wp2
      go_ret
      exact ⟨rfl, Below.refl _ _⟩
    · rw [show isS n = false by unfold isS; simp [h2]]
      have h3 : decide (n ≤ 95) = false := by simpa using h2
      go_enter Try.func92, Try.ntmps92
      go_wp2
      go_ret
      exact ⟨rfl, Below.refl _ _⟩
  · rw [show isS n = false by unfold isS; simp [h1]]
    have h3 : decide (0 ≤ n) = false := by simpa using h1
    go_enter Try.func92, Try.ntmps92
    go_wp2
    go_ret
    exact ⟨rfl, Below.refl _ _⟩

theorem isQ_bd {q : Int} (h : isQ q = true) : -1023 ≤ q ∧ q ≤ 1023 := by simpa [isQ] using h
theorem isC_bd {q : Int} (h : isC q = true) : -2097152 ≤ q ∧ q ≤ 2097152 := by simpa [isC] using h
theorem isS_bd {q : Int} (h : isS q = true) : 0 ≤ q ∧ q ≤ 95 := by simpa [isS] using h

set_option maxHeartbeats 400000 in
theorem with_calls (s : Int) (w : World) (h0 : 0 ≤ s) (h1 : s ≤ 95) :
    Calls Try.prog 71 #[.int .i64 s] w fun e w' => e = .returned (.int .i64 (stepI s)) ∧ Below w.heap.size w w' := by
  go_enter Try.func71, Try.ntmps71
  go_wp2_with (go_at_call 98; refine (step_calls _ _ h0 h1).mono ?_; rintro e w' ⟨rfl, hb⟩)
  go_ret
  exact ⟨rfl, hb⟩

/-- A function of one number, with what was bound and what was captured. -/
def FnInt (g : Nat) (fs cs : Array Value) (w : World) (x r : Int) : Prop :=
  ∀ W, Below w.heap.size w W → Calls Try.prog g (fs ++ #[.int .i64 x] ++ cs) W fun e w' => e = .returned (.int .i64 r) ∧ Below W.heap.size W w'
def FnBool (g : Nat) (fs cs : Array Value) (w : World) (x : Int) (r : Bool) : Prop :=
  ∀ W, Below w.heap.size w W → Calls Try.prog g (fs ++ #[.int .i64 x] ++ cs) W fun e w' => e = .returned (.bool r) ∧ Below W.heap.size W w'
def Enters (g : Nat) : Prop := ∀ args w, (callFunc g args).run Try.prog w = .ok (.enter g args) w

set_option maxHeartbeats 400000 in
theorem signed_calls (g : Nat) (fs cs : Array Value) (n r : Int) (w : World) (eg : Enters g) (hn0 : -4611686018427387904 ≤ n) (hn1 : n ≤ 4611686018427387904) (hr0 : -4611686018427387904 ≤ r) (hr1 : r ≤ 4611686018427387904)
    (hf : FnInt g fs cs w (absI n) r) :
    Calls Try.prog 77 #[.int .i64 n, .func (.func g) fs cs] w fun e w' => e = .returned (.int .i64 (sg n r)) ∧ Below w.heap.size w w' := by
  have hc := hf w (Below.refl _ _)
  unfold Enters at eg
  by_cases hn : n < 0
  · rw [show absI n = -n by unfold absI; omega] at hc
    have HC := Aside0.mk hc
    clear hc hf
    go_enter Try.func77, Try.ntmps77
    go_wp2_with (go_at_fn g; refine HC.out.mono ?_; rintro e w' ⟨rfl, hb⟩)
    go_ret
    exact ⟨ret_int (by unfold sg; rw [if_pos hn]), hb⟩
  · rw [show absI n = n by unfold absI; omega] at hc
    have HC := Aside0.mk hc
    clear hc hf
    go_enter Try.func77, Try.ntmps77
    go_wp2_with (go_at_fn g; refine HC.out.mono ?_; rintro e w' ⟨rfl, hb⟩)
    go_ret
    exact ⟨ret_int (by unfold sg; rw [if_neg (by omega)]), hb⟩

end Go.Proofs.Ytljadjoljhanfaa.Q15
/- What each function of package quant returns: the search, the quantum, the noise. -/
namespace Go.Proofs.Ytljadjoljhanfaa.Q15
open Go.RowKit Go.Proofs.YtljadjoljhanfaaW.PrintWords Go.Proofs.YtljadjoljhanfaaW.PrintLast Go.Proofs.YtljadjoljhanfaaW.PrintMore
attribute [local go_sem] max2_int min2_int max_two min_two max_three min_three

/-- One step more. -/
theorem bnx {w w1 w2 : World} (h : Below w.heap.size w w1) (h2 : Below w1.heap.size w1 w2) : Below w.heap.size w w2 := h.trans (h2.mono h.size)
theorem cnx {w w1 : World} {a : Addr} {v : Value} (h : w.cell? a = some v) (hb : Below w.heap.size w w1) : w1.cell? a = some v := (hb.cell (World.block_lt_of_cell? w _ h)).trans h
theorem FnInt.later {g : Nat} {fs cs : Array Value} {w W : World} {x r : Int} (h : FnInt g fs cs w x r) (hb : Below w.heap.size w W) : FnInt g fs cs W x r := fun W' hb' => h W' (hb.trans (hb'.mono hb.size))
theorem FnBool.later {g : Nat} {fs cs : Array Value} {w W : World} {x : Int} {r : Bool} (h : FnBool g fs cs w x r) (hb : Below w.heap.size w W) : FnBool g fs cs W x r := fun W' hb' => h W' (hb.trans (hb'.mono hb.size))

set_option maxHeartbeats 400000 in
theorem first_calls (g : Nat) (fs cs : Array Value) (p : Int → Bool) (lo hi : Int) (w : World) (eg : Enters g) (h0 : 0 ≤ lo) (h1 : lo ≤ hi) (h2 : hi ≤ 1099511627776)
    (hp : ∀ x, lo ≤ x → x < hi → FnBool g fs cs w x (p x)) (hm : ∀ a b, lo ≤ a → a ≤ b → b < hi → p a = true → p b = true) :
    Calls Try.prog 96 #[.int .i64 lo, .int .i64 hi, .func (.func g) fs cs] w fun e w' => e = .returned (.int .i64 (fst p lo hi)) ∧ Below w.heap.size w w' := by
  have HP := Aside0.mk hp
  have HM := Aside0.mk hm
  clear hp hm
  unfold Enters at eg
  go_enter Try.func96, Try.ntmps96
  go_wp2
  go_loopw [0, 1] (fun a b wr => ∃ l h : Int, a = .int .i64 l ∧ b = .int .i64 h ∧ lo ≤ l ∧ l ≤ h ∧ h ≤ hi ∧ Aside0 (l = lo ∨ p (l - 1) = false) ∧ Aside0 (h = hi ∨ p h = true) ∧ Below w.heap.size w wr) (fun a b _ => (intOf b - intOf a).toNat)
  case atStart => exact ⟨lo, hi, rfl, rfl, by omega, h1, by omega, ⟨.inl rfl⟩, ⟨.inl rfl⟩, Below.refl _ _⟩
  case round =>
    obtain ⟨l, h, rfl, rfl, a1, a2, a3, a4, a5, hb⟩ := hrel
    by_cases hlt : l < h
    · have hmid : l ≤ (l + h) / 2 ∧ (l + h) / 2 < h := by omega
      have hc := HP.out ((l + h) / 2) (by omega) (by omega) wr hb
      cases hpm : p ((l + h) / 2) with
      | true =>
        rw [hpm] at hc
        have HC := Aside0.mk hc
        have hpm := Aside0.mk hpm
        clear hc
        go_wp2_with (go_at_fn g; refine HC.out.mono ?_; rintro e w' ⟨rfl, hb1⟩)
        go_roundw
        case rel => exact ⟨l, (l + h) / 2, rfl, rfl, a1, hmid.1, by omega, a4, ⟨.inr hpm.out⟩, hb.trans (hb1.mono hb.size)⟩
        case measure => simp [intOf]; omega
      | false =>
        rw [hpm] at hc
        have HC := Aside0.mk hc
        have hpm := Aside0.mk hpm
        clear hc
        go_wp2_with (go_at_fn g; refine HC.out.mono ?_; rintro e w' ⟨rfl, hb1⟩)
        go_roundw
        case rel => exact ⟨(l + h) / 2 + 1, h, rfl, rfl, by omega, by omega, a3, ⟨.inr (by rw [show (l + h) / 2 + 1 - 1 = (l + h) / 2 by omega]; exact hpm.out)⟩, a5, hb.trans (hb1.mono hb.size)⟩
        case measure => simp [intOf]; omega
    · obtain rfl : l = h := by omega
      have e : l = fst p lo hi := IsFirst.eq ⟨a1, a3, a4.out, a5.out⟩ HM.out
      go_wp2
      go_ret
      exact ⟨rfl, hb⟩

set_option maxHeartbeats 400000 in
theorem value_calls (q s : Int) (w : World) (h0 : -1023 ≤ q) (h1 : q ≤ 1023) (h2 : 0 ≤ s) (h3 : s ≤ 95) :
    Calls Try.prog 84 #[.int .i64 q, .int .i64 s] w fun e w' => e = .returned (.int .i64 (sg q (V (stepI s) (absI q)))) ∧ Below w.heap.size w w' := by
  have hs := stepI_bd h2 h3
  have hv := V_bd (x := stepI s) (absI q) (by omega)
  have ha : 0 ≤ absI q ∧ absI q ≤ 1023 := by unfold absI; omega
  obtain ⟨st, hst⟩ : ∃ st, st = stepI s := ⟨_, rfl⟩
  have hw := fun w => with_calls s w h2 h3
  rw [← hst] at hs hv hw ⊢
  have HW := Aside0.mk hw
  clear hst hw
  go_enter Try.func84, Try.ntmps84
  go_wp2_with (first | (go_at_call 71; refine (HW.out _).mono ?_; rintro e w' ⟨rfl, hb1⟩) |
    (go_at_call 77; refine (signed_calls 99 #[.int .i64 st] #[] q (V st (absI q)) _ (fun _ _ => by kernel_rfl) (by omega) (by omega) (by omega) (by omega) (fun W _ => xvalue_calls st _ W (by omega) hs.2 ha.1 ha.2)).mono ?_; rintro e w' ⟨rfl, hb⟩))
  go_ret
  exact ⟨rfl, hb1.trans (hb.mono hb1.size)⟩

set_option maxHeartbeats 400000 in
theorem q1_calls (B1 B2 : Nat) (x c q : Int) (w : World) (hc1 : w.cell? ⟨B1, 0, none⟩ = some (.int .i64 x)) (hc2 : w.cell? ⟨B2, 0, none⟩ = some (.int .i64 c)) (hx0 : 0 ≤ x) (hx1 : x ≤ 268435456) (h0 : 0 ≤ q) (h1 : q ≤ 1023) :
    Calls Try.prog 101 #[.int .i64 q, .pointer (some ⟨B1, 0, none⟩), .pointer (some ⟨B2, 0, none⟩)] w fun e w' => e = .returned (.bool (decide (V x q ≥ c))) ∧ Below w.heap.size w w' := by
  have l1 := World.block_lt_of_cell? w _ hc1
  have l2 := World.block_lt_of_cell? w _ hc2
  go_enter Try.func101, Try.ntmps101
  go_wp2_with fail
  go_region_held3 (fun w' => w'.cell? ⟨B1, 0, none⟩ = some (.int .i64 x) ∧ w'.cell? ⟨B2, 0, none⟩ = some (.int .i64 c) ∧ Below w.heap.size w w')
    (first | exact ⟨hc1, hc2, Below.refl _ _⟩ | exact ⟨hc1, hc2, (Below.refl _ _).drew⟩ | exact ⟨(hb.cell l1).trans hc1, (hb.cell l2).trans hc2, (Below.refl _ w).drew.trans hb⟩)
    (first | (go_at_call 99; refine (xvalue_calls x q _ hx0 hx1 h0 h1).mono ?_; rintro e w' ⟨rfl, hb⟩))
  go_wp2
  go_ret
  rename_i hh
  exact ⟨rfl, hh.2.2⟩

set_option maxHeartbeats 400000 in
theorem q3_calls (B1 B2 : Nat) (x c q : Int) (w : World) (hc1 : w.cell? ⟨B1, 0, none⟩ = some (.int .i64 x)) (hc2 : w.cell? ⟨B2, 0, none⟩ = some (.int .i64 c)) (hx0 : 0 ≤ x) (hx1 : x ≤ 268435456) (h0 : 0 ≤ q) (h1 : q ≤ 1023) :
    Calls Try.prog 103 #[.int .i64 q, .pointer (some ⟨B1, 0, none⟩), .pointer (some ⟨B2, 0, none⟩)] w fun e w' => e = .returned (.bool (decide (V x q ≥ c))) ∧ Below w.heap.size w w' := by
  have l1 := World.block_lt_of_cell? w _ hc1
  have l2 := World.block_lt_of_cell? w _ hc2
  go_enter Try.func103, Try.ntmps103
  go_wp2_with fail
  go_region_held3 (fun w' => w'.cell? ⟨B1, 0, none⟩ = some (.int .i64 x) ∧ w'.cell? ⟨B2, 0, none⟩ = some (.int .i64 c) ∧ Below w.heap.size w w')
    (first | exact ⟨hc1, hc2, Below.refl _ _⟩ | exact ⟨hc1, hc2, (Below.refl _ _).drew⟩ | exact ⟨(hb.cell l1).trans hc1, (hb.cell l2).trans hc2, (Below.refl _ w).drew.trans hb⟩)
    (first | (go_at_call 99; refine (xvalue_calls x q _ hx0 hx1 h0 h1).mono ?_; rintro e w' ⟨rfl, hb⟩))
  go_wp2
  go_ret
  rename_i hh
  exact ⟨rfl, hh.2.2⟩

set_option maxHeartbeats 400000 in
theorem q2_calls (B1 B2 : Nat) (x c q : Int) (w : World) (hc1 : w.cell? ⟨B1, 0, none⟩ = some (.int .i64 x)) (hc2 : w.cell? ⟨B2, 0, none⟩ = some (.int .i64 c)) (hx0 : 0 ≤ x) (hx1 : x ≤ 268435456) (h0 : 0 ≤ q) (h1 : q ≤ 1023) (hc0 : 0 ≤ c) (hc9 : c ≤ 2097152) :
    Calls Try.prog 102 #[.int .i64 q, .pointer (some ⟨B1, 0, none⟩), .pointer (some ⟨B2, 0, none⟩)] w fun e w' => e = .returned (.int .i64 (absI (V x q - c))) ∧ Below w.heap.size w w' := by
  have l1 := World.block_lt_of_cell? w _ hc1
  have l2 := World.block_lt_of_cell? w _ hc2
  have hv := V_bd q hx0
  go_enter Try.func102, Try.ntmps102
  go_wp2_with fail
  go_region_held3 (fun w' => w'.cell? ⟨B1, 0, none⟩ = some (.int .i64 x) ∧ w'.cell? ⟨B2, 0, none⟩ = some (.int .i64 c) ∧ Below w.heap.size w w')
    (first | exact ⟨hc1, hc2, Below.refl _ _⟩ | exact ⟨hc1, hc2, (Below.refl _ _).drew⟩ | exact ⟨(hb.cell l1).trans hc1, (hb.cell l2).trans hc2, (Below.refl _ w).drew.trans hb⟩)
    (first | (go_at_call 99; refine (xvalue_calls x q _ hx0 hx1 h0 h1).mono ?_; rintro e w' ⟨rfl, hb⟩))
  rename_i hh
  obtain ⟨_, _, hh⟩ := hh
  go_wp2
  all_goals
    go_ret
    exact ⟨ret_int (by unfold absI; omega), hh⟩

end Go.Proofs.Ytljadjoljhanfaa.Q15
/- What each function of package quant returns: the quantum, the noise, the lists. -/
namespace Go.Proofs.Ytljadjoljhanfaa.Q15
open Go.RowKit Go.Proofs.YtljadjoljhanfaaW.PrintWords Go.Proofs.YtljadjoljhanfaaW.PrintLast Go.Proofs.YtljadjoljhanfaaW.PrintMore
attribute [local go_sem] max2_int min2_int max_two min_two max_three min_three

set_option maxHeartbeats 1000000 in
theorem quantum_calls (x c : Int) (w : World) (hx0 : 0 ≤ x) (hx1 : x ≤ 268435456) (hc0 : 0 ≤ c) (hc9 : c ≤ 2097152) :
    Calls Try.prog 78 #[.int .i64 x, .int .i64 c] w fun e w' => e = .returned (.int .i64 (qn x c)) ∧ Below w.heap.size w w' := by
  obtain ⟨q, hq⟩ : ∃ q, q = fst (fun k => decide (V x k ≥ c)) 0 1023 := ⟨_, rfl⟩
  have hqb : 0 ≤ q ∧ q ≤ 1023 := by rw [hq]; exact fst_bd _ (by omega)
  have hV : ∀ a b, 0 ≤ a → a ≤ b → b < 1023 → V x a ≤ V x b := fun a b h0 h h1 => V_mono hx0 h0 h (by omega)
  have HF : ∀ W : World, W.cell? ⟨w.heap.size, 0, none⟩ = some (.int .i64 x) → W.cell? ⟨w.heap.size + 1, 0, none⟩ = some (.int .i64 c) →
      Calls Try.prog 96 #[.int .i64 0, .int .i64 1023, .func (.func 101) #[] #[.pointer (some ⟨w.heap.size, 0, none⟩), .pointer (some ⟨w.heap.size + 1, 0, none⟩)]] W
        fun e w' => e = .returned (.int .i64 q) ∧ Below W.heap.size W w' := fun W h1 h2 => by
    rw [hq]
    refine first_calls _ #[] _ (fun k => decide (V x k ≥ c)) 0 1023 W (fun _ _ => by kernel_rfl) (by omega) (by omega) (by omega) (fun k k0 k1 W' hb => ?_) (fun a b a0 ab b1 ha => ?_)
    · exact q1_calls _ _ x c k W' (cnx h1 hb) (cnx h2 hb) hx0 hx1 k0 (by omega)
    · have := hV a b a0 ab b1
      simp only [decide_eq_true_eq] at ha ⊢
      omega
  have HN : ∀ (k : Int) (W : World), 0 ≤ k → k ≤ 1023 → W.cell? ⟨w.heap.size, 0, none⟩ = some (.int .i64 x) → W.cell? ⟨w.heap.size + 1, 0, none⟩ = some (.int .i64 c) →
      Calls Try.prog 102 #[.int .i64 k, .pointer (some ⟨w.heap.size, 0, none⟩), .pointer (some ⟨w.heap.size + 1, 0, none⟩)] W
        fun e w' => e = .returned (.int .i64 (absI (V x k - c))) ∧ Below W.heap.size W w' := fun k W k0 k1 h1 h2 => q2_calls _ _ x c k W h1 h2 hx0 hx1 k0 k1 hc0 hc9
  have HG : ∀ (B : Nat) (W : World), 1 ≤ q → W.cell? ⟨w.heap.size, 0, none⟩ = some (.int .i64 x) → W.cell? ⟨B, 0, none⟩ = some (.int .i64 (V x (q - 1))) →
      Calls Try.prog 96 #[.int .i64 0, .int .i64 (q - 1), .func (.func 103) #[] #[.pointer (some ⟨w.heap.size, 0, none⟩), .pointer (some ⟨B, 0, none⟩)]] W
        fun e w' => e = .returned (.int .i64 (fst (fun k => decide (V x k ≥ V x (q - 1))) 0 (q - 1))) ∧ Below W.heap.size W w' := fun B W q1 h1 h2 => by
    refine first_calls _ #[] _ (fun k => decide (V x k ≥ V x (q - 1))) 0 (q - 1) W (fun _ _ => by kernel_rfl) (by omega) (by omega) (by omega) (fun k k0 k1 W' hb => ?_) (fun a b a0 ab b1 ha => ?_)
    · exact q3_calls _ _ x _ k W' (cnx h1 hb) (cnx h2 hb) hx0 hx1 k0 (by omega)
    · have := hV a b a0 ab (by omega)
      simp only [decide_eq_true_eq] at ha ⊢
      omega
  have hqn : qn x c = if q = 0 then 0 else if absI (V x (q - 1) - c) ≤ absI (V x q - c) then fst (fun k => decide (V x k ≥ V x (q - 1))) 0 (q - 1) else q := by unfold qn; rw [← hq]
  obtain ⟨W1, hW1⟩ : ∃ W1, W1 = (w.alloc (.cells #[.int .i64 x] 76)).alloc (.cells #[.int .i64 c] 3) := ⟨_, rfl⟩
  have hb0 : Below w.heap.size w W1 := by rw [hW1]; exact ((Below.refl _ _).alloc (Nat.le_refl _) _).alloc (by simp) _
  have k1 : W1.cell? ⟨w.heap.size, 0, none⟩ = some (.int .i64 x) := by rw [hW1]; simp
  have k2 : W1.cell? ⟨w.heap.size + 1, 0, none⟩ = some (.int .i64 c) := by rw [hW1]; simp
  have HQN := Aside0.mk hqn
  replace HF := Aside0.mk HF
  replace HN := Aside0.mk HN
  replace HG := Aside0.mk HG
  clear hV hqn hq
  go_enter Try.func78, Try.ntmps78
  go_wp2_with fail
  rw [← hW1]
  refine (HF.out W1 k1 k2).mono ?_
  rintro e w1 ⟨rfl, hb1⟩
  have m1 := cnx k1 hb1
  have m2 := cnx k2 hb1
  have hB1 := bnx hb0 hb1
  clear hW1
  by_cases hq0 : q = 0
  · subst hq0
    go_wp2
    go_ret
    exact ⟨ret_int (by rw [HQN.out]; rfl), hB1⟩
  · have hq1 : 1 ≤ q := by omega
    have hqe : (q == 0) = false := beq_eq_false_iff_ne.2 hq0
    obtain ⟨d1, hd1⟩ : ∃ d1, d1 = absI (V x (q - 1) - c) := ⟨_, rfl⟩
    obtain ⟨d2, hd2⟩ : ∃ d2, d2 = absI (V x q - c) := ⟨_, rfl⟩
    have N1 := fun W => HN.out (q - 1) W (by omega) (by omega)
    have N2 := fun W => HN.out q W (by omega) (by omega)
    rw [← hd1] at N1
    rw [← hd2] at N2
    have hq2 := HQN.out
    rw [if_neg hq0, ← hd1, ← hd2] at hq2
    have HQ2 := Aside0.mk hq2
    replace N1 := Aside0.mk N1
    replace N2 := Aside0.mk N2
    clear hq2 hd1 hd2 HQN
    go_wp2_with fail
    refine (N1.out w1 m1 m2).mono ?_
    rintro e w2 ⟨rfl, hb2⟩
    have n1 := cnx m1 hb2
    have n2 := cnx m2 hb2
    have hB2 := bnx hB1 hb2
    go_wp2_with fail
    refine (N2.out w2 n1 n2).mono ?_
    rintro e w3 ⟨rfl, hb3⟩
    have p1 := cnx n1 hb3
    have hB3 := bnx hB2 hb3
    by_cases hd : d1 ≤ d2
    · have hq3 := HQ2.out
      rw [if_pos hd] at hq3
      have HQ3 := Aside0.mk hq3
      clear hq3 HQ2
      go_wp2_with fail
      refine (xvalue_calls x (q - 1) _ hx0 hx1 (by omega) (by omega)).mono ?_
      rintro e w4 ⟨rfl, hb4⟩
      have hv := V_bd (q - 1) hx0
      obtain ⟨v, hv'⟩ : ∃ v, v = V x (q - 1) := ⟨_, rfl⟩
      have G := HG.out
      rw [← hv'] at hv G ⊢
      replace G := Aside0.mk G
      replace HQ3 := HQ3.out
      rw [← hv'] at HQ3
      replace HQ3 := Aside0.mk HQ3
      have r1 := cnx p1 hb4
      have hB4 := bnx hB3 hb4
      clear hv' HG
      go_wp2_with fail
      refine (G.out w4.heap.size (w4.alloc (.cells #[.int .i64 v] 3)) hq1 (cnx r1 ((Below.refl _ _).alloc (Nat.le_refl _) _)) (by simp)).mono ?_
      rintro e w5 ⟨rfl, hb5⟩
      go_wp2
      go_ret
      exact ⟨ret_int (by rw [HQ3.out]), bnx (hB4.alloc hB4.size _) hb5⟩
    · have hq3 := HQ2.out
      rw [if_neg hd] at hq3
      have HQ3 := Aside0.mk hq3
      clear hq3 HQ2
      go_wp2
      go_ret
      exact ⟨ret_int (by rw [HQ3.out]), hB3⟩

theorem qn_bd {x c : Int} (_ : 0 ≤ x) : 0 ≤ qn x c ∧ qn x c ≤ 1023 := by
  unfold qn
  have h := fst_bd (fun k => decide (V x k ≥ c)) (show (0 : Int) ≤ 1023 by omega)
  generalize fst (fun k => decide (V x k ≥ c)) 0 1023 = q at h
  dsimp only
  split
  · omega
  · split
    · have := fst_bd (fun k => decide (V x k ≥ V x (q - 1))) (show (0 : Int) ≤ q - 1 by omega)
      omega
    · omega

end Go.Proofs.Ytljadjoljhanfaa.Q15
/- What each function of package quant returns: lists. -/
namespace Go.Proofs.Ytljadjoljhanfaa.Q15
open Go.RowKit Go.Proofs.YtljadjoljhanfaaW.PrintWords Go.Proofs.YtljadjoljhanfaaW.PrintLast Go.Proofs.YtljadjoljhanfaaW.PrintMore
attribute [local go_sem] max2_int min2_int max_two min_two max_three min_three

theorem rd_nat (l : List Int) (k : Nat) (h : k < l.length) : rd l k = l[k] := by unfold rd; simp [List.getD_eq_getElem?_getD, h]
theorem rd_mem (l : List Int) (k : Nat) (h : k < l.length) : rd l k ∈ l := by rw [rd_nat l k h]; exact List.getElem_mem _
theorem take_rd (l : List Int) (k : Nat) (h : k < l.length) : l.take (k + 1) = l.take k ++ [rd l k] := by rw [rd_nat l k h, List.take_succ_eq_append_getElem h]
/-- The element at k, where a loop reads it. -/
theorem el_at {w w1 : World} {A : Option Addr} {l : List Int} (hr : (Kd.int .i64).C w A l.length l) (hb : Below w.heap.size w w1) {k : Nat} (hk : k < l.length) :
    ∃ ad, A = some ad ∧ w1.cell? (ad.add k) = some (.int .i64 (rd l k)) := by
  obtain ⟨ad, e, h⟩ := Kd.at_int hr (k : Nat) (by omega) (by omega)
  exact ⟨ad, e, cnx h hb⟩

theorem info_int : (Try.prog.info? 3).map (fun i => (i.zero, i.size, i.bytes)) = some (some (.int .i64 0), 1, 8) := by kernel_rfl

set_option maxHeartbeats 400000 in
theorem all_calls (g : Nat) (fs cs : Array Value) (p : Int → Bool) (A : Option Addr) (cap : Nat) (l : List Int) (w : World) (eg : Enters g) (hr : (Kd.int .i64).C w A l.length l) (hl : l.length ≤ 1099511627776)
    (hp : ∀ x ∈ l, FnBool g fs cs w x (p x)) :
    Calls Try.prog 93 #[.slice A l.length cap, .func (.func g) fs cs] w fun e w' => e = .returned (.bool (l.all p)) ∧ Below w.heap.size w w' := by
  have HP := Aside0.mk hp
  have HR := Aside0.mk hr
  clear hp hr
  unfold Enters at eg
  go_enter Try.func93, Try.ntmps93
  go_wp2
  go_loopw [9] (fun i wr => ∃ k : Nat, i = .int .i64 k ∧ k ≤ l.length ∧ Aside0 ((l.take k).all p = true) ∧ Below w.heap.size w wr) (fun i _ => l.length - (intOf i).toNat)
  case atStart => exact ⟨0, rfl, by omega, ⟨by simp⟩, Below.refl _ _⟩
  case round =>
    obtain ⟨k, rfl, hk, ha, hb⟩ := hrel
    by_cases hlt : k < l.length
    · obtain ⟨ad, rfl, hcell⟩ := el_at HR.out hb hlt
      have hc := HP.out _ (rd_mem l k hlt) wr hb
      have HT := Aside0.mk (take_rd l k hlt)
      have HRD := Aside0.mk (rd_mem l k hlt)
      obtain ⟨x, hx⟩ : ∃ x, x = rd l k := ⟨_, rfl⟩
      rw [← hx] at hcell hc HT HRD
      clear hx
      cases hpm : p x with
      | true =>
        rw [hpm] at hc
        have HC := Aside0.mk hc
        have hpm := Aside0.mk hpm
        clear hc
        go_wp2_with (go_at_fn g; refine HC.out.mono ?_; rintro e w' ⟨rfl, hb1⟩)
        go_roundw
        case rel => exact ⟨k + 1, by go_num, by omega, ⟨by rw [HT.out, List.all_append, ha.out]; simp [hpm.out]⟩, bnx hb hb1⟩
        case measure => simp [intOf]; omega
      | false =>
        rw [hpm] at hc
        have HC := Aside0.mk hc
        have hpm := Aside0.mk hpm
        clear hc
        go_wp2_with (go_at_fn g; refine HC.out.mono ?_; rintro e w' ⟨rfl, hb1⟩)
        go_ret
        refine ⟨?_, bnx hb hb1⟩
        rw [show l.all p = false from List.all_eq_false.2 ⟨x, HRD.out, by rw [hpm.out]; simp⟩]
        rfl
    · obtain rfl : k = l.length := by omega
      go_wp2
      go_ret
      refine ⟨?_, hb⟩
      have := ha.out
      rw [List.take_length] at this
      rw [this]
      rfl

set_option maxHeartbeats 400000 in
theorem mapped_calls (g : Nat) (fs cs : Array Value) (f : Int → Int) (A : Option Addr) (cap : Nat) (l : List Int) (w : World) (eg : Enters g) (hr : (Kd.int .i64).C w A l.length l) (hl : l.length ≤ 1099511627776)
    (hp : ∀ x ∈ l, FnInt g fs cs w x (f x)) :
    Calls Try.prog 75 #[.slice A l.length cap, .func (.func g) fs cs] w fun e w' => ∃ v : Value, e = .returned v ∧ (Kd.int .i64).R 3 w' w.heap.size (fun _ => True) v (l.map f) ∧ Below w.heap.size w w' := by
  have HP := Aside0.mk hp
  have HR := Aside0.mk hr
  clear hp hr
  unfold Enters at eg
  go_enter Try.func75, Try.ntmps75
  go_wp2
  go_loopw [5, 10] (fun o i wr => ∃ k : Nat, i = .int .i64 k ∧ k ≤ l.length ∧ Aside0 ((Kd.int .i64).R 3 wr w.heap.size (fun _ => True) o ((l.take k).map f)) ∧ Below w.heap.size w wr) (fun _ i _ => l.length - (intOf i).toNat)
  case atStart => exact ⟨0, rfl, by omega, ⟨Kd.R_nil _ _ _ _ _⟩, Below.refl _ _⟩
  case round =>
    obtain ⟨k, rfl, hk, ho, hb⟩ := hrel
    by_cases hlt : k < l.length
    · obtain ⟨ad, rfl, hcell⟩ := el_at HR.out hb hlt
      have hc := HP.out _ (rd_mem l k hlt) wr hb
      have HT := Aside0.mk (take_rd l k hlt)
      obtain ⟨x, hx⟩ : ∃ x, x = rd l k := ⟨_, rfl⟩
      rw [← hx] at hcell hc HT
      clear hx
      have HC := Aside0.mk hc
      clear hc
      obtain ⟨y, hy⟩ : ∃ y, y = (l.take k).map f := ⟨_, rfl⟩
      have hyl : y.length ≤ 1099511627776 := by rw [hy]; simp; omega
      rw [← hy] at ho
      have HY := Aside0.mk hy
      clear hy
      go_wp2_with (first | (go_at_fn g; refine HC.out.mono ?_; rintro e w' ⟨rfl, hb1⟩; have HO1 := Aside0.mk (Kd.R_below ho.out hb1); have HB1 := Aside0.mk (bnx hb hb1); clear ho hb hb1) | (at_builtin; refine Kd.R_append (Kd.int .i64) (w0 := w) w.heap.size rfl (.tmp 14) (.tmp 18) 22 3 (.int .i64 0) 8 rfl Try.underlying22 info_int rfl (by decide) (by omega) u5 y (f x) [.int .i64 (f x)] (fun _ => True) (fun _ => False) rfl rfl rfl (fun _ hk => hk.elim) (fun _ _ => trivial) HO1.out HB1.out HB1.out.size (by omega) ?_; intro v1 wA hoA hbA hgA hatA; have HOA := Aside0.mk hoA; have HBA := Aside0.mk hbA; clear hoA hbA hgA hatA))
      go_roundw
      case rel => exact ⟨k + 1, by go_num, by omega, ⟨by rw [HT.out, List.map_append, ← HY.out]; exact HOA.out⟩, HBA.out⟩
      case measure => simp [intOf]; omega
    · obtain rfl : k = l.length := by omega
      rw [List.take_length] at ho
      go_wp2
      go_ret
      exact ⟨_, rfl, ho.out, hb⟩

end Go.Proofs.Ytljadjoljhanfaa.Q15
/- What each function of package quant returns: noise, lists, scales. -/
namespace Go.Proofs.Ytljadjoljhanfaa.Q15
open Go.RowKit Go.Proofs.YtljadjoljhanfaaW.PrintWords Go.Proofs.YtljadjoljhanfaaW.PrintLast Go.Proofs.YtljadjoljhanfaaW.PrintMore
attribute [local go_sem] max2_int min2_int max_two min_two max_three min_three

theorem drop_rd (l : List Int) (k : Nat) (h : k < l.length) : l.drop k = rd l k :: l.drop (k + 1) := by rw [rd_nat l k h, List.drop_eq_getElem_cons h]

set_option maxHeartbeats 1000000 in
theorem noise_calls (x : Int) (A : Option Addr) (cap : Nat) (l : List Int) (limit : Int) (w : World) (hr : (Kd.int .i64).C w A l.length l) (hl : l.length ≤ 4096) (hx0 : 0 ≤ x) (hx1 : x ≤ 268435456)
    (hp : ∀ n ∈ l, -2097152 ≤ n ∧ n ≤ 2097152) :
    Calls Try.prog 72 #[.int .i64 x, .slice A l.length cap, .int .i64 limit] w fun e w' => e = .returned (.int .i64 (noiseTo x limit 0 l)) ∧ Below w.heap.size w w' := by
  have HP := Aside0.mk hp
  have HR := Aside0.mk hr
  clear hp hr
  go_enter Try.func72, Try.ntmps72
  go_wp2
  go_loopw [7, 13] (fun s i wr => ∃ (k : Nat) (z : Int), i = .int .i64 k ∧ s = .int .i64 z ∧ k ≤ l.length ∧ 0 ≤ z ∧ z ≤ k * 4398046511104 ∧ Aside0 (noiseTo x limit z (l.drop k) = noiseTo x limit 0 l) ∧ Below w.heap.size w wr) (fun _ i _ => l.length - (intOf i).toNat)
  case atStart => exact ⟨0, 0, rfl, rfl, by omega, by omega, by omega, ⟨by simp⟩, Below.refl _ _⟩
  case round =>
    obtain ⟨k, z, rfl, rfl, hk, hz0, hz1, hn, hb⟩ := hrel
    by_cases hlt : k < l.length
    · obtain ⟨ad, rfl, hcell⟩ := el_at HR.out hb hlt
      have hc := HP.out _ (rd_mem l k hlt)
      have hn' := hn.out
      rw [drop_rd l k hlt] at hn'
      obtain ⟨n, hx⟩ : ∃ n, n = rd l k := ⟨_, rfl⟩
      rw [← hx] at hcell hc hn'
      clear hx hn
      have ha : 0 ≤ absI n ∧ absI n ≤ 2097152 := by unfold absI; omega
      have hqb := qn_bd (x := x) (c := absI n) hx0
      have hvb := V_bd (qn x (absI n)) hx0
      have hsq := sq_bd (d := absI n - V x (qn x (absI n))) (by omega) (by omega)
      simp only [noiseTo] at hn'
      have e1 : dsq x n = (absI n - V x (qn x (absI n))) * (absI n - V x (qn x (absI n))) := rfl
      rw [e1] at hn'
      have hC1 := fun W => quantum_calls x (absI n) W hx0 hx1 ha.1 ha.2
      obtain ⟨m, hm⟩ : ∃ m, m = absI n := ⟨_, rfl⟩
      have hmn : m = (if n < -n then -n else n) := by rw [hm]; unfold absI; omega
      rw [← hm] at hn' ha hqb hvb hsq hC1
      clear hm
      obtain ⟨q, hq⟩ : ∃ q, q = qn x m := ⟨_, rfl⟩
      have hC2 := fun W => xvalue_calls x q W hx0 hx1
      rw [← hq] at hn' hqb hvb hsq hC1
      clear hq e1
      obtain ⟨v, hv⟩ : ∃ v, v = V x q := ⟨_, rfl⟩
      rw [← hv] at hn' hvb hsq hC2
      clear hv
      have hdi : (n < -n ∧ m = -n) ∨ (¬ n < -n ∧ m = n) := by omega
      have HC1 := Aside0.mk hC1
      have HC2 := Aside0.mk hC2
      clear hC1 hC2 hmn
      by_cases hlim : limit < z + (m - v) * (m - v)
      · rw [if_pos hlim] at hn'
        have HN := Aside0.mk hn'
        clear hn'
        rcases hdi with ⟨hneg, rfl⟩ | ⟨hneg, rfl⟩
        all_goals
          go_wp2_with (first | (go_at_call 78; refine (HC1.out _).mono ?_; rintro e w' ⟨rfl, hb1⟩) | (go_at_call 99; refine (HC2.out _ hqb.1 hqb.2).mono ?_; rintro e w' ⟨rfl, hb2⟩))
          go_ret
          exact ⟨ret_int HN.out, bnx (bnx hb hb1) hb2⟩
      · rw [if_neg hlim] at hn'
        have HN := Aside0.mk hn'
        clear hn'
        rcases hdi with ⟨hneg, rfl⟩ | ⟨hneg, rfl⟩
        all_goals
          go_wp2_with (first | (go_at_call 78; refine (HC1.out _).mono ?_; rintro e w' ⟨rfl, hb1⟩) | (go_at_call 99; refine (HC2.out _ hqb.1 hqb.2).mono ?_; rintro e w' ⟨rfl, hb2⟩))
          go_roundw
          case rel => exact ⟨k + 1, _, by go_num, rfl, by omega, by omega, by omega, HN, bnx (bnx hb hb1) hb2⟩
          case measure => simp [intOf]; omega
    · obtain rfl : k = l.length := by omega
      rw [List.drop_length] at hn
      go_wp2
      go_ret
      exact ⟨by rw [← hn.out]; rfl, hb⟩

set_option maxHeartbeats 400000 in
theorem check_calls (g : Nat) (p : Int → Bool) (A : Option Addr) (cap : Nat) (l : List Int) (s : Int) (w : World) (eg : Enters g) (hr : (Kd.int .i64).C w A l.length l)
    (hp : ∀ x W, FnBool g #[] #[] W x (p x)) :
    Calls Try.prog 67 #[.slice A l.length cap, .int .i64 s, .func (.func g) #[] #[]] w fun e w' => e = .returned (.int .i64 (chk p l s)) ∧ Below w.heap.size w w' := by
  have HA : l.length ≤ 128 → ∀ W, Below w.heap.size w W → Calls Try.prog 93 #[.slice A l.length cap, .func (.func g) #[] #[]] W fun e w' => e = .returned (.bool (l.all p)) ∧ Below W.heap.size W w' :=
    fun hl W hb => all_calls g #[] #[] p A cap l W eg (Kd.C_below hr hb) (by omega) (fun x _ => hp x W)
  replace HA := Aside0.mk HA
  clear hp hr
  cases h : isS s with
  | true =>
    by_cases hn : l.length ≤ 128
    · cases k : l.all p with
      | true =>
        have e : chk p l s = 0 := by unfold chk; rw [if_pos h, if_pos hn, if_pos k]
        rw [k] at HA
        rw [e]
        clear e k
        go_enter Try.func67, Try.ntmps67
        go_wp2_with (first | (go_at_call 92; refine (isS_calls _ _).mono ?_; rintro e w' ⟨rfl, hb0⟩) | (go_at_call 93; refine (HA.out hn _ hb0).mono ?_; rintro e w' ⟨rfl, hb⟩))
        go_ret
        exact ⟨rfl, bnx hb0 hb⟩
      | false =>
        have e : chk p l s = 6 := by unfold chk; rw [if_pos h, if_pos hn, if_neg (by rw [k]; simp)]
        rw [k] at HA
        rw [e]
        clear e k
        go_enter Try.func67, Try.ntmps67
        go_wp2_with (first | (go_at_call 92; refine (isS_calls _ _).mono ?_; rintro e w' ⟨rfl, hb0⟩) | (go_at_call 93; refine (HA.out hn _ hb0).mono ?_; rintro e w' ⟨rfl, hb⟩))
        go_ret
        exact ⟨rfl, bnx hb0 hb⟩
    · have e : chk p l s = 2 := by unfold chk; rw [if_pos h, if_neg hn]
      rw [e]
      clear e
      have hn' : (128 : Int) < (l.length : Int) := by omega
      go_enter Try.func67, Try.ntmps67
      go_wp2_with (first | (go_at_call 92; refine (isS_calls _ _).mono ?_; rintro e w' ⟨rfl, hb0⟩))
      go_ret
      exact ⟨rfl, hb0⟩
  | false =>
    have e : chk p l s = 1 := by unfold chk; rw [if_neg (by rw [h]; simp)]
    rw [e]
    clear e
    go_enter Try.func67, Try.ntmps67
    go_wp2_with (first | (go_at_call 92; refine (isS_calls _ _).mono ?_; rintro e w' ⟨rfl, hb0⟩))
    go_ret
    exact ⟨rfl, hb0⟩

theorem fn_isC (x : Int) (W : World) : FnBool 68 #[] #[] W x (isC x) := fun W' _ => isC_calls x W'
theorem fn_isQ (x : Int) (W : World) : FnBool 82 #[] #[] W x (isQ x) := fun W' _ => isQ_calls x W'

set_option maxHeartbeats 400000 in
theorem quantize1_calls (c x : Int) (B : Nat) (w : World) (hc : w.cell? ⟨B, 0, none⟩ = some (.int .i64 x)) (hx0 : 0 ≤ x) (hx1 : x ≤ 268435456) (h1 : -2097152 ≤ c) (h2 : c ≤ 2097152) :
    Calls Try.prog 76 #[.int .i64 c, .pointer (some ⟨B, 0, none⟩)] w fun e w' => e = .returned (.int .i64 (sg c (qn x (absI c)))) ∧ Below w.heap.size w w' := by
  have ha : 0 ≤ absI c ∧ absI c ≤ 2097152 := by unfold absI; omega
  have hqb := qn_bd (x := x) (c := absI c) hx0
  go_enter Try.func76, Try.ntmps76
  go_wp2_with (first | (go_at_call 77; refine (signed_calls 78 #[.int .i64 x] #[] c (qn x (absI c)) _ (fun _ _ => by kernel_rfl) (by omega) (by omega) (by omega) (by omega) (fun W _ => quantum_calls x _ W hx0 hx1 ha.1 ha.2)).mono ?_; rintro e w' ⟨rfl, hb⟩))
  go_ret
  exact ⟨rfl, hb⟩

set_option maxHeartbeats 400000 in
theorem values1_calls (q s : Int) (B : Nat) (w : World) (hc : w.cell? ⟨B, 0, none⟩ = some (.int .i64 s)) (h0 : -1023 ≤ q) (h1 : q ≤ 1023) (h2 : 0 ≤ s) (h3 : s ≤ 95) :
    Calls Try.prog 83 #[.int .i64 q, .pointer (some ⟨B, 0, none⟩)] w fun e w' => e = .returned (.int .i64 (sg q (V (stepI s) (absI q)))) ∧ Below w.heap.size w w' := by
  go_enter Try.func83, Try.ntmps83
  go_wp2_with (first | (go_at_call 84; refine (value_calls _ _ _ h0 h1 h2 h3).mono ?_; rintro e w' ⟨rfl, hb⟩))
  go_ret
  exact ⟨rfl, hb⟩

set_option maxHeartbeats 400000 in
theorem Quantize_no (A : Option Addr) (cap : Nat) (l : List Int) (s : Int) (w : World) (hr : (Kd.int .i64).C w A l.length l) (hk : chk isC l s ≠ 0) :
    Calls Try.prog 48 #[.slice A l.length cap, .int .i64 s] w fun e w' => e = .returned (.tuple #[.slice none 0 0, .int .i64 (chk isC l s)]) ∧ Below w.heap.size w w' := by
  obtain ⟨e0, he0⟩ : ∃ e0, e0 = chk isC l s := ⟨_, rfl⟩
  have HC := fun W hb => check_calls 68 isC A cap l s W (fun _ _ => by kernel_rfl) (Kd.C_below hr hb) fn_isC
  rw [← he0] at HC hk ⊢
  replace HC := Aside0.mk HC
  have hk' : (e0 == 0) = false := beq_eq_false_iff_ne.2 hk
  clear he0 hr
  go_enter Try.func48, Try.ntmps48
  go_wp2_with (first | (go_at_call 67; refine (HC.out _ (Below.refl _ _)).mono ?_; rintro e w' ⟨rfl, hb0⟩))
  go_ret2
  exact ⟨rfl, hb0⟩

end Go.Proofs.Ytljadjoljhanfaa.Q15
/- What each function of package quant returns: Quantize, Values, Noise. -/
namespace Go.Proofs.Ytljadjoljhanfaa.Q15
open Go.RowKit Go.Proofs.YtljadjoljhanfaaW.PrintWords Go.Proofs.YtljadjoljhanfaaW.PrintLast Go.Proofs.YtljadjoljhanfaaW.PrintMore
attribute [local go_sem] max2_int min2_int max_two min_two max_three min_three

theorem chk_zero {p : Int → Bool} {l : List Int} {s : Int} (h : chk p l s = 0) : (0 ≤ s ∧ s ≤ 95) ∧ l.length ≤ 128 ∧ ∀ x ∈ l, p x = true := by
  unfold chk at h
  split at h
  · rename_i h1
    split at h
    · rename_i h2
      split at h
      · rename_i h3
        exact ⟨isS_bd h1, h2, List.all_eq_true.1 h3⟩
      · omega
    · omega
  · omega

set_option maxHeartbeats 400000 in
theorem Quantize_yes (A : Option Addr) (cap : Nat) (l : List Int) (s : Int) (w : World) (hr : (Kd.int .i64).C w A l.length l) (hk : chk isC l s = 0) :
    Calls Try.prog 48 #[.slice A l.length cap, .int .i64 s] w fun e w' => ∃ v, e = .returned (.tuple #[v, .int .i64 0]) ∧ (Kd.int .i64).R 3 w' w.heap.size (fun _ => True) v (l.map fun c => sg c (qn (stepI s) (absI c))) ∧ Below w.heap.size w w' := by
  obtain ⟨hs, hl, hp⟩ := chk_zero hk
  have HC := fun W hb => check_calls 68 isC A cap l s W (fun _ _ => by kernel_rfl) (Kd.C_below hr hb) fn_isC
  rw [hk] at HC
  replace HC := Aside0.mk HC
  have hst := stepI_bd hs.1 hs.2
  have HW := fun w => with_calls s w hs.1 hs.2
  obtain ⟨st, hst'⟩ : ∃ st, st = stepI s := ⟨_, rfl⟩
  rw [← hst'] at hst HW ⊢
  have HM : ∀ W B, Below w.heap.size w W → W.cell? ⟨B, 0, none⟩ = some (.int .i64 st) →
      Calls Try.prog 75 #[.slice A l.length cap, .func (.func 76) #[] #[.pointer (some ⟨B, 0, none⟩)]] W fun e w' => ∃ v : Value, e = .returned v ∧ (Kd.int .i64).R 3 w' W.heap.size (fun _ => True) v (l.map fun c => sg c (qn st (absI c))) ∧ Below W.heap.size W w' :=
    fun W B hb hB => mapped_calls _ #[] _ _ A cap l W (fun _ _ => by kernel_rfl) (Kd.C_below hr hb) (by omega) (fun c hc W' hb' => by
      have hcb := isC_bd (hp c hc)
      exact quantize1_calls c st B W' (cnx hB hb') (by omega) hst.2 hcb.1 hcb.2)
  replace HM := Aside0.mk HM
  replace HW := Aside0.mk HW
  clear hst' hk hr hp
  go_enter Try.func48, Try.ntmps48
  go_wp2_with (first | (go_at_call 67; refine (HC.out _ (Below.refl _ _)).mono ?_; rintro e w' ⟨rfl, hb0⟩) | (go_at_call 71; refine (HW.out _).mono ?_; rintro e w' ⟨rfl, hb1⟩) | (go_at_call 75; have hb2 := (bnx hb0 hb1).alloc (bnx hb0 hb1).size (.cells #[.int .i64 st] 76); refine (HM.out _ _ hb2 (by simp)).mono ?_; rintro e w2 ⟨v, rfl, hR, hb3⟩))
  go_ret2
  exact ⟨v, rfl, Kd.R_lower hR hb2.size, bnx hb2 hb3⟩

set_option maxHeartbeats 400000 in
theorem Values_no (A : Option Addr) (cap : Nat) (l : List Int) (s : Int) (w : World) (hr : (Kd.int .i64).C w A l.length l) (hk : chk isQ l s ≠ 0) :
    Calls Try.prog 53 #[.slice A l.length cap, .int .i64 s] w fun e w' => e = .returned (.tuple #[.slice none 0 0, .int .i64 (chk isQ l s)]) ∧ Below w.heap.size w w' := by
  obtain ⟨e0, he0⟩ : ∃ e0, e0 = chk isQ l s := ⟨_, rfl⟩
  have HC := fun W hb => check_calls 82 isQ A cap l s W (fun _ _ => by kernel_rfl) (Kd.C_below hr hb) fn_isQ
  rw [← he0] at HC hk ⊢
  replace HC := Aside0.mk HC
  have hk' : (e0 == 0) = false := beq_eq_false_iff_ne.2 hk
  have hb1 := (Below.refl w.heap.size w).alloc (Nat.le_refl _) (.cells #[.int .i64 s] 3)
  clear he0 hr
  go_enter Try.func53, Try.ntmps53
  go_wp2_with (first | (go_at_call 67; refine (HC.out _ hb1).mono ?_; rintro e w' ⟨rfl, hb0⟩))
  go_ret2
  exact ⟨rfl, bnx hb1 hb0⟩

set_option maxHeartbeats 400000 in
theorem Values_yes (A : Option Addr) (cap : Nat) (l : List Int) (s : Int) (w : World) (hr : (Kd.int .i64).C w A l.length l) (hk : chk isQ l s = 0) :
    Calls Try.prog 53 #[.slice A l.length cap, .int .i64 s] w fun e w' => ∃ v, e = .returned (.tuple #[v, .int .i64 0]) ∧ (Kd.int .i64).R 3 w' w.heap.size (fun _ => True) v (l.map fun q => sg q (V (stepI s) (absI q))) ∧ Below w.heap.size w w' := by
  obtain ⟨hs, hl, hp⟩ := chk_zero hk
  have HC := fun W hb => check_calls 82 isQ A cap l s W (fun _ _ => by kernel_rfl) (Kd.C_below hr hb) fn_isQ
  rw [hk] at HC
  replace HC := Aside0.mk HC
  have HM : ∀ W B, Below w.heap.size w W → W.cell? ⟨B, 0, none⟩ = some (.int .i64 s) →
      Calls Try.prog 75 #[.slice A l.length cap, .func (.func 83) #[] #[.pointer (some ⟨B, 0, none⟩)]] W fun e w' => ∃ v : Value, e = .returned v ∧ (Kd.int .i64).R 3 w' W.heap.size (fun _ => True) v (l.map fun q => sg q (V (stepI s) (absI q))) ∧ Below W.heap.size W w' :=
    fun W B hb hB => mapped_calls _ #[] _ _ A cap l W (fun _ _ => by kernel_rfl) (Kd.C_below hr hb) (by omega) (fun c hc W' hb' => by
      have hcb := isQ_bd (hp c hc)
      exact values1_calls c s B W' (cnx hB hb') hcb.1 hcb.2 hs.1 hs.2)
  replace HM := Aside0.mk HM
  have hb1 := (Below.refl w.heap.size w).alloc (Nat.le_refl _) (.cells #[.int .i64 s] 3)
  clear hk hr hp
  go_enter Try.func53, Try.ntmps53
  go_wp2_with (first | (go_at_call 67; refine (HC.out _ hb1).mono ?_; rintro e w2 ⟨rfl, hb0⟩; have hcell : w2.cell? ⟨w.heap.size, 0, none⟩ = some (.int .i64 s) := cnx (by simp) hb0) | (go_at_call 75; refine (HM.out _ _ (bnx hb1 hb0) hcell).mono ?_; rintro e w2 ⟨v, rfl, hR, hb3⟩))
  go_ret2
  exact ⟨v, rfl, Kd.R_lower hR (bnx hb1 hb0).size, bnx (bnx hb1 hb0) hb3⟩

set_option maxHeartbeats 400000 in
theorem Noise_no (A : Option Addr) (cap : Nat) (l : List Int) (s : Int) (w : World) (hr : (Kd.int .i64).C w A l.length l) (hk : chk isC l s ≠ 0) :
    Calls Try.prog 87 #[.slice A l.length cap, .int .i64 s] w fun e w' => e = .returned (.tuple #[.int .i64 0, .int .i64 (chk isC l s)]) ∧ Below w.heap.size w w' := by
  obtain ⟨e0, he0⟩ : ∃ e0, e0 = chk isC l s := ⟨_, rfl⟩
  have HC := fun W hb => check_calls 68 isC A cap l s W (fun _ _ => by kernel_rfl) (Kd.C_below hr hb) fn_isC
  rw [← he0] at HC hk ⊢
  replace HC := Aside0.mk HC
  have hk' : (e0 == 0) = false := beq_eq_false_iff_ne.2 hk
  clear he0 hr
  go_enter Try.func87, Try.ntmps87
  go_wp2_with (first | (go_at_call 67; refine (HC.out _ (Below.refl _ _)).mono ?_; rintro e w' ⟨rfl, hb0⟩))
  go_ret2
  exact ⟨rfl, hb0⟩

set_option maxHeartbeats 400000 in
theorem Noise_yes (A : Option Addr) (cap : Nat) (l : List Int) (s : Int) (w : World) (hr : (Kd.int .i64).C w A l.length l) (hk : chk isC l s = 0) :
    Calls Try.prog 87 #[.slice A l.length cap, .int .i64 s] w fun e w' => e = .returned (.tuple #[.int .i64 (noiseTo (stepI s) 72057594037927936 0 l), .int .i64 0]) ∧ Below w.heap.size w w' := by
  obtain ⟨hs, hl, hp⟩ := chk_zero hk
  have HC := fun W hb => check_calls 68 isC A cap l s W (fun _ _ => by kernel_rfl) (Kd.C_below hr hb) fn_isC
  rw [hk] at HC
  replace HC := Aside0.mk HC
  have hst := stepI_bd hs.1 hs.2
  have HW := fun w => with_calls s w hs.1 hs.2
  obtain ⟨st, hst'⟩ : ∃ st, st = stepI s := ⟨_, rfl⟩
  rw [← hst'] at hst HW ⊢
  have HM := fun W hb => noise_calls st A cap l 72057594037927936 W (Kd.C_below hr hb) (by omega) (by omega) hst.2 (fun n hn => isC_bd (hp n hn))
  replace HM := Aside0.mk HM
  replace HW := Aside0.mk HW
  clear hst' hk hr hp
  go_enter Try.func87, Try.ntmps87
  go_wp2_with (first | (go_at_call 67; refine (HC.out _ (Below.refl _ _)).mono ?_; rintro e w' ⟨rfl, hb0⟩) | (go_at_call 71; refine (HW.out _).mono ?_; rintro e w' ⟨rfl, hb1⟩) | (go_at_call 72; refine (HM.out _ (bnx hb0 hb1)).mono ?_; rintro e w' ⟨rfl, hb2⟩))
  go_ret2
  exact ⟨rfl, bnx (bnx hb0 hb1) hb2⟩

end Go.Proofs.Ytljadjoljhanfaa.Q15
/- What each function of package quant returns: Least. -/
namespace Go.Proofs.Ytljadjoljhanfaa.Q15
open Go.RowKit Go.Proofs.YtljadjoljhanfaaW.PrintWords Go.Proofs.YtljadjoljhanfaaW.PrintLast Go.Proofs.YtljadjoljhanfaaW.PrintMore
attribute [local go_sem] max2_int min2_int max_two min_two max_three min_three

set_option maxHeartbeats 400000 in
theorem peak_calls (A : Option Addr) (cap : Nat) (l : List Int) (w : World) (hr : (Kd.int .i64).C w A l.length l) (hl : l.length ≤ 1099511627776) (hp : ∀ n ∈ l, -2097152 ≤ n ∧ n ≤ 2097152) :
    Calls Try.prog 95 #[.slice A l.length cap] w fun e w' => e = .returned (.int .i64 (peakI l)) ∧ Below w.heap.size w w' := by
  have HP := Aside0.mk hp
  have HR := Aside0.mk hr
  clear hp hr
  go_enter Try.func95, Try.ntmps95
  go_wp2
  go_loopw [3, 8] (fun s i wr => ∃ (k : Nat) (z : Int), i = .int .i64 k ∧ s = .int .i64 z ∧ k ≤ l.length ∧ 0 ≤ z ∧ z ≤ 2097152 ∧ Aside0 (z = peakI (l.take k)) ∧ Below w.heap.size w wr) (fun _ i _ => l.length - (intOf i).toNat)
  case atStart => exact ⟨0, 0, rfl, rfl, by omega, by omega, by omega, ⟨by simp [peakI]⟩, Below.refl _ _⟩
  case round =>
    obtain ⟨k, z, rfl, rfl, hk, hz0, hz1, hn, hb⟩ := hrel
    by_cases hlt : k < l.length
    · obtain ⟨ad, rfl, hcell⟩ := el_at HR.out hb hlt
      have hc := HP.out _ (rd_mem l k hlt)
      have hT := take_rd l k hlt
      obtain ⟨n, hx⟩ : ∃ n, n = rd l k := ⟨_, rfl⟩
      rw [← hx] at hcell hc hT
      have hT2 : peakI (l.take (k + 1)) = max (max z n) (-n) := by
        rw [hT, hn.out]
        unfold peakI
        rw [List.foldl_append]
        rfl
      obtain ⟨j, hj⟩ : ∃ j, (if z < n then n else z) = j := ⟨_, rfl⟩
      obtain ⟨j2, hj2⟩ : ∃ j2, (if j < -n then -n else j) = j2 := ⟨_, rfl⟩
      have hb2 : 0 ≤ j2 ∧ j2 ≤ 2097152 := by omega
      have hT3 : Aside0 (j2 = peakI (l.take (k + 1))) := ⟨by rw [hT2]; omega⟩
      clear hx hT hT2 hn
      go_wp2
      go_roundw
      case rel => exact ⟨k + 1, j2, by go_num, rfl, by omega, hb2.1, hb2.2, hT3, hb⟩
      case measure => simp [intOf]; omega
    · obtain rfl : k = l.length := by omega
      rw [List.take_length] at hn
      go_wp2
      go_ret
      exact ⟨ret_int hn.out, hb⟩

set_option maxHeartbeats 400000 in
theorem least1_calls (s top : Int) (B : Nat) (w : World) (hc : w.cell? ⟨B, 0, none⟩ = some (.int .i64 top)) (h2 : 0 ≤ s) (h3 : s ≤ 95) :
    Calls Try.prog 97 #[.int .i64 s, .pointer (some ⟨B, 0, none⟩)] w fun e w' => e = .returned (.bool (decide (V (stepI s) 1023 ≥ top))) ∧ Below w.heap.size w w' := by
  have l1 := World.block_lt_of_cell? w _ hc
  have HV := fun w => value_calls 1023 s w (by omega) (by omega) h2 h3
  rw [show sg 1023 (V (stepI s) (absI 1023)) = V (stepI s) 1023 from by unfold sg absI; rw [if_neg (by omega), show max (1023 : Int) (-1023) = 1023 from by decide]] at HV
  obtain ⟨v, hv⟩ : ∃ v, v = V (stepI s) 1023 := ⟨_, rfl⟩
  rw [← hv] at HV ⊢
  replace HV := Aside0.mk HV
  clear hv
  go_enter Try.func97, Try.ntmps97
  go_wp2_with fail
  go_region_held3 (fun w' => w'.cell? ⟨B, 0, none⟩ = some (.int .i64 top) ∧ Below w.heap.size w w')
    (first | exact ⟨hc, Below.refl _ _⟩ | exact ⟨hc, (Below.refl _ _).drew⟩ | exact ⟨(hb.cell l1).trans hc, (Below.refl _ w).drew.trans hb⟩)
    (first | (go_at_call 84; refine (HV.out _).mono ?_; rintro e w' ⟨rfl, hb⟩))
  rename_i hh
  obtain ⟨_, hh⟩ := hh
  go_wp2
  go_ret
  exact ⟨rfl, hh⟩

set_option maxHeartbeats 400000 in
theorem least_calls (A : Option Addr) (cap : Nat) (l : List Int) (w : World) (hr : (Kd.int .i64).C w A l.length l) (hl : l.length ≤ 1099511627776) (hp : ∀ n ∈ l, -2097152 ≤ n ∧ n ≤ 2097152) :
    Calls Try.prog 70 #[.slice A l.length cap] w fun e w' => e = .returned (.int .i64 (leastI l)) ∧ Below w.heap.size w w' := by
  have HP := fun W hb => peak_calls A cap l W (Kd.C_below hr hb) hl hp
  unfold leastI
  obtain ⟨top, ht⟩ : ∃ top, top = peakI l := ⟨_, rfl⟩
  rw [← ht] at HP ⊢
  replace HP := Aside0.mk HP
  clear ht hp hr
  have HF : ∀ W B, W.cell? ⟨B, 0, none⟩ = some (.int .i64 top) → Calls Try.prog 96 #[.int .i64 0, .int .i64 95, .func (.func 97) #[] #[.pointer (some ⟨B, 0, none⟩)]] W fun e w' => e = .returned (.int .i64 (leastT top)) ∧ Below W.heap.size W w' := fun W B hB => by
    unfold leastT
    refine first_calls _ #[] _ _ 0 95 W (fun _ _ => by kernel_rfl) (by omega) (by omega) (by omega) (fun k k0 k1 W' hb => ?_) (fun a b a0 ab b1 ha => ?_)
    · exact least1_calls k top B W' (cnx hB hb) k0 (by omega)
    · have := top_mono a0 ab (by omega)
      simp only [decide_eq_true_eq] at ha ⊢
      omega
  replace HF := Aside0.mk HF
  go_enter Try.func70, Try.ntmps70
  go_wp2_with (first | (go_at_call 95; refine (HP.out _ (Below.refl _ _)).mono ?_; rintro e w' ⟨rfl, hb0⟩) | (go_at_call 96; have hb1 := hb0.alloc hb0.size (.cells #[.int .i64 top] 3); refine (HF.out _ _ (by simp)).mono ?_; rintro e w2 ⟨rfl, hb2⟩))
  go_ret
  exact ⟨rfl, bnx hb1 hb2⟩

set_option maxHeartbeats 400000 in
theorem Least_no (A : Option Addr) (cap : Nat) (l : List Int) (w : World) (hr : (Kd.int .i64).C w A l.length l) (hk : chk isC l 0 ≠ 0) :
    Calls Try.prog 36 #[.slice A l.length cap] w fun e w' => e = .returned (.tuple #[.int .i64 0, .int .i64 (chk isC l 0)]) ∧ Below w.heap.size w w' := by
  obtain ⟨e0, he0⟩ : ∃ e0, e0 = chk isC l 0 := ⟨_, rfl⟩
  have HC := fun W hb => check_calls 68 isC A cap l 0 W (fun _ _ => by kernel_rfl) (Kd.C_below hr hb) fn_isC
  rw [← he0] at HC hk ⊢
  replace HC := Aside0.mk HC
  have hk' : (e0 == 0) = false := beq_eq_false_iff_ne.2 hk
  clear he0 hr
  go_enter Try.func36, Try.ntmps36
  go_wp2_with (first | (go_at_call 67; refine (HC.out _ (Below.refl _ _)).mono ?_; rintro e w' ⟨rfl, hb0⟩))
  go_ret2
  exact ⟨rfl, hb0⟩

set_option maxHeartbeats 400000 in
theorem Least_yes (A : Option Addr) (cap : Nat) (l : List Int) (w : World) (hr : (Kd.int .i64).C w A l.length l) (hk : chk isC l 0 = 0) :
    Calls Try.prog 36 #[.slice A l.length cap] w fun e w' => e = .returned (.tuple #[.int .i64 (leastI l), .int .i64 0]) ∧ Below w.heap.size w w' := by
  obtain ⟨hs, hl, hp⟩ := chk_zero hk
  have HC := fun W hb => check_calls 68 isC A cap l 0 W (fun _ _ => by kernel_rfl) (Kd.C_below hr hb) fn_isC
  rw [hk] at HC
  replace HC := Aside0.mk HC
  have HL := fun W hb => least_calls A cap l W (Kd.C_below hr hb) (by omega) (fun n hn => isC_bd (hp n hn))
  replace HL := Aside0.mk HL
  clear hk hr hp
  go_enter Try.func36, Try.ntmps36
  go_wp2_with (first | (go_at_call 67; refine (HC.out _ (Below.refl _ _)).mono ?_; rintro e w' ⟨rfl, hb0⟩) | (go_at_call 70; refine (HL.out _ hb0).mono ?_; rintro e w' ⟨rfl, hb1⟩))
  go_ret2
  exact ⟨rfl, bnx hb0 hb1⟩

end Go.Proofs.Ytljadjoljhanfaa.Q15
