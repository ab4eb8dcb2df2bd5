/- Plain facts on values of quanta of bands, and on scales that fit. -/
import Derived.Test.YtljadjoljhanfaaMm
import Derived.Test.YtljadjoljhanfaaMn
import Derived.WalkKit
import Derived.WalkSpells
import Derived.WalkLawsBesides
import Derived.KernelRfl
import Derived.Deep.RegionHeld3
import Derived.Deep.LoopGhost
import Derived.Deep.AppendLies
import Derived.Laws.Rows
import Derived.Shelf.GgClosure.Gives
import Derived.Test.YtljadjoljhanfaaWWords
import Derived.Test.YtljadjoljhanfaaWLast
import Derived.Test.YtljadjoljhanfaaWMore
import Derived.Deep.QuietTactic
import Derived.BigQuiet
set_option linter.unusedVariables false
set_option linter.unusedSimpArgs false
namespace Go.Proofs.Ytljadjoljhanfaa.Q16
open Go.RowKit Go.Proofs.YtljadjoljhanfaaW.PrintWords Go.Proofs.YtljadjoljhanfaaW.PrintLast Go.Proofs.YtljadjoljhanfaaW.PrintMore
attribute [local go_sem] max2_int min2_int max_two min_two max_three min_three
open Go.Proofs.Ytljadjoljhanfaa.Q15

theorem band_flat {l : List Int} (hl : isW l = true) {f : Nat → List Int} (hf : ∀ j, j < l.length → (f j).length = wd l j) {k : Nat} (hk : k < l.length) : band ((List.range l.length).map f).flatten l k = f k := by
  obtain ⟨r, hr⟩ : ∃ r, l.length = k + 1 + r := ⟨l.length - (k + 1), by omega⟩
  have hsplit : ((List.range l.length).map f).flatten = ((List.range k).map f).flatten ++ (f k ++ (((List.range r).map fun j => f (k + 1 + j))).flatten) := by
    rw [hr, List.range_add, List.range_succ, List.map_append, List.map_append, List.flatten_append, List.flatten_append, List.map_map]
    simp [Function.comp_def]
  have h1 := flat_len hl (f := f) (fun j hj => hf j hj) k (by omega)
  unfold band
  rw [hsplit, List.drop_append_of_le_length (by omega), ← h1, List.drop_length, List.nil_append, ← hf k hk, List.take_left]
theorem rd_band {c l : List Int} (hc : c.length = 128) (hl : isW l = true) {k i : Nat} (hk : k < l.length) (hi : i < wd l k) : rd c ((off l k + i : Nat) : Int) = rd (band c l k) i := by
  have hn := off_next hl hk
  have hb := band_len hc hl hk
  rw [rd_nat c _ (by omega), rd_nat (band c l k) i (by omega)]
  unfold band
  rw [List.getElem_take, List.getElem_drop]
theorem rd_map (f : Int → Int) (l : List Int) (k : Nat) (h : k < l.length) : rd (l.map f) k = f (rd l k) := by
  rw [rd_nat _ _ (by simpa using h), rd_nat _ _ h, List.getElem_map]
theorem sg_V {x n : Int} (hx : 0 ≤ x) : sg (sg n (qn x (absI n))) (V x (absI (sg n (qn x (absI n))))) = sg n (V x (qn x (absI n))) := by
  have hq := qn_bd (x := x) (c := absI n) hx
  have hv := V_bd (qn x (absI n)) hx
  rw [absI_sgn n hq.1]
  by_cases h0 : qn x (absI n) = 0
  · rw [h0, V_zero]
    unfold sg
    split <;> split <;> rfl
  · unfold sg
    split <;> split <;> omega
theorem sg_lim {n r m : Int} (h0 : 0 ≤ r) (h1 : r ≤ m) : -m ≤ sg n r ∧ sg n r ≤ m := by unfold sg; split <;> omega

section
variable {c l s : List Int} (he : errS (-2097152) 2097152 0 95 c l s = 0)
include he
theorem band_quant {k : Nat} (hk : k < l.length) : band (quantL c l s) l k = (band c l k).map fun n => sg n (qn (stepI (rd s k)) (absI n)) := by
  obtain ⟨g0, g1, g2, g3, g4, g5⟩ := errS_zero he
  unfold quantL
  have hq : ∀ j, j < l.length → quanta (band c l j) (rd s j) = (band c l j).map fun n => sg n (qn (stepI (rd s j)) (absI n)) := fun j hj => by
    unfold quanta
    rw [if_pos (chk_band g3 g0 g1 hj (rng_mem g4 (rd_mem s j (by omega))))]
  rw [band_flat (f := fun k => quanta (band c l k) (rd s k)) g0 (fun j hj => by rw [hq j hj, List.length_map, band_len g1 g0 hj]) hk]
  exact hq k hk
theorem quant_errs : errS (-1023) 1023 0 95 (quantL c l s) l s = 0 := by
  obtain ⟨g0, g1, g2, g3, g4, g5⟩ := errS_zero he
  refine errS_mk g0 (quantL_len he) g2 ?_ g4
  refine List.all_eq_true.2 fun x hx => ?_
  unfold quantL at hx
  obtain ⟨y, hy, hxy⟩ := List.mem_flatten.1 hx
  obtain ⟨j, hj, rfl⟩ := List.mem_map.1 hy
  replace hj := List.mem_range.1 hj
  have hsj := rng_mem g4 (rd_mem s j (by omega))
  unfold quanta at hxy
  rw [if_pos (chk_band g3 g0 g1 hj hsj)] at hxy
  obtain ⟨n, hn, rfl⟩ := List.mem_map.1 hxy
  have hq := qn_bd (x := stepI (rd s j)) (c := absI n) (by have := stepI_bd hsj.1 hsj.2; omega)
  have := sg_lim (n := n) hq.1 hq.2
  exact decide_eq_true this
theorem band_val {k : Nat} (hk : k < l.length) : band (valL (quantL c l s) l s) l k = (band c l k).map fun n => sg n (V (stepI (rd s k)) (qn (stepI (rd s k)) (absI n))) := by
  obtain ⟨g0, g1, g2, g3, g4, g5⟩ := errS_zero he
  obtain ⟨h0, h1, h2, h3, h4, h5⟩ := errS_zero (quant_errs he)
  unfold valL
  have hq : ∀ j, j < l.length → valuesL (band (quantL c l s) l j) (rd s j) = (band c l j).map fun n => sg n (V (stepI (rd s j)) (qn (stepI (rd s j)) (absI n))) := fun j hj => by
    have hsj := rng_mem g4 (rd_mem s j (by omega))
    unfold valuesL
    rw [if_pos (chk_bandQ h3 g0 h1 hj hsj), band_quant he hj, List.map_map]
    refine List.map_congr_left fun n hn => ?_
    exact sg_V (by have := stepI_bd hsj.1 hsj.2; omega)
  rw [band_flat (f := fun k => valuesL (band (quantL c l s) l k) (rd s k)) g0 (fun j hj => by rw [hq j hj, List.length_map, band_len g1 g0 hj]) hk]
  exact hq k hk
/-- What each value differs by from its coefficient. -/
theorem val_diff {k i : Nat} (hk : k < l.length) (hi : i < wd l k) :
    (rd c ((off l k + i : Nat) : Int) - rd (valL (quantL c l s) l s) ((off l k + i : Nat) : Int)) * (rd c ((off l k + i : Nat) : Int) - rd (valL (quantL c l s) l s) ((off l k + i : Nat) : Int)) = dsq (stepI (rd s k)) (rd (band c l k) i) ∧
    (-2097152 ≤ rd c ((off l k + i : Nat) : Int) ∧ rd c ((off l k + i : Nat) : Int) ≤ 2097152) ∧ (-2097152 ≤ rd (valL (quantL c l s) l s) ((off l k + i : Nat) : Int) ∧ rd (valL (quantL c l s) l s) ((off l k + i : Nat) : Int) ≤ 2097152) := by
  obtain ⟨g0, g1, g2, g3, g4, g5⟩ := errS_zero he
  have hn := off_next g0 hk
  have hb := band_len g1 g0 hk
  have hv := valL_len (quant_errs he)
  have hsk := rng_mem g4 (rd_mem s k (by omega))
  have hst := stepI_bd hsk.1 hsk.2
  rw [rd_band hv g0 hk hi, rd_band g1 g0 hk hi, band_val he hk]
  have e := rd_map (fun n => sg n (V (stepI (rd s k)) (qn (stepI (rd s k)) (absI n)))) (band c l k) i (by omega)
  rw [e]
  have hm := rng_mem g3 (List.mem_of_mem_drop (List.mem_of_mem_take (rd_mem (band c l k) i (by omega))))
  have hV := V_bd (qn (stepI (rd s k)) (absI (rd (band c l k) i))) (show 0 ≤ stepI (rd s k) by omega)
  refine ⟨?_, hm, sg_lim hV.1 hV.2⟩
  rw [sq_sg]
  rfl
theorem noisR_is {k : Nat} (hk : k < l.length) : rd (noisL c l s) k = noiseI (stepI (rd s k)) (band c l k) ∧ ∀ i, i ≤ wd l k → 0 ≤ noiseI (stepI (rd s k)) ((band c l k).take i) ∧ noiseI (stepI (rd s k)) ((band c l k).take i) ≤ 562949953421312 := by
  obtain ⟨g0, g1, g2, g3, g4, g5⟩ := errS_zero he
  have hn := off_next g0 hk
  have hsk := rng_mem g4 (rd_mem s k (by omega))
  have hst := stepI_bd hsk.1 hsk.2
  rw [rd_noisL _ _ _ hk]
  refine ⟨?_, fun i hi => ?_⟩
  · unfold noiseR
    rw [if_pos (chk_band g3 g0 g1 hk hsk)]
  · have h := noiseI_bd (show 0 ≤ stepI (rd s k) by omega) ((band c l k).take i) (fun n hn => rng_mem g3 (List.mem_of_mem_drop (List.mem_of_mem_take (List.mem_of_mem_take hn))))
    have h2 : ((band c l k).take i).length ≤ 128 := by rw [List.length_take, band_len g1 g0 hk]; omega
    omega
end

/-- Whether scales fit. -/
def FitsL (c l s : List Int) : Prop := errS (-2097152) 2097152 0 95 c l s = 0 ∧ ∀ k : Nat, k < l.length → leastI (band c l k) ≤ rd s k
theorem fits_scales {c l m : List Int} (he : errS (-2097152) 2097152 0 72057594037927936 c l m = 0) : FitsL c l (scalesL c l m) :=
  ⟨(scales_errs he).1, fun k hk => by rw [rd_scalesL _ _ _ hk]; exact (scaleB_bd _ _).1⟩
theorem fits_of {c l s t : List Int} (he : errS (-2097152) 2097152 0 95 c l s = 0) (ht : t.length = l.length) (h : ∀ k : Nat, k < l.length → leastI (band c l k) ≤ rd t k ∧ rd t k ≤ 95) : FitsL c l t := by
  obtain ⟨g0, g1, g2, g3, g4, g5⟩ := errS_zero he
  refine ⟨errS_mk g0 g1 ht g3 (rng_of ht fun k hk => ?_), fun k hk => (h k hk).1⟩
  have := h k hk
  have := leastI_bd (band c l k)
  omega
theorem ampls_len (c l s m : List Int) : (ampls c l s m).length = l.length := by unfold ampls; rw [List.length_map, List.length_range]
theorem coarL_len (c l s : List Int) (n : Int) : (coarL c l s n).length = l.length := by unfold coarL; rw [List.length_map, List.length_range]
theorem fits_ampls {c l s m : List Int} (h : FitsL c l s) : FitsL c l (ampls c l s m) := by
  obtain ⟨g0, g1, g2, g3, g4, g5⟩ := errS_zero h.1
  refine fits_of h.1 (ampls_len c l s m) fun k hk => ?_
  have h1 := h.2 k hk
  have h2 := rng_mem g4 (rd_mem s k (by omega))
  unfold ampls
  rw [rd_range _ _ _ hk]
  unfold ampl
  split <;> omega
theorem fits_coarL {c l s : List Int} (n : Int) (h : FitsL c l s) : (-96 ≤ n ∧ n ≤ 96) → FitsL c l (coarL c l s n) := fun hn => by
  obtain ⟨g0, g1, g2, g3, g4, g5⟩ := errS_zero h.1
  refine fits_of h.1 (coarL_len c l s n) fun k hk => ?_
  have h1 := h.2 k hk
  have h2 := rng_mem g4 (rd_mem s k (by omega))
  have h3 := leastI_bd (band c l k)
  unfold coarL
  rw [rd_range _ _ _ hk]
  unfold coarse
  split <;> omega

end Go.Proofs.Ytljadjoljhanfaa.Q16
/- The law ShapeFits. -/
namespace Go.Proofs.Ytljadjoljhanfaa.Q16
open Go.RowKit Go.Proofs.YtljadjoljhanfaaW.PrintWords Go.Proofs.YtljadjoljhanfaaW.PrintLast Go.Proofs.YtljadjoljhanfaaW.PrintMore
attribute [local go_sem] max2_int min2_int max_two min_two max_three min_three
open Go.Proofs.Ytljadjoljhanfaa.Q15

theorem tmod_97 (n : Int) : -96 ≤ n.tmod 97 ∧ n.tmod 97 ≤ 96 := by
  have h1 := Int.tmod_lt_of_pos n (show (0 : Int) < 97 by decide)
  have h2 := Int.tmod_lt_of_pos (-n) (show (0 : Int) < 97 by decide)
  rw [Int.neg_tmod] at h2
  omega

theorem sq0 (a : Int) : 0 ≤ a * a := by
  rcases Int.le_total 0 a with h | h
  · exact Int.mul_nonneg h h
  · exact Int.mul_nonneg_of_nonpos_of_nonpos h h

/-- Of what is done with each of the three lists of scales. -/
structure FitsAll (c l : List Int) (xs : Nat → List Int) (i : Nat) : Prop where
  fits : FitsL c l (xs i)

set_option maxRecDepth 100000 in
set_option maxHeartbeats 16000000 in
theorem ShapeFits_row {w : World} (A0 : Option Addr) (c0 : Nat) (c : List Int) (hr0 : (Kd.int .i64).C w A0 c.length c) (hc0 : c.length ≤ c0) (hc9 : c0 ≤ 9223372036854775807) (A1 : Option Addr) (c1 : Nat) (l : List Int) (hr1 : (Kd.int .i64).C w A1 l.length l) (hc1 : l.length ≤ c1) (hd9 : c1 ≤ 9223372036854775807) (A2 : Option Addr) (c2 : Nat) (m : List Int) (hr2 : (Kd.int .i64).C w A2 m.length m) (hc2 : m.length ≤ c2) (he2 : c2 ≤ 9223372036854775807) (n : Int) (hn : -9223372036854775808 ≤ n ∧ n ≤ 9223372036854775807) :
    Calls Try.prog 8 #[.agg #[.slice A0 c.length c0, .slice A1 l.length c1], .slice A2 m.length c2, .int .i64 n] w fun e w' => e = .returned (.bool true) ∧ Below w.heap.size w w' := by
  have hb := Below.refl w.heap.size w
  have HR := fun (W : World) (hb : Below w.heap.size w W) => right_calls A0 A1 A2 c0 c1 c2 c l m W (Kd.C_below hr0 hb) (Kd.C_below hr1 hb) (Kd.C_below hr2 hb)
  cases hrb : rightB c l m with
  | false =>
    rw [hrb] at HR
    replace HR := Aside0.mk HR
    clear hrb hr0 hr1 hr2 hc0 hc9 hc1 hd9 hc2 he2 hn
    go_enter Try.func8, Try.ntmps8
    go_wp2_with fail
    obtain ⟨W, hW⟩ : ∃ W, W = w.alloc (.cells #[.slice A0 c.length c0, .slice A1 l.length c1] 24) := ⟨_, rfl⟩
    rw [← hW]
    replace hb : Below w.heap.size w W := by rw [hW]; exact hb.alloc hb.size _
    clear hW
    refine (HR.out W hb).mono ?_; rintro _ w1 ⟨rfl, hbn⟩; replace hb := bnx hb hbn; clear hbn
    go_wp2_with fail
    refine (awake_calls _).mono ?_; rintro _ wA ⟨rfl, hbn⟩; replace hb := bnx hb hbn; clear hbn
    go_wp2_with fail
    go_ret
    exact ⟨rfl, hb⟩
  | true =>
    rw [hrb] at HR
    have he : errS (-2097152) 2097152 0 72057594037927936 c l m = 0 := of_decide_eq_true hrb
    obtain ⟨g0, g1, g2, g3, g4, g5⟩ := errS_zero he
    have hl32 := (isW_iff.1 g0).2.2
    obtain ⟨s1, s2⟩ := scales_errs he
    have ht := tmod_97 n
    have fS := fits_scales he
    have fA := fits_ampls (m := m) fS
    have fC := fits_coarL (n.tmod 97) fS ht
    obtain ⟨a, rfl⟩ : ∃ a, A0 = some a := by
      obtain ⟨_, _, h⟩ := hr0
      obtain ⟨a, e, _⟩ := h (by omega)
      exact ⟨a, e⟩
    have C1 := fun (W : World) (hb : Below w.heap.size w W) => Scales_out (some a) A1 A2 c0 c1 c2 c l m W (Kd.C_below hr0 hb) (Kd.C_below hr1 hb) (Kd.C_below hr2 hb) hc0 hc9 (by omega) (by omega) (by omega)
    rw [he, show ifl 0 (scalesL c l m) = scalesL c l m from rfl] at C1
    unfold Out at C1
    rw [scalesL_len] at C1
    have C2 := fun (W : World) (hb : Below w.heap.size w W) (B : Option Addr) (p : Nat) (hK : (Kd.int .i64).C W B l.length (scalesL c l m)) => Amplify_out (some a) A1 B A2 c0 c1 p c2 c l (scalesL c l m) m W (Kd.C_below hr0 hb) (Kd.C_below hr1 hb) (by rw [scalesL_len]; exact hK) (Kd.C_below hr2 hb) hc0 hc9 (by omega) (by omega) (by rw [scalesL_len]; omega) (by omega)
    rw [s2, show ifl 0 (ampls c l (scalesL c l m) m) = ampls c l (scalesL c l m) m from rfl] at C2
    unfold Out at C2
    rw [ampls_len, scalesL_len] at C2
    have C3 := fun (W : World) (hb : Below w.heap.size w W) (B : Option Addr) (p : Nat) (hK : (Kd.int .i64).C W B l.length (scalesL c l m)) => Coarser_out (some a) A1 B c0 c1 p c l (scalesL c l m) W (Kd.C_below hr0 hb) (Kd.C_below hr1 hb) (by rw [scalesL_len]; exact hK) hc0 hc9 (by omega) (by omega) (by rw [scalesL_len]; omega) (n.tmod 97)
    rw [show errC c l (scalesL c l m) (n.tmod 97) = 0 from (if_pos ht).trans s1, show ifl 0 (coarL c l (scalesL c l m) (n.tmod 97)) = coarL c l (scalesL c l m) (n.tmod 97) from rfl] at C3
    unfold Out at C3
    rw [coarL_len, scalesL_len] at C3
    -- of each list that fits
    have Q1 : Aside0 (∀ (x : List Int), FitsL c l x → x.length = l.length → ∀ (W : World), Below w.heap.size w W → ∀ (B : Option Addr) (p : Nat), (Kd.int .i64).C W B l.length x → Calls Try.prog 14 #[.slice (some a) 128 c0, .slice A1 l.length c1, .slice B l.length p] W fun e w' => ∃ A p, e = .returned (.tuple #[.slice A 128 p, .int .i64 0]) ∧ 128 ≤ p ∧ p ≤ 9223372036854775807 ∧ (Kd.int .i64).C w' A 128 (quantL c l x) ∧ Below W.heap.size W w') := ⟨fun x hf hx W hb B p hK => by
      have h := Quantize_out (some a) A1 B c0 c1 p c l x W (Kd.C_below hr0 hb) (Kd.C_below hr1 hb) (by rw [hx]; exact hK) hc0 hc9 (by omega) (by omega) (by omega)
      rw [hf.1, show ifl 0 (quantL c l x) = quantL c l x from rfl, g1, hx] at h
      refine h.mono ?_
      rintro e w' ⟨A, p, rfl, h1, h2, _, h3, h4⟩
      rw [quantL_len hf.1] at h1 h3 ⊢
      exact ⟨A, p, rfl, h1, h2, h3, h4⟩⟩
    have Q2 : Aside0 (∀ (x : List Int), FitsL c l x → x.length = l.length → ∀ (W : World), Below w.heap.size w W → ∀ (B D : Option Addr) (p q : Nat), 128 ≤ q → q ≤ 9223372036854775807 → (Kd.int .i64).C W B l.length x → (Kd.int .i64).C W D 128 (quantL c l x) → Calls Try.prog 16 #[.slice D 128 q, .slice A1 l.length c1, .slice B l.length p] W fun e w' => ∃ A p, e = .returned (.tuple #[.slice A 128 p, .int .i64 0]) ∧ (Kd.int .i64).C w' A 128 (valL (quantL c l x) l x) ∧ Below W.heap.size W w') := ⟨fun x hf hx W hb B D p q h1 h2 hK hD => by
      have hq := quantL_len hf.1
      have h := Values_out D A1 B q c1 p (quantL c l x) l x W (by rw [hq]; exact hD) (Kd.C_below hr1 hb) (by rw [hx]; exact hK) (by rw [hq]; exact h1) h2 (by omega) (by omega) (by omega)
      rw [quant_errs hf.1, show ifl 0 (valL (quantL c l x) l x) = valL (quantL c l x) l x from rfl, hq, hx] at h
      refine h.mono ?_
      rintro e w' ⟨A, p, rfl, _, _, _, h3, h4⟩
      rw [valL_len (quant_errs hf.1)] at h3 ⊢
      exact ⟨A, p, rfl, h3, h4⟩⟩
    have Q3 : Aside0 (∀ (x : List Int), FitsL c l x → x.length = l.length → ∀ (W : World), Below w.heap.size w W → ∀ (B : Option Addr) (p : Nat), (Kd.int .i64).C W B l.length x → Calls Try.prog 18 #[.slice (some a) 128 c0, .slice A1 l.length c1, .slice B l.length p] W fun e w' => ∃ A p, e = .returned (.tuple #[.slice A l.length p, .int .i64 0]) ∧ (Kd.int .i64).C w' A l.length (noisL c l x) ∧ Below W.heap.size W w') := ⟨fun x hf hx W hb B p hK => by
      have h := Noises_out (some a) A1 B c0 c1 p c l x W (Kd.C_below hr0 hb) (Kd.C_below hr1 hb) (by rw [hx]; exact hK) hc0 hc9 (by omega) (by omega) (by omega)
      rw [hf.1, show ifl 0 (noisL c l x) = noisL c l x from rfl, g1, hx] at h
      refine h.mono ?_
      rintro e w' ⟨A, p, rfl, _, _, _, h3, h4⟩
      rw [noisL_len] at h3 ⊢
      exact ⟨A, p, rfl, h3, h4⟩⟩
    have CL : Aside0 (∀ (k : Nat), k < l.length → ∀ (W : World) (hb : Below w.heap.size w W) (p : Nat), Calls Try.prog 29 #[.slice (some (a.add (off l k))) (wd l k) p] W fun e w' => e = .returned (.tuple #[.int .i64 (leastI (band c l k)), .int .i64 0]) ∧ Below W.heap.size W w') := ⟨fun k hk W hb p => by
      have h := rLeast_yes (some (a.add (off l k))) p (band c l k) W (Kd.C_below (band_C hr0 g1 g0 hk) hb) (chk_band g3 g0 g1 hk (by decide))
      rwa [band_len g1 g0 hk] at h⟩
    have DF : Aside0 (∀ (x : List Int), FitsL c l x → ∀ k i : Nat, k < l.length → i < wd l k →
        (rd c ((off l k + i : Nat) : Int) - rd (valL (quantL c l x) l x) ((off l k + i : Nat) : Int)) * (rd c ((off l k + i : Nat) : Int) - rd (valL (quantL c l x) l x) ((off l k + i : Nat) : Int)) + noiseI (stepI (rd x k)) ((band c l k).take i) = noiseI (stepI (rd x k)) ((band c l k).take (i + 1)) ∧
        (-2097152 ≤ rd c ((off l k + i : Nat) : Int) ∧ rd c ((off l k + i : Nat) : Int) ≤ 2097152) ∧ (-2097152 ≤ rd (valL (quantL c l x) l x) ((off l k + i : Nat) : Int) ∧ rd (valL (quantL c l x) l x) ((off l k + i : Nat) : Int) ≤ 2097152)) := ⟨fun x hf k i hk hi => by
      obtain ⟨h1, h2, h3⟩ := val_diff hf.1 hk hi
      refine ⟨?_, h2, h3⟩
      rw [h1, take_rd (band c l k) i (by rw [band_len g1 g0 hk]; exact hi), noiseI_snoc]
      omega⟩
    have NF : Aside0 (∀ (x : List Int), FitsL c l x → ∀ k : Nat, k < l.length → rd (noisL c l x) k = noiseI (stepI (rd x k)) ((band c l k).take (wd l k)) ∧ ∀ i, i ≤ wd l k → 0 ≤ noiseI (stepI (rd x k)) ((band c l k).take i) ∧ noiseI (stepI (rd x k)) ((band c l k).take i) ≤ 562949953421312) := ⟨fun x hf k hk => by
      obtain ⟨h1, h2⟩ := noisR_is hf.1 hk
      refine ⟨?_, h2⟩
      rw [h1, ← band_len g1 g0 hk, List.take_length]⟩
    have D0 := Aside0.mk (fun (W : World) (hb : Below w.heap.size w W) (k : Nat) (hk : k < l.length) => el_at hr1 hb hk)
    have DC := Aside0.mk (fun (W : World) (hb : Below w.heap.size w W) (k : Nat) (hk : k < 128) => rd_at g1 (g1 ▸ hr0) hb hk)
    have HOF := Aside0.mk (fun k (hk : k < l.length) => off_next g0 hk)
    have q1 := Aside0.mk (scalesL_len c l m)
    have q2 := Aside0.mk (ampls_len c l (scalesL c l m) m)
    have q3 := Aside0.mk (coarL_len c l (scalesL c l m) (n.tmod 97))
    have q5 : Aside0 (∀ x, FitsL c l x → (valL (quantL c l x) l x).length = 128) := ⟨fun x hf => valL_len (quant_errs hf.1)⟩
    have hc0I : (128 : Int) ≤ (c0 : Int) := by omega
    have hc9I : (c0 : Int) ≤ 9223372036854775807 := by omega
    have hlI : (l.length : Int) ≤ 32 := by omega
    rw [g1] at HR C1 C2 C3
    rw [g2] at HR C1 C2
    rw [g1, g2]
    obtain ⟨s, hs⟩ : ∃ s, s = scalesL c l m := ⟨_, rfl⟩
    rw [← hs] at C1 C2 C3 fS fA fC q1 q2 q3
    obtain ⟨r, hr⟩ : ∃ r, r = n.tmod 97 := ⟨_, rfl⟩
    rw [← hr] at C3 fC q3
    obtain ⟨u, hu⟩ : ∃ u, u = ampls c l s m := ⟨_, rfl⟩
    rw [← hu] at C2 fA q2
    obtain ⟨v, hv⟩ : ∃ v, v = coarL c l s r := ⟨_, rfl⟩
    rw [← hv] at C3 fC q3
    rw [hr] at C3
    replace C1 := Aside0.mk C1
    replace C2 := Aside0.mk C2
    replace C3 := Aside0.mk C3
    replace HR := Aside0.mk HR
    replace fS := Aside0.mk fS
    replace fA := Aside0.mk fA
    replace fC := Aside0.mk fC
    clear hs hr hu hv ht s1 s2 g0 g1 g2 g3 g4 g5 he hrb hl32 hr0 hr1 hr2 hc0 hc9 hc1 hd9 hc2 he2 hn
    go_enter Try.func8, Try.ntmps8
    go_wp2_with fail
    obtain ⟨W, hW⟩ : ∃ W, W = w.alloc (.cells #[.slice (some a) 128 c0, .slice A1 l.length c1] 24) := ⟨_, rfl⟩
    rw [← hW]
    have k0 : W.cell? ⟨w.heap.size, 0, none⟩ = some (.slice (some a) 128 c0) := by rw [hW]; go_simp
    have k1 : W.cell? ⟨w.heap.size, 1, none⟩ = some (.slice A1 l.length c1) := by rw [hW]; go_simp
    replace hb : Below w.heap.size w W := by rw [hW]; exact hb.alloc hb.size _
    clear hW
    refine (HR.out W hb).mono ?_; rintro _ w1 ⟨rfl, hbn⟩; replace k0 := cnx k0 hbn; replace k1 := cnx k1 hbn; replace hb := bnx hb hbn; clear hbn
    go_wp2_with fail
    refine (C1.out _ hb).mono ?_; rintro _ w2 ⟨B1, p1, rfl, -, -, -, K1, hbn⟩; replace k0 := cnx k0 hbn; replace k1 := cnx k1 hbn; replace hb := bnx hb hbn; clear hbn
    replace K1 := Aside0.mk K1
    go_wp2_with fail
    refine (C2.out _ hb _ _ K1.out).mono ?_; rintro _ w3 ⟨B2, p2, rfl, -, -, -, K2, hbn⟩; replace k0 := cnx k0 hbn; replace k1 := cnx k1 hbn; replace hb := bnx hb hbn
    replace K1 := Aside0.mk (Kd.C_below K1.out hbn)
    replace K2 := Aside0.mk K2
    clear hbn
    go_wp2_with fail
    refine (C3.out _ hb _ _ K1.out).mono ?_; rintro _ w4 ⟨B3, p3, rfl, -, -, -, K3, hbn⟩; replace k0 := cnx k0 hbn; replace k1 := cnx k1 hbn; replace hb := bnx hb hbn
    replace K1 := Aside0.mk (Kd.C_below K1.out hbn)
    replace K2 := Aside0.mk (Kd.C_below K2.out hbn)
    replace K3 := Aside0.mk K3
    clear hbn HR C1 C2 C3
    go_wp2_with fail
    obtain ⟨A5, hA5⟩ : ∃ A5 : Addr, A5 = ⟨w4.heap.size, 0, none⟩ := ⟨_, rfl⟩
    obtain ⟨W5, hW⟩ : ∃ W, W = w4.alloc (.cells #[.slice B1 l.length p1, .slice B2 l.length p2, .slice B3 l.length p3] 22) := ⟨_, rfl⟩
    have hal : Below w4.heap.size w4 W5 := by rw [hW]; exact (Below.refl _ _).alloc (Nat.le_refl _) _
    have e0 : W5.cell? (A5.add 0) = some (.slice B1 l.length p1) := by rw [hW, hA5]; go_simp
    have e1 : W5.cell? (A5.add 1) = some (.slice B2 l.length p2) := by rw [hW, hA5]; go_simp
    have e2 : W5.cell? (A5.add 2) = some (.slice B3 l.length p3) := by rw [hW, hA5]; go_simp
    rw [← hA5, ← hW]
    have HXS : Aside0 (∀ i : Nat, i < 3 → ∃ (x : List Int) (B : Option Addr) (p : Nat), W5.cell? (A5.add i) = some (.slice B l.length p) ∧ (Kd.int .i64).C W5 B l.length x ∧ FitsL c l x ∧ x.length = l.length) := ⟨fun i hi => by
      match i, hi with
      | 0, _ => exact ⟨s, B1, p1, e0, Kd.C_below K1.out hal, fS.out, q1.out⟩
      | 1, _ => exact ⟨u, B2, p2, e1, Kd.C_below K2.out hal, fA.out, q2.out⟩
      | 2, _ => exact ⟨v, B3, p3, e2, Kd.C_below K3.out hal, fC.out, q3.out⟩⟩
    replace k0 := cnx k0 hal
    replace k1 := cnx k1 hal
    replace hb := bnx hb hal
    clear e0 e1 e2 hal hW hA5 K1 K2 K3 fS fA fC q1 q2 q3
    replace hb := Aside0.mk hb
    go_loopw [77] (fun i wr => ∃ k : Nat, i = .int .i64 k ∧ k ≤ 3 ∧ Aside0 (Below W5.heap.size W5 wr)) (fun i _ => 3 - (intOf i).toNat)
    case atStart => exact ⟨0, rfl, by omega, ⟨Below.refl _ _⟩⟩
    case round =>
      obtain ⟨k, rfl, hk, hbL⟩ := hrel
      by_cases hlt : k < 3
      · obtain ⟨x, B, p, hcx, hKx, hfx, hxl⟩ := HXS.out k hlt
        replace hcx := cnx hcx hbL.out
        replace hKx := Kd.C_below hKx hbL.out
        have j0 := cnx k0 hbL.out
        have j1 := cnx k1 hbL.out
        have hkI : (k : Int) < 3 := by omega
        have hbw := bnx hb.out hbL.out
        have hL := hbL.out
        replace hKx := Aside0.mk hKx
        replace hfx := Aside0.mk hfx
        replace hxl := Aside0.mk hxl
        go_wp2_with fail
        refine (Q1.out x hfx.out hxl.out _ hbw _ _ hKx.out).mono ?_; rintro _ w6 ⟨Aq, pq, rfl, hq1, hq2, Kq, hbn⟩; replace j0 := cnx j0 hbn; replace j1 := cnx j1 hbn
        replace hKx := Aside0.mk (Kd.C_below hKx.out hbn)
        replace hbw := bnx hbw hbn
        replace hL := bnx hL hbn
        replace Kq := Aside0.mk Kq
        replace hq1 := Aside0.mk hq1
        replace hq2 := Aside0.mk hq2
        clear hbn hcx
        go_wp2_with fail
        refine (Q2.out x hfx.out hxl.out _ hbw _ _ _ _ hq1.out hq2.out hKx.out Kq.out).mono ?_; rintro _ w7 ⟨Av, pv, rfl, Kv, hbn⟩; replace j0 := cnx j0 hbn; replace j1 := cnx j1 hbn
        replace hKx := Aside0.mk (Kd.C_below hKx.out hbn)
        replace hbw := bnx hbw hbn
        replace hL := bnx hL hbn
        replace Kv := Aside0.mk Kv
        clear hbn Kq hq1 hq2
        go_wp2_with fail
        refine (Q3.out x hfx.out hxl.out _ hbw _ _ hKx.out).mono ?_; rintro _ w8 ⟨An, pn, rfl, Kn, hbn⟩; replace j0 := cnx j0 hbn; replace j1 := cnx j1 hbn
        replace hKx := Aside0.mk (Kd.C_below hKx.out hbn)
        replace Kv := Aside0.mk (Kd.C_below Kv.out hbn)
        replace hbw := Aside0.mk (bnx hbw hbn)
        replace hL := Aside0.mk (bnx hL hbn)
        replace Kn := Aside0.mk Kn
        clear hbn
        have qv := Aside0.mk (q5.out x hfx.out)
        have qn : Aside0 ((noisL c l x).length = l.length) := ⟨noisL_len c l x⟩
        have DF1 := Aside0.mk (DF.out x hfx.out)
        have NF1 := Aside0.mk (NF.out x hfx.out)
        have FT := Aside0.mk (hfx.out.2)
        obtain ⟨vl, hvl⟩ : ∃ vl, vl = valL (quantL c l x) l x := ⟨_, rfl⟩
        rw [← hvl] at qv DF1 Kv
        obtain ⟨nl, hnl⟩ : ∃ nl, nl = noisL c l x := ⟨_, rfl⟩
        rw [← hnl] at qn NF1 Kn
        clear hvl hnl hbL
        go_wp2_with fail
        go_loopw [21, 139] (fun at_ i wr => ∃ j : Nat, i = .int .i64 j ∧ at_ = .int .i64 (off l j : Nat) ∧ j ≤ l.length ∧ Aside0 (Below w8.heap.size w8 wr)) (fun _ i _ => l.length - (intOf i).toNat)
        case atStart => exact ⟨0, rfl, by simp [off], by omega, ⟨Below.refl _ _⟩⟩
        case round =>
          obtain ⟨j, rfl, rfl, hj, hbQ⟩ := hrel
          by_cases hlj : j < l.length
          · obtain ⟨adw, rfl, hcw⟩ := D0.out wr (bnx hbw.out hbQ.out) j hlj
            obtain ⟨v1, v2, v3, v4⟩ := HOF.out j hlj
            rw [v4] at hcw
            have hCL := CL.out j hlj
            have DF2 := fun i hi => DF1.out j i hlj hi
            obtain ⟨NF2, NF3⟩ := NF1.out j hlj
            have FT2 := FT.out j hlj
            obtain ⟨Nf, hNf⟩ : ∃ f : Nat → Int, f = fun i => noiseI (stepI (rd x j)) ((band c l j).take i) := ⟨_, rfl⟩
            have HN0 : Nf 0 = 0 := by rw [hNf]; rfl
            have HN1 : rd nl j = Nf (wd l j) := by rw [hNf]; exact NF2
            have HNB : Aside0 (∀ i, i ≤ wd l j → 0 ≤ Nf i ∧ Nf i ≤ 562949953421312) := ⟨by rw [hNf]; exact NF3⟩
            have HDF : ∀ i, i < wd l j → Nf i + (rd c ((off l j + i : Nat) : Int) - rd vl ((off l j + i : Nat) : Int)) * (rd c ((off l j + i : Nat) : Int) - rd vl ((off l j + i : Nat) : Int)) = Nf (i + 1) ∧ (-2097152 ≤ rd c ((off l j + i : Nat) : Int) ∧ rd c ((off l j + i : Nat) : Int) ≤ 2097152) ∧ (-2097152 ≤ rd vl ((off l j + i : Nat) : Int) ∧ rd vl ((off l j + i : Nat) : Int) ≤ 2097152) := fun i hi => by
              obtain ⟨d1, d2, d3⟩ := DF2 i hi
              refine ⟨?_, d2, d3⟩
              rw [hNf]
              show noiseI (stepI (rd x j)) ((band c l j).take i) + _ = noiseI (stepI (rd x j)) ((band c l j).take (i + 1))
              rw [← d1, Int.add_comm]
            replace HDF := Aside0.mk HDF
            obtain ⟨lk, hlk⟩ : ∃ y, y = leastI (band c l j) := ⟨_, rfl⟩
            rw [← hlk] at hCL FT2
            obtain ⟨o, ho⟩ : ∃ o, o = off l j := ⟨_, rfl⟩
            rw [← ho] at hCL v1 v3 HDF ⊢
            obtain ⟨d, hd⟩ : ∃ d, d = wd l j := ⟨_, rfl⟩
            rw [← hd] at hCL v1 v2 v3 hcw HN1 HNB HDF
            have i1 : (o : Int) + (d : Int) ≤ 128 := by omega
            have i2 : (1 : Int) ≤ (d : Int) := by omega
            have hjI : (j : Int) < (l.length : Int) := by omega
            have v1' := Aside0.mk v1
            replace hCL := Aside0.mk hCL
            have HN0' := Aside0.mk HN0
            have HN1' := Aside0.mk HN1
            have j0q := cnx j0 hbQ.out
            clear hNf hlk ho hd v1 v2 v3 v4 DF2 NF2 NF3 HN0 HN1
            go_wp2_with fail
            go_loopw [24, 25] (fun sm pp wr => ∃ P : Nat, pp = .int .i64 P ∧ o ≤ P ∧ P ≤ o + d ∧ sm = .int .i64 (Nf (P - o)) ∧ Aside0 (Below w8.heap.size w8 wr)) (fun _ pp _ => (o + d) - (intOf pp).toNat)
            case atStart => exact ⟨o, rfl, by omega, by omega, by rw [Nat.sub_self, HN0'.out], hbQ⟩
            case round =>
              obtain ⟨P, rfl, hP0, hP1, rfl, hbP⟩ := hrel
              by_cases hlp : P < o + d
              · obtain ⟨adc, hadc, hcc⟩ := DC.out wr (bnx hbw.out hbP.out) P (by omega)
                cases hadc
                obtain ⟨adv, rfl, hcv⟩ := rd_at qv.out Kv.out hbP.out (show P < 128 by omega)
                obtain ⟨d1, d2, d3⟩ := HDF.out (P - o) (by omega)
                rw [show o + (P - o) = P by omega] at d1 d2 d3
                have b1 := HNB.out (P - o) (by omega)
                have b2 := HNB.out (P - o + 1) (by omega)
                have j0p := cnx j0 hbP.out
                have hPI : (P : Int) < (o : Int) + (d : Int) := by omega
                have hP128 : (P : Int) < 128 := by omega
                have hP1' : P - o + 1 = P + 1 - o := by omega
                rw [hP1'] at d1 b2
                obtain ⟨cc, hcc'⟩ : ∃ y, y = rd c P := ⟨_, rfl⟩
                rw [← hcc'] at hcc d1 d2
                obtain ⟨vv, hvv⟩ : ∃ y, y = rd vl P := ⟨_, rfl⟩
                rw [← hvv] at hcv d1 d3
                obtain ⟨S0, hS0⟩ : ∃ y, y = Nf (P - o) := ⟨_, rfl⟩
                rw [← hS0] at d1 b1 ⊢
                obtain ⟨S1, hS1⟩ : ∃ y, y = Nf (P + 1 - o) := ⟨_, rfl⟩
                rw [← hS1] at d1 b2
                have hS1' := Aside0.mk hS1
                have hsub : IntKind.i64.wrap (cc - vv) = cc - vv := IntWalk.i64_in _ (by omega)
                have hs0 := sq0 (cc - vv)
                have hsq : 0 ≤ (cc - vv) * (cc - vv) ∧ (cc - vv) * (cc - vv) ≤ 562949953421312 := by omega
                have hdd : -4194304 ≤ cc - vv ∧ cc - vv ≤ 4194304 := by omega
                have d1' := Aside0.mk d1
                clear hcc' hvv hS0 hS1 d1 d2 d3 hP1' hs0
                go_wp2_with fail
                go_quiet (fail)
                clear hsub
                go_wp2_with fail
                go_roundw
                case rel => exact ⟨P + 1, by go_num, by omega, by omega, by rw [← hS1'.out, d1'.out], ⟨below_drewN' hbP.out nq⟩⟩
                case measure => simp [intOf]; omega
              · obtain rfl : P = o + d := by omega
                have hbp := bnx hbw.out hbP.out
                have j0p := cnx j0 hbP.out
                obtain ⟨adn, rfl, hcn⟩ := rd_at qn.out Kn.out hbP.out hlj
                obtain ⟨adx, rfl, hcx⟩ := rd_at hxl.out hKx.out hbP.out hlj
                rw [HN1'.out] at hcn
                rw [show o + d - o = d by omega]
                obtain ⟨S0, hS0⟩ : ∃ y, y = Nf d := ⟨_, rfl⟩
                rw [← hS0] at hcn ⊢
                obtain ⟨xk, hxk⟩ : ∃ y, y = rd x j := ⟨_, rfl⟩
                rw [← hxk] at hcx FT2
                have hf2 : decide (xk < lk) = false := by simp; omega
                clear hS0 hxk FT2 hP0 hP1 hlp hbQ j0q
                go_wp2_with fail
                refine (hCL.out _ hbp _).mono ?_; rintro _ w9 ⟨rfl, hbn⟩; replace hcn := cnx hcn hbn; replace hcx := cnx hcx hbn
                replace hbP := Aside0.mk (bnx hbP.out hbn)
                clear hbn hbp j0p
                go_wp2_with fail
                go_roundw
                case rel => exact ⟨j + 1, by go_num, by rw [v1'.out]; simp, by omega, hbP⟩
                case measure => simp [intOf]; omega
          · obtain rfl : j = l.length := by omega
            replace hL := Aside0.mk (bnx hL.out hbQ.out)
            obtain ⟨oa, hoa⟩ : ∃ oa, oa = off l l.length := ⟨_, rfl⟩
            rw [← hoa]
            clear hoa hbQ hbw Kv Kn hKx j0 j1
            go_wp2_with fail
            go_roundw
            case rel => exact ⟨k + 1, by go_num, by omega, hL⟩
            case measure => simp [intOf]; omega
      · obtain rfl : k = 3 := by omega
        have hb9 := bnx hb.out hbL.out
        clear hbL
        go_wp2_with fail
        refine (awake_calls _).mono ?_; rintro _ wA ⟨rfl, hbn⟩
        have hbA := bnx hb9 hbn
        clear hbn hb9
        go_wp2_with fail
        go_ret
        exact ⟨rfl, hbA⟩

end Go.Proofs.Ytljadjoljhanfaa.Q16
