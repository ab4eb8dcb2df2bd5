/- The laws ShapeScales, ShapeQuantizes, ShapeOvers, ShapeCoarsens. -/
import Derived.Test.YtljadjoljhanfaaMj
import Derived.WalkKit
import Derived.WalkSpells
import Derived.WalkLawsBesides
import Derived.KernelRfl
import Derived.Deep.RegionHeld3
import Derived.Deep.LoopGhost
import Derived.Deep.AppendLies
import Derived.Laws.Rows
import Derived.Shelf.GgClosure.Gives
import Derived.Test.YtljadjoljhanfaaWWords
import Derived.Test.YtljadjoljhanfaaWLast
import Derived.Test.YtljadjoljhanfaaWMore
set_option linter.unusedVariables false
set_option linter.unusedSimpArgs false
namespace Go.Proofs.Ytljadjoljhanfaa.Q16
open Go.RowKit Go.Proofs.YtljadjoljhanfaaW.PrintWords Go.Proofs.YtljadjoljhanfaaW.PrintLast Go.Proofs.YtljadjoljhanfaaW.PrintMore
attribute [local go_sem] max2_int min2_int max_two min_two max_three min_three
open Go.Proofs.Ytljadjoljhanfaa.Q15

theorem ifl_len {E : Int} {L : List Int} {n : Nat} (h : E = 0 → L.length ≤ n) : (ifl E L).length ≤ n := by
  unfold ifl
  split
  · exact h (by assumption)
  · simp
theorem flat_len {l : List Int} (hl : isW l = true) {f : Nat → List Int} (hf : ∀ k, k < l.length → (f k).length = wd l k) : ∀ n, n ≤ l.length → (((List.range n).map f).flatten).length = off l n
  | 0, _ => by simp [off]
  | n + 1, hn => by
    have h1 := flat_len hl hf n (by omega)
    have h2 := hf n (by omega)
    have h3 := off_next hl (k := n) (by omega)
    rw [List.range_succ, List.map_append, List.flatten_append, List.length_append, h1]
    simp [h2]
    omega
theorem off_all {l : List Int} (hl : isW l = true) : off l l.length = 128 := by
  unfold off
  rw [List.take_length, (isW_iff.1 hl).2.1]
  rfl
theorem quantL_len {c l s : List Int} (he : errS (-2097152) 2097152 0 95 c l s = 0) : (quantL c l s).length = 128 := by
  obtain ⟨g0, g1, g2, g3, g4, g5⟩ := errS_zero he
  unfold quantL
  rw [flat_len g0 _ _ (Nat.le_refl _), off_all g0]
  intro k hk
  unfold quanta
  rw [if_pos (chk_band g3 g0 g1 hk (rng_mem g4 (rd_mem s k (by omega)))), List.length_map, band_len g1 g0 hk]
theorem valL_len {c l s : List Int} (he : errS (-1023) 1023 0 95 c l s = 0) : (valL c l s).length = 128 := by
  obtain ⟨g0, g1, g2, g3, g4, g5⟩ := errS_zero he
  unfold valL
  rw [flat_len g0 _ _ (Nat.le_refl _), off_all g0]
  intro k hk
  unfold valuesL
  rw [if_pos (chk_bandQ g3 g0 g1 hk (rng_mem g4 (rd_mem s k (by omega)))), List.length_map, band_len g1 g0 hk]
theorem ints_same {L : List Int} (h : L.length ≤ 1000) : ∀ (A0 A1 : Option Addr) (p0 p1 : Nat) (W : World), (Kd.int .i64).C W A0 L.length L → (Kd.int .i64).C W A1 L.length L → Calls Try.prog 13 #[.slice A0 L.length p0, .slice A1 L.length p1] W fun e w' => e = .returned (.bool true) ∧ Below W.heap.size W w' :=
  fun A0 A1 p0 p1 W h0 h1 => ints_eq A0 A1 p0 p1 L L W h0 h1 (by omega) rfl

set_option maxRecDepth 100000 in
set_option maxHeartbeats 4000000 in
theorem ShapeScales_row {w : World} (A0 : Option Addr) (c0 : Nat) (c : List Int) (hr0 : (Kd.int .i64).C w A0 c.length c) (hc0 : c.length ≤ c0) (hc9 : c0 ≤ 9223372036854775807) (A1 : Option Addr) (c1 : Nat) (l : List Int) (hr1 : (Kd.int .i64).C w A1 l.length l) (hc1 : l.length ≤ c1) (hd9 : c1 ≤ 9223372036854775807) (A2 : Option Addr) (c2 : Nat) (s : List Int) (hr2 : (Kd.int .i64).C w A2 s.length s) (hc2 : s.length ≤ c2) (he2 : c2 ≤ 9223372036854775807) :
    Calls Try.prog 3 #[.agg #[.slice A0 c.length c0, .slice A1 l.length c1], .slice A2 s.length c2] w fun e w' => e = .returned (.bool true) ∧ Below w.heap.size w w' := by
  have hb := Below.refl w.heap.size w
  have HFew := fun (W : World) (B : Nat) h => few_calls A0 A1 c.length l.length c0 c1 1 B [s.length] W h (by simp)
  by_cases hf : (∀ n ∈ [s.length], n ≤ 200) ∧ c.length ≤ 300 ∧ l.length ≤ 200
  · rw [decide_eq_true hf] at HFew
    simp at hf
    replace HFew := Aside0.mk HFew
    have C1 := fun (W : World) (hb : Below w.heap.size w W) => Scales_out A0 A1 A2 c0 c1 c2 c l s W (Kd.C_below hr0 hb) (Kd.C_below hr1 hb) (Kd.C_below hr2 hb) hc0 hc9 (by omega) (by omega) (by omega)
    have C2 := fun (W : World) (hb : Below w.heap.size w W) => rScales_out A0 A1 A2 c0 c1 c2 c l s W (Kd.C_below hr0 hb) (Kd.C_below hr1 hb) (Kd.C_below hr2 hb) hc0 hc9 (by omega) (by omega) (by omega)
    have CI := ints_same (L := ifl (errS (-2097152) 2097152 0 72057594037927936 c l s) (scalesL c l s)) (ifl_len fun _ => by unfold scalesL; rw [List.length_map, List.length_range]; omega)
    obtain ⟨E, hE⟩ : ∃ E, E = errS (-2097152) 2097152 0 72057594037927936 c l s := ⟨_, rfl⟩
    rw [← hE] at C1 C2 CI
    obtain ⟨L, hL⟩ : ∃ L, L = ifl E (scalesL c l s) := ⟨_, rfl⟩
    rw [← hL] at C1 C2 CI
    replace C1 := Aside0.mk C1
    replace C2 := Aside0.mk C2
    replace CI := Aside0.mk CI
    clear hE hL hf hr0 hr1 hr2 hc0 hc9 hc1 hd9 hc2 he2
    go_enter Try.func3, Try.ntmps3
    go_wp2_with fail
    obtain ⟨W, hW⟩ : ∃ W, W = (w.alloc (.cells #[.slice A0 c.length c0, .slice A1 l.length c1] 24)).alloc (.cells #[.slice A2 s.length c2] 22) := ⟨_, rfl⟩
    rw [← hW]
    have k0 : W.cell? ⟨w.heap.size, 0, none⟩ = some (.slice A0 c.length c0) := by rw [hW]; go_simp
    have k1 : W.cell? ⟨w.heap.size, 1, none⟩ = some (.slice A1 l.length c1) := by rw [hW]; go_simp
    have m0 : W.cell? ⟨w.heap.size + 1, 0, none⟩ = some (.slice A2 s.length c2) := by rw [hW]; go_simp
    replace hb : Below w.heap.size w W := by rw [hW]; exact (hb.alloc hb.size _).alloc (hb.alloc hb.size _).size _
    clear hW
    refine (HFew.out W _ (lens_one m0)).mono ?_; rintro _ w1 ⟨rfl, hbn⟩; replace k0 := cnx k0 hbn; replace k1 := cnx k1 hbn; replace hb := bnx hb hbn; clear hbn m0
    go_wp2_with fail
    refine (C1.out _ hb).mono ?_; rintro _ w2 ⟨B1, p1, rfl, -, -, -, K1, hbn⟩; replace k0 := cnx k0 hbn; replace k1 := cnx k1 hbn
    replace hb := bnx hb hbn; clear hbn
    replace K1 := Aside0.mk K1
    go_wp2_with fail
    refine (C2.out _ hb).mono ?_; rintro _ w3 ⟨B2, p2, rfl, -, -, -, K2, hbn⟩; replace k0 := cnx k0 hbn; replace k1 := cnx k1 hbn
    replace K1 := Aside0.mk (Kd.C_below K1.out hbn)
    replace hb := bnx hb hbn; clear hbn
    replace K2 := Aside0.mk K2
    go_wp2_with fail
    refine (CI.out _ _ _ _ _ K1.out K2.out).mono ?_; rintro _ w4 ⟨rfl, hbn⟩
    replace K1 := Aside0.mk (Kd.C_below K1.out hbn)
    replace K2 := Aside0.mk (Kd.C_below K2.out hbn)
    replace hb := bnx hb hbn; clear hbn
    go_wp2_with fail
    clear K1 K2
    refine (awake_calls _).mono ?_; rintro _ wA ⟨rfl, hbn⟩; replace hb := bnx hb hbn; clear hbn
    go_wp2_with fail
    go_ret
    exact ⟨rfl, hb⟩
  · rw [decide_eq_false hf] at HFew
    replace HFew := Aside0.mk HFew
    clear hf hr0 hr1 hc0 hc9 hc1 hd9 hr2 hc2 he2
    go_enter Try.func3, Try.ntmps3
    go_wp2_with fail
    obtain ⟨W, hW⟩ : ∃ W, W = (w.alloc (.cells #[.slice A0 c.length c0, .slice A1 l.length c1] 24)).alloc (.cells #[.slice A2 s.length c2] 22) := ⟨_, rfl⟩
    rw [← hW]
    have k0 : W.cell? ⟨w.heap.size, 0, none⟩ = some (.slice A0 c.length c0) := by rw [hW]; go_simp
    have k1 : W.cell? ⟨w.heap.size, 1, none⟩ = some (.slice A1 l.length c1) := by rw [hW]; go_simp
    have m0 : W.cell? ⟨w.heap.size + 1, 0, none⟩ = some (.slice A2 s.length c2) := by rw [hW]; go_simp
    replace hb : Below w.heap.size w W := by rw [hW]; exact (hb.alloc hb.size _).alloc (hb.alloc hb.size _).size _
    clear hW
    refine (HFew.out W _ (lens_one m0)).mono ?_; rintro _ w1 ⟨rfl, hbn⟩; replace k0 := cnx k0 hbn; replace k1 := cnx k1 hbn; replace hb := bnx hb hbn; clear hbn m0
    go_wp2_with fail
    refine (awake_calls _).mono ?_; rintro _ wA ⟨rfl, hbn⟩; replace hb := bnx hb hbn; clear hbn
    go_wp2_with fail
    go_ret
    exact ⟨rfl, hb⟩

set_option maxRecDepth 100000 in
set_option maxHeartbeats 4000000 in
theorem ShapeQuantizes_row {w : World} (A0 : Option Addr) (c0 : Nat) (c : List Int) (hr0 : (Kd.int .i64).C w A0 c.length c) (hc0 : c.length ≤ c0) (hc9 : c0 ≤ 9223372036854775807) (A1 : Option Addr) (c1 : Nat) (l : List Int) (hr1 : (Kd.int .i64).C w A1 l.length l) (hc1 : l.length ≤ c1) (hd9 : c1 ≤ 9223372036854775807) (A2 : Option Addr) (c2 : Nat) (q : List Int) (hr2 : (Kd.int .i64).C w A2 q.length q) (hc2 : q.length ≤ c2) (he2 : c2 ≤ 9223372036854775807) (A3 : Option Addr) (c3 : Nat) (s : List Int) (hr3 : (Kd.int .i64).C w A3 s.length s) (hc3 : s.length ≤ c3) (he3 : c3 ≤ 9223372036854775807) :
    Calls Try.prog 4 #[.agg #[.slice A0 c.length c0, .slice A1 l.length c1], .slice A2 q.length c2, .slice A3 s.length c3] w fun e w' => e = .returned (.bool true) ∧ Below w.heap.size w w' := by
  have hb := Below.refl w.heap.size w
  have HFew := fun (W : World) (B : Nat) h => few_calls A0 A1 c.length l.length c0 c1 1 B [s.length] W h (by simp)
  by_cases hf : (∀ n ∈ [s.length], n ≤ 200) ∧ c.length ≤ 300 ∧ l.length ≤ 200
  · rw [decide_eq_true hf] at HFew
    simp at hf
    replace HFew := Aside0.mk HFew
    by_cases hq : 300 < q.length
    · have hq' : (300 : Int) < (q.length : Int) := by omega
      clear hf hr0 hr1 hr2 hr3 hc0 hc9 hc1 hd9 hc2 he2 hc3 he3 hq
      go_enter Try.func4, Try.ntmps4
      go_wp2_with fail
      obtain ⟨W, hW⟩ : ∃ W, W = (w.alloc (.cells #[.slice A0 c.length c0, .slice A1 l.length c1] 24)).alloc (.cells #[.slice A3 s.length c3] 22) := ⟨_, rfl⟩
      rw [← hW]
      have k0 : W.cell? ⟨w.heap.size, 0, none⟩ = some (.slice A0 c.length c0) := by rw [hW]; go_simp
      have k1 : W.cell? ⟨w.heap.size, 1, none⟩ = some (.slice A1 l.length c1) := by rw [hW]; go_simp
      have m0 : W.cell? ⟨w.heap.size + 1, 0, none⟩ = some (.slice A3 s.length c3) := by rw [hW]; go_simp
      replace hb : Below w.heap.size w W := by rw [hW]; exact (hb.alloc hb.size _).alloc (hb.alloc hb.size _).size _
      clear hW
      refine (HFew.out W _ (lens_one m0)).mono ?_; rintro _ w1 ⟨rfl, hbn⟩; replace k0 := cnx k0 hbn; replace k1 := cnx k1 hbn; replace hb := bnx hb hbn; clear hbn m0
      go_wp2_with fail
      refine (awake_calls _).mono ?_; rintro _ wA ⟨rfl, hbn⟩; replace hb := bnx hb hbn; clear hbn
      go_wp2_with fail
      go_ret
      exact ⟨rfl, hb⟩
    · have hq' : decide ((300 : Int) < (q.length : Int)) = false := by simp; omega
      have C1 := fun (W : World) (hb : Below w.heap.size w W) => Quantize_out A0 A1 A3 c0 c1 c3 c l s W (Kd.C_below hr0 hb) (Kd.C_below hr1 hb) (Kd.C_below hr3 hb) hc0 hc9 (by omega) (by omega) (by omega)
      have C2 := fun (W : World) (hb : Below w.heap.size w W) => rQuantize_out A0 A1 A3 c0 c1 c3 c l s W (Kd.C_below hr0 hb) (Kd.C_below hr1 hb) (Kd.C_below hr3 hb) hc0 hc9 (by omega) (by omega) (by omega)
      have C3 := fun (W : World) (hb : Below w.heap.size w W) => Values_out A2 A1 A3 c2 c1 c3 q l s W (Kd.C_below hr2 hb) (Kd.C_below hr1 hb) (Kd.C_below hr3 hb) hc2 he2 (by omega) (by omega) (by omega)
      have C4 := fun (W : World) (hb : Below w.heap.size w W) => rValues_out A2 A1 A3 c2 c1 c3 q l s W (Kd.C_below hr2 hb) (Kd.C_below hr1 hb) (Kd.C_below hr3 hb) hc2 he2 (by omega) (by omega) (by omega)
      have C5 := fun (W : World) (hb : Below w.heap.size w W) => Noises_out A0 A1 A3 c0 c1 c3 c l s W (Kd.C_below hr0 hb) (Kd.C_below hr1 hb) (Kd.C_below hr3 hb) hc0 hc9 (by omega) (by omega) (by omega)
      have C6 := fun (W : World) (hb : Below w.heap.size w W) => rNoises_out A0 A1 A3 c0 c1 c3 c l s W (Kd.C_below hr0 hb) (Kd.C_below hr1 hb) (Kd.C_below hr3 hb) hc0 hc9 (by omega) (by omega) (by omega)
      have I1 := ints_same (L := ifl (errS (-2097152) 2097152 0 95 c l s) (quantL c l s)) (ifl_len fun h => by rw [quantL_len h]; omega)
      have I2 := ints_same (L := ifl (errS (-1023) 1023 0 95 q l s) (valL q l s)) (ifl_len fun h => by rw [valL_len h]; omega)
      have I3 := ints_same (L := ifl (errS (-2097152) 2097152 0 95 c l s) (noisL c l s)) (ifl_len fun _ => by unfold noisL; rw [List.length_map, List.length_range]; omega)
      obtain ⟨E, hE⟩ : ∃ E, E = errS (-2097152) 2097152 0 95 c l s := ⟨_, rfl⟩
      rw [← hE] at C1 C2 C5 C6 I1 I3
      obtain ⟨F, hF⟩ : ∃ E, E = errS (-1023) 1023 0 95 q l s := ⟨_, rfl⟩
      rw [← hF] at C3 C4 I2
      obtain ⟨L1, hL1⟩ : ∃ L, L = ifl E (quantL c l s) := ⟨_, rfl⟩
      obtain ⟨L2, hL2⟩ : ∃ L, L = ifl F (valL q l s) := ⟨_, rfl⟩
      obtain ⟨L3, hL3⟩ : ∃ L, L = ifl E (noisL c l s) := ⟨_, rfl⟩
      rw [← hL1] at C1 C2 I1
      rw [← hL2] at C3 C4 I2
      rw [← hL3] at C5 C6 I3
      replace C1 := Aside0.mk C1
      replace C2 := Aside0.mk C2
      replace C3 := Aside0.mk C3
      replace C4 := Aside0.mk C4
      replace C5 := Aside0.mk C5
      replace C6 := Aside0.mk C6
      replace I1 := Aside0.mk I1
      replace I2 := Aside0.mk I2
      replace I3 := Aside0.mk I3
      clear hE hF hL1 hL2 hL3 hf hr0 hr1 hr2 hr3 hc0 hc9 hc1 hd9 hc2 he2 hc3 he3 hq
      go_enter Try.func4, Try.ntmps4
      go_wp2_with fail
      obtain ⟨W, hW⟩ : ∃ W, W = (w.alloc (.cells #[.slice A0 c.length c0, .slice A1 l.length c1] 24)).alloc (.cells #[.slice A3 s.length c3] 22) := ⟨_, rfl⟩
      rw [← hW]
      have k0 : W.cell? ⟨w.heap.size, 0, none⟩ = some (.slice A0 c.length c0) := by rw [hW]; go_simp
      have k1 : W.cell? ⟨w.heap.size, 1, none⟩ = some (.slice A1 l.length c1) := by rw [hW]; go_simp
      have m0 : W.cell? ⟨w.heap.size + 1, 0, none⟩ = some (.slice A3 s.length c3) := by rw [hW]; go_simp
      replace hb : Below w.heap.size w W := by rw [hW]; exact (hb.alloc hb.size _).alloc (hb.alloc hb.size _).size _
      clear hW
      refine (HFew.out W _ (lens_one m0)).mono ?_; rintro _ w1 ⟨rfl, hbn⟩; replace k0 := cnx k0 hbn; replace k1 := cnx k1 hbn; replace hb := bnx hb hbn; clear hbn m0
      go_wp2_with fail
      refine (C1.out _ hb).mono ?_; rintro _ w2 ⟨B1, p1, rfl, -, -, -, K1, hbn⟩; replace k0 := cnx k0 hbn; replace k1 := cnx k1 hbn
      replace hb := bnx hb hbn; clear hbn
      replace K1 := Aside0.mk K1
      go_wp2_with fail
      refine (C2.out _ hb).mono ?_; rintro _ w3 ⟨B2, p2, rfl, -, -, -, K2, hbn⟩; replace k0 := cnx k0 hbn; replace k1 := cnx k1 hbn
      replace K1 := Aside0.mk (Kd.C_below K1.out hbn)
      replace hb := bnx hb hbn; clear hbn
      replace K2 := Aside0.mk K2
      go_wp2_with fail
      refine (C3.out _ hb).mono ?_; rintro _ w4 ⟨B3, p3, rfl, -, -, -, K3, hbn⟩; replace k0 := cnx k0 hbn; replace k1 := cnx k1 hbn
      replace K1 := Aside0.mk (Kd.C_below K1.out hbn)
      replace K2 := Aside0.mk (Kd.C_below K2.out hbn)
      replace hb := bnx hb hbn; clear hbn
      replace K3 := Aside0.mk K3
      go_wp2_with fail
      refine (C4.out _ hb).mono ?_; rintro _ w5 ⟨B4, p4, rfl, -, -, -, K4, hbn⟩; replace k0 := cnx k0 hbn; replace k1 := cnx k1 hbn
      replace K1 := Aside0.mk (Kd.C_below K1.out hbn)
      replace K2 := Aside0.mk (Kd.C_below K2.out hbn)
      replace K3 := Aside0.mk (Kd.C_below K3.out hbn)
      replace hb := bnx hb hbn; clear hbn
      replace K4 := Aside0.mk K4
      go_wp2_with fail
      refine (C5.out _ hb).mono ?_; rintro _ w6 ⟨B5, p5, rfl, -, -, -, K5, hbn⟩; replace k0 := cnx k0 hbn; replace k1 := cnx k1 hbn
      replace K1 := Aside0.mk (Kd.C_below K1.out hbn)
      replace K2 := Aside0.mk (Kd.C_below K2.out hbn)
      replace K3 := Aside0.mk (Kd.C_below K3.out hbn)
      replace K4 := Aside0.mk (Kd.C_below K4.out hbn)
      replace hb := bnx hb hbn; clear hbn
      replace K5 := Aside0.mk K5
      go_wp2_with fail
      refine (C6.out _ hb).mono ?_; rintro _ w7 ⟨B6, p6, rfl, -, -, -, K6, hbn⟩; replace k0 := cnx k0 hbn; replace k1 := cnx k1 hbn
      replace K1 := Aside0.mk (Kd.C_below K1.out hbn)
      replace K2 := Aside0.mk (Kd.C_below K2.out hbn)
      replace K3 := Aside0.mk (Kd.C_below K3.out hbn)
      replace K4 := Aside0.mk (Kd.C_below K4.out hbn)
      replace K5 := Aside0.mk (Kd.C_below K5.out hbn)
      replace hb := bnx hb hbn; clear hbn
      replace K6 := Aside0.mk K6
      go_wp2_with fail
      refine (I1.out _ _ _ _ _ K1.out K2.out).mono ?_; rintro _ w8 ⟨rfl, hbn⟩
      replace K1 := Aside0.mk (Kd.C_below K1.out hbn)
      replace K2 := Aside0.mk (Kd.C_below K2.out hbn)
      replace K3 := Aside0.mk (Kd.C_below K3.out hbn)
      replace K4 := Aside0.mk (Kd.C_below K4.out hbn)
      replace K5 := Aside0.mk (Kd.C_below K5.out hbn)
      replace K6 := Aside0.mk (Kd.C_below K6.out hbn)
      replace hb := bnx hb hbn; clear hbn
      go_wp2_with fail
      clear K1 K2
      refine (I2.out _ _ _ _ _ K3.out K4.out).mono ?_; rintro _ w9 ⟨rfl, hbn⟩
      replace K3 := Aside0.mk (Kd.C_below K3.out hbn)
      replace K4 := Aside0.mk (Kd.C_below K4.out hbn)
      replace K5 := Aside0.mk (Kd.C_below K5.out hbn)
      replace K6 := Aside0.mk (Kd.C_below K6.out hbn)
      replace hb := bnx hb hbn; clear hbn
      go_wp2_with fail
      clear K3 K4
      refine (I3.out _ _ _ _ _ K5.out K6.out).mono ?_; rintro _ w10 ⟨rfl, hbn⟩
      replace K5 := Aside0.mk (Kd.C_below K5.out hbn)
      replace K6 := Aside0.mk (Kd.C_below K6.out hbn)
      replace hb := bnx hb hbn; clear hbn
      go_wp2_with fail
      clear K5 K6
      refine (awake_calls _).mono ?_; rintro _ wA ⟨rfl, hbn⟩; replace hb := bnx hb hbn; clear hbn
      go_wp2_with fail
      go_ret
      exact ⟨rfl, hb⟩
  · rw [decide_eq_false hf] at HFew
    replace HFew := Aside0.mk HFew
    clear hf hr0 hr1 hc0 hc9 hc1 hd9 hr2 hc2 he2 hr3 hc3 he3
    go_enter Try.func4, Try.ntmps4
    go_wp2_with fail
    obtain ⟨W, hW⟩ : ∃ W, W = (w.alloc (.cells #[.slice A0 c.length c0, .slice A1 l.length c1] 24)).alloc (.cells #[.slice A3 s.length c3] 22) := ⟨_, rfl⟩
    rw [← hW]
    have k0 : W.cell? ⟨w.heap.size, 0, none⟩ = some (.slice A0 c.length c0) := by rw [hW]; go_simp
    have k1 : W.cell? ⟨w.heap.size, 1, none⟩ = some (.slice A1 l.length c1) := by rw [hW]; go_simp
    have m0 : W.cell? ⟨w.heap.size + 1, 0, none⟩ = some (.slice A3 s.length c3) := by rw [hW]; go_simp
    replace hb : Below w.heap.size w W := by rw [hW]; exact (hb.alloc hb.size _).alloc (hb.alloc hb.size _).size _
    clear hW
    refine (HFew.out W _ (lens_one m0)).mono ?_; rintro _ w1 ⟨rfl, hbn⟩; replace k0 := cnx k0 hbn; replace k1 := cnx k1 hbn; replace hb := bnx hb hbn; clear hbn m0
    go_wp2_with fail
    refine (awake_calls _).mono ?_; rintro _ wA ⟨rfl, hbn⟩; replace hb := bnx hb hbn; clear hbn
    go_wp2_with fail
    go_ret
    exact ⟨rfl, hb⟩

set_option maxRecDepth 100000 in
set_option maxHeartbeats 4000000 in
theorem ShapeOvers_row {w : World} (A0 : Option Addr) (c0 : Nat) (c : List Int) (hr0 : (Kd.int .i64).C w A0 c.length c) (hc0 : c.length ≤ c0) (hc9 : c0 ≤ 9223372036854775807) (A1 : Option Addr) (c1 : Nat) (l : List Int) (hr1 : (Kd.int .i64).C w A1 l.length l) (hc1 : l.length ≤ c1) (hd9 : c1 ≤ 9223372036854775807) (A2 : Option Addr) (c2 : Nat) (s : List Int) (hr2 : (Kd.int .i64).C w A2 s.length s) (hc2 : s.length ≤ c2) (he2 : c2 ≤ 9223372036854775807) (A3 : Option Addr) (c3 : Nat) (m : List Int) (hr3 : (Kd.int .i64).C w A3 m.length m) (hc3 : m.length ≤ c3) (he3 : c3 ≤ 9223372036854775807) :
    Calls Try.prog 5 #[.agg #[.slice A0 c.length c0, .slice A1 l.length c1], .slice A2 s.length c2, .slice A3 m.length c3] w fun e w' => e = .returned (.bool true) ∧ Below w.heap.size w w' := by
  have hb := Below.refl w.heap.size w
  have HFew := fun (W : World) (B : Nat) h => few_calls A0 A1 c.length l.length c0 c1 2 B [s.length, m.length] W h (by simp)
  by_cases hf : (∀ n ∈ [s.length, m.length], n ≤ 200) ∧ c.length ≤ 300 ∧ l.length ≤ 200
  · rw [decide_eq_true hf] at HFew
    simp at hf
    replace HFew := Aside0.mk HFew
    have C1 := fun (W : World) (hb : Below w.heap.size w W) => Over_calls A0 A1 A2 A3 c0 c1 c2 c3 c l s m W (Kd.C_below hr0 hb) (Kd.C_below hr1 hb) (Kd.C_below hr2 hb) (Kd.C_below hr3 hb) (by omega) (by omega) (by omega) (by omega) hc0 hc9
    have C2 := fun (W : World) (hb : Below w.heap.size w W) => rOver_calls A0 A1 A2 A3 c0 c1 c2 c3 c l s m W (Kd.C_below hr0 hb) (Kd.C_below hr1 hb) (Kd.C_below hr2 hb) (Kd.C_below hr3 hb) (by omega) (by omega) (by omega) (by omega) hc0 hc9
    have C3 := fun (W : World) (hb : Below w.heap.size w W) => Worst_calls A0 A1 A2 A3 c0 c1 c2 c3 c l s m W (Kd.C_below hr0 hb) (Kd.C_below hr1 hb) (Kd.C_below hr2 hb) (Kd.C_below hr3 hb) (by omega) (by omega) (by omega) (by omega) hc0 hc9
    have C4 := fun (W : World) (hb : Below w.heap.size w W) => rWorst_calls A0 A1 A2 A3 c0 c1 c2 c3 c l s m W (Kd.C_below hr0 hb) (Kd.C_below hr1 hb) (Kd.C_below hr2 hb) (Kd.C_below hr3 hb) (by omega) (by omega) (by omega) (by omega) hc0 hc9
    have C5 := fun (W : World) (hb : Below w.heap.size w W) => Amplify_out A0 A1 A2 A3 c0 c1 c2 c3 c l s m W (Kd.C_below hr0 hb) (Kd.C_below hr1 hb) (Kd.C_below hr2 hb) (Kd.C_below hr3 hb) hc0 hc9 (by omega) (by omega) (by omega) (by omega)
    have C6 := fun (W : World) (hb : Below w.heap.size w W) => rAmplify_out A0 A1 A2 A3 c0 c1 c2 c3 c l s m W (Kd.C_below hr0 hb) (Kd.C_below hr1 hb) (Kd.C_below hr2 hb) (Kd.C_below hr3 hb) hc0 hc9 (by omega) (by omega) (by omega) (by omega)
    have I3 := ints_same (L := ifl (errX c l s m) (ampls c l s m)) (ifl_len fun _ => by unfold ampls; rw [List.length_map, List.length_range]; omega)
    obtain ⟨E, hE⟩ : ∃ E, E = errX c l s m := ⟨_, rfl⟩
    rw [← hE] at C1 C2 C3 C4 C5 C6 I3
    obtain ⟨v1, hv1⟩ : ∃ v, v = overR c l s m := ⟨_, rfl⟩
    obtain ⟨v2, hv2⟩ : ∃ v, v = worstR c l s m := ⟨_, rfl⟩
    obtain ⟨L3, hL3⟩ : ∃ L, L = ifl E (ampls c l s m) := ⟨_, rfl⟩
    rw [← hv1] at C1 C2
    rw [← hv2] at C3 C4
    rw [← hL3] at C5 C6 I3
    replace C1 := Aside0.mk C1
    replace C2 := Aside0.mk C2
    replace C3 := Aside0.mk C3
    replace C4 := Aside0.mk C4
    replace C5 := Aside0.mk C5
    replace C6 := Aside0.mk C6
    replace I3 := Aside0.mk I3
    clear hE hv1 hv2 hL3 hf hr0 hr1 hr2 hr3 hc0 hc9 hc1 hd9 hc2 he2 hc3 he3
    go_enter Try.func5, Try.ntmps5
    go_wp2_with fail
    obtain ⟨W, hW⟩ : ∃ W, W = (w.alloc (.cells #[.slice A0 c.length c0, .slice A1 l.length c1] 24)).alloc (.cells #[.slice A2 s.length c2, .slice A3 m.length c3] 22) := ⟨_, rfl⟩
    rw [← hW]
    have k0 : W.cell? ⟨w.heap.size, 0, none⟩ = some (.slice A0 c.length c0) := by rw [hW]; go_simp
    have k1 : W.cell? ⟨w.heap.size, 1, none⟩ = some (.slice A1 l.length c1) := by rw [hW]; go_simp
    have m0 : W.cell? ⟨w.heap.size + 1, 0, none⟩ = some (.slice A2 s.length c2) := by rw [hW]; go_simp
    have m1 : W.cell? ⟨w.heap.size + 1, 1, none⟩ = some (.slice A3 m.length c3) := by rw [hW]; go_simp
    replace hb : Below w.heap.size w W := by rw [hW]; exact (hb.alloc hb.size _).alloc (hb.alloc hb.size _).size _
    clear hW
    refine (HFew.out W _ (lens_two m0 m1)).mono ?_; rintro _ w1 ⟨rfl, hbn⟩; replace k0 := cnx k0 hbn; replace k1 := cnx k1 hbn; replace hb := bnx hb hbn; clear hbn m0 m1
    go_wp2_with fail
    refine (C1.out _ hb).mono ?_; rintro _ w2 ⟨rfl, hbn⟩; replace k0 := cnx k0 hbn; replace k1 := cnx k1 hbn
    replace hb := bnx hb hbn; clear hbn
    go_wp2_with fail
    refine (C2.out _ hb).mono ?_; rintro _ w3 ⟨rfl, hbn⟩; replace k0 := cnx k0 hbn; replace k1 := cnx k1 hbn
    replace hb := bnx hb hbn; clear hbn
    go_wp2_with fail
    refine (C3.out _ hb).mono ?_; rintro _ w4 ⟨rfl, hbn⟩; replace k0 := cnx k0 hbn; replace k1 := cnx k1 hbn
    replace hb := bnx hb hbn; clear hbn
    go_wp2_with fail
    refine (C4.out _ hb).mono ?_; rintro _ w5 ⟨rfl, hbn⟩; replace k0 := cnx k0 hbn; replace k1 := cnx k1 hbn
    replace hb := bnx hb hbn; clear hbn
    go_wp2_with fail
    refine (C5.out _ hb).mono ?_; rintro _ w6 ⟨B5, p5, rfl, -, -, -, K5, hbn⟩; replace k0 := cnx k0 hbn; replace k1 := cnx k1 hbn
    replace hb := bnx hb hbn; clear hbn
    replace K5 := Aside0.mk K5
    go_wp2_with fail
    refine (C6.out _ hb).mono ?_; rintro _ w7 ⟨B6, p6, rfl, -, -, -, K6, hbn⟩; replace k0 := cnx k0 hbn; replace k1 := cnx k1 hbn
    replace K5 := Aside0.mk (Kd.C_below K5.out hbn)
    replace hb := bnx hb hbn; clear hbn
    replace K6 := Aside0.mk K6
    go_wp2_with fail
    refine (I3.out _ _ _ _ _ K5.out K6.out).mono ?_; rintro _ w8 ⟨rfl, hbn⟩
    replace K5 := Aside0.mk (Kd.C_below K5.out hbn)
    replace K6 := Aside0.mk (Kd.C_below K6.out hbn)
    replace hb := bnx hb hbn; clear hbn
    go_wp2_with fail
    clear K5 K6
    refine (awake_calls _).mono ?_; rintro _ wA ⟨rfl, hbn⟩; replace hb := bnx hb hbn; clear hbn
    go_wp2_with fail
    go_ret
    exact ⟨rfl, hb⟩
  · rw [decide_eq_false hf] at HFew
    replace HFew := Aside0.mk HFew
    clear hf hr0 hr1 hc0 hc9 hc1 hd9 hr2 hc2 he2 hr3 hc3 he3
    go_enter Try.func5, Try.ntmps5
    go_wp2_with fail
    obtain ⟨W, hW⟩ : ∃ W, W = (w.alloc (.cells #[.slice A0 c.length c0, .slice A1 l.length c1] 24)).alloc (.cells #[.slice A2 s.length c2, .slice A3 m.length c3] 22) := ⟨_, rfl⟩
    rw [← hW]
    have k0 : W.cell? ⟨w.heap.size, 0, none⟩ = some (.slice A0 c.length c0) := by rw [hW]; go_simp
    have k1 : W.cell? ⟨w.heap.size, 1, none⟩ = some (.slice A1 l.length c1) := by rw [hW]; go_simp
    have m0 : W.cell? ⟨w.heap.size + 1, 0, none⟩ = some (.slice A2 s.length c2) := by rw [hW]; go_simp
    have m1 : W.cell? ⟨w.heap.size + 1, 1, none⟩ = some (.slice A3 m.length c3) := by rw [hW]; go_simp
    replace hb : Below w.heap.size w W := by rw [hW]; exact (hb.alloc hb.size _).alloc (hb.alloc hb.size _).size _
    clear hW
    refine (HFew.out W _ (lens_two m0 m1)).mono ?_; rintro _ w1 ⟨rfl, hbn⟩; replace k0 := cnx k0 hbn; replace k1 := cnx k1 hbn; replace hb := bnx hb hbn; clear hbn m0 m1
    go_wp2_with fail
    refine (awake_calls _).mono ?_; rintro _ wA ⟨rfl, hbn⟩; replace hb := bnx hb hbn; clear hbn
    go_wp2_with fail
    go_ret
    exact ⟨rfl, hb⟩

end Go.Proofs.Ytljadjoljhanfaa.Q16
