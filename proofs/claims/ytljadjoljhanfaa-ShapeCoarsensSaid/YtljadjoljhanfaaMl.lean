/- The law ShapeCoarsens. -/
import Derived.Test.YtljadjoljhanfaaMk
import Derived.WalkKit
import Derived.WalkSpells
import Derived.WalkLawsBesides
import Derived.KernelRfl
import Derived.Deep.RegionHeld3
import Derived.Deep.LoopGhost
import Derived.Deep.AppendLies
import Derived.Laws.Rows
import Derived.Shelf.GgClosure.Gives
import Derived.Test.YtljadjoljhanfaaWWords
import Derived.Test.YtljadjoljhanfaaWLast
import Derived.Test.YtljadjoljhanfaaWMore
set_option linter.unusedVariables false
set_option linter.unusedSimpArgs false
namespace Go.Proofs.Ytljadjoljhanfaa.Q16
open Go.RowKit Go.Proofs.YtljadjoljhanfaaW.PrintWords Go.Proofs.YtljadjoljhanfaaW.PrintLast Go.Proofs.YtljadjoljhanfaaW.PrintMore
attribute [local go_sem] max2_int min2_int max_two min_two max_three min_three
open Go.Proofs.Ytljadjoljhanfaa.Q15

theorem coarL_0 {c l s : List Int} (he : errS (-2097152) 2097152 0 95 c l s = 0) : coarL c l s 0 = s := by
  obtain ⟨g0, g1, g2, g3, g4, g5⟩ := errS_zero he
  unfold coarL
  refine List.ext_getElem (by rw [List.length_map, List.length_range]; exact g2.symm) (fun k h1 h2 => ?_)
  have h3 := rng_mem g4 (rd_mem s k (by omega))
  rw [List.getElem_map, List.getElem_range]
  unfold coarse
  rw [if_pos (by omega), ← rd_nat s k (by omega)]
  omega
theorem coarL_96 {c l s : List Int} (he : errS (-2097152) 2097152 0 95 c l s = 0) : ∀ x ∈ coarL c l s 96, x = 95 := fun x hx => by
  obtain ⟨g0, g1, g2, g3, g4, g5⟩ := errS_zero he
  unfold coarL at hx
  obtain ⟨k, hk, rfl⟩ := List.mem_map.1 hx
  replace hk := List.mem_range.1 hk
  have h3 := rng_mem g4 (rd_mem s k (by omega))
  unfold coarse
  rw [if_pos (by omega)]
  omega

set_option maxRecDepth 100000 in
set_option maxHeartbeats 4000000 in
theorem ShapeCoarsens_row {w : World} (A0 : Option Addr) (c0 : Nat) (c : List Int) (hr0 : (Kd.int .i64).C w A0 c.length c) (hc0 : c.length ≤ c0) (hc9 : c0 ≤ 9223372036854775807) (A1 : Option Addr) (c1 : Nat) (l : List Int) (hr1 : (Kd.int .i64).C w A1 l.length l) (hc1 : l.length ≤ c1) (hd9 : c1 ≤ 9223372036854775807) (A2 : Option Addr) (c2 : Nat) (s : List Int) (hr2 : (Kd.int .i64).C w A2 s.length s) (hc2 : s.length ≤ c2) (he2 : c2 ≤ 9223372036854775807) (n : Int) (hn : -9223372036854775808 ≤ n ∧ n ≤ 9223372036854775807) :
    Calls Try.prog 6 #[.agg #[.slice A0 c.length c0, .slice A1 l.length c1], .slice A2 s.length c2, .int .i64 n] w fun e w' => e = .returned (.bool true) ∧ Below w.heap.size w w' := by
  have hb := Below.refl w.heap.size w
  have HFew := fun (W : World) (B : Nat) h => few_calls A0 A1 c.length l.length c0 c1 1 B [s.length] W h (by simp)
  by_cases hf : (∀ n ∈ [s.length], n ≤ 200) ∧ c.length ≤ 300 ∧ l.length ≤ 200
  · rw [decide_eq_true hf] at HFew
    simp at hf
    replace HFew := Aside0.mk HFew
    have C1 := fun (W : World) (hb : Below w.heap.size w W) => Coarser_out A0 A1 A2 c0 c1 c2 c l s W (Kd.C_below hr0 hb) (Kd.C_below hr1 hb) (Kd.C_below hr2 hb) hc0 hc9 (by omega) (by omega) (by omega) n
    have C2 := fun (W : World) (hb : Below w.heap.size w W) => rCoarser_out A0 A1 A2 c0 c1 c2 c l s W (Kd.C_below hr0 hb) (Kd.C_below hr1 hb) (Kd.C_below hr2 hb) hc0 hc9 (by omega) (by omega) (by omega) n
    have C3 := fun (W : World) (hb : Below w.heap.size w W) => Coarser_out A0 A1 A2 c0 c1 c2 c l s W (Kd.C_below hr0 hb) (Kd.C_below hr1 hb) (Kd.C_below hr2 hb) hc0 hc9 (by omega) (by omega) (by omega) 0
    have C4 := fun (W : World) (hb : Below w.heap.size w W) => Coarser_out A0 A1 A2 c0 c1 c2 c l s W (Kd.C_below hr0 hb) (Kd.C_below hr1 hb) (Kd.C_below hr2 hb) hc0 hc9 (by omega) (by omega) (by omega) 96
    have CI := ints_same (L := ifl (errC c l s n) (coarL c l s n)) (ifl_len fun _ => by unfold coarL; rw [List.length_map, List.length_range]; omega)
    rw [show errC c l s 0 = errS (-2097152) 2097152 0 95 c l s from if_pos (by decide)] at C3
    rw [show errC c l s 96 = errS (-2097152) 2097152 0 95 c l s from if_pos (by decide)] at C4
    have HR2 := Aside0.mk (fun (W : World) (hb : Below w.heap.size w W) => Kd.C_below hr2 hb)
    obtain ⟨E, hE⟩ : ∃ E, E = errC c l s n := ⟨_, rfl⟩
    rw [← hE] at C1 C2 CI
    obtain ⟨L, hL⟩ : ∃ L, L = ifl E (coarL c l s n) := ⟨_, rfl⟩
    rw [← hL] at C1 C2 CI
    replace C1 := Aside0.mk C1
    replace C2 := Aside0.mk C2
    replace CI := Aside0.mk CI
    clear hE hL
    by_cases he : errS (-2097152) 2097152 0 95 c l s = 0
    · have H9 := coarL_96 he
      have hlen9 : (coarL c l s 96).length = s.length := by unfold coarL; rw [List.length_map, List.length_range]; exact (errS_zero he).2.2.1.symm
      rw [he] at C3 C4
      rw [show ifl 0 (coarL c l s 0) = s from coarL_0 he] at C3
      rw [show ifl 0 (coarL c l s 96) = coarL c l s 96 from rfl] at C4
      obtain ⟨L9, hL9⟩ : ∃ L, L = coarL c l s 96 := ⟨_, rfl⟩
      rw [← hL9] at C4 H9 hlen9
      have CJ := Aside0.mk (ints_same (L := s) (by omega))
      have H95 := Aside0.mk H9
      have hLI : (L9.length : Int) ≤ 1000 := by omega
      have HLN := Aside0.mk hlen9
      replace C3 := Aside0.mk C3
      replace C4 := Aside0.mk C4
      clear hn hf hr0 hr1 hr2 hc0 hc9 hc1 hd9 hc2 he2 he hL9 hlen9 H9
      go_enter Try.func6, Try.ntmps6
      go_wp2_with fail
      obtain ⟨W, hW⟩ : ∃ W, W = (w.alloc (.cells #[.slice A0 c.length c0, .slice A1 l.length c1] 24)).alloc (.cells #[.slice A2 s.length c2] 22) := ⟨_, rfl⟩
      rw [← hW]
      have k0 : W.cell? ⟨w.heap.size, 0, none⟩ = some (.slice A0 c.length c0) := by rw [hW]; go_simp
      have k1 : W.cell? ⟨w.heap.size, 1, none⟩ = some (.slice A1 l.length c1) := by rw [hW]; go_simp
      have m0 : W.cell? ⟨w.heap.size + 1, 0, none⟩ = some (.slice A2 s.length c2) := by rw [hW]; go_simp
      replace hb : Below w.heap.size w W := by rw [hW]; exact (hb.alloc hb.size _).alloc (hb.alloc hb.size _).size _
      clear hW
      refine (HFew.out W _ (lens_one m0)).mono ?_; rintro _ w1 ⟨rfl, hbn⟩; replace k0 := cnx k0 hbn; replace k1 := cnx k1 hbn; replace hb := bnx hb hbn; clear hbn m0
      go_wp2_with fail
      refine (C1.out _ hb).mono ?_; rintro _ w2 ⟨B1, p1, rfl, -, -, -, K1, hbn⟩; replace k0 := cnx k0 hbn; replace k1 := cnx k1 hbn
      replace hb := bnx hb hbn; clear hbn
      replace K1 := Aside0.mk K1
      go_wp2_with fail
      refine (C2.out _ hb).mono ?_; rintro _ w3 ⟨B2, p2, rfl, -, -, -, K2, hbn⟩; replace k0 := cnx k0 hbn; replace k1 := cnx k1 hbn
      replace K1 := Aside0.mk (Kd.C_below K1.out hbn)
      replace hb := bnx hb hbn; clear hbn
      replace K2 := Aside0.mk K2
      go_wp2_with fail
      refine (CI.out _ _ _ _ _ K1.out K2.out).mono ?_; rintro _ w4 ⟨rfl, hbn⟩; replace k0 := cnx k0 hbn; replace k1 := cnx k1 hbn
      replace K1 := Aside0.mk (Kd.C_below K1.out hbn)
      replace K2 := Aside0.mk (Kd.C_below K2.out hbn)
      replace hb := bnx hb hbn; clear hbn
      go_wp2_with fail
      clear K1 K2
      refine (C3.out _ hb).mono ?_; rintro _ w5 ⟨B3, p3, rfl, -, -, -, K3, hbn⟩; replace k0 := cnx k0 hbn; replace k1 := cnx k1 hbn
      replace hb := bnx hb hbn; clear hbn
      replace K3 := Aside0.mk K3
      go_wp2_with fail
      refine (C4.out _ hb).mono ?_; rintro _ w6 ⟨B4, p4, rfl, -, -, -, K4, hbn⟩
      replace K3 := Aside0.mk (Kd.C_below K3.out hbn)
      replace hb := bnx hb hbn; clear hbn
      replace K4 := Aside0.mk K4
      replace hb := Aside0.mk hb
      go_wp2_with fail
      go_loopw [75] (fun i wr => ∃ k : Nat, i = .int .i64 k ∧ k ≤ L9.length ∧ Below w6.heap.size w6 wr) (fun i _ => L9.length - (intOf i).toNat)
      case atStart => exact ⟨0, rfl, by omega, Below.refl _ _⟩
      case round =>
        obtain ⟨k, rfl, hk, hbL⟩ := hrel
        by_cases hlt : k < L9.length
        · obtain ⟨ad, rfl, hcell⟩ := el_at K4.out hbL hlt
          rw [H95.out _ (rd_mem L9 k hlt)] at hcell
          have hkI : (k : Int) < (L9.length : Int) := by omega
          go_wp2
          go_roundw
          case rel => exact ⟨k + 1, by go_num, by omega, hbL⟩
          case measure => simp [intOf]; omega
        · obtain rfl : k = L9.length := by omega
          replace hb := bnx hb.out hbL
          replace K3 := Aside0.mk (Kd.C_below K3.out hbL)
          clear hbL K4
          go_wp2_with fail
          refine (CJ.out _ _ _ _ _ K3.out (HR2.out _ hb)).mono ?_; rintro _ wB ⟨rfl, hbn⟩; replace hb := bnx hb hbn; clear hbn
          have hll := Int.ofNat_inj.2 HLN.out
          go_wp2_with fail
          refine (awake_calls _).mono ?_; rintro _ wA ⟨rfl, hbn⟩; replace hb := bnx hb hbn; clear hbn
          go_wp2_with fail
          go_ret
          exact ⟨rfl, hb⟩
    · obtain ⟨F, hF⟩ : ∃ E, E = errS (-2097152) 2097152 0 95 c l s := ⟨_, rfl⟩
      rw [← hF] at C3 C4 he
      rw [show ifl F (coarL c l s 0) = [] from if_neg he] at C3
      rw [show ifl F (coarL c l s 96) = [] from if_neg he] at C4
      obtain ⟨L9, hL9⟩ : ∃ L : List Int, L = [] := ⟨_, rfl⟩
      rw [← hL9] at C3 C4
      have H95 : Aside0 (∀ x ∈ L9, x = 95) := ⟨by rw [hL9]; simp⟩
      have hLI : (L9.length : Int) ≤ 1000 := by rw [hL9]; decide
      have hne : (F != 0) = true := bne_iff_ne.2 he
      replace C3 := Aside0.mk C3
      replace C4 := Aside0.mk C4
      clear hn hf hr0 hr1 hr2 hc0 hc9 hc1 hd9 hc2 he2 he hL9 hF
      go_enter Try.func6, Try.ntmps6
      go_wp2_with fail
      obtain ⟨W, hW⟩ : ∃ W, W = (w.alloc (.cells #[.slice A0 c.length c0, .slice A1 l.length c1] 24)).alloc (.cells #[.slice A2 s.length c2] 22) := ⟨_, rfl⟩
      rw [← hW]
      have k0 : W.cell? ⟨w.heap.size, 0, none⟩ = some (.slice A0 c.length c0) := by rw [hW]; go_simp
      have k1 : W.cell? ⟨w.heap.size, 1, none⟩ = some (.slice A1 l.length c1) := by rw [hW]; go_simp
      have m0 : W.cell? ⟨w.heap.size + 1, 0, none⟩ = some (.slice A2 s.length c2) := by rw [hW]; go_simp
      replace hb : Below w.heap.size w W := by rw [hW]; exact (hb.alloc hb.size _).alloc (hb.alloc hb.size _).size _
      clear hW
      refine (HFew.out W _ (lens_one m0)).mono ?_; rintro _ w1 ⟨rfl, hbn⟩; replace k0 := cnx k0 hbn; replace k1 := cnx k1 hbn; replace hb := bnx hb hbn; clear hbn m0
      go_wp2_with fail
      refine (C1.out _ hb).mono ?_; rintro _ w2 ⟨B1, p1, rfl, -, -, -, K1, hbn⟩; replace k0 := cnx k0 hbn; replace k1 := cnx k1 hbn
      replace hb := bnx hb hbn; clear hbn
      replace K1 := Aside0.mk K1
      go_wp2_with fail
      refine (C2.out _ hb).mono ?_; rintro _ w3 ⟨B2, p2, rfl, -, -, -, K2, hbn⟩; replace k0 := cnx k0 hbn; replace k1 := cnx k1 hbn
      replace K1 := Aside0.mk (Kd.C_below K1.out hbn)
      replace hb := bnx hb hbn; clear hbn
      replace K2 := Aside0.mk K2
      go_wp2_with fail
      refine (CI.out _ _ _ _ _ K1.out K2.out).mono ?_; rintro _ w4 ⟨rfl, hbn⟩; replace k0 := cnx k0 hbn; replace k1 := cnx k1 hbn
      replace K1 := Aside0.mk (Kd.C_below K1.out hbn)
      replace K2 := Aside0.mk (Kd.C_below K2.out hbn)
      replace hb := bnx hb hbn; clear hbn
      go_wp2_with fail
      clear K1 K2
      refine (C3.out _ hb).mono ?_; rintro _ w5 ⟨B3, p3, rfl, -, -, -, K3, hbn⟩; replace k0 := cnx k0 hbn; replace k1 := cnx k1 hbn
      replace hb := bnx hb hbn; clear hbn
      replace K3 := Aside0.mk K3
      go_wp2_with fail
      refine (C4.out _ hb).mono ?_; rintro _ w6 ⟨B4, p4, rfl, -, -, -, K4, hbn⟩
      replace K3 := Aside0.mk (Kd.C_below K3.out hbn)
      replace hb := bnx hb hbn; clear hbn
      replace K4 := Aside0.mk K4
      replace hb := Aside0.mk hb
      go_wp2_with fail
      go_loopw [75] (fun i wr => ∃ k : Nat, i = .int .i64 k ∧ k ≤ L9.length ∧ Below w6.heap.size w6 wr) (fun i _ => L9.length - (intOf i).toNat)
      case atStart => exact ⟨0, rfl, by omega, Below.refl _ _⟩
      case round =>
        obtain ⟨k, rfl, hk, hbL⟩ := hrel
        by_cases hlt : k < L9.length
        · obtain ⟨ad, rfl, hcell⟩ := el_at K4.out hbL hlt
          rw [H95.out _ (rd_mem L9 k hlt)] at hcell
          have hkI : (k : Int) < (L9.length : Int) := by omega
          go_wp2
          go_roundw
          case rel => exact ⟨k + 1, by go_num, by omega, hbL⟩
          case measure => simp [intOf]; omega
        · obtain rfl : k = L9.length := by omega
          replace hb := bnx hb.out hbL
          clear hbL K4
          go_wp2_with fail
          refine (awake_calls _).mono ?_; rintro _ wA ⟨rfl, hbn⟩; replace hb := bnx hb hbn; clear hbn
          go_wp2_with fail
          go_ret
          exact ⟨rfl, hb⟩
  · rw [decide_eq_false hf] at HFew
    replace HFew := Aside0.mk HFew
    clear hf hr0 hr1 hc0 hc9 hc1 hd9 hr2 hc2 he2 hn
    go_enter Try.func6, Try.ntmps6
    go_wp2_with fail
    obtain ⟨W, hW⟩ : ∃ W, W = (w.alloc (.cells #[.slice A0 c.length c0, .slice A1 l.length c1] 24)).alloc (.cells #[.slice A2 s.length c2] 22) := ⟨_, rfl⟩
    rw [← hW]
    have k0 : W.cell? ⟨w.heap.size, 0, none⟩ = some (.slice A0 c.length c0) := by rw [hW]; go_simp
    have k1 : W.cell? ⟨w.heap.size, 1, none⟩ = some (.slice A1 l.length c1) := by rw [hW]; go_simp
    have m0 : W.cell? ⟨w.heap.size + 1, 0, none⟩ = some (.slice A2 s.length c2) := by rw [hW]; go_simp
    replace hb : Below w.heap.size w W := by rw [hW]; exact (hb.alloc hb.size _).alloc (hb.alloc hb.size _).size _
    clear hW
    refine (HFew.out W _ (lens_one m0)).mono ?_; rintro _ w1 ⟨rfl, hbn⟩; replace k0 := cnx k0 hbn; replace k1 := cnx k1 hbn; replace hb := bnx hb hbn; clear hbn m0
    go_wp2_with fail
    refine (awake_calls _).mono ?_; rintro _ wA ⟨rfl, hbn⟩; replace hb := bnx hb hbn; clear hbn
    go_wp2_with fail
    go_ret
    exact ⟨rfl, hb⟩

end Go.Proofs.Ytljadjoljhanfaa.Q16
