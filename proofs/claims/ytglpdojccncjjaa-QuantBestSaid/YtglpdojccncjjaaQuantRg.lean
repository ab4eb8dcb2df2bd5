/- What each function of layer 15's reference returns: noise, Least, Most. -/
import Derived.Test.YtglpdojccncjjaaQuantRf
import Derived.WalkKit
import Derived.WalkSpells
import Derived.WalkLawsBesides
import Derived.KernelRfl
import Derived.Deep.RegionHeld3
import Derived.Deep.LoopGhost
import Derived.Deep.AppendLies
import Derived.Laws.Rows
import Derived.Shelf.GgClosure.Gives
import Derived.Test.YtglpdojccncjjaaWWords
import Derived.Test.YtglpdojccncjjaaWLast
import Derived.Test.YtglpdojccncjjaaWMore
import Derived.Deep.QuietTactic
import Derived.BigQuiet
namespace Go.Proofs.Ytglpdojccncjjaa.Q15
open Go.RowKit Go.Proofs.YtglpdojccncjjaaW.PrintWords Go.Proofs.YtglpdojccncjjaaW.PrintLast Go.Proofs.YtglpdojccncjjaaW.PrintMore
attribute [local go_sem] max2_int min2_int max_two min_two max_three min_three

theorem absI_sg {c r : Int} (h : 0 ≤ r) : absI (sg c r) = r := by unfold absI sg; split <;> omega

set_option maxRecDepth 100000 in
set_option maxHeartbeats 1000000 in
theorem rnoise_calls (x g : Int) (A0 A1 : Option Addr) (c0 c1 : Nat) (l : List Int) (w : World) (hx : 0 ≤ x) (hr0 : (Kd.int .i64).C w A0 l.length l) (hr1 : (Kd.int .i64).C w A1 (upToL (tab x) g).length (upToL (tab x) g)) (hl : l.length ≤ 4096)
    (hp : ∀ n ∈ l, (-2097152 ≤ n ∧ n ≤ 2097152) ∧ absI n ≤ g) :
    Calls Try.prog 71 #[.slice A0 l.length c0, .slice A1 (upToL (tab x) g).length c1] w fun e w' => e = .returned (.int .i64 (noiseI x l)) ∧ Below w.heap.size w w' := by
  have hup := up_pos x g
  have HN : ∀ c, c ∈ l → ∀ W, Below w.heap.size w W → Calls Try.prog 41 #[.int .i64 c, .slice A1 (upToL (tab x) g).length c1] W fun e w' => e = .returned (.int .i64 (sg c (qn x (absI c)))) ∧ Below W.heap.size W w' := fun c hc W hb => by
    have hc1 := hp c hc
    have := nearest_calls A1 c1 (upToL (tab x) g) c W (Kd.C_below hr1 hb) (by omega) hup.1 (up_rising hx _) (by omega) (by omega) (fun y hy => by have := up_bd hx g y hy; omega)
    rwa [near_qn x g (absI c) hx (by unfold absI; omega) hc1.2] at this
  have HT : ∀ c, c ∈ l → ∀ W, Below w.heap.size w W → Calls Try.prog 78 #[.int .i64 (sg c (qn x (absI c))), .slice A1 (upToL (tab x) g).length c1] W fun e w' => e = .returned (.int .i64 (sg (sg c (qn x (absI c))) (V x (qn x (absI c))))) ∧ Below W.heap.size W w' := fun c hc W hb => by
    have hc1 := hp c hc
    have hq := qn_bd (x := x) (c := absI c) hx
    have hv := V_bd (x := x) (qn x (absI c)) hx
    have hlt := near_lt (upToL (tab x) g) (absI c) hup.1
    rw [near_qn x g (absI c) hx (by unfold absI; omega) hc1.2] at hlt
    refine Stands_calls (sg c (qn x (absI c))) _ A1 c1 (upToL (tab x) g) W (Kd.C_below hr1 hb) (by unfold sg; split <;> omega) (by rw [absI_sg hq.1]; exact hlt) ?_ (by omega) (by omega)
    rw [absI_sg hq.1, rd_getD]
    have hlu := up_len x g
    unfold upToL
    rw [getD_take (by omega), tab_getD x (by omega), Int.toNat_of_nonneg hq.1]
  obtain ⟨t, ht⟩ : ∃ t, t = upToL (tab x) g := ⟨_, rfl⟩
  rw [← ht] at HN HT ⊢
  have HR := Aside0.mk hr0
  have HP := Aside0.mk hp
  replace HN := Aside0.mk HN
  replace HT := Aside0.mk HT
  clear hr0 hr1 hp hup ht
  go_enter Try.func71, Try.ntmps71
  go_wp2
  go_loopw [5, 11] (fun s i wr => ∃ (k : Nat) (z : Int), i = .int .i64 k ∧ s = .int .i64 z ∧ k ≤ l.length ∧ 0 ≤ z ∧ z ≤ k * 4398046511104 ∧ Aside0 (z = noiseI x (l.take k)) ∧ Below w.heap.size w wr) (fun _ i _ => l.length - (intOf i).toNat)
  case atStart => exact ⟨0, 0, rfl, rfl, by omega, by omega, by omega, ⟨rfl⟩, Below.refl _ _⟩
  case round =>
    obtain ⟨k, z, rfl, rfl, hk, hz0, hz1, hn, hb⟩ := hrel
    by_cases hlt : k < l.length
    · obtain ⟨ad, rfl, hcell⟩ := el_at HR.out hb hlt
      have hc := HP.out _ (rd_mem l k hlt)
      have hC1 := HN.out _ (rd_mem l k hlt)
      have hC2 := HT.out _ (rd_mem l k hlt)
      have hT := take_rd l k hlt
      obtain ⟨n, hxx⟩ : ∃ n, n = rd l k := ⟨_, rfl⟩
      rw [← hxx] at hcell hc hT hC1 hC2
      clear hxx
      have hd := dsq_bd hx hc.1.1 hc.1.2
      have hq := qn_bd (x := x) (c := absI n) hx
      have hv := V_bd (qn x (absI n)) hx
      have hss : sg (sg n (qn x (absI n))) (V x (qn x (absI n))) = sg n (V x (qn x (absI n))) := by
        by_cases h0 : qn x (absI n) = 0
        · rw [h0, V_zero]
          unfold sg
          split <;> split <;> rfl
        · unfold sg
          split <;> split <;> omega
      rw [hss] at hC2
      have hsq : dsq x n = (n - sg n (V x (qn x (absI n)))) * (n - sg n (V x (qn x (absI n)))) := by rw [sq_sg]; rfl
      have hvs := sg_bd (c := n) hv.1 hv.2
      have hqs := sg_bd (c := n) hq.1 hq.2
      have hT2 : noiseI x (l.take (k + 1)) = z + dsq x n := by rw [hT, noiseI_snoc, hn.out]
      obtain ⟨q, hqe⟩ : ∃ q, q = sg n (qn x (absI n)) := ⟨_, rfl⟩
      obtain ⟨v, hve⟩ : ∃ v, v = sg n (V x (qn x (absI n))) := ⟨_, rfl⟩
      rw [← hqe] at hC1 hC2 hqs
      rw [← hve] at hC2 hsq hvs
      rw [hsq] at hd hT2
      have HT2 := Aside0.mk hT2
      have HC1 := Aside0.mk hC1
      have HC2 := Aside0.mk hC2
      clear hC1 hC2 hT hT2 hss hsq hqe hve hq hv hn
      go_wp2_with (first | (go_at_call 41; refine (HC1.out _ hb).mono ?_; rintro e w' ⟨rfl, hb1⟩) | (go_at_call 78; refine (HC2.out _ (bnx hb hb1)).mono ?_; rintro e w' ⟨rfl, hb2⟩))
      go_roundw
      case rel => exact ⟨k + 1, _, by go_num, rfl, by omega, by omega, by omega, ⟨HT2.out.symm⟩, bnx (bnx hb hb1) hb2⟩
      case measure => simp [intOf]; omega
    · obtain rfl : k = l.length := by omega
      rw [List.take_length] at hn
      go_wp2
      go_ret
      exact ⟨ret_int hn.out, hb⟩

set_option maxHeartbeats 400000 in
theorem NoiseBy_calls (A0 A1 : Option Addr) (c0 c1 : Nat) (l : List Int) (s : Int) (w : World) (hr0 : (Kd.int .i64).C w A0 powTab.length powTab) (hr : (Kd.int .i64).C w A1 l.length l) (hl : l.length ≤ 4096) (hp : ∀ n ∈ l, -2097152 ≤ n ∧ n ≤ 2097152) (h2 : 0 ≤ s) (h3 : s ≤ 95) :
    Calls Try.prog 52 #[.slice A0 powTab.length c0, .slice A1 l.length c1, .int .i64 s] w fun e w' => e = .returned (.int .i64 (noiseI (stepI s) l)) ∧ Below w.heap.size w w' := by
  have hs := stepI_bd h2 h3
  have HG := fun W hb => greatest_calls A1 c1 l W (Kd.C_below hr hb) (by omega) hp
  have HV := fun W hb => values_calls A0 c0 s (peakI l) W (Kd.C_below hr0 hb) h2 h3
  have HN := fun A cap W hb hr1 => rnoise_calls (stepI s) (peakI l) A1 A c1 cap l W (by omega) (Kd.C_below hr hb) hr1 hl (fun n hn => ⟨hp n hn, peak_abs hn⟩)
  obtain ⟨g, hg⟩ : ∃ g, g = peakI l := ⟨_, rfl⟩
  rw [← hg] at HG HV HN
  obtain ⟨t, ht⟩ : ∃ t, t = upToL (tab (stepI s)) g := ⟨_, rfl⟩
  rw [← ht] at HV HN
  obtain ⟨r, hre⟩ : ∃ r, r = noiseI (stepI s) l := ⟨_, rfl⟩
  rw [← hre] at HN ⊢
  obtain ⟨n0, hn0⟩ : ∃ n0, n0 = powTab.length := ⟨_, rfl⟩
  rw [← hn0] at HV ⊢
  replace HG := Aside0.mk HG
  replace HV := Aside0.mk HV
  replace HN := Aside0.mk HN
  clear hg ht hre hr hr0 hp hn0
  go_enter Try.func52, Try.ntmps52
  go_wp2_with (first | (go_at_call 70; refine (HG.out _ (Below.refl _ _)).mono ?_; rintro e w' ⟨rfl, hb0⟩) | (go_at_call 67; refine (HV.out _ hb0).mono ?_; rintro e w1 ⟨v, rfl, hR, hb1⟩; obtain ⟨A, cp, rfl, _, hC⟩ := Kd.R_reads hR; have HC := Aside0.mk hC; have HB0 := bnx hb0 hb1; clear hC hR) | (go_at_call 71; refine (HN.out _ _ _ HB0 HC.out).mono ?_; rintro e w2 ⟨rfl, hb2⟩))
  go_ret
  exact ⟨rfl, bnx HB0 hb2⟩

set_option maxHeartbeats 400000 in
theorem rNoise_no (A : Option Addr) (cap : Nat) (l : List Int) (s : Int) (w : World) (hr : (Kd.int .i64).C w A l.length l) (hk : chk isC l s ≠ 0) :
    Calls Try.prog 23 #[.slice A l.length cap, .int .i64 s] w fun e w' => e = .returned (.tuple #[.int .i64 0, .int .i64 (chk isC l s)]) ∧ Below w.heap.size w w' := by
  cases h : isS s with
  | true =>
    have HC := fun W hb => list_calls 2097152 A cap l W (Kd.C_below hr hb) (by omega) (by omega)
    rw [chkC_s h] at HC
    obtain ⟨e0, he0⟩ : ∃ e0, e0 = chk isC l s := ⟨_, rfl⟩
    rw [← he0] at HC hk ⊢
    replace HC := Aside0.mk HC
    have hk' : (e0 == 0) = false := beq_eq_false_iff_ne.2 hk
    clear he0 hr
    go_enter Try.func23, Try.ntmps23
    go_wp2_with (first | (go_at_call 35; refine (rScale_calls _ _).mono ?_; rintro e w' ⟨rfl, hb0⟩) | (go_at_call 46; refine (HC.out _ hb0).mono ?_; rintro e w' ⟨rfl, hb1⟩))
    go_ret2
    exact ⟨rfl, bnx hb0 hb1⟩
  | false =>
    rw [chk_isS h]
    go_enter Try.func23, Try.ntmps23
    go_wp2_with (first | (go_at_call 35; refine (rScale_calls _ _).mono ?_; rintro e w' ⟨rfl, hb0⟩))
    go_ret2
    exact ⟨rfl, hb0⟩

set_option maxHeartbeats 400000 in
theorem rNoise_yes (A : Option Addr) (cap : Nat) (l : List Int) (s : Int) (w : World) (hr : (Kd.int .i64).C w A l.length l) (hk : chk isC l s = 0) :
    Calls Try.prog 23 #[.slice A l.length cap, .int .i64 s] w fun e w' => e = .returned (.tuple #[.int .i64 (noiseI (stepI s) l), .int .i64 0]) ∧ Below w.heap.size w w' := by
  obtain ⟨hs, hl, hp⟩ := chk_zero hk
  have h : isS s = true := by unfold isS; simp; omega
  have HC := fun W hb => list_calls 2097152 A cap l W (Kd.C_below hr hb) (by omega) (by omega)
  rw [chkC_s h, hk] at HC
  have HQ := fun A0 cp W hr0 hb => NoiseBy_calls A0 A cp cap l s W hr0 (Kd.C_below hr hb) (by omega) (fun n hn => isC_bd (hp n hn)) hs.1 hs.2
  obtain ⟨r, hr'⟩ : ∃ r, r = noiseI (stepI s) l := ⟨_, rfl⟩
  rw [← hr'] at HQ ⊢
  replace HC := Aside0.mk HC
  replace HQ := Aside0.mk HQ
  clear hr' hk hr hp
  go_enter Try.func23, Try.ntmps23
  go_wp2_with (first | (go_at_call 35; refine (rScale_calls _ _).mono ?_; rintro e w' ⟨rfl, hb0⟩) | (go_at_call 46; refine (HC.out _ hb0).mono ?_; rintro e w' ⟨rfl, hb1⟩) | (go_at_call 48; refine (Powers_calls _).mono ?_; rintro e w1 ⟨v, rfl, hR, hb2⟩; obtain ⟨A0, cp, rfl, _, hC⟩ := Kd.R_reads hR; have HPW := Aside0.mk hC; have HB0 := bnx (bnx hb0 hb1) hb2; clear hC hR) | (go_at_call 52; refine (HQ.out _ _ _ HPW.out HB0).mono ?_; rintro e w2 ⟨rfl, hb3⟩))
  go_ret2
  exact ⟨rfl, bnx HB0 hb3⟩

set_option maxHeartbeats 400000 in
theorem rleast_calls (A : Option Addr) (cap : Nat) (l : List Int) (w : World) (hr : (Kd.int .i64).C w A l.length l) (hl : l.length ≤ 1099511627776) (hp : ∀ n ∈ l, -2097152 ≤ n ∧ n ≤ 2097152) :
    Calls Try.prog 54 #[.slice A l.length cap] w fun e w' => e = .returned (.int .i64 (leastI l)) ∧ Below w.heap.size w w' := by
  have HG := fun W hb => greatest_calls A cap l W (Kd.C_below hr hb) hl hp
  have HP := fun w => rpower_calls 1023 w (by omega) (by omega)
  rw [show absI 1023 = 1023 by decide] at HP
  have hpb := P_bd 1023
  have HS := fun s w h0 h1 => stands_calls (P 1023) s w hpb.1 hpb.2 h0 h1
  simp only [V_min] at HS
  have hgb := peak_bd l hp 0 (by omega) (by omega)
  unfold leastI
  obtain ⟨g, hg⟩ : ∃ g, g = peakI l := ⟨_, rfl⟩
  rw [show l.foldl (fun a n => max (max a n) (-n)) 0 = g from hg.symm] at hgb
  rw [← hg] at HG ⊢
  obtain ⟨p, hpe⟩ : ∃ p, p = P 1023 := ⟨_, rfl⟩
  rw [← hpe] at HP HS hpb
  replace HG := Aside0.mk HG
  replace HP := Aside0.mk HP
  replace HS := Aside0.mk HS
  clear hg hpe hr hp
  go_enter Try.func54, Try.ntmps54
  go_wp2_with (first | (go_at_call 32; refine (HP.out _).mono ?_; rintro e w' ⟨rfl, hb0⟩) | (go_at_call 70; refine (HG.out _ hb0).mono ?_; rintro e w' ⟨rfl, hb1⟩))
  have HB1 := bnx hb0 hb1
  go_loopw [3] (fun s wr => ∃ z : Int, s = .int .i64 z ∧ 0 ≤ z ∧ z ≤ 95 ∧ Aside0 (∀ j, 0 ≤ j → j < z → V (stepI j) 1023 < g) ∧ Below w.heap.size w wr) (fun s _ => (95 - intOf s).toNat)
  case atStart => exact ⟨0, rfl, by omega, by omega, ⟨fun j h0 h1 => by omega⟩, HB1⟩
  case round =>
    obtain ⟨z, rfl, hz0, hz1, hj, hb⟩ := hrel
    have HC := fun w => HS.out z w hz0 hz1
    have hvb := V_bd (x := stepI z) 1023 (by have := stepI_bd hz0 hz1; omega)
    have HZ : Aside0 (V (stepI z) 1023 < g → z + 1 ≤ 95 ∧ ∀ j, 0 ≤ j → j < z + 1 → V (stepI j) 1023 < g) := ⟨fun h => ⟨by
      rcases Int.lt_or_eq_of_le hz1 with h1 | h1
      · omega
      · rw [h1, top_last] at h; omega, fun j h0 h1 => by
      rcases Int.lt_or_eq_of_le (show j ≤ z by omega) with h2 | h2
      · exact hj.out j h0 h2
      · rw [h2]; exact h⟩⟩
    have HY : Aside0 (g ≤ V (stepI z) 1023 → leastT g = z) := ⟨fun h => leastT_is hz0 hz1 hj.out h⟩
    obtain ⟨v, hv⟩ : ∃ v, v = V (stepI z) 1023 := ⟨_, rfl⟩
    rw [← hv] at HC HZ HY hvb
    replace HC := Aside0.mk HC
    clear hv
    by_cases hlt : v < g
    · have hz2 := (HZ.out hlt).1
      have HZ2 := Aside0.mk (HZ.out hlt).2
      go_wp2_with (first | (go_at_call 60; refine (HC.out _).mono ?_; rintro e w' ⟨rfl, hb2⟩))
      go_roundw
      case rel => exact ⟨z + 1, rfl, by omega, hz2, HZ2, bnx hb hb2⟩
      case measure => simp [intOf]; omega
    · have HE := HY.out (by omega)
      have HE := Aside0.mk HE
      clear HY
      go_wp2_with (first | (go_at_call 60; refine (HC.out _).mono ?_; rintro e w' ⟨rfl, hb2⟩))
      go_ret
      exact ⟨ret_int HE.out.symm, bnx hb hb2⟩

end Go.Proofs.Ytglpdojccncjjaa.Q15
