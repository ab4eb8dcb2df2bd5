/- The law QuantBest. -/
import Derived.Test.YtglpdojccncjjaaQuantL4
import Derived.WalkKit
import Derived.WalkSpells
import Derived.WalkLawsBesides
import Derived.KernelRfl
import Derived.Deep.RegionHeld3
import Derived.Deep.LoopGhost
import Derived.Deep.AppendLies
import Derived.Laws.Rows
import Derived.Shelf.GgClosure.Gives
import Derived.Test.YtglpdojccncjjaaWWords
import Derived.Test.YtglpdojccncjjaaWLast
import Derived.Test.YtglpdojccncjjaaWMore
set_option linter.unusedVariables false
set_option linter.unusedSimpArgs false
namespace Go.Proofs.Ytglpdojccncjjaa.Q15
open Go.RowKit Go.Proofs.YtglpdojccncjjaaW.PrintWords Go.Proofs.YtglpdojccncjjaaW.PrintLast Go.Proofs.YtglpdojccncjjaaW.PrintMore
attribute [local go_sem] max2_max min2_min max_two min_two max_three min_three

theorem greatest (p : Int → Bool) (b : Int) : ∀ (n : Nat) (a : Int), a - b + 1 ≤ n → (∃ s, b ≤ s ∧ s ≤ a ∧ p s = true ∧ ∀ j, s < j → j ≤ a → p j = false) ∨ ∀ j, b ≤ j → j ≤ a → p j = false
  | 0, a, h => .inr fun j j0 j1 => by omega
  | n + 1, a, h => by
    by_cases hb : b ≤ a
    · by_cases hp : p a = true
      · exact .inl ⟨a, hb, Int.le_refl _, hp, fun j j0 j1 => by omega⟩
      · rcases greatest p b n (a - 1) (by omega) with ⟨s, s0, s1, s2, s3⟩ | h1
        · refine .inl ⟨s, s0, by omega, s2, fun j j0 j1 => ?_⟩
          by_cases e : j = a
          · rw [e]; simpa using hp
          · exact s3 j j0 (by omega)
        · refine .inr fun j j0 j1 => ?_
          by_cases e : j = a
          · rw [e]; simpa using hp
          · exact h1 j j0 (by omega)
    · exact .inr fun j j0 j1 => by omega
theorem top_95 : V (stepI 95) 1023 = 2097152 := by decide +kernel
theorem least_iff {top s : Int} (ht : top ≤ 2097152) (h0 : 0 ≤ s) (h1 : s ≤ 95) : (s < leastT top ∧ V (stepI s) 1023 < top) ∨ (leastT top ≤ s ∧ top ≤ V (stepI s) 1023) := by
  have hb := fst_bd (fun s => decide (V (stepI s) 1023 ≥ top)) (show (0 : Int) ≤ 95 by decide)
  unfold leastT
  rcases Int.lt_or_le s (fst (fun s => decide (V (stepI s) 1023 ≥ top)) 0 95) with h | h
  · exact .inl ⟨h, by simpa using fst_before _ h0 h (by decide)⟩
  · refine .inr ⟨h, ?_⟩
    have hm := top_mono hb.1 h h1
    rcases Int.lt_or_eq_of_le hb.2 with h2 | h2
    · have : top ≤ V (stepI (fst (fun s => decide (V (stepI s) 1023 ≥ top)) 0 95)) 1023 := by simpa using fst_at _ h2
      omega
    · rw [h2, top_95] at hm; omega

/-- What Most returns, and what is known of each scale: (the scale, its error) with 'f' the error, 'm' the scale. -/
theorem most_ways (l : List Int) (limit : Int) (h0 : 0 ≤ limit) (h1 : limit ≤ 72057594037927936) (hk : chk isC l 0 = 0) :
    (mostR l limit = .tuple #[.int .i64 0, .int .i64 5] ∧ ∀ s, leastI l ≤ s → s ≤ 95 → ¬ noiseI (stepI s) l ≤ limit) ∨
    ∃ m, mostR l limit = .tuple #[.int .i64 m, .int .i64 0] ∧ leastI l ≤ m ∧ m ≤ 95 ∧ noiseI (stepI m) l ≤ limit ∧ ∀ s, m < s → s ≤ 95 → ¬ noiseI (stepI s) l ≤ limit := by
  rcases greatest (fun s => decide (noiseI (stepI s) l ≤ limit)) (leastI l) (95 - leastI l + 1).toNat 95 (by omega) with ⟨m, m0, m1, m2, m3⟩ | h
  · have hm : mostI l limit = some m := find_down m0 m1 m3 m2
    exact .inr ⟨m, mostR_some ⟨by omega, hk, hm⟩, m0, m1, by simpa using m2, fun s s0 s1 => by simpa using m3 s s0 s1⟩
  · have hm : mostI l limit = none := find_down_none h
    refine .inl ⟨?_, fun s s0 s1 => by simpa using h s s0 s1⟩
    unfold mostR
    rw [if_neg (by omega), if_pos hk, hm]
theorem most_bad (l : List Int) (limit : Int) (h : chk isC l 0 ≠ 0 ∨ limit < 0 ∨ 72057594037927936 < limit) : ∃ f : Int, f ≠ 0 ∧ mostR l limit = .tuple #[.int .i64 0, .int .i64 f] := by
  unfold mostR
  by_cases h1 : limit < 0 ∨ 72057594037927936 < limit
  · rw [if_pos h1]; exact ⟨1, by decide, rfl⟩
  · rw [if_neg h1]
    have hk : chk isC l 0 ≠ 0 := by
      rcases h with h | h
      · exact h
      · exact absurd h h1
    rw [if_neg hk]
    exact ⟨_, hk, rfl⟩

set_option maxRecDepth 100000 in
set_option maxHeartbeats 4000000 in
theorem QuantBest_row {w : World} (A : Option Addr) (cap : Nat) (l : List Int) (hr : (Kd.int .i64).C w A l.length l) (limit : Int) (hlim : -9223372036854775808 ≤ limit ∧ limit ≤ 9223372036854775807) :
    Calls Try.prog 10 #[.slice A l.length cap, .int .i64 limit] w fun e w' => e = .returned (.bool true) ∧ Below w.heap.size w w' := by
  have hb := Below.refl w.heap.size w
  by_cases h24 : (24 : Int) < l.length
  · clear hr
    go_enter Try.func10, Try.ntmps10
    go_wp2_with (first | (go_at_call 17; refine (awake_calls _).mono ?_; rintro e w' ⟨rfl, hbn⟩; replace hb := bnx hb hbn; clear hbn))
    go_ret
    exact ⟨rfl, hb⟩
  have h24' : decide ((24 : Int) < (l.length : Int)) = false := by simp; omega
  have CL := fun W hb => Least_calls A cap l W (Kd.C_below hr hb)
  have CM := fun W hb => Most_calls A cap l limit W (Kd.C_below hr hb)
  by_cases hbad : chk isC l 0 ≠ 0 ∨ limit < 0 ∨ 72057594037927936 < limit
  · obtain ⟨f, hf, hm⟩ := most_bad l limit hbad
    rw [hm] at CM
    obtain ⟨m, hme⟩ : ∃ n, n = leastR l := ⟨_, rfl⟩
    obtain ⟨n, hne⟩ : ∃ n, n = chk isC l 0 := ⟨_, rfl⟩
    rw [← hme, ← hne] at CL
    rw [← hne] at hbad
    replace CL := Aside0.mk CL
    replace CM := Aside0.mk CM
    clear hme hne hm hr
    have hf2 : (f != 0) = true := bne_iff_ne.2 hf
    have hways : n ≠ 0 ∨ (n = 0 ∧ limit < 0) ∨ (n = 0 ∧ ¬ limit < 0 ∧ 72057594037927936 < limit) := by omega
    clear hbad
    rcases hways with h1 | ⟨rfl, h1⟩ | ⟨rfl, h1, h2⟩
    all_goals
      go_enter Try.func10, Try.ntmps10
      go_wp2_with (first | (go_at_call 25; refine (CL.out _ hb).mono ?_; rintro e w' ⟨rfl, hbn⟩; replace hb := bnx hb hbn; clear hbn) | (go_at_call 27; refine (CM.out _ hb).mono ?_; rintro e w' ⟨rfl, hbn⟩; replace hb := bnx hb hbn; clear hbn) | (go_at_call 17; refine (awake_calls _).mono ?_; rintro e w' ⟨rfl, hbn⟩; replace hb := bnx hb hbn; clear hbn))
      go_ret
      exact ⟨rfl, hb⟩
  have hk : chk isC l 0 = 0 := by omega
  have hl0 : ¬ limit < 0 := by omega
  have hl1 : ¬ 72057594037927936 < limit := by omega
  obtain ⟨hs, hlen, hp⟩ := chk_zero hk
  have hpb : ∀ n ∈ l, -2097152 ≤ n ∧ n ≤ 2097152 := fun n hn => isC_bd (hp n hn)
  have hpk := peak_bd l hpb 0 (by decide) (by decide)
  have hleast : leastR l = leastI l := by unfold leastR; rw [if_pos hk]
  have CN : ∀ (s : Int) (W : World), 0 ≤ s → s ≤ 95 → Below w.heap.size w W → Calls Try.prog 22 #[.slice A l.length cap, .int .i64 s] W fun e w' => e = .returned (.tuple #[.int .i64 (noiseI (stepI s) l), .int .i64 0]) ∧ Below W.heap.size W w' := fun s W h0 h1 hb => by
    have hks : chk isC l s = 0 := chk_mk ⟨h0, h1⟩ hlen hp
    have := Noise_calls A cap l s W (Kd.C_below hr hb)
    unfold noiseR at this
    rwa [if_pos hks, hks] at this
  have CV : ∀ s : Int, 0 ≤ s → s ≤ 95 → VC 1023 s (V (stepI s) 1023) 0 := fun s h0 h1 w => Value_at _ s _ w ⟨by simp [isS, h0, h1], by decide, by rw [show absI 1023 = 1023 by decide]; unfold sg; rw [if_neg (by omega)]⟩
  have HI : ∀ s : Int, 0 ≤ s → s ≤ 95 → (s < leastI l ∧ V (stepI s) 1023 < peakI l) ∨ (leastI l ≤ s ∧ peakI l ≤ V (stepI s) 1023) := fun s h0 h1 => least_iff hpk.2 h0 h1
  have HM := most_ways l limit (by omega) (by omega) hk
  rw [hk, hleast] at CL
  obtain ⟨low, hlow⟩ : ∃ n, n = leastI l := ⟨_, rfl⟩
  rw [← hlow] at CL HI HM
  replace hpb := Aside0.mk hpb
  replace hr := Aside0.mk hr
  replace CL := Aside0.mk CL
  replace CN := Aside0.mk CN
  replace CV := Aside0.mk CV
  have hlI : (l.length : Int) ≤ 24 := by omega
  clear hbad hlow hleast hs hlen hp hpk hk h24
  have HM2 : (∃ m : Int, mostR l limit = .tuple #[.int .i64 m, .int .i64 0] ∧ ∀ s, 0 ≤ s → s ≤ 95 → ∃ T n, VC 1023 s T 0 ∧ (∀ W, Below w.heap.size w W → Calls Try.prog 22 #[.slice A l.length cap, .int .i64 s] W fun e w' => e = .returned (.tuple #[.int .i64 n, .int .i64 0]) ∧ Below W.heap.size W w') ∧
        ((decide (low ≤ s) = false ∧ decide (peakI l ≤ T) = false ∧ ¬ s = m) ∨ (low ≤ s ∧ peakI l ≤ T ∧ n ≤ limit ∧ ¬ m < s ∧ s = m) ∨ (low ≤ s ∧ peakI l ≤ T ∧ n ≤ limit ∧ ¬ m < s ∧ ¬ s = m) ∨ (low ≤ s ∧ peakI l ≤ T ∧ ¬ n ≤ limit ∧ ¬ s = m))) ∨
      (mostR l limit = .tuple #[.int .i64 0, .int .i64 5] ∧ ∀ s, 0 ≤ s → s ≤ 95 → ∃ T n, VC 1023 s T 0 ∧ (∀ W, Below w.heap.size w W → Calls Try.prog 22 #[.slice A l.length cap, .int .i64 s] W fun e w' => e = .returned (.tuple #[.int .i64 n, .int .i64 0]) ∧ Below W.heap.size W w') ∧
        ((decide (low ≤ s) = false ∧ decide (peakI l ≤ T) = false) ∨ (low ≤ s ∧ peakI l ≤ T ∧ ¬ n ≤ limit))) := by
    rcases HM with ⟨h, hn⟩ | ⟨m, h, m0, m1, m2, m3⟩
    · refine .inr ⟨h, fun s s0 s1 => ⟨_, _, CV.out s s0 s1, fun W hb => CN.out s W s0 s1 hb, ?_⟩⟩
      rcases HI s s0 s1 with ⟨i0, i1⟩ | ⟨i0, i1⟩
      · exact .inl ⟨decide_eq_false (by omega), decide_eq_false (by omega)⟩
      · exact .inr ⟨i0, i1, hn s i0 s1⟩
    · refine .inl ⟨m, h, fun s s0 s1 => ⟨_, _, CV.out s s0 s1, fun W hb => CN.out s W s0 s1 hb, ?_⟩⟩
      rcases HI s s0 s1 with ⟨i0, i1⟩ | ⟨i0, i1⟩
      · exact .inl ⟨decide_eq_false (by omega), decide_eq_false (by omega), by omega⟩
      · by_cases hn : noiseI (stepI s) l ≤ limit
        · have hm : ¬ m < s := fun h => m3 s h s1 hn
          by_cases e : s = m
          · exact .inr (.inl ⟨i0, i1, hn, hm, e⟩)
          · exact .inr (.inr (.inl ⟨i0, i1, hn, hm, e⟩))
        · refine .inr (.inr (.inr ⟨i0, i1, hn, fun e => hn ?_⟩))
          rw [e]; exact m2
  clear HM HI CN CV
  replace HM2 := Aside0.mk HM2
  have hcmp := HM2.out
  clear HM2
  rcases hcmp with ⟨m, hm, HW⟩ | ⟨hm, HW⟩
  · rw [hm] at CM
    replace CM := Aside0.mk CM
    replace HW := Aside0.mk HW
    clear hm
    go_enter Try.func10, Try.ntmps10
    go_wp2_with (first | (go_at_call 25; refine (CL.out _ hb).mono ?_; rintro e w' ⟨rfl, hbn⟩; replace hb := bnx hb hbn; clear hbn) | (go_at_call 27; refine (CM.out _ hb).mono ?_; rintro e w' ⟨rfl, hbn⟩; replace hb := bnx hb hbn; clear hbn))
    go_loopw [9, 49] (fun s i wr => ∃ (k : Nat) (z : Int), i = .int .i64 k ∧ s = .int .i64 z ∧ k ≤ l.length ∧ 0 ≤ z ∧ z ≤ 2097152 ∧ Aside0 (z = peakI (l.take k)) ∧ Below w.heap.size w wr) (fun _ i _ => l.length - (intOf i).toNat)
    case atStart => exact ⟨0, 0, rfl, rfl, by omega, by omega, by omega, ⟨by simp [peakI]⟩, hb⟩
    case round =>
      obtain ⟨k, z, rfl, rfl, hk, hz0, hz1, hn, hbj⟩ := hrel
      clear hb
      have hb := hbj
      clear hbj
      by_cases hlt : k < l.length
      · obtain ⟨ad, rfl, hcell⟩ := el_at hr.out hb hlt
        have hc := hpb.out _ (rd_mem l k hlt)
        have hT := take_rd l k hlt
        obtain ⟨n, hx⟩ : ∃ n, n = rd l k := ⟨_, rfl⟩
        rw [← hx] at hcell hc hT
        have hT2 : peakI (l.take (k + 1)) = max (max z n) (-n) := by
          rw [hT, hn.out]
          unfold peakI
          rw [List.foldl_append]
          rfl
        replace hT2 := Aside0.mk hT2
        clear hx hT hn
        go_wp2
        go_roundw
        case rel => exact ⟨k + 1, max z (max n (-n)), by go_num, rfl, by omega, by omega, by omega, ⟨by rw [hT2.out]; omega⟩, hb⟩
        case measure => simp [intOf]; omega
      · obtain rfl : k = l.length := by omega
        rw [List.take_length] at hn
        rw [← hn.out] at HW
        clear hlt hk hn
        go_wp2_with fail
        go_loopw [59] (fun i wr => ∃ k : Nat, i = .int .i64 k ∧ k ≤ 96 ∧ Below w.heap.size w wr) (fun i _ => 96 - (intOf i).toNat)
        case atStart => exact ⟨0, rfl, by omega, hb⟩
        case round =>
          obtain ⟨k, rfl, hk, hbj⟩ := hrel
          clear hb
          have hb := hbj
          clear hbj
          by_cases hlt : k < 96
          · obtain ⟨T, n, hV, hN, hway⟩ := HW.out (k : Int) (by omega) (by omega)
            replace hV := Aside0.mk hV
            replace hN := Aside0.mk hN
            rcases hway with ⟨y1, y2, y3⟩ | ⟨y1, y2, y3, y4, rfl⟩ | ⟨y1, y2, y3, y4, y5⟩ | ⟨y1, y2, y3, y4⟩
            all_goals
              go_wp2_with (first | (go_at_call 13; refine (hV.out _).mono ?_; rintro e w' ⟨rfl, hbn⟩; replace hb := bnx hb hbn; clear hbn) | (go_at_call 22; refine (hN.out _ hb).mono ?_; rintro e w' ⟨rfl, hbn⟩; replace hb := bnx hb hbn; clear hbn))
              all_goals
                go_roundw
                case rel => exact ⟨k + 1, by go_num, by omega, hb⟩
                case measure => simp [intOf]; omega
          · obtain rfl : k = 96 := by omega
            go_wp2_with (first | (go_at_call 17; refine (awake_calls _).mono ?_; rintro e w' ⟨rfl, hbn⟩; replace hb := bnx hb hbn; clear hbn))
            go_ret
            exact ⟨rfl, hb⟩
  · rw [hm] at CM
    replace CM := Aside0.mk CM
    replace HW := Aside0.mk HW
    clear hm
    go_enter Try.func10, Try.ntmps10
    go_wp2_with (first | (go_at_call 25; refine (CL.out _ hb).mono ?_; rintro e w' ⟨rfl, hbn⟩; replace hb := bnx hb hbn; clear hbn) | (go_at_call 27; refine (CM.out _ hb).mono ?_; rintro e w' ⟨rfl, hbn⟩; replace hb := bnx hb hbn; clear hbn))
    go_loopw [9, 49] (fun s i wr => ∃ (k : Nat) (z : Int), i = .int .i64 k ∧ s = .int .i64 z ∧ k ≤ l.length ∧ 0 ≤ z ∧ z ≤ 2097152 ∧ Aside0 (z = peakI (l.take k)) ∧ Below w.heap.size w wr) (fun _ i _ => l.length - (intOf i).toNat)
    case atStart => exact ⟨0, 0, rfl, rfl, by omega, by omega, by omega, ⟨by simp [peakI]⟩, hb⟩
    case round =>
      obtain ⟨k, z, rfl, rfl, hk, hz0, hz1, hn, hbj⟩ := hrel
      clear hb
      have hb := hbj
      clear hbj
      by_cases hlt : k < l.length
      · obtain ⟨ad, rfl, hcell⟩ := el_at hr.out hb hlt
        have hc := hpb.out _ (rd_mem l k hlt)
        have hT := take_rd l k hlt
        obtain ⟨n, hx⟩ : ∃ n, n = rd l k := ⟨_, rfl⟩
        rw [← hx] at hcell hc hT
        have hT2 : peakI (l.take (k + 1)) = max (max z n) (-n) := by
          rw [hT, hn.out]
          unfold peakI
          rw [List.foldl_append]
          rfl
        replace hT2 := Aside0.mk hT2
        clear hx hT hn
        go_wp2
        go_roundw
        case rel => exact ⟨k + 1, max z (max n (-n)), by go_num, rfl, by omega, by omega, by omega, ⟨by rw [hT2.out]; omega⟩, hb⟩
        case measure => simp [intOf]; omega
      · obtain rfl : k = l.length := by omega
        rw [List.take_length] at hn
        rw [← hn.out] at HW
        clear hlt hk hn
        go_wp2_with fail
        go_loopw [59] (fun i wr => ∃ k : Nat, i = .int .i64 k ∧ k ≤ 96 ∧ Below w.heap.size w wr) (fun i _ => 96 - (intOf i).toNat)
        case atStart => exact ⟨0, rfl, by omega, hb⟩
        case round =>
          obtain ⟨k, rfl, hk, hbj⟩ := hrel
          clear hb
          have hb := hbj
          clear hbj
          by_cases hlt : k < 96
          · obtain ⟨T, n, hV, hN, hway⟩ := HW.out (k : Int) (by omega) (by omega)
            replace hV := Aside0.mk hV
            replace hN := Aside0.mk hN
            rcases hway with ⟨y1, y2⟩ | ⟨y1, y2, y3⟩
            all_goals
              go_wp2_with (first | (go_at_call 13; refine (hV.out _).mono ?_; rintro e w' ⟨rfl, hbn⟩; replace hb := bnx hb hbn; clear hbn) | (go_at_call 22; refine (hN.out _ hb).mono ?_; rintro e w' ⟨rfl, hbn⟩; replace hb := bnx hb hbn; clear hbn))
              all_goals
                go_roundw
                case rel => exact ⟨k + 1, by go_num, by omega, hb⟩
                case measure => simp [intOf]; omega
          · obtain rfl : k = 96 := by omega
            go_wp2_with (first | (go_at_call 17; refine (awake_calls _).mono ?_; rintro e w' ⟨rfl, hbn⟩; replace hb := bnx hb hbn; clear hbn))
            go_ret
            exact ⟨rfl, hb⟩

end Go.Proofs.Ytglpdojccncjjaa.Q15
