/- The laws QuantLists and QuantScales. -/
import Derived.Test.YtglpdojccncjjaaQuantU
import Derived.WalkKit
import Derived.WalkSpells
import Derived.WalkLawsBesides
import Derived.KernelRfl
import Derived.Deep.RegionHeld3
import Derived.Deep.LoopGhost
import Derived.Deep.AppendLies
import Derived.Laws.Rows
import Derived.Shelf.GgClosure.Gives
import Derived.Test.YtglpdojccncjjaaWWords
import Derived.Test.YtglpdojccncjjaaWLast
import Derived.Test.YtglpdojccncjjaaWMore
set_option linter.unusedVariables false
set_option linter.unusedSimpArgs false
namespace Go.Proofs.Ytglpdojccncjjaa.Q15
open Go.RowKit Go.Proofs.YtglpdojccncjjaaW.PrintWords Go.Proofs.YtglpdojccncjjaaW.PrintLast Go.Proofs.YtglpdojccncjjaaW.PrintMore
attribute [local go_sem] max2_int min2_int max_two min_two max_three min_three

set_option maxRecDepth 100000 in
set_option maxHeartbeats 2000000 in
theorem QuantLists_row {w : World} (A0 : Option Addr) (c0 : Nat) (l0 : List Int) (hr0 : (Kd.int .i64).C w A0 l0.length l0) (A1 : Option Addr) (c1 : Nat) (l1 : List Int) (hr1 : (Kd.int .i64).C w A1 l1.length l1) (s : Int) (hs : -9223372036854775808 ≤ s ∧ s ≤ 9223372036854775807) :
    Calls Try.prog 4 #[.slice A0 l0.length c0, .slice A1 l1.length c1, .int .i64 s] w fun e w' => e = .returned (.bool true) ∧ Below w.heap.size w w' := by
  have hb := Below.refl w.heap.size w
  by_cases h0 : 200 < l0.length
  · have h0' : (200 : Int) < (l0.length : Int) := by omega
    clear hr0 hr1 h0
    go_enter Try.func4, Try.ntmps4
    go_wp2_with (first | (go_at_call 17; refine (awake_calls _).mono ?_; rintro e w' ⟨rfl, hbn⟩; replace hb := bnx hb hbn; clear hbn))
    go_ret
    exact ⟨rfl, hb⟩
  · by_cases h1 : 200 < l1.length
    · have h0' : decide ((200 : Int) < (l0.length : Int)) = false := by simp; omega
      have h1' : (200 : Int) < (l1.length : Int) := by omega
      clear hr0 hr1 h0 h1
      go_enter Try.func4, Try.ntmps4
      go_wp2_with (first | (go_at_call 17; refine (awake_calls _).mono ?_; rintro e w' ⟨rfl, hbn⟩; replace hb := bnx hb hbn; clear hbn))
      go_ret
      exact ⟨rfl, hb⟩
    · have h0' : decide ((200 : Int) < (l0.length : Int)) = false := by simp; omega
      have h1' : decide ((200 : Int) < (l1.length : Int)) = false := by simp; omega
      have h0n : (l0.length : Int) ≤ 200 := by omega
      have h1n : (l1.length : Int) ≤ 200 := by omega
      have C1 := fun W hb => Quantize_calls A0 c0 l0 s W (Kd.C_below hr0 hb)
      have C2 := fun W hb => rQuantize_calls A0 c0 l0 s W (Kd.C_below hr0 hb)
      have C3 := fun W hb => Values_calls A1 c1 l1 s W (Kd.C_below hr1 hb)
      have C4 := fun W hb => rValues_calls A1 c1 l1 s W (Kd.C_below hr1 hb)
      have C5 := fun W hb => Noise_calls A0 c0 l0 s W (Kd.C_below hr0 hb)
      have C6 := fun W hb => rNoise_calls A0 c0 l0 s W (Kd.C_below hr0 hb)
      have hq := quanta_len l0 s
      have hv := valuesL_len l1 s
      obtain ⟨q, hqe⟩ : ∃ q, q = quanta l0 s := ⟨_, rfl⟩
      obtain ⟨v, hve⟩ : ∃ v, v = valuesL l1 s := ⟨_, rfl⟩
      obtain ⟨n, hne⟩ : ∃ n, n = noiseR l0 s := ⟨_, rfl⟩
      obtain ⟨e1, he1⟩ : ∃ n, n = chk isC l0 s := ⟨_, rfl⟩
      obtain ⟨e2, he2⟩ : ∃ n, n = chk isQ l1 s := ⟨_, rfl⟩
      rw [← hqe] at C1 C2 hq
      rw [← hve] at C3 C4 hv
      rw [← hne] at C5 C6
      rw [← he1] at C1 C2 C5 C6
      rw [← he2] at C3 C4
      replace C1 := Aside0.mk C1
      replace C2 := Aside0.mk C2
      replace C3 := Aside0.mk C3
      replace C4 := Aside0.mk C4
      replace C5 := Aside0.mk C5
      replace C6 := Aside0.mk C6
      clear hqe hve hne he1 he2 hr0 hr1 h0 h1
      go_enter Try.func4, Try.ntmps4
      go_wp2_with fail
      refine (C1.out _ hb).mono ?_; rintro e w1 ⟨u1, rfl, R1, hbn⟩; replace hb := bnx hb hbn; clear hbn
      obtain ⟨B1, p1, rfl, _, K1⟩ := Kd.R_reads R1
      replace K1 := Aside0.mk K1
      clear R1
      go_wp2_with fail
      refine (C2.out _ hb).mono ?_; rintro e w2 ⟨u2, rfl, R2, hbn⟩; replace hb := bnx hb hbn
      obtain ⟨B2, p2, rfl, _, K2⟩ := Kd.R_reads R2
      replace K2 := Aside0.mk K2
      replace K1 := Aside0.mk (Kd.C_below K1.out hbn)
      clear R2 hbn
      go_wp2_with fail
      refine (C3.out _ hb).mono ?_; rintro e w3 ⟨u3, rfl, R3, hbn⟩; replace hb := bnx hb hbn
      obtain ⟨B3, p3, rfl, _, K3⟩ := Kd.R_reads R3
      replace K3 := Aside0.mk K3
      replace K1 := Aside0.mk (Kd.C_below K1.out hbn)
      replace K2 := Aside0.mk (Kd.C_below K2.out hbn)
      clear R3 hbn
      go_wp2_with fail
      refine (C4.out _ hb).mono ?_; rintro e w4 ⟨u4, rfl, R4, hbn⟩; replace hb := bnx hb hbn
      obtain ⟨B4, p4, rfl, _, K4⟩ := Kd.R_reads R4
      replace K4 := Aside0.mk K4
      replace K1 := Aside0.mk (Kd.C_below K1.out hbn)
      replace K2 := Aside0.mk (Kd.C_below K2.out hbn)
      replace K3 := Aside0.mk (Kd.C_below K3.out hbn)
      clear R4 hbn
      go_wp2_with fail
      refine (C5.out _ hb).mono ?_; rintro e w5 ⟨rfl, hbn⟩; replace hb := bnx hb hbn
      replace K1 := Aside0.mk (Kd.C_below K1.out hbn)
      replace K2 := Aside0.mk (Kd.C_below K2.out hbn)
      replace K3 := Aside0.mk (Kd.C_below K3.out hbn)
      replace K4 := Aside0.mk (Kd.C_below K4.out hbn)
      clear hbn
      go_wp2_with fail
      refine (C6.out _ hb).mono ?_; rintro e w6 ⟨rfl, hbn⟩; replace hb := bnx hb hbn
      replace K1 := Aside0.mk (Kd.C_below K1.out hbn)
      replace K2 := Aside0.mk (Kd.C_below K2.out hbn)
      replace K3 := Aside0.mk (Kd.C_below K3.out hbn)
      replace K4 := Aside0.mk (Kd.C_below K4.out hbn)
      clear hbn
      go_wp2_with fail
      refine (ints_eq _ _ _ _ _ _ _ K1.out K2.out (by omega) rfl).mono ?_; rintro e w7 ⟨rfl, hbn⟩; replace hb := bnx hb hbn
      replace K3 := Aside0.mk (Kd.C_below K3.out hbn)
      replace K4 := Aside0.mk (Kd.C_below K4.out hbn)
      clear hbn
      go_wp2_with fail
      refine (ints_eq _ _ _ _ _ _ _ K3.out K4.out (by omega) rfl).mono ?_; rintro e w8 ⟨rfl, hbn⟩; replace hb := bnx hb hbn; clear hbn
      go_wp2_with (first | (go_at_call 17; refine (awake_calls _).mono ?_; rintro e w' ⟨rfl, hbn⟩; replace hb := bnx hb hbn; clear hbn))
      go_ret
      exact ⟨rfl, hb⟩

set_option maxRecDepth 100000 in
set_option maxHeartbeats 2000000 in
theorem QuantScales_row {w : World} (A : Option Addr) (c : Nat) (l : List Int) (hr : (Kd.int .i64).C w A l.length l) (limit : Int) (hs : -9223372036854775808 ≤ limit ∧ limit ≤ 9223372036854775807) :
    Calls Try.prog 5 #[.slice A l.length c, .int .i64 limit] w fun e w' => e = .returned (.bool true) ∧ Below w.heap.size w w' := by
  have hb := Below.refl w.heap.size w
  have C1 := fun W hb => Least_calls A c l W (Kd.C_below hr hb)
  have C2 := fun W hb => rLeast_calls A c l W (Kd.C_below hr hb)
  have C3 := fun W hb => Most_calls A c l limit W (Kd.C_below hr hb)
  have C4 := fun W hb => rMost_calls A c l limit W (Kd.C_below hr hb)
  obtain ⟨u, v, huv⟩ := mostR_pair l limit
  obtain ⟨n, hne⟩ : ∃ n, n = leastR l := ⟨_, rfl⟩
  obtain ⟨e1, he1⟩ : ∃ n, n = chk isC l 0 := ⟨_, rfl⟩
  rw [← hne, ← he1] at C1 C2
  rw [huv] at C3 C4
  replace C1 := Aside0.mk C1
  replace C2 := Aside0.mk C2
  replace C3 := Aside0.mk C3
  replace C4 := Aside0.mk C4
  obtain ⟨m, hm⟩ : ∃ m, m = l.length := ⟨_, rfl⟩
  rw [← hm] at C1 C2 C3 C4 ⊢
  clear hne he1 huv hr hm
  by_cases h0 : (24 : Int) < m
  · by_cases h1 : (m : Int) ≤ 128
    · go_enter Try.func5, Try.ntmps5
      go_wp2_with (first | (go_at_call 17; refine (awake_calls _).mono ?_; rintro e w' ⟨rfl, hbn⟩; replace hb := bnx hb hbn; clear hbn))
      go_ret
      exact ⟨rfl, hb⟩
    · have h1' : decide ((m : Int) ≤ 128) = false := by simp; omega
      by_cases h2 : (200 : Int) < m
      · go_enter Try.func5, Try.ntmps5
        go_wp2_with (first | (go_at_call 17; refine (awake_calls _).mono ?_; rintro e w' ⟨rfl, hbn⟩; replace hb := bnx hb hbn; clear hbn))
        go_ret
        exact ⟨rfl, hb⟩
      · have h2' : decide ((200 : Int) < (m : Int)) = false := by simp; omega
        go_enter Try.func5, Try.ntmps5
        go_wp2_with (first | (go_at_call 25; refine (C1.out _ hb).mono ?_; rintro e w' ⟨rfl, hbn⟩; replace hb := bnx hb hbn; clear hbn) | (go_at_call 26; refine (C2.out _ hb).mono ?_; rintro e w' ⟨rfl, hbn⟩; replace hb := bnx hb hbn; clear hbn) | (go_at_call 27; refine (C3.out _ hb).mono ?_; rintro e w' ⟨rfl, hbn⟩; replace hb := bnx hb hbn; clear hbn) | (go_at_call 28; refine (C4.out _ hb).mono ?_; rintro e w' ⟨rfl, hbn⟩; replace hb := bnx hb hbn; clear hbn) | (go_at_call 17; refine (awake_calls _).mono ?_; rintro e w' ⟨rfl, hbn⟩; replace hb := bnx hb hbn; clear hbn))
        go_ret
        exact ⟨rfl, hb⟩
  · have h0' : decide ((24 : Int) < (m : Int)) = false := by simp; omega
    have h2' : decide ((200 : Int) < (m : Int)) = false := by simp; omega
    go_enter Try.func5, Try.ntmps5
    go_wp2_with (first | (go_at_call 25; refine (C1.out _ hb).mono ?_; rintro e w' ⟨rfl, hbn⟩; replace hb := bnx hb hbn; clear hbn) | (go_at_call 26; refine (C2.out _ hb).mono ?_; rintro e w' ⟨rfl, hbn⟩; replace hb := bnx hb hbn; clear hbn) | (go_at_call 27; refine (C3.out _ hb).mono ?_; rintro e w' ⟨rfl, hbn⟩; replace hb := bnx hb hbn; clear hbn) | (go_at_call 28; refine (C4.out _ hb).mono ?_; rintro e w' ⟨rfl, hbn⟩; replace hb := bnx hb hbn; clear hbn) | (go_at_call 17; refine (awake_calls _).mono ?_; rintro e w' ⟨rfl, hbn⟩; replace hb := bnx hb hbn; clear hbn))
    go_ret
    exact ⟨rfl, hb⟩

end Go.Proofs.Ytglpdojccncjjaa.Q15
