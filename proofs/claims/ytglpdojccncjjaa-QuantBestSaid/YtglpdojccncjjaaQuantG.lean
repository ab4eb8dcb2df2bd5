/- What each function of package quant returns: Least. -/
import Derived.Test.YtglpdojccncjjaaQuantF
import Derived.WalkKit
import Derived.WalkSpells
import Derived.WalkLawsBesides
import Derived.KernelRfl
import Derived.Deep.RegionHeld3
import Derived.Deep.LoopGhost
import Derived.Deep.AppendLies
import Derived.Laws.Rows
import Derived.Shelf.GgClosure.Gives
import Derived.Test.YtglpdojccncjjaaWWords
import Derived.Test.YtglpdojccncjjaaWLast
import Derived.Test.YtglpdojccncjjaaWMore
namespace Go.Proofs.Ytglpdojccncjjaa.Q15
open Go.RowKit Go.Proofs.YtglpdojccncjjaaW.PrintWords Go.Proofs.YtglpdojccncjjaaW.PrintLast Go.Proofs.YtglpdojccncjjaaW.PrintMore
attribute [local go_sem] max2_int min2_int max_two min_two max_three min_three

set_option maxHeartbeats 400000 in
theorem peak_calls (A : Option Addr) (cap : Nat) (l : List Int) (w : World) (hr : (Kd.int .i64).C w A l.length l) (hl : l.length ≤ 1099511627776) (hp : ∀ n ∈ l, -2097152 ≤ n ∧ n ≤ 2097152) :
    Calls Try.prog 72 #[.slice A l.length cap] w fun e w' => e = .returned (.int .i64 (peakI l)) ∧ Below w.heap.size w w' := by
  have HP := Aside0.mk hp
  have HR := Aside0.mk hr
  clear hp hr
  go_enter Try.func72, Try.ntmps72
  go_wp2
  go_loopw [3, 8] (fun s i wr => ∃ (k : Nat) (z : Int), i = .int .i64 k ∧ s = .int .i64 z ∧ k ≤ l.length ∧ 0 ≤ z ∧ z ≤ 2097152 ∧ Aside0 (z = peakI (l.take k)) ∧ Below w.heap.size w wr) (fun _ i _ => l.length - (intOf i).toNat)
  case atStart => exact ⟨0, 0, rfl, rfl, by omega, by omega, by omega, ⟨by simp [peakI]⟩, Below.refl _ _⟩
  case round =>
    obtain ⟨k, z, rfl, rfl, hk, hz0, hz1, hn, hb⟩ := hrel
    by_cases hlt : k < l.length
    · obtain ⟨ad, rfl, hcell⟩ := el_at HR.out hb hlt
      have hc := HP.out _ (rd_mem l k hlt)
      have hT := take_rd l k hlt
      obtain ⟨n, hx⟩ : ∃ n, n = rd l k := ⟨_, rfl⟩
      rw [← hx] at hcell hc hT
      have hT2 : peakI (l.take (k + 1)) = max (max z n) (-n) := by
        rw [hT, hn.out]
        unfold peakI
        rw [List.foldl_append]
        rfl
      obtain ⟨j, hj⟩ : ∃ j, (if z < n then n else z) = j := ⟨_, rfl⟩
      obtain ⟨j2, hj2⟩ : ∃ j2, (if j < -n then -n else j) = j2 := ⟨_, rfl⟩
      have hb2 : 0 ≤ j2 ∧ j2 ≤ 2097152 := by omega
      have hT3 : Aside0 (j2 = peakI (l.take (k + 1))) := ⟨by rw [hT2]; omega⟩
      clear hx hT hT2 hn
      go_wp2
      go_roundw
      case rel => exact ⟨k + 1, j2, by go_num, rfl, by omega, hb2.1, hb2.2, hT3, hb⟩
      case measure => simp [intOf]; omega
    · obtain rfl : k = l.length := by omega
      rw [List.take_length] at hn
      go_wp2
      go_ret
      exact ⟨ret_int hn.out, hb⟩

set_option maxHeartbeats 400000 in
theorem least1_calls (s top : Int) (B : Nat) (w : World) (hc : w.cell? ⟨B, 0, none⟩ = some (.int .i64 top)) (h2 : 0 ≤ s) (h3 : s ≤ 95) :
    Calls Try.prog 73 #[.int .i64 s, .pointer (some ⟨B, 0, none⟩)] w fun e w' => e = .returned (.bool (decide (V (stepI s) 1023 ≥ top))) ∧ Below w.heap.size w w' := by
  have l1 := World.block_lt_of_cell? w _ hc
  have HV := fun w => value_calls 1023 s w (by omega) (by omega) h2 h3
  rw [show sg 1023 (V (stepI s) (absI 1023)) = V (stepI s) 1023 from by unfold sg absI; rw [if_neg (by omega), show max (1023 : Int) (-1023) = 1023 from by decide]] at HV
  obtain ⟨v, hv⟩ : ∃ v, v = V (stepI s) 1023 := ⟨_, rfl⟩
  rw [← hv] at HV ⊢
  replace HV := Aside0.mk HV
  clear hv
  go_enter Try.func73, Try.ntmps73
  go_wp2_with fail
  go_region_held3 (fun w' => w'.cell? ⟨B, 0, none⟩ = some (.int .i64 top) ∧ Below w.heap.size w w')
    (first | exact ⟨hc, Below.refl _ _⟩ | exact ⟨hc, (Below.refl _ _).drew⟩ | exact ⟨(hb.cell l1).trans hc, (Below.refl _ w).drew.trans hb⟩)
    (first | (go_at_call 34; refine (HV.out _).mono ?_; rintro e w' ⟨rfl, hb⟩))
  rename_i hh
  obtain ⟨_, hh⟩ := hh
  go_wp2
  go_ret
  exact ⟨rfl, hh⟩

set_option maxHeartbeats 400000 in
theorem least_calls (A : Option Addr) (cap : Nat) (l : List Int) (w : World) (hr : (Kd.int .i64).C w A l.length l) (hl : l.length ≤ 1099511627776) (hp : ∀ n ∈ l, -2097152 ≤ n ∧ n ≤ 2097152) :
    Calls Try.prog 53 #[.slice A l.length cap] w fun e w' => e = .returned (.int .i64 (leastI l)) ∧ Below w.heap.size w w' := by
  have HP := fun W hb => peak_calls A cap l W (Kd.C_below hr hb) hl hp
  unfold leastI
  obtain ⟨top, ht⟩ : ∃ top, top = peakI l := ⟨_, rfl⟩
  rw [← ht] at HP ⊢
  replace HP := Aside0.mk HP
  clear ht hp hr
  have HF : ∀ W B, W.cell? ⟨B, 0, none⟩ = some (.int .i64 top) → Calls Try.prog 62 #[.int .i64 0, .int .i64 95, .func (.func 73) #[] #[.pointer (some ⟨B, 0, none⟩)]] W fun e w' => e = .returned (.int .i64 (leastT top)) ∧ Below W.heap.size W w' := fun W B hB => by
    unfold leastT
    refine first_calls _ #[] _ _ 0 95 W (fun _ _ => by kernel_rfl) (by omega) (by omega) (by omega) (fun k k0 k1 W' hb => ?_) (fun a b a0 ab b1 ha => ?_)
    · exact least1_calls k top B W' (cnx hB hb) k0 (by omega)
    · have := top_mono a0 ab (by omega)
      simp only [decide_eq_true_eq] at ha ⊢
      omega
  replace HF := Aside0.mk HF
  go_enter Try.func53, Try.ntmps53
  go_wp2_with (first | (go_at_call 72; refine (HP.out _ (Below.refl _ _)).mono ?_; rintro e w' ⟨rfl, hb0⟩) | (go_at_call 62; have hb1 := hb0.alloc hb0.size (.cells #[.int .i64 top] 3); refine (HF.out _ _ (by simp)).mono ?_; rintro e w2 ⟨rfl, hb2⟩))
  go_ret
  exact ⟨rfl, bnx hb1 hb2⟩

set_option maxHeartbeats 400000 in
theorem Least_no (A : Option Addr) (cap : Nat) (l : List Int) (w : World) (hr : (Kd.int .i64).C w A l.length l) (hk : chk isC l 0 ≠ 0) :
    Calls Try.prog 25 #[.slice A l.length cap] w fun e w' => e = .returned (.tuple #[.int .i64 0, .int .i64 (chk isC l 0)]) ∧ Below w.heap.size w w' := by
  obtain ⟨e0, he0⟩ : ∃ e0, e0 = chk isC l 0 := ⟨_, rfl⟩
  have HC := fun W hb => check_calls 37 isC A cap l 0 W (fun _ _ => by kernel_rfl) (Kd.C_below hr hb) fn_isC
  rw [← he0] at HC hk ⊢
  replace HC := Aside0.mk HC
  have hk' : (e0 == 0) = false := beq_eq_false_iff_ne.2 hk
  clear he0 hr
  go_enter Try.func25, Try.ntmps25
  go_wp2_with (first | (go_at_call 43; refine (HC.out _ (Below.refl _ _)).mono ?_; rintro e w' ⟨rfl, hb0⟩))
  go_ret2
  exact ⟨rfl, hb0⟩

set_option maxHeartbeats 400000 in
theorem Least_yes (A : Option Addr) (cap : Nat) (l : List Int) (w : World) (hr : (Kd.int .i64).C w A l.length l) (hk : chk isC l 0 = 0) :
    Calls Try.prog 25 #[.slice A l.length cap] w fun e w' => e = .returned (.tuple #[.int .i64 (leastI l), .int .i64 0]) ∧ Below w.heap.size w w' := by
  obtain ⟨hs, hl, hp⟩ := chk_zero hk
  have HC := fun W hb => check_calls 37 isC A cap l 0 W (fun _ _ => by kernel_rfl) (Kd.C_below hr hb) fn_isC
  rw [hk] at HC
  replace HC := Aside0.mk HC
  have HL := fun W hb => least_calls A cap l W (Kd.C_below hr hb) (by omega) (fun n hn => isC_bd (hp n hn))
  replace HL := Aside0.mk HL
  clear hk hr hp
  go_enter Try.func25, Try.ntmps25
  go_wp2_with (first | (go_at_call 43; refine (HC.out _ (Below.refl _ _)).mono ?_; rintro e w' ⟨rfl, hb0⟩) | (go_at_call 53; refine (HL.out _ hb0).mono ?_; rintro e w' ⟨rfl, hb1⟩))
  go_ret2
  exact ⟨rfl, bnx hb0 hb1⟩

end Go.Proofs.Ytglpdojccncjjaa.Q15
