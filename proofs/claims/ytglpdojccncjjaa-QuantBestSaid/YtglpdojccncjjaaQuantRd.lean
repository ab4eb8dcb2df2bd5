/- What each function of layer 15's reference returns: errors, quanta, values. -/
import Derived.Test.YtglpdojccncjjaaQuantRc
import Derived.WalkKit
import Derived.WalkSpells
import Derived.WalkLawsBesides
import Derived.KernelRfl
import Derived.Deep.RegionHeld3
import Derived.Deep.LoopGhost
import Derived.Deep.AppendLies
import Derived.Laws.Rows
import Derived.Shelf.GgClosure.Gives
import Derived.Test.YtglpdojccncjjaaWWords
import Derived.Test.YtglpdojccncjjaaWLast
import Derived.Test.YtglpdojccncjjaaWMore
import Derived.Deep.QuietTactic
import Derived.BigQuiet
namespace Go.Proofs.Ytglpdojccncjjaa.Q15
open Go.RowKit Go.Proofs.YtglpdojccncjjaaW.PrintWords Go.Proofs.YtglpdojccncjjaaW.PrintLast Go.Proofs.YtglpdojccncjjaaW.PrintMore
attribute [local go_sem] max2_int min2_int max_two min_two max_three min_three

def within (m : Int) (n : Int) : Bool := decide (-m ≤ n ∧ n ≤ m)

set_option maxHeartbeats 400000 in
theorem within_calls (m : Int) (A : Option Addr) (cap : Nat) (l : List Int) (w : World) (hr : (Kd.int .i64).C w A l.length l) (hl : l.length ≤ 1099511627776) (hm0 : 0 ≤ m) (hm1 : m ≤ 1099511627776) :
    Calls Try.prog 77 #[.int .i64 m, .slice A l.length cap] w fun e w' => e = .returned (.bool (l.all (within m))) ∧ Below w.heap.size w w' := by
  have HR := Aside0.mk hr
  clear hr
  go_enter Try.func77, Try.ntmps77
  go_wp2
  go_loopw [9] (fun i wr => ∃ k : Nat, i = .int .i64 k ∧ k ≤ l.length ∧ Aside0 ((l.take k).all (within m) = true) ∧ Below w.heap.size w wr) (fun i _ => l.length - (intOf i).toNat)
  case atStart => exact ⟨0, rfl, by omega, ⟨by simp⟩, Below.refl _ _⟩
  case round =>
    obtain ⟨k, rfl, hk, ha, hb⟩ := hrel
    by_cases hlt : k < l.length
    · obtain ⟨ad, rfl, hcell⟩ := el_at HR.out hb hlt
      have HT := Aside0.mk (take_rd l k hlt)
      have HRD := Aside0.mk (rd_mem l k hlt)
      obtain ⟨x, hx⟩ : ∃ x, x = rd l k := ⟨_, rfl⟩
      rw [← hx] at hcell HT HRD
      clear hx
      by_cases h1 : x < -m
      · have hno := HRD.out
        have HE : Aside0 (l.all (within m) = false) := ⟨List.all_eq_false.2 ⟨x, HRD.out, by unfold within; simp; omega⟩⟩
        clear hno
        go_wp2
        go_ret
        exact ⟨by rw [HE.out]; rfl, hb⟩
      · by_cases h2 : m < x
        · have HE : Aside0 (l.all (within m) = false) := ⟨List.all_eq_false.2 ⟨x, HRD.out, by unfold within; simp; omega⟩⟩
          go_wp2
          go_ret
          exact ⟨by rw [HE.out]; rfl, hb⟩
        · have hd1 : decide (x < -m) = false := by simp; omega
          have hd2 : decide (m < x) = false := by simp; omega
          have HX : Aside0 (within m x = true) := ⟨by unfold within; simp; omega⟩
          go_wp2
          go_roundw
          case rel => exact ⟨k + 1, by go_num, by omega, ⟨by rw [HT.out, List.all_append, ha.out]; simp [HX.out]⟩, hb⟩
          case measure => simp [intOf]; omega
    · obtain rfl : k = l.length := by omega
      go_wp2
      go_ret
      refine ⟨?_, hb⟩
      have := ha.out
      rw [List.take_length] at this
      rw [this]
      rfl

set_option maxHeartbeats 400000 in
theorem Within_calls (m : Int) (A : Option Addr) (cap : Nat) (l : List Int) (w : World) (hr : (Kd.int .i64).C w A l.length l) (hl : l.length ≤ 1099511627776) (hm0 : 0 ≤ m) (hm1 : m ≤ 1099511627776) :
    Calls Try.prog 69 #[.int .i64 m, .slice A l.length cap] w fun e w' => e = .returned (.bool (l.all (within m))) ∧ Below w.heap.size w w' := by
  have HW := fun W hb => within_calls m A cap l W (Kd.C_below hr hb) hl hm0 hm1
  replace HW := Aside0.mk HW
  clear hr
  go_enter Try.func69, Try.ntmps69
  go_wp2_with (first | (go_at_call 77; refine (HW.out _ (Below.refl _ _)).mono ?_; rintro e w' ⟨rfl, hb⟩))
  go_ret
  exact ⟨rfl, hb⟩

/-- The error of a list. -/
def errL (m : Int) (l : List Int) : Int := if l.length ≤ 128 then if l.all (within m) then 0 else 6 else 2

set_option maxHeartbeats 400000 in
theorem list_calls (m : Int) (A : Option Addr) (cap : Nat) (l : List Int) (w : World) (hr : (Kd.int .i64).C w A l.length l) (hm0 : 0 ≤ m) (hm1 : m ≤ 1099511627776) :
    Calls Try.prog 46 #[.slice A l.length cap, .int .i64 m] w fun e w' => e = .returned (.int .i64 (errL m l)) ∧ Below w.heap.size w w' := by
  have HW := fun (hl : l.length ≤ 128) W hb => Within_calls m A cap l W (Kd.C_below hr hb) (by omega) hm0 hm1
  replace HW := Aside0.mk HW
  clear hr
  unfold errL
  by_cases hn : l.length ≤ 128
  · rw [if_pos hn]
    cases k : l.all (within m) with
    | true =>
      rw [k] at HW
      go_enter Try.func46, Try.ntmps46
      go_wp2_with (first | (go_at_call 69; refine (HW.out hn _ (Below.refl _ _)).mono ?_; rintro e w' ⟨rfl, hb⟩))
      go_ret
      exact ⟨rfl, hb⟩
    | false =>
      rw [k] at HW
      go_enter Try.func46, Try.ntmps46
      go_wp2_with (first | (go_at_call 69; refine (HW.out hn _ (Below.refl _ _)).mono ?_; rintro e w' ⟨rfl, hb⟩))
      go_ret
      exact ⟨rfl, hb⟩
  · rw [if_neg hn]
    have hn' : (128 : Int) < (l.length : Int) := by omega
    go_enter Try.func46, Try.ntmps46
    go_wp2
    go_ret
    exact ⟨rfl, Below.refl _ _⟩

theorem within_C : within 2097152 = isC := by funext n; unfold within isC; rfl
theorem within_Q : within 1023 = isQ := by funext n; unfold within isQ; rfl
theorem chk_err {s : Int} (h : isS s = true) (l : List Int) : chk isC l s = errL 2097152 l ∧ chk isQ l s = errL 1023 l := by
  unfold chk errL
  rw [if_pos h, if_pos h, within_C, within_Q]
  exact ⟨rfl, rfl⟩

set_option maxHeartbeats 400000 in
theorem greatest_calls (A : Option Addr) (cap : Nat) (l : List Int) (w : World) (hr : (Kd.int .i64).C w A l.length l) (hl : l.length ≤ 1099511627776) (hp : ∀ n ∈ l, -2097152 ≤ n ∧ n ≤ 2097152) :
    Calls Try.prog 70 #[.slice A l.length cap] w fun e w' => e = .returned (.int .i64 (peakI l)) ∧ Below w.heap.size w w' := by
  have HP := Aside0.mk hp
  have HR := Aside0.mk hr
  clear hp hr
  go_enter Try.func70, Try.ntmps70
  go_wp2
  go_loopw [3, 8] (fun s i wr => ∃ (k : Nat) (z : Int), i = .int .i64 k ∧ s = .int .i64 z ∧ k ≤ l.length ∧ 0 ≤ z ∧ z ≤ 2097152 ∧ Aside0 (z = peakI (l.take k)) ∧ Below w.heap.size w wr) (fun _ i _ => l.length - (intOf i).toNat)
  case atStart => exact ⟨0, 0, rfl, rfl, by omega, by omega, by omega, ⟨by simp [peakI]⟩, Below.refl _ _⟩
  case round =>
    obtain ⟨k, z, rfl, rfl, hk, hz0, hz1, hn, hb⟩ := hrel
    by_cases hlt : k < l.length
    · obtain ⟨ad, rfl, hcell⟩ := el_at HR.out hb hlt
      have hc := HP.out _ (rd_mem l k hlt)
      have hT := take_rd l k hlt
      obtain ⟨n, hx⟩ : ∃ n, n = rd l k := ⟨_, rfl⟩
      rw [← hx] at hcell hc hT
      have hT2 : peakI (l.take (k + 1)) = max (max z n) (-n) := by
        rw [hT, hn.out]
        unfold peakI
        rw [List.foldl_append]
        rfl
      obtain ⟨j, hj⟩ : ∃ j, (if z < n then n else z) = j := ⟨_, rfl⟩
      obtain ⟨j2, hj2⟩ : ∃ j2, (if j < -n then -n else j) = j2 := ⟨_, rfl⟩
      have hb2 : 0 ≤ j2 ∧ j2 ≤ 2097152 := by omega
      have hT3 : Aside0 (j2 = peakI (l.take (k + 1))) := ⟨by rw [hT2]; omega⟩
      clear hx hT hT2 hn
      go_wp2
      go_roundw
      case rel => exact ⟨k + 1, j2, by go_num, rfl, by omega, hb2.1, hb2.2, hT3, hb⟩
      case measure => simp [intOf]; omega
    · obtain rfl : k = l.length := by omega
      rw [List.take_length] at hn
      go_wp2
      go_ret
      exact ⟨ret_int hn.out, hb⟩

set_option maxHeartbeats 400000 in
theorem Table_calls (s : Int) (w : World) (h2 : 0 ≤ s) (h3 : s ≤ 95) :
    Calls Try.prog 42 #[.int .i64 s] w fun e w' => ∃ v : Value, e = .returned v ∧ (Kd.int .i64).R 3 w' w.heap.size (fun _ => True) v (upToL (tab (stepI s)) 2097153) ∧ Below w.heap.size w w' := by
  have HV := fun A cap W hr => values_calls A cap s 2097153 W hr h2 h3
  obtain ⟨t, ht⟩ : ∃ t, t = upToL (tab (stepI s)) 2097153 := ⟨_, rfl⟩
  rw [← ht] at HV ⊢
  replace HV := Aside0.mk HV
  clear ht
  go_enter Try.func42, Try.ntmps42
  go_wp2_with fail
  refine (Powers_calls w).mono ?_
  rintro e w1 ⟨v, rfl, hR, hb⟩
  obtain ⟨A, c, rfl, _, hC⟩ := Kd.R_reads hR
  have HC := Aside0.mk hC
  clear hC hR
  go_wp2_with fail
  refine (HV.out A c w1 HC.out).mono ?_
  rintro e w2 ⟨v, rfl, hR, hb2⟩
  have HR := Aside0.mk hR
  clear hR
  go_wp2
  go_ret
  exact ⟨_, rfl, Kd.R_lower HR.out hb.size, bnx hb hb2⟩

set_option maxHeartbeats 400000 in
theorem rQuantum_calls (c s : Int) (w : World) :
    Calls Try.prog 16 #[.int .i64 c, .int .i64 s] w fun e w' => e = .returned (.tuple (if isS s then if isC c then #[.int .i64 (sg c (qn (stepI s) (absI c))), .int .i64 0] else #[.int .i64 0, .int .i64 6] else #[.int .i64 0, .int .i64 1])) ∧ Below w.heap.size w w' := by
  cases h : isS s with
  | true =>
    obtain ⟨g1, g2⟩ := isS_bd h
    cases k : isC c with
    | true =>
      obtain ⟨h1, h2⟩ := isC_bd k
      have hs := stepI_bd g1 g2
      have ha : 0 ≤ absI c ∧ absI c ≤ 2097152 := by unfold absI; omega
      have HT := fun w => Table_calls s w g1 g2
      have hup := up_pos (stepI s) 2097153
      have HN := fun A cap W hr => nearest_calls A cap (upToL (tab (stepI s)) 2097153) c W hr (by omega) hup.1 (up_rising (by omega) _) (by omega) (by omega) (fun x hx => by have := up_bd (x := stepI s) (by omega) 2097153 x hx; omega)
      rw [near_qn (stepI s) 2097153 (absI c) (by omega) ha.1 (by omega)] at HN
      obtain ⟨t, ht⟩ : ∃ t, t = upToL (tab (stepI s)) 2097153 := ⟨_, rfl⟩
      obtain ⟨r, hr⟩ : ∃ r, r = sg c (qn (stepI s) (absI c)) := ⟨_, rfl⟩
      rw [← ht] at HT HN
      rw [← hr] at HN ⊢
      replace HT := Aside0.mk HT
      replace HN := Aside0.mk HN
      have hd1 : decide (c < -2097152) = false := by simp; omega
      have hd2 : decide (2097152 < c) = false := by simp; omega
      clear ht hr hup
      go_enter Try.func16, Try.ntmps16
      go_wp2_with (first | (go_at_call 35; refine (rScale_calls _ _).mono ?_; rintro e w' ⟨rfl, hb0⟩) | (go_at_call 42; refine (HT.out _).mono ?_; rintro e w1 ⟨v, rfl, hR, hb1⟩; obtain ⟨A, cp, rfl, _, hC⟩ := Kd.R_reads hR; have HC := Aside0.mk hC; clear hC hR) | (go_at_call 41; refine (HN.out _ _ _ HC.out).mono ?_; rintro e w2 ⟨rfl, hb2⟩))
      go_ret2
      exact ⟨rfl, bnx (bnx hb0 hb1) hb2⟩
    | false =>
      have hk : c < -2097152 ∨ 2097152 < c := by unfold isC at k; simp at k; omega
      rcases hk with hk | hk
      · go_enter Try.func16, Try.ntmps16
        go_wp2_with (first | (go_at_call 35; refine (rScale_calls _ _).mono ?_; rintro e w' ⟨rfl, hb0⟩))
        go_ret2
        exact ⟨rfl, hb0⟩
      · have hd1 : decide (c < -2097152) = false := by simp; omega
        go_enter Try.func16, Try.ntmps16
        go_wp2_with (first | (go_at_call 35; refine (rScale_calls _ _).mono ?_; rintro e w' ⟨rfl, hb0⟩))
        go_ret2
        exact ⟨rfl, hb0⟩
  | false =>
    go_enter Try.func16, Try.ntmps16
    go_wp2_with (first | (go_at_call 35; refine (rScale_calls _ _).mono ?_; rintro e w' ⟨rfl, hb0⟩))
    go_ret2
    exact ⟨rfl, hb0⟩

end Go.Proofs.Ytglpdojccncjjaa.Q15
