/- What each function of layer 15's reference returns: Least, Most; two lists are the same. -/
import Derived.Test.YtglpdojccncjjaaQuantRg
import Derived.WalkKit
import Derived.WalkSpells
import Derived.WalkLawsBesides
import Derived.KernelRfl
import Derived.Deep.RegionHeld3
import Derived.Deep.LoopGhost
import Derived.Deep.AppendLies
import Derived.Laws.Rows
import Derived.Shelf.GgClosure.Gives
import Derived.Test.YtglpdojccncjjaaWWords
import Derived.Test.YtglpdojccncjjaaWLast
import Derived.Test.YtglpdojccncjjaaWMore
import Derived.Deep.QuietTactic
import Derived.BigQuiet
namespace Go.Proofs.Ytglpdojccncjjaa.Q15
open Go.RowKit Go.Proofs.YtglpdojccncjjaaW.PrintWords Go.Proofs.YtglpdojccncjjaaW.PrintLast Go.Proofs.YtglpdojccncjjaaW.PrintMore
attribute [local go_sem] max2_int min2_int max_two min_two max_three min_three

theorem isS_zero : isS 0 = true := by decide

set_option maxHeartbeats 400000 in
theorem rLeast_no (A : Option Addr) (cap : Nat) (l : List Int) (w : World) (hr : (Kd.int .i64).C w A l.length l) (hk : chk isC l 0 ≠ 0) :
    Calls Try.prog 26 #[.slice A l.length cap] w fun e w' => e = .returned (.tuple #[.int .i64 0, .int .i64 (chk isC l 0)]) ∧ Below w.heap.size w w' := by
  have HC := fun W hb => list_calls 2097152 A cap l W (Kd.C_below hr hb) (by omega) (by omega)
  rw [chkC_s isS_zero] at HC
  obtain ⟨e0, he0⟩ : ∃ e0, e0 = chk isC l 0 := ⟨_, rfl⟩
  rw [← he0] at HC hk ⊢
  replace HC := Aside0.mk HC
  have hk' : (e0 == 0) = false := beq_eq_false_iff_ne.2 hk
  clear he0 hr
  go_enter Try.func26, Try.ntmps26
  go_wp2_with (first | (go_at_call 46; refine (HC.out _ (Below.refl _ _)).mono ?_; rintro e w' ⟨rfl, hb1⟩))
  go_ret2
  exact ⟨rfl, hb1⟩

set_option maxHeartbeats 400000 in
theorem rLeast_yes (A : Option Addr) (cap : Nat) (l : List Int) (w : World) (hr : (Kd.int .i64).C w A l.length l) (hk : chk isC l 0 = 0) :
    Calls Try.prog 26 #[.slice A l.length cap] w fun e w' => e = .returned (.tuple #[.int .i64 (leastI l), .int .i64 0]) ∧ Below w.heap.size w w' := by
  obtain ⟨hs, hl, hp⟩ := chk_zero hk
  have HC := fun W hb => list_calls 2097152 A cap l W (Kd.C_below hr hb) (by omega) (by omega)
  rw [chkC_s isS_zero, hk] at HC
  have HL := fun W hb => rleast_calls A cap l W (Kd.C_below hr hb) (by omega) (fun n hn => isC_bd (hp n hn))
  replace HC := Aside0.mk HC
  replace HL := Aside0.mk HL
  clear hk hr hp
  go_enter Try.func26, Try.ntmps26
  go_wp2_with (first | (go_at_call 46; refine (HC.out _ (Below.refl _ _)).mono ?_; rintro e w' ⟨rfl, hb0⟩) | (go_at_call 54; refine (HL.out _ hb0).mono ?_; rintro e w' ⟨rfl, hb1⟩))
  go_ret2
  exact ⟨rfl, bnx hb0 hb1⟩

/-- What MostBy returns. -/
def mostT (o : Option Int) : Value := match o with | some s => .tuple #[.int .i64 s, .bool true] | none => .tuple #[.int .i64 0, .bool false]

set_option maxRecDepth 100000 in
set_option maxHeartbeats 1000000 in
theorem MostBy_calls (A0 A1 : Option Addr) (c0 c1 : Nat) (l : List Int) (limit : Int) (w : World) (hr0 : (Kd.int .i64).C w A0 powTab.length powTab) (hr : (Kd.int .i64).C w A1 l.length l) (hl : l.length ≤ 4096) (hp : ∀ n ∈ l, -2097152 ≤ n ∧ n ≤ 2097152) :
    Calls Try.prog 56 #[.slice A0 powTab.length c0, .slice A1 l.length c1, .int .i64 limit] w fun e w' => e = .returned (mostT (mostI l limit)) ∧ Below w.heap.size w w' := by
  have HL := fun W hb => rleast_calls A1 c1 l W (Kd.C_below hr hb) (by omega) hp
  have HN := fun s W hb h2 h3 => NoiseBy_calls A0 A1 c0 c1 l s W (Kd.C_below hr0 hb) (Kd.C_below hr hb) hl hp h2 h3
  have hlb : 0 ≤ leastI l ∧ leastI l ≤ 95 := leastT_bd _
  have hm : mostI l limit = (downL 95 (leastI l)).find? fun s => decide (noiseI (stepI s) l ≤ limit) := rfl
  obtain ⟨low, hlow⟩ : ∃ low, low = leastI l := ⟨_, rfl⟩
  rw [← hlow] at HL hlb hm
  obtain ⟨r, hre⟩ : ∃ r, r = mostI l limit := ⟨_, rfl⟩
  rw [← hre] at hm ⊢
  obtain ⟨n0, hn0⟩ : ∃ n0, n0 = powTab.length := ⟨_, rfl⟩
  rw [← hn0] at HN ⊢
  replace HL := Aside0.mk HL
  replace HN := Aside0.mk HN
  replace hm := Aside0.mk hm
  clear hlow hre hr hr0 hp hn0
  go_enter Try.func56, Try.ntmps56
  go_wp2_with (first | (go_at_call 54; refine (HL.out _ (Below.refl _ _)).mono ?_; rintro e w' ⟨rfl, hb0⟩))
  go_loopw [9] (fun s wr => ∃ z : Int, s = .int .i64 z ∧ low - 1 ≤ z ∧ z ≤ 95 ∧ Aside0 (∀ j, z < j → j ≤ 95 → decide (noiseI (stepI j) l ≤ limit) = false) ∧ Below w.heap.size w wr) (fun s _ => (intOf s + 1).toNat)
  case atStart => exact ⟨95, rfl, by omega, by omega, ⟨fun j h0 h1 => by omega⟩, hb0⟩
  case round =>
    obtain ⟨z, rfl, hz0, hz1, hj, hb⟩ := hrel
    by_cases hlt : low ≤ z
    · have hC := HN.out z wr hb (by omega) hz1
      have HJ : Aside0 (¬ noiseI (stepI z) l ≤ limit → ∀ j, z - 1 < j → j ≤ 95 → decide (noiseI (stepI j) l ≤ limit) = false) := ⟨fun h j h0 h1 => by
        rcases Int.lt_or_eq_of_le (show z ≤ j by omega) with h2 | h2
        · exact hj.out j h2 h1
        · rw [← h2]; simpa using h⟩
      have HF : Aside0 (noiseI (stepI z) l ≤ limit → r = some z) := ⟨fun h => by
        rw [hm.out]
        exact find_down hlt hz1 hj.out (by simpa using h)⟩
      obtain ⟨n, hn⟩ : ∃ n, n = noiseI (stepI z) l := ⟨_, rfl⟩
      rw [← hn] at hC HJ HF
      have HC := Aside0.mk hC
      clear hn hC hj
      by_cases hle : n ≤ limit
      · have hr := HF.out hle
        subst hr
        clear HF HJ hm
        go_wp2_with (first | (go_at_call 52; refine (HC.out).mono ?_; rintro e w' ⟨rfl, hb2⟩))
        go_ret2
        exact ⟨rfl, bnx hb hb2⟩
      · have HJ2 := Aside0.mk (HJ.out hle)
        have hle' : limit < n := by omega
        clear HF HJ
        go_wp2_with (first | (go_at_call 52; refine (HC.out).mono ?_; rintro e w' ⟨rfl, hb2⟩))
        go_roundw
        case rel => exact ⟨z - 1, rfl, by omega, by omega, HJ2, bnx hb hb2⟩
        case measure => simp [intOf]; omega
    · obtain rfl : z = low - 1 := by omega
      have hr : r = none := by
        rw [hm.out]
        exact find_down_none (fun j h0 h1 => hj.out j (by omega) h1)
      subst hr
      clear hm
      go_wp2
      go_ret2
      exact ⟨rfl, hb⟩

/-- The error of a limit and a list, and what Most returns. -/
def mostR (l : List Int) (limit : Int) : Value :=
  if limit < 0 ∨ 72057594037927936 < limit then .tuple #[.int .i64 0, .int .i64 1] else if chk isC l 0 = 0 then match mostI l limit with | some s => .tuple #[.int .i64 s, .int .i64 0] | none => .tuple #[.int .i64 0, .int .i64 5] else .tuple #[.int .i64 0, .int .i64 (chk isC l 0)]

set_option maxRecDepth 100000 in
set_option maxHeartbeats 1000000 in
theorem rMost_calls (A : Option Addr) (cap : Nat) (l : List Int) (limit : Int) (w : World) (hr : (Kd.int .i64).C w A l.length l) :
    Calls Try.prog 28 #[.slice A l.length cap, .int .i64 limit] w fun e w' => e = .returned (mostR l limit) ∧ Below w.heap.size w w' := by
  unfold mostR
  by_cases h0 : limit < 0
  · rw [if_pos (.inl h0)]
    go_enter Try.func28, Try.ntmps28
    go_wp2
    go_ret2
    exact ⟨rfl, Below.refl _ _⟩
  · have hd0 : decide (limit < 0) = false := by simp; omega
    by_cases h1 : 72057594037927936 < limit
    · rw [if_pos (.inr h1)]
      go_enter Try.func28, Try.ntmps28
      go_wp2
      go_ret2
      exact ⟨rfl, Below.refl _ _⟩
    · have hd1 : decide (72057594037927936 < limit) = false := by simp; omega
      rw [if_neg (by omega)]
      have HC := fun W hb => list_calls 2097152 A cap l W (Kd.C_below hr hb) (by omega) (by omega)
      rw [chkC_s isS_zero] at HC
      by_cases hk : chk isC l 0 = 0
      · obtain ⟨hs, hl1, hp⟩ := chk_zero hk
        rw [if_pos hk]
        rw [hk] at HC
        have HM := fun A0 cp W hr0 hb => MostBy_calls A0 A cp cap l limit W hr0 (Kd.C_below hr hb) (by omega) (fun n hn => isC_bd (hp n hn))
        obtain ⟨r, hr'⟩ : ∃ r, r = mostI l limit := ⟨_, rfl⟩
        rw [← hr'] at HM ⊢
        replace HC := Aside0.mk HC
        replace HM := Aside0.mk HM
        clear hr' hk hr hp
        cases r with
        | none =>
          go_enter Try.func28, Try.ntmps28
          go_wp2_with (first | (go_at_call 46; refine (HC.out _ (Below.refl _ _)).mono ?_; rintro e w' ⟨rfl, hb0⟩) | (go_at_call 48; refine (Powers_calls _).mono ?_; rintro e w1 ⟨v, rfl, hR, hb2⟩; obtain ⟨A0, cp, rfl, _, hC⟩ := Kd.R_reads hR; have HPW := Aside0.mk hC; have HB0 := bnx hb0 hb2; clear hC hR) | (go_at_call 56; refine (HM.out _ _ _ HPW.out HB0).mono ?_; rintro e w2 ⟨rfl, hb3⟩; unfold mostT))
          go_ret2
          exact ⟨rfl, bnx HB0 hb3⟩
        | some s =>
          go_enter Try.func28, Try.ntmps28
          go_wp2_with (first | (go_at_call 46; refine (HC.out _ (Below.refl _ _)).mono ?_; rintro e w' ⟨rfl, hb0⟩) | (go_at_call 48; refine (Powers_calls _).mono ?_; rintro e w1 ⟨v, rfl, hR, hb2⟩; obtain ⟨A0, cp, rfl, _, hC⟩ := Kd.R_reads hR; have HPW := Aside0.mk hC; have HB0 := bnx hb0 hb2; clear hC hR) | (go_at_call 56; refine (HM.out _ _ _ HPW.out HB0).mono ?_; rintro e w2 ⟨rfl, hb3⟩; unfold mostT))
          go_ret2
          exact ⟨rfl, bnx HB0 hb3⟩
      · rw [if_neg hk]
        obtain ⟨e0, he0⟩ : ∃ e0, e0 = chk isC l 0 := ⟨_, rfl⟩
        rw [← he0] at HC hk ⊢
        replace HC := Aside0.mk HC
        have hk' : (e0 == 0) = false := beq_eq_false_iff_ne.2 hk
        clear he0 hr
        go_enter Try.func28, Try.ntmps28
        go_wp2_with (first | (go_at_call 46; refine (HC.out _ (Below.refl _ _)).mono ?_; rintro e w' ⟨rfl, hb0⟩))
        go_ret2
        exact ⟨rfl, hb0⟩

set_option maxHeartbeats 1000000 in
theorem Ints_calls (A0 A1 : Option Addr) (c0 c1 : Nat) (l0 l1 : List Int) (w : World) (hr0 : (Kd.int .i64).C w A0 l0.length l0) (hr1 : (Kd.int .i64).C w A1 l1.length l1) (hl : l0.length ≤ 1099511627776) :
    Calls Try.prog 24 #[.slice A0 l0.length c0, .slice A1 l1.length c1] w fun e w' => e = .returned (.bool (decide (l0 = l1))) ∧ Below w.heap.size w w' := by
  by_cases hn : l0.length = l1.length
  · have HR0 := Aside0.mk hr0
    have HR1 := Aside0.mk hr1
    rw [← hn] at HR1 ⊢
    have HN := Aside0.mk hn
    clear hn hr0 hr1
    go_enter Try.func24, Try.ntmps24
    go_wp2
    go_loopw [13] (fun i wr => ∃ k : Nat, i = .int .i64 k ∧ k ≤ l0.length ∧ Aside0 (l0.take k = l1.take k) ∧ Below w.heap.size w wr) (fun i _ => l0.length - (intOf i).toNat)
    case atStart => exact ⟨0, rfl, by omega, ⟨rfl⟩, Below.refl _ _⟩
    case round =>
      obtain ⟨k, rfl, hk, ha, hb⟩ := hrel
      by_cases hlt : k < l0.length
      · obtain ⟨ad0, rfl, hcell0⟩ := Kd.at_int HR0.out (k : Int) (by omega) (by omega)
        obtain ⟨ad1, rfl, hcell1⟩ := Kd.at_int HR1.out (k : Int) (by omega) (by omega)
        rw [Int.toNat_natCast] at hcell0 hcell1
        replace hcell0 := cnx hcell0 hb
        replace hcell1 := cnx hcell1 hb
        have HT0 := Aside0.mk (take_rd l0 k hlt)
        have HT1 := Aside0.mk (take_rd l1 k (by have := HN.out; omega))
        have hd0 := rd_nat l0 k hlt
        have hd1 := rd_nat l1 k (by have := HN.out; omega)
        have HNE : Aside0 (rd l0 k ≠ rd l1 k → l0 ≠ l1) := ⟨fun h e => h (by rw [e])⟩
        obtain ⟨x, hx⟩ : ∃ x, x = rd l0 k := ⟨_, rfl⟩
        obtain ⟨y, hy⟩ : ∃ y, y = rd l1 k := ⟨_, rfl⟩
        rw [← hx] at hcell0 HT0 HNE
        rw [← hy] at hcell1 HT1 HNE
        clear hx hy hd0 hd1
        by_cases he : x = y
        · subst he
          go_wp2
          go_quiet (fail)
          go_wp2
          go_roundw
          case rel => exact ⟨k + 1, by go_num, by omega, ⟨by rw [HT0.out, HT1.out, ha.out]⟩, below_drewN' hb nq⟩
          case measure => simp [intOf]; omega
        · have HNE2 := Aside0.mk (HNE.out he)
          have he2 : (x != y) = true := by rw [bne_iff_ne]; exact he
          go_wp2
          go_quiet (fail)
          go_wp2
          go_ret
          exact ⟨by rw [decide_eq_false HNE2.out]; rfl, below_drewN' hb nq⟩
      · obtain rfl : k = l0.length := by omega
        have e : l0 = l1 := by
          have h1 := ha.out
          rw [List.take_length, HN.out, List.take_length] at h1
          exact h1
        have HE := Aside0.mk e
        clear e
        go_wp2
        go_ret
        exact ⟨by rw [decide_eq_true HE.out]; rfl, hb⟩
  · have he : l0 ≠ l1 := fun h => hn (by rw [h])
    rw [decide_eq_false he]
    have hn2 : (l0.length != l1.length) = true := by rw [bne_iff_ne]; exact hn
    have hn3 : ((l0.length : Int) != (l1.length : Int)) = true := by rw [bne_iff_ne]; omega
    clear hn he
    go_enter Try.func24, Try.ntmps24
    go_wp2
    go_ret
    exact ⟨rfl, Below.refl _ _⟩

end Go.Proofs.Ytglpdojccncjjaa.Q15
