/- What each function of layer 15's reference returns: tables. -/
import Derived.Test.YtglpdojccncjjaaQuantRa
import Derived.Test.YtglpdojccncjjaaQuantG
import Derived.WalkKit
import Derived.WalkSpells
import Derived.WalkLawsBesides
import Derived.KernelRfl
import Derived.Deep.RegionHeld3
import Derived.Deep.LoopGhost
import Derived.Deep.AppendLies
import Derived.Laws.Rows
import Derived.Shelf.GgClosure.Gives
import Derived.Test.YtglpdojccncjjaaWWords
import Derived.Test.YtglpdojccncjjaaWLast
import Derived.Test.YtglpdojccncjjaaWMore
import Derived.Deep.QuietTactic
import Derived.BigQuiet
namespace Go.Proofs.Ytglpdojccncjjaa.Q15
open Go.RowKit Go.Proofs.YtglpdojccncjjaaW.PrintWords Go.Proofs.YtglpdojccncjjaaW.PrintLast Go.Proofs.YtglpdojccncjjaaW.PrintMore
attribute [local go_sem] max2_int min2_int max_two min_two max_three min_three

def Rising (l : List Int) : Prop := ∀ i j : Nat, i ≤ j → j < l.length → l.getD i 0 ≤ l.getD j 0
theorem rd_getD (l : List Int) (i : Int) : rd l i = l.getD i.toNat 0 := rfl

set_option maxHeartbeats 400000 in
theorem rfirst_calls (A : Option Addr) (cap : Nat) (l : List Int) (v : Int) (w : World) (hr : (Kd.int .i64).C w A l.length l) (hl : l.length ≤ 1099511627776) (hs : Rising l) :
    Calls Try.prog 66 #[.slice A l.length cap, .int .i64 v] w fun e w' => e = .returned (.int .i64 (firstL l v)) ∧ Below w.heap.size w w' := by
  have HR := Aside0.mk hr
  have HS := Aside0.mk hs
  clear hr hs
  go_enter Try.func66, Try.ntmps66
  go_wp2
  go_loopw [5, 6] (fun a b wr => ∃ x y : Int, a = .int .i64 x ∧ b = .int .i64 y ∧ 0 ≤ x ∧ x ≤ y ∧ y ≤ l.length ∧ Aside0 (x = 0 ∨ rd l (x - 1) < v) ∧ Aside0 (y = l.length ∨ v ≤ rd l y) ∧ Below w.heap.size w wr) (fun a b _ => (intOf b - intOf a).toNat)
  case atStart => exact ⟨0, l.length, rfl, rfl, by omega, by omega, by omega, ⟨.inl rfl⟩, ⟨.inl rfl⟩, Below.refl _ _⟩
  case round =>
    obtain ⟨x, y, rfl, rfl, hx, hxy, hy, h1, h2, hb⟩ := hrel
    by_cases hlt : x < y
    · obtain ⟨m, hm⟩ : ∃ m, m = (x + y) / 2 := ⟨_, rfl⟩
      have hmb : x ≤ m ∧ m < y := by omega
      obtain ⟨ad, rfl, hcell⟩ := Kd.at_int HR.out m (by omega) (by omega)
      replace hcell := cnx hcell hb
      obtain ⟨z, hz⟩ : ∃ z, z = rd l m := ⟨_, rfl⟩
      rw [← hz] at hcell
      have HZ := Aside0.mk hz
      clear hz
      subst hm
      by_cases hge : v ≤ z
      · go_wp2
        go_roundw
        case rel => exact ⟨x, (x + y) / 2, rfl, rfl, hx, by omega, by omega, h1, ⟨.inr (by rw [← HZ.out]; exact hge)⟩, hb⟩
        case measure => simp [intOf]; omega
      · have hge' : z < v := by omega
        go_wp2
        go_roundw
        case rel => exact ⟨(x + y) / 2 + 1, y, rfl, rfl, by omega, by omega, hy, ⟨.inr (by rw [show (x + y) / 2 + 1 - 1 = (x + y) / 2 by omega, ← HZ.out]; exact hge')⟩, h2, hb⟩
        case measure => simp [intOf]; omega
    · obtain rfl : x = y := by omega
      have e : firstL l v = x.toNat := first_is (by omega) (fun i hi => by
        have h3 := h1.out.resolve_left (by omega)
        have h4 := HS.out i (x - 1).toNat (by omega) (by omega)
        rw [rd_getD] at h3
        omega) (fun hi => by
        have h3 := h2.out.resolve_left (by omega)
        rw [rd_getD] at h3
        exact h3)
      have HE := Aside0.mk e
      clear e
      go_wp2
      go_ret
      exact ⟨ret_int (by have := HE.out; omega), hb⟩

theorem near_bd (l : List Int) (c : Int) : 0 ≤ nearL l c ∧ nearL l c ≤ l.length := by
  have h1 := first_le l c
  have h2 := first_le l (l.getD (firstL l c - 1) 0)
  unfold nearL
  dsimp only
  split <;> omega

set_option maxHeartbeats 1000000 in
theorem nearest_calls (A : Option Addr) (cap : Nat) (l : List Int) (c : Int) (w : World) (hr : (Kd.int .i64).C w A l.length l) (hl : l.length ≤ 1099511627776) (hl0 : 1 ≤ l.length) (hs : Rising l) (hc0 : -1099511627776 ≤ c) (hc1 : c ≤ 1099511627776)
    (hb : ∀ x ∈ l, 0 ≤ x ∧ x ≤ 1099511627776) :
    Calls Try.prog 41 #[.int .i64 c, .slice A l.length cap] w fun e w' => e = .returned (.int .i64 (sg c (nearL l (absI c)))) ∧ Below w.heap.size w w' := by
  have HF := fun v W hb => rfirst_calls A cap l v W (Kd.C_below hr hb) hl hs
  replace HF := Aside0.mk HF
  have HR := Aside0.mk hr
  have HBD := Aside0.mk hb
  clear hr hs hb
  obtain ⟨m, hm⟩ : ∃ m, m = absI c := ⟨_, rfl⟩
  have hdi : (c < 0 ∧ m = -c) ∨ (¬ c < 0 ∧ m = c) := by rw [hm]; unfold absI; omega
  have hmb : 0 ≤ m ∧ m ≤ 1099511627776 := by omega
  rw [← hm]
  have hN := near_bd l m
  have hfe := first_le l m
  have hnl : nearL l m = if firstL l m = l.length ∨ (firstL l m > 0 ∧ m - l.getD (firstL l m - 1) 0 ≤ l.getD (firstL l m) 0 - m) then (firstL l (l.getD (firstL l m - 1) 0) : Int) else (firstL l m : Int) := rfl
  have HF1 := fun W hb => HF.out m W hb
  obtain ⟨f, hf⟩ : ∃ f, f = firstL l m := ⟨_, rfl⟩
  rw [← hf] at hfe hnl HF1
  obtain ⟨r, hr⟩ : ∃ r, r = nearL l m := ⟨_, rfl⟩
  rw [← hr] at hN hnl ⊢
  replace HF1 := Aside0.mk HF1
  clear hm hf hr
  by_cases hp : f = l.length ∨ (f > 0 ∧ m - l.getD (f - 1) 0 ≤ l.getD f 0 - m)
  · rw [if_pos hp] at hnl
    have hf1 : 1 ≤ f := by omega
    obtain ⟨ad, rfl, hcell⟩ := Kd.at_int HR.out ((f : Int) - 1) (by omega) (by omega)
    rw [rd_getD, show ((f : Int) - 1).toNat = f - 1 by omega] at hcell
    have hzb : 0 ≤ l.getD (f - 1) 0 ∧ l.getD (f - 1) 0 ≤ 1099511627776 := HBD.out _ (by rw [List.getD_eq_getElem?_getD, List.getElem?_eq_getElem (by omega), Option.getD_some]; exact List.getElem_mem _)
    obtain ⟨z, hz⟩ : ∃ z, z = l.getD (f - 1) 0 := ⟨_, rfl⟩
    rw [← hz] at hcell hnl hp hzb
    have HF2 := fun W hb => HF.out z W hb
    obtain ⟨r2, hr2⟩ : ∃ r2, r2 = firstL l z := ⟨_, rfl⟩
    rw [← hr2] at hnl HF2
    replace HF2 := Aside0.mk HF2
    clear hz hr2
    subst hnl
    by_cases ha : f = l.length
    · have ht1 : ((f : Int) == (l.length : Int)) = true := by rw [beq_iff_eq]; omega
      clear hp ha
      rcases hdi with ⟨hneg, rfl⟩ | ⟨hneg, rfl⟩
      all_goals
        go_enter Try.func41, Try.ntmps41
        go_wp2_with fail
        refine (HF1.out _ (Below.refl _ _)).mono ?_
        rintro e w1 ⟨rfl, hb0⟩
        replace hcell := cnx hcell hb0
        go_wp2_with fail
        go_quiet (fail)
        go_wp2_with fail
        have hb1 := below_drewN' hb0 nq
        refine (HF2.out _ hb1).mono ?_
        rintro e w2 ⟨rfl, hb2⟩
        go_wp2
        go_ret
        exact ⟨ret_int (by unfold sg; split <;> omega), bnx hb1 hb2⟩
    · have hc := hp.resolve_left ha
      have ht1 : ((f : Int) == (l.length : Int)) = false := by rw [beq_eq_false_iff_ne]; omega
      have ht2 : decide (0 < f) = true := by simp; omega
      obtain ⟨ad2, he2, hcell2⟩ := Kd.at_int HR.out (f : Int) (by omega) (by omega)
      cases he2
      rw [rd_getD, Int.toNat_natCast] at hcell2
      have hzb2 : 0 ≤ l.getD f 0 ∧ l.getD f 0 ≤ 1099511627776 := HBD.out _ (by rw [List.getD_eq_getElem?_getD, List.getElem?_eq_getElem (by omega), Option.getD_some]; exact List.getElem_mem _)
      have hcd := hc.2
      obtain ⟨z2, hz2⟩ : ∃ z2, z2 = l.getD f 0 := ⟨_, rfl⟩
      rw [← hz2] at hcell2 hzb2 hcd
      have hflt : (f : Int) < (l.length : Int) := by omega
      clear hp ha hc hz2
      rcases hdi with ⟨hneg, rfl⟩ | ⟨hneg, rfl⟩
      all_goals
        go_enter Try.func41, Try.ntmps41
        go_wp2_with fail
        refine (HF1.out _ (Below.refl _ _)).mono ?_
        rintro e w1 ⟨rfl, hb0⟩
        replace hcell := cnx hcell hb0
        replace hcell2 := cnx hcell2 hb0
        go_wp2_with fail
        go_quiet (fail)
        go_wp2_with fail
        have hb1 := below_drewN' hb0 nq
        refine (HF2.out _ hb1).mono ?_
        rintro e w2 ⟨rfl, hb2⟩
        go_wp2
        go_ret
        exact ⟨ret_int (by unfold sg; split <;> omega), bnx hb1 hb2⟩
  · rw [if_neg hp] at hnl
    have hfl : f < l.length := by omega
    have ht1 : ((f : Int) == (l.length : Int)) = false := by rw [beq_eq_false_iff_ne]; omega
    subst hnl
    by_cases h0 : f = 0
    · have ht2 : decide (0 < f) = false := by simp; omega
      clear hp h0
      rcases hdi with ⟨hneg, rfl⟩ | ⟨hneg, rfl⟩
      all_goals
        go_enter Try.func41, Try.ntmps41
        go_wp2_with fail
        refine (HF1.out _ (Below.refl _ _)).mono ?_
        rintro e w1 ⟨rfl, hb0⟩
        go_wp2_with fail
        go_quiet (fail)
        have hb1 := below_drewN' hb0 nq
        go_wp2
        go_ret
        exact ⟨ret_int (by unfold sg; split <;> omega), hb1⟩
    · have ht2 : decide (0 < f) = true := by simp; omega
      have hcd : ¬ (m - l.getD (f - 1) 0 ≤ l.getD f 0 - m) := fun h => hp (.inr ⟨by omega, h⟩)
      obtain ⟨ad, rfl, hcell⟩ := Kd.at_int HR.out ((f : Int) - 1) (by omega) (by omega)
      rw [rd_getD, show ((f : Int) - 1).toNat = f - 1 by omega] at hcell
      have hzb : 0 ≤ l.getD (f - 1) 0 ∧ l.getD (f - 1) 0 ≤ 1099511627776 := HBD.out _ (by rw [List.getD_eq_getElem?_getD, List.getElem?_eq_getElem (by omega), Option.getD_some]; exact List.getElem_mem _)
      obtain ⟨z, hz⟩ : ∃ z, z = l.getD (f - 1) 0 := ⟨_, rfl⟩
      rw [← hz] at hcell hzb hcd
      obtain ⟨ad2, he2, hcell2⟩ := Kd.at_int HR.out (f : Int) (by omega) (by omega)
      cases he2
      rw [rd_getD, Int.toNat_natCast] at hcell2
      have hzb2 : 0 ≤ l.getD f 0 ∧ l.getD f 0 ≤ 1099511627776 := HBD.out _ (by rw [List.getD_eq_getElem?_getD, List.getElem?_eq_getElem (by omega), Option.getD_some]; exact List.getElem_mem _)
      obtain ⟨z2, hz2⟩ : ∃ z2, z2 = l.getD f 0 := ⟨_, rfl⟩
      rw [← hz2] at hcell2 hzb2 hcd
      have hcd' : z2 - m < m - z := by omega
      have hflt : (f : Int) < (l.length : Int) := by omega
      have hf1 : 1 ≤ f := by omega
      clear hp hz2 hz h0 hcd
      rcases hdi with ⟨hneg, rfl⟩ | ⟨hneg, rfl⟩
      all_goals
        go_enter Try.func41, Try.ntmps41
        go_wp2_with fail
        refine (HF1.out _ (Below.refl _ _)).mono ?_
        rintro e w1 ⟨rfl, hb0⟩
        replace hcell := cnx hcell hb0
        replace hcell2 := cnx hcell2 hb0
        go_wp2_with fail
        go_quiet (fail)
        have hb1 := below_drewN' hb0 nq
        go_wp2
        go_ret
        exact ⟨ret_int (by unfold sg; split <;> omega), hb1⟩

end Go.Proofs.Ytglpdojccncjjaa.Q15
