/- What each function of layer 15's reference returns: lists. -/
import Derived.Test.YtglpdojccncjjaaQuantRb
import Derived.WalkKit
import Derived.WalkSpells
import Derived.WalkLawsBesides
import Derived.KernelRfl
import Derived.Deep.RegionHeld3
import Derived.Deep.LoopGhost
import Derived.Deep.AppendLies
import Derived.Laws.Rows
import Derived.Shelf.GgClosure.Gives
import Derived.Test.YtglpdojccncjjaaWWords
import Derived.Test.YtglpdojccncjjaaWLast
import Derived.Test.YtglpdojccncjjaaWMore
import Derived.Deep.QuietTactic
import Derived.BigQuiet
namespace Go.Proofs.Ytglpdojccncjjaa.Q15
open Go.RowKit Go.Proofs.YtglpdojccncjjaaW.PrintWords Go.Proofs.YtglpdojccncjjaaW.PrintLast Go.Proofs.YtglpdojccncjjaaW.PrintMore
attribute [local go_sem] max2_int min2_int max_two min_two max_three min_three

theorem pow_rd (k : Nat) : rd powTab k = P k := by unfold rd P; rw [Int.toNat_natCast]
theorem tab_take (x : Int) {k : Nat} (h : k < 1024) : (tab x).take (k + 1) = (tab x).take k ++ [V x k] := by
  rw [List.take_succ_eq_append_getElem (by rw [tab_len]; exact h), tab_at x h]
theorem tab_rising {x : Int} (hx : 0 ≤ x) : Rising (tab x) := fun i j hij hj => by
  rw [tab_len] at hj
  rw [tab_getD x (by omega), tab_getD x hj]
  exact V_mono hx (by omega) (by omega) (by omega)
theorem rising_take {l : List Int} (h : Rising l) (n : Nat) : Rising (l.take n) := fun i j hij hj => by
  rw [List.length_take] at hj
  rw [getD_take (by omega), getD_take (by omega)]
  exact h i j hij (by omega)
theorem up_rising {x : Int} (hx : 0 ≤ x) (g : Int) : Rising (upToL (tab x) g) := rising_take (tab_rising hx) _
theorem up_bd {x : Int} (hx : 0 ≤ x) (g : Int) : ∀ y ∈ upToL (tab x) g, 0 ≤ y ∧ y ≤ 2097152 := fun y hy => by
  have := List.mem_of_mem_take hy
  obtain ⟨k, hk, rfl⟩ := List.mem_iff_getElem.1 this
  rw [tab_len] at hk
  rw [tab_at x hk]
  exact V_bd _ hx
theorem up_pos (x g : Int) : 1 ≤ (upToL (tab x) g).length ∧ (upToL (tab x) g).length ≤ 1024 := by rw [up_len]; omega

set_option maxHeartbeats 400000 in
theorem Powers_calls (w : World) :
    Calls Try.prog 48 #[] w fun e w' => ∃ v : Value, e = .returned v ∧ (Kd.int .i64).R 3 w' w.heap.size (fun _ => True) v powTab ∧ Below w.heap.size w w' := by
  have hpl := powTab_len
  go_enter Try.func48, Try.ntmps48
  go_wp2
  go_loopw [1, 3] (fun o i wr => ∃ k : Nat, i = .int .i64 k ∧ (k : Int) ≤ 1024 ∧ Aside0 ((Kd.int .i64).R 3 wr w.heap.size (fun _ => True) o (powTab.take k)) ∧ Below w.heap.size w wr) (fun _ i _ => (1024 - intOf i).toNat)
  case atStart => exact ⟨0, rfl, by omega, ⟨Kd.R_nil _ _ _ _ _⟩, Below.refl _ _⟩
  case round =>
    obtain ⟨k, rfl, hk, ho, hb⟩ := hrel
    by_cases hlt : (k : Int) < 1024
    · have HC := fun w => rpower_calls k w (by omega) (by omega)
      rw [show absI (k : Int) = k by unfold absI; omega, ← pow_rd] at HC
      have HT := Aside0.mk (take_rd powTab k (by omega))
      obtain ⟨x, hx⟩ : ∃ x, x = rd powTab k := ⟨_, rfl⟩
      rw [← hx] at HC HT
      obtain ⟨y, hy⟩ : ∃ y, y = powTab.take k := ⟨_, rfl⟩
      have hyl : y.length ≤ 1099511627776 := by rw [hy]; simp; omega
      rw [← hy] at ho HT
      replace HC := Aside0.mk HC
      clear hx hy hpl
      go_wp2_with (first | (go_at_call 32; refine (HC.out _).mono ?_; rintro e w' ⟨rfl, hb1⟩; have HO1 := Aside0.mk (Kd.R_below ho.out hb1); have HB1 := Aside0.mk (bnx hb hb1); clear ho hb hb1) | (at_builtin; refine Kd.R_append (Kd.int .i64) (w0 := w) w.heap.size rfl (.tmp 6) (.tmp 9) 28 3 (.int .i64 0) 8 rfl Try.underlying28 info_int rfl (by decide) (by omega) u1 y (x) [.int .i64 (x)] (fun _ => True) (fun _ => False) rfl rfl rfl (fun _ hk => hk.elim) (fun _ _ => trivial) HO1.out HB1.out HB1.out.size (by omega) ?_; intro v1 wA hoA hbA hgA hatA; have HOA := Aside0.mk hoA; have HBA := Aside0.mk hbA; clear hoA hbA hgA hatA))
      go_roundw
      case rel => exact ⟨k + 1, by go_num, by omega, ⟨by rw [HT.out]; exact HOA.out⟩, HBA.out⟩
      case measure => simp [intOf]; omega
    · obtain rfl : k = 1024 := by omega
      have e : powTab.take 1024 = powTab := List.take_of_length_le (by omega)
      rw [e] at ho
      clear e
      go_wp2
      go_ret
      exact ⟨_, rfl, ho.out, hb⟩

set_option maxRecDepth 100000 in
set_option maxHeartbeats 1000000 in
theorem values_calls (A : Option Addr) (cap : Nat) (s g : Int) (w : World) (hr : (Kd.int .i64).C w A powTab.length powTab) (h2 : 0 ≤ s) (h3 : s ≤ 95) :
    Calls Try.prog 67 #[.slice A powTab.length cap, .int .i64 s, .int .i64 g] w fun e w' => ∃ v : Value, e = .returned v ∧ (Kd.int .i64).R 3 w' w.heap.size (fun _ => True) v (upToL (tab (stepI s)) g) ∧ Below w.heap.size w w' := by
  have hs := stepI_bd h2 h3
  have HS := fun p w hp0 hp1 => stands_calls p s w hp0 hp1 h2 h3
  have hpl := powTab_len
  have HR := Aside0.mk hr
  obtain ⟨x, hx⟩ : ∃ x, x = stepI s := ⟨_, rfl⟩
  rw [← hx] at hs HS ⊢
  replace HS := Aside0.mk HS
  obtain ⟨n, hn⟩ : ∃ n, n = powTab.length := ⟨_, rfl⟩
  rw [← hn] at HR hpl ⊢
  clear hx hr hn
  go_enter Try.func67, Try.ntmps67
  go_wp2
  go_loopw [7, 13] (fun o i wr => ∃ k : Nat, i = .int .i64 k ∧ k ≤ n ∧ Aside0 (∀ j, j < k → (tab x).getD j 0 < g) ∧ Aside0 ((Kd.int .i64).R 3 wr w.heap.size (fun _ => True) o ((tab x).take k)) ∧ Below w.heap.size w wr) (fun _ i _ => n - (intOf i).toNat)
  case atStart => exact ⟨0, rfl, by omega, ⟨fun j hj => by omega⟩, ⟨Kd.R_nil _ _ _ _ _⟩, Below.refl _ _⟩
  case round =>
    obtain ⟨k, rfl, hk, hj, ho, hb⟩ := hrel
    by_cases hlt : k < n
    · obtain ⟨ad, rfl, hcell⟩ := Kd.at_int HR.out (k : Int) (by omega) (by omega)
      rw [pow_rd, Int.toNat_natCast] at hcell
      replace hcell := cnx hcell hb
      have hp := P_bd k
      have HC := fun w => HS.out (P k) w hp.1 hp.2
      rw [V_min] at HC
      have HT := Aside0.mk (tab_take x (show k < 1024 by omega))
      have HG := Aside0.mk (tab_getD x (show k < 1024 by omega))
      have hv := V_bd (x := x) k (by omega)
      obtain ⟨p, hpe⟩ : ∃ p, p = P k := ⟨_, rfl⟩
      obtain ⟨v, hv'⟩ : ∃ v, v = V x k := ⟨_, rfl⟩
      rw [← hpe] at hcell hp HC
      rw [← hv'] at HC HT HG hv
      obtain ⟨y, hy⟩ : ∃ y, y = (tab x).take k := ⟨_, rfl⟩
      have hyl : y.length ≤ 1099511627776 := by rw [hy]; simp; omega
      rw [← hy] at ho HT
      replace HC := Aside0.mk HC
      have HJ1 : Aside0 (v < g → ∀ j, j < k + 1 → (tab x).getD j 0 < g) := ⟨fun h j h1 => by
        rcases Nat.lt_succ_iff_lt_or_eq.1 h1 with h2 | rfl
        · exact hj.out j h2
        · rw [HG.out]; exact h⟩
      have HJ2 : Aside0 (g ≤ v → upToL (tab x) g = y ++ [v]) := ⟨fun h => by
        unfold upToL
        rw [first_is (j := k) (by rw [tab_len]; omega) hj.out (fun _ => by rw [HG.out]; exact h), HT.out]⟩
      have hnb : (n : Int) ≤ 1024 := by omega
      clear hpe hv' hy hj hpl hs h2 h3
      by_cases hge : g ≤ v
      · go_wp2_with (first | (go_at_call 60; refine (HC.out _).mono ?_; rintro e w' ⟨rfl, hb1⟩; have HO1 := Aside0.mk (Kd.R_below ho.out hb1); have HB1 := Aside0.mk (bnx hb hb1); clear ho hb hb1) | (at_builtin; refine Kd.R_append (Kd.int .i64) (w0 := w) w.heap.size rfl (.tmp 20) (.tmp 22) 28 3 (.int .i64 0) 8 rfl Try.underlying28 info_int rfl (by decide) (by omega) u7 y (v) [.int .i64 (v)] (fun _ => True) (fun _ => False) rfl rfl rfl (fun _ hk => hk.elim) (fun _ _ => trivial) HO1.out HB1.out HB1.out.size (by omega) ?_; intro v1 wA hoA hbA hgA hatA; have HOA := Aside0.mk hoA; have HBA := Aside0.mk hbA; clear hoA hbA hgA hatA))
        go_ret
        exact ⟨_, rfl, by rw [HJ2.out hge]; exact HOA.out, HBA.out⟩
      · go_wp2_with (first | (go_at_call 60; refine (HC.out _).mono ?_; rintro e w' ⟨rfl, hb1⟩; have HO1 := Aside0.mk (Kd.R_below ho.out hb1); have HB1 := Aside0.mk (bnx hb hb1); clear ho hb hb1) | (at_builtin; refine Kd.R_append (Kd.int .i64) (w0 := w) w.heap.size rfl (.tmp 20) (.tmp 22) 28 3 (.int .i64 0) 8 rfl Try.underlying28 info_int rfl (by decide) (by omega) u7 y (v) [.int .i64 (v)] (fun _ => True) (fun _ => False) rfl rfl rfl (fun _ hk => hk.elim) (fun _ _ => trivial) HO1.out HB1.out HB1.out.size (by omega) ?_; intro v1 wA hoA hbA hgA hatA; have HOA := Aside0.mk hoA; have HBA := Aside0.mk hbA; clear hoA hbA hgA hatA))
        go_roundw
        case rel => exact ⟨k + 1, by go_num, by omega, ⟨HJ1.out (by omega)⟩, ⟨by rw [HT.out]; exact HOA.out⟩, HBA.out⟩
        case measure => simp [intOf]; omega
    · obtain rfl : k = n := by omega
      have e : (tab x).take k = upToL (tab x) g := by
        unfold upToL
        have : firstL (tab x) g = 1024 := first_is (by rw [tab_len]; omega) (fun i hi => hj.out i (by omega)) (fun h => by rw [tab_len] at h; omega)
        rw [this, List.take_of_length_le (by rw [tab_len]; omega), List.take_of_length_le (by rw [tab_len]; omega)]
      rw [e] at ho
      clear e
      go_wp2
      go_ret
      exact ⟨_, rfl, ho.out, hb⟩

end Go.Proofs.Ytglpdojccncjjaa.Q15
