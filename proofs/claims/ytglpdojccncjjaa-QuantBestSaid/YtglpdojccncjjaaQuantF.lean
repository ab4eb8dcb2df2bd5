/- What each function of package quant returns: Quantize, Values, Noise. -/
import Derived.Test.YtglpdojccncjjaaQuantE
import Derived.WalkKit
import Derived.WalkSpells
import Derived.WalkLawsBesides
import Derived.KernelRfl
import Derived.Deep.RegionHeld3
import Derived.Deep.LoopGhost
import Derived.Deep.AppendLies
import Derived.Laws.Rows
import Derived.Shelf.GgClosure.Gives
import Derived.Test.YtglpdojccncjjaaWWords
import Derived.Test.YtglpdojccncjjaaWLast
import Derived.Test.YtglpdojccncjjaaWMore
namespace Go.Proofs.Ytglpdojccncjjaa.Q15
open Go.RowKit Go.Proofs.YtglpdojccncjjaaW.PrintWords Go.Proofs.YtglpdojccncjjaaW.PrintLast Go.Proofs.YtglpdojccncjjaaW.PrintMore
attribute [local go_sem] max2_int min2_int max_two min_two max_three min_three

theorem chk_zero {p : Int → Bool} {l : List Int} {s : Int} (h : chk p l s = 0) : (0 ≤ s ∧ s ≤ 95) ∧ l.length ≤ 128 ∧ ∀ x ∈ l, p x = true := by
  unfold chk at h
  split at h
  · rename_i h1
    split at h
    · rename_i h2
      split at h
      · rename_i h3
        exact ⟨isS_bd h1, h2, List.all_eq_true.1 h3⟩
      · omega
    · omega
  · omega

set_option maxHeartbeats 400000 in
theorem Quantize_yes (A : Option Addr) (cap : Nat) (l : List Int) (s : Int) (w : World) (hr : (Kd.int .i64).C w A l.length l) (hk : chk isC l s = 0) :
    Calls Try.prog 18 #[.slice A l.length cap, .int .i64 s] w fun e w' => ∃ v, e = .returned (.tuple #[v, .int .i64 0]) ∧ (Kd.int .i64).R 3 w' w.heap.size (fun _ => True) v (l.map fun c => sg c (qn (stepI s) (absI c))) ∧ Below w.heap.size w w' := by
  obtain ⟨hs, hl, hp⟩ := chk_zero hk
  have HC := fun W hb => check_calls 37 isC A cap l s W (fun _ _ => by kernel_rfl) (Kd.C_below hr hb) fn_isC
  rw [hk] at HC
  replace HC := Aside0.mk HC
  have hst := stepI_bd hs.1 hs.2
  have HW := fun w => with_calls s w hs.1 hs.2
  obtain ⟨st, hst'⟩ : ∃ st, st = stepI s := ⟨_, rfl⟩
  rw [← hst'] at hst HW ⊢
  have HM : ∀ W B, Below w.heap.size w W → W.cell? ⟨B, 0, none⟩ = some (.int .i64 st) →
      Calls Try.prog 44 #[.slice A l.length cap, .func (.func 45) #[] #[.pointer (some ⟨B, 0, none⟩)]] W fun e w' => ∃ v : Value, e = .returned v ∧ (Kd.int .i64).R 3 w' W.heap.size (fun _ => True) v (l.map fun c => sg c (qn st (absI c))) ∧ Below W.heap.size W w' :=
    fun W B hb hB => mapped_calls _ #[] _ _ A cap l W (fun _ _ => by kernel_rfl) (Kd.C_below hr hb) (by omega) (fun c hc W' hb' => by
      have hcb := isC_bd (hp c hc)
      exact quantize1_calls c st B W' (cnx hB hb') (by omega) hst.2 hcb.1 hcb.2)
  replace HM := Aside0.mk HM
  replace HW := Aside0.mk HW
  clear hst' hk hr hp
  go_enter Try.func18, Try.ntmps18
  go_wp2_with (first | (go_at_call 43; refine (HC.out _ (Below.refl _ _)).mono ?_; rintro e w' ⟨rfl, hb0⟩) | (go_at_call 39; refine (HW.out _).mono ?_; rintro e w' ⟨rfl, hb1⟩) | (go_at_call 44; have hb2 := (bnx hb0 hb1).alloc (bnx hb0 hb1).size (.cells #[.int .i64 st] 43); refine (HM.out _ _ hb2 (by simp)).mono ?_; rintro e w2 ⟨v, rfl, hR, hb3⟩))
  go_ret2
  exact ⟨v, rfl, Kd.R_lower hR hb2.size, bnx hb2 hb3⟩

set_option maxHeartbeats 400000 in
theorem Values_no (A : Option Addr) (cap : Nat) (l : List Int) (s : Int) (w : World) (hr : (Kd.int .i64).C w A l.length l) (hk : chk isQ l s ≠ 0) :
    Calls Try.prog 20 #[.slice A l.length cap, .int .i64 s] w fun e w' => e = .returned (.tuple #[.slice none 0 0, .int .i64 (chk isQ l s)]) ∧ Below w.heap.size w w' := by
  obtain ⟨e0, he0⟩ : ∃ e0, e0 = chk isQ l s := ⟨_, rfl⟩
  have HC := fun W hb => check_calls 29 isQ A cap l s W (fun _ _ => by kernel_rfl) (Kd.C_below hr hb) fn_isQ
  rw [← he0] at HC hk ⊢
  replace HC := Aside0.mk HC
  have hk' : (e0 == 0) = false := beq_eq_false_iff_ne.2 hk
  have hb1 := (Below.refl w.heap.size w).alloc (Nat.le_refl _) (.cells #[.int .i64 s] 3)
  clear he0 hr
  go_enter Try.func20, Try.ntmps20
  go_wp2_with (first | (go_at_call 43; refine (HC.out _ hb1).mono ?_; rintro e w' ⟨rfl, hb0⟩))
  go_ret2
  exact ⟨rfl, bnx hb1 hb0⟩

set_option maxHeartbeats 400000 in
theorem Values_yes (A : Option Addr) (cap : Nat) (l : List Int) (s : Int) (w : World) (hr : (Kd.int .i64).C w A l.length l) (hk : chk isQ l s = 0) :
    Calls Try.prog 20 #[.slice A l.length cap, .int .i64 s] w fun e w' => ∃ v, e = .returned (.tuple #[v, .int .i64 0]) ∧ (Kd.int .i64).R 3 w' w.heap.size (fun _ => True) v (l.map fun q => sg q (V (stepI s) (absI q))) ∧ Below w.heap.size w w' := by
  obtain ⟨hs, hl, hp⟩ := chk_zero hk
  have HC := fun W hb => check_calls 29 isQ A cap l s W (fun _ _ => by kernel_rfl) (Kd.C_below hr hb) fn_isQ
  rw [hk] at HC
  replace HC := Aside0.mk HC
  have HM : ∀ W B, Below w.heap.size w W → W.cell? ⟨B, 0, none⟩ = some (.int .i64 s) →
      Calls Try.prog 44 #[.slice A l.length cap, .func (.func 49) #[] #[.pointer (some ⟨B, 0, none⟩)]] W fun e w' => ∃ v : Value, e = .returned v ∧ (Kd.int .i64).R 3 w' W.heap.size (fun _ => True) v (l.map fun q => sg q (V (stepI s) (absI q))) ∧ Below W.heap.size W w' :=
    fun W B hb hB => mapped_calls _ #[] _ _ A cap l W (fun _ _ => by kernel_rfl) (Kd.C_below hr hb) (by omega) (fun c hc W' hb' => by
      have hcb := isQ_bd (hp c hc)
      exact values1_calls c s B W' (cnx hB hb') hcb.1 hcb.2 hs.1 hs.2)
  replace HM := Aside0.mk HM
  have hb1 := (Below.refl w.heap.size w).alloc (Nat.le_refl _) (.cells #[.int .i64 s] 3)
  clear hk hr hp
  go_enter Try.func20, Try.ntmps20
  go_wp2_with (first | (go_at_call 43; refine (HC.out _ hb1).mono ?_; rintro e w2 ⟨rfl, hb0⟩; have hcell : w2.cell? ⟨w.heap.size, 0, none⟩ = some (.int .i64 s) := cnx (by simp) hb0) | (go_at_call 44; refine (HM.out _ _ (bnx hb1 hb0) hcell).mono ?_; rintro e w2 ⟨v, rfl, hR, hb3⟩))
  go_ret2
  exact ⟨v, rfl, Kd.R_lower hR (bnx hb1 hb0).size, bnx (bnx hb1 hb0) hb3⟩

set_option maxHeartbeats 400000 in
theorem Noise_no (A : Option Addr) (cap : Nat) (l : List Int) (s : Int) (w : World) (hr : (Kd.int .i64).C w A l.length l) (hk : chk isC l s ≠ 0) :
    Calls Try.prog 22 #[.slice A l.length cap, .int .i64 s] w fun e w' => e = .returned (.tuple #[.int .i64 0, .int .i64 (chk isC l s)]) ∧ Below w.heap.size w w' := by
  obtain ⟨e0, he0⟩ : ∃ e0, e0 = chk isC l s := ⟨_, rfl⟩
  have HC := fun W hb => check_calls 37 isC A cap l s W (fun _ _ => by kernel_rfl) (Kd.C_below hr hb) fn_isC
  rw [← he0] at HC hk ⊢
  replace HC := Aside0.mk HC
  have hk' : (e0 == 0) = false := beq_eq_false_iff_ne.2 hk
  clear he0 hr
  go_enter Try.func22, Try.ntmps22
  go_wp2_with (first | (go_at_call 43; refine (HC.out _ (Below.refl _ _)).mono ?_; rintro e w' ⟨rfl, hb0⟩))
  go_ret2
  exact ⟨rfl, hb0⟩

set_option maxHeartbeats 400000 in
theorem Noise_yes (A : Option Addr) (cap : Nat) (l : List Int) (s : Int) (w : World) (hr : (Kd.int .i64).C w A l.length l) (hk : chk isC l s = 0) :
    Calls Try.prog 22 #[.slice A l.length cap, .int .i64 s] w fun e w' => e = .returned (.tuple #[.int .i64 (noiseTo (stepI s) 72057594037927936 0 l), .int .i64 0]) ∧ Below w.heap.size w w' := by
  obtain ⟨hs, hl, hp⟩ := chk_zero hk
  have HC := fun W hb => check_calls 37 isC A cap l s W (fun _ _ => by kernel_rfl) (Kd.C_below hr hb) fn_isC
  rw [hk] at HC
  replace HC := Aside0.mk HC
  have hst := stepI_bd hs.1 hs.2
  have HW := fun w => with_calls s w hs.1 hs.2
  obtain ⟨st, hst'⟩ : ∃ st, st = stepI s := ⟨_, rfl⟩
  rw [← hst'] at hst HW ⊢
  have HM := fun W hb => noise_calls st A cap l 72057594037927936 W (Kd.C_below hr hb) (by omega) (by omega) hst.2 (fun n hn => isC_bd (hp n hn))
  replace HM := Aside0.mk HM
  replace HW := Aside0.mk HW
  clear hst' hk hr hp
  go_enter Try.func22, Try.ntmps22
  go_wp2_with (first | (go_at_call 43; refine (HC.out _ (Below.refl _ _)).mono ?_; rintro e w' ⟨rfl, hb0⟩) | (go_at_call 39; refine (HW.out _).mono ?_; rintro e w' ⟨rfl, hb1⟩) | (go_at_call 51; refine (HM.out _ (bnx hb0 hb1)).mono ?_; rintro e w' ⟨rfl, hb2⟩))
  go_ret2
  exact ⟨rfl, bnx (bnx hb0 hb1) hb2⟩

end Go.Proofs.Ytglpdojccncjjaa.Q15
