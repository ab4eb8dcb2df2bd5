/- What each function of package quant returns: the quantum, the noise, the lists. -/
import Derived.Test.YtglpdojccncjjaaQuantB
import Derived.WalkKit
import Derived.WalkSpells
import Derived.WalkLawsBesides
import Derived.KernelRfl
import Derived.Deep.RegionHeld3
import Derived.Deep.LoopGhost
import Derived.Deep.AppendLies
import Derived.Laws.Rows
import Derived.Shelf.GgClosure.Gives
import Derived.Test.YtglpdojccncjjaaWWords
import Derived.Test.YtglpdojccncjjaaWLast
import Derived.Test.YtglpdojccncjjaaWMore
namespace Go.Proofs.Ytglpdojccncjjaa.Q15
open Go.RowKit Go.Proofs.YtglpdojccncjjaaW.PrintWords Go.Proofs.YtglpdojccncjjaaW.PrintLast Go.Proofs.YtglpdojccncjjaaW.PrintMore
attribute [local go_sem] max2_int min2_int max_two min_two max_three min_three

set_option maxHeartbeats 1000000 in
theorem quantum_calls (x c : Int) (w : World) (hx0 : 0 ≤ x) (hx1 : x ≤ 268435456) (hc0 : 0 ≤ c) (hc9 : c ≤ 2097152) :
    Calls Try.prog 40 #[.int .i64 x, .int .i64 c] w fun e w' => e = .returned (.int .i64 (qn x c)) ∧ Below w.heap.size w w' := by
  obtain ⟨q, hq⟩ : ∃ q, q = fst (fun k => decide (V x k ≥ c)) 0 1023 := ⟨_, rfl⟩
  have hqb : 0 ≤ q ∧ q ≤ 1023 := by rw [hq]; exact fst_bd _ (by omega)
  have hV : ∀ a b, 0 ≤ a → a ≤ b → b < 1023 → V x a ≤ V x b := fun a b h0 h h1 => V_mono hx0 h0 h (by omega)
  have HF : ∀ W : World, W.cell? ⟨w.heap.size, 0, none⟩ = some (.int .i64 x) → W.cell? ⟨w.heap.size + 1, 0, none⟩ = some (.int .i64 c) →
      Calls Try.prog 62 #[.int .i64 0, .int .i64 1023, .func (.func 63) #[] #[.pointer (some ⟨w.heap.size, 0, none⟩), .pointer (some ⟨w.heap.size + 1, 0, none⟩)]] W
        fun e w' => e = .returned (.int .i64 q) ∧ Below W.heap.size W w' := fun W h1 h2 => by
    rw [hq]
    refine first_calls _ #[] _ (fun k => decide (V x k ≥ c)) 0 1023 W (fun _ _ => by kernel_rfl) (by omega) (by omega) (by omega) (fun k k0 k1 W' hb => ?_) (fun a b a0 ab b1 ha => ?_)
    · exact q1_calls _ _ x c k W' (cnx h1 hb) (cnx h2 hb) hx0 hx1 k0 (by omega)
    · have := hV a b a0 ab b1
      simp only [decide_eq_true_eq] at ha ⊢
      omega
  have HN : ∀ (k : Int) (W : World), 0 ≤ k → k ≤ 1023 → W.cell? ⟨w.heap.size, 0, none⟩ = some (.int .i64 x) → W.cell? ⟨w.heap.size + 1, 0, none⟩ = some (.int .i64 c) →
      Calls Try.prog 64 #[.int .i64 k, .pointer (some ⟨w.heap.size, 0, none⟩), .pointer (some ⟨w.heap.size + 1, 0, none⟩)] W
        fun e w' => e = .returned (.int .i64 (absI (V x k - c))) ∧ Below W.heap.size W w' := fun k W k0 k1 h1 h2 => q2_calls _ _ x c k W h1 h2 hx0 hx1 k0 k1 hc0 hc9
  have HG : ∀ (B : Nat) (W : World), 1 ≤ q → W.cell? ⟨w.heap.size, 0, none⟩ = some (.int .i64 x) → W.cell? ⟨B, 0, none⟩ = some (.int .i64 (V x (q - 1))) →
      Calls Try.prog 62 #[.int .i64 0, .int .i64 (q - 1), .func (.func 65) #[] #[.pointer (some ⟨w.heap.size, 0, none⟩), .pointer (some ⟨B, 0, none⟩)]] W
        fun e w' => e = .returned (.int .i64 (fst (fun k => decide (V x k ≥ V x (q - 1))) 0 (q - 1))) ∧ Below W.heap.size W w' := fun B W q1 h1 h2 => by
    refine first_calls _ #[] _ (fun k => decide (V x k ≥ V x (q - 1))) 0 (q - 1) W (fun _ _ => by kernel_rfl) (by omega) (by omega) (by omega) (fun k k0 k1 W' hb => ?_) (fun a b a0 ab b1 ha => ?_)
    · exact q3_calls _ _ x _ k W' (cnx h1 hb) (cnx h2 hb) hx0 hx1 k0 (by omega)
    · have := hV a b a0 ab (by omega)
      simp only [decide_eq_true_eq] at ha ⊢
      omega
  have hqn : qn x c = if q = 0 then 0 else if absI (V x (q - 1) - c) ≤ absI (V x q - c) then fst (fun k => decide (V x k ≥ V x (q - 1))) 0 (q - 1) else q := by unfold qn; rw [← hq]
  obtain ⟨W1, hW1⟩ : ∃ W1, W1 = (w.alloc (.cells #[.int .i64 x] 43)).alloc (.cells #[.int .i64 c] 3) := ⟨_, rfl⟩
  have hb0 : Below w.heap.size w W1 := by rw [hW1]; exact ((Below.refl _ _).alloc (Nat.le_refl _) _).alloc (by simp) _
  have k1 : W1.cell? ⟨w.heap.size, 0, none⟩ = some (.int .i64 x) := by rw [hW1]; simp
  have k2 : W1.cell? ⟨w.heap.size + 1, 0, none⟩ = some (.int .i64 c) := by rw [hW1]; simp
  have HQN := Aside0.mk hqn
  replace HF := Aside0.mk HF
  replace HN := Aside0.mk HN
  replace HG := Aside0.mk HG
  clear hV hqn hq
  go_enter Try.func40, Try.ntmps40
  go_wp2_with fail
  rw [← hW1]
  refine (HF.out W1 k1 k2).mono ?_
  rintro e w1 ⟨rfl, hb1⟩
  have m1 := cnx k1 hb1
  have m2 := cnx k2 hb1
  have hB1 := bnx hb0 hb1
  clear hW1
  by_cases hq0 : q = 0
  · subst hq0
    go_wp2
    go_ret
    exact ⟨ret_int (by rw [HQN.out]; rfl), hB1⟩
  · have hq1 : 1 ≤ q := by omega
    have hqe : (q == 0) = false := beq_eq_false_iff_ne.2 hq0
    obtain ⟨d1, hd1⟩ : ∃ d1, d1 = absI (V x (q - 1) - c) := ⟨_, rfl⟩
    obtain ⟨d2, hd2⟩ : ∃ d2, d2 = absI (V x q - c) := ⟨_, rfl⟩
    have N1 := fun W => HN.out (q - 1) W (by omega) (by omega)
    have N2 := fun W => HN.out q W (by omega) (by omega)
    rw [← hd1] at N1
    rw [← hd2] at N2
    have hq2 := HQN.out
    rw [if_neg hq0, ← hd1, ← hd2] at hq2
    have HQ2 := Aside0.mk hq2
    replace N1 := Aside0.mk N1
    replace N2 := Aside0.mk N2
    clear hq2 hd1 hd2 HQN
    go_wp2_with fail
    refine (N1.out w1 m1 m2).mono ?_
    rintro e w2 ⟨rfl, hb2⟩
    have n1 := cnx m1 hb2
    have n2 := cnx m2 hb2
    have hB2 := bnx hB1 hb2
    go_wp2_with fail
    refine (N2.out w2 n1 n2).mono ?_
    rintro e w3 ⟨rfl, hb3⟩
    have p1 := cnx n1 hb3
    have hB3 := bnx hB2 hb3
    by_cases hd : d1 ≤ d2
    · have hq3 := HQ2.out
      rw [if_pos hd] at hq3
      have HQ3 := Aside0.mk hq3
      clear hq3 HQ2
      go_wp2_with fail
      refine (xvalue_calls x (q - 1) _ hx0 hx1 (by omega) (by omega)).mono ?_
      rintro e w4 ⟨rfl, hb4⟩
      have hv := V_bd (q - 1) hx0
      obtain ⟨v, hv'⟩ : ∃ v, v = V x (q - 1) := ⟨_, rfl⟩
      have G := HG.out
      rw [← hv'] at hv G ⊢
      replace G := Aside0.mk G
      replace HQ3 := HQ3.out
      rw [← hv'] at HQ3
      replace HQ3 := Aside0.mk HQ3
      have r1 := cnx p1 hb4
      have hB4 := bnx hB3 hb4
      clear hv' HG
      go_wp2_with fail
      refine (G.out w4.heap.size (w4.alloc (.cells #[.int .i64 v] 3)) hq1 (cnx r1 ((Below.refl _ _).alloc (Nat.le_refl _) _)) (by simp)).mono ?_
      rintro e w5 ⟨rfl, hb5⟩
      go_wp2
      go_ret
      exact ⟨ret_int (by rw [HQ3.out]), bnx (hB4.alloc hB4.size _) hb5⟩
    · have hq3 := HQ2.out
      rw [if_neg hd] at hq3
      have HQ3 := Aside0.mk hq3
      clear hq3 HQ2
      go_wp2
      go_ret
      exact ⟨ret_int (by rw [HQ3.out]), hB3⟩

theorem qn_bd {x c : Int} (_ : 0 ≤ x) : 0 ≤ qn x c ∧ qn x c ≤ 1023 := by
  unfold qn
  have h := fst_bd (fun k => decide (V x k ≥ c)) (show (0 : Int) ≤ 1023 by omega)
  generalize fst (fun k => decide (V x k ≥ c)) 0 1023 = q at h
  dsimp only
  split
  · omega
  · split
    · have := fst_bd (fun k => decide (V x k ≥ V x (q - 1))) (show (0 : Int) ≤ q - 1 by omega)
      omega
    · omega

set_option maxHeartbeats 400000 in
theorem Quantum_calls (c s : Int) (w : World) :
    Calls Try.prog 15 #[.int .i64 c, .int .i64 s] w fun e w' => e = .returned (.tuple (if isS s then if isC c then #[.int .i64 (sg c (qn (stepI s) (absI c))), .int .i64 0] else #[.int .i64 0, .int .i64 6] else #[.int .i64 0, .int .i64 1])) ∧ Below w.heap.size w w' := by
  cases h : isS s with
  | true =>
    obtain ⟨g1, g2⟩ := isS_bd h
    cases k : isC c with
    | true =>
      obtain ⟨h1, h2⟩ := isC_bd k
      have hs := stepI_bd g1 g2
      have ha : 0 ≤ absI c ∧ absI c ≤ 2097152 := by unfold absI; omega
      have hqb := qn_bd (x := stepI s) (c := absI c) (by omega)
      obtain ⟨st, hst⟩ : ∃ st, st = stepI s := ⟨_, rfl⟩
      have hw := fun w => with_calls s w g1 g2
      rw [← hst] at hs hw hqb ⊢
      replace hw := Aside0.mk hw
      clear hst
      go_enter Try.func15, Try.ntmps15
      go_wp2_with (first | (go_at_call 33; refine (isS_calls _ _).mono ?_; rintro e w' ⟨rfl, hb0⟩) | (go_at_call 37; refine (isC_calls _ _).mono ?_; rintro e w' ⟨rfl, hb1⟩) | (go_at_call 39; refine (hw.out _).mono ?_; rintro e w' ⟨rfl, hb2⟩) |
        (go_at_call 38; refine (signed_calls 40 #[.int .i64 st] #[] c (qn st (absI c)) _ (fun _ _ => by kernel_rfl) (by omega) (by omega) (by omega) (by omega) (fun W _ => quantum_calls st _ W (by omega) hs.2 ha.1 ha.2)).mono ?_; rintro e w' ⟨rfl, hb⟩))
      go_ret2
      exact ⟨rfl, bnx (bnx (bnx hb0 hb1) hb2) hb⟩
    | false =>
      go_enter Try.func15, Try.ntmps15
      go_wp2_with (first | (go_at_call 33; refine (isS_calls _ _).mono ?_; rintro e w' ⟨rfl, hb0⟩) | (go_at_call 37; refine (isC_calls _ _).mono ?_; rintro e w' ⟨rfl, hb1⟩))
      go_ret2
      exact ⟨rfl, bnx hb0 hb1⟩
  | false =>
    go_enter Try.func15, Try.ntmps15
    go_wp2_with (first | (go_at_call 33; refine (isS_calls _ _).mono ?_; rintro e w' ⟨rfl, hb0⟩))
    go_ret2
    exact ⟨rfl, hb0⟩

end Go.Proofs.Ytglpdojccncjjaa.Q15
