/- What right returns. -/
import Derived.Test.YtljadjoljhanfaaMk
import Derived.WalkKit
import Derived.WalkSpells
import Derived.WalkLawsBesides
import Derived.KernelRfl
import Derived.Deep.RegionHeld3
import Derived.Deep.LoopGhost
import Derived.Deep.AppendLies
import Derived.Laws.Rows
import Derived.Shelf.GgClosure.Gives
import Derived.Test.YtljadjoljhanfaaWWords
import Derived.Test.YtljadjoljhanfaaWLast
import Derived.Test.YtljadjoljhanfaaWMore
set_option linter.unusedVariables false
set_option linter.unusedSimpArgs false
namespace Go.Proofs.Ytljadjoljhanfaa.Q16
open Go.RowKit Go.Proofs.YtljadjoljhanfaaW.PrintWords Go.Proofs.YtljadjoljhanfaaW.PrintLast Go.Proofs.YtljadjoljhanfaaW.PrintMore
attribute [local go_sem] max2_int min2_int max_two min_two max_three min_three
open Go.Proofs.Ytljadjoljhanfaa.Q15

set_option maxHeartbeats 1000000 in
theorem rWidths_long (A : Option Addr) (cap : Nat) (l : List Int) (w : World) (hr : (Kd.int .i64).C w A l.length l) (hl : 32 < l.length) :
    Calls Try.prog 63 #[.slice A l.length cap] w fun e w' => e = .returned (.bool (isW l)) ∧ Below w.heap.size w w' := by
  have hW : isW l = false := by
    rw [← Bool.not_eq_true]
    intro h
    have := (isW_iff.1 h).2.2
    omega
  rw [hW]
  have hmax : (l.length : Int) ≤ 9223372036854775807 := by have := hr.2.1; omega
  have HR := Aside0.mk hr
  have g1 : decide ((1 : Int) ≤ (l.length : Int)) = true := by simp; omega
  have g2 : decide ((l.length : Int) ≤ (32 : Int)) = false := by simp; omega
  clear hr hW hl
  go_enter Try.func63, Try.ntmps63
  go_wp2
  go_loopw [3, 8] (fun s i wr => ∃ (k : Nat) (z : Int), i = .int .i64 k ∧ s = .int .i64 z ∧ k ≤ l.length ∧ Below w.heap.size w wr) (fun _ i _ => l.length - (intOf i).toNat)
  case atStart => exact ⟨0, 0, rfl, rfl, by omega, Below.refl _ _⟩
  case round =>
    obtain ⟨k, z, rfl, rfl, hk, hb⟩ := hrel
    by_cases hlt : k < l.length
    · obtain ⟨ad, rfl, hcell⟩ := el_at HR.out hb hlt
      have hkI : (k : Int) < (l.length : Int) := by omega
      have hk1 : IntKind.i64.wrap ((k : Int) + 1) = (k : Int) + 1 := IntWalk.i64_in _ (by omega)
      obtain ⟨n, hx⟩ : ∃ n, n = rd l k := ⟨_, rfl⟩
      rw [← hx] at hcell
      clear hx
      by_cases h1 : n < 1
      · go_wp2
        go_ret
        exact ⟨rfl, hb⟩
      · by_cases h2 : 128 < n
        · go_wp2
          go_ret
          exact ⟨rfl, hb⟩
        · go_wp2
          go_roundw
          case rel => exact ⟨k + 1, _, by go_num, rfl, by omega, hb⟩
          case measure => simp [intOf]; omega
    · obtain rfl : k = l.length := by omega
      go_wp2
      go_ret
      exact ⟨rfl, hb⟩
theorem rWidths_any (A : Option Addr) (cap : Nat) (l : List Int) (w : World) (hr : (Kd.int .i64).C w A l.length l) :
    Calls Try.prog 63 #[.slice A l.length cap] w fun e w' => e = .returned (.bool (isW l)) ∧ Below w.heap.size w w' := by
  by_cases h : 32 < l.length
  · exact rWidths_long A cap l w hr h
  · exact rWidths_calls A cap l w hr (by omega)

/-- Whether limits are those of a frame that is one. -/
def rightB (c l m : List Int) : Bool := decide (errS (-2097152) 2097152 0 72057594037927936 c l m = 0)
theorem rightB_iff (c l m : List Int) : rightB c l m = true ↔ c.length = 128 ∧ rng (-2097152) 2097152 c = true ∧ isW l = true ∧ m.length = l.length ∧ ∀ x ∈ m, 0 ≤ x ∧ x ≤ 72057594037927936 := by
  unfold rightB
  rw [decide_eq_true_iff]
  constructor
  · intro h
    obtain ⟨g0, g1, g2, g3, g4, g5⟩ := errS_zero h
    exact ⟨g1, g3, g0, g2, fun x hx => rng_mem g4 hx⟩
  · rintro ⟨h1, h2, h3, h4, h5⟩
    unfold errS
    have hf : formE c.length l [m.length] = 0 := by
      unfold formE
      rw [if_pos h3, if_pos h1, if_pos (by simp [h4])]
    rw [if_pos hf, h2, if_pos rfl, show rng 0 72057594037927936 m = true from List.all_eq_true.2 fun x hx => decide_eq_true (h5 x hx), if_pos rfl]

set_option maxRecDepth 100000 in
set_option maxHeartbeats 1000000 in
theorem right_calls (A0 A1 A2 : Option Addr) (c0 c1 c2 : Nat) (c l m : List Int) (w : World) (hr0 : (Kd.int .i64).C w A0 c.length c) (hr1 : (Kd.int .i64).C w A1 l.length l) (hr2 : (Kd.int .i64).C w A2 m.length m) :
    Calls Try.prog 28 #[.agg #[.slice A0 c.length c0, .slice A1 l.length c1], .slice A2 m.length c2] w fun e w' => e = .returned (.bool (rightB c l m)) ∧ Below w.heap.size w w' := by
  have hb : Below w.heap.size w (w.alloc (.cells #[.slice A0 c.length c0, .slice A1 l.length c1] 24)) := (Below.refl w.heap.size w).alloc (Nat.le_refl _) _
  have HW := fun (W : World) (hb : Below w.heap.size w W) => rWidths_any A1 c1 l W (Kd.C_below hr1 hb)
  have HI := rightB_iff c l m
  obtain ⟨R, hR⟩ : ∃ R, R = rightB c l m := ⟨_, rfl⟩
  rw [← hR] at HI ⊢
  replace HI := Aside0.mk HI
  have HR2 := Aside0.mk hr2
  clear hR
  by_cases h1 : c.length = 128
  · have HC := fun (W : World) (hb : Below w.heap.size w W) => Within_calls 2097152 (by decide) A0 c0 c W (Kd.C_below hr0 hb) (by omega)
    rw [h1] at HC ⊢
    obtain ⟨x1, hx1⟩ : ∃ x, x = rng (-2097152) 2097152 c := ⟨_, rfl⟩
    rw [← hx1] at HI HC
    obtain ⟨x2, hx2⟩ : ∃ x, x = isW l := ⟨_, rfl⟩
    have hl32 : x2 = true → l.length ≤ 32 := fun h => (isW_iff.1 (by rw [← hx2]; exact h)).2.2
    rw [← hx2] at HI HW
    replace HC := Aside0.mk HC
    replace HW := Aside0.mk HW
    have h1' := Aside0.mk h1
    clear hx1 hx2 hr0 hr1 hr2 h1
    by_cases hways : x1 = true ∧ x2 = true ∧ m.length = l.length
    · obtain ⟨rfl, rfl, h4⟩ := hways
      have hm32 : (m.length : Int) ≤ 32 := by have := hl32 rfl; omega
      have h4' : ((m.length : Int) != (l.length : Int)) = false := by simp; omega
      have HI2 : Aside0 (R = true ↔ ∀ x ∈ m, 0 ≤ x ∧ x ≤ 72057594037927936) := ⟨⟨fun h => (HI.out.1 h).2.2.2.2, fun h => HI.out.2 ⟨h1'.out, rfl, rfl, h4, h⟩⟩⟩
      clear HI h4 hl32
      go_enter Try.func28, Try.ntmps28
      go_wp2_with fail
      obtain ⟨W, hW⟩ : ∃ W, W = w.alloc (.cells #[.slice A0 128 c0, .slice A1 l.length c1] 24) := ⟨_, rfl⟩
      rw [h1'.out, ← hW] at hb
      rw [← hW]
      have k0 : W.cell? ⟨w.heap.size, 0, none⟩ = some (.slice A0 128 c0) := by rw [hW]; go_simp
      have k1 : W.cell? ⟨w.heap.size, 1, none⟩ = some (.slice A1 l.length c1) := by rw [hW]; go_simp
      clear hW
      refine (HC.out _ hb).mono ?_; rintro _ w1 ⟨rfl, hbn⟩; replace k0 := cnx k0 hbn; replace k1 := cnx k1 hbn; replace hb := bnx hb hbn; clear hbn
      go_wp2_with fail
      refine (HW.out _ hb).mono ?_; rintro _ w2 ⟨rfl, hbn⟩; replace k0 := cnx k0 hbn; replace k1 := cnx k1 hbn; replace hb := bnx hb hbn; clear hbn
      go_wp2_with fail
      go_loopw [33] (fun i wr => ∃ (k : Nat), i = .int .i64 k ∧ k ≤ m.length ∧ Aside0 (∀ x ∈ m.take k, 0 ≤ x ∧ x ≤ 72057594037927936) ∧ Below w.heap.size w wr) (fun i _ => m.length - (intOf i).toNat)
      case atStart => exact ⟨0, rfl, by omega, ⟨by simp⟩, hb⟩
      case round =>
        obtain ⟨k, rfl, hk, ha, hbr⟩ := hrel
        by_cases hlt : k < m.length
        · obtain ⟨ad, rfl, hcell⟩ := el_at HR2.out hbr hlt
          have hkI : (k : Int) < (m.length : Int) := by omega
          have hT := take_rd m k hlt
          have hno : Aside0 (¬ (0 ≤ rd m k ∧ rd m k ≤ 72057594037927936) → R = false) := ⟨fun h => by
            rw [← Bool.not_eq_true]
            exact fun h2 => h (HI2.out.1 h2 _ (rd_mem m k hlt))⟩
          obtain ⟨n, hx⟩ : ∃ n, n = rd m k := ⟨_, rfl⟩
          rw [← hx] at hcell hT hno
          replace hT := Aside0.mk hT
          clear hx
          by_cases h1 : n < 0
          · have hf := Aside0.mk (hno.out (by omega))
            go_wp2
            go_ret
            exact ⟨by rw [hf.out]; rfl, hbr⟩
          · by_cases h2 : 72057594037927936 < n
            · have hf := Aside0.mk (hno.out (by omega))
              have h1' : decide (n < 0) = false := by simpa using h1
              go_wp2
              go_ret
              exact ⟨by rw [hf.out]; rfl, hbr⟩
            · have h1' : decide (n < 0) = false := by simpa using h1
              have h2' : decide (72057594037927936 < n) = false := by simpa using h2
              have h3 : Aside0 (0 ≤ n ∧ n ≤ 72057594037927936) := ⟨by omega⟩
              clear h1 h2
              go_wp2
              go_roundw
              case rel => exact ⟨k + 1, by go_num, by omega, ⟨by
                rw [hT.out]
                intro x hx
                rcases List.mem_append.1 hx with hx | hx
                · exact ha.out x hx
                · rw [List.mem_singleton.1 hx]; exact h3.out⟩, hbr⟩
              case measure => simp [intOf]; omega
        · obtain rfl : k = m.length := by omega
          have hA := ha.out
          rw [List.take_length] at hA
          have hf := Aside0.mk (HI2.out.2 hA)
          clear ha hA
          go_wp2
          go_ret
          exact ⟨by rw [hf.out]; rfl, hbr⟩
    · have hf : Aside0 (R = false) := ⟨by
        rw [← Bool.not_eq_true]
        exact fun h => hways ⟨(HI.out.1 h).2.1, (HI.out.1 h).2.2.1, (HI.out.1 h).2.2.2.1⟩⟩
      have h4' : x1 = true → x2 = true → ((m.length : Int) != (l.length : Int)) = true := fun e1 e2 => by
        simp
        intro h
        exact hways ⟨e1, e2, by omega⟩
      clear HI hl32
      cases x1 with
      | false =>
        clear h4' hways
        go_enter Try.func28, Try.ntmps28
        go_wp2_with fail
        obtain ⟨W, hW⟩ : ∃ W, W = w.alloc (.cells #[.slice A0 128 c0, .slice A1 l.length c1] 24) := ⟨_, rfl⟩
        rw [h1'.out, ← hW] at hb
        rw [← hW]
        clear hW
        refine (HC.out _ hb).mono ?_; rintro _ w1 ⟨rfl, hbn⟩; replace hb := bnx hb hbn; clear hbn
        go_wp2_with fail
        go_ret
        exact ⟨by rw [hf.out]; rfl, hb⟩
      | true =>
        cases x2 with
        | false =>
          clear h4' hways
          go_enter Try.func28, Try.ntmps28
          go_wp2_with fail
          obtain ⟨W, hW⟩ : ∃ W, W = w.alloc (.cells #[.slice A0 128 c0, .slice A1 l.length c1] 24) := ⟨_, rfl⟩
          rw [h1'.out, ← hW] at hb
          rw [← hW]
          have k0 : W.cell? ⟨w.heap.size, 0, none⟩ = some (.slice A0 128 c0) := by rw [hW]; go_simp
          have k1 : W.cell? ⟨w.heap.size, 1, none⟩ = some (.slice A1 l.length c1) := by rw [hW]; go_simp
          clear hW
          refine (HC.out _ hb).mono ?_; rintro _ w1 ⟨rfl, hbn⟩; replace k0 := cnx k0 hbn; replace k1 := cnx k1 hbn; replace hb := bnx hb hbn; clear hbn
          go_wp2_with fail
          refine (HW.out _ hb).mono ?_; rintro _ w2 ⟨rfl, hbn⟩; replace k0 := cnx k0 hbn; replace k1 := cnx k1 hbn; replace hb := bnx hb hbn; clear hbn
          go_wp2_with fail
          go_ret
          exact ⟨by rw [hf.out]; rfl, hb⟩
        | true =>
          have h5 := h4' rfl rfl
          clear h4' hways
          go_enter Try.func28, Try.ntmps28
          go_wp2_with fail
          obtain ⟨W, hW⟩ : ∃ W, W = w.alloc (.cells #[.slice A0 128 c0, .slice A1 l.length c1] 24) := ⟨_, rfl⟩
          rw [h1'.out, ← hW] at hb
          rw [← hW]
          have k0 : W.cell? ⟨w.heap.size, 0, none⟩ = some (.slice A0 128 c0) := by rw [hW]; go_simp
          have k1 : W.cell? ⟨w.heap.size, 1, none⟩ = some (.slice A1 l.length c1) := by rw [hW]; go_simp
          clear hW
          refine (HC.out _ hb).mono ?_; rintro _ w1 ⟨rfl, hbn⟩; replace k0 := cnx k0 hbn; replace k1 := cnx k1 hbn; replace hb := bnx hb hbn; clear hbn
          go_wp2_with fail
          refine (HW.out _ hb).mono ?_; rintro _ w2 ⟨rfl, hbn⟩; replace k0 := cnx k0 hbn; replace k1 := cnx k1 hbn; replace hb := bnx hb hbn; clear hbn
          go_wp2_with fail
          go_ret
          exact ⟨by rw [hf.out]; rfl, hb⟩
  · have hf : Aside0 (R = false) := ⟨by
      rw [← Bool.not_eq_true]
      exact fun h => h1 (HI.out.1 h).1⟩
    have h1' : ((c.length : Int) != (128 : Int)) = true := by simp; omega
    clear HI h1 HW hr0 hr1 hr2
    go_enter Try.func28, Try.ntmps28
    go_wp2_with fail
    go_ret
    exact ⟨by rw [hf.out]; rfl, hb⟩

end Go.Proofs.Ytljadjoljhanfaa.Q16
/- Plain facts on scales of bands with limits. -/
namespace Go.Proofs.Ytljadjoljhanfaa.Q16
open Go.RowKit Go.Proofs.YtljadjoljhanfaaW.PrintWords Go.Proofs.YtljadjoljhanfaaW.PrintLast Go.Proofs.YtljadjoljhanfaaW.PrintMore
attribute [local go_sem] max2_int min2_int max_two min_two max_three min_three
open Go.Proofs.Ytljadjoljhanfaa.Q15

theorem greatest (p : Int → Bool) (b : Int) : ∀ (n : Nat) (a : Int), a - b + 1 ≤ n → (∃ s, b ≤ s ∧ s ≤ a ∧ p s = true ∧ ∀ j, s < j → j ≤ a → p j = false) ∨ ∀ j, b ≤ j → j ≤ a → p j = false
  | 0, a, h => .inr fun j j0 j1 => by omega
  | n + 1, a, h => by
    by_cases hb : b ≤ a
    · by_cases hp : p a = true
      · exact .inl ⟨a, hb, Int.le_refl _, hp, fun j j0 j1 => by omega⟩
      · rcases greatest p b n (a - 1) (by omega) with ⟨s, s0, s1, s2, s3⟩ | h1
        · refine .inl ⟨s, s0, by omega, s2, fun j j0 j1 => ?_⟩
          by_cases e : j = a
          · rw [e]; simpa using hp
          · exact s3 j j0 (by omega)
        · refine .inr fun j j0 j1 => ?_
          by_cases e : j = a
          · rw [e]; simpa using hp
          · exact h1 j j0 (by omega)
    · exact .inr fun j j0 j1 => by omega
theorem leastI_bd (l : List Int) : 0 ≤ leastI l ∧ leastI l ≤ 95 := leastT_bd _
theorem mostI_ways (b : List Int) (limit : Int) : (∃ s, leastI b ≤ s ∧ s ≤ 95 ∧ noiseI (stepI s) b ≤ limit ∧ (∀ j, s < j → j ≤ 95 → ¬ noiseI (stepI j) b ≤ limit) ∧ mostI b limit = some s) ∨ ((∀ j, leastI b ≤ j → j ≤ 95 → ¬ noiseI (stepI j) b ≤ limit) ∧ mostI b limit = none) := by
  rcases greatest (fun s => decide (noiseI (stepI s) b ≤ limit)) (leastI b) 96 95 (by have := leastI_bd b; omega) with ⟨s, h0, h1, h2, h3⟩ | h
  · exact .inl ⟨s, h0, h1, of_decide_eq_true h2, fun j j0 j1 => of_decide_eq_false (h3 j j0 j1), find_down h0 h1 h3 h2⟩
  · exact .inr ⟨fun j j0 j1 => of_decide_eq_false (h j j0 j1), find_down_none h⟩
theorem scaleB_bd (b : List Int) (limit : Int) : leastI b ≤ scaleB b limit ∧ scaleB b limit ≤ 95 := by
  have h0 := leastI_bd b
  unfold scaleB
  rcases mostI_ways b limit with ⟨s, h1, h2, _, _, h3⟩ | ⟨_, h3⟩
  · rw [h3]; exact ⟨h1, h2⟩
  · rw [h3]; exact ⟨Int.le_refl _, h0.2⟩
theorem scaleB_over {b : List Int} {limit : Int} (h : limit < noiseI (stepI (scaleB b limit)) b) : scaleB b limit = leastI b := by
  unfold scaleB at h ⊢
  rcases mostI_ways b limit with ⟨s, h1, h2, h4, _, h3⟩ | ⟨_, h3⟩
  · rw [h3] at h; simp only at h; omega
  · rw [h3]
theorem scaleB_mono (b : List Int) {x y : Int} (h : x ≤ y) : scaleB b x ≤ scaleB b y := by
  have hy := scaleB_bd b y
  unfold scaleB at hy ⊢
  rcases mostI_ways b x with ⟨s, h1, h2, h4, _, h3⟩ | ⟨_, h3⟩
  · rcases mostI_ways b y with ⟨t, g1, g2, g4, g5, g3⟩ | ⟨g5, g3⟩
    · rw [h3, g3]
      simp only
      rcases Int.lt_or_le t s with hlt | hle
      · exact absurd (show noiseI (stepI s) b ≤ y by omega) (g5 s hlt h2)
      · exact hle
    · exact absurd (show noiseI (stepI s) b ≤ y by omega) (g5 s h1 h2)
  · rw [h3]
    exact hy.1

theorem rd_scalesL (c l m : List Int) {k : Nat} (hk : k < l.length) : rd (scalesL c l m) k = scaleB (band c l k) (rd m k) := rd_range _ _ _ hk
theorem rd_noisL (c l s : List Int) {k : Nat} (hk : k < l.length) : rd (noisL c l s) k = noiseR (band c l k) (rd s k) := rd_range _ _ _ hk
theorem rng_of {lo hi : Int} {l : List Int} {n : Nat} (hn : l.length = n) (h : ∀ k : Nat, k < n → lo ≤ rd l k ∧ rd l k ≤ hi) : rng lo hi l = true := by
  refine List.all_eq_true.2 fun x hx => ?_
  obtain ⟨k, hk, rfl⟩ := List.getElem_of_mem hx
  have := h k (by omega)
  rw [rd_nat l k hk] at this
  exact decide_eq_true this
theorem scalesL_len (c l m : List Int) : (scalesL c l m).length = l.length := by unfold scalesL; rw [List.length_map, List.length_range]
theorem noisL_len (c l s : List Int) : (noisL c l s).length = l.length := by unfold noisL; rw [List.length_map, List.length_range]
theorem errS_mk {p q lo hi : Int} {c l s : List Int} (g0 : isW l = true) (g1 : c.length = 128) (g2 : s.length = l.length) (g3 : rng p q c = true) (g4 : rng lo hi s = true) : errS p q lo hi c l s = 0 := by
  unfold errS
  have hf : formE c.length l [s.length] = 0 := by
    unfold formE
    rw [if_pos g0, if_pos g1, if_pos (by simp [g2])]
  rw [if_pos hf, g3, g4]
  rfl
theorem errX_mk {c l s m : List Int} (g0 : isW l = true) (g1 : c.length = 128) (g2 : s.length = l.length) (g6 : m.length = l.length) (g3 : rng (-2097152) 2097152 c = true) (g4 : rng 0 95 s = true) (g7 : rng 0 72057594037927936 m = true) : errX c l s m = 0 := by
  unfold errX
  have hf : formE c.length l [s.length, m.length] = 0 := by
    unfold formE
    rw [if_pos g0, if_pos g1, if_pos (by simp [g2, g6])]
  rw [if_pos hf, g3, g4, g7]
  rfl
theorem scalesL_rng (c l m : List Int) : rng 0 95 (scalesL c l m) = true := rng_of (scalesL_len c l m) fun k hk => by
  rw [rd_scalesL c l m hk]
  have h0 := leastI_bd (band c l k)
  have h1 := scaleB_bd (band c l k) (rd m k)
  omega
/-- What Scales gives: scales, with which Noises and Over have no error. -/
theorem scales_errs {c l m : List Int} (he : errS (-2097152) 2097152 0 72057594037927936 c l m = 0) : errS (-2097152) 2097152 0 95 c l (scalesL c l m) = 0 ∧ errX c l (scalesL c l m) m = 0 := by
  obtain ⟨g0, g1, g2, g3, g4, g5⟩ := errS_zero he
  exact ⟨errS_mk g0 g1 (scalesL_len c l m) g3 (scalesL_rng c l m), errX_mk g0 g1 (scalesL_len c l m) g2 g3 (scalesL_rng c l m) g4⟩
theorem scales_over {c l m : List Int} (he : errS (-2097152) 2097152 0 72057594037927936 c l m = 0) {k : Nat} (hk : k < l.length) (h : rd m k < rd (noisL c l (scalesL c l m)) k) : rd (scalesL c l m) k = leastI (band c l k) := by
  obtain ⟨g0, g1, g2, g3, g4, g5⟩ := errS_zero he
  rw [rd_noisL _ _ _ hk, rd_scalesL _ _ _ hk] at h
  rw [rd_scalesL _ _ _ hk]
  have h0 := leastI_bd (band c l k)
  have h1 := scaleB_bd (band c l k) (rd m k)
  unfold noiseR at h
  rw [if_pos (chk_band g3 g0 g1 hk (by omega))] at h
  exact scaleB_over h
theorem overT_nonneg (x : List Int) : ∀ k, 0 ≤ overT x k
  | 0 => by simp [overT]
  | k + 1 => by
    have := overT_nonneg x k
    unfold overT
    omega
theorem overT_zero {x : List Int} : ∀ k, (∀ j : Nat, j < k → rd x j ≤ 0) → overT x k = 0
  | 0, _ => by simp [overT]
  | k + 1, h => by
    have h1 := overT_zero k (fun j hj => h j (by omega))
    have h2 := h k (by omega)
    unfold overT
    omega
theorem overR_facts {c l s m : List Int} (he : errX c l s m = 0) : 0 ≤ overR c l s m ∧ ((∀ k : Nat, k < l.length → rd (noisL c l s) k ≤ rd m k) → overR c l s m = 0) := by
  unfold overR
  rw [if_pos he]
  refine ⟨overT_nonneg _ _, fun h => overT_zero _ fun j hj => ?_⟩
  have h1 := exc_is he hj
  have h2 := h j hj
  rw [rd_noisL _ _ _ hj] at h2
  rw [if_neg (by unfold isAb; simpa using h2)] at h1
  exact h1
/-- The limits, some of them greater. -/
def upL (m e : List Int) (k : Nat) : Int := if k < e.length then min 72057594037927936 (rd m k + rd e k) else rd m k
def upLs (m e : List Int) : List Int := (List.range m.length).map (upL m e)
theorem upLs_len (m e : List Int) : (upLs m e).length = m.length := by unfold upLs; rw [List.length_map, List.length_range]
theorem upLs_facts {c l m e : List Int} (he : errS (-2097152) 2097152 0 72057594037927936 c l m = 0) (hu : ∀ x ∈ e, 0 ≤ x ∧ x ≤ 4294967295) :
    errS (-2097152) 2097152 0 72057594037927936 c l (upLs m e) = 0 ∧ ∀ k : Nat, k < l.length → rd (scalesL c l m) k ≤ rd (scalesL c l (upLs m e)) k := by
  obtain ⟨g0, g1, g2, g3, g4, g5⟩ := errS_zero he
  have hup : ∀ k : Nat, k < m.length → rd m k ≤ upL m e k ∧ upL m e k ≤ 72057594037927936 ∧ 0 ≤ rd m k := fun k hk => by
    have h1 := rng_mem g4 (rd_mem m k hk)
    unfold upL
    split
    · rename_i hlt
      have h2 := hu _ (rd_mem e k hlt)
      omega
    · omega
  refine ⟨errS_mk g0 g1 (by rw [upLs_len]; exact g2) g3 (rng_of (upLs_len m e) fun k hk => ?_), fun k hk => ?_⟩
  · unfold upLs
    rw [rd_range _ _ _ hk]
    have := hup k hk
    omega
  · rw [rd_scalesL _ _ _ hk, rd_scalesL _ _ _ hk]
    refine scaleB_mono _ ?_
    unfold upLs
    rw [rd_range _ _ _ (by omega)]
    exact (hup k (by omega)).1

end Go.Proofs.Ytljadjoljhanfaa.Q16
