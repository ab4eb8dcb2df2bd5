/- The law QuantAgain. -/
import Derived.Test.YtglpdojccncjjaaQuantL3
import Derived.WalkKit
import Derived.WalkSpells
import Derived.WalkLawsBesides
import Derived.KernelRfl
import Derived.Deep.RegionHeld3
import Derived.Deep.LoopGhost
import Derived.Deep.AppendLies
import Derived.Laws.Rows
import Derived.Shelf.GgClosure.Gives
import Derived.Test.YtglpdojccncjjaaWWords
import Derived.Test.YtglpdojccncjjaaWLast
import Derived.Test.YtglpdojccncjjaaWMore
set_option linter.unusedVariables false
set_option linter.unusedSimpArgs false
namespace Go.Proofs.Ytglpdojccncjjaa.Q15
open Go.RowKit Go.Proofs.YtglpdojccncjjaaW.PrintWords Go.Proofs.YtglpdojccncjjaaW.PrintLast Go.Proofs.YtglpdojccncjjaaW.PrintMore
attribute [local go_sem] max2_max min2_min max_two min_two max_three min_three

theorem chk_mk {p : Int → Bool} {l : List Int} {s : Int} (hs : 0 ≤ s ∧ s ≤ 95) (hl : l.length ≤ 128) (h : ∀ x ∈ l, p x = true) : chk p l s = 0 := by
  unfold chk
  rw [if_pos (by simp [isS, hs]), if_pos hl, if_pos (List.all_eq_true.2 h)]
theorem fold_zero (l : List Int) (h : ∀ x ∈ l, x = 0) (a : Int) : l.foldl (· + ·) a = a := by
  induction l generalizing a with
  | nil => rfl
  | cons x t ih => rw [List.foldl_cons, h x (by simp), Int.add_zero]; exact ih (fun y hy => h y (by simp [hy])) a
theorem rd_map (f : Int → Int) (l : List Int) (k : Nat) (h : k < l.length) : rd (l.map f) k = f (rd l k) := by
  rw [rd_nat _ _ (by simpa using h), rd_nat _ _ h, List.getElem_map]
theorem again_lists (l : List Int) (s : Int) (hk : chk isQ l s = 0) : ∃ vl rl : List Int, vl.length = l.length ∧ rl.length = l.length ∧ l.length ≤ 128 ∧ (chk isQ l s = 0 ∧ (l.map fun q => sg q (V (stepI s) (absI q))) = vl) ∧ (chk isC vl s = 0 ∧ (vl.map fun c => sg c (qn (stepI s) (absI c))) = rl) ∧
    (chk isQ rl s = 0 ∧ (rl.map fun q => sg q (V (stepI s) (absI q))) = vl) ∧ noiseR vl s = 0 ∧
    ∀ k, k < l.length → (-1023 ≤ rd l k ∧ rd l k ≤ 1023) ∧ (-1023 ≤ rd rl k ∧ rd rl k ≤ 1023) ∧ max (rd rl k) (-(rd rl k)) ≤ max (rd l k) (-(rd l k)) := by
  obtain ⟨hs, hl, hp⟩ := chk_zero hk
  have hx := stepI_bd hs.1 hs.2
  have ha := fun q (hq : q ∈ l) => again_one (x := stepI s) (q := q) (by omega) (isQ_bd (hp q hq))
  dsimp only at ha
  have hc : chk isC (l.map fun q => sg q (V (stepI s) (absI q))) s = 0 := chk_mk hs (by simpa using hl) (fun y hy => by
    obtain ⟨q, hq, rfl⟩ := List.mem_map.1 hy
    exact isC_yes (ha q hq).1)
  refine ⟨_, _, by simp, by simp, hl, ⟨hk, rfl⟩, ⟨hc, rfl⟩, ⟨chk_mk hs (by simpa using hl) (fun y hy => ?_), ?_⟩, ?_, fun k h => ?_⟩
  · obtain ⟨v, hv, rfl⟩ := List.mem_map.1 hy
    obtain ⟨q, hq, rfl⟩ := List.mem_map.1 hv
    have h1 := (ha q hq).2.1
    have h2 := isQ_bd (hp q hq)
    refine isQ_yes ?_
    unfold absI at h1 ⊢
    omega
  · rw [List.map_map, List.map_map]
    refine List.map_congr_left fun q hq => ?_
    exact (ha q hq).2.2.1
  · unfold noiseR
    rw [if_pos hc]
    unfold noiseI
    refine fold_zero _ (fun y hy => ?_) 0
    obtain ⟨v, hv, rfl⟩ := List.mem_map.1 hy
    obtain ⟨q, hq, rfl⟩ := List.mem_map.1 hv
    exact (ha q hq).2.2.2
  · have hm := rd_mem l k h
    have h1 := (ha _ hm).2.1
    have h2 := isQ_bd (hp _ hm)
    rw [rd_map _ _ _ (by simpa using h), rd_map _ _ _ h]
    generalize sg (sg (rd l k) (V (stepI s) (absI (rd l k)))) (qn (stepI s) (absI (sg (rd l k) (V (stepI s) (absI (rd l k)))))) = y at h1 ⊢
    unfold absI at h1
    refine ⟨h2, by omega, h1⟩

set_option maxRecDepth 100000 in
set_option maxHeartbeats 2000000 in
theorem QuantAgain_row {w : World} (A0 : Option Addr) (c0 : Nat) (l : List Int) (hr0 : (Kd.int .i64).C w A0 l.length l) (s : Int) (hs : -9223372036854775808 ≤ s ∧ s ≤ 9223372036854775807) :
    Calls Try.prog 6 #[.slice A0 l.length c0, .int .i64 s] w fun e w' => e = .returned (.bool true) ∧ Below w.heap.size w w' := by
  have hb := Below.refl w.heap.size w
  by_cases hk : chk isQ l s = 0
  · obtain ⟨vl, rl, hvl, hrl, hl, e1, e2, e3, hn, hall⟩ := again_lists l s hk
    have C1 := fun W => Values_at A0 c0 l s vl W (h := e1)
    have C2 := fun A cap W => Quantize_at A cap vl s rl W (h := e2)
    have C3 := fun A cap W => Values_at A cap rl s vl W (h := e3)
    have C4 := fun A cap W => Noise_calls A cap vl s W
    have C5 := fun A B p q W h1 h2 => ints_eq A B p q vl vl W h1 h2 (by omega) rfl
    rw [hn, e2.1] at C4
    rw [hvl] at C2 C4 C5
    rw [hrl] at C3
    replace C1 := Aside0.mk C1
    replace C2 := Aside0.mk C2
    replace C3 := Aside0.mk C3
    replace C4 := Aside0.mk C4
    replace C5 := Aside0.mk C5
    replace hall := Aside0.mk hall
    replace hr0 := Aside0.mk hr0
    replace hvl := Aside0.mk hvl
    replace hrl := Aside0.mk hrl
    clear e1 e2 e3 hn hk
    have hlI : (l.length : Int) ≤ 128 := by omega
    clear hl
    go_enter Try.func6, Try.ntmps6
    go_wp2_with fail
    refine (C1.out _ hr0.out).mono ?_; rintro e w1 ⟨u1, rfl, R1, hbn⟩; replace hb := bnx hb hbn; clear hbn
    obtain ⟨B1, p1, rfl, _, K1⟩ := Kd.R_reads R1
    rw [hvl.out] at K1 ⊢
    replace K1 := Aside0.mk K1
    clear R1
    go_wp2_with fail
    refine (C2.out _ _ _ K1.out).mono ?_; rintro e w2 ⟨u2, rfl, R2, hbn⟩; replace hb := bnx hb hbn
    obtain ⟨B2, p2, rfl, _, K2⟩ := Kd.R_reads R2
    rw [hrl.out] at K2 ⊢
    replace K2 := Aside0.mk K2
    replace K1 := Aside0.mk (Kd.C_below K1.out hbn)
    clear R2 hbn
    go_wp2_with fail
    refine (C3.out _ _ _ K2.out).mono ?_; rintro e w3 ⟨u3, rfl, R3, hbn⟩; replace hb := bnx hb hbn
    obtain ⟨B3, p3, rfl, _, K3⟩ := Kd.R_reads R3
    rw [hvl.out] at K3 ⊢
    replace K3 := Aside0.mk K3
    replace K1 := Aside0.mk (Kd.C_below K1.out hbn)
    replace K2 := Aside0.mk (Kd.C_below K2.out hbn)
    clear R3 hbn
    go_wp2_with fail
    refine (C4.out _ _ _ K1.out).mono ?_; rintro e w4 ⟨rfl, hbn⟩; replace hb := bnx hb hbn
    replace K1 := Aside0.mk (Kd.C_below K1.out hbn)
    replace K2 := Aside0.mk (Kd.C_below K2.out hbn)
    replace K3 := Aside0.mk (Kd.C_below K3.out hbn)
    clear hbn
    have K0 := Aside0.mk (Kd.C_below hr0.out hb)
    go_wp2
    go_loopw [48] (fun i wr => ∃ k : Nat, i = .int .i64 k ∧ k ≤ l.length ∧ Below w4.heap.size w4 wr) (fun i _ => l.length - (intOf i).toNat)
    case atStart => exact ⟨0, rfl, by omega, Below.refl _ _⟩
    case round =>
      obtain ⟨k, rfl, hk, hb4⟩ := hrel
      by_cases hlt : k < l.length
      · obtain ⟨ad0, rfl, hcell0⟩ := Kd.at_int K0.out (k : Int) (by omega) (by omega)
        obtain ⟨ad1, rfl, hcell1⟩ := Kd.at_int K2.out (k : Int) (by omega) (by omega)
        rw [Int.toNat_natCast] at hcell0 hcell1
        replace hcell0 := cnx hcell0 hb4
        replace hcell1 := cnx hcell1 hb4
        obtain ⟨hz, hy, hle⟩ := hall.out k hlt
        obtain ⟨z, hz'⟩ : ∃ z, z = rd l k := ⟨_, rfl⟩
        obtain ⟨y, hy'⟩ : ∃ y, y = rd rl k := ⟨_, rfl⟩
        rw [← hz'] at hcell0 hz hle
        rw [← hy'] at hcell1 hy hle
        clear hz' hy'
        have d1 : decide (max z (-z) < max y (-y)) = false := by simpa using hle
        have d2 : IntKind.i64.wrap (-z) = -z := IntWalk.i64_in _ (by omega)
        have d3 : IntKind.i64.wrap (-y) = -y := IntWalk.i64_in _ (by omega)
        clear hle
        go_wp2
        go_quiet (fail)
        clear d1 d2 d3
        go_wp2
        go_roundw
        case rel => exact ⟨k + 1, by go_num, by omega, below_drewN' hb4 nq⟩
        case measure => simp [intOf]; omega
      · obtain rfl : k = l.length := by omega
        replace hb := bnx hb hb4
        replace K1 := Aside0.mk (Kd.C_below K1.out hb4)
        replace K3 := Aside0.mk (Kd.C_below K3.out hb4)
        clear hb4
        go_wp2_with fail
        refine (C5.out _ _ _ _ _ K1.out K3.out).mono ?_; rintro e w5 ⟨rfl, hbn⟩; replace hb := bnx hb hbn; clear hbn
        go_wp2_with (first | (go_at_call 17; refine (awake_calls _).mono ?_; rintro e w' ⟨rfl, hbn⟩; replace hb := bnx hb hbn; clear hbn))
        go_ret
        exact ⟨rfl, hb⟩
  · have C1 := Values_no A0 c0 l s w hr0 hk
    obtain ⟨n, hn⟩ : ∃ n, n = chk isQ l s := ⟨_, rfl⟩
    rw [← hn] at C1 hk
    replace C1 := Aside0.mk C1
    clear hr0 hn
    go_enter Try.func6, Try.ntmps6
    go_wp2_with (first | (go_at_call 20; refine (C1.out).mono ?_; rintro e w' ⟨rfl, hbn⟩; replace hb := bnx hb hbn; clear hbn) | (go_at_call 17; refine (awake_calls _).mono ?_; rintro e w' ⟨rfl, hbn⟩; replace hb := bnx hb hbn; clear hbn))
    go_ret
    exact ⟨rfl, hb⟩

end Go.Proofs.Ytglpdojccncjjaa.Q15
