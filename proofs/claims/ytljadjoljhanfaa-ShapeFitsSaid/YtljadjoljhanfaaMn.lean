/- The law ShapeWithin. -/
import Derived.Test.YtljadjoljhanfaaMm
import Derived.WalkKit
import Derived.WalkSpells
import Derived.WalkLawsBesides
import Derived.KernelRfl
import Derived.Deep.RegionHeld3
import Derived.Deep.LoopGhost
import Derived.Deep.AppendLies
import Derived.Laws.Rows
import Derived.Shelf.GgClosure.Gives
import Derived.Test.YtljadjoljhanfaaWWords
import Derived.Test.YtljadjoljhanfaaWLast
import Derived.Test.YtljadjoljhanfaaWMore
import Derived.Deep.QuietTactic
import Derived.BigQuiet
set_option linter.unusedVariables false
set_option linter.unusedSimpArgs false
namespace Go.Proofs.Ytljadjoljhanfaa.Q16
open Go.Proofs.Ytljadjoljhanfaa.Q15
open Go.RowKit Go.Proofs.YtljadjoljhanfaaW.PrintWords Go.Proofs.YtljadjoljhanfaaW.PrintLast Go.Proofs.YtljadjoljhanfaaW.PrintMore
attribute [local go_sem] max2_max min2_min max_two min_two max_three min_three

theorem u32_bd {n : Int} (h : (Lit.int .u32 n).wf = true) : 0 ≤ n ∧ n ≤ 4294967295 := by
  simp [Lit.wf, IntKind.min, IntKind.max, IntKind.signed, IntKind.bits] at h
  omega
theorem u32_at {w w1 : World} {A : Option Addr} {l : List Int} (hr : (Kd.int .u32).C w A l.length l) (hb : Below w.heap.size w w1) {k : Nat} (hk : k < l.length) :
    ∃ ad, A = some ad ∧ w1.cell? (ad.add k) = some (.int .u32 (rd l k)) := by
  obtain ⟨ad, e, h⟩ := Kd.at_int hr (k : Nat) (by omega) (by omega)
  exact ⟨ad, e, cnx h hb⟩
theorem rd_at {w w1 : World} {A : Option Addr} {l : List Int} {n : Nat} (hn : l.length = n) (hr : (Kd.int .i64).C w A n l) (hb : Below w.heap.size w w1) {k : Nat} (hk : k < n) :
    ∃ ad, A = some ad ∧ w1.cell? (ad.add k) = some (.int .i64 (rd l k)) := by
  subst hn
  exact el_at hr hb hk

set_option maxRecDepth 100000 in
set_option maxHeartbeats 8000000 in
theorem ShapeWithin_row {w : World} (A0 : Option Addr) (c0 : Nat) (c : List Int) (hr0 : (Kd.int .i64).C w A0 c.length c) (hc0 : c.length ≤ c0) (hc9 : c0 ≤ 9223372036854775807) (A1 : Option Addr) (c1 : Nat) (l : List Int) (hr1 : (Kd.int .i64).C w A1 l.length l) (hc1 : l.length ≤ c1) (hd9 : c1 ≤ 9223372036854775807) (A2 : Option Addr) (c2 : Nat) (m : List Int) (hr2 : (Kd.int .i64).C w A2 m.length m) (hc2 : m.length ≤ c2) (he2 : c2 ≤ 9223372036854775807) (A3 : Option Addr) (c3 : Nat) (e : List Int) (hr3 : (Kd.int .u32).C w A3 e.length e) (hc3 : e.length ≤ c3) (he3 : c3 ≤ 9223372036854775807) (hw3 : ∀ n ∈ e, (Lit.int .u32 n).wf = true) :
    Calls Try.prog 7 #[.agg #[.slice A0 c.length c0, .slice A1 l.length c1], .slice A2 m.length c2, .slice A3 e.length c3] w fun e w' => e = .returned (.bool true) ∧ Below w.heap.size w w' := by
  have hb := Below.refl w.heap.size w
  have HR := fun (W : World) (hb : Below w.heap.size w W) => right_calls A0 A1 A2 c0 c1 c2 c l m W (Kd.C_below hr0 hb) (Kd.C_below hr1 hb) (Kd.C_below hr2 hb)
  cases hrb : rightB c l m with
  | false =>
    rw [hrb] at HR
    replace HR := Aside0.mk HR
    clear hrb hr0 hr1 hr2 hr3 hc0 hc9 hc1 hd9 hc2 he2 hc3 he3 hw3
    go_enter Try.func7, Try.ntmps7
    go_wp2_with fail
    obtain ⟨W, hW⟩ : ∃ W, W = w.alloc (.cells #[.slice A0 c.length c0, .slice A1 l.length c1] 24) := ⟨_, rfl⟩
    rw [← hW]
    replace hb : Below w.heap.size w W := by rw [hW]; exact hb.alloc hb.size _
    clear hW
    refine (HR.out W hb).mono ?_; rintro _ w1 ⟨rfl, hbn⟩; replace hb := bnx hb hbn; clear hbn
    go_wp2_with fail
    refine (awake_calls _).mono ?_; rintro _ wA ⟨rfl, hbn⟩; replace hb := bnx hb hbn; clear hbn
    go_wp2_with fail
    go_ret
    exact ⟨rfl, hb⟩
  | true =>
    rw [hrb] at HR
    have he : errS (-2097152) 2097152 0 72057594037927936 c l m = 0 := of_decide_eq_true hrb
    obtain ⟨g0, g1, g2, g3, g4, g5⟩ := errS_zero he
    have hl32 := (isW_iff.1 g0).2.2
    obtain ⟨s1, s2⟩ := scales_errs he
    have hu := fun x hx => u32_bd (hw3 x hx)
    obtain ⟨u1, u2⟩ := upLs_facts (e := e) he hu
    obtain ⟨o1, o2⟩ := overR_facts s2
    obtain ⟨a, rfl⟩ : ∃ a, A0 = some a := by
      obtain ⟨_, _, h⟩ := hr0
      obtain ⟨a, e, _⟩ := h (by omega)
      exact ⟨a, e⟩
    have C1 := fun (W : World) (hb : Below w.heap.size w W) => Scales_out (some a) A1 A2 c0 c1 c2 c l m W (Kd.C_below hr0 hb) (Kd.C_below hr1 hb) (Kd.C_below hr2 hb) hc0 hc9 (by omega) (by omega) (by omega)
    rw [he, show ifl 0 (scalesL c l m) = scalesL c l m from rfl] at C1
    unfold Out at C1
    rw [scalesL_len] at C1
    have C2 := fun (W : World) (hb : Below w.heap.size w W) (B : Option Addr) (p : Nat) (hK : (Kd.int .i64).C W B l.length (scalesL c l m)) => Noises_out (some a) A1 B c0 c1 p c l (scalesL c l m) W (Kd.C_below hr0 hb) (Kd.C_below hr1 hb) (by rw [scalesL_len]; exact hK) hc0 hc9 (by omega) (by omega) (by rw [scalesL_len]; omega)
    rw [s1, show ifl 0 (noisL c l (scalesL c l m)) = noisL c l (scalesL c l m) from rfl] at C2
    unfold Out at C2
    rw [noisL_len, scalesL_len] at C2
    have C3 := fun (W : World) (hb : Below w.heap.size w W) (B : Option Addr) (p : Nat) (hK : (Kd.int .i64).C W B l.length (scalesL c l m)) => Over_calls (some a) A1 B A2 c0 c1 p c2 c l (scalesL c l m) m W (Kd.C_below hr0 hb) (Kd.C_below hr1 hb) (by rw [scalesL_len]; exact hK) (Kd.C_below hr2 hb) (by omega) (by omega) (by rw [scalesL_len]; omega) (by omega) hc0 hc9
    rw [s2, scalesL_len] at C3
    have C4 := fun (W : World) (hb : Below w.heap.size w W) (B : Option Addr) (p : Nat) (hK : (Kd.int .i64).C W B l.length (upLs m e)) => Scales_out (some a) A1 B c0 c1 p c l (upLs m e) W (Kd.C_below hr0 hb) (Kd.C_below hr1 hb) (by rw [upLs_len, g2]; exact hK) hc0 hc9 (by omega) (by omega) (by rw [upLs_len]; omega)
    rw [u1, show ifl 0 (scalesL c l (upLs m e)) = scalesL c l (upLs m e) from rfl] at C4
    unfold Out at C4
    rw [scalesL_len, upLs_len, g2] at C4
    have CL : ∀ (k : Nat), k < l.length → ∀ (W : World) (hb : Below w.heap.size w W) (p : Nat), Calls Try.prog 29 #[.slice (some (a.add (off l k))) (wd l k) p] W fun e w' => e = .returned (.tuple #[.int .i64 (leastI (band c l k)), .int .i64 0]) ∧ Below W.heap.size W w' := fun k hk W hb p => by
      have h := rLeast_yes (some (a.add (off l k))) p (band c l k) W (Kd.C_below (band_C hr0 g1 g0 hk) hb) (chk_band g3 g0 g1 hk (by decide))
      rwa [band_len g1 g0 hk] at h
    have F1 : ∀ k, k < l.length → leastI (band c l k) ≤ rd (scalesL c l m) k ∧ rd (scalesL c l m) k ≤ 95 := fun k hk => by rw [rd_scalesL _ _ _ hk]; exact scaleB_bd _ _
    have F2 : ∀ k, k < l.length → rd m k < rd (noisL c l (scalesL c l m)) k → rd (scalesL c l m) k = leastI (band c l k) := fun k hk => scales_over he hk
    have F3 : ∀ k, k < l.length → 0 ≤ rd m k ∧ rd m k ≤ 72057594037927936 := fun k hk => rng_mem g4 (rd_mem m k (by omega))
    have D0 := Aside0.mk (fun (W : World) (hb : Below w.heap.size w W) (k : Nat) (hk : k < l.length) => el_at hr1 hb hk)
    have D2 := Aside0.mk (fun (W : World) (hb : Below w.heap.size w W) (k : Nat) (hk : k < l.length) => rd_at g2 (g2 ▸ hr2) hb hk)
    have D3 := Aside0.mk (fun (W : World) (hb : Below w.heap.size w W) (k : Nat) (hk : k < e.length) => u32_at hr3 hb hk)
    have DU : Aside0 (∀ k, k < e.length → 0 ≤ rd e k ∧ rd e k ≤ 4294967295) := ⟨fun k hk => hu _ (rd_mem e k hk)⟩
    have HOF := Aside0.mk (fun k (hk : k < l.length) => off_next g0 hk)
    have q1 := scalesL_len c l m
    have q2 := noisL_len c l (scalesL c l m)
    have q3 := scalesL_len c l (upLs m e)
    have q4 : upLs m e = (List.range l.length).map (upL m e) := by unfold upLs; rw [g2]
    obtain ⟨s, hs⟩ : ∃ s, s = scalesL c l m := ⟨_, rfl⟩
    rw [← hs] at C1 C2 C3 F1 F2 u2 o1 o2 q1 q2
    obtain ⟨z, hz⟩ : ∃ z, z = noisL c l s := ⟨_, rfl⟩
    rw [← hz] at C2 F2 o2 q2
    obtain ⟨ov, hov⟩ : ∃ ov, ov = overR c l s m := ⟨_, rfl⟩
    rw [← hov] at C3 o1 o2
    obtain ⟨t, ht⟩ : ∃ t, t = scalesL c l (upLs m e) := ⟨_, rfl⟩
    rw [← ht] at C4 u2 q3
    rw [q4] at C4
    obtain ⟨up, hup⟩ : ∃ up, up = upL m e := ⟨_, rfl⟩
    have HUP : Aside0 (∀ k, up k = if k < e.length then min 72057594037927936 (rd m k + rd e k) else rd m k) := ⟨fun k => by rw [hup]; rfl⟩
    rw [← hup] at C4
    obtain ⟨lst, hlst⟩ : ∃ f : Nat → Int, f = fun k => leastI (band c l k) := ⟨_, rfl⟩
    have CL2 : Aside0 (∀ (k : Nat), k < l.length → ∀ (W : World) (hb : Below w.heap.size w W) (p : Nat), Calls Try.prog 29 #[.slice (some (a.add (off l k))) (wd l k) p] W fun e w' => e = .returned (.tuple #[.int .i64 (lst k), .int .i64 0]) ∧ Below W.heap.size W w') := ⟨by rw [hlst]; exact CL⟩
    have F1' : Aside0 (∀ k, k < l.length → lst k ≤ rd s k ∧ rd s k ≤ 95) := ⟨by rw [hlst]; exact F1⟩
    have F2' : Aside0 (∀ k, k < l.length → rd m k < rd z k → rd s k = lst k) := ⟨by rw [hlst]; exact F2⟩
    have hc0I : (128 : Int) ≤ (c0 : Int) := by omega
    have hc9I : (c0 : Int) ≤ 9223372036854775807 := by omega
    have hlI : (l.length : Int) ≤ 32 := by omega
    have heI : (e.length : Int) ≤ 9223372036854775807 := by omega
    rw [g1] at HR C1 C2 C3 C4
    rw [g2] at HR C1 C3
    rw [g1, g2]
    replace F3 := Aside0.mk F3
    replace C1 := Aside0.mk C1
    replace C2 := Aside0.mk C2
    replace C3 := Aside0.mk C3
    replace C4 := Aside0.mk C4
    replace HR := Aside0.mk HR
    replace q1 := Aside0.mk q1
    replace q2 := Aside0.mk q2
    replace q3 := Aside0.mk q3
    replace u2 := Aside0.mk u2
    replace o2 := Aside0.mk o2
    clear hlst CL F1 F2 hup hov hz ht hs q4 u1 hu s1 s2 g0 g1 g2 g3 g4 g5 he hrb hl32 hr0 hr1 hr2 hr3 hc0 hc9 hc1 hd9 hc2 he2 hc3 he3 hw3
    go_enter Try.func7, Try.ntmps7
    go_wp2_with fail
    obtain ⟨W, hW⟩ : ∃ W, W = w.alloc (.cells #[.slice (some a) 128 c0, .slice A1 l.length c1] 24) := ⟨_, rfl⟩
    rw [← hW]
    have k0 : W.cell? ⟨w.heap.size, 0, none⟩ = some (.slice (some a) 128 c0) := by rw [hW]; go_simp
    have k1 : W.cell? ⟨w.heap.size, 1, none⟩ = some (.slice A1 l.length c1) := by rw [hW]; go_simp
    replace hb : Below w.heap.size w W := by rw [hW]; exact hb.alloc hb.size _
    clear hW
    refine (HR.out W hb).mono ?_; rintro _ w1 ⟨rfl, hbn⟩; replace k0 := cnx k0 hbn; replace k1 := cnx k1 hbn; replace hb := bnx hb hbn; clear hbn
    go_wp2_with fail
    refine (C1.out _ hb).mono ?_; rintro _ w2 ⟨B1, p1, rfl, -, -, -, K1, hbn⟩; replace k0 := cnx k0 hbn; replace k1 := cnx k1 hbn; replace hb := bnx hb hbn; clear hbn
    replace K1 := Aside0.mk K1
    go_wp2_with fail
    refine (C2.out _ hb _ _ K1.out).mono ?_; rintro _ w3 ⟨B2, p2, rfl, -, -, -, K2, hbn⟩; replace k0 := cnx k0 hbn; replace k1 := cnx k1 hbn; replace hb := bnx hb hbn
    replace K1 := Aside0.mk (Kd.C_below K1.out hbn)
    replace K2 := Aside0.mk K2
    clear hbn
    go_wp2_with fail
    refine (C3.out _ hb _ _ K1.out).mono ?_; rintro _ w4 ⟨rfl, hbn⟩; replace k0 := cnx k0 hbn; replace k1 := cnx k1 hbn; replace hb := bnx hb hbn
    replace K1 := Aside0.mk (Kd.C_below K1.out hbn)
    replace K2 := Aside0.mk (Kd.C_below K2.out hbn)
    clear hbn HR C1 C2 C3
    go_wp2_with fail
    go_loopw [13, 14, 86] (fun at_ ot i wr => ∃ (k : Nat) (q : Int), i = .int .i64 k ∧ at_ = .int .i64 (off l k : Nat) ∧ ot = .int .i64 q ∧ k ≤ l.length ∧ 0 ≤ q ∧ q ≤ k ∧ Aside0 (q = 0 → ∀ j : Nat, j < k → rd z j ≤ rd m j) ∧ Below w4.heap.size w4 wr) (fun _ _ i _ => l.length - (intOf i).toNat)
    case atStart => exact ⟨0, 0, rfl, by simp [off], rfl, by omega, by omega, by omega, ⟨fun _ j hj => by omega⟩, Below.refl _ _⟩
    case round =>
      obtain ⟨k, q, rfl, rfl, rfl, hk, hq0, hq1, hall, hbL⟩ := hrel
      by_cases hlt : k < l.length
      · obtain ⟨adw, rfl, hcw⟩ := D0.out wr (bnx hb hbL) k hlt
        obtain ⟨ads, rfl, hcs⟩ := rd_at q1.out K1.out hbL hlt
        obtain ⟨adz, rfl, hcz⟩ := rd_at q2.out K2.out hbL hlt
        obtain ⟨adm, rfl, hcm⟩ := D2.out wr (bnx hb hbL) k hlt
        obtain ⟨v1, v2, v3, v4⟩ := HOF.out k hlt
        rw [v4] at hcw
        have hCL := CL2.out k hlt
        have f1 := F1'.out k hlt
        have f2 := F2'.out k hlt
        have f3 := F3.out k hlt
        have j0 := cnx k0 hbL
        have hkI : (k : Int) < (l.length : Int) := by omega
        have HALL : Aside0 (rd z k ≤ rd m k → q = 0 → ∀ j : Nat, j < k + 1 → rd z j ≤ rd m j) := ⟨fun h1 h2 j hj => by
          rcases Nat.lt_or_eq_of_le (Nat.le_of_lt_succ hj) with h3 | rfl
          · exact hall.out h2 j h3
          · exact h1⟩
        obtain ⟨x, hx⟩ : ∃ x, x = rd z k := ⟨_, rfl⟩
        rw [← hx] at hcz f2 HALL
        obtain ⟨y, hy⟩ : ∃ y, y = rd m k := ⟨_, rfl⟩
        rw [← hy] at hcm f2 f3 HALL
        obtain ⟨sk, hsk⟩ : ∃ x, x = rd s k := ⟨_, rfl⟩
        rw [← hsk] at hcs f1 f2
        obtain ⟨lk, hlk⟩ : ∃ x, x = lst k := ⟨_, rfl⟩
        rw [← hlk] at hCL f1 f2
        obtain ⟨o, ho⟩ : ∃ o, o = off l k := ⟨_, rfl⟩
        rw [← ho] at hCL v1 v3 ⊢
        obtain ⟨d, hd⟩ : ∃ d, d = wd l k := ⟨_, rfl⟩
        rw [← hd] at hCL v1 v2 v3 hcw
        have i1 : (o : Int) + (d : Int) ≤ 128 := by omega
        have i2 : (1 : Int) ≤ (d : Int) := by omega
        have v1' := Aside0.mk v1
        replace hCL := Aside0.mk hCL
        replace hbL := Aside0.mk hbL
        replace f2 := Aside0.mk f2
        clear hx hy hsk hlk ho hd v1 v2 v3 v4 hall
        by_cases hgt : y < x
        · have hsk := f2.out hgt
          subst hsk
          clear f2 HALL
          go_wp2_with fail
          refine (hCL.out _ (bnx hb hbL.out) _).mono ?_; rintro _ w5 ⟨rfl, hbn⟩; replace hcs := cnx hcs hbn; replace hcz := cnx hcz hbn; replace hcm := cnx hcm hbn; replace j0 := cnx j0 hbn
          replace hbL := Aside0.mk (bnx hbL.out hbn)
          clear hbn
          go_wp2_with fail
          go_quiet (fail)
          go_wp2_with fail
          go_roundw
          case rel => exact ⟨k + 1, q + 1, by go_num, by rw [v1'.out]; simp, rfl, by omega, by omega, by omega, ⟨fun h => by omega⟩, below_drewN' hbL.out nq⟩
          case measure => simp [intOf]; omega
        · have hgt' : decide (y < x) = false := by simpa using hgt
          have HALL2 := Aside0.mk (HALL.out (by omega))
          clear f2 HALL
          go_wp2_with fail
          refine (hCL.out _ (bnx hb hbL.out) _).mono ?_; rintro _ w5 ⟨rfl, hbn⟩; replace hcs := cnx hcs hbn; replace hcz := cnx hcz hbn; replace hcm := cnx hcm hbn; replace j0 := cnx j0 hbn
          replace hbL := Aside0.mk (bnx hbL.out hbn)
          clear hbn
          go_wp2_with fail
          go_quiet (fail)
          go_wp2_with fail
          go_roundw
          case rel => exact ⟨k + 1, q, by go_num, by rw [v1'.out]; simp, rfl, by omega, by omega, by omega, HALL2, below_drewN' hbL.out nq⟩
          case measure => simp [intOf]; omega
      · obtain rfl : k = l.length := by omega
        have hov : q = 0 → ov = 0 := fun h => o2.out (hall.out h)
        obtain ⟨oa, hoa⟩ : ∃ oa, oa = off l l.length := ⟨_, rfl⟩
        rw [← hoa]
        replace hbL := Aside0.mk hbL
        have k0' := cnx k0 hbL.out
        have k1' := cnx k1 hbL.out
        clear hoa hall k0 k1 CL2 F1' F2' HOF
        have hways : (q = 0 ∧ ov = 0) ∨ ((q == 0) = false) := by
          by_cases hq : q = 0
          · exact .inl ⟨hq, hov hq⟩
          · exact .inr (by simpa using hq)
        clear hov
        replace K1 := Aside0.mk (Kd.C_below K1.out hbL.out)
        have hb6 := bnx hb hbL.out
        obtain ⟨w6, hw6⟩ : ∃ w6, w6 = wr := ⟨_, rfl⟩
        subst hw6
        clear hb hbL K2
        rcases hways with ⟨rfl, rfl⟩ | hq
        all_goals
          go_wp2_with fail
          go_loopw [20, 149] (fun o i wr => ∃ k : Nat, i = .int .i64 k ∧ k ≤ l.length ∧ Aside0 ((Kd.int .i64).R 3 wr w6.heap.size (fun _ => True) o ((List.range k).map up)) ∧ Aside0 (Below w6.heap.size w6 wr)) (fun _ i _ => l.length - (intOf i).toNat)
          case atStart => exact ⟨0, rfl, by omega, ⟨Kd.R_nil _ _ _ _ _⟩, ⟨Below.refl _ _⟩⟩
          case round =>
            obtain ⟨k, rfl, hk, ho, hbL⟩ := hrel
            by_cases hlt : k < l.length
            · obtain ⟨adm, rfl, hcm⟩ := D2.out wr (bnx hb6 hbL.out) k hlt
              have f3 := F3.out k hlt
              have hkI : (k : Int) < (l.length : Int) := by omega
              have hupk := HUP.out k
              have HT : Aside0 ((List.range (k + 1)).map up = (List.range k).map up ++ [up k]) := ⟨by rw [List.range_succ, List.map_append]; rfl⟩
              obtain ⟨yl, hyl0⟩ : ∃ y, y = (List.range k).map up := ⟨_, rfl⟩
              have hyl : yl.length ≤ 32 := by rw [hyl0]; simp; omega
              rw [← hyl0] at ho HT
              rw [hupk] at HT
              by_cases hke : k < e.length
              · obtain ⟨ade, rfl, hce⟩ := D3.out wr (bnx hb6 hbL.out) k hke
                have du := DU.out k hke
                rw [if_pos hke] at HT
                obtain ⟨y, hy⟩ : ∃ y, y = rd m k := ⟨_, rfl⟩
                rw [← hy] at hcm f3 HT
                obtain ⟨x, hx⟩ : ∃ x, x = rd e k := ⟨_, rfl⟩
                rw [← hx] at hce du HT
                have hkeI : (k : Int) < (e.length : Int) := by omega
                clear hy hx hyl0 hupk
                go_wp2_with (first | (at_builtin; refine Kd.R_append (Kd.int .i64) (w0 := w6) w6.heap.size rfl (.tmp 166) (.tmp 168) 22 3 (.int .i64 0) 8 rfl Try.underlying22 info_int rfl (by decide) (by omega) u20 yl ((min 72057594037927936 (y + x))) [.int .i64 ((min 72057594037927936 (y + x)))] (fun _ => True) (fun _ => False) rfl rfl rfl (fun _ hk => hk.elim) (fun _ _ => trivial) ho.out hbL.out hbL.out.size (by omega) ?_; intro v1 wA hoA hbA hgA hatA; have HOA := Aside0.mk hoA; have HBA := Aside0.mk hbA; clear hoA hbA hgA hatA))
                go_roundw
                case rel => exact ⟨k + 1, by go_num, by omega, ⟨by rw [HT.out]; exact HOA.out⟩, HBA⟩
                case measure => simp [intOf]; omega
              · rw [if_neg hke] at HT
                obtain ⟨y, hy⟩ : ∃ y, y = rd m k := ⟨_, rfl⟩
                rw [← hy] at hcm f3 HT
                have hke2 : e.length ≤ k := by omega
                have hke3 : decide (k < e.length) = false := by simpa using hke
                clear hy hyl0 hupk
                go_wp2_with (first | (at_builtin; refine Kd.R_append (Kd.int .i64) (w0 := w6) w6.heap.size rfl (.tmp 166) (.tmp 168) 22 3 (.int .i64 0) 8 rfl Try.underlying22 info_int rfl (by decide) (by omega) u20 yl (y) [.int .i64 (y)] (fun _ => True) (fun _ => False) rfl rfl rfl (fun _ hk => hk.elim) (fun _ _ => trivial) ho.out hbL.out hbL.out.size (by omega) ?_; intro v1 wA hoA hbA hgA hatA; have HOA := Aside0.mk hoA; have HBA := Aside0.mk hbA; clear hoA hbA hgA hatA))
                go_roundw
                case rel => exact ⟨k + 1, by go_num, by omega, ⟨by rw [HT.out]; exact HOA.out⟩, HBA⟩
                case measure => simp [intOf]; omega
            · obtain rfl : k = l.length := by omega
              obtain ⟨B5, p5, rfl, _, hC5⟩ := Kd.R_reads ho.out
              rw [List.length_map, List.length_range] at hC5 ⊢
              have hb7 := bnx hb6 hbL.out
              have j0 := cnx k0' hbL.out
              have j1 := cnx k1' hbL.out
              have K1' := Aside0.mk (Kd.C_below K1.out hbL.out)
              replace hC5 := Aside0.mk hC5
              clear ho hbL k0' k1'
              go_wp2_with fail
              refine (C4.out _ hb7 _ _ hC5.out).mono ?_; rintro _ w8 ⟨B6, p6, rfl, -, -, -, K6, hbn⟩
              have hb8 := bnx hb7 hbn
              replace K6 := Aside0.mk K6
              replace K1' := Aside0.mk (Kd.C_below K1'.out hbn)
              clear hbn hb7 j0 j1 hC5
              go_wp2_with fail
              replace hb8 := Aside0.mk hb8
              go_loopw [191] (fun i wr => ∃ k : Nat, i = .int .i64 k ∧ k ≤ l.length ∧ Aside0 (Below w8.heap.size w8 wr)) (fun i _ => l.length - (intOf i).toNat)
              case atStart => exact ⟨0, rfl, by omega, ⟨Below.refl _ _⟩⟩
              case round =>
                obtain ⟨k, rfl, hk, hbL⟩ := hrel
                by_cases hlt : k < l.length
                · obtain ⟨ads, rfl, hcs⟩ := rd_at q1.out K1'.out hbL.out hlt
                  obtain ⟨adt, rfl, hct⟩ := rd_at q3.out K6.out hbL.out hlt
                  have f5 := u2.out k hlt
                  have hkI : (k : Int) < (l.length : Int) := by omega
                  obtain ⟨x, hx⟩ : ∃ x, x = rd s k := ⟨_, rfl⟩
                  rw [← hx] at hcs f5
                  obtain ⟨y, hy⟩ : ∃ y, y = rd t k := ⟨_, rfl⟩
                  rw [← hy] at hct f5
                  have f6 : decide (y < x) = false := by simp; omega
                  clear hx hy
                  go_wp2_with fail
                  go_quiet (fail)
                  go_wp2_with fail
                  go_roundw
                  case rel => exact ⟨k + 1, by go_num, by omega, ⟨below_drewN' hbL.out nq⟩⟩
                  case measure => simp [intOf]; omega
                · obtain rfl : k = l.length := by omega
                  have hb9 := bnx hb8.out hbL.out
                  clear hbL hb8 K6 K1'
                  go_wp2_with fail
                  refine (awake_calls _).mono ?_; rintro _ wA ⟨rfl, hbn⟩
                  have hbA := bnx hb9 hbn
                  clear hbn hb9
                  go_wp2_with fail
                  go_ret
                  exact ⟨rfl, hbA⟩

end Go.Proofs.Ytljadjoljhanfaa.Q16
