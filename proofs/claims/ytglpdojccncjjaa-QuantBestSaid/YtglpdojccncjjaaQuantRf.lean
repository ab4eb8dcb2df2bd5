/- What each function of layer 15's reference returns: values, noise, scales. -/
import Derived.Test.YtglpdojccncjjaaQuantRe
import Derived.WalkKit
import Derived.WalkSpells
import Derived.WalkLawsBesides
import Derived.KernelRfl
import Derived.Deep.RegionHeld3
import Derived.Deep.LoopGhost
import Derived.Deep.AppendLies
import Derived.Laws.Rows
import Derived.Shelf.GgClosure.Gives
import Derived.Test.YtglpdojccncjjaaWWords
import Derived.Test.YtglpdojccncjjaaWLast
import Derived.Test.YtglpdojccncjjaaWMore
import Derived.Deep.QuietTactic
import Derived.BigQuiet
namespace Go.Proofs.Ytglpdojccncjjaa.Q15
open Go.RowKit Go.Proofs.YtglpdojccncjjaaW.PrintWords Go.Proofs.YtglpdojccncjjaaW.PrintLast Go.Proofs.YtglpdojccncjjaaW.PrintMore
attribute [local go_sem] max2_int min2_int max_two min_two max_three min_three

/-- A list's error, with a scale. -/
theorem chk_isS {s : Int} (h : isS s = false) (p : Int → Bool) (l : List Int) : chk p l s = 1 := by unfold chk; rw [if_neg (by rw [h]; simp)]

set_option maxRecDepth 100000 in
set_option maxHeartbeats 1000000 in
theorem ValuesBy_calls (A0 A1 : Option Addr) (c0 c1 : Nat) (l : List Int) (s : Int) (w : World) (hr0 : (Kd.int .i64).C w A0 powTab.length powTab) (hr : (Kd.int .i64).C w A1 l.length l) (hl : l.length ≤ 1099511627776) (hp : ∀ n ∈ l, -1023 ≤ n ∧ n ≤ 1023) (h2 : 0 ≤ s) (h3 : s ≤ 95) :
    Calls Try.prog 50 #[.slice A0 powTab.length c0, .slice A1 l.length c1, .int .i64 s] w fun e w' => ∃ v, e = .returned v ∧ (Kd.int .i64).R 3 w' w.heap.size (fun _ => True) v (l.map fun q => sg q (V (stepI s) (absI q))) ∧ Below w.heap.size w w' := by
  have hs := stepI_bd h2 h3
  have HS := fun p w hp0 hp1 => stands_calls p s w hp0 hp1 h2 h3
  have hpl := powTab_len
  obtain ⟨x, hx⟩ : ∃ x, x = stepI s := ⟨_, rfl⟩
  rw [← hx] at HS hs ⊢
  have HR := Aside0.mk hr
  have HR0 := Aside0.mk hr0
  have HP := Aside0.mk hp
  replace HS := Aside0.mk HS
  obtain ⟨n0, hn0⟩ : ∃ n0, n0 = powTab.length := ⟨_, rfl⟩
  rw [← hn0] at HR0 hpl ⊢
  replace hpl : (1024 : Int) ≤ n0 := by omega
  clear hx hr hr0 hp hn0
  go_enter Try.func50, Try.ntmps50
  go_wp2
  go_loopw [7, 13] (fun o i wr => ∃ k : Nat, i = .int .i64 k ∧ k ≤ l.length ∧ Aside0 ((Kd.int .i64).R 3 wr w.heap.size (fun _ => True) o ((l.take k).map fun q => sg q (V x (absI q)))) ∧ Below w.heap.size w wr) (fun _ i _ => l.length - (intOf i).toNat)
  case atStart => exact ⟨0, rfl, by omega, ⟨Kd.R_nil _ _ _ _ _⟩, Below.refl _ _⟩
  case round =>
    obtain ⟨k, rfl, hk, ho, hb⟩ := hrel
    by_cases hlt : k < l.length
    · obtain ⟨ad, rfl, hcell⟩ := el_at HR.out hb hlt
      have hz := HP.out _ (rd_mem l k hlt)
      have HT := Aside0.mk (take_rd l k hlt)
      obtain ⟨z, hx⟩ : ∃ z, z = rd l k := ⟨_, rfl⟩
      rw [← hx] at hcell hz HT
      clear hx
      have hm : 0 ≤ absI z ∧ absI z ≤ 1023 := by unfold absI; omega
      obtain ⟨m, hme⟩ : ∃ m, m = absI z := ⟨_, rfl⟩
      have hdi : (z < 0 ∧ m = -z) ∨ (¬ z < 0 ∧ m = z) := by rw [hme]; unfold absI; omega
      rw [← hme] at hm
      obtain ⟨ad2, rfl, hcell2⟩ := Kd.at_int HR0.out m (by omega) (by omega)
      replace hcell2 := cnx hcell2 hb
      have hrp : rd powTab m = P m := rfl
      rw [hrp] at hcell2
      have hp := P_bd m
      have HC := fun w => HS.out (P m) w hp.1 hp.2
      rw [V_min] at HC
      have hv := V_bd (x := x) m (by omega)
      have HV : Aside0 (sg z (V x (absI z)) = if z < 0 then - V x m else V x m) := ⟨by rw [hme]; rfl⟩
      obtain ⟨p, hpe⟩ : ∃ p, p = P m := ⟨_, rfl⟩
      obtain ⟨v, hve⟩ : ∃ v, v = V x m := ⟨_, rfl⟩
      rw [← hpe] at hcell2 hp HC
      rw [← hve] at HC hv HV
      replace HC := Aside0.mk HC
      obtain ⟨y, hy⟩ : ∃ y, y = (l.take k).map fun q => sg q (V x (absI q)) := ⟨_, rfl⟩
      have hyl : y.length ≤ 1099511627776 := by rw [hy]; simp; omega
      rw [← hy] at ho
      have HY := Aside0.mk hy
      clear hy hme hpe hve hrp
      rcases hdi with ⟨hneg, rfl⟩ | ⟨hneg, rfl⟩
      · replace HV : Aside0 (sg z (V x (absI z)) = -v) := ⟨by rw [HV.out, if_pos hneg]⟩
        go_wp2_with (first | (go_at_call 60; refine (HC.out _).mono ?_; rintro e w' ⟨rfl, hb1⟩; have HO1 := Aside0.mk (Kd.R_below ho.out hb1); have HB1 := Aside0.mk (bnx hb hb1); clear ho hb hb1) | (at_builtin; refine Kd.R_append (Kd.int .i64) (w0 := w) w.heap.size rfl (.tmp 30) (.tmp 32) 28 3 (.int .i64 0) 8 rfl Try.underlying28 info_int rfl (by decide) (by omega) u7 y (-v) [.int .i64 (-v)] (fun _ => True) (fun _ => False) rfl rfl rfl (fun _ hk => hk.elim) (fun _ _ => trivial) HO1.out HB1.out HB1.out.size (by omega) ?_; intro v1 wA hoA hbA hgA hatA; have HOA := Aside0.mk hoA; have HBA := Aside0.mk hbA; clear hoA hbA hgA hatA))
        go_roundw
        case rel => exact ⟨k + 1, by go_num, by omega, ⟨by rw [HT.out, List.map_append, ← HY.out, List.map_cons, List.map_nil, HV.out]; exact HOA.out⟩, HBA.out⟩
        case measure => simp [intOf]; omega
      · replace HV : Aside0 (sg m (V x (absI m)) = v) := ⟨by rw [HV.out, if_neg hneg]⟩
        go_wp2_with (first | (go_at_call 60; refine (HC.out _).mono ?_; rintro e w' ⟨rfl, hb1⟩; have HO1 := Aside0.mk (Kd.R_below ho.out hb1); have HB1 := Aside0.mk (bnx hb hb1); clear ho hb hb1) | (at_builtin; refine Kd.R_append (Kd.int .i64) (w0 := w) w.heap.size rfl (.tmp 30) (.tmp 32) 28 3 (.int .i64 0) 8 rfl Try.underlying28 info_int rfl (by decide) (by omega) u7 y (v) [.int .i64 (v)] (fun _ => True) (fun _ => False) rfl rfl rfl (fun _ hk => hk.elim) (fun _ _ => trivial) HO1.out HB1.out HB1.out.size (by omega) ?_; intro v1 wA hoA hbA hgA hatA; have HOA := Aside0.mk hoA; have HBA := Aside0.mk hbA; clear hoA hbA hgA hatA))
        go_roundw
        case rel => exact ⟨k + 1, by go_num, by omega, ⟨by rw [HT.out, List.map_append, ← HY.out, List.map_cons, List.map_nil, HV.out]; exact HOA.out⟩, HBA.out⟩
        case measure => simp [intOf]; omega
    · obtain rfl : k = l.length := by omega
      rw [List.take_length] at ho
      go_wp2
      go_ret
      exact ⟨_, rfl, ho.out, hb⟩

theorem chkC_s {l : List Int} {s : Int} (h : isS s = true) : errL 2097152 l = chk isC l s := (chk_err h l).1.symm
theorem chkQ_s {l : List Int} {s : Int} (h : isS s = true) : errL 1023 l = chk isQ l s := (chk_err h l).2.symm

set_option maxHeartbeats 400000 in
theorem rQuantize_no (A : Option Addr) (cap : Nat) (l : List Int) (s : Int) (w : World) (hr : (Kd.int .i64).C w A l.length l) (hk : chk isC l s ≠ 0) :
    Calls Try.prog 19 #[.slice A l.length cap, .int .i64 s] w fun e w' => e = .returned (.tuple #[.slice none 0 0, .int .i64 (chk isC l s)]) ∧ Below w.heap.size w w' := by
  cases h : isS s with
  | true =>
    have HC := fun W hb => list_calls 2097152 A cap l W (Kd.C_below hr hb) (by omega) (by omega)
    rw [chkC_s h] at HC
    obtain ⟨e0, he0⟩ : ∃ e0, e0 = chk isC l s := ⟨_, rfl⟩
    rw [← he0] at HC hk ⊢
    replace HC := Aside0.mk HC
    have hk' : (e0 == 0) = false := beq_eq_false_iff_ne.2 hk
    clear he0 hr
    go_enter Try.func19, Try.ntmps19
    go_wp2_with (first | (go_at_call 35; refine (rScale_calls _ _).mono ?_; rintro e w' ⟨rfl, hb0⟩) | (go_at_call 46; refine (HC.out _ hb0).mono ?_; rintro e w' ⟨rfl, hb1⟩))
    go_ret2
    exact ⟨rfl, bnx hb0 hb1⟩
  | false =>
    rw [chk_isS h]
    go_enter Try.func19, Try.ntmps19
    go_wp2_with (first | (go_at_call 35; refine (rScale_calls _ _).mono ?_; rintro e w' ⟨rfl, hb0⟩))
    go_ret2
    exact ⟨rfl, hb0⟩

set_option maxHeartbeats 400000 in
theorem rQuantize_yes (A : Option Addr) (cap : Nat) (l : List Int) (s : Int) (w : World) (hr : (Kd.int .i64).C w A l.length l) (hk : chk isC l s = 0) :
    Calls Try.prog 19 #[.slice A l.length cap, .int .i64 s] w fun e w' => ∃ v, e = .returned (.tuple #[v, .int .i64 0]) ∧ (Kd.int .i64).R 3 w' w.heap.size (fun _ => True) v (l.map fun c => sg c (qn (stepI s) (absI c))) ∧ Below w.heap.size w w' := by
  obtain ⟨hs, hl, hp⟩ := chk_zero hk
  have h : isS s = true := by unfold isS; simp; omega
  have HC := fun W hb => list_calls 2097152 A cap l W (Kd.C_below hr hb) (by omega) (by omega)
  rw [chkC_s h, hk] at HC
  have HQ := fun A0 cp W hr0 hb => QuantizeBy_calls A0 A cp cap l s W hr0 (Kd.C_below hr hb) (by omega) (fun n hn => isC_bd (hp n hn)) hs.1 hs.2
  obtain ⟨r, hr'⟩ : ∃ r, r = l.map fun c => sg c (qn (stepI s) (absI c)) := ⟨_, rfl⟩
  rw [← hr'] at HQ ⊢
  replace HC := Aside0.mk HC
  replace HQ := Aside0.mk HQ
  clear hr' hk hr hp
  go_enter Try.func19, Try.ntmps19
  go_wp2_with (first | (go_at_call 35; refine (rScale_calls _ _).mono ?_; rintro e w' ⟨rfl, hb0⟩) | (go_at_call 46; refine (HC.out _ hb0).mono ?_; rintro e w' ⟨rfl, hb1⟩) | (go_at_call 48; refine (Powers_calls _).mono ?_; rintro e w1 ⟨v, rfl, hR, hb2⟩; obtain ⟨A0, cp, rfl, _, hC⟩ := Kd.R_reads hR; have HPW := Aside0.mk hC; have HB0 := bnx (bnx hb0 hb1) hb2; clear hC hR) | (go_at_call 47; refine (HQ.out _ _ _ HPW.out HB0).mono ?_; rintro e w2 ⟨v, rfl, hR, hb3⟩; have HRR := Aside0.mk hR; clear hR))
  go_ret2
  exact ⟨v, rfl, Kd.R_lower HRR.out HB0.size, bnx HB0 hb3⟩

set_option maxHeartbeats 400000 in
theorem rValues_no (A : Option Addr) (cap : Nat) (l : List Int) (s : Int) (w : World) (hr : (Kd.int .i64).C w A l.length l) (hk : chk isQ l s ≠ 0) :
    Calls Try.prog 21 #[.slice A l.length cap, .int .i64 s] w fun e w' => e = .returned (.tuple #[.slice none 0 0, .int .i64 (chk isQ l s)]) ∧ Below w.heap.size w w' := by
  cases h : isS s with
  | true =>
    have HC := fun W hb => list_calls 1023 A cap l W (Kd.C_below hr hb) (by omega) (by omega)
    rw [chkQ_s h] at HC
    obtain ⟨e0, he0⟩ : ∃ e0, e0 = chk isQ l s := ⟨_, rfl⟩
    rw [← he0] at HC hk ⊢
    replace HC := Aside0.mk HC
    have hk' : (e0 == 0) = false := beq_eq_false_iff_ne.2 hk
    clear he0 hr
    go_enter Try.func21, Try.ntmps21
    go_wp2_with (first | (go_at_call 35; refine (rScale_calls _ _).mono ?_; rintro e w' ⟨rfl, hb0⟩) | (go_at_call 46; refine (HC.out _ hb0).mono ?_; rintro e w' ⟨rfl, hb1⟩))
    go_ret2
    exact ⟨rfl, bnx hb0 hb1⟩
  | false =>
    rw [chk_isS h]
    go_enter Try.func21, Try.ntmps21
    go_wp2_with (first | (go_at_call 35; refine (rScale_calls _ _).mono ?_; rintro e w' ⟨rfl, hb0⟩))
    go_ret2
    exact ⟨rfl, hb0⟩

set_option maxHeartbeats 400000 in
theorem rValues_yes (A : Option Addr) (cap : Nat) (l : List Int) (s : Int) (w : World) (hr : (Kd.int .i64).C w A l.length l) (hk : chk isQ l s = 0) :
    Calls Try.prog 21 #[.slice A l.length cap, .int .i64 s] w fun e w' => ∃ v, e = .returned (.tuple #[v, .int .i64 0]) ∧ (Kd.int .i64).R 3 w' w.heap.size (fun _ => True) v (l.map fun q => sg q (V (stepI s) (absI q))) ∧ Below w.heap.size w w' := by
  obtain ⟨hs, hl, hp⟩ := chk_zero hk
  have h : isS s = true := by unfold isS; simp; omega
  have HC := fun W hb => list_calls 1023 A cap l W (Kd.C_below hr hb) (by omega) (by omega)
  rw [chkQ_s h, hk] at HC
  have HQ := fun A0 cp W hr0 hb => ValuesBy_calls A0 A cp cap l s W hr0 (Kd.C_below hr hb) (by omega) (fun n hn => isQ_bd (hp n hn)) hs.1 hs.2
  obtain ⟨r, hr'⟩ : ∃ r, r = l.map fun q => sg q (V (stepI s) (absI q)) := ⟨_, rfl⟩
  rw [← hr'] at HQ ⊢
  replace HC := Aside0.mk HC
  replace HQ := Aside0.mk HQ
  clear hr' hk hr hp
  go_enter Try.func21, Try.ntmps21
  go_wp2_with (first | (go_at_call 35; refine (rScale_calls _ _).mono ?_; rintro e w' ⟨rfl, hb0⟩) | (go_at_call 46; refine (HC.out _ hb0).mono ?_; rintro e w' ⟨rfl, hb1⟩) | (go_at_call 48; refine (Powers_calls _).mono ?_; rintro e w1 ⟨v, rfl, hR, hb2⟩; obtain ⟨A0, cp, rfl, _, hC⟩ := Kd.R_reads hR; have HPW := Aside0.mk hC; have HB0 := bnx (bnx hb0 hb1) hb2; clear hC hR) | (go_at_call 50; refine (HQ.out _ _ _ HPW.out HB0).mono ?_; rintro e w2 ⟨v, rfl, hR, hb3⟩; have HRR := Aside0.mk hR; clear hR))
  go_ret2
  exact ⟨v, rfl, Kd.R_lower HRR.out HB0.size, bnx HB0 hb3⟩

set_option maxHeartbeats 400000 in
theorem Stands_calls (q r : Int) (A : Option Addr) (cap : Nat) (t : List Int) (w : World) (hr : (Kd.int .i64).C w A t.length t) (h0 : -1099511627776 ≤ q) (h1 : absI q < t.length) (hv : rd t (absI q) = r) (hr0 : -1099511627776 ≤ r) (hr1 : r ≤ 1099511627776) :
    Calls Try.prog 78 #[.int .i64 q, .slice A t.length cap] w fun e w' => e = .returned (.int .i64 (sg q r)) ∧ Below w.heap.size w w' := by
  obtain ⟨m, hme⟩ : ∃ m, m = absI q := ⟨_, rfl⟩
  have hdi : (q < 0 ∧ m = -q) ∨ (¬ q < 0 ∧ m = q) := by rw [hme]; unfold absI; omega
  rw [← hme] at h1 hv
  obtain ⟨ad, rfl, hcell⟩ := Kd.at_int hr m (by omega) (by omega)
  rw [hv] at hcell
  clear hme hv hr
  rcases hdi with ⟨hneg, rfl⟩ | ⟨hneg, rfl⟩
  · go_enter Try.func78, Try.ntmps78
    go_wp2
    go_ret
    exact ⟨ret_int (by unfold sg; rw [if_pos hneg]), Below.refl _ _⟩
  · go_enter Try.func78, Try.ntmps78
    go_wp2
    go_ret
    exact ⟨ret_int (by unfold sg; rw [if_neg (by omega)]), Below.refl _ _⟩

end Go.Proofs.Ytglpdojccncjjaa.Q15
