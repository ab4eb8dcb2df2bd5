/- What each function of package quant returns: noise, lists, scales. -/
import Derived.Test.YtglpdojccncjjaaQuantD
import Derived.WalkKit
import Derived.WalkSpells
import Derived.WalkLawsBesides
import Derived.KernelRfl
import Derived.Deep.RegionHeld3
import Derived.Deep.LoopGhost
import Derived.Deep.AppendLies
import Derived.Laws.Rows
import Derived.Shelf.GgClosure.Gives
import Derived.Test.YtglpdojccncjjaaWWords
import Derived.Test.YtglpdojccncjjaaWLast
import Derived.Test.YtglpdojccncjjaaWMore
namespace Go.Proofs.Ytglpdojccncjjaa.Q15
open Go.RowKit Go.Proofs.YtglpdojccncjjaaW.PrintWords Go.Proofs.YtglpdojccncjjaaW.PrintLast Go.Proofs.YtglpdojccncjjaaW.PrintMore
attribute [local go_sem] max2_int min2_int max_two min_two max_three min_three

theorem drop_rd (l : List Int) (k : Nat) (h : k < l.length) : l.drop k = rd l k :: l.drop (k + 1) := by rw [rd_nat l k h, List.drop_eq_getElem_cons h]

set_option maxHeartbeats 1000000 in
theorem noise_calls (x : Int) (A : Option Addr) (cap : Nat) (l : List Int) (limit : Int) (w : World) (hr : (Kd.int .i64).C w A l.length l) (hl : l.length ≤ 4096) (hx0 : 0 ≤ x) (hx1 : x ≤ 268435456)
    (hp : ∀ n ∈ l, -2097152 ≤ n ∧ n ≤ 2097152) :
    Calls Try.prog 51 #[.int .i64 x, .slice A l.length cap, .int .i64 limit] w fun e w' => e = .returned (.int .i64 (noiseTo x limit 0 l)) ∧ Below w.heap.size w w' := by
  have HP := Aside0.mk hp
  have HR := Aside0.mk hr
  clear hp hr
  go_enter Try.func51, Try.ntmps51
  go_wp2
  go_loopw [7, 13] (fun s i wr => ∃ (k : Nat) (z : Int), i = .int .i64 k ∧ s = .int .i64 z ∧ k ≤ l.length ∧ 0 ≤ z ∧ z ≤ k * 4398046511104 ∧ Aside0 (noiseTo x limit z (l.drop k) = noiseTo x limit 0 l) ∧ Below w.heap.size w wr) (fun _ i _ => l.length - (intOf i).toNat)
  case atStart => exact ⟨0, 0, rfl, rfl, by omega, by omega, by omega, ⟨by simp⟩, Below.refl _ _⟩
  case round =>
    obtain ⟨k, z, rfl, rfl, hk, hz0, hz1, hn, hb⟩ := hrel
    by_cases hlt : k < l.length
    · obtain ⟨ad, rfl, hcell⟩ := el_at HR.out hb hlt
      have hc := HP.out _ (rd_mem l k hlt)
      have hn' := hn.out
      rw [drop_rd l k hlt] at hn'
      obtain ⟨n, hx⟩ : ∃ n, n = rd l k := ⟨_, rfl⟩
      rw [← hx] at hcell hc hn'
      clear hx hn
      have ha : 0 ≤ absI n ∧ absI n ≤ 2097152 := by unfold absI; omega
      have hqb := qn_bd (x := x) (c := absI n) hx0
      have hvb := V_bd (qn x (absI n)) hx0
      have hsq := sq_bd (d := absI n - V x (qn x (absI n))) (by omega) (by omega)
      simp only [noiseTo] at hn'
      have e1 : dsq x n = (absI n - V x (qn x (absI n))) * (absI n - V x (qn x (absI n))) := rfl
      rw [e1] at hn'
      have hC1 := fun W => quantum_calls x (absI n) W hx0 hx1 ha.1 ha.2
      obtain ⟨m, hm⟩ : ∃ m, m = absI n := ⟨_, rfl⟩
      have hmn : m = (if n < -n then -n else n) := by rw [hm]; unfold absI; omega
      rw [← hm] at hn' ha hqb hvb hsq hC1
      clear hm
      obtain ⟨q, hq⟩ : ∃ q, q = qn x m := ⟨_, rfl⟩
      have hC2 := fun W => xvalue_calls x q W hx0 hx1
      rw [← hq] at hn' hqb hvb hsq hC1
      clear hq e1
      obtain ⟨v, hv⟩ : ∃ v, v = V x q := ⟨_, rfl⟩
      rw [← hv] at hn' hvb hsq hC2
      clear hv
      have hdi : (n < -n ∧ m = -n) ∨ (¬ n < -n ∧ m = n) := by omega
      have HC1 := Aside0.mk hC1
      have HC2 := Aside0.mk hC2
      clear hC1 hC2 hmn
      by_cases hlim : limit < z + (m - v) * (m - v)
      · rw [if_pos hlim] at hn'
        have HN := Aside0.mk hn'
        clear hn'
        rcases hdi with ⟨hneg, rfl⟩ | ⟨hneg, rfl⟩
        all_goals
          go_wp2_with (first | (go_at_call 40; refine (HC1.out _).mono ?_; rintro e w' ⟨rfl, hb1⟩) | (go_at_call 59; refine (HC2.out _ hqb.1 hqb.2).mono ?_; rintro e w' ⟨rfl, hb2⟩))
          go_ret
          exact ⟨ret_int HN.out, bnx (bnx hb hb1) hb2⟩
      · rw [if_neg hlim] at hn'
        have HN := Aside0.mk hn'
        clear hn'
        rcases hdi with ⟨hneg, rfl⟩ | ⟨hneg, rfl⟩
        all_goals
          go_wp2_with (first | (go_at_call 40; refine (HC1.out _).mono ?_; rintro e w' ⟨rfl, hb1⟩) | (go_at_call 59; refine (HC2.out _ hqb.1 hqb.2).mono ?_; rintro e w' ⟨rfl, hb2⟩))
          go_roundw
          case rel => exact ⟨k + 1, _, by go_num, rfl, by omega, by omega, by omega, HN, bnx (bnx hb hb1) hb2⟩
          case measure => simp [intOf]; omega
    · obtain rfl : k = l.length := by omega
      rw [List.drop_length] at hn
      go_wp2
      go_ret
      exact ⟨by rw [← hn.out]; rfl, hb⟩

set_option maxHeartbeats 400000 in
theorem check_calls (g : Nat) (p : Int → Bool) (A : Option Addr) (cap : Nat) (l : List Int) (s : Int) (w : World) (eg : Enters g) (hr : (Kd.int .i64).C w A l.length l)
    (hp : ∀ x W, FnBool g #[] #[] W x (p x)) :
    Calls Try.prog 43 #[.slice A l.length cap, .int .i64 s, .func (.func g) #[] #[]] w fun e w' => e = .returned (.int .i64 (chk p l s)) ∧ Below w.heap.size w w' := by
  have HA : l.length ≤ 128 → ∀ W, Below w.heap.size w W → Calls Try.prog 68 #[.slice A l.length cap, .func (.func g) #[] #[]] W fun e w' => e = .returned (.bool (l.all p)) ∧ Below W.heap.size W w' :=
    fun hl W hb => all_calls g #[] #[] p A cap l W eg (Kd.C_below hr hb) (by omega) (fun x _ => hp x W)
  replace HA := Aside0.mk HA
  clear hp hr
  cases h : isS s with
  | true =>
    by_cases hn : l.length ≤ 128
    · cases k : l.all p with
      | true =>
        have e : chk p l s = 0 := by unfold chk; rw [if_pos h, if_pos hn, if_pos k]
        rw [k] at HA
        rw [e]
        clear e k
        go_enter Try.func43, Try.ntmps43
        go_wp2_with (first | (go_at_call 33; refine (isS_calls _ _).mono ?_; rintro e w' ⟨rfl, hb0⟩) | (go_at_call 68; refine (HA.out hn _ hb0).mono ?_; rintro e w' ⟨rfl, hb⟩))
        go_ret
        exact ⟨rfl, bnx hb0 hb⟩
      | false =>
        have e : chk p l s = 6 := by unfold chk; rw [if_pos h, if_pos hn, if_neg (by rw [k]; simp)]
        rw [k] at HA
        rw [e]
        clear e k
        go_enter Try.func43, Try.ntmps43
        go_wp2_with (first | (go_at_call 33; refine (isS_calls _ _).mono ?_; rintro e w' ⟨rfl, hb0⟩) | (go_at_call 68; refine (HA.out hn _ hb0).mono ?_; rintro e w' ⟨rfl, hb⟩))
        go_ret
        exact ⟨rfl, bnx hb0 hb⟩
    · have e : chk p l s = 2 := by unfold chk; rw [if_pos h, if_neg hn]
      rw [e]
      clear e
      have hn' : (128 : Int) < (l.length : Int) := by omega
      go_enter Try.func43, Try.ntmps43
      go_wp2_with (first | (go_at_call 33; refine (isS_calls _ _).mono ?_; rintro e w' ⟨rfl, hb0⟩))
      go_ret
      exact ⟨rfl, hb0⟩
  | false =>
    have e : chk p l s = 1 := by unfold chk; rw [if_neg (by rw [h]; simp)]
    rw [e]
    clear e
    go_enter Try.func43, Try.ntmps43
    go_wp2_with (first | (go_at_call 33; refine (isS_calls _ _).mono ?_; rintro e w' ⟨rfl, hb0⟩))
    go_ret
    exact ⟨rfl, hb0⟩

theorem fn_isC (x : Int) (W : World) : FnBool 37 #[] #[] W x (isC x) := fun W' _ => isC_calls x W'
theorem fn_isQ (x : Int) (W : World) : FnBool 29 #[] #[] W x (isQ x) := fun W' _ => isQ_calls x W'

set_option maxHeartbeats 400000 in
theorem quantize1_calls (c x : Int) (B : Nat) (w : World) (hc : w.cell? ⟨B, 0, none⟩ = some (.int .i64 x)) (hx0 : 0 ≤ x) (hx1 : x ≤ 268435456) (h1 : -2097152 ≤ c) (h2 : c ≤ 2097152) :
    Calls Try.prog 45 #[.int .i64 c, .pointer (some ⟨B, 0, none⟩)] w fun e w' => e = .returned (.int .i64 (sg c (qn x (absI c)))) ∧ Below w.heap.size w w' := by
  have ha : 0 ≤ absI c ∧ absI c ≤ 2097152 := by unfold absI; omega
  have hqb := qn_bd (x := x) (c := absI c) hx0
  go_enter Try.func45, Try.ntmps45
  go_wp2_with (first | (go_at_call 38; refine (signed_calls 40 #[.int .i64 x] #[] c (qn x (absI c)) _ (fun _ _ => by kernel_rfl) (by omega) (by omega) (by omega) (by omega) (fun W _ => quantum_calls x _ W hx0 hx1 ha.1 ha.2)).mono ?_; rintro e w' ⟨rfl, hb⟩))
  go_ret
  exact ⟨rfl, hb⟩

set_option maxHeartbeats 400000 in
theorem values1_calls (q s : Int) (B : Nat) (w : World) (hc : w.cell? ⟨B, 0, none⟩ = some (.int .i64 s)) (h0 : -1023 ≤ q) (h1 : q ≤ 1023) (h2 : 0 ≤ s) (h3 : s ≤ 95) :
    Calls Try.prog 49 #[.int .i64 q, .pointer (some ⟨B, 0, none⟩)] w fun e w' => e = .returned (.int .i64 (sg q (V (stepI s) (absI q)))) ∧ Below w.heap.size w w' := by
  go_enter Try.func49, Try.ntmps49
  go_wp2_with (first | (go_at_call 34; refine (value_calls _ _ _ h0 h1 h2 h3).mono ?_; rintro e w' ⟨rfl, hb⟩))
  go_ret
  exact ⟨rfl, hb⟩

set_option maxHeartbeats 400000 in
theorem Quantize_no (A : Option Addr) (cap : Nat) (l : List Int) (s : Int) (w : World) (hr : (Kd.int .i64).C w A l.length l) (hk : chk isC l s ≠ 0) :
    Calls Try.prog 18 #[.slice A l.length cap, .int .i64 s] w fun e w' => e = .returned (.tuple #[.slice none 0 0, .int .i64 (chk isC l s)]) ∧ Below w.heap.size w w' := by
  obtain ⟨e0, he0⟩ : ∃ e0, e0 = chk isC l s := ⟨_, rfl⟩
  have HC := fun W hb => check_calls 37 isC A cap l s W (fun _ _ => by kernel_rfl) (Kd.C_below hr hb) fn_isC
  rw [← he0] at HC hk ⊢
  replace HC := Aside0.mk HC
  have hk' : (e0 == 0) = false := beq_eq_false_iff_ne.2 hk
  clear he0 hr
  go_enter Try.func18, Try.ntmps18
  go_wp2_with (first | (go_at_call 43; refine (HC.out _ (Below.refl _ _)).mono ?_; rintro e w' ⟨rfl, hb0⟩))
  go_ret2
  exact ⟨rfl, hb0⟩

end Go.Proofs.Ytglpdojccncjjaa.Q15
