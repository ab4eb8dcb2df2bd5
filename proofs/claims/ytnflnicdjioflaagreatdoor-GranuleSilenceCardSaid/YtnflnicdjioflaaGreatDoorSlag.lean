/- A part of the proof. -/
import Derived.Test.YtnflnicdjioflaaGreatDoorSlad
set_option linter.unusedVariables false
set_option linter.unusedSimpArgs false
set_option maxRecDepth 100000
set_option maxHeartbeats 8000000
namespace Go.Proofs.YtnflnicdjioflaaGreatDoor
open Go.RowKit Go.Proofs.YtnflnicdjioflaaGreatDoorW.PrintWords Go.Proofs.YtnflnicdjioflaaGreatDoorW.PrintLast Go.Proofs.YtnflnicdjioflaaGreatDoorW.PrintMore
namespace Sec
attribute [local go_sem] Qj Qi Ql Qk Qg Qf
open Q15
def Nu (a b : Int) : Int := if a < b then -1 else if b < a then 1 else 0
def cmpL : List Int → List Int → Int
 | [], [] => 0
 | [], _ :: _ => -1
 | _ :: _, [] => 1
 | x :: xs, y :: ys => if x < y then -1 else if y < x then 1 else cmpL xs ys
theorem Qbr (x y : Int) (xs ys : List Int) : cmpL (x :: xs) (y :: ys) = if x < y then -1 else if y < x then 1 else cmpL xs ys := rfl
theorem cmpL_cn (x : Int) (xs : List Int) : cmpL (x :: xs) [] = 1 := rfl
theorem cmpL_nc (y : Int) (ys : List Int) : cmpL [] (y :: ys) = -1 := rfl
theorem Gd (l : List Int) (k : Nat) (h : k < l.length) : l.drop k = rd l k :: l.drop (k + 1) := by
 rw [List.drop_eq_getElem_cons h]
 unfold rd
 simp [List.getD_eq_getElem?_getD, h]
theorem Kl (a : Int) (w : World) : Calls Tryz.prog 232 #[.int .i64 a] w fun e w' => e = .returned (.bool false) ∧ w' = w := by
 go_enter Tryz.func232, Tryz.ntmps232
 go_wp2
 go_ret
 exact ⟨rfl, rfl⟩
theorem Bn (a b : Int) (w : World) :
  Calls Tryz.prog 219 #[.int .i64 a, .int .i64 b] w fun e w' => e = .returned (.int .i64 (Nu a b)) ∧ Below w.heap.size w w' := by
 have hb := Below.refl w.heap.size w
 by_cases h1 : a < b
 ·have hc : Qa (Nu a b = -1) := ⟨by unfold Nu; rw [if_pos h1]⟩
  go_enter Tryz.func219, Tryz.ntmps219
  go_wp2_with (first | (go_at_call 232; refine (Kl _ _).mono ?_; rintro e w' ⟨rfl, rfl⟩))
  go_ret
  exact ⟨by rw [hc.out]; rfl, hb⟩
 ·by_cases h2 : b < a
  ·have hc : Qa (Nu a b = 1) := ⟨by unfold Nu; rw [if_neg h1, if_pos h2]⟩
   have t1 : decide (a < b) = false := decide_eq_false h1
   clear h1
   go_enter Tryz.func219, Tryz.ntmps219
   go_wp2_with (first | (go_at_call 232; refine (Kl _ _).mono ?_; rintro e w' ⟨rfl, rfl⟩))
   go_ret
   exact ⟨by rw [hc.out]; rfl, hb⟩
  ·have hc : Qa (Nu a b = 0) := ⟨by unfold Nu; rw [if_neg h1, if_neg h2]⟩
   have t1 : decide (a < b) = false := decide_eq_false h1
   have t2 : decide (b < a) = false := decide_eq_false h2
   clear h1 h2
   go_enter Tryz.func219, Tryz.ntmps219
   go_wp2_with (first | (go_at_call 232; refine (Kl _ _).mono ?_; rintro e w' ⟨rfl, rfl⟩))
   go_ret
   exact ⟨by rw [hc.out]; rfl, hb⟩
theorem Nv (A B : Option Addr) (c1 c2 : Nat) (a b : List Int) (w : World) (hr : (Kd.int .i64).C w A a.length a) (hr2 : (Kd.int .i64).C w B b.length b) (h1 : a.length ≤ 1000000) (h2 : b.length ≤ 1000000) :
  Calls Tryz.prog 190 #[.slice A a.length c1, .slice B b.length c2] w fun e w' => e = .returned (.int .i64 (cmpL a b)) ∧ Below w.heap.size w w' := by
 have HA := Qa.mk hr
 have HB := Qa.mk hr2
 have haI : (a.length : Int) ≤ 1000000 := by omega
 have hbI : (b.length : Int) ≤ 1000000 := by omega
 obtain ⟨R, hR⟩ : ∃ R, R = cmpL a b := ⟨_, rfl⟩
 rw [← hR]
 replace hR := Qa.mk hR
 clear hr hr2 h1 h2
 go_enter Tryz.func190, Tryz.ntmps190
 go_wp2
 go_loopw [11] (fun i wr => ∃ k : Nat, i = .int .i64 k ∧ k ≤ a.length ∧ k ≤ b.length ∧ Qa (R = cmpL (a.drop k) (b.drop k)) ∧ Below w.heap.size w wr) (fun i _ => a.length - (intOf i).toNat)
 case atStart => exact ⟨0, rfl, by omega, by omega, ⟨by rw [hR.out]; rfl⟩, Below.refl _ _⟩
 case round =>
  obtain ⟨k, rfl, hk, hk2, hz, hb⟩ := hrel
  by_cases hlt : k < a.length
  ·have hkI : (k : Int) < (a.length : Int) := by omega
   obtain ⟨ad, rfl, hcell⟩ := Qr HA.out hb hlt
   by_cases hlt2 : k < b.length
   ·have hkI2 : (k : Int) < (b.length : Int) := by omega
    obtain ⟨bd, rfl, hcell2⟩ := Qr HB.out hb hlt2
    have hz2 := hz.out
    rw [Gd a k hlt, Gd b k hlt2] at hz2
    obtain ⟨x, hx⟩ : ∃ x, x = rd a k := ⟨_, rfl⟩
    obtain ⟨y, hy⟩ : ∃ y, y = rd b k := ⟨_, rfl⟩
    rw [← hx] at hcell hz2
    rw [← hy] at hcell2 hz2
    have HC := Qa.mk (fun W => Bn x y W)
    have hst : (Nu x y ≠ 0 → R = Nu x y) ∧ (Nu x y = 0 → R = cmpL (a.drop (k + 1)) (b.drop (k + 1))) := by
     rw [hz2, Qbr]
     unfold Nu
     by_cases q1 : x < y
     ·simp [q1]
     ·by_cases q2 : y < x
      ·simp [q1, q2]
      ·simp [q1, q2]
    obtain ⟨c, hc⟩ : ∃ c, c = Nu x y := ⟨_, rfl⟩
    rw [← hc] at HC hst
    clear hz2 hx hy hc hz
    have hT := Qa.mk (And.intro hlt hlt2)
    have hbk := Qa.mk hb
    clear hb hk hk2 hlt hlt2
    by_cases hc0 : c = 0
    ·have hst2 := Qa.mk (hst.2 hc0)
     subst hc0
     clear hst
     have hbz := hbk.out
     go_wp2_with (first | (go_at_call 219; refine (HC.out _).mono ?_; rintro e w' ⟨rfl, hbn⟩; replace hbz := bnx hbz hbn; clear hbn))
     go_roundw
     case rel => exact ⟨k + 1, by go_num, hT.out.1, hT.out.2, hst2, hbz⟩
     case measure => have := hT.out; simp [intOf]; omega
    ·have hst1 := Qa.mk (hst.1 hc0)
     have hcn : (c != 0) = true := bne_iff_ne.2 hc0
     clear hst hc0
     have hbz := hbk.out
     go_wp2_with (first | (go_at_call 219; refine (HC.out _).mono ?_; rintro e w' ⟨rfl, hbn⟩; replace hbz := bnx hbz hbn; clear hbn))
     go_ret
     exact ⟨by rw [hst1.out]; rfl, hbz⟩
   ·have hr1 : Qa (R = 1) := ⟨by rw [hz.out, Gd a k hlt, show b.drop k = [] from List.drop_of_length_le (by omega), cmpL_cn]⟩
    have hge : (b.length : Int) ≤ (k : Int) := by omega
    clear hlt2 hz
    go_wp2
    go_ret
    exact ⟨by rw [hr1.out]; rfl, hb⟩
  ·obtain rfl : k = a.length := by omega
   by_cases hlt2 : a.length < b.length
   ·have hr1 : Qa (R = -1) := ⟨by rw [hz.out, List.drop_length, Gd b _ hlt2, cmpL_nc]⟩
    have hge : (a.length : Int) < (b.length : Int) := by omega
    clear hlt2 hz
    go_wp2
    go_ret
    exact ⟨by rw [hr1.out]; rfl, hb⟩
   ·have hr1 : Qa (R = 0) := ⟨by rw [hz.out, List.drop_length, show b.drop a.length = [] from List.drop_of_length_le (by omega)]; rfl⟩
    have hge : decide (a.length < b.length) = false := decide_eq_false (by omega)
    clear hlt2 hz
    go_wp2
    go_ret
    exact ⟨by rw [hr1.out]; rfl, hb⟩
end Sec

end Go.Proofs.YtnflnicdjioflaaGreatDoor
