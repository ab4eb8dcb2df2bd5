/- A part of the proof. -/
import Derived.Test.YtnflnicdjioflaaGreatDoorQmae
set_option linter.unusedVariables false
set_option linter.unusedSimpArgs false
namespace Go.Proofs.YtnflnicdjioflaaGreatDoor
open Go.RowKit Go.Proofs.YtnflnicdjioflaaGreatDoorW.PrintWords Go.Proofs.YtnflnicdjioflaaGreatDoorW.PrintLast Go.Proofs.YtnflnicdjioflaaGreatDoorW.PrintMore
namespace Q16
attribute [local go_sem] max2_int min2_int max_two min_two max_three min_three
open Q15
theorem isW_not2 {l : List Int} {k : Nat} (hk : k < l.length) (h : rd l k < 1 ∨ 128 < rd l k) : isW l = false := by
 by_cases h1 : rd l k < 1
 ·exact isW_not hk (.inl h1)
 ·rw [← Bool.not_eq_true]
  intro hw
  obtain ⟨g1, g2, g3⟩ := isW_iff.1 hw
  have h5 := sum_take_le g1 (k + 1)
  have h6 := sum_pos (l := l.take k) (fun x hx => g1 x (List.mem_of_mem_take hx))
  rw [take_rd l k hk, List.sum_append] at h5
  simp only [List.sum_cons, List.sum_nil] at h5
  omega
theorem isW_all2 {l : List Int} (h : ∀ x ∈ l, 1 ≤ x) : isW l = (decide (1 ≤ l.length) && decide (l.length ≤ 32) && decide (l.sum = 128)) := by
 rw [isW_all h]
 congr 1
 exact decide_eq_decide.2 (by omega)
set_option maxHeartbeats 1000000 in
theorem rWidths_calls (A : Option Addr) (cap : Nat) (l : List Int) (w : World) (hr : (Kd.int .i64).C w A l.length l) (hl : l.length ≤ 1099511627776) :
  Calls Tryz.prog 132 #[.slice A l.length cap] w fun e w' => e = .returned (.bool (isW l)) ∧ Below w.heap.size w w' := by
 have HR := Aside0.mk hr
 clear hr
 go_enter Tryz.func132, Tryz.ntmps132
 go_wp2
 go_loopw [3, 8] (fun s i wr => ∃ (k : Nat) (z : Int), i = .int .i64 k ∧ s = .int .i64 z ∧ k ≤ l.length ∧ 0 ≤ z ∧ z ≤ k * 128 ∧ Aside0 (z = (l.take k).sum) ∧ Aside0 (∀ x ∈ l.take k, 1 ≤ x) ∧ Below w.heap.size w wr) (fun _ i _ => l.length - (intOf i).toNat)
 case atStart => exact ⟨0, 0, rfl, rfl, by omega, by omega, by omega, ⟨by simp⟩, ⟨by simp⟩, Below.refl _ _⟩
 case round =>
  obtain ⟨k, z, rfl, rfl, hk, hz0, hz1, hn, ha, hb⟩ := hrel
  by_cases hlt : k < l.length
  ·obtain ⟨ad, rfl, hcell⟩ := el_at HR.out hb hlt
   have hno := isW_not2 hlt
   have hT := take_rd l k hlt
   obtain ⟨n, hx⟩ : ∃ n, n = rd l k := ⟨_, rfl⟩
   rw [← hx] at hcell hno hT
   replace hno := Aside0.mk hno
   replace hT := Aside0.mk hT
   clear hx
   by_cases h1 : n < 1
   ·go_wp2
    go_ret
    exact ⟨by rw [hno.out (.inl h1)]; rfl, hb⟩
   ·by_cases h2 : 128 < n
    ·go_wp2
     go_ret
     exact ⟨by rw [hno.out (.inr h2)]; rfl, hb⟩
    ·go_wp2
     go_roundw
     case rel => exact ⟨k + 1, z + n, by go_num, rfl, by omega, by omega, by omega, ⟨by rw [hT.out, List.sum_append, hn.out]; simp⟩, ⟨by
      rw [hT.out]
      intro x hx
      rcases List.mem_append.1 hx with hx | hx
      ·exact ha.out x hx
      ·rw [List.mem_singleton.1 hx]; omega⟩, hb⟩
     case measure => simp [intOf]; omega
  ·obtain rfl : k = l.length := by omega
   have hA := ha.out
   have hN := hn.out
   rw [List.take_length] at hA hN
   have hW := isW_all2 hA
   rw [← hN] at hW
   replace hW := Aside0.mk hW
   clear ha hn hA hN
   by_cases g1 : 1 ≤ l.length
   ·by_cases g2 : l.length ≤ 32
    ·have g1' : decide ((1 : Int) ≤ (l.length : Int)) = true := by simp; omega
     have g2' : decide ((l.length : Int) ≤ (32 : Int)) = true := by simp; omega
     rw [decide_eq_true g1, decide_eq_true g2, Bool.true_and, Bool.true_and] at hW
     clear g1 g2
     go_wp2
     go_ret
     exact ⟨by rw [hW.out]; rfl, hb⟩
    ·have g1' : decide ((1 : Int) ≤ (l.length : Int)) = true := by simp; omega
     have g2' : decide ((l.length : Int) ≤ (32 : Int)) = false := by simp; omega
     rw [decide_eq_false g2, Bool.and_false, Bool.false_and] at hW
     clear g1 g2
     go_wp2
     go_ret
     exact ⟨by rw [hW.out]; rfl, hb⟩
   ·have g1' : decide ((1 : Int) ≤ (l.length : Int)) = false := by simp; omega
    rw [decide_eq_false g1, Bool.false_and, Bool.false_and] at hW
    clear g1
    go_wp2
    go_ret
    exact ⟨by rw [hW.out]; rfl, hb⟩
set_option maxHeartbeats 1000000 in
theorem within_calls (most : Int) (hm : 0 ≤ most ∧ most ≤ 4611686018427387904) (A : Option Addr) (cap : Nat) (l : List Int) (w : World) (hr : (Kd.int .i64).C w A l.length l) (hl : l.length ≤ 1099511627776) :
  Calls Tryz.prog 49 #[.int .i64 most, .slice A l.length cap] w fun e w' => e = .returned (.bool (rng (-most) most l)) ∧ Below w.heap.size w w' := by
 have HR := Aside0.mk hr
 clear hr
 go_enter Tryz.func49, Tryz.ntmps49
 go_wp2
 go_loopw [9] (fun i wr => ∃ (k : Nat), i = .int .i64 k ∧ k ≤ l.length ∧ Aside0 (∀ x ∈ l.take k, -most ≤ x ∧ x ≤ most) ∧ Below w.heap.size w wr) (fun i _ => l.length - (intOf i).toNat)
 case atStart => exact ⟨0, rfl, by omega, ⟨by simp⟩, Below.refl _ _⟩
 case round =>
  obtain ⟨k, rfl, hk, ha, hb⟩ := hrel
  by_cases hlt : k < l.length
  ·obtain ⟨ad, rfl, hcell⟩ := el_at HR.out hb hlt
   have hno := rng_not (low := -most) (high := most) hlt
   have hT := take_rd l k hlt
   obtain ⟨n, hx⟩ : ∃ n, n = rd l k := ⟨_, rfl⟩
   rw [← hx] at hcell hno hT
   replace hno := Aside0.mk hno
   replace hT := Aside0.mk hT
   clear hx
   by_cases h1 : n < -most
   ·go_wp2
    go_ret
    exact ⟨by rw [hno.out (.inl h1)]; rfl, hb⟩
   ·by_cases h2 : most < n
    ·go_wp2
     go_ret
     exact ⟨by rw [hno.out (.inr h2)]; rfl, hb⟩
    ·go_wp2
     go_roundw
     case rel => exact ⟨k + 1, by go_num, by omega, ⟨by
      rw [hT.out]
      intro x hx
      rcases List.mem_append.1 hx with hx | hx
      ·exact ha.out x hx
      ·rw [List.mem_singleton.1 hx]; omega⟩, hb⟩
     case measure => simp [intOf]; omega
  ·obtain rfl : k = l.length := by omega
   have hA := ha.out
   rw [List.take_length] at hA
   have hW : Aside0 (rng (-most) most l = true) := ⟨List.all_eq_true.2 fun x hx => decide_eq_true (hA x hx)⟩
   clear ha hA
   go_wp2
   go_ret
   exact ⟨by rw [hW.out]; rfl, hb⟩
theorem Within_calls (most : Int) (hm : 0 ≤ most ∧ most ≤ 4611686018427387904) (A : Option Addr) (cap : Nat) (l : List Int) (w : World) (hr : (Kd.int .i64).C w A l.length l) (hl : l.length ≤ 1099511627776) :
  Calls Tryz.prog 23 #[.int .i64 most, .slice A l.length cap] w fun e w' => e = .returned (.bool (rng (-most) most l)) ∧ Below w.heap.size w w' := by
 have hb := Below.refl w.heap.size w
 have HC := Aside0.mk (within_calls most hm A cap l w hr hl)
 obtain ⟨b, hbe⟩ : ∃ b, b = rng (-most) most l := ⟨_, rfl⟩
 rw [← hbe] at HC ⊢
 clear hr hbe
 go_enter Tryz.func23, Tryz.ntmps23
 go_wp2_with (first | (go_at_call 49; refine (HC.out).mono ?_; rintro e w' ⟨rfl, hbn⟩; replace hb := bnx hb hbn; clear hbn))
 go_ret
 exact ⟨rfl, hb⟩
set_option maxHeartbeats 1000000 in
theorem all_calls (most : Int) (A : Option Addr) (cap : Nat) (l : List Int) (w : World) (hr : (Kd.int .i64).C w A l.length l) (hl : l.length ≤ 1099511627776) :
  Calls Tryz.prog 128 #[.slice A l.length cap, .int .i64 most] w fun e w' => e = .returned (.bool (rng 0 most l)) ∧ Below w.heap.size w w' := by
 have HR := Aside0.mk hr
 clear hr
 go_enter Tryz.func128, Tryz.ntmps128
 go_wp2
 go_loopw [9] (fun i wr => ∃ (k : Nat), i = .int .i64 k ∧ k ≤ l.length ∧ Aside0 (∀ x ∈ l.take k, 0 ≤ x ∧ x ≤ most) ∧ Below w.heap.size w wr) (fun i _ => l.length - (intOf i).toNat)
 case atStart => exact ⟨0, rfl, by omega, ⟨by simp⟩, Below.refl _ _⟩
 case round =>
  obtain ⟨k, rfl, hk, ha, hb⟩ := hrel
  by_cases hlt : k < l.length
  ·obtain ⟨ad, rfl, hcell⟩ := el_at HR.out hb hlt
   have hno := rng_not (low := 0) (high := most) hlt
   have hT := take_rd l k hlt
   obtain ⟨n, hx⟩ : ∃ n, n = rd l k := ⟨_, rfl⟩
   rw [← hx] at hcell hno hT
   replace hno := Aside0.mk hno
   replace hT := Aside0.mk hT
   clear hx
   by_cases h1 : n < 0
   ·go_wp2
    go_ret
    exact ⟨by rw [hno.out (.inl h1)]; rfl, hb⟩
   ·by_cases h2 : most < n
    ·go_wp2
     go_ret
     exact ⟨by rw [hno.out (.inr h2)]; rfl, hb⟩
    ·go_wp2
     go_roundw
     case rel => exact ⟨k + 1, by go_num, by omega, ⟨by
      rw [hT.out]
      intro x hx
      rcases List.mem_append.1 hx with hx | hx
      ·exact ha.out x hx
      ·rw [List.mem_singleton.1 hx]; omega⟩, hb⟩
     case measure => simp [intOf]; omega
  ·obtain rfl : k = l.length := by omega
   have hA := ha.out
   rw [List.take_length] at hA
   have hW : Aside0 (rng 0 most l = true) := ⟨List.all_eq_true.2 fun x hx => decide_eq_true (hA x hx)⟩
   clear ha hA
   go_wp2
   go_ret
   exact ⟨by rw [hW.out]; rfl, hb⟩
set_option maxHeartbeats 1000000 in
theorem forms_calls (A0 A : Option Addr) (n0 c0 cap c2 : Nat) (l : List Int) (B : Nat) (ls : List Nat) (w : World) (hr : (Kd.int .i64).C w A l.length l) (hl : l.length ≤ 1099511627776) (hn0 : n0 ≤ 1099511627776) (hls : Lens w B ls) (hll : ls.length ≤ 1000000) (hle : ∀ n ∈ ls, n ≤ 1099511627776) :
  Calls Tryz.prog 127 #[.slice A0 n0 c0, .slice A l.length cap, .slice (some ⟨B, 0, none⟩) ls.length c2] w fun e w' => e = .returned (.int .i64 (formE n0 l ls)) ∧ Below w.heap.size w w' := by
 have hb := Below.refl w.heap.size w
 have HW := Aside0.mk (rWidths_calls A cap l w hr hl)
 have HLS := Aside0.mk hls
 have HLE := Aside0.mk hle
 clear hr hls hle
 unfold formE
 cases hw : isW l with
 | false =>
  rw [hw] at HW
  clear hw
  go_enter Tryz.func127, Tryz.ntmps127
  go_wp2_with (first | (go_at_call 132; refine (HW.out).mono ?_; rintro e w' ⟨rfl, hbn⟩; replace hb := bnx hb hbn; clear hbn))
  go_ret
  exact ⟨rfl, hb⟩
 | true =>
  rw [hw] at HW
  clear hw
  by_cases h128 : n0 = 128
  ·subst h128
   rw [if_pos rfl, if_pos rfl]
   obtain ⟨E, hE⟩ : ∃ E : Int, E = (if ls.all (fun m => decide (m = l.length)) then 0 else 4) := ⟨_, rfl⟩
   rw [← hE]
   have HX : Aside0 (∀ k n, ls[k]? = some n → n ≠ l.length → E = 4) := ⟨fun k n hk hne => by
    rw [hE, if_neg]
    intro h
    have := List.all_eq_true.1 h n (List.mem_of_getElem? hk)
    simp at this
    exact hne this⟩
   have HY : Aside0 ((∀ x ∈ ls, x = l.length) → E = 0) := ⟨fun h => by rw [hE, if_pos (List.all_eq_true.2 fun x hx => decide_eq_true (h x hx))]⟩
   clear hE
   go_enter Tryz.func127, Tryz.ntmps127
   go_wp2_with (first | (go_at_call 132; refine (HW.out).mono ?_; rintro e w' ⟨rfl, hbn⟩; replace hb := bnx hb hbn; clear hbn))
   go_loopw [17] (fun i wr => ∃ (k : Nat), i = .int .i64 k ∧ k ≤ ls.length ∧ Aside0 (∀ x ∈ ls.take k, x = l.length) ∧ Below w.heap.size w wr) (fun i _ => ls.length - (intOf i).toNat)
   case atStart => exact ⟨0, rfl, by omega, ⟨by simp⟩, hb⟩
   case round =>
    obtain ⟨k, rfl, hk, ha, hbr⟩ := hrel
    clear hb
    have hb := hbr
    clear hbr
    by_cases hlt : k < ls.length
    ·have hk? := List.getElem?_eq_getElem hlt
     obtain ⟨A2, c3, hcell⟩ := HLS.out k _ hk?
     replace hcell := cnx hcell hb
     have hle := HLE.out _ (List.getElem_mem hlt)
     have hX := HX.out k _ hk?
     have hT : ls.take (k + 1) = ls.take k ++ [ls[k]] := List.take_succ_eq_append_getElem hlt
     obtain ⟨n, hx⟩ : ∃ n, n = ls[k] := ⟨_, rfl⟩
     rw [← hx] at hcell hX hT hle
     replace hX := Aside0.mk hX
     replace hT := Aside0.mk hT
     clear hx hk?
     by_cases h1 : n = l.length
     ·have h1' : decide ((n : Int) = (l.length : Int)) = true := by simp; omega
      have h1'' : ((n : Int) != (l.length : Int)) = false := by simp; omega
      have hn := Aside0.mk h1
      clear h1
      go_wp2
      go_roundw
      case rel => exact ⟨k + 1, by go_num, by omega, ⟨by
       rw [hT.out]
       intro x hx
       rcases List.mem_append.1 hx with hx | hx
       ·exact ha.out x hx
       ·rw [List.mem_singleton.1 hx]; exact hn.out⟩, hb⟩
      case measure => simp [intOf]; omega
     ·have h1' : decide ((n : Int) = (l.length : Int)) = false := by simp; omega
      have h1'' : ((n : Int) != (l.length : Int)) = true := by simp; omega
      have hf := Aside0.mk (hX.out h1)
      clear h1
      go_wp2
      go_ret
      exact ⟨by rw [hf.out]; rfl, hb⟩
    ·obtain rfl : k = ls.length := by omega
     have hA := ha.out
     rw [List.take_length] at hA
     have hf := Aside0.mk (HY.out hA)
     clear ha hA
     go_wp2
     go_ret
     exact ⟨by rw [hf.out]; rfl, hb⟩
  ·rw [if_neg h128, if_pos rfl]
   have h1' : ((n0 : Int) != (128 : Int)) = true := by simp; omega
   clear h128
   go_enter Tryz.func127, Tryz.ntmps127
   go_wp2_with (first | (go_at_call 132; refine (HW.out).mono ?_; rintro e w' ⟨rfl, hbn⟩; replace hb := bnx hb hbn; clear hbn))
   go_ret
   exact ⟨rfl, hb⟩
end Q16

end Go.Proofs.YtnflnicdjioflaaGreatDoor
