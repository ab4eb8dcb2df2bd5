/- A part of the proof. -/
import Derived.Test.YtnflnicdjioflaaGreatDoorQmat
import Derived.Shelf.Bits.Mul64
set_option linter.unusedVariables false
set_option linter.unusedSimpArgs false
namespace Go.Proofs.YtnflnicdjioflaaGreatDoor
open Go.RowKit Go.Proofs.YtnflnicdjioflaaGreatDoorW.PrintWords Go.Proofs.YtnflnicdjioflaaGreatDoorW.PrintLast Go.Proofs.YtnflnicdjioflaaGreatDoorW.PrintMore
namespace Bk
theorem max2_max (k k' : IntKind) (x y : Int) : Builtin.max2 (.int k x) (.int k' y) = pure (.int k (max x y)) := by
 simp only [Builtin.max2, gt_iff_lt]
 by_cases h : x < y
 ·rw [if_pos h, show max x y = y by omega]
 ·rw [if_neg h, show max x y = x by omega]
theorem min2_min (k k' : IntKind) (x y : Int) : Builtin.min2 (.int k x) (.int k' y) = pure (.int k (min x y)) := by
 simp only [Builtin.min2]
 by_cases h : y < x
 ·rw [if_pos h, show min x y = y by omega]
 ·rw [if_neg h, show min x y = x by omega]
attribute [local go_sem] max2_max min2_min max_two min_two max_three min_three
open Q15
def dimL : List Nat := [1, 4, 4, 2, 2, 2, 2, 1]
def mostL : List Int := [0, 1, 2, 4, 7, 12, 15, 31]
def escL : List Bool := [false, false, false, false, false, false, true, true]
def dimB (k : Nat) : Nat := dimL.getD k 1
def mostB (k : Nat) : Int := mostL.getD k 0
def escB (k : Nat) : Bool := escL.getD k false
def szI (v : Int) : Int := max v (-v)
theorem szI_bd {v m : Int} (h : -m ≤ v ∧ v ≤ m) : 0 ≤ szI v ∧ szI v ≤ m := by unfold szI; omega
def isB (b : Int) : Bool := decide (0 ≤ b ∧ b < 8)
def areB (l : List Int) : Bool := Q16.rng (-1023) 1023 l
theorem areB_mem {l : List Int} (h : areB l = true) {x : Int} (hx : x ∈ l) : -1023 ≤ x ∧ x ≤ 1023 := by
 have := List.all_eq_true.1 h x hx
 simpa using this
def bkE (b : Int) (l : List Int) : Int := if isB b = true then (if areB l = true then 0 else 6) else 5
def fitsF (d : Nat) (m : Int) (e : Bool) (l : List Int) : Bool := l.all (fun v => decide (szI v ≤ m) || e) && decide (l.length % d = 0)
def gamI (v : Int) : Int := 2 * (v.toNat.log2 : Int) + 1
def besF (m : Int) (e : Bool) (v : Int) : Int := if v = 0 then 0 else if e = true ∧ m ≤ szI v then 1 + gamI (szI v - m + 1) else 1
def digF (m v : Int) : Int := min (szI v) m
def symD (m : Int) (l : List Int) : Int := l.foldl (fun s d => s * (m + 1) + d) 0
def symF (m : Int) (l : List Int) : Int := symD m (l.map (digF m))
def frm (d : Nat) (m : Int) (e : Bool) : Value := .agg #[.int .i64 d, .int .i64 m, .bool e]
theorem dimB_bd (k : Nat) : 1 ≤ dimB k ∧ dimB k ≤ 4 := by
 by_cases h : k < 8
 ·have : ∀ k, k < 8 → 1 ≤ dimB k ∧ dimB k ≤ 4 := by decide
  exact this k h
 ·unfold dimB; rw [List.getD_eq_getElem?_getD, List.getElem?_eq_none (by simpa [dimL] using h)]; decide
theorem mostB_bd (k : Nat) : 0 ≤ mostB k ∧ mostB k ≤ 31 := by
 by_cases h : k < 8
 ·have : ∀ k, k < 8 → 0 ≤ mostB k ∧ mostB k ≤ 31 := by decide
  exact this k h
 ·unfold mostB; rw [List.getD_eq_getElem?_getD, List.getElem?_eq_none (by simpa [mostL] using h)]; decide
theorem there_calls (b : Int) (w : World) (h0 : -1000000 ≤ b) (h1 : b ≤ 1000000) :
  Calls Tryz.prog 229 #[.int .i64 b] w fun e w' => e = .returned (.bool (isB b)) ∧ Below w.heap.size w w' := by
 have hb := Below.refl w.heap.size w
 by_cases h : 0 ≤ b
 ·by_cases h2 : b < 8
  ·have hi : Aside0 (isB b = true) := ⟨decide_eq_true ⟨h, h2⟩⟩
   go_enter Tryz.func229, Tryz.ntmps229
   go_wp2
   go_ret
   exact ⟨by rw [hi.out]; simp [h2], hb⟩
  ·have hi : Aside0 (isB b = false) := ⟨decide_eq_false (by omega)⟩
   go_enter Tryz.func229, Tryz.ntmps229
   go_wp2
   go_ret
   exact ⟨by rw [hi.out]; simp [h2], hb⟩
 ·have hi : Aside0 (isB b = false) := ⟨decide_eq_false (by omega)⟩
  go_enter Tryz.func229, Tryz.ntmps229
  go_wp2
  go_ret
  exact ⟨by rw [hi.out]; rfl, hb⟩
theorem size_calls (v : Int) (w : World) (h0 : -1000000 ≤ v) (h1 : v ≤ 1000000) :
  Calls Tryz.prog 196 #[.int .i64 v] w fun e w' => e = .returned (.int .i64 (szI v)) ∧ Below w.heap.size w w' := by
 have hb := Below.refl w.heap.size w
 go_enter Tryz.func196, Tryz.ntmps196
 go_wp2
 go_ret
 exact ⟨rfl, hb⟩
set_option maxHeartbeats 1000000 in
theorem are_calls (A : Option Addr) (cap : Nat) (l : List Int) (w : World) (hr : (Kd.int .i64).C w A l.length l) (hl : l.length ≤ 1000000) :
  Calls Tryz.prog 230 #[.slice A l.length cap] w fun e w' => e = .returned (.bool (areB l)) ∧ Below w.heap.size w w' := by
 have HR := Aside0.mk hr
 have hlI : (l.length : Int) ≤ 1000000 := by omega
 have HF : Aside0 (∀ k, k < l.length → ¬ ((-1023) ≤ rd l k ∧ rd l k ≤ 1023) → areB l = false) := ⟨fun k hk h => List.all_eq_false.2 ⟨_, rd_mem l k hk, by simpa using h⟩⟩
 have HT : Aside0 ((∀ x ∈ l, (-1023) ≤ x ∧ x ≤ 1023) → areB l = true) := ⟨fun h => List.all_eq_true.2 fun x hx => decide_eq_true (h x hx)⟩
 obtain ⟨b, hbe⟩ : ∃ b, b = areB l := ⟨_, rfl⟩
 rw [← hbe] at HF HT ⊢
 clear hr hl hbe
 go_enter Tryz.func230, Tryz.ntmps230
 go_wp2
 go_loopw [7] (fun i wr => ∃ k : Nat, i = .int .i64 k ∧ k ≤ l.length ∧ Aside0 (∀ x ∈ l.take k, (-1023) ≤ x ∧ x ≤ 1023) ∧ Below w.heap.size w wr) (fun i _ => l.length - (intOf i).toNat)
 case atStart => exact ⟨0, rfl, by omega, ⟨by simp⟩, Below.refl _ _⟩
 case round =>
  obtain ⟨k, rfl, hk, ha, hb⟩ := hrel
  by_cases hlt : k < l.length
  ·obtain ⟨ad, rfl, hcell⟩ := el_at HR.out hb hlt
   have hT := Aside0.mk (take_rd l k hlt)
   have hf := HF.out k hlt
   have hkI : (k : Int) < (l.length : Int) := by omega
   obtain ⟨n, hx⟩ : ∃ n, n = rd l k := ⟨_, rfl⟩
   rw [← hx] at hcell hT hf
   replace hf := Aside0.mk hf
   clear hx
   by_cases h1 : n < (-1023)
   ·have hff := Aside0.mk (hf.out (by omega))
    go_wp2
    go_ret
    exact ⟨by rw [hff.out]; rfl, hb⟩
   ·by_cases h2 : 1023 < n
    ·have hff := Aside0.mk (hf.out (by omega))
     have h1' : decide (n < (-1023)) = false := by simpa using h1
     go_wp2
     go_ret
     exact ⟨by rw [hff.out]; rfl, hb⟩
    ·have h1' : decide (n < (-1023)) = false := by simpa using h1
     have h2' : decide (1023 < n) = false := by simpa using h2
     have h3 : Aside0 ((-1023) ≤ n ∧ n ≤ 1023) := ⟨by omega⟩
     clear h1 h2
     go_wp2
     go_roundw
     case rel => exact ⟨k + 1, by go_num, by omega, ⟨by
      rw [hT.out]
      intro x hx
      rcases List.mem_append.1 hx with hx | hx
      ·exact ha.out x hx
      ·rw [List.mem_singleton.1 hx]; exact h3.out⟩, hb⟩
     case measure => simp [intOf]; omega
  ·obtain rfl : k = l.length := by omega
   have hA := ha.out
   rw [List.take_length] at hA
   have hff := Aside0.mk (HT.out hA)
   clear ha hA
   go_wp2
   go_ret
   exact ⟨by rw [hff.out]; rfl, hb⟩
theorem bchecked_calls (b : Int) (A : Option Addr) (cap : Nat) (l : List Int) (w : World) (h0 : -1000000 ≤ b) (h1 : b ≤ 1000000) (hr : (Kd.int .i64).C w A l.length l) (hl : l.length ≤ 1000000) :
  Calls Tryz.prog 213 #[.int .i64 b, .slice A l.length cap] w fun e w' => e = .returned (.int .i64 (bkE b l)) ∧ Below w.heap.size w w' := by
 have hb := Below.refl w.heap.size w
 have HT := Aside0.mk (fun (W : World) => there_calls b W h0 h1)
 have HA := Aside0.mk (fun (W : World) (hb : Below w.heap.size w W) => are_calls A cap l W (Kd.C_below hr hb) hl)
 have hE : Aside0 (bkE b l = if isB b = true then (if areB l = true then 0 else 6) else 5) := ⟨rfl⟩
 obtain ⟨t, ht⟩ : ∃ t, t = isB b := ⟨_, rfl⟩
 obtain ⟨a, ha⟩ : ∃ a, a = areB l := ⟨_, rfl⟩
 rw [← ht] at HT hE
 rw [← ha] at HA hE
 clear ht ha hr hl
 rcases t with _ | _
 ·go_enter Tryz.func213, Tryz.ntmps213
  go_wp2_with (first | (go_at_call 229; refine ((HT.out _)).mono ?_; rintro e w' ⟨rfl, hbn⟩; replace hb := bnx hb hbn; clear hbn))
  go_ret
  exact ⟨by rw [hE.out]; rfl, hb⟩
 ·rcases a with _ | _
  ·go_enter Tryz.func213, Tryz.ntmps213
   go_wp2_with (first | (go_at_call 229; refine ((HT.out _)).mono ?_; rintro e w' ⟨rfl, hbn⟩; replace hb := bnx hb hbn; clear hbn) | (go_at_call 230; refine ((HA.out _ hb)).mono ?_; rintro e w' ⟨rfl, hbn⟩; replace hb := bnx hb hbn; clear hbn))
   go_ret
   exact ⟨by rw [hE.out]; rfl, hb⟩
  ·go_enter Tryz.func213, Tryz.ntmps213
   go_wp2_with (first | (go_at_call 229; refine ((HT.out _)).mono ?_; rintro e w' ⟨rfl, hbn⟩; replace hb := bnx hb hbn; clear hbn) | (go_at_call 230; refine ((HA.out _ hb)).mono ?_; rintro e w' ⟨rfl, hbn⟩; replace hb := bnx hb hbn; clear hbn))
   go_ret
   exact ⟨by rw [hE.out]; rfl, hb⟩
theorem gamI_step {v : Int} (h : 1 < v) : gamI v = gamI (v / 2) + 2 := by
 unfold gamI
 rw [show (v / 2).toNat = v.toNat / 2 by omega]
 rw [Nat.log2_def v.toNat, if_pos (by omega)]
 push_cast
 omega
theorem gamI_one {v : Int} (h : v ≤ 1) : gamI v = 1 := by
 unfold gamI
 rw [Nat.log2_def, if_neg (by omega)]
 rfl
set_option maxHeartbeats 1000000 in
theorem gamma_calls (v : Int) (w : World) (h0 : -1000000 ≤ v) (h1 : v ≤ 1000000) :
  Calls Tryz.prog 237 #[.int .i64 v] w fun e w' => e = .returned (.int .i64 (gamI v)) ∧ Below w.heap.size w w' := by
 have hb := Below.refl w.heap.size w
 obtain ⟨G, hG⟩ : ∃ G, G = gamI v := ⟨_, rfl⟩
 rw [← hG]
 replace hG := Aside0.mk hG
 go_enter Tryz.func237, Tryz.ntmps237
 go_wp2
 go_loopw [0, 3] (fun x o wr => ∃ u n : Int, x = .int .i64 u ∧ o = .int .i64 n ∧ -1000000 ≤ u ∧ u ≤ 1000000 ∧ 1 ≤ n ∧ n + 2 * u ≤ 2000100 ∧ n ≤ 2000100 ∧ Aside0 (G + 1 = n + gamI u) ∧ Below w.heap.size w wr) (fun x _ _ => (intOf x).toNat)
 case atStart => exact ⟨v, 1, rfl, rfl, h0, h1, by omega, by omega, by omega, ⟨by rw [hG.out]; omega⟩, hb⟩
 case round =>
  obtain ⟨u, n, rfl, rfl, hu0, hu1, hn0, hnu, hn1, hg, hb⟩ := hrel
  by_cases h2 : 1 < u
  ·have hs := Aside0.mk (gamI_step h2)
   have hd : Int.tdiv u 2 = u / 2 := Int.tdiv_eq_ediv_of_nonneg (by omega)
   obtain ⟨q, hq⟩ : ∃ q, q = u / 2 := ⟨_, rfl⟩
   rw [← hq] at hs hd
   have hq1 : 1 ≤ q ∧ q + 1 ≤ u := by omega
   clear hq
   go_wp2
   go_roundw
   case rel => exact ⟨q, n + 2, by go_num, by go_num, by omega, by omega, by omega, by omega, by omega, ⟨by have := hg.out; have := hs.out; omega⟩, hb⟩
   case measure => simp [intOf]; omega
  ·have hs := Aside0.mk (gamI_one (v := u) (by omega))
   have hr : Aside0 (n = G) := ⟨by have := hg.out; have := hs.out; omega⟩
   go_wp2
   go_ret
   exact ⟨by rw [← hr.out]; rfl, hb⟩
end Bk

namespace Bk
attribute [local go_sem] max2_max min2_min max_two min_two max_three min_three
open Q15
theorem wp_reg {P : Program} {id : Nat} {ops : Array Oper} {Q : Exit → Act → World → Prop} {a : Act} {w : World} (S : World → Prop) (hm : P.follows .mixedOrders = true) (hS : S w.drew)
  (h : S w.drew → wpAnyH P .any ops Q S ops.size (Array.replicate ops.size false) a w.drew) : (Code.region id ops true).wp P Q a w := wp_region_held hm (h hS)
set_option maxHeartbeats 1000000 in
theorem digits1_calls (m v : Int) (B : Nat) (w : World) (hc : w.cell? ⟨B, 1, none⟩ = some (.int .i64 m)) (h0 : -1000000 ≤ v) (h1 : v ≤ 1000000) (hm : 0 ≤ m ∧ m ≤ 31) :
  Calls Tryz.prog 233 #[.int .i64 v, .pointer (some ⟨B, 0, none⟩)] w fun e w' => e = .returned (.int .i64 (digF m v)) ∧ Below w.heap.size w w' := by
 have l1 := World.block_lt_of_cell? w _ hc
 have HS := Aside0.mk (fun W => size_calls v W h0 h1)
 have hD : Aside0 (digF m v = min (szI v) m) := ⟨rfl⟩
 rw [hD.out]
 obtain ⟨s, hs⟩ : ∃ s, s = szI v := ⟨_, rfl⟩
 rw [← hs] at HS ⊢
 clear hs hD
 go_enter Tryz.func233, Tryz.ntmps233
 go_wp2_with fail
 go_region_held3 (fun w' => w'.cell? ⟨B, 1, none⟩ = some (.int .i64 m) ∧ Below w.heap.size w w')
  (first | exact ⟨hc, Below.refl _ _⟩ | exact ⟨hc, (Below.refl _ _).drew⟩ | exact ⟨(hb.cell l1).trans hc, (Below.refl _ w).drew.trans hb⟩)
  (first | (go_at_call 196; refine (HS.out _).mono ?_; rintro e w' ⟨rfl, hb⟩))
 rename_i hh
 obtain ⟨_, hh⟩ := hh
 go_wp2
 go_ret
 exact ⟨rfl, hh⟩
set_option maxRecDepth 100000 in
set_option maxHeartbeats 1000000 in
theorem fits_calls (d : Nat) (m : Int) (e : Bool) (A : Option Addr) (cap : Nat) (l : List Int) (w : World) (hd : 1 ≤ d ∧ d ≤ 4) (hm : 0 ≤ m ∧ m ≤ 31) (hr : (Kd.int .i64).C w A l.length l) (hl : l.length ≤ 1000000) (hA : areB l = true) :
  Calls Tryz.prog 214 #[frm d m e, .slice A l.length cap] w fun en w' => en = .returned (.bool (fitsF d m e l)) ∧ Below w.heap.size w w' := by
 have HR := Aside0.mk hr
 have hlI : (l.length : Int) ≤ 1000000 := by omega
 have hu := Tryz.underlying194
 have HF : Aside0 (∀ k, k < l.length → m < szI (rd l k) → e = false → fitsF d m e l = false) := ⟨fun k hk h he => by
  unfold fitsF
  rw [show l.all (fun v => decide (szI v ≤ m) || e) = false from List.all_eq_false.2 ⟨_, rd_mem l k hk, by rw [he, decide_eq_false (by omega)]; simp⟩, Bool.false_and]⟩
 have HT : Aside0 ((∀ x ∈ l, szI x ≤ m ∨ e = true) → fitsF d m e l = decide (l.length % d = 0)) := ⟨fun h => by
  unfold fitsF
  rw [show l.all (fun v => decide (szI v ≤ m) || e) = true from List.all_eq_true.2 fun x hx => by rcases h x hx with h | h <;> simp [h], Bool.true_and]⟩
 have HB : Aside0 (∀ k, k < l.length → -1000000 ≤ rd l k ∧ rd l k ≤ 1000000) := ⟨fun k hk => by have := areB_mem hA (rd_mem l k hk); omega⟩
 obtain ⟨b, hbe⟩ : ∃ b, b = fitsF d m e l := ⟨_, rfl⟩
 rw [← hbe] at HF HT ⊢
 have hrem : Int.tmod (l.length : Int) (d : Int) = ((l.length % d : Nat) : Int) := rfl
 obtain ⟨R, hR⟩ : ∃ R, R = l.length % d := ⟨_, rfl⟩
 rw [← hR] at hrem HT
 have hR9 : (R : Int) ≤ 1000000 := by have := Nat.mod_le l.length d; omega
 have hdI : 1 ≤ (d : Int) ∧ (d : Int) ≤ 4 := by omega
 have hd0 : ¬ (d : Int) = 0 := by omega
 clear hr hl hbe hA hR
 unfold frm
 go_enter Tryz.func214, Tryz.ntmps214
 go_wp2
 obtain ⟨W0, hW0⟩ : ∃ W0, W0 = w.alloc (.cells #[.int .i64 d, .int .i64 m, .bool e] 194) := ⟨_, rfl⟩
 rw [← hW0]
 have hb0 : Below w.heap.size w W0 := by rw [hW0]; exact (Below.refl _ _).alloc (Nat.le_refl _) _
 have c0 : W0.cell? ⟨w.heap.size, 0, none⟩ = some (.int .i64 d) := by rw [hW0]; simp [go_sem]
 have c1 : W0.cell? ⟨w.heap.size, 1, none⟩ = some (.int .i64 m) := by rw [hW0]; simp [go_sem]
 have c2 : W0.cell? ⟨w.heap.size, 2, none⟩ = some (.bool e) := by rw [hW0]; simp [go_sem]
 clear hW0
 go_loopw [9] (fun i wr => ∃ k : Nat, i = .int .i64 k ∧ k ≤ l.length ∧ Aside0 (∀ x ∈ l.take k, szI x ≤ m ∨ e = true) ∧ Below W0.heap.size W0 wr) (fun i _ => l.length - (intOf i).toNat)
 case atStart => exact ⟨0, rfl, by omega, ⟨by simp⟩, Below.refl _ _⟩
 case round =>
  obtain ⟨k, rfl, hk, ha, hb⟩ := hrel
  have c0 := cnx c0 hb
  have c1 := cnx c1 hb
  have c2 := cnx c2 hb
  by_cases hlt : k < l.length
  ·obtain ⟨ad, rfl, hcell⟩ := el_at HR.out (bnx hb0 hb) hlt
   have hT := Aside0.mk (take_rd l k hlt)
   have hf := HF.out k hlt
   have hbd := HB.out k hlt
   have hkI : (k : Int) < (l.length : Int) := by omega
   obtain ⟨n, hx⟩ : ∃ n, n = rd l k := ⟨_, rfl⟩
   rw [← hx] at hcell hT hf hbd
   have HS := Aside0.mk (fun W => size_calls n W hbd.1 hbd.2)
   obtain ⟨s, hs⟩ : ∃ s, s = szI n := ⟨_, rfl⟩
   rw [← hs] at HS hf
   have hs9 : 0 ≤ s ∧ s ≤ 1000000 := by rw [hs]; exact szI_bd hbd
   replace hf := Aside0.mk hf
   replace hs := Aside0.mk hs
   clear hx
   have l1 := World.block_lt_of_cell? wr _ c1
   have fin : ∀ W : World, Below wr.heap.size wr W → Below w.heap.size w W := fun W h => bnx hb0 (bnx hb h)
   by_cases h1 : m < s
   ·rcases e with _ | _
    ·have hff := Aside0.mk (hf.out h1 rfl)
     go_wp2_with fail
     refine wp_reg (fun w' => w'.cell? ⟨w.heap.size, 1, none⟩ = some (.int .i64 m) ∧ w'.cell? ⟨w.heap.size, 2, none⟩ = some (.bool false) ∧ Below wr.heap.size wr w') (by kernel_rfl) ⟨c1, c2, (Below.refl _ _).drew⟩ (fun hHeld => ?_)
     (refine Tk.tk 0 (.int .i64 n) hHeld ?_)
     (refine Tk.tk 2 (.pointer (some ⟨w.heap.size, 1, none⟩)) hHeld ?_)
     (refine Tk.tk 3 (.int .i64 m) hHeld ?_)
     (refine wpAnyH_ready (rs := [1]) (by kernel_rfl) (by simp) ?_; refine AllReadyH.cons rfl (fun K hK => ?_) AllReadyH.nil; go_simp)
     refine (HS.out _).mono ?_
     rintro e w1 ⟨rfl, hb1⟩
     (go_wp2_with fail; refine hK.out _ _ (⟨cnx hHeld.1 hb1, cnx hHeld.2.1 hb1, bnx hHeld.2.2 hb1⟩) (fun hHeld => ?_); clear hK K; try simp only [Act.put, Tk.z1, Tk.z2, Tk.z3, Tk.z4, Tk.z5, Tk.z6])
     (refine Tk.tk 4 (.bool true) hHeld ?_)
     (refine Tk.tk 5 (.bool true) hHeld ?_)
     (refine Tk.tk 6 (.pointer (some ⟨w.heap.size, 2, none⟩)) hHeld ?_)
     (refine Tk.tk 7 (.bool false) hHeld ?_)
     (refine Tk.tk 8 (.bool (!false)) hHeld ?_)
     (refine Tk.tk 9 (.bool (!false)) hHeld ?_)
     refine wpAnyH_done (by kernel_rfl) ?_ _
     obtain ⟨_, _, hh⟩ := hHeld
     try simp only [Bool.not_false, Bool.not_true]
     go_wp2
     go_ret
     exact ⟨by rw [hff.out]; rfl, fin _ hh⟩
    ·have hq : True := trivial
     go_wp2_with fail
     refine wp_reg (fun w' => w'.cell? ⟨w.heap.size, 1, none⟩ = some (.int .i64 m) ∧ w'.cell? ⟨w.heap.size, 2, none⟩ = some (.bool true) ∧ Below wr.heap.size wr w') (by kernel_rfl) ⟨c1, c2, (Below.refl _ _).drew⟩ (fun hHeld => ?_)
     (refine Tk.tk 0 (.int .i64 n) hHeld ?_)
     (refine Tk.tk 2 (.pointer (some ⟨w.heap.size, 1, none⟩)) hHeld ?_)
     (refine Tk.tk 3 (.int .i64 m) hHeld ?_)
     (refine wpAnyH_ready (rs := [1]) (by kernel_rfl) (by simp) ?_; refine AllReadyH.cons rfl (fun K hK => ?_) AllReadyH.nil; go_simp)
     refine (HS.out _).mono ?_
     rintro e w1 ⟨rfl, hb1⟩
     (go_wp2_with fail; refine hK.out _ _ (⟨cnx hHeld.1 hb1, cnx hHeld.2.1 hb1, bnx hHeld.2.2 hb1⟩) (fun hHeld => ?_); clear hK K; try simp only [Act.put, Tk.z1, Tk.z2, Tk.z3, Tk.z4, Tk.z5, Tk.z6])
     (refine Tk.tk 4 (.bool true) hHeld ?_)
     (refine Tk.tk 5 (.bool true) hHeld ?_)
     (refine Tk.tk 6 (.pointer (some ⟨w.heap.size, 2, none⟩)) hHeld ?_)
     (refine Tk.tk 7 (.bool true) hHeld ?_)
     (refine Tk.tk 8 (.bool (!true)) hHeld ?_)
     (refine Tk.tk 9 (.bool (!true)) hHeld ?_)
     refine wpAnyH_done (by kernel_rfl) ?_ _
     obtain ⟨_, _, hh⟩ := hHeld
     try simp only [Bool.not_false, Bool.not_true]
     go_wp2
     go_roundw
     case rel => exact ⟨k + 1, by go_num, by omega, ⟨by
      rw [hT.out]
      intro x hx
      exact .inr trivial⟩, bnx hb hh⟩
     case measure => simp [intOf]; omega
   ·have h3 : Aside0 (szI n ≤ m) := ⟨by rw [← hs.out]; omega⟩
    have h1' : Aside0 (decide (m < s) = false) := ⟨by simpa using h1⟩
    clear h1
    go_wp2_with fail
    replace h1' := h1'.out
    refine wp_reg (fun w' => w'.cell? ⟨w.heap.size, 1, none⟩ = some (.int .i64 m) ∧ w'.cell? ⟨w.heap.size, 2, none⟩ = some (.bool e) ∧ Below wr.heap.size wr w') (by kernel_rfl) ⟨c1, c2, (Below.refl _ _).drew⟩ (fun hHeld => ?_)
    (refine Tk.tk 0 (.int .i64 n) hHeld ?_)
    (refine Tk.tk 2 (.pointer (some ⟨w.heap.size, 1, none⟩)) hHeld ?_)
    (refine Tk.tk 3 (.int .i64 m) hHeld ?_)
    (refine wpAnyH_ready (rs := [1]) (by kernel_rfl) (by simp) ?_; refine AllReadyH.cons rfl (fun K hK => ?_) AllReadyH.nil; go_simp)
    refine (HS.out _).mono ?_
    rintro e w1 ⟨rfl, hb1⟩
    (go_wp2_with fail; refine hK.out _ _ (⟨cnx hHeld.1 hb1, cnx hHeld.2.1 hb1, bnx hHeld.2.2 hb1⟩) (fun hHeld => ?_); clear hK K; try simp only [Act.put, Tk.z1, Tk.z2, Tk.z3, Tk.z4, Tk.z5, Tk.z6])
    (refine Tk.tk 4 (.bool false) hHeld ?_)
    (refine Tk.tk 5 (.bool false) hHeld ?_)
    (refine Tk.tz 6 hHeld ?_)
    (refine Tk.tz 7 hHeld ?_)
    (refine Tk.tz 8 hHeld ?_)
    (refine Tk.tk 9 (.bool false) hHeld ?_)
    refine wpAnyH_done (by kernel_rfl) ?_ _
    obtain ⟨_, _, hh⟩ := hHeld
    try simp only [Bool.not_false, Bool.not_true]
    go_wp2
    go_roundw
    case rel => exact ⟨k + 1, by go_num, by omega, ⟨by
     rw [hT.out]
     intro x hx
     rcases List.mem_append.1 hx with hx | hx
     ·exact ha.out x hx
     ·rw [List.mem_singleton.1 hx]; exact .inl h3.out⟩, bnx hb hh⟩
    case measure => simp [intOf]; omega
  ·obtain rfl : k = l.length := by omega
   have hA := ha.out
   rw [List.take_length] at hA
   have hff := Aside0.mk (HT.out hA)
   clear ha hA
   go_wp2
   go_ret
   exact ⟨by rw [hff.out]; have h9 : decide ((R : Int) = 0) = decide (R = 0) := decide_eq_decide.2 (by omega); rw [← h9]; rfl, bnx hb0 hb⟩
end Bk

namespace Bk
attribute [local go_sem] max2_max min2_min max_two min_two max_three min_three
open Q15
set_option maxRecDepth 100000 in
set_option maxHeartbeats 1000000 in
theorem beside_calls (d : Nat) (m : Int) (e : Bool) (v : Int) (w : World) (hm : 0 ≤ m ∧ m ≤ 31) (h0 : -1023 ≤ v) (h1 : v ≤ 1023) :
  Calls Tryz.prog 231 #[frm d m e, .int .i64 v] w fun en w' => en = .returned (.int .i64 (besF m e v)) ∧ Below w.heap.size w w' := by
 have hu := Tryz.underlying194
 have HS := Aside0.mk (fun W => size_calls v W (by omega) (by omega))
 have hs9 := szI_bd (v := v) (m := 1023) (by omega)
 obtain ⟨W0, hW0⟩ : ∃ W0, W0 = w.alloc (.cells #[.int .i64 d, .int .i64 m, .bool e] 194) := ⟨_, rfl⟩
 have hb0 : Below w.heap.size w W0 := by rw [hW0]; exact (Below.refl _ _).alloc (Nat.le_refl _) _
 have c1 : W0.cell? ⟨w.heap.size, 1, none⟩ = some (.int .i64 m) := by rw [hW0]; simp [go_sem]
 have c2 : W0.cell? ⟨w.heap.size, 2, none⟩ = some (.bool e) := by rw [hW0]; simp [go_sem]
 replace hW0 := Aside0.mk hW0
 have HB : Aside0 (besF m e v = if v = 0 then 0 else if e = true ∧ m ≤ szI v then 1 + gamI (szI v - m + 1) else 1) := ⟨rfl⟩
 obtain ⟨s, hs⟩ : ∃ s, s = szI v := ⟨_, rfl⟩
 rw [← hs] at HS HB hs9
 have HG := Aside0.mk (fun W => gamma_calls (s - m + 1) W (by omega) (by omega))
 have hg9 : 1 ≤ gamI (s - m + 1) ∧ gamI (s - m + 1) ≤ 100 := by
  have h : (s - m + 1).toNat.log2 ≤ 10 := by
   by_cases hz : (s - m + 1).toNat = 0
   ·rw [hz]; decide
   ·have := (Nat.log2_lt hz).2 (show (s - m + 1).toNat < 2 ^ 11 by omega)
    omega
  unfold gamI
  omega
 obtain ⟨g, hg⟩ : ∃ g, g = gamI (s - m + 1) := ⟨_, rfl⟩
 rw [← hg] at HG HB hg9
 clear hg hs
 unfold frm
 by_cases hz : v = 0
 ·subst hz
  have hr : Aside0 (besF m e 0 = 0) := ⟨by rw [HB.out]; rfl⟩
  go_enter Tryz.func231, Tryz.ntmps231
  go_wp2
  go_ret
  rw [← hW0.out]
  exact ⟨by rw [hr.out]; rfl, hb0⟩
 ·have hz' : (v == 0) = false := by simpa using hz
  rcases e with _ | _
  ·have hr : Aside0 (besF m false v = 1) := ⟨by rw [HB.out, if_neg hz]; simp⟩
   clear hz
   go_enter Tryz.func231, Tryz.ntmps231
   go_wp2_with fail
   rw [← hW0.out]
   refine wp_reg (fun w' => w'.cell? ⟨w.heap.size, 1, none⟩ = some (.int .i64 m) ∧ w'.cell? ⟨w.heap.size, 2, none⟩ = some (.bool false) ∧ Below W0.heap.size W0 w') (by kernel_rfl) ⟨c1, c2, (Below.refl _ _).drew⟩ (fun hHeld => ?_)
   (refine Tk.tk 0 (.pointer (some ⟨w.heap.size, 2, none⟩)) hHeld ?_)
   (refine Tk.tk 1 (.bool false) hHeld ?_)
   (refine Tk.tk 2 (.bool false) hHeld ?_)
   (refine Tk.tz 3 hHeld ?_)
   (refine Tk.tz 4 hHeld ?_)
   (refine Tk.tz 5 hHeld ?_)
   (refine Tk.tz 6 hHeld ?_)
   (refine Tk.tz 7 hHeld ?_)
   (refine Tk.tk 8 (.bool false) hHeld ?_)
   (refine Tk.tk 9 (.bool false) hHeld ?_)
   refine wpAnyH_done (by kernel_rfl) ?_ _
   obtain ⟨c1, c2, hh⟩ := hHeld
   go_wp2
   go_ret
   exact ⟨by rw [hr.out]; rfl, bnx hb0 hh⟩
  ·by_cases hm1 : m ≤ s
   ·have hr : Aside0 (besF m true v = 1 + g) := ⟨by rw [HB.out, if_neg hz, if_pos ⟨rfl, hm1⟩]⟩
    have hm2 : Aside0 (decide (m ≤ s) = true) := ⟨decide_eq_true hm1⟩
    clear hz
    go_enter Tryz.func231, Tryz.ntmps231
    go_wp2_with fail
    rw [← hW0.out]
    refine wp_reg (fun w' => w'.cell? ⟨w.heap.size, 1, none⟩ = some (.int .i64 m) ∧ w'.cell? ⟨w.heap.size, 2, none⟩ = some (.bool true) ∧ Below W0.heap.size W0 w') (by kernel_rfl) ⟨c1, c2, (Below.refl _ _).drew⟩ (fun hHeld => ?_)
    (refine Tk.tk 0 (.pointer (some ⟨w.heap.size, 2, none⟩)) hHeld ?_)
    (refine Tk.tk 1 (.bool true) hHeld ?_)
    (refine Tk.tk 2 (.bool true) hHeld ?_)
    (refine Tk.tk 3 (.int .i64 v) hHeld ?_)
    (refine Tk.tk 5 (.pointer (some ⟨w.heap.size, 1, none⟩)) hHeld ?_)
    (refine Tk.tk 6 (.int .i64 m) hHeld ?_)
    (refine wpAnyH_ready (rs := [4]) (by kernel_rfl) (by simp) ?_; refine AllReadyH.cons rfl (fun K hK => ?_) AllReadyH.nil; go_simp)
    refine (HS.out _).mono ?_
    rintro e w1 ⟨rfl, hb1⟩
    (go_wp2_with fail; refine hK.out _ _ (⟨cnx hHeld.1 hb1, cnx hHeld.2.1 hb1, bnx hHeld.2.2 hb1⟩) (fun hHeld => ?_); clear hK K; try simp only [Act.put, Tk.z1, Tk.z2, Tk.z3, Tk.z4, Tk.z5, Tk.z6])
    (refine Tk.tk 7 (.bool true) hHeld ?_)
    (refine Tk.tk 8 (.bool true) hHeld ?_)
    (refine Tk.tk 9 (.bool true) hHeld ?_)
    refine wpAnyH_done (by kernel_rfl) ?_ _
    obtain ⟨c1, c2, hh⟩ := hHeld
    have g1 : IntKind.i64.wrap (s - m) = s - m := IntWalk.i64_in _ (by omega)
    have g2 : IntKind.i64.wrap (s - m + 1) = s - m + 1 := IntWalk.i64_in _ (by omega)
    have g3 : IntKind.i64.wrap (1 + g) = 1 + g := IntWalk.i64_in _ (by omega)
    go_wp2_with fail
    refine wp_reg (fun w' => w'.cell? ⟨w.heap.size, 1, none⟩ = some (.int .i64 m) ∧ Below W0.heap.size W0 w') (by kernel_rfl) ⟨c1, hh.drew⟩ (fun hHeld => ?_)
    (refine Tk.tk 0 (.int .i64 v) hHeld ?_)
    (refine Tk.tk 2 (.pointer (some ⟨w.heap.size, 1, none⟩)) hHeld ?_)
    (refine Tk.tk 3 (.int .i64 m) hHeld ?_)
    (refine wpAnyH_ready (rs := [1]) (by kernel_rfl) (by simp) ?_; refine AllReadyH.cons rfl (fun K hK => ?_) AllReadyH.nil; go_simp)
    refine (HS.out _).mono ?_
    rintro e w1 ⟨rfl, hb1⟩
    (go_wp2_with fail; refine hK.out _ _ (⟨cnx hHeld.1 hb1, bnx hHeld.2 hb1⟩) (fun hHeld => ?_); clear hK K; try simp only [Act.put, Tk.z1, Tk.z2, Tk.z3, Tk.z4, Tk.z5, Tk.z6])
    (refine Tk.tk 4 (.int .i64 (s - m)) hHeld ?_)
    (refine Tk.tk 5 (.int .i64 (s - m + 1)) hHeld ?_)
    (refine wpAnyH_ready (rs := [6]) (by kernel_rfl) (by simp) ?_; refine AllReadyH.cons rfl (fun K hK => ?_) AllReadyH.nil; go_simp)
    refine (HG.out _).mono ?_
    rintro e w1 ⟨rfl, hb1⟩
    (go_wp2_with fail; refine hK.out _ _ (⟨cnx hHeld.1 hb1, bnx hHeld.2 hb1⟩) (fun hHeld => ?_); clear hK K; try simp only [Act.put, Tk.z1, Tk.z2, Tk.z3, Tk.z4, Tk.z5, Tk.z6])
    (refine Tk.tk 7 (.int .i64 (1 + g)) hHeld ?_)
    (refine Tk.tk 8 (.int .i64 (1 + g)) hHeld ?_)
    refine wpAnyH_done (by kernel_rfl) ?_ _
    obtain ⟨c1, hh⟩ := hHeld
    go_wp2
    go_ret
    exact ⟨by rw [hr.out]; rfl, bnx hb0 hh⟩
   ·have hr : Aside0 (besF m true v = 1) := ⟨by rw [HB.out, if_neg hz, if_neg (fun h => hm1 h.2)]⟩
    have hm2 : Aside0 (decide (m ≤ s) = false) := ⟨decide_eq_false hm1⟩
    clear hz hm1
    go_enter Tryz.func231, Tryz.ntmps231
    go_wp2_with fail
    rw [← hW0.out]
    replace hm2 := hm2.out
    refine wp_reg (fun w' => w'.cell? ⟨w.heap.size, 1, none⟩ = some (.int .i64 m) ∧ w'.cell? ⟨w.heap.size, 2, none⟩ = some (.bool true) ∧ Below W0.heap.size W0 w') (by kernel_rfl) ⟨c1, c2, (Below.refl _ _).drew⟩ (fun hHeld => ?_)
    (refine Tk.tk 0 (.pointer (some ⟨w.heap.size, 2, none⟩)) hHeld ?_)
    (refine Tk.tk 1 (.bool true) hHeld ?_)
    (refine Tk.tk 2 (.bool true) hHeld ?_)
    (refine Tk.tk 3 (.int .i64 v) hHeld ?_)
    (refine Tk.tk 5 (.pointer (some ⟨w.heap.size, 1, none⟩)) hHeld ?_)
    (refine Tk.tk 6 (.int .i64 m) hHeld ?_)
    (refine wpAnyH_ready (rs := [4]) (by kernel_rfl) (by simp) ?_; refine AllReadyH.cons rfl (fun K hK => ?_) AllReadyH.nil; go_simp)
    refine (HS.out _).mono ?_
    rintro e w1 ⟨rfl, hb1⟩
    (go_wp2_with fail; refine hK.out _ _ (⟨cnx hHeld.1 hb1, cnx hHeld.2.1 hb1, bnx hHeld.2.2 hb1⟩) (fun hHeld => ?_); clear hK K; try simp only [Act.put, Tk.z1, Tk.z2, Tk.z3, Tk.z4, Tk.z5, Tk.z6])
    (refine Tk.tk 7 (.bool false) hHeld ?_)
    (refine Tk.tk 8 (.bool false) hHeld ?_)
    (refine Tk.tk 9 (.bool false) hHeld ?_)
    refine wpAnyH_done (by kernel_rfl) ?_ _
    obtain ⟨c1, c2, hh⟩ := hHeld
    go_wp2
    go_ret
    exact ⟨by rw [hr.out]; rfl, bnx hb0 hh⟩
theorem digs_calls (d : Nat) (m : Int) (e : Bool) (w : World) :
  Calls Tryz.prog 222 #[frm d m e] w fun en w' => en = .returned (.func (.func 233) #[] #[.pointer (some ⟨w.heap.size, 0, none⟩)]) ∧ w' = w.alloc (.cells #[.int .i64 d, .int .i64 m, .bool e] 194) := by
 have hu := Tryz.underlying194
 unfold frm
 go_enter Tryz.func222, Tryz.ntmps222
 go_wp2
 go_ret
 exact ⟨rfl, rfl⟩
theorem symD_bd (m : Int) (hm : 0 ≤ m) : ∀ l : List Int, (∀ x ∈ l, 0 ≤ x ∧ x ≤ m) → ∀ s : Int, 0 ≤ s → 0 ≤ l.foldl (fun s d => s * (m + 1) + d) s ∧ l.foldl (fun s d => s * (m + 1) + d) s + 1 ≤ (s + 1) * (m + 1) ^ l.length
 | [], _, s, hs => by simp; omega
 | x :: l, h, s, hs => by
  have hx := h x (by simp)
  have hs2 : 0 ≤ s * (m + 1) := Int.mul_nonneg hs (by omega)
  obtain ⟨h1, h2⟩ := symD_bd m hm l (fun y hy => h y (by simp [hy])) (s * (m + 1) + x) (by omega)
  refine ⟨h1, Int.le_trans h2 ?_⟩
  have hp : (0 : Int) ≤ (m + 1) ^ l.length := Int.pow_nonneg (by omega)
  have h3 : s * (m + 1) + x + 1 ≤ (s + 1) * (m + 1) := by rw [Int.add_mul]; omega
  have h4 := Int.mul_le_mul_of_nonneg_right h3 hp
  rw [List.length_cons, Int.pow_succ, Int.mul_comm ((m + 1) ^ l.length), ← Int.mul_assoc]
  exact h4
theorem symD_le (m : Int) (hm : 0 ≤ m ∧ m ≤ 31) (l : List Int) (hl : l.length ≤ 4) (h : ∀ x ∈ l, 0 ≤ x ∧ x ≤ m) : 0 ≤ symD m l ∧ symD m l ≤ 1048576 := by
 obtain ⟨h1, h2⟩ := symD_bd m hm.1 l h 0 (by omega)
 refine ⟨h1, ?_⟩
 have h3 : (m + 1) ^ l.length ≤ (32 : Int) ^ 4 := by
  obtain ⟨q, hq⟩ := Int.eq_ofNat_of_zero_le (show 0 ≤ m + 1 by omega)
  rw [hq]
  have h5 : q ^ l.length ≤ 32 ^ 4 := Nat.le_trans (Nat.pow_le_pow_left (show q ≤ 32 by omega) _) (Nat.pow_le_pow_right (by omega) hl)
  have h6 : ((q ^ l.length : Nat) : Int) ≤ ((32 ^ 4 : Nat) : Int) := Int.ofNat_le.2 h5
  simpa using h6
 have h4 : (32 : Int) ^ 4 = 1048576 := by decide
 have h7 : symD m l = l.foldl (fun s d => s * (m + 1) + d) 0 := rfl
 omega
set_option maxRecDepth 100000 in
set_option maxHeartbeats 1000000 in
theorem symbol_calls (d : Nat) (m : Int) (e : Bool) (A : Option Addr) (cap : Nat) (l : List Int) (w : World) (hm : 0 ≤ m ∧ m ≤ 31) (hr : (Kd.int .i64).C w A l.length l) (hl : l.length ≤ 4) (hx : ∀ x ∈ l, 0 ≤ x ∧ x ≤ m) :
  Calls Tryz.prog 223 #[frm d m e, .slice A l.length cap] w fun en w' => en = .returned (.int .i64 (symD m l)) ∧ Below w.heap.size w w' := by
 have hu := Tryz.underlying194
 have HR := Aside0.mk hr
 have hlI : (l.length : Int) ≤ 4 := by omega
 have HX : Aside0 (∀ k, k < l.length → 0 ≤ rd l k ∧ rd l k ≤ m) := ⟨fun k hk => hx _ (rd_mem l k hk)⟩
 have HB : Aside0 (∀ k, 0 ≤ symD m (l.take k) ∧ symD m (l.take k) ≤ 1048576) := ⟨fun k => symD_le m hm _ (by rw [List.length_take]; omega) (fun x h => hx x (List.mem_of_mem_take h))⟩
 have HS : Aside0 (∀ k, k < l.length → symD m (l.take (k + 1)) = symD m (l.take k) * (m + 1) + rd l k) := ⟨fun k hk => by rw [take_rd l k hk]; unfold symD; rw [List.foldl_append]; rfl⟩
 obtain ⟨W0, hW0⟩ : ∃ W0, W0 = w.alloc (.cells #[.int .i64 d, .int .i64 m, .bool e] 194) := ⟨_, rfl⟩
 have hb0 : Below w.heap.size w W0 := by rw [hW0]; exact (Below.refl _ _).alloc (Nat.le_refl _) _
 have c1 : W0.cell? ⟨w.heap.size, 1, none⟩ = some (.int .i64 m) := by rw [hW0]; simp [go_sem]
 replace hW0 := Aside0.mk hW0
 clear hr hl hx
 unfold frm
 go_enter Tryz.func223, Tryz.ntmps223
 go_wp2
 rw [← hW0.out]
 go_loopw [5, 10] (fun s i wr => ∃ (k : Nat) (z : Int), s = .int .i64 z ∧ i = .int .i64 k ∧ k ≤ l.length ∧ Aside0 (z = symD m (l.take k)) ∧ Below W0.heap.size W0 wr) (fun _ i _ => l.length - (intOf i).toNat)
 case atStart => exact ⟨0, 0, rfl, rfl, by omega, ⟨rfl⟩, Below.refl _ _⟩
 case round =>
  obtain ⟨k, z, rfl, rfl, hk, hz, hb⟩ := hrel
  have c1 := cnx c1 hb
  by_cases hlt : k < l.length
  ·obtain ⟨ad, rfl, hcell⟩ := el_at HR.out (bnx hb0 hb) hlt
   have hkI : (k : Int) < (l.length : Int) := by omega
   have hbd := HX.out k hlt
   have h1 := HB.out k
   have h2 := HB.out (k + 1)
   have h3 := HS.out k hlt
   rw [← hz.out] at h1 h3
   obtain ⟨x, hxe⟩ : ∃ x, x = rd l k := ⟨_, rfl⟩
   rw [← hxe] at hcell hbd h3
   obtain ⟨q, hq⟩ : ∃ q, z * (m + 1) = q := ⟨_, rfl⟩
   rw [hq] at h3
   rw [h3] at h2
   have hq9 : 0 ≤ q ∧ q ≤ 1048576 := ⟨by rw [← hq]; exact Int.mul_nonneg h1.1 (by omega), by omega⟩
   replace h3 := Aside0.mk h3
   clear hxe
   go_wp2
   go_roundw
   case rel => exact ⟨k + 1, q + x, by go_num, by go_num, by omega, ⟨by rw [h3.out]⟩, hb⟩
   case measure => simp [intOf]; omega
  ·obtain rfl : k = l.length := by omega
   have hz2 := hz.out
   rw [List.take_length] at hz2
   have hr := Aside0.mk hz2
   clear hz hz2
   go_wp2
   go_ret
   exact ⟨by rw [← hr.out]; rfl, bnx hb0 hb⟩
end Bk

namespace Bk
attribute [local go_sem] max2_int min2_int max_two min_two max_three min_three
open Q15
open Runs Go.Shelf
open Q16 (cell_heap frozen_heap R_turn)
attribute [local go_sem] Oper.semAt_some
def Keep3 (S B1 B2 : Nat) (A B : World) : Prop := Below S A B ∧ B.heap[B1]? = A.heap[B1]? ∧ B.heap[B2]? = A.heap[B2]?
theorem Keep3.trans {S B1 B2 : Nat} {A B C : World} (h : Keep3 S B1 B2 A B) (k : Keep3 S B1 B2 B C) : Keep3 S B1 B2 A C := ⟨h.1.trans k.1, k.2.1.trans h.2.1, k.2.2.trans h.2.2⟩
theorem Keep3.putObj {S B1 B2 N : Nat} (h0 : S ≤ N) (h1 : B1 < N) (h2 : B2 < N) (W : World) (l : Nat) (o o' : Obj) (hl : N ≤ l) (ho : W.heap[l]? = some o) (hc : o.isCells = false) (hw : o.isWalk = false) : Keep3 S B1 B2 W (W.putObj l o') :=
 ⟨(Below.refl S W).grown (grownBy_putObj' W l o') (by have := (Array.getElem?_eq_some_iff.1 ho).1; omega) (fun k e => by cases e; omega), World.putObj_heap_other (by omega), World.putObj_heap_other (by omega)⟩
def gSl : Option Addr → Nat → Nat → Value
 | some a, o, d => .slice (some (a.add o)) d d
 | none, _, d => .slice none d d
set_option maxRecDepth 100000 in
set_option maxHeartbeats 2000000 in
theorem groups1_runs (F : Fence) (n : Nat) (hF : F.fn 221) (hro : F.round = none) (hn : 1 ≤ n) (B1 B2 : Nat) (A : Option Addr) (cap len d : Nat) (hd : 1 ≤ d ∧ d ≤ 4) (hl : len ≤ 1000000) (hcap : len ≤ cap) (hA : 0 < len → ∃ ad, A = some ad) (wS w : World) (hS : Below wS.heap.size wS w)
  (c1 : w.cell? ⟨B1, 0, none⟩ = some (.int .i64 d)) (c2 : w.cell? ⟨B2, 0, none⟩ = some (.slice A len cap)) :
  SeqRuns0 F n Tryz.prog 221 #[.pointer (some ⟨B1, 0, none⟩), .pointer (some ⟨B2, 0, none⟩)] (fun k => #[gSl A (k * d) d]) (Keep3 wS.heap.size B1 B2) (len / d) w := fun L J W hW hY h0 => by
 have d1 := cnx c1 hW
 have d2 := cnx c2 hW
 have hS' := bnx hS hW
 have HY := Aside0.mk hY
 have HA := Aside0.mk hA
 have hlI : (len : Int) ≤ 1000000 := by omega
 have hcI : (len : Int) ≤ (cap : Int) := by omega
 have hdI : 1 ≤ (d : Int) ∧ (d : Int) ≤ 4 := by omega
 have hDV : Aside0 (∀ k p : Nat, p = k * d → (p + d ≤ len → k < len / d) ∧ (p ≤ len → ¬ p + d ≤ len → k = len / d)) := ⟨fun k p hp => by
  subst hp
  refine ⟨fun h => ?_, fun h1 h2 => ?_⟩
  ·have : k + 1 ≤ len / d := (Nat.le_div_iff_mul_le (by omega)).2 (by rw [Nat.add_mul]; omega)
   omega
  ·refine Nat.le_antisymm ((Nat.le_div_iff_mul_le (by omega)).2 h1) ?_
   have h3 : len / d < k + 1 := (Nat.div_lt_iff_lt_mul (by omega)).2 (by rw [Nat.add_mul]; omega)
   omega⟩
 clear hY c1 c2 hl hA
 refine callsIn_of_wp Tryz.func221 rfl hF ?_ hro
 simp only [Tryz.ntmps221, List.size_toArray, List.length_cons, List.length_nil, Nat.reduceAdd, Nat.reduceSub, Array.replicate_succ, Array.replicate_zero, List.push_toArray, List.append_toArray, List.nil_append, List.cons_append]
 gi_wp2
 gi_loopw [4] (fun i wr => ∃ k p : Nat, i = .int .i64 p ∧ p ≤ len ∧ Aside0 (p = k * d) ∧ wr.cell? ⟨B1, 0, none⟩ = some (.int .i64 d) ∧ wr.cell? ⟨B2, 0, none⟩ = some (.slice A len cap) ∧ Aside0 (Below wS.heap.size wS wr) ∧ Aside0 (J k wr)) (fun i _ => len - (intOf i).toNat)
 case atStart => exact ⟨0, 0, rfl, by omega, ⟨by omega⟩, d1, d2, ⟨hS'⟩, ⟨h0⟩⟩
 case round =>
  obtain ⟨k, p, rfl, hp, hpk, e1, e2, hb, hJ⟩ := hrel
  clear d1 d2 hS'
  have hpI : (p : Int) ≤ 1000000 := by omega
  by_cases hlt : p + d ≤ len
  ·have hltI : (p : Int) + (d : Int) ≤ (len : Int) := by omega
   obtain ⟨ad, rfl⟩ := HA.out (by omega)
   obtain ⟨fn, tmps, assign, body, hy, hR⟩ := HY.out k wr ((hDV.out k p hpk.out).1 hlt) hJ.out
   rw [← hpk.out] at hy
   have hT := Aside0.mk hlt
   have hR2 := Aside0.mk hR
   simp only [gSl] at hy
   clear hR hlt hp
   gi_wp2
   refine hR2.out.mono ?_
   rintro e W3 ⟨rfl, hJ3, hk3⟩
   have b1 := (cell_heap hk3.2.1).trans e1
   have b2 := (cell_heap hk3.2.2).trans e2
   have hb3 := Aside0.mk (hb.out.trans hk3.1)
   replace hJ3 := Aside0.mk hJ3
   have hq9 : Aside0 (p + d = (k + 1) * d) := ⟨by rw [hpk.out, Nat.add_mul]; omega⟩
   clear hR2 e1 e2 hk3 hy
   gi_wp2
   go_roundw
   case rel => exact ⟨k + 1, p + d, by go_num, hT.out, hq9, b1, b2, hb3, hJ3⟩
   case measure => have := hT.out; simp [intOf]; omega
  ·have hnl : ¬ (p : Int) + (d : Int) ≤ (len : Int) := by omega
   have hK := Aside0.mk ((hDV.out k p hpk.out).2 hp hlt)
   clear hlt
   gi_wp2
   go_end0
   refine ⟨⟨_, rfl⟩, ?_⟩
   rw [← hK.out]
   exact hJ.out
set_option maxHeartbeats 400000 in
theorem groups_calls (d : Nat) (m : Int) (e : Bool) (A : Option Addr) (n c : Nat) (w : World) :
  Calls Tryz.prog 194 #[frm d m e, .slice A n c] w fun en w' => en = .returned (.func (.func 221) #[] #[.pointer (some ⟨w.heap.size, 0, none⟩), .pointer (some ⟨w.heap.size + 1, 0, none⟩)]) ∧ w' = (w.alloc (.cells #[.int .i64 d, .int .i64 m, .bool e] 194)).alloc (.cells #[.slice A n c] 22) := by
 have hu := Tryz.underlying194
 unfold frm
 go_enter Tryz.func194, Tryz.ntmps194
 go_wp2
 go_ret
 exact ⟨rfl, rfl⟩
end Bk

namespace Sec
attribute [local go_sem] max2_int min2_int max_two min_two max_three min_three
open Q15
set_option maxHeartbeats 1000000 in
theorem mul64_calls (n : Nat) (hn : n ≤ 1000000) (w : World) :
  Calls Tryz.prog 217 #[.int .u64 1, .int .u64 n] w fun e w' => e = .returned (.tuple #[.int .u64 0, .int .u64 n]) ∧ w' = w := by
 have m1 : bits .and .u64 (1 : Int) 4294967295 = 1 := by decide
 have m2 : bits .and .u64 (n : Int) 4294967295 = (n : Int) := by
  rw [Go.Proofs.Mul64.maskN n (by omega), Nat.mod_eq_of_lt (by omega)]
 have m0 : bits .and .u64 (0 : Int) 4294967295 = 0 := by decide
 have d2 : (n : Int) / 4294967296 = 0 := Int.ediv_eq_zero_of_lt (by omega) (by omega)
 have w1 : IntKind.u64.wrap (n : Int) = (n : Int) := by rw [IntKind.wrap_u64]; omega
 clear hn
 go_enter Tryz.func217, Tryz.ntmps217
 go_wp2
 go_ret2
 exact ⟨rfl, rfl⟩
set_option maxHeartbeats 1000000 in
theorem mul_calls (n : Nat) (hn : n ≤ 1000000) (w : World) :
  Calls Tryz.prog 188 #[.int .u64 1, .int .u64 n] w fun e w' => e = .returned (.tuple #[.int .u64 0, .int .u64 n]) ∧ w' = w := by
 have HM := Aside0.mk (fun W => mul64_calls n hn W)
 clear hn
 go_enter Tryz.func188, Tryz.ntmps188
 go_wp2_with (first | (go_at_call 217; refine (HM.out _).mono ?_; rintro e w' ⟨rfl, rfl⟩))
 go_ret2
 exact ⟨rfl, rfl⟩
end Sec

namespace Sec
attribute [local go_sem] max2_int min2_int max_two min_two max_three min_three
open Q15
open Bk (wp_reg)
open Q21 (cell_blk frozen_blk)
def preC (k : Int) (n c : Nat) : List Value := List.replicate n (.int .i64 k) ++ List.replicate (c - n) (.int .i64 0)
theorem preC_len {k : Int} {n c : Nat} (h : n ≤ c) : (preC k n c).length = c := by simp [preC]; omega
theorem preC_at {k : Int} {n c j : Nat} (h : n ≤ c) (hj : j < n) : (preC k n c)[j]? = some (.int .i64 k) := by
  unfold preC
  rw [List.getElem?_append_left (by simpa using hj), List.getElem?_replicate, if_pos hj]
theorem preC_copy (k : Int) (n m c : Nat) : (preC k n c).take n ++ List.replicate m (.int .i64 k) ++ (preC k n c).drop (n + m) = preC k (n + m) c := by
  unfold preC
  rw [List.take_append, List.drop_append]
  simp [List.take_replicate, List.drop_replicate, ← List.replicate_append_replicate]
  omega
theorem belowSet {g B : Nat} (hB : B ≤ g) : ∀ (vs : List Value) (o : Nat) (w : World), Below B w (w.setCells g o vs)
  | [], o, w => Below.refl _ _
  | v :: r, o, w => by
    rw [World.setCells]
    exact ((Below.refl B w).setCell (p := ⟨g, o, none⟩) hB v).trans (belowSet hB r (o + 1) _)
theorem copy_at (k : Int) (g n m c : Nat) (a : Addr) (sl sc : Nat) (dl dc : Nat) (W : World) (h : W.heap[g]? = some (.cells (preC k n c).toArray 3 (0, 0))) (hn : n ≤ c) (hm : m = Nat.min sl dl) (hd : n + m ≤ c) (hsrc : ∀ j, j < m → W.cell? (a.add j) = some (.int .i64 k)) :
    ∃ W', (∀ ty, (Builtin.copy_ #[22, 22] ty #[.slice (some ⟨g, n, none⟩) dl dc, .slice (some a) sl sc]).run Tryz.prog W = .ok (.int .i64 m) W') ∧ W'.heap[g]? = some (.cells (preC k (n + m) c).toArray 3 (0, 0)) ∧ ∀ B, B ≤ g → B ≤ W.heap.size → Below B W W' := by
  have hl : (List.replicate m (Value.int .i64 k)).length = m := by simp
  obtain ⟨cur', h3, h4, h5⟩ := setCells_row (List.replicate m (Value.int .i64 k)) n W _ h (by rw [hl]; simp [preC_len hn]; omega)
  refine ⟨W.setCells g n (List.replicate m (Value.int .i64 k)), fun ty => ?_, ?_, fun B hB hW => ?_⟩
  · have hr := run_copy_cells (P := Tryz.prog) W 22 22 ty 3 g n dl dc a sl sc (List.replicate m (Value.int .i64 k)) Tryz.underlying22 (by kernel_rfl) (by rw [hl]; exact hm)
      (fun j v hv => by
        have hj : j < m := by
          rcases Nat.lt_or_ge j m with h | h
          · exact h
          · rw [List.getElem?_eq_none (by simpa using h)] at hv
            cases hv
        rw [List.getElem?_replicate, if_pos hj] at hv
        cases hv
        exact hsrc j hj)
      (fun j hj => by rw [cell_blk h]; rw [hl] at hj; simp [preC_len hn]; omega) (fun j _ => frozen_blk h _) (by intro u hu; rw [List.eq_of_mem_replicate hu]; rfl)
    rw [hl] at hr
    exact hr
  · rw [h3]
    congr 2
    apply Array.toList_inj.1
    rw [h5, hl]
    exact preC_copy k n m c
  · exact belowSet hB _ _ _
theorem make_ints (c : Nat) (hc : c ≤ 1000000) : ∀ W : World, (Instr.makeSlice 22 (.int .i64 (c : Int)) (.int .i64 (c : Int))).run Tryz.prog W = .ok (.slice (some ⟨W.heap.size, 0, none⟩) c c) (W.alloc (.cells (List.replicate c (Value.int .i64 0)).toArray 3)) := fun W => by
  rw [Pre.make_run 22 3 (.int .i64 0) 1 8 Tryz.underlying22 info_int c (by decide) (by omega) W]
  congr 3
  show madeCells #[.int .i64 0] (c * 1) = _
  apply Array.ext
  · simp [size_madeCells]
  · intro i h1 h2
    simp [madeCells, Nat.mod_one]
set_option maxRecDepth 100000 in
set_option maxHeartbeats 1000000 in
theorem repeat_calls (A : Option Addr) (cap : Nat) (k : Int) (c : Nat) (w : World) (hr : (Kd.int .i64).C w A 1 [k]) (h1 : 1 ≤ c) (h2 : c ≤ 1000000) :
    Calls Tryz.prog 143 #[.slice A 1 cap, .int .i64 c] w fun e w' => ∃ g, e = .returned (.slice (some ⟨g, 0, none⟩) c c) ∧ w'.heap[g]? = some (.cells (preC k c c).toArray 3 (0, 0)) ∧ w.heap.size ≤ g ∧ Below w.heap.size w w' := by
  have hcI : 1 ≤ (c : Int) ∧ (c : Int) ≤ 1000000 := by omega
  have HM := Aside0.mk (fun W => mul_calls c h2 W)
  have HK := make_ints c h2
  have hcu : IntKind.u64.wrap (c : Int) = (c : Int) := by rw [IntKind.wrap_u64]; omega
  obtain ⟨ad, rfl, hcell⟩ := el_at (l := [k]) hr (Below.refl _ _) (k := 0) (by simp)
  have hc0 : rd [k] (0 : Nat) = k := rfl
  rw [hc0] at hcell
  obtain ⟨W1, hW1⟩ : ∃ W1, W1 = w.alloc (.cells (List.replicate c (Value.int .i64 0)).toArray 3) := ⟨_, rfl⟩
  have hKw := HK w
  rw [← hW1] at hKw
  have hb1 : Below w.heap.size w W1 := by rw [hW1]; exact (Below.refl _ _).alloc (Nat.le_refl _) _
  have hg1 : W1.heap[w.heap.size]? = some (.cells (preC k 0 c).toArray 3 (0, 0)) := by
    rw [hW1, heap_alloc_new]
    simp [preC]
  have hcell1 := cnx hcell hb1
  have hsrc0 : ∀ j, j < 1 → W1.cell? (ad.add j) = some (.int .i64 k) := fun j hj => by
    obtain rfl : j = 0 := by omega
    exact hcell1
  obtain ⟨W2, hcp, hg2, hb2⟩ := copy_at k w.heap.size 0 1 c ad 1 cap c c W1 hg1 (by omega) (show 1 = Nat.min 1 c from (Nat.min_eq_left h1).symm) (by omega) hsrc0
  have hbz := hb1.trans (hb2 w.heap.size (Nat.le_refl _) hb1.size)
  have hstep : Aside0 (∀ n, 1 ≤ n → n < c → ∀ wr : World, wr.heap[w.heap.size]? = some (.cells (preC k n c).toArray 3 (0, 0)) → w.heap.size ≤ wr.heap.size → ∃ (m : Nat) (W' : World), 1 ≤ m ∧ n + m ≤ c ∧ (∀ ty, (Builtin.copy_ #[22, 22] ty #[.slice (some ⟨w.heap.size, n, none⟩) (c - n) (c - n), .slice (some ⟨w.heap.size, 0, none⟩) n c]).run Tryz.prog wr = .ok (.int .i64 m) W') ∧ W'.heap[w.heap.size]? = some (.cells (preC k (n + m) c).toArray 3 (0, 0)) ∧ Below w.heap.size wr W') := ⟨fun n q1 q2 wr hg hs => by
    obtain ⟨W', e1, e2, e3⟩ := copy_at k w.heap.size n (Nat.min n (c - n)) c ⟨w.heap.size, 0, none⟩ n c (c - n) (c - n) wr hg (by omega) rfl (by have h9 : Nat.min n (c - n) ≤ c - n := Nat.min_le_right n (c - n); omega) (fun j hj => by
      have hj2 : j < n := Nat.lt_of_lt_of_le hj (Nat.min_le_left _ _)
      rw [show (⟨w.heap.size, 0, none⟩ : Addr).add j = ⟨w.heap.size, j, none⟩ by
        unfold Addr.add
        by_cases h0 : j = 0
        · simp [h0]
        · simp [h0], cell_blk hg]
      have := preC_at (k := k) (n := n) (c := c) (by omega) hj2
      simpa using this)
    exact ⟨Nat.min n (c - n), W', by rcases Nat.le_total n (c - n) with h | h
                                     · rw [show Nat.min n (c - n) = n from Nat.min_eq_left h]; exact q1
                                     · rw [show Nat.min n (c - n) = c - n from Nat.min_eq_right h]; omega, by have h9 : Nat.min n (c - n) ≤ c - n := Nat.min_le_right n (c - n); omega, e1, e2, e3 _ (Nat.le_refl _) hs⟩⟩
  replace hg2 := Aside0.mk hg2
  replace hbz := Aside0.mk hbz
  have hcx : Aside0 (1 ≤ c) := ⟨h1⟩
  clear HK hW1 hr hb2 hg1 hb1 hsrc0 hcell hc0 h1 h2
  go_enter Tryz.func143, Tryz.ntmps143
  go_wp2_with (first | (go_at_call 188; refine (HM.out _).mono ?_; rintro e w' ⟨rfl, hw'⟩; rw [hw']; clear hw'))
  go_loopw [8] (fun x wr => ∃ n : Nat, x = .int .i64 n ∧ 1 ≤ n ∧ n ≤ c ∧ Aside0 (wr.heap[w.heap.size]? = some (.cells (preC k n c).toArray 3 (0, 0))) ∧ Below w.heap.size w wr) (fun x _ => c - (intOf x).toNat)
  case atStart => exact ⟨1, rfl, by omega, hcx.out, hg2, hbz.out⟩
  case round =>
    obtain ⟨n, rfl, hn1, hn2, hg, hb⟩ := hrel
    by_cases hlt : n < c
    · obtain ⟨m, W', e1, e2, e3, e4, e5⟩ := hstep.out n hn1 hlt wr.drew hg.out hb.size
      have hnI : (n : Int) < (c : Int) := by omega
      have hcn : ¬ c = n := by omega
      have hmI : (n : Int) + (m : Int) ≤ (c : Int) := by omega
      have hw1 : IntKind.i64.wrap ((n : Int) + (m : Int)) = (n : Int) + (m : Int) := IntWalk.i64_in _ (by omega)
      have he4 := Aside0.mk e4
      have hbn := Aside0.mk (hb.trans ((Below.refl w.heap.size wr).drew.trans e5))
      have hq := Aside0.mk (And.intro e1 e2)
      clear e4 e5 e1 e2 hg hcp hKw
      go_wp2_with fail
      refine wp_reg (fun _ => True) (by kernel_rfl) trivial (fun hHeld => ?_)
      (refine Tk.tk 0 (.int .i64 n) hHeld ?_)
      (refine Tk.tk 1 (.slice (some ⟨w.heap.size, 0, none⟩) c c) hHeld ?_)
      (refine Tk.tk 2 (.int .i64 n) hHeld ?_)
      (refine Tk.tk 3 (.slice (some ⟨w.heap.size, n, none⟩) (c - n) (c - n)) hHeld ?_)
      (refine Tk.tk 4 (.slice (some ⟨w.heap.size, 0, none⟩) c c) hHeld ?_)
      (refine Tk.tk 5 (.int .i64 n) hHeld ?_)
      (refine Tk.tk 6 (.slice (some ⟨w.heap.size, 0, none⟩) n c) hHeld ?_)
      (refine wpAnyH_ready (rs := [7]) (by kernel_rfl) (by simp) ?_; refine AllReadyH.cons rfl (fun K hK => ?_) AllReadyH.nil; go_simp)
      (go_wp2_with fail; refine hK.out _ _ (trivial) (fun hHeld => ?_); clear hK K; try simp only [Act.put, Tk.z1, Tk.z2, Tk.z3, Tk.z4, Tk.z5, Tk.z6])
      (refine Tk.tk 8 (.int .i64 (n + m)) hHeld ?_)
      (refine Tk.tk 9 (.int .i64 (n + m)) hHeld ?_)
      refine wpAnyH_done (by kernel_rfl) ?_ _
      go_wp2
      go_roundw
      case rel => exact ⟨n + m, by go_num, by omega, hq.out.2, he4, hbn.out⟩
      case measure => have := hq.out; simp [intOf]; omega
    · obtain rfl : n = c := by omega
      have hb2 := hb
      clear hcp hKw
      go_wp2
      go_ret
      exact ⟨_, rfl, hg.out, Nat.le_refl _, hb2⟩
end Sec

end Go.Proofs.YtnflnicdjioflaaGreatDoor
