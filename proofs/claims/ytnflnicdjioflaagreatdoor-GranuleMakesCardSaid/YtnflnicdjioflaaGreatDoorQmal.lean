/- A part of the proof. -/
import Derived.Test.YtnflnicdjioflaaGreatDoorQmai
import Derived.Test.YtnflnicdjioflaaGreatDoorQmaj
import Derived.Test.YtnflnicdjioflaaGreatDoorQmag
set_option linter.unusedVariables false
set_option linter.unusedSimpArgs false
namespace Go.Proofs.YtnflnicdjioflaaGreatDoor
open Go.RowKit Go.Proofs.YtnflnicdjioflaaGreatDoorW.PrintWords Go.Proofs.YtnflnicdjioflaaGreatDoorW.PrintLast Go.Proofs.YtnflnicdjioflaaGreatDoorW.PrintMore
namespace Q21
attribute [local go_sem] max2_int min2_int max_two min_two max_three min_three
open Q15
def divE (sh : Bool) (g : List Int) : Int := if isDiv sh g then 0 else 1
def divW (sh : Bool) (g : List Int) : List Int := if isDiv sh g then widthsL sh g else []
def Outs (L : List Int) (E : Int) (w : World) (e : Ending) (w' : World) : Prop := ∃ A p, e = .returned (.tuple #[.slice A L.length p, .int .i64 E]) ∧ (Kd.int .i64).C w' A L.length L ∧ Below w.heap.size w w'
theorem isDiv_facts {sh : Bool} {g : List Int} (h : isDiv sh g = true) : g.length ≤ 8 ∧ ∀ n ∈ g, 1 ≤ n ∧ n ≤ 8 := by
 cases sh with
 | false =>
  have h0 : g.length = 0 := of_decide_eq_true h
  exact ⟨by omega, fun n hn => by rw [List.length_eq_zero_iff.1 h0] at hn; cases hn⟩
 | true => exact ⟨(isDiv_iff.1 h).1, (isDiv_iff.1 h).2.1⟩
theorem widthsL_bd {sh : Bool} {g : List Int} (h : g.length ≤ 8) : (widthsL sh g).length ≤ 32 := by
 cases sh with
 | false => exact (by decide : longsL.length ≤ 32)
 | true => rw [widthsL_len]; omega
set_option maxRecDepth 100000 in
set_option maxHeartbeats 1000000 in
theorem Widths_calls (sh : Bool) (A : Option Addr) (cap : Nat) (g : List Int) (w : World) (hL : Laid w) (hr : (Kd.int .i64).C w A g.length g) :
  Calls Tryz.prog 50 #[.bool sh, .slice A g.length cap] w (Outs (divW sh g) (divE sh g) w) := by
 have hb := Below.refl w.heap.size w
 have HC := check_calls sh A cap g w hr
 unfold divW divE
 cases hd : isDiv sh g with
 | false =>
  rw [hd] at HC
  replace HC := Aside0.mk HC
  rw [if_neg (by decide), if_neg (by decide)]
  clear hd hr hL
  go_enter Tryz.func50, Tryz.ntmps50
  go_wp2_with (first | (go_at_call 94; refine (HC.out).mono ?_; rintro e w' ⟨rfl, hbn⟩; replace hb := bnx hb hbn; clear hbn))
  go_ret2
  exact ⟨none, 0, rfl, Kd.C_nil _ _, hb⟩
 | true =>
  rw [hd] at HC
  obtain ⟨h8, hn⟩ := isDiv_facts hd
  have HW := Aside0.mk (fun (W : World) (hb : Below w.heap.size w W) => widths_calls sh A cap g W (hL.below hb) (Kd.C_below hr hb) h8 hn)
  have hlen := widthsL_bd (sh := sh) h8
  have HK := Aside0.mk (fun (B : Option Addr) (p : Nat) (W : World) (hC : (Kd.int .i64).C W B (widthsL sh g).length (widthsL sh g)) => Clone_calls B p (widthsL sh g) W hC (by omega))
  replace HC := Aside0.mk HC
  obtain ⟨L, hLL⟩ : ∃ L, L = widthsL sh g := ⟨_, rfl⟩
  rw [if_pos rfl, if_pos rfl, ← hLL]
  rw [← hLL] at HW HK
  clear hd hr hL h8 hn hLL hlen
  go_enter Tryz.func50, Tryz.ntmps50
  go_wp2_with (first | (go_at_call 94; refine (HC.out).mono ?_; rintro e w' ⟨rfl, hbn⟩; replace hb := bnx hb hbn; clear hbn))
  refine (HW.out _ hb).mono ?_; rintro e w1 ⟨B, p, rfl, hC, hbn⟩; replace hb := bnx hb hbn
  replace hC := Aside0.mk hC
  clear hbn
  go_wp2_with fail
  refine (HK.out _ _ _ hC.out).mono ?_; rintro e w2 ⟨v, rfl, hR, hbn⟩; replace hb := bnx hb hbn
  obtain ⟨B5, p5, rfl, _, hC5⟩ := Kd.R_reads hR
  replace hC5 := Aside0.mk hC5
  clear hbn hR
  go_wp2
  go_ret2
  exact ⟨_, _, rfl, hC5.out, hb⟩
set_option maxRecDepth 100000 in
set_option maxHeartbeats 1000000 in
theorem Count_calls (sh : Bool) (A : Option Addr) (cap : Nat) (g : List Int) (w : World) (hL : Laid w) (hr : (Kd.int .i64).C w A g.length g) :
  Calls Tryz.prog 42 #[.bool sh, .slice A g.length cap] w fun e w' => e = .returned (.tuple #[.int .i64 (divW sh g).length, .int .i64 (divE sh g)]) ∧ Below w.heap.size w w' := by
 have hb := Below.refl w.heap.size w
 have HC := Aside0.mk (Widths_calls sh A cap g w hL hr)
 obtain ⟨L, hLL⟩ : ∃ L, L = divW sh g := ⟨_, rfl⟩
 obtain ⟨E, hE⟩ : ∃ E, E = divE sh g := ⟨_, rfl⟩
 rw [← hLL, ← hE] at HC ⊢
 clear hLL hE hL hr
 go_enter Tryz.func42, Tryz.ntmps42
 go_wp2_with fail
 refine HC.out.mono ?_; rintro e w1 ⟨B, p, rfl, hC, hbn⟩; replace hb := bnx hb hbn
 clear hC hbn
 go_wp2
 go_ret2
 exact ⟨rfl, hb⟩
set_option maxRecDepth 100000 in
set_option maxHeartbeats 1000000 in
theorem rWidths_calls (sh : Bool) (A : Option Addr) (cap : Nat) (g : List Int) (w : World) (hr : (Kd.int .i64).C w A g.length g) :
  Calls Tryz.prog 31 #[.bool sh, .slice A g.length cap] w (Outs (divW sh g) (divE sh g) w) := by
 have hb := Below.refl w.heap.size w
 have HC := Is_calls sh A cap g w hr
 unfold divW divE
 cases hd : isDiv sh g with
 | false =>
  rw [hd] at HC
  replace HC := Aside0.mk HC
  rw [if_neg (by decide), if_neg (by decide)]
  clear hd hr
  go_enter Tryz.func31, Tryz.ntmps31
  go_wp2_with (first | (go_at_call 62; refine (HC.out).mono ?_; rintro e w' ⟨rfl, hbn⟩; replace hb := bnx hb hbn; clear hbn))
  go_ret2
  exact ⟨none, 0, rfl, Kd.C_nil _ _, hb⟩
 | true =>
  rw [hd] at HC
  obtain ⟨h8, hn⟩ := isDiv_facts hd
  have HW := Aside0.mk (fun (W : World) (hb : Below w.heap.size w W) => Bands_calls sh A cap g W (Kd.C_below hr hb) h8 hn)
  replace HC := Aside0.mk HC
  obtain ⟨L, hLL⟩ : ∃ L, L = widthsL sh g := ⟨_, rfl⟩
  rw [if_pos rfl, if_pos rfl, ← hLL]
  rw [← hLL] at HW
  clear hd hr h8 hn hLL
  go_enter Tryz.func31, Tryz.ntmps31
  go_wp2_with (first | (go_at_call 62; refine (HC.out).mono ?_; rintro e w' ⟨rfl, hbn⟩; replace hb := bnx hb hbn; clear hbn))
  refine (HW.out _ hb).mono ?_; rintro e w1 ⟨B, p, rfl, hC, hbn⟩; replace hb := bnx hb hbn
  replace hC := Aside0.mk hC
  clear hbn
  go_wp2
  go_ret2
  exact ⟨_, _, rfl, hC.out, hb⟩
end Q21

namespace Q21
attribute [local go_sem] max2_int min2_int max_two min_two max_three min_three
open Q15
set_option maxHeartbeats 1000000 in
theorem IndexFunc_calls (g : Nat) (fs cs : Array Value) (p : Int → Bool) (A : Option Addr) (cap : Nat) (l : List Int) (w : World) (eg : Q15.Enters g) (hr : (Kd.int .i64).C w A l.length l) (hl : l.length ≤ 1099511627776)
  (hp : ∀ x ∈ l, FnBool g fs cs w x (p x)) :
  Calls Tryz.prog 96 #[.slice A l.length cap, .func (.func g) fs cs] w fun e w' => (∃ i : Int, e = .returned (.int .i64 i) ∧ -1 ≤ i ∧ i ≤ 1099511627776 ∧ decide (0 ≤ i) = l.any p) ∧ Below w.heap.size w w' := by
 have HP := Aside0.mk hp
 have HR := Aside0.mk hr
 have hlI : (l.length : Int) ≤ 1099511627776 := by omega
 obtain ⟨Post, hPost⟩ : ∃ P : Ending → Prop, P = fun e => ∃ i : Int, e = .returned (.int .i64 i) ∧ -1 ≤ i ∧ i ≤ 1099511627776 ∧ decide (0 ≤ i) = l.any p := ⟨_, rfl⟩
 have HPost : Aside0 (∀ i : Int, -1 ≤ i → i ≤ 1099511627776 → decide (0 ≤ i) = l.any p → Post (.returned (.int .i64 i))) := ⟨fun i h0 h1 h2 => by rw [hPost]; exact ⟨i, rfl, h0, h1, h2⟩⟩
 show Calls _ _ _ _ (fun e w' => (fun e => ∃ i : Int, e = .returned (.int .i64 i) ∧ -1 ≤ i ∧ i ≤ 1099511627776 ∧ decide (0 ≤ i) = l.any p) e ∧ Below w.heap.size w w')
 rw [← hPost]
 clear hp hr hPost hl
 unfold Q15.Enters at eg
 go_enter Tryz.func96, Tryz.ntmps96
 go_wp2
 go_loopw [8] (fun i wr => ∃ k : Nat, i = .int .i64 k ∧ k ≤ l.length ∧ Aside0 ((l.take k).any p = false) ∧ Below w.heap.size w wr) (fun i _ => l.length - (intOf i).toNat)
 case atStart => exact ⟨0, rfl, by omega, ⟨by simp⟩, Below.refl _ _⟩
 case round =>
  obtain ⟨k, rfl, hk, ha, hb⟩ := hrel
  by_cases hlt : k < l.length
  ·obtain ⟨ad, rfl, hcell⟩ := el_at HR.out hb hlt
   have hc := HP.out _ (rd_mem l k hlt) wr hb
   have HT := Aside0.mk (take_rd l k hlt)
   have HRD := Aside0.mk (rd_mem l k hlt)
   have hkI : (k : Int) < (l.length : Int) := by omega
   obtain ⟨x, hx⟩ : ∃ x, x = rd l k := ⟨_, rfl⟩
   rw [← hx] at hcell hc HT HRD
   clear hx
   cases hpm : p x with
   | false =>
    rw [hpm] at hc
    have HC := Aside0.mk hc
    have hpm := Aside0.mk hpm
    clear hc
    go_wp2_with (go_at_fn g; refine HC.out.mono ?_; rintro e w' ⟨rfl, hb1⟩)
    go_roundw
    case rel => exact ⟨k + 1, by go_num, by omega, ⟨by rw [HT.out, List.any_append, ha.out]; simp [hpm.out]⟩, bnx hb hb1⟩
    case measure => simp [intOf]; omega
   | true =>
    rw [hpm] at hc
    have HC := Aside0.mk hc
    have hf := Aside0.mk (HPost.out (k : Int) (by omega) (by omega) (by rw [List.any_eq_true.2 ⟨x, HRD.out, hpm⟩]; exact decide_eq_true (by omega)))
    clear hc hpm
    go_wp2_with (go_at_fn g; refine HC.out.mono ?_; rintro e w' ⟨rfl, hb1⟩)
    go_ret
    exact ⟨hf.out, bnx hb hb1⟩
  ·obtain rfl : k = l.length := by omega
   have hA := ha.out
   rw [List.take_length] at hA
   have hf := Aside0.mk (HPost.out (-1) (by omega) (by omega) (by rw [hA]; rfl))
   clear ha hA
   go_wp2
   go_ret
   exact ⟨hf.out, hb⟩
set_option maxHeartbeats 1000000 in
theorem ContainsFunc_calls (g : Nat) (fs cs : Array Value) (p : Int → Bool) (A : Option Addr) (cap : Nat) (l : List Int) (w : World) (eg : Q15.Enters g) (hr : (Kd.int .i64).C w A l.length l) (hl : l.length ≤ 1099511627776)
  (hp : ∀ x ∈ l, FnBool g fs cs w x (p x)) :
  Calls Tryz.prog 53 #[.slice A l.length cap, .func (.func g) fs cs] w fun e w' => e = .returned (.bool (l.any p)) ∧ Below w.heap.size w w' := by
 have hb := Below.refl w.heap.size w
 have HC := Aside0.mk (IndexFunc_calls g fs cs p A cap l w eg hr hl hp)
 obtain ⟨b, hbe⟩ : ∃ b, b = l.any p := ⟨_, rfl⟩
 rw [← hbe] at HC ⊢
 clear hp hr hbe
 go_enter Tryz.func53, Tryz.ntmps53
 go_wp2_with fail
 refine HC.out.mono ?_; rintro _ w1 ⟨⟨i, rfl, h0, h1, h2⟩, hbn⟩; replace hb := bnx hb hbn; clear hbn
 cases b with
 | true =>
  have h3 : decide (0 ≤ i) = true := h2
  clear h2
  go_wp2
  go_ret
  exact ⟨rfl, hb⟩
 | false =>
  have h3 : decide (0 ≤ i) = false := h2
  have h4 : i < 0 := by have := of_decide_eq_false h2; omega
  clear h2
  go_wp2
  go_ret
  exact ⟨rfl, hb⟩
def outOf (lo hi n : Int) : Bool := decide (n < lo ∨ hi < n)
theorem any_outOf (lo hi : Int) (l : List Int) : l.any (outOf lo hi) = !Q16.rng lo hi l := by
 unfold Q16.rng
 rw [List.not_all_eq_any_not]
 congr 1
 funext n
 unfold outOf
 rw [← decide_not]
 exact decide_eq_decide.2 (by omega)
theorem isFilter1_fn (w : World) (x : Int) : FnBool 170 #[] #[] w x (outOf (-127) 127 x) := by
 intro W hb
 show Calls Tryz.prog 170 #[.int .i64 x] W _
 unfold outOf
 by_cases h0 : x < -127
 ·rw [decide_eq_true (.inl h0)]
  go_enter Tryz.func170, Tryz.ntmps170
  go_wp2
  go_ret
  exact ⟨rfl, Below.refl _ _⟩
 ·by_cases h1 : 127 < x
  ·rw [decide_eq_true (.inr h1)]
   have h0' : decide (x < -127) = false := by simpa using h0
   go_enter Tryz.func170, Tryz.ntmps170
   go_wp2
   go_ret
   exact ⟨rfl, Below.refl _ _⟩
  ·rw [decide_eq_false (by omega)]
   have h0' : decide (x < -127) = false := by simpa using h0
   have h1' : decide (127 < x) = false := by simpa using h1
   go_enter Tryz.func170, Tryz.ntmps170
   go_wp2
   go_ret
   exact ⟨rfl, Below.refl _ _⟩
theorem within1_fn (w : World) (a b : Addr) (lo hi : Int) (ha : w.cell? a = some (.int .i64 lo)) (hbc : w.cell? b = some (.int .i64 hi)) (x : Int) : FnBool 54 #[] #[.pointer (some a), .pointer (some b)] w x (outOf lo hi x) := by
 intro W hb
 show Calls Tryz.prog 54 #[.int .i64 x, .pointer (some a), .pointer (some b)] W _
 have ha' := cnx ha hb
 have hb' := cnx hbc hb
 unfold outOf
 clear ha hbc
 by_cases h0 : x < lo
 ·rw [decide_eq_true (.inl h0)]
  go_enter Tryz.func54, Tryz.ntmps54
  go_wp2
  go_ret
  exact ⟨rfl, Below.refl _ _⟩
 ·by_cases h1 : hi < x
  ·rw [decide_eq_true (.inr h1)]
   have h0' : decide (x < lo) = false := by simpa using h0
   go_enter Tryz.func54, Tryz.ntmps54
   go_wp2
   go_ret
   exact ⟨rfl, Below.refl _ _⟩
  ·rw [decide_eq_false (by omega)]
   have h0' : decide (x < lo) = false := by simpa using h0
   have h1' : decide (hi < x) = false := by simpa using h1
   go_enter Tryz.func54, Tryz.ntmps54
   go_wp2
   go_ret
   exact ⟨rfl, Below.refl _ _⟩
end Q21

namespace Q21
attribute [local go_sem] max2_int min2_int max_two min_two max_three min_three
open Q15
def isFil (l : List Int) : Bool := decide (l.length ≤ 12) && Q16.rng (-127) 127 l
set_option maxHeartbeats 1000000 in
theorem isFilter_calls (A : Option Addr) (cap : Nat) (l : List Int) (w : World) (hr : (Kd.int .i64).C w A l.length l) (hl : l.length ≤ 1000000) :
  Calls Tryz.prog 118 #[.slice A l.length cap] w fun e w' => e = .returned (.bool (isFil l)) ∧ Below w.heap.size w w' := by
 have hb := Below.refl w.heap.size w
 have HC := fun (W : World) (hb : Below w.heap.size w W) => ContainsFunc_calls 170 #[] #[] (outOf (-127) 127) A cap l W (fun _ _ => by kernel_rfl) (Kd.C_below hr hb) (by omega) (fun x _ => isFilter1_fn W x)
 rw [any_outOf] at HC
 unfold isFil
 obtain ⟨b, hbe⟩ : ∃ b, b = Q16.rng (-127) 127 l := ⟨_, rfl⟩
 rw [← hbe] at HC ⊢
 replace HC := Aside0.mk HC
 clear hr hbe
 by_cases h12 : l.length ≤ 12
 ·rw [decide_eq_true h12]
  have h1 : decide ((l.length : Int) ≤ 12) = true := decide_eq_true (by omega)
  clear h12 hl
  cases b
  all_goals
   go_enter Tryz.func118, Tryz.ntmps118
   go_wp2_with (first | (go_at_call 53; refine (HC.out _ hb).mono ?_; rintro e w' ⟨rfl, hbn⟩; replace hb := bnx hb hbn; clear hbn))
   go_ret
   exact ⟨rfl, hb⟩
 ·rw [decide_eq_false h12]
  have h1 : decide ((l.length : Int) ≤ 12) = false := decide_eq_false (by omega)
  clear h12 hl HC
  go_enter Tryz.func118, Tryz.ntmps118
  go_wp2
  go_ret
  exact ⟨rfl, hb⟩
set_option maxHeartbeats 1000000 in
theorem within_calls (A : Option Addr) (cap : Nat) (l : List Int) (lo hi : Int) (w : World) (hr : (Kd.int .i64).C w A l.length l) (hl : l.length ≤ 1000000) :
  Calls Tryz.prog 26 #[.slice A l.length cap, .int .i64 lo, .int .i64 hi] w fun e w' => e = .returned (.bool (Q16.rng lo hi l)) ∧ Below w.heap.size w w' := by
 have hb := Below.refl w.heap.size w
 have HC := fun (W : World) (a b : Addr) (hb : Below w.heap.size w W) (h1 : W.cell? a = some (.int .i64 lo)) (h2 : W.cell? b = some (.int .i64 hi)) => ContainsFunc_calls 54 #[] #[.pointer (some a), .pointer (some b)] (outOf lo hi) A cap l W (fun _ _ => by kernel_rfl) (Kd.C_below hr hb) (by omega) (fun x _ => within1_fn W a b lo hi h1 h2 x)
 rw [any_outOf] at HC
 obtain ⟨b, hbe⟩ : ∃ b, b = Q16.rng lo hi l := ⟨_, rfl⟩
 rw [← hbe] at HC ⊢
 replace HC := Aside0.mk HC
 clear hr hbe hl
 cases b
 all_goals
  go_enter Tryz.func26, Tryz.ntmps26
  go_wp2_with fail
  obtain ⟨W, hW⟩ : ∃ W, W = (w.alloc (.cells #[.int .i64 lo] 3)).alloc (.cells #[.int .i64 hi] 3) := ⟨_, rfl⟩
  rw [← hW]
  have k0 : W.cell? ⟨w.heap.size, 0, none⟩ = some (.int .i64 lo) := by rw [hW]; go_simp
  have k1 : W.cell? ⟨w.heap.size + 1, 0, none⟩ = some (.int .i64 hi) := by rw [hW]; go_simp
  replace hb : Below w.heap.size w W := by rw [hW]; exact (hb.alloc hb.size _).alloc (hb.alloc hb.size _).size _
  clear hW
  refine (HC.out W _ _ hb k0 k1).mono ?_; rintro _ w1 ⟨rfl, hbn⟩; replace hb := bnx hb hbn; clear hbn k0 k1
  go_wp2_with fail
  go_ret
  exact ⟨rfl, hb⟩
end Q21

namespace Q21
attribute [local go_sem] max2_int min2_int max_two min_two max_three min_three
open Q15
set_option maxHeartbeats 1000000 in
theorem Coefs_calls (m : Int) (hm : 0 ≤ m ∧ m ≤ 1099511627776) (A : Option Addr) (cap : Nat) (l : List Int) (w : World) (hr : (Kd.int .i64).C w A l.length l) (hl : l.length ≤ 1000000) :
  Calls Tryz.prog 46 #[.slice A l.length cap, .int .i64 m] w fun e w' => e = .returned (.bool (Q16.rng (-m) m l)) ∧ Below w.heap.size w w' := by
 have HR := Aside0.mk hr
 have hlI : (l.length : Int) ≤ 1000000 := by omega
 have HF : Aside0 (∀ k, k < l.length → ¬ ((-m) ≤ rd l k ∧ rd l k ≤ m) → Q16.rng (-m) m l = false) := ⟨fun k hk h => List.all_eq_false.2 ⟨_, rd_mem l k hk, by simpa using h⟩⟩
 have HT : Aside0 ((∀ x ∈ l, (-m) ≤ x ∧ x ≤ m) → Q16.rng (-m) m l = true) := ⟨fun h => List.all_eq_true.2 fun x hx => decide_eq_true (h x hx)⟩
 obtain ⟨b, hbe⟩ : ∃ b, b = Q16.rng (-m) m l := ⟨_, rfl⟩
 rw [← hbe] at HF HT ⊢
 clear hr hl hbe
 go_enter Tryz.func46, Tryz.ntmps46
 go_wp2
 go_loopw [9] (fun i wr => ∃ k : Nat, i = .int .i64 k ∧ k ≤ l.length ∧ Aside0 (∀ x ∈ l.take k, (-m) ≤ x ∧ x ≤ m) ∧ Below w.heap.size w wr) (fun i _ => l.length - (intOf i).toNat)
 case atStart => exact ⟨0, rfl, by omega, ⟨by simp⟩, Below.refl _ _⟩
 case round =>
  obtain ⟨k, rfl, hk, ha, hb⟩ := hrel
  by_cases hlt : k < l.length
  ·obtain ⟨ad, rfl, hcell⟩ := el_at HR.out hb hlt
   have hT := Aside0.mk (take_rd l k hlt)
   have hf := HF.out k hlt
   have hkI : (k : Int) < (l.length : Int) := by omega
   obtain ⟨n, hx⟩ : ∃ n, n = rd l k := ⟨_, rfl⟩
   rw [← hx] at hcell hT hf
   replace hf := Aside0.mk hf
   clear hx
   by_cases h1 : n < (-m)
   ·have hff := Aside0.mk (hf.out (by omega))
    go_wp2
    go_ret
    exact ⟨by rw [hff.out]; rfl, hb⟩
   ·by_cases h2 : m < n
    ·have hff := Aside0.mk (hf.out (by omega))
     have h1' : decide (n < (-m)) = false := by simpa using h1
     go_wp2
     go_ret
     exact ⟨by rw [hff.out]; rfl, hb⟩
    ·have h1' : decide (n < (-m)) = false := by simpa using h1
     have h2' : decide (m < n) = false := by simpa using h2
     have h3 : Aside0 ((-m) ≤ n ∧ n ≤ m) := ⟨by omega⟩
     clear h1 h2
     go_wp2
     go_roundw
     case rel => exact ⟨k + 1, by go_num, by omega, ⟨by
      rw [hT.out]
      intro x hx
      rcases List.mem_append.1 hx with hx | hx
      ·exact ha.out x hx
      ·rw [List.mem_singleton.1 hx]; exact h3.out⟩, hb⟩
     case measure => simp [intOf]; omega
  ·obtain rfl : k = l.length := by omega
   have hA := ha.out
   rw [List.take_length] at hA
   have hff := Aside0.mk (HT.out hA)
   clear ha hA
   go_wp2
   go_ret
   exact ⟨by rw [hff.out]; rfl, hb⟩
set_option maxHeartbeats 1000000 in
theorem Ranged_calls (A : Option Addr) (cap : Nat) (l : List Int) (w : World) (hr : (Kd.int .i64).C w A l.length l) (hl : l.length ≤ 1000000) :
  Calls Tryz.prog 32 #[.slice A l.length cap] w fun e w' => e = .returned (.bool (Q16.rng 0 95 l)) ∧ Below w.heap.size w w' := by
 have HR := Aside0.mk hr
 have hlI : (l.length : Int) ≤ 1000000 := by omega
 have HF : Aside0 (∀ k, k < l.length → ¬ (0 ≤ rd l k ∧ rd l k ≤ 95) → Q16.rng 0 95 l = false) := ⟨fun k hk h => List.all_eq_false.2 ⟨_, rd_mem l k hk, by simpa using h⟩⟩
 have HT : Aside0 ((∀ x ∈ l, 0 ≤ x ∧ x ≤ 95) → Q16.rng 0 95 l = true) := ⟨fun h => List.all_eq_true.2 fun x hx => decide_eq_true (h x hx)⟩
 obtain ⟨b, hbe⟩ : ∃ b, b = Q16.rng 0 95 l := ⟨_, rfl⟩
 rw [← hbe] at HF HT ⊢
 clear hr hl hbe
 go_enter Tryz.func32, Tryz.ntmps32
 go_wp2
 go_loopw [7] (fun i wr => ∃ k : Nat, i = .int .i64 k ∧ k ≤ l.length ∧ Aside0 (∀ x ∈ l.take k, 0 ≤ x ∧ x ≤ 95) ∧ Below w.heap.size w wr) (fun i _ => l.length - (intOf i).toNat)
 case atStart => exact ⟨0, rfl, by omega, ⟨by simp⟩, Below.refl _ _⟩
 case round =>
  obtain ⟨k, rfl, hk, ha, hb⟩ := hrel
  by_cases hlt : k < l.length
  ·obtain ⟨ad, rfl, hcell⟩ := el_at HR.out hb hlt
   have hT := Aside0.mk (take_rd l k hlt)
   have hf := HF.out k hlt
   have hkI : (k : Int) < (l.length : Int) := by omega
   obtain ⟨n, hx⟩ : ∃ n, n = rd l k := ⟨_, rfl⟩
   rw [← hx] at hcell hT hf
   replace hf := Aside0.mk hf
   clear hx
   by_cases h1 : n < 0
   ·have hff := Aside0.mk (hf.out (by omega))
    go_wp2
    go_ret
    exact ⟨by rw [hff.out]; rfl, hb⟩
   ·by_cases h2 : 95 < n
    ·have hff := Aside0.mk (hf.out (by omega))
     have h1' : decide (n < 0) = false := by simpa using h1
     go_wp2
     go_ret
     exact ⟨by rw [hff.out]; rfl, hb⟩
    ·have h1' : decide (n < 0) = false := by simpa using h1
     have h2' : decide (95 < n) = false := by simpa using h2
     have h3 : Aside0 (0 ≤ n ∧ n ≤ 95) := ⟨by omega⟩
     clear h1 h2
     go_wp2
     go_roundw
     case rel => exact ⟨k + 1, by go_num, by omega, ⟨by
      rw [hT.out]
      intro x hx
      rcases List.mem_append.1 hx with hx | hx
      ·exact ha.out x hx
      ·rw [List.mem_singleton.1 hx]; exact h3.out⟩, hb⟩
     case measure => simp [intOf]; omega
  ·obtain rfl : k = l.length := by omega
   have hA := ha.out
   rw [List.take_length] at hA
   have hff := Aside0.mk (HT.out hA)
   clear ha hA
   go_wp2
   go_ret
   exact ⟨by rw [hff.out]; rfl, hb⟩
set_option maxHeartbeats 1000000 in
theorem Same_calls (A0 A1 : Option Addr) (c0 c1 : Nat) (l0 l1 : List Int) (w : World) (hr0 : (Kd.int .i64).C w A0 l0.length l0) (hr1 : (Kd.int .i64).C w A1 l1.length l1) (hl : l0.length ≤ 1099511627776) :
  Calls Tryz.prog 34 #[.slice A0 l0.length c0, .slice A1 l1.length c1] w fun e w' => e = .returned (.bool (decide (l0 = l1))) ∧ Below w.heap.size w w' := by
 by_cases hn : l0.length = l1.length
 ·have HR0 := Aside0.mk hr0
  have HR1 := Aside0.mk hr1
  rw [← hn] at HR1 ⊢
  have HN := Aside0.mk hn
  clear hn hr0 hr1
  go_enter Tryz.func34, Tryz.ntmps34
  go_wp2
  go_loopw [13] (fun i wr => ∃ k : Nat, i = .int .i64 k ∧ k ≤ l0.length ∧ Aside0 (l0.take k = l1.take k) ∧ Below w.heap.size w wr) (fun i _ => l0.length - (intOf i).toNat)
  case atStart => exact ⟨0, rfl, by omega, ⟨rfl⟩, Below.refl _ _⟩
  case round =>
   obtain ⟨k, rfl, hk, ha, hb⟩ := hrel
   by_cases hlt : k < l0.length
   ·obtain ⟨ad0, rfl, hcell0⟩ := Kd.at_int HR0.out (k : Int) (by omega) (by omega)
    obtain ⟨ad1, rfl, hcell1⟩ := Kd.at_int HR1.out (k : Int) (by omega) (by omega)
    rw [Int.toNat_natCast] at hcell0 hcell1
    replace hcell0 := cnx hcell0 hb
    replace hcell1 := cnx hcell1 hb
    have HT0 := Aside0.mk (take_rd l0 k hlt)
    have HT1 := Aside0.mk (take_rd l1 k (by have := HN.out; omega))
    have hd0 := rd_nat l0 k hlt
    have hd1 := rd_nat l1 k (by have := HN.out; omega)
    have HNE : Aside0 (rd l0 k ≠ rd l1 k → l0 ≠ l1) := ⟨fun h e => h (by rw [e])⟩
    obtain ⟨x, hx⟩ : ∃ x, x = rd l0 k := ⟨_, rfl⟩
    obtain ⟨y, hy⟩ : ∃ y, y = rd l1 k := ⟨_, rfl⟩
    rw [← hx] at hcell0 HT0 HNE
    rw [← hy] at hcell1 HT1 HNE
    clear hx hy hd0 hd1
    by_cases he : x = y
    ·subst he
     go_wp2
     go_quiet (fail)
     go_wp2
     go_roundw
     case rel => exact ⟨k + 1, by go_num, by omega, ⟨by rw [HT0.out, HT1.out, ha.out]⟩, below_drewN' hb nq⟩
     case measure => simp [intOf]; omega
    ·have HNE2 := Aside0.mk (HNE.out he)
     have he2 : (x != y) = true := by rw [bne_iff_ne]; exact he
     go_wp2
     go_quiet (fail)
     go_wp2
     go_ret
     exact ⟨by rw [decide_eq_false HNE2.out]; rfl, below_drewN' hb nq⟩
   ·obtain rfl : k = l0.length := by omega
    have e : l0 = l1 := by
     have h1 := ha.out
     rw [List.take_length, HN.out, List.take_length] at h1
     exact h1
    have HE := Aside0.mk e
    clear e
    go_wp2
    go_ret
    exact ⟨by rw [decide_eq_true HE.out]; rfl, hb⟩
 ·have he : l0 ≠ l1 := fun h => hn (by rw [h])
  rw [decide_eq_false he]
  have hn2 : (l0.length != l1.length) = true := by rw [bne_iff_ne]; exact hn
  have hn3 : ((l0.length : Int) != (l1.length : Int)) = true := by rw [bne_iff_ne]; omega
  clear hn he
  go_enter Tryz.func34, Tryz.ntmps34
  go_wp2
  go_ret
  exact ⟨rfl, Below.refl _ _⟩
theorem rmid_calls (A : Option Addr) (cap n : Nat) (ch many : Int) (w : World) :
  Calls Tryz.prog 45 #[.slice A n cap, .int .i64 ch, .int .i64 many] w fun e w' => e = .returned (.bool (if ch = 1 then decide (n = 0) else decide ((n : Int) = many))) ∧ Below w.heap.size w w' := by
 have hb := Below.refl w.heap.size w
 by_cases h1 : ch = 1
 ·rw [if_pos h1]
  subst h1
  by_cases h0 : n = 0
  ·rw [decide_eq_true h0]
   have h2 : ((n : Int) == 0) = true := beq_iff_eq.2 (by omega)
   clear h0
   go_enter Tryz.func45, Tryz.ntmps45
   go_wp2
   go_ret
   exact ⟨rfl, hb⟩
  ·rw [decide_eq_false h0]
   have h2 : ((n : Int) == 0) = false := beq_eq_false_iff_ne.2 (by omega)
   clear h0
   go_enter Tryz.func45, Tryz.ntmps45
   go_wp2
   go_ret
   exact ⟨rfl, hb⟩
 ·rw [if_neg h1]
  have h3 : (ch == 1) = false := beq_eq_false_iff_ne.2 h1
  by_cases h0 : (n : Int) = many
  ·rw [decide_eq_true h0]
   have h2 : ((n : Int) == many) = true := beq_iff_eq.2 h0
   clear h0 h1
   go_enter Tryz.func45, Tryz.ntmps45
   go_wp2
   go_ret
   exact ⟨rfl, hb⟩
  ·rw [decide_eq_false h0]
   have h2 : ((n : Int) == many) = false := beq_eq_false_iff_ne.2 h0
   clear h0 h1
   go_enter Tryz.func45, Tryz.ntmps45
   go_wp2
   go_ret
   exact ⟨rfl, hb⟩
theorem isMid_calls (A : Option Addr) (cap n : Nat) (ch many : Int) (w : World) :
  Calls Tryz.prog 51 #[.slice A n cap, .int .i64 ch, .int .i64 many] w fun e w' => e = .returned (.bool (if ch = 1 then decide (n = 0) else decide ((n : Int) = many))) ∧ Below w.heap.size w w' := by
 have hb := Below.refl w.heap.size w
 by_cases h1 : ch = 1
 ·rw [if_pos h1]
  subst h1
  by_cases h0 : n = 0
  ·rw [decide_eq_true h0]
   have h2 : ((n : Int) == 0) = true := beq_iff_eq.2 (by omega)
   clear h0
   go_enter Tryz.func51, Tryz.ntmps51
   go_wp2
   go_ret
   exact ⟨rfl, hb⟩
  ·rw [decide_eq_false h0]
   have h2 : ((n : Int) == 0) = false := beq_eq_false_iff_ne.2 (by omega)
   clear h0
   go_enter Tryz.func51, Tryz.ntmps51
   go_wp2
   go_ret
   exact ⟨rfl, hb⟩
 ·rw [if_neg h1]
  have h3 : (ch == 1) = false := beq_eq_false_iff_ne.2 h1
  by_cases h0 : (n : Int) = many
  ·rw [decide_eq_true h0]
   have h2 : ((n : Int) == many) = true := beq_iff_eq.2 h0
   clear h0 h1
   go_enter Tryz.func51, Tryz.ntmps51
   go_wp2
   go_ret
   exact ⟨rfl, hb⟩
  ·rw [decide_eq_false h0]
   have h2 : ((n : Int) == many) = false := beq_eq_false_iff_ne.2 h0
   clear h0 h1
   go_enter Tryz.func51, Tryz.ntmps51
   go_wp2
   go_ret
   exact ⟨rfl, hb⟩
end Q21

namespace Pre
attribute [local go_sem] max2_int min2_int max_two min_two max_three min_three
open Q15
open Q21 (outOf any_outOf ContainsFunc_calls)
def fillO (n : Int) : Int := if 0 < n then 65536 / 2 ^ n.toNat else 0
def fillI (l : List Int) : Int := (l.map fillO).sum
def preE (l : List Int) : Int := if (decide (256 < l.length) || !Q16.rng 0 16 l) = true then 1 else if fillI l = 0 then 5 else if 65536 < fillI l then 4 else 0
theorem fillO_bd (n : Int) : 0 ≤ fillO n ∧ fillO n ≤ 65536 := by
 unfold fillO
 by_cases h : 0 < n
 ·rw [if_pos h]
  have hp : (0 : Int) < 2 ^ n.toNat := Int.pow_pos (by omega)
  exact ⟨Int.ediv_nonneg (by omega) (by omega), Int.ediv_le_self _ (by omega)⟩
 ·rw [if_neg h]; omega
theorem fillI_bd (l : List Int) : 0 ≤ fillI l ∧ fillI l ≤ 65536 * l.length := by
 unfold fillI
 induction l with
 | nil => simp
 | cons a t ih =>
  have := fillO_bd a
  simp only [List.map_cons, List.sum_cons, List.length_cons]
  omega
theorem fillI_take (l : List Int) {k : Nat} (hk : k < l.length) : fillI (l.take (k + 1)) = fillI (l.take k) + fillO (rd l k) := by
 rw [take_rd l k hk]
 unfold fillI
 rw [List.map_append, List.sum_append]
 simp
set_option maxHeartbeats 400000 in
theorem chk1_calls (x : Int) (w : World) :
  Calls Tryz.prog 224 #[.int .i64 x] w fun e w' => e = .returned (.bool (outOf 0 16 x)) ∧ Below w.heap.size w w' := by
 have hb := Below.refl w.heap.size w
 have HX := Aside0.mk (show (x < 0 → outOf 0 16 x = true) ∧ (16 < x → outOf 0 16 x = true) ∧ (¬ x < 0 → ¬ 16 < x → outOf 0 16 x = false) by
  unfold outOf
  simp only [decide_eq_true_eq, decide_eq_false_iff_not]
  omega)
 by_cases h0 : x < 0
 ·go_enter Tryz.func224, Tryz.ntmps224
  go_wp2
  go_ret
  exact ⟨by rw [HX.out.1 h0]; rfl, hb⟩
 ·by_cases h1 : 16 < x
  ·have t1 : decide (x < 0) = false := decide_eq_false h0
   have t2 : decide (16 < x) = true := decide_eq_true h1
   go_enter Tryz.func224, Tryz.ntmps224
   go_wp2
   go_ret
   exact ⟨by rw [HX.out.2.1 h1]; rfl, hb⟩
  ·have t1 : decide (x < 0) = false := decide_eq_false h0
   have t2 : decide (16 < x) = false := decide_eq_false h1
   have hE := Aside0.mk (HX.out.2.2 h0 h1)
   clear h0 h1
   go_enter Tryz.func224, Tryz.ntmps224
   go_wp2
   go_ret
   exact ⟨by rw [hE.out]; rfl, hb⟩
theorem chk1_fn (w : World) (x : Int) : FnBool 224 #[] #[] w x (outOf 0 16 x) := fun W hb => chk1_calls x W
set_option maxRecDepth 100000 in
set_option maxHeartbeats 1000000 in
theorem filled_calls (A : Option Addr) (cap : Nat) (l : List Int) (w : World) (hr : (Kd.int .i64).C w A l.length l) (hl : l.length ≤ 256) (h16 : ∀ n ∈ l, 0 ≤ n ∧ n ≤ 16) :
  Calls Tryz.prog 225 #[.slice A l.length cap] w fun e w' => e = .returned (.int .i64 (fillI l)) ∧ Below w.heap.size w w' := by
 have hlI : (l.length : Int) ≤ 256 := by omega
 have HR := Aside0.mk hr
 have H16 := Aside0.mk h16
 have HB := Aside0.mk (fun k => fillI_bd (l.take k))
 clear hr h16 hl
 go_enter Tryz.func225, Tryz.ntmps225
 go_wp2_with fail
 go_loop [3, 8] (fun s i => ∃ k : Nat, i = .int .i64 k ∧ k ≤ l.length ∧ s = .int .i64 (fillI (l.take k))) (fun _ i => l.length - (intOf i).toNat)
 case atStart => exact ⟨0, rfl, by omega, rfl⟩
 case round =>
  obtain ⟨k, rfl, hk, rfl⟩ := hrel
  by_cases hlt : k < l.length
  ·obtain ⟨ad, rfl, hcell⟩ := el_at HR.out (Below.refl _ _) hlt
   have hkI : (k : Int) < (l.length : Int) := by omega
   have hT := fillI_take l hlt
   have hx := H16.out _ (rd_mem l k hlt)
   have hbd := HB.out k
   have htl : ((l.take k).length : Int) ≤ 256 := by rw [List.length_take]; omega
   obtain ⟨s, hs⟩ : ∃ s, s = fillI (l.take k) := ⟨_, rfl⟩
   rw [← hs] at hbd hT ⊢
   have hsb : 0 ≤ s ∧ s ≤ 16777216 := by omega
   obtain ⟨x, hxe⟩ : ∃ x, x = rd l k := ⟨_, rfl⟩
   rw [← hxe] at hx hcell hT
   have hfb := fillO_bd x
   clear hbd htl hs hxe
   by_cases h0 : 0 < x
   ·have hfo : fillO x = 65536 / 2 ^ x.toNat := by unfold fillO; rw [if_pos h0]
    have hT' : Aside0 (fillI (l.take (k + 1)) = s + 65536 / 2 ^ x.toNat) := ⟨by rw [hT, hfo]⟩
    rw [hfo] at hfb
    obtain ⟨y, hy⟩ : ∃ y, (65536 : Int) / 2 ^ x.toNat = y := ⟨_, rfl⟩
    rw [hy] at hfb hT'
    clear hT hfo
    have hlt' := Aside0.mk hlt
    clear hlt
    go_wp2_with fail
    go_round
    case rel => exact ⟨k + 1, by go_num, hlt'.out, by rw [hT'.out]⟩
    case measure => have := hlt'.out; simp [intOf]; omega
   ·have hT' : Aside0 (fillI (l.take (k + 1)) = s) := ⟨by rw [hT]; unfold fillO; rw [if_neg h0]; omega⟩
    have hlt' := Aside0.mk hlt
    clear hT hfb hlt
    go_wp2_with fail
    go_round
    case rel => exact ⟨k + 1, by go_num, hlt'.out, by rw [hT'.out]⟩
    case measure => have := hlt'.out; simp [intOf]; omega
  ·obtain rfl : k = l.length := by omega
   rw [List.take_length]
   go_wp2_with fail
   go_ret
   exact ⟨rfl, Below.refl _ _⟩
set_option maxRecDepth 100000 in
set_option maxHeartbeats 1000000 in
theorem Check_calls (A : Option Addr) (cap : Nat) (l : List Int) (w : World) (hr : (Kd.int .i64).C w A l.length l) (hl : l.length ≤ 1000000) :
  Calls Tryz.prog 197 #[.slice A l.length cap] w fun e w' => e = .returned (.int .i64 (preE l)) ∧ Below w.heap.size w w' := by
 have HC := Aside0.mk (ContainsFunc_calls 224 #[] #[] (outOf 0 16) A cap l w (enters_of Tryz.func224 (by kernel_rfl) rfl) hr (by omega) (fun x _ => chk1_fn w x))
 rw [any_outOf] at HC
 have hlI : (l.length : Int) ≤ 1000000 := by omega
 have hb := Below.refl w.heap.size w
 by_cases h6 : 256 < l.length
 ·have t1 : decide (256 < (l.length : Int)) = true := decide_eq_true (by omega)
  have hE : Aside0 (preE l = 1) := ⟨by unfold preE; rw [decide_eq_true h6]; rfl⟩
  clear hr HC h6
  go_enter Tryz.func197, Tryz.ntmps197
  go_wp2_with fail
  go_ret
  exact ⟨by rw [hE.out]; rfl, hb⟩
 ·have t1 : decide (256 < (l.length : Int)) = false := decide_eq_false (by omega)
  cases hq : Q16.rng 0 16 l with
  | false =>
   have hE : Aside0 (preE l = 1) := ⟨by unfold preE; rw [hq]; simp⟩
   rw [hq] at HC
   clear hr hq
   go_enter Tryz.func197, Tryz.ntmps197
   go_wp2_with fail
   refine HC.out.mono ?_; rintro e w1 ⟨rfl, hbn⟩
   go_wp2_with fail
   go_ret
   exact ⟨by rw [hE.out]; rfl, hbn⟩
  | true =>
   have h16 : ∀ n ∈ l, 0 ≤ n ∧ n ≤ 16 := fun n hn => by
    have := List.all_eq_true.1 hq n hn
    simpa using this
   have HF := Aside0.mk (fun (W : World) (hb : Below w.heap.size w W) => filled_calls A cap l W (Kd.C_below hr hb) (by omega) h16)
   have hE : Aside0 (preE l = if fillI l = 0 then 5 else if 65536 < fillI l then 4 else 0) := ⟨by unfold preE; rw [hq, decide_eq_false h6]; rfl⟩
   have hbd := fillI_bd l
   rw [hq] at HC
   obtain ⟨f, hf⟩ : ∃ f, f = fillI l := ⟨_, rfl⟩
   rw [← hf] at HF hE hbd
   have hfb : 0 ≤ f ∧ f ≤ 65536000000 := by omega
   clear hr hq hf hbd h6 h16
   by_cases h0 : f = 0
   ·have t2 : (f == 0) = true := by rw [beq_iff_eq]; exact h0
    have hE2 : Aside0 (preE l = 5) := ⟨by rw [hE.out, if_pos h0]⟩
    clear hE h0
    go_enter Tryz.func197, Tryz.ntmps197
    go_wp2_with fail
    refine HC.out.mono ?_; rintro e w1 ⟨rfl, hbn⟩
    go_wp2_with fail
    refine (HF.out _ hbn).mono ?_; rintro e w2 ⟨rfl, hbn2⟩
    replace hbn := bnx hbn hbn2
    clear hbn2
    go_wp2_with fail
    go_ret
    exact ⟨by rw [hE2.out]; rfl, hbn⟩
   ·have t2 : (f == 0) = false := by rw [beq_eq_false_iff_ne]; exact h0
    by_cases h1 : 65536 < f
    ·have t3 : decide (65536 < f) = true := decide_eq_true h1
     have hE2 : Aside0 (preE l = 4) := ⟨by rw [hE.out, if_neg h0, if_pos h1]⟩
     clear hE h0 h1
     go_enter Tryz.func197, Tryz.ntmps197
     go_wp2_with fail
     refine HC.out.mono ?_; rintro e w1 ⟨rfl, hbn⟩
     go_wp2_with fail
     refine (HF.out _ hbn).mono ?_; rintro e w2 ⟨rfl, hbn2⟩
     replace hbn := bnx hbn hbn2
     clear hbn2
     go_wp2_with fail
     go_ret
     exact ⟨by rw [hE2.out]; rfl, hbn⟩
    ·have t3 : decide (65536 < f) = false := decide_eq_false h1
     have hE2 : Aside0 (preE l = 0) := ⟨by rw [hE.out, if_neg h0, if_neg h1]⟩
     clear hE h0 h1
     go_enter Tryz.func197, Tryz.ntmps197
     go_wp2_with fail
     refine HC.out.mono ?_; rintro e w1 ⟨rfl, hbn⟩
     go_wp2_with fail
     refine (HF.out _ hbn).mono ?_; rintro e w2 ⟨rfl, hbn2⟩
     replace hbn := bnx hbn hbn2
     clear hbn2
     go_wp2_with fail
     go_ret
     exact ⟨by rw [hE2.out]; rfl, hbn⟩
end Pre

end Go.Proofs.YtnflnicdjioflaaGreatDoor
