/- A part of the proof. -/
import Derived.Test.YtnflnicdjioflaaGreatDoorSlae
set_option linter.unusedVariables false
set_option linter.unusedSimpArgs false
set_option maxRecDepth 100000
set_option maxHeartbeats 8000000
namespace Go.Proofs.YtnflnicdjioflaaGreatDoor
open Go.RowKit Go.Proofs.YtnflnicdjioflaaGreatDoorW.PrintWords Go.Proofs.YtnflnicdjioflaaGreatDoorW.PrintLast Go.Proofs.YtnflnicdjioflaaGreatDoorW.PrintMore
namespace Q21
attribute [local go_sem] Qj Qi Ql Qk Qg Qf
open Q15
def Di (sh : Bool) (g : List Int) : Int := if Zf sh g then 0 else 1
def Df (sh : Bool) (g : List Int) : List Int := if Zf sh g then Qm sh g else []
def Outs (L : List Int) (E : Int) (w : World) (e : Ending) (w' : World) : Prop := ∃ A p, e = .returned (.tuple #[.slice A L.length p, .int .i64 E]) ∧ (Kd.int .i64).C w' A L.length L ∧ Below w.heap.size w w'
theorem Xo {sh : Bool} {g : List Int} (h : Zf sh g = true) : g.length ≤ 8 ∧ ∀ n ∈ g, 1 ≤ n ∧ n ≤ 8 := by
 cases sh with
 | false =>
  have h0 : g.length = 0 := of_decide_eq_true h
  exact ⟨by omega, fun n hn => by rw [List.length_eq_zero_iff.1 h0] at hn; cases hn⟩
 | true => exact ⟨(X3.1 h).1, (X3.1 h).2.1⟩
theorem O9 {sh : Bool} {g : List Int} (h : g.length ≤ 8) : (Qm sh g).length ≤ 32 := by
 cases sh with
 | false => exact (by decide : Z6.length ≤ 32)
 | true => rw [Nk]; omega
theorem X6 (sh : Bool) (A : Option Addr) (cap : Nat) (g : List Int) (w : World) (hL : Laid w) (hr : (Kd.int .i64).C w A g.length g) :
  Calls Tryz.prog 50 #[.bool sh, .slice A g.length cap] w (Outs (Df sh g) (Di sh g) w) := by
 have hb := Below.refl w.heap.size w
 have HC := Jm sh A cap g w hr
 unfold Df Di
 cases hd : Zf sh g with
 | false =>
  rw [hd] at HC
  replace HC := Qa.mk HC
  rw [if_neg (by decide), if_neg (by decide)]
  clear hd hr hL
  go_enter Tryz.func50, Tryz.ntmps50
  go_wp2_with (first | (go_at_call 94; refine (HC.out).mono ?_; rintro e w' ⟨rfl, hbn⟩; replace hb := bnx hb hbn; clear hbn))
  go_ret2
  exact ⟨none, 0, rfl, Kd.Jr _ _, hb⟩
 | true =>
  rw [hd] at HC
  obtain ⟨h8, hn⟩ := Xo hd
  have HW := Qa.mk (fun (W : World) (hb : Below w.heap.size w W) => M3 sh A cap g W (hL.below hb) (Kd.Qh hr hb) h8 hn)
  have hlen := O9 (sh := sh) h8
  have HK := Qa.mk (fun (B : Option Addr) (p : Nat) (W : World) (hC : (Kd.int .i64).C W B (Qm sh g).length (Qm sh g)) => Vo B p (Qm sh g) W hC (by omega))
  replace HC := Qa.mk HC
  obtain ⟨L, hLL⟩ : ∃ L, L = Qm sh g := ⟨_, rfl⟩
  rw [if_pos rfl, if_pos rfl, ← hLL]
  rw [← hLL] at HW HK
  clear hd hr hL h8 hn hLL hlen
  go_enter Tryz.func50, Tryz.ntmps50
  go_wp2_with (first | (go_at_call 94; refine (HC.out).mono ?_; rintro e w' ⟨rfl, hbn⟩; replace hb := bnx hb hbn; clear hbn))
  refine (HW.out _ hb).mono ?_; rintro e w1 ⟨B, p, rfl, hC, hbn⟩; replace hb := bnx hb hbn
  replace hC := Qa.mk hC
  clear hbn
  go_wp2_with fail
  refine (HK.out _ _ _ hC.out).mono ?_; rintro e w2 ⟨v, rfl, hR, hbn⟩; replace hb := bnx hb hbn
  obtain ⟨B5, p5, rfl, _, hC5⟩ := Kd.Qz hR
  replace hC5 := Qa.mk hC5
  clear hbn hR
  go_wp2
  go_ret2
  exact ⟨_, _, rfl, hC5.out, hb⟩
theorem Bw (sh : Bool) (A : Option Addr) (cap : Nat) (g : List Int) (w : World) (hL : Laid w) (hr : (Kd.int .i64).C w A g.length g) :
  Calls Tryz.prog 42 #[.bool sh, .slice A g.length cap] w fun e w' => e = .returned (.tuple #[.int .i64 (Df sh g).length, .int .i64 (Di sh g)]) ∧ Below w.heap.size w w' := by
 have hb := Below.refl w.heap.size w
 have HC := Qa.mk (X6 sh A cap g w hL hr)
 obtain ⟨L, hLL⟩ : ∃ L, L = Df sh g := ⟨_, rfl⟩
 obtain ⟨E, hE⟩ : ∃ E, E = Di sh g := ⟨_, rfl⟩
 rw [← hLL, ← hE] at HC ⊢
 clear hLL hE hL hr
 go_enter Tryz.func42, Tryz.ntmps42
 go_wp2_with fail
 refine HC.out.mono ?_; rintro e w1 ⟨B, p, rfl, hC, hbn⟩; replace hb := bnx hb hbn
 clear hC hbn
 go_wp2
 go_ret2
 exact ⟨rfl, hb⟩
theorem Vw (sh : Bool) (A : Option Addr) (cap : Nat) (g : List Int) (w : World) (hr : (Kd.int .i64).C w A g.length g) :
  Calls Tryz.prog 31 #[.bool sh, .slice A g.length cap] w (Outs (Df sh g) (Di sh g) w) := by
 have hb := Below.refl w.heap.size w
 have HC := Is_calls sh A cap g w hr
 unfold Df Di
 cases hd : Zf sh g with
 | false =>
  rw [hd] at HC
  replace HC := Qa.mk HC
  rw [if_neg (by decide), if_neg (by decide)]
  clear hd hr
  go_enter Tryz.func31, Tryz.ntmps31
  go_wp2_with (first | (go_at_call 62; refine (HC.out).mono ?_; rintro e w' ⟨rfl, hbn⟩; replace hb := bnx hb hbn; clear hbn))
  go_ret2
  exact ⟨none, 0, rfl, Kd.Jr _ _, hb⟩
 | true =>
  rw [hd] at HC
  obtain ⟨h8, hn⟩ := Xo hd
  have HW := Qa.mk (fun (W : World) (hb : Below w.heap.size w W) => C8 sh A cap g W (Kd.Qh hr hb) h8 hn)
  replace HC := Qa.mk HC
  obtain ⟨L, hLL⟩ : ∃ L, L = Qm sh g := ⟨_, rfl⟩
  rw [if_pos rfl, if_pos rfl, ← hLL]
  rw [← hLL] at HW
  clear hd hr h8 hn hLL
  go_enter Tryz.func31, Tryz.ntmps31
  go_wp2_with (first | (go_at_call 62; refine (HC.out).mono ?_; rintro e w' ⟨rfl, hbn⟩; replace hb := bnx hb hbn; clear hbn))
  refine (HW.out _ hb).mono ?_; rintro e w1 ⟨B, p, rfl, hC, hbn⟩; replace hb := bnx hb hbn
  replace hC := Qa.mk hC
  clear hbn
  go_wp2
  go_ret2
  exact ⟨_, _, rfl, hC.out, hb⟩
end Q21

namespace Q21
attribute [local go_sem] Qj Qi Ql Qk Qg Qf
open Q15
theorem Np (g : Nat) (fs cs : Array Value) (p : Int → Bool) (A : Option Addr) (cap : Nat) (l : List Int) (w : World) (eg : Q15.Enters g) (hr : (Kd.int .i64).C w A l.length l) (hl : l.length ≤ 1099511627776)
  (hp : ∀ x ∈ l, Vl g fs cs w x (p x)) :
  Calls Tryz.prog 96 #[.slice A l.length cap, .func (.func g) fs cs] w fun e w' => (∃ i : Int, e = .returned (.int .i64 i) ∧ -1 ≤ i ∧ i ≤ 1099511627776 ∧ decide (0 ≤ i) = l.any p) ∧ Below w.heap.size w w' := by
 have HP := Qa.mk hp
 have HR := Qa.mk hr
 have hlI : (l.length : Int) ≤ 1099511627776 := by omega
 obtain ⟨Post, hPost⟩ : ∃ P : Ending → Prop, P = fun e => ∃ i : Int, e = .returned (.int .i64 i) ∧ -1 ≤ i ∧ i ≤ 1099511627776 ∧ decide (0 ≤ i) = l.any p := ⟨_, rfl⟩
 have HPost : Qa (∀ i : Int, -1 ≤ i → i ≤ 1099511627776 → decide (0 ≤ i) = l.any p → Post (.returned (.int .i64 i))) := ⟨fun i h0 h1 h2 => by rw [hPost]; exact ⟨i, rfl, h0, h1, h2⟩⟩
 show Calls _ _ _ _ (fun e w' => (fun e => ∃ i : Int, e = .returned (.int .i64 i) ∧ -1 ≤ i ∧ i ≤ 1099511627776 ∧ decide (0 ≤ i) = l.any p) e ∧ Below w.heap.size w w')
 rw [← hPost]
 clear hp hr hPost hl
 unfold Q15.Enters at eg
 go_enter Tryz.func96, Tryz.ntmps96
 go_wp2
 go_loopw [8] (fun i wr => ∃ k : Nat, i = .int .i64 k ∧ k ≤ l.length ∧ Qa ((l.take k).any p = false) ∧ Below w.heap.size w wr) (fun i _ => l.length - (intOf i).toNat)
 case atStart => exact ⟨0, rfl, by omega, ⟨by simp⟩, Below.refl _ _⟩
 case round =>
  obtain ⟨k, rfl, hk, ha, hb⟩ := hrel
  by_cases hlt : k < l.length
  ·obtain ⟨ad, rfl, hcell⟩ := Qr HR.out hb hlt
   have hc := HP.out _ (Qt l k hlt) wr hb
   have HT := Qa.mk (Qx l k hlt)
   have HRD := Qa.mk (Qt l k hlt)
   have hkI : (k : Int) < (l.length : Int) := by omega
   obtain ⟨x, hx⟩ : ∃ x, x = rd l k := ⟨_, rfl⟩
   rw [← hx] at hcell hc HT HRD
   clear hx
   cases hpm : p x with
   | false =>
    rw [hpm] at hc
    have HC := Qa.mk hc
    have hpm := Qa.mk hpm
    clear hc
    go_wp2_with (go_at_fn g; refine HC.out.mono ?_; rintro e w' ⟨rfl, hb1⟩)
    go_roundw
    case rel => exact ⟨k + 1, by go_num, by omega, ⟨by rw [HT.out, List.any_append, ha.out]; simp [hpm.out]⟩, bnx hb hb1⟩
    case measure => simp [intOf]; omega
   | true =>
    rw [hpm] at hc
    have HC := Qa.mk hc
    have hf := Qa.mk (HPost.out (k : Int) (by omega) (by omega) (by rw [List.any_eq_true.2 ⟨x, HRD.out, hpm⟩]; exact decide_eq_true (by omega)))
    clear hc hpm
    go_wp2_with (go_at_fn g; refine HC.out.mono ?_; rintro e w' ⟨rfl, hb1⟩)
    go_ret
    exact ⟨hf.out, bnx hb hb1⟩
  ·obtain rfl : k = l.length := by omega
   have hA := ha.out
   rw [List.take_length] at hA
   have hf := Qa.mk (HPost.out (-1) (by omega) (by omega) (by rw [hA]; rfl))
   clear ha hA
   go_wp2
   go_ret
   exact ⟨hf.out, hb⟩
theorem X7 (g : Nat) (fs cs : Array Value) (p : Int → Bool) (A : Option Addr) (cap : Nat) (l : List Int) (w : World) (eg : Q15.Enters g) (hr : (Kd.int .i64).C w A l.length l) (hl : l.length ≤ 1099511627776)
  (hp : ∀ x ∈ l, Vl g fs cs w x (p x)) :
  Calls Tryz.prog 53 #[.slice A l.length cap, .func (.func g) fs cs] w fun e w' => e = .returned (.bool (l.any p)) ∧ Below w.heap.size w w' := by
 have hb := Below.refl w.heap.size w
 have HC := Qa.mk (Np g fs cs p A cap l w eg hr hl hp)
 obtain ⟨b, hbe⟩ : ∃ b, b = l.any p := ⟨_, rfl⟩
 rw [← hbe] at HC ⊢
 clear hp hr hbe
 go_enter Tryz.func53, Tryz.ntmps53
 go_wp2_with fail
 refine HC.out.mono ?_; rintro _ w1 ⟨⟨i, rfl, h0, h1, h2⟩, hbn⟩; replace hb := bnx hb hbn; clear hbn
 cases b with
 | true =>
  have h3 : decide (0 ≤ i) = true := h2
  clear h2
  go_wp2
  go_ret
  exact ⟨rfl, hb⟩
 | false =>
  have h3 : decide (0 ≤ i) = false := h2
  have h4 : i < 0 := by have := of_decide_eq_false h2; omega
  clear h2
  go_wp2
  go_ret
  exact ⟨rfl, hb⟩
def Jw (lo hi n : Int) : Bool := decide (n < lo ∨ hi < n)
theorem K4 (lo hi : Int) (l : List Int) : l.any (Jw lo hi) = !Q16.rng lo hi l := by
 unfold Q16.rng
 rw [List.not_all_eq_any_not]
 congr 1
 funext n
 unfold Jw
 rw [← decide_not]
 exact decide_eq_decide.2 (by omega)
theorem Lb (w : World) (x : Int) : Vl 170 #[] #[] w x (Jw (-127) 127 x) := by
 intro W hb
 show Calls Tryz.prog 170 #[.int .i64 x] W _
 unfold Jw
 by_cases h0 : x < -127
 ·rw [decide_eq_true (.inl h0)]
  go_enter Tryz.func170, Tryz.ntmps170
  go_wp2
  go_ret
  exact ⟨rfl, Below.refl _ _⟩
 ·by_cases h1 : 127 < x
  ·rw [decide_eq_true (.inr h1)]
   have h0' : decide (x < -127) = false := by simpa using h0
   go_enter Tryz.func170, Tryz.ntmps170
   go_wp2
   go_ret
   exact ⟨rfl, Below.refl _ _⟩
  ·rw [decide_eq_false (by omega)]
   have h0' : decide (x < -127) = false := by simpa using h0
   have h1' : decide (127 < x) = false := by simpa using h1
   go_enter Tryz.func170, Tryz.ntmps170
   go_wp2
   go_ret
   exact ⟨rfl, Below.refl _ _⟩
theorem Ol (w : World) (a b : Addr) (lo hi : Int) (ha : w.cell? a = some (.int .i64 lo)) (hbc : w.cell? b = some (.int .i64 hi)) (x : Int) : Vl 54 #[] #[.pointer (some a), .pointer (some b)] w x (Jw lo hi x) := by
 intro W hb
 show Calls Tryz.prog 54 #[.int .i64 x, .pointer (some a), .pointer (some b)] W _
 have ha' := cnx ha hb
 have hb' := cnx hbc hb
 unfold Jw
 clear ha hbc
 by_cases h0 : x < lo
 ·rw [decide_eq_true (.inl h0)]
  go_enter Tryz.func54, Tryz.ntmps54
  go_wp2
  go_ret
  exact ⟨rfl, Below.refl _ _⟩
 ·by_cases h1 : hi < x
  ·rw [decide_eq_true (.inr h1)]
   have h0' : decide (x < lo) = false := by simpa using h0
   go_enter Tryz.func54, Tryz.ntmps54
   go_wp2
   go_ret
   exact ⟨rfl, Below.refl _ _⟩
  ·rw [decide_eq_false (by omega)]
   have h0' : decide (x < lo) = false := by simpa using h0
   have h1' : decide (hi < x) = false := by simpa using h1
   go_enter Tryz.func54, Tryz.ntmps54
   go_wp2
   go_ret
   exact ⟨rfl, Below.refl _ _⟩
end Q21

namespace Q21
attribute [local go_sem] Qj Qi Ql Qk Qg Qf
open Q15
def Vp (l : List Int) : Bool := decide (l.length ≤ 12) && Q16.rng (-127) 127 l
theorem H5 (A : Option Addr) (cap : Nat) (l : List Int) (w : World) (hr : (Kd.int .i64).C w A l.length l) (hl : l.length ≤ 1000000) :
  Calls Tryz.prog 118 #[.slice A l.length cap] w fun e w' => e = .returned (.bool (Vp l)) ∧ Below w.heap.size w w' := by
 have hb := Below.refl w.heap.size w
 have HC := fun (W : World) (hb : Below w.heap.size w W) => X7 170 #[] #[] (Jw (-127) 127) A cap l W (fun _ _ => by kernel_rfl) (Kd.Qh hr hb) (by omega) (fun x _ => Lb W x)
 rw [K4] at HC
 unfold Vp
 obtain ⟨b, hbe⟩ : ∃ b, b = Q16.rng (-127) 127 l := ⟨_, rfl⟩
 rw [← hbe] at HC ⊢
 replace HC := Qa.mk HC
 clear hr hbe
 by_cases h12 : l.length ≤ 12
 ·rw [decide_eq_true h12]
  have h1 : decide ((l.length : Int) ≤ 12) = true := decide_eq_true (by omega)
  clear h12 hl
  cases b
  all_goals
   go_enter Tryz.func118, Tryz.ntmps118
   go_wp2_with (first | (go_at_call 53; refine (HC.out _ hb).mono ?_; rintro e w' ⟨rfl, hbn⟩; replace hb := bnx hb hbn; clear hbn))
   go_ret
   exact ⟨rfl, hb⟩
 ·rw [decide_eq_false h12]
  have h1 : decide ((l.length : Int) ≤ 12) = false := decide_eq_false (by omega)
  clear h12 hl HC
  go_enter Tryz.func118, Tryz.ntmps118
  go_wp2
  go_ret
  exact ⟨rfl, hb⟩
theorem J3 (A : Option Addr) (cap : Nat) (l : List Int) (lo hi : Int) (w : World) (hr : (Kd.int .i64).C w A l.length l) (hl : l.length ≤ 1000000) :
  Calls Tryz.prog 26 #[.slice A l.length cap, .int .i64 lo, .int .i64 hi] w fun e w' => e = .returned (.bool (Q16.rng lo hi l)) ∧ Below w.heap.size w w' := by
 have hb := Below.refl w.heap.size w
 have HC := fun (W : World) (a b : Addr) (hb : Below w.heap.size w W) (h1 : W.cell? a = some (.int .i64 lo)) (h2 : W.cell? b = some (.int .i64 hi)) => X7 54 #[] #[.pointer (some a), .pointer (some b)] (Jw lo hi) A cap l W (fun _ _ => by kernel_rfl) (Kd.Qh hr hb) (by omega) (fun x _ => Ol W a b lo hi h1 h2 x)
 rw [K4] at HC
 obtain ⟨b, hbe⟩ : ∃ b, b = Q16.rng lo hi l := ⟨_, rfl⟩
 rw [← hbe] at HC ⊢
 replace HC := Qa.mk HC
 clear hr hbe hl
 cases b
 all_goals
  go_enter Tryz.func26, Tryz.ntmps26
  go_wp2_with fail
  obtain ⟨W, hW⟩ : ∃ W, W = (w.alloc (.cells #[.int .i64 lo] 3)).alloc (.cells #[.int .i64 hi] 3) := ⟨_, rfl⟩
  rw [← hW]
  have k0 : W.cell? ⟨w.heap.size, 0, none⟩ = some (.int .i64 lo) := by rw [hW]; go_simp
  have k1 : W.cell? ⟨w.heap.size + 1, 0, none⟩ = some (.int .i64 hi) := by rw [hW]; go_simp
  replace hb : Below w.heap.size w W := by rw [hW]; exact (hb.alloc hb.size _).alloc (hb.alloc hb.size _).size _
  clear hW
  refine (HC.out W _ _ hb k0 k1).mono ?_; rintro _ w1 ⟨rfl, hbn⟩; replace hb := bnx hb hbn; clear hbn k0 k1
  go_wp2_with fail
  go_ret
  exact ⟨rfl, hb⟩
end Q21

namespace Q21
attribute [local go_sem] Qj Qi Ql Qk Qg Qf
open Q15
theorem Uo (A0 A1 : Option Addr) (c0 c1 : Nat) (l0 l1 : List Int) (w : World) (hr0 : (Kd.int .i64).C w A0 l0.length l0) (hr1 : (Kd.int .i64).C w A1 l1.length l1) (hl : l0.length ≤ 1099511627776) :
  Calls Tryz.prog 34 #[.slice A0 l0.length c0, .slice A1 l1.length c1] w fun e w' => e = .returned (.bool (decide (l0 = l1))) ∧ Below w.heap.size w w' := by
 by_cases hn : l0.length = l1.length
 ·have HR0 := Qa.mk hr0
  have HR1 := Qa.mk hr1
  rw [← hn] at HR1 ⊢
  have HN := Qa.mk hn
  clear hn hr0 hr1
  go_enter Tryz.func34, Tryz.ntmps34
  go_wp2
  go_loopw [13] (fun i wr => ∃ k : Nat, i = .int .i64 k ∧ k ≤ l0.length ∧ Qa (l0.take k = l1.take k) ∧ Below w.heap.size w wr) (fun i _ => l0.length - (intOf i).toNat)
  case atStart => exact ⟨0, rfl, by omega, ⟨rfl⟩, Below.refl _ _⟩
  case round =>
   obtain ⟨k, rfl, hk, ha, hb⟩ := hrel
   by_cases hlt : k < l0.length
   ·obtain ⟨ad0, rfl, hcell0⟩ := Kd.O3 HR0.out (k : Int) (by omega) (by omega)
    obtain ⟨ad1, rfl, hcell1⟩ := Kd.O3 HR1.out (k : Int) (by omega) (by omega)
    rw [Int.toNat_natCast] at hcell0 hcell1
    replace hcell0 := cnx hcell0 hb
    replace hcell1 := cnx hcell1 hb
    have HT0 := Qa.mk (Qx l0 k hlt)
    have HT1 := Qa.mk (Qx l1 k (by have := HN.out; omega))
    have hd0 := Y2 l0 k hlt
    have hd1 := Y2 l1 k (by have := HN.out; omega)
    have HNE : Qa (rd l0 k ≠ rd l1 k → l0 ≠ l1) := ⟨fun h e => h (by rw [e])⟩
    obtain ⟨x, hx⟩ : ∃ x, x = rd l0 k := ⟨_, rfl⟩
    obtain ⟨y, hy⟩ : ∃ y, y = rd l1 k := ⟨_, rfl⟩
    rw [← hx] at hcell0 HT0 HNE
    rw [← hy] at hcell1 HT1 HNE
    clear hx hy hd0 hd1
    by_cases he : x = y
    ·subst he
     go_wp2
     go_quiet (fail)
     go_wp2
     go_roundw
     case rel => exact ⟨k + 1, by go_num, by omega, ⟨by rw [HT0.out, HT1.out, ha.out]⟩, below_drewN' hb nq⟩
     case measure => simp [intOf]; omega
    ·have HNE2 := Qa.mk (HNE.out he)
     have he2 : (x != y) = true := by rw [bne_iff_ne]; exact he
     go_wp2
     go_quiet (fail)
     go_wp2
     go_ret
     exact ⟨by rw [decide_eq_false HNE2.out]; rfl, below_drewN' hb nq⟩
   ·obtain rfl : k = l0.length := by omega
    have e : l0 = l1 := by
     have h1 := ha.out
     rw [List.take_length, HN.out, List.take_length] at h1
     exact h1
    have HE := Qa.mk e
    clear e
    go_wp2
    go_ret
    exact ⟨by rw [decide_eq_true HE.out]; rfl, hb⟩
 ·have he : l0 ≠ l1 := fun h => hn (by rw [h])
  rw [decide_eq_false he]
  have hn2 : (l0.length != l1.length) = true := by rw [bne_iff_ne]; exact hn
  have hn3 : ((l0.length : Int) != (l1.length : Int)) = true := by rw [bne_iff_ne]; omega
  clear hn he
  go_enter Tryz.func34, Tryz.ntmps34
  go_wp2
  go_ret
  exact ⟨rfl, Below.refl _ _⟩
theorem U8 (A : Option Addr) (cap n : Nat) (ch many : Int) (w : World) :
  Calls Tryz.prog 51 #[.slice A n cap, .int .i64 ch, .int .i64 many] w fun e w' => e = .returned (.bool (if ch = 1 then decide (n = 0) else decide ((n : Int) = many))) ∧ Below w.heap.size w w' := by
 have hb := Below.refl w.heap.size w
 by_cases h1 : ch = 1
 ·rw [if_pos h1]
  subst h1
  by_cases h0 : n = 0
  ·rw [decide_eq_true h0]
   have h2 : ((n : Int) == 0) = true := beq_iff_eq.2 (by omega)
   clear h0
   go_enter Tryz.func51, Tryz.ntmps51
   go_wp2
   go_ret
   exact ⟨rfl, hb⟩
  ·rw [decide_eq_false h0]
   have h2 : ((n : Int) == 0) = false := beq_eq_false_iff_ne.2 (by omega)
   clear h0
   go_enter Tryz.func51, Tryz.ntmps51
   go_wp2
   go_ret
   exact ⟨rfl, hb⟩
 ·rw [if_neg h1]
  have h3 : (ch == 1) = false := beq_eq_false_iff_ne.2 h1
  by_cases h0 : (n : Int) = many
  ·rw [decide_eq_true h0]
   have h2 : ((n : Int) == many) = true := beq_iff_eq.2 h0
   clear h0 h1
   go_enter Tryz.func51, Tryz.ntmps51
   go_wp2
   go_ret
   exact ⟨rfl, hb⟩
  ·rw [decide_eq_false h0]
   have h2 : ((n : Int) == many) = false := beq_eq_false_iff_ne.2 h0
   clear h0 h1
   go_enter Tryz.func51, Tryz.ntmps51
   go_wp2
   go_ret
   exact ⟨rfl, hb⟩
end Q21

namespace Q21
attribute [local go_sem] Qj Qi Ql Qk Qg Qf
open Q15
def rnd (x : Int) : Int := (2 * x + 128) / 256
theorem tq (a b : Int) (hb : 0 < b) : b * a.tdiv b + a.tmod b = a ∧ -b < a.tmod b ∧ a.tmod b < b := by
 have h1 := Int.tmod_lt_of_pos a hb
 have h2 := Int.tmod_lt_of_pos (-a) hb
 rw [Int.neg_tmod] at h2
 exact ⟨Int.mul_tdiv_add_tmod a b, by omega, h1⟩
theorem L9 (x : Int) (w : World) (h0 : -1099511627776 ≤ x) (h1 : x ≤ 1099511627776) :
  Calls Tryz.prog 172 #[.int .i64 x, .int .i64 128] w fun e w' => e = .returned (.int .i64 (rnd x)) ∧ Below w.heap.size w w' := by
 have ht := tq (2 * x + 128) 256 (by decide)
 have hv : rnd x = (2 * x + 128) / 256 := rfl
 have hq : -4294967296 * 256 ≤ (2 * x + 128).tdiv 256 ∧ (2 * x + 128).tdiv 256 ≤ 4294967296 * 256 := by omega
 by_cases hm : (2 * x + 128).tmod 256 < 0
 ·have e : Qa (rnd x = (2 * x + 128).tdiv 256 - 1) := ⟨by rw [hv]; omega⟩
  clear ht hv
  obtain ⟨r, hr⟩ : ∃ r, r = rnd x := ⟨_, rfl⟩
  rw [← hr] at e ⊢
  clear hr
  go_enter Tryz.func172, Tryz.ntmps172
  go_wp2
  go_ret
  exact ⟨by rw [e.out]; rfl, Below.refl _ _⟩
 ·have e : Qa (rnd x = (2 * x + 128).tdiv 256) := ⟨by rw [hv]; omega⟩
  have hm' : decide ((2 * x + 128).tmod 256 < 0) = false := by simpa using hm
  clear ht hv
  obtain ⟨r, hr⟩ : ∃ r, r = rnd x := ⟨_, rfl⟩
  rw [← hr] at e ⊢
  clear hr
  go_enter Tryz.func172, Tryz.ntmps172
  go_wp2
  go_ret
  exact ⟨by rw [e.out]; rfl, Below.refl _ _⟩
end Q21

namespace Q21
attribute [local go_sem] Qj Qi Ql Qk Qg Qf
open Q15
def newF (a : List Int) (k : Int) (i : Nat) : Int := rd a i + rnd (k * rd a ((a.length - 1 - i : Nat) : Int))
def Nc (a : List Int) (k : Int) : List Int := ((List.range a.length).map (newF a k)) ++ [32 * k]
def Zb (f : List Int) : List Int := f.foldl Nc []
theorem I4 {k y M : Int} (hk : -127 ≤ k ∧ k ≤ 127) (hy : -M ≤ y ∧ y ≤ M) : -(127 * M) ≤ k * y ∧ k * y ≤ 127 * M := by
 have h1 : (k * y).natAbs = k.natAbs * y.natAbs := Int.natAbs_mul k y
 have h2 : k.natAbs * y.natAbs ≤ 127 * M.natAbs := Nat.mul_le_mul (by omega) (by omega)
 omega
theorem rnd_bd {k y M : Int} (hk : -127 ≤ k ∧ k ≤ 127) (hy : -M ≤ y ∧ y ≤ M) : -M ≤ rnd (k * y) ∧ rnd (k * y) ≤ M := by
 have h := I4 hk hy
 unfold rnd
 generalize k * y = p at h ⊢
 omega
theorem Gp (f : List Int) : (Zb f).length = f.length := by
 have : ∀ (f a : List Int), (f.foldl Nc a).length = a.length + f.length := fun f => by
  induction f with
  | nil => intro a; simp
  | cons k t ih => intro a; rw [List.foldl_cons, ih]; unfold Nc; simp; omega
 rw [Zb, this]; simp
theorem stepF_bd {a : List Int} {k M : Int} (hk : -127 ≤ k ∧ k ≤ 127) (hM : 4096 ≤ M) (ha : ∀ x ∈ a, -M ≤ x ∧ x ≤ M) : ∀ x ∈ Nc a k, -(2 * M) ≤ x ∧ x ≤ 2 * M := by
 intro x hx
 unfold Nc at hx
 rcases List.mem_append.1 hx with hx | hx
 ·obtain ⟨i, hi, rfl⟩ := List.mem_map.1 hx
  replace hi := List.mem_range.1 hi
  have h1 := ha _ (Qt a i hi)
  have h2 := ha _ (Qt a (a.length - 1 - i) (by omega))
  have h3 := rnd_bd hk h2
  unfold newF
  omega
 ·rw [List.mem_singleton.1 hx]; omega
def U6 (a : List Int) (k : Int) (j : Nat) : List Int := (List.range a.length).map fun i => if i < j then newF a k i else rd a i
theorem Gs (a : List Int) (k : Int) (j i : Nat) (h : i < (U6 a k j).length) : (U6 a k j)[i] = if i < j then newF a k i else rd a i := by simp [U6]
theorem Qbf (a : List Int) (k : Int) : U6 a k 0 = a := by
 refine List.ext_getElem (by simp [U6]) (fun i h1 h2 => ?_)
 rw [Gs, if_neg (by omega)]
 exact Y2 a i h2
theorem Gq (a : List Int) (k : Int) (j : Nat) : (U6 a k j).length = a.length := by unfold U6; simp
theorem Qah (a : List Int) (k : Int) {j : Nat} (hj : j < a.length) : U6 a k (j + 1) = (U6 a k j).set j (newF a k j) := by
 refine List.ext_getElem (by simp [U6]) (fun i h1 h2 => ?_)
 rw [List.getElem_set, Gs, Gs]
 by_cases h : j = i
 ·subst h; rw [if_pos (by omega), if_pos rfl]
 ·rw [if_neg h]
  by_cases h3 : i < j
  ·rw [if_pos h3, if_pos (by omega)]
  ·rw [if_neg h3, if_neg (by omega)]
theorem updF_all (a : List Int) (k : Int) : U6 a k a.length = (List.range a.length).map (newF a k) := by
 unfold U6
 refine List.map_congr_left fun i hi => ?_
 rw [if_pos (List.mem_range.1 hi)]
theorem rd_updF (a : List Int) (k : Int) {j : Nat} (hj : j < a.length) : rd (U6 a k j) j = rd a j := by
 rw [Y2 _ _ (by rw [Gq]; exact hj), Gs, if_neg (by omega)]
end Q21

namespace Pre
attribute [local go_sem] Qj Qi Ql Qk Qg Qf
open Q15
open Q21 (Jw K4 X7)
def Nh (n : Int) : Int := if 0 < n then 65536 / 2 ^ n.toNat else 0
def Jy (l : List Int) : Int := (l.map Nh).sum
def U4 (l : List Int) : Int := if (decide (256 < l.length) || !Q16.rng 0 16 l) = true then 1 else if Jy l = 0 then 5 else if 65536 < Jy l then 4 else 0
theorem E9 (n : Int) : 0 ≤ Nh n ∧ Nh n ≤ 65536 := by
 unfold Nh
 by_cases h : 0 < n
 ·rw [if_pos h]
  have hp : (0 : Int) < 2 ^ n.toNat := Int.pow_pos (by omega)
  exact ⟨Int.ediv_nonneg (by omega) (by omega), Int.ediv_le_self _ (by omega)⟩
 ·rw [if_neg h]; omega
theorem Er (l : List Int) : 0 ≤ Jy l ∧ Jy l ≤ 65536 * l.length := by
 unfold Jy
 induction l with
 | nil => simp
 | cons a t ih =>
  have := E9 a
  simp only [List.map_cons, List.sum_cons, List.length_cons]
  omega
theorem O0 (l : List Int) {k : Nat} (hk : k < l.length) : Jy (l.take (k + 1)) = Jy (l.take k) + Nh (rd l k) := by
 rw [Qx l k hk]
 unfold Jy
 rw [List.map_append, List.sum_append]
 simp
theorem Ww (x : Int) (w : World) :
  Calls Tryz.prog 224 #[.int .i64 x] w fun e w' => e = .returned (.bool (Jw 0 16 x)) ∧ Below w.heap.size w w' := by
 have hb := Below.refl w.heap.size w
 have HX := Qa.mk (show (x < 0 → Jw 0 16 x = true) ∧ (16 < x → Jw 0 16 x = true) ∧ (¬ x < 0 → ¬ 16 < x → Jw 0 16 x = false) by
  unfold Jw
  simp only [decide_eq_true_eq, decide_eq_false_iff_not]
  omega)
 by_cases h0 : x < 0
 ·go_enter Tryz.func224, Tryz.ntmps224
  go_wp2
  go_ret
  exact ⟨by rw [HX.out.1 h0]; rfl, hb⟩
 ·by_cases h1 : 16 < x
  ·have t1 : decide (x < 0) = false := decide_eq_false h0
   have t2 : decide (16 < x) = true := decide_eq_true h1
   go_enter Tryz.func224, Tryz.ntmps224
   go_wp2
   go_ret
   exact ⟨by rw [HX.out.2.1 h1]; rfl, hb⟩
  ·have t1 : decide (x < 0) = false := decide_eq_false h0
   have t2 : decide (16 < x) = false := decide_eq_false h1
   have hE := Qa.mk (HX.out.2.2 h0 h1)
   clear h0 h1
   go_enter Tryz.func224, Tryz.ntmps224
   go_wp2
   go_ret
   exact ⟨by rw [hE.out]; rfl, hb⟩
theorem chk1_fn (w : World) (x : Int) : Vl 224 #[] #[] w x (Jw 0 16 x) := fun W hb => Ww x W
theorem M5 (A : Option Addr) (cap : Nat) (l : List Int) (w : World) (hr : (Kd.int .i64).C w A l.length l) (hl : l.length ≤ 256) (h16 : ∀ n ∈ l, 0 ≤ n ∧ n ≤ 16) :
  Calls Tryz.prog 225 #[.slice A l.length cap] w fun e w' => e = .returned (.int .i64 (Jy l)) ∧ Below w.heap.size w w' := by
 have hlI : (l.length : Int) ≤ 256 := by omega
 have HR := Qa.mk hr
 have H16 := Qa.mk h16
 have HB := Qa.mk (fun k => Er (l.take k))
 clear hr h16 hl
 go_enter Tryz.func225, Tryz.ntmps225
 go_wp2_with fail
 go_loop [3, 8] (fun s i => ∃ k : Nat, i = .int .i64 k ∧ k ≤ l.length ∧ s = .int .i64 (Jy (l.take k))) (fun _ i => l.length - (intOf i).toNat)
 case atStart => exact ⟨0, rfl, by omega, rfl⟩
 case round =>
  obtain ⟨k, rfl, hk, rfl⟩ := hrel
  by_cases hlt : k < l.length
  ·obtain ⟨ad, rfl, hcell⟩ := Qr HR.out (Below.refl _ _) hlt
   have hkI : (k : Int) < (l.length : Int) := by omega
   have hT := O0 l hlt
   have hx := H16.out _ (Qt l k hlt)
   have hbd := HB.out k
   have htl : ((l.take k).length : Int) ≤ 256 := by rw [List.length_take]; omega
   obtain ⟨s, hs⟩ : ∃ s, s = Jy (l.take k) := ⟨_, rfl⟩
   rw [← hs] at hbd hT ⊢
   have hsb : 0 ≤ s ∧ s ≤ 16777216 := by omega
   obtain ⟨x, hxe⟩ : ∃ x, x = rd l k := ⟨_, rfl⟩
   rw [← hxe] at hx hcell hT
   have hfb := E9 x
   clear hbd htl hs hxe
   by_cases h0 : 0 < x
   ·have hfo : Nh x = 65536 / 2 ^ x.toNat := by unfold Nh; rw [if_pos h0]
    have hT' : Qa (Jy (l.take (k + 1)) = s + 65536 / 2 ^ x.toNat) := ⟨by rw [hT, hfo]⟩
    rw [hfo] at hfb
    obtain ⟨y, hy⟩ : ∃ y, (65536 : Int) / 2 ^ x.toNat = y := ⟨_, rfl⟩
    rw [hy] at hfb hT'
    clear hT hfo
    have hlt' := Qa.mk hlt
    clear hlt
    go_wp2_with fail
    go_round
    case rel => exact ⟨k + 1, by go_num, hlt'.out, by rw [hT'.out]⟩
    case measure => have := hlt'.out; simp [intOf]; omega
   ·have hT' : Qa (Jy (l.take (k + 1)) = s) := ⟨by rw [hT]; unfold Nh; rw [if_neg h0]; omega⟩
    have hlt' := Qa.mk hlt
    clear hT hfb hlt
    go_wp2_with fail
    go_round
    case rel => exact ⟨k + 1, by go_num, hlt'.out, by rw [hT'.out]⟩
    case measure => have := hlt'.out; simp [intOf]; omega
  ·obtain rfl : k = l.length := by omega
   rw [List.take_length]
   go_wp2_with fail
   go_ret
   exact ⟨rfl, Below.refl _ _⟩
theorem Vt (A : Option Addr) (cap : Nat) (l : List Int) (w : World) (hr : (Kd.int .i64).C w A l.length l) (hl : l.length ≤ 1000000) :
  Calls Tryz.prog 197 #[.slice A l.length cap] w fun e w' => e = .returned (.int .i64 (U4 l)) ∧ Below w.heap.size w w' := by
 have HC := Qa.mk (X7 224 #[] #[] (Jw 0 16) A cap l w (enters_of Tryz.func224 (by kernel_rfl) rfl) hr (by omega) (fun x _ => chk1_fn w x))
 rw [K4] at HC
 have hlI : (l.length : Int) ≤ 1000000 := by omega
 have hb := Below.refl w.heap.size w
 by_cases h6 : 256 < l.length
 ·have t1 : decide (256 < (l.length : Int)) = true := decide_eq_true (by omega)
  have hE : Qa (U4 l = 1) := ⟨by unfold U4; rw [decide_eq_true h6]; rfl⟩
  clear hr HC h6
  go_enter Tryz.func197, Tryz.ntmps197
  go_wp2_with fail
  go_ret
  exact ⟨by rw [hE.out]; rfl, hb⟩
 ·have t1 : decide (256 < (l.length : Int)) = false := decide_eq_false (by omega)
  cases hq : Q16.rng 0 16 l with
  | false =>
   have hE : Qa (U4 l = 1) := ⟨by unfold U4; rw [hq]; simp⟩
   rw [hq] at HC
   clear hr hq
   go_enter Tryz.func197, Tryz.ntmps197
   go_wp2_with fail
   refine HC.out.mono ?_; rintro e w1 ⟨rfl, hbn⟩
   go_wp2_with fail
   go_ret
   exact ⟨by rw [hE.out]; rfl, hbn⟩
  | true =>
   have h16 : ∀ n ∈ l, 0 ≤ n ∧ n ≤ 16 := fun n hn => by
    have := List.all_eq_true.1 hq n hn
    simpa using this
   have HF := Qa.mk (fun (W : World) (hb : Below w.heap.size w W) => M5 A cap l W (Kd.Qh hr hb) (by omega) h16)
   have hE : Qa (U4 l = if Jy l = 0 then 5 else if 65536 < Jy l then 4 else 0) := ⟨by unfold U4; rw [hq, decide_eq_false h6]; rfl⟩
   have hbd := Er l
   rw [hq] at HC
   obtain ⟨f, hf⟩ : ∃ f, f = Jy l := ⟨_, rfl⟩
   rw [← hf] at HF hE hbd
   have hfb : 0 ≤ f ∧ f ≤ 65536000000 := by omega
   clear hr hq hf hbd h6 h16
   by_cases h0 : f = 0
   ·have t2 : (f == 0) = true := by rw [beq_iff_eq]; exact h0
    have hE2 : Qa (U4 l = 5) := ⟨by rw [hE.out, if_pos h0]⟩
    clear hE h0
    go_enter Tryz.func197, Tryz.ntmps197
    go_wp2_with fail
    refine HC.out.mono ?_; rintro e w1 ⟨rfl, hbn⟩
    go_wp2_with fail
    refine (HF.out _ hbn).mono ?_; rintro e w2 ⟨rfl, hbn2⟩
    replace hbn := bnx hbn hbn2
    clear hbn2
    go_wp2_with fail
    go_ret
    exact ⟨by rw [hE2.out]; rfl, hbn⟩
   ·have t2 : (f == 0) = false := by rw [beq_eq_false_iff_ne]; exact h0
    by_cases h1 : 65536 < f
    ·have t3 : decide (65536 < f) = true := decide_eq_true h1
     have hE2 : Qa (U4 l = 4) := ⟨by rw [hE.out, if_neg h0, if_pos h1]⟩
     clear hE h0 h1
     go_enter Tryz.func197, Tryz.ntmps197
     go_wp2_with fail
     refine HC.out.mono ?_; rintro e w1 ⟨rfl, hbn⟩
     go_wp2_with fail
     refine (HF.out _ hbn).mono ?_; rintro e w2 ⟨rfl, hbn2⟩
     replace hbn := bnx hbn hbn2
     clear hbn2
     go_wp2_with fail
     go_ret
     exact ⟨by rw [hE2.out]; rfl, hbn⟩
    ·have t3 : decide (65536 < f) = false := decide_eq_false h1
     have hE2 : Qa (U4 l = 0) := ⟨by rw [hE.out, if_neg h0, if_neg h1]⟩
     clear hE h0 h1
     go_enter Tryz.func197, Tryz.ntmps197
     go_wp2_with fail
     refine HC.out.mono ?_; rintro e w1 ⟨rfl, hbn⟩
     go_wp2_with fail
     refine (HF.out _ hbn).mono ?_; rintro e w2 ⟨rfl, hbn2⟩
     replace hbn := bnx hbn hbn2
     clear hbn2
     go_wp2_with fail
     go_ret
     exact ⟨by rw [hE2.out]; rfl, hbn⟩
end Pre

namespace Pre
attribute [local go_sem] Qj Qi Ql Qk Qg Qf
open Q15
open Runs Go.Shelf
open Q16 (Q0 Q8)
attribute [local go_sem] Oper.semAt_some
def K9 (l : List Int) (n m : Nat) : List Nat := (List.range m).filter fun i => decide (rd l i = n)
def J2 (l : List Int) (j : Nat) : List Nat := ((List.range j).map fun a => K9 l (a + 1) l.length).flatten
def Yc (l : List Int) (j m : Nat) : List Nat := J2 l j ++ K9 l (j + 1) m
def Xb (l : List Int) : List Nat := J2 l 16
def C9 (l : List Int) (k : Nat) : Nat := (Xb l).getD k 0
theorem R9 (l : List Int) (n m : Nat) : K9 l n (m + 1) = if rd l m = n then K9 l n m ++ [m] else K9 l n m := by
 unfold K9
 rw [List.range_succ, List.filter_append]
 by_cases h : rd l m = n
 ·rw [if_pos h]; simp [h]
 ·rw [if_neg h]; simp [h]
theorem Ul (l : List Int) (j : Nat) : J2 l (j + 1) = J2 l j ++ K9 l (j + 1) l.length := by
 unfold J2
 rw [List.range_succ, List.map_append, List.flatten_append]
 simp
theorem D8 (l : List Int) (j : Nat) : Yc l j 0 = J2 l j := by simp [Yc, K9]
theorem Si (l : List Int) (j : Nat) : Yc l j l.length = Yc l (j + 1) 0 := by rw [D8, Ul]; rfl
theorem Tc (l : List Int) (j m : Nat) : Yc l j (m + 1) = if rd l m = ((j + 1 : Nat) : Int) then Yc l j m ++ [m] else Yc l j m := by
 unfold Yc
 rw [R9]
 by_cases h : rd l m = ((j + 1 : Nat) : Int)
 ·rw [if_pos h, if_pos h, List.append_assoc]
 ·rw [if_neg h, if_neg h]
theorem Ce (l : List Int) (n m : Nat) : ∀ k, K9 l n m <+: K9 l n (m + k)
 | 0 => List.prefix_refl _
 | k + 1 => by
  refine (Ce l n m k).trans ?_
  rw [← Nat.add_assoc, R9]
  by_cases h : rd l (m + k : Nat) = n
  ·rw [if_pos h]; exact List.prefix_append _ _
  ·rw [if_neg h]; exact List.prefix_refl _
theorem Sd (l : List Int) (j : Nat) : ∀ k, J2 l j <+: J2 l (j + k)
 | 0 => List.prefix_refl _
 | k + 1 => by
  refine (Sd l j k).trans ?_
  rw [← Nat.add_assoc, Ul]
  exact List.prefix_append _ _
theorem Qbi {l : List Int} {j m : Nat} (hj : j < 16) (hm : m ≤ l.length) : Yc l j m <+: Xb l := by
 have h1 : Yc l j m <+: Yc l j l.length := by
  unfold Yc
  have := Ce l (j + 1) m (l.length - m)
  rw [show m + (l.length - m) = l.length by omega] at this
  exact (List.prefix_append_right_inj _).2 this
 have h2 := Sd l (j + 1) (16 - (j + 1))
 rw [show j + 1 + (16 - (j + 1)) = 16 by omega] at h2
 rw [Si, D8] at h1
 exact h1.trans h2
theorem ord_at {l : List Int} {j m : Nat} (hj : j < 16) (hm : m < l.length) (h : rd l m = ((j + 1 : Nat) : Int)) : (Yc l j m).length < (Xb l).length ∧ (Xb l).getD (Yc l j m).length 0 = m := by
 have h1 := Qbi hj (show m + 1 ≤ l.length by omega)
 rw [Tc, if_pos h] at h1
 obtain ⟨t, ht⟩ := h1
 rw [← ht]
 simp
theorem ordL_mem {l : List Int} {i : Nat} (h : i ∈ Xb l) : i < l.length ∧ 1 ≤ rd l i ∧ rd l i ≤ 16 := by
 unfold Xb J2 K9 at h
 simp only [List.mem_flatten, List.mem_map, List.mem_range] at h
 obtain ⟨_, ⟨a, ha, rfl⟩, h⟩ := h
 simp at h
 omega
def Vu (S B1 : Nat) (A B : World) : Prop := Below S A B ∧ B.heap[B1]? = A.heap[B1]?
theorem Vu.trans {S B1 : Nat} {A B C : World} (h : Vu S B1 A B) (k : Vu S B1 B C) : Vu S B1 A C := ⟨h.1.trans k.1, k.2.trans h.2⟩
theorem Vu.putObj {S B1 N : Nat} (h0 : S ≤ N) (h1 : B1 < N) (W : World) (l : Nat) (o o' : Obj) (hl : N ≤ l) (ho : W.heap[l]? = some o) (hc : o.isCells = false) (hw : o.isWalk = false) : Vu S B1 W (W.putObj l o') :=
 ⟨(Below.refl S W).grown (grownBy_putObj' W l o') (by have := (Array.getElem?_eq_some_iff.1 ho).1; omega) (fun k e => by cases e; omega), World.putObj_heap_other (by omega)⟩
theorem P8 (F : Fence) (n : Nat) (hF : F.fn 234) (hro : F.round = none) (hn : 1 ≤ n) (B1 : Nat) (A1 : Option Addr) (cap : Nat) (l : List Int) (hl : l.length ≤ 256) (wS w : World) (hr : (Kd.int .i64).C wS A1 l.length l) (hS : Below wS.heap.size wS w)
  (c1 : w.cell? ⟨B1, 0, none⟩ = some (.slice A1 l.length cap)) :
  Yj F n Tryz.prog 234 #[.pointer (some ⟨B1, 0, none⟩)] (fun k => #[.int .i64 (C9 l k : Nat)]) (Vu wS.heap.size B1) (Xb l).length w := fun L J W hW hY h0 hJd => by
 clear hJd
 have d1 := cnx c1 hW
 have hS' := bnx hS hW
 have HR := Qa.mk hr
 have HY := Qa.mk hY
 have hlI : (l.length : Int) ≤ 256 := by omega
 clear hY c1 hr hl
 refine callsIn_of_wp Tryz.func234 rfl hF ?_ hro
 simp only [Tryz.ntmps234, List.size_toArray, List.length_cons, List.length_nil, Nat.reduceAdd, Nat.reduceSub, Array.replicate_succ, Array.replicate_zero, List.push_toArray, List.append_toArray, List.nil_append, List.cons_append]
 gi_wp2
 gi_loopw [3] (fun i wr => ∃ j : Nat, i = .int .i64 ((j : Int) + 1) ∧ j ≤ 16 ∧ wr.cell? ⟨B1, 0, none⟩ = some (.slice A1 l.length cap) ∧ Qa (Below wS.heap.size wS wr) ∧ Qa (J (Yc l j 0).length wr)) (fun i _ => 17 - (intOf i).toNat)
 case atStart => exact ⟨0, rfl, by omega, d1, ⟨hS'⟩, ⟨by simpa [Yc, K9, J2] using h0⟩⟩
 case round =>
  obtain ⟨j, rfl, hj, e1, hb, hJs⟩ := hrel
  clear d1 hS'
  have hjI : (j : Int) ≤ 16 := by omega
  by_cases hlt : j < 16
  ·have hjI2 : (j : Int) + 1 ≤ 16 := by omega
   have hj16 := Qa.mk hlt
   clear hlt hj
   gi_wp2
   gi_loopw [12] (fun i wr => ∃ m : Nat, i = .int .i64 m ∧ m ≤ l.length ∧ wr.cell? ⟨B1, 0, none⟩ = some (.slice A1 l.length cap) ∧ Qa (Below wS.heap.size wS wr) ∧ Qa (J (Yc l j m).length wr)) (fun i _ => l.length - (intOf i).toNat)
   case atStart => exact ⟨0, rfl, by omega, e1, hb, hJs⟩
   case round =>
    obtain ⟨m, rfl, hm, e1', hb', hJm⟩ := hrel
    clear e1 hb hJs
    by_cases hltm : m < l.length
    ·obtain ⟨ad, rfl, hcell⟩ := Qr HR.out hb'.out hltm
     have hmI : (m : Int) < (l.length : Int) := by omega
     have hltm' := Qa.mk hltm
     by_cases he : rd l m = ((j + 1 : Nat) : Int)
     ·obtain ⟨q1, q2⟩ := ord_at hj16.out hltm he
      obtain ⟨fn, tmps, assign, body, hy, hR⟩ := HY.out (Yc l j m).length wr q1 hJm.out
      rw [show C9 l (Yc l j m).length = m from q2] at hy
      have hT := Qa.mk (show (Yc l j (m + 1)).length = (Yc l j m).length + 1 by rw [Tc, if_pos he]; simp)
      have he2 : (rd l m) = (j : Int) + 1 := by rw [he]; omega
      rw [he2] at hcell
      have hR2 := Qa.mk hR
      clear hR he he2 q1 q2 hltm
      gi_wp2
      refine hR2.out.mono ?_
      rintro e W3 ⟨rfl, hJ3, hk3⟩
      have b1 := (Q0 hk3.2).trans e1'
      have hb3 := Qa.mk (hb'.out.trans hk3.1)
      replace hJ3 := Qa.mk hJ3
      clear hR2 e1' hk3 hy
      gi_wp2
      go_roundw
      case rel => exact ⟨m + 1, by go_num, hltm'.out, b1, hb3, ⟨by rw [hT.out]; exact hJ3.out⟩⟩
      case measure => have := hltm'.out; simp [intOf]; omega
     ·have hT := Qa.mk (show (Yc l j (m + 1)).length = (Yc l j m).length by rw [Tc, if_neg he])
      obtain ⟨x, hx⟩ : ∃ x, x = rd l m := ⟨_, rfl⟩
      rw [← hx] at hcell he
      have t1 : (x == (j : Int) + 1) = false := by rw [beq_eq_false_iff_ne]; omega
      clear hx he hltm
      gi_wp2
      refine ⟨fun f hf => (by cases hf), ?_⟩
      gi_wp2
      go_roundw
      case rel => exact ⟨m + 1, by go_num, hltm'.out, e1', hb', ⟨by rw [hT.out]; exact hJm.out⟩⟩
      case measure => have := hltm'.out; simp [intOf]; omega
    ·obtain rfl : m = l.length := by omega
     have hJn := Qa.mk (show J (Yc l (j + 1) 0).length wr by rw [← Si]; exact hJm.out)
     gi_wp2
     go_roundw
     case rel => exact ⟨j + 1, by go_num, by have := hj16.out; omega, e1', hb', hJn⟩
     case measure => have := hj16.out; simp [intOf]; omega
  ·obtain rfl : j = 16 := by omega
   gi_wp2
   go_end0
   refine ⟨⟨_, rfl⟩, ?_⟩
   have h := hJs.out
   rw [D8] at h
   exact h
theorem Rl (A : Option Addr) (n c : Nat) (w : World) :
  Calls Tryz.prog 226 #[.slice A n c] w fun e w' => e = .returned (.func (.func 234) #[] #[.pointer (some ⟨w.heap.size, 0, none⟩)]) ∧ w' = w.alloc (.cells #[.slice A n c] 22) := by
 go_enter Tryz.func226, Tryz.ntmps226
 go_wp2
 go_ret
 exact ⟨rfl, rfl⟩
end Pre

end Go.Proofs.YtnflnicdjioflaaGreatDoor
