/- A part of the proof. -/
import Derived.Test.YtnflnicdjioflaaGreatDoorSlao
set_option linter.unusedVariables false
set_option linter.unusedSimpArgs false
set_option maxRecDepth 100000
set_option maxHeartbeats 8000000
namespace Go.Proofs.YtnflnicdjioflaaGreatDoor
open Go.RowKit Go.Proofs.YtnflnicdjioflaaGreatDoorW.PrintWords Go.Proofs.YtnflnicdjioflaaGreatDoorW.PrintLast Go.Proofs.YtnflnicdjioflaaGreatDoorW.PrintMore
namespace St
open Bk (Jl Jo)
attribute [local go_sem] Jl Jo Ql Qk Qg Qf
open Q15
open Q21
theorem Dm (x m : Int) (B : Nat) (w : World) (hc : w.cell? ⟨B, 0, none⟩ = some (.int .i64 m)) (h0 : -m ≤ x) (h1 : x ≤ m) (h2 : m ≤ 1099511627776) :
  Calls Tryz.prog 175 #[.int .i64 x, .pointer (some ⟨B, 0, none⟩)] w fun e w' => e = .returned (.bool true) ∧ w' = w := by
 have t1 : decide (-m ≤ x) = true := decide_eq_true h0
 have t2 : decide (x ≤ m) = true := decide_eq_true h1
 have hm : 0 ≤ m := by omega
 clear h0 h1
 go_enter Tryz.func175, Tryz.ntmps175
 go_wp2
 go_ret
 exact ⟨rfl, rfl⟩
theorem Hw (m : Int) (w : World) :
  Calls Tryz.prog 125 #[.int .i64 m] w fun e w' => e = .returned (.func (.func 175) #[] #[.pointer (some ⟨w.heap.size, 0, none⟩)]) ∧ w' = w.alloc (.cells #[.int .i64 m] 3) := by
 go_enter Tryz.func125, Tryz.ntmps125
 go_wp2
 go_ret
 exact ⟨rfl, rfl⟩
def Ht (m s : Int) : Int := m - s / 2
def Cj (m s : Int) : Int := Ht m s + s
theorem Av (m s : Int) (w : World) (hm : -4294967296 ≤ m ∧ m ≤ 4294967296) (hs : -4294967296 ≤ s ∧ s ≤ 4294967296) :
  Calls Tryz.prog 75 #[.int .i64 m, .int .i64 s] w fun e w' => e = .returned (.tuple #[.int .i64 (Cj m s), .int .i64 (Ht m s), .int .i64 0]) ∧ Below w.heap.size w w' := by
 have hI := Qa.mk (Hw 4294967296 w)
 go_enter Tryz.func75, Tryz.ntmps75
 go_wp2_with fail
 refine hI.out.mono ?_
 rintro e w1 ⟨rfl, hw1⟩
 have hb : Below w.heap.size w w1 := by rw [hw1]; exact (Below.refl _ _).alloc (Nat.le_refl _) _
 have c1 : w1.cell? ⟨w.heap.size, 0, none⟩ = some (.int .i64 4294967296) := by rw [hw1]; go_simp
 have H1 := Qa.mk (Dm m 4294967296 w.heap.size w1 c1 (by omega) (by omega) (by decide))
 have H2 := Qa.mk (Dm s 4294967296 w.heap.size w1 c1 (by omega) (by omega) (by decide))
 clear hw1 c1 hI
 go_wp2_with fail
 refine H1.out.mono ?_
 rintro e w2 ⟨rfl, rfl⟩
 go_wp2_with fail
 refine H2.out.mono ?_
 rintro e w3 ⟨rfl, rfl⟩
 go_wp2
 go_ret3
 exact ⟨rfl, hb⟩
open Q16 (isW Za Jk)
theorem Lu (A : Option Addr) (cap : Nat) (l : List Int) (w : World) (hr : (Kd.int .i64).C w A l.length l) (hw : isW l = true) :
  Calls Tryz.prog 173 #[.slice A l.length cap] w fun e w' => e = .returned (.bool true) ∧ Below w.heap.size w w' := by
 have HR := Qa.mk hr
 obtain ⟨h1, h2, h3⟩ := Za.1 hw
 have h4 := Q16.J4 h1
 have hF := Qa.mk (fun (k : Nat) (hk : k < l.length) => (show 1 ≤ rd l k ∧ rd l k ≤ 128 - (l.take k).sum ∧ (l.take (k + 1)).sum = (l.take k).sum + rd l k by
  have h5 := Jk h1 (k + 1)
  rw [Qx l k hk, List.sum_append] at h5 ⊢
  simp only [List.sum_cons, List.sum_nil] at h5 ⊢
  have := h1 _ (Qt l k hk)
  omega))
 have g1 : decide ((1 : Int) ≤ (l.length : Int)) = true := decide_eq_true (by
  cases l with
  | nil => simp at h2
  | cons => simp; omega)
 have g2 : decide ((l.length : Int) ≤ (32 : Int)) = true := decide_eq_true (by omega)
 have hll : (l.length : Int) ≤ 128 := by omega
 have hT := Qa.mk h2
 have hP := Qa.mk h1
 replace g1 := Qa.mk g1
 replace g2 := Qa.mk g2
 clear hr hw h1 h2 h3 h4
 go_enter Tryz.func173, Tryz.ntmps173
 go_wp2
 go_loopw [3, 8] (fun s i wr => ∃ (k : Nat) (z : Int), i = .int .i64 k ∧ s = .int .i64 z ∧ k ≤ l.length ∧ 0 ≤ z ∧ z ≤ 128 ∧ Qa (z = 128 - (l.take k).sum) ∧ Below w.heap.size w wr) (fun _ i _ => l.length - (intOf i).toNat)
 case atStart => exact ⟨0, 128, rfl, rfl, by omega, by omega, by omega, ⟨by simp⟩, Below.refl _ _⟩
 case round =>
  obtain ⟨k, z, rfl, rfl, hk, hz0, hz1, hn, hb⟩ := hrel
  by_cases hlt : k < l.length
  ·obtain ⟨ad, rfl, hcell⟩ := Qr HR.out hb hlt
   obtain ⟨b1, b2, b3⟩ := hF.out k hlt
   rw [← hn.out] at b2
   obtain ⟨n, hx⟩ : ∃ n, n = rd l k := ⟨_, rfl⟩
   rw [← hx] at hcell b1 b2 b3
   replace b3 := Qa.mk b3
   have t1 : decide (n < 1) = false := decide_eq_false (by omega)
   have t2 : decide (z < n) = false := decide_eq_false (by omega)
   clear hx
   go_wp2
   go_roundw
   case rel => exact ⟨k + 1, z - n, by go_num, rfl, by omega, by omega, by omega, ⟨by rw [b3.out, hn.out]; omega⟩, hb⟩
   case measure => simp [intOf]; omega
  ·obtain rfl : k = l.length := by omega
   have hN := hn.out
   rw [List.take_length, hT.out] at hN
   have hN0 : z = 0 := by omega
   subst hN0
   have G1 := g1.out
   have G2 := g2.out
   clear hn hN g1 g2
   go_wp2
   go_ret
   exact ⟨rfl, hb⟩
theorem Qa7 (A B C : Option Addr) (ca cb cc : Nat) (l r ws : List Int) (m : Int) (w : World) (hl : (Kd.int .i64).C w A l.length l) (hr : (Kd.int .i64).C w B r.length r) (hC : (Kd.int .i64).C w C ws.length ws) (hw : isW ws = true) (l1 : l.length = 128) (l2 : r.length = 128)
  (hm : 0 ≤ m ∧ m ≤ 1099511627776) (hv : ∀ k : Nat, k < 128 → (-m ≤ rd l k ∧ rd l k ≤ m) ∧ (-m ≤ rd r k ∧ rd r k ≤ m)) :
  Calls Tryz.prog 123 #[.slice A l.length ca, .slice B r.length cb, .slice C ws.length cc, .int .i64 m] w fun e w' => e = .returned (.int .i64 0) ∧ Below w.heap.size w w' := by
 have HW := Qa.mk (Lu C cc ws w hC hw)
 have HL := Qa.mk (fun W (hb : Below w.heap.size w W) k (hk : k < 128) => Qr hl hb (k := k) (by omega))
 have HR := Qa.mk (fun W (hb : Below w.heap.size w W) k (hk : k < 128) => Qr hr hb (k := k) (by omega))
 have HV := Qa.mk hv
 rw [l1, l2]
 clear hl hr hC hw hv l1 l2
 go_enter Tryz.func123, Tryz.ntmps123
 go_wp2_with fail
 refine HW.out.mono ?_
 rintro e w1 ⟨rfl, hb⟩
 clear HW
 go_wp2
 go_loopw [25] (fun i wr => ∃ k : Nat, i = .int .i64 k ∧ k ≤ 128 ∧ Below w.heap.size w wr) (fun i _ => 128 - (intOf i).toNat)
 case atStart => exact ⟨0, rfl, by omega, hb⟩
 case round =>
  obtain ⟨k, rfl, hk, hb⟩ := hrel
  by_cases hlt : k < 128
  ·obtain ⟨a, rfl, c1⟩ := HL.out _ hb k hlt
   obtain ⟨b, rfl, c2⟩ := HR.out _ hb k hlt
   obtain ⟨⟨v1, v2⟩, v3, v4⟩ := HV.out k hlt
   obtain ⟨x, hx⟩ : ∃ x, x = rd l k := ⟨_, rfl⟩
   obtain ⟨y, hy⟩ : ∃ y, y = rd r k := ⟨_, rfl⟩
   rw [← hx] at c1 v1 v2
   rw [← hy] at c2 v3 v4
   have t1 : decide (m < max x y) = false := decide_eq_false (by omega)
   have t2 : decide (min x y < -m) = false := decide_eq_false (by omega)
   clear hx hy v1 v2 v3 v4
   go_wp2
   go_quiet (fail)
   go_wp2
   go_roundw
   case rel => exact ⟨k + 1, by go_num, by omega, below_drewN' hb nq⟩
   case measure => simp [intOf]; omega
  ·obtain rfl : k = 128 := by omega
   go_wp2
   go_ret
   exact ⟨rfl, hb⟩
end St

end Go.Proofs.YtnflnicdjioflaaGreatDoor
