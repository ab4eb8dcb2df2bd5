/- A part of the proof. -/
import Derived.Test.YtnflnicdjioflaaGreatDoorSlao
set_option linter.unusedVariables false
set_option linter.unusedSimpArgs false
set_option maxRecDepth 100000
set_option maxHeartbeats 8000000
namespace Go.Proofs.YtnflnicdjioflaaGreatDoor
open Go.RowKit Go.Proofs.YtnflnicdjioflaaGreatDoorW.PrintWords Go.Proofs.YtnflnicdjioflaaGreatDoorW.PrintLast Go.Proofs.YtnflnicdjioflaaGreatDoorW.PrintMore
namespace Bk
attribute [local go_sem] Jl Jo Ql Qk Qg Qf
open Q15
theorem Gz (d : Nat) (m : Int) (e : Bool) (v : Int) (w : World) (hm : 0 ≤ m ∧ m ≤ 31) (h0 : -1023 ≤ v) (h1 : v ≤ 1023) :
  Calls Tryz.prog 231 #[frm d m e, .int .i64 v] w fun en w' => en = .returned (.int .i64 (Xj m e v)) ∧ Below w.heap.size w w' := by
 have hu := Tryz.underlying194
 have HS := Qa.mk (fun W => Vb v W (by omega) (by omega))
 have hs9 := Bl (v := v) (m := 1023) (by omega)
 obtain ⟨W0, hW0⟩ : ∃ W0, W0 = w.alloc (.cells #[.int .i64 d, .int .i64 m, .bool e] 194) := ⟨_, rfl⟩
 have hb0 : Below w.heap.size w W0 := by rw [hW0]; exact (Below.refl _ _).alloc (Nat.le_refl _) _
 have c1 : W0.cell? ⟨w.heap.size, 1, none⟩ = some (.int .i64 m) := by rw [hW0]; simp [go_sem]
 have c2 : W0.cell? ⟨w.heap.size, 2, none⟩ = some (.bool e) := by rw [hW0]; simp [go_sem]
 replace hW0 := Qa.mk hW0
 have HB : Qa (Xj m e v = if v = 0 then 0 else if e = true ∧ m ≤ szI v then 1 + Zc (szI v - m + 1) else 1) := ⟨rfl⟩
 obtain ⟨s, hs⟩ : ∃ s, s = szI v := ⟨_, rfl⟩
 rw [← hs] at HS HB hs9
 have HG := Qa.mk (fun W => Cs (s - m + 1) W (by omega) (by omega))
 have hg9 : 1 ≤ Zc (s - m + 1) ∧ Zc (s - m + 1) ≤ 100 := by
  have h : (s - m + 1).toNat.log2 ≤ 10 := by
   by_cases hz : (s - m + 1).toNat = 0
   ·rw [hz]; decide
   ·have := (Nat.log2_lt hz).2 (show (s - m + 1).toNat < 2 ^ 11 by omega)
    omega
  unfold Zc
  omega
 obtain ⟨g, hg⟩ : ∃ g, g = Zc (s - m + 1) := ⟨_, rfl⟩
 rw [← hg] at HG HB hg9
 clear hg hs
 unfold frm
 by_cases hz : v = 0
 ·subst hz
  have hr : Qa (Xj m e 0 = 0) := ⟨by rw [HB.out]; rfl⟩
  go_enter Tryz.func231, Tryz.ntmps231
  go_wp2
  go_ret
  rw [← hW0.out]
  exact ⟨by rw [hr.out]; rfl, hb0⟩
 ·have hz' : (v == 0) = false := by simpa using hz
  rcases e with _ | _
  ·have hr : Qa (Xj m false v = 1) := ⟨by rw [HB.out, if_neg hz]; simp⟩
   clear hz
   go_enter Tryz.func231, Tryz.ntmps231
   go_wp2_with fail
   rw [← hW0.out]
   refine Z7 (fun w' => w'.cell? ⟨w.heap.size, 1, none⟩ = some (.int .i64 m) ∧ w'.cell? ⟨w.heap.size, 2, none⟩ = some (.bool false) ∧ Below W0.heap.size W0 w') (by kernel_rfl) ⟨c1, c2, (Below.refl _ _).drew⟩ (fun hHeld => ?_)
   (refine Tk.tk 0 (.pointer (some ⟨w.heap.size, 2, none⟩)) hHeld ?_)
   (refine Tk.tk 1 (.bool false) hHeld ?_)
   (refine Tk.tk 2 (.bool false) hHeld ?_)
   (refine Tk.tz 3 hHeld ?_)
   (refine Tk.tz 4 hHeld ?_)
   (refine Tk.tz 5 hHeld ?_)
   (refine Tk.tz 6 hHeld ?_)
   (refine Tk.tz 7 hHeld ?_)
   (refine Tk.tk 8 (.bool false) hHeld ?_)
   (refine Tk.tk 9 (.bool false) hHeld ?_)
   refine wpAnyH_done (by kernel_rfl) ?_ _
   obtain ⟨c1, c2, hh⟩ := hHeld
   go_wp2
   go_ret
   exact ⟨by rw [hr.out]; rfl, bnx hb0 hh⟩
  ·by_cases hm1 : m ≤ s
   ·have hr : Qa (Xj m true v = 1 + g) := ⟨by rw [HB.out, if_neg hz, if_pos ⟨rfl, hm1⟩]⟩
    have hm2 : Qa (decide (m ≤ s) = true) := ⟨decide_eq_true hm1⟩
    clear hz
    go_enter Tryz.func231, Tryz.ntmps231
    go_wp2_with fail
    rw [← hW0.out]
    refine Z7 (fun w' => w'.cell? ⟨w.heap.size, 1, none⟩ = some (.int .i64 m) ∧ w'.cell? ⟨w.heap.size, 2, none⟩ = some (.bool true) ∧ Below W0.heap.size W0 w') (by kernel_rfl) ⟨c1, c2, (Below.refl _ _).drew⟩ (fun hHeld => ?_)
    (refine Tk.tk 0 (.pointer (some ⟨w.heap.size, 2, none⟩)) hHeld ?_)
    (refine Tk.tk 1 (.bool true) hHeld ?_)
    (refine Tk.tk 2 (.bool true) hHeld ?_)
    (refine Tk.tk 3 (.int .i64 v) hHeld ?_)
    (refine Tk.tk 5 (.pointer (some ⟨w.heap.size, 1, none⟩)) hHeld ?_)
    (refine Tk.tk 6 (.int .i64 m) hHeld ?_)
    (refine wpAnyH_ready (rs := [4]) (by kernel_rfl) (by simp) ?_; refine AllReadyH.cons rfl (fun K hK => ?_) AllReadyH.nil; go_simp)
    refine (HS.out _).mono ?_
    rintro e w1 ⟨rfl, hb1⟩
    (go_wp2_with fail; refine hK.out _ _ (⟨cnx hHeld.1 hb1, cnx hHeld.2.1 hb1, bnx hHeld.2.2 hb1⟩) (fun hHeld => ?_); clear hK K; try simp only [Act.put, Tk.z1, Tk.z2, Tk.z3, Tk.z4, Tk.z5, Tk.z6])
    (refine Tk.tk 7 (.bool true) hHeld ?_)
    (refine Tk.tk 8 (.bool true) hHeld ?_)
    (refine Tk.tk 9 (.bool true) hHeld ?_)
    refine wpAnyH_done (by kernel_rfl) ?_ _
    obtain ⟨c1, c2, hh⟩ := hHeld
    have g1 : IntKind.i64.wrap (s - m) = s - m := IntWalk.i64_in _ (by omega)
    have g2 : IntKind.i64.wrap (s - m + 1) = s - m + 1 := IntWalk.i64_in _ (by omega)
    have g3 : IntKind.i64.wrap (1 + g) = 1 + g := IntWalk.i64_in _ (by omega)
    go_wp2_with fail
    refine Z7 (fun w' => w'.cell? ⟨w.heap.size, 1, none⟩ = some (.int .i64 m) ∧ Below W0.heap.size W0 w') (by kernel_rfl) ⟨c1, hh.drew⟩ (fun hHeld => ?_)
    (refine Tk.tk 0 (.int .i64 v) hHeld ?_)
    (refine Tk.tk 2 (.pointer (some ⟨w.heap.size, 1, none⟩)) hHeld ?_)
    (refine Tk.tk 3 (.int .i64 m) hHeld ?_)
    (refine wpAnyH_ready (rs := [1]) (by kernel_rfl) (by simp) ?_; refine AllReadyH.cons rfl (fun K hK => ?_) AllReadyH.nil; go_simp)
    refine (HS.out _).mono ?_
    rintro e w1 ⟨rfl, hb1⟩
    (go_wp2_with fail; refine hK.out _ _ (⟨cnx hHeld.1 hb1, bnx hHeld.2 hb1⟩) (fun hHeld => ?_); clear hK K; try simp only [Act.put, Tk.z1, Tk.z2, Tk.z3, Tk.z4, Tk.z5, Tk.z6])
    (refine Tk.tk 4 (.int .i64 (s - m)) hHeld ?_)
    (refine Tk.tk 5 (.int .i64 (s - m + 1)) hHeld ?_)
    (refine wpAnyH_ready (rs := [6]) (by kernel_rfl) (by simp) ?_; refine AllReadyH.cons rfl (fun K hK => ?_) AllReadyH.nil; go_simp)
    refine (HG.out _).mono ?_
    rintro e w1 ⟨rfl, hb1⟩
    (go_wp2_with fail; refine hK.out _ _ (⟨cnx hHeld.1 hb1, bnx hHeld.2 hb1⟩) (fun hHeld => ?_); clear hK K; try simp only [Act.put, Tk.z1, Tk.z2, Tk.z3, Tk.z4, Tk.z5, Tk.z6])
    (refine Tk.tk 7 (.int .i64 (1 + g)) hHeld ?_)
    (refine Tk.tk 8 (.int .i64 (1 + g)) hHeld ?_)
    refine wpAnyH_done (by kernel_rfl) ?_ _
    obtain ⟨c1, hh⟩ := hHeld
    go_wp2
    go_ret
    exact ⟨by rw [hr.out]; rfl, bnx hb0 hh⟩
   ·have hr : Qa (Xj m true v = 1) := ⟨by rw [HB.out, if_neg hz, if_neg (fun h => hm1 h.2)]⟩
    have hm2 : Qa (decide (m ≤ s) = false) := ⟨decide_eq_false hm1⟩
    clear hz hm1
    go_enter Tryz.func231, Tryz.ntmps231
    go_wp2_with fail
    rw [← hW0.out]
    replace hm2 := hm2.out
    refine Z7 (fun w' => w'.cell? ⟨w.heap.size, 1, none⟩ = some (.int .i64 m) ∧ w'.cell? ⟨w.heap.size, 2, none⟩ = some (.bool true) ∧ Below W0.heap.size W0 w') (by kernel_rfl) ⟨c1, c2, (Below.refl _ _).drew⟩ (fun hHeld => ?_)
    (refine Tk.tk 0 (.pointer (some ⟨w.heap.size, 2, none⟩)) hHeld ?_)
    (refine Tk.tk 1 (.bool true) hHeld ?_)
    (refine Tk.tk 2 (.bool true) hHeld ?_)
    (refine Tk.tk 3 (.int .i64 v) hHeld ?_)
    (refine Tk.tk 5 (.pointer (some ⟨w.heap.size, 1, none⟩)) hHeld ?_)
    (refine Tk.tk 6 (.int .i64 m) hHeld ?_)
    (refine wpAnyH_ready (rs := [4]) (by kernel_rfl) (by simp) ?_; refine AllReadyH.cons rfl (fun K hK => ?_) AllReadyH.nil; go_simp)
    refine (HS.out _).mono ?_
    rintro e w1 ⟨rfl, hb1⟩
    (go_wp2_with fail; refine hK.out _ _ (⟨cnx hHeld.1 hb1, cnx hHeld.2.1 hb1, bnx hHeld.2.2 hb1⟩) (fun hHeld => ?_); clear hK K; try simp only [Act.put, Tk.z1, Tk.z2, Tk.z3, Tk.z4, Tk.z5, Tk.z6])
    (refine Tk.tk 7 (.bool false) hHeld ?_)
    (refine Tk.tk 8 (.bool false) hHeld ?_)
    (refine Tk.tk 9 (.bool false) hHeld ?_)
    refine wpAnyH_done (by kernel_rfl) ?_ _
    obtain ⟨c1, c2, hh⟩ := hHeld
    go_wp2
    go_ret
    exact ⟨by rw [hr.out]; rfl, bnx hb0 hh⟩
theorem Wx (d : Nat) (m : Int) (e : Bool) (w : World) :
  Calls Tryz.prog 222 #[frm d m e] w fun en w' => en = .returned (.func (.func 233) #[] #[.pointer (some ⟨w.heap.size, 0, none⟩)]) ∧ w' = w.alloc (.cells #[.int .i64 d, .int .i64 m, .bool e] 194) := by
 have hu := Tryz.underlying194
 unfold frm
 go_enter Tryz.func222, Tryz.ntmps222
 go_wp2
 go_ret
 exact ⟨rfl, rfl⟩
theorem Mc (m : Int) (hm : 0 ≤ m) : ∀ l : List Int, (∀ x ∈ l, 0 ≤ x ∧ x ≤ m) → ∀ s : Int, 0 ≤ s → 0 ≤ l.foldl (fun s d => s * (m + 1) + d) s ∧ l.foldl (fun s d => s * (m + 1) + d) s + 1 ≤ (s + 1) * (m + 1) ^ l.length
 | [], _, s, hs => by simp; omega
 | x :: l, h, s, hs => by
  have hx := h x (by simp)
  have hs2 : 0 ≤ s * (m + 1) := Int.mul_nonneg hs (by omega)
  obtain ⟨h1, h2⟩ := Mc m hm l (fun y hy => h y (by simp [hy])) (s * (m + 1) + x) (by omega)
  refine ⟨h1, Int.le_trans h2 ?_⟩
  have hp : (0 : Int) ≤ (m + 1) ^ l.length := Int.pow_nonneg (by omega)
  have h3 : s * (m + 1) + x + 1 ≤ (s + 1) * (m + 1) := by rw [Int.add_mul]; omega
  have h4 := Int.mul_le_mul_of_nonneg_right h3 hp
  rw [List.length_cons, Int.pow_succ, Int.mul_comm ((m + 1) ^ l.length), ← Int.mul_assoc]
  exact h4
theorem symD_le (m : Int) (hm : 0 ≤ m ∧ m ≤ 31) (l : List Int) (hl : l.length ≤ 4) (h : ∀ x ∈ l, 0 ≤ x ∧ x ≤ m) : 0 ≤ Bh m l ∧ Bh m l ≤ 1048576 := by
 obtain ⟨h1, h2⟩ := Mc m hm.1 l h 0 (by omega)
 refine ⟨h1, ?_⟩
 have h3 : (m + 1) ^ l.length ≤ (32 : Int) ^ 4 := by
  obtain ⟨q, hq⟩ := Int.eq_ofNat_of_zero_le (show 0 ≤ m + 1 by omega)
  rw [hq]
  have h5 : q ^ l.length ≤ 32 ^ 4 := Nat.le_trans (Nat.pow_le_pow_left (show q ≤ 32 by omega) _) (Nat.pow_le_pow_right (by omega) hl)
  have h6 : ((q ^ l.length : Nat) : Int) ≤ ((32 ^ 4 : Nat) : Int) := Int.ofNat_le.2 h5
  simpa using h6
 have h4 : (32 : Int) ^ 4 = 1048576 := by decide
 have h7 : Bh m l = l.foldl (fun s d => s * (m + 1) + d) 0 := rfl
 omega
theorem Mx (d : Nat) (m : Int) (e : Bool) (A : Option Addr) (cap : Nat) (l : List Int) (w : World) (hm : 0 ≤ m ∧ m ≤ 31) (hr : (Kd.int .i64).C w A l.length l) (hl : l.length ≤ 4) (hx : ∀ x ∈ l, 0 ≤ x ∧ x ≤ m) :
  Calls Tryz.prog 223 #[frm d m e, .slice A l.length cap] w fun en w' => en = .returned (.int .i64 (Bh m l)) ∧ Below w.heap.size w w' := by
 have hu := Tryz.underlying194
 have HR := Qa.mk hr
 have hlI : (l.length : Int) ≤ 4 := by omega
 have HX : Qa (∀ k, k < l.length → 0 ≤ rd l k ∧ rd l k ≤ m) := ⟨fun k hk => hx _ (Qt l k hk)⟩
 have HB : Qa (∀ k, 0 ≤ Bh m (l.take k) ∧ Bh m (l.take k) ≤ 1048576) := ⟨fun k => symD_le m hm _ (by rw [List.length_take]; omega) (fun x h => hx x (List.mem_of_mem_take h))⟩
 have HS : Qa (∀ k, k < l.length → Bh m (l.take (k + 1)) = Bh m (l.take k) * (m + 1) + rd l k) := ⟨fun k hk => by rw [Qx l k hk]; unfold Bh; rw [List.foldl_append]; rfl⟩
 obtain ⟨W0, hW0⟩ : ∃ W0, W0 = w.alloc (.cells #[.int .i64 d, .int .i64 m, .bool e] 194) := ⟨_, rfl⟩
 have hb0 : Below w.heap.size w W0 := by rw [hW0]; exact (Below.refl _ _).alloc (Nat.le_refl _) _
 have c1 : W0.cell? ⟨w.heap.size, 1, none⟩ = some (.int .i64 m) := by rw [hW0]; simp [go_sem]
 replace hW0 := Qa.mk hW0
 clear hr hl hx
 unfold frm
 go_enter Tryz.func223, Tryz.ntmps223
 go_wp2
 rw [← hW0.out]
 go_loopw [5, 10] (fun s i wr => ∃ (k : Nat) (z : Int), s = .int .i64 z ∧ i = .int .i64 k ∧ k ≤ l.length ∧ Qa (z = Bh m (l.take k)) ∧ Below W0.heap.size W0 wr) (fun _ i _ => l.length - (intOf i).toNat)
 case atStart => exact ⟨0, 0, rfl, rfl, by omega, ⟨rfl⟩, Below.refl _ _⟩
 case round =>
  obtain ⟨k, z, rfl, rfl, hk, hz, hb⟩ := hrel
  have c1 := cnx c1 hb
  by_cases hlt : k < l.length
  ·obtain ⟨ad, rfl, hcell⟩ := Qr HR.out (bnx hb0 hb) hlt
   have hkI : (k : Int) < (l.length : Int) := by omega
   have hbd := HX.out k hlt
   have h1 := HB.out k
   have h2 := HB.out (k + 1)
   have h3 := HS.out k hlt
   rw [← hz.out] at h1 h3
   obtain ⟨x, hxe⟩ : ∃ x, x = rd l k := ⟨_, rfl⟩
   rw [← hxe] at hcell hbd h3
   obtain ⟨q, hq⟩ : ∃ q, z * (m + 1) = q := ⟨_, rfl⟩
   rw [hq] at h3
   rw [h3] at h2
   have hq9 : 0 ≤ q ∧ q ≤ 1048576 := ⟨by rw [← hq]; exact Int.mul_nonneg h1.1 (by omega), by omega⟩
   replace h3 := Qa.mk h3
   clear hxe
   go_wp2
   go_roundw
   case rel => exact ⟨k + 1, q + x, by go_num, by go_num, by omega, ⟨by rw [h3.out]⟩, hb⟩
   case measure => simp [intOf]; omega
  ·obtain rfl : k = l.length := by omega
   have hz2 := hz.out
   rw [List.take_length] at hz2
   have hr := Qa.mk hz2
   clear hz hz2
   go_wp2
   go_ret
   exact ⟨by rw [← hr.out]; rfl, bnx hb0 hb⟩
end Bk

namespace Bk
attribute [local go_sem] Jl Jo Ql Qk Qg Qf
open Q15
theorem Ip {m v : Int} (hm : 0 ≤ m ∧ m ≤ 31) (h : -1023 ≤ v ∧ v ≤ 1023) : 0 ≤ F8 m v ∧ F8 m v ≤ m := by
 have := Bl (v := v) (m := 1023) h
 unfold F8
 omega
theorem Vk (d : Nat) (m : Int) (e : Bool) (A : Option Addr) (cap : Nat) (l : List Int) (w : World) (hm : 0 ≤ m ∧ m ≤ 31) (hr : (Kd.int .i64).C w A l.length l) (hl : l.length ≤ 4) (hx : Yf l = true) :
  Calls Tryz.prog 195 #[frm d m e, .slice A l.length cap] w fun en w' => en = .returned (.int .i64 (Pb m l)) ∧ Below w.heap.size w w' := by
 have hu := Tryz.underlying194
 have HR := Qa.mk hr
 have hlI : (l.length : Int) ≤ 4 := by omega
 have hxk := fun k (hk : k < l.length) => X0 hx (Qt l k hk)
 obtain ⟨W0, hW0⟩ : ∃ W0, W0 = w.alloc (.cells #[.int .i64 d, .int .i64 m, .bool e] 194) := ⟨_, rfl⟩
 have hb0 : Below w.heap.size w W0 := by rw [hW0]; exact (Below.refl _ _).alloc (Nat.le_refl _) _
 have c0 : W0.cell? ⟨w.heap.size, 0, none⟩ = some (.int .i64 d) := by rw [hW0]; simp [go_sem]
 have c1 : W0.cell? ⟨w.heap.size, 1, none⟩ = some (.int .i64 m) := by rw [hW0]; simp [go_sem]
 have c2 : W0.cell? ⟨w.heap.size, 2, none⟩ = some (.bool e) := by rw [hW0]; simp [go_sem]
 have hs0 : W0.heap.size = w.heap.size + 1 := by rw [hW0]; simp
 replace hW0 := Qa.mk hW0
 have HD := Qa.mk (Wx d m e W0)
 have HG := Qa.mk (fun k (hk : k < l.length) (B : Nat) (W : World) (hc : W.cell? ⟨B, 1, none⟩ = some (.int .i64 m)) => Pz m (rd l k) B W hc (by have := hxk k hk; omega) (by have := hxk k hk; omega) hm)
 obtain ⟨y, hy⟩ : ∃ y, y = l.map (F8 m) := ⟨_, rfl⟩
 have hyl : y.length = l.length := by rw [hy]; simp
 have HS := Qa.mk (fun (W : World) (A' : Option Addr) (c' : Nat) (h : (Kd.int .i64).C W A' y.length y) => Mx d m e A' c' y W hm h (by omega) (fun x hx2 => by
  rw [hy] at hx2
  obtain ⟨z, hz, rfl⟩ := List.mem_map.1 hx2
  exact Ip hm (X0 hx hz)))
 have hF : Qa (Pb m l = Bh m y) := ⟨by rw [hy]; rfl⟩
 rw [hF.out]
 obtain ⟨E, hE⟩ : ∃ E, E = Bh m y := ⟨_, rfl⟩
 rw [← hE] at HS ⊢
 have HT : Qa (∀ k, k < l.length → y.take (k + 1) = y.take k ++ [F8 m (rd l k)]) := ⟨fun k hk => by
  rw [Qx y k (by omega), hy]
  unfold rd
  simp [List.getD_eq_getElem?_getD, hk]⟩
 have hyl' := Qa.mk hyl
 clear hr hl hx hxk hy hE hF hyl
 unfold frm at *
 go_enter Tryz.func195, Tryz.ntmps195
 go_wp2_with (first | (go_at_call 222; rw [← hW0.out]; refine HD.out.mono ?_; rintro e1 w1 ⟨rfl, hw1'⟩; have hw1 := Qa.mk hw1'; clear hw1'))
 have hb1 : Below W0.heap.size W0 w1 := by rw [hw1.out]; exact (Below.refl _ _).alloc (Nat.le_refl _) _
 have q1 : w1.cell? ⟨W0.heap.size, 1, none⟩ = some (.int .i64 m) := by rw [hw1.out]; simp [go_sem]
 clear hw1
 have HC := Qa.mk (fun W (hb : Below w1.heap.size w1 W) k (hk : k < l.length) => HG.out k hk W0.heap.size W (cnx q1 hb))
 clear q1
 rw [hs0] at HC
 go_loopw [6, 13] (fun o i wr => ∃ k : Nat, i = .int .i64 k ∧ k ≤ l.length ∧ Qa ((Kd.int .i64).R 3 wr w1.heap.size (fun _ => True) o (y.take k)) ∧ Below w1.heap.size w1 wr) (fun _ i _ => l.length - (intOf i).toNat)
 case atStart => exact ⟨0, rfl, by omega, ⟨Kd.Xr _ _ _ _ _⟩, Below.refl _ _⟩
 case round =>
  obtain ⟨k, rfl, hk, ho, hbL⟩ := hrel
  by_cases hlt : k < l.length
  ·obtain ⟨ad, rfl, hcell⟩ := Qr HR.out (bnx hb0 (bnx hb1 hbL)) hlt
   have hkI : (k : Int) < (l.length : Int) := by omega
   have hT := Qa.mk (HT.out k hlt)
   have HC1 := Qa.mk (HC.out wr hbL k hlt)
   obtain ⟨z, hz⟩ : ∃ z, z = F8 m (rd l k) := ⟨_, rfl⟩
   rw [← hz] at hT HC1
   obtain ⟨x, hxe⟩ : ∃ x, x = rd l k := ⟨_, rfl⟩
   rw [← hxe] at hcell HC1
   obtain ⟨Y, hY⟩ : ∃ Y, Y = y.take k := ⟨_, rfl⟩
   have hYl : Y.length ≤ 4 := by rw [hY, List.length_take]; have := hyl'.out; omega
   rw [← hY] at ho hT
   clear hz hxe hY
   go_wp2_with (first | (go_at_call 233; refine HC1.out.mono ?_; rintro e2 w2 ⟨rfl, hb2⟩; have HO1 := Qa.mk (Kd.Qy ho.out hb2); have HB1 := Qa.mk (bnx hbL hb2); clear hb2) | (at_builtin; refine Kd.Z4 (Kd.int .i64) (w0 := w1) w1.heap.size rfl (.tmp 17) (.tmp 21) 22 3 (.int .i64 0) 8 rfl Tryz.underlying22 Zd rfl (by decide) (by omega) u6 Y (z) [.int .i64 (z)] (fun _ => True) (fun _ => False) rfl rfl rfl (fun _ hk => hk.elim) (fun _ _ => trivial) HO1.out HB1.out HB1.out.size (by omega) ?_; intro v1 wA hoA hbA hgA hatA; have HOA := Qa.mk hoA; have HBA := Qa.mk hbA; clear hoA hbA hgA hatA))
   go_roundw
   case rel => exact ⟨k + 1, by go_num, by omega, ⟨by rw [hT.out]; exact HOA.out⟩, HBA.out⟩
   case measure => simp [intOf]; omega
  ·obtain rfl : k = l.length := by omega
   have hR := ho.out
   rw [List.take_of_length_le (by rw [hyl'.out]; omega)] at hR
   obtain ⟨A', p, rfl, _, hC⟩ := Kd.Qz hR
   have HS1 := Qa.mk (HS.out wr A' p hC)
   have d0 := cnx c0 (bnx hb1 hbL)
   have d1 := cnx c1 (bnx hb1 hbL)
   have d2 := cnx c2 (bnx hb1 hbL)
   clear c0 c1 c2 ho hR hC
   have hbz := bnx hb0 (bnx hb1 hbL)
   go_wp2_with (first | (go_at_call 223; refine HS1.out.mono ?_; rintro e2 w2 ⟨rfl, hb2⟩; replace hbz := bnx hbz hb2; clear hb2))
   go_ret
   exact ⟨rfl, hbz⟩
end Bk

namespace Bk
attribute [local go_sem] Qj Qi Ql Qk Qg Qf
open Q15
open Runs Go.Shelf
open Q16 (Q0 Q8 X8)
attribute [local go_sem] Oper.semAt_some
def Xp (S B1 B2 : Nat) (A B : World) : Prop := Below S A B ∧ B.heap[B1]? = A.heap[B1]? ∧ B.heap[B2]? = A.heap[B2]?
theorem Xp.trans {S B1 B2 : Nat} {A B C : World} (h : Xp S B1 B2 A B) (k : Xp S B1 B2 B C) : Xp S B1 B2 A C := ⟨h.1.trans k.1, k.2.1.trans h.2.1, k.2.2.trans h.2.2⟩
theorem Xp.putObj {S B1 B2 N : Nat} (h0 : S ≤ N) (h1 : B1 < N) (h2 : B2 < N) (W : World) (l : Nat) (o o' : Obj) (hl : N ≤ l) (ho : W.heap[l]? = some o) (hc : o.isCells = false) (hw : o.isWalk = false) : Xp S B1 B2 W (W.putObj l o') :=
 ⟨(Below.refl S W).grown (grownBy_putObj' W l o') (by have := (Array.getElem?_eq_some_iff.1 ho).1; omega) (fun k e => by cases e; omega), World.putObj_heap_other (by omega), World.putObj_heap_other (by omega)⟩
def gSl : Option Addr → Nat → Nat → Value
 | some a, o, d => .slice (some (a.add o)) d d
 | none, _, d => .slice none d d
theorem Mi (F : Fence) (n : Nat) (hF : F.fn 221) (hro : F.round = none) (hn : 1 ≤ n) (B1 B2 : Nat) (A : Option Addr) (cap len d : Nat) (hd : 1 ≤ d ∧ d ≤ 4) (hl : len ≤ 1000000) (hcap : len ≤ cap) (hA : 0 < len → ∃ ad, A = some ad) (wS w : World) (hS : Below wS.heap.size wS w)
  (c1 : w.cell? ⟨B1, 0, none⟩ = some (.int .i64 d)) (c2 : w.cell? ⟨B2, 0, none⟩ = some (.slice A len cap)) :
  Yj F n Tryz.prog 221 #[.pointer (some ⟨B1, 0, none⟩), .pointer (some ⟨B2, 0, none⟩)] (fun k => #[gSl A (k * d) d]) (Xp wS.heap.size B1 B2) (len / d) w := fun L J W hW hY h0 hJd => by
 clear hJd
 have d1 := cnx c1 hW
 have d2 := cnx c2 hW
 have hS' := bnx hS hW
 have HY := Qa.mk hY
 have HA := Qa.mk hA
 have hlI : (len : Int) ≤ 1000000 := by omega
 have hcI : (len : Int) ≤ (cap : Int) := by omega
 have hdI : 1 ≤ (d : Int) ∧ (d : Int) ≤ 4 := by omega
 have hDV : Qa (∀ k p : Nat, p = k * d → (p + d ≤ len → k < len / d) ∧ (p ≤ len → ¬ p + d ≤ len → k = len / d)) := ⟨fun k p hp => by
  subst hp
  refine ⟨fun h => ?_, fun h1 h2 => ?_⟩
  ·have : k + 1 ≤ len / d := (Nat.le_div_iff_mul_le (by omega)).2 (by rw [Nat.add_mul]; omega)
   omega
  ·refine Nat.le_antisymm ((Nat.le_div_iff_mul_le (by omega)).2 h1) ?_
   have h3 : len / d < k + 1 := (Nat.div_lt_iff_lt_mul (by omega)).2 (by rw [Nat.add_mul]; omega)
   omega⟩
 clear hY c1 c2 hl hA
 refine callsIn_of_wp Tryz.func221 rfl hF ?_ hro
 simp only [Tryz.ntmps221, List.size_toArray, List.length_cons, List.length_nil, Nat.reduceAdd, Nat.reduceSub, Array.replicate_succ, Array.replicate_zero, List.push_toArray, List.append_toArray, List.nil_append, List.cons_append]
 gi_wp2
 gi_loopw [4] (fun i wr => ∃ k p : Nat, i = .int .i64 p ∧ p ≤ len ∧ Qa (p = k * d) ∧ wr.cell? ⟨B1, 0, none⟩ = some (.int .i64 d) ∧ wr.cell? ⟨B2, 0, none⟩ = some (.slice A len cap) ∧ Qa (Below wS.heap.size wS wr) ∧ Qa (J k wr)) (fun i _ => len - (intOf i).toNat)
 case atStart => exact ⟨0, 0, rfl, by omega, ⟨by omega⟩, d1, d2, ⟨hS'⟩, ⟨h0⟩⟩
 case round =>
  obtain ⟨k, p, rfl, hp, hpk, e1, e2, hb, hJ⟩ := hrel
  clear d1 d2 hS'
  have hpI : (p : Int) ≤ 1000000 := by omega
  by_cases hlt : p + d ≤ len
  ·have hltI : (p : Int) + (d : Int) ≤ (len : Int) := by omega
   obtain ⟨ad, rfl⟩ := HA.out (by omega)
   obtain ⟨fn, tmps, assign, body, hy, hR⟩ := HY.out k wr ((hDV.out k p hpk.out).1 hlt) hJ.out
   rw [← hpk.out] at hy
   have hT := Qa.mk hlt
   have hR2 := Qa.mk hR
   simp only [gSl] at hy
   clear hR hlt hp
   gi_wp2
   refine hR2.out.mono ?_
   rintro e W3 ⟨rfl, hJ3, hk3⟩
   have b1 := (Q0 hk3.2.1).trans e1
   have b2 := (Q0 hk3.2.2).trans e2
   have hb3 := Qa.mk (hb.out.trans hk3.1)
   replace hJ3 := Qa.mk hJ3
   have hq9 : Qa (p + d = (k + 1) * d) := ⟨by rw [hpk.out, Nat.add_mul]; omega⟩
   clear hR2 e1 e2 hk3 hy
   gi_wp2
   go_roundw
   case rel => exact ⟨k + 1, p + d, by go_num, hT.out, hq9, b1, b2, hb3, hJ3⟩
   case measure => have := hT.out; simp [intOf]; omega
  ·have hnl : ¬ (p : Int) + (d : Int) ≤ (len : Int) := by omega
   have hK := Qa.mk ((hDV.out k p hpk.out).2 hp hlt)
   clear hlt
   gi_wp2
   go_end0
   refine ⟨⟨_, rfl⟩, ?_⟩
   rw [← hK.out]
   exact hJ.out
theorem J5 (d : Nat) (m : Int) (e : Bool) (A : Option Addr) (n c : Nat) (w : World) :
  Calls Tryz.prog 194 #[frm d m e, .slice A n c] w fun en w' => en = .returned (.func (.func 221) #[] #[.pointer (some ⟨w.heap.size, 0, none⟩), .pointer (some ⟨w.heap.size + 1, 0, none⟩)]) ∧ w' = (w.alloc (.cells #[.int .i64 d, .int .i64 m, .bool e] 194)).alloc (.cells #[.slice A n c] 22) := by
 have hu := Tryz.underlying194
 unfold frm
 go_enter Tryz.func194, Tryz.ntmps194
 go_wp2
 go_ret
 exact ⟨rfl, rfl⟩
end Bk

namespace Bk
attribute [local go_sem] Qj Qi Ql Qk Qg Qf
open Q15
theorem _root_.Go.Proofs.YtnflnicdjioflaaGreatDoor.Bts.Rws.Dj {wr w : World} {L : List Bts.Row} {G1 G2 : List Bts.Blk} {b : Bts.Blk} (h : Bts.Rws wr w L (G1 ++ G2 ++ [b])) : Bts.Rws wr w L (G1 ++ b :: G2) :=
 Bts.Rws.perm h (List.Perm.refl _) (by rw [List.append_assoc]; exact List.Perm.append_left G1 (List.perm_append_singleton b G2))
def tabT : List (List Nat) := [
 [],
 [2, 3, 3, 5, 3, 5, 5, 7, 3, 5, 5, 6, 5, 6, 6, 7],
 [3, 4, 5, 4, 5, 7, 5, 7, 8, 4, 5, 7, 5, 7, 8, 7, 8, 9, 5, 7, 8, 7, 8, 9, 8, 9, 10, 4, 5, 6, 5, 6, 8, 6, 8, 9, 5, 6, 8, 6, 8, 9, 8, 9, 10, 6, 8, 9, 8, 9, 10, 9, 10, 12, 5, 6, 8, 6, 8, 9, 8, 9, 10, 6, 8, 9, 8, 9, 10, 9, 10, 11, 8, 9, 10, 9, 10, 11, 10, 11, 12],
 [2, 3, 4, 5, 6, 3, 4, 5, 6, 6, 4, 5, 6, 6, 7, 5, 6, 6, 7, 9, 5, 6, 7, 8, 9],
 [3, 4, 4, 5, 5, 6, 7, 7, 4, 4, 5, 5, 6, 7, 7, 8, 4, 5, 5, 6, 7, 7, 8, 8, 5, 5, 6, 7, 7, 8, 8, 9, 5, 6, 7, 7, 8, 8, 9, 10, 6, 7, 7, 8, 8, 9, 10, 10, 7, 7, 8, 8, 9, 10, 10, 11, 7, 8, 8, 9, 9, 10, 10, 11],
 [5, 5, 5, 6, 6, 6, 6, 7, 7, 7, 8, 8, 8, 5, 5, 6, 6, 6, 6, 7, 7, 7, 8, 8, 8, 9, 5, 6, 6, 6, 6, 7, 7, 7, 8, 8, 8, 9, 9, 6, 6, 6, 6, 7, 7, 7, 8, 8, 8, 9, 9, 9, 6, 6, 6, 7, 7, 7, 8, 8, 8, 9, 9, 9, 9, 6, 6, 7, 7, 7, 8, 8, 8, 9, 9, 9, 9, 10, 6, 7, 7, 7, 8, 8, 8, 9, 9, 9, 9, 10, 10, 7, 7, 7, 8, 8, 8, 9, 9, 9, 9, 10, 10, 10, 7, 7, 8, 8, 8, 9, 9, 9, 9, 10, 10, 10, 11, 7, 8, 8, 8, 8, 9, 9, 9, 10, 10, 10, 11, 11, 8, 8, 8, 8, 9, 9, 9, 10, 10, 10, 11, 11, 11, 8, 8, 8, 9, 9, 9, 10, 10, 10, 11, 11, 11, 12, 8, 8, 9, 9, 9, 10, 10, 10, 11, 11, 11, 11, 12],
 [4, 4, 5, 5, 6, 6, 7, 7, 7, 8, 8, 9, 9, 9, 10, 10, 4, 5, 5, 6, 6, 7, 7, 7, 8, 8, 9, 9, 9, 10, 10, 11, 5, 5, 6, 6, 7, 7, 7, 8, 8, 9, 9, 9, 10, 10, 11, 11, 5, 6, 6, 7, 7, 7, 8, 8, 9, 9, 9, 10, 10, 11, 11, 11, 6, 6, 7, 7, 7, 8, 8, 9, 9, 9, 10, 10, 11, 11, 11, 12, 6, 6, 7, 7, 8, 8, 9, 9, 9, 10, 10, 11, 11, 11, 12, 12, 6, 7, 7, 8, 8, 9, 9, 9, 10, 10, 11, 11, 11, 12, 12, 13, 7, 7, 8, 8, 9, 9, 9, 10, 10, 11, 11, 11, 12, 12, 13, 13, 7, 8, 8, 9, 9, 9, 10, 10, 11, 11, 11, 12, 12, 13, 13, 14, 8, 8, 9, 9, 9, 10, 10, 11, 11, 11, 12, 12, 13, 13, 14, 14, 8, 9, 9, 9, 10, 10, 11, 11, 11, 12, 12, 13, 13, 14, 14, 14, 9, 9, 9, 10, 10, 11, 11, 11, 12, 12, 13, 13, 14, 14, 14, 15, 9, 9, 10, 10, 11, 11, 11, 12, 12, 13, 13, 14, 14, 14, 15, 15, 9, 10, 10, 11, 11, 11, 12, 12, 13, 13, 13, 14, 14, 15, 15, 16, 10, 10, 11, 11, 11, 12, 12, 13, 13, 13, 14, 14, 15, 15, 16, 16, 10, 11, 11, 11, 12, 12, 13, 13, 13, 14, 14, 15, 15, 16, 16, 16],
 [3, 3, 3, 4, 4, 4, 4, 4, 5, 5, 5, 5, 5, 6, 6, 6, 6, 6, 6, 7, 7, 7, 7, 7, 8, 8, 8, 8, 9, 9, 9, 9]]
def Ym (k : Nat) : List Nat := tabT.getD k []
def Vv (k : Nat) : ByteArray := ⟨((Ym k).map fun n => UInt8.ofNat (n + 96)).toArray⟩
structure Xe (w : World) : Prop where
 form : ∀ k, k < 8 → w.cell? ⟨2, k * 3, none⟩ = some (.int .i64 (Ye k)) ∧ w.cell? ⟨2, k * 3 + 1, none⟩ = some (.int .i64 (Xq k)) ∧ w.cell? ⟨2, k * 3 + 2, none⟩ = some (.bool (Ub k))
 tab : ∀ k, k < 8 → w.cell? ⟨3, k, none⟩ = some (.string (Vv k))
theorem Xe.below {w w1 : World} (h : Xe w) (hb : Below w.heap.size w w1) : Xe w1 :=
 ⟨fun k hk => ⟨cnx (h.form k hk).1 hb, cnx (h.form k hk).2.1 hb, cnx (h.form k hk).2.2 hb⟩, fun k hk => cnx (h.tab k hk) hb⟩
theorem M0 : ∀ k, k < 8 → 0 < k → ((Ym k).length : Int) = (Xq k + 1) ^ Ye k := by decide +kernel
theorem Bv : ∀ k, k < 8 → ∀ n ∈ Ym k, 1 ≤ n ∧ n ≤ 16 := by decide +kernel
theorem K3 (k : Nat) : (Vv k).size = (Ym k).length := by show Array.size _ = _; simp
theorem Iz {k i : Nat} (hk : k < 8) (hi : i < (Ym k).length) : ∃ b : UInt8, (Vv k)[i]? = some b ∧ (b.toNat : Int) = (Ym k)[i] + 96 := by
 have hb := Bv k hk _ (List.getElem_mem hi)
 refine ⟨UInt8.ofNat ((Ym k)[i] + 96), ?_, ?_⟩
 ·have h2 : i < (Vv k).size := by rw [K3]; exact hi
  rw [getElem?_pos (Vv k) i h2]
  congr 1
  show ((((Ym k).map fun n => UInt8.ofNat (n + 96)).toArray)[i]'(by simpa using hi)) = _
  simp
 ·rw [UInt8.toNat_ofNat']
  omega
def Vm (d : Nat) (l : List Int) (j : Nat) : List Int := (l.drop (j * d)).take d
def wlI (k : Nat) (g : List Int) : Int := ((Ym k).getD (Pb (Xq k) g).toNat 0 : Nat)
def besS (k : Nat) (g : List Int) : Int := (g.map (Xj (Xq k) (Ub k))).sum
def Uz (k : Nat) (g : List Int) : Int := (if 0 < k then wlI k g else 0) + besS k g
def Q3 (k : Nat) (l : List Int) : Nat → Int
 | 0 => 0
 | j + 1 => Q3 k l j + Uz k (Vm (Ye k) l j)
def Zm (k : Nat) (l : List Int) : Int := Q3 k l (l.length / Ye k)
theorem N7 {d : Nat} {l : List Int} {j : Nat} (h : j * d + d ≤ l.length) : (Vm d l j).length = d := by
 unfold Vm; rw [List.length_take, List.length_drop]; omega
theorem grp_C {d : Nat} {l : List Int} {j : Nat} {w : World} {ad : Addr} (hd : 1 ≤ d) (hr : (Kd.int .i64).C w (some ad) l.length l) (h : j * d + d ≤ l.length) : (Kd.int .i64).C w (some (ad.add (j * d))) (Vm d l j).length (Vm d l j) := by
 have h1 := Kd.C_mid (k := Kd.int .i64) (c := l.length) (lo := j * d) (hi := j * d + d) hr (by omega) h (Nat.le_refl _)
 rw [if_neg (by omega)] at h1
 have e : (l.take (j * d + d)).drop (j * d) = Vm d l j := by
  unfold Vm
  rw [List.drop_take]
  congr 1
  omega
 rw [e, show j * d * (Kd.int IntKind.i64).sz = j * d from Nat.mul_one _] at h1
 exact h1
theorem K7 {d : Nat} {l : List Int} {j : Nat} (h : Yf l = true) : Yf (Vm d l j) = true := by
 refine List.all_eq_true.2 fun x hx => ?_
 exact List.all_eq_true.1 h x (List.mem_of_mem_drop (List.mem_of_mem_take hx))
theorem Ko {d n : Nat} {j : Nat} (hd : 1 ≤ d) (h : j < n / d) : j * d + d ≤ n := by
 have h1 : (j + 1) * d ≤ n := Nat.le_trans (Nat.mul_le_mul_right d h) (Nat.div_mul_le_self n d)
 rw [Nat.add_mul] at h1
 omega
theorem log2_le {n b : Nat} (h : n < 2 ^ (b + 1)) : n.log2 ≤ b := by
 by_cases hz : n = 0
 ·subst hz
  have : Nat.log2 0 = 0 := by decide
  omega
 ·have := (Nat.log2_lt hz).2 h
  omega
theorem K5 {m : Int} {e : Bool} {v : Int} (hm : 0 ≤ m ∧ m ≤ 31) (h : -1023 ≤ v ∧ v ≤ 1023) : 0 ≤ Xj m e v ∧ Xj m e v ≤ 22 := by
 have hs := Bl (v := v) (m := 1023) h
 have hg : 1 ≤ Zc (szI v - m + 1) ∧ (m ≤ szI v → Zc (szI v - m + 1) ≤ 21) := by
  unfold Zc
  refine ⟨by omega, fun _ => ?_⟩
  have := log2_le (n := (szI v - m + 1).toNat) (b := 10) (by omega)
  omega
 unfold Xj
 split
 ·omega
 ·split
  ·rename_i h2
   have := hg.2 h2.2
   omega
  ·omega
theorem Le {m : Int} {e : Bool} (hm : 0 ≤ m ∧ m ≤ 31) : ∀ g : List Int, Yf g = true → 0 ≤ (g.map (Xj m e)).sum ∧ (g.map (Xj m e)).sum ≤ 22 * g.length
 | [], _ => by simp
 | x :: g, h => by
  have h1 := K5 (e := e) hm (X0 h (x := x) (by simp))
  have h2 := Le (e := e) hm g (by
   refine List.all_eq_true.2 fun y hy => ?_
   exact List.all_eq_true.1 h y (by simp [hy]))
  simp only [List.map_cons, List.sum_cons, List.length_cons]
  omega
theorem He {k : Nat} (hk : k < 8) (g : List Int) : 0 ≤ wlI k g ∧ wlI k g ≤ 16 := by
 unfold wlI
 by_cases h : (Pb (Xq k) g).toNat < (Ym k).length
 ·have := Bv k hk _ (List.getElem_mem h)
  rw [List.getD_eq_getElem?_getD, List.getElem?_eq_getElem h, Option.getD_some]
  omega
 ·rw [List.getD_eq_getElem?_getD, List.getElem?_eq_none (by omega)]
  simp
theorem Hy {k : Nat} (hk : k < 8) {g : List Int} (hg : g.length ≤ 4) (h : Yf g = true) : 0 ≤ Uz k g ∧ Uz k g ≤ 104 := by
 have h1 := He hk g
 have h2 := Le (e := Ub k) (Y3 k) g h
 unfold Uz besS
 split <;> omega
theorem Xk {k : Nat} (hk : k < 8) {l : List Int} (h : Yf l = true) : ∀ j, 0 ≤ Q3 k l j ∧ Q3 k l j ≤ 104 * j
 | 0 => by simp [Q3]
 | j + 1 => by
  have h1 := Xk hk h j
  have h2 := Hy hk (g := Vm (Ye k) l j) (by unfold Vm; rw [List.length_take]; have := J6 k; omega) (K7 h)
  simp only [Q3]
  omega
theorem Wt {k : Nat} (hk : k < 8) (h0 : 0 < k) {g : List Int} (hg : g.length = Ye k) (h : Yf g = true) : 0 ≤ Pb (Xq k) g ∧ Pb (Xq k) g < (Ym k).length := by
 have hm := Y3 k
 obtain ⟨h1, h2⟩ := Mc (Xq k) hm.1 (g.map (F8 (Xq k))) (fun x hx => by
  obtain ⟨z, hz, rfl⟩ := List.mem_map.1 hx
  exact Ip hm (X0 h hz)) 0 (by omega)
 have h3 := M0 k hk h0
 rw [List.length_map, hg] at h2
 have h4 : Pb (Xq k) g = (g.map (F8 (Xq k))).foldl (fun s d => s * (Xq k + 1) + d) 0 := rfl
 rw [h4]
 refine ⟨h1, ?_⟩
 omega
theorem tabS_ne : ∀ k, k < 8 → 0 < k → (Vv k).toList.isEmpty = false := by decide +kernel
theorem Xp.set {S B1 B2 n8 : Nat} {W w1 : World} {v : Value} (hb : Below W.heap.size W w1) (hS : S ≤ W.heap.size) (h1 : B1 < W.heap.size) (h2 : B2 < W.heap.size) (h3 : S ≤ n8) (h4 : n8 ≠ B1) (h5 : n8 ≠ B2) : Xp S B1 B2 W (w1.setCell ⟨n8, 0, none⟩ v) :=
 ⟨(hb.mono hS).setCell (p := ⟨n8, 0, none⟩) (by simp only; omega) _, (Below.heap_setCell _ _ _ _ (by simp only; omega)).trans (hb.block B1 h1), (Below.heap_setCell _ _ _ _ (by simp only; omega)).trans (hb.block B2 h2)⟩
end Bk

end Go.Proofs.YtnflnicdjioflaaGreatDoor
