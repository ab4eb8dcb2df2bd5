/- A part of the proof. -/
import Derived.Test.YtnflnicdjioflaaGreatDoorQmbd
import Derived.Test.YtnflnicdjioflaaGreatDoorQmba
set_option linter.unusedVariables false
set_option linter.unusedSimpArgs false
namespace Go.Proofs.YtnflnicdjioflaaGreatDoor
open Go.RowKit Go.Proofs.YtnflnicdjioflaaGreatDoorW.PrintWords Go.Proofs.YtnflnicdjioflaaGreatDoorW.PrintLast Go.Proofs.YtnflnicdjioflaaGreatDoorW.PrintMore
namespace Sec
attribute [local go_sem] max2_int min2_int max_two min_two max_three min_three
open Q15
open Q21 (cell_blk frozen_blk)
open Bts
open Bk (wp_reg)
def lessB (c1 : Int) (l1 : List Int) (c2 : Int) (l2 : List Int) : Bool := if c1 = c2 then decide (cmpL l1 l2 < 0) else decide (c1 < c2)
set_option maxRecDepth 100000 in
set_option maxHeartbeats 2000000 in
theorem less_calls (x1 x2 : Int) (S1 S2 B1 B2 : Option Addr) (n1 m1 n2 m2 k1 k2 : Nat) (l1 l2 : List Int) (w : World) (hr : (Kd.int .i64).C w B1 l1.length l1) (hr2 : (Kd.int .i64).C w B2 l2.length l2) (h1 : l1.length ≤ 1000000) (h2 : l2.length ≤ 1000000) :
  Calls Tryz.prog 146 #[.agg #[.int .i64 x1, .slice S1 n1 m1, .slice B1 l1.length k1], .agg #[.int .i64 x2, .slice S2 n2 m2, .slice B2 l2.length k2]] w fun e w' => e = .returned (.bool (lessB x1 l1 x2 l2)) ∧ Below w.heap.size w w' := by
 have hu := Tryz.underlying150
 have HC := Aside0.mk (fun (W : World) (hb : Below w.heap.size w W) => slCompare_calls B1 B2 k1 k2 l1 l2 W (Kd.C_below hr hb) (Kd.C_below hr2 hb) h1 h2)
 obtain ⟨W2, hW2⟩ : ∃ W2, W2 = (w.alloc (.cells #[.int .i64 x1, .slice S1 n1 m1, .slice B1 l1.length k1] 150)).alloc (.cells #[.int .i64 x2, .slice S2 n2 m2, .slice B2 l2.length k2] 150) := ⟨_, rfl⟩
 have hb2 : Aside0 (Below w.heap.size w W2) := ⟨by rw [hW2]; exact ((Below.refl _ _).alloc (Nat.le_refl _) _).alloc (by simp) _⟩
 have hR := ((Rws.start w).alloc #[.int .i64 x1, .slice S1 n1 m1, .slice B1 l1.length k1] 150).alloc #[.int .i64 x2, .slice S2 n2 m2, .slice B2 l2.length k2] 150
 simp only [World.size_alloc, List.nil_append, List.cons_append] at hR
 rw [← hW2] at hR
 have g1 := (hR.blk ⟨w.heap.size, #[.int .i64 x1, .slice S1 n1 m1, .slice B1 l1.length k1], 150⟩ (by simp)).1
 have g2 := (hR.blk ⟨w.heap.size + 1, #[.int .i64 x2, .slice S2 n2 m2, .slice B2 l2.length k2], 150⟩ (by simp)).1
 have a0 : W2.cell? ⟨w.heap.size, 0, none⟩ = some (.int .i64 x1) := by rw [cell_blk g1]; rfl
 have a2 : W2.cell? ⟨w.heap.size, 2, none⟩ = some (.slice B1 l1.length k1) := by rw [cell_blk g1]; rfl
 have b0 : W2.cell? ⟨w.heap.size + 1, 0, none⟩ = some (.int .i64 x2) := by rw [cell_blk g2]; rfl
 have b2 : W2.cell? ⟨w.heap.size + 1, 2, none⟩ = some (.slice B2 l2.length k2) := by rw [cell_blk g2]; rfl
 clear hR g1 g2 hr hr2 h1 h2
 obtain ⟨C, hCe⟩ : ∃ C, C = cmpL l1 l2 := ⟨_, rfl⟩
 rw [← hCe] at HC
 have hL : Aside0 (lessB x1 l1 x2 l2 = if x1 = x2 then decide (C < 0) else decide (x1 < x2)) := ⟨by rw [hCe]; rfl⟩
 clear hCe
 by_cases hx : x1 = x2
 ·rw [if_pos hx] at hL
  subst hx
  go_enter Tryz.func146, Tryz.ntmps146
  go_wp2_with fail
  rw [← hW2]
  clear hW2
  have hbz := hb2.out
  go_wp2_with (first | (go_at_call 190; refine (HC.out _ hbz).mono ?_; rintro e w' ⟨rfl, hbn⟩; replace hbz := bnx hbz hbn; clear hbn))
  go_ret
  exact ⟨by rw [hL.out]; rfl, hbz⟩
 ·rw [if_neg hx] at hL
  have hne : (x1 != x2) = true := bne_iff_ne.2 hx
  clear hx
  go_enter Tryz.func146, Tryz.ntmps146
  go_wp2_with fail
  rw [← hW2]
  clear hW2
  go_wp2_with fail
  go_ret
  exact ⟨by rw [hL.out]; rfl, hb2.out⟩
set_option maxRecDepth 100000 in
set_option maxHeartbeats 2000000 in
theorem better_none (x : Int) (S B : Option Addr) (n m q k : Nat) (w : World) :
  Calls Tryz.prog 145 #[.pointer none, .agg #[.int .i64 x, .slice S n m, .slice B q k], .func (.func 146) #[] #[]] w fun e w' => e = .returned (.pointer (some ⟨w.heap.size, 0, none⟩)) ∧ w'.heap[w.heap.size]? = some (.cells #[.int .i64 x, .slice S n m, .slice B q k] 150 (0, 0)) ∧ Below w.heap.size w w' := by
 have hu := Tryz.underlying150
 obtain ⟨W2, hW2⟩ : ∃ W2, W2 = w.alloc (.cells #[.int .i64 x, .slice S n m, .slice B q k] 150) := ⟨_, rfl⟩
 have hb2 : Aside0 (Below w.heap.size w W2.drew) := ⟨by rw [hW2]; exact ((Below.refl _ _).alloc (Nat.le_refl _) _).drew⟩
 have hg : Aside0 (W2.drew.heap[w.heap.size]? = some (.cells #[.int .i64 x, .slice S n m, .slice B q k] 150 (0, 0))) := ⟨by rw [hW2]; exact heap_alloc_new _ _⟩
 go_enter Tryz.func145, Tryz.ntmps145
 go_wp2_with fail
 rw [← hW2]
 clear hW2
 refine wp_reg (fun _ => True) (by kernel_rfl) trivial (fun hHeld => ?_)
 (refine Tk.tk 0 (.pointer none) hHeld ?_)
 (refine Tk.tk 1 (.bool true) hHeld ?_)
 (refine Tk.tk 2 (.bool true) hHeld ?_)
 (refine Tk.tz 3 hHeld ?_)
 (refine Tk.tz 4 hHeld ?_)
 (refine Tk.tz 5 hHeld ?_)
 (refine Tk.tz 6 hHeld ?_)
 (refine Tk.tz 7 hHeld ?_)
 (refine wpAnyH_ready (rs := [8]) (by kernel_rfl) (by simp) ?_; refine AllReadyH.cons rfl (fun K hK => ?_) AllReadyH.nil; go_simp)
 (go_wp2_with fail; refine hK.out _ _ (trivial) (fun hHeld => ?_); clear hK K; try simp only [Act.put, Tk.z1, Tk.z2, Tk.z3, Tk.z4, Tk.z5, Tk.z6])
 (refine Tk.tk 9 (.bool true) hHeld ?_)
 refine wpAnyH_done (by kernel_rfl) ?_ _
 go_wp2
 go_ret
 exact ⟨rfl, hg.out, hb2.out⟩
set_option maxRecDepth 100000 in
set_option maxHeartbeats 2000000 in
theorem better_some (g : Nat) (x y : Int) (S B S2 B2 : Option Addr) (n m k n2 m2 k2 : Nat) (l1 l2 : List Int) (w : World) (hr : (Kd.int .i64).C w B l1.length l1) (hr2 : (Kd.int .i64).C w B2 l2.length l2) (h1 : l1.length ≤ 1000000) (h2 : l2.length ≤ 1000000)
  (hg : w.heap[g]? = some (.cells #[.int .i64 y, .slice S2 n2 m2, .slice B2 l2.length k2] 150 (0, 0))) :
  Calls Tryz.prog 145 #[.pointer (some ⟨g, 0, none⟩), .agg #[.int .i64 x, .slice S n m, .slice B l1.length k], .func (.func 146) #[] #[]] w fun e w' => (lessB x l1 y l2 = false ∧ e = .returned (.pointer (some ⟨g, 0, none⟩)) ∨ lessB x l1 y l2 = true ∧ e = .returned (.pointer (some ⟨w.heap.size, 0, none⟩)) ∧ w'.heap[w.heap.size]? = some (.cells #[.int .i64 x, .slice S n m, .slice B l1.length k] 150 (0, 0))) ∧ Below w.heap.size w w' := by
 have hu := Tryz.underlying150
 obtain ⟨W2, hW2⟩ : ∃ W2, W2 = w.alloc (.cells #[.int .i64 x, .slice S n m, .slice B l1.length k] 150) := ⟨_, rfl⟩
 have hb2 : Below w.heap.size w W2.drew := by rw [hW2]; exact ((Below.refl _ _).alloc (Nat.le_refl _) _).drew
 have hq : Aside0 (∀ W, Below W2.drew.heap.size W2.drew W → W.heap[w.heap.size]? = some (.cells #[.int .i64 x, .slice S n m, .slice B l1.length k] 150 (0, 0)) ∧ W.heap[g]? = some (.cells #[.int .i64 y, .slice S2 n2 m2, .slice B2 l2.length k2] 150 (0, 0)) ∧ Below w.heap.size w W) := ⟨fun W hb => ⟨blk_below (show W2.drew.heap[w.heap.size]? = _ by rw [hW2]; exact heap_alloc_new _ _) hb, blk_below (blk_below hg hb2) hb, bnx hb2 hb⟩⟩
 obtain ⟨g1, g2, g3⟩ := hq.out W2.drew (Below.refl _ _)
 have a0 : W2.drew.cell? ⟨w.heap.size, 0, none⟩ = some (.int .i64 x) := by rw [cell_blk g1]; rfl
 have a1 : W2.drew.cell? ⟨w.heap.size, 1, none⟩ = some (.slice S n m) := by rw [cell_blk g1]; rfl
 have a2 : W2.drew.cell? ⟨w.heap.size, 2, none⟩ = some (.slice B l1.length k) := by rw [cell_blk g1]; rfl
 have b0 : W2.drew.cell? ⟨g, 0, none⟩ = some (.int .i64 y) := by rw [cell_blk g2]; rfl
 have b1 : W2.drew.cell? ⟨g, 1, none⟩ = some (.slice S2 n2 m2) := by rw [cell_blk g2]; rfl
 have b2 : W2.drew.cell? ⟨g, 2, none⟩ = some (.slice B2 l2.length k2) := by rw [cell_blk g2]; rfl
 have HC := Aside0.mk (less_calls x y S S2 B B2 n m n2 m2 k k2 l1 l2 W2.drew (Kd.C_below hr g3) (Kd.C_below hr2 g3) h1 h2)
 obtain ⟨Z, hZ⟩ : ∃ Z, Z = lessB x l1 y l2 := ⟨_, rfl⟩
 rw [← hZ] at HC ⊢
 clear g1 g2 g3 hg hr hr2 h1 h2 hb2 hZ
 go_enter Tryz.func145, Tryz.ntmps145
 go_wp2_with fail
 rw [← hW2]
 clear hW2
 refine wp_reg (fun W => W.cell? ⟨w.heap.size, 0, none⟩ = some (.int .i64 x) ∧ W.cell? ⟨w.heap.size, 1, none⟩ = some (.slice S n m) ∧ W.cell? ⟨w.heap.size, 2, none⟩ = some (.slice B l1.length k) ∧ W.cell? ⟨g, 0, none⟩ = some (.int .i64 y) ∧ W.cell? ⟨g, 1, none⟩ = some (.slice S2 n2 m2) ∧ W.cell? ⟨g, 2, none⟩ = some (.slice B2 l2.length k2)) (by kernel_rfl) ⟨a0, a1, a2, b0, b1, b2⟩ (fun hHeld => ?_)
 (refine Tk.tk 0 (.pointer (some ⟨g, 0, none⟩)) hHeld ?_)
 (refine Tk.tk 1 (.bool false) hHeld ?_)
 (refine Tk.tk 2 (.bool false) hHeld ?_)
 (refine Tk.tk 3 (.func (.func 146) #[] #[]) hHeld ?_)
 (refine Tk.tk 4 (.agg #[.int .i64 x, .slice S n m, .slice B l1.length k]) hHeld ?_)
 (refine Tk.tk 5 (.pointer (some ⟨g, 0, none⟩)) hHeld ?_)
 (refine Tk.tk 6 (.pointer (some ⟨g, 0, none⟩)) hHeld ?_)
 (refine Tk.tk 7 (.agg #[.int .i64 y, .slice S2 n2 m2, .slice B2 l2.length k2]) hHeld ?_)
 (refine wpAnyH_ready (rs := [8]) (by kernel_rfl) (by simp) ?_; refine AllReadyH.cons rfl (fun K hK => ?_) AllReadyH.nil; go_simp)
 refine HC.out.mono ?_
 rintro e w1 ⟨rfl, hb1⟩
 obtain ⟨q1, q2, q3⟩ := hq.out w1 hb1
 replace q1 := Aside0.mk q1
 replace q3 := Aside0.mk q3
 (go_wp2_with fail; refine hK.out _ _ (⟨cnx a0 hb1, cnx a1 hb1, cnx a2 hb1, cnx b0 hb1, cnx b1 hb1, cnx b2 hb1⟩) (fun hHeld => ?_); clear hK K; try simp only [Act.put, Tk.z1, Tk.z2, Tk.z3, Tk.z4, Tk.z5, Tk.z6])
 (refine Tk.tk 9 (.bool Z) hHeld ?_)
 refine wpAnyH_done (by kernel_rfl) ?_ _
 clear a0 a1 a2 b0 b1 b2 q2 hHeld HC hq
 cases Z with
 | true =>
  go_wp2
  go_ret
  exact ⟨⟨rfl, q1.out⟩, q3.out⟩
 | false =>
  go_wp2
  go_ret
  exact ⟨rfl, q3.out⟩
end Sec

namespace Sec
attribute [local go_sem] max2_int min2_int max_two min_two max_three min_three
open Q15
open Bk
structure Wy where
 cost : Int
 secs : List (Int × Int)
 books : List Int
def w0 : Wy := ⟨0, [], []⟩
def candW (k t : Nat) (s : Int) (r : Wy) : Wy := ⟨3 + gamI ((t + 1 : Nat) : Int) + s + r.cost, ((k : Int), ((t + 1 : Nat) : Int)) :: r.secs, List.replicate (t + 1) (k : Int) ++ r.books⟩
def overW (top : Option Wy) (tot : Int) : Bool := match top with | some a => decide (a.cost < tot) | none => false
def headW (r : Wy) (k : Nat) : Bool := decide (r.books.head? = some (k : Int))
def betW (top : Option Wy) (b : Wy) : Wy := match top with | none => b | some a => if lessB b.cost b.books a.cost a.books = true then b else a
def pickW (top : Option Wy) (k t : Nat) (s : Int) (r : Wy) : Option Wy := if (overW top (candW k t s r).cost || headW r k) = true then top else some (betW top (candW k t s r))
def jL (c : Nat → Int) (l : List Wy) (k : Nat) : Nat → Nat → Int → Option Wy → Option Wy
 | 0, _, _, top => top
 | m + 1, t, s, top => if c t < 0 then top else jL c l k m (t + 1) (s + c t) (pickW top k t (s + c t) (l.getD t w0))
def kTo (c : Nat → Nat → Int) (l : List Wy) (m q : Nat) : Option Wy := (List.range q).foldl (fun top k => jL (c k) l k m 0 0 top) none
theorem kTo_succ (c : Nat → Nat → Int) (l : List Wy) (m q : Nat) : kTo c l m (q + 1) = jL (c q) l q m 0 0 (kTo c l m q) := by simp [kTo, List.range_succ, List.foldl_append]
def cB (ws l : List Int) (m : Nat) : Nat → Nat → Int := fun k t => bcost k (bandL ws l (ws.length - m + t))
def wL (ws l : List Int) : Nat → List Wy
 | 0 => [w0]
 | m + 1 => (kTo (cB ws l (m + 1)) (wL ws l m) (m + 1) 8).getD w0 :: wL ws l m
theorem wL_at (ws l : List Int) : ∀ (m t : Nat), t ≤ m → (wL ws l m).getD t w0 = (wL ws l (m - t)).getD 0 w0
 | 0, t, h => by
         obtain rfl : t = 0 := by omega
         rfl
 | m + 1, 0, _ => rfl
 | m + 1, t + 1, h => by
  show (wL ws l m).getD t w0 = _
  rw [wL_at ws l m t (by omega), show m + 1 - (t + 1) = m - t by omega]
structure GoodW (m : Nat) (r : Wy) : Prop where
 lo : 0 ≤ r.cost
 hi : r.cost ≤ 14000 * m
 bl : r.books.length = m
 sl : r.secs.length ≤ m
theorem gamI_bd {n : Nat} (h1 : 1 ≤ n) (h : n ≤ 128) : 1 ≤ gamI (n : Int) ∧ gamI (n : Int) ≤ 15 := by
 have h2 : n.log2 ≤ 7 := by
  have : n.log2 < 8 := (Nat.log2_lt (by omega)).2 (by omega)
  omega
 unfold gamI
 rw [Int.toNat_natCast]
 omega
theorem cand_good {M k t : Nat} {s : Int} {r : Wy} (hM : M ≤ 128) (ht : t + 1 ≤ M) (hr : GoodW (M - (t + 1)) r) (h0 : 0 ≤ s) (h1 : s ≤ 13312 * ((t + 1 : Nat) : Int)) : GoodW M (candW k t s r) := by
 obtain ⟨a, b, c, d⟩ := hr
 have hg := gamI_bd (n := t + 1) (by omega) (by omega)
 refine ⟨?_, ?_, ?_, ?_⟩
 ·show 0 ≤ 3 + gamI ((t + 1 : Nat) : Int) + s + r.cost
  omega
 ·show 3 + gamI ((t + 1 : Nat) : Int) + s + r.cost ≤ 14000 * (M : Int)
  have : ((M - (t + 1) : Nat) : Int) = (M : Int) - ((t + 1 : Nat) : Int) := by omega
  rw [this] at b
  omega
 ·show (List.replicate (t + 1) (k : Int) ++ r.books).length = M
  rw [List.length_append, List.length_replicate, c]
  omega
 ·show r.secs.length + 1 ≤ M
  omega
theorem bet_good {M : Nat} {top : Option Wy} {b : Wy} (ht : ∀ a, top = some a → GoodW M a) (hb : GoodW M b) : GoodW M (betW top b) := by
 cases top with
 | none => exact hb
 | some a =>
  show GoodW M (if lessB b.cost b.books a.cost a.books = true then b else a)
  by_cases h : lessB b.cost b.books a.cost a.books = true
  ·rw [if_pos h]; exact hb
  ·rw [if_neg h]; exact ht a rfl
theorem pick_good {M k t : Nat} {s : Int} {r : Wy} {top : Option Wy} (hM : M ≤ 128) (ht : t + 1 ≤ M) (hr : GoodW (M - (t + 1)) r) (h0 : 0 ≤ s) (h1 : s ≤ 13312 * ((t + 1 : Nat) : Int)) (htop : ∀ a, top = some a → GoodW M a) : ∀ a, pickW top k t s r = some a → GoodW M a := by
 intro a ha
 unfold pickW at ha
 by_cases h : (overW top (candW k t s r).cost || headW r k) = true
 ·rw [if_pos h] at ha
  exact htop a ha
 ·rw [if_neg h] at ha
  cases ha
  exact bet_good htop (cand_good hM ht hr h0 h1)
theorem jL_good {M k : Nat} {c : Nat → Int} {l : List Wy} (hM : M ≤ 128) (hl : ∀ t, t + 1 ≤ M → GoodW (M - (t + 1)) (l.getD t w0)) (hc : ∀ t, t < M → c t ≤ 13312) : ∀ (m t : Nat) (s : Int) (top : Option Wy), t + m = M → 0 ≤ s → s ≤ 13312 * (t : Int) → (∀ a, top = some a → GoodW M a) → ∀ a, jL c l k m t s top = some a → GoodW M a
 | 0, _, _, top, _, _, _, ht => ht
 | m + 1, t, s, top, hm, h0, h1, ht => by
  intro a ha
  rw [jL] at ha
  by_cases hn : c t < 0
  ·rw [if_pos hn] at ha
   exact ht a ha
  ·rw [if_neg hn] at ha
   have hct := hc t (by omega)
   refine jL_good hM hl hc m (t + 1) (s + c t) _ (by omega) (by omega) (by push_cast; omega) (pick_good hM (by omega) (hl t (by omega)) (by omega) (by push_cast; omega) ht) a ha
theorem kTo_good {M : Nat} {c : Nat → Nat → Int} {l : List Wy} (hM : M ≤ 128) (hl : ∀ t, t + 1 ≤ M → GoodW (M - (t + 1)) (l.getD t w0)) : ∀ q, (∀ k t, k < q → t < M → c k t ≤ 13312) → ∀ a, kTo c l M q = some a → GoodW M a
 | 0, _ => fun a ha => by cases ha
 | q + 1, hc => fun a ha => by
  rw [kTo_succ] at ha
  exact jL_good hM hl (fun t ht => hc q t (by omega) ht) M 0 0 _ (by omega) (Int.le_refl _) (by omega) (kTo_good hM hl q (fun k t hk => hc k t (by omega))) a ha
theorem jL_fits {c : Nat → Int} {l : List Wy} {k : Nat} : ∀ (m t : Nat) (s : Int) (top : Option Wy), (∀ u, t ≤ u → u < t + (m + 1) → 0 ≤ c u) → (l.getD (t + m) w0).books = [] → jL c l k (m + 1) t s top ≠ none
 | 0, t, s, top, hc, hb => by
  rw [jL, if_neg (by have := hc t (Nat.le_refl _) (by omega); omega), jL]
  rw [Nat.add_zero] at hb
  unfold pickW
  have hh : headW (l.getD t w0) k = false := by unfold headW; rw [hb]; rfl
  rw [hh, Bool.or_false]
  cases top with
  | none => simp [overW]
  | some a =>
   by_cases h2 : overW (some a) (candW k t (s + c t) (l.getD t w0)).cost = true
   ·rw [if_pos h2]; simp
   ·rw [if_neg h2]; simp
 | m + 1, t, s, top, hc, hb => by
  rw [jL, if_neg (by have := hc t (Nat.le_refl _) (by omega); omega)]
  exact jL_fits m (t + 1) _ _ (fun u h1 h2 => hc u (by omega) (by omega)) (by rw [show t + 1 + m = t + (m + 1) by omega]; exact hb)
theorem fit7 {x : List Int} : fitB 7 x = true := by
 unfold fitB fitsF
 rw [show dimB 7 = 1 from rfl, show escB 7 = true from rfl]
 simp [Nat.mod_one]
theorem cB_bd {ws l : List Int} (hok : Ok ws l) {m : Nat} (hm : m ≤ ws.length) {k t : Nat} (hk : k < 8) (ht : t < m) : -1 ≤ cB ws l m k t ∧ cB ws l m k t ≤ 13312 ∧ (k = 7 → 0 ≤ cB ws l m k t) := by
 have h1 := bcost_bd hk (bandL_are (ws := ws) hok.vals (ws.length - m + t))
 have h2 := bandL_len hok (j := ws.length - m + t) (by omega)
 have h3 := offS_le hok (j := ws.length - m + t) (by omega)
 unfold cB
 refine ⟨h1.1, by omega, fun h7 => ?_⟩
 subst h7
 have h4 := costB_bd hk (bandL_are (ws := ws) hok.vals (ws.length - m + t))
 unfold bcost
 rw [if_pos fit7]
 exact h4.1
theorem wL_head (ws l : List Int) (m : Nat) : (wL ws l (m + 1)).getD 0 w0 = (kTo (cB ws l (m + 1)) (wL ws l m) (m + 1) 8).getD w0 := rfl
theorem wL_good {ws l : List Int} (hok : Ok ws l) : ∀ m, m ≤ ws.length → GoodW m ((wL ws l m).getD 0 w0) ∧ (m = 0 → ((wL ws l m).getD 0 w0).books = [])
 | 0, _ => ⟨⟨by simp [wL, w0], by simp [wL, w0], rfl, Nat.le_refl _⟩, fun _ => rfl⟩
 | m + 1, h => by
  refine ⟨?_, fun h => by omega⟩
  rw [wL_head]
  have hM : m + 1 ≤ 128 := by have := hok.len; omega
  have hl : ∀ t, t + 1 ≤ m + 1 → GoodW (m + 1 - (t + 1)) ((wL ws l m).getD t w0) := fun t ht => by
   rw [wL_at ws l m t (by omega), show m + 1 - (t + 1) = m - t by omega]
   exact (wL_good hok (m - t) (by omega)).1
  have hb : ((wL ws l m).getD (0 + m) w0).books = [] := by
   rw [Nat.zero_add, wL_at ws l m m (Nat.le_refl _), Nat.sub_self]
   rfl
  have hne : kTo (cB ws l (m + 1)) (wL ws l m) (m + 1) 8 ≠ none := by
   rw [kTo_succ]
   exact jL_fits m 0 0 _ (fun u _ hu => (cB_bd hok h (by omega) (by omega)).2.2 rfl) hb
  cases hk : kTo (cB ws l (m + 1)) (wL ws l m) (m + 1) 8 with
  | none => exact absurd hk hne
  | some a => exact kTo_good hM hl 8 (fun k t hk ht => (cB_bd hok h hk (by omega)).2.1) a hk
theorem wL_all {ws l : List Int} (hok : Ok ws l) {m : Nat} (h : m ≤ ws.length) {t : Nat} (ht : t ≤ m) : GoodW (m - t) ((wL ws l m).getD t w0) := by
 rw [wL_at ws l m t ht]
 exact (wL_good hok (m - t) (by omega)).1
theorem kTo_ne {ws l : List Int} (hok : Ok ws l) {m : Nat} (h : m + 1 ≤ ws.length) : ∃ a, kTo (cB ws l (m + 1)) (wL ws l m) (m + 1) 8 = some a ∧ (wL ws l (m + 1)).getD 0 w0 = a := by
 have hb : ((wL ws l m).getD (0 + m) w0).books = [] := by
  rw [Nat.zero_add, wL_at ws l m m (Nat.le_refl _), Nat.sub_self]
  rfl
 have hne : kTo (cB ws l (m + 1)) (wL ws l m) (m + 1) 8 ≠ none := by
  rw [kTo_succ]
  exact jL_fits m 0 0 _ (fun u _ hu => (cB_bd hok h (by omega) (by omega)).2.2 rfl) hb
 cases hk : kTo (cB ws l (m + 1)) (wL ws l m) (m + 1) 8 with
 | none => exact absurd hk hne
 | some a => exact ⟨a, rfl, by rw [wL_head, hk]; rfl⟩
end Sec

end Go.Proofs.YtnflnicdjioflaaGreatDoor
