/- A part of the proof. -/
import Derived.Test.YtnflnicdjioflaaGreatDoorQmbc
import Derived.Test.YtnflnicdjioflaaGreatDoorQmau
set_option linter.unusedVariables false
set_option linter.unusedSimpArgs false
namespace Go.Proofs.YtnflnicdjioflaaGreatDoor
open Go.RowKit Go.Proofs.YtnflnicdjioflaaGreatDoorW.PrintWords Go.Proofs.YtnflnicdjioflaaGreatDoorW.PrintLast Go.Proofs.YtnflnicdjioflaaGreatDoorW.PrintMore
namespace Sec
attribute [local go_sem] max2_int min2_int max_two min_two max_three min_three
open Q15
open Bk
structure Ok (ws l : List Int) : Prop where
 wid : ∀ x ∈ ws, 1 ≤ x ∧ x ≤ 128
 len : ws.length ≤ 128
 sum : ws.sum = l.length
 vals : areB l = true
theorem sum_bd {ws : List Int} (h : ∀ x ∈ ws, 1 ≤ x ∧ x ≤ 128) : ws.length ≤ ws.sum ∧ ws.sum ≤ 128 * ws.length := by
 induction ws with
 | nil => simp
 | cons x ws ih =>
  have h1 := h x (by simp)
  have h2 := ih (fun y hy => h y (by simp [hy]))
  simp only [List.sum_cons, List.length_cons]
  push_cast
  omega
set_option maxRecDepth 100000 in
set_option maxHeartbeats 1000000 in
theorem right_calls (A : Option Addr) (cap : Nat) (ws l : List Int) (w : World) (hr : (Kd.int .i64).C w A ws.length ws) (hok : Ok ws l) :
  Calls Tryz.prog 185 #[.slice A ws.length cap] w fun e w' => e = .returned (.tuple #[.int .i64 l.length, .bool true]) ∧ Below w.heap.size w w' := by
 have HR := Aside0.mk hr
 have hlI : (ws.length : Int) ≤ 128 := by have := hok.len; omega
 have HW : Aside0 (∀ k, k < ws.length → 1 ≤ rd ws k ∧ rd ws k ≤ 128) := ⟨fun k hk => hok.wid _ (rd_mem ws k hk)⟩
 have HB : Aside0 (∀ k, 0 ≤ (ws.take k).sum ∧ (ws.take k).sum ≤ 16384) := ⟨fun k => by
  have h := sum_bd (ws := ws.take k) (fun x hx => hok.wid x (List.mem_of_mem_take hx))
  have h2 : (ws.take k).length ≤ ws.length := by rw [List.length_take]; omega
  have := hok.len
  omega⟩
 have HE := Aside0.mk hok.sum
 obtain ⟨N, hN⟩ : ∃ N : Int, N = l.length := ⟨_, rfl⟩
 rw [← hN] at HE ⊢
 clear hr hok hN
 go_enter Tryz.func185, Tryz.ntmps185
 go_wp2
 go_loopw [4, 9] (fun s i wr => ∃ (k : Nat) (z : Int), s = .int .i64 z ∧ i = .int .i64 k ∧ k ≤ ws.length ∧ Aside0 (z = (ws.take k).sum) ∧ Below w.heap.size w wr) (fun _ i _ => ws.length - (intOf i).toNat)
 case atStart => exact ⟨0, 0, rfl, rfl, by omega, ⟨by simp⟩, Below.refl _ _⟩
 case round =>
  obtain ⟨k, z, rfl, rfl, hk, hz, hb⟩ := hrel
  by_cases hlt : k < ws.length
  ·obtain ⟨ad, rfl, hcell⟩ := el_at HR.out hb hlt
   have hkI : (k : Int) < (ws.length : Int) := by omega
   have hx9 := HW.out k hlt
   have h1 := HB.out k
   rw [← hz.out] at h1
   have hT : Aside0 ((ws.take (k + 1)).sum = z + rd ws k) := ⟨by rw [take_rd ws k hlt, List.sum_append, hz.out]; simp⟩
   obtain ⟨x, hx⟩ : ∃ x, x = rd ws k := ⟨_, rfl⟩
   rw [← hx] at hcell hx9 hT
   have t1 : decide (x < 1) = false := decide_eq_false (by omega)
   have t2 : decide (128 < x) = false := decide_eq_false (by omega)
   clear hx
   go_wp2
   go_roundw
   case rel => exact ⟨k + 1, z + x, by go_num, by go_num, by omega, ⟨by rw [hT.out]⟩, hb⟩
   case measure => simp [intOf]; omega
  ·obtain rfl : k = ws.length := by omega
   have hz2 := hz.out
   rw [List.take_length, HE.out] at hz2
   have hzN := Aside0.mk hz2
   clear hz hz2
   go_wp2
   go_ret2
   exact ⟨by rw [hzN.out]; rfl, hb⟩
set_option maxRecDepth 100000 in
set_option maxHeartbeats 1000000 in
theorem schecked_calls (A B : Option Addr) (c1 c2 : Nat) (ws l : List Int) (w : World) (hL : LaidB w) (hr : (Kd.int .i64).C w A ws.length ws) (hr2 : (Kd.int .i64).C w B l.length l) (hok : Ok ws l) :
  Calls Tryz.prog 140 #[.slice A ws.length c1, .slice B l.length c2] w fun e w' => e = .returned (.int .i64 0) ∧ Below w.heap.size w w' := by
 have hb := Below.refl w.heap.size w
 have HR := Aside0.mk (right_calls A c1 ws l w hr hok)
 have hl9 : l.length ≤ 1000000 := by have := sum_bd hok.wid; have := hok.len; have := hok.sum; omega
 have HF := Aside0.mk (fun (W : World) (hb : Below w.heap.size w W) => Fits_yes 0 (by omega) B c2 l W (hL.below hb) (Kd.C_below hr2 hb) hl9 hok.vals)
 obtain ⟨F, hF⟩ : ∃ F, F = fitB 0 l := ⟨_, rfl⟩
 rw [← hF] at HF
 clear hr hr2 hok hF hL hl9
 go_enter Tryz.func140, Tryz.ntmps140
 go_wp2_with (first | (go_at_call 185; refine (HR.out).mono ?_; rintro e w' ⟨rfl, hbn⟩; replace hb := bnx hb hbn; clear hbn) | (go_at_call 186; refine ((HF.out _ hb)).mono ?_; rintro e w' ⟨rfl, hbn⟩; replace hb := bnx hb hbn; clear hbn))
 go_ret
 exact ⟨rfl, hb⟩
set_option maxHeartbeats 1000000 in
theorem sgamma_calls (v : Int) (w : World) (h0 : -1000000 ≤ v) (h1 : v ≤ 1000000) :
  Calls Tryz.prog 142 #[.int .i64 v] w fun e w' => e = .returned (.int .i64 (gamI v)) ∧ Below w.heap.size w w' := by
 have hb := Below.refl w.heap.size w
 obtain ⟨G, hG⟩ : ∃ G, G = gamI v := ⟨_, rfl⟩
 rw [← hG]
 replace hG := Aside0.mk hG
 go_enter Tryz.func142, Tryz.ntmps142
 go_wp2
 go_loopw [0, 3] (fun x o wr => ∃ u n : Int, x = .int .i64 u ∧ o = .int .i64 n ∧ -1000000 ≤ u ∧ u ≤ 1000000 ∧ 1 ≤ n ∧ n + 2 * u ≤ 2000100 ∧ n ≤ 2000100 ∧ Aside0 (G + 1 = n + gamI u) ∧ Below w.heap.size w wr) (fun x _ _ => (intOf x).toNat)
 case atStart => exact ⟨v, 1, rfl, rfl, h0, h1, by omega, by omega, by omega, ⟨by rw [hG.out]; omega⟩, hb⟩
 case round =>
  obtain ⟨u, n, rfl, rfl, hu0, hu1, hn0, hnu, hn1, hg, hb⟩ := hrel
  by_cases h2 : 1 < u
  ·have hs := Aside0.mk (gamI_step h2)
   have hd : Int.tdiv u 2 = u / 2 := Int.tdiv_eq_ediv_of_nonneg (by omega)
   obtain ⟨q, hq⟩ : ∃ q, q = u / 2 := ⟨_, rfl⟩
   rw [← hq] at hs hd
   have hq1 : 1 ≤ q ∧ q + 1 ≤ u := by omega
   clear hq
   go_wp2
   go_roundw
   case rel => exact ⟨q, n + 2, by go_num, by go_num, by omega, by omega, by omega, by omega, by omega, ⟨by have := hg.out; have := hs.out; omega⟩, hb⟩
   case measure => simp [intOf]; omega
  ·have hs := Aside0.mk (gamI_one (v := u) (by omega))
   have hr : Aside0 (n = G) := ⟨by have := hg.out; have := hs.out; omega⟩
   go_wp2
   go_ret
   exact ⟨by rw [← hr.out]; rfl, hb⟩
end Sec

namespace Sec
attribute [local go_sem] max2_int min2_int max_two min_two max_three min_three
open Q15
open Runs Go.Shelf
open Q16 (cell_heap frozen_heap R_turn)
open Bk
attribute [local go_sem] Oper.semAt_some
def KeepL (gs : List Nat) (A B : World) : Prop := ∀ g ∈ gs, B.heap[g]? = A.heap[g]?
theorem KeepL.refl (gs : List Nat) (A : World) : KeepL gs A A := fun _ _ => rfl
theorem KeepL.trans {gs : List Nat} {A B C : World} (h : KeepL gs A B) (k : KeepL gs B C) : KeepL gs A C := fun g hg => (k g hg).trans (h g hg)
theorem KeepL.putObj {gs : List Nat} {N : Nat} (h1 : ∀ g ∈ gs, g < N) (W : World) (l : Nat) (o o' : Obj) (hl : N ≤ l) (ho : W.heap[l]? = some o) (hc : o.isCells = false) (hw : o.isWalk = false) : KeepL gs W (W.putObj l o') :=
 fun g hg => World.putObj_heap_other (by have := h1 g hg; omega)
theorem cell_same {A B : World} {a : Addr} {v : Value} (h : B.heap[a.block]? = A.heap[a.block]?) (hc : A.cell? a = some v) : B.cell? a = some v := by
 simpa [World.cell?, h] using hc
def blkOf : Option Addr → List Nat
 | some a => [a.block]
 | none => []
theorem C_same {A B : World} {ad : Option Addr} {n : Nat} {xs : List Int} (h : (Kd.int .i64).C A ad n xs) (hk : ∀ g ∈ blkOf ad, B.heap[g]? = A.heap[g]?) : (Kd.int .i64).C B ad n xs := by
 obtain ⟨r1, r2, r3⟩ := Kd.reads_of_C (enc := Value.int .i64) (h1 := fun _ => rfl) (d := (0 : Int)) h
 refine Kd.C_of_reads (d := (0 : Int)) ⟨r1, r2, fun h0 => ?_⟩
 obtain ⟨a, rfl, hc⟩ := r3 h0
 exact ⟨a, rfl, fun j hj => cell_same (by rw [add_block]; exact hk _ (by simp [blkOf])) (hc j hj)⟩
def offS (ws : List Int) (k : Nat) : Nat := (ws.take k).sum.toNat
theorem offS_next {ws : List Int} (h : ∀ x ∈ ws, 1 ≤ x ∧ x ≤ 128) {k : Nat} (hk : k < ws.length) : ((offS ws (k + 1) : Nat) : Int) = offS ws k + rd ws k ∧ offS ws (k + 1) ≤ ws.sum.toNat := by
 have h1 := sum_bd (ws := ws.take k) (fun x hx => h x (List.mem_of_mem_take hx))
 have h2 := h _ (rd_mem ws k hk)
 have h3 : (ws.take (k + 1)).sum = (ws.take k).sum + rd ws k := by rw [take_rd ws k hk, List.sum_append]; simp
 have h4 : ws.sum = (ws.take (k + 1)).sum + (ws.drop (k + 1)).sum := by rw [← List.sum_append, List.take_append_drop]
 have h5 := sum_bd (ws := ws.drop (k + 1)) (fun x hx => h x (List.mem_of_mem_drop hx))
 unfold offS
 omega
def bandV (B : Option Addr) (ws : List Int) (k : Nat) : Value := .agg #[.int .i64 k, gSl B (offS ws k) (rd ws k).toNat]
set_option maxRecDepth 100000 in
set_option maxHeartbeats 2000000 in
theorem bands1_runs (F : Fence) (n : Nat) (hF : F.fn 192) (hro : F.round = none) (hn : 1 ≤ n) (B1 B2 : Nat) (A B : Option Addr) (ca cb : Nat) (ws l : List Int) (hok : Ok ws l) (hcap : l.length ≤ cb) (w : World) (hr : (Kd.int .i64).C w A ws.length ws) (hB : ws ≠ [] → ∃ bd, B = some bd)
  (c1 : w.cell? ⟨B1, 0, none⟩ = some (.slice A ws.length ca)) (c2 : w.cell? ⟨B2, 0, none⟩ = some (.slice B l.length cb)) :
  SeqRuns0 F n Tryz.prog 192 #[.pointer (some ⟨B1, 0, none⟩), .pointer (some ⟨B2, 0, none⟩)] (fun k => #[bandV B ws k]) (KeepL (B1 :: B2 :: blkOf A)) ws.length w := fun L J W hW hY h0 => by
 have d1 := cnx c1 hW
 have d2 := cnx c2 hW
 have HR := Aside0.mk (Kd.C_below hr hW)
 have HY := Aside0.mk hY
 have HB := Aside0.mk hB
 have HO : Aside0 (∀ k, k < ws.length → ((offS ws (k + 1) : Nat) : Int) = offS ws k + rd ws k ∧ offS ws (k + 1) ≤ l.length ∧ 1 ≤ rd ws k ∧ rd ws k ≤ 128) := ⟨fun k hk => by
  have h1 := offS_next hok.wid hk
  have h2 := hok.wid _ (rd_mem ws k hk)
  have h3 := hok.sum
  exact ⟨h1.1, by omega, h2.1, h2.2⟩⟩
 have hlI : (ws.length : Int) ≤ 128 := by have := hok.len; omega
 have hlL : (l.length : Int) ≤ 16384 := by have := sum_bd hok.wid; have := hok.len; have := hok.sum; omega
 have hcI : (l.length : Int) ≤ (cb : Int) := by omega
 have hlt0 : Aside0 (∀ k, k < ws.length → ws ≠ []) := ⟨fun k hk e => by rw [e] at hk; simp at hk⟩
 clear hY c1 c2 hr hB hok
 refine callsIn_of_wp Tryz.func192 rfl hF ?_ hro
 simp only [Tryz.ntmps192, List.size_toArray, List.length_cons, List.length_nil, Nat.reduceAdd, Nat.reduceSub, Array.replicate_succ, Array.replicate_zero, List.push_toArray, List.append_toArray, List.nil_append, List.cons_append]
 gi_wp2
 gi_loopw [4, 9] (fun x i wr => ∃ k p : Nat, i = .int .i64 k ∧ x = .int .i64 p ∧ k ≤ ws.length ∧ p ≤ l.length ∧ Aside0 (p = offS ws k) ∧ wr.cell? ⟨B1, 0, none⟩ = some (.slice A ws.length ca) ∧ wr.cell? ⟨B2, 0, none⟩ = some (.slice B l.length cb) ∧ Aside0 ((Kd.int .i64).C wr A ws.length ws) ∧ Aside0 (J k wr)) (fun _ i _ => ws.length - (intOf i).toNat)
 case atStart => exact ⟨0, 0, rfl, rfl, by omega, by omega, ⟨by unfold offS; simp⟩, d1, d2, HR, ⟨h0⟩⟩
 case round =>
  obtain ⟨k, p, rfl, rfl, hk, hp, hpk, e1, e2, hC, hJ⟩ := hrel
  clear d1 d2
  have hpI : (p : Int) ≤ 16384 := by omega
  by_cases hlt : k < ws.length
  ·have hkI : (k : Int) < (ws.length : Int) := by omega
   obtain ⟨ad, rfl, hcell⟩ := el_at hC.out (Below.refl _ _) hlt
   obtain ⟨bd, rfl⟩ := HB.out (hlt0.out k hlt)
   obtain ⟨o1, o2, o3, o4⟩ := HO.out k hlt
   rw [← hpk.out] at o1
   obtain ⟨fn, tmps, assign, body, hy, hR⟩ := HY.out k wr hlt hJ.out
   simp only [bandV, gSl] at hy
   rw [← hpk.out] at hy
   obtain ⟨d, hd⟩ := Int.eq_ofNat_of_zero_le (show 0 ≤ rd ws k by omega)
   rw [hd] at hcell o1 o3 o4 hy
   rw [Int.toNat_natCast] at hy
   have hpd : Aside0 (offS ws (k + 1) = p + d) := ⟨by omega⟩
   have hle : (p : Int) + (d : Int) ≤ (l.length : Int) := by omega
   have hle2 := Aside0.mk (show p + d ≤ l.length by omega)
   have hT := Aside0.mk hlt
   have hR2 := Aside0.mk hR
   clear hR hlt hp o1 o2 hd
   gi_wp2
   refine hR2.out.mono ?_
   rintro e W3 ⟨rfl, hJ3, hk3⟩
   have b1 := (cell_heap (hk3 B1 (by simp))).trans e1
   have b2 := (cell_heap (hk3 B2 (by simp))).trans e2
   have hC3 := Aside0.mk (C_same hC.out (fun g hg => hk3 g (by simp [hg])))
   replace hJ3 := Aside0.mk hJ3
   clear hR2 e1 e2 hk3 hy
   gi_wp2
   go_roundw
   case rel => exact ⟨k + 1, p + d, by go_num, by go_num, hT.out, hle2.out, ⟨hpd.out.symm⟩, b1, b2, hC3, hJ3⟩
   case measure => have := hT.out; simp [intOf]; omega
  ·obtain rfl : k = ws.length := by omega
   gi_wp2
   go_end0
   exact ⟨⟨_, rfl⟩, hJ.out⟩
set_option maxHeartbeats 400000 in
theorem bands_calls (A B : Option Addr) (n c n2 c2 : Nat) (w : World) :
  Calls Tryz.prog 149 #[.slice A n c, .slice B n2 c2] w fun en w' => en = .returned (.func (.func 192) #[] #[.pointer (some ⟨w.heap.size, 0, none⟩), .pointer (some ⟨w.heap.size + 1, 0, none⟩)]) ∧ w' = (w.alloc (.cells #[.slice A n c] 22)).alloc (.cells #[.slice B n2 c2] 22) := by
 go_enter Tryz.func149, Tryz.ntmps149
 go_wp2
 go_ret
 exact ⟨rfl, rfl⟩
end Sec

namespace Sca
attribute [local go_sem] max2_int min2_int max_two min_two max_three min_three
open Q15
open Runs Go.Shelf
open Q16 (cell_heap frozen_heap R_turn)
open Sec (KeepL blkOf cell_same)
attribute [local go_sem] Oper.semAt_some
theorem CB_same {A B : World} {ad : Option Addr} {n : Nat} {xs : List Bool} (h : Kd.bool.C A ad n xs) (hk : ∀ g ∈ blkOf ad, B.heap[g]? = A.heap[g]?) : Kd.bool.C B ad n xs := by
 obtain ⟨r1, r2, r3⟩ := Kd.reads_of_C (enc := Value.bool) (h1 := fun _ => rfl) (d := false) h
 refine Kd.C_of_reads (d := false) ⟨r1, r2, fun h0 => ?_⟩
 obtain ⟨a, rfl, hc⟩ := r3 h0
 exact ⟨a, rfl, fun j hj => cell_same (by rw [add_block]; exact hk _ (by simp [blkOf])) (hc j hj)⟩
def uix (us : List Bool) (k : Nat) : List Nat := (List.range k).filter fun i => us.getD i false
def uN (us : List Bool) : Nat := (uix us us.length).length
def uAt (us : List Bool) (m : Nat) : Nat := (uix us us.length).getD m 0
def uBe (us : List Bool) (m : Nat) : Int := if m = 0 then -1 else uAt us (m - 1)
theorem uix_succ (us : List Bool) (k : Nat) : uix us (k + 1) = if us.getD k false = true then uix us k ++ [k] else uix us k := by
 unfold uix
 rw [List.range_succ, List.filter_append]
 by_cases h : us.getD k false = true
 ·rw [if_pos h]; simpa [List.getD_eq_getElem?_getD] using h
 ·rw [if_neg h]; simpa [List.getD_eq_getElem?_getD] using h
theorem uix_pre (us : List Bool) (k : Nat) : ∀ j, uix us k <+: uix us (k + j)
 | 0 => List.prefix_refl _
 | j + 1 => by
  refine (uix_pre us k j).trans ?_
  rw [← Nat.add_assoc, uix_succ]
  split
  ·exact List.prefix_append _ _
  ·exact List.prefix_refl _
theorem uix_at {us : List Bool} {k : Nat} (hk : k < us.length) (h : us.getD k false = true) : (uix us k).length < uN us ∧ uAt us (uix us k).length = k := by
 have hp := uix_pre us (k + 1) (us.length - (k + 1))
 rw [show k + 1 + (us.length - (k + 1)) = us.length by omega, uix_succ, if_pos h] at hp
 obtain ⟨t, ht⟩ := hp
 unfold uN uAt
 rw [← ht]
 simp [List.getD_eq_getElem?_getD, List.append_assoc]
theorem uix_len (us : List Bool) (k : Nat) : (uix us k).length ≤ k := by
 have := List.length_filter_le (fun i => us.getD i false) (List.range k)
 simpa [uix] using this
theorem uAt_lt {us : List Bool} {m : Nat} (h : m < uN us) : uAt us m < us.length ∧ us.getD (uAt us m) false = true := by
 have hm : uAt us m ∈ uix us us.length := by
  unfold uAt
  rw [List.getD_eq_getElem?_getD, List.getElem?_eq_getElem h]
  exact List.getElem_mem _
 have := List.mem_filter.1 hm
 exact ⟨List.mem_range.1 this.1, this.2⟩
set_option maxRecDepth 100000 in
set_option maxHeartbeats 2000000 in
theorem walk1_runs (F : Fence) (n : Nat) (hF : F.fn 199) (hro : F.round = none) (hn : 1 ≤ n) (B1 : Nat) (A : Option Addr) (ca : Nat) (us : List Bool) (h128 : us.length ≤ 128) (w : World) (hr : Kd.bool.C w A us.length us)
  (c1 : w.cell? ⟨B1, 0, none⟩ = some (.slice A us.length ca)) :
  SeqRuns0 F n Tryz.prog 199 #[.pointer (some ⟨B1, 0, none⟩)] (fun m => #[.int .i64 (uAt us m), .int .i64 (uBe us m)]) (KeepL (blkOf A)) (uN us) w := fun L J W hW hY h0 => by
 have d1 := cnx c1 hW
 have HR : Aside0 (Kd.bool.C W A us.length us) := ⟨Kd.C_below hr hW⟩
 have HY := Aside0.mk hY
 have hlI : (us.length : Int) ≤ 128 := by omega
 clear hY c1 hr h128
 refine callsIn_of_wp Tryz.func199 rfl hF ?_ hro
 simp only [Tryz.ntmps199, List.size_toArray, List.length_cons, List.length_nil, Nat.reduceAdd, Nat.reduceSub, Array.replicate_succ, Array.replicate_zero, List.push_toArray, List.append_toArray, List.nil_append, List.cons_append]
 gi_wp2
 gi_loopw [3, 8] (fun x i wr => ∃ (k : Nat) (z : Int), i = .int .i64 k ∧ x = .int .i64 z ∧ k ≤ us.length ∧ Aside0 (z = uBe us (uix us k).length) ∧ Aside0 (Kd.bool.C wr A us.length us) ∧ Aside0 (J (uix us k).length wr)) (fun _ i _ => us.length - (intOf i).toNat)
 case atStart => exact ⟨0, -1, rfl, rfl, by omega, ⟨rfl⟩, HR, ⟨h0⟩⟩
 case round =>
  obtain ⟨k, z, rfl, rfl, hk, hz, hC, hJ⟩ := hrel
  clear d1
  by_cases hlt : k < us.length
  ·have hkI : (k : Int) < (us.length : Int) := by omega
   obtain ⟨ad, rfl, hcell⟩ := elb_at hC.out (Below.refl _ _) hlt
   have hT := Aside0.mk hlt
   have hS := uix_succ us k
   cases hu : us.getD k false with
   | false =>
    rw [hu] at hcell hS
    have hS2 : Aside0 (uix us (k + 1) = uix us k) := ⟨hS⟩
    clear hS hu hlt
    gi_wp2
    go_roundw
    case rel => exact ⟨k + 1, z, by go_num, rfl, hT.out, ⟨by rw [hS2.out]; exact hz.out⟩, hC, ⟨by rw [hS2.out]; exact hJ.out⟩⟩
    case measure => have := hT.out; simp [intOf]; omega
   | true =>
    obtain ⟨hm, hat⟩ := uix_at hlt hu
    rw [hu] at hcell hS
    rw [if_pos rfl] at hS
    obtain ⟨fn, tmps, assign, body, hy, hR⟩ := HY.out _ wr hm hJ.out
    rw [hat, ← hz.out] at hy
    have hS2 : Aside0 ((uix us (k + 1)).length = (uix us k).length + 1) := ⟨by rw [hS]; simp⟩
    have hb2 : Aside0 (uBe us ((uix us k).length + 1) = k) := ⟨by unfold uBe; rw [if_neg (by omega), Nat.add_sub_cancel, hat]⟩
    have hR2 := Aside0.mk hR
    clear hR hlt hS hu hm hat
    gi_wp2
    refine hR2.out.mono ?_
    rintro e W3 ⟨rfl, hJ3, hk3⟩
    have hC3 := Aside0.mk (CB_same hC.out (fun g hg => hk3 g hg))
    replace hJ3 := Aside0.mk hJ3
    clear hR2 hk3 hy
    gi_wp2
    go_roundw
    case rel => exact ⟨k + 1, k, by go_num, rfl, hT.out, ⟨by rw [hS2.out]; exact hb2.out.symm⟩, hC3, ⟨by rw [hS2.out]; exact hJ3.out⟩⟩
    case measure => have := hT.out; simp [intOf]; omega
  ·obtain rfl : k = us.length := by omega
   gi_wp2
   go_end0
   exact ⟨⟨_, rfl⟩, hJ.out⟩
set_option maxHeartbeats 400000 in
theorem walk_calls (A : Option Addr) (n c : Nat) (w : World) :
  Calls Tryz.prog 153 #[.slice A n c] w fun en w' => en = .returned (.func (.func 199) #[] #[.pointer (some ⟨w.heap.size, 0, none⟩)]) ∧ w' = w.alloc (.cells #[.slice A n c] 23) := by
 go_enter Tryz.func153, Tryz.ntmps153
 go_wp2
 go_ret
 exact ⟨rfl, rfl⟩
end Sca

namespace Gn
attribute [local go_sem] max2_int min2_int max_two min_two max_three min_three
open Q15
open Runs Go.Shelf
open Sec (KeepL blkOf cell_same C_same sum_bd)
open Sca (elb_at)
attribute [local go_sem] Oper.semAt_some
def oneI (b : Bool) : Int := if b then 1 else 0
set_option maxHeartbeats 400000 in
theorem one_calls (b : Bool) (w : World) :
  Calls Tryz.prog 85 #[.bool b] w fun e w' => e = .returned (.int .i64 (oneI b)) ∧ w' = w := by
 cases b with
 | true =>
  go_enter Tryz.func85, Tryz.ntmps85
  go_wp2
  go_ret
  exact ⟨rfl, rfl⟩
 | false =>
  go_enter Tryz.func85, Tryz.ntmps85
  go_wp2
  go_ret
  exact ⟨rfl, rfl⟩
set_option maxRecDepth 100000 in
set_option maxHeartbeats 1000000 in
theorem Index_calls (A : Option Addr) (cap : Nat) (l : List Bool) (v : Bool) (w : World) (hr : Kd.bool.C w A l.length l) (hl : l.length ≤ 1000000) :
  Calls Tryz.prog 184 #[.slice A l.length cap, .bool v] w fun e w' => ∃ i : Int, e = .returned (.int .i64 i) ∧ decide (0 ≤ i) = l.contains v ∧ Below w.heap.size w w' := by
 have HR := Aside0.mk hr
 have hlI : (l.length : Int) ≤ 1000000 := by omega
 clear hr hl
 go_enter Tryz.func184, Tryz.ntmps184
 go_wp2
 go_loopw [8] (fun i wr => ∃ k : Nat, i = .int .i64 k ∧ k ≤ l.length ∧ Aside0 ((l.take k).contains v = false) ∧ Below w.heap.size w wr) (fun i _ => l.length - (intOf i).toNat)
 case atStart => exact ⟨0, rfl, by omega, ⟨by simp⟩, Below.refl _ _⟩
 case round =>
  obtain ⟨k, rfl, hk, ha, hb⟩ := hrel
  by_cases hlt : k < l.length
  ·obtain ⟨ad, rfl, hcell⟩ := elb_at HR.out hb hlt
   have hltI : (k : Int) < (l.length : Int) := by omega
   have hT : l.take (k + 1) = l.take k ++ [l.getD k false] := by rw [List.take_succ_eq_append_getElem hlt, List.getD_eq_getElem?_getD, List.getElem?_eq_getElem hlt]; rfl
   have hm : l.getD k false ∈ l := by rw [List.getD_eq_getElem?_getD, List.getElem?_eq_getElem hlt]; exact List.getElem_mem hlt
   obtain ⟨x, hx⟩ : ∃ x, x = l.getD k false := ⟨_, rfl⟩
   rw [← hx] at hcell hT hm
   replace hT := Aside0.mk hT
   replace hm := Aside0.mk hm
   have hlt' := Aside0.mk hlt
   clear hx hlt
   by_cases hv : v = x
   ·have hE : (v == x) = true := by rw [hv]; exact beq_self_eq_true _
    have hv' := Aside0.mk hv
    clear hv
    go_wp2
    go_ret
    refine ⟨_, rfl, ?_, hb⟩
    rw [decide_eq_true (by omega)]
    have := hm.out
    rw [← hv'.out] at this
    exact (List.contains_iff_mem.2 this).symm
   ·have hE : (v == x) = false := by simpa using hv
    have hv' := Aside0.mk hv
    clear hv
    go_wp2
    go_roundw
    case rel => exact ⟨k + 1, by go_num, hlt'.out, ⟨by
     have h1 := ha.out
     rw [hT.out]
     cases hc : (l.take k ++ [x]).contains v with
     | false => rfl
     | true =>
      rcases List.mem_append.1 (List.contains_iff_mem.1 hc) with h | h
      ·rw [List.contains_iff_mem.2 h] at h1
       cases h1
      ·exact absurd (List.mem_singleton.1 h) hv'.out⟩, hb⟩
    case measure => have := hlt'.out; simp [intOf]; omega
  ·obtain rfl : k = l.length := by omega
   have h1 := ha.out
   rw [List.take_length] at h1
   replace h1 := Aside0.mk h1
   clear ha
   go_wp2
   go_ret
   exact ⟨-1, rfl, by rw [h1.out]; rfl, hb⟩
set_option maxHeartbeats 400000 in
theorem Contains_calls (A : Option Addr) (cap : Nat) (l : List Bool) (v : Bool) (w : World) (hr : Kd.bool.C w A l.length l) (hl : l.length ≤ 1000000) :
  Calls Tryz.prog 139 #[.slice A l.length cap, .bool v] w fun e w' => e = .returned (.bool (l.contains v)) ∧ Below w.heap.size w w' := by
 have HI := Aside0.mk (Index_calls A cap l v w hr hl)
 obtain ⟨C, hC⟩ : ∃ C, C = l.contains v := ⟨_, rfl⟩
 rw [← hC] at HI ⊢
 clear hr hl hC
 go_enter Tryz.func139, Tryz.ntmps139
 go_wp2_with fail
 refine HI.out.mono ?_
 rintro e w' ⟨i, rfl, hi, hb⟩
 have hi' := Aside0.mk hi
 clear hi
 go_wp2
 go_ret
 exact ⟨by rw [← hi'.out]; rfl, hb⟩
def midI (l : List Bool) : Int := if l.contains true = false then 0 else if l.contains false = false then 1 else 2
theorem midI_bd (l : List Bool) : 0 ≤ midI l ∧ midI l ≤ 2 := by
 unfold midI
 split
 ·decide
 ·split <;> decide
set_option maxRecDepth 100000 in
set_option maxHeartbeats 400000 in
theorem midSaid_calls (A : Option Addr) (cap : Nat) (l : List Bool) (w : World) (hr : Kd.bool.C w A l.length l) (hl : l.length ≤ 1000000) :
  Calls Tryz.prog 87 #[.slice A l.length cap] w fun e w' => e = .returned (.int .i64 (midI l)) ∧ Below w.heap.size w w' := by
 have HC := Aside0.mk (fun (v : Bool) (W : World) (hb : Below w.heap.size w W) => Contains_calls A cap l v W (Kd.C_below hr hb) hl)
 have hb := Below.refl w.heap.size w
 have hm : midI l = if l.contains true = false then 0 else if l.contains false = false then 1 else 2 := rfl
 obtain ⟨M, hM⟩ : ∃ M, M = midI l := ⟨_, rfl⟩
 have HT := Aside0.mk (HC.out true)
 have HF := Aside0.mk (HC.out false)
 rw [← hM] at hm ⊢
 obtain ⟨T, hT⟩ : ∃ T, T = l.contains true := ⟨_, rfl⟩
 obtain ⟨F, hF⟩ : ∃ F, F = l.contains false := ⟨_, rfl⟩
 rw [← hT] at HT hm
 rw [← hF] at HF hm
 replace hm := Aside0.mk hm
 clear hr hl HC hM hT hF
 cases T with
 | false =>
  go_enter Tryz.func87, Tryz.ntmps87
  go_wp2_with (first | (go_at_call 139; refine ((HT.out _ hb)).mono ?_; rintro e w' ⟨rfl, hbn⟩; replace hb := bnx hb hbn; clear hbn))
  go_ret
  exact ⟨by rw [hm.out]; rfl, hb⟩
 | true =>
  cases F with
  | false =>
   go_enter Tryz.func87, Tryz.ntmps87
   go_wp2_with fail; refine ((HT.out _ hb)).mono ?_; rintro e w' ⟨rfl, hbn⟩; replace hb := bnx hb hbn; clear hbn
   go_wp2_with fail; refine ((HF.out _ hb)).mono ?_; rintro e w' ⟨rfl, hbn⟩; replace hb := bnx hb hbn; clear hbn
   go_wp2
   go_ret
   exact ⟨by rw [hm.out]; rfl, hb⟩
  | true =>
   go_enter Tryz.func87, Tryz.ntmps87
   go_wp2_with fail; refine ((HT.out _ hb)).mono ?_; rintro e w' ⟨rfl, hbn⟩; replace hb := bnx hb hbn; clear hbn
   go_wp2_with fail; refine ((HF.out _ hb)).mono ?_; rintro e w' ⟨rfl, hbn⟩; replace hb := bnx hb hbn; clear hbn
   go_wp2
   go_ret
   exact ⟨by rw [hm.out]; rfl, hb⟩
def stV (gs : List Int) (m : Nat) : Int := if (List.range gs.length).any (fun k => decide ((gs.take k).sum = ((m + 1 : Nat) : Int))) = true then 1 else 0
theorem stV_bd (gs : List Int) (m : Nat) : stV gs m = 0 ∨ stV gs m = 1 := by
 unfold stV
 split
 ·exact .inr rfl
 ·exact .inl rfl
def offG (gs : List Int) (k : Nat) : Nat := (gs.take k).sum.toNat
theorem offG_next {gs : List Int} (h : ∀ x ∈ gs, 1 ≤ x ∧ x ≤ 128) {k : Nat} (hk : k < gs.length) : ((offG gs (k + 1) : Nat) : Int) = offG gs k + rd gs k ∧ 1 ≤ rd gs k := by
 have h1 := sum_bd (ws := gs.take k) (fun x hx => h x (List.mem_of_mem_take hx))
 have h2 := h _ (rd_mem gs k hk)
 have h3 : (gs.take (k + 1)).sum = (gs.take k).sum + rd gs k := by rw [take_rd gs k hk, List.sum_append]; simp
 unfold offG
 omega
theorem offG_mono {gs : List Int} (h : ∀ x ∈ gs, 1 ≤ x ∧ x ≤ 128) (k : Nat) : ∀ d, k + d ≤ gs.length → offG gs k + d ≤ offG gs (k + d)
 | 0, _ => Nat.le_refl _
 | d + 1, hd => by
  have h1 := offG_mono h k d (by omega)
  have h2 := offG_next h (k := k + d) (by omega)
  show offG gs k + (d + 1) ≤ offG gs (k + d + 1)
  omega
theorem offG_int {gs : List Int} (h : ∀ x ∈ gs, 1 ≤ x ∧ x ≤ 128) (k : Nat) : (gs.take k).sum = (offG gs k : Nat) := by
 have h1 := sum_bd (ws := gs.take k) (fun x hx => h x (List.mem_of_mem_take hx))
 unfold offG
 omega
theorem stV_at {gs : List Int} (h : ∀ x ∈ gs, 1 ≤ x ∧ x ≤ 128) {k i : Nat} (hk : k < gs.length) (hi : (i : Int) < rd gs k) (hb : 0 < offG gs k + i) : stV gs (offG gs k + i - 1) = if i = 0 then 1 else 0 := by
 unfold stV
 by_cases h0 : i = 0
 ·rw [if_pos h0, if_pos]
  refine List.any_eq_true.2 ⟨k, List.mem_range.2 hk, decide_eq_true ?_⟩
  rw [offG_int h k]
  omega
 ·rw [if_neg h0, if_neg]
  intro h1
  obtain ⟨j, hj, h2⟩ := List.any_eq_true.1 h1
  have hj := List.mem_range.1 hj
  have h2 := of_decide_eq_true h2
  rw [offG_int h j] at h2
  have h3 := offG_next h hk
  rcases Nat.lt_or_ge k j with hkj | hkj
  ·have := offG_mono h (k + 1) (j - (k + 1)) (by omega)
   rw [show k + 1 + (j - (k + 1)) = j by omega] at this
   omega
  ·have := offG_mono h j (k - j) (by omega)
   rw [show j + (k - j) = k by omega] at this
   omega
def stN (gs : List Int) : Nat := offG gs gs.length - 1
set_option maxRecDepth 100000 in
set_option maxHeartbeats 4000000 in
theorem starts1_runs (F : Fence) (n : Nat) (hF : F.fn 138) (hro : F.round = none) (hn : 1 ≤ n) (B1 : Nat) (A : Option Addr) (ca : Nat) (gs : List Int) (h8 : ∀ x ∈ gs, 1 ≤ x ∧ x ≤ 128) (hl : gs.length ≤ 128) (w : World) (hr : (Kd.int .i64).C w A gs.length gs)
  (c1 : w.cell? ⟨B1, 0, none⟩ = some (.slice A gs.length ca)) (Ls : List Nat) (hLs : 0 < gs.length → ∀ g ∈ blkOf A, g ∈ Ls) :
  SeqRuns0 F n Tryz.prog 138 #[.pointer (some ⟨B1, 0, none⟩)] (fun m => #[.int .i64 (stV gs m)]) (KeepL Ls) (stN gs) w := fun L J W hW hY h0 => by
 have HLs := Aside0.mk hLs
 clear hLs
 have d1 := cnx c1 hW
 have HR : Aside0 ((Kd.int .i64).C W A gs.length gs) := ⟨Kd.C_below hr hW⟩
 have HY := Aside0.mk hY
 have H8 := Aside0.mk h8
 have hlI : (gs.length : Int) ≤ 128 := by omega
 clear hY c1 hr hl h8
 refine callsIn_of_wp Tryz.func138 rfl hF ?_ hro
 simp only [Tryz.ntmps138, List.size_toArray, List.length_cons, List.length_nil, Nat.reduceAdd, Nat.reduceSub, Array.replicate_succ, Array.replicate_zero, List.push_toArray, List.append_toArray, List.nil_append, List.cons_append]
 gi_wp2
 gi_loopw [9] (fun i wr => ∃ k : Nat, i = .int .i64 k ∧ k ≤ gs.length ∧ Aside0 ((Kd.int .i64).C wr A gs.length gs) ∧ Aside0 (J (offG gs k - 1) wr)) (fun i _ => gs.length - (intOf i).toNat)
 case atStart => exact ⟨0, rfl, by omega, HR, ⟨by simpa [offG] using h0⟩⟩
 case round =>
  obtain ⟨k, rfl, hk, hC, hJ⟩ := hrel
  clear d1
  by_cases hlt : k < gs.length
  ·have hkI : (k : Int) < (gs.length : Int) := by omega
   obtain ⟨ad, rfl, hcell⟩ := el_at hC.out (Below.refl _ _) hlt
   obtain ⟨o1, o2⟩ := offG_next H8.out hlt
   have o3 := (H8.out _ (rd_mem gs k hlt)).2
   obtain ⟨d, hd⟩ : ∃ d : Nat, (d : Int) = rd gs k := ⟨(rd gs k).toNat, by omega⟩
   have hsv := Aside0.mk (fun (i : Nat) (hi : i < d) (hb : 0 < offG gs k + i) => stV_at H8.out hlt (i := i) (by omega) hb)
   have hend := offG_mono H8.out (k + 1) (gs.length - (k + 1)) (by omega)
   rw [show k + 1 + (gs.length - (k + 1)) = gs.length by omega] at hend
   have hk0 : Aside0 (k = 0 → offG gs k = 0) := ⟨fun h => by subst h; simp [offG]⟩
   have hk1 := offG_mono H8.out 0 k (by omega)
   rw [Nat.zero_add, show offG gs 0 = 0 by simp [offG]] at hk1
   rw [← hd] at hcell o1 o2 o3
   obtain ⟨o, ho⟩ : ∃ o, o = offG gs k := ⟨_, rfl⟩
   obtain ⟨o', ho'⟩ : ∃ o', o' = offG gs (k + 1) := ⟨_, rfl⟩
   rw [← ho] at hJ hsv o1 hk0 hk1
   rw [← ho'] at o1 hend
   have hN : Aside0 (o + d ≤ stN gs + 1) := ⟨by unfold stN; omega⟩
   have hoo : Aside0 (o' = o + d) := ⟨by omega⟩
   have hT := Aside0.mk hlt
   replace ho' := Aside0.mk ho'
   replace hk1 := Aside0.mk hk1
   have hdI : (d : Int) ≤ 128 := o3
   clear ho hlt hd hend o1 o2 o3
   gi_wp2
   obtain ⟨wo, rfl⟩ : ∃ wo : World, wo = wr := ⟨_, rfl⟩
   gi_loopw [15] (fun i wr => ∃ j : Nat, i = .int .i64 j ∧ j ≤ d ∧ Aside0 ((Kd.int .i64).C wr (some ad) gs.length gs) ∧ Aside0 (J (o + j - 1) wr)) (fun i _ => d - (intOf i).toNat)
   case atStart => exact ⟨0, rfl, by omega, hC, hJ⟩
   case round =>
    obtain ⟨j, rfl, hj, hC2, hJ2⟩ := hrel
    clear hC hJ hcell
    by_cases hjt : j < d
    ·have hjI : (j : Int) < (d : Int) := by omega
     have hjT := Aside0.mk hjt
     by_cases hb0 : 0 < o + j
     ·have hm : o + j - 1 < stN gs := by have := hN.out; omega
      obtain ⟨fn, tmps, assign, body, hy, hR⟩ := HY.out _ wr hm hJ2.out
      rw [hsv.out j hjt hb0] at hy
      have hR2 := Aside0.mk hR
      have hnx : Aside0 (o + j - 1 + 1 = o + (j + 1) - 1) := ⟨by omega⟩
      have hpos : decide (0 < (k : Int) + (j : Int)) = true := decide_eq_true (by
       have := hk0.out
       omega)
      clear hR hm hjt hb0
      by_cases hj0 : j = 0
      ·rw [if_pos hj0] at hy
       have hj1 : ((j : Int) == 0) = true := by rw [hj0]; rfl
       clear hj0
       gi_wp2
       refine hR2.out.mono ?_
       rintro e W3 ⟨rfl, hJ3, hk3⟩
       rw [hnx.out] at hJ3
       have hC3 := Aside0.mk (C_same hC2.out (fun g hg => hk3 g (HLs.out (by have := hT.out; omega) g hg)))
       replace hJ3 := Aside0.mk hJ3
       clear hR2 hk3 hy
       gi_wp2
       go_roundw
       case rel => exact ⟨j + 1, by go_num, hjT.out, hC3, hJ3⟩
       case measure => have := hjT.out; simp [intOf]; omega
      ·rw [if_neg hj0] at hy
       have hj1 : ((j : Int) == 0) = false := by simpa using hj0
       clear hj0
       gi_wp2
       refine hR2.out.mono ?_
       rintro e W3 ⟨rfl, hJ3, hk3⟩
       rw [hnx.out] at hJ3
       have hC3 := Aside0.mk (C_same hC2.out (fun g hg => hk3 g (HLs.out (by have := hT.out; omega) g hg)))
       replace hJ3 := Aside0.mk hJ3
       clear hR2 hk3 hy
       gi_wp2
       go_roundw
       case rel => exact ⟨j + 1, by go_num, hjT.out, hC3, hJ3⟩
       case measure => have := hjT.out; simp [intOf]; omega
     ·have hj1 : ((j : Int) == 0) = true := by rw [show j = 0 by omega]; rfl
      have hpos : decide (0 < (k : Int) + (j : Int)) = false := decide_eq_false (by
       have := hk1.out
       omega)
      have hJ3 : Aside0 (J (o + (j + 1) - 1) wr) := ⟨by rw [show o + (j + 1) - 1 = o + j - 1 by omega]; exact hJ2.out⟩
      clear hb0 hjt
      gi_wp2
      refine ⟨fun f hf => (by cases hf), ?_⟩
      gi_wp2
      go_roundw
      case rel => exact ⟨j + 1, by go_num, hjT.out, hC2, hJ3⟩
      case measure => have := hjT.out; simp [intOf]; omega
    ·obtain rfl : j = d := by omega
     have hJ3 : Aside0 (J (offG gs (k + 1) - 1) wr) := ⟨by rw [← ho'.out, hoo.out]; exact hJ2.out⟩
     clear hjt hj hsv
     gi_wp2
     go_roundw
     case rel => exact ⟨k + 1, by go_num, hT.out, hC2, hJ3⟩
     case measure => have := hT.out; simp [intOf]; omega
  ·obtain rfl : k = gs.length := by omega
   gi_wp2
   go_end0
   exact ⟨⟨_, rfl⟩, hJ.out⟩
end Gn

namespace Sec
attribute [local go_sem] max2_int min2_int max_two min_two max_three min_three
open Q15
open Runs Go.Shelf
open Q16 (cell_heap frozen_heap R_turn)
open Q21 (cell_blk frozen_blk)
open Bts
open Bk
def bandL (ws l : List Int) (j : Nat) : List Int := (l.drop (offS ws j)).take (rd ws j).toNat
def bcost (k : Nat) (x : List Int) : Int := if fitB k x = true then costB k x else -1
def rowN (x : List Int) (n : Nat) : List Value := (List.range 8).map fun k => .int .i64 (if k < n then bcost k x else 0)
def rowsC (ws l : List Int) (n : Nat) : List Value := ((List.range n).map fun j => rowN (bandL ws l j) 8).flatten
theorem rowN_len (x : List Int) (n : Nat) : (rowN x n).length = 8 := by simp [rowN]
theorem rowN_zero (x : List Int) : rowN x 0 = List.replicate 8 (.int .i64 0) := by unfold rowN; rfl
theorem rowN_set (x : List Int) {n : Nat} (h : n < 8) : (rowN x n).set n (.int .i64 (bcost n x)) = rowN x (n + 1) := by
 apply List.ext_getElem
 ·simp [rowN_len]
 ·intro i h1 h2
  simp only [rowN_len] at h2
  rw [List.getElem_set]
  simp only [rowN, List.getElem_map, List.getElem_range]
  by_cases hi : n = i
  ·subst hi; simp
  ·rw [if_neg hi]
   by_cases hl : i < n
   ·rw [if_pos hl, if_pos (by omega)]
   ·rw [if_neg hl, if_neg (by omega)]
theorem rowN_at (x : List Int) {k : Nat} (h : k < 8) : (rowN x 8)[k]? = some (.int .i64 (bcost k x)) := by
 rw [List.getElem?_eq_getElem (by rw [rowN_len]; exact h)]
 simp [rowN, h]
theorem rowN_next (x : List Int) {n : Nat} (h : n < 8) : (rowN x n).toArray[n]? = some (.int .i64 0) := by
 rw [List.getElem?_toArray, List.getElem?_eq_getElem (by rw [rowN_len]; exact h)]
 simp [rowN]
theorem rowsC_succ (ws l : List Int) (n : Nat) : rowsC ws l (n + 1) = rowsC ws l n ++ rowN (bandL ws l n) 8 := by simp [rowsC, List.range_succ]
theorem rowsC_len (ws l : List Int) : ∀ n, (rowsC ws l n).length = n * 8
 | 0 => rfl
 | n + 1 => by rw [rowsC_succ, List.length_append, rowsC_len ws l n, rowN_len]; omega
theorem rowsC_at (ws l : List Int) {j k : Nat} (hk : k < 8) : ∀ n, j < n → (rowsC ws l n)[8 * j + k]? = some (.int .i64 (bcost k (bandL ws l j)))
 | 0, h => by omega
 | n + 1, h => by
  rw [rowsC_succ]
  by_cases hj : j < n
  ·rw [List.getElem?_append_left (by rw [rowsC_len]; omega)]
   exact rowsC_at ws l hk n hj
  ·obtain rfl : j = n := by omega
   rw [List.getElem?_append_right (by rw [rowsC_len]; omega), rowsC_len, show 8 * j + k - j * 8 = k by omega]
   exact rowN_at _ hk
theorem offS_le {ws l : List Int} (hok : Ok ws l) {j : Nat} (hj : j < ws.length) : offS ws j + (rd ws j).toNat ≤ l.length ∧ 1 ≤ (rd ws j).toNat ∧ (rd ws j).toNat ≤ 128 ∧ rd ws j = ((rd ws j).toNat : Nat) := by
 have h1 := offS_next hok.wid hj
 have h2 := hok.wid _ (rd_mem ws j hj)
 have h3 := hok.sum
 omega
theorem bandL_len {ws l : List Int} (hok : Ok ws l) {j : Nat} (hj : j < ws.length) : (bandL ws l j).length = (rd ws j).toNat := by
 have := offS_le hok hj
 unfold bandL
 rw [List.length_take, List.length_drop]
 omega
theorem bandL_are {ws l : List Int} (h : areB l = true) (j : Nat) : areB (bandL ws l j) = true := by
 unfold areB Q16.rng at h ⊢
 refine List.all_eq_true.2 fun x hx => List.all_eq_true.1 h x ?_
 exact List.mem_of_mem_drop (List.mem_of_mem_take hx)
theorem sub_C {w : World} {ad : Addr} {l : List Int} {o d : Nat} (hr : (Kd.int .i64).C w (some ad) l.length l) (h : o + d ≤ l.length) (hd : 1 ≤ d) : (Kd.int .i64).C w (some (ad.add o)) d ((l.drop o).take d) := by
 have h9 : o = o * 1 := by omega
 obtain ⟨r1, r2, r3⟩ := Kd.reads_of_C (enc := Value.int .i64) (h1 := fun _ => rfl) (d := (0 : Int)) hr
 have hl : ((l.drop o).take d).length = d := by rw [List.length_take, List.length_drop]; omega
 refine Kd.C_of_reads (d := (0 : Int)) ⟨hl, by omega, fun h0 => ?_⟩
 obtain ⟨a, ha, hc⟩ := r3 (by omega)
 cases ha
 refine ⟨_, rfl, fun j hj => ?_⟩
 have h2 := hc (o + j) (by omega)
 have e1 : (ad.add o).add j = ad.add (o + j) := by
  unfold Addr.add
  by_cases g1 : o = 0
  ·subst g1; simp
  ·by_cases g2 : j = 0
   ·subst g2; simp [g1]
   ·simp [g1, g2, Nat.add_assoc]
 rw [e1]
 have e2 : ((l.drop o).take d).getD j 0 = l.getD (o + j) 0 := by
  rw [List.getD_eq_getElem?_getD, List.getD_eq_getElem?_getD, List.getElem?_take_of_lt hj, List.getElem?_drop]
 rw [e2]
 exact h2
theorem band_C {ws l : List Int} (hok : Ok ws l) {j : Nat} (hj : j < ws.length) {w : World} {ad : Addr} (hr : (Kd.int .i64).C w (some ad) l.length l) : (Kd.int .i64).C w (some (ad.add (offS ws j))) (bandL ws l j).length (bandL ws l j) := by
 have h := offS_le hok hj
 rw [bandL_len hok hj]
 exact sub_C hr h.1 h.2.1
theorem costB_bd {k : Nat} (hk : k < 8) {x : List Int} (h : areB x = true) : 0 ≤ costB k x ∧ costB k x ≤ 104 * x.length := by
 have h1 := costTo_bd hk h (x.length / dimB k)
 have h2 : x.length / dimB k ≤ x.length := Nat.div_le_self _ _
 unfold costB
 omega
theorem bcost_bd {k : Nat} (hk : k < 8) {x : List Int} (h : areB x = true) : -1 ≤ bcost k x ∧ bcost k x ≤ 104 * x.length := by
 have := costB_bd hk h
 unfold bcost
 by_cases hf : fitB k x = true
 ·rw [if_pos hf]; omega
 ·rw [if_neg hf]; omega
theorem Cost_one (k : Nat) (hk : k < 8) (A : Option Addr) (cap : Nat) (l : List Int) (w : World) (hL : LaidB w) (hr : (Kd.int .i64).C w A l.length l) (hl : l.length ≤ 1000) (hcap : l.length ≤ cap) (hA : areB l = true) :
  Calls Tryz.prog 187 #[.int .i64 k, .slice A l.length cap] w fun e w' => ∃ c E : Int, e = .returned (.tuple #[.int .i64 c, .int .i64 E]) ∧ (E = 0 ∧ c = bcost k l ∧ fitB k l = true ∨ E = 4 ∧ bcost k l = -1 ∧ fitB k l = false) ∧ Below w.heap.size w w' := by
 cases hf : fitB k l with
 | true =>
  refine (Cost_yes k hk A cap l w hL hr hl hcap hA hf).mono ?_
  rintro e w' ⟨rfl, hb⟩
  exact ⟨_, _, rfl, .inl ⟨rfl, by unfold bcost; rw [if_pos hf], rfl⟩, hb⟩
 | false =>
  refine (Cost_bad k hk A cap l w hL hr hl hA hf).mono ?_
  rintro e w' ⟨rfl, hb⟩
  exact ⟨_, _, rfl, .inr ⟨rfl, by unfold bcost; rw [if_neg (by rw [hf]; simp)], rfl⟩, hb⟩
theorem Rws.turnL {wr w w1 : World} {L : List Row} {G : List Blk} {row : Option Nat} (h : Rws wr w L G) (hg : w.grownBy w1 row) (hr : ∀ r, row = some r → wr.heap.size ≤ r ∧ ∃ o : Obj, w.heap[r]? = some o ∧ o.isCells = false) : Rws wr w1 L G :=
 ⟨h.below.grown hg h.below.size (fun r e => (hr r e).1), fun q hq => own_other (h.row q hq) hg (by
  cases hb : q.v.ownBlock with
  | none => exact .inl rfl
  | some b =>
   refine .inr fun e => ?_
   obtain ⟨_, o, ho, hc⟩ := hr b e.symm
   obtain ⟨_, h2⟩ := h.row q hq
   rcases h2 with ⟨hv, _⟩ | ⟨g, cap, cur, hv, _, hg2, _⟩
   ·rw [hv] at hb; cases hb
   ·rw [hv] at hb
    cases hb
    rw [hg2] at ho
    cases ho
    cases hc), h.pair, fun b hb => ⟨heap_kept (h.blk b hb).1 hg (fun r e => (hr r e).2), (h.blk b hb).2⟩, h.far, h.gs⟩
theorem KeepL.of {wr W W1 : World} {gs : List Nat} (h0 : Below wr.heap.size wr W) (h1 : Below wr.heap.size wr W1) (h : ∀ g ∈ gs, g < wr.heap.size ∨ ∃ o, W.heap[g]? = some o ∧ W1.heap[g]? = some o) : KeepL gs W W1 := fun g hg => by
 rcases h g hg with h | ⟨o, e1, e2⟩
 ·rw [h1.block g h, h0.block g h]
 ·rw [e1, e2]
theorem KeepL.step {gs : List Nat} {W W1 : World} {N : Nat} (h : ∀ g ∈ gs, g < N) (hN : N ≤ W.heap.size) (hb : Below W.heap.size W W1) : KeepL gs W W1 := fun g hg => hb.block g (by have := h g hg; omega)
theorem KeepL.set {gs : List Nat} {W W1 : World} {N : Nat} (h : ∀ g ∈ gs, g < N) (hk : KeepL gs W W1) {p : Addr} (hp : N ≤ p.block) (u : Value) : KeepL gs W (W1.setCell p u) := fun g hg => (Below.heap_setCell W1 p u g (by have := h g hg; omega)).trans (hk g hg)
theorem KeepL.grown {gs : List Nat} {W W1 W2 : World} {N : Nat} {row : Option Nat} (h : ∀ g ∈ gs, g < N) (hN : N ≤ W1.heap.size) (hk : KeepL gs W W1) (hg : W1.grownBy W2 row) (hr : ∀ g ∈ gs, row ≠ some g) : KeepL gs W W2 := fun g hm => (hg.block g (by have := h g hm; omega) (fun e => hr g hm e.symm)).trans (hk g hm)
theorem KeepL.two {wr W W1 : World} {L L1 : List Row} {G G1 : List Blk} {b1 b2 : Blk} {gs : List Nat} (h : Rws wr W L G) (h1 : Rws wr W1 L1 G1) (m1 : b1 ∈ G) (m2 : b2 ∈ G) (n1 : b1 ∈ G1) (n2 : b2 ∈ G1) (hg : ∀ g ∈ gs, g < wr.heap.size) : KeepL (b1.g :: b2.g :: gs) W W1 :=
 KeepL.of h.below h1.below fun g hm => by
  rcases List.mem_cons.1 hm with rfl | hm
  ·exact .inr ⟨_, (h.blk b1 m1).1, (h1.blk b1 n1).1⟩
  ·rcases List.mem_cons.1 hm with rfl | hm
   ·exact .inr ⟨_, (h.blk b2 m2).1, (h1.blk b2 n2).1⟩
   ·exact .inl (hg g hm)
theorem C_blk_lt {w : World} {A : Option Addr} {n : Nat} {xs : List Int} (h : (Kd.int .i64).C w A n xs) (h0 : 0 < xs.length) : ∀ g ∈ blkOf A, g < w.heap.size := fun g hg => by
 obtain ⟨r1, r2, r3⟩ := Kd.reads_of_C (enc := Value.int .i64) (h1 := fun _ => rfl) (d := (0 : Int)) h
 obtain ⟨a, rfl, hc⟩ := r3 (by omega)
 have := World.block_lt_of_cell? _ _ (hc 0 (by omega))
 rw [add_block] at this
 rw [List.mem_singleton.1 hg]
 exact this
end Sec

namespace Sca
attribute [local go_sem] max2_int min2_int max_two min_two max_three min_three
open Q15
open Runs Go.Shelf
open Q16 (cell_heap frozen_heap R_turn)
open Q21 (cell_blk frozen_blk)
open Bts
open Sec
attribute [local go_sem] Oper.semAt_some
def scT (ss : List Int) (us : List Bool) : Nat → Int
 | 0 => 0
 | m + 1 => scT ss us m + (if m = 0 then 7 else lenD (rd ss (uAt us m) - rd ss (uAt us (m - 1))))
def costSc (ss : List Int) (us : List Bool) : Int := scT ss us (uN us)
theorem scE_yes {ss : List Int} {us : List Bool} (h : scE ss us = 0) : ∀ x ∈ ss, 0 ≤ x ∧ x ≤ 95 := fun x hx => by
 unfold scE at h
 split at h
 ·rename_i h1
  have := List.all_eq_true.1 h1 x hx
  simpa [isS] using this
 ·omega
theorem uN_le (us : List Bool) : uN us ≤ us.length := uix_len us us.length
theorem scT_bd {ss : List Int} {us : List Bool} (hl : ss.length = us.length) (h : ∀ x ∈ ss, 0 ≤ x ∧ x ≤ 95) : ∀ m, m ≤ uN us → 0 ≤ scT ss us m ∧ scT ss us m ≤ 15 * m
 | 0, _ => by simp [scT]
 | m + 1, hm => by
  have h1 := scT_bd hl h m (by omega)
  have h2 := (uAt_lt (us := us) (m := m) (by omega)).1
  have h3 := h _ (rd_mem ss (uAt us m) (by omega))
  unfold scT
  split
  ·push_cast; omega
  ·have h4 := (uAt_lt (us := us) (m := m - 1) (by omega)).1
   have h5 := h _ (rd_mem ss (uAt us (m - 1)) (by omega))
   have h6 := lenD_bd (d := rd ss (uAt us m) - rd ss (uAt us (m - 1))) (by omega) (by omega)
   push_cast; omega
theorem CB_blk_lt {w : World} {A : Option Addr} {n : Nat} {xs : List Bool} (h : Kd.bool.C w A n xs) (h0 : 0 < xs.length) : ∀ g ∈ blkOf A, g < w.heap.size := fun g hg => by
 obtain ⟨r1, r2, r3⟩ := Kd.reads_of_C (enc := Value.bool) (h1 := fun _ => rfl) (d := false) h
 obtain ⟨a, rfl, hc⟩ := r3 (by omega)
 have := World.block_lt_of_cell? _ _ (hc 0 (by omega))
 rw [add_block] at this
 rw [List.mem_singleton.1 hg]
 exact this
set_option maxRecDepth 100000 in
set_option maxHeartbeats 4000000 in
theorem scCost_no (A B : Option Addr) (c1 c2 : Nat) (ss : List Int) (us : List Bool) (w : World) (hr : (Kd.int .i64).C w A ss.length ss) (hr2 : Kd.bool.C w B us.length us) (hl : ss.length = us.length) (h128 : us.length ≤ 128) (he : scE ss us ≠ 0) :
  Calls Tryz.prog 114 #[.slice A ss.length c1, .slice B us.length c2] w fun e w' => e = .returned (.tuple #[.int .i64 0, .int .i64 (scE ss us)]) ∧ Below w.heap.size w w' := by
 have HC := Aside0.mk (fun (W : World) (hb : Below w.heap.size w W) => checked_calls A B c1 c2 ss us W (Kd.C_below hr hb) (Kd.C_below hr2 hb) hl h128)
 have hb1 := (Below.refl w.heap.size w).alloc (Nat.le_refl _) (.cells #[.slice A ss.length c1] 22)
 obtain ⟨E, hE⟩ : ∃ E, E = scE ss us := ⟨_, rfl⟩
 rw [← hE] at he HC ⊢
 have hne : (E != 0) = true := by simpa using he
 clear hr hr2 he hE hl h128
 go_enter Tryz.func114, Tryz.ntmps114
 go_wp2_with (first | (go_at_call 169; refine (HC.out _ hb1).mono ?_; rintro e w' ⟨rfl, hbn⟩; have hb := bnx hb1 hbn; clear hbn hb1))
 go_ret2
 exact ⟨rfl, hb⟩
set_option maxRecDepth 100000 in
set_option maxHeartbeats 8000000 in
theorem scCost_calls (A B : Option Addr) (c1 c2 : Nat) (ss : List Int) (us : List Bool) (w : World) (hr : (Kd.int .i64).C w A ss.length ss) (hr2 : Kd.bool.C w B us.length us) (hl : ss.length = us.length) (h128 : us.length ≤ 128) (h0 : 0 < us.length) (he : scE ss us = 0) :
  Calls Tryz.prog 114 #[.slice A ss.length c1, .slice B us.length c2] w fun e w' => e = .returned (.tuple #[.int .i64 (costSc ss us), .int .i64 0]) ∧ Below w.heap.size w w' := by
 have HC := Aside0.mk (fun (W : World) (hb : Below w.heap.size w W) => checked_calls A B c1 c2 ss us W (Kd.C_below hr hb) (Kd.C_below hr2 hb) hl h128)
 rw [he] at HC
 have HR := Aside0.mk hr
 have HR2 := Aside0.mk hr2
 have HG := Aside0.mk (CB_blk_lt hr2 h0)
 have HS := Aside0.mk (scE_yes he)
 have HL := Aside0.mk hl
 have H128 := Aside0.mk h128
 have hmo : Tryz.prog.follows .mixedOrders = true := by kernel_rfl
 clear hr hr2 he hl h128 h0
 refine (callsIn_wide (n := 3)).1 ?_
 refine callsIn_of_wp_marks Tryz.func114 rfl trivial ?_ rfl
 simp only [Tryz.ntmps114, List.size_toArray, List.length_cons, List.length_nil, Nat.reduceAdd, Nat.reduceSub, Array.replicate_succ, Array.replicate_zero, List.push_toArray, List.append_toArray, List.nil_append, List.cons_append]
 gi_wp2_with fail
 obtain ⟨W0, hW0⟩ : ∃ W0, W0 = w.alloc (.cells #[.slice A ss.length c1] 22) := ⟨_, rfl⟩
 have hR0 := (Rws.start w).alloc #[.slice A ss.length c1] 22
 simp only [World.size_alloc, List.nil_append, List.cons_append] at hR0
 rw [← hW0] at hR0 ⊢
 clear hW0
 refine ⟨trivial, (callsIn_wide.2 (HC.out W0 hR0.below)).mono ?_⟩
 rintro en W1 ⟨rfl, hb1⟩
 have hR1 := hR0.step hb1
 obtain ⟨g7, hg7⟩ : ∃ g7, g7 = W1.heap.size := ⟨_, rfl⟩
 have hg7w : w.heap.size ≤ g7 := by rw [hg7]; exact hR1.below.size
 have hR2 := hR1.alloc #[.int .i64 0] 3
 simp only [World.size_alloc, List.nil_append, List.cons_append] at hR2
 rw [← hg7] at hR2
 clear hR0 hb1
 gi_wp2_with fail
 rw [← hg7]
 obtain ⟨W2, hW2⟩ : ∃ W2, W2 = W1.alloc (.cells #[.int .i64 0] 3) := ⟨_, rfl⟩
 have hs2 : W2.heap.size = g7 + 1 := by rw [hW2, hg7]; simp
 rw [← hW2] at hR2 ⊢
 clear hW2 hR1 hg7
 refine ⟨trivial, (callsIn_wide.2 (walk_calls B us.length c2 W2)).mono ?_⟩
 rintro en W3 ⟨rfl, hW3⟩
 have hs3 : W3.heap.size = g7 + 1 + 1 := by rw [hW3]; simp [hs2]
 have hR3 := hR2.alloc #[.slice B us.length c2] 23
 simp only [World.size_alloc, List.nil_append, List.cons_append] at hR3
 rw [← hW3, hs2] at hR3
 rw [hs2]
 have b8 : W3.cell? ⟨g7 + 1, 0, none⟩ = some (.slice B us.length c2) := by rw [cell_blk (hR3.blk ⟨(g7 + 1), #[.slice B us.length c2], 23⟩ (by simp)).1]; rfl
 have HB3 := Aside0.mk (Kd.C_below HR2.out hR3.below)
 replace hs3 := Aside0.mk hs3
 replace hR3 := Aside0.mk hR3
 clear hW3 hR2 hs2
 gi_wp2_with fail
 refine wpIn_rangeA rfl (by omega) (gf := 199) (lb := #[.pointer (some ⟨g7 + 1, 0, none⟩)]) rfl trivial (enters_of Tryz.func199 (by kernel_rfl) rfl)
  (walk1_runs Fence.wide _ trivial rfl (by omega) (g7 + 1) B c2 us H128.out W3 HB3.out b8)
  (fun h k => h.trans k) ?keep (Below.refl _ _) (fun _ => rfl) (fun j W => Rws w W [] [⟨w.heap.size, #[.slice A ss.length c1], 22⟩, ⟨g7, #[.int .i64 (scT ss us j)], 3⟩, ⟨(g7 + 1), #[.slice B us.length c2], 23⟩]) ?own ?start ?round ?done
 case keep => exact KeepL.putObj (N := W3.heap.size) (fun g hg => by have := HG.out g hg; have := hs3.out; omega)
 case own => exact fun j W W' row h hg hrow => Rws.turnL h hg (fun r e => ⟨by have := (hrow r e).1; have := hs3.out; omega, (hrow r e).2⟩)
 case start => exact hR3.out
 case round =>
  rintro L j W hRw hj
  obtain ⟨hi1, -⟩ := uAt_lt hj
  have hbd := scT_bd HL.out HS.out j (by omega)
  have hj9 : j ≤ 128 := by have := uN_le us; have := H128.out; omega
  have hst : scT ss us (j + 1) = scT ss us j + (if j = 0 then 7 else lenD (rd ss (uAt us j) - rd ss (uAt us (j - 1)))) := rfl
  obtain ⟨sn, hsn⟩ : ∃ sn, sn = scT ss us (j + 1) := ⟨_, rfl⟩
  rw [← hsn] at hst
  replace hsn := Aside0.mk hsn
  rcases j with _ | j
  ·have hu0 : uBe us 0 = -1 := rfl
   rw [hu0]
   rw [if_pos rfl, show scT ss us 0 = 0 from rfl] at hst
   rw [show scT ss us 0 = 0 from rfl] at hRw
   obtain ⟨o, ho⟩ : ∃ o : Nat, o = uAt us 0 := ⟨_, rfl⟩
   rw [← ho]
   clear ho hbd hj hi1 hu0 hj9
   gi_wp2
   refine ⟨(KeepsOthers.refl W).from _, KeepL.refl _ _, fun Z => Rws w Z [] [⟨w.heap.size, #[.slice A ss.length c1], 22⟩, ⟨g7, #[.int .i64 (0)], 3⟩, ⟨(g7 + 1), #[.slice B us.length c2], 23⟩], hRw, fun _ Z Z' row h hg hrow => Rws.turnL h hg (fun r e => ⟨by have := (hrow r e).1; have := hs3.out; omega, (hrow r e).2⟩), ?_⟩
   clear hRw
   rintro Z hRw
   have z7 : Z.cell? ⟨g7, 0, none⟩ = some (.int .i64 0) := by rw [cell_blk (hRw.blk ⟨g7, #[.int .i64 (0)], 3⟩ (by simp)).1]; rfl
   have y7 := frozen_blk (hRw.blk ⟨g7, #[.int .i64 (0)], 3⟩ (by simp)).1 0
   have hfin := Rws.set (G1 := [⟨w.heap.size, #[.slice A ss.length c1], 22⟩]) (G2 := [⟨(g7 + 1), #[.slice B us.length c2], 23⟩]) (b := ⟨g7, #[.int .i64 (0)], 3⟩) hRw 0 (.int .i64 7)
   simp only [List.nil_append, List.cons_append, List.setIfInBounds_toArray, List.set_cons_zero] at hfin
   have hst' : Aside0 (sn = 7) := ⟨by omega⟩
   have hK5 := Aside0.mk (KeepsOthers.setCell Z ⟨g7, 0, none⟩ (.int .i64 7))
   replace hfin := Aside0.mk hfin
   clear hst hRw
   gi_wp2
   exact ⟨hK5.out.from _, KeepL.set HG.out (KeepL.refl _ _) (by exact hg7w) _, by show Rws w _ [] [⟨w.heap.size, #[.slice A ss.length c1], 22⟩, ⟨g7, #[.int .i64 (scT ss us (0 + 1))], 3⟩, ⟨(g7 + 1), #[.slice B us.length c2], 23⟩]; rw [← hsn.out, hst'.out]; exact hfin.out⟩
  ·obtain ⟨hi2, -⟩ := uAt_lt (us := us) (m := j) (by omega)
   have hu1 : uBe us (j + 1) = (uAt us j : Nat) := rfl
   rw [hu1]
   rw [if_neg (by omega), Nat.add_sub_cancel] at hst
   rw [← HL.out] at hi1 hi2
   have v1 := HS.out _ (rd_mem ss (uAt us (j + 1)) hi1)
   have v2 := HS.out _ (rd_mem ss (uAt us j) hi2)
   obtain ⟨ad, rfl, q1⟩ := el_at HR.out hRw.below hi1
   obtain ⟨ad', had, q2⟩ := el_at HR.out hRw.below hi2
   cases had
   obtain ⟨o, ho⟩ : ∃ o : Nat, o = uAt us (j + 1) := ⟨_, rfl⟩
   obtain ⟨p, hp⟩ : ∃ p : Nat, p = uAt us j := ⟨_, rfl⟩
   rw [← ho] at hi1 q1 v1 hst ⊢
   rw [← hp] at hi2 q2 v2 hst ⊢
   obtain ⟨x, hx⟩ : ∃ x, x = rd ss (o : Nat) := ⟨_, rfl⟩
   obtain ⟨y, hy⟩ : ∃ y, y = rd ss (p : Nat) := ⟨_, rfl⟩
   rw [← hx] at q1 v1 hst
   rw [← hy] at q2 v2 hst
   obtain ⟨sm, hsm⟩ : ∃ sm, sm = scT ss us (j + 1) := ⟨_, rfl⟩
   rw [← hsm] at hst hbd hRw
   have hlb := lenD_bd (d := x - y) (by omega) (by omega)
   have hLn := Aside0.mk (fun (W : World) => length_calls (x - y) W (by omega) (by omega))
   obtain ⟨ln, hln⟩ : ∃ ln, ln = lenD (x - y) := ⟨_, rfl⟩
   rw [← hln] at hst hlb hLn
   have hI1 : IntKind.i64.wrap (x - y) = x - y := IntWalk.i64_in _ (by omega)
   have hsb : 0 ≤ sm ∧ sm ≤ 2000000 := by omega
   subst hst
   have hI2 : IntKind.i64.wrap (sm + ln) = sm + ln := IntWalk.i64_in _ (by omega)
   have hssI : (o : Int) < (ss.length : Int) ∧ (p : Int) < (ss.length : Int) := by omega
   have hq1 : Aside0 (∀ Z, Below w.heap.size w Z → Z.cell? (ad.add o) = some (.int .i64 x)) := ⟨fun Z hb => by
    obtain ⟨ad2, e, q⟩ := el_at HR.out hb hi1
    cases e
    rw [← hx] at q
    exact q⟩
   have hq2 : Aside0 (∀ Z, Below w.heap.size w Z → Z.cell? (ad.add p) = some (.int .i64 y)) := ⟨fun Z hb => by
    obtain ⟨ad2, e, q⟩ := el_at HR.out hb hi2
    cases e
    rw [← hy] at q
    exact q⟩
   have ho1 : decide ((p : Int) < 0) = false := decide_eq_false (by omega)
   clear ho hp hbd hj hi1 hi2 hj9 hu1 hx hy hln hsm q1 q2 v1 v2
   gi_wp2
   refine ⟨(KeepsOthers.refl W).from _, KeepL.refl _ _, fun Z => Rws w Z [] [⟨w.heap.size, #[.slice (some ad) ss.length c1], 22⟩, ⟨g7, #[.int .i64 (sm)], 3⟩, ⟨(g7 + 1), #[.slice B us.length c2], 23⟩], hRw, fun _ Z Z' row h hg hrow => Rws.turnL h hg (fun r e => ⟨by have := (hrow r e).1; have := hs3.out; omega, (hrow r e).2⟩), ?_⟩
   clear hRw
   rintro Z hRw
   have z2 : Z.cell? ⟨w.heap.size, 0, none⟩ = some (.slice (some ad) ss.length c1) := by rw [cell_blk (hRw.blk ⟨w.heap.size, #[.slice (some ad) ss.length c1], 22⟩ (by simp)).1]; rfl
   have z7 : Z.cell? ⟨g7, 0, none⟩ = some (.int .i64 sm) := by rw [cell_blk (hRw.blk ⟨g7, #[.int .i64 (sm)], 3⟩ (by simp)).1]; rfl
   have e1 := hq1.out _ hRw.below
   have e2 := hq2.out _ hRw.below
   replace hRw := Aside0.mk hRw
   gi_wp2_with fail
   refine Held.wpIn_region_last (fun W' => W'.cell? ⟨w.heap.size, 0, none⟩ = some (.slice (some ad) ss.length c1) ∧ W'.cell? ⟨g7, 0, none⟩ = some (.int .i64 sm) ∧ W'.cell? (ad.add o) = some (.int .i64 x) ∧ W'.cell? (ad.add p) = some (.int .i64 y) ∧ Below Z.heap.size Z W') [12] hmo (by kernel_rfl) (fun ⟨_, _, h⟩ => h) ⟨z2, z7, e1, e2, (Below.refl _ _).drew⟩ (fun hHeld => ?_)
   obtain ⟨ZD, hZD⟩ : ∃ ZD, ZD = Z.drew := ⟨_, rfl⟩
   rw [← hZD] at hHeld ⊢
   clear hZD
   (refine Tk.tl 0 (.int .i64 sm) hHeld ?_)
   (refine Tk.tl 1 (.slice (some ad) ss.length c1) hHeld ?_)
   (refine Tk.tl 2 (.int .i64 o) hHeld ?_)
   (refine Tk.tl 3 (.pointer (some (ad.add o))) hHeld ?_)
   (refine Tk.tl 4 (.int .i64 x) hHeld ?_)
   (refine Tk.tl 5 (.slice (some ad) ss.length c1) hHeld ?_)
   (refine Tk.tl 6 (.int .i64 p) hHeld ?_)
   (refine Tk.tl 7 (.pointer (some (ad.add p))) hHeld ?_)
   (refine Tk.tl 8 (.int .i64 y) hHeld ?_)
   (refine Tk.tl 9 (.int .i64 (x - y)) hHeld ?_)
   (refine wpAnyLast_ready (rs := [10]) (by kernel_rfl) (by simp) ?_; refine AllReadyL.cons rfl (by decide) (fun K hK => ?_) AllReadyL.nil)
   go_simp
   refine (hLn.out _).mono ?_
   rintro en w1 ⟨rfl, hw1⟩
   rw [hw1]
   clear hw1
   go_wp2_with fail
   refine hK.out _ _ hHeld (fun hHeld => ?_)
   clear hK K
   try simp only [Act.put, Tk.z1, Tk.z2, Tk.z3, Tk.z4, Tk.z5, Tk.z6]
   (refine Tk.tl 11 (.int .i64 (sm + ln)) hHeld ?_)
   have hRs := hRw.out.step hHeld.2.2.2.2
   have G7 := (hRs.blk ⟨g7, #[.int .i64 (sm)], 3⟩ (by simp)).1
   have y7 := frozen_blk G7 0
   have z7' := hHeld.2.1
   have hRn := Rws.set (G1 := [⟨w.heap.size, #[.slice (some ad) ss.length c1], 22⟩]) (G2 := [⟨(g7 + 1), #[.slice B us.length c2], 23⟩]) (b := ⟨g7, #[.int .i64 (sm)], 3⟩) hRs 0 (.int .i64 (sm + ln))
   simp only [List.setIfInBounds_toArray, List.set_cons_zero, List.nil_append, List.cons_append] at hRn
   have hK5 : KeepsOthers Z (ZD.setCell ⟨g7, 0, none⟩ (.int .i64 (sm + ln))) := (keeps_below hHeld.2.2.2.2).trans (KeepsOthers.setCell _ ⟨g7, 0, none⟩ (.int .i64 (sm + ln)))
   have hkl : KeepL (blkOf B) Z (ZD.setCell ⟨g7, 0, none⟩ (.int .i64 (sm + ln))) := KeepL.set HG.out (KeepL.step HG.out hRw.out.below.size hHeld.2.2.2.2) (by exact hg7w) _
   obtain ⟨wn, hwn⟩ : ∃ wn, wn = ZD.setCell ⟨g7, 0, none⟩ (.int .i64 (sm + ln)) := ⟨_, rfl⟩
   rw [← hwn] at hRn hK5 hkl
   replace hRn := Aside0.mk hRn
   replace hK5 := Aside0.mk hK5
   replace hkl := Aside0.mk hkl
   replace hwn := Aside0.mk hwn
   clear hRs G7
   (refine wpAnyLast_ready (rs := [12]) (by kernel_rfl) (by simp) ?_; refine AllReadyL.cons_last rfl (by decide) (fun K hK => ?_) AllReadyL.nil)
   go_simp
   go_wp2_with fail
   refine hK.out _ _ ?_
   clear hK K
   try simp only [Act.put, Tk.z1, Tk.z2, Tk.z3, Tk.z4, Tk.z5, Tk.z6]
   refine wpAnyLast_done (by kernel_rfl) ?_ _
   rw [← hwn.out]
   clear hHeld hwn z2 z7 e1 e2 z7' y7
   gi_wp2
   exact ⟨hK5.out.from _, hkl.out, by show Rws w _ [] [⟨w.heap.size, #[.slice (some ad) ss.length c1], 22⟩, ⟨g7, #[.int .i64 (scT ss us (j + 1 + 1))], 3⟩, ⟨(g7 + 1), #[.slice B us.length c2], 23⟩]; rw [← hsn.out]; exact hRn.out⟩
 case done =>
  rintro D W hD hRw hDf
  have z7 : W.cell? ⟨g7, 0, none⟩ = some (.int .i64 (scT ss us (uN us))) := by rw [cell_blk (hRw.blk ⟨g7, #[.int .i64 (scT ss us (uN us))], 3⟩ (by simp)).1]; rfl
  have hq := hRw.below
  have hCS : Aside0 (costSc ss us = scT ss us (uN us)) := ⟨rfl⟩
  obtain ⟨tt, htt⟩ : ∃ tt, tt = scT ss us (uN us) := ⟨_, rfl⟩
  rw [← htt] at z7 hCS
  have hbe := Aside0.mk (Rws.turnL hRw (grownBy_putObj' W D (.deferred none)) (fun r e => by cases e; exact ⟨by have := hs3.out; omega, _, hDf, rfl⟩)).below
  clear htt hRw hq
  gi_wp2
  refine ⟨by simp, .inl ⟨_, _, rfl, run_takeDeferred hDf, ?_⟩⟩
  exact ⟨.tuple #[.int .i64 tt, .int .i64 0], by simp [results, Tryz.f114, go_sem], by rw [hCS.out], hbe.out⟩
end Sca

namespace Sec
attribute [local go_sem] max2_int min2_int max_two min_two max_three min_three
open Q15
open Runs Go.Shelf
open Q16 (cell_heap frozen_heap R_turn)
open Q21 (cell_blk frozen_blk)
open Bts
open Bk
attribute [local go_sem] Oper.semAt_some
theorem info_row : (Tryz.prog.info? 148).map (fun i => (i.zero, i.size, i.bytes)) = some (some (.agg (List.replicate 8 (.int .i64 0)).toArray), 8, 64) := by kernel_rfl
set_option maxRecDepth 100000 in
set_option maxHeartbeats 4000000 in
theorem rows_calls (A B : Option Addr) (c1 c2 : Nat) (ws l : List Int) (w : World) (hL : LaidB w) (hr : (Kd.int .i64).C w A ws.length ws) (hr2 : (Kd.int .i64).C w B l.length l) (hcap : l.length ≤ c2) (hok : Ok ws l) (h0 : 0 < ws.length) :
  Calls Tryz.prog 141 #[.slice A ws.length c1, .slice B l.length c2] w fun e w' => ∃ v, e = .returned v ∧ w'.ownsRow w.heap.size 148 8 v ws.length (rowsC ws l ws.length) ∧ Below w.heap.size w w' := by
 have HO := Aside0.mk hok
 have HR := Aside0.mk hr
 have HR2 := Aside0.mk hr2
 have HL := Aside0.mk hL
 have HC := Aside0.mk hcap
 have hBs : Aside0 (ws ≠ [] → ∃ bd, B = some bd) := ⟨fun h => by
  have h1 := sum_bd hok.wid
  have h2 := hok.sum
  have h3 : 0 < ws.length := List.length_pos_iff.2 h
  obtain ⟨bd, e, _⟩ := el_at hr2 (Below.refl _ _) (k := 0) (by omega)
  exact ⟨bd, e⟩⟩
 have HG : Aside0 (∀ g ∈ (w.heap.size + 1) :: (w.heap.size + 1 + 1) :: blkOf A, g < w.heap.size + 1 + 1 + 1) := ⟨fun g hg => by
  rcases List.mem_cons.1 hg with rfl | hg
  ·omega
  ·rcases List.mem_cons.1 hg with rfl | hg
   ·omega
   ·have := C_blk_lt hr h0 g hg
    omega⟩
 have HG0 : Aside0 (∀ g ∈ blkOf A, g < w.heap.size) := ⟨C_blk_lt hr h0⟩
 clear hr hr2 hL hok hcap h0
 have hu := Tryz.underlying163
 refine (callsIn_wide (n := 3)).1 ?_
 refine callsIn_of_wp_marks Tryz.func141 rfl trivial ?_ rfl
 simp only [Tryz.ntmps141, List.size_toArray, List.length_cons, List.length_nil, Nat.reduceAdd, Nat.reduceSub, Array.replicate_succ, Array.replicate_zero, List.push_toArray, List.append_toArray, List.nil_append, List.cons_append]
 gi_wp2_with fail
 obtain ⟨W0, hW0⟩ : ∃ W0, W0 = w.alloc (.cells #[.slice none 0 0] 143) := ⟨_, rfl⟩
 have hR0 := ((Rws.start w).nil 148 8).alloc #[.slice none 0 0] 143
 have hs0 : W0.heap.size = w.heap.size + 1 := by rw [hW0]; simp
 simp only [List.nil_append, List.cons_append] at hR0
 rw [← hW0] at hR0 ⊢
 clear hW0
 refine ⟨trivial, (callsIn_wide.2 (bands_calls A B ws.length c1 l.length c2 W0)).mono ?_⟩
 rintro en W1 ⟨rfl, hW1⟩
 have hR1 := (hR0.alloc #[.slice A ws.length c1] 22).alloc #[.slice B l.length c2] 22
 have hs1 : W1.heap.size = w.heap.size + 1 + 1 + 1 := by rw [hW1]; simp [hs0]
 simp only [World.size_alloc, List.nil_append, List.cons_append] at hR1
 rw [← hW1, hs0] at hR1
 rw [hs0]
 clear hW1 hR0 hs0
 have b1 : W1.cell? ⟨w.heap.size + 1, 0, none⟩ = some (.slice A ws.length c1) := by rw [cell_blk (hR1.blk ⟨w.heap.size + 1, #[.slice A ws.length c1], 22⟩ (by simp)).1]; rfl
 have b2 : W1.cell? ⟨w.heap.size + 1 + 1, 0, none⟩ = some (.slice B l.length c2) := by rw [cell_blk (hR1.blk ⟨w.heap.size + 1 + 1, #[.slice B l.length c2], 22⟩ (by simp)).1]; rfl
 replace hs1 := Aside0.mk hs1
 replace hR1 := Aside0.mk hR1
 have HA1 := Aside0.mk (Kd.C_below HR.out hR1.out.below)
 gi_wp2_with fail
 refine wpIn_rangeA rfl (by omega) (gf := 192) (lb := #[.pointer (some ⟨w.heap.size + 1, 0, none⟩), .pointer (some ⟨w.heap.size + 1 + 1, 0, none⟩)]) rfl trivial (enters_of Tryz.func192 (by kernel_rfl) rfl)
  (bands1_runs Fence.wide _ trivial rfl (by omega) (w.heap.size + 1) (w.heap.size + 1 + 1) A B c1 c2 ws l HO.out HC.out W1 HA1.out hBs.out b1 b2)
  (fun h k => h.trans k) ?keep (Below.refl _ _) (fun _ => rfl) (fun j W => ∃ v, Rws w W [⟨148, 8, v, j, rowsC ws l (j)⟩] [⟨w.heap.size, #[v], 143⟩, ⟨w.heap.size + 1, #[.slice A ws.length c1], 22⟩, ⟨w.heap.size + 1 + 1, #[.slice B l.length c2], 22⟩]) ?own ?start ?round ?done
 case keep => exact KeepL.putObj (N := W1.heap.size) (fun g hg => by have := HG.out g hg; have := hs1.out; omega)
 case own => exact fun j W W' row ⟨v, h⟩ hg hrow => ⟨v, Rws.turnL h hg (fun r e => ⟨by have := (hrow r e).1; have := hs1.out; omega, (hrow r e).2⟩)⟩
 case start => exact ⟨_, hR1.out⟩
 case round =>
  rintro L j W hI hj
  obtain ⟨v, hRw⟩ := hI
  obtain ⟨bd, hbd⟩ := hBs.out (fun e => by rw [e] at hj; simp at hj)
  subst hbd
  have hof := offS_le HO.out hj
  have hbC : Aside0 (∀ W', Below w.heap.size w W' → (Kd.int .i64).C W' (some (bd.add (offS ws j))) (bandL ws l j).length (bandL ws l j)) := ⟨fun W' hb => band_C HO.out hj (Kd.C_below HR2.out hb)⟩
  have hbA : areB (bandL ws l j) = true := bandL_are HO.out.vals j
  have hbl := bandL_len HO.out hj
  have hsc := Aside0.mk (rowsC_succ ws l j)
  simp only [bandV, gSl]
  obtain ⟨ag, hag⟩ : ∃ ag, ag = bd.add (offS ws j) := ⟨_, rfl⟩
  obtain ⟨d, hd⟩ : ∃ d, d = (rd ws j).toNat := ⟨_, rfl⟩
  obtain ⟨x, hx⟩ : ∃ x, x = bandL ws l j := ⟨_, rfl⟩
  rw [← hx] at hbC hbA hbl hsc
  rw [← hag] at hbC ⊢
  rw [← hd] at hbl hof ⊢
  have hd9 : 1 ≤ d ∧ d ≤ 128 := by omega
  have hxl : x.length ≤ 128 := by omega
  rw [← hbl]
  replace hRw := Aside0.mk hRw
  have hjT := Aside0.mk hj
  have hj9 : (j : Int) ≤ 128 := by have := HO.out.len; omega
  clear hof hag hx hj hd hbl hd9
  gi_wp2
  have hal := (Below.refl W.heap.size W).alloc (Nat.le_refl _) (.cells #[.int .i64 j, .slice (some ag) x.length x.length] 163)
  have hRa := hRw.out.alloc #[.int .i64 j, .slice (some ag) x.length x.length] 163
  simp only [List.nil_append, List.cons_append] at hRa
  have hsz : w.heap.size + 1 + 1 + 1 ≤ W.heap.size := by
   have h1 := Array.getElem?_eq_some_iff.1 (hRw.out.blk ⟨w.heap.size + 1 + 1, #[.slice (some bd) l.length c2], 22⟩ (by simp)).1
   obtain ⟨h1, _⟩ := h1
   dsimp only at h1
   omega
  refine ⟨(keeps_below hal).from _, KeepL.step HG.out hsz hal, fun Z => Rws w Z [⟨148, 8, v, j, rowsC ws l (j)⟩] [⟨w.heap.size, #[v], 143⟩, ⟨w.heap.size + 1, #[.slice A ws.length c1], 22⟩, ⟨w.heap.size + 1 + 1, #[.slice (some bd) l.length c2], 22⟩, ⟨W.heap.size, #[.int .i64 j, .slice (some ag) x.length x.length], 163⟩], hRa, fun _ Z Z' row h hg hrow => Rws.turnL h hg (fun r e => ⟨by have := (hrow r e).1; have := hs1.out; omega, (hrow r e).2⟩), ?_⟩
  clear hal hRa hRw hsz
  obtain ⟨g6, hg6⟩ : ∃ g6, g6 = W.heap.size := ⟨_, rfl⟩
  rw [← hg6]
  rintro Z hRw
  clear hg6
  obtain ⟨W, rfl⟩ : ∃ W : World, W = Z := ⟨_, rfl⟩
  have HRW := Aside0.mk hRw
  have hR7 := hRw.alloc (List.replicate 8 (Value.int .i64 0)).toArray 148
  rw [← rowN_zero x] at hR7
  simp only [List.nil_append, List.cons_append] at hR7
  gi_wp2
  obtain ⟨W7, hW7⟩ : ∃ Z, Z = W.alloc (.cells (rowN x 0).toArray 148) := ⟨_, rfl⟩
  have hz7 : (W.alloc (.cells #[.int .i64 0, .int .i64 0, .int .i64 0, .int .i64 0, .int .i64 0, .int .i64 0, .int .i64 0, .int .i64 0] 148)) = W7 := by rw [hW7, rowN_zero]; rfl
  have hal7 : Aside0 (Below W.heap.size W W7) := ⟨by rw [hW7]; exact (Below.refl _ _).alloc (Nat.le_refl _) _⟩
  rw [← hW7] at hR7
  rw [hz7]
  clear hz7
  obtain ⟨g7, hg7⟩ : ∃ g7, g7 = W.heap.size := ⟨_, rfl⟩
  rw [← hg7] at hR7
  rw [← hg7]
  have hgW : Aside0 (w.heap.size + 1 + 1 + 1 ≤ W.heap.size) := ⟨by
   have h1 := Array.getElem?_eq_some_iff.1 (hRw.blk ⟨w.heap.size + 1 + 1, #[.slice (some bd) l.length c2], 22⟩ (by simp)).1
   obtain ⟨h1, _⟩ := h1
   dsimp only at h1
   omega⟩
  have hgs : Aside0 (w.heap.size + 1 + 1 + 1 ≤ g7) := by rw [hg7]; exact hgW
  replace hR7 := Aside0.mk hR7
  clear hW7 hg7 hRw
  obtain ⟨wo, hwo⟩ : ∃ wo : World, wo = W7 := ⟨_, rfl⟩
  rw [← hwo] at hR7 hal7 ⊢
  clear hwo W7
  gi_loopw [15] (fun o wr => ∃ k : Nat, o = .int .i64 k ∧ k ≤ 8 ∧ Aside0 (Rws w wr [⟨148, 8, v, j, rowsC ws l (j)⟩] [⟨w.heap.size, #[v], 143⟩, ⟨w.heap.size + 1, #[.slice A ws.length c1], 22⟩, ⟨w.heap.size + 1 + 1, #[.slice (some bd) l.length c2], 22⟩, ⟨g6, #[.int .i64 j, .slice (some ag) x.length x.length], 163⟩, ⟨g7, (rowN x k).toArray, 148⟩]) ∧ Aside0 (KeepsOthers W wr ∧ KeepL ((w.heap.size + 1) :: (w.heap.size + 1 + 1) :: blkOf A) W wr)) (fun o _ => 8 - (intOf o).toNat)
  case atStart => exact ⟨0, rfl, by omega, hR7, ⟨keeps_below hal7.out, KeepL.step HG.out hgW.out hal7.out⟩⟩
  case round =>
   obtain ⟨k, rfl, hk, hRr, hK⟩ := hrel
   by_cases hlt : k < 8
   ·have m6 : wr.cell? ⟨g6, 1, none⟩ = some (.slice (some ag) x.length x.length) := by rw [cell_blk (hRr.out.blk ⟨g6, #[.int .i64 j, .slice (some ag) x.length x.length], 163⟩ (by simp)).1]; rfl
    have HCk := Aside0.mk (fun (W' : World) (hb : Below wr.heap.size wr W') => Cost_one k hlt (some ag) x.length x W' (HL.out.below (bnx hRr.out.below hb)) (hbC.out _ (bnx hRr.out.below hb)) (by omega) (Nat.le_refl _) hbA)
    have hst := Aside0.mk (rowN_set x hlt)
    have hnx := Aside0.mk (rowN_next x hlt)
    have hkI : (k : Int) < 8 := by omega
    have hT := Aside0.mk hlt
    clear hlt hk
    gi_wp2_with fail
    refine ⟨trivial, (callsIn_wide.2 (HCk.out wr (Below.refl _ _))).mono ?_⟩
    rintro en w1 ⟨c, E, rfl, hE, hb1⟩
    have hR1 := Aside0.mk (hRr.out.step hb1)
    have hK1 : Aside0 (KeepsOthers W w1 ∧ KeepL ((w.heap.size + 1) :: (w.heap.size + 1 + 1) :: blkOf A) W w1) := ⟨hK.out.1.trans (keeps_below hb1), hK.out.2.trans (KeepL.step HG.out (Nat.le_trans hgW.out hK.out.1.size) hb1)⟩
    have h7 := (hR1.out.blk ⟨g7, (rowN x k).toArray, 148⟩ (by simp)).1
    have z7 : w1.cell? ⟨g7, k, none⟩ = some (.int .i64 0) := by rw [cell_blk h7]; exact hnx.out
    have y7 := frozen_blk h7 k
    clear h7 m6 hb1 hK hRr
    have hfin : Aside0 (∀ c, c = bcost k x → Rws w (w1.setCell ⟨g7, k, none⟩ (.int .i64 c)) [⟨148, 8, v, j, rowsC ws l (j)⟩] [⟨w.heap.size, #[v], 143⟩, ⟨w.heap.size + 1, #[.slice A ws.length c1], 22⟩, ⟨w.heap.size + 1 + 1, #[.slice (some bd) l.length c2], 22⟩, ⟨g6, #[.int .i64 j, .slice (some ag) x.length x.length], 163⟩, ⟨g7, (rowN x (k + 1)).toArray, 148⟩] ∧ KeepsOthers W (w1.setCell ⟨g7, k, none⟩ (.int .i64 c)) ∧ KeepL ((w.heap.size + 1) :: (w.heap.size + 1 + 1) :: blkOf A) W (w1.setCell ⟨g7, k, none⟩ (.int .i64 c))) := ⟨fun c hc => by
     have h := Rws.set (G1 := [⟨w.heap.size, #[v], 143⟩, ⟨w.heap.size + 1, #[.slice A ws.length c1], 22⟩, ⟨w.heap.size + 1 + 1, #[.slice (some bd) l.length c2], 22⟩, ⟨g6, #[.int .i64 j, .slice (some ag) x.length x.length], 163⟩]) (G2 := []) (b := ⟨g7, (rowN x k).toArray, 148⟩) hR1.out k (.int .i64 c)
     simp only [List.nil_append, List.cons_append, List.setIfInBounds_toArray] at h
     rw [hc, hst.out] at h
     exact ⟨by rw [hc]; exact h, hK1.out.1.trans (KeepsOthers.setCell _ _ _), KeepL.set HG.out hK1.out.2 (by simpa using hgs.out) _⟩⟩
    rcases hE with ⟨rfl, hc, -⟩ | ⟨rfl, hc, -⟩
    ·replace hc := Aside0.mk hc
     gi_wp2
     go_roundw
     case rel => exact ⟨k + 1, by go_num, hT.out, ⟨(hfin.out _ hc.out).1⟩, ⟨(hfin.out _ hc.out).2⟩⟩
     case measure => have := hT.out; simp [intOf]; omega
    ·replace hc := Aside0.mk hc
     gi_wp2
     go_roundw
     case rel => exact ⟨k + 1, by go_num, hT.out, ⟨(hfin.out _ hc.out.symm).1⟩, ⟨(hfin.out _ hc.out.symm).2⟩⟩
     case measure => have := hT.out; simp [intOf]; omega
   ·obtain rfl : k = 8 := by omega
    have hv0 : wr.cell? ⟨w.heap.size, 0, none⟩ = some v := by rw [cell_blk (hRr.out.blk ⟨w.heap.size, #[v], 143⟩ (by simp)).1]; rfl
    have h7 := (hRr.out.blk ⟨g7, (rowN x 8).toArray, 148⟩ (by simp)).1
    have q0 : wr.cell? ⟨g7, 0, none⟩ = some (.int .i64 (bcost 0 x)) := by rw [cell_blk h7]; rfl
    have q1 : wr.cell? ⟨g7, 1, none⟩ = some (.int .i64 (bcost 1 x)) := by rw [cell_blk h7]; rfl
    have q2 : wr.cell? ⟨g7, 2, none⟩ = some (.int .i64 (bcost 2 x)) := by rw [cell_blk h7]; rfl
    have q3 : wr.cell? ⟨g7, 3, none⟩ = some (.int .i64 (bcost 3 x)) := by rw [cell_blk h7]; rfl
    have q4 : wr.cell? ⟨g7, 4, none⟩ = some (.int .i64 (bcost 4 x)) := by rw [cell_blk h7]; rfl
    have q5 : wr.cell? ⟨g7, 5, none⟩ = some (.int .i64 (bcost 5 x)) := by rw [cell_blk h7]; rfl
    have q6 : wr.cell? ⟨g7, 6, none⟩ = some (.int .i64 (bcost 6 x)) := by rw [cell_blk h7]; rfl
    have q7 : wr.cell? ⟨g7, 7, none⟩ = some (.int .i64 (bcost 7 x)) := by rw [cell_blk h7]; rfl
    have hRA := Aside0.mk (hRr.out.alloc #[.int .i64 (bcost 0 x), .int .i64 (bcost 1 x), .int .i64 (bcost 2 x), .int .i64 (bcost 3 x), .int .i64 (bcost 4 x), .int .i64 (bcost 5 x), .int .i64 (bcost 6 x), .int .i64 (bcost 7 x)] 148)
    have hj8 : Aside0 ((j + 1) * 64 ≤ 140737488355328) := ⟨by have := hjT.out; have := HO.out.len; omega⟩
    clear h7 hlt hk
    gi_wp2_with (refine appIn (wr := w) (L1 := []) (L2 := []) (G := _) rfl (.tmp 31) (.tmp 33) 143 148 rfl (.agg (List.replicate 8 (.int .i64 0)).toArray) 8 64 Tryz.underlying143 info_row rfl (by decide) (by decide) v j (rowsC ws l j) rfl hRA.out ⟨wr.heap.size, 0, none⟩ 1 1 [.int .i64 (bcost 0 x), .int .i64 (bcost 1 x), .int .i64 (bcost 2 x), .int .i64 (bcost 3 x), .int .i64 (bcost 4 x), .int .i64 (bcost 5 x), .int .i64 (bcost 6 x), .int .i64 (bcost 7 x)] rfl rfl (new_at _ _ _) (by simp [Value.oneCell']) hj8.out ?_; intro v1 wA hRA hgA hkA; have HRA := Aside0.mk hRA; have HKA := Aside0.mk hkA; clear hRA hgA hkA; obtain ⟨A4, p4, hv4⟩ := ownsl (HRA.out.row _ (List.mem_append_right _ (List.mem_cons_self))); dsimp only at hv4; subst hv4; have z0 : wA.cell? ⟨w.heap.size, 0, none⟩ = some v := (by rw [cell_blk (HRA.out.blk ⟨w.heap.size, #[v], 143⟩ (by simp)).1]; rfl); have y0 := frozen_blk (HRA.out.blk ⟨w.heap.size, #[v], 143⟩ (by simp)).1 0)
    have hfin2 := Rws.set (G1 := []) (G2 := [⟨w.heap.size + 1, #[.slice A ws.length c1], 22⟩, ⟨w.heap.size + 1 + 1, #[.slice (some bd) l.length c2], 22⟩, ⟨g6, #[.int .i64 j, .slice (some ag) x.length x.length], 163⟩, ⟨g7, (rowN x 8).toArray, 148⟩, ⟨wr.heap.size, #[.int .i64 (bcost 0 x), .int .i64 (bcost 1 x), .int .i64 (bcost 2 x), .int .i64 (bcost 3 x), .int .i64 (bcost 4 x), .int .i64 (bcost 5 x), .int .i64 (bcost 6 x), .int .i64 (bcost 7 x)], 148⟩]) (b := ⟨w.heap.size, #[v], 143⟩) HRA.out 0 (.slice A4 (j + 1) p4)
    simp only [List.setIfInBounds_toArray, List.set_cons_zero, List.nil_append, List.cons_append] at hfin2
    have hcs8 : rowsC ws l j ++ [.int .i64 (bcost 0 x), .int .i64 (bcost 1 x), .int .i64 (bcost 2 x), .int .i64 (bcost 3 x), .int .i64 (bcost 4 x), .int .i64 (bcost 5 x), .int .i64 (bcost 6 x), .int .i64 (bcost 7 x)] = rowsC ws l (j + 1) := by rw [hsc.out]; rfl
    rw [hcs8] at hfin2
    refine ⟨((hK.out.1.trans (KeepsOthers.alloc _ _)).trans (HKA.out.trans (KeepsOthers.setCell _ _ _))).from _, KeepL.two (b1 := ⟨w.heap.size + 1, #[.slice A ws.length c1], 22⟩) (b2 := ⟨w.heap.size + 1 + 1, #[.slice (some bd) l.length c2], 22⟩) HRW.out hfin2 (by simp) (by simp) (by simp) (by simp) HG0.out, _, Rws.drop (L1 := [⟨148, 8, .slice A4 (j + 1) p4, j + 1, rowsC ws l (j + 1)⟩]) (L2 := []) (G := [⟨w.heap.size, #[.slice A4 (j + 1) p4], 143⟩, ⟨w.heap.size + 1, #[.slice A ws.length c1], 22⟩, ⟨w.heap.size + 1 + 1, #[.slice (some bd) l.length c2], 22⟩]) (G2 := _) hfin2⟩
 case done =>
  rintro D W hD ⟨v, hRw⟩ hDf
  have h1 := Rws.turnL hRw (grownBy_putObj' W D (.deferred none)) (fun r e => by cases e; exact ⟨by have := hs1.out; omega, _, hDf, rfl⟩)
  have k0 : W.cell? ⟨w.heap.size, 0, none⟩ = some v := by rw [cell_blk (hRw.blk ⟨w.heap.size, #[v], 143⟩ (by simp)).1]; rfl
  have hro := Aside0.mk (h1.row ⟨148, 8, v, ws.length, rowsC ws l (ws.length)⟩ (by simp))
  have hbe := Aside0.mk h1.below
  clear hRw h1
  gi_wp2
  refine ⟨by simp, .inl ⟨_, _, rfl, run_takeDeferred hDf, ?_⟩⟩
  exact ⟨v, by simp [results, Tryz.f141, go_sem], v, rfl, hro.out, hbe.out⟩
end Sec

end Go.Proofs.YtnflnicdjioflaaGreatDoor
