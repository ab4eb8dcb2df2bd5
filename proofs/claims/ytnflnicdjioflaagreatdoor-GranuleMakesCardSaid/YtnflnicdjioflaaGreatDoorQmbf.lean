/- A part of the proof. -/
import Derived.Test.YtnflnicdjioflaaGreatDoorQmbc
set_option linter.unusedVariables false
set_option linter.unusedSimpArgs false
namespace Go.Proofs.YtnflnicdjioflaaGreatDoor
open Go.RowKit Go.Proofs.YtnflnicdjioflaaGreatDoorW.PrintWords Go.Proofs.YtnflnicdjioflaaGreatDoorW.PrintLast Go.Proofs.YtnflnicdjioflaaGreatDoorW.PrintMore
namespace Bk
attribute [local go_sem] max2_int min2_int max_two min_two max_three min_three
open Q15
open Runs Go.Shelf
open Q16 (cell_heap frozen_heap R_turn)
open Q21 (cell_blk frozen_blk)
open Bts
attribute [local go_sem] Oper.semAt_some
set_option maxRecDepth 100000 in
set_option maxHeartbeats 40000000 in
theorem bWrite_3 (base p : Nat) (q : Option Nat) (L : List Int) (k : Nat) (hk : k < 8) (A : Option Addr) (cap : Nat) (l : List Int) (w : World) (hw : Wr w base p q L) (hB4 : 4 ≤ base) (hL : LaidB w) (hr : FarC p q w A l.length l) (hl : l.length ≤ 1000) (hcap : l.length ≤ cap) (hA : areB l = true) (hf : fitB k l = true) (hroom : (L.length : Int) + costB k l ≤ 1048576) (hesc : escB k = false) (hk0 : ¬ 0 < k) :
  Calls Tryz.prog 150 #[.pointer (some ⟨p, 0, none⟩), .int .i64 k, .slice A l.length cap] w fun e w' => e = .returned (.int .i64 0) ∧ ∃ bs : List Int, (bs.length : Int) = costB k l ∧ WrP base p q (L ++ bs) w w' := by
 have hkI : (k : Int) < 8 := by omega
 have hu := Tryz.underlying194
 have HR := Aside0.mk hr
 have hl' := Aside0.mk hl
 have HL := Aside0.mk hL
 have HW := Aside0.mk hw
 have HCost := Aside0.mk (fun (W : World) (hb : Below w.heap.size w W) => Cost_yes k hk A cap l W (hL.below hb) (Kd.C_below hr.1 hb) hl hcap hA hf)
 have HLn := Aside0.mk (fun (W : World) (hb : Below w.heap.size w W) => Len_calls base p q L W (hw.step hb))
 have hc9 : 0 ≤ costB k l ∧ costB k l ≤ 104000 := by
  have h1 := costTo_bd hk hA (l.length / dimB k)
  have h2 : l.length / dimB k ≤ l.length := Nat.div_le_self _ _
  unfold costB
  omega
 have hroom' := Aside0.mk hroom
 obtain ⟨C, hC⟩ : ∃ C, C = costB k l := ⟨_, rfl⟩
 rw [← hC] at HCost hc9
 have hrc : (L.length : Int) + C ≤ 1048576 := by rw [hC]; exact hroom
 replace hC := Aside0.mk hC
 obtain ⟨Z, hZ⟩ : ∃ Z : Int, Z = L.length := ⟨_, rfl⟩
 have hz9 : 0 ≤ Z ∧ Z ≤ 2000000 := by omega
 have hzc : Aside0 (decide (1048576 < Z + C) = false) := ⟨decide_eq_false (by omega)⟩
 rw [← hZ] at HLn
 replace hZ := Aside0.mk hZ
 clear hrc hroom hr hl hL hw
 have hmo : Tryz.prog.follows .mixedOrders = true := by kernel_rfl
 refine (callsIn_wide (n := 3)).1 ?_
 refine callsIn_of_wp_marks Tryz.func150 rfl trivial ?_ rfl
 simp only [Tryz.ntmps150, List.size_toArray, List.length_cons, List.length_nil, Nat.reduceAdd, Nat.reduceSub, Array.replicate_succ, Array.replicate_zero, List.push_toArray, List.append_toArray, List.nil_append, List.cons_append]
 gi_wp2_with fail
 obtain ⟨W0, hW0⟩ : ∃ W0, W0 = (w.alloc (.cells #[.pointer (some ⟨p, 0, none⟩)] 69)).alloc (.cells #[.int .i64 k] 3) := ⟨_, rfl⟩
 have hb0 : Below w.heap.size w W0 := by rw [hW0]; exact ((Below.refl _ _).alloc (Nat.le_refl _) _).alloc (by simp) _
 have c3 : W0.cell? ⟨w.heap.size, 0, none⟩ = some (.pointer (some ⟨p, 0, none⟩)) := by rw [hW0]; simp [go_sem]
 have c4 : W0.cell? ⟨w.heap.size + 1, 0, none⟩ = some (.int .i64 k) := by rw [hW0]; simp [go_sem]
 have hR0 := ((Rws.start w).alloc #[.pointer (some ⟨p, 0, none⟩)] 69).alloc #[.int .i64 k] 3
 simp only [World.size_alloc, List.nil_append, List.cons_append] at hR0
 rw [← hW0] at hR0
 have h3 := (hR0.blk ⟨w.heap.size, #[.pointer (some ⟨p, 0, none⟩)], 69⟩ (by simp)).1
 have h4 := (hR0.blk ⟨w.heap.size + 1, #[.int .i64 k], 3⟩ (by simp)).1
 dsimp only at h3 h4
 clear hR0
 rw [← hW0]
 clear hW0
 refine ⟨trivial, (callsIn_wide.2 (HCost.out W0 hb0)).mono ?_⟩
 rintro en w1 ⟨rfl, hb1⟩
 replace c3 := cnx c3 hb1
 replace c4 := cnx c4 hb1
 replace h3 := blk_below h3 hb1
 replace h4 := blk_below h4 hb1
 replace hb0 := bnx hb0 hb1
 clear hb1
 gi_wp2_with fail
 refine ⟨trivial, (callsIn_wide.2 (HLn.out w1 hb0)).mono ?_⟩
 rintro en w2 ⟨rfl, hw2⟩
 subst hw2
 replace hzc := hzc.out
 have hLz := HL.out.below hb0
 obtain ⟨l1, l2, l3⟩ := hLz.form k hk
 obtain ⟨d, hde⟩ : ∃ d, d = dimB k := ⟨_, rfl⟩
 obtain ⟨m, hme⟩ : ∃ m, m = mostB k := ⟨_, rfl⟩
 obtain ⟨e, hee⟩ : ∃ e, e = escB k := ⟨_, rfl⟩
 rw [← hde] at l1
 rw [← hme] at l2
 rw [← hee] at l3
 have hd9 := dimB_bd k
 have hm9 := mostB_bd k
 rw [← hde] at hd9
 rw [← hme] at hm9
 replace hde := Aside0.mk hde
 replace hme := Aside0.mk hme
 replace hee := Aside0.mk hee
 replace hLz := Aside0.mk hLz
 obtain ⟨W3, hW3⟩ : ∃ W3, W3 = w1 := ⟨_, rfl⟩
 rw [← hW3] at hb0 c3 c4 h3 h4 hLz l1 l2 l3 ⊢
 clear hW3
 gi_wp2_with fail
 clear hzc
 have HLen0 := fun (W : World) (hb : Below W3.heap.size W3 W) => lengths_calls k hk W (hLz.out.below hb)
 obtain ⟨lz, hlz⟩ : ∃ lz, lz = lensI k := ⟨_, rfl⟩
 rw [← hlz] at HLen0
 have HLen := Aside0.mk HLen0
 clear HLen0
 replace hlz := Aside0.mk hlz
 have hS : Aside0 (∀ w' : World, Below W3.heap.size W3 w' → w'.cell? ⟨2, k * 3, none⟩ = some (.int .i64 d) ∧ w'.cell? ⟨2, k * 3 + 1, none⟩ = some (.int .i64 m) ∧ w'.cell? ⟨2, k * 3 + 2, none⟩ = some (.bool e) ∧ w'.cell? ⟨w.heap.size + 1, 0, none⟩ = some (.int .i64 k)) := ⟨fun w' hb => ⟨cnx l1 hb, cnx l2 hb, cnx l3 hb, cnx c4 hb⟩⟩
 refine Go.wpIn_wide.2 (wp_region_noPanic (wp_region_last_drew (S := fun w' => w'.cell? ⟨2, k * 3, none⟩ = some (.int .i64 d) ∧ w'.cell? ⟨2, k * 3 + 1, none⟩ = some (.int .i64 m) ∧ w'.cell? ⟨2, k * 3 + 2, none⟩ = some (.bool e) ∧ w'.cell? ⟨w.heap.size + 1, 0, none⟩ = some (.int .i64 k)) (ds := []) hmo (hS.out _ (Below.refl _ _).drew) (fun hHeld => ?_)))
 clear l1 l2 l3
 (refine Tk.tl 0 (.int .i64 k) hHeld ?_)
 (refine Tk.tl 1 (.pointer (some ⟨2, k * 3, none⟩)) hHeld ?_)
 (refine Tk.tl 2 (.agg #[.int .i64 d, .int .i64 m, .bool e]) hHeld ?_)
 (refine Tk.tl 3 (.int .i64 k) hHeld ?_)
 have hRw : Aside0 (Rws W3 W3.drew [] []) := ⟨(Rws.start W3).drew⟩
 refine join_ (σ := Value × Nat × Nat) 2 #[true, true, true, true, true, true, true, false, false] (fun s => [(38, s.1), (9, .pointer (some ⟨s.2.1, 0, none⟩)), (10, .pointer (some ⟨s.2.2, 0, none⟩))]) (fun s w' => Rws W3 w' [rI 3 s.1 lz] [⟨s.2.1, #[.int .i64 0, .int .i64 0, .bool false], 194⟩, ⟨s.2.2, #[.slice none 0 0], 22⟩]) ?_ ?_
 ·intro s xj hRw
  obtain ⟨v4, n5, n6⟩ := s
  replace hRw := Aside0.mk hRw
  simp only [putAll, Act.put, Tk.z1, Tk.z2, Tk.z3, Tk.z4, Tk.z5, Tk.z6] at hRw ⊢
  (refine wpAnyLast_ready (rs := [7]) (by kernel_rfl) (by simp) ?_; refine AllReadyL.cons rfl (by decide) (fun K hK => ?_) AllReadyL.nil)
  have hG := (hRw.out.blk ⟨n5, #[.int .i64 0, .int .i64 0, .bool false], 194⟩ (by simp)).1
  have z0 : xj.cell? ⟨n5, 0, none⟩ = some (.int .i64 0) := by rw [blk_cell hG]; rfl
  have y0 := frozen_blk hG 0
  have z1 : xj.cell? ⟨n5, 1, none⟩ = some (.int .i64 0) := by rw [blk_cell hG]; rfl
  have y1 := frozen_blk hG 1
  have z2 : xj.cell? ⟨n5, 2, none⟩ = some (.bool false) := by rw [blk_cell hG]; rfl
  have y2 := frozen_blk hG 2
  have hRx := hRw.out
  clear hG
  replace hRx := Rws.set (G1 := []) (G2 := [⟨n6, #[.slice none 0 0], 22⟩]) (b := ⟨n5, #[.int .i64 0, .int .i64 0, .bool false], 194⟩) hRx 0 (.int .i64 d)
  simp only [List.setIfInBounds_toArray, List.set_cons_zero, List.set_cons_succ, List.nil_append, List.cons_append] at hRx
  replace hRx := Rws.set (G1 := []) (G2 := [⟨n6, #[.slice none 0 0], 22⟩]) (b := ⟨n5, #[.int .i64 d, .int .i64 0, .bool false], 194⟩) hRx 1 (.int .i64 m)
  simp only [List.setIfInBounds_toArray, List.set_cons_zero, List.set_cons_succ, List.nil_append, List.cons_append] at hRx
  replace hRx := Rws.set (G1 := []) (G2 := [⟨n6, #[.slice none 0 0], 22⟩]) (b := ⟨n5, #[.int .i64 d, .int .i64 m, .bool false], 194⟩) hRx 2 (.bool e)
  simp only [List.setIfInBounds_toArray, List.set_cons_zero, List.set_cons_succ, List.nil_append, List.cons_append] at hRx
  replace hRx := Aside0.mk hRx
  go_simp
  go_wp2_with fail
  refine hK.out _ _ (hS.out _ hRx.out.below) (fun hHeld => ?_)
  clear hK K
  try simp only [Act.put, Tk.z1, Tk.z2, Tk.z3, Tk.z4, Tk.z5, Tk.z6]
  obtain ⟨x7, hxN⟩ : ∃ x, x = (((xj.setCell ⟨n5, 0, none⟩ (.int .i64 d)).setCell ⟨n5, 1, none⟩ (.int .i64 m)).setCell ⟨n5, 2, none⟩ (.bool e)) := ⟨_, rfl⟩
  have hRy := hRx.out
  rw [← hxN] at hRy ⊢
  replace hRw := Aside0.mk hRy
  clear hxN hRx hRy z0 y0 z1 y1 z2 y2
  (refine wpAnyLast_ready (rs := [8]) (by kernel_rfl) (by simp) ?_; refine AllReadyL.cons rfl (by decide) (fun K hK => ?_) AllReadyL.nil)
  obtain ⟨A4, p4, h4e⟩ := Kd.R_slice (R_of_row (hRw.out.row (rI 3 v4 lz) (by simp)))
  subst h4e
  have hG := (hRw.out.blk ⟨n6, #[.slice none 0 0], 22⟩ (by simp)).1
  have z0 : x7.cell? ⟨n6, 0, none⟩ = some (.slice none 0 0) := by rw [blk_cell hG]; rfl
  have y0 := frozen_blk hG 0
  have hRx := hRw.out
  clear hG
  replace hRx := Rws.set (G1 := [⟨n5, #[.int .i64 d, .int .i64 m, .bool e], 194⟩]) (G2 := []) (b := ⟨n6, #[.slice none 0 0], 22⟩) hRx 0 ((.slice A4 lz.length p4))
  simp only [List.setIfInBounds_toArray, List.set_cons_zero, List.set_cons_succ, List.nil_append, List.cons_append] at hRx
  replace hRx := Aside0.mk hRx
  go_simp
  go_wp2_with fail
  refine hK.out _ _ (hS.out _ hRx.out.below) (fun hHeld => ?_)
  clear hK K
  try simp only [Act.put, Tk.z1, Tk.z2, Tk.z3, Tk.z4, Tk.z5, Tk.z6]
  obtain ⟨x8, hxN⟩ : ∃ x, x = (x7.setCell ⟨n6, 0, none⟩ ((.slice A4 lz.length p4))) := ⟨_, rfl⟩
  have hRy := hRx.out
  rw [← hxN] at hRy ⊢
  replace hRw := Aside0.mk hRy
  clear hxN hRx hRy z0 y0
  refine wpAnyLast_done (by kernel_rfl) ?_ _
  clear hHeld
  refine NoPanic.normal ?_
  obtain ⟨W5, hW5⟩ : ∃ W5, W5 = x8 := ⟨_, rfl⟩
  rw [← hW5] at hRw ⊢
  clear hW5
  have hR5 := hRw.out
  have hb5 := hR5.below
  have G5 := hR5.blk ⟨n5, #[.int .i64 d, .int .i64 m, .bool e], 194⟩ (by simp)
  have G6 := hR5.blk ⟨n6, #[.slice A4 lz.length p4], 22⟩ (by simp)
  have hlR := R_of_row (hR5.row (rI 3 (.slice A4 lz.length p4) lz) (by simp))
  have hl4 : ∀ ad, A4 = some ad → w.heap.size ≤ ad.block := fun ad e => by
   subst e
   have := ((Kd.R_bound hlR).1 ad.block rfl).2.1
   have := hb0.size
   omega
  obtain ⟨A4', p4', e4, _, hC4⟩ := Kd.R_reads hlR
  cases e4
  have g60 : W5.cell? ⟨n6, 0, none⟩ = some (.slice A4 lz.length p4) := by rw [cell_blk G6.1]; rfl
  have g50 : W5.cell? ⟨n5, 0, none⟩ = some (.int .i64 d) := by rw [cell_blk G5.1]; rfl
  have g51 : W5.cell? ⟨n5, 1, none⟩ = some (.int .i64 m) := by rw [cell_blk G5.1]; rfl
  have g52 : W5.cell? ⟨n5, 2, none⟩ = some (.bool e) := by rw [cell_blk G5.1]; rfl
  have HCo := Codes_any k hk A4 p4 W5 (by rw [← hlz.out]; exact hC4)
  rw [← hlz.out] at HCo
  replace HCo := Aside0.mk HCo
  replace G5 := Aside0.mk G5
  replace G6 := Aside0.mk G6
  replace hl4 := Aside0.mk hl4
  replace hC4 := Aside0.mk hC4
  clear hlR hR5 hRw hHeld
  gi_wp2_with fail
  refine ⟨trivial, (callsIn_wide.2 HCo.out).mono ?_⟩
  rintro en W6 ⟨A6, m6, c6, E6, rfl, hcd, hb6⟩
  replace hcd := Aside0.mk hcd
  replace g50 := cnx g50 hb6
  replace g51 := cnx g51 hb6
  replace g52 := cnx g52 hb6
  have hz5 := World.block_lt_of_cell? _ _ g50
  dsimp only at hz5
  clear g60
  gi_wp2_with fail
  obtain ⟨n11, hn11⟩ : ∃ n11, n11 = W6.heap.size := ⟨_, rfl⟩
  obtain ⟨W7, hW7⟩ : ∃ W7, W7 = W6.alloc (.cells #[.slice A6 m6 c6] 22) := ⟨_, rfl⟩
  have hR7 := (Rws.start W6).alloc #[.slice A6 m6 c6] 22
  simp only [List.nil_append, List.cons_append] at hR7
  rw [← hW7, ← hn11] at hR7
  rw [← hW7, ← hn11]
  refine ⟨trivial, (callsIn_wide.2 (groups_calls d m e A l.length cap W7)).mono ?_⟩
  rintro en Wc ⟨rfl, hWc⟩
  obtain ⟨n12, hn12⟩ : ∃ n12, n12 = W7.heap.size := ⟨_, rfl⟩
  have hsc : Wc.heap.size = n12 + 2 := by rw [hWc, hn12]; simp
  have hRc := (hR7.alloc #[.int .i64 d, .int .i64 m, .bool e] 194).alloc #[.slice A l.length cap] 22
  simp only [World.size_alloc, List.nil_append, List.cons_append] at hRc
  rw [← hWc, ← hn12] at hRc
  rw [← hn12]
  have b12 : Wc.cell? ⟨n12, 0, none⟩ = some (.int .i64 d) := by rw [cell_blk (hRc.blk ⟨n12, #[.int .i64 d, .int .i64 m, .bool e], 194⟩ (by simp)).1]; rfl
  have b13 : Wc.cell? ⟨n12 + 1, 0, none⟩ = some (.slice A l.length cap) := by rw [cell_blk (hRc.blk ⟨n12 + 1, #[.slice A l.length cap], 22⟩ (by simp)).1]; rfl
  have hb56 := bnx (bnx hb5 hb6) hRc.below
  have hbc : Below w.heap.size w Wc := bnx hb0 hb56
  have hOwn : OwnB p q Wc [⟨w.heap.size, #[.pointer (some ⟨p, 0, none⟩)], 69⟩, ⟨w.heap.size + 1, #[.int .i64 k], 3⟩, ⟨n5, #[.int .i64 d, .int .i64 m, .bool e], 194⟩, ⟨n6, #[.slice A4 lz.length p4], 22⟩, ⟨n11, #[.slice A6 m6 c6], 22⟩, ⟨n12, #[.int .i64 d, .int .i64 m, .bool e], 194⟩, ⟨n12 + 1, #[.slice A l.length cap], 22⟩] := ownB_of HW.out (fun b hb => by
   have s0 := hb0.size
   have s5 := hb5.size
   have s6 := hb6.size
   have r5 := G5.out.2
   have r6 := G6.out.2
   have r11 := (hRc.blk ⟨n11, #[.slice A6 m6 c6], 22⟩ (by simp)).2
   have r12 := (hRc.blk ⟨n12, #[.int .i64 d, .int .i64 m, .bool e], 194⟩ (by simp)).2
   dsimp only at r5 r6 r11 r12
   simp only [List.mem_cons, List.not_mem_nil, or_false] at hb
   rcases hb with rfl | rfl | rfl | rfl | rfl | rfl | rfl
   ·exact ⟨blk_below h3 hb56, Nat.le_refl _⟩
   ·exact ⟨blk_below h4 hb56, by simp⟩
   ·exact ⟨blk_below G5.out.1 (bnx hb6 hRc.below), by dsimp only; omega⟩
   ·exact ⟨blk_below G6.out.1 (bnx hb6 hRc.below), by dsimp only; omega⟩
   ·exact ⟨(hRc.blk ⟨n11, #[.slice A6 m6 c6], 22⟩ (by simp)).1, by dsimp only; omega⟩
   ·exact ⟨(hRc.blk ⟨n12, #[.int .i64 d, .int .i64 m, .bool e], 194⟩ (by simp)).1, by dsimp only; omega⟩
   ·exact ⟨(hRc.blk ⟨n12 + 1, #[.slice A l.length cap], 22⟩ (by simp)).1, by dsimp only; omega⟩)
  have hFl : FarC p q Wc A l.length l := HR.out.step hbc
  have hFz : FarC p q Wc A4 lz.length lz := farC_of HW.out (Kd.C_below hC4.out (bnx hb6 hRc.below)) hl4.out
  have hFw : 0 < k → m6 = lz.length ∧ FarC p q Wc A6 m6 (Pre.codesI lz) := fun h0 => by
   obtain ⟨e1, e2, e3⟩ := hcd.out h0
   exact ⟨e1, farC_of HW.out (Kd.C_below e2 hRc.below) (fun ad e => by have := e3 ad e; have := hb0.size; have := hb5.size; omega)⟩
  have hWrc := HW.out.step hbc
  replace hOwn := Aside0.mk hOwn
  replace hFl := Aside0.mk hFl
  replace hFz := Aside0.mk hFz
  replace hFw := Aside0.mk hFw
  replace hWrc := Aside0.mk hWrc
  replace hbc := Aside0.mk hbc
  replace hsc := Aside0.mk hsc
  clear hW7 hn11 hWc hn12 hR7 hRc hb56 hcd hC4 hl4 G5 G6 h3 h4 c3 c4 g50 g51 g52 hz5 hb5 hb6 HR HCo hb0
  gi_wp2_with fail
  have hAs : Aside0 (0 < l.length → ∃ ad, A = some ad) := ⟨fun h => by
   obtain ⟨ad, e, _⟩ := el_at hFl.out.1 (Below.refl _ _) h
   exact ⟨ad, e⟩⟩
  refine wpIn_rangeRuns0 rfl (by omega) (gf := 221) (lb := #[.pointer (some ⟨n12, 0, none⟩), .pointer (some ⟨n12 + 1, 0, none⟩)]) rfl trivial (enters_of Tryz.func221 (by kernel_rfl) rfl)
   (groups1_runsB Fence.wide _ trivial rfl (by omega) n12 (n12 + 1) A cap l.length d hd9 (by have := hl'.out; omega) hcap hAs.out Wc b12 b13)
   (fun h k => h.trans k) (fun W l' o o' hl' => KeepB.putObj (N := Wc.heap.size) (by have := hsc.out; omega) (by have := hsc.out; omega) W l' o o' hl') (Below.refl _ _) (fun _ => rfl)
   (fun j W => ∃ bs : List Int, (bs.length : Int) = costTo k l j ∧ WrP base p q (L ++ bs) Wc W)
   ?own ?start
   (fun j => { tmps := #[.pointer (some ⟨p, 0, none⟩), .int .i64 k, .slice A l.length cap, .pointer (some ⟨w.heap.size, 0, none⟩), .pointer (some ⟨w.heap.size + 1, 0, none⟩), undef, .int .i64 0, .int .i64 C, .int .i64 0, .pointer (some ⟨n5, 0, none⟩), .pointer (some ⟨n6, 0, none⟩), .pointer (some ⟨n11, 0, none⟩), .int .i64 E6, gSl A (j * d) d, undef, undef, undef, undef, .pointer (some ⟨p, 0, none⟩), .bool false, .tuple #[.int .i64 C, .int .i64 0], .int .i64 k, .slice A l.length cap, .tuple #[.int .i64 C, .int .i64 0], .int .i64 C, .int .i64 0, .int .i64 0, .bool false, undef, .pointer (some ⟨p, 0, none⟩), .int .i64 Z, .int .i64 C, .int .i64 (Z + C), .bool false, .int .i64 k, .pointer (some ⟨2, k * 3, none⟩), .agg #[.int .i64 d, .int .i64 m, .bool e], .int .i64 k, .slice A4 lz.length p4, .tuple #[.slice A6 m6 c6, .int .i64 E6], .slice A4 lz.length p4, .tuple #[.slice A6 m6 c6, .int .i64 E6], .slice A6 m6 c6, .int .i64 E6, .agg #[.int .i64 d, .int .i64 m, .bool e], .slice A l.length cap, .func (.func 221) #[] #[.pointer (some ⟨n12, 0, none⟩), .pointer (some ⟨n12 + 1, 0, none⟩)], gSl A (j * d) d, undef, undef, undef, undef, undef, undef, undef, undef, undef, undef, undef, undef, undef, undef, undef, undef, undef, undef, undef, undef, undef, undef, undef, undef, undef, undef, undef, undef, undef, undef, undef, undef, undef, undef, undef, undef, undef, undef, undef, undef, undef, undef, undef, undef, undef, undef], defers := [] }) ?assign ?body ?done
  case own => exact fun j W W' row ⟨bs, e1, e2⟩ hg hrow => ⟨bs, e1, WrP.turn e2 hg (fun r e => ⟨(hrow r e).1, (hrow r e).2⟩)⟩
  case start => exact ⟨[], rfl, by rw [List.append_nil]; exact Bts.WrP.refl hWrc.out⟩
  case assign =>
   intro l' j W K _ hK
   gi_wp2
   exact hK
  case body =>
   rintro Lr j W ⟨bs, hbs, q1, hWr, hq1, hkp⟩ hj
   obtain ⟨ad, rfl⟩ := hAs.out (by have := grp_in hd9.1 hj; omega)
   have hjd := grp_in hd9.1 hj
   have hO := hOwn.out.kp hkp hq1
   have hFl1 := hFl.out.kp hkp hq1
   have hFz1 := hFz.out.kp hkp hq1
   have hFw1 : 0 < k → m6 = lz.length ∧ FarC p q1 W A6 m6 (Pre.codesI lz) := fun h0 => ⟨(hFw.out h0).1, (hFw.out h0).2.kp hkp hq1⟩
   have hGf := far_grp hd9.1 hFl1 hjd
   have hgl := grp_len hjd
   have hga := grp_are (d := d) (j := j) hA
   have hst : costTo k l (j + 1) = costTo k l j + gCost k (grpL d l j) := by rw [hde.out]; rfl
   have hmono : costTo k l (j + 1) ≤ costB k l := costTo_mono hk hA (show j + 1 ≤ l.length / dimB k by rw [← hde.out]; exact hj)
   have hc09 := costTo_bd hk hA j
   obtain ⟨ag, hag⟩ : ∃ ag, ag = ad.add (j * d) := ⟨_, rfl⟩
   obtain ⟨gr, hgr⟩ : ∃ gr, gr = grpL d l j := ⟨_, rfl⟩
   rw [← hag, ← hgr] at hGf
   rw [← hgr] at hgl hga hst
   obtain ⟨c0, hc0⟩ : ∃ c0, c0 = costTo k l j := ⟨_, rfl⟩
   rw [← hc0] at hst hbs hc09
   obtain ⟨bT, hbTe⟩ : ∃ bT : Nat → Int, bT = fun i => ((gr.take i).map (besF m e)).sum := ⟨_, rfl⟩
   have hbT0 : bT 0 = 0 := by rw [hbTe]; simp
   have hbTs : ∀ i, i < d → bT (i + 1) = bT i + besF m e (rd gr i) := fun i hi => by rw [hbTe]; dsimp only; rw [take_rd gr i (by omega), List.map_append, List.sum_append]; simp
   have hbTm : ∀ i, i ≤ d → bT i ≤ bT d := fun i hi => by rw [hbTe]; exact sum_mono (fun x hx => (besF_bd hm9 (areB_mem hga hx)).1) hi
   have hbTd : bT d = besS k gr := by rw [hbTe, ← hgl]; dsimp only; rw [List.take_length, hme.out, hee.out]; rfl
   have hwb := wlI_bd hk gr
   have hE : gCost k gr = (if 0 < k then wlI k gr else 0) + besS k gr := rfl
   obtain ⟨E0, hE0⟩ : ∃ E0 : Int, E0 = (if 0 < k then wlI k gr else 0) := ⟨_, rfl⟩
   rw [← hE0] at hE
   obtain ⟨L1, hL1⟩ : ∃ L1, L1 = L ++ bs := ⟨_, rfl⟩
   rw [← hL1] at hWr
   have hL1l : (L1.length : Int) = L.length + c0 := by rw [hL1, List.length_append, ← hbs]; push_cast; rfl
   have hRm : (L1.length : Int) + (E0 + bT d) ≤ 1048576 := by have := hroom'.out; omega
   have hfin : ∀ bs2 : List Int, (bs2.length : Int) = E0 + bT d → ((bs ++ bs2).length : Int) = costTo k l (j + 1) := fun bs2 h => by rw [List.length_append]; push_cast; omega
   simp only [gSl]
   rw [← hag]
   have q3 : W.cell? ⟨w.heap.size, 0, none⟩ = some (.pointer (some ⟨p, 0, none⟩)) := by rw [cell_blk (hO ⟨w.heap.size, #[.pointer (some ⟨p, 0, none⟩)], 69⟩ (by simp)).1]; rfl
   have q4 : W.cell? ⟨w.heap.size + 1, 0, none⟩ = some (.int .i64 k) := by rw [cell_blk (hO ⟨w.heap.size + 1, #[.int .i64 k], 3⟩ (by simp)).1]; rfl
   have q50 : W.cell? ⟨n5, 0, none⟩ = some (.int .i64 d) := by rw [cell_blk (hO ⟨n5, #[.int .i64 d, .int .i64 m, .bool e], 194⟩ (by simp)).1]; rfl
   have q51 : W.cell? ⟨n5, 1, none⟩ = some (.int .i64 m) := by rw [cell_blk (hO ⟨n5, #[.int .i64 d, .int .i64 m, .bool e], 194⟩ (by simp)).1]; rfl
   have q52 : W.cell? ⟨n5, 2, none⟩ = some (.bool e) := by rw [cell_blk (hO ⟨n5, #[.int .i64 d, .int .i64 m, .bool e], 194⟩ (by simp)).1]; rfl
   have q60 : W.cell? ⟨n6, 0, none⟩ = some (.slice A4 lz.length p4) := by rw [cell_blk (hO ⟨n6, #[.slice A4 lz.length p4], 22⟩ (by simp)).1]; rfl
   have q11 : W.cell? ⟨n11, 0, none⟩ = some (.slice A6 m6 c6) := by rw [cell_blk (hO ⟨n11, #[.slice A6 m6 c6], 22⟩ (by simp)).1]; rfl
   have hz5 := World.block_lt_of_cell? _ _ q50
   dsimp only at hz5
   replace hO := Aside0.mk hO
   replace hGf := Aside0.mk hGf
   replace hWr := Aside0.mk hWr
   replace hq1 := Aside0.mk hq1
   replace hkp := Aside0.mk hkp
   replace hbT0 := Aside0.mk hbT0
   replace hbTs := Aside0.mk hbTs
   replace hbTm := Aside0.mk hbTm
   replace hRm := Aside0.mk hRm
   replace hfin := Aside0.mk hfin
   replace hga := Aside0.mk hga
   replace hbs := Aside0.mk hbs
   replace hL1 := Aside0.mk hL1
   clear hbTe hbTd hst hc0 hgr hag hmono hFl1 hjd hj hL1l hroom'
   have hgl := Aside0.mk hgl
   obtain rfl : e = false := by rw [hee.out]; exact hesc
   have hk0I : decide ((0 : Int) < (k : Int)) = false := decide_eq_false (by omega)
   have hP3 : Aside0 (∃ b2 : List Int, (b2.length : Int) = E0 + bT 0 ∧ WrP base p q1 (L1 ++ b2) W W) := ⟨[], by rw [hbT0.out, hE0, if_neg hk0]; rfl, by rw [List.append_nil]; exact Bts.WrP.refl hWr.out⟩
   clear hFw1 hFz1 hwb hE0 hE
   gi_wp2_with fail
   obtain ⟨wz, hwz⟩ : ∃ wz : World, wz = W := ⟨_, rfl⟩
   have hPz : Aside0 (∃ b2 : List Int, (b2.length : Int) = E0 + bT 0 ∧ WrP base p q1 (L1 ++ b2) W wz) := by rw [hwz]; exact hP3
   rw [← hwz]
   clear hwz hP3 q3 q4 q50 q51 q52 q60 q11 hz5
   gi_wp2_with fail
   obtain ⟨wo, hwo⟩ : ∃ wo : World, wo = wz := ⟨_, rfl⟩
   rw [← hwo] at hPz ⊢
   clear hwo
   gi_loopw [65] (fun x wr => ∃ i : Nat, x = .int .i64 i ∧ i ≤ d ∧ Aside0 (∃ b2 : List Int, (b2.length : Int) = E0 + bT i ∧ WrP base p q1 (L1 ++ b2) W wr)) (fun x _ => d - (intOf x).toNat)
   case atStart => exact ⟨0, rfl, by omega, hPz⟩
   case round =>
    obtain ⟨i, rfl, hi, hrl⟩ := hrel
    obtain ⟨b2, hb2, q2, hWr2, hq2, hkp2⟩ := hrl.out
    replace hb2 := Aside0.mk hb2
    replace hWr2 := Aside0.mk hWr2
    replace hq2 := Aside0.mk hq2
    replace hkp2 := Aside0.mk hkp2
    by_cases hlt : i < d
    ·have hO2 := hO.out.kp hkp2.out hq2.out
     have hG2 := hGf.out.kp hkp2.out hq2.out
     obtain ⟨ad2, had2, hcell⟩ := el_at hG2.1 (Below.refl _ _) (show i < gr.length by have := hgl.out; omega)
     cases had2
     have hv := areB_mem hga.out (rd_mem gr i (by have := hgl.out; omega))
     have hbs1 := hbTs.out i hlt
     have hbm := hbTm.out (i + 1) (by omega)
     have hrm := hRm.out
     have hb2l := hb2.out
     obtain ⟨v, hve⟩ : ∃ v, v = rd gr i := ⟨_, rfl⟩
     rw [← hve] at hcell hbs1 hv
     have hiI : (i : Int) < (d : Int) := by omega
     have r3 : wr.cell? ⟨w.heap.size, 0, none⟩ = some (.pointer (some ⟨p, 0, none⟩)) := by rw [cell_blk (hO2 ⟨w.heap.size, #[.pointer (some ⟨p, 0, none⟩)], 69⟩ (by simp)).1]; rfl
     replace hO2 := Aside0.mk hO2
     clear hG2 hve
     by_cases hv0 : v = 0
     ·have hz0 : Aside0 (bT (i + 1) = bT i) := ⟨by rw [hbs1]; unfold besF; rw [if_pos hv0]; omega⟩
      clear hbs1 hbm hrm hb2l
      subst hv0
      gi_wp2
      go_roundw
      case rel => exact ⟨i + 1, by go_num, by omega, ⟨b2, by rw [hb2.out, hz0.out], q2, hWr2.out, hq2.out, hkp2.out⟩⟩
      case measure => simp [intOf]; omega
     ·have hvn : (v == 0) = false := by simpa using hv0
      by_cases hneg : v < 0
      ·have hb91 : 1 ≤ besF m false v := by unfold besF; rw [if_neg hv0]; split <;> first | (unfold gamI; omega) | omega
       have HP1 : Calls Tryz.prog 84 #[.pointer (some ⟨p, 0, none⟩), .int .i64 1, .int .i64 1] wr fun en w' => ∃ E : Int, en = .returned (.int .i64 E) ∧ WrP base p q2 (L1 ++ b2 ++ numB 1 1) wr w' := Put_room (v := 1) (n := 1) hWr2.out (by omega) (by omega) (by rw [List.length_append]; omega)
       replace HP1 := Aside0.mk HP1
       replace hbs1 := Aside0.mk hbs1
       replace hbm := Aside0.mk hbm
       replace hrm := Aside0.mk hrm
       replace hb2l := Aside0.mk hb2l
       replace hb91 := Aside0.mk hb91
       gi_wp2_with fail
       refine ⟨trivial, CallsIn.inRound Lr (callsIn_wide.2 (HP1.out.mono ?_))⟩
       rintro en W3 ⟨E3, rfl, q3, hWr3, hq3, hkp3⟩
       have hO3 := hO2.out.kp hkp3 hq3
       have s3 : W3.cell? ⟨w.heap.size, 0, none⟩ = some (.pointer (some ⟨p, 0, none⟩)) := by rw [cell_blk (hO3 ⟨w.heap.size, #[.pointer (some ⟨p, 0, none⟩)], 69⟩ (by simp)).1]; rfl
       have s50 : W3.cell? ⟨n5, 0, none⟩ = some (.int .i64 d) := by rw [cell_blk (hO3 ⟨n5, #[.int .i64 d, .int .i64 m, .bool false], 194⟩ (by simp)).1]; rfl
       have s51 : W3.cell? ⟨n5, 1, none⟩ = some (.int .i64 m) := by rw [cell_blk (hO3 ⟨n5, #[.int .i64 d, .int .i64 m, .bool false], 194⟩ (by simp)).1]; rfl
       have s52 : W3.cell? ⟨n5, 2, none⟩ = some (.bool false) := by rw [cell_blk (hO3 ⟨n5, #[.int .i64 d, .int .i64 m, .bool false], 194⟩ (by simp)).1]; rfl
       have hn1 : (numB 1 1).length = 1 := numB_len _ _
       obtain ⟨B3, hB3⟩ : ∃ B3, B3 = b2 ++ numB 1 1 := ⟨_, rfl⟩
       have hB3l : (B3.length : Int) = E0 + bT i + 1 := by rw [hB3, List.length_append]; have := hb2.out; push_cast; omega
       rw [List.append_assoc, ← hB3] at hWr3
       clear hB3 hn1
       replace hWr3 := Aside0.mk hWr3
       replace hq3 := Aside0.mk hq3
       replace hkp3 := Aside0.mk hkp3
       replace hB3l := Aside0.mk hB3l
       clear HP1 hO3
       gi_wp2_with fail
       refine Held.wpIn_region_held (fun w' => w'.cell? ⟨n5, 1, none⟩ = some (.int .i64 m) ∧ w'.cell? ⟨n5, 2, none⟩ = some (.bool false) ∧ Below W3.heap.size W3 w') hmo (by kernel_rfl) (fun ⟨_, _, h⟩ => h) ⟨s51, s52, (Below.refl _ _).drew⟩ (fun hHeld => ?_)
       (refine Tk.tk 0 (.pointer (some ⟨n5, 2, none⟩)) hHeld ?_)
       (refine Tk.tk 1 (.bool false) hHeld ?_)
       (refine Tk.tk 2 (.bool false) hHeld ?_)
       (refine Tk.tz 3 hHeld ?_)
       (refine Tk.tz 4 hHeld ?_)
       (refine Tk.tz 5 hHeld ?_)
       (refine Tk.tz 6 hHeld ?_)
       (refine Tk.tz 7 hHeld ?_)
       (refine Tk.tk 8 (.bool false) hHeld ?_)
       refine wpAnyH_done (by kernel_rfl) ?_ _
       obtain ⟨u51, u52, hh⟩ := hHeld
       have hbq : bT (i + 1) = bT i + 1 := by rw [hbs1.out]; unfold besF; rw [if_neg hv0, if_neg (by simp)]
       have hnew : Aside0 (∃ b2 : List Int, (b2.length : Int) = E0 + bT (i + 1) ∧ WrP base p q1 (L1 ++ b2) W _) := ⟨B3, by rw [hB3l.out, hbq]; omega, WrP.step (Bts.WrP.trans hkp2.out hq2.out ⟨q3, hWr3.out, hq3.out, hkp3.out⟩) hh⟩
       clear s3 s50 s51 s52 u51 u52 hh hbq
       gi_wp2
       go_roundw
       case rel => exact ⟨i + 1, by go_num, by omega, hnew⟩
       case measure => simp [intOf]; omega
      ·have hneg' : 0 ≤ v := by omega
       have hb91 : 1 ≤ besF m false v := by unfold besF; rw [if_neg hv0]; split <;> first | (unfold gamI; omega) | omega
       have HP1 : Calls Tryz.prog 84 #[.pointer (some ⟨p, 0, none⟩), .int .i64 0, .int .i64 1] wr fun en w' => ∃ E : Int, en = .returned (.int .i64 E) ∧ WrP base p q2 (L1 ++ b2 ++ numB 0 1) wr w' := Put_room (v := 0) (n := 1) hWr2.out (by omega) (by omega) (by rw [List.length_append]; omega)
       replace HP1 := Aside0.mk HP1
       replace hbs1 := Aside0.mk hbs1
       replace hbm := Aside0.mk hbm
       replace hrm := Aside0.mk hrm
       replace hb2l := Aside0.mk hb2l
       replace hb91 := Aside0.mk hb91
       gi_wp2_with fail
       refine ⟨trivial, CallsIn.inRound Lr (callsIn_wide.2 (HP1.out.mono ?_))⟩
       rintro en W3 ⟨E3, rfl, q3, hWr3, hq3, hkp3⟩
       have hO3 := hO2.out.kp hkp3 hq3
       have s3 : W3.cell? ⟨w.heap.size, 0, none⟩ = some (.pointer (some ⟨p, 0, none⟩)) := by rw [cell_blk (hO3 ⟨w.heap.size, #[.pointer (some ⟨p, 0, none⟩)], 69⟩ (by simp)).1]; rfl
       have s50 : W3.cell? ⟨n5, 0, none⟩ = some (.int .i64 d) := by rw [cell_blk (hO3 ⟨n5, #[.int .i64 d, .int .i64 m, .bool false], 194⟩ (by simp)).1]; rfl
       have s51 : W3.cell? ⟨n5, 1, none⟩ = some (.int .i64 m) := by rw [cell_blk (hO3 ⟨n5, #[.int .i64 d, .int .i64 m, .bool false], 194⟩ (by simp)).1]; rfl
       have s52 : W3.cell? ⟨n5, 2, none⟩ = some (.bool false) := by rw [cell_blk (hO3 ⟨n5, #[.int .i64 d, .int .i64 m, .bool false], 194⟩ (by simp)).1]; rfl
       have hn1 : (numB 0 1).length = 1 := numB_len _ _
       obtain ⟨B3, hB3⟩ : ∃ B3, B3 = b2 ++ numB 0 1 := ⟨_, rfl⟩
       have hB3l : (B3.length : Int) = E0 + bT i + 1 := by rw [hB3, List.length_append]; have := hb2.out; push_cast; omega
       rw [List.append_assoc, ← hB3] at hWr3
       clear hB3 hn1
       replace hWr3 := Aside0.mk hWr3
       replace hq3 := Aside0.mk hq3
       replace hkp3 := Aside0.mk hkp3
       replace hB3l := Aside0.mk hB3l
       clear HP1 hO3
       gi_wp2_with fail
       refine Held.wpIn_region_held (fun w' => w'.cell? ⟨n5, 1, none⟩ = some (.int .i64 m) ∧ w'.cell? ⟨n5, 2, none⟩ = some (.bool false) ∧ Below W3.heap.size W3 w') hmo (by kernel_rfl) (fun ⟨_, _, h⟩ => h) ⟨s51, s52, (Below.refl _ _).drew⟩ (fun hHeld => ?_)
       (refine Tk.tk 0 (.pointer (some ⟨n5, 2, none⟩)) hHeld ?_)
       (refine Tk.tk 1 (.bool false) hHeld ?_)
       (refine Tk.tk 2 (.bool false) hHeld ?_)
       (refine Tk.tz 3 hHeld ?_)
       (refine Tk.tz 4 hHeld ?_)
       (refine Tk.tz 5 hHeld ?_)
       (refine Tk.tz 6 hHeld ?_)
       (refine Tk.tz 7 hHeld ?_)
       (refine Tk.tk 8 (.bool false) hHeld ?_)
       refine wpAnyH_done (by kernel_rfl) ?_ _
       obtain ⟨u51, u52, hh⟩ := hHeld
       have hbq : bT (i + 1) = bT i + 1 := by rw [hbs1.out]; unfold besF; rw [if_neg hv0, if_neg (by simp)]
       have hnew : Aside0 (∃ b2 : List Int, (b2.length : Int) = E0 + bT (i + 1) ∧ WrP base p q1 (L1 ++ b2) W _) := ⟨B3, by rw [hB3l.out, hbq]; omega, WrP.step (Bts.WrP.trans hkp2.out hq2.out ⟨q3, hWr3.out, hq3.out, hkp3.out⟩) hh⟩
       clear s3 s50 s51 s52 u51 u52 hh hbq
       gi_wp2
       go_roundw
       case rel => exact ⟨i + 1, by go_num, by omega, hnew⟩
       case measure => simp [intOf]; omega
    ·obtain rfl : d = i := by omega
     gi_wp2
     refine ⟨(keeps_of_kp hkp2.out hWr.out).from _, ?_, bs ++ b2, hfin.out b2 hb2.out, ?_⟩
     ·have hB := hO.out.kp hkp2.out hq2.out
      have g12 := (hO.out ⟨n12, #[.int .i64 d, .int .i64 m, .bool false], 194⟩ (by simp)).1
      have g13 := (hO.out ⟨n12 + 1, #[.slice (some ad) l.length cap], 22⟩ (by simp)).1
      have k12 := (hB ⟨n12, #[.int .i64 d, .int .i64 m, .bool false], 194⟩ (by simp)).1
      have k13 := (hB ⟨n12 + 1, #[.slice (some ad) l.length cap], 22⟩ (by simp)).1
      exact ⟨k12.trans g12.symm, k13.trans g13.symm⟩
     ·rw [← List.append_assoc, ← hL1.out]
      exact Bts.WrP.trans hkp.out hq1.out ⟨q2, hWr2.out, hq2.out, hkp2.out⟩
  case done =>
   rintro D W hD ⟨bs, hbs, hP⟩ hDf
   have hgD := grownBy_putObj' W D (.deferred none)
   have h1 := WrP.turn hP hgD (fun r e => by cases e; exact ⟨hD, _, hDf, rfl⟩)
   have hfin : Aside0 (∃ bs : List Int, (bs.length : Int) = costB k l ∧ WrP base p q (L ++ bs) w (W.putObj D (.deferred none))) := ⟨bs, by rw [hbs, hde.out]; rfl, Bts.WrP.trans (Kp.of_below hbc.out p q) (.inl rfl) h1⟩
   clear h1 hP hbs
   gi_wp2
   refine ⟨by simp, .inl ⟨_, _, rfl, run_takeDeferred hDf, ?_⟩⟩
   exact ⟨.int .i64 0, by simp [results, Tryz.f150, go_sem], rfl, hfin.out⟩
 ·intro hJ1
  replace hJ1 := Aside0.mk hJ1
  refine wpAnyLast_ready (rs := [4, 5, 6]) (by kernel_rfl) (by simp) ?_; refine AllReadyL.cons rfl (by decide) (fun K hK => ?_) (AllReadyL.cons rfl (by decide) (fun K hK => ?_) (AllReadyL.cons rfl (by decide) (fun K hK => ?_) (AllReadyL.nil)))
  ·go_simp
   refine (HLen.out _ hRw.out.below).mono ?_
   rintro e x4 ⟨v4, rfl, Rn, hbn⟩
   have hRx := hRw.out.call hbn (r := rI 3 v4 lz) (Kd.own_of_R Rn) (Nat.le_refl _)
   clear Rn hbn
   go_wp2_with fail
   refine hK.out _ _ (hS.out _ hRx.below) (fun hHeld => ?_)
   clear hK K
   try simp only [Act.put, Tk.z1, Tk.z2, Tk.z3, Tk.z4, Tk.z5, Tk.z6]
   simp only [List.nil_append, List.cons_append] at hRx
   replace hRw := Aside0.mk hRx
   clear hRx
   refine wpAnyLast_ready (rs := [5, 6]) (by kernel_rfl) (by simp) ?_; refine AllReadyL.cons rfl (by decide) (fun K hK => ?_) (AllReadyL.cons rfl (by decide) (fun K hK => ?_) (AllReadyL.nil))
   ·refine value_ (w1 := x4.alloc (.cells #[.int .i64 0, .int .i64 0, .bool false] 194)) (v := .pointer (some ⟨x4.heap.size, 0, none⟩)) (by kernel_rfl) rfl (by kernel_rfl) ?_
    have hRx := hRw.out.alloc #[.int .i64 0, .int .i64 0, .bool false] 194
    refine hK.out _ _ (hS.out _ hRx.below) (fun hHeld => ?_)
    clear hK K
    try simp only [Act.put, Tk.z1, Tk.z2, Tk.z3, Tk.z4, Tk.z5, Tk.z6]
    obtain ⟨x5, hxN⟩ : ∃ x, x = x4.alloc (.cells #[.int .i64 0, .int .i64 0, .bool false] 194) := ⟨_, rfl⟩
    obtain ⟨n5, hnN⟩ : ∃ n, n = x4.heap.size := ⟨_, rfl⟩
    rw [← hxN] at hRx ⊢
    rw [← hnN] at hRx ⊢
    clear hxN hnN
    simp only [List.nil_append, List.cons_append] at hRx
    replace hRw := Aside0.mk hRx
    clear hRx
    (refine wpAnyLast_ready (rs := [6]) (by kernel_rfl) (by simp) ?_; refine AllReadyL.cons rfl (by decide) (fun K hK => ?_) AllReadyL.nil)
    refine value_ (w1 := x5.alloc (.cells #[.slice none 0 0] 22)) (v := .pointer (some ⟨x5.heap.size, 0, none⟩)) (by kernel_rfl) rfl (by kernel_rfl) ?_
    have hRx := hRw.out.alloc #[.slice none 0 0] 22
    refine hK.out _ _ (hS.out _ hRx.below) (fun hHeld => ?_)
    clear hK K
    try simp only [Act.put, Tk.z1, Tk.z2, Tk.z3, Tk.z4, Tk.z5, Tk.z6]
    obtain ⟨x6, hxN⟩ : ∃ x, x = x5.alloc (.cells #[.slice none 0 0] 22) := ⟨_, rfl⟩
    obtain ⟨n6, hnN⟩ : ∃ n, n = x5.heap.size := ⟨_, rfl⟩
    rw [← hxN] at hRx ⊢
    rw [← hnN] at hRx ⊢
    clear hxN hnN
    simp only [List.nil_append, List.cons_append] at hRx
    replace hRw := Aside0.mk hRx
    clear hRx
    exact leaf_ (by kernel_rfl) (by kernel_rfl) (hJ1.out (v4, n5, n6) _ hRw.out)
   ·refine value_ (w1 := x4.alloc (.cells #[.slice none 0 0] 22)) (v := .pointer (some ⟨x4.heap.size, 0, none⟩)) (by kernel_rfl) rfl (by kernel_rfl) ?_
    have hRx := hRw.out.alloc #[.slice none 0 0] 22
    refine hK.out _ _ (hS.out _ hRx.below) (fun hHeld => ?_)
    clear hK K
    try simp only [Act.put, Tk.z1, Tk.z2, Tk.z3, Tk.z4, Tk.z5, Tk.z6]
    obtain ⟨x6, hxN⟩ : ∃ x, x = x4.alloc (.cells #[.slice none 0 0] 22) := ⟨_, rfl⟩
    obtain ⟨n6, hnN⟩ : ∃ n, n = x4.heap.size := ⟨_, rfl⟩
    rw [← hxN] at hRx ⊢
    rw [← hnN] at hRx ⊢
    clear hxN hnN
    simp only [List.nil_append, List.cons_append] at hRx
    replace hRw := Aside0.mk hRx
    clear hRx
    (refine wpAnyLast_ready (rs := [5]) (by kernel_rfl) (by simp) ?_; refine AllReadyL.cons rfl (by decide) (fun K hK => ?_) AllReadyL.nil)
    refine value_ (w1 := x6.alloc (.cells #[.int .i64 0, .int .i64 0, .bool false] 194)) (v := .pointer (some ⟨x6.heap.size, 0, none⟩)) (by kernel_rfl) rfl (by kernel_rfl) ?_
    have hRx := hRw.out.alloc #[.int .i64 0, .int .i64 0, .bool false] 194
    refine hK.out _ _ (hS.out _ hRx.below) (fun hHeld => ?_)
    clear hK K
    try simp only [Act.put, Tk.z1, Tk.z2, Tk.z3, Tk.z4, Tk.z5, Tk.z6]
    obtain ⟨x5, hxN⟩ : ∃ x, x = x6.alloc (.cells #[.int .i64 0, .int .i64 0, .bool false] 194) := ⟨_, rfl⟩
    obtain ⟨n5, hnN⟩ : ∃ n, n = x6.heap.size := ⟨_, rfl⟩
    rw [← hxN] at hRx ⊢
    rw [← hnN] at hRx ⊢
    clear hxN hnN
    simp only [List.nil_append, List.cons_append] at hRx
    replace hRx := Rws.intoG (G1 := []) (G2 := [⟨n6, #[.slice none 0 0], 22⟩]) (b := ⟨n5, #[.int .i64 0, .int .i64 0, .bool false], 194⟩) hRx
    simp only [List.nil_append, List.cons_append] at hRx
    replace hRw := Aside0.mk hRx
    clear hRx
    exact leaf_ (by kernel_rfl) (by kernel_rfl) (hJ1.out (v4, n5, n6) _ hRw.out)
  ·refine value_ (w1 := W3.drew.alloc (.cells #[.int .i64 0, .int .i64 0, .bool false] 194)) (v := .pointer (some ⟨W3.drew.heap.size, 0, none⟩)) (by kernel_rfl) rfl (by kernel_rfl) ?_
   have hRx := hRw.out.alloc #[.int .i64 0, .int .i64 0, .bool false] 194
   refine hK.out _ _ (hS.out _ hRx.below) (fun hHeld => ?_)
   clear hK K
   try simp only [Act.put, Tk.z1, Tk.z2, Tk.z3, Tk.z4, Tk.z5, Tk.z6]
   obtain ⟨x5, hxN⟩ : ∃ x, x = W3.drew.alloc (.cells #[.int .i64 0, .int .i64 0, .bool false] 194) := ⟨_, rfl⟩
   obtain ⟨n5, hnN⟩ : ∃ n, n = W3.drew.heap.size := ⟨_, rfl⟩
   rw [← hxN] at hRx ⊢
   rw [← hnN] at hRx ⊢
   clear hxN hnN
   simp only [List.nil_append, List.cons_append] at hRx
   replace hRw := Aside0.mk hRx
   clear hRx
   refine wpAnyLast_ready (rs := [4, 6]) (by kernel_rfl) (by simp) ?_; refine AllReadyL.cons rfl (by decide) (fun K hK => ?_) (AllReadyL.cons rfl (by decide) (fun K hK => ?_) (AllReadyL.nil))
   ·go_simp
    refine (HLen.out _ hRw.out.below).mono ?_
    rintro e x4 ⟨v4, rfl, Rn, hbn⟩
    have hRx := hRw.out.call hbn (r := rI 3 v4 lz) (Kd.own_of_R Rn) (Nat.le_refl _)
    clear Rn hbn
    go_wp2_with fail
    refine hK.out _ _ (hS.out _ hRx.below) (fun hHeld => ?_)
    clear hK K
    try simp only [Act.put, Tk.z1, Tk.z2, Tk.z3, Tk.z4, Tk.z5, Tk.z6]
    simp only [List.nil_append, List.cons_append] at hRx
    replace hRw := Aside0.mk hRx
    clear hRx
    (refine wpAnyLast_ready (rs := [6]) (by kernel_rfl) (by simp) ?_; refine AllReadyL.cons rfl (by decide) (fun K hK => ?_) AllReadyL.nil)
    refine value_ (w1 := x4.alloc (.cells #[.slice none 0 0] 22)) (v := .pointer (some ⟨x4.heap.size, 0, none⟩)) (by kernel_rfl) rfl (by kernel_rfl) ?_
    have hRx := hRw.out.alloc #[.slice none 0 0] 22
    refine hK.out _ _ (hS.out _ hRx.below) (fun hHeld => ?_)
    clear hK K
    try simp only [Act.put, Tk.z1, Tk.z2, Tk.z3, Tk.z4, Tk.z5, Tk.z6]
    obtain ⟨x6, hxN⟩ : ∃ x, x = x4.alloc (.cells #[.slice none 0 0] 22) := ⟨_, rfl⟩
    obtain ⟨n6, hnN⟩ : ∃ n, n = x4.heap.size := ⟨_, rfl⟩
    rw [← hxN] at hRx ⊢
    rw [← hnN] at hRx ⊢
    clear hxN hnN
    simp only [List.nil_append, List.cons_append] at hRx
    replace hRw := Aside0.mk hRx
    clear hRx
    exact leaf_ (by kernel_rfl) (by kernel_rfl) (hJ1.out (v4, n5, n6) _ hRw.out)
   ·refine value_ (w1 := x5.alloc (.cells #[.slice none 0 0] 22)) (v := .pointer (some ⟨x5.heap.size, 0, none⟩)) (by kernel_rfl) rfl (by kernel_rfl) ?_
    have hRx := hRw.out.alloc #[.slice none 0 0] 22
    refine hK.out _ _ (hS.out _ hRx.below) (fun hHeld => ?_)
    clear hK K
    try simp only [Act.put, Tk.z1, Tk.z2, Tk.z3, Tk.z4, Tk.z5, Tk.z6]
    obtain ⟨x6, hxN⟩ : ∃ x, x = x5.alloc (.cells #[.slice none 0 0] 22) := ⟨_, rfl⟩
    obtain ⟨n6, hnN⟩ : ∃ n, n = x5.heap.size := ⟨_, rfl⟩
    rw [← hxN] at hRx ⊢
    rw [← hnN] at hRx ⊢
    clear hxN hnN
    simp only [List.nil_append, List.cons_append] at hRx
    replace hRw := Aside0.mk hRx
    clear hRx
    (refine wpAnyLast_ready (rs := [4]) (by kernel_rfl) (by simp) ?_; refine AllReadyL.cons rfl (by decide) (fun K hK => ?_) AllReadyL.nil)
    go_simp
    refine (HLen.out _ hRw.out.below).mono ?_
    rintro e x4 ⟨v4, rfl, Rn, hbn⟩
    have hRx := hRw.out.call hbn (r := rI 3 v4 lz) (Kd.own_of_R Rn) (Nat.le_refl _)
    clear Rn hbn
    go_wp2_with fail
    refine hK.out _ _ (hS.out _ hRx.below) (fun hHeld => ?_)
    clear hK K
    try simp only [Act.put, Tk.z1, Tk.z2, Tk.z3, Tk.z4, Tk.z5, Tk.z6]
    simp only [List.nil_append, List.cons_append] at hRx
    replace hRw := Aside0.mk hRx
    clear hRx
    exact leaf_ (by kernel_rfl) (by kernel_rfl) (hJ1.out (v4, n5, n6) _ hRw.out)
  ·refine value_ (w1 := W3.drew.alloc (.cells #[.slice none 0 0] 22)) (v := .pointer (some ⟨W3.drew.heap.size, 0, none⟩)) (by kernel_rfl) rfl (by kernel_rfl) ?_
   have hRx := hRw.out.alloc #[.slice none 0 0] 22
   refine hK.out _ _ (hS.out _ hRx.below) (fun hHeld => ?_)
   clear hK K
   try simp only [Act.put, Tk.z1, Tk.z2, Tk.z3, Tk.z4, Tk.z5, Tk.z6]
   obtain ⟨x6, hxN⟩ : ∃ x, x = W3.drew.alloc (.cells #[.slice none 0 0] 22) := ⟨_, rfl⟩
   obtain ⟨n6, hnN⟩ : ∃ n, n = W3.drew.heap.size := ⟨_, rfl⟩
   rw [← hxN] at hRx ⊢
   rw [← hnN] at hRx ⊢
   clear hxN hnN
   simp only [List.nil_append, List.cons_append] at hRx
   replace hRw := Aside0.mk hRx
   clear hRx
   refine wpAnyLast_ready (rs := [4, 5]) (by kernel_rfl) (by simp) ?_; refine AllReadyL.cons rfl (by decide) (fun K hK => ?_) (AllReadyL.cons rfl (by decide) (fun K hK => ?_) (AllReadyL.nil))
   ·go_simp
    refine (HLen.out _ hRw.out.below).mono ?_
    rintro e x4 ⟨v4, rfl, Rn, hbn⟩
    have hRx := hRw.out.call hbn (r := rI 3 v4 lz) (Kd.own_of_R Rn) (Nat.le_refl _)
    clear Rn hbn
    go_wp2_with fail
    refine hK.out _ _ (hS.out _ hRx.below) (fun hHeld => ?_)
    clear hK K
    try simp only [Act.put, Tk.z1, Tk.z2, Tk.z3, Tk.z4, Tk.z5, Tk.z6]
    simp only [List.nil_append, List.cons_append] at hRx
    replace hRw := Aside0.mk hRx
    clear hRx
    (refine wpAnyLast_ready (rs := [5]) (by kernel_rfl) (by simp) ?_; refine AllReadyL.cons rfl (by decide) (fun K hK => ?_) AllReadyL.nil)
    refine value_ (w1 := x4.alloc (.cells #[.int .i64 0, .int .i64 0, .bool false] 194)) (v := .pointer (some ⟨x4.heap.size, 0, none⟩)) (by kernel_rfl) rfl (by kernel_rfl) ?_
    have hRx := hRw.out.alloc #[.int .i64 0, .int .i64 0, .bool false] 194
    refine hK.out _ _ (hS.out _ hRx.below) (fun hHeld => ?_)
    clear hK K
    try simp only [Act.put, Tk.z1, Tk.z2, Tk.z3, Tk.z4, Tk.z5, Tk.z6]
    obtain ⟨x5, hxN⟩ : ∃ x, x = x4.alloc (.cells #[.int .i64 0, .int .i64 0, .bool false] 194) := ⟨_, rfl⟩
    obtain ⟨n5, hnN⟩ : ∃ n, n = x4.heap.size := ⟨_, rfl⟩
    rw [← hxN] at hRx ⊢
    rw [← hnN] at hRx ⊢
    clear hxN hnN
    simp only [List.nil_append, List.cons_append] at hRx
    replace hRx := Rws.intoG (G1 := []) (G2 := [⟨n6, #[.slice none 0 0], 22⟩]) (b := ⟨n5, #[.int .i64 0, .int .i64 0, .bool false], 194⟩) hRx
    simp only [List.nil_append, List.cons_append] at hRx
    replace hRw := Aside0.mk hRx
    clear hRx
    exact leaf_ (by kernel_rfl) (by kernel_rfl) (hJ1.out (v4, n5, n6) _ hRw.out)
   ·refine value_ (w1 := x6.alloc (.cells #[.int .i64 0, .int .i64 0, .bool false] 194)) (v := .pointer (some ⟨x6.heap.size, 0, none⟩)) (by kernel_rfl) rfl (by kernel_rfl) ?_
    have hRx := hRw.out.alloc #[.int .i64 0, .int .i64 0, .bool false] 194
    refine hK.out _ _ (hS.out _ hRx.below) (fun hHeld => ?_)
    clear hK K
    try simp only [Act.put, Tk.z1, Tk.z2, Tk.z3, Tk.z4, Tk.z5, Tk.z6]
    obtain ⟨x5, hxN⟩ : ∃ x, x = x6.alloc (.cells #[.int .i64 0, .int .i64 0, .bool false] 194) := ⟨_, rfl⟩
    obtain ⟨n5, hnN⟩ : ∃ n, n = x6.heap.size := ⟨_, rfl⟩
    rw [← hxN] at hRx ⊢
    rw [← hnN] at hRx ⊢
    clear hxN hnN
    simp only [List.nil_append, List.cons_append] at hRx
    replace hRx := Rws.intoG (G1 := []) (G2 := [⟨n6, #[.slice none 0 0], 22⟩]) (b := ⟨n5, #[.int .i64 0, .int .i64 0, .bool false], 194⟩) hRx
    simp only [List.nil_append, List.cons_append] at hRx
    replace hRw := Aside0.mk hRx
    clear hRx
    (refine wpAnyLast_ready (rs := [4]) (by kernel_rfl) (by simp) ?_; refine AllReadyL.cons rfl (by decide) (fun K hK => ?_) AllReadyL.nil)
    go_simp
    refine (HLen.out _ hRw.out.below).mono ?_
    rintro e x4 ⟨v4, rfl, Rn, hbn⟩
    have hRx := hRw.out.call hbn (r := rI 3 v4 lz) (Kd.own_of_R Rn) (Nat.le_refl _)
    clear Rn hbn
    go_wp2_with fail
    refine hK.out _ _ (hS.out _ hRx.below) (fun hHeld => ?_)
    clear hK K
    try simp only [Act.put, Tk.z1, Tk.z2, Tk.z3, Tk.z4, Tk.z5, Tk.z6]
    simp only [List.nil_append, List.cons_append] at hRx
    replace hRw := Aside0.mk hRx
    clear hRx
    exact leaf_ (by kernel_rfl) (by kernel_rfl) (hJ1.out (v4, n5, n6) _ hRw.out)
end Bk

end Go.Proofs.YtnflnicdjioflaaGreatDoor
