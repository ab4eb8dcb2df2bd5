/- A part of the proof. -/
import Derived.Test.YtnflnicdjioflaaGreatDoorSlar
set_option linter.unusedVariables false
set_option linter.unusedSimpArgs false
set_option maxRecDepth 100000
set_option maxHeartbeats 8000000
namespace Go.Proofs.YtnflnicdjioflaaGreatDoor
open Go.RowKit Go.Proofs.YtnflnicdjioflaaGreatDoorW.PrintWords Go.Proofs.YtnflnicdjioflaaGreatDoorW.PrintLast Go.Proofs.YtnflnicdjioflaaGreatDoorW.PrintMore
namespace Bk
attribute [local go_sem] Qj Qi Ql Qk Qg Qf
open Q15
open Runs Go.Shelf
open Q16 (Q0 Q8 X8)
open Q21 (Qb Qe)
open Bts
attribute [local go_sem] Oper.semAt_some
theorem O5 (k : Nat) (hk : k < 8) (A : Option Addr) (cap : Nat) (l : List Int) (w : World) (hL : Xe w) (hr : (Kd.int .i64).C w A l.length l) (hl : l.length ≤ 1000) (hcap : l.length ≤ cap) (hA : Yf l = true) :
  Calls Tryz.prog 215 #[.int .i64 k, .slice A l.length cap] w fun e w' => e = .returned (.int .i64 (Zm k l)) ∧ Below w.heap.size w w' := by
 have hkI : (k : Int) < 8 := by omega
 have hu := Tryz.underlying194
 have HR := Qa.mk hr
 have hl' := Qa.mk hl
 obtain ⟨l1, l2, l3⟩ := hL.form k hk
 have l4 := hL.tab k hk
 obtain ⟨S, hSe⟩ : ∃ S, S = Vv k := ⟨_, rfl⟩
 obtain ⟨d, hde⟩ : ∃ d, d = Ye k := ⟨_, rfl⟩
 obtain ⟨m, hme⟩ : ∃ m, m = Xq k := ⟨_, rfl⟩
 obtain ⟨e, hee⟩ : ∃ e, e = Ub k := ⟨_, rfl⟩
 rw [← hSe] at l4
 rw [← hde] at l1
 rw [← hme] at l2
 rw [← hee] at l3
 have hd9 := J6 k
 have hm9 := Y3 k
 rw [← hde] at hd9
 rw [← hme] at hm9
 replace hSe := Qa.mk hSe
 replace hde := Qa.mk hde
 replace hme := Qa.mk hme
 replace hee := Qa.mk hee
 have hS : Qa (∀ w' : World, Below w.heap.size w w' → w'.cell? ⟨2, k * 3, none⟩ = some (.int .i64 d) ∧ w'.cell? ⟨2, k * 3 + 1, none⟩ = some (.int .i64 m) ∧ w'.cell? ⟨2, k * 3 + 2, none⟩ = some (.bool e) ∧ w'.cell? ⟨3, k, none⟩ = some (.string S)) := ⟨fun w' hb => ⟨cnx l1 hb, cnx l2 hb, cnx l3 hb, cnx l4 hb⟩⟩
 have hmo : Tryz.prog.follows .mixedOrders = true := by kernel_rfl
 refine (callsIn_wide (n := 3)).1 ?_
 refine callsIn_of_wp_marks Tryz.func215 rfl trivial ?_ rfl
 simp only [Tryz.ntmps215, List.size_toArray, List.length_cons, List.length_nil, Nat.reduceAdd, Nat.reduceSub, Array.replicate_succ, Array.replicate_zero, List.push_toArray, List.append_toArray, List.nil_append, List.cons_append]
 clear hL hr hl
 gi_wp2_with fail
 refine Go.wpIn_wide.2 (wp_region_noPanic (Qs (S := fun w' => w'.cell? ⟨2, k * 3, none⟩ = some (.int .i64 d) ∧ w'.cell? ⟨2, k * 3 + 1, none⟩ = some (.int .i64 m) ∧ w'.cell? ⟨2, k * 3 + 2, none⟩ = some (.bool e) ∧ w'.cell? ⟨3, k, none⟩ = some (.string S)) (ds := []) hmo (hS.out _ (Below.refl _ _).drew) (fun hHeld => ?_)))
 clear l1 l2 l3 l4
 (refine Tk.tl 0 (.int .i64 k) hHeld ?_)
 (refine Tk.tl 1 (.pointer (some ⟨2, k * 3, none⟩)) hHeld ?_)
 (refine Tk.tl 2 (.agg #[.int .i64 d, .int .i64 m, .bool e]) hHeld ?_)
 (refine Tk.tl 3 (.int .i64 k) hHeld ?_)
 (refine Tk.tl 4 (.pointer (some ⟨3, k, none⟩)) hHeld ?_)
 (refine Tk.tl 5 (.string S) hHeld ?_)
 have hRw : Qa (Rws w w.drew [] []) := ⟨(Rws.start w).drew⟩
 refine Sw (σ := Nat × Nat) 2 #[true, true, true, true, true, true, true, true, false, false] (fun s => [(5, .pointer (some ⟨s.1, 0, none⟩)), (6, .pointer (some ⟨s.2, 0, none⟩))]) (fun s w' => Rws w w' [] [⟨s.1, #[.int .i64 0, .int .i64 0, .bool false], 194⟩, ⟨s.2, #[.string ⟨#[]⟩], 9⟩]) ?_ ?_
 ·intro s xj hRw
  obtain ⟨n6, n7⟩ := s
  replace hRw := Qa.mk hRw
  simp only [Uu, Act.put, Tk.z1, Tk.z2, Tk.z3, Tk.z4, Tk.z5, Tk.z6] at hRw ⊢
  (refine Qd (rs := [8]) (by kernel_rfl) (by simp) ?_; refine Qc.cons rfl (by decide) (fun K hK => ?_) Qc.nil)
  have hG := (hRw.out.blk ⟨n6, #[.int .i64 0, .int .i64 0, .bool false], 194⟩ (by simp)).1
  have z0 : xj.cell? ⟨n6, 0, none⟩ = some (.int .i64 0) := by rw [Zt hG]; rfl
  have y0 := Qe hG 0
  have z1 : xj.cell? ⟨n6, 1, none⟩ = some (.int .i64 0) := by rw [Zt hG]; rfl
  have y1 := Qe hG 1
  have z2 : xj.cell? ⟨n6, 2, none⟩ = some (.bool false) := by rw [Zt hG]; rfl
  have y2 := Qe hG 2
  have hRx := hRw.out
  clear hG
  replace hRx := Rws.set (G1 := []) (G2 := [⟨n7, #[.string ⟨#[]⟩], 9⟩]) (b := ⟨n6, #[.int .i64 0, .int .i64 0, .bool false], 194⟩) hRx 0 (.int .i64 d)
  simp only [List.setIfInBounds_toArray, List.set_cons_zero, List.set_cons_succ, List.nil_append, List.cons_append] at hRx
  replace hRx := Rws.set (G1 := []) (G2 := [⟨n7, #[.string ⟨#[]⟩], 9⟩]) (b := ⟨n6, #[.int .i64 d, .int .i64 0, .bool false], 194⟩) hRx 1 (.int .i64 m)
  simp only [List.setIfInBounds_toArray, List.set_cons_zero, List.set_cons_succ, List.nil_append, List.cons_append] at hRx
  replace hRx := Rws.set (G1 := []) (G2 := [⟨n7, #[.string ⟨#[]⟩], 9⟩]) (b := ⟨n6, #[.int .i64 d, .int .i64 m, .bool false], 194⟩) hRx 2 (.bool e)
  simp only [List.setIfInBounds_toArray, List.set_cons_zero, List.set_cons_succ, List.nil_append, List.cons_append] at hRx
  replace hRx := Qa.mk hRx
  go_simp
  go_wp2_with fail
  refine hK.out _ _ (hS.out _ hRx.out.below) (fun hHeld => ?_)
  clear hK K
  try simp only [Act.put, Tk.z1, Tk.z2, Tk.z3, Tk.z4, Tk.z5, Tk.z6]
  obtain ⟨x8, hxN⟩ : ∃ x, x = (((xj.setCell ⟨n6, 0, none⟩ (.int .i64 d)).setCell ⟨n6, 1, none⟩ (.int .i64 m)).setCell ⟨n6, 2, none⟩ (.bool e)) := ⟨_, rfl⟩
  have hRy := hRx.out
  rw [← hxN] at hRy ⊢
  replace hRw := Qa.mk hRy
  clear hxN hRx hRy z0 y0 z1 y1 z2 y2
  (refine Qd (rs := [9]) (by kernel_rfl) (by simp) ?_; refine Qc.cons rfl (by decide) (fun K hK => ?_) Qc.nil)
  have hG := (hRw.out.blk ⟨n7, #[.string ⟨#[]⟩], 9⟩ (by simp)).1
  have z0 : x8.cell? ⟨n7, 0, none⟩ = some (.string ⟨#[]⟩) := by rw [Zt hG]; rfl
  have y0 := Qe hG 0
  have hRx := hRw.out
  clear hG
  replace hRx := Rws.set (G1 := [⟨n6, #[.int .i64 d, .int .i64 m, .bool e], 194⟩]) (G2 := []) (b := ⟨n7, #[.string ⟨#[]⟩], 9⟩) hRx 0 (.string S)
  simp only [List.setIfInBounds_toArray, List.set_cons_zero, List.set_cons_succ, List.nil_append, List.cons_append] at hRx
  replace hRx := Qa.mk hRx
  go_simp
  go_wp2_with fail
  refine hK.out _ _ (hS.out _ hRx.out.below) (fun hHeld => ?_)
  clear hK K
  try simp only [Act.put, Tk.z1, Tk.z2, Tk.z3, Tk.z4, Tk.z5, Tk.z6]
  obtain ⟨x9, hxN⟩ : ∃ x, x = (x8.setCell ⟨n7, 0, none⟩ (.string S)) := ⟨_, rfl⟩
  have hRy := hRx.out
  rw [← hxN] at hRy ⊢
  replace hRw := Qa.mk hRy
  clear hxN hRx hRy z0 y0
  refine Qp (by kernel_rfl) ?_ _
  clear hHeld
  refine NoPanic.normal ?_
  obtain ⟨W5, hW5⟩ : ∃ W5, W5 = x9 := ⟨_, rfl⟩
  rw [← hW5] at hRw ⊢
  clear hW5
  have hR5 := hRw.out
  have g6 := (hR5.blk ⟨n6, #[.int .i64 d, .int .i64 m, .bool e], 194⟩ (by simp)).1
  have g60 : W5.cell? ⟨n6, 0, none⟩ = some (.int .i64 d) := by rw [Qb g6]; rfl
  have g61 : W5.cell? ⟨n6, 1, none⟩ = some (.int .i64 m) := by rw [Qb g6]; rfl
  have g62 : W5.cell? ⟨n6, 2, none⟩ = some (.bool e) := by rw [Qb g6]; rfl
  have hz6 := World.block_lt_of_cell? _ _ g60
  dsimp only at hz6
  clear g6 hR5
  gi_wp2_with fail
  obtain ⟨n8, hn8⟩ : ∃ n8, n8 = W5.heap.size := ⟨_, rfl⟩
  obtain ⟨W6, hW6⟩ : ∃ W6, W6 = W5.alloc (.cells #[.int .i64 0] 3) := ⟨_, rfl⟩
  have hR6 := hRw.out.alloc #[.int .i64 0] 3
  simp only [List.nil_append, List.cons_append] at hR6
  rw [← hW6, ← hn8] at hR6
  rw [← hW6, ← hn8]
  refine ⟨trivial, (callsIn_wide.2 (J5 d m e A l.length cap W6)).mono ?_⟩
  rintro en W7 ⟨rfl, hW7⟩
  obtain ⟨n9, hn9⟩ : ∃ n9, n9 = W6.heap.size := ⟨_, rfl⟩
  have hs7 : W7.heap.size = n9 + 2 := by rw [hW7, hn9]; simp
  have hR7 := (hR6.alloc #[.int .i64 d, .int .i64 m, .bool e] 194).alloc #[.slice A l.length cap] 22
  simp only [World.size_alloc, List.nil_append, List.cons_append] at hR7
  rw [← hW7, ← hn9] at hR7
  rw [← hn9]
  have hn69 : Qa (n6 < n9 ∧ n7 < n9 ∧ n8 < n9 ∧ w.heap.size ≤ n6 ∧ w.heap.size ≤ n8 ∧ w.heap.size ≤ n9) := by
   have q6 := Array.getElem?_eq_some_iff.1 (hR6.blk ⟨n6, #[.int .i64 d, .int .i64 m, .bool e], 194⟩ (by simp)).1
   have q7 := Array.getElem?_eq_some_iff.1 (hR6.blk ⟨n7, #[.string S], 9⟩ (by simp)).1
   have q8 := Array.getElem?_eq_some_iff.1 (hR6.blk ⟨n8, #[.int .i64 0], 3⟩ (by simp)).1
   have r6 := (hR6.blk ⟨n6, #[.int .i64 d, .int .i64 m, .bool e], 194⟩ (by simp)).2
   have r8 := (hR6.blk ⟨n8, #[.int .i64 0], 3⟩ (by simp)).2
   obtain ⟨q6, _⟩ := q6
   obtain ⟨q7, _⟩ := q7
   obtain ⟨q8, _⟩ := q8
   dsimp only at q6 q7 q8 r6 r8
   exact ⟨by omega, by omega, by omega, by omega, by omega, by omega⟩
  have b9 : W7.cell? ⟨n9, 0, none⟩ = some (.int .i64 d) := by rw [Qb (hR7.blk ⟨n9, #[.int .i64 d, .int .i64 m, .bool e], 194⟩ (by simp)).1]; rfl
  have b10 : W7.cell? ⟨n9 + 1, 0, none⟩ = some (.slice A l.length cap) := by rw [Qb (hR7.blk ⟨n9 + 1, #[.slice A l.length cap], 22⟩ (by simp)).1]; rfl
  replace hs7 := Qa.mk hs7
  replace hR7 := Qa.mk hR7
  clear hW7 hn9 hW6 hn8 hR6 hz6 g60 g61 g62 hRw
  gi_wp2_with fail
  have hAs : Qa (0 < l.length → ∃ ad, A = some ad) := ⟨fun h => by
   obtain ⟨ad, e, _⟩ := Qr HR.out (Below.refl _ _) h
   exact ⟨ad, e⟩⟩
  refine Xm rfl (by omega) (gf := 221) (lb := #[.pointer (some ⟨n9, 0, none⟩), .pointer (some ⟨n9 + 1, 0, none⟩)]) rfl trivial (enters_of Tryz.func221 (by kernel_rfl) rfl)
   (Mi Fence.wide _ trivial rfl (by omega) n9 (n9 + 1) A cap l.length d hd9 (by have := hl'.out; omega) hcap hAs.out w W7 hR7.out.below b9 b10)
   (fun h k => h.trans k) (fun W l' o o' hl' => Xp.putObj (N := W7.heap.size) (by have := hs7.out; have := hn69.out; omega) (by have := hs7.out; omega) (by have := hs7.out; omega) W l' o o' hl') (Below.refl _ _) (fun _ => rfl)
   (fun j W => Rws w W [] [⟨n6, #[.int .i64 d, .int .i64 m, .bool e], 194⟩, ⟨n7, #[.string S], 9⟩, ⟨n8, #[.int .i64 (Q3 k l j)], 3⟩, ⟨n9, #[.int .i64 d, .int .i64 m, .bool e], 194⟩, ⟨n9 + 1, #[.slice A l.length cap], 22⟩])
   ?own ?start
   (fun j => { tmps := #[.int .i64 k, .slice A l.length cap, undef, undef, .int .i64 0, .pointer (some ⟨n6, 0, none⟩), .pointer (some ⟨n7, 0, none⟩), .pointer (some ⟨n8, 0, none⟩), gSl A (j * d) d, undef, undef, .int .i64 k, .pointer (some ⟨2, k * 3, none⟩), .agg #[.int .i64 d, .int .i64 m, .bool e], .int .i64 k, .pointer (some ⟨3, k, none⟩), .string S, .agg #[.int .i64 d, .int .i64 m, .bool e], .slice A l.length cap, .func (.func 221) #[] #[.pointer (some ⟨n9, 0, none⟩), .pointer (some ⟨n9 + 1, 0, none⟩)], gSl A (j * d) d, undef, undef, undef, undef, undef, undef, undef, undef, undef, undef, undef, undef, undef, undef, undef, undef, undef, undef, undef, undef, undef, undef, undef, undef, undef], defers := [] }) ?assign ?body ?done
  case own => exact fun j W W' row h hg hrow => Pre.Rws.turn h hg (fun r e => ⟨by have := (hrow r e).1; have := hs7.out; have := hn69.out; omega, (hrow r e).2⟩)
  case start => exact hR7.out
  case assign =>
   intro l' j W K _ hK
   gi_wp2
   exact hK
  case body =>
   rintro L j W hRw hj
   obtain ⟨ad, rfl⟩ := hAs.out (by have := Ko hd9.1 hj; omega)
   have hjd := Ko hd9.1 hj
   obtain ⟨ag, hag⟩ : ∃ ag, ag = ad.add (j * d) := ⟨_, rfl⟩
   have HG := grp_C hd9.1 HR.out hjd
   have hgl := N7 hjd
   have hga := K7 (d := d) (j := j) hA
   have hst : Q3 k l (j + 1) = Q3 k l j + Uz k (Vm d l j) := by rw [hde.out]; rfl
   have hc09 := Xk hk hA j
   have hj9 : j ≤ 1000 := by have := hl'.out; have := Nat.mul_le_mul_left j hd9.1; omega
   obtain ⟨gr, hgr⟩ : ∃ gr, gr = Vm d l j := ⟨_, rfl⟩
   rw [← hag, ← hgr] at HG
   rw [← hgr] at hgl hga hst
   obtain ⟨c0, hc0⟩ : ∃ c0, c0 = Q3 k l j := ⟨_, rfl⟩
   rw [← hc0] at hst hc09 hRw
   have hgc := Hy hk (g := gr) (by omega) hga
   simp only [gSl]
   rw [← hag]
   have a6 := (hRw.blk ⟨n6, #[.int .i64 d, .int .i64 m, .bool e], 194⟩ (by simp)).1
   have a60 : W.cell? ⟨n6, 0, none⟩ = some (.int .i64 d) := by rw [Qb a6]; rfl
   have a61 : W.cell? ⟨n6, 1, none⟩ = some (.int .i64 m) := by rw [Qb a6]; rfl
   have a62 : W.cell? ⟨n6, 2, none⟩ = some (.bool e) := by rw [Qb a6]; rfl
   have a70 : W.cell? ⟨n7, 0, none⟩ = some (.string S) := by rw [Qb (hRw.blk ⟨n7, #[.string S], 9⟩ (by simp)).1]; rfl
   have a8 := (hRw.blk ⟨n8, #[.int .i64 c0], 3⟩ (by simp)).1
   have a80 : W.cell? ⟨n8, 0, none⟩ = some (.int .i64 c0) := by rw [Qb a8]; rfl
   clear a6 a8
   have hz6 := World.block_lt_of_cell? _ _ a60
   have HSy := Qa.mk (fun (W' : World) (hb : Below W.heap.size W W') => Vk d m e (some ag) d gr W' hm9 (Kd.Qh HG (bnx hRw.below hb)) (by omega) hga)
   rw [hgl] at HSy
   have hI : IntKind.i64.wrap c0 = c0 := IntWalk.i64_in _ (by omega)
   replace hRw := Qa.mk hRw
   obtain ⟨bT, hbTe⟩ : ∃ bT : Nat → Int, bT = fun i => ((gr.take i).map (Xj m e)).sum := ⟨_, rfl⟩
   have hbT0 : Qa (bT 0 = 0) := ⟨by rw [hbTe]; simp⟩
   have hbTs : Qa (∀ i, i < d → bT (i + 1) = bT i + Xj m e (rd gr i)) := ⟨fun i hi => by rw [hbTe]; dsimp only; rw [Qx gr i (by omega), List.map_append, List.sum_append]; simp⟩
   have hbT9 : Qa (∀ i, i ≤ d → 0 ≤ bT i ∧ bT i ≤ 100) := ⟨fun i hi => by
    have h1 := Le (e := e) hm9 (gr.take i) (List.all_eq_true.2 fun x hx => List.all_eq_true.1 hga x (List.mem_of_mem_take hx))
    have h2 : (gr.take i).length ≤ 4 := by rw [List.length_take]; omega
    rw [hbTe]
    dsimp only
    omega⟩
   have hbTd : bT d = besS k gr := by rw [hbTe, ← hgl]; dsimp only; rw [List.take_length, hme.out, hee.out]; rfl
   have hwb := He hk gr
   have hE : Uz k gr = (if 0 < k then wlI k gr else 0) + besS k gr := rfl
   replace HG := Qa.mk HG
   by_cases hk0 : 0 < k
   ·have hsi := Wt hk hk0 (g := gr) (by rw [hgl, hde.out]) hga
    rw [← hme.out] at hsi
    have hne : S.toList.isEmpty = false := by rw [hSe.out]; exact tabS_ne k hk hk0
    obtain ⟨bt, hbt, hbx⟩ := Iz hk (i := (Pb m gr).toNat) (by omega)
    rw [← hSe.out] at hbt
    have hwl : wlI k gr = ((Ym k)[(Pb m gr).toNat]'(by omega) : Nat) := by unfold wlI; rw [← hme.out, List.getD_eq_getElem?_getD, List.getElem?_eq_getElem (by omega), Option.getD_some]
    rw [← hwl] at hbx
    have htb := Bv k hk _ (List.getElem_mem (show (Pb m gr).toNat < (Ym k).length by omega))
    obtain ⟨wl, hwle⟩ : ∃ wl, wl = wlI k gr := ⟨_, rfl⟩
    have hwl1 : 1 ≤ wl := by rw [hwle, hwl]; omega
    rw [← hwle] at hbx hwb hE
    obtain ⟨c1, hc1⟩ : ∃ c1, c1 = c0 + wl := ⟨_, rfl⟩
    have hfin : Qa (c1 + bT d = Q3 k l (j + 1)) := ⟨by rw [hst, hE, if_pos hk0, hbTd]; omega⟩
    obtain ⟨sy, hsy⟩ : ∃ sy, sy = Pb m gr := ⟨_, rfl⟩
    rw [← hsy] at HSy hsi hbt
    obtain ⟨y, hy⟩ : ∃ y, y = wl - 1 := ⟨_, rfl⟩
    obtain ⟨xb, hxb⟩ : ∃ xb : Int, (bt.toNat : Int) = xb := ⟨_, rfl⟩
    rw [hxb] at hbx
    have f1 : IntKind.u8.wrap (xb - 97) = y := by rw [show xb - 97 = y by omega]; exact IntWalk.u8_in _ (by omega)
    have f2 : IntKind.i64.wrap y = y := IntWalk.i64_in _ (by omega)
    have f3 : IntKind.i64.wrap (y + 1) = wl := by rw [show y + 1 = wl by omega]; exact IntWalk.i64_in _ (by omega)
    have f4 : IntKind.i64.wrap (c0 + wl) = c1 := by rw [← hc1]; exact IntWalk.i64_in _ (by omega)
    have hc19 : 0 ≤ c1 ∧ c1 ≤ 200000 := by omega
    have hsy0 : 0 ≤ sy := hsi.1
    have hszS : Qa (sy < (S.size : Int) ∧ ∀ h : sy.toNat < S.size, ((S[sy.toNat]'h).toNat : Int) = xb) := by
     have h1 : sy < (S.size : Int) := by rw [hSe.out, K3]; exact hsi.2
     refine ⟨h1, fun h => ?_⟩
     rw [getElem?_pos S sy.toNat h] at hbt
     injection hbt with hbt
     rw [hbt]
     exact hxb
    clear hsi hwl htb hwle hsy hy hbx hc1 hwb hc09 hj9 hwl1
    replace hgl := Qa.mk hgl
    replace hga := Qa.mk hga
    clear hbTe hbTd hE hst hc0 hgr hag hgc hjd hj
    replace hfin := Qa.mk hfin.out
    gi_wp2_with fail
    obtain ⟨hszS1, hszS2⟩ := hszS.out
    clear hszS hbt
    refine Held.Q6 (fun w' => w'.cell? ⟨n6, 0, none⟩ = some (.int .i64 d) ∧ w'.cell? ⟨n6, 1, none⟩ = some (.int .i64 m) ∧ w'.cell? ⟨n6, 2, none⟩ = some (.bool e) ∧ w'.cell? ⟨n7, 0, none⟩ = some (.string S) ∧ w'.cell? ⟨n8, 0, none⟩ = some (.int .i64 c0) ∧ Below W.heap.size W w') [10] hmo (by kernel_rfl) (fun ⟨_, _, h⟩ => h) ⟨a60, a61, a62, a70, a80, (Below.refl _ _).drew⟩ (fun hHeld => ?_)
    (refine Tk.tl 0 (.int .i64 c0) hHeld ?_)
    (refine Tk.tl 1 (.string S) hHeld ?_)
    (refine Tk.tl 2 (.agg #[.int .i64 d, .int .i64 m, .bool e]) hHeld ?_)
    (refine Tk.tl 3 (.slice (some ag) d d) hHeld ?_)
    (refine Qd (rs := [4]) (by kernel_rfl) (by simp) ?_; refine Qc.cons rfl (by decide) (fun K hK => ?_) Qc.nil)
    go_simp
    refine (HSy.out _ hHeld.2.2.2.2.2).mono ?_
    rintro en w1 ⟨rfl, hb1⟩
    go_wp2_with fail
    refine hK.out _ _ ⟨cnx hHeld.1 hb1, cnx hHeld.2.1 hb1, cnx hHeld.2.2.1 hb1, cnx hHeld.2.2.2.1 hb1, cnx hHeld.2.2.2.2.1 hb1, bnx hHeld.2.2.2.2.2 hb1⟩ (fun hHeld => ?_)
    clear hK K
    try simp only [Act.put, Tk.z1, Tk.z2, Tk.z3, Tk.z4, Tk.z5, Tk.z6]
    (refine Tk.tl 5 (.int .u8 xb) hHeld ?_)
    (refine Tk.tl 6 (.int .u8 y) hHeld ?_)
    (refine Tk.tl 7 (.int .i64 y) hHeld ?_)
    (refine Tk.tl 8 (.int .i64 wl) hHeld ?_)
    (refine Tk.tl 9 (.int .i64 c1) hHeld ?_)
    have hRs := hRw.out.step hHeld.2.2.2.2.2
    have G8 := (hRs.blk ⟨n8, #[.int .i64 c0], 3⟩ (by simp)).1
    have z80 : w1.cell? ⟨n8, 0, none⟩ = some (.int .i64 c0) := by rw [Qb G8]; rfl
    have y80 := Qe G8 0
    clear G8
    have hRn := Bts.Rws.set (G1 := [⟨n6, #[.int .i64 d, .int .i64 m, .bool e], 194⟩, ⟨n7, #[.string S], 9⟩]) (G2 := [⟨n9, #[.int .i64 d, .int .i64 m, .bool e], 194⟩, ⟨n9 + 1, #[.slice (some ad) l.length cap], 22⟩]) (b := ⟨n8, #[.int .i64 c0], 3⟩) hRs 0 (.int .i64 c1)
    simp only [List.setIfInBounds_toArray, List.set_cons_zero, List.nil_append, List.cons_append] at hRn
    have hKn : KeepsOthers W (w1.setCell ⟨n8, 0, none⟩ (.int .i64 c1)) ∧ Xp w.heap.size n9 (n9 + 1) W (w1.setCell ⟨n8, 0, none⟩ (.int .i64 c1)) := ⟨(Zp hHeld.2.2.2.2.2).trans (KeepsOthers.setCell w1 ⟨n8, 0, none⟩ (.int .i64 c1)), Xp.set (hHeld.2.2.2.2.2) hRw.out.below.size (by have := hRw.out.blk ⟨n9, #[.int .i64 d, .int .i64 m, .bool e], 194⟩ (by simp); exact (Array.getElem?_eq_some_iff.1 this.1).1) (by have := hRw.out.blk ⟨n9 + 1, #[.slice (some ad) l.length cap], 22⟩ (by simp); exact (Array.getElem?_eq_some_iff.1 this.1).1) (by have := hn69.out; omega) (by have := hn69.out; omega) (by have := hn69.out; omega)⟩
    obtain ⟨wn, hwn⟩ : ∃ wn, wn = w1.setCell ⟨n8, 0, none⟩ (.int .i64 c1) := ⟨_, rfl⟩
    rw [← hwn] at hRn hKn
    replace hRn := Qa.mk hRn
    replace hKn := Qa.mk hKn
    replace hwn := Qa.mk hwn
    clear hRs
    (refine Qd (rs := [10]) (by kernel_rfl) (by simp) ?_; refine Qc.Zh rfl (by decide) (fun K hK => ?_) Qc.nil)
    go_simp
    go_wp2_with fail
    refine hK.out _ _ ?_
    clear hK K
    try simp only [Act.put, Tk.z1, Tk.z2, Tk.z3, Tk.z4, Tk.z5, Tk.z6]
    refine Qp (by kernel_rfl) ?_ _
    rw [← hwn.out]
    clear z80 y80 hHeld hwn
    clear a60 a61 a62 a70 a80 hz6 HSy hszS1 hszS2 hxb f1 f2 f3 f4 hne
    have hbW : Below w.heap.size w wn := hRn.out.below
    obtain ⟨wo, hwo⟩ : ∃ wo : World, wo = wn := ⟨_, rfl⟩
    rw [← hwo] at hRn hKn hbW ⊢
    clear hwo
    gi_wp2_with fail
    gi_loopw [35] (fun x wr => ∃ i : Nat, x = .int .i64 i ∧ i ≤ d ∧ Qa (Rws w wr [] [⟨n6, #[.int .i64 d, .int .i64 m, .bool e], 194⟩, ⟨n7, #[.string S], 9⟩, ⟨n8, #[.int .i64 (c1 + bT i)], 3⟩, ⟨n9, #[.int .i64 d, .int .i64 m, .bool e], 194⟩, ⟨n9 + 1, #[.slice (some ad) l.length cap], 22⟩]) ∧ Qa (KeepsOthers W wr ∧ Xp w.heap.size n9 (n9 + 1) W wr)) (fun x _ => d - (intOf x).toNat)
    case atStart => exact ⟨0, rfl, by omega, ⟨by rw [hbT0.out, Int.add_zero]; exact hRn.out⟩, hKn⟩
    case round =>
     obtain ⟨i, rfl, hi, hRr, hKr⟩ := hrel
     by_cases hlt : i < d
     ·obtain ⟨ad2, had2, hcell⟩ := Qr HG.out hRr.out.below (show i < gr.length by have := hgl.out; omega)
      cases had2
      have hv := X0 hga.out (Qt gr i (by have := hgl.out; omega))
      have hbs := hbTs.out i hlt
      have hbb := K5 (e := e) hm9 hv
      have hb9 := hbT9.out i (by omega)
      have HBs := Qa.mk (fun (W' : World) => Gz d m e (rd gr i) W' hm9 hv.1 hv.2)
      obtain ⟨v, hve⟩ : ∃ v, v = rd gr i := ⟨_, rfl⟩
      rw [← hve] at hcell hbs hbb HBs
      obtain ⟨bq, hbq⟩ : ∃ bq, bq = Xj m e v := ⟨_, rfl⟩
      rw [← hbq] at hbs hbb HBs
      obtain ⟨ac, hac⟩ : ∃ ac, ac = c1 + bT i := ⟨_, rfl⟩
      rw [← hac] at hRr
      obtain ⟨an, han⟩ : ∃ an, an = c1 + bT (i + 1) := ⟨_, rfl⟩
      have hwr : IntKind.i64.wrap (ac + bq) = an := by rw [show ac + bq = an by omega]; exact IntWalk.i64_in _ (by omega)
      clear hve hbq hv
      have r6 := (hRr.out.blk ⟨n6, #[.int .i64 d, .int .i64 m, .bool e], 194⟩ (by simp)).1
      have r60 : wr.cell? ⟨n6, 0, none⟩ = some (.int .i64 d) := by rw [Qb r6]; rfl
      have r61 : wr.cell? ⟨n6, 1, none⟩ = some (.int .i64 m) := by rw [Qb r6]; rfl
      have r62 : wr.cell? ⟨n6, 2, none⟩ = some (.bool e) := by rw [Qb r6]; rfl
      have r70 : wr.cell? ⟨n7, 0, none⟩ = some (.string S) := by rw [Qb (hRr.out.blk ⟨n7, #[.string S], 9⟩ (by simp)).1]; rfl
      have r8 := (hRr.out.blk ⟨n8, #[.int .i64 ac], 3⟩ (by simp)).1
      have r80 : wr.cell? ⟨n8, 0, none⟩ = some (.int .i64 ac) := by rw [Qb r8]; rfl
      clear r6 r8
      have hz6 := World.block_lt_of_cell? _ _ r60
      have hiI : (i : Int) < (d : Int) := by omega
      replace hac := Qa.mk hac
      replace han := Qa.mk han
      replace hbs := Qa.mk hbs
      replace hb9 := Qa.mk hb9
      replace hbb := Qa.mk hbb
      gi_wp2_with fail
      refine Held.Q6 (fun w' => w'.cell? ⟨n6, 0, none⟩ = some (.int .i64 d) ∧ w'.cell? ⟨n6, 1, none⟩ = some (.int .i64 m) ∧ w'.cell? ⟨n6, 2, none⟩ = some (.bool e) ∧ w'.cell? ⟨n7, 0, none⟩ = some (.string S) ∧ w'.cell? ⟨n8, 0, none⟩ = some (.int .i64 ac) ∧ Below wr.heap.size wr w') [5] hmo (by kernel_rfl) (fun ⟨_, _, h⟩ => h) ⟨r60, r61, r62, r70, r80, (Below.refl _ _).drew⟩ (fun hHeld => ?_)
      (refine Tk.tl 0 (.int .i64 ac) hHeld ?_)
      (refine Tk.tl 1 (.agg #[.int .i64 d, .int .i64 m, .bool e]) hHeld ?_)
      (refine Tk.tl 2 (.int .i64 v) hHeld ?_)
      (refine Qd (rs := [3]) (by kernel_rfl) (by simp) ?_; refine Qc.cons rfl (by decide) (fun K hK => ?_) Qc.nil)
      go_simp
      refine (HBs.out _).mono ?_
      rintro en w1 ⟨rfl, hb1⟩
      go_wp2_with fail
      refine hK.out _ _ ⟨cnx hHeld.1 hb1, cnx hHeld.2.1 hb1, cnx hHeld.2.2.1 hb1, cnx hHeld.2.2.2.1 hb1, cnx hHeld.2.2.2.2.1 hb1, bnx hHeld.2.2.2.2.2 hb1⟩ (fun hHeld => ?_)
      clear hK K
      try simp only [Act.put, Tk.z1, Tk.z2, Tk.z3, Tk.z4, Tk.z5, Tk.z6]
      (refine Tk.tl 4 (.int .i64 an) hHeld ?_)
      have hRs := hRr.out.step hHeld.2.2.2.2.2
      have G8 := (hRs.blk ⟨n8, #[.int .i64 ac], 3⟩ (by simp)).1
      have z80 : w1.cell? ⟨n8, 0, none⟩ = some (.int .i64 ac) := by rw [Qb G8]; rfl
      have y80 := Qe G8 0
      clear G8
      have hRn := Bts.Rws.set (G1 := [⟨n6, #[.int .i64 d, .int .i64 m, .bool e], 194⟩, ⟨n7, #[.string S], 9⟩]) (G2 := [⟨n9, #[.int .i64 d, .int .i64 m, .bool e], 194⟩, ⟨n9 + 1, #[.slice (some ad) l.length cap], 22⟩]) (b := ⟨n8, #[.int .i64 ac], 3⟩) hRs 0 (.int .i64 an)
      simp only [List.setIfInBounds_toArray, List.set_cons_zero, List.nil_append, List.cons_append] at hRn
      have hKn : KeepsOthers wr (w1.setCell ⟨n8, 0, none⟩ (.int .i64 an)) ∧ Xp w.heap.size n9 (n9 + 1) wr (w1.setCell ⟨n8, 0, none⟩ (.int .i64 an)) := ⟨(Zp hHeld.2.2.2.2.2).trans (KeepsOthers.setCell w1 ⟨n8, 0, none⟩ (.int .i64 an)), Xp.set (hHeld.2.2.2.2.2) hRr.out.below.size (by have := hRr.out.blk ⟨n9, #[.int .i64 d, .int .i64 m, .bool e], 194⟩ (by simp); exact (Array.getElem?_eq_some_iff.1 this.1).1) (by have := hRr.out.blk ⟨n9 + 1, #[.slice (some ad) l.length cap], 22⟩ (by simp); exact (Array.getElem?_eq_some_iff.1 this.1).1) (by have := hn69.out; omega) (by have := hn69.out; omega) (by have := hn69.out; omega)⟩
      obtain ⟨wn, hwn⟩ : ∃ wn, wn = w1.setCell ⟨n8, 0, none⟩ (.int .i64 an) := ⟨_, rfl⟩
      rw [← hwn] at hRn hKn
      replace hRn := Qa.mk hRn
      replace hKn := Qa.mk hKn
      replace hwn := Qa.mk hwn
      clear hRs
      (refine Qd (rs := [5]) (by kernel_rfl) (by simp) ?_; refine Qc.Zh rfl (by decide) (fun K hK => ?_) Qc.nil)
      go_simp
      go_wp2_with fail
      refine hK.out _ _ ?_
      clear hK K
      try simp only [Act.put, Tk.z1, Tk.z2, Tk.z3, Tk.z4, Tk.z5, Tk.z6]
      refine Qp (by kernel_rfl) ?_ _
      rw [← hwn.out]
      clear z80 y80 hHeld hwn
      clear r60 r61 r62 r70 r80 hcell hz6
      gi_wp2
      go_roundw
      case rel => exact ⟨i + 1, by go_num, by omega, ⟨by rw [← han.out]; exact hRn.out⟩, ⟨hKr.out.1.trans hKn.out.1, hKr.out.2.trans hKn.out.2⟩⟩
      case measure => simp [intOf]; omega
     ·obtain rfl : i = d := by omega
      gi_wp2
      refine ⟨hKr.out.1.from _, hKr.out.2, ?_⟩
      have h9 := hRr.out
      rw [hfin.out] at h9
      exact h9
   ·obtain rfl : k = 0 := by omega
    obtain ⟨c1, hc1⟩ : ∃ c1, c1 = c0 := ⟨_, rfl⟩
    have hfin : Qa (c1 + bT d = Q3 0 l (j + 1)) := ⟨by rw [hst, hE, if_neg (by omega), hbTd]; omega⟩
    have hSe0 : S = ⟨#[]⟩ := by rw [hSe.out]; rfl
    have hc19 : 0 ≤ c1 ∧ c1 ≤ 200000 := by omega
    rw [← hc1] at hRw a80 hI
    have hKw : Qa (KeepsOthers W W ∧ Xp w.heap.size n9 (n9 + 1) W W) := ⟨KeepsOthers.refl W, Below.refl _ _, rfl, rfl⟩
    clear hc1 hwb hc09 hj9 HSy
    replace hgl := Qa.mk hgl
    replace hga := Qa.mk hga
    clear hbTe hbTd hE hst hc0 hgr hag hgc hjd hj
    have hne : S.toList.isEmpty = true := by rw [hSe0]; decide +kernel
    gi_wp2_with fail
    clear a60 a61 a62 a70 a80 hz6
    obtain ⟨wz, hwz⟩ : ∃ wz : World, wz = W := ⟨_, rfl⟩
    have hKz : Qa (KeepsOthers W wz ∧ Xp w.heap.size n9 (n9 + 1) W wz) := by rw [hwz]; exact hKw
    have hRz := hRw
    rw [← hwz] at hRz ⊢
    clear hwz
    have hbW : Below w.heap.size w wz := hRz.out.below
    obtain ⟨wo, hwo⟩ : ∃ wo : World, wo = wz := ⟨_, rfl⟩
    rw [← hwo] at hRz hKz hbW ⊢
    clear hwo
    gi_wp2_with fail
    gi_loopw [35] (fun x wr => ∃ i : Nat, x = .int .i64 i ∧ i ≤ d ∧ Qa (Rws w wr [] [⟨n6, #[.int .i64 d, .int .i64 m, .bool e], 194⟩, ⟨n7, #[.string S], 9⟩, ⟨n8, #[.int .i64 (c1 + bT i)], 3⟩, ⟨n9, #[.int .i64 d, .int .i64 m, .bool e], 194⟩, ⟨n9 + 1, #[.slice (some ad) l.length cap], 22⟩]) ∧ Qa (KeepsOthers W wr ∧ Xp w.heap.size n9 (n9 + 1) W wr)) (fun x _ => d - (intOf x).toNat)
    case atStart => exact ⟨0, rfl, by omega, ⟨by rw [hbT0.out, Int.add_zero]; exact hRz.out⟩, hKz⟩
    case round =>
     obtain ⟨i, rfl, hi, hRr, hKr⟩ := hrel
     by_cases hlt : i < d
     ·obtain ⟨ad2, had2, hcell⟩ := Qr HG.out hRr.out.below (show i < gr.length by have := hgl.out; omega)
      cases had2
      have hv := X0 hga.out (Qt gr i (by have := hgl.out; omega))
      have hbs := hbTs.out i hlt
      have hbb := K5 (e := e) hm9 hv
      have hb9 := hbT9.out i (by omega)
      have HBs := Qa.mk (fun (W' : World) => Gz d m e (rd gr i) W' hm9 hv.1 hv.2)
      obtain ⟨v, hve⟩ : ∃ v, v = rd gr i := ⟨_, rfl⟩
      rw [← hve] at hcell hbs hbb HBs
      obtain ⟨bq, hbq⟩ : ∃ bq, bq = Xj m e v := ⟨_, rfl⟩
      rw [← hbq] at hbs hbb HBs
      obtain ⟨ac, hac⟩ : ∃ ac, ac = c1 + bT i := ⟨_, rfl⟩
      rw [← hac] at hRr
      obtain ⟨an, han⟩ : ∃ an, an = c1 + bT (i + 1) := ⟨_, rfl⟩
      have hwr : IntKind.i64.wrap (ac + bq) = an := by rw [show ac + bq = an by omega]; exact IntWalk.i64_in _ (by omega)
      clear hve hbq hv
      have r6 := (hRr.out.blk ⟨n6, #[.int .i64 d, .int .i64 m, .bool e], 194⟩ (by simp)).1
      have r60 : wr.cell? ⟨n6, 0, none⟩ = some (.int .i64 d) := by rw [Qb r6]; rfl
      have r61 : wr.cell? ⟨n6, 1, none⟩ = some (.int .i64 m) := by rw [Qb r6]; rfl
      have r62 : wr.cell? ⟨n6, 2, none⟩ = some (.bool e) := by rw [Qb r6]; rfl
      have r70 : wr.cell? ⟨n7, 0, none⟩ = some (.string S) := by rw [Qb (hRr.out.blk ⟨n7, #[.string S], 9⟩ (by simp)).1]; rfl
      have r8 := (hRr.out.blk ⟨n8, #[.int .i64 ac], 3⟩ (by simp)).1
      have r80 : wr.cell? ⟨n8, 0, none⟩ = some (.int .i64 ac) := by rw [Qb r8]; rfl
      clear r6 r8
      have hz6 := World.block_lt_of_cell? _ _ r60
      have hiI : (i : Int) < (d : Int) := by omega
      replace hac := Qa.mk hac
      replace han := Qa.mk han
      replace hbs := Qa.mk hbs
      replace hb9 := Qa.mk hb9
      replace hbb := Qa.mk hbb
      gi_wp2_with fail
      refine Held.Q6 (fun w' => w'.cell? ⟨n6, 0, none⟩ = some (.int .i64 d) ∧ w'.cell? ⟨n6, 1, none⟩ = some (.int .i64 m) ∧ w'.cell? ⟨n6, 2, none⟩ = some (.bool e) ∧ w'.cell? ⟨n7, 0, none⟩ = some (.string S) ∧ w'.cell? ⟨n8, 0, none⟩ = some (.int .i64 ac) ∧ Below wr.heap.size wr w') [5] hmo (by kernel_rfl) (fun ⟨_, _, h⟩ => h) ⟨r60, r61, r62, r70, r80, (Below.refl _ _).drew⟩ (fun hHeld => ?_)
      (refine Tk.tl 0 (.int .i64 ac) hHeld ?_)
      (refine Tk.tl 1 (.agg #[.int .i64 d, .int .i64 m, .bool e]) hHeld ?_)
      (refine Tk.tl 2 (.int .i64 v) hHeld ?_)
      (refine Qd (rs := [3]) (by kernel_rfl) (by simp) ?_; refine Qc.cons rfl (by decide) (fun K hK => ?_) Qc.nil)
      go_simp
      refine (HBs.out _).mono ?_
      rintro en w1 ⟨rfl, hb1⟩
      go_wp2_with fail
      refine hK.out _ _ ⟨cnx hHeld.1 hb1, cnx hHeld.2.1 hb1, cnx hHeld.2.2.1 hb1, cnx hHeld.2.2.2.1 hb1, cnx hHeld.2.2.2.2.1 hb1, bnx hHeld.2.2.2.2.2 hb1⟩ (fun hHeld => ?_)
      clear hK K
      try simp only [Act.put, Tk.z1, Tk.z2, Tk.z3, Tk.z4, Tk.z5, Tk.z6]
      (refine Tk.tl 4 (.int .i64 an) hHeld ?_)
      have hRs := hRr.out.step hHeld.2.2.2.2.2
      have G8 := (hRs.blk ⟨n8, #[.int .i64 ac], 3⟩ (by simp)).1
      have z80 : w1.cell? ⟨n8, 0, none⟩ = some (.int .i64 ac) := by rw [Qb G8]; rfl
      have y80 := Qe G8 0
      clear G8
      have hRn := Bts.Rws.set (G1 := [⟨n6, #[.int .i64 d, .int .i64 m, .bool e], 194⟩, ⟨n7, #[.string S], 9⟩]) (G2 := [⟨n9, #[.int .i64 d, .int .i64 m, .bool e], 194⟩, ⟨n9 + 1, #[.slice (some ad) l.length cap], 22⟩]) (b := ⟨n8, #[.int .i64 ac], 3⟩) hRs 0 (.int .i64 an)
      simp only [List.setIfInBounds_toArray, List.set_cons_zero, List.nil_append, List.cons_append] at hRn
      have hKn : KeepsOthers wr (w1.setCell ⟨n8, 0, none⟩ (.int .i64 an)) ∧ Xp w.heap.size n9 (n9 + 1) wr (w1.setCell ⟨n8, 0, none⟩ (.int .i64 an)) := ⟨(Zp hHeld.2.2.2.2.2).trans (KeepsOthers.setCell w1 ⟨n8, 0, none⟩ (.int .i64 an)), Xp.set (hHeld.2.2.2.2.2) hRr.out.below.size (by have := hRr.out.blk ⟨n9, #[.int .i64 d, .int .i64 m, .bool e], 194⟩ (by simp); exact (Array.getElem?_eq_some_iff.1 this.1).1) (by have := hRr.out.blk ⟨n9 + 1, #[.slice (some ad) l.length cap], 22⟩ (by simp); exact (Array.getElem?_eq_some_iff.1 this.1).1) (by have := hn69.out; omega) (by have := hn69.out; omega) (by have := hn69.out; omega)⟩
      obtain ⟨wn, hwn⟩ : ∃ wn, wn = w1.setCell ⟨n8, 0, none⟩ (.int .i64 an) := ⟨_, rfl⟩
      rw [← hwn] at hRn hKn
      replace hRn := Qa.mk hRn
      replace hKn := Qa.mk hKn
      replace hwn := Qa.mk hwn
      clear hRs
      (refine Qd (rs := [5]) (by kernel_rfl) (by simp) ?_; refine Qc.Zh rfl (by decide) (fun K hK => ?_) Qc.nil)
      go_simp
      go_wp2_with fail
      refine hK.out _ _ ?_
      clear hK K
      try simp only [Act.put, Tk.z1, Tk.z2, Tk.z3, Tk.z4, Tk.z5, Tk.z6]
      refine Qp (by kernel_rfl) ?_ _
      rw [← hwn.out]
      clear z80 y80 hHeld hwn
      clear r60 r61 r62 r70 r80 hcell hz6
      gi_wp2
      go_roundw
      case rel => exact ⟨i + 1, by go_num, by omega, ⟨by rw [← han.out]; exact hRn.out⟩, ⟨hKr.out.1.trans hKn.out.1, hKr.out.2.trans hKn.out.2⟩⟩
      case measure => simp [intOf]; omega
     ·obtain rfl : i = d := by omega
      gi_wp2
      refine ⟨hKr.out.1.from _, hKr.out.2, ?_⟩
      have h9 := hRr.out
      rw [hfin.out] at h9
      exact h9
  case done =>
   rintro D W hD hRw hDf
   have hgD := grownBy_putObj' W D (.deferred none)
   have hsz := hs7.out
   have hbn := hn69.out
   have h1 : Rws w (W.putObj D (.deferred none)) [] _ := Pre.Rws.turn hRw hgD (fun r e => by cases e; exact ⟨by omega, _, hDf, rfl⟩)
   have p3 : W.cell? ⟨n8, 0, none⟩ = some (.int .i64 (Q3 k l (l.length / d))) := by rw [Qb (hRw.blk ⟨n8, #[.int .i64 (Q3 k l (l.length / d))], 3⟩ (by simp)).1]; rfl
   have hb := h1.below
   have hC : Qa (Zm k l = Q3 k l (l.length / d)) := ⟨by rw [hde.out]; rfl⟩
   gi_wp2
   refine ⟨by simp, .inl ⟨_, _, rfl, run_takeDeferred hDf, ?_⟩⟩
   exact ⟨.int .i64 (Q3 k l (l.length / d)), by simp [results, Tryz.f215, go_sem], by rw [hC.out], hb⟩
 ·intro hJ1
  replace hJ1 := Qa.mk hJ1
  refine Qd (rs := [6, 7]) (by kernel_rfl) (by simp) ?_; refine Qc.cons rfl (by decide) (fun K hK => ?_) (Qc.cons rfl (by decide) (fun K hK => ?_) (Qc.nil))
  ·refine Qv (w1 := w.drew.alloc (.cells #[.int .i64 0, .int .i64 0, .bool false] 194)) (v := .pointer (some ⟨w.drew.heap.size, 0, none⟩)) (by kernel_rfl) rfl (by kernel_rfl) ?_
   have hRx := hRw.out.alloc #[.int .i64 0, .int .i64 0, .bool false] 194
   refine hK.out _ _ (hS.out _ hRx.below) (fun hHeld => ?_)
   clear hK K
   try simp only [Act.put, Tk.z1, Tk.z2, Tk.z3, Tk.z4, Tk.z5, Tk.z6]
   obtain ⟨x6, hxN⟩ : ∃ x, x = w.drew.alloc (.cells #[.int .i64 0, .int .i64 0, .bool false] 194) := ⟨_, rfl⟩
   obtain ⟨n6, hnN⟩ : ∃ n, n = w.drew.heap.size := ⟨_, rfl⟩
   rw [← hxN] at hRx ⊢
   rw [← hnN] at hRx ⊢
   clear hxN hnN
   simp only [List.nil_append, List.cons_append] at hRx
   replace hRw := Qa.mk hRx
   clear hRx
   (refine Qd (rs := [7]) (by kernel_rfl) (by simp) ?_; refine Qc.cons rfl (by decide) (fun K hK => ?_) Qc.nil)
   refine Qv (w1 := x6.alloc (.cells #[.string ⟨#[]⟩] 9)) (v := .pointer (some ⟨x6.heap.size, 0, none⟩)) (by kernel_rfl) rfl (by kernel_rfl) ?_
   have hRx := hRw.out.alloc #[.string ⟨#[]⟩] 9
   refine hK.out _ _ (hS.out _ hRx.below) (fun hHeld => ?_)
   clear hK K
   try simp only [Act.put, Tk.z1, Tk.z2, Tk.z3, Tk.z4, Tk.z5, Tk.z6]
   obtain ⟨x7, hxN⟩ : ∃ x, x = x6.alloc (.cells #[.string ⟨#[]⟩] 9) := ⟨_, rfl⟩
   obtain ⟨n7, hnN⟩ : ∃ n, n = x6.heap.size := ⟨_, rfl⟩
   rw [← hxN] at hRx ⊢
   rw [← hnN] at hRx ⊢
   clear hxN hnN
   simp only [List.nil_append, List.cons_append] at hRx
   replace hRw := Qa.mk hRx
   clear hRx
   exact X4 (by kernel_rfl) (by kernel_rfl) (hJ1.out (n6, n7) _ hRw.out)
  ·refine Qv (w1 := w.drew.alloc (.cells #[.string ⟨#[]⟩] 9)) (v := .pointer (some ⟨w.drew.heap.size, 0, none⟩)) (by kernel_rfl) rfl (by kernel_rfl) ?_
   have hRx := hRw.out.alloc #[.string ⟨#[]⟩] 9
   refine hK.out _ _ (hS.out _ hRx.below) (fun hHeld => ?_)
   clear hK K
   try simp only [Act.put, Tk.z1, Tk.z2, Tk.z3, Tk.z4, Tk.z5, Tk.z6]
   obtain ⟨x7, hxN⟩ : ∃ x, x = w.drew.alloc (.cells #[.string ⟨#[]⟩] 9) := ⟨_, rfl⟩
   obtain ⟨n7, hnN⟩ : ∃ n, n = w.drew.heap.size := ⟨_, rfl⟩
   rw [← hxN] at hRx ⊢
   rw [← hnN] at hRx ⊢
   clear hxN hnN
   simp only [List.nil_append, List.cons_append] at hRx
   replace hRw := Qa.mk hRx
   clear hRx
   (refine Qd (rs := [6]) (by kernel_rfl) (by simp) ?_; refine Qc.cons rfl (by decide) (fun K hK => ?_) Qc.nil)
   refine Qv (w1 := x7.alloc (.cells #[.int .i64 0, .int .i64 0, .bool false] 194)) (v := .pointer (some ⟨x7.heap.size, 0, none⟩)) (by kernel_rfl) rfl (by kernel_rfl) ?_
   have hRx := hRw.out.alloc #[.int .i64 0, .int .i64 0, .bool false] 194
   refine hK.out _ _ (hS.out _ hRx.below) (fun hHeld => ?_)
   clear hK K
   try simp only [Act.put, Tk.z1, Tk.z2, Tk.z3, Tk.z4, Tk.z5, Tk.z6]
   obtain ⟨x6, hxN⟩ : ∃ x, x = x7.alloc (.cells #[.int .i64 0, .int .i64 0, .bool false] 194) := ⟨_, rfl⟩
   obtain ⟨n6, hnN⟩ : ∃ n, n = x7.heap.size := ⟨_, rfl⟩
   rw [← hxN] at hRx ⊢
   rw [← hnN] at hRx ⊢
   clear hxN hnN
   simp only [List.nil_append, List.cons_append] at hRx
   replace hRx := Rws.Dj (G1 := []) (G2 := [⟨n7, #[.string ⟨#[]⟩], 9⟩]) (b := ⟨n6, #[.int .i64 0, .int .i64 0, .bool false], 194⟩) hRx
   simp only [List.nil_append, List.cons_append] at hRx
   replace hRw := Qa.mk hRx
   clear hRx
   exact X4 (by kernel_rfl) (by kernel_rfl) (hJ1.out (n6, n7) _ hRw.out)
end Bk

end Go.Proofs.YtnflnicdjioflaaGreatDoor
