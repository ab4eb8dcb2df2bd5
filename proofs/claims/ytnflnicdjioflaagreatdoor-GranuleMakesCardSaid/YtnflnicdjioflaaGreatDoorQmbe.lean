/- A part of the proof. -/
import Derived.Test.YtnflnicdjioflaaGreatDoorQmay
set_option linter.unusedVariables false
set_option linter.unusedSimpArgs false
namespace Go.Proofs.YtnflnicdjioflaaGreatDoor
open Go.RowKit Go.Proofs.YtnflnicdjioflaaGreatDoorW.PrintWords Go.Proofs.YtnflnicdjioflaaGreatDoorW.PrintLast Go.Proofs.YtnflnicdjioflaaGreatDoorW.PrintMore
namespace Q21
attribute [local go_sem] max2_int min2_int max_two min_two max_three min_three
open Q15
open Q16 (KL info_list isW off wd off_next band band_len band_C isW_iff errS rQuantize_yes)
open Bts (Kp R_before R_behind R_based R_some Rws rI R_of_row leaf_)
def zerosTo (y : List Int) (u : List Bool) (j : Nat) : List Int := (List.range j).map fun i => if u.getD i false then rd y i else 0
theorem zerosTo_all (y : List Int) (u : List Bool) : zerosTo y u y.length = zeroS y u y.length :=
 List.map_congr_left fun i hi => by rw [if_pos (List.mem_range.1 hi)]
theorem zerosTo_succ (y : List Int) (u : List Bool) (j : Nat) : zerosTo y u (j + 1) = zerosTo y u j ++ [if u.getD j false then rd y j else 0] := by
 unfold zerosTo
 rw [List.range_succ, List.map_append]
 rfl
def GMade (g : Gr) (w : World) (e : Ending) (w' : World) : Prop := (∃ vC vM, e = .returned (.agg #[vC, vM]) ∧ kCh.R 46 w' w.heap.size (fun _ => True) vC g.chs ∧ Kd.bool.R 4 w' w.heap.size (fun _ => True) vM g.mid) ∧ Below w.heap.size w w'
set_option maxRecDepth 100000 in
set_option maxHeartbeats 16000000 in
theorem Made_calls (d : Dr) (v : DrV) (As : Option Addr) (cs : Nat) (sc : List (List Int)) (w : World) (hd : DrAt w d v) (hf : fewD d = true) (hv : validD d = true) (hS : KL.C w As sc.length sc) (hc9 : capOk w v.Al d.lis) (hlb : lensB d sc = true) (hrg : sc.all (Q16.rng 0 95) = true) :
  Calls Tryz.prog 33 #[.agg (drCells d v), .slice As sc.length cs] w (GMade ⟨(List.range d.lis.length).map (mkCh d sc), d.mid⟩ w) := by
 have hu26 := Tryz.underlying26
 have hu31 := Tryz.underlying31
 obtain ⟨f1, f2, f3, f4, f5, f6, f7, f8⟩ := fewD_facts hf
 have hlI : (d.lis.length : Int) ≤ 4 := by omega
 have hvs := hv
 unfold validD headD at hvs
 simp only [Bool.and_eq_true, decide_eq_true_eq] at hvs
 have hlb' := hlb
 unfold lensB at hlb'
 simp only [Bool.and_eq_true, decide_eq_true_eq] at hlb'
 have he' := Aside0.mk hlb'.1
 have ha : Aside0 (∀ k, k < sc.length → (rdL sc k).length = (widthsL d.sh d.gr).length) := ⟨fun k hk => by
  have := List.all_eq_true.1 hlb'.2 (rdL sc k) (by simp [rdL, hk])
  simpa using this⟩
 have ha2 : Aside0 (∀ k, k < sc.length → Q16.rng 0 95 (rdL sc k) = true) := ⟨fun k hk => List.all_eq_true.1 hrg (rdL sc k) (by simp [rdL, hk])⟩
 have hWL := Aside0.mk (widths_isW hvs.2.1)
 have hErr : Aside0 (∀ k, k < d.lis.length → ∀ x, x = rdL d.lis k → ∀ y, y = rdL sc k → errS (-2097152) 2097152 0 95 x (widthsL d.sh d.gr) y = 0) := ⟨fun k hk x hx y hy => by
  subst hx
  subst hy
  have h2 := List.all_eq_true.1 hvs.2.2.2 k (List.mem_range.2 hk)
  unfold okD at h2
  simp only [Bool.and_eq_true, decide_eq_true_eq] at h2
  exact errS_of hWL.out h2.1 (ha.out k (by rw [he'.out]; exact hk)) h2.2.1 (ha2.out k (by rw [he'.out]; exact hk))⟩
 have hvL := Aside0.mk (show d.lim.length = d.lis.length ∧ d.fil.length = d.lis.length from ⟨hvs.1.2.2.1, hvs.1.2.2.2⟩)
 have hwb : (widthsL d.sh d.gr).length ≤ 32 := widthsL_bd (isDiv_facts hvs.2.1).1
 have HC := Aside0.mk (fun (W : World) (hb : Below w.heap.size w W) => rWidths_calls d.sh v.Ag v.cg d.gr W (hd.below hb).gr)
 have hE : divE d.sh d.gr = 0 := by unfold divE; rw [hvs.2.1]; rfl
 have hW : divW d.sh d.gr = widthsL d.sh d.gr := by unfold divW; rw [hvs.2.1]; rfl
 rw [hE, hW] at HC
 obtain ⟨L, hL2⟩ : ∃ L, L = widthsL d.sh d.gr := ⟨_, rfl⟩
 rw [← hL2] at HC hwb ha hWL hErr
 have hwbI : (L.length : Int) ≤ 32 := by omega
 replace hL2 := Aside0.mk hL2
 have HD := Aside0.mk hd
 have HS := Aside0.mk hS
 have H9 := Aside0.mk hc9
 have f6' := Aside0.mk f6
 have f2' := Aside0.mk f2
 have hslI : (sc.length : Int) ≤ 4 := by have := he'.out; omega
 clear hd hf hv hS hc9 f6 f7 f8 hwb f3 f4 f5 hvs hlb' hlb hrg hE hW f2
 obtain ⟨Ag, cg, Am, cm, Af, cf, Al, cl, Ai, ci⟩ := v
 dsimp only at HD H9 HC ⊢
 unfold drCells
 dsimp only
 go_enter Tryz.func33, Tryz.ntmps33
 go_wp2_with fail
 obtain ⟨W, hW⟩ : ∃ W, W = (w.alloc (.cells #[.bool d.sh, .slice Ag d.gr.length cg, .slice Am d.mid.length cm, .slice Af d.fil.length cf, .slice Al d.lis.length cl, .slice Ai d.lim.length ci] 26)).alloc (.cells #[.slice none 0 0, .slice none 0 0] 31) := ⟨_, rfl⟩
 obtain ⟨hb, hB, hR, -⟩ := two_allocs (w := w) hW
 rw [← hW]
 clear hW
 refine (HC.out _ hb).mono ?_; rintro e w1 ⟨A, p, rfl, hCw, hbn⟩; replace hb := bnx hb hbn
 have hR1 := (hbn.block _ (blk_lt hR)).trans hR
 have hB1 := (hbn.block _ (blk_lt hB)).trans hB
 have k0 : w1.cell? ⟨w.heap.size, 0, none⟩ = some (.bool d.sh) := by rw [cell_blk hB1]; rfl
 have k1 : w1.cell? ⟨w.heap.size, 1, none⟩ = some (.slice Ag d.gr.length cg) := by rw [cell_blk hB1]; rfl
 have k2 : w1.cell? ⟨w.heap.size, 2, none⟩ = some (.slice Am d.mid.length cm) := by rw [cell_blk hB1]; rfl
 have k3 : w1.cell? ⟨w.heap.size, 3, none⟩ = some (.slice Af d.fil.length cf) := by rw [cell_blk hB1]; rfl
 have k4 : w1.cell? ⟨w.heap.size, 4, none⟩ = some (.slice Al d.lis.length cl) := by rw [cell_blk hB1]; rfl
 have hz := blk_lt hB1
 replace hCw := Aside0.mk hCw
 replace hb := Aside0.mk hb
 replace hR1 := Aside0.mk hR1
 have hMC := HD.out.mid
 dsimp only at hMC
 have HR := Aside0.mk (Kd.C_below hMC (hb.out.trans (((Below.refl w1.heap.size w1).alloc (Nat.le_refl _) (.cells #[] 4)).mono hb.out.size)))
 have HO := Aside0.mk (R_lit0 (Value.bool) (fun _ => rfl) w1 4)
 have HB := Aside0.mk ((Below.refl w1.heap.size w1).alloc (Nat.le_refl _) (.cells #[] 4))
 have hlen : Aside0 ((([] : List Bool).length + d.mid.length) * 1 ≤ 140737488355328) := ⟨by have := f2'.out; simp; omega⟩
 clear hbn hB hR hB1 hMC
 go_wp2_with (first | (at_builtin; refine Kd.R_append_rows Kd.bool (Rr := Kd.bool.K (w1.alloc (.cells #[] 4))) (w0 := w1) w1.heap.size rfl (.tmp 25) (.tmp 27) 23 4 (.bool false) 1 rfl Tryz.underlying23 info_bool rfl (by decide) (by decide) (.slice (some ⟨w1.heap.size, 0, none⟩) 0 0) [] d.mid Am d.mid.length cm (fun _ => True) (fun _ => False) rfl rfl HO.out HR.out (fun _ _ h => h) (fun _ h => h.elim) (fun _ _ => trivial) HB.out HB.out.size hlen.out ?_; intro v1 w3 RM hal hgA hatA; clear hgA hatA; have hsl := Kd.R_slice RM; obtain ⟨M, cm2, rfl⟩ := hsl; have k0 := cnx k0 hal; have k1 := cnx k1 hal; have k2 := cnx k2 hal; have k3 := cnx k3 hal; have k4 := cnx k4 hal; have hz3 := World.block_lt_of_cell? w3 _ k0; dsimp only at hz3; replace RM := Aside0.mk RM; replace hal := Aside0.mk hal))
 rw [List.nil_append] at RM
 obtain ⟨W0, hW0⟩ : ∃ W0, W0 = w3.alloc (.cells #[.slice none 0 0, .slice M d.mid.length cm2] 31) := ⟨_, rfl⟩
 have hal2 : Below w3.heap.size w3 W0 := by rw [hW0]; exact (Below.refl _ _).alloc (Nat.le_refl _) _
 have hG0 : W0.heap[w3.heap.size]? = some (.cells #[.slice none 0 0, .slice M d.mid.length cm2] 31 (0, 0)) := by rw [hW0]; exact heap_alloc_new _ _
 obtain ⟨g, hg⟩ : ∃ g, g = w3.heap.size := ⟨_, rfl⟩
 rw [← hW0]
 clear hW0
 have hw1 := hal.out.size
 have hgw : w1.heap.size ≤ g := by rw [hg]; exact hw1
 have hg0 : g < W0.heap.size := by rw [hg]; exact blk_lt hG0
 have hz' : w.heap.size < g := by rw [hg]; exact hz3
 have hb3 := Aside0.mk (bnx hb.out (bnx hal.out hal2))
 have hzR := blk_lt hR1.out
 have hw1b := Aside0.mk (show w.heap.size ≤ w1.heap.size by omega)
 have hz1 : w.heap.size + 1 < g := by omega
 have hcellR := Aside0.mk (((bnx hal.out hal2).block _ (blk_lt hR1.out)).trans hR1.out)
 have RM2 := Aside0.mk (Kd.R_below (Kd.R_mono (Kd.R_bound RM.out) (ok' := fun b => w.heap.size + 1 < b ∧ b ≠ g) (fun b hb => ⟨by have := hb.2.1; omega, by have := hb.2.2.1; omega⟩)) hal2)
 have H3 : Aside0 (∀ wr, Kp g none W0 wr → (Kd.int .i64).C wr A L.length L) := ⟨fun wr h => Kd.C_below (Kd.C_below hCw.out hal.out) (hal2.trans (by rw [← hg]; exact h.below (B := g) (Nat.le_refl _) (fun k h => by cases h) (Nat.le_of_lt hg0)))⟩
 replace k0 := cnx k0 hal2; replace k1 := cnx k1 hal2; replace k2 := cnx k2 hal2; replace k3 := cnx k3 hal2; replace k4 := cnx k4 hal2
 rw [← hg] at hG0 ⊢
 have K := Aside0.mk (And.intro k0 (And.intro k1 (And.intro k3 k4)))
 have hInv0 : Aside0 (MkI d sc W0 g M cm2 0 W0) := ⟨_, hG0, Kd.R_nil _ _ _ _ _, Kp.refl _ _ _⟩
 replace hz' := Aside0.mk hz'
 replace hz1 := Aside0.mk hz1
 replace hg0 := Aside0.mk hg0
 clear hal hal2 hG0 hg hgw hz hz3 k0 k1 k2 k3 k4 RM hR1 HR HO HB hlen hw1 hzR hCw hb HC
 go_loopw [33] (fun i wr => ∃ k : Nat, i = .int .i64 k ∧ k ≤ d.lis.length ∧ Aside0 (MkI d sc W0 g M cm2 k wr)) (fun i _ => d.lis.length - (intOf i).toNat)
 case atStart => exact ⟨0, rfl, by omega, hInv0⟩
 case round =>
  obtain ⟨k, rfl, hk, hI⟩ := hrel
  by_cases hlt : k < d.lis.length
  ·obtain ⟨wo, rfl⟩ : ∃ wo : World, wo = wr := ⟨_, rfl⟩
   obtain ⟨vC, hG, HR, hKp⟩ := hI.out
   have hbA := hKp.below (B := w.heap.size) (by have := hz'.out; omega) (fun k h => by cases h) (by have := hb3.out.size; omega)
   have hbw := hb3.out.trans hbA
   have gl := HD.out.lis
   have gf := HD.out.fil
   have h9 := H9.out
   dsimp only at gl gf h9
   obtain ⟨adL, BL, cL, rfl, mL, lL, l9, CL⟩ := KL_at9 gl h9 hbw hlt
   obtain ⟨adS, BS, cS, rfl, mS, lSc, CS⟩ := KL_at HS.out hbw (k := k) (by rw [he'.out]; exact hlt)
   obtain ⟨adF, BF, cF, rfl, mF, -, CF⟩ := KL_at gf hbw (k := k) (by rw [hvL.out.2]; exact hlt)
   have CG := (HD.out.below hbw).gr
   dsimp only at CG
   have k0 := hKp.cell K.out.1 (by have := hz'.out; simp only; omega) (by simp)
   have k1 := hKp.cell K.out.2.1 (by have := hz'.out; simp only; omega) (by simp)
   have k3 := hKp.cell K.out.2.2.1 (by have := hz'.out; simp only; omega) (by simp)
   have k4 := hKp.cell K.out.2.2.2 (by have := hz'.out; simp only; omega) (by simp)
   have hkI : (k : Int) < (d.lis.length : Int) := by omega
   have hkI2 : (k : Int) < (sc.length : Int) := by have := he'.out; omega
   have hkI3 : (k : Int) < (d.fil.length : Int) := by have := hvL.out.2; omega
   have hmo := Aside0.mk (show Tryz.prog.follows .mixedOrders = true by kernel_rfl)
   have lG0 := f1
   have lS := ha.out k (by have := he'.out; omega)
   have lF := f6'.out k
   have hErrk := hErr.out k hlt
   obtain ⟨x, hx⟩ : ∃ x, x = rdL d.lis k := ⟨_, rfl⟩
   obtain ⟨y, hy⟩ : ∃ y, y = rdL sc k := ⟨_, rfl⟩
   obtain ⟨z, hzz⟩ : ∃ z, z = rdL d.fil k := ⟨_, rfl⟩
   have hErx := hErrk x hx y hy
   rw [← hx] at mL lL CL
   rw [← hy] at mS CS lS lSc
   rw [← hzz] at mF CF lF
   have hL128 : 0 < L.length := by
    have h2 := (isW_iff.1 hWL.out).2.1
    cases hLe : L with
    | nil => rw [hLe] at h2; simp at h2
    | cons a t => simp
   have HQ := Aside0.mk (rQuantize_yes BL A BS cL p cS x L y wo CL (H3.out wo hKp) CS lL l9 hErx)
   have hq128 := quantL_len hErx
   replace hx := Aside0.mk hx
   replace hy := Aside0.mk hy
   replace hzz := Aside0.mk hzz
   have hltk := Aside0.mk hlt
   have hI2 := Aside0.mk (And.intro hG (And.intro HR hKp))
   replace hbw := Aside0.mk hbw
   replace CF := Aside0.mk CF
   replace CG := Aside0.mk CG
   replace CS := Aside0.mk CS
   replace lS := Aside0.mk lS
   replace hErx := Aside0.mk hErx
   clear hI hG HR hKp gl gf h9 hlt hbA lL l9 CL hErrk lSc
   go_wp2_with fail
   refine HQ.out.mono ?_; rintro e w4 ⟨v4, rfl, R4, hb4⟩
   have R4' : (Kd.int .i64).R 3 w4 wo.heap.size (fun _ => True) v4 (quantL x L y) := R4
   obtain ⟨Q, hQe⟩ : ∃ Q, Q = quantL x L y := ⟨_, rfl⟩
   rw [← hQe] at R4' hq128
   clear R4 HQ mL
   obtain ⟨gq, cq, hv4⟩ := R_some R4' (by rw [hq128]; decide)
   subst hv4
   have hR4r := Kd.R_reads' R4'
   rw [hq128] at R4' ⊢
   have CQ : (Kd.int .i64).C w4 (some ⟨gq, 0, none⟩) 128 Q := by
    have h := hR4r.2.2
    rw [hq128] at h
    exact h
   have hcq9 : 128 ≤ cq ∧ cq ≤ 9223372036854775807 := ⟨by have := hR4r.2.1; omega, Bts.R_cap R4'⟩
   have HU := Aside0.mk (rUsed_calls A p L ⟨gq, 0, none⟩ cq Q w4 (Kd.C_below (H3.out wo hI2.out.2.2) hb4) hWL.out (by rw [hq128]; exact CQ) hq128 hcq9.1 hcq9.2)
   replace k0 := cnx k0 hb4; replace k1 := cnx k1 hb4; replace k3 := cnx k3 hb4; replace k4 := cnx k4 hb4; replace mS := cnx mS hb4; replace mF := cnx mF hb4
   replace hQe := Aside0.mk hQe
   replace hq128 := Aside0.mk hq128
   replace R4' := Aside0.mk R4'
   replace hb4 := Aside0.mk hb4
   clear CQ hR4r hcq9
   go_wp2_with fail
   refine HU.out.mono ?_; rintro e wu ⟨vU, rfl, RU, hb5⟩
   have hul := usedL_len L Q
   obtain ⟨u, hue⟩ : ∃ u, u = usedL L Q := ⟨_, rfl⟩
   rw [← hue] at RU hul
   obtain ⟨gu, cu, hvu⟩ := R_some RU (by rw [hul]; exact hL128)
   subst hvu
   rw [hul] at RU ⊢
   replace k0 := cnx k0 hb5; replace k1 := cnx k1 hb5; replace k3 := cnx k3 hb5; replace k4 := cnx k4 hb5; replace mS := cnx mS hb5; replace mF := cnx mF hb5
   replace hue := Aside0.mk hue
   replace hul := Aside0.mk hul
   have R4u := Aside0.mk (Kd.R_below R4'.out hb5)
   have hbu := Aside0.mk (bnx hb4.out hb5)
   replace RU := Aside0.mk RU
   clear HU hb4 hb5 R4' hL128
   have hS : Aside0 (∀ w', Below wu.heap.size wu w' → w'.cell? ⟨w.heap.size, 0, none⟩ = some (.bool d.sh) ∧ w'.cell? ⟨w.heap.size, 1, none⟩ = some (.slice Ag d.gr.length cg) ∧ w'.cell? ⟨w.heap.size, 3, none⟩ = some (.slice (some adF) d.fil.length cf) ∧ w'.cell? (adF.add k) = some (.slice BF z.length cF)) := ⟨fun w' h => ⟨cnx k0 h, cnx k1 h, cnx k3 h, cnx mF h⟩⟩
   have HGr : Aside0 (∀ w', Below wu.heap.size wu w' → (Kd.int .i64).C w' Ag d.gr.length d.gr) := ⟨fun w' h => Kd.C_below CG.out (bnx hbu.out h)⟩
   have HZ : Aside0 (∀ w', Below wu.heap.size wu w' → (Kd.int .i64).C w' BF z.length z) := ⟨fun w' h => Kd.C_below CF.out (bnx hbu.out h)⟩
   have lG : Aside0 ((([] : List Int).length + d.gr.length) * 8 ≤ 140737488355328) := ⟨by simp; omega⟩
   have lZ : Aside0 ((([] : List Int).length + z.length) * 8 ≤ 140737488355328) := ⟨by simp; omega⟩
   clear CG CF lG0 lF
   go_upto_region 1 with fail
   go_cut [14] from 54 to 69 (fun u wx => ∃ s : Value × Value × Nat, u = .pointer (some ⟨s.2.2, 0, none⟩) ∧ Aside0 (Rws wu wx [rI 3 s.1 d.gr, rI 3 s.2.1 z] [⟨s.2.2, #[.bool d.sh, s.1, .slice none 0 0, .slice (some ⟨gq, 0, none⟩) 128 cq, s.2.1], 46⟩]))
   case first =>
    refine wp_region_last_drew (S := fun w' => w'.cell? ⟨w.heap.size, 0, none⟩ = some (.bool d.sh) ∧ w'.cell? ⟨w.heap.size, 1, none⟩ = some (.slice Ag d.gr.length cg) ∧ w'.cell? ⟨w.heap.size, 3, none⟩ = some (.slice (some adF) d.fil.length cf) ∧ w'.cell? (adF.add k) = some (.slice BF z.length cF)) (ds := []) hmo.out (hS.out _ (Below.refl _ _).drew) (fun hHeld => ?_)
    (refine Tk.tl 0 (.pointer (some ⟨w.heap.size, 0, none⟩)) hHeld ?_)
    (refine Tk.tl 1 (.bool d.sh) hHeld ?_)
    (refine Tk.tl 3 (.pointer (some ⟨w.heap.size, 1, none⟩)) hHeld ?_)
    (refine Tk.tl 4 (.slice Ag d.gr.length cg) hHeld ?_)
    (refine Tk.tl 6 (.slice (some ⟨gq, 0, none⟩) 128 cq) hHeld ?_)
    (refine Tk.tl 8 (.pointer (some ⟨w.heap.size, 3, none⟩)) hHeld ?_)
    (refine Tk.tl 9 (.slice (some adF) d.fil.length cf) hHeld ?_)
    (refine Tk.tl 10 (.int .i64 k) hHeld ?_)
    (refine Tk.tl 11 (.pointer (some (adF.add k))) hHeld ?_)
    (refine Tk.tl 12 (.slice BF z.length cF) hHeld ?_)
    have hRw : Aside0 (Rws wu wu.drew [] []) := ⟨(Rws.start wu).drew⟩
    refine join_ (σ := Nat × Value × Nat × Value × Nat) 1 #[true, true, true, true, true, true, true, true, true, true, true, true, true, true, true, true, false] (fun s => [(56, .slice (some ⟨s.1, 0, none⟩) 0 0), (59, s.2.1), (61, .slice (some ⟨s.2.2.1, 0, none⟩) 0 0), (67, s.2.2.2.1), (68, .agg #[.bool d.sh, s.2.1, .slice none 0 0, .slice (some ⟨gq, 0, none⟩) 128 cq, s.2.2.2.1]), (14, .pointer (some ⟨s.2.2.2.2, 0, none⟩))]) (fun s w' => Rws wu w' [rI 3 s.2.1 d.gr, rI 3 s.2.2.2.1 z] [⟨s.2.2.2.2, #[.bool false, .slice none 0 0, .slice none 0 0, .slice none 0 0, .slice none 0 0], 46⟩]) ?_ ?_
    ·intro s xj hRw
     obtain ⟨n2, v5, n7, v13, n15⟩ := s
     replace hRw := Aside0.mk hRw
     simp only [putAll, Act.put, Tk.z1, Tk.z2, Tk.z3, Tk.z4, Tk.z5, Tk.z6] at hRw ⊢
     have hr1 := Kd.R_slice (R_of_row (hRw.out.row (rI 3 v5 d.gr) (by simp)))
     have hr2 := Kd.R_slice (R_of_row (hRw.out.row (rI 3 v13 z) (by simp)))
     obtain ⟨A1, p1, rfl⟩ := hr1
     obtain ⟨A3, p3, rfl⟩ := hr2
     have hG := (hRw.out.blk ⟨n15, #[.bool false, .slice none 0 0, .slice none 0 0, .slice none 0 0, .slice none 0 0], 46⟩ (by simp)).1
     have z0 : xj.cell? ⟨n15, 0, none⟩ = some (.bool false) := by rw [blk_cell hG]; rfl
     have z1 : xj.cell? ⟨n15, 1, none⟩ = some (.slice none 0 0) := by rw [blk_cell hG]; rfl
     have z2 : xj.cell? ⟨n15, 2, none⟩ = some (.slice none 0 0) := by rw [blk_cell hG]; rfl
     have z3 : xj.cell? ⟨n15, 3, none⟩ = some (.slice none 0 0) := by rw [blk_cell hG]; rfl
     have z4 : xj.cell? ⟨n15, 4, none⟩ = some (.slice none 0 0) := by rw [blk_cell hG]; rfl
     have y0 := frozen_blk hG 0
     have y1 := frozen_blk hG 1
     have y2 := frozen_blk hG 2
     have y3 := frozen_blk hG 3
     have y4 := frozen_blk hG 4
     have hR5 := hRw.out
     have hRx := Rws.stored5 hRw.out (.bool d.sh) (.slice A1 d.gr.length p1) (.slice none 0 0) (.slice (some ⟨gq, 0, none⟩) 128 cq) (.slice A3 z.length p3)
     clear hR5 hG
     replace hRx := Aside0.mk hRx
     (refine wpAnyLast_ready (rs := [16]) (by kernel_rfl) (by simp) ?_; refine AllReadyL.cons rfl (by decide) (fun K hK => ?_) AllReadyL.nil)
     go_simp
     go_wp2_with fail
     refine hK.out _ _ (hS.out _ hRx.out.below) (fun hHeld => ?_)
     clear hK K
     try simp only [Act.put, Tk.z1, Tk.z2, Tk.z3, Tk.z4, Tk.z5, Tk.z6]
     refine wpAnyLast_done (by kernel_rfl) ?_ _
     go_wp2_with fail
     go_meet
     exact ⟨(_, _, n15), rfl, hRx⟩
    ·intro hJ3
     replace hJ3 := Aside0.mk hJ3
     refine join_ (σ := Nat × Value × Nat × Nat) 3 #[true, true, true, true, true, true, true, true, true, true, true, true, true, false, false, true, false] (fun s => [(56, .slice (some ⟨s.1, 0, none⟩) 0 0), (59, s.2.1), (61, .slice (some ⟨s.2.2.1, 0, none⟩) 0 0), (14, .pointer (some ⟨s.2.2.2, 0, none⟩))]) (fun s w' => Rws wu w' [rI 3 s.2.1 d.gr, rI 3 (.slice (some ⟨s.2.2.1, 0, none⟩) 0 0) []] [⟨s.2.2.2, #[.bool false, .slice none 0 0, .slice none 0 0, .slice none 0 0, .slice none 0 0], 46⟩]) ?_ ?_
     ·intro s xj hRw
      obtain ⟨n2, v5, n7, n15⟩ := s
      replace hRw := Aside0.mk hRw
      simp only [putAll, Act.put, Tk.z1, Tk.z2, Tk.z3, Tk.z4, Tk.z5, Tk.z6] at hRw ⊢
      (refine wpAnyLast_ready (rs := [13]) (by kernel_rfl) (by simp) ?_; refine AllReadyL.cons rfl (by decide) (fun K hK => ?_) AllReadyL.nil)
      have hRr := hRw.out.row (rI 3 (.slice (some ⟨n7, 0, none⟩) 0 0) []) (by simp [encs])
      refine Kd.R_append_rows_step (Kd.int .i64) (Rr := (Kd.int .i64).K xj) (w0 := wu) wu.heap.size rfl (.tmp 61) (.tmp 66) 22 3 (.int .i64 0) 8 rfl Tryz.underlying22 info_int rfl (by decide) (by decide) (.slice (some ⟨n7, 0, none⟩) 0 0) [] z BF z.length cF (fun _ => True) (fun _ => False) rfl rfl (Kd.R_of_own hRr (fun _ _ => trivial)) (HZ.out _ hRw.out.below) (fun _ _ h => h) (fun _ h => h.elim) (fun _ _ => trivial) hRw.out.below hRw.out.below.size lZ.out ?_
      intro v13 x13 Rn Bn hgn hatn
      have hRx := Rws.app (L1 := [rI 3 v5 d.gr]) (L2 := []) (r := rI 3 (.slice (some ⟨n7, 0, none⟩) 0 0) []) (r1 := rI 3 v13 z) hRw.out (Kd.own_of_R Rn) Bn hgn hatn
      simp only [List.nil_append, List.cons_append] at hRx
      clear hRr Rn Bn hgn hatn
      refine hK.out _ _ (hS.out _ hRx.below) (fun hHeld => ?_)
      clear hK K
      try simp only [Act.put, Tk.z1, Tk.z2, Tk.z3, Tk.z4, Tk.z5, Tk.z6]
      replace hRw := Aside0.mk hRx
      clear hRx
      (refine wpAnyLast_ready (rs := [14]) (by kernel_rfl) (by simp) ?_; refine AllReadyL.cons rfl (by decide) (fun K hK => ?_) AllReadyL.nil)
      obtain ⟨A5, p5, h5e⟩ := Kd.R_slice (R_of_row (hRw.out.row (rI 3 v5 d.gr) (by simp)))
      subst h5e
      obtain ⟨A13, p13, h13e⟩ := Kd.R_slice (R_of_row (hRw.out.row (rI 3 v13 z) (by simp)))
      subst h13e
      refine value_ (w1 := x13) (v := .agg #[.bool d.sh, (.slice A5 d.gr.length p5), .slice none 0 0, .slice (some ⟨gq, 0, none⟩) 128 cq, (.slice A13 z.length p13)]) (by kernel_rfl) rfl (by kernel_rfl) ?_
      refine hK.out _ _ (hS.out _ hRw.out.below) (fun hHeld => ?_)
      clear hK K
      try simp only [Act.put, Tk.z1, Tk.z2, Tk.z3, Tk.z4, Tk.z5, Tk.z6]
      exact leaf_ (by kernel_rfl) (by kernel_rfl) (hJ3.out (n2, (.slice A5 d.gr.length p5), n7, (.slice A13 z.length p13), n15) _ hRw.out)
     ·intro hJ2
      replace hJ2 := Aside0.mk hJ2
      refine join_ (σ := Nat × Value × Nat) 4 #[true, true, true, true, true, true, true, true, true, true, true, true, true, false, false, false, false] (fun s => [(56, .slice (some ⟨s.1, 0, none⟩) 0 0), (59, s.2.1), (61, .slice (some ⟨s.2.2, 0, none⟩) 0 0)]) (fun s w' => Rws wu w' [rI 3 s.2.1 d.gr, rI 3 (.slice (some ⟨s.2.2, 0, none⟩) 0 0) []] []) ?_ ?_
      ·intro s xj hRw
       obtain ⟨n2, v5, n7⟩ := s
       replace hRw := Aside0.mk hRw
       simp only [putAll, Act.put, Tk.z1, Tk.z2, Tk.z3, Tk.z4, Tk.z5, Tk.z6] at hRw ⊢
       refine wpAnyLast_ready (rs := [13, 15]) (by kernel_rfl) (by simp) ?_; refine AllReadyL.cons rfl (by decide) (fun K hK => ?_) (AllReadyL.cons rfl (by decide) (fun K hK => ?_) (AllReadyL.nil))
       ·have hRr := hRw.out.row (rI 3 (.slice (some ⟨n7, 0, none⟩) 0 0) []) (by simp [encs])
        refine Kd.R_append_rows_step (Kd.int .i64) (Rr := (Kd.int .i64).K xj) (w0 := wu) wu.heap.size rfl (.tmp 61) (.tmp 66) 22 3 (.int .i64 0) 8 rfl Tryz.underlying22 info_int rfl (by decide) (by decide) (.slice (some ⟨n7, 0, none⟩) 0 0) [] z BF z.length cF (fun _ => True) (fun _ => False) rfl rfl (Kd.R_of_own hRr (fun _ _ => trivial)) (HZ.out _ hRw.out.below) (fun _ _ h => h) (fun _ h => h.elim) (fun _ _ => trivial) hRw.out.below hRw.out.below.size lZ.out ?_
        intro v13 x13 Rn Bn hgn hatn
        have hRx := Rws.app (L1 := [rI 3 v5 d.gr]) (L2 := []) (r := rI 3 (.slice (some ⟨n7, 0, none⟩) 0 0) []) (r1 := rI 3 v13 z) hRw.out (Kd.own_of_R Rn) Bn hgn hatn
        simp only [List.nil_append, List.cons_append] at hRx
        clear hRr Rn Bn hgn hatn
        refine hK.out _ _ (hS.out _ hRx.below) (fun hHeld => ?_)
        clear hK K
        try simp only [Act.put, Tk.z1, Tk.z2, Tk.z3, Tk.z4, Tk.z5, Tk.z6]
        replace hRw := Aside0.mk hRx
        clear hRx
        refine wpAnyLast_ready (rs := [14, 15]) (by kernel_rfl) (by simp) ?_; refine AllReadyL.cons rfl (by decide) (fun K hK => ?_) (AllReadyL.cons rfl (by decide) (fun K hK => ?_) (AllReadyL.nil))
        ·obtain ⟨A5, p5, h5e⟩ := Kd.R_slice (R_of_row (hRw.out.row (rI 3 v5 d.gr) (by simp)))
         subst h5e
         obtain ⟨A13, p13, h13e⟩ := Kd.R_slice (R_of_row (hRw.out.row (rI 3 v13 z) (by simp)))
         subst h13e
         refine value_ (w1 := x13) (v := .agg #[.bool d.sh, (.slice A5 d.gr.length p5), .slice none 0 0, .slice (some ⟨gq, 0, none⟩) 128 cq, (.slice A13 z.length p13)]) (by kernel_rfl) rfl (by kernel_rfl) ?_
         refine hK.out _ _ (hS.out _ hRw.out.below) (fun hHeld => ?_)
         clear hK K
         try simp only [Act.put, Tk.z1, Tk.z2, Tk.z3, Tk.z4, Tk.z5, Tk.z6]
         (refine wpAnyLast_ready (rs := [15]) (by kernel_rfl) (by simp) ?_; refine AllReadyL.cons rfl (by decide) (fun K hK => ?_) AllReadyL.nil)
         refine value_ (w1 := x13.alloc (.cells #[.bool false, .slice none 0 0, .slice none 0 0, .slice none 0 0, .slice none 0 0] 46)) (v := .pointer (some ⟨x13.heap.size, 0, none⟩)) (by kernel_rfl) rfl (by kernel_rfl) ?_
         have hRx := hRw.out.alloc #[.bool false, .slice none 0 0, .slice none 0 0, .slice none 0 0, .slice none 0 0] 46
         refine hK.out _ _ (hS.out _ hRx.below) (fun hHeld => ?_)
         clear hK K
         try simp only [Act.put, Tk.z1, Tk.z2, Tk.z3, Tk.z4, Tk.z5, Tk.z6]
         obtain ⟨x15, hxN⟩ : ∃ x, x = x13.alloc (.cells #[.bool false, .slice none 0 0, .slice none 0 0, .slice none 0 0, .slice none 0 0] 46) := ⟨_, rfl⟩
         obtain ⟨n15, hnN⟩ : ∃ n, n = x13.heap.size := ⟨_, rfl⟩
         rw [← hxN] at hRx ⊢
         rw [← hnN] at hRx ⊢
         clear hxN hnN
         simp only [List.nil_append, List.cons_append] at hRx
         replace hRw := Aside0.mk hRx
         clear hRx
         exact leaf_ (by kernel_rfl) (by kernel_rfl) (hJ3.out (n2, (.slice A5 d.gr.length p5), n7, (.slice A13 z.length p13), n15) _ hRw.out)
        ·refine value_ (w1 := x13.alloc (.cells #[.bool false, .slice none 0 0, .slice none 0 0, .slice none 0 0, .slice none 0 0] 46)) (v := .pointer (some ⟨x13.heap.size, 0, none⟩)) (by kernel_rfl) rfl (by kernel_rfl) ?_
         have hRx := hRw.out.alloc #[.bool false, .slice none 0 0, .slice none 0 0, .slice none 0 0, .slice none 0 0] 46
         refine hK.out _ _ (hS.out _ hRx.below) (fun hHeld => ?_)
         clear hK K
         try simp only [Act.put, Tk.z1, Tk.z2, Tk.z3, Tk.z4, Tk.z5, Tk.z6]
         obtain ⟨x15, hxN⟩ : ∃ x, x = x13.alloc (.cells #[.bool false, .slice none 0 0, .slice none 0 0, .slice none 0 0, .slice none 0 0] 46) := ⟨_, rfl⟩
         obtain ⟨n15, hnN⟩ : ∃ n, n = x13.heap.size := ⟨_, rfl⟩
         rw [← hxN] at hRx ⊢
         rw [← hnN] at hRx ⊢
         clear hxN hnN
         simp only [List.nil_append, List.cons_append] at hRx
         replace hRw := Aside0.mk hRx
         clear hRx
         (refine wpAnyLast_ready (rs := [14]) (by kernel_rfl) (by simp) ?_; refine AllReadyL.cons rfl (by decide) (fun K hK => ?_) AllReadyL.nil)
         obtain ⟨A5, p5, h5e⟩ := Kd.R_slice (R_of_row (hRw.out.row (rI 3 v5 d.gr) (by simp)))
         subst h5e
         obtain ⟨A13, p13, h13e⟩ := Kd.R_slice (R_of_row (hRw.out.row (rI 3 v13 z) (by simp)))
         subst h13e
         refine value_ (w1 := x15) (v := .agg #[.bool d.sh, (.slice A5 d.gr.length p5), .slice none 0 0, .slice (some ⟨gq, 0, none⟩) 128 cq, (.slice A13 z.length p13)]) (by kernel_rfl) rfl (by kernel_rfl) ?_
         refine hK.out _ _ (hS.out _ hRw.out.below) (fun hHeld => ?_)
         clear hK K
         try simp only [Act.put, Tk.z1, Tk.z2, Tk.z3, Tk.z4, Tk.z5, Tk.z6]
         exact leaf_ (by kernel_rfl) (by kernel_rfl) (hJ3.out (n2, (.slice A5 d.gr.length p5), n7, (.slice A13 z.length p13), n15) _ hRw.out)
       ·refine value_ (w1 := xj.alloc (.cells #[.bool false, .slice none 0 0, .slice none 0 0, .slice none 0 0, .slice none 0 0] 46)) (v := .pointer (some ⟨xj.heap.size, 0, none⟩)) (by kernel_rfl) rfl (by kernel_rfl) ?_
        have hRx := hRw.out.alloc #[.bool false, .slice none 0 0, .slice none 0 0, .slice none 0 0, .slice none 0 0] 46
        refine hK.out _ _ (hS.out _ hRx.below) (fun hHeld => ?_)
        clear hK K
        try simp only [Act.put, Tk.z1, Tk.z2, Tk.z3, Tk.z4, Tk.z5, Tk.z6]
        obtain ⟨x15, hxN⟩ : ∃ x, x = xj.alloc (.cells #[.bool false, .slice none 0 0, .slice none 0 0, .slice none 0 0, .slice none 0 0] 46) := ⟨_, rfl⟩
        obtain ⟨n15, hnN⟩ : ∃ n, n = xj.heap.size := ⟨_, rfl⟩
        rw [← hxN] at hRx ⊢
        rw [← hnN] at hRx ⊢
        clear hxN hnN
        simp only [List.nil_append, List.cons_append] at hRx
        replace hRw := Aside0.mk hRx
        clear hRx
        exact leaf_ (by kernel_rfl) (by kernel_rfl) (hJ2.out (n2, v5, n7, n15) _ hRw.out)
      ·intro hJ1
       replace hJ1 := Aside0.mk hJ1
       refine wpAnyLast_ready (rs := [2, 7, 15]) (by kernel_rfl) (by simp) ?_; refine AllReadyL.cons rfl (by decide) (fun K hK => ?_) (AllReadyL.cons rfl (by decide) (fun K hK => ?_) (AllReadyL.cons rfl (by decide) (fun K hK => ?_) (AllReadyL.nil)))
       ·refine value_ (w1 := wu.drew.alloc (.cells #[] 3)) (v := .slice (some ⟨wu.drew.heap.size, 0, none⟩) 0 0) (by kernel_rfl) rfl (by kernel_rfl) ?_
        have hRx := hRw.out.lit 3 1
        refine hK.out _ _ (hS.out _ hRx.below) (fun hHeld => ?_)
        clear hK K
        try simp only [Act.put, Tk.z1, Tk.z2, Tk.z3, Tk.z4, Tk.z5, Tk.z6]
        obtain ⟨x2, hxN⟩ : ∃ x, x = wu.drew.alloc (.cells #[] 3) := ⟨_, rfl⟩
        obtain ⟨n2, hnN⟩ : ∃ n, n = wu.drew.heap.size := ⟨_, rfl⟩
        rw [← hxN] at hRx ⊢
        rw [← hnN] at hRx ⊢
        clear hxN hnN
        simp only [List.nil_append, List.cons_append] at hRx
        replace hRw := Aside0.mk hRx
        clear hRx
        refine wpAnyLast_ready (rs := [5, 7, 15]) (by kernel_rfl) (by simp) ?_; refine AllReadyL.cons rfl (by decide) (fun K hK => ?_) (AllReadyL.cons rfl (by decide) (fun K hK => ?_) (AllReadyL.cons rfl (by decide) (fun K hK => ?_) (AllReadyL.nil)))
        ·have hRr := hRw.out.row (rI 3 (.slice (some ⟨n2, 0, none⟩) 0 0) []) (by simp [encs])
         refine Kd.R_append_rows_step (Kd.int .i64) (Rr := (Kd.int .i64).K x2) (w0 := wu) wu.heap.size rfl (.tmp 56) (.tmp 58) 22 3 (.int .i64 0) 8 rfl Tryz.underlying22 info_int rfl (by decide) (by decide) (.slice (some ⟨n2, 0, none⟩) 0 0) [] d.gr Ag d.gr.length cg (fun _ => True) (fun _ => False) rfl rfl (Kd.R_of_own hRr (fun _ _ => trivial)) (HGr.out _ hRw.out.below) (fun _ _ h => h) (fun _ h => h.elim) (fun _ _ => trivial) hRw.out.below hRw.out.below.size lG.out ?_
         intro v5 x5 Rn Bn hgn hatn
         have hRx := Rws.app (L1 := []) (L2 := []) (r := rI 3 (.slice (some ⟨n2, 0, none⟩) 0 0) []) (r1 := rI 3 v5 d.gr) hRw.out (Kd.own_of_R Rn) Bn hgn hatn
         simp only [List.nil_append, List.cons_append] at hRx
         clear hRr Rn Bn hgn hatn
         refine hK.out _ _ (hS.out _ hRx.below) (fun hHeld => ?_)
         clear hK K
         try simp only [Act.put, Tk.z1, Tk.z2, Tk.z3, Tk.z4, Tk.z5, Tk.z6]
         replace hRw := Aside0.mk hRx
         clear hRx
         refine wpAnyLast_ready (rs := [7, 15]) (by kernel_rfl) (by simp) ?_; refine AllReadyL.cons rfl (by decide) (fun K hK => ?_) (AllReadyL.cons rfl (by decide) (fun K hK => ?_) (AllReadyL.nil))
         ·refine value_ (w1 := x5.alloc (.cells #[] 3)) (v := .slice (some ⟨x5.heap.size, 0, none⟩) 0 0) (by kernel_rfl) rfl (by kernel_rfl) ?_
          have hRx := hRw.out.lit 3 1
          refine hK.out _ _ (hS.out _ hRx.below) (fun hHeld => ?_)
          clear hK K
          try simp only [Act.put, Tk.z1, Tk.z2, Tk.z3, Tk.z4, Tk.z5, Tk.z6]
          obtain ⟨x7, hxN⟩ : ∃ x, x = x5.alloc (.cells #[] 3) := ⟨_, rfl⟩
          obtain ⟨n7, hnN⟩ : ∃ n, n = x5.heap.size := ⟨_, rfl⟩
          rw [← hxN] at hRx ⊢
          rw [← hnN] at hRx ⊢
          clear hxN hnN
          simp only [List.nil_append, List.cons_append] at hRx
          replace hRw := Aside0.mk hRx
          clear hRx
          exact leaf_ (by kernel_rfl) (by kernel_rfl) (hJ1.out (n2, v5, n7) _ hRw.out)
         ·refine value_ (w1 := x5.alloc (.cells #[.bool false, .slice none 0 0, .slice none 0 0, .slice none 0 0, .slice none 0 0] 46)) (v := .pointer (some ⟨x5.heap.size, 0, none⟩)) (by kernel_rfl) rfl (by kernel_rfl) ?_
          have hRx := hRw.out.alloc #[.bool false, .slice none 0 0, .slice none 0 0, .slice none 0 0, .slice none 0 0] 46
          refine hK.out _ _ (hS.out _ hRx.below) (fun hHeld => ?_)
          clear hK K
          try simp only [Act.put, Tk.z1, Tk.z2, Tk.z3, Tk.z4, Tk.z5, Tk.z6]
          obtain ⟨x15, hxN⟩ : ∃ x, x = x5.alloc (.cells #[.bool false, .slice none 0 0, .slice none 0 0, .slice none 0 0, .slice none 0 0] 46) := ⟨_, rfl⟩
          obtain ⟨n15, hnN⟩ : ∃ n, n = x5.heap.size := ⟨_, rfl⟩
          rw [← hxN] at hRx ⊢
          rw [← hnN] at hRx ⊢
          clear hxN hnN
          simp only [List.nil_append, List.cons_append] at hRx
          replace hRw := Aside0.mk hRx
          clear hRx
          (refine wpAnyLast_ready (rs := [7]) (by kernel_rfl) (by simp) ?_; refine AllReadyL.cons rfl (by decide) (fun K hK => ?_) AllReadyL.nil)
          refine value_ (w1 := x15.alloc (.cells #[] 3)) (v := .slice (some ⟨x15.heap.size, 0, none⟩) 0 0) (by kernel_rfl) rfl (by kernel_rfl) ?_
          have hRx := hRw.out.lit 3 1
          refine hK.out _ _ (hS.out _ hRx.below) (fun hHeld => ?_)
          clear hK K
          try simp only [Act.put, Tk.z1, Tk.z2, Tk.z3, Tk.z4, Tk.z5, Tk.z6]
          obtain ⟨x7, hxN⟩ : ∃ x, x = x15.alloc (.cells #[] 3) := ⟨_, rfl⟩
          obtain ⟨n7, hnN⟩ : ∃ n, n = x15.heap.size := ⟨_, rfl⟩
          rw [← hxN] at hRx ⊢
          rw [← hnN] at hRx ⊢
          clear hxN hnN
          simp only [List.nil_append, List.cons_append] at hRx
          replace hRw := Aside0.mk hRx
          clear hRx
          exact leaf_ (by kernel_rfl) (by kernel_rfl) (hJ2.out (n2, v5, n7, n15) _ hRw.out)
        ·refine value_ (w1 := x2.alloc (.cells #[] 3)) (v := .slice (some ⟨x2.heap.size, 0, none⟩) 0 0) (by kernel_rfl) rfl (by kernel_rfl) ?_
         have hRx := hRw.out.lit 3 1
         refine hK.out _ _ (hS.out _ hRx.below) (fun hHeld => ?_)
         clear hK K
         try simp only [Act.put, Tk.z1, Tk.z2, Tk.z3, Tk.z4, Tk.z5, Tk.z6]
         obtain ⟨x7, hxN⟩ : ∃ x, x = x2.alloc (.cells #[] 3) := ⟨_, rfl⟩
         obtain ⟨n7, hnN⟩ : ∃ n, n = x2.heap.size := ⟨_, rfl⟩
         rw [← hxN] at hRx ⊢
         rw [← hnN] at hRx ⊢
         clear hxN hnN
         simp only [List.nil_append, List.cons_append] at hRx
         replace hRw := Aside0.mk hRx
         clear hRx
         refine wpAnyLast_ready (rs := [5, 15]) (by kernel_rfl) (by simp) ?_; refine AllReadyL.cons rfl (by decide) (fun K hK => ?_) (AllReadyL.cons rfl (by decide) (fun K hK => ?_) (AllReadyL.nil))
         ·have hRr := hRw.out.row (rI 3 (.slice (some ⟨n2, 0, none⟩) 0 0) []) (by simp [encs])
          refine Kd.R_append_rows_step (Kd.int .i64) (Rr := (Kd.int .i64).K x7) (w0 := wu) wu.heap.size rfl (.tmp 56) (.tmp 58) 22 3 (.int .i64 0) 8 rfl Tryz.underlying22 info_int rfl (by decide) (by decide) (.slice (some ⟨n2, 0, none⟩) 0 0) [] d.gr Ag d.gr.length cg (fun _ => True) (fun _ => False) rfl rfl (Kd.R_of_own hRr (fun _ _ => trivial)) (HGr.out _ hRw.out.below) (fun _ _ h => h) (fun _ h => h.elim) (fun _ _ => trivial) hRw.out.below hRw.out.below.size lG.out ?_
          intro v5 x5 Rn Bn hgn hatn
          have hRx := Rws.app (L1 := []) (L2 := [rI 3 (.slice (some ⟨n7, 0, none⟩) 0 0) []]) (r := rI 3 (.slice (some ⟨n2, 0, none⟩) 0 0) []) (r1 := rI 3 v5 d.gr) hRw.out (Kd.own_of_R Rn) Bn hgn hatn
          simp only [List.nil_append, List.cons_append] at hRx
          clear hRr Rn Bn hgn hatn
          refine hK.out _ _ (hS.out _ hRx.below) (fun hHeld => ?_)
          clear hK K
          try simp only [Act.put, Tk.z1, Tk.z2, Tk.z3, Tk.z4, Tk.z5, Tk.z6]
          replace hRw := Aside0.mk hRx
          clear hRx
          exact leaf_ (by kernel_rfl) (by kernel_rfl) (hJ1.out (n2, v5, n7) _ hRw.out)
         ·refine value_ (w1 := x7.alloc (.cells #[.bool false, .slice none 0 0, .slice none 0 0, .slice none 0 0, .slice none 0 0] 46)) (v := .pointer (some ⟨x7.heap.size, 0, none⟩)) (by kernel_rfl) rfl (by kernel_rfl) ?_
          have hRx := hRw.out.alloc #[.bool false, .slice none 0 0, .slice none 0 0, .slice none 0 0, .slice none 0 0] 46
          refine hK.out _ _ (hS.out _ hRx.below) (fun hHeld => ?_)
          clear hK K
          try simp only [Act.put, Tk.z1, Tk.z2, Tk.z3, Tk.z4, Tk.z5, Tk.z6]
          obtain ⟨x15, hxN⟩ : ∃ x, x = x7.alloc (.cells #[.bool false, .slice none 0 0, .slice none 0 0, .slice none 0 0, .slice none 0 0] 46) := ⟨_, rfl⟩
          obtain ⟨n15, hnN⟩ : ∃ n, n = x7.heap.size := ⟨_, rfl⟩
          rw [← hxN] at hRx ⊢
          rw [← hnN] at hRx ⊢
          clear hxN hnN
          simp only [List.nil_append, List.cons_append] at hRx
          replace hRw := Aside0.mk hRx
          clear hRx
          (refine wpAnyLast_ready (rs := [5]) (by kernel_rfl) (by simp) ?_; refine AllReadyL.cons rfl (by decide) (fun K hK => ?_) AllReadyL.nil)
          have hRr := hRw.out.row (rI 3 (.slice (some ⟨n2, 0, none⟩) 0 0) []) (by simp [encs])
          refine Kd.R_append_rows_step (Kd.int .i64) (Rr := (Kd.int .i64).K x15) (w0 := wu) wu.heap.size rfl (.tmp 56) (.tmp 58) 22 3 (.int .i64 0) 8 rfl Tryz.underlying22 info_int rfl (by decide) (by decide) (.slice (some ⟨n2, 0, none⟩) 0 0) [] d.gr Ag d.gr.length cg (fun _ => True) (fun _ => False) rfl rfl (Kd.R_of_own hRr (fun _ _ => trivial)) (HGr.out _ hRw.out.below) (fun _ _ h => h) (fun _ h => h.elim) (fun _ _ => trivial) hRw.out.below hRw.out.below.size lG.out ?_
          intro v5 x5 Rn Bn hgn hatn
          have hRx := Rws.app (L1 := []) (L2 := [rI 3 (.slice (some ⟨n7, 0, none⟩) 0 0) []]) (r := rI 3 (.slice (some ⟨n2, 0, none⟩) 0 0) []) (r1 := rI 3 v5 d.gr) hRw.out (Kd.own_of_R Rn) Bn hgn hatn
          simp only [List.nil_append, List.cons_append] at hRx
          clear hRr Rn Bn hgn hatn
          refine hK.out _ _ (hS.out _ hRx.below) (fun hHeld => ?_)
          clear hK K
          try simp only [Act.put, Tk.z1, Tk.z2, Tk.z3, Tk.z4, Tk.z5, Tk.z6]
          replace hRw := Aside0.mk hRx
          clear hRx
          exact leaf_ (by kernel_rfl) (by kernel_rfl) (hJ2.out (n2, v5, n7, n15) _ hRw.out)
        ·refine value_ (w1 := x2.alloc (.cells #[.bool false, .slice none 0 0, .slice none 0 0, .slice none 0 0, .slice none 0 0] 46)) (v := .pointer (some ⟨x2.heap.size, 0, none⟩)) (by kernel_rfl) rfl (by kernel_rfl) ?_
         have hRx := hRw.out.alloc #[.bool false, .slice none 0 0, .slice none 0 0, .slice none 0 0, .slice none 0 0] 46
         refine hK.out _ _ (hS.out _ hRx.below) (fun hHeld => ?_)
         clear hK K
         try simp only [Act.put, Tk.z1, Tk.z2, Tk.z3, Tk.z4, Tk.z5, Tk.z6]
         obtain ⟨x15, hxN⟩ : ∃ x, x = x2.alloc (.cells #[.bool false, .slice none 0 0, .slice none 0 0, .slice none 0 0, .slice none 0 0] 46) := ⟨_, rfl⟩
         obtain ⟨n15, hnN⟩ : ∃ n, n = x2.heap.size := ⟨_, rfl⟩
         rw [← hxN] at hRx ⊢
         rw [← hnN] at hRx ⊢
         clear hxN hnN
         simp only [List.nil_append, List.cons_append] at hRx
         replace hRw := Aside0.mk hRx
         clear hRx
         refine wpAnyLast_ready (rs := [5, 7]) (by kernel_rfl) (by simp) ?_; refine AllReadyL.cons rfl (by decide) (fun K hK => ?_) (AllReadyL.cons rfl (by decide) (fun K hK => ?_) (AllReadyL.nil))
         ·have hRr := hRw.out.row (rI 3 (.slice (some ⟨n2, 0, none⟩) 0 0) []) (by simp [encs])
          refine Kd.R_append_rows_step (Kd.int .i64) (Rr := (Kd.int .i64).K x15) (w0 := wu) wu.heap.size rfl (.tmp 56) (.tmp 58) 22 3 (.int .i64 0) 8 rfl Tryz.underlying22 info_int rfl (by decide) (by decide) (.slice (some ⟨n2, 0, none⟩) 0 0) [] d.gr Ag d.gr.length cg (fun _ => True) (fun _ => False) rfl rfl (Kd.R_of_own hRr (fun _ _ => trivial)) (HGr.out _ hRw.out.below) (fun _ _ h => h) (fun _ h => h.elim) (fun _ _ => trivial) hRw.out.below hRw.out.below.size lG.out ?_
          intro v5 x5 Rn Bn hgn hatn
          have hRx := Rws.app (L1 := []) (L2 := []) (r := rI 3 (.slice (some ⟨n2, 0, none⟩) 0 0) []) (r1 := rI 3 v5 d.gr) hRw.out (Kd.own_of_R Rn) Bn hgn hatn
          simp only [List.nil_append, List.cons_append] at hRx
          clear hRr Rn Bn hgn hatn
          refine hK.out _ _ (hS.out _ hRx.below) (fun hHeld => ?_)
          clear hK K
          try simp only [Act.put, Tk.z1, Tk.z2, Tk.z3, Tk.z4, Tk.z5, Tk.z6]
          replace hRw := Aside0.mk hRx
          clear hRx
          (refine wpAnyLast_ready (rs := [7]) (by kernel_rfl) (by simp) ?_; refine AllReadyL.cons rfl (by decide) (fun K hK => ?_) AllReadyL.nil)
          refine value_ (w1 := x5.alloc (.cells #[] 3)) (v := .slice (some ⟨x5.heap.size, 0, none⟩) 0 0) (by kernel_rfl) rfl (by kernel_rfl) ?_
          have hRx := hRw.out.lit 3 1
          refine hK.out _ _ (hS.out _ hRx.below) (fun hHeld => ?_)
          clear hK K
          try simp only [Act.put, Tk.z1, Tk.z2, Tk.z3, Tk.z4, Tk.z5, Tk.z6]
          obtain ⟨x7, hxN⟩ : ∃ x, x = x5.alloc (.cells #[] 3) := ⟨_, rfl⟩
          obtain ⟨n7, hnN⟩ : ∃ n, n = x5.heap.size := ⟨_, rfl⟩
          rw [← hxN] at hRx ⊢
          rw [← hnN] at hRx ⊢
          clear hxN hnN
          simp only [List.nil_append, List.cons_append] at hRx
          replace hRw := Aside0.mk hRx
          clear hRx
          exact leaf_ (by kernel_rfl) (by kernel_rfl) (hJ2.out (n2, v5, n7, n15) _ hRw.out)
         ·refine value_ (w1 := x15.alloc (.cells #[] 3)) (v := .slice (some ⟨x15.heap.size, 0, none⟩) 0 0) (by kernel_rfl) rfl (by kernel_rfl) ?_
          have hRx := hRw.out.lit 3 1
          refine hK.out _ _ (hS.out _ hRx.below) (fun hHeld => ?_)
          clear hK K
          try simp only [Act.put, Tk.z1, Tk.z2, Tk.z3, Tk.z4, Tk.z5, Tk.z6]
          obtain ⟨x7, hxN⟩ : ∃ x, x = x15.alloc (.cells #[] 3) := ⟨_, rfl⟩
          obtain ⟨n7, hnN⟩ : ∃ n, n = x15.heap.size := ⟨_, rfl⟩
          rw [← hxN] at hRx ⊢
          rw [← hnN] at hRx ⊢
          clear hxN hnN
          simp only [List.nil_append, List.cons_append] at hRx
          replace hRw := Aside0.mk hRx
          clear hRx
          (refine wpAnyLast_ready (rs := [5]) (by kernel_rfl) (by simp) ?_; refine AllReadyL.cons rfl (by decide) (fun K hK => ?_) AllReadyL.nil)
          have hRr := hRw.out.row (rI 3 (.slice (some ⟨n2, 0, none⟩) 0 0) []) (by simp [encs])
          refine Kd.R_append_rows_step (Kd.int .i64) (Rr := (Kd.int .i64).K x7) (w0 := wu) wu.heap.size rfl (.tmp 56) (.tmp 58) 22 3 (.int .i64 0) 8 rfl Tryz.underlying22 info_int rfl (by decide) (by decide) (.slice (some ⟨n2, 0, none⟩) 0 0) [] d.gr Ag d.gr.length cg (fun _ => True) (fun _ => False) rfl rfl (Kd.R_of_own hRr (fun _ _ => trivial)) (HGr.out _ hRw.out.below) (fun _ _ h => h) (fun _ h => h.elim) (fun _ _ => trivial) hRw.out.below hRw.out.below.size lG.out ?_
          intro v5 x5 Rn Bn hgn hatn
          have hRx := Rws.app (L1 := []) (L2 := [rI 3 (.slice (some ⟨n7, 0, none⟩) 0 0) []]) (r := rI 3 (.slice (some ⟨n2, 0, none⟩) 0 0) []) (r1 := rI 3 v5 d.gr) hRw.out (Kd.own_of_R Rn) Bn hgn hatn
          simp only [List.nil_append, List.cons_append] at hRx
          clear hRr Rn Bn hgn hatn
          refine hK.out _ _ (hS.out _ hRx.below) (fun hHeld => ?_)
          clear hK K
          try simp only [Act.put, Tk.z1, Tk.z2, Tk.z3, Tk.z4, Tk.z5, Tk.z6]
          replace hRw := Aside0.mk hRx
          clear hRx
          exact leaf_ (by kernel_rfl) (by kernel_rfl) (hJ2.out (n2, v5, n7, n15) _ hRw.out)
       ·refine value_ (w1 := wu.drew.alloc (.cells #[] 3)) (v := .slice (some ⟨wu.drew.heap.size, 0, none⟩) 0 0) (by kernel_rfl) rfl (by kernel_rfl) ?_
        have hRx := hRw.out.lit 3 1
        refine hK.out _ _ (hS.out _ hRx.below) (fun hHeld => ?_)
        clear hK K
        try simp only [Act.put, Tk.z1, Tk.z2, Tk.z3, Tk.z4, Tk.z5, Tk.z6]
        obtain ⟨x7, hxN⟩ : ∃ x, x = wu.drew.alloc (.cells #[] 3) := ⟨_, rfl⟩
        obtain ⟨n7, hnN⟩ : ∃ n, n = wu.drew.heap.size := ⟨_, rfl⟩
        rw [← hxN] at hRx ⊢
        rw [← hnN] at hRx ⊢
        clear hxN hnN
        simp only [List.nil_append, List.cons_append] at hRx
        replace hRw := Aside0.mk hRx
        clear hRx
        refine wpAnyLast_ready (rs := [2, 15]) (by kernel_rfl) (by simp) ?_; refine AllReadyL.cons rfl (by decide) (fun K hK => ?_) (AllReadyL.cons rfl (by decide) (fun K hK => ?_) (AllReadyL.nil))
        ·refine value_ (w1 := x7.alloc (.cells #[] 3)) (v := .slice (some ⟨x7.heap.size, 0, none⟩) 0 0) (by kernel_rfl) rfl (by kernel_rfl) ?_
         have hRx := hRw.out.lit 3 1
         refine hK.out _ _ (hS.out _ hRx.below) (fun hHeld => ?_)
         clear hK K
         try simp only [Act.put, Tk.z1, Tk.z2, Tk.z3, Tk.z4, Tk.z5, Tk.z6]
         obtain ⟨x2, hxN⟩ : ∃ x, x = x7.alloc (.cells #[] 3) := ⟨_, rfl⟩
         obtain ⟨n2, hnN⟩ : ∃ n, n = x7.heap.size := ⟨_, rfl⟩
         rw [← hxN] at hRx ⊢
         rw [← hnN] at hRx ⊢
         clear hxN hnN
         replace hRx := Rws.into (L1 := []) (L2 := [rI 3 (.slice (some ⟨n7, 0, none⟩) 0 0) []]) (r := rI 3 (.slice (some ⟨n2, 0, none⟩) 0 0) []) hRx
         simp only [List.nil_append, List.cons_append] at hRx
         replace hRw := Aside0.mk hRx
         clear hRx
         refine wpAnyLast_ready (rs := [5, 15]) (by kernel_rfl) (by simp) ?_; refine AllReadyL.cons rfl (by decide) (fun K hK => ?_) (AllReadyL.cons rfl (by decide) (fun K hK => ?_) (AllReadyL.nil))
         ·have hRr := hRw.out.row (rI 3 (.slice (some ⟨n2, 0, none⟩) 0 0) []) (by simp [encs])
          refine Kd.R_append_rows_step (Kd.int .i64) (Rr := (Kd.int .i64).K x2) (w0 := wu) wu.heap.size rfl (.tmp 56) (.tmp 58) 22 3 (.int .i64 0) 8 rfl Tryz.underlying22 info_int rfl (by decide) (by decide) (.slice (some ⟨n2, 0, none⟩) 0 0) [] d.gr Ag d.gr.length cg (fun _ => True) (fun _ => False) rfl rfl (Kd.R_of_own hRr (fun _ _ => trivial)) (HGr.out _ hRw.out.below) (fun _ _ h => h) (fun _ h => h.elim) (fun _ _ => trivial) hRw.out.below hRw.out.below.size lG.out ?_
          intro v5 x5 Rn Bn hgn hatn
          have hRx := Rws.app (L1 := []) (L2 := [rI 3 (.slice (some ⟨n7, 0, none⟩) 0 0) []]) (r := rI 3 (.slice (some ⟨n2, 0, none⟩) 0 0) []) (r1 := rI 3 v5 d.gr) hRw.out (Kd.own_of_R Rn) Bn hgn hatn
          simp only [List.nil_append, List.cons_append] at hRx
          clear hRr Rn Bn hgn hatn
          refine hK.out _ _ (hS.out _ hRx.below) (fun hHeld => ?_)
          clear hK K
          try simp only [Act.put, Tk.z1, Tk.z2, Tk.z3, Tk.z4, Tk.z5, Tk.z6]
          replace hRw := Aside0.mk hRx
          clear hRx
          exact leaf_ (by kernel_rfl) (by kernel_rfl) (hJ1.out (n2, v5, n7) _ hRw.out)
         ·refine value_ (w1 := x2.alloc (.cells #[.bool false, .slice none 0 0, .slice none 0 0, .slice none 0 0, .slice none 0 0] 46)) (v := .pointer (some ⟨x2.heap.size, 0, none⟩)) (by kernel_rfl) rfl (by kernel_rfl) ?_
          have hRx := hRw.out.alloc #[.bool false, .slice none 0 0, .slice none 0 0, .slice none 0 0, .slice none 0 0] 46
          refine hK.out _ _ (hS.out _ hRx.below) (fun hHeld => ?_)
          clear hK K
          try simp only [Act.put, Tk.z1, Tk.z2, Tk.z3, Tk.z4, Tk.z5, Tk.z6]
          obtain ⟨x15, hxN⟩ : ∃ x, x = x2.alloc (.cells #[.bool false, .slice none 0 0, .slice none 0 0, .slice none 0 0, .slice none 0 0] 46) := ⟨_, rfl⟩
          obtain ⟨n15, hnN⟩ : ∃ n, n = x2.heap.size := ⟨_, rfl⟩
          rw [← hxN] at hRx ⊢
          rw [← hnN] at hRx ⊢
          clear hxN hnN
          simp only [List.nil_append, List.cons_append] at hRx
          replace hRw := Aside0.mk hRx
          clear hRx
          (refine wpAnyLast_ready (rs := [5]) (by kernel_rfl) (by simp) ?_; refine AllReadyL.cons rfl (by decide) (fun K hK => ?_) AllReadyL.nil)
          have hRr := hRw.out.row (rI 3 (.slice (some ⟨n2, 0, none⟩) 0 0) []) (by simp [encs])
          refine Kd.R_append_rows_step (Kd.int .i64) (Rr := (Kd.int .i64).K x15) (w0 := wu) wu.heap.size rfl (.tmp 56) (.tmp 58) 22 3 (.int .i64 0) 8 rfl Tryz.underlying22 info_int rfl (by decide) (by decide) (.slice (some ⟨n2, 0, none⟩) 0 0) [] d.gr Ag d.gr.length cg (fun _ => True) (fun _ => False) rfl rfl (Kd.R_of_own hRr (fun _ _ => trivial)) (HGr.out _ hRw.out.below) (fun _ _ h => h) (fun _ h => h.elim) (fun _ _ => trivial) hRw.out.below hRw.out.below.size lG.out ?_
          intro v5 x5 Rn Bn hgn hatn
          have hRx := Rws.app (L1 := []) (L2 := [rI 3 (.slice (some ⟨n7, 0, none⟩) 0 0) []]) (r := rI 3 (.slice (some ⟨n2, 0, none⟩) 0 0) []) (r1 := rI 3 v5 d.gr) hRw.out (Kd.own_of_R Rn) Bn hgn hatn
          simp only [List.nil_append, List.cons_append] at hRx
          clear hRr Rn Bn hgn hatn
          refine hK.out _ _ (hS.out _ hRx.below) (fun hHeld => ?_)
          clear hK K
          try simp only [Act.put, Tk.z1, Tk.z2, Tk.z3, Tk.z4, Tk.z5, Tk.z6]
          replace hRw := Aside0.mk hRx
          clear hRx
          exact leaf_ (by kernel_rfl) (by kernel_rfl) (hJ2.out (n2, v5, n7, n15) _ hRw.out)
        ·refine value_ (w1 := x7.alloc (.cells #[.bool false, .slice none 0 0, .slice none 0 0, .slice none 0 0, .slice none 0 0] 46)) (v := .pointer (some ⟨x7.heap.size, 0, none⟩)) (by kernel_rfl) rfl (by kernel_rfl) ?_
         have hRx := hRw.out.alloc #[.bool false, .slice none 0 0, .slice none 0 0, .slice none 0 0, .slice none 0 0] 46
         refine hK.out _ _ (hS.out _ hRx.below) (fun hHeld => ?_)
         clear hK K
         try simp only [Act.put, Tk.z1, Tk.z2, Tk.z3, Tk.z4, Tk.z5, Tk.z6]
         obtain ⟨x15, hxN⟩ : ∃ x, x = x7.alloc (.cells #[.bool false, .slice none 0 0, .slice none 0 0, .slice none 0 0, .slice none 0 0] 46) := ⟨_, rfl⟩
         obtain ⟨n15, hnN⟩ : ∃ n, n = x7.heap.size := ⟨_, rfl⟩
         rw [← hxN] at hRx ⊢
         rw [← hnN] at hRx ⊢
         clear hxN hnN
         simp only [List.nil_append, List.cons_append] at hRx
         replace hRw := Aside0.mk hRx
         clear hRx
         (refine wpAnyLast_ready (rs := [2]) (by kernel_rfl) (by simp) ?_; refine AllReadyL.cons rfl (by decide) (fun K hK => ?_) AllReadyL.nil)
         refine value_ (w1 := x15.alloc (.cells #[] 3)) (v := .slice (some ⟨x15.heap.size, 0, none⟩) 0 0) (by kernel_rfl) rfl (by kernel_rfl) ?_
         have hRx := hRw.out.lit 3 1
         refine hK.out _ _ (hS.out _ hRx.below) (fun hHeld => ?_)
         clear hK K
         try simp only [Act.put, Tk.z1, Tk.z2, Tk.z3, Tk.z4, Tk.z5, Tk.z6]
         obtain ⟨x2, hxN⟩ : ∃ x, x = x15.alloc (.cells #[] 3) := ⟨_, rfl⟩
         obtain ⟨n2, hnN⟩ : ∃ n, n = x15.heap.size := ⟨_, rfl⟩
         rw [← hxN] at hRx ⊢
         rw [← hnN] at hRx ⊢
         clear hxN hnN
         replace hRx := Rws.into (L1 := []) (L2 := [rI 3 (.slice (some ⟨n7, 0, none⟩) 0 0) []]) (r := rI 3 (.slice (some ⟨n2, 0, none⟩) 0 0) []) hRx
         simp only [List.nil_append, List.cons_append] at hRx
         replace hRw := Aside0.mk hRx
         clear hRx
         (refine wpAnyLast_ready (rs := [5]) (by kernel_rfl) (by simp) ?_; refine AllReadyL.cons rfl (by decide) (fun K hK => ?_) AllReadyL.nil)
         have hRr := hRw.out.row (rI 3 (.slice (some ⟨n2, 0, none⟩) 0 0) []) (by simp [encs])
         refine Kd.R_append_rows_step (Kd.int .i64) (Rr := (Kd.int .i64).K x2) (w0 := wu) wu.heap.size rfl (.tmp 56) (.tmp 58) 22 3 (.int .i64 0) 8 rfl Tryz.underlying22 info_int rfl (by decide) (by decide) (.slice (some ⟨n2, 0, none⟩) 0 0) [] d.gr Ag d.gr.length cg (fun _ => True) (fun _ => False) rfl rfl (Kd.R_of_own hRr (fun _ _ => trivial)) (HGr.out _ hRw.out.below) (fun _ _ h => h) (fun _ h => h.elim) (fun _ _ => trivial) hRw.out.below hRw.out.below.size lG.out ?_
         intro v5 x5 Rn Bn hgn hatn
         have hRx := Rws.app (L1 := []) (L2 := [rI 3 (.slice (some ⟨n7, 0, none⟩) 0 0) []]) (r := rI 3 (.slice (some ⟨n2, 0, none⟩) 0 0) []) (r1 := rI 3 v5 d.gr) hRw.out (Kd.own_of_R Rn) Bn hgn hatn
         simp only [List.nil_append, List.cons_append] at hRx
         clear hRr Rn Bn hgn hatn
         refine hK.out _ _ (hS.out _ hRx.below) (fun hHeld => ?_)
         clear hK K
         try simp only [Act.put, Tk.z1, Tk.z2, Tk.z3, Tk.z4, Tk.z5, Tk.z6]
         replace hRw := Aside0.mk hRx
         clear hRx
         exact leaf_ (by kernel_rfl) (by kernel_rfl) (hJ2.out (n2, v5, n7, n15) _ hRw.out)
       ·refine value_ (w1 := wu.drew.alloc (.cells #[.bool false, .slice none 0 0, .slice none 0 0, .slice none 0 0, .slice none 0 0] 46)) (v := .pointer (some ⟨wu.drew.heap.size, 0, none⟩)) (by kernel_rfl) rfl (by kernel_rfl) ?_
        have hRx := hRw.out.alloc #[.bool false, .slice none 0 0, .slice none 0 0, .slice none 0 0, .slice none 0 0] 46
        refine hK.out _ _ (hS.out _ hRx.below) (fun hHeld => ?_)
        clear hK K
        try simp only [Act.put, Tk.z1, Tk.z2, Tk.z3, Tk.z4, Tk.z5, Tk.z6]
        obtain ⟨x15, hxN⟩ : ∃ x, x = wu.drew.alloc (.cells #[.bool false, .slice none 0 0, .slice none 0 0, .slice none 0 0, .slice none 0 0] 46) := ⟨_, rfl⟩
        obtain ⟨n15, hnN⟩ : ∃ n, n = wu.drew.heap.size := ⟨_, rfl⟩
        rw [← hxN] at hRx ⊢
        rw [← hnN] at hRx ⊢
        clear hxN hnN
        simp only [List.nil_append, List.cons_append] at hRx
        replace hRw := Aside0.mk hRx
        clear hRx
        refine wpAnyLast_ready (rs := [2, 7]) (by kernel_rfl) (by simp) ?_; refine AllReadyL.cons rfl (by decide) (fun K hK => ?_) (AllReadyL.cons rfl (by decide) (fun K hK => ?_) (AllReadyL.nil))
        ·refine value_ (w1 := x15.alloc (.cells #[] 3)) (v := .slice (some ⟨x15.heap.size, 0, none⟩) 0 0) (by kernel_rfl) rfl (by kernel_rfl) ?_
         have hRx := hRw.out.lit 3 1
         refine hK.out _ _ (hS.out _ hRx.below) (fun hHeld => ?_)
         clear hK K
         try simp only [Act.put, Tk.z1, Tk.z2, Tk.z3, Tk.z4, Tk.z5, Tk.z6]
         obtain ⟨x2, hxN⟩ : ∃ x, x = x15.alloc (.cells #[] 3) := ⟨_, rfl⟩
         obtain ⟨n2, hnN⟩ : ∃ n, n = x15.heap.size := ⟨_, rfl⟩
         rw [← hxN] at hRx ⊢
         rw [← hnN] at hRx ⊢
         clear hxN hnN
         simp only [List.nil_append, List.cons_append] at hRx
         replace hRw := Aside0.mk hRx
         clear hRx
         refine wpAnyLast_ready (rs := [5, 7]) (by kernel_rfl) (by simp) ?_; refine AllReadyL.cons rfl (by decide) (fun K hK => ?_) (AllReadyL.cons rfl (by decide) (fun K hK => ?_) (AllReadyL.nil))
         ·have hRr := hRw.out.row (rI 3 (.slice (some ⟨n2, 0, none⟩) 0 0) []) (by simp [encs])
          refine Kd.R_append_rows_step (Kd.int .i64) (Rr := (Kd.int .i64).K x2) (w0 := wu) wu.heap.size rfl (.tmp 56) (.tmp 58) 22 3 (.int .i64 0) 8 rfl Tryz.underlying22 info_int rfl (by decide) (by decide) (.slice (some ⟨n2, 0, none⟩) 0 0) [] d.gr Ag d.gr.length cg (fun _ => True) (fun _ => False) rfl rfl (Kd.R_of_own hRr (fun _ _ => trivial)) (HGr.out _ hRw.out.below) (fun _ _ h => h) (fun _ h => h.elim) (fun _ _ => trivial) hRw.out.below hRw.out.below.size lG.out ?_
          intro v5 x5 Rn Bn hgn hatn
          have hRx := Rws.app (L1 := []) (L2 := []) (r := rI 3 (.slice (some ⟨n2, 0, none⟩) 0 0) []) (r1 := rI 3 v5 d.gr) hRw.out (Kd.own_of_R Rn) Bn hgn hatn
          simp only [List.nil_append, List.cons_append] at hRx
          clear hRr Rn Bn hgn hatn
          refine hK.out _ _ (hS.out _ hRx.below) (fun hHeld => ?_)
          clear hK K
          try simp only [Act.put, Tk.z1, Tk.z2, Tk.z3, Tk.z4, Tk.z5, Tk.z6]
          replace hRw := Aside0.mk hRx
          clear hRx
          (refine wpAnyLast_ready (rs := [7]) (by kernel_rfl) (by simp) ?_; refine AllReadyL.cons rfl (by decide) (fun K hK => ?_) AllReadyL.nil)
          refine value_ (w1 := x5.alloc (.cells #[] 3)) (v := .slice (some ⟨x5.heap.size, 0, none⟩) 0 0) (by kernel_rfl) rfl (by kernel_rfl) ?_
          have hRx := hRw.out.lit 3 1
          refine hK.out _ _ (hS.out _ hRx.below) (fun hHeld => ?_)
          clear hK K
          try simp only [Act.put, Tk.z1, Tk.z2, Tk.z3, Tk.z4, Tk.z5, Tk.z6]
          obtain ⟨x7, hxN⟩ : ∃ x, x = x5.alloc (.cells #[] 3) := ⟨_, rfl⟩
          obtain ⟨n7, hnN⟩ : ∃ n, n = x5.heap.size := ⟨_, rfl⟩
          rw [← hxN] at hRx ⊢
          rw [← hnN] at hRx ⊢
          clear hxN hnN
          simp only [List.nil_append, List.cons_append] at hRx
          replace hRw := Aside0.mk hRx
          clear hRx
          exact leaf_ (by kernel_rfl) (by kernel_rfl) (hJ2.out (n2, v5, n7, n15) _ hRw.out)
         ·refine value_ (w1 := x2.alloc (.cells #[] 3)) (v := .slice (some ⟨x2.heap.size, 0, none⟩) 0 0) (by kernel_rfl) rfl (by kernel_rfl) ?_
          have hRx := hRw.out.lit 3 1
          refine hK.out _ _ (hS.out _ hRx.below) (fun hHeld => ?_)
          clear hK K
          try simp only [Act.put, Tk.z1, Tk.z2, Tk.z3, Tk.z4, Tk.z5, Tk.z6]
          obtain ⟨x7, hxN⟩ : ∃ x, x = x2.alloc (.cells #[] 3) := ⟨_, rfl⟩
          obtain ⟨n7, hnN⟩ : ∃ n, n = x2.heap.size := ⟨_, rfl⟩
          rw [← hxN] at hRx ⊢
          rw [← hnN] at hRx ⊢
          clear hxN hnN
          simp only [List.nil_append, List.cons_append] at hRx
          replace hRw := Aside0.mk hRx
          clear hRx
          (refine wpAnyLast_ready (rs := [5]) (by kernel_rfl) (by simp) ?_; refine AllReadyL.cons rfl (by decide) (fun K hK => ?_) AllReadyL.nil)
          have hRr := hRw.out.row (rI 3 (.slice (some ⟨n2, 0, none⟩) 0 0) []) (by simp [encs])
          refine Kd.R_append_rows_step (Kd.int .i64) (Rr := (Kd.int .i64).K x7) (w0 := wu) wu.heap.size rfl (.tmp 56) (.tmp 58) 22 3 (.int .i64 0) 8 rfl Tryz.underlying22 info_int rfl (by decide) (by decide) (.slice (some ⟨n2, 0, none⟩) 0 0) [] d.gr Ag d.gr.length cg (fun _ => True) (fun _ => False) rfl rfl (Kd.R_of_own hRr (fun _ _ => trivial)) (HGr.out _ hRw.out.below) (fun _ _ h => h) (fun _ h => h.elim) (fun _ _ => trivial) hRw.out.below hRw.out.below.size lG.out ?_
          intro v5 x5 Rn Bn hgn hatn
          have hRx := Rws.app (L1 := []) (L2 := [rI 3 (.slice (some ⟨n7, 0, none⟩) 0 0) []]) (r := rI 3 (.slice (some ⟨n2, 0, none⟩) 0 0) []) (r1 := rI 3 v5 d.gr) hRw.out (Kd.own_of_R Rn) Bn hgn hatn
          simp only [List.nil_append, List.cons_append] at hRx
          clear hRr Rn Bn hgn hatn
          refine hK.out _ _ (hS.out _ hRx.below) (fun hHeld => ?_)
          clear hK K
          try simp only [Act.put, Tk.z1, Tk.z2, Tk.z3, Tk.z4, Tk.z5, Tk.z6]
          replace hRw := Aside0.mk hRx
          clear hRx
          exact leaf_ (by kernel_rfl) (by kernel_rfl) (hJ2.out (n2, v5, n7, n15) _ hRw.out)
        ·refine value_ (w1 := x15.alloc (.cells #[] 3)) (v := .slice (some ⟨x15.heap.size, 0, none⟩) 0 0) (by kernel_rfl) rfl (by kernel_rfl) ?_
         have hRx := hRw.out.lit 3 1
         refine hK.out _ _ (hS.out _ hRx.below) (fun hHeld => ?_)
         clear hK K
         try simp only [Act.put, Tk.z1, Tk.z2, Tk.z3, Tk.z4, Tk.z5, Tk.z6]
         obtain ⟨x7, hxN⟩ : ∃ x, x = x15.alloc (.cells #[] 3) := ⟨_, rfl⟩
         obtain ⟨n7, hnN⟩ : ∃ n, n = x15.heap.size := ⟨_, rfl⟩
         rw [← hxN] at hRx ⊢
         rw [← hnN] at hRx ⊢
         clear hxN hnN
         simp only [List.nil_append, List.cons_append] at hRx
         replace hRw := Aside0.mk hRx
         clear hRx
         (refine wpAnyLast_ready (rs := [2]) (by kernel_rfl) (by simp) ?_; refine AllReadyL.cons rfl (by decide) (fun K hK => ?_) AllReadyL.nil)
         refine value_ (w1 := x7.alloc (.cells #[] 3)) (v := .slice (some ⟨x7.heap.size, 0, none⟩) 0 0) (by kernel_rfl) rfl (by kernel_rfl) ?_
         have hRx := hRw.out.lit 3 1
         refine hK.out _ _ (hS.out _ hRx.below) (fun hHeld => ?_)
         clear hK K
         try simp only [Act.put, Tk.z1, Tk.z2, Tk.z3, Tk.z4, Tk.z5, Tk.z6]
         obtain ⟨x2, hxN⟩ : ∃ x, x = x7.alloc (.cells #[] 3) := ⟨_, rfl⟩
         obtain ⟨n2, hnN⟩ : ∃ n, n = x7.heap.size := ⟨_, rfl⟩
         rw [← hxN] at hRx ⊢
         rw [← hnN] at hRx ⊢
         clear hxN hnN
         replace hRx := Rws.into (L1 := []) (L2 := [rI 3 (.slice (some ⟨n7, 0, none⟩) 0 0) []]) (r := rI 3 (.slice (some ⟨n2, 0, none⟩) 0 0) []) hRx
         simp only [List.nil_append, List.cons_append] at hRx
         replace hRw := Aside0.mk hRx
         clear hRx
         (refine wpAnyLast_ready (rs := [5]) (by kernel_rfl) (by simp) ?_; refine AllReadyL.cons rfl (by decide) (fun K hK => ?_) AllReadyL.nil)
         have hRr := hRw.out.row (rI 3 (.slice (some ⟨n2, 0, none⟩) 0 0) []) (by simp [encs])
         refine Kd.R_append_rows_step (Kd.int .i64) (Rr := (Kd.int .i64).K x2) (w0 := wu) wu.heap.size rfl (.tmp 56) (.tmp 58) 22 3 (.int .i64 0) 8 rfl Tryz.underlying22 info_int rfl (by decide) (by decide) (.slice (some ⟨n2, 0, none⟩) 0 0) [] d.gr Ag d.gr.length cg (fun _ => True) (fun _ => False) rfl rfl (Kd.R_of_own hRr (fun _ _ => trivial)) (HGr.out _ hRw.out.below) (fun _ _ h => h) (fun _ h => h.elim) (fun _ _ => trivial) hRw.out.below hRw.out.below.size lG.out ?_
         intro v5 x5 Rn Bn hgn hatn
         have hRx := Rws.app (L1 := []) (L2 := [rI 3 (.slice (some ⟨n7, 0, none⟩) 0 0) []]) (r := rI 3 (.slice (some ⟨n2, 0, none⟩) 0 0) []) (r1 := rI 3 v5 d.gr) hRw.out (Kd.own_of_R Rn) Bn hgn hatn
         simp only [List.nil_append, List.cons_append] at hRx
         clear hRr Rn Bn hgn hatn
         refine hK.out _ _ (hS.out _ hRx.below) (fun hHeld => ?_)
         clear hK K
         try simp only [Act.put, Tk.z1, Tk.z2, Tk.z3, Tk.z4, Tk.z5, Tk.z6]
         replace hRw := Aside0.mk hRx
         clear hRx
         exact leaf_ (by kernel_rfl) (by kernel_rfl) (hJ2.out (n2, v5, n7, n15) _ hRw.out)
   case rest =>
    obtain ⟨⟨v1, v3, g2⟩, rfl, hRw⟩ := hcut
    dsimp only at hRw ⊢
    have hS0 := Aside0.mk (show Rws wu wc ([rI 3 v1 d.gr, rI 3 v3 z] ++ [rI 3 (.slice none 0 0) (zerosTo y u 0)]) [⟨g2, #[.bool d.sh, v1, .slice none 0 0, .slice (some ⟨gq, 0, none⟩) 128 cq, v3], 46⟩] from hRw.out.nil 3 1)
    simp only [List.nil_append, List.cons_append] at hS0
    have mS2 := cnx mS hRw.out.below
    have hbc := hRw.out.below
    have lyI : (y.length : Int) ≤ 32 := by have := lS.out; omega
    have hkc := Aside0.mk (And.intro k4 mS)
    clear k0 k1 k3 k4 mF mS hRw hS HGr HZ lG lZ hmo
    go_wp2_with fail
    go_loopw [74] (fun i wr => ∃ j : Nat, i = .int .i64 j ∧ j ≤ y.length ∧ Aside0 (∃ vS, Rws wu wr [rI 3 v1 d.gr, rI 3 v3 z, rI 3 vS (zerosTo y u j)] [⟨g2, #[.bool d.sh, v1, vS, .slice (some ⟨gq, 0, none⟩) 128 cq, v3], 46⟩])) (fun i _ => y.length - (intOf i).toNat)
    case atStart => exact ⟨0, rfl, by omega, ⟨_, hS0.out⟩⟩
    case round =>
     obtain ⟨j, rfl, hj, hZ⟩ := hrel
     by_cases hltj : j < y.length
     ·obtain ⟨vS, hRw⟩ := hZ.out
      have hbz := bnx hbu.out hRw.below
      obtain ⟨adY, rfl, my⟩ := el_at (Kd.C_below CS.out hbz) (Below.refl _ _) hltj
      have hclU := Kd.R_celln false RU.out (j : Int) (by omega) (by have := lS.out; omega)
      rw [Int.toNat_natCast] at hclU
      have mU := cnx hclU.1 hRw.below
      have hjI : (j : Int) < (y.length : Int) := by omega
      have hjL : (j : Int) < (L.length : Int) := by have := lS.out; omega
      have hG := (hRw.blk ⟨g2, #[.bool d.sh, v1, vS, .slice (some ⟨gq, 0, none⟩) 128 cq, v3], 46⟩ (by simp)).1
      have z2 : wr.cell? ⟨g2, 2, none⟩ = some vS := by rw [blk_cell hG]; rfl
      have hRS := hRw.row (rI 3 vS (zerosTo y u j)) (by simp)
      have hzl : (zerosTo y u j).length = j := by simp [zerosTo]
      have hHO := Kd.R_of_own (h1 := fun _ => rfl) (ok := fun _ => True) hRS (fun _ _ => trivial)
      obtain ⟨aS, cSs, hvS⟩ := Kd.R_slice hHO
      subst hvS
      rw [hzl] at z2
      have hHOj := Aside0.mk (show (Kd.int .i64).R 3 wr wu.heap.size (fun _ => True) (.slice aS j cSs) (zerosTo y u j) by
       have h : (Kd.int .i64).R 3 wr wu.heap.size (fun _ => True) (.slice aS (zerosTo y u j).length cSs) (zerosTo y u j) := hHO
       rw [hzl] at h
       exact h)
      have hhl : Aside0 (((zerosTo y u j).length + 1) * 8 ≤ 140737488355328) := ⟨by rw [hzl]; omega⟩
      have hsucc := Aside0.mk (zerosTo_succ y u j)
      have hrd : (y.getD ((j : Int).toNat) 0) = rd y j := rfl
      obtain ⟨q, hq⟩ : ∃ q, q = rdOf false u (j : Int) := ⟨_, rfl⟩
      have hq2 : u.getD j false = q := by rw [hq]; simp [rdOf]
      rw [← hq] at mU
      obtain ⟨s0, hs0⟩ : ∃ s0, s0 = rd y j := ⟨_, rfl⟩
      rw [← hs0] at my
      rw [hq2, ← hs0] at hsucc
      have hltj' := Aside0.mk hltj
      have hRw' := Aside0.mk hRw
      replace hHO := Aside0.mk hHO
      have hszb := Aside0.mk hRw.below.size
      have hbel := Aside0.mk hRw.below
      replace hzl := Aside0.mk hzl
      replace hG := Aside0.mk hG
      clear hclU hbz hRS hq hq2 hs0 hltj hRw hrd
      have fin : ∀ (t : Int), (if q = true then s0 else 0) = t → ∀ (v9 : Value) (w9 : World), (Kd.int .i64).R 3 w9 wu.heap.size (fun _ => True) v9 (zerosTo y u j ++ [t]) → Below wu.heap.size wu w9 → wr.grownBy w9 (Value.slice aS (zerosTo y u j).length cSs).ownBlock → (v9.ownBlock = (Value.slice aS (zerosTo y u j).length cSs).ownBlock ∨ ∃ b, v9.ownBlock = some b ∧ wr.heap.size ≤ b) → Rws wu w9 [rI 3 v1 d.gr, rI 3 v3 z, rI 3 v9 (zerosTo y u (j + 1))] [⟨g2, #[.bool d.sh, v1, .slice aS (zerosTo y u j).length cSs, .slice (some ⟨gq, 0, none⟩) 128 cq, v3], 46⟩] := fun t ht v9 w9 h1 h2 h3 h4 => by
       rw [hsucc.out, ht]
       exact Rws.app (L1 := [rI 3 v1 d.gr, rI 3 v3 z]) (L2 := []) (r := rI 3 (.slice aS (zerosTo y u j).length cSs) (zerosTo y u j)) (r1 := rI 3 v9 (zerosTo y u j ++ [t])) hRw'.out (Kd.own_of_R h1) h2 h3 h4
      replace fin := Aside0.mk fin
      cases q with
      | true =>
       go_wp2_with (first | (at_builtin; refine Kd.R_append (Kd.int .i64) (w0 := wu) wu.heap.size rfl (.tmp 85) (.tmp 87) 22 3 (.int .i64 0) 8 rfl Tryz.underlying22 info_int rfl (by decide) (by decide) (.slice aS j cSs) (zerosTo y u j) s0 [.int .i64 s0] (fun _ => True) (fun _ => False) rfl rfl rfl (fun _ hk => hk.elim) (fun _ _ => trivial) hHOj.out hbel.out hszb.out hhl.out ?_; intro v9 w9 h1 h2 h3 h4; have hF := fin.out s0 rfl v9 w9 h1 h2 (by rw [hzl.out]; exact h3) (by rw [hzl.out]; exact h4); obtain ⟨a9, c9, h9e⟩ := Kd.R_slice h1; subst h9e; have hG9 := (hF.blk ⟨g2, #[.bool d.sh, v1, .slice aS (zerosTo y u j).length cSs, .slice (some ⟨gq, 0, none⟩) 128 cq, v3], 46⟩ (by simp)).1; have z2 : w9.cell? ⟨g2, 2, none⟩ = some (.slice aS j cSs) := (by rw [blk_cell hG9]; show some (Value.slice aS (zerosTo y u j).length cSs) = _; rw [hzl.out]); have y2 := frozen_blk hG9 2; rw [List.length_append, List.length_singleton] at hF; replace hF := Aside0.mk hF; clear h1 h2 h3 h4 hG9))
       go_roundw
       case rel => exact ⟨j + 1, by go_num, hltj'.out, ⟨.slice a9 ((zerosTo y u j).length + 1) c9, by
        have h := Rws.set (G1 := []) (G2 := []) hF.out 2 (.slice a9 ((zerosTo y u j).length + 1) c9)
        exact h⟩⟩
       case measure => have := hltj'.out; simp [intOf]; omega
      | false =>
       go_wp2_with (first | (at_builtin; refine Kd.R_append (Kd.int .i64) (w0 := wu) wu.heap.size rfl (.tmp 85) (.tmp 87) 22 3 (.int .i64 0) 8 rfl Tryz.underlying22 info_int rfl (by decide) (by decide) (.slice aS j cSs) (zerosTo y u j) 0 [.int .i64 0] (fun _ => True) (fun _ => False) rfl rfl rfl (fun _ hk => hk.elim) (fun _ _ => trivial) hHOj.out hbel.out hszb.out hhl.out ?_; intro v9 w9 h1 h2 h3 h4; have hF := fin.out 0 rfl v9 w9 h1 h2 (by rw [hzl.out]; exact h3) (by rw [hzl.out]; exact h4); obtain ⟨a9, c9, h9e⟩ := Kd.R_slice h1; subst h9e; have hG9 := (hF.blk ⟨g2, #[.bool d.sh, v1, .slice aS (zerosTo y u j).length cSs, .slice (some ⟨gq, 0, none⟩) 128 cq, v3], 46⟩ (by simp)).1; have z2 : w9.cell? ⟨g2, 2, none⟩ = some (.slice aS j cSs) := (by rw [blk_cell hG9]; show some (Value.slice aS (zerosTo y u j).length cSs) = _; rw [hzl.out]); have y2 := frozen_blk hG9 2; rw [List.length_append, List.length_singleton] at hF; replace hF := Aside0.mk hF; clear h1 h2 h3 h4 hG9))
       go_roundw
       case rel => exact ⟨j + 1, by go_num, hltj'.out, ⟨.slice a9 ((zerosTo y u j).length + 1) c9, by
        have h := Rws.set (G1 := []) (G2 := []) hF.out 2 (.slice a9 ((zerosTo y u j).length + 1) c9)
        exact h⟩⟩
       case measure => have := hltj'.out; simp [intOf]; omega
     ·obtain rfl : j = y.length := by omega
      obtain ⟨vS, hRw⟩ := hZ.out
      rw [zerosTo_all] at hRw
      have hG2 := (hRw.blk ⟨g2, #[.bool d.sh, v1, vS, .slice (some ⟨gq, 0, none⟩) 128 cq, v3], 46⟩ (by simp)).1
      have hwz := bnx hbu.out hRw.below
      obtain ⟨hG, HR, hKp⟩ := hI2.out
      have hG := blk_below hG hwz
      have hsz : W0.heap.size ≤ wo.heap.size := hKp.size
      have hsu : W0.heap.size ≤ wu.heap.size := Nat.le_trans hsz hbu.out.size
      have S1 := Kd.R_mono (R_based (R_of_row (hRw.row (rI 3 v1 d.gr) (by simp))) hsu) (ok' := fun b => wo.heap.size ≤ b) (fun b hb => Nat.le_trans hbu.out.size hb)
      have S2 := Kd.R_mono (R_based (R_of_row (hRw.row (rI 3 vS (zeroS y u y.length)) (by simp))) hsu) (ok' := fun b => wo.heap.size ≤ b) (fun b hb => Nat.le_trans hbu.out.size hb)
      have S3 := Kd.R_mono (R_based (R_of_row (hRw.row (rI 3 v3 z) (by simp))) hsu) (ok' := fun b => wo.heap.size ≤ b) (fun b hb => Nat.le_trans hbu.out.size hb)
      have S4 := R_based (Kd.R_below R4u.out hRw.below) hsz
      have hM : kCh.M wr W0.heap.size (fun k => wo.heap.size ≤ k) (mkCh d sc k) [.bool d.sh, v1, vS, .slice (some ⟨gq, 0, none⟩) 128 cq, v3] := by
       have E2 : (mkCh d sc k).sc = zeroS y u y.length := by rw [hue.out, hQe.out, hL2.out, hx.out, hy.out]; rfl
       have E3 : (mkCh d sc k).qu = Q := by rw [hQe.out, hL2.out, hx.out, hy.out]; rfl
       have E4 : (mkCh d sc k).fi = z := by rw [hzz.out]; rfl
       refine kCh_mkM wr W0.heap.size _ (mkCh d sc k) S1 ?_ ?_ ?_
       ·rw [E2]; exact S2
       ·rw [E3]; exact S4
       ·rw [E4]; exact S3
      have HRz := Kd.R_below HR hwz
      have hvb : Aside0 (∀ b, wo.heap.size ≤ b → W0.heap.size ≤ b ∧ some b ≠ vC.ownBlock) := ⟨fun b hb => ⟨by omega, fun e => by have := ((Kd.R_bound HR).1 b e.symm).2.2.1; omega⟩⟩
      have hgne : some g ≠ vC.ownBlock := fun e => by have := (Kd.R_bound HR).1 g e.symm; have := this.1; have := hg0.out; omega
      have y0 : wr.cell? ⟨g, 0, none⟩ = some vC := by rw [blk_cell hG]; rfl
      obtain ⟨aC, cC, rfl⟩ := Kd.R_slice HRz
      obtain ⟨A1, p1, rfl⟩ := Kd.R_slice S1
      obtain ⟨A2, p2, rfl⟩ := Kd.R_slice S2
      obtain ⟨A3, p3, rfl⟩ := Kd.R_slice S3
      rw [List.length_map, List.length_range] at HRz y0 hG hgne hvb
      rw [zeroS_len] at hM hG2
      have e0 : wr.cell? ⟨g2, 0, none⟩ = some (.bool d.sh) := by rw [blk_cell hG2]; rfl
      have e1 : wr.cell? ⟨g2, 1, none⟩ = some (.slice A1 d.gr.length p1) := by rw [blk_cell hG2]; rfl
      have e2 : wr.cell? ⟨g2, 2, none⟩ = some (.slice A2 y.length p2) := by rw [blk_cell hG2]; rfl
      have e3 : wr.cell? ⟨g2, 3, none⟩ = some (.slice (some ⟨gq, 0, none⟩) 128 cq) := by rw [blk_cell hG2]; rfl
      have e4 : wr.cell? ⟨g2, 4, none⟩ = some (.slice A3 z.length p3) := by rw [blk_cell hG2]; rfl
      have hzs : Aside0 (W0.heap.size ≤ wr.heap.size) := ⟨by have := hwz.size; omega⟩
      have hln : Aside0 ((((List.range k).map (mkCh d sc)).length + 1) * 104 ≤ 140737488355328) := ⟨by have := hltk.out; simp; omega⟩
      have hu46 := Tryz.underlying46
      replace hG := Aside0.mk hG
      replace HRz := Aside0.mk HRz
      replace hM := Aside0.mk hM
      replace hwz := Aside0.mk hwz
      replace hgne := Aside0.mk hgne
      replace hsz := Aside0.mk hsz
      replace hKp := Aside0.mk hKp
      clear S1 S2 S3 S4 hG2 hZ hS0 hRw HR hI2 hsu
      go_wp2_with (first | (at_builtin; refine Kd.R_append kCh (w0 := wr) W0.heap.size rfl (.tmp 92) (.tmp 94) 29 46 (.agg #[(.bool false), (.slice none 0 0), (.slice none 0 0), (.slice none 0 0), (.slice none 0 0)]) 104 rfl Tryz.underlying29 info_ch rfl (by decide) (by decide) (.slice aC k cC) ((List.range k).map (mkCh d sc)) (mkCh d sc k) [.bool d.sh, .slice A1 d.gr.length p1, .slice A2 y.length p2, .slice (some ⟨gq, 0, none⟩) 128 cq, .slice A3 z.length p3] (fun b => W0.heap.size ≤ b) (fun b => wo.heap.size ≤ b) rfl rfl hM.out hvb.out (fun b hb => Nat.le_trans hzs.out hb) HRz.out (Below.refl _ _) hzs.out hln.out ?_; intro v7 w7 hR7 hb7 hg7 hat7; clear hat7; have hG7 := (hg7.block g (blk_lt hG.out) hgne.out).trans hG.out; have hb8 := Aside0.mk hb7; clear hg7 hb7 y0 e0 e1 e2 e3 e4; have y7 := frozen_blk hG7 0; have y0 : w7.cell? ⟨g, 0, none⟩ = some (.slice aC k cC) := (by rw [blk_cell hG7]; rfl); obtain ⟨a7, c7, h7e⟩ := Kd.R_slice hR7; subst h7e; replace hG7 := Aside0.mk hG7; replace hR7 := Aside0.mk hR7))
      go_roundw
      case rel =>
       refine ⟨k + 1, by go_num, hltk.out, ⟨⟨_, blk_set hG7.out 0 _, ?_, ?_⟩⟩⟩
       ·rw [List.range_succ, List.map_append]
        refine Kd.R_far (p := ⟨g, 0, none⟩) ?_ (fun b hb => by have := hg0.out; simp only; omega) _
        have h := hR7.out
        rw [List.length_append, List.length_map, List.length_range] at h
        exact h
       ·exact Kp.setP (hKp.out.then_below (hwz.out.mono hsz.out |>.trans hb8.out)) 0 _
      case measure => have := hltk.out; simp [intOf]; omega
  ·obtain rfl : k = d.lis.length := by omega
   obtain ⟨vC, hG, HR, hKp⟩ := hI.out
   obtain ⟨AC, cC, rfl⟩ := Kd.R_slice HR
   rw [List.length_map, List.length_range] at hG HR
   have hbA := hKp.below (B := w.heap.size) (by have := hz'.out; omega) (fun k h => by cases h) (by have := hb3.out.size; omega)
   have g0 : wr.cell? ⟨g, 0, none⟩ = some (.slice AC d.lis.length cC) := by rw [cell_blk hG]; rfl
   have g1 : wr.cell? ⟨g, 1, none⟩ = some (.slice M d.mid.length cm2) := by rw [cell_blk hG]; rfl
   have hR3 := hKp.blk hcellR.out (by have := hz1.out; omega) (by simp)
   have f0 := frozen_blk hR3 0
   have f1 := frozen_blk hR3 1
   have c0 : wr.cell? ⟨w.heap.size + 1, 0, none⟩ = some (.slice none 0 0) := by rw [cell_blk hR3]; rfl
   have c1 : wr.cell? ⟨w.heap.size + 1, 1, none⟩ = some (.slice none 0 0) := by rw [cell_blk hR3]; rfl
   have RM3 := Kd.R_step RM2.out (fun b hb hlt => hKp.block b hlt hb.2 (by simp))
   have HR2 := Aside0.mk (Kd.R_far (p := ⟨w.heap.size + 1, 1, none⟩) (Kd.R_far (p := ⟨w.heap.size + 1, 0, none⟩) HR (fun b hb => by have := hz1.out; have := hg0.out; simp only; omega) (.slice AC d.lis.length cC)) (fun b hb => by have := hz1.out; have := hg0.out; simp only; omega) (.slice M d.mid.length cm2))
   replace RM3 := Aside0.mk (Kd.R_far (p := ⟨w.heap.size + 1, 1, none⟩) (Kd.R_far (p := ⟨w.heap.size + 1, 0, none⟩) RM3 (fun b hb => by have := hb.1; simp only; omega) (.slice AC d.lis.length cC)) (fun b hb => by have := hb.1; simp only; omega) (.slice M d.mid.length cm2))
   replace hbA := Aside0.mk (hb3.out.trans hbA)
   clear HR hKp hI hG
   go_wp2_with fail
   (try simp only [Exit.inBlock, Exit.then]); refine bodyPost_ret (results_single rfl (.cell (w.heap.size + 1) 31 #[.slice AC d.lis.length cC, .slice M d.mid.length cm2] (0, 0) _ rfl (blk_set (blk_set hR3 0 _) 1 _) hu31 rfl (by kernel_rfl) .nil)) rfl ?_
   have h1 := Kd.R_lower (base' := w.heap.size) (Kd.R_mono HR2.out (ok' := fun _ => True) (fun _ _ => trivial)) (by have := hz'.out; have := hg0.out; omega)
   have h2 := Kd.R_lower (base' := w.heap.size) (Kd.R_mono RM3.out (ok' := fun _ => True) (fun _ _ => trivial)) hw1b.out
   exact ⟨⟨_, _, rfl, h1, h2⟩, (hbA.out.setCell (p := ⟨w.heap.size + 1, 0, none⟩) (Nat.le_succ _) _).setCell (p := ⟨w.heap.size + 1, 1, none⟩) (Nat.le_succ _) _⟩
end Q21

end Go.Proofs.YtnflnicdjioflaaGreatDoor
