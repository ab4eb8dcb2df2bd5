/- A part of the proof. -/
import Derived.Test.YtnflnicdjioflaaGreatDoorQmbe
set_option linter.unusedVariables false
set_option linter.unusedSimpArgs false
namespace Go.Proofs.YtnflnicdjioflaaGreatDoor
open Go.RowKit Go.Proofs.YtnflnicdjioflaaGreatDoorW.PrintWords Go.Proofs.YtnflnicdjioflaaGreatDoorW.PrintLast Go.Proofs.YtnflnicdjioflaaGreatDoorW.PrintMore
namespace Q21
attribute [local go_sem] max2_int min2_int max_two min_two max_three min_three
open Q15
open Q16 (KL info_list isW off wd off_next band band_len band_C isW_iff errS)
open Bts (Kp R_before R_behind R_based R_some)
theorem capOk_below {w W : World} {A : Option Addr} {xs : List (List Int)} (h : KL.C w A xs.length xs) (hc : capOk w A xs) (hb : Below w.heap.size w W) : capOk W A xs := fun k ad B c hk e hcl => by
 obtain ⟨ad', B', c', e', h1, _, _⟩ := KL_at h (Below.refl _ _) hk
 rw [e] at e'
 cases e'
 have h2 := cnx h1 hb
 rw [h2] at hcl
 cases hcl
 exact hc k ad B c hk e h1
set_option maxRecDepth 100000 in
set_option maxHeartbeats 8000000 in
theorem rmake_yes (d : Dr) (v : DrV) (As : Option Addr) (cs : Nat) (sc : List (List Int)) (w : World) (hd : DrAt w d v) (hf : fewD d = true) (hv : validD d = true) (hS : KL.C w As sc.length sc) (hc9 : capOk w v.Al d.lis) (hsl : sc.length ≤ 4) :
  Calls Tryz.prog 10 #[.agg (drCells d v), .slice As sc.length cs] w (GOut (makeG d sc) (makeE d sc) w) := by
 have hu26 := Tryz.underlying26
 have hu31 := Tryz.underlying31
 obtain ⟨f1, f2, f3, f4, f5, f6, f7, f8⟩ := fewD_facts hf
 have hlI : (d.lis.length : Int) ≤ 4 := by omega
 have hslI : (sc.length : Int) ≤ 4 := by omega
 have hwb : (widthsL d.sh d.gr).length ≤ 32 := widthsL_bd (isDiv_facts (by unfold validD at hv; simp only [Bool.and_eq_true] at hv; exact hv.2.1)).1
 have hvs := hv
 unfold validD headD at hvs
 simp only [Bool.and_eq_true, decide_eq_true_eq] at hvs
 have HV := Aside0.mk (fun (W : World) (hb : Below w.heap.size w W) => rValid_calls d v W (hd.below hb) hf)
 rw [hv] at HV
 have HC := Aside0.mk (fun (W : World) (hb : Below w.heap.size w W) => rWidths_calls d.sh v.Ag v.cg d.gr W (hd.below hb).gr)
 have hE0 : divE d.sh d.gr = 0 := by unfold divE; rw [hvs.2.1]; rfl
 have hW0 : divW d.sh d.gr = widthsL d.sh d.gr := by unfold divW; rw [hvs.2.1]; rfl
 rw [hE0, hW0] at HC
 have HMd := Aside0.mk (fun (W : World) (hb : Below w.heap.size w W) (hlb : lensB d sc = true) (hrg : sc.all (Q16.rng 0 95) = true) => Made_calls d v As cs sc W (hd.below hb) hf hv (Kd.C_below hS hb) (capOk_below hd.lis hc9 hb) hlb hrg)
 unfold GMade drCells at HMd
 have hgr : Aside0 (makeE d sc = 0 → makeG d sc = ⟨(List.range d.lis.length).map (mkCh d sc), d.mid⟩) := ⟨fun h => by unfold makeG; rw [if_pos h]⟩
 obtain ⟨L, hL2⟩ : ∃ L, L = widthsL d.sh d.gr := ⟨_, rfl⟩
 have HN4 := Aside0.mk (fun (h : lensB d sc = false) => (by unfold makeE; rw [if_pos hv, if_neg (by rw [h]; decide)] : makeE d sc = 4))
 have HN6 := Aside0.mk (fun (h : lensB d sc = true) (h2 : sc.all (Q16.rng 0 95) = false) => (by unfold makeE; rw [if_pos hv, if_pos h, if_neg (by rw [h2]; decide)] : makeE d sc = 6))
 have HY := Aside0.mk (fun (h : lensB d sc = true) (h2 : sc.all (Q16.rng 0 95) = true) => (by unfold makeE; rw [if_pos hv, if_pos h, if_pos h2] : makeE d sc = 0))
 have HL0 := Aside0.mk (@lensB_no d sc)
 have HL1 := Aside0.mk (@lensB_yes d sc)
 rw [← hL2] at HC HL0 HL1 hwb
 have hwbI : (L.length : Int) ≤ 32 := by omega
 replace hL2 := Aside0.mk hL2
 have HD := Aside0.mk hd
 have HS := Aside0.mk hS
 have H9 := Aside0.mk hc9
 have f6' := Aside0.mk f6
 have f7' := Aside0.mk f7
 have hvv := Aside0.mk hv
 clear hd hf hv hS hc9 f6 f7 f8 hwb f3 f4 f5 hvs hE0 hW0
 obtain ⟨Ag, cg, Am, cm, Af, cf, Al, cl, Ai, ci⟩ := v
 dsimp only at HD H9 HC HMd ⊢
 unfold drCells at HV ⊢
 dsimp only at HV ⊢
 go_enter Tryz.func10, Tryz.ntmps10
 go_wp2_with fail
 obtain ⟨W, hW⟩ : ∃ W, W = (w.alloc (.cells #[.bool d.sh, .slice Ag d.gr.length cg, .slice Am d.mid.length cm, .slice Af d.fil.length cf, .slice Al d.lis.length cl, .slice Ai d.lim.length ci] 26)).alloc (.cells #[.slice none 0 0, .slice none 0 0] 31) := ⟨_, rfl⟩
 obtain ⟨hb, hB, hR, -⟩ := two_allocs (w := w) hW
 rw [← hW]
 clear hW
 refine (HV.out _ hb).mono ?_; rintro e w0 ⟨rfl, hbn⟩; replace hb := bnx hb hbn
 replace hR := (hbn.block _ (blk_lt hR)).trans hR
 replace hB := (hbn.block _ (blk_lt hB)).trans hB
 have k0 : w0.cell? ⟨w.heap.size, 0, none⟩ = some (.bool d.sh) := by rw [cell_blk hB]; rfl
 have k1 : w0.cell? ⟨w.heap.size, 1, none⟩ = some (.slice Ag d.gr.length cg) := by rw [cell_blk hB]; rfl
 have k2 : w0.cell? ⟨w.heap.size, 2, none⟩ = some (.slice Am d.mid.length cm) := by rw [cell_blk hB]; rfl
 have k3 : w0.cell? ⟨w.heap.size, 3, none⟩ = some (.slice Af d.fil.length cf) := by rw [cell_blk hB]; rfl
 have k4 : w0.cell? ⟨w.heap.size, 4, none⟩ = some (.slice Al d.lis.length cl) := by rw [cell_blk hB]; rfl
 have k5 : w0.cell? ⟨w.heap.size, 5, none⟩ = some (.slice Ai d.lim.length ci) := by rw [cell_blk hB]; rfl
 clear hbn
 go_wp2_with fail
 refine (HC.out _ hb).mono ?_; rintro e w1 ⟨A, p, rfl, hCw, hbn⟩; replace hb := bnx hb hbn
 have hR1 := (hbn.block _ (blk_lt hR)).trans hR
 have hB1 := (hbn.block _ (blk_lt hB)).trans hB
 have f0 := frozen_blk hR1 0
 have f1 := frozen_blk hR1 1
 clear k0 k1 k2 k3 k4 k5
 have k4 : w1.cell? ⟨w.heap.size, 4, none⟩ = some (.slice Al d.lis.length cl) := by rw [cell_blk hB1]; rfl
 replace hCw := Aside0.mk hCw
 clear hbn hB hR
 by_cases he : sc.length = d.lis.length
 ·have t1 : ((sc.length : Int) != (d.lis.length : Int)) = false := by rw [bne_eq_false_iff_eq]; omega
  have he' := Aside0.mk he
  clear he
  replace hb := Aside0.mk hb
  replace hR1 := Aside0.mk hR1
  replace hB1 := Aside0.mk hB1
  go_wp2_with fail
  go_loop [33] (fun i => ∃ k : Nat, i = .int .i64 k ∧ k ≤ sc.length ∧ Aside0 (∀ j, j < k → (rdL sc j).length = L.length)) (fun i => sc.length - (intOf i).toNat)
  case atStart => exact ⟨0, rfl, by omega, ⟨fun j hj => by omega⟩⟩
  case round =>
   obtain ⟨k, rfl, hk, ha⟩ := hrel
   by_cases hlt : k < sc.length
   ·obtain ⟨ad, B, c, rfl, m, -, -⟩ := KL_at HS.out hb.out hlt
    have hkI : (k : Int) < (sc.length : Int) := by omega
    have hno := @HL0.out k hlt
    obtain ⟨x, hx⟩ : ∃ x, x = rdL sc k := ⟨_, rfl⟩
    rw [← hx] at m hno
    replace hx := Aside0.mk hx
    by_cases hl : x.length = L.length
    ·have t2 : ((x.length : Int) != (L.length : Int)) = false := by rw [bne_eq_false_iff_eq]; omega
     replace hl := Aside0.mk hl
     clear hno
     go_wp2_with fail
     go_round
     case rel => exact ⟨k + 1, by go_num, by omega, ⟨fun j hj => by
      by_cases h : j = k
      ·rw [h, ← hx.out]; exact hl.out
      ·exact ha.out j (by omega)⟩⟩
     case measure => simp [intOf]; omega
    ·have t2 : ((x.length : Int) != (L.length : Int)) = true := by rw [bne_iff_ne]; omega
     have hE := Aside0.mk (HN4.out (hno hl))
     clear hno hl
     have c0 : w1.cell? ⟨w.heap.size + 1, 0, none⟩ = some (.slice none 0 0) := by rw [cell_blk hR1.out]; rfl
     have c1 : w1.cell? ⟨w.heap.size + 1, 1, none⟩ = some (.slice none 0 0) := by rw [cell_blk hR1.out]; rfl
     go_wp2_with fail
     (try simp only [Exit.inBlock, Exit.then]); refine bodyPost_ret (results_ct rfl _ _ (w.heap.size + 1) 31 #[.slice none 0 0, .slice none 0 0] (0, 0) _ rfl (blk_set (blk_set hR1.out 0 _) 1 _) hu31 rfl (by kernel_rfl)) rfl ?_
     exact GOut.err hE.out (by decide) rfl ((hb.out.setCell (p := ⟨w.heap.size + 1, 0, none⟩) (Nat.le_succ _) _).setCell (p := ⟨w.heap.size + 1, 1, none⟩) (Nat.le_succ _) _)
   ·obtain rfl : k = sc.length := by omega
    have hlb := Aside0.mk (HL1.out he'.out ha.out)
    go_wp2_with fail
    go_loopw [46] (fun i wr => ∃ k : Nat, i = .int .i64 k ∧ k ≤ sc.length ∧ Aside0 (∀ j, j < k → Q16.rng 0 95 (rdL sc j) = true) ∧ Aside0 (Below w1.heap.size w1 wr)) (fun i _ => sc.length - (intOf i).toNat)
    case atStart => exact ⟨0, rfl, by omega, ⟨fun j hj => by omega⟩, ⟨Below.refl _ _⟩⟩
    case round =>
     obtain ⟨k, rfl, hk, ha2, hb2⟩ := hrel
     by_cases hlt : k < sc.length
     ·have hbw := hb.out.trans (hb2.out.mono hb.out.size)
      obtain ⟨ad, B, c, rfl, m, -, C1⟩ := KL_at HS.out hbw hlt
      have hkI : (k : Int) < (sc.length : Int) := by omega
      have HC1 := Ranged_calls B c (rdL sc k) wr C1 (by have := ha.out k hlt; omega)
      obtain ⟨q, hq⟩ : ∃ q, q = Q16.rng 0 95 (rdL sc k) := ⟨_, rfl⟩
      rw [← hq] at HC1
      replace hq := Aside0.mk hq
      replace HC1 := Aside0.mk HC1
      clear C1 hbw
      cases q with
      | true =>
       go_wp2_with fail
       refine HC1.out.mono ?_; rintro e w' ⟨rfl, hbn⟩
       go_wp2_with fail
       go_roundw
       case rel => exact ⟨k + 1, by go_num, by omega, ⟨fun j hj => by
        by_cases h : j = k
        ·rw [h, ← hq.out]
        ·exact ha2.out j (by omega)⟩, ⟨hb2.out.trans (hbn.mono hb2.out.size)⟩⟩
       case measure => simp [intOf]; omega
      | false =>
       have hE := Aside0.mk (HN6.out hlb.out (all_rdL_no hlt hq.out.symm))
       go_wp2_with fail
       refine HC1.out.mono ?_; rintro e w' ⟨rfl, hbn⟩
       replace hbn := hb2.out.trans (hbn.mono hb2.out.size)
       have hR2 := (hbn.block _ (blk_lt hR1.out)).trans hR1.out
       have f0 := frozen_blk hR2 0
       have f1 := frozen_blk hR2 1
       have c0 : w'.cell? ⟨w.heap.size + 1, 0, none⟩ = some (.slice none 0 0) := by rw [cell_blk hR2]; rfl
       have c1 : w'.cell? ⟨w.heap.size + 1, 1, none⟩ = some (.slice none 0 0) := by rw [cell_blk hR2]; rfl
       replace hbn := Aside0.mk hbn
       go_wp2_with fail
       (try simp only [Exit.inBlock, Exit.then]); refine bodyPost_ret (results_ct rfl _ _ (w.heap.size + 1) 31 #[.slice none 0 0, .slice none 0 0] (0, 0) _ rfl (blk_set (blk_set hR2 0 _) 1 _) hu31 rfl (by kernel_rfl)) rfl ?_
       exact GOut.err hE.out (by decide) rfl (((hb.out.trans (hbn.out.mono hb.out.size)).setCell (p := ⟨w.heap.size + 1, 0, none⟩) (Nat.le_succ _) _).setCell (p := ⟨w.heap.size + 1, 1, none⟩) (Nat.le_succ _) _)
     ·obtain rfl : k = sc.length := by omega
      have hE := Aside0.mk (HY.out hlb.out (all_rdL ha2.out))
      have hB2 := (hb2.out.block _ (blk_lt hB1.out)).trans hB1.out
      have hR2 := (hb2.out.block _ (blk_lt hR1.out)).trans hR1.out
      have hb3 := hb.out.trans (hb2.out.mono hb.out.size)
      have k0 : wr.cell? ⟨w.heap.size, 0, none⟩ = some (.bool d.sh) := by rw [cell_blk hB2]; rfl
      have k1 : wr.cell? ⟨w.heap.size, 1, none⟩ = some (.slice Ag d.gr.length cg) := by rw [cell_blk hB2]; rfl
      have k2 : wr.cell? ⟨w.heap.size, 2, none⟩ = some (.slice Am d.mid.length cm) := by rw [cell_blk hB2]; rfl
      have k3 : wr.cell? ⟨w.heap.size, 3, none⟩ = some (.slice Af d.fil.length cf) := by rw [cell_blk hB2]; rfl
      have k4 : wr.cell? ⟨w.heap.size, 4, none⟩ = some (.slice Al d.lis.length cl) := by rw [cell_blk hB2]; rfl
      have k5 : wr.cell? ⟨w.heap.size, 5, none⟩ = some (.slice Ai d.lim.length ci) := by rw [cell_blk hB2]; rfl
      have HM := Aside0.mk (HMd.out wr hb3 hlb.out (all_rdL ha2.out))
      replace hR2 := Aside0.mk hR2
      replace hb3 := Aside0.mk hb3
      clear hb hR1 hB1 hCw hb2 f0 f1 HN4 HN6 HY HL0 HL1 HC HMd HV hB2 ha ha2
      go_wp2_with fail
      refine HM.out.mono ?_; rintro e w3 ⟨⟨vC, vM, rfl, RC, RM⟩, hbn⟩
      obtain ⟨AC, cC, rfl⟩ := Kd.R_slice RC
      obtain ⟨M, cm2, rfl⟩ := Kd.R_slice RM
      rw [List.length_map, List.length_range] at RC
      rw [List.length_map, List.length_range]
      have hR3 := (hbn.block _ (blk_lt hR2.out)).trans hR2.out
      have f0 := frozen_blk hR3 0
      have f1 := frozen_blk hR3 1
      have c0 : w3.cell? ⟨w.heap.size + 1, 0, none⟩ = some (.slice none 0 0) := by rw [cell_blk hR3]; rfl
      have c1 : w3.cell? ⟨w.heap.size + 1, 1, none⟩ = some (.slice none 0 0) := by rw [cell_blk hR3]; rfl
      have hlt1 := blk_lt hR2.out
      have RC2 := Aside0.mk (Kd.R_lower (base' := w.heap.size) (Kd.R_mono (Kd.R_far (p := ⟨w.heap.size + 1, 1, none⟩) (Kd.R_far (p := ⟨w.heap.size + 1, 0, none⟩) (Kd.R_mono (Kd.R_bound RC) (ok' := fun b => wr.heap.size ≤ b) (fun b hb => hb.2.1)) (fun b hb => by simp only; omega) (.slice AC d.lis.length cC)) (fun b hb => by simp only; omega) (.slice M d.mid.length cm2)) (ok' := fun _ => True) (fun _ _ => trivial)) hb3.out.size)
      have RM2 := Aside0.mk (Kd.R_lower (base' := w.heap.size) (Kd.R_mono (Kd.R_far (p := ⟨w.heap.size + 1, 1, none⟩) (Kd.R_far (p := ⟨w.heap.size + 1, 0, none⟩) (Kd.R_mono (Kd.R_bound RM) (ok' := fun b => wr.heap.size ≤ b) (fun b hb => hb.2.1)) (fun b hb => by simp only; omega) (.slice AC d.lis.length cC)) (fun b hb => by simp only; omega) (.slice M d.mid.length cm2)) (ok' := fun _ => True) (fun _ _ => trivial)) hb3.out.size)
      replace hbn := Aside0.mk (bnx hb3.out hbn)
      clear RC RM hlt1
      go_wp2_with fail
      (try simp only [Exit.inBlock, Exit.then]); refine bodyPost_ret (results_ct rfl _ _ (w.heap.size + 1) 31 #[.slice AC d.lis.length cC, .slice M d.mid.length cm2] (0, 0) _ rfl (blk_set (blk_set hR3 0 _) 1 _) hu31 rfl (by kernel_rfl)) rfl ?_
      rw [hgr.out hE.out, hE.out]
      exact ⟨⟨_, _, rfl, RC2.out, RM2.out⟩, (hbn.out.setCell (p := ⟨w.heap.size + 1, 0, none⟩) (Nat.le_succ _) _).setCell (p := ⟨w.heap.size + 1, 1, none⟩) (Nat.le_succ _) _⟩
 ·have t1 : ((sc.length : Int) != (d.lis.length : Int)) = true := by rw [bne_iff_ne]; omega
  have hE : Aside0 (makeE d sc = 4) := ⟨HN4.out (by unfold lensB; rw [decide_eq_false he, Bool.false_and])⟩
  clear he
  have c0 : w1.cell? ⟨w.heap.size + 1, 0, none⟩ = some (.slice none 0 0) := by rw [cell_blk hR1]; rfl
  have c1 : w1.cell? ⟨w.heap.size + 1, 1, none⟩ = some (.slice none 0 0) := by rw [cell_blk hR1]; rfl
  go_wp2_with fail
  (try simp only [Exit.inBlock, Exit.then]); refine bodyPost_ret (results_ct rfl _ _ (w.heap.size + 1) 31 #[.slice none 0 0, .slice none 0 0] (0, 0) _ rfl (blk_set (blk_set hR1 0 _) 1 _) hu31 rfl (by kernel_rfl)) rfl ?_
  exact GOut.err hE.out (by decide) rfl ((hb.setCell (p := ⟨w.heap.size + 1, 0, none⟩) (Nat.le_succ _) _).setCell (p := ⟨w.heap.size + 1, 1, none⟩) (Nat.le_succ _) _)
end Q21

end Go.Proofs.YtnflnicdjioflaaGreatDoor
