/- A part of the proof. -/
import Derived.Test.YtnflnicdjioflaaGreatDoorQmbk
set_option linter.unusedVariables false
set_option linter.unusedSimpArgs false
namespace Go.Proofs.YtnflnicdjioflaaGreatDoor
open Go.RowKit Go.Proofs.YtnflnicdjioflaaGreatDoorW.PrintWords Go.Proofs.YtnflnicdjioflaaGreatDoorW.PrintLast Go.Proofs.YtnflnicdjioflaaGreatDoorW.PrintMore
namespace Q21
attribute [local go_sem] max2_int min2_int max_two min_two max_three min_three
open Q15
open Q16 (KL info_list isW off wd off_next band band_len band_C isW_iff errS)
set_option maxRecDepth 100000 in
set_option maxHeartbeats 4000000 in
theorem rmake_no (d : Dr) (v : DrV) (As : Option Addr) (cs : Nat) (sc : List (List Int)) (w : World) (hd : DrAt w d v) (hf : fewD d = true) (hv : validD d = false) :
  Calls Tryz.prog 10 #[.agg (drCells d v), .slice As sc.length cs] w (GOut (makeG d sc) (makeE d sc) w) := by
 have hu26 := Tryz.underlying26
 have hu31 := Tryz.underlying31
 have hE : Aside0 (makeE d sc = 1) := ⟨by unfold makeE; rw [if_neg (by rw [hv]; decide)]⟩
 have HC := Aside0.mk (fun (W : World) (hb : Below w.heap.size w W) => rValid_calls d v W (hd.below hb) hf)
 rw [hv] at HC
 clear hd hf hv
 unfold drCells at HC ⊢
 go_enter Tryz.func10, Tryz.ntmps10
 go_wp2_with fail
 obtain ⟨W, hW⟩ : ∃ W, W = (w.alloc (.cells (drCells d v) 26)).alloc (.cells #[.slice none 0 0, .slice none 0 0] 31) := ⟨_, rfl⟩
 obtain ⟨hb, -, hR, -⟩ := two_allocs (w := w) hW
 unfold drCells at hW
 rw [← hW]
 clear hW
 refine (HC.out _ hb).mono ?_; rintro e w1 ⟨rfl, hbn⟩; replace hb := bnx hb hbn
 have hR1 := (hbn.block _ (blk_lt hR)).trans hR
 have f0 := frozen_blk hR1 0
 have f1 := frozen_blk hR1 1
 have c0 : w1.cell? ⟨w.heap.size + 1, 0, none⟩ = some (.slice none 0 0) := by rw [cell_blk hR1]; rfl
 have c1 : w1.cell? ⟨w.heap.size + 1, 1, none⟩ = some (.slice none 0 0) := by rw [cell_blk hR1]; rfl
 clear hbn
 go_wp2_with fail
 (try simp only [Exit.inBlock, Exit.then]); refine bodyPost_ret (results_ct rfl _ _ (w.heap.size + 1) 31 #[.slice none 0 0, .slice none 0 0] (0, 0) _ rfl (blk_set (blk_set hR1 0 _) 1 _) hu31 rfl (by kernel_rfl)) rfl ?_
 exact GOut.err hE.out (by decide) rfl ((hb.setCell (p := ⟨w.heap.size + 1, 0, none⟩) (Nat.le_succ _) _).setCell (p := ⟨w.heap.size + 1, 1, none⟩) (Nat.le_succ _) _)
end Q21

end Go.Proofs.YtnflnicdjioflaaGreatDoor
