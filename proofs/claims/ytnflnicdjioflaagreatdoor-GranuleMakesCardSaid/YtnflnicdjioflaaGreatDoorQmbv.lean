/- A part of the proof. -/
import Derived.Test.YtnflnicdjioflaaGreatDoorQmbu
import Derived.Test.YtnflnicdjioflaaGreatDoorQmbt
import Derived.Test.YtnflnicdjioflaaGreatDoorQmbf
import Derived.Test.YtnflnicdjioflaaGreatDoorQmbn
set_option linter.unusedVariables false
set_option linter.unusedSimpArgs false
namespace Go.Proofs.YtnflnicdjioflaaGreatDoor
open Go.RowKit Go.Proofs.YtnflnicdjioflaaGreatDoorW.PrintWords Go.Proofs.YtnflnicdjioflaaGreatDoorW.PrintLast Go.Proofs.YtnflnicdjioflaaGreatDoorW.PrintMore
namespace Gn
attribute [local go_sem] max2_int min2_int max_two min_two max_three min_three
open Q15
open Q21
open Bk
theorem sil_ch (n : Nat) (sh : Bool) (hn : 0 < n) : chK (silG n sh) 0 = chS sh := by
 unfold chK silG
 cases n with
 | zero => omega
 | succ n => rfl
theorem sil1_ok : grOk (silG 1 false) = true := by
 refine grOk_iff.2 ⟨by decide, ?_, ?_, ?_⟩
 ·rw [sil_ch 1 false (by decide)]; decide +kernel
 ·rw [sil_ch 1 false (by decide)]; decide +kernel
 ·intro c hc
  obtain rfl := List.mem_singleton.1 hc
  rw [sil_ch 1 false (by decide)]
  refine ⟨rfl, rfl, ?_⟩
  decide +kernel
theorem sil1_cost : costG (silG 1 false) = 15 := by
 unfold costG
 rw [sil_ch 1 false (by decide)]
 show 1 + (stN [] : Int) + costM (silG 1 false) + ([chS false].map (costCh longsL)).sum = 15
 have h1 : costCh longsL (chS false) = 14 := by
  show 4 + 8 * ((0 : Nat) : Int) + ((Sec.wL longsL zeros longsL.length).getD 0 Sec.w0).cost + Sca.costSc (chS false).sc (usedL longsL zeros) = 14
  have h2 : Sca.costSc (chS false).sc (usedL longsL zeros) = 0 := by
   unfold Sca.costSc
   rw [used_zeros]
   rfl
  rw [h2, secs_zeros]
  rfl
 rw [List.map_cons, List.map_nil, List.sum_cons, List.sum_nil, h1]
 decide +kernel
theorem dr0_no : validD ⟨false, [], [], [], [], []⟩ = false := by decide +kernel
theorem bw_zero : BW 0 := fun base p q L A cap l w hw hB4 hL hr hl hcap hA hf hroom => bWrite_3 base p q L 0 (by decide) A cap l w hw hB4 hL hr hl hcap hA hf hroom rfl (by decide)
set_option maxRecDepth 100000 in
theorem secs_book : ∀ p ∈ ((Sec.wL longsL zeros longsL.length).getD 0 Sec.w0).secs, p.1.toNat = 0 := by decide +kernel
theorem sil1_bw : ∀ c ∈ (silG 1 false).chs, ∀ p ∈ ((Sec.wL (widthsL (chK (silG 1 false) 0).sh (chK (silG 1 false) 0).gr) c.qu (widthsL (chK (silG 1 false) 0).sh (chK (silG 1 false) 0).gr).length).getD 0 Sec.w0).secs, BW p.1.toNat := by
 rw [sil_ch 1 false (by decide)]
 intro c hc
 obtain rfl := List.mem_singleton.1 hc
 intro p hp
 rw [secs_book p hp]
 exact bw_zero
set_option maxRecDepth 100000 in
set_option maxHeartbeats 4000000 in
theorem awake_calls (w : World) (hL : Laid w) (hB : LaidB w) (hB4 : 4 ≤ w.heap.size) :
  Calls Tryz.prog 8 #[] w fun e w' => e = .returned (.bool true) ∧ Below w.heap.size w w' := by
 have hu31 := Tryz.underlying31
 have hu26 := Tryz.underlying26
 have HS := Aside0.mk (Silence_false 1 (.inl rfl) w hL)
 obtain ⟨G, hG⟩ : ∃ G, G = silG 1 false := ⟨_, rfl⟩
 have hok := sil1_ok
 have hco := sil1_cost
 have hsm : Sm (silG 1 false) := by
  intro x hx
  obtain rfl := List.mem_singleton.1 hx
  decide +kernel
 have hbw := sil1_bw
 rw [← hG] at HS hok hco hsm hbw
 have HCo := Aside0.mk (fun (W : World) (A M : Option Addr) (c m : Nat) (hb : Below w.heap.size w W) (h : GrAt W G A c M m) => Cost_yes G A c M m W (hL.below hb) (hB.below hb) (by have := hb.size; omega) h hsm hok hbw)
 rw [hco] at HCo
 have HCh := Aside0.mk (fun (W : World) (A M : Option Addr) (c m : Nat) (hb : Below w.heap.size w W) (h : GrAt W G A c M m) => Check_calls G A c M m W (hL.below hb) h hsm)
 rw [hok] at HCh
 simp only [if_true] at HCh
 have HV := Aside0.mk (fun (W : World) (hb : Below w.heap.size w W) => gValid_calls ⟨false, [], [], [], [], []⟩ ⟨none, 0, none, 0, none, 0, none, 0, none, 0⟩ W (hL.below hb) ⟨Kd.C_nil _ _, Kd.C_nil _ _, Kd.C_nil _ _, Kd.C_nil _ _, Kd.C_nil _ _⟩ (by decide +kernel))
 rw [dr0_no] at HV
 unfold drCells at HV
 simp only [List.length_nil] at HV
 clear hL hB hB4 hG hok hco hsm hbw
 go_enter Tryz.func8, Tryz.ntmps8
 go_wp2_with fail
 refine HS.out.mono ?_
 intro e w1 hg
 obtain ⟨A, c, M, m, rfl, h1, h2, hb1⟩ := hg.reads
 have hGA : GrAt w1 G A c M m := ⟨h1, h2⟩
 clear hg h1 h2 HS
 go_wp2_with fail
 obtain ⟨w2, hw2⟩ : ∃ w2, w2 = w1.alloc (.cells #[.slice A G.chs.length c, .slice M G.mid.length m] 31) := ⟨_, rfl⟩
 have hb12 : Below w1.heap.size w1 w2 := by rw [hw2]; exact (Below.refl _ _).alloc (Nat.le_refl _) _
 have hB2 : w2.heap[w1.heap.size]? = some (.cells #[.slice A G.chs.length c, .slice M G.mid.length m] 31 (0, 0)) := by rw [hw2]; exact heap_alloc_new _ _
 have hb2 := bnx hb1 hb12
 rw [← hw2]
 refine (HCo.out w2 A M c m hb2 (hGA.below hb12)).mono ?_
 rintro e w3 ⟨rfl, hb3⟩
 have hG3 := Aside0.mk ((hGA.below hb12).below hb3)
 have hB3 := (hb3.block _ (blk_lt hB2)).trans hB2
 have z0 : w3.cell? ⟨w1.heap.size, 0, none⟩ = some (.slice A G.chs.length c) := by rw [cell_blk hB3]; rfl
 have z1 : w3.cell? ⟨w1.heap.size, 1, none⟩ = some (.slice M G.mid.length m) := by rw [cell_blk hB3]; rfl
 replace hb2 := bnx hb2 hb3
 clear hw2 hb12 hB2 hb3 hB3 hb1 hGA HCo
 go_wp2_with fail
 refine (HCh.out w3 A M c m hb2 hG3.out).mono ?_
 rintro e w4 ⟨rfl, hb4⟩
 replace hb2 := bnx hb2 hb4
 clear hb4 z0 z1 hG3 HCh
 go_wp2_with fail
 refine (HV.out w4 hb2).mono ?_
 rintro e w5 ⟨rfl, hb5⟩
 replace hb2 := bnx hb2 hb5
 clear hb5 HV
 go_wp2
 go_ret
 exact ⟨rfl, hb2⟩
end Gn

namespace Gn
attribute [local go_sem] max2_int min2_int max_two min_two max_three min_three
open Q15
open Q21
open Bk
open Q16 (KL isW isW_iff band)
theorem flat_len {m : Nat} : ∀ xs : List (List Int), (∀ x ∈ xs, x.length ≤ m) → xs.flatten.length ≤ xs.length * m
 | [], _ => by simp
 | x :: xs, h => by
  have h1 := h x (by simp)
  have h2 := flat_len xs (fun y hy => h y (by simp [hy]))
  rw [List.flatten_cons, List.length_append, List.length_cons, Nat.succ_mul]
  omega
theorem quantL_le (c l s : List Int) : (quantL c l s).length ≤ l.length * c.length := by
 have h := flat_len (m := c.length) ((List.range l.length).map fun k => quanta (band c l k) (rd s k)) (fun x hx => by
  obtain ⟨k, _, rfl⟩ := List.mem_map.1 hx
  unfold quanta
  split
  ·rw [List.length_map]
   unfold Q16.band
   rw [List.length_take, List.length_drop]
   omega
  ·simp)
 rw [List.length_map, List.length_range] at h
 exact h
theorem makeG_small {d : Dr} {sc : List (List Int)} (hf : fewD d = true) (hs : ∀ x ∈ sc, x.length ≤ 200) : ((makeG d sc).chs.length ≤ 1000 ∧ (makeG d sc).mid.length ≤ 1000) ∧ Sm4 (makeG d sc) := by
 obtain ⟨f1, f2, f3, f4, f5, f6, f7, f8⟩ := fewD_facts hf
 unfold makeG
 split
 ·rename_i hE
  refine ⟨⟨by simp; omega, by dsimp only; omega⟩, fun x hx => ?_⟩
  obtain ⟨k, hk, rfl⟩ := List.mem_map.1 hx
  have hdiv : isDiv d.sh d.gr = true := by
   unfold makeE at hE
   by_cases hv : validD d = true
   ·unfold validD at hv
    simp only [Bool.and_eq_true] at hv
    exact hv.2.1
   ·rw [if_neg hv] at hE
    cases hE
  have hw := (isW_iff.1 (widths_isW hdiv)).2.2
  have hr : (rdL sc k).length ≤ 200 := by
   by_cases hk : k < sc.length
   ·exact hs _ (by simp [rdL, hk])
   ·simp [rdL, List.getD_eq_getElem?_getD, List.getElem?_eq_none (by omega : sc.length ≤ k)]
  have hq := quantL_le (rdL d.lis k) (widthsL d.sh d.gr) (rdL sc k)
  have hq2 : (widthsL d.sh d.gr).length * (rdL d.lis k).length ≤ 32 * 400 := Nat.mul_le_mul hw (f7 k)
  refine ⟨?_, ?_, ?_, ?_⟩
  ·show d.gr.length ≤ 1000000
   omega
  ·show (zeroS _ _ _).length ≤ 1000000
   rw [zeroS_len]
   omega
  ·show (quantL _ _ _).length ≤ 1000000
   omega
  ·show (rdL d.fil k).length ≤ 1000000
   have := f6 k
   omega
 ·exact ⟨⟨by simp, by simp⟩, fun x hx => by cases hx⟩
theorem size4 {w : World} (hB : LaidB w) : 4 ≤ w.heap.size := by
 have := World.block_lt_of_cell? _ _ (hB.tab 0 (by decide))
 exact this
theorem capOk_below {w W : World} {A : Option Addr} {xs : List (List Int)} (h : capOk w A xs) (hC : KL.C w A xs.length xs) (hb : Below w.heap.size w W) : capOk W A xs := fun k ad B c hk hA hc => by
 obtain ⟨ad2, B2, c2, e, h1, _, _⟩ := KL_at hC (Below.refl _ _) hk
 rw [hA] at e
 cases e
 have h3 := cnx h1 hb
 rw [hc] at h3
 injection h3 with h3
 injection h3 with _ _ h3
 rw [h3]
 exact h k ad B2 c2 hk hA h1
set_option maxRecDepth 100000 in
set_option maxHeartbeats 4000000 in
theorem granuleMakes_walk (w : World) (hL : Laid w) (hB : LaidB w) (d : Dr) (v : DrV) (hd : DrAt w d v) (hc : capOk w v.Al d.lis) (As : Option Addr) (cs : Nat) (sc : List (List Int)) (hS : KL.C w As sc.length sc) :
  Calls Tryz.prog 3 #[.agg (drCells d v), .slice As sc.length cs] w fun e w' => e = .returned (.bool true) ∧ Below w.heap.size w w' := by
 have hu26 := Tryz.underlying26
 have hu31 := Tryz.underlying31
 have hB4 := size4 hB
 have HAw := Aside0.mk (fun (W : World) (hb : Below w.heap.size w W) => awake_calls W (hL.below hb) (hB.below hb) (by have := hb.size; omega))
 have HF := Aside0.mk (fun (W : World) (hb : Below w.heap.size w W) => FewDraft_calls d v W (hd.below hb))
 obtain ⟨w1, hw1⟩ : ∃ w1, w1 = w.alloc (.cells (drCells d v) 26) := ⟨_, rfl⟩
 have hb1 : Below w.heap.size w w1 := by rw [hw1]; exact (Below.refl _ _).alloc (Nat.le_refl _) _
 unfold drCells at HF hw1 ⊢
 cases hf : fewD d with
 | false =>
  rw [hf] at HF
  clear hL hB hd hc hS hf
  go_enter Tryz.func3, Tryz.ntmps3
  go_wp2_with fail
  rw [← hw1]
  refine (HF.out _ hb1).mono ?_
  rintro e w2 ⟨rfl, hb2⟩
  replace hb1 := bnx hb1 hb2
  clear hb2 hw1
  go_wp2_with fail
  refine (HAw.out _ hb1).mono ?_
  rintro e w2 ⟨rfl, hb2⟩
  replace hb1 := bnx hb1 hb2
  go_wp2
  go_ret
  exact ⟨rfl, hb1⟩
 | true =>
  rw [hf] at HF
  have hB1 : w1.heap[w.heap.size]? = some (.cells #[.bool d.sh, .slice v.Ag d.gr.length v.cg, .slice v.Am d.mid.length v.cm, .slice v.Af d.fil.length v.cf, .slice v.Al d.lis.length v.cl, .slice v.Ai d.lim.length v.ci] 26 (0, 0)) := by rw [hw1]; exact heap_alloc_new _ _
  by_cases h4 : sc.length ≤ 4
  ·have t17 : decide (4 < (sc.length : Int)) = false := decide_eq_false (by omega)
   have hslI : (sc.length : Int) ≤ 4 := by omega
   have HS := Aside0.mk hS
   have HMk := Aside0.mk (fun (W : World) (hb : Below w.heap.size w W) => (show Calls Tryz.prog 9 #[.agg (drCells d v), .slice As sc.length cs] W (GOut (makeG d sc) (makeE d sc) W) from by
    cases hv : validD d with
    | false => exact make_no d v As cs sc W (hL.below hb) (hd.below hb) hf hv
    | true => exact make_yes d v As cs sc W (hL.below hb) (hd.below hb) hf hv (Kd.C_below hS hb) (capOk_below hc hd.lis hb) h4))
   have HRk := Aside0.mk (fun (W : World) (hb : Below w.heap.size w W) => (show Calls Tryz.prog 10 #[.agg (drCells d v), .slice As sc.length cs] W (GOut (makeG d sc) (makeE d sc) W) from by
    cases hv : validD d with
    | false => exact rmake_no d v As cs sc W (hd.below hb) hf hv
    | true => exact rmake_yes d v As cs sc W (hd.below hb) hf hv (Kd.C_below hS hb) (capOk_below hc hd.lis hb) h4))
   have hsm := Aside0.mk (fun (h : ∀ x ∈ sc, x.length ≤ 200) => makeG_small hf h)
   obtain ⟨G, hG⟩ : ∃ G, G = makeG d sc := ⟨_, rfl⟩
   obtain ⟨E, hE⟩ : ∃ E, E = makeE d sc := ⟨_, rfl⟩
   rw [← hG, ← hE] at HMk HRk
   rw [← hG] at hsm
   unfold drCells at HMk HRk
   clear hL hB hd hc hf hS h4 hG hE
   go_enter Tryz.func3, Tryz.ntmps3
   go_wp2_with fail
   rw [← hw1]
   refine (HF.out _ hb1).mono ?_
   rintro e w2 ⟨rfl, hb2⟩
   have hB2 := Aside0.mk ((hb2.block _ (blk_lt hB1)).trans hB1)
   replace hb1 := bnx hb1 hb2
   clear hb2 hw1 hB1 HF
   go_wp2_with fail
   go_loopw [22] (fun i wr => ∃ k : Nat, i = .int .i64 k ∧ k ≤ sc.length ∧ Aside0 (∀ x ∈ sc.take k, x.length ≤ 200) ∧ Below w2.heap.size w2 wr) (fun i _ => sc.length - (intOf i).toNat)
   case atStart => exact ⟨0, rfl, by omega, ⟨by simp⟩, Below.refl _ _⟩
   case round =>
    obtain ⟨k, rfl, hk, ha, hb3⟩ := hrel
    have hbr := bnx hb1 hb3
    by_cases hlt : k < sc.length
    ·obtain ⟨ad, B, c, rfl, hcell, -, -⟩ := KL_at HS.out hbr hlt
     have hkI : (k : Int) < (sc.length : Int) := by omega
     have hT : sc.take (k + 1) = sc.take k ++ [rdL sc k] := by
      unfold rdL
      rw [List.take_succ_eq_append_getElem hlt, List.getD_eq_getElem?_getD, List.getElem?_eq_getElem hlt]; rfl
     obtain ⟨x, hx⟩ : ∃ x, x = rdL sc k := ⟨_, rfl⟩
     rw [← hx] at hcell hT
     have hlt' := Aside0.mk hlt
     replace hT := Aside0.mk hT
     clear hx hlt
     by_cases hl : x.length ≤ 200
     ·have t28 : decide (200 < (x.length : Int)) = false := decide_eq_false (by omega)
      have hn : Aside0 (∀ y ∈ sc.take (k + 1), y.length ≤ 200) := ⟨fun y hy => by
       rw [hT.out] at hy
       rcases List.mem_append.1 hy with h | h
       ·exact ha.out y h
       ·rw [List.mem_singleton.1 h]; exact hl⟩
      clear hl
      go_wp2
      go_roundw
      case rel => exact ⟨k + 1, by go_num, hlt'.out, hn, hb3⟩
      case measure => have := hlt'.out; simp [intOf]; omega
     ·have t28 : decide (200 < (x.length : Int)) = true := decide_eq_true (by omega)
      clear hl
      go_wp2_with fail
      refine (HAw.out _ hbr).mono ?_
      rintro e w3 ⟨rfl, hb4⟩
      replace hbr := bnx hbr hb4
      clear hb4
      go_wp2
      go_ret
      exact ⟨rfl, hbr⟩
    ·obtain rfl : k = sc.length := by omega
     rw [List.take_length] at ha
     obtain ⟨hsm1, hsm2⟩ := hsm.out ha.out
     have hBr := Aside0.mk ((hb3.block _ (blk_lt hB2.out)).trans hB2.out)
     have z0 : wr.cell? ⟨w.heap.size, 0, none⟩ = some (.bool d.sh) := by rw [cell_blk hBr.out]; rfl
     have z1 : wr.cell? ⟨w.heap.size, 1, none⟩ = some (.slice v.Ag d.gr.length v.cg) := by rw [cell_blk hBr.out]; rfl
     have z2 : wr.cell? ⟨w.heap.size, 2, none⟩ = some (.slice v.Am d.mid.length v.cm) := by rw [cell_blk hBr.out]; rfl
     have z3 : wr.cell? ⟨w.heap.size, 3, none⟩ = some (.slice v.Af d.fil.length v.cf) := by rw [cell_blk hBr.out]; rfl
     have z4 : wr.cell? ⟨w.heap.size, 4, none⟩ = some (.slice v.Al d.lis.length v.cl) := by rw [cell_blk hBr.out]; rfl
     have z5 : wr.cell? ⟨w.heap.size, 5, none⟩ = some (.slice v.Ai d.lim.length v.ci) := by rw [cell_blk hBr.out]; rfl
     replace hsm1 := Aside0.mk hsm1
     replace hsm2 := Aside0.mk hsm2
     clear hlt hk hsm ha hb3 hb1 hB2 HS
     go_wp2_with fail
     refine (HMk.out _ hbr).mono ?_
     intro e w3 hg
     obtain ⟨GA, gc, GM, gm, rfl, g1, g2, hb4⟩ := hg.reads
     clear hg z0 z1 z2 z3 z4 z5
     obtain ⟨w4, hw4⟩ : ∃ w4, w4 = w3.alloc (.cells #[.slice GA G.chs.length gc, .slice GM G.mid.length gm] 31) := ⟨_, rfl⟩
     have hb34 : Below w3.heap.size w3 w4 := by rw [hw4]; exact (Below.refl _ _).alloc (Nat.le_refl _) _
     have hB4' : w4.heap[w3.heap.size]? = some (.cells #[.slice GA G.chs.length gc, .slice GM G.mid.length gm] 31 (0, 0)) := by rw [hw4]; exact heap_alloc_new _ _
     have hB3 := (hb4.block _ (blk_lt hBr.out)).trans hBr.out
     have hbr3 := bnx hbr hb4
     have z0 : w3.cell? ⟨w.heap.size, 0, none⟩ = some (.bool d.sh) := by rw [cell_blk hB3]; rfl
     have z1 : w3.cell? ⟨w.heap.size, 1, none⟩ = some (.slice v.Ag d.gr.length v.cg) := by rw [cell_blk hB3]; rfl
     have z2 : w3.cell? ⟨w.heap.size, 2, none⟩ = some (.slice v.Am d.mid.length v.cm) := by rw [cell_blk hB3]; rfl
     have z3 : w3.cell? ⟨w.heap.size, 3, none⟩ = some (.slice v.Af d.fil.length v.cf) := by rw [cell_blk hB3]; rfl
     have z4 : w3.cell? ⟨w.heap.size, 4, none⟩ = some (.slice v.Al d.lis.length v.cl) := by rw [cell_blk hB3]; rfl
     have z5 : w3.cell? ⟨w.heap.size, 5, none⟩ = some (.slice v.Ai d.lim.length v.ci) := by rw [cell_blk hB3]; rfl
     have hbr4 := bnx hbr3 hb34
     have hG4 : GrAt w4 G GA gc GM gm := ⟨Kd.C_below g1 hb34, Kd.C_below g2 hb34⟩
     have hbd3 : w.heap.size < w3.heap.size := blk_lt hB3
     obtain ⟨b7, hb7⟩ : ∃ b7, b7 = w3.heap.size := ⟨_, rfl⟩
     rw [← hb7] at hB4'
     replace hG4 := Aside0.mk hG4
     replace hB4' := Aside0.mk hB4'
     replace hb7 := Aside0.mk hb7
     clear g1 g2 hb4 hb34 hbr hbr3 hBr HMk hB3
     go_wp2_with fail
     rw [← hw4, ← hb7.out]
     refine (HRk.out _ hbr4).mono ?_
     intro e w5 hg
     obtain ⟨RA, rc, RM, rm, rfl, g1, g2, hb5⟩ := hg.reads
     clear hg z0 z1 z2 z3 z4 z5 hbd3 hw4 hb7
     have hB5 := (hb5.block _ (blk_lt hB4'.out)).trans hB4'.out
     have y0 : w5.cell? ⟨b7, 0, none⟩ = some (.slice GA G.chs.length gc) := by rw [cell_blk hB5]; rfl
     have y1 : w5.cell? ⟨b7, 1, none⟩ = some (.slice GM G.mid.length gm) := by rw [cell_blk hB5]; rfl
     have hb7s : b7 < w5.heap.size := blk_lt hB5
     obtain ⟨w6, hw6⟩ : ∃ w6, w6 = w5.alloc (.cells #[.slice RA G.chs.length rc, .slice RM G.mid.length rm] 31) := ⟨_, rfl⟩
     have hb56 : Below w5.heap.size w5 w6 := by rw [hw6]; exact (Below.refl _ _).alloc (Nat.le_refl _) _
     have hbr6 := bnx (bnx hbr4 hb5) hb56
     have hSG := Aside0.mk (SameGranule_calls G GA RA gc rc GM RM gm rm w6 ((hG4.out.below hb5).below hb56) ⟨Kd.C_below g1 hb56, Kd.C_below g2 hb56⟩ hsm1.out hsm2.out)
     clear g1 g2 hb5 hb56 hbr4 hG4 hB4' hB5 HRk
     go_wp2_with fail
     rw [← hw6]
     refine hSG.out.mono ?_
     rintro e w7 ⟨rfl, hb7⟩
     replace hbr6 := bnx hbr6 hb7
     clear hb7 y0 y1 hb7s hSG hw6
     go_wp2_with fail
     refine (HAw.out _ hbr6).mono ?_
     rintro e w8 ⟨rfl, hb8⟩
     replace hbr6 := bnx hbr6 hb8
     clear hb8
     go_wp2
     go_ret
     exact ⟨rfl, hbr6⟩
  ·have t17 : decide (4 < (sc.length : Int)) = true := decide_eq_true (by omega)
   clear hL hB hd hc hS hf h4 hB1
   go_enter Tryz.func3, Tryz.ntmps3
   go_wp2_with fail
   rw [← hw1]
   refine (HF.out _ hb1).mono ?_
   rintro e w2 ⟨rfl, hb2⟩
   replace hb1 := bnx hb1 hb2
   clear hb2 hw1
   go_wp2_with fail
   refine (HAw.out _ hb1).mono ?_
   rintro e w2 ⟨rfl, hb2⟩
   replace hb1 := bnx hb1 hb2
   go_wp2
   go_ret
   exact ⟨rfl, hb1⟩
end Gn

end Go.Proofs.YtnflnicdjioflaaGreatDoor
