/- A part of the proof. -/
import Derived.Test.YtnflnicdjioflaaGreatDoorQmbs
set_option linter.unusedVariables false
set_option linter.unusedSimpArgs false
namespace Go.Proofs.YtnflnicdjioflaaGreatDoor
open Go.RowKit Go.Proofs.YtnflnicdjioflaaGreatDoorW.PrintWords Go.Proofs.YtnflnicdjioflaaGreatDoorW.PrintLast Go.Proofs.YtnflnicdjioflaaGreatDoorW.PrintMore
namespace Gn
attribute [local go_sem] max2_int min2_int max_two min_two max_three min_three
open Q15
open Q21
open Bts
open Bk
structure GrAt (w : World) (g : Gr) (A : Option Addr) (c : Nat) (M : Option Addr) (m : Nat) : Prop where
 chs : kCh.C w A g.chs.length g.chs
 mid : Kd.bool.C w M g.mid.length g.mid
theorem GrAt.below {w W : World} {g : Gr} {A M : Option Addr} {c m : Nat} (h : GrAt w g A c M m) (hb : Below w.heap.size w W) : GrAt W g A c M m := ⟨Kd.C_below h.chs hb, Kd.C_below h.mid hb⟩
abbrev grV (g : Gr) (A : Option Addr) (c : Nat) (M : Option Addr) (m : Nat) : Value := .agg #[.slice A g.chs.length c, .slice M g.mid.length m]
def Sm (g : Gr) : Prop := ∀ x ∈ g.chs, x.sc.length ≤ 1000000 ∧ x.qu.length ≤ 1000000 ∧ x.fi.length ≤ 1000000
set_option maxRecDepth 100000 in
set_option maxHeartbeats 2000000 in
theorem Check_calls (g : Gr) (A : Option Addr) (c : Nat) (M : Option Addr) (m : Nat) (w : World) (hL : Laid w) (h : GrAt w g A c M m) (hs : Sm g) :
  Calls Tryz.prog 21 #[grV g A c M m] w fun e w' => e = .returned (.int .i64 (if grOk g = true then 0 else 1)) ∧ Below w.heap.size w w' := by
 have hu31 := Tryz.underlying31
 unfold grV
 obtain ⟨w1, hw1⟩ : ∃ w1, w1 = w.alloc (.cells #[.slice A g.chs.length c, .slice M g.mid.length m] 31) := ⟨_, rfl⟩
 have hb : Below w.heap.size w w1 := by rw [hw1]; exact (Below.refl _ _).alloc (Nat.le_refl _) _
 have HC := Aside0.mk (fun (W : World) (hb : Below w.heap.size w W) => widthsOf_calls A M c m g W (hL.below hb) (h.below hb).chs hs)
 unfold WOut at HC
 obtain ⟨ws, hws⟩ : ∃ ws, ws = widthsL (chK g 0).sh (chK g 0).gr := ⟨_, rfl⟩
 rw [← hws] at HC
 clear hL h hs hws
 cases hg : grOk g with
 | true =>
  simp only [hg, if_true] at HC
  rw [if_pos rfl]
  clear hg
  go_enter Tryz.func21, Tryz.ntmps21
  go_wp2_with fail
  rw [← hw1]
  refine (HC.out _ hb).mono ?_
  rintro e w2 ⟨B, q, rfl, -, hbn⟩
  replace hb := bnx hb hbn
  clear hbn hw1
  go_wp2
  go_ret
  exact ⟨rfl, hb⟩
 | false =>
  simp only [hg, Bool.false_eq_true, if_false] at HC
  rw [if_neg (by decide)]
  clear hg
  go_enter Tryz.func21, Tryz.ntmps21
  go_wp2_with fail
  rw [← hw1]
  refine (HC.out _ hb).mono ?_
  rintro e w2 ⟨rfl, hbn⟩
  replace hb := bnx hb hbn
  clear hbn hw1
  go_wp2
  go_ret
  exact ⟨rfl, hb⟩
set_option maxRecDepth 100000 in
set_option maxHeartbeats 2000000 in
theorem Cost_yes (g : Gr) (A : Option Addr) (c : Nat) (M : Option Addr) (m : Nat) (w : World) (hL : Laid w) (hLB : LaidB w) (hB4 : 4 ≤ w.heap.size) (h : GrAt w g A c M m) (hs : Sm g) (hg : grOk g = true) (hBW : ∀ c ∈ g.chs, ∀ p ∈ ((Sec.wL (widthsL (chK g 0).sh (chK g 0).gr) c.qu (widthsL (chK g 0).sh (chK g 0).gr).length).getD 0 Sec.w0).secs, BW p.1.toNat) :
  Calls Tryz.prog 19 #[grV g A c M m] w fun e w' => e = .returned (.tuple #[.int .i64 (costG g), .int .i64 0]) ∧ Below w.heap.size w w' := by
 have hu31 := Tryz.underlying31
 unfold grV
 obtain ⟨w1, hw1⟩ : ∃ w1, w1 = w.alloc (.cells #[.slice A g.chs.length c, .slice M g.mid.length m] 31) := ⟨_, rfl⟩
 have hb : Below w.heap.size w w1 := by rw [hw1]; exact (Below.refl _ _).alloc (Nat.le_refl _) _
 have hB1 : w1.heap[w.heap.size]? = some (.cells #[.slice A g.chs.length c, .slice M g.mid.length m] 31 (0, 0)) := by rw [hw1]; exact heap_alloc_new _ _
 have HC := Aside0.mk (fun (W : World) (hb : Below w.heap.size w W) => widthsOf_calls A M c m g W (hL.below hb) (h.below hb).chs hs)
 unfold WOut at HC
 simp only [hg, if_true] at HC
 obtain ⟨ws, hws⟩ : ∃ ws, ws = widthsL (chK g 0).sh (chK g 0).gr := ⟨_, rfl⟩
 rw [← hws] at HC hBW
 have HWr := Aside0.mk (fun (W : World) (B : Option Addr) (q : Nat) (hb : Below w.heap.size w W) (hC : (Kd.int .i64).C W B ws.length ws) => written_calls A M B c m q g ws W hws (hLB.below hb) (by have := hb.size; omega) (h.below hb).chs (h.below hb).mid hC (grOk_iff.1 hg) hBW)
 clear hL h hs hg hws hLB hB4 hBW
 go_enter Tryz.func19, Tryz.ntmps19
 go_wp2_with fail
 rw [← hw1]
 refine (HC.out _ hb).mono ?_
 rintro e w2 ⟨B, q, rfl, hC, hbn⟩
 have hB2 := (hbn.block _ (blk_lt hB1)).trans hB1
 have z0 : w2.cell? ⟨w.heap.size, 0, none⟩ = some (.slice A g.chs.length c) := by rw [cell_blk hB2]; rfl
 have z1 : w2.cell? ⟨w.heap.size, 1, none⟩ = some (.slice M g.mid.length m) := by rw [cell_blk hB2]; rfl
 replace hb := bnx hb hbn
 replace hC := Aside0.mk hC
 clear hbn hw1 hB1 hB2 HC
 go_wp2_with fail
 refine (HWr.out w2 B q hb hC.out).mono ?_
 rintro e w3 ⟨p, q1, bs, rfl, hW, hlen, hbn⟩
 replace hb := bnx hb hbn
 have HLn := Aside0.mk (Len_calls w2.heap.size p q1 bs w3 hW)
 rw [hlen] at HLn
 clear hbn hW hlen z0 z1 HWr hC
 go_wp2_with fail
 refine HLn.out.mono ?_
 rintro e w4 ⟨rfl, rfl⟩
 go_wp2
 go_ret2
 exact ⟨rfl, hb⟩
end Gn

namespace Gn
attribute [local go_sem] max2_int min2_int max_two min_two max_three min_three
open Q15
open Q21
open Bts
def grpS (sh : Bool) : List Int := if sh then [8] else []
def manyS (sh : Bool) : Nat := if sh then 4 else 15
def chS (sh : Bool) : Ch := ⟨sh, grpS sh, List.replicate (manyS sh) 0, List.replicate 128 0, []⟩
def silG (n : Nat) (sh : Bool) : Gr := ⟨List.replicate n (chS sh), if n = 2 then List.replicate (manyS sh) false else []⟩
theorem make_boolsN (c : Nat) (hc : c ≤ 1000000) : ∀ W : World, (Instr.makeSlice 23 (.int .i64 (c : Int)) (.int .i64 (c : Int))).run Tryz.prog W = .ok (.slice (some ⟨W.heap.size, 0, none⟩) c c) (W.alloc (.cells (List.replicate c (Value.bool false)).toArray 4)) := fun W => by
  rw [Pre.make_run 23 4 (.bool false) 1 1 Tryz.underlying23 info_bool c (by decide) (by omega) W]
  congr 3
  show madeCells #[.bool false] (c * 1) = _
  apply Array.ext
  · simp [size_madeCells]
  · intro i h1 h2
    simp [madeCells, Nat.mod_one]
theorem R_zeros (W : World) (n base : Nat) (hb : base ≤ W.heap.size) (hn : n ≤ 1000000) : (Kd.int .i64).R 3 (W.alloc (.cells (List.replicate n (Value.int .i64 0)).toArray 3)) base (fun _ => True) (.slice (some ⟨W.heap.size, 0, none⟩) n n) (List.replicate n 0) := by
  refine Kd.R_of_own (enc := Value.int .i64) (h1 := fun _ => rfl) ?_ (fun _ _ => trivial)
  refine ⟨by simp [encs], .inr ⟨W.heap.size, n, _, by rw [List.length_replicate], hb, heap_alloc_new W _, by rw [List.length_replicate]; exact Nat.le_refl _, by unfold maxLen; omega, by simp, ?_⟩⟩
  simp [encs]
theorem RB_zeros (W : World) (n base : Nat) (hb : base ≤ W.heap.size) (hn : n ≤ 1000000) : Kd.bool.R 4 (W.alloc (.cells (List.replicate n (Value.bool false)).toArray 4)) base (fun _ => True) (.slice (some ⟨W.heap.size, 0, none⟩) n n) (List.replicate n false) := by
  refine Kd.R_of_own (enc := Value.bool) (h1 := fun _ => rfl) ?_ (fun _ _ => trivial)
  refine ⟨by simp [encs], .inr ⟨W.heap.size, n, _, by rw [List.length_replicate], hb, heap_alloc_new W _, by rw [List.length_replicate]; exact Nat.le_refl _, by unfold maxLen; omega, by simp, ?_⟩⟩
  simp [encs]
set_option maxRecDepth 100000 in
set_option maxHeartbeats 8000000 in
theorem Silence_false (n : Nat) (hn : n = 1 ∨ n = 2) (w : World) (hL : Laid w) :
    Calls Tryz.prog 16 #[.int .i64 n, .bool false] w (GOut (silG n false) 0 w) := by
  have hu31 := Tryz.underlying31
  have hu46 := Tryz.underlying46
  have t1 : decide ((n : Int) < 1) = false := decide_eq_false (by omega)
  have t2 : decide (2 < (n : Int)) = false := decide_eq_false (by omega)
  have hnI : (n : Int) ≤ 2 := by omega
  have Hn := Aside0.mk hn
  obtain ⟨w1, hw1⟩ : ∃ w1, w1 = w.alloc (.cells #[.slice none 0 0, .slice none 0 0] 31) := ⟨_, rfl⟩
  have hb : Below w.heap.size w w1 := by rw [hw1]; exact (Below.refl _ _).alloc (Nat.le_refl _) _
  have hR1 : w1.heap[w.heap.size]? = some (.cells #[.slice none 0 0, .slice none 0 0] 31 (0, 0)) := by rw [hw1]; exact heap_alloc_new _ _
  have HL := Aside0.mk hL
  obtain ⟨w2, hw2⟩ : ∃ w2, w2 = w1 := ⟨_, rfl⟩
  have hb12 : Below w1.heap.size w1 w2 := by rw [hw2]; exact Below.refl _ _
  have hC8 : (Kd.int .i64).C w2 none 0 [] := Kd.C_nil _ _
  have HCnt := Aside0.mk (Count_calls false none 0 [] w2 (HL.out.below (bnx hb hb12)) hC8)
  have hR2 := (hb12.block _ (blk_lt hR1)).trans hR1
  have hb2 := bnx hb hb12
  have HC8 := Aside0.mk hC8
  have hmk : ∀ W : World, (Instr.makeSlice 22 (.int .i64 15) (.int .i64 15)).run Tryz.prog W = .ok (.slice (some ⟨W.heap.size, 0, none⟩) 15 15) (W.alloc (.cells (List.replicate 15 (Value.int .i64 0)).toArray 3)) := Sec.make_ints 15 (by omega)
  have hmk2 : ∀ W : World, (Instr.makeSlice 22 (.int .i64 128) (.int .i64 128)).run Tryz.prog W = .ok (.slice (some ⟨W.heap.size, 0, none⟩) 128 128) (W.alloc (.cells (List.replicate 128 (Value.int .i64 0)).toArray 3)) := Sec.make_ints 128 (by omega)
  have hmk3 : ∀ W : World, (Instr.makeSlice 23 (.int .i64 15) (.int .i64 15)).run Tryz.prog W = .ok (.slice (some ⟨W.heap.size, 0, none⟩) 15 15) (W.alloc (.cells (List.replicate 15 (Value.bool false)).toArray 4)) := make_boolsN 15 (by omega)
  replace hmk := Aside0.mk hmk
  replace hmk2 := Aside0.mk hmk2
  clear hn hL hC8
  go_enter Tryz.func16, Tryz.ntmps16
  go_wp2_with fail
  rw [← hw1]
  rw [← hw2]
  refine HCnt.out.mono ?_
  rintro e w3 ⟨rfl, hb3⟩
  have hR3 := (hb3.block _ (blk_lt hR2)).trans hR2
  have hb23 := Aside0.mk hb3
  replace hb3 := bnx hb2 hb3
  clear hR1 hR2 hb2 hb12 hb hw1 HCnt hw2
  have he1 : (divW false []).length = 15 := by decide +kernel
  have he2 : divE false [] = 0 := by decide +kernel
  rw [he1, he2]
  rw [show ((15 : Nat) : Int) = 15 from rfl]
  clear he1 he2
  obtain ⟨bg, hbg⟩ : ∃ bg, bg = w3.heap.size := ⟨_, rfl⟩
  obtain ⟨w4, hw4⟩ : ∃ w4, w4 = w3.alloc (.cells #[.slice none 0 0, .slice none 0 0] 31) := ⟨_, rfl⟩
  have hb34 : Below w3.heap.size w3 w4 := by rw [hw4]; exact (Below.refl _ _).alloc (Nat.le_refl _) _
  have hG4 : w4.heap[bg]? = some (.cells #[.slice none 0 0, .slice none 0 0] 31 (0, 0)) := by rw [hw4, hbg]; exact heap_alloc_new _ _
  have hs4 : w4.heap.size = bg + 1 := by rw [hw4, hbg]; simp
  have hR4 := (hb34.block _ (blk_lt hR3)).trans hR3
  have hb4 := bnx hb3 hb34
  have hb24 := Aside0.mk (bnx hb23.out hb34)
  have hbgw : Aside0 (w.heap.size < bg) := ⟨by rw [hbg]; exact blk_lt hR3⟩
  have HC4 := Aside0.mk (Kd.C_below HC8.out hb24.out)
  clear hR3 hb3 hb23 hb34 HC8 HL hb24
  go_wp2_with fail
  rw [← hw4, ← hbg]
  clear hw4 hbg
  replace hR4 := Aside0.mk hR4
  replace hs4 := Aside0.mk hs4
  go_loopw [27] (fun i wr => ∃ k : Nat, i = .int .i64 k ∧ k ≤ n ∧ Aside0 (∃ vC, wr.heap[bg]? = some (.cells #[vC, .slice none 0 0] 31 (0, 0)) ∧ kCh.R 46 wr (bg + 1) (fun _ => True) vC (List.replicate k (chS false)) ∧ Kp bg none w4 wr)) (fun i _ => n - (intOf i).toNat)
  case atStart => exact ⟨0, rfl, by omega, ⟨_, hG4, Kd.R_nil _ _ _ _ _, Kp.refl _ _ _⟩⟩
  case round =>
    obtain ⟨k, rfl, hk, hI⟩ := hrel
    obtain ⟨vC, hG, HR, hKp⟩ := hI.out
    clear hI hG4
    obtain ⟨aC, cC, rfl⟩ := Kd.R_slice HR
    rw [List.length_replicate] at hG HR
    by_cases hlt : k < n
    · have hkI : (k : Int) < (n : Int) := by omega
      have hlt' := Aside0.mk hlt
      have HCw := Aside0.mk (Sec.C_kp HC4.out hKp (fun ad e => by cases e))
      have hbr : Aside0 (bg + 1 ≤ wr.heap.size) := ⟨by have := hKp.size; have := hs4.out; omega⟩
      have hown : Aside0 (∀ b, wr.heap.size ≤ b → some b ≠ (Value.slice aC k cC).ownBlock) := ⟨fun b hb e => by have := ((Kd.R_bound HR).1 b e.symm).2.2.1; omega⟩
      have hgne : some bg ≠ (Value.slice aC k cC).ownBlock := fun e => by have := ((Kd.R_bound HR).1 bg e.symm).2.1; omega
      have hS6 : Aside0 (∀ W, Below wr.heap.size wr W → W.cell? ⟨bg, 0, none⟩ = some (.slice aC k cC)) := ⟨fun W hb => by rw [cell_blk ((hb.block _ (blk_lt hG)).trans hG)]; rfl⟩
      have HG := Aside0.mk hG
      have HRr := Aside0.mk HR
      have HKp := Aside0.mk hKp
      replace hgne := Aside0.mk hgne
      clear hlt hG HR hKp hk
      go_upto_region 10 with fail
      refine wp_region_last_drew (S := fun W => W.cell? ⟨bg, 0, none⟩ = some (.slice aC k cC)) (ds := [12]) (by kernel_rfl) (hS6.out _ (Below.refl _ _).drew) (fun hHeld => ?_)
      (refine Tk.tl 0 (.pointer (some ⟨bg, 0, none⟩)) hHeld ?_)
      (refine Tk.tl 1 (.slice aC k cC) hHeld ?_)
      (refine Tk.tl 2 (.bool false) hHeld ?_)
      (refine Tk.tl 3 (.slice none 0 0) hHeld ?_)
      (refine Tk.tl 5 (.int .i64 15) hHeld ?_)
      refine Ord.grow_put 3 wr _ #[true, true, true, true, true, true, true, true, true, true, false, false, false] [(4, 33), (6, 35), (7, 36), (8, 37), (9, 38)]
        [(4, fun v w => (Kd.int .i64).R 3 w wr.heap.size (fun _ => True) v []),
         (6, fun v w => (Kd.int .i64).R 3 w wr.heap.size (fun _ => True) v (List.replicate 15 0)),
         (7, fun v w => (Kd.int .i64).R 3 w wr.heap.size (fun _ => True) v (List.replicate 128 0)),
         (8, fun v w => ∃ v1 v2 v3, v = .agg #[.bool false, v1, v2, v3, .slice none 0 0] ∧ (Kd.int .i64).R 3 w wr.heap.size (fun _ => True) v1 [] ∧ (Kd.int .i64).R 3 w wr.heap.size (fun _ => True) v2 (List.replicate 15 0) ∧ (Kd.int .i64).R 3 w wr.heap.size (fun _ => True) v3 (List.replicate 128 0)),
         (9, fun v w => ∃ g v1 v2 v3, v = .slice (some ⟨g, 0, none⟩) 1 1 ∧ w.heap[g]? = some (.cells #[.bool false, v1, v2, v3, .slice none 0 0] 46 (0, 0)) ∧ (Kd.int .i64).R 3 w wr.heap.size (fun _ => True) v1 [] ∧ (Kd.int .i64).R 3 w wr.heap.size (fun _ => True) v2 (List.replicate 15 0) ∧ (Kd.int .i64).R 3 w wr.heap.size (fun _ => True) v3 (List.replicate 128 0))]
        rfl (by decide) (by kernel_rfl) (fun W hb => hS6.out W hb) ((Below.refl _ _).drew) ?gstays ?gobl ?grest
      case gstays =>
        refine Ord.staysCons ?_ (Ord.staysCons ?_ (Ord.staysCons ?_ (Ord.staysCons ?_ (Ord.staysCons ?_ Ord.staysNil))))
        · rintro v W W' hb h
          exact Kd.R_below h hb
        · rintro v W W' hb h
          exact Kd.R_below h hb
        · rintro v W W' hb h
          exact Kd.R_below h hb
        · rintro v W W' hb ⟨v1, v2, v3, e, h1, h2, h3⟩
          exact ⟨v1, v2, v3, e, Kd.R_below h1 hb, Kd.R_below h2 hb, Kd.R_below h3 hb⟩
        · rintro v W W' hb ⟨g, v1, v2, v3, e, e2, h1, h2, h3⟩
          exact ⟨g, v1, v2, v3, e, (hb.block _ (blk_lt e2)).trans e2, Kd.R_below h1 hb, Kd.R_below h2 hb, Kd.R_below h3 hb⟩
      case gobl =>
        refine Ord.AllO.cons ?_ (Ord.AllO.cons ?_ (Ord.AllO.cons ?_ (Ord.AllO.cons ?_ (Ord.AllO.cons ?_ Ord.AllO.nil))))
        · rintro o x W K ho hb hdp hK
          cases ho
          refine goes_ Tryz.func28 (by kernel_rfl) rfl #[.slice none 0 0] (by kernel_rfl) rfl rfl (by kernel_rfl) ((Clone_calls none 0 [] W (Kd.C_below HCw.out hb) (by simp)).mono ?_)
          rintro e w1 ⟨v, rfl, r1, r2⟩
          exact ⟨_, rfl, Ord.leafK (by kernel_rfl) (hK.out _ _ r2 (Kd.R_lower r1 hb.size))⟩
        · rintro o x W K ho hb hdp hK
          have ho2 := (Option.some.inj ho)
          simp only [List.getElem_toArray, List.getElem_cons_succ, List.getElem_cons_zero] at ho2
          clear ho hdp
          subst ho2
          generalize hA : Ord.frA _ _ x = A9
          have hev : A9.tmps[34]?.getD undef = .int .i64 15 := by rw [← hA]; kernel_rfl
          refine value_ (w1 := W.alloc (.cells (List.replicate 15 (Value.int .i64 0)).toArray 3)) (v := .slice (some ⟨W.heap.size, 0, none⟩) 15 15) (by rw [← hA]; kernel_rfl) rfl (by have h9 := hmk.out; clear hA; go_simp) ?_
          rw [← hA]
          exact Ord.leafK (by kernel_rfl) (hK.out _ _ ((Below.refl _ _).alloc (Nat.le_refl _) _) (R_zeros W 15 _ hb.size (by omega)))
        · rintro o x W K ho hb hdp hK
          cases ho
          refine value_ (w1 := W.alloc (.cells (List.replicate 128 (Value.int .i64 0)).toArray 3)) (v := .slice (some ⟨W.heap.size, 0, none⟩) 128 128) (by kernel_rfl) rfl (by have h9 := hmk2.out; simp only [Ord.frA, List.foldl_cons, List.foldl_nil]; go_simp) ?_
          exact Ord.leafK (by kernel_rfl) (hK.out _ _ ((Below.refl _ _).alloc (Nat.le_refl _) _) (R_zeros W 128 _ hb.size (by omega)))
        · rintro o x W K ho hb hdp hK
          cases ho
          have h1 := hdp _ (.head _) (by kernel_rfl)
          have h2 := hdp _ (.tail _ (.head _)) (by kernel_rfl)
          have h3 := hdp _ (.tail _ (.tail _ (.head _))) (by kernel_rfl)
          dsimp only at h1 h2 h3
          obtain ⟨A1, q1, k1⟩ := Kd.R_slice h1
          obtain ⟨A2, q2, k2⟩ := Kd.R_slice h2
          obtain ⟨A3, q3, k3⟩ := Kd.R_slice h3
          refine value_ (w1 := W) (v := .agg #[.bool false, x 4, x 6, x 7, .slice none 0 0]) (by kernel_rfl) rfl (by simp only [Ord.frA, List.foldl_cons, List.foldl_nil]; rw [k1, k2, k3]; kernel_rfl) ?_
          exact Ord.leafK (by kernel_rfl) (hK.out _ _ (Below.refl _ _) ⟨x 4, x 6, x 7, rfl, h1, h2, h3⟩)
        · rintro o x W K ho hb hdp hK
          cases ho
          obtain ⟨v1, v2, v3, e1, h1, h2, h3⟩ := hdp _ (.tail _ (.tail _ (.tail _ (.head _)))) (by kernel_rfl)
          dsimp only at e1
          obtain ⟨A1, q1, rfl⟩ := Kd.R_slice h1
          obtain ⟨A2, q2, rfl⟩ := Kd.R_slice h2
          obtain ⟨A3, q3, rfl⟩ := Kd.R_slice h3
          refine value_ (w1 := W.alloc (.cells #[.bool false, .slice A1 ([] : List Int).length q1, .slice A2 (List.replicate 15 (0 : Int)).length q2, .slice A3 (List.replicate 128 (0 : Int)).length q3, .slice none 0 0] 46)) (v := .slice (some ⟨W.heap.size, 0, none⟩) 1 1) (by kernel_rfl) rfl (by simp only [Ord.frA, List.foldl_cons, List.foldl_nil]; rw [e1]; kernel_rfl) ?_
          have hba := (Below.refl W.heap.size W).alloc (Nat.le_refl _) (.cells #[.bool false, .slice A1 ([] : List Int).length q1, .slice A2 (List.replicate 15 (0 : Int)).length q2, .slice A3 (List.replicate 128 (0 : Int)).length q3, .slice none 0 0] 46)
          exact Ord.leafK (by kernel_rfl) (hK.out _ _ hba ⟨_, _, _, _, rfl, heap_alloc_new _ _, Kd.R_below h1 hba, Kd.R_below h2 hba, Kd.R_below h3 hba⟩)
      case grest =>
        intro x w7 hb7 hφ
        obtain ⟨g, v1, v2, v3, e1, e2, r1, r2, r3⟩ := hφ _ (.tail _ (.tail _ (.tail _ (.tail _ (.head _)))))
        dsimp only at e1
        clear hφ
        have hG7 := (hb7.block _ (blk_lt HG.out)).trans HG.out
        have z0 : w7.cell? ⟨bg, 0, none⟩ = some (.slice aC k cC) := by rw [cell_blk hG7]; rfl
        have HR7 := Kd.R_below HRr.out hb7
        have hM7 : ReadsRow (kCh.M w7 (bg + 1) (fun b => wr.heap.size ≤ b)) 5 w7 (some ⟨g, 0, none⟩) 1 [chS false] := ⟨rfl, by omega, fun _ => ⟨_, rfl, fun j p hj => by
          have hj0 : j = 0 := by
            have := (List.getElem?_eq_some_iff.1 hj).1
            simp at this
            omega
          subst hj0
          obtain rfl : chS false = p := by simpa using hj
          refine ⟨[.bool false, v1, v2, v3, .slice none 0 0], rfl, kCh_mkM w7 (bg + 1) (fun b => wr.heap.size ≤ b) (chS false) (R_based r1 hbr.out) (R_based r2 hbr.out) (R_based r3 hbr.out) (Kd.R_nil _ _ _ _ _), fun i u hi => ?_⟩
          rw [show (⟨g, 0, none⟩ : Addr).add (0 * 5 + i) = ⟨g, i, none⟩ by
            unfold Addr.add
            by_cases h0 : i = 0
            · simp [h0]
            · simp [h0], cell_blk e2]
          simpa using hi⟩⟩
        have hs7 : wr.heap.size ≤ w7.heap.size := hb7.size
        have hK7 := Aside0.mk (HKp.out.then_below (hb7.mono HKp.out.size))
        have hln : Aside0 (((List.replicate k (chS false)).length + 1) * 104 ≤ 140737488355328) := ⟨by rw [List.length_replicate]; omega⟩
        simp only [Ord.frA, List.foldl_cons, List.foldl_nil]
        rw [e1]
        clear e1 e2 r1 r2 r3
        simp only [Act.put, List.setIfInBounds_toArray, List.set_cons_zero, List.set_cons_succ]
        (refine wpAnyLast_ready (rs := [10]) (by kernel_rfl) (by simp) ?_; refine AllReadyL.cons rfl (by decide) (fun K hK => ?_) AllReadyL.nil)
        refine Kd.R_append_rows_step kCh (Rr := kCh.M w7 (bg + 1) (fun b => wr.heap.size ≤ b)) (w0 := w7) (bg + 1) rfl (.tmp 30) (.tmp 38) 29 46 (.agg #[(.bool false), (.slice none 0 0), (.slice none 0 0), (.slice none 0 0), (.slice none 0 0)]) 104 rfl Tryz.underlying29 info_ch rfl (by decide) (by decide) (.slice aC k cC) (List.replicate k (chS false)) [chS false] (some ⟨g, 0, none⟩) 1 1 (fun _ => True) (fun b => wr.heap.size ≤ b) rfl rfl HR7 hM7 (fun _ _ h => h) (fun b hb => ⟨trivial, hown.out b hb⟩) (fun _ _ => trivial) (Below.refl _ _) (by have := hbr.out; omega) hln.out ?_
        intro v8 w8 R8 B8 hg8 hat8
        have hG8 := (hg8.block _ (blk_lt hG7) hgne.out).trans hG7
        have z8 : w8.cell? ⟨bg, 0, none⟩ = some (.slice aC k cC) := by rw [cell_blk hG8]; rfl
        have y8 := frozen_blk hG8 0
        obtain ⟨a8, c8, h8e⟩ := Kd.R_slice R8
        subst h8e
        have hl8 : (List.replicate k (chS false) ++ [chS false]) = List.replicate (k + 1) (chS false) := List.replicate_succ'.symm
        rw [hl8, List.length_replicate] at R8
        rw [hl8, List.length_replicate]
        have hK8 := Aside0.mk (hK7.out.then_below (B8.mono (by have := HKp.out.size; have := hs4.out; omega)))
        have hG8' := Aside0.mk hG8
        replace R8 := Aside0.mk R8
        clear hM7 HR7 hl8 hg8 hat8 hG7 hG8 z0 B8 hb7 hs7
        refine hK.out _ _ z8 (fun hHeld => ?_)
        clear hK K
        try simp only [Act.put, Tk.z1, Tk.z2, Tk.z3, Tk.z4, Tk.z5, Tk.z6]
        (refine Tk.tl 11 (.pointer (some ⟨bg, 0, none⟩)) hHeld ?_)
        (refine wpAnyLast_ready (rs := [12]) (by kernel_rfl) (by simp) ?_; refine AllReadyL.cons_last rfl (by decide) (fun K hK => ?_) AllReadyL.nil)
        go_simp
        go_wp2_with fail
        refine hK.out _ _ ?_
        clear hK K
        try simp only [Act.put, List.setIfInBounds_toArray, List.set_cons_zero, List.set_cons_succ]
        refine wpAnyLast_done (by kernel_rfl) ?_ _
        clear hHeld z8 y8
        go_wp2_with fail
        go_roundw
        case rel => exact ⟨k + 1, by go_num, hlt'.out, ⟨_, blk_set hG8'.out 0 _, Kd.R_mono (Kd.R_far (p := ⟨bg, 0, none⟩) (R_based R8.out (Nat.le_refl _)) (fun b hb => by simp only; omega) _) (fun _ _ => trivial), Kp.setP hK8.out 0 _⟩⟩
        case measure => have := hlt'.out; simp [intOf]; omega
    · obtain rfl : k = n := by omega
      have hR5 := hKp.blk hR4.out (by have := hbgw.out; omega) (by simp)
      have hb5 := hb4.trans (hKp.below (B := w.heap.size) (by have := hbgw.out; omega) (fun k h => by cases h) hb4.size)
      have hbr : bg + 1 ≤ wr.heap.size := by have := hKp.size; have := hs4.out; omega
      have f0 := frozen_blk hR5 0
      have f1 := frozen_blk hR5 1
      have c0 : wr.cell? ⟨w.heap.size, 0, none⟩ = some (.slice none 0 0) := by rw [cell_blk hR5]; rfl
      have c1 : wr.cell? ⟨w.heap.size, 1, none⟩ = some (.slice none 0 0) := by rw [cell_blk hR5]; rfl
      have g0 : wr.cell? ⟨bg, 0, none⟩ = some (.slice aC k cC) := by rw [cell_blk hG]; rfl
      have g1 : wr.cell? ⟨bg, 1, none⟩ = some (.slice none 0 0) := by rw [cell_blk hG]; rfl
      have y1 := frozen_blk hG 1
      have hbgr : bg < wr.heap.size := by omega
      have hwr : w.heap.size < wr.heap.size := by have := hbgw.out; omega
      have hne : w.heap.size ≠ bg := by have := hbgw.out; omega
      replace hR5 := Aside0.mk hR5
      replace hb5 := Aside0.mk hb5
      have hG5 := Aside0.mk hG
      replace HR := Aside0.mk HR
      clear hlt hk hKp hG hR4 hs4 HC4 hb4
      rcases Hn.out with h1 | h2
      · subst h1
        clear y1
        go_wp2_with fail
        have hfin : ((wr.setCell ⟨w.heap.size, 0, none⟩ (.slice aC 1 cC)).setCell ⟨w.heap.size, 1, none⟩ (.slice none 0 0)).heap[w.heap.size]? = some (.cells #[.slice aC 1 cC, .slice none 0 0] 31 (0, 0)) := blk_set (blk_set hR5.out 0 (.slice aC 1 cC)) 1 (.slice none 0 0)
        (try simp only [Exit.inBlock, Exit.then]); refine bodyPost_ret (results_ct rfl _ _ w.heap.size 31 #[.slice aC 1 cC, .slice none 0 0] (0, 0) _ rfl hfin hu31 rfl (by kernel_rfl)) rfl ?_
        have hR9 := Kd.R_lower (Kd.R_mono (Kd.R_far (p := ⟨w.heap.size, 1, none⟩) (Kd.R_far (p := ⟨w.heap.size, 0, none⟩) (R_based HR.out (Nat.le_refl _)) (fun b hb => by have := hbgw.out; simp only; omega) (.slice aC 1 cC)) (fun b hb => by have := hbgw.out; simp only; omega) (.slice none 0 0)) (fun _ _ => trivial)) (show w.heap.size ≤ bg + 1 by have := hbgw.out; omega)
        exact ⟨⟨_, _, rfl, hR9, Kd.R_nil _ _ _ _ _⟩, (hb5.out.setCell (p := ⟨w.heap.size, 0, none⟩) (Nat.le_refl _) _).setCell (p := ⟨w.heap.size, 1, none⟩) (Nat.le_refl _) _⟩
      · subst h2
        go_wp2_with fail
        obtain ⟨W7, hW7⟩ : ∃ W7, W7 = ((wr.setCell ⟨bg, 1, none⟩ (.slice (some ⟨wr.heap.size, 0, none⟩) 15 15)).setCell ⟨w.heap.size, 0, none⟩ (.slice aC 2 cC)).setCell ⟨w.heap.size, 1, none⟩ (.slice (some ⟨wr.heap.size, 0, none⟩) 15 15) := ⟨_, rfl⟩
        have hs7 : W7.heap.size = wr.heap.size := by rw [hW7]; simp [World.setCell]
        have hq7 : W7.heap[w.heap.size]? = some (.cells #[.slice aC 2 cC, .slice (some ⟨wr.heap.size, 0, none⟩) 15 15] 31 (0, 0)) := by rw [hW7]; exact blk_set (blk_set (blk_far hR5.out (p := ⟨bg, 1, none⟩) hne _) 0 (.slice aC 2 cC)) 1 (.slice (some ⟨wr.heap.size, 0, none⟩) 15 15)
        have hb7 : Below w.heap.size w W7 := by rw [hW7]; exact ((hb5.out.setCell (p := ⟨bg, 1, none⟩) (by have := hbgw.out; simp only; omega) _).setCell (p := ⟨w.heap.size, 0, none⟩) (Nat.le_refl _) _).setCell (p := ⟨w.heap.size, 1, none⟩) (Nat.le_refl _) _
        have hR9 := Kd.R_far (p := ⟨w.heap.size, 1, none⟩) (Kd.R_far (p := ⟨w.heap.size, 0, none⟩) (Kd.R_far (p := ⟨bg, 1, none⟩) (R_based HR.out (Nat.le_refl _)) (fun b hb => by simp only; omega) (.slice (some ⟨wr.heap.size, 0, none⟩) 15 15)) (fun b hb => by have := hbgw.out; simp only; omega) (.slice aC 2 cC)) (fun b hb => by have := hbgw.out; simp only; omega) (.slice (some ⟨wr.heap.size, 0, none⟩) 15 15)
        rw [← hW7] at hR9 ⊢
        clear hW7
        have hba := (Below.refl W7.heap.size W7).alloc (Nat.le_refl _) (.cells (List.replicate 15 (Value.bool false)).toArray 4)
        have hRM := RB_zeros W7 15 w.heap.size (by omega) (by omega)
        rw [hs7] at hRM
        have hfin := (hba.block _ (blk_lt hq7)).trans hq7
        (try simp only [Exit.inBlock, Exit.then]); refine bodyPost_ret (results_ct rfl _ _ w.heap.size 31 #[.slice aC 2 cC, .slice (some ⟨wr.heap.size, 0, none⟩) 15 15] (0, 0) _ rfl hfin hu31 rfl (by kernel_rfl)) rfl ?_
        exact ⟨⟨_, _, rfl, Kd.R_lower (Kd.R_mono (Kd.R_below hR9 hba) (fun _ _ => trivial)) (by have := hbgw.out; omega), hRM⟩, bnx hb7 hba⟩
end Gn

namespace Gn
attribute [local go_sem] max2_int min2_int max_two min_two max_three min_three
open Q15
open Q21
open Sca (elb_at)
theorem ch_cells {w W : World} {A : Option Addr} {xs : List Ch} (h : kCh.C w A xs.length xs) (hb : Below w.heap.size w W) {k : Nat} (hk : k < xs.length) :
  ∃ ad A1 c1 A2 c2 A3 c3 A4 c4, A = some ad ∧ W.cell? (ad.add (k * 5)) = some (.bool (xs.getD k ch0).sh) ∧ W.cell? ⟨(ad.add (k * 5)).block, (ad.add (k * 5)).off + 1, none⟩ = some (.slice A1 (xs.getD k ch0).gr.length c1) ∧ W.cell? ⟨(ad.add (k * 5)).block, (ad.add (k * 5)).off + 2, none⟩ = some (.slice A2 (xs.getD k ch0).sc.length c2) ∧ W.cell? ⟨(ad.add (k * 5)).block, (ad.add (k * 5)).off + 3, none⟩ = some (.slice A3 (xs.getD k ch0).qu.length c3) ∧ W.cell? ⟨(ad.add (k * 5)).block, (ad.add (k * 5)).off + 4, none⟩ = some (.slice A4 (xs.getD k ch0).fi.length c4) ∧
   (Kd.int .i64).C W A1 (xs.getD k ch0).gr.length (xs.getD k ch0).gr ∧ (Kd.int .i64).C W A2 (xs.getD k ch0).sc.length (xs.getD k ch0).sc ∧ (Kd.int .i64).C W A3 (xs.getD k ch0).qu.length (xs.getD k ch0).qu ∧ (Kd.int .i64).C W A4 (xs.getD k ch0).fi.length (xs.getD k ch0).fi := by
 obtain ⟨ad, A1, c1, A2, c2, A3, c3, A4, c4, e, hch, g1, g2, g3, g4⟩ := ch_at h hb hk
 have m0 := hch 0 _ rfl
 have m1 := hch 1 _ rfl
 have m2 := hch 2 _ rfl
 have m3 := hch 3 _ rfl
 have m4 := hch 4 _ rfl
 rw [show k * 5 + 4 = k * 5 + 1 + 1 + 1 + 1 by omega, Sec.add_next, Sec.add_next, Sec.add_next, Sec.add_next] at m4
 rw [show k * 5 + 3 = k * 5 + 1 + 1 + 1 by omega, Sec.add_next, Sec.add_next, Sec.add_next] at m3
 rw [show k * 5 + 2 = k * 5 + 1 + 1 by omega, Sec.add_next, Sec.add_next] at m2
 rw [Sec.add_next] at m1
 simp only [Nat.add_assoc, Nat.reduceAdd, Nat.add_zero] at m0 m1 m2 m3 m4
 exact ⟨ad, A1, c1, A2, c2, A3, c3, A4, c4, e, m0, m1, m2, m3, m4, g1, g2, g3, g4⟩
def Sm4 (g : Gr) : Prop := ∀ x ∈ g.chs, x.gr.length ≤ 1000000 ∧ x.sc.length ≤ 1000000 ∧ x.qu.length ≤ 1000000 ∧ x.fi.length ≤ 1000000
theorem getD_mem {xs : List Ch} {k : Nat} (hk : k < xs.length) : xs.getD k ch0 ∈ xs := by rw [List.getD_eq_getElem?_getD, List.getElem?_eq_getElem hk]; exact List.getElem_mem hk
set_option maxRecDepth 100000 in
set_option maxHeartbeats 4000000 in
theorem SameGranule_calls (g : Gr) (A B : Option Addr) (c c' : Nat) (M N : Option Addr) (m m' : Nat) (w : World) (h : GrAt w g A c M m) (h2 : GrAt w g B c' N m') (hn : g.chs.length ≤ 1000 ∧ g.mid.length ≤ 1000) (hs : Sm4 g) :
  Calls Tryz.prog 11 #[grV g A c M m, grV g B c' N m'] w fun e w' => e = .returned (.bool true) ∧ Below w.heap.size w w' := by
 have hu31 := Tryz.underlying31
 have hu46 := Tryz.underlying46
 obtain ⟨xs, mid⟩ := g
 unfold grV
 have HS := Aside0.mk hs
 clear hs
 have h1 := h.chs
 have h1m := h.mid
 have h2c := h2.chs
 have h2m := h2.mid
 dsimp only at h1 h1m h2c h2m hn ⊢
 have HA := Aside0.mk h1
 have HM := Aside0.mk h1m
 have HB := Aside0.mk h2c
 have HN := Aside0.mk h2m
 have hxI : (xs.length : Int) ≤ 1000 ∧ (mid.length : Int) ≤ 1000 := by omega
 obtain ⟨w1, hw1⟩ : ∃ w1, w1 = (w.alloc (.cells #[.slice A xs.length c, .slice M mid.length m] 31)).alloc (.cells #[.slice B xs.length c', .slice N mid.length m'] 31) := ⟨_, rfl⟩
 obtain ⟨hb, hG1, hG2, -⟩ := two_allocs (w := w) hw1
 clear h h2 h1 h1m h2c h2m hn
 go_enter Tryz.func11, Tryz.ntmps11
 go_wp2_with fail
 rw [← hw1]
 clear hw1
 have Hb := Aside0.mk hb
 have z0 : w1.cell? ⟨w.heap.size, 0, none⟩ = some (.slice A xs.length c) := by rw [cell_blk hG1]; rfl
 have z1 : w1.cell? ⟨w.heap.size, 1, none⟩ = some (.slice M mid.length m) := by rw [cell_blk hG1]; rfl
 have y0 : w1.cell? ⟨w.heap.size + 1, 0, none⟩ = some (.slice B xs.length c') := by rw [cell_blk hG2]; rfl
 have y1 : w1.cell? ⟨w.heap.size + 1, 1, none⟩ = some (.slice N mid.length m') := by rw [cell_blk hG2]; rfl
 clear hG1 hG2 hb
 go_wp2_with fail
 go_loopw [29] (fun i wr => ∃ k : Nat, i = .int .i64 k ∧ k ≤ mid.length ∧ Below w1.heap.size w1 wr) (fun i _ => mid.length - (intOf i).toNat)
 case atStart => exact ⟨0, rfl, by omega, Below.refl _ _⟩
 case round =>
  obtain ⟨k, rfl, hk, hb3⟩ := hrel
  have q1 := cnx y1 hb3
  by_cases hlt : k < mid.length
  ·obtain ⟨am, rfl, e1⟩ := elb_at HM.out (bnx Hb.out hb3) hlt
   obtain ⟨an, rfl, e2⟩ := elb_at HN.out (bnx Hb.out hb3) hlt
   have hkI : (k : Int) < (mid.length : Int) := by omega
   obtain ⟨x, hx⟩ : ∃ x, x = mid.getD k false := ⟨_, rfl⟩
   rw [← hx] at e1 e2
   have hlt' := Aside0.mk hlt
   clear hx hlt
   go_wp2
   go_roundw
   case rel => exact ⟨k + 1, by go_num, hlt'.out, hb3⟩
   case measure => have := hlt'.out; simp [intOf]; omega
  ·obtain rfl : k = mid.length := by omega
   have q0 := cnx z0 hb3
   clear hlt hk
   go_wp2_with fail
   obtain ⟨w2, rfl⟩ : ∃ w2 : World, w2 = wr := ⟨_, rfl⟩
   clear q0 q1
   go_loopw [45] (fun i wr => ∃ k : Nat, i = .int .i64 k ∧ k ≤ xs.length ∧ Below w1.heap.size w1 wr) (fun i _ => xs.length - (intOf i).toNat)
   case atStart => exact ⟨0, rfl, by omega, hb3⟩
   case round =>
    obtain ⟨k, rfl, hk, hb4⟩ := hrel
    by_cases hlt : k < xs.length
    ·obtain ⟨ad, A1, c1, A2, c2, A3, c3, A4, c4, rfl, m0, m1, m2, m3, m4, g1, g2, g3, g4⟩ := ch_cells HA.out (bnx Hb.out hb4) hlt
     obtain ⟨ad2, B1, d1, B2, d2, B3, d3, B4, d4, rfl, n0, n1, n2, n3, n4, f1, f2, f3, f4⟩ := ch_cells HB.out (bnx Hb.out hb4) hlt
     have q0 := cnx y0 hb4
     have hkI : (k : Int) < (xs.length : Int) := by omega
     have hlt' := Aside0.mk hlt
     obtain ⟨X, hX⟩ : ∃ X, X = xs.getD k ch0 := ⟨_, rfl⟩
     obtain ⟨s1, s2, s3, s4⟩ := HS.out _ (getD_mem hlt)
     rw [← hX] at s1 s2 s3 s4 m0 m1 m2 m3 m4 n0 n1 n2 n3 n4 g1 g2 g3 g4 f1 f2 f3 f4
     have HSm := Aside0.mk (fun (W : World) (hb : Below wr.heap.size wr W) => And.intro (Same_calls A1 B1 c1 d1 X.gr X.gr W (Kd.C_below g1 hb) (Kd.C_below f1 hb) (by omega)) (And.intro (Same_calls A2 B2 c2 d2 X.sc X.sc W (Kd.C_below g2 hb) (Kd.C_below f2 hb) (by omega)) (And.intro (Same_calls A3 B3 c3 d3 X.qu X.qu W (Kd.C_below g3 hb) (Kd.C_below f3 hb) (by omega)) (Same_calls A4 B4 c4 d4 X.fi X.fi W (Kd.C_below g4 hb) (Kd.C_below f4 hb) (by omega)))))
     simp only [decide_true] at HSm
     have hq0 : w.heap.size + 1 < wr.heap.size := World.block_lt_of_cell? wr _ q0
     have hn0 : (ad2.add (k * 5)).block < wr.heap.size := World.block_lt_of_cell? wr _ n0
     clear hX hlt g1 g2 g3 g4 f1 f2 f3 f4 s1 s2 s3 s4
     go_wp2_with fail
     obtain ⟨W5, hW5⟩ : ∃ W5, W5 = (wr.alloc (.cells #[.bool X.sh, .slice A1 X.gr.length c1, .slice A2 X.sc.length c2, .slice A3 X.qu.length c3, .slice A4 X.fi.length c4] 46)).alloc (.cells #[.bool X.sh, .slice B1 X.gr.length d1, .slice B2 X.sc.length d2, .slice B3 X.qu.length d3, .slice B4 X.fi.length d4] 46) := ⟨_, rfl⟩
     obtain ⟨hb5, hH1, hH2, -⟩ := two_allocs (w := wr) hW5
     rw [← hW5]
     have fin := Aside0.mk (fun (W : World) (h : Below wr.heap.size wr W) => bnx hb4 h)
     have HH := Aside0.mk (fun (W : World) (hb : Below W5.heap.size W5 W) => And.intro (cell_blk ((hb.block _ (blk_lt hH1)).trans hH1)) (cell_blk ((hb.block _ (blk_lt hH2)).trans hH2)))
     clear hW5 m0 m1 m2 m3 m4 n0 n1 n2 n3 n4 q0 hq0 hn0 hH1 hH2 hb4
     refine ((HSm.out _ hb5).1).mono ?_
     rintro e w6 ⟨rfl, hb6⟩
     have u2 : w6.cell? ⟨wr.heap.size, 2, none⟩ = some (.slice A2 X.sc.length c2) := by rw [(HH.out _ hb6).1]; rfl
     have v2 : w6.cell? ⟨wr.heap.size + 1, 2, none⟩ = some (.slice B2 X.sc.length d2) := by rw [(HH.out _ hb6).2]; rfl
     go_wp2_with fail
     refine ((HSm.out _ (bnx hb5 hb6)).2.1).mono ?_
     clear u2 v2
     rintro e w7 ⟨rfl, hbn⟩
     replace hb6 := bnx hb6 hbn
     clear hbn
     have u3 : w7.cell? ⟨wr.heap.size, 3, none⟩ = some (.slice A3 X.qu.length c3) := by rw [(HH.out _ hb6).1]; rfl
     have v3 : w7.cell? ⟨wr.heap.size + 1, 3, none⟩ = some (.slice B3 X.qu.length d3) := by rw [(HH.out _ hb6).2]; rfl
     go_wp2_with fail
     refine ((HSm.out _ (bnx hb5 hb6)).2.2.1).mono ?_
     clear u3 v3
     rintro e w8 ⟨rfl, hbn⟩
     replace hb6 := bnx hb6 hbn
     clear hbn
     have u4 : w8.cell? ⟨wr.heap.size, 4, none⟩ = some (.slice A4 X.fi.length c4) := by rw [(HH.out _ hb6).1]; rfl
     have v4 : w8.cell? ⟨wr.heap.size + 1, 4, none⟩ = some (.slice B4 X.fi.length d4) := by rw [(HH.out _ hb6).2]; rfl
     go_wp2_with fail
     refine ((HSm.out _ (bnx hb5 hb6)).2.2.2).mono ?_
     clear u4 v4
     rintro e w9 ⟨rfl, hbn⟩
     replace hb6 := bnx hb6 hbn
     clear hbn
     replace hb5 := bnx hb5 hb6
     clear hb6 HH HSm
     go_wp2
     go_roundw
     case rel => exact ⟨k + 1, by go_num, hlt'.out, fin.out _ hb5⟩
     case measure => have := hlt'.out; simp [intOf]; omega
    ·obtain rfl : k = xs.length := by omega
     have hbf := bnx Hb.out hb4
     clear hlt hk hb4
     go_wp2
     go_ret
     exact ⟨rfl, hbf⟩
end Gn

end Go.Proofs.YtnflnicdjioflaaGreatDoor
