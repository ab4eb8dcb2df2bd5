/- A part of the proof. -/
import Derived.Test.YtnflnicdjioflaaGreatDoorQmbd
import Derived.Test.YtnflnicdjioflaaGreatDoorQmay
import Derived.Laws.IdiomStrings
set_option linter.unusedVariables false
set_option linter.unusedSimpArgs false
namespace Go.Proofs.YtnflnicdjioflaaGreatDoor
open Go.RowKit Go.Proofs.YtnflnicdjioflaaGreatDoorW.PrintWords Go.Proofs.YtnflnicdjioflaaGreatDoorW.PrintLast Go.Proofs.YtnflnicdjioflaaGreatDoorW.PrintMore
namespace Gn
attribute [local go_sem] max2_int min2_int max_two min_two max_three min_three
open Q15
open Q21 (cell_blk frozen_blk)
open Bts
def strL (gs : List Int) : List UInt8 := gs.map fun n => UInt8.ofNat (48 + n.toNat)
def strG (gs : List Int) : ByteArray := ⟨(strL gs).toArray⟩
def bytI (gs : List Int) : List Int := gs.map fun n => 48 + n
theorem conv_back (gs : List Int) (h8 : ∀ x ∈ gs, 1 ≤ x ∧ x ≤ 8) (a : Option Addr) (p : Nat) (W : World) (hC : (Kd.int .u8).C W a (bytI gs).length (bytI gs)) :
  (convert 107 9 (.slice a (bytI gs).length p)).run Tryz.prog W = .ok (.string (strG gs)) W := by
 obtain ⟨r1, r2, r3⟩ := Kd.reads_of_C (enc := Value.int .u8) (h1 := fun _ => rfl) (d := (0 : Int)) hC
 have hl : (bytI gs).length = (strL gs).length := by simp [bytI, strL]
 by_cases h0 : 0 < (bytI gs).length
 ·obtain ⟨ad, rfl, hc⟩ := r3 h0
  rw [hl]
  refine run_convert_bytes_back (P := Tryz.prog) W 107 9 5 ad p (strL gs) Tryz.underlying107 Tryz.underlying5 Tryz.underlying9 (fun j hj => ?_)
  rw [hc j (by omega)]
  have hg : j < gs.length := by simpa [strL] using hj
  have hb := h8 _ (List.getElem_mem hg)
  simp only [strL, bytI, List.getElem_map, List.getD_eq_getElem?_getD, List.getElem?_map, List.getElem?_eq_getElem hg, Option.map_some, Option.getD_some, UInt8.toNat_ofNat']
  congr 2
  omega
 ·have hn : gs = [] := by
   cases gs with
   | nil => rfl
   | cons a b => simp [bytI] at h0
  subst hn
  cases a with
  | none => exact run_convert_bytes_nil (P := Tryz.prog) (w := W) 107 5 Tryz.underlying107 Tryz.underlying5 0 p 9 Tryz.underlying9
  | some ad => exact run_convert_bytes_back (P := Tryz.prog) W 107 9 5 ad p [] Tryz.underlying107 Tryz.underlying5 Tryz.underlying9 (fun j hj => by simp at hj)
set_option maxRecDepth 100000 in
set_option maxHeartbeats 1000000 in
theorem divisionOf_calls (sh : Bool) (A : Option Addr) (cap : Nat) (gs : List Int) (w : World) (hr : (Kd.int .i64).C w A gs.length gs) (h8 : ∀ x ∈ gs, 1 ≤ x ∧ x ≤ 8) (hl : gs.length ≤ 8) :
  Calls Tryz.prog 66 #[.bool sh, .slice A gs.length cap] w fun e w' => e = .returned (.agg #[.bool sh, .string (strG gs)]) ∧ Below w.heap.size w w' := by
 obtain ⟨W0, hW0⟩ : ∃ W0, W0 = w.alloc (.cells #[.bool false, .string ⟨#[]⟩] 86) := ⟨_, rfl⟩
 have hb0 : Below w.heap.size w W0 := by rw [hW0]; exact (Below.refl _ _).alloc (Nat.le_refl _) _
 have HR := Aside0.mk (Kd.C_below hr hb0)
 have hB0 : W0.heap[w.heap.size]? = some (.cells #[.bool false, .string ⟨#[]⟩] 86 (0, 0)) := by rw [hW0]; exact heap_alloc_new _ _
 have H8 := Aside0.mk h8
 have hlI : (gs.length : Int) ≤ 8 := by omega
 have hu := Tryz.underlying86
 obtain ⟨S, hS⟩ : ∃ S, S = strG gs := ⟨_, rfl⟩
 rw [← hS]
 replace hS := Aside0.mk hS
 clear hr h8 hl
 go_enter Tryz.func66, Tryz.ntmps66
 go_wp2
 rw [← hW0]
 clear hW0
 go_loopw [5, 10] (fun o i wr => ∃ k : Nat, i = .int .i64 k ∧ k ≤ gs.length ∧ Aside0 ((Kd.int .u8).R 5 wr W0.heap.size (fun _ => True) o ((bytI gs).take k)) ∧ Below W0.heap.size W0 wr) (fun _ i _ => gs.length - (intOf i).toNat)
 case atStart => exact ⟨0, rfl, by omega, ⟨Kd.R_nil _ _ _ _ _⟩, Below.refl _ _⟩
 case round =>
  obtain ⟨k, rfl, hk, ho, hb⟩ := hrel
  by_cases hlt : k < gs.length
  ·obtain ⟨ad, rfl, hcell⟩ := el_at HR.out hb hlt
   have hltI : (k : Int) < (gs.length : Int) := by omega
   obtain ⟨q1, q2⟩ := H8.out _ (rd_mem gs k hlt)
   have hT : (bytI gs).take (k + 1) = (bytI gs).take k ++ [48 + rd gs k] := by
    unfold bytI
    rw [← List.map_take, ← List.map_take, take_rd gs k hlt, List.map_append]
    rfl
   have hYl : ((bytI gs).take k).length ≤ 8 := by rw [List.length_take]; omega
   obtain ⟨Y, hY⟩ : ∃ Y, Y = (bytI gs).take k := ⟨_, rfl⟩
   rw [← hY] at ho hT hYl
   obtain ⟨x, hx⟩ : ∃ x, x = rd gs k := ⟨_, rfl⟩
   rw [← hx] at hcell q1 q2 hT
   replace hT := Aside0.mk hT
   have hlt' := Aside0.mk hlt
   have f0 : bits BinOp.and IntKind.i64 x 63 = x := by
    have : x = 1 ∨ x = 2 ∨ x = 3 ∨ x = 4 ∨ x = 5 ∨ x = 6 ∨ x = 7 ∨ x = 8 := by omega
    rcases this with rfl | rfl | rfl | rfl | rfl | rfl | rfl | rfl <;> decide +kernel
   have f1 : (48 + x) % 256 = 48 + x := by omega
   clear hY hx hlt
   go_wp2_with (first | (at_builtin; refine Kd.R_append (Kd.int .u8) (w0 := W0) W0.heap.size rfl (.tmp 14) (.tmp 19) 107 5 (.int .u8 0) 1 rfl Tryz.underlying107 info_u8 rfl (by decide) (by omega) u5 Y (48 + x) [.int .u8 (48 + x)] (fun _ => True) (fun _ => False) rfl rfl rfl (fun _ hk => hk.elim) (fun _ _ => trivial) ho.out hb hb.size (by omega) ?_; intro v1 wA hoA hbA hgA hatA; have HOA := Aside0.mk hoA; have HBA := Aside0.mk hbA; clear hoA hbA hgA hatA))
   go_roundw
   case rel => exact ⟨k + 1, by go_num, hlt'.out, ⟨by rw [hT.out]; exact HOA.out⟩, HBA.out⟩
   case measure => have := hlt'.out; simp [intOf]; omega
  ·obtain rfl : k = gs.length := by omega
   have hR := ho.out
   rw [List.take_of_length_le (by simp [bytI])] at hR
   obtain ⟨a5, p5, rfl, hbd, hC⟩ := Kd.R_reads hR
   have hcv := conv_back gs H8.out a5 p5 wr hC
   have hB := (hb.block w.heap.size (blk_lt hB0)).trans hB0
   have z4 : wr.cell? ⟨w.heap.size, 0, none⟩ = some (.bool false) := by rw [cell_blk hB]; rfl
   have y4 := frozen_blk hB 0
   have z5 : wr.cell? ⟨w.heap.size, 1, none⟩ = some (.string ⟨#[]⟩) := by rw [cell_blk hB]; rfl
   have y5 := frozen_blk hB 1
   have hbw := hb0.trans (hb.mono hb0.size)
   rw [← hS.out] at hcv
   have hlen : (bytI gs).length = gs.length := by simp [bytI]
   rw [hlen] at hcv
   rw [hlen]
   replace hB := Aside0.mk hB
   clear hR ho hbd hC hS hlen H8 hlt hk
   go_wp2_with fail
   (try simp only [Exit.inBlock, Exit.then]); refine bodyPost_ret (results_single rfl (.cell w.heap.size 86 #[.bool sh, .string S] (0, 0) _ rfl (blk_set (blk_set hB.out 0 _) 1 _) hu rfl (by kernel_rfl) .nil)) rfl ?_
   exact ⟨rfl, (hbw.setCell (p := ⟨w.heap.size, 0, none⟩) (Nat.le_refl _) _).setCell (p := ⟨w.heap.size, 1, none⟩) (Nat.le_refl _) _⟩
end Gn

namespace Gn
attribute [local go_sem] max2_int min2_int max_two min_two max_three min_three
open Q15
open Q16 (isW isW_iff)
open Q21 (cell_blk frozen_blk usedL usedL_len okFil gIsFilter_calls Used_calls)
open Bts
open Sca
def chOk (ws sc qu fi : List Int) : Bool := decide (sc.length = ws.length) && (decide (qu.length = 128) && (okFil fi && (Q16.rng (-1023) 1023 qu && decide (scE sc (usedL ws qu) = 0))))
theorem CB_of {w : World} {g : Nat} {l : List Bool} {t : Nat} (h : w.heap[g]? = some (.cells (l.map Value.bool).toArray t (0, 0))) (hl : l.length ≤ 1000000) : Kd.bool.C w (some ⟨g, 0, none⟩) l.length l := by
 refine Kd.C_of_reads (enc := Value.bool) (h1 := fun _ => rfl) (d := false) ⟨rfl, by omega, fun h0 => ⟨_, rfl, fun j hj => ?_⟩⟩
 have e : (⟨g, 0, none⟩ : Addr).add j = ⟨g, j, none⟩ := by simp [Addr.add]; exact fun h => h.symm
 rw [e, cell_blk h]
 simp [List.getD_eq_getElem?_getD, List.getElem?_eq_getElem hj]
set_option maxRecDepth 100000 in
set_option maxHeartbeats 4000000 in
theorem isChannel_calls (sh : Bool) (A1 A2 A3 A4 A : Option Addr) (n1 c1 c2 c3 c4 c : Nat) (ws sc qu fi : List Int) (w : World) (hr : (Kd.int .i64).C w A ws.length ws) (hW : isW ws = true) (h2 : (Kd.int .i64).C w A2 sc.length sc) (h3 : (Kd.int .i64).C w A3 qu.length qu) (h4 : (Kd.int .i64).C w A4 fi.length fi)
  (l2 : sc.length ≤ 1000000) (l3 : qu.length ≤ 1000000) (l4 : fi.length ≤ 1000000) :
  Calls Tryz.prog 67 #[.agg #[.bool sh, .slice A1 n1 c1, .slice A2 sc.length c2, .slice A3 qu.length c3, .slice A4 fi.length c4], .slice A ws.length c] w fun e w' => e = .returned (.bool (chOk ws sc qu fi)) ∧ Below w.heap.size w w' := by
 obtain ⟨W0, hW0⟩ : ∃ W0, W0 = w.alloc (.cells #[.bool sh, .slice A1 n1 c1, .slice A2 sc.length c2, .slice A3 qu.length c3, .slice A4 fi.length c4] 46) := ⟨_, rfl⟩
 have hb0 : Below w.heap.size w W0 := by rw [hW0]; exact (Below.refl _ _).alloc (Nat.le_refl _) _
 have hB0 : W0.heap[w.heap.size]? = some (.cells #[.bool sh, .slice A1 n1 c1, .slice A2 sc.length c2, .slice A3 qu.length c3, .slice A4 fi.length c4] 46 (0, 0)) := by rw [hW0]; exact heap_alloc_new _ _
 have k2 : W0.cell? ⟨w.heap.size, 2, none⟩ = some (.slice A2 sc.length c2) := by rw [cell_blk hB0]; rfl
 have k3 : W0.cell? ⟨w.heap.size, 3, none⟩ = some (.slice A3 qu.length c3) := by rw [cell_blk hB0]; rfl
 have HI := Aside0.mk (fun (W : World) (hb : Below w.heap.size w W) => gIsFilter_calls A4 c4 fi W (Kd.C_below h4 hb) l4)
 have HR3 := Aside0.mk (fun (W : World) (hb : Below w.heap.size w W) => Kd.C_below h3 hb)
 have hwl : (ws.length : Int) ≤ 32 := by have := (isW_iff.1 hW).2.2; omega
 have hsl : (sc.length : Int) ≤ 1000000 := by omega
 have hql : (qu.length : Int) ≤ 1000000 := by omega
 have hchk : chOk ws sc qu fi = (decide (sc.length = ws.length) && (decide (qu.length = 128) && (okFil fi && (Q16.rng (-1023) 1023 qu && decide (scE sc (usedL ws qu) = 0))))) := rfl
 obtain ⟨R, hR⟩ : ∃ R, R = chOk ws sc qu fi := ⟨_, rfl⟩
 rw [← hR] at hchk ⊢
 replace hR := Aside0.mk hR
 by_cases e1 : sc.length = ws.length
 ·by_cases e2 : qu.length = 128
  ·rw [decide_eq_true e1, decide_eq_true e2, Bool.true_and, Bool.true_and] at hchk
   obtain ⟨a3, rfl, -⟩ := el_at h3 (Below.refl _ _) (k := 0) (by omega)
   have hw0 : 0 < ws.length := by
    cases ws with
    | nil => have := (isW_iff.1 hW).2.1; simp at this
    | cons x y => simp
   have HU := Aside0.mk (fun (W : World) (hb : Below w.heap.size w W) => Used_calls A c ws a3 c3 qu W (Kd.C_below hr hb) hW (Kd.C_below h3 hb) e2)
   have hul := usedL_len ws qu
   obtain ⟨us, hus⟩ : ∃ us, us = usedL ws qu := ⟨_, rfl⟩
   rw [← hus] at HU hul hchk
   have HCy := Aside0.mk (fun (h : scE sc us = 0) (W : World) (g : Nat) (hb : Below w.heap.size w W) (hg : Kd.bool.C W (some ⟨g, 0, none⟩) us.length us) => scCost_calls A2 (some ⟨g, 0, none⟩) c2 us.length sc us W (Kd.C_below h2 hb) hg (by omega) (by omega) (by omega) h)
   have HCn := Aside0.mk (fun (h : scE sc us ≠ 0) (W : World) (g : Nat) (hb : Below w.heap.size w W) (hg : Kd.bool.C W (some ⟨g, 0, none⟩) us.length us) => scCost_no A2 (some ⟨g, 0, none⟩) c2 us.length sc us W (Kd.C_below h2 hb) hg (by omega) (by omega) h)
   have hne : ((sc.length : Int) != (ws.length : Int)) = false := by rw [e1]; simp
   have hne2 : ((qu.length : Int) != 128) = false := by rw [e2]; rfl
   have hne3 : (sc.length != ws.length) = false := by rw [e1]; simp
   have hne4 : (qu.length != 128) = false := by rw [e2]; rfl
   have hus9 : us.length ≤ 1000000 := by omega
   replace e1 := Aside0.mk e1
   replace e2 := Aside0.mk e2
   replace hul := Aside0.mk hul
   cases hf : okFil fi with
   | false =>
    rw [hf] at HI hchk
    rw [Bool.false_and] at hchk
    replace hchk := Aside0.mk hchk
    clear hr hW h2 h3 h4 l2 l3 l4 HU HCy HCn hus hf hw0
    go_enter Tryz.func67, Tryz.ntmps67
    go_wp2_with fail
    rw [← hW0]
    refine (HI.out _ hb0).mono ?_
    rintro e w' ⟨rfl, hbn⟩
    replace hb0 := bnx hb0 hbn
    clear hbn hW0
    go_wp2_with fail
    go_ret
    exact ⟨by rw [hchk.out]; rfl, hb0⟩
   | true =>
    rw [hf] at HI hchk
    rw [Bool.true_and] at hchk
    replace hchk := Aside0.mk hchk
    clear hr hW h2 h3 h4 l2 l3 l4 hus hf hw0
    go_enter Tryz.func67, Tryz.ntmps67
    go_wp2_with fail
    rw [← hW0]
    refine (HI.out _ hb0).mono ?_
    rintro e w' ⟨rfl, hbn⟩
    replace hb0 := bnx hb0 hbn
    replace k2 := cnx k2 hbn
    replace k3 := cnx k3 hbn
    clear hbn hW0 hB0
    go_wp2_with fail
    go_loop [32] (fun i => ∃ k : Nat, i = .int .i64 k ∧ k ≤ qu.length ∧ Aside0 (Q16.rng (-1023) 1023 (qu.take k) = true)) (fun i => qu.length - (intOf i).toNat)
    case atStart => exact ⟨0, rfl, by omega, ⟨rfl⟩⟩
    case round =>
     obtain ⟨k, rfl, hk, ha⟩ := hrel
     by_cases hlt : k < qu.length
     ·obtain ⟨ad, had, hcell⟩ := el_at (HR3.out _ hb0) (Below.refl _ _) hlt
      cases had
      have hkI : (k : Int) < (qu.length : Int) := by omega
      have hno := Aside0.mk (fun h => Q16.rng_not (low := -1023) (high := 1023) hlt h)
      have hT : Aside0 (Q16.rng (-1023) 1023 (qu.take (k + 1)) = decide (-1023 ≤ rd qu k ∧ rd qu k ≤ 1023)) := ⟨by
       have := ha.out
       unfold Q16.rng at this ⊢
       rw [take_rd qu k hlt, List.all_append, this]
       simp⟩
      obtain ⟨x, hx⟩ : ∃ x, x = rd qu k := ⟨_, rfl⟩
      rw [← hx] at hcell hno hT
      have hlt' := Aside0.mk hlt
      clear hx hlt
      by_cases hx1 : x < -1023
      ·have t1 : decide (x < -1023) = true := decide_eq_true hx1
       have hE : Aside0 (R = false) := ⟨by rw [hchk.out, hno.out (.inl hx1)]; rfl⟩
       clear hx1
       go_wp2_with fail
       go_ret
       exact ⟨by rw [hE.out]; rfl, hb0⟩
      ·have t1 : decide (x < -1023) = false := decide_eq_false hx1
       by_cases hx2 : 1023 < x
       ·have t2 : decide (1023 < x) = true := decide_eq_true hx2
        have hE : Aside0 (R = false) := ⟨by rw [hchk.out, hno.out (.inr hx2)]; rfl⟩
        clear hx1 hx2
        go_wp2_with fail
        go_ret
        exact ⟨by rw [hE.out]; rfl, hb0⟩
       ·have t2 : decide (1023 < x) = false := decide_eq_false hx2
        have hT2 : Aside0 (Q16.rng (-1023) 1023 (qu.take (k + 1)) = true) := ⟨by rw [hT.out]; exact decide_eq_true (by omega)⟩
        clear hx1 hx2 hT
        go_wp2_with fail
        go_round
        case rel => exact ⟨k + 1, by go_num, hlt'.out, hT2⟩
        case measure => have := hlt'.out; simp [intOf]; omega
     ·obtain rfl : k = qu.length := by omega
      have hrg := ha.out
      rw [List.take_length] at hrg
      have hchk2 : Aside0 (R = decide (scE sc us = 0)) := ⟨by rw [hchk.out, hrg, Bool.true_and]⟩
      clear ha hchk hrg hlt hk
      go_wp2_with fail
      rw [e2.out]
      refine (HU.out _ hb0).mono ?_
      rintro e w2 ⟨g, rfl, hg, hgc, hbn⟩
      have hC := CB_of hgc hus9
      replace hb0 := bnx hb0 hbn
      replace k2 := cnx k2 hbn
      by_cases hE : scE sc us = 0
      ·have HC := HCy.out hE w2 g hb0 hC
       rw [hul.out] at HC
       replace HC := Aside0.mk HC
       have hr9 : Aside0 (R = true) := ⟨by rw [hchk2.out]; exact decide_eq_true hE⟩
       clear hC hgc hE HCy HCn HU hbn hchk2 hg k3
       go_wp2_with fail
       refine HC.out.mono ?_
       rintro e w3 ⟨rfl, hbn⟩
       replace hb0 := bnx hb0 hbn
       clear hbn
       go_wp2_with fail
       go_ret
       exact ⟨by rw [hr9.out]; rfl, hb0⟩
      ·have HC := HCn.out hE w2 g hb0 hC
       rw [hul.out] at HC
       replace HC := Aside0.mk HC
       have hr9 : Aside0 (R = false) := ⟨by rw [hchk2.out]; exact decide_eq_false hE⟩
       obtain ⟨E, hEe⟩ : ∃ E, E = scE sc us := ⟨_, rfl⟩
       rw [← hEe] at HC hE
       have hE2 : (E == 0) = false := by simpa using hE
       clear hC hgc hE hEe HCy HCn HU hbn hchk2 hg k3
       go_wp2_with fail
       refine HC.out.mono ?_
       rintro e w3 ⟨rfl, hbn⟩
       replace hb0 := bnx hb0 hbn
       clear hbn
       go_wp2_with fail
       go_ret
       exact ⟨by rw [hr9.out]; rfl, hb0⟩
  ·rw [decide_eq_true e1, decide_eq_false e2, Bool.true_and, Bool.false_and] at hchk
   have hne : ((sc.length : Int) != (ws.length : Int)) = false := by rw [e1]; simp
   have hne3 : (sc.length != ws.length) = false := by rw [e1]; simp
   have hne2 : ((qu.length : Int) != 128) = true := by simpa using fun h => e2 (by omega)
   have hne4 : (qu.length != 128) = true := by simpa using e2
   replace hchk := Aside0.mk hchk
   replace e1 := Aside0.mk e1
   replace e2 := Aside0.mk e2
   rw [hW0] at hb0
   clear hr hW h2 h3 h4 l2 l3 l4 k2 k3 hW0 hB0
   go_enter Tryz.func67, Tryz.ntmps67
   go_wp2_with fail
   go_ret
   exact ⟨by rw [hchk.out]; rfl, hb0⟩
 ·rw [decide_eq_false e1, Bool.false_and] at hchk
  have hne : ((sc.length : Int) != (ws.length : Int)) = true := by simpa using fun h => e1 (by omega)
  have hne3 : (sc.length != ws.length) = true := by simpa using e1
  replace hchk := Aside0.mk hchk
  replace e1 := Aside0.mk e1
  rw [hW0] at hb0
  clear hr hW h2 h3 h4 l2 l3 l4 k2 k3 hW0 hB0
  go_enter Tryz.func67, Tryz.ntmps67
  go_wp2_with fail
  go_ret
  exact ⟨by rw [hchk.out]; rfl, hb0⟩
end Gn

namespace Gn
attribute [local go_sem] max2_int min2_int max_two min_two max_three min_three
open Q15
open Q21
def ch0 : Ch := ⟨false, [], [], [], []⟩
def chK (g : Gr) (k : Nat) : Ch := g.chs.getD k ch0
theorem ch_at {w W : World} {A : Option Addr} {xs : List Ch} (h : kCh.C w A xs.length xs) (hb : Below w.heap.size w W) {k : Nat} (hk : k < xs.length) :
  ∃ ad A1 c1 A2 c2 A3 c3 A4 c4, A = some ad ∧ (∀ (j : Nat) (u : Value), [Value.bool (xs.getD k ch0).sh, .slice A1 (xs.getD k ch0).gr.length c1, .slice A2 (xs.getD k ch0).sc.length c2, .slice A3 (xs.getD k ch0).qu.length c3, .slice A4 (xs.getD k ch0).fi.length c4][j]? = some u → W.cell? (ad.add (k * 5 + j)) = some u) ∧
   (Kd.int .i64).C W A1 (xs.getD k ch0).gr.length (xs.getD k ch0).gr ∧ (Kd.int .i64).C W A2 (xs.getD k ch0).sc.length (xs.getD k ch0).sc ∧ (Kd.int .i64).C W A3 (xs.getD k ch0).qu.length (xs.getD k ch0).qu ∧ (Kd.int .i64).C W A4 (xs.getD k ch0).fi.length (xs.getD k ch0).fi := by
 obtain ⟨ad, c, e, _, hK, hc⟩ := Kd.C_get (Kd.C_below h hb) ch0 k (by omega) (by omega)
 have hK2 : kCh.K W (xs.getD k ch0) c := hK
 obtain ⟨A1, c1, A2, c2, A3, c3, A4, c4, rfl, l1, g1, l2, g2, l3, g3, l4, g4⟩ := kCh_open hK2
 have hc' : ∀ (j : Nat) (u : Value), [Value.bool (xs.getD k ch0).sh, .slice A1 (xs.getD k ch0).gr.length c1, .slice A2 (xs.getD k ch0).sc.length c2, .slice A3 (xs.getD k ch0).qu.length c3, .slice A4 (xs.getD k ch0).fi.length c4][j]? = some u → W.cell? (ad.add ((k : Int).toNat * 5 + j)) = some u := hc
 exact ⟨ad, A1, c1, A2, c2, A3, c3, A4, c4, e, hc', g1, g2, g3, g4⟩
set_option maxRecDepth 100000 in
set_option maxHeartbeats 1000000 in
theorem widthsOf_many (AC M : Option Addr) (cC cM n m : Nat) (w : World) (hn : n < 1 ∨ 2 < n) :
  Calls Tryz.prog 35 #[.agg #[.slice AC n cC, .slice M m cM]] w fun e w' => e = .returned (.tuple #[.slice none 0 0, .bool false]) ∧ Below w.heap.size w w' := by
 have hb : Below w.heap.size w (w.alloc (.cells #[.slice AC n cC, .slice M m cM] 31)) := (Below.refl _ _).alloc (Nat.le_refl _) _
 have hu31 := Tryz.underlying31
 rcases hn with hn | hn
 ·have t1 : decide ((n : Int) < 1) = true := decide_eq_true (by omega)
  clear hn
  go_enter Tryz.func35, Tryz.ntmps35
  go_wp2_with fail
  go_ret2
  exact ⟨rfl, hb⟩
 ·have t1 : decide ((n : Int) < 1) = false := decide_eq_false (by omega)
  have t2 : decide (2 < (n : Int)) = true := decide_eq_true (by omega)
  clear hn
  go_enter Tryz.func35, Tryz.ntmps35
  go_wp2_with fail
  go_ret2
  exact ⟨rfl, hb⟩
end Gn

end Go.Proofs.YtnflnicdjioflaaGreatDoor
