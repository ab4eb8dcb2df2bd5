/- A part of the proof. -/
import Derived.Test.YtnflnicdjioflaaGreatDoorSlaz
set_option linter.unusedVariables false
set_option linter.unusedSimpArgs false
set_option maxRecDepth 100000
set_option maxHeartbeats 8000000
namespace Go.Proofs.YtnflnicdjioflaaGreatDoor
open Go.RowKit Go.Proofs.YtnflnicdjioflaaGreatDoorW.PrintWords Go.Proofs.YtnflnicdjioflaaGreatDoorW.PrintLast Go.Proofs.YtnflnicdjioflaaGreatDoorW.PrintMore
namespace Gn
attribute [local go_sem] Qj Qi Ql Qk Qg Qf
open Q15
open Q21
def ch0 : Ch := ⟨false, [], [], [], []⟩
def chK (g : Gr) (k : Nat) : Ch := g.chs.getD k ch0
theorem U2 {w W : World} {A : Option Addr} {xs : List Ch} (h : kCh.C w A xs.length xs) (hb : Below w.heap.size w W) {k : Nat} (hk : k < xs.length) :
  ∃ ad A1 c1 A2 c2 A3 c3 A4 c4, A = some ad ∧ (∀ (j : Nat) (u : Value), [Value.bool (xs.getD k ch0).sh, .slice A1 (xs.getD k ch0).gr.length c1, .slice A2 (xs.getD k ch0).sc.length c2, .slice A3 (xs.getD k ch0).qu.length c3, .slice A4 (xs.getD k ch0).fi.length c4][j]? = some u → W.cell? (ad.add (k * 5 + j)) = some u) ∧
   (Kd.int .i64).C W A1 (xs.getD k ch0).gr.length (xs.getD k ch0).gr ∧ (Kd.int .i64).C W A2 (xs.getD k ch0).sc.length (xs.getD k ch0).sc ∧ (Kd.int .i64).C W A3 (xs.getD k ch0).qu.length (xs.getD k ch0).qu ∧ (Kd.int .i64).C W A4 (xs.getD k ch0).fi.length (xs.getD k ch0).fi := by
 obtain ⟨ad, c, e, _, hK, hc⟩ := Kd.C_get (Kd.Qh h hb) ch0 k (by omega) (by omega)
 have hK2 : kCh.K W (xs.getD k ch0) c := hK
 obtain ⟨A1, c1, A2, c2, A3, c3, A4, c4, rfl, l1, g1, l2, g2, l3, g3, l4, g4⟩ := Wi hK2
 have hc' : ∀ (j : Nat) (u : Value), [Value.bool (xs.getD k ch0).sh, .slice A1 (xs.getD k ch0).gr.length c1, .slice A2 (xs.getD k ch0).sc.length c2, .slice A3 (xs.getD k ch0).qu.length c3, .slice A4 (xs.getD k ch0).fi.length c4][j]? = some u → W.cell? (ad.add ((k : Int).toNat * 5 + j)) = some u := hc
 exact ⟨ad, A1, c1, A2, c2, A3, c3, A4, c4, e, hc', g1, g2, g3, g4⟩
theorem Ru (AC M : Option Addr) (cC cM n m : Nat) (w : World) (hn : n < 1 ∨ 2 < n) :
  Calls Tryz.prog 35 #[.agg #[.slice AC n cC, .slice M m cM]] w fun e w' => e = .returned (.tuple #[.slice none 0 0, .bool false]) ∧ Below w.heap.size w w' := by
 have hb : Below w.heap.size w (w.alloc (.cells #[.slice AC n cC, .slice M m cM] 31)) := (Below.refl _ _).alloc (Nat.le_refl _) _
 have hu31 := Tryz.underlying31
 rcases hn with hn | hn
 ·have t1 : decide ((n : Int) < 1) = true := decide_eq_true (by omega)
  clear hn
  go_enter Tryz.func35, Tryz.ntmps35
  go_wp2_with fail
  go_ret2
  exact ⟨rfl, hb⟩
 ·have t1 : decide ((n : Int) < 1) = false := decide_eq_false (by omega)
  have t2 : decide (2 < (n : Int)) = true := decide_eq_true (by omega)
  clear hn
  go_enter Tryz.func35, Tryz.ntmps35
  go_wp2_with fail
  go_ret2
  exact ⟨rfl, hb⟩
theorem O8 (n : Int) (sh : Bool) (w : World) (hn : n < 1 ∨ 2 < n) :
  Calls Tryz.prog 16 #[.int .i64 n, .bool sh] w (Gj ⟨[], []⟩ 1 w) := by
 have hu31 := Tryz.underlying31
 obtain ⟨w1, hw1⟩ : ∃ w1, w1 = w.alloc (.cells #[.slice none 0 0, .slice none 0 0] 31) := ⟨_, rfl⟩
 have hb : Below w.heap.size w w1 := by rw [hw1]; exact (Below.refl _ _).alloc (Nat.le_refl _) _
 have hR1 : w1.heap[w.heap.size]? = some (.cells #[.slice none 0 0, .slice none 0 0] 31 (0, 0)) := by rw [hw1]; exact heap_alloc_new _ _
 rcases hn with hn | hn
 ·have t1 : decide (n < 1) = true := decide_eq_true hn
  clear hn
  go_enter Tryz.func16, Tryz.ntmps16
  go_wp2_with fail
  rw [← hw1]
  (try simp only [Exit.inBlock, Exit.then]); refine bodyPost_ret (Z5 rfl _ _ w.heap.size 31 #[.slice none 0 0, .slice none 0 0] (0, 0) _ rfl hR1 hu31 rfl (by kernel_rfl)) rfl ?_
  exact ⟨⟨_, _, rfl, Kd.Xr _ _ _ _ _, Kd.Xr _ _ _ _ _⟩, hb⟩
 ·have t1 : decide (n < 1) = false := decide_eq_false (by omega)
  have t2 : decide (2 < n) = true := decide_eq_true hn
  clear hn
  go_enter Tryz.func16, Tryz.ntmps16
  go_wp2_with fail
  rw [← hw1]
  (try simp only [Exit.inBlock, Exit.then]); refine bodyPost_ret (Z5 rfl _ _ w.heap.size 31 #[.slice none 0 0, .slice none 0 0] (0, 0) _ rfl hR1 hu31 rfl (by kernel_rfl)) rfl ?_
  exact ⟨⟨_, _, rfl, Kd.Xr _ _ _ _ _, Kd.Xr _ _ _ _ _⟩, hb⟩
end Gn

namespace Gn
attribute [local go_sem] Qj Qi Ql Qk Qg Qf
open Q15
open Q21
theorem Pf (AC M : Option Addr) (cC cM : Nat) (g : Gr) (w : World) (hL : Laid w) (hc : kCh.C w AC g.chs.length g.chs) (hn : 1 ≤ g.chs.length ∧ g.chs.length ≤ 2) (hd : Zf (chK g 0).sh (chK g 0).gr = false) :
  Calls Tryz.prog 35 #[.agg #[.slice AC g.chs.length cC, .slice M g.mid.length cM]] w fun e w' => e = .returned (.tuple #[.slice none 0 0, .bool false]) ∧ Below w.heap.size w w' := by
 obtain ⟨w1, hw1⟩ : ∃ w1, w1 = w.alloc (.cells #[.slice AC g.chs.length cC, .slice M g.mid.length cM] 31) := ⟨_, rfl⟩
 have hb : Below w.heap.size w w1 := by rw [hw1]; exact (Below.refl _ _).alloc (Nat.le_refl _) _
 have hu31 := Tryz.underlying31
 have hu46 := Tryz.underlying46
 obtain ⟨ad, A1, c1, A2, c2, A3, c3, A4, c4, rfl, hcell, g1, -, -, -⟩ := U2 hc hb (k := 0) (by omega)
 have hx : chK g 0 = g.chs.getD 0 ch0 := rfl
 rw [← hx] at hcell g1
 have HW := Qa.mk (fun (W : World) (hb2 : Below w1.heap.size w1 W) => X6 (chK g 0).sh A1 c1 (chK g 0).gr W (hL.below (bnx hb hb2)) (Kd.Qh g1 hb2))
 unfold Df Di at HW
 rw [hd, if_neg (by decide), if_neg (by decide)] at HW
 obtain ⟨X, hX⟩ : ∃ X, X = chK g 0 := ⟨_, rfl⟩
 rw [← hX] at hcell HW
 have n0 : w1.cell? ad = some (.bool X.sh) := by simpa [Addr.add] using hcell 0 _ rfl
 have n1 : w1.cell? ⟨ad.block, ad.off + 1, none⟩ = some (.slice A1 X.gr.length c1) := by simpa [Addr.add] using hcell 1 _ rfl
 have n2 : w1.cell? ⟨ad.block, ad.off + 2, none⟩ = some (.slice A2 X.sc.length c2) := by simpa [Addr.add] using hcell 2 _ rfl
 have n3 : w1.cell? ⟨ad.block, ad.off + 3, none⟩ = some (.slice A3 X.qu.length c3) := by simpa [Addr.add] using hcell 3 _ rfl
 have n4 : w1.cell? ⟨ad.block, ad.off + 4, none⟩ = some (.slice A4 X.fi.length c4) := by simpa [Addr.add] using hcell 4 _ rfl
 have t1 : decide ((g.chs.length : Int) < 1) = false := decide_eq_false (by omega)
 have t2 : decide (2 < (g.chs.length : Int)) = false := decide_eq_false (by omega)
 have t3 : (0 : Int) < (g.chs.length : Int) := by omega
 rw [hw1] at n0 n1 n2 n3 n4
 clear hcell hX hx hd hn hL hc g1
 go_enter Tryz.func35, Tryz.ntmps35
 go_wp2_with fail
 rw [← hw1]
 refine (HW.out _ ((Below.refl _ _).alloc (Nat.le_refl _) _)).mono ?_
 rintro e w2 ⟨B, q, rfl, -, hbn⟩
 have hb2 := bnx hb (bnx ((Below.refl w1.heap.size w1).alloc (Nat.le_refl _) (.cells #[.bool X.sh, .slice A1 X.gr.length c1, .slice A2 X.sc.length c2, .slice A3 X.qu.length c3, .slice A4 X.fi.length c4] 46)) hbn)
 clear hbn n0 n1 n2 n3 n4 hw1
 go_wp2_with fail
 go_ret2
 exact ⟨rfl, hb2⟩
theorem Li (AC M : Option Addr) (cC cM : Nat) (g : Gr) (w : World) (hL : Laid w) (hc : kCh.C w AC g.chs.length g.chs) (hn : 1 ≤ g.chs.length ∧ g.chs.length ≤ 2) (hd : Zf (chK g 0).sh (chK g 0).gr = true) (hm : (if (g.chs.length : Int) = 1 then decide (g.mid.length = 0) else decide ((g.mid.length : Int) = ((Qm (chK g 0).sh (chK g 0).gr).length : Nat))) = false) :
  Calls Tryz.prog 35 #[.agg #[.slice AC g.chs.length cC, .slice M g.mid.length cM]] w fun e w' => e = .returned (.tuple #[.slice none 0 0, .bool false]) ∧ Below w.heap.size w w' := by
 obtain ⟨w1, hw1⟩ : ∃ w1, w1 = w.alloc (.cells #[.slice AC g.chs.length cC, .slice M g.mid.length cM] 31) := ⟨_, rfl⟩
 have hb : Below w.heap.size w w1 := by rw [hw1]; exact (Below.refl _ _).alloc (Nat.le_refl _) _
 have hu31 := Tryz.underlying31
 have hu46 := Tryz.underlying46
 obtain ⟨ad, A1, c1, A2, c2, A3, c3, A4, c4, rfl, hcell, g1, -, -, -⟩ := U2 hc hb (k := 0) (by omega)
 have hx : chK g 0 = g.chs.getD 0 ch0 := rfl
 rw [← hx] at hcell g1
 have HW := Qa.mk (fun (W : World) (hb2 : Below w1.heap.size w1 W) => X6 (chK g 0).sh A1 c1 (chK g 0).gr W (hL.below (bnx hb hb2)) (Kd.Qh g1 hb2))
 unfold Df Di at HW
 rw [hd, if_pos rfl, if_pos rfl] at HW
 obtain ⟨X, hX⟩ : ∃ X, X = chK g 0 := ⟨_, rfl⟩
 rw [← hX] at hcell HW hm
 obtain ⟨ws, hws⟩ : ∃ ws, ws = Qm X.sh X.gr := ⟨_, rfl⟩
 rw [← hws] at HW hm
 have HM := Qa.mk (fun (W : World) => U8 M cM g.mid.length (g.chs.length : Int) (ws.length : Int) W)
 rw [hm] at HM
 have n0 : w1.cell? ad = some (.bool X.sh) := by simpa [Addr.add] using hcell 0 _ rfl
 have n1 : w1.cell? ⟨ad.block, ad.off + 1, none⟩ = some (.slice A1 X.gr.length c1) := by simpa [Addr.add] using hcell 1 _ rfl
 have n2 : w1.cell? ⟨ad.block, ad.off + 2, none⟩ = some (.slice A2 X.sc.length c2) := by simpa [Addr.add] using hcell 2 _ rfl
 have n3 : w1.cell? ⟨ad.block, ad.off + 3, none⟩ = some (.slice A3 X.qu.length c3) := by simpa [Addr.add] using hcell 3 _ rfl
 have n4 : w1.cell? ⟨ad.block, ad.off + 4, none⟩ = some (.slice A4 X.fi.length c4) := by simpa [Addr.add] using hcell 4 _ rfl
 have t1 : decide ((g.chs.length : Int) < 1) = false := decide_eq_false (by omega)
 have t2 : decide (2 < (g.chs.length : Int)) = false := decide_eq_false (by omega)
 have t3 : (0 : Int) < (g.chs.length : Int) := by omega
 rw [hw1] at n0 n1 n2 n3 n4
 clear hcell hX hx hd hn hL hc g1 hm hws
 go_enter Tryz.func35, Tryz.ntmps35
 go_wp2_with fail
 rw [← hw1]
 have hB1 : w1.heap[w.heap.size]? = some (.cells #[.slice (some ad) g.chs.length cC, .slice M g.mid.length cM] 31 (0, 0)) := by rw [hw1]; exact heap_alloc_new _ _
 refine (HW.out _ ((Below.refl _ _).alloc (Nat.le_refl _) _)).mono ?_
 rintro e w2 ⟨B, q, rfl, -, hbn⟩
 have hb12 := bnx ((Below.refl w1.heap.size w1).alloc (Nat.le_refl _) (.cells #[.bool X.sh, .slice A1 X.gr.length c1, .slice A2 X.sc.length c2, .slice A3 X.qu.length c3, .slice A4 X.fi.length c4] 46)) hbn
 have hb2 := bnx hb hb12
 have z1 : w2.cell? ⟨w.heap.size, 1, none⟩ = some (.slice M g.mid.length cM) := by rw [Qb ((hb12.block _ (Qq hB1)).trans hB1)]; rfl
 clear hbn n0 n1 n2 n3 n4 hw1 hb hb12 hB1
 go_wp2_with fail
 refine (HM.out _).mono ?_
 rintro e w3 ⟨rfl, hbn⟩
 replace hb2 := bnx hb2 hbn
 clear hbn z1
 go_wp2_with fail
 go_ret2
 exact ⟨rfl, hb2⟩
end Gn

end Go.Proofs.YtnflnicdjioflaaGreatDoor
