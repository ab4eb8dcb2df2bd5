/- A part of the proof. -/
import Derived.Test.YtnflnicdjioflaaGreatDoorSlbp
set_option linter.unusedVariables false
set_option linter.unusedSimpArgs false
set_option maxRecDepth 100000
set_option maxHeartbeats 8000000
namespace Go.Proofs.YtnflnicdjioflaaGreatDoor
open Go.RowKit Go.Proofs.YtnflnicdjioflaaGreatDoorW.PrintWords Go.Proofs.YtnflnicdjioflaaGreatDoorW.PrintLast Go.Proofs.YtnflnicdjioflaaGreatDoorW.PrintMore
namespace Gn
attribute [local go_sem] Qj Qi Ql Qk Qg Qf
open Q15
open Q21
open Bk
open Sp (capQ SOut spJ Sa)
open St (sV)
def MOut (g : Gr) (E : Int) (w : World) (e : Ending) (w' : World) : Prop := ∃ A p M q, e = .returned (.tuple #[.agg #[.slice A g.chs.length p, .slice M g.mid.length q], .int .i64 E]) ∧ Uv w' g A p M q ∧ capQ w' A g.chs ∧ Below w.heap.size w w'
theorem Gj.mk {g : Gr} {E : Int} {w : World} {e : Ending} {w' : World} (h : Gj g E w e w') : MOut g E w e w' := by
 obtain ⟨⟨vC, vM, rfl, h1, h2⟩, hb⟩ := h
 obtain ⟨A, p, rfl, _, c1⟩ := Kd.Qz h1
 obtain ⟨M, q, rfl, _, c2⟩ := Kd.Qz h2
 exact ⟨A, p, M, q, rfl, ⟨c1, c2⟩, capQ_of h1, hb⟩
theorem Wj (n : Nat) (hn : n = 1 ∨ n = 2) (sh : Bool) (w : World) (hL : Laid w) :
  Calls Tryz.prog 16 #[.int .i64 n, .bool sh] w (MOut (Xi n sh) 0 w) := by
 cases sh with
 | false => exact (V4 n hn w hL).mono fun e w' h => Gj.mk h
 | true => exact (T9 n hn w hL).mono fun e w' h => Gj.mk h
theorem sil_sm (n : Nat) (sh : Bool) : Sm4 (Xi n sh) := by
 intro x hx
 obtain rfl := List.eq_of_mem_replicate hx
 cases sh <;> decide +kernel
theorem sm_of {g : Gr} (h : Sm4 g) : Sm g := fun x hx => (h x hx).2
theorem spJ_zero : ∀ sh : Bool, Sp.Um (Qm sh (grpS sh)) (chS sh) = List.replicate 128 0 := by decide +kernel
theorem Aa : ∀ fl : List Bool, St.Gu (List.replicate 128 0) (List.replicate 128 0) fl = List.replicate 128 0 ∧ St.Tz (List.replicate 128 0) (List.replicate 128 0) fl = List.replicate 128 0 := fun fl => by
 have h0 : ∀ i : Nat, rd (List.replicate 128 0) i = 0 := fun i => by
  unfold rd
  rw [Int.toNat_natCast, List.getD_eq_getElem?_getD, List.getElem?_replicate]
  split <;> rfl
 have hr : ∀ f : Nat → Int, (∀ i, f i = 0) → (List.range 128).map f = List.replicate 128 0 := fun f hf => by
  apply List.ext_getElem
  ·simp
  ·intro i h1 h2
   rw [List.getElem_map, hf, List.getElem_replicate]
 unfold St.Gu St.Tz
 rw [List.length_replicate]
 exact ⟨hr _ fun i => by rw [h0]; simp [St.Cj, St.Ht], hr _ fun i => by rw [h0]; simp [St.Ht]⟩
theorem Sg (sh : Bool) (gr : List Int) : ∀ k, Bd.Yn sh gr (List.replicate 128 0) k = List.replicate 128 0
 | 0 => rfl
 | k + 1 => by
  have h0 : rd (List.replicate 128 0) k = 0 := by
   unfold rd
   rw [Int.toNat_natCast, List.getD_eq_getElem?_getD, List.getElem?_replicate]
   split <;> rfl
  rw [Bd.Yn, Sg sh gr k, h0]
  exact List.set_replicate_self
theorem sil_spec (n : Nat) (sh : Bool) (hn : n = 1 ∨ n = 2) (j : Nat) (hj : j < n) : spJ (Xi n sh) (Qm (chK (Xi n sh) 0).sh (chK (Xi n sh) 0).gr) j = List.replicate 128 0 := by
 have hk : ∀ i, i < n → chK (Xi n sh) i = chS sh := fun i hi => by unfold chK Xi; simp [List.getD_eq_getElem?_getD, hi]
 unfold Sp.spJ
 rw [hk j hj, hk 0 (by omega)]
 have hm : Sp.U5 (Xi n sh) (Qm (chS sh).sh (chS sh).gr) j = List.replicate 128 0 := by
  unfold Sp.U5
  have h0 : Sp.Um (Qm (chS sh).sh (chS sh).gr) (chS sh) = List.replicate 128 0 := spJ_zero sh
  by_cases h2 : (Xi n sh).chs.length = 2
  ·rw [if_pos h2]
   have hn2 : n = 2 := by simpa [Xi] using h2
   rw [hk 0 (by omega), hk 1 (by omega), h0, (Aa _).1, (Aa _).2]
   have hc : (List.replicate 128 (0 : Int)).map Sp.Jc = List.replicate 128 0 := by rw [List.map_replicate]; rfl
   split <;> exact hc
  ·rw [if_neg h2, hk j hj, h0]
 rw [hm, Sg]
def GU (U : Gr) (B : Option Addr) (p : Nat) (N : Option Addr) (q bu : Nat) (W : World) : Prop := kCh.R 46 W 0 (fun k => k ≠ bu) (.slice B U.chs.length p) U.chs ∧ Kd.bool.R 4 W 0 (fun k => k ≠ bu) (.slice N U.mid.length q) U.mid
theorem GU.grAt {U : Gr} {B N : Option Addr} {p q bu : Nat} {W : World} (h : GU U B p N q bu W) : Uv W U B p N q := by
 obtain ⟨A, c, e, -, c1⟩ := Kd.Qz h.1
 obtain ⟨A2, c2, e2, -, c3⟩ := Kd.Qz h.2
 injection e with e _ _
 injection e2 with e2 _ _
 rw [e, e2]
 exact ⟨c1, c3⟩
theorem GU.below {U : Gr} {B N : Option Addr} {p q bu : Nat} {W W' : World} (h : GU U B p N q bu W) (hb : Below W.heap.size W W') : GU U B p N q bu W' := ⟨Kd.Qy h.1 hb, Kd.Qy h.2 hb⟩
theorem GU.set {U : Gr} {B N : Option Addr} {p q bu : Nat} {W : World} (h : GU U B p N q bu W) (j : Nat) (u : Value) : GU U B p N q bu (W.setCell ⟨bu, j, none⟩ u) := ⟨Kd.Jd h.1 (fun _ hk => hk) u, Kd.Jd h.2 (fun _ hk => hk) u⟩
theorem GU_of {g : Gr} {E : Int} {w : World} {e : Ending} {w' : World} (h : Gj g E w e w') {bu : Nat} (hbu : bu < w.heap.size ∨ w'.heap.size ≤ bu) : ∃ B p N q, e = .returned (.tuple #[.agg #[.slice B g.chs.length p, .slice N g.mid.length q], .int .i64 E]) ∧ GU g B p N q bu w' ∧ Below w.heap.size w w' := by
 obtain ⟨⟨vC, vM, rfl, h1, h2⟩, hb⟩ := h
 obtain ⟨B, p, rfl⟩ := Kd.Zq h1
 obtain ⟨N, q, rfl⟩ := Kd.Zq h2
 exact ⟨B, p, N, q, rfl, ⟨Kd.Z8 (Kd.X9 (Kd.Zg h1) (fun k hk => by have := hk.2.1; have := hk.2.2.1; omega)) (Nat.zero_le _), Kd.Z8 (Kd.X9 (Kd.Zg h2) (fun k hk => by have := hk.2.1; have := hk.2.2.1; omega)) (Nat.zero_le _)⟩, hb⟩
theorem Qa2 (n : Nat) (hn : n = 1 ∨ n = 2) (sh : Bool) (w : World) (hL : Laid w) : Calls Tryz.prog 16 #[.int .i64 n, .bool sh] w (Gj (Xi n sh) 0 w) := by
 cases sh with
 | false => exact V4 n hn w hL
 | true => exact T9 n hn w hL
def RO (g : Gr) (E : Int) (w : World) (e : Ending) (w' : World) : Prop := ∃ A p M q, e = .returned (.tuple #[.agg #[.slice A g.chs.length p, .slice M g.mid.length q], .int .i64 E]) ∧ Uv w' g A p M q ∧ Below w.heap.size w w'
theorem both (n : Int) (sh : Bool) (w : World) (hL : Laid w) : ∃ (G : Gr) (E : Int), (∀ W, Below w.heap.size w W → Calls Tryz.prog 16 #[.int .i64 n, .bool sh] W (MOut G E W)) ∧ (∀ W, Calls Tryz.prog 17 #[.int .i64 n, .bool sh] W (RO G E W)) ∧
  Sm4 G ∧ (G.chs.length ≤ 1000 ∧ G.mid.length ≤ 1000) ∧ (E = 1 ∨ E = 0 ∧ ∃ k : Nat, n = k ∧ (k = 1 ∨ k = 2) ∧ G = Xi k sh) := by
 by_cases hv : n = 1 ∨ n = 2
 ·obtain ⟨k, rfl⟩ : ∃ k : Nat, n = k := ⟨n.toNat, by omega⟩
  have hk : k = 1 ∨ k = 2 := by omega
  refine ⟨Xi k sh, 0, fun W hb => Wj k hk sh W (hL.below hb), fun W => Hm k sh W hk, sil_sm k sh, ?_, .inr ⟨rfl, k, rfl, hk, rfl⟩⟩
  rcases hk with rfl | rfl <;> cases sh <;> decide
 ·have hn : n < 1 ∨ 2 < n := by omega
  refine ⟨⟨[], []⟩, 1, fun W hb => (O8 n sh W hn).mono fun e w' h => Gj.mk h, fun W => ?_, fun x hx => (by cases hx), ⟨Nat.zero_le _, Nat.zero_le _⟩, .inl rfl⟩
  refine (Cr n sh W hn).mono fun e w' h => ?_
  obtain ⟨A, p, M, q, rfl, h1, h2, hb⟩ := Gj.reads h
  exact ⟨A, p, M, q, rfl, ⟨h1, h2⟩, hb⟩
theorem Dc (w : World) (hL : Laid w) (hB : Xe w) (n : Int) (sh : Bool) (g : Gr) (A : Option Addr) (c : Nat) (M : Option Addr) (m : Nat) (hgr : Uv w g A c M m) :
  Calls Tryz.prog 5 #[.int .i64 n, .bool sh, grV g A c M m] w fun e w' => e = .returned (.bool true) ∧ Below w.heap.size w w' := by
 have hu31 := Tryz.underlying31
 have hmo : Tryz.prog.follows .mixedOrders = true := by kernel_rfl
 have hB4 := size4 hB
 have HAw := Qa.mk (fun (W : World) (hb : Below w.heap.size w W) => Ap W (hL.below hb) (hB.below hb) (by have := hb.size; omega))
 have HFew := Qa.mk (fun (W : World) (hb : Below w.heap.size w W) => Qbs g A c M m W (hgr.below hb))
 have HGr := Qa.mk hgr
 have HL := Qa.mk hL
 have HB := Qa.mk hB
 obtain ⟨w1, hw1⟩ : ∃ w1, w1 = w.alloc (.cells #[.slice A g.chs.length c, .slice M g.mid.length m] 31) := ⟨_, rfl⟩
 have hb1 : Below w.heap.size w w1 := by rw [hw1]; exact (Below.refl _ _).alloc (Nat.le_refl _) _
 have hB1 : w1.heap[w.heap.size]? = some (.cells #[.slice A g.chs.length c, .slice M g.mid.length m] 31 (0, 0)) := by rw [hw1]; exact heap_alloc_new _ _
 have hmk : ∀ W : World, (Instr.makeSlice 22 (.int .i64 (128 : Int)) (.int .i64 (128 : Int))).run Tryz.prog W = .ok (sV W.heap.size) (W.alloc (.cells (List.replicate 128 (Value.int .i64 0)).toArray 3)) := Sec.Xc 128 (by omega)
 obtain ⟨Z0, hZ0⟩ : ∃ Z0, Z0 = (List.replicate 128 (Value.int .i64 0)).toArray := ⟨_, rfl⟩
 rw [← hZ0] at hmk
 replace hZ0 := Qa.mk hZ0
 clear hL hB hgr hB4
 unfold grV at HFew ⊢
 go_enter Tryz.func5, Tryz.ntmps5
 go_wp2_with fail
 rw [← hw1]
 refine (HFew.out _ hb1).mono ?_
 rintro e w2 ⟨b, rfl, hfew, hb2⟩
 have hB2 := Qa.mk ((hb2.block _ (Qq hB1)).trans hB1)
 replace hb1 := bnx hb1 hb2
 clear hb2 hw1 hB1 HFew
 cases b with
 | false =>
  clear hfew
  go_wp2_with fail
  refine (HAw.out _ hb1).mono ?_
  rintro e w3 ⟨rfl, hb2⟩
  replace hb1 := bnx hb1 hb2
  clear hb2
  go_wp2
  go_ret
  exact ⟨rfl, hb1⟩
 | true =>
  replace hfew := Qa.mk (hfew rfl)
  obtain ⟨G, E, HS, HR, hsm, hsl, hE⟩ := both n sh w HL.out
  replace HS := Qa.mk HS
  replace HR := Qa.mk HR
  replace hsm := Qa.mk hsm
  replace hsl := Qa.mk hsl
  replace hE := Qa.mk hE
  go_wp2_with fail
  refine (HS.out _ hb1).mono ?_
  rintro e w3 ⟨A1, c1, M1, m1, rfl, hg1, hcq, hb3⟩
  obtain ⟨w4, hw4⟩ : ∃ W, W = w3.alloc (.cells #[.slice A1 G.chs.length c1, .slice M1 G.mid.length m1] 31) := ⟨_, rfl⟩
  have hb34 : Below w3.heap.size w3 w4 := by rw [hw4]; exact (Below.refl _ _).alloc (Nat.le_refl _) _
  obtain ⟨b7, hb7⟩ : ∃ b, b = w3.heap.size := ⟨_, rfl⟩
  have hB7 : w4.heap[b7]? = some (.cells #[.slice A1 G.chs.length c1, .slice M1 G.mid.length m1] 31 (0, 0)) := by rw [hw4, hb7]; exact heap_alloc_new _ _
  have hB4 := Qn (Qn hB2.out hb3) hb34
  replace hb1 := bnx hb1 (bnx hb3 hb34)
  replace hcq := Qa.mk (Ta hcq hg1.chs hb34)
  replace hg1 := hg1.below hb34
  clear hb3 hb34 HS hB2
  go_wp2_with fail
  rw [← hw4, ← hb7]
  clear hw4 hb7
  refine (HR.out _).mono ?_
  rintro e w5 ⟨A2, c2, M2, m2, rfl, hg2, hb5⟩
  obtain ⟨w6, hw6⟩ : ∃ W, W = w5.alloc (.cells #[.slice A2 G.chs.length c2, .slice M2 G.mid.length m2] 31) := ⟨_, rfl⟩
  have hb56 : Below w5.heap.size w5 w6 := by rw [hw6]; exact (Below.refl _ _).alloc (Nat.le_refl _) _
  obtain ⟨b9, hb9⟩ : ∃ b, b = w5.heap.size := ⟨_, rfl⟩
  have hB9 : w6.heap[b9]? = some (.cells #[.slice A2 G.chs.length c2, .slice M2 G.mid.length m2] 31 (0, 0)) := by rw [hw6, hb9]; exact heap_alloc_new _ _
  have z7 := Qb (Qn hB7 hb5) 0
  have z7' := Qb (Qn hB7 hb5) 1
  have l7 := Qq (Qn hB7 hb5)
  have hB6 := Qn (Qn hB4 hb5) hb56
  have hb46 := bnx hb5 hb56
  replace hB7 := Qn hB7 hb46
  replace hb1 := bnx hb1 hb46
  replace hcq := Qa.mk (Ta hcq.out hg1.chs hb46)
  replace hg1 := hg1.below hb46
  replace hg2 := hg2.below hb56
  have HSm := Qa.mk (Gc G A1 A2 c1 c2 M1 M2 m1 m2 w6 hg1 hg2 hsl.out hsm.out)
  unfold grV at HSm
  replace hg1 := Qa.mk hg1
  replace hB6 := Qa.mk hB6
  replace hB7 := Qa.mk hB7
  replace hb9 := Qa.mk hb9
  replace hw6 := Qa.mk hw6
  clear hb5 hb56 hb46 HR hB4 hg2 hB9
  go_wp2_with fail
  rw [← hw6.out]
  clear hw6 hb9
  refine HSm.out.mono ?_
  rintro e w7 ⟨rfl, hb7⟩
  have hB0 := Qa.mk (Qn hB6.out hb7)
  have hB7' := Qa.mk (Qn hB7.out hb7)
  have hcq7 := Qa.mk (Ta hcq.out hg1.out.chs hb7)
  have hg7 := Qa.mk (hg1.out.below hb7)
  replace hb1 := bnx hb1 hb7
  have x0 := Qb hB0.out 0
  have x1 := Qb hB0.out 1
  clear hb7 z7 z7' l7 HSm hcq hg1 hB6 hB7
  rcases hE.out with hE1 | ⟨hE0, k, hk, hk12, hGk⟩
  case' inl =>
   subst hE1
   go_wp2_with fail
   obtain ⟨wz, rfl⟩ : ∃ W : World, W = w7 := ⟨_, rfl⟩
   clear hE hcq7 hg7 hB7' hsm hsl
  case' inr =>
   subst hE0
   subst hk
   have hln : G.chs.length = k := by rw [hGk]; simp [Xi]
   have hok : Te G = true := by rw [hGk]; exact sil_ok k sh hk12
   have hsp : Qa (∀ j, j < G.chs.length → spJ G (Qm (chK G 0).sh (chK G 0).gr) j = List.replicate 128 0) := ⟨fun j hj => by rw [hln] at hj; rw [hGk]; exact sil_spec k sh hk12 j hj⟩
   have HSp := Qa.mk (Sp.Rs G A1 M1 c1 m1 w7 (HL.out.below hb1) hg7.out (sm_of hsm.out) hok hcq7.out)
   unfold grV at HSp
   have y0 := Qb hB7'.out 0
   have y1 := Qb hB7'.out 1
   have hne : ((G.chs.length : Int) != (k : Int)) = false := by rw [bne_eq_false_iff_eq]; omega
   have hl2 : (G.chs.length : Int) ≤ 2 := by omega
   clear hln hok hk12 hGk hE hcq7 hg7 hB7' hsm hsl
   go_wp2_with fail
   refine HSp.out.mono ?_
   rintro e w8 ⟨go, cp, cur, F, rfl, hgo, hcu, hF, hb8⟩
   replace hgo := Qa.mk hgo
   replace hcu := Qa.mk hcu
   replace hF := Qa.mk hF
   replace hB0 := Qa.mk (Qn hB0.out hb8)
   replace hb1 := bnx hb1 hb8
   clear hb8 HSp y0 y1 x0 x1
   go_wp2_with fail
   go_loopw [63] (fun i wr => ∃ j : Nat, i = .int .i64 j ∧ j ≤ G.chs.length ∧ Qa (Below w8.heap.size w8 wr)) (fun i _ => G.chs.length - (intOf i).toNat)
   case atStart => exact ⟨0, rfl, by omega, ⟨Below.refl _ _⟩⟩
   case' round =>
    obtain ⟨j, rfl, hj, hbj⟩ := hrel
    by_cases hlt : j < G.chs.length
    case pos =>
     have hjI : (j : Int) < (G.chs.length : Int) := by omega
     have q0 : wr.cell? ⟨go, j, none⟩ = some (.slice (some ⟨F j, 0, none⟩) 128 128) := by rw [Qb (Qn hgo.out hbj.out)]; exact hcu.out j hlt
     have hFj := hF.out j hlt
     rw [hsp.out j hlt] at hFj
     have hbw := bnx hb1 hbj.out
     obtain ⟨W, hW⟩ : ∃ W, W = wr.alloc (.cells Z0 3) := ⟨_, rfl⟩
     have hbW : Below wr.heap.size wr W := by rw [hW]; exact (Below.refl _ _).alloc (Nat.le_refl _) _
     have hZW : W.heap[wr.heap.size]? = some (.cells ((List.replicate 128 (0 : Int)).map (Value.int .i64)).toArray 3 (0, 0)) := by
      rw [hW]
      refine (heap_alloc_new _ _).trans ?_
      rw [hZ0.out]
      simp
     have HI := Qa.mk (Ah (some ⟨F j, 0, none⟩) (some ⟨wr.heap.size, 0, none⟩) 128 128 (List.replicate 128 0) W (Sp.Xy (l := List.replicate 128 0) (Qn (Qn hFj hbj.out) hbW) (by decide)) (Sp.Xy (l := List.replicate 128 0) hZW (by decide)) (by decide))
     rw [List.length_replicate] at HI
     have hbn := Qa.mk (bnx hbj.out hbW)
     have hT := Qa.mk hlt
     replace hW := Qa.mk hW
     clear hFj hbw hbW hZW hlt hj hbj
     go_wp2_with fail
     rw [← hW.out]
     refine HI.out.mono ?_
     rintro e W2 ⟨rfl, hb2⟩
     have hbn2 := Qa.mk (bnx hbn.out hb2)
     clear hb2 hW HI hbn q0
     go_wp2
     go_roundw
     case rel => exact ⟨j + 1, by go_num, hT.out, hbn2⟩
     case measure => have := hT.out; simp [intOf]; omega
    case' neg =>
     obtain rfl : j = G.chs.length := by omega
     replace hB0 := Qa.mk (Qn hB0.out hbj.out)
     replace hb1 := bnx hb1 hbj.out
     have x0 := Qb hB0.out 0
     have x1 := Qb hB0.out 1
     obtain ⟨wz, rfl⟩ : ∃ W : World, W = wr := ⟨_, rfl⟩
     clear hlt hj hbj hgo hcu hF hsp hne
     go_wp2_with fail
  all_goals
   have hgz := HGr.out.below hb1
   have hsmg : Sm g := fun x hx => by have := hfew.out.2.2 x hx; omega
   cases hok : Te g
   case false =>
    have HCo := Qa.mk (Ig g A c M m wz (HL.out.below hb1) hgz hsmg hok)
    unfold grV at HCo
    clear hgz hsmg hok hfew x0 x1 hB0
    refine HCo.out.mono ?_
    rintro e wy ⟨rfl, hby⟩
    replace hb1 := bnx hb1 hby
    clear hby HCo
    go_wp2_with fail
    refine (HAw.out _ hb1).mono ?_
    rintro e wx ⟨rfl, hbx⟩
    replace hb1 := bnx hb1 hbx
    clear hbx
    go_wp2
    go_ret
    exact ⟨rfl, hb1⟩
   case true =>
    have hG := Kh.1 hok
    have hw := Yu hG.div
    have HCo := Qa.mk (Jp g A c M m wz (HL.out.below hb1) (HB.out.below hb1) (size4 (HB.out.below hb1)) hgz hsmg hok (fun x hx p hp => by
     have hF := F5 hw (hG.ch x hx).2.2
     obtain ⟨hR, -⟩ := Sec.Gw hF.ok
     obtain ⟨e1, e2, -⟩ := hR.el p hp
     exact bw_all _ (by omega)))
    have hn12 : g.chs.length = 1 ∨ g.chs.length = 2 := by have := hG.n; omega
    have hle := Qay hG
    obtain ⟨ad, A3, c3, A4, c4, A5, c5, A6, c6, rfl, hcell, -, -, -, -⟩ := U2 hgz.chs (Below.refl _ _) (k := 0) (by omega)
    have hch := Qa.mk (fun (W : World) (hb : Below wz.heap.size wz W) => (show W.cell? ad = some (.bool (chK g 0).sh) by
     have := cnx (hcell 0 _ rfl) hb
     simpa [Addr.add, chK] using this))
    obtain ⟨s, hs⟩ : ∃ s, s = (chK g 0).sh := ⟨_, rfl⟩
    rw [← hs] at hch hle
    have HSi := Qa.mk (fun (W : World) (hb : Below w.heap.size w W) => Qa2 g.chs.length hn12 s W (HL.out.below hb))
    obtain ⟨U, hU⟩ : ∃ U, U = Xi g.chs.length s := ⟨_, rfl⟩
    have hUs : Sm U := by rw [hU]; exact sm_of (sil_sm _ _)
    have hUo : Te U = true := by rw [hU]; exact sil_ok _ _ hn12
    have hUb := sil_bw g.chs.length s hn12
    rw [← hU] at HSi hle hUb
    have HCu := Qa.mk (fun (W : World) (B N : Option Addr) (p q : Nat) (hb : Below w.heap.size w W) (h : Uv W U B p N q) => Jp U B p N q W (HL.out.below hb) (HB.out.below hb) (size4 (HB.out.below hb)) h hUs hUo hUb)
    unfold grV at HCo HCu
    obtain ⟨mg, hmg⟩ : ∃ x, x = Ud g := ⟨_, rfl⟩
    obtain ⟨mu, hmu⟩ : ∃ x, x = Ud U := ⟨_, rfl⟩
    rw [← hmg] at HCo hle
    rw [← hmu] at HCu hle
    have hmle : decide (mu ≤ mg) = true := decide_eq_true hle
    have hnI : 1 ≤ (g.chs.length : Int) ∧ (g.chs.length : Int) ≤ 2 := by omega
    have hnz : ((g.chs.length : Int) == 0) = false := by simpa using (show ¬ (g.chs.length : Int) = 0 by omega)
    have hxne : ¬ g.chs = [] := fun e => by rw [e] at hn12; simp at hn12
    replace hmle := Qa.mk hmle
    clear hgz hsmg hok hfew hG hw hle hcell hs hU hUs hUo hUb hmg hmu hn12
    refine HCo.out.mono ?_
    rintro e wy ⟨rfl, hby⟩
    replace hB0 := Qa.mk (Qn hB0.out hby)
    have hch2 := hch.out wy hby
    replace hch := Qa.mk (fun (W : World) (hb : Below wy.heap.size wy W) => hch.out W (bnx hby hb))
    replace hb1 := bnx hb1 hby
    clear hby HCo x0 x1
    have x0 := Qb hB0.out 0
    go_wp2_with fail
    refine Qs (S := fun W => W.cell? ⟨w.heap.size, 0, none⟩ = some (.slice (some ad) g.chs.length c) ∧ W.cell? ad = some (.bool s)) (ds := []) hmo ⟨x0, hch2⟩ (fun hHeld => ?_)
    have hbD : Below wy.heap.size wy wy.drew := (Below.refl _ _).drew
    have hP : Qa (∀ W, Below wy.heap.size wy W → W.cell? ⟨w.heap.size, 0, none⟩ = some (.slice (some ad) g.chs.length c) ∧ W.cell? ad = some (.bool s)) := ⟨fun W hb => ⟨cnx x0 hb, hch.out W hb⟩⟩
    obtain ⟨V, hV⟩ : ∃ V, V = wy.drew := ⟨_, rfl⟩
    rw [← hV] at hHeld hbD ⊢
    clear hV x0 hch2
    (refine Tk.tl 0 (.pointer (some ⟨w.heap.size, 0, none⟩)) hHeld ?_)
    (refine Tk.tl 1 (.slice (some ad) g.chs.length c) hHeld ?_)
    (refine Tk.tl 2 (.int .i64 g.chs.length) hHeld ?_)
    (refine Tk.tl 3 (.pointer (some ⟨w.heap.size, 0, none⟩)) hHeld ?_)
    (refine Tk.tl 4 (.slice (some ad) g.chs.length c) hHeld ?_)
    (refine Tk.tl 5 (.pointer (some ad)) hHeld ?_)
    (refine Tk.tl 6 (.pointer (some ad)) hHeld ?_)
    (refine Tk.tl 7 (.bool s) hHeld ?_)
    refine Sw (σ := (Option Addr × Nat × Option Addr × Nat) × Nat) 2 #[true, true, true, true, true, true, true, true, true, true, true, true, true, false, false] (fun x => [(99, .tuple #[.agg #[.slice x.1.1 U.chs.length x.1.2.1, .slice x.1.2.2.1 U.mid.length x.1.2.2.2], .int .i64 0]), (90, .tuple #[.agg #[.slice x.1.1 U.chs.length x.1.2.1, .slice x.1.2.2.1 U.mid.length x.1.2.2.2], .int .i64 0]), (100, .agg #[.slice x.1.1 U.chs.length x.1.2.1, .slice x.1.2.2.1 U.mid.length x.1.2.2.2]), (101, .int .i64 0), (17, .pointer (some ⟨x.2, 0, none⟩))])
     (fun x W => GU U x.1.1 x.1.2.1 x.1.2.2.1 x.1.2.2.2 x.2 W ∧ Below wy.heap.size wy W ∧ W.heap[x.2]? = some (.cells #[.slice none 0 0, .slice none 0 0] 31 (0, 0)) ∧ wy.heap.size ≤ x.2) ?_ ?_
    ·rintro ⟨⟨B, p, N, q⟩, bu⟩ W ⟨hgU, hbW, hBu, hbu⟩
     dsimp only at hgU hBu hbu ⊢
     simp only [Uu, Act.put, List.setIfInBounds_toArray, List.set_cons_zero, List.set_cons_succ]
     have zu0 := Qb hBu 0
     have zu1 := Qb hBu 1
     have fu0 := Qe hBu 0
     have fu1 := Qe hBu 1
     have hB2 := Q5 (Q5 hBu 0 (.slice B U.chs.length p)) 1 (.slice N U.mid.length q)
     have hbW2 := (hbW.setCell (p := ⟨bu, 0, none⟩) hbu (.slice B U.chs.length p)).setCell (p := ⟨bu, 1, none⟩) hbu (.slice N U.mid.length q)
     have hgU2 := ((hgU.set 0 (.slice B U.chs.length p)).set 1 (.slice N U.mid.length q)).grAt
     have hP2 := Qa.mk (hP.out _ hbW2)
     (refine Qd (rs := [13]) (by kernel_rfl) (by simp) ?_; refine Qc.cons rfl (by decide) (fun K hK => ?_) Qc.nil)
     go_simp
     (go_wp2_with fail; refine hK.out _ _ (hP2.out) (fun hHeld => ?_); clear hK K; try simp only [Act.put, Tk.z1, Tk.z2, Tk.z3, Tk.z4, Tk.z5, Tk.z6])
     obtain ⟨W2, hW2⟩ : ∃ W', W' = (W.setCell ⟨bu, 0, none⟩ (.slice B U.chs.length p)).setCell ⟨bu, 1, none⟩ (.slice N U.mid.length q) := ⟨_, rfl⟩
     rw [← hW2] at hB2 hbW2 hgU2 hHeld ⊢
     clear hW2 zu0 zu1 fu0 fu1 hBu hbW hgU hbu hP2
     (refine Tk.tl 14 (.int .i64 0) hHeld ?_)
     refine Qp (by kernel_rfl) ?_ _
     have zu0 := Qb hB2 0
     have zu1 := Qb hB2 1
     have hb9 := bnx hb1 hbW2
     have HC := Qa.mk (HCu.out W2 B N p q hb9 hgU2)
     clear hHeld hB2 hbW2 hgU2 hbD HSi HCu hP hch hB0 hb1
     go_wp2_with fail
     refine HC.out.mono ?_
     rintro e W3 ⟨rfl, hb3⟩
     replace hb9 := bnx hb9 hb3
     have hmle' := hmle.out
     clear hb3 HC zu0 zu1
     go_wp2_with fail
     refine (HAw.out _ hb9).mono ?_
     rintro e W4 ⟨rfl, hb4⟩
     replace hb9 := bnx hb9 hb4
     clear hb4
     go_wp2
     go_ret
     exact ⟨rfl, hb9⟩
    ·intro hJ
     replace hJ := Qa.mk hJ
     refine Qd (rs := [8, 12]) (by kernel_rfl) (by simp) ?_
     refine Qc.cons rfl (by decide) (fun K hK => ?_) (Qc.cons rfl (by decide) (fun K hK => ?_) Qc.nil)
     ·go_simp
      refine (HSi.out V (bnx hb1 hbD)).mono ?_
      intro e V1 hgo
      obtain ⟨B, p, N, q, rfl, hgU, hbc⟩ := GU_of hgo (.inr (Nat.le_refl _))
      clear hgo
      have hbV := bnx hbD hbc
      (go_wp2_with fail; refine hK.out _ _ (hP.out _ hbV) (fun hHeld => ?_); clear hK K; try simp only [Act.put, Tk.z1, Tk.z2, Tk.z3, Tk.z4, Tk.z5, Tk.z6])
      (refine Tk.tl 9 (.tuple #[.agg #[.slice B U.chs.length p, .slice N U.mid.length q], .int .i64 0]) hHeld ?_)
      (refine Tk.tl 10 (.agg #[.slice B U.chs.length p, .slice N U.mid.length q]) hHeld ?_)
      (refine Tk.tl 11 (.int .i64 0) hHeld ?_)
      (refine Qd (rs := [12]) (by kernel_rfl) (by simp) ?_; refine Qc.cons rfl (by decide) (fun K hK => ?_) Qc.nil)
      refine Qv (w1 := V1.alloc (.cells #[.slice none 0 0, .slice none 0 0] 31)) (v := .pointer (some ⟨V1.heap.size, 0, none⟩)) (by kernel_rfl) rfl (by kernel_rfl) ?_
      have hb2 : Below V1.heap.size V1 (V1.alloc (.cells #[.slice none 0 0, .slice none 0 0] 31)) := (Below.refl _ _).alloc (Nat.le_refl _) _
      refine hK.out _ _ (hP.out _ (bnx hbV hb2)) (fun hHeld => ?_)
      exact Bts.X4 (by kernel_rfl) (by kernel_rfl) (hJ.out ((B, p, N, q), V1.heap.size) _ ⟨hgU.below hb2, bnx hbV hb2, heap_alloc_new _ _, hbV.size⟩)
     ·refine Qv (w1 := V.alloc (.cells #[.slice none 0 0, .slice none 0 0] 31)) (v := .pointer (some ⟨V.heap.size, 0, none⟩)) (by kernel_rfl) rfl (by kernel_rfl) ?_
      have hb2 : Below V.heap.size V (V.alloc (.cells #[.slice none 0 0, .slice none 0 0] 31)) := (Below.refl _ _).alloc (Nat.le_refl _) _
      refine hK.out _ _ (hP.out _ (bnx hbD hb2)) (fun hHeld => ?_)
      clear hK K
      simp only [Act.put, List.setIfInBounds_toArray, List.set_cons_zero, List.set_cons_succ]
      obtain ⟨bu, hbuE⟩ : ∃ b, b = V.heap.size := ⟨_, rfl⟩
      obtain ⟨V1, hV1⟩ : ∃ W, W = V.alloc (.cells #[.slice none 0 0, .slice none 0 0] 31) := ⟨_, rfl⟩
      have hBu : V1.heap[bu]? = some (.cells #[.slice none 0 0, .slice none 0 0] 31 (0, 0)) := by rw [hV1, hbuE]; exact heap_alloc_new _ _
      have hbu : wy.heap.size ≤ bu := by rw [hbuE]; exact hbD.size
      rw [← hV1] at hb2 hHeld ⊢
      rw [← hbuE]
      clear hV1 hbuE
      replace hbu := Qa.mk hbu
      replace hBu := Qa.mk hBu
      (refine Qd (rs := [8]) (by kernel_rfl) (by simp) ?_; refine Qc.cons rfl (by decide) (fun K hK => ?_) Qc.nil)
      go_simp
      refine (HSi.out V1 (bnx hb1 (bnx hbD hb2))).mono ?_
      intro e V2 hgo
      obtain ⟨B, p, N, q, rfl, hgU, hbc⟩ := GU_of hgo (.inl (Qq hBu.out))
      clear hgo
      have hbV := bnx (bnx hbD hb2) hbc
      (go_wp2_with fail; refine hK.out _ _ (hP.out _ hbV) (fun hHeld => ?_); clear hK K; try simp only [Act.put, Tk.z1, Tk.z2, Tk.z3, Tk.z4, Tk.z5, Tk.z6])
      (refine Tk.tl 9 (.tuple #[.agg #[.slice B U.chs.length p, .slice N U.mid.length q], .int .i64 0]) hHeld ?_)
      (refine Tk.tl 10 (.agg #[.slice B U.chs.length p, .slice N U.mid.length q]) hHeld ?_)
      (refine Tk.tl 11 (.int .i64 0) hHeld ?_)
      exact Bts.X4 (by kernel_rfl) (by kernel_rfl) (hJ.out ((B, p, N, q), bu) _ ⟨hgU, hbV, Qn hBu.out hbc, hbu.out⟩)
end Gn

end Go.Proofs.YtnflnicdjioflaaGreatDoor
