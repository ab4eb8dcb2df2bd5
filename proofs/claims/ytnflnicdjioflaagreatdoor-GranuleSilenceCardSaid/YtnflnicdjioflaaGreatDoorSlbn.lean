/- A part of the proof. -/
import Derived.Test.YtnflnicdjioflaaGreatDoorSlbm
set_option linter.unusedVariables false
set_option linter.unusedSimpArgs false
set_option maxRecDepth 100000
set_option maxHeartbeats 8000000
namespace Go.Proofs.YtnflnicdjioflaaGreatDoor
open Go.RowKit Go.Proofs.YtnflnicdjioflaaGreatDoorW.PrintWords Go.Proofs.YtnflnicdjioflaaGreatDoorW.PrintLast Go.Proofs.YtnflnicdjioflaaGreatDoorW.PrintMore
namespace Sp
attribute [local go_sem] Qj Qi Ql Qk Qg Qf
open Q15
open Q21
open Gn
open Bk (Z7)
open Q16 (isW Za Xx Gt)
open St (Yw Gu Tz at_ sV)
open Bd (Yn)
open Bts
open Runs Go.Shelf
attribute [local go_sem] Oper.semAt_some
theorem info_sl : (Tryz.prog.info? 22).map (fun i => (i.zero, i.size, i.bytes)) = some (some (.slice none 0 0), 1, 24) := by kernel_rfl
abbrev lisG (F : Nat → Nat) (R : Nat → List Int) (k : Nat) : List Blk := (List.range k).map fun j => ⟨F j, ((R j).map (Value.int .i64)).toArray, 3⟩
abbrev lisC (F : Nat → Nat) (k : Nat) : List Value := (List.range k).map fun j => sV (F j)
theorem lis_new (F : Nat → Nat) (R : Nat → List Int) (k g : Nat) : lisG F R k ++ [⟨g, ((R k).map (Value.int .i64)).toArray, 3⟩] = lisG (fun j => if j = k then g else F j) R (k + 1) ∧ lisC F k ++ [sV g] = lisC (fun j => if j = k then g else F j) (k + 1) := by
 unfold lisG lisC
 rw [List.range_succ, List.map_append, List.map_append]
 refine ⟨?_, ?_⟩
 ·congr 1
  ·refine List.map_congr_left fun j hj => ?_
   dsimp only
   rw [if_neg (by have := List.mem_range.1 hj; omega)]
  ·simp
 ·congr 1
  ·refine List.map_congr_left fun j hj => ?_
   dsimp only
   rw [if_neg (by have := List.mem_range.1 hj; omega)]
  ·simp
theorem Rws.sub {wr w : World} {L : List Row} {G G' : List Blk} (h : Rws wr w L G) (hs : G'.Sublist G) : Rws wr w L G' :=
 ⟨h.below, h.row, h.pair, fun b hb => h.blk b (hs.subset hb), fun r hr b hb => h.far r hr b (hs.subset hb), h.gs.sublist hs⟩
theorem Rws.unrow {wr w : World} {e n : Nat} {v : Value} {xs : List Value} {G : List Blk} (h : Rws wr w [⟨e, 1, v, n, xs⟩] G) (hn : 0 < n) : ∃ (g cap : Nat) (cur : Array Value), v = .slice (some ⟨g, 0, none⟩) n cap ∧ Rws wr w [] (⟨g, cur, e⟩ :: G) ∧ ∀ j, j < n → cur[j]? = xs[j]? := by
 obtain ⟨h1, h2⟩ := h.row _ (List.mem_singleton.2 rfl)
 dsimp only at h1 h2
 rcases h2 with ⟨-, h0⟩ | ⟨g, cap, cur, rfl, hb, hg, h3, h4, h5, h6⟩
 ·omega
 ·refine ⟨g, cap, cur, rfl, ⟨h.below, by simp, .nil, fun b hb2 => ?_, by simp, ?_⟩, fun j hj => ?_⟩
  ·rcases List.mem_cons.1 hb2 with rfl | hb2
   ·exact ⟨hg, hb⟩
   ·exact h.blk b hb2
  ·refine List.pairwise_cons.2 ⟨fun b hb2 e => ?_, h.gs⟩
   have := h.far _ (List.mem_singleton.2 rfl) b hb2
   exact this (congrArg some e)
  ·rw [← h6, List.getElem?_take_of_lt (by omega)]
   simp
theorem Sa (a : Addr) (n : Nat) : ∀ j, a.add (n + (j + 1)) = ⟨(a.add n).block, (a.add n).off + (j + 1), none⟩
 | 0 => Sec.Q9 a n
 | j + 1 => by rw [show n + (j + 1 + 1) = n + (j + 1) + 1 by omega, Sec.Q9, Sa a n j]; rfl
theorem Rs (g : Gr) (A M : Option Addr) (c m : Nat) (w : World) (hL : Laid w) (h : Uv w g A c M m) (hs : Sm g) (hg : Te g = true) (hcq : capQ w A g.chs) :
  Calls Tryz.prog 13 #[grV g A c M m] w (SOut g.chs.length (spJ g (Qm (chK g 0).sh (chK g 0).gr)) w) := by
 obtain ⟨xs, mid⟩ := g
 unfold grV
 have hG := Kh.1 hg
 have hn := hG.n
 dsimp only at hn
 have hC := Qa.mk h.chs
 have hM := Qa.mk h.mid
 dsimp only at hC hM
 have HW := Qa.mk (fun (W : World) (hb : Below w.heap.size w W) => Y4 A M c m ⟨xs, mid⟩ W (hL.below hb) (h.below hb).chs hs)
 unfold Nl at HW
 simp only [hg, if_true] at HW
 have hws := Yu hG.div
 have hmid := hG.mid
 have HF := Qa.mk (fun k (hk : k < xs.length) => (show ChF (Qm (chK ⟨xs, mid⟩ 0).sh (chK ⟨xs, mid⟩ 0).gr) (xs.getD k ch0) ∧ Zf (xs.getD k ch0).sh (xs.getD k ch0).gr = true ∧ (xs.getD k ch0).sc.length = (Qm (chK ⟨xs, mid⟩ 0).sh (chK ⟨xs, mid⟩ 0).gr).length by
  have hm : xs.getD k ch0 ∈ xs := by rw [List.getD_eq_getElem?_getD, List.getElem?_eq_getElem hk]; exact List.getElem_mem _
  obtain ⟨e1, e2, e3⟩ := hG.ch _ hm
  have h4 := F5 hws e3
  refine ⟨h4, by rw [e1, e2]; exact hG.div, ?_⟩
  rw [h4.sc, J9]))
 obtain ⟨ws, hwsE⟩ : ∃ ws, ws = Qm (chK ⟨xs, mid⟩ 0).sh (chK ⟨xs, mid⟩ 0).gr := ⟨_, rfl⟩
 rw [← hwsE] at HW hws hmid HF ⊢
 obtain ⟨ad, -, -, -, -, -, -, -, -, rfl, -⟩ := U2 hC.out (Below.refl _ _) (k := 0) (by omega)
 have HQ := Qa.mk hcq
 have HLd := Qa.mk hL
 have HWs := Qa.mk hws
 have HMo := Qa.mk hmid
 have hmo : Tryz.prog.follows .mixedOrders = true := by kernel_rfl
 have hu31 := Tryz.underlying31
 have hu46 := Tryz.underlying46
 have hnI : 1 ≤ (xs.length : Int) ∧ (xs.length : Int) ≤ 2 := by omega
 have HN := Qa.mk hn
 have HY : Qa (∀ j, spJ ⟨xs, mid⟩ ws j = Yn (chK ⟨xs, mid⟩ j).sh (chK ⟨xs, mid⟩ j).gr (U5 ⟨xs, mid⟩ ws j) 128) := ⟨fun j => rfl⟩
 have hGx : Qa (∀ j, chK ⟨xs, mid⟩ j = xs.getD j ch0) := ⟨fun j => rfl⟩
 clear h hs hg hG hL hcq hws hwsE hmid hn
 dsimp only
 refine (callsIn_wide (n := 3)).1 ?_
 refine callsIn_of_wp Tryz.func13 rfl trivial ?_ rfl
 simp only [Tryz.ntmps13, List.size_toArray, List.length_cons, List.length_nil, Nat.reduceAdd, Nat.reduceSub, Array.replicate_succ, Array.replicate_zero, List.push_toArray, List.append_toArray, List.nil_append, List.cons_append]
 gi_wp2_with fail
 obtain ⟨W0, hW0⟩ : ∃ W0, W0 = w.alloc (.cells #[.slice (some ad) xs.length c, .slice M mid.length m] 31) := ⟨_, rfl⟩
 have hR0 := ((Rws.start w).nil 22 1).alloc #[.slice (some ad) xs.length c, .slice M mid.length m] 31
 simp only [List.nil_append] at hR0
 rw [← hW0] at hR0 ⊢
 clear hW0
 refine ⟨trivial, (callsIn_wide.2 (HW.out W0 hR0.below)).mono ?_⟩
 rintro en W1 ⟨B, q, rfl, hB, hb1⟩
 have hb01 := Qa.mk (bnx hR0.below hb1)
 have z0 : W1.cell? ⟨w.heap.size, 0, none⟩ = some (.slice (some ad) xs.length c) := by rw [Qb ((hR0.step hb1).blk ⟨w.heap.size, #[.slice (some ad) xs.length c, .slice M mid.length m], 31⟩ (by simp)).1]; rfl
 have z1 : W1.cell? ⟨w.heap.size, 1, none⟩ = some (.slice M mid.length m) := by rw [Qb ((hR0.step hb1).blk ⟨w.heap.size, #[.slice (some ad) xs.length c, .slice M mid.length m], 31⟩ (by simp)).1]; rfl
 have HZ := Qa.mk (And.intro z0 z1)
 have hBr := Qa.mk (fun (W : World) (hb : Below W1.heap.size W1 W) => Kd.Qh hB hb)
 have hs1 := Qa.mk hb01.out.size
 clear hR0 hb1 hB HW z1
 gi_wp2_with fail
 gi_loopw [6, 26] (fun x i wr => ∃ (k : Nat) (F : Nat → Nat), i = .int .i64 k ∧ k ≤ xs.length ∧ Qa (Rws W1 wr [⟨22, 1, x, k, lisC F k⟩] (lisG F (fun j => Um ws (xs.getD j ch0)) k))) (fun _ i _ => xs.length - (intOf i).toNat)
 case atStart => exact ⟨0, fun _ => 0, rfl, by omega, ⟨(Rws.start W1).nil 22 1⟩⟩
 case round =>
  obtain ⟨k, F, rfl, hk, hRw⟩ := hrel
  clear z0
  by_cases hlt : k < xs.length
  ·have hbw := bnx hb01.out hRw.out.below
   obtain ⟨_, A1, c1, A2, c2, A3, c3, A4, c4, e, hcell, g1, g2, g3, g4⟩ := U2 hC.out hbw hlt
   cases e
   have hq9 := HQ.out k ad A3 c3 hlt rfl
   obtain ⟨_, B1, d1, B2, d2, B3, d3, B4, d4, e, hcell0, -, -, -, -⟩ := U2 hC.out (Below.refl _ _) hlt
   cases e
   have hq8 := cnx (hcell0 3 _ rfl) hbw
   rw [hcell 3 _ rfl] at hq8
   injection hq8 with hq8
   rw [hq8] at hq9
   obtain ⟨q1, q2⟩ := hq9 (hcell0 3 _ rfl)
   injection hq8 with e3 _ e4
   subst e3 e4
   clear hcell0
   obtain ⟨f1, f2, f3⟩ := HF.out k hlt
   have hck := fun j (hj : j < ws.length) => chkB HWs.out f1 f3 hj
   have hvl := valJ_len HWs.out f1.q hck
   have hvb := valJ_bd hck
   have hfil : Vp (xs.getD k ch0).fi = true := by
    unfold Vp
    simp only [Bool.and_eq_true, decide_eq_true_eq]
    exact ⟨f1.fl, List.all_eq_true.2 fun x hx => by simpa using f1.fv x hx⟩
   obtain ⟨X, hX⟩ : ∃ X, X = xs.getD k ch0 := ⟨_, rfl⟩
   have hRX : Um ws (xs.getD k ch0) = Ux (Zb X.fi) (Nr ws X) 128 := by rw [hX]; rfl
   rw [← hX] at hcell g1 g2 g3 g4 f1 f2 f3 hck hvl hvb hfil q1
   have herr : Gt (-1023) 1023 0 95 X.qu ws X.sc = 0 := errS_of HWs.out f1.q f3 f1.ok.vals (List.all_eq_true.2 fun x hx => by simpa using Sca.Tq f1.e x hx)
   have HV := Qa.mk (fun (W : World) (hb : Below wr.heap.size wr W) => Q16.Dy A3 B A2 c3 q c2 X.qu ws X.sc W (Kd.Qh g3 hb) (hBr.out W (bnx hRw.out.below hb)) (Kd.Qh g2 hb) q1 q2 herr)
   have HS := Qa.mk (fun (W : World) (hb : Below wr.heap.size wr W) (A9 : Option Addr) (c9 : Nat) (hv : (Kd.int .i64).C W A9 (Nr ws X).length (Nr ws X)) => F9 A9 A4 c9 c4 (Nr ws X) X.fi W hv (Kd.Qh g4 hb) hfil (by omega) (fun x hx => by have := hvb x hx; omega))
   rw [hvl] at HS
   have m0 : wr.cell? (ad.add (k * 5)) = some (.bool X.sh) := hcell 0 _ rfl
   have m1 := hcell 1 _ rfl
   have m2 := hcell 2 _ rfl
   have m3 := hcell 3 _ rfl
   have m4 := hcell 4 _ rfl
   rw [Sa] at m1 m2 m3 m4
   have z0 := cnx HZ.out.1 hRw.out.below
   have hkI : (k : Int) < (xs.length : Int) := by omega
   have hT := Qa.mk hlt
   replace hvl := Qa.mk hvl
   clear hX hck hvb hfil q1 q2 f1 f2 f3 hcell hlt hk herr g1 g2 g3 g4
   gi_wp2_with fail
   obtain ⟨W9, hW9⟩ : ∃ W9, W9 = wr.alloc (.cells #[.bool X.sh, .slice A1 X.gr.length c1, .slice A2 X.sc.length c2, .slice A3 X.qu.length c3, .slice A4 X.fi.length c4] 46) := ⟨_, rfl⟩
   have hbW9 : Below wr.heap.size wr W9 := by rw [hW9]; exact (Below.refl _ _).alloc (Nat.le_refl _) _
   have hR9 := Rws.blkc hRw.out hbW9 (b := ⟨wr.heap.size, #[.bool X.sh, .slice A1 X.gr.length c1, .slice A2 X.sc.length c2, .slice A3 X.qu.length c3, .slice A4 X.fi.length c4], 46⟩) (by rw [hW9]; exact heap_alloc_new _ _) (Nat.le_refl _)
   obtain ⟨b9, hb9⟩ : ∃ b9, b9 = wr.heap.size := ⟨_, rfl⟩
   rw [← hW9, ← hb9]
   rw [← hb9] at hR9
   refine ⟨trivial, (callsIn_wide.2 (HV.out W9 hbW9)).mono ?_⟩
   rintro en W10 ⟨v, rfl, hv, hb10⟩
   obtain ⟨A9, c9, rfl, -, hv9⟩ := Kd.Qz hv
   have hR10 := hR9.step hb10
   have hbw10 := bnx hbW9 hb10
   have hvl9 : ((List.range ws.length).map fun k => Xf (Xx X.qu ws k) (rd X.sc k)).flatten.length = 128 := hvl.out
   have HS2 := Qa.mk (HS.out W10 hbw10 A9 c9 (by rw [← hvl.out]; exact hv9))
   rw [hvl9]
   have u4 : W10.cell? ⟨b9, 4, none⟩ = some (.slice A4 X.fi.length c4) := by rw [Qb (hR10.blk ⟨b9, #[.bool X.sh, .slice A1 X.gr.length c1, .slice A2 X.sc.length c2, .slice A3 X.qu.length c3, .slice A4 X.fi.length c4], 46⟩ (by simp)).1]; rfl
   clear hW9 hR9 hb10 hv hv9 hvl9 m0 m1 m2 m3 m4 z0 HV HS hbW9 hb9
   replace hR10 := Qa.mk hR10
   replace hbw10 := Qa.mk hbw10
   gi_wp2_with fail
   refine ⟨trivial, (callsIn_wide.2 HS2.out).mono ?_⟩
   rintro en W11 ⟨gr, rfl, hgr, hgs, hb11⟩
   rw [← hRX] at hgr
   have hR11 := Rws.blkc hR10.out hb11 (b := ⟨gr, ((Um ws (xs.getD k ch0)).map (Value.int .i64)).toArray, 3⟩) hgr hgs
   replace hR11 := Rws.sub hR11 (G' := lisG F (fun j => Um ws (xs.getD j ch0)) k ++ [⟨gr, ((Um ws (xs.getD k ch0)).map (Value.int .i64)).toArray, 3⟩]) (List.Sublist.append (List.sublist_append_left _ _) (List.Sublist.refl _))
   have hRl := Qa.mk (hR11.alloc #[sV gr] 22)
   have hl9 : Qa ((k + 1) * 24 ≤ 140737488355328) := ⟨by have := hT.out; have := HN.out.2; omega⟩
   clear hgr hgs hb11 hR11 hR10 hbw10 HS2 u4
   gi_wp2_with (refine appIn (wr := W1) (L1 := []) (L2 := []) (G := _) rfl (.tmp 39) (.tmp 44) 24 22 rfl (.slice none 0 0) 1 24 Tryz.underlying24 info_sl rfl (by decide) (by decide) u6 k (lisC F k) rfl hRl.out ⟨W11.heap.size, 0, none⟩ 1 1 [sV gr] rfl rfl (M6 _ _ _) (by simp [Value.oneCell']) hl9.out ?_; intro v1 wA hRA hgA hkA; have HRA := Qa.mk hRA; have HKA := Qa.mk hkA; clear hRA hgA hkA; obtain ⟨A4, p4, hv4⟩ := ownsl (HRA.out.row _ (List.mem_append_right _ (List.mem_cons_self))); dsimp only at hv4; subst hv4; skip)
   obtain ⟨n1, n2⟩ := lis_new F (fun j => Um ws (xs.getD j ch0)) k gr
   have hfin := Qa.mk (Rws.sub HRA.out (List.sublist_append_left _ _))
   rw [n1, n2] at hfin
   go_roundw
   case rel => exact ⟨k + 1, fun j => if j = k then gr else F j, by go_num, hT.out, hfin⟩
   case measure => have := hT.out; simp [intOf]; omega
  ·obtain rfl : k = xs.length := by omega
   obtain ⟨go, cp, cur, rfl, hR2, hcj⟩ := Rws.unrow hRw.out HN.out.1
   have hcF : Qa (∀ j, j < xs.length → cur[j]? = some (sV (F j))) := ⟨fun j hj => by rw [hcj j hj]; unfold lisC; simp [hj]⟩
   have hFj : Qa (∀ j, j < xs.length → wr.heap[F j]? = some (.cells ((Um ws (xs.getD j ch0)).map (Value.int .i64)).toArray 3 (0, 0)) ∧ F j ≠ go) := ⟨fun j hj => by
    have hm : (⟨F j, ((Um ws (xs.getD j ch0)).map (Value.int .i64)).toArray, 3⟩ : Blk) ∈ lisG F (fun j => Um ws (xs.getD j ch0)) xs.length := List.mem_map.2 ⟨j, List.mem_range.2 hj, rfl⟩
    exact ⟨(hR2.blk _ (List.mem_cons_of_mem _ hm)).1, fun e => (List.pairwise_cons.1 hR2.gs).1 _ hm e.symm⟩⟩
   have hgo := Qa.mk (And.intro (hR2.blk ⟨go, cur, 22⟩ (by simp)).1 (Nat.le_trans hs1.out (hR2.blk ⟨go, cur, 22⟩ (by simp)).2))
   have hbw := bnx hb01.out hR2.below
   have z0' := cnx HZ.out.1 hR2.below
   have z1' := cnx HZ.out.2 hR2.below
   have hB2 := Qa.mk (hBr.out wr hR2.below)
   replace hbw := Qa.mk hbw
   clear hlt hk hRw hR2 hcj hb01 HZ
   by_cases h2 : xs.length = 2
   case' pos =>
    have hd2 : ((xs.length : Int) == 2) = true := by rw [h2]; rfl
    have h2I : (1 : Int) < (xs.length : Int) := by omega
    have hne : ¬ xs = [] := fun e => by rw [e] at h2; simp at h2
    obtain ⟨r0, hr0⟩ : ∃ r, r = Um ws (xs.getD 0 ch0) := ⟨_, rfl⟩
    obtain ⟨r1, hr1⟩ : ∃ r, r = Um ws (xs.getD 1 ch0) := ⟨_, rfl⟩
    have hF0 := (hFj.out 0 (by omega)).1
    have hF1 := (hFj.out 1 (by omega)).1
    rw [← hr0] at hF0
    rw [← hr1] at hF1
    have l0 : r0.length = 128 := by rw [hr0]; exact Xt _ _ _
    have l1 : r1.length = 128 := by rw [hr1]; exact Xt _ _ _
    have hml : mid.length = ws.length := by
     have := HMo.out
     unfold Hu at this
     rw [if_neg (by omega)] at this
     have := of_decide_eq_true this
     omega
    have HPt := Qa.mk (fun (W : World) (hb : Below wr.heap.size wr W) => St.Ob (some ⟨F 0, 0, none⟩) (some ⟨F 1, 0, none⟩) B M 128 128 q m r0 r1 ws mid W (Kd.Qh (Xy hF0 (by omega)) hb) (Kd.Qh (Xy hF1 (by omega)) hb) (Kd.Qh hB2.out hb) (Kd.Qh hM.out (bnx hbw.out hb)) HWs.out l0 l1 hml (fun k hk => by
     have b0 := Tw _ _ 128 _ (show rd r0 (k : Nat) ∈ Ux (Zb (xs.getD 0 ch0).fi) (Nr ws (xs.getD 0 ch0)) 128 by rw [← show r0 = Ux (Zb (xs.getD 0 ch0).fi) (Nr ws (xs.getD 0 ch0)) 128 from hr0]; exact Qt r0 k (by omega))
     have b1 := Tw _ _ 128 _ (show rd r1 (k : Nat) ∈ Ux (Zb (xs.getD 1 ch0).fi) (Nr ws (xs.getD 1 ch0)) 128 by rw [← show r1 = Ux (Zb (xs.getD 1 ch0).fi) (Nr ws (xs.getD 1 ch0)) 128 from hr1]; exact Qt r1 k (by omega))
     omega))
    rw [l0, l1] at HPt
    unfold St.POut at HPt
    obtain ⟨X, hX⟩ : ∃ X, X = Gu r0 r1 (Yw ws mid ws.length) := ⟨_, rfl⟩
    obtain ⟨Y, hYE⟩ : ∃ Y, Y = Tz r0 r1 (Yw ws mid ws.length) := ⟨_, rfl⟩
    have lX : X.length = 128 := by rw [hX]; unfold St.Gu; rw [List.length_map, List.length_range, l0]
    have lY : Y.length = 128 := by rw [hYE]; unfold St.Tz; rw [List.length_map, List.length_range, l0]
    have hmj : Qa (U5 ⟨xs, mid⟩ ws 0 = X.map Jc ∧ U5 ⟨xs, mid⟩ ws 1 = Y.map Jc) := ⟨by
     unfold U5
     dsimp only
     rw [if_pos h2, if_pos h2, if_pos rfl, if_neg (by decide), hX, hYE, hr0, hr1]
     exact ⟨rfl, rfl⟩⟩
    rw [← hX, ← hYE] at HPt
    replace lX := Qa.mk lX
    replace lY := Qa.mk lY
    have h2' := Qa.mk h2
    have k0 : wr.cell? ⟨go, 0, none⟩ = some (sV (F 0)) := by rw [Qb hgo.out.1]; exact hcF.out 0 (by omega)
    have k1 : wr.cell? ⟨go, 1, none⟩ = some (sV (F 1)) := by rw [Qb hgo.out.1]; exact hcF.out 1 (by omega)
    clear h2 hr0 hr1 hF0 hF1 l0 l1 hml hX hYE
    gi_wp2_with fail
    refine Go.wpIn_wide.2 (wp_region_noPanic (Z7 (fun W => W.cell? ⟨go, 0, none⟩ = some (sV (F 0)) ∧ W.cell? ⟨go, 1, none⟩ = some (sV (F 1)) ∧ W.cell? ⟨w.heap.size, 1, none⟩ = some (.slice M mid.length m)) hmo ⟨k0, k1, z1'⟩ (fun hHeld => ?_)))
    (refine Tk.tk 0 (.slice (some ⟨go, 0, none⟩) xs.length cp) hHeld ?_)
    (refine Tk.tk 1 (.pointer (some ⟨go, 0, none⟩)) hHeld ?_)
    (refine Tk.tk 2 (sV (F 0)) hHeld ?_)
    (refine Tk.tk 3 (.slice (some ⟨go, 0, none⟩) xs.length cp) hHeld ?_)
    (refine Tk.tk 4 (.pointer (some ⟨go, 1, none⟩)) hHeld ?_)
    (refine Tk.tk 5 (sV (F 1)) hHeld ?_)
    (refine Tk.tk 6 (.slice B ws.length q) hHeld ?_)
    (refine Tk.tk 7 (.pointer (some ⟨w.heap.size, 1, none⟩)) hHeld ?_)
    (refine Tk.tk 8 (.slice M mid.length m) hHeld ?_)
    (refine wpAnyH_ready (rs := [9]) (by kernel_rfl) (by simp) ?_; refine AllReadyH.cons rfl (fun K hK => ?_) AllReadyH.nil; go_simp)
    refine (HPt.out _ (Below.refl _ _).drew).mono ?_
    rintro en W2 ⟨gx, gy, rfl, hgx, hgy, hxs, hys, hxy, hb2⟩
    have hb2' := bnx (Below.refl wr.heap.size wr).drew hb2
    (go_wp2_with fail; refine hK.out _ _ (⟨cnx k0 hb2', cnx k1 hb2', cnx z1' hb2'⟩) (fun hHeld => ?_); clear hK K; try simp only [Act.put, Tk.z1, Tk.z2, Tk.z3, Tk.z4, Tk.z5, Tk.z6])
    (refine Tk.tk 10 (.tuple #[sV gx, sV gy, .int .i64 0]) hHeld ?_)
    (refine Tk.tk 11 (sV gx) hHeld ?_)
    (refine Tk.tk 12 (sV gy) hHeld ?_)
    (refine Tk.tk 13 (.int .i64 0) hHeld ?_)
    (refine Tk.tk 14 (sV gx) hHeld ?_)
    (refine Tk.tk 15 (sV gy) hHeld ?_)
    (refine Tk.tk 16 (.int .i64 0) hHeld ?_)
    refine wpAnyH_done (by kernel_rfl) ?_ _
    refine NoPanic.normal ?_
    have hCx := Qa.mk (fun (W : World) (hb : Below W2.heap.size W2 W) => Dp (some ⟨gx, 0, none⟩) 128 X W (Kd.Qh (Xy hgx (by rw [lX.out]; decide)) hb) (by rw [lX.out]; decide))
    have hCy := Qa.mk (fun (W : World) (hb : Below W2.heap.size W2 W) => Dp (some ⟨gy, 0, none⟩) 128 Y W (Kd.Qh (Xy hgy (by rw [lY.out]; decide)) hb) (by rw [lY.out]; decide))
    rw [lX.out] at hCx
    rw [lY.out] at hCy
    replace hb2' := Qa.mk hb2'
    have hZ0 := Qa.mk z0'
    clear hgx hgy hxs hys hxy hb2 hHeld k0 k1 HPt z0' z1' hne
    gi_wp2_with fail
    refine ⟨trivial, (callsIn_wide.2 (hCx.out W2 (Below.refl _ _))).mono ?_⟩
    rintro en W3 ⟨h0, rfl, hh0, hs0, hb3⟩
    gi_wp2_with fail
    refine ⟨trivial, (callsIn_wide.2 (hCy.out W3 hb3)).mono ?_⟩
    rintro en W4 ⟨h1, rfl, hh1, hs4, hb4⟩
    have e0 := (hb4.block _ (Qq hh0)).trans hh0
    have l30 := Qq hh0
    have l41 := Qq hh1
    have hb04 := bnx hbw.out (bnx hb2'.out (bnx hb3 hb4))
    obtain ⟨Wz, hWz⟩ : ∃ W, W = W4.alloc (.cells #[sV h0, sV h1] 22) := ⟨_, rfl⟩
    have hb45 : Below W4.heap.size W4 Wz := by rw [hWz]; exact (Below.refl _ _).alloc (Nat.le_refl _) _
    have hbz := Qa.mk (bnx hb04 hb45)
    have hgz0 : Wz.heap[W4.heap.size]? = some (.cells #[sV h0, sV h1] 22 (0, 0)) := by rw [hWz]; exact heap_alloc_new _ _
    obtain ⟨gz, hgzE⟩ : ∃ g, g = W4.heap.size := ⟨_, rfl⟩
    rw [← hgzE] at hgz0
    have hgz := Qa.mk (And.intro hgz0 (show w.heap.size ≤ gz by rw [hgzE]; exact hb04.size))
    have hx0 : Qa (∀ j, j < xs.length → #[sV h0, sV h1][j]? = some (sV (if j = 0 then h0 else h1))) := ⟨fun j hj => by
     rw [h2'.out] at hj
     have : j = 0 ∨ j = 1 := by omega
     rcases this with rfl | rfl <;> rfl⟩
    have hx1 : Qa (∀ j, j < xs.length → Wz.heap[if j = 0 then h0 else h1]? = some (.cells ((U5 ⟨xs, mid⟩ ws j).map (Value.int .i64)).toArray 3 (0, 0)) ∧ (if j = 0 then h0 else h1) ≠ gz) := ⟨fun j hj => by
     rw [h2'.out] at hj
     have hj2 : j = 0 ∨ j = 1 := by omega
     have := hb4.size
     rcases hj2 with rfl | rfl
     ·rw [if_pos rfl, hmj.out.1]
      exact ⟨Qn e0 hb45, by omega⟩
     ·rw [if_neg (by decide), hmj.out.2]
      exact ⟨Qn hh1 hb45, by omega⟩⟩
    obtain ⟨Fz, hFzE⟩ : ∃ F : Nat → Nat, F = fun j => if j = 0 then h0 else h1 := ⟨_, rfl⟩
    have hcz : Qa (∀ j, j < xs.length → #[sV h0, sV h1][j]? = some (sV (Fz j))) := ⟨fun j hj => by rw [hFzE]; exact hx0.out j hj⟩
    have hFz : Qa (∀ j, j < xs.length → Wz.heap[Fz j]? = some (.cells ((U5 ⟨xs, mid⟩ ws j).map (Value.int .i64)).toArray 3 (0, 0)) ∧ Fz j ≠ gz) := ⟨fun j hj => by rw [hFzE]; exact hx1.out j hj⟩
    have y0 := cnx hZ0.out (bnx hb2'.out (bnx hb3 hb4))
    have y0l := World.block_lt_of_cell? _ _ y0
    clear hx0 hx1 hFzE hh0 hh1 hs0 hs4 e0 l30 l41 hb04 hb45 hb3 hb4 hgz0 hmj
    gi_wp2_with fail
    rw [← hWz, ← hgzE]
    obtain ⟨curz, hcE⟩ : ∃ c, c = #[sV h0, sV h1] := ⟨_, rfl⟩
    rw [← hcE] at hgz hcz
    obtain ⟨wq, rfl⟩ : ∃ W : World, W = wr := ⟨_, rfl⟩
    obtain ⟨cp, hcp⟩ : ∃ c : Nat, c = 2 := ⟨_, rfl⟩
    have hV : Value.slice (some ⟨gz, 0, none⟩) 2 2 = .slice (some ⟨gz, 0, none⟩) xs.length cp := by rw [h2'.out, hcp]
    rw [hV]
    clear hV hcp hWz hgzE hcE hgo hcF hFj hB2 hbw hb2' hCx hCy y0 y0l
   case' neg =>
    have hd2 : ((xs.length : Int) == 2) = false := by simpa using (show ¬ (xs.length : Int) = 2 by omega)
    have hmj : Qa (∀ j, U5 ⟨xs, mid⟩ ws j = Um ws (xs.getD j ch0)) := ⟨fun j => by unfold U5; rw [if_neg h2]; rfl⟩
    have h2' := Qa.mk h2
    have hFz : Qa (∀ j, j < xs.length → wr.heap[F j]? = some (.cells ((U5 ⟨xs, mid⟩ ws j).map (Value.int .i64)).toArray 3 (0, 0)) ∧ F j ≠ go) := ⟨fun j hj => by rw [hmj.out]; exact hFj.out j hj⟩
    clear h2 hmj
    gi_wp2_with fail
    obtain ⟨Wz, rfl⟩ : ∃ W : World, W = wr := ⟨_, rfl⟩
    obtain ⟨gz, rfl⟩ : ∃ g : Nat, g = go := ⟨_, rfl⟩
    obtain ⟨Fz, rfl⟩ : ∃ F' : Nat → Nat, F' = F := ⟨_, rfl⟩
    obtain ⟨curz, rfl⟩ : ∃ c : Array Value, c = cur := ⟨_, rfl⟩
    have hbz := hbw
    have hgz := hgo
    have hcz := hcF
    clear hgo hcF hFj hB2 hbw z0' z1'
   all_goals
    gi_loopw [72] (fun i wr => ∃ (k : Nat) (cu : Array Value) (F : Nat → Nat), i = .int .i64 k ∧ k ≤ xs.length ∧ Qa (wr.heap[gz]? = some (.cells cu 22 (0, 0)) ∧ (∀ j, j < xs.length → cu[j]? = some (sV (F j))) ∧ (∀ j, j < xs.length → wr.heap[F j]? = some (.cells ((if j < k then spJ ⟨xs, mid⟩ ws j else U5 ⟨xs, mid⟩ ws j).map (Value.int .i64)).toArray 3 (0, 0)) ∧ F j ≠ gz)) ∧ Qa (Kp gz none Wz wr)) (fun i _ => xs.length - (intOf i).toNat)
    case atStart => exact ⟨0, curz, Fz, rfl, by omega, ⟨hgz.out.1, hcz.out, fun j hj => by rw [if_neg (by omega)]; exact hFz.out j hj⟩, ⟨Kp.refl _ _ _⟩⟩
    case round =>
     obtain ⟨k, cu, F, rfl, hk, hI, hK⟩ := hrel
     by_cases hlt : k < xs.length
     ·obtain ⟨i1, i2, i3⟩ := hI.out
      have hbr := hbz.out.trans (hK.out.below (B := w.heap.size) hgz.out.2 (fun k e => by cases e) hbz.out.size)
      obtain ⟨_, A1, c1, A2, c2, A3, c3, A4, c4, e, hcell, g1, -, -, -⟩ := U2 hC.out hbr hlt
      cases e
      obtain ⟨-, f2, -⟩ := HF.out k hlt
      have hfk := (i3 k hlt).1
      rw [if_neg (by omega)] at hfk
      have hzl : (U5 ⟨xs, mid⟩ ws k).length = 128 := by
       unfold U5
       split
       ·rw [List.length_map]
        split
        ·unfold St.Gu; rw [List.length_map, List.length_range]; exact Xt _ _ _
        ·unfold St.Tz; rw [List.length_map, List.length_range]; exact Xt _ _ _
       ·exact Xt _ _ _
      have hyk : spJ ⟨xs, mid⟩ ws k = Yn (xs.getD k ch0).sh (xs.getD k ch0).gr (U5 ⟨xs, mid⟩ ws k) 128 := rfl
      obtain ⟨X, hX⟩ : ∃ X, X = xs.getD k ch0 := ⟨_, rfl⟩
      rw [← hX] at hcell g1 f2 hyk
      obtain ⟨Z, hZE⟩ : ∃ Z, Z = U5 ⟨xs, mid⟩ ws k := ⟨_, rfl⟩
      rw [← hZE] at hfk hzl hyk
      obtain ⟨fk, hfkE⟩ : ∃ f, f = F k := ⟨_, rfl⟩
      have hck := i2 k hlt
      rw [← hfkE] at hfk hck
      have HSc := Qa.mk (fun (W : World) (hb : Below wr.heap.size wr W) => Bd.Ri A1 (some ⟨fk, 0, none⟩) c1 128 X.sh X.gr Z W (HLd.out.below (bnx hbr hb)) (Kd.Qh g1 hb) f2 (Kd.Qh (Xy hfk (by omega)) hb) hzl)
      rw [hzl] at HSc
      rw [← hyk] at HSc
      have m0 : wr.cell? (ad.add (k * 5)) = some (.bool X.sh) := hcell 0 _ rfl
      have m1 := hcell 1 _ rfl
      have m2 := hcell 2 _ rfl
      have m3 := hcell 3 _ rfl
      have m4 := hcell 4 _ rfl
      rw [Sa] at m1 m2 m3 m4
      have hkI : (k : Int) < (xs.length : Int) := by omega
      have hT := Qa.mk hlt
      obtain ⟨W9, hW9⟩ : ∃ W9, W9 = wr.alloc (.cells #[.bool X.sh, .slice A1 X.gr.length c1, .slice A2 X.sc.length c2, .slice A3 X.qu.length c3, .slice A4 X.fi.length c4] 46) := ⟨_, rfl⟩
      have hbW9 : Below wr.heap.size wr W9 := by rw [hW9]; exact (Below.refl _ _).alloc (Nat.le_refl _) _
      obtain ⟨b9, hb9⟩ : ∃ b, b = wr.heap.size := ⟨_, rfl⟩
      have hB9 : W9.heap[b9]? = some (.cells #[.bool X.sh, .slice A1 X.gr.length c1, .slice A2 X.sc.length c2, .slice A3 X.qu.length c3, .slice A4 X.fi.length c4] 46 (0, 0)) := by rw [hW9, hb9]; exact heap_alloc_new _ _
      clear hfk hzl hyk hX hZE hfkE f2 g1 hcell hbr hlt hk
      gi_wp2_with fail
      rw [← hW9, ← hb9]
      have hbs : wr.heap.size ≤ b9 := by rw [hb9]; exact Nat.le_refl _
      clear hW9 hb9
      have s0 := Qb hB9 0
      have s1 := Qb hB9 1
      have sg : W9.cell? ⟨gz, k, none⟩ = some (sV fk) := by rw [Qb (Qn i1 hbW9)]; exact hck
      refine Go.wpIn_wide.2 (wp_region_noPanic (Z7 (fun W => W.cell? ⟨b9, 0, none⟩ = some (.bool X.sh) ∧ W.cell? ⟨b9, 1, none⟩ = some (.slice A1 X.gr.length c1)) hmo ⟨s0, s1⟩ (fun hHeld => ?_)))
      clear m0 m1 m2 m3 m4
      (refine Tk.tk 0 (.slice (some ⟨gz, 0, none⟩) xs.length cp) hHeld ?_)
      (refine Tk.tk 1 (.int .i64 k) hHeld ?_)
      (refine Tk.tk 2 (.slice (some ⟨gz, 0, none⟩) xs.length cp) hHeld ?_)
      (refine Tk.tk 3 (.int .i64 k) hHeld ?_)
      (refine Tk.tk 4 (.pointer (some ⟨gz, k, none⟩)) hHeld ?_)
      (refine Tk.tk 6 (.pointer (some ⟨b9, 0, none⟩)) hHeld ?_)
      (refine Tk.tk 7 (.bool X.sh) hHeld ?_)
      (refine Tk.tk 8 (.pointer (some ⟨b9, 1, none⟩)) hHeld ?_)
      (refine Tk.tk 9 (.slice A1 X.gr.length c1) hHeld ?_)
      (refine wpAnyH_ready (rs := [5]) (by kernel_rfl) (by simp) ?_; refine AllReadyH.cons rfl (fun K hK => ?_) AllReadyH.nil; go_simp)
      (go_wp2_with fail; refine hK.out _ _ (hHeld) (fun hHeld => ?_); clear hK K; try simp only [Act.put, Tk.z1, Tk.z2, Tk.z3, Tk.z4, Tk.z5, Tk.z6])
      (refine wpAnyH_ready (rs := [10]) (by kernel_rfl) (by simp) ?_; refine AllReadyH.cons rfl (fun K hK => ?_) AllReadyH.nil; go_simp)
      refine (HSc.out _ (bnx hbW9 (Below.refl _ _).drew)).mono ?_
      rintro en W10 ⟨gs, rfl, hgs, hgs2, hb10⟩
      have hb9T := bnx (Below.refl W9.heap.size W9).drew hb10
      (go_wp2_with fail; refine hK.out _ _ (⟨cnx s0 hb9T, cnx s1 hb9T⟩) (fun hHeld => ?_); clear hK K; try simp only [Act.put, Tk.z1, Tk.z2, Tk.z3, Tk.z4, Tk.z5, Tk.z6])
      (refine Tk.tk 11 (.tuple #[sV gs, .int .i64 0]) hHeld ?_)
      (refine Tk.tk 12 (sV gs) hHeld ?_)
      (refine Tk.tk 13 (.int .i64 0) hHeld ?_)
      (refine Tk.tk 14 (.pointer (some ⟨gz, k, none⟩)) hHeld ?_)
      (refine wpAnyH_ready (rs := [15]) (by kernel_rfl) (by simp) ?_; refine AllReadyH.cons rfl (fun K hK => ?_) AllReadyH.nil; go_simp)
      have hbT := bnx hbW9 hb9T
      have hG10 := Qn i1 hbT
      have fz := Qe hG10 k
      have zk := cnx sg hb9T
      have hgl := Qq i1
      have hne : gz ≠ b9 := by omega
      have hB10 := Jj (Qn hB9 hb9T) (p := ⟨gz, k, none⟩) (Ne.symm hne) (sV gs)
      go_simp
      (go_wp2_with fail; refine hK.out _ _ (⟨by rw [Qb hB10]; rfl, by rw [Qb hB10]; rfl⟩) (fun hHeld => ?_); clear hK K; try simp only [Act.put, Tk.z1, Tk.z2, Tk.z3, Tk.z4, Tk.z5, Tk.z6])
      refine wpAnyH_done (by kernel_rfl) ?_ _
      refine NoPanic.normal ?_
      have hcu : k < cu.size := (Array.getElem?_eq_some_iff.1 hck).1
      have hG11 := Q5 hG10 k (sV gs)
      have hgsl : gs ≠ gz := by have := hbT.size; have := (Below.refl W9.heap.size W9).drew.size; have := hbW9.size; omega
      have hIn : Qa ((W10.setCell ⟨gz, k, none⟩ (sV gs)).heap[gz]? = some (.cells (cu.setIfInBounds k (sV gs)) 22 (0, 0)) ∧ (∀ j, j < xs.length → (cu.setIfInBounds k (sV gs))[j]? = some (sV (if j = k then gs else F j))) ∧ (∀ j, j < xs.length → (W10.setCell ⟨gz, k, none⟩ (sV gs)).heap[if j = k then gs else F j]? = some (.cells ((if j < k + 1 then spJ ⟨xs, mid⟩ ws j else U5 ⟨xs, mid⟩ ws j).map (Value.int .i64)).toArray 3 (0, 0)) ∧ (if j = k then gs else F j) ≠ gz)) := ⟨hG11, fun j hj => by
       by_cases e : j = k
       ·subst e; rw [if_pos rfl, Array.getElem?_setIfInBounds, if_pos rfl, if_pos hcu]
       ·rw [if_neg e, Array.getElem?_setIfInBounds, if_neg (Ne.symm e)]; exact i2 j hj, fun j hj => by
       by_cases e : j = k
       ·subst e
        rw [if_pos rfl, if_pos (by omega)]
        exact ⟨Jj hgs (p := ⟨gz, j, none⟩) hgsl _, hgsl⟩
       ·obtain ⟨p1, p2⟩ := i3 j hj
        rw [if_neg e]
        refine ⟨Jj ?_ (p := ⟨gz, k, none⟩) p2 _, p2⟩
        rw [Qn p1 hbT]
        by_cases e2 : j < k
        ·rw [if_pos e2, if_pos (by omega)]
        ·rw [if_neg e2, if_neg (by omega)]⟩
      have hKn := Qa.mk ((hK.out.Ze (hbT.mono hK.out.size)).Ki k (sV gs))
      clear hG11 hG10 hgs hgs2 hb10 hb9T hbT fz zk hgl hne hB10 hHeld sg s0 s1 hB9 hbW9 i1 i2 i3 HSc hck hcu hgsl hI hK
      gi_wp2
      go_roundw
      case rel => exact ⟨k + 1, _, fun j => if j = k then gs else F j, by go_num, hT.out, hIn, hKn⟩
      case measure => have := hT.out; simp [intOf]; omega
     ·obtain rfl : k = xs.length := by omega
      obtain ⟨i1, i2, i3⟩ := hI.out
      have hbr := Qa.mk (hbz.out.trans (hK.out.below (B := w.heap.size) hgz.out.2 (fun k e => by cases e) hbz.out.size))
      have hfin : Qa (∀ j, j < xs.length → wr.heap[F j]? = some (.cells ((spJ ⟨xs, mid⟩ ws j).map (Value.int .i64)).toArray 3 (0, 0))) := ⟨fun j hj => by have := (i3 j hj).1; rwa [if_pos hj] at this⟩
      replace i1 := Qa.mk i1
      replace i2 := Qa.mk i2
      clear i3 hI hK hlt hk
      gi_wp2
      go_ret2
      exact ⟨gz, cp, cu, F, rfl, i1.out, i2.out, hfin.out, hbr.out⟩
end Sp

end Go.Proofs.YtnflnicdjioflaaGreatDoor
