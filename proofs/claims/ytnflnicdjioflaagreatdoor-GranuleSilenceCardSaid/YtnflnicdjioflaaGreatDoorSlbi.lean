/- A part of the proof. -/
import Derived.Test.YtnflnicdjioflaaGreatDoorSlbh
set_option linter.unusedVariables false
set_option linter.unusedSimpArgs false
set_option maxRecDepth 100000
set_option maxHeartbeats 8000000
namespace Go.Proofs.YtnflnicdjioflaaGreatDoor
open Go.RowKit Go.Proofs.YtnflnicdjioflaaGreatDoorW.PrintWords Go.Proofs.YtnflnicdjioflaaGreatDoorW.PrintLast Go.Proofs.YtnflnicdjioflaaGreatDoorW.PrintMore
namespace Sec
attribute [local go_sem] Qj Qi Ql Qk Qg Qf
open Q15
open Runs Go.Shelf
open Q16 (Q0 Q8 X8)
open Q21 (Qb Qe)
open Bts
open Bk
attribute [local go_sem] Oper.semAt_some
theorem Mq (base p : Nat) (q : Option Nat) (L : List Int) (A B : Option Addr) (c1 c2 : Nat) (ws l : List Int) (As : Option Addr) (cs : Nat) (s : List (Int × Int)) (w : World) (hw : Wr w base p q L) (hB4 : 4 ≤ base) (hL : Xe w) (hr : Xw p q w A ws.length ws) (hr2 : Xw p q w B l.length l) (hcap : l.length ≤ c2) (hok : Ok ws l) (h0 : 0 < ws.length)
  (hs : Cells w As (Zr s)) (hsf : ∀ ad, As = some ad → ad.block ≠ p ∧ some ad.block ≠ q) (hR : Tj ws l s) (hroom : (L.length : Int) + Vr ws l s ≤ 1048576) (hBW : ∀ p ∈ s, BW p.1.toNat) :
  Calls Tryz.prog 90 #[.pointer (some ⟨p, 0, none⟩), .slice A ws.length c1, .slice B l.length c2, .slice As s.length cs] w fun e w' => e = .returned (.int .i64 0) ∧ ∃ bs : List Int, (bs.length : Int) = Vr ws l s ∧ WrP base p q (L ++ bs) w w' := by
 obtain ⟨bd, rfl, _⟩ := Qr hr2.1 (Below.refl _ _) (k := 0) (by have := Vf hok.wid; have := hok.sum; omega)
 have HO := Qa.mk hok
 have HBW := Qa.mk hBW
 clear hBW
 have HA := Qa.mk hr
 have HA2 := Qa.mk hr2
 have HL := Qa.mk hL
 have HC := Qa.mk hcap
 have HS := Qa.mk hs
 have HSf := Qa.mk hsf
 have HRs := Qa.mk hR
 have HW := Qa.mk hw
 have HB4 := Qa.mk hB4
 have hslI : (s.length : Int) ≤ 128 := by have := hR.sl; have := hok.len; omega
 have hnI : (ws.length : Int) ≤ 128 := by have := hok.len; omega
 have HCo := Qa.mk (fun (W : World) (hb : Below w.heap.size w W) => Cq A (some bd) c1 c2 ws l As cs s W (hL.below hb) (Kd.Qh hr.1 hb) (Kd.Qh hr2.1 hb) hcap hok h0 (hs.below hb) hR)
 have hcS : 0 ≤ Vr ws l s := by have := Ir hR (k := 0) (j := 0) (Nat.zero_le _) (Nat.zero_le _); simpa [Zl, cbk] using this
 obtain ⟨CS, hCS⟩ : ∃ CS, CS = Vr ws l s := ⟨_, rfl⟩
 rw [← hCS] at HCo hroom hcS ⊢
 have hLn := Qa.mk (fun (W : World) (h : Wr W base p q L) => J7 base p q L W h)
 obtain ⟨Z, hZ⟩ : ∃ Z : Int, Z = L.length := ⟨_, rfl⟩
 rw [← hZ] at hLn hroom
 have hZ0 : 0 ≤ Z := by omega
 have htest : decide (1048576 < Z + CS) = false := decide_eq_false (by omega)
 replace htest := Qa.mk htest
 replace hCS := Qa.mk hCS
 replace hZ := Qa.mk hZ
 replace hroom := Qa.mk hroom
 have hroomI : Z ≤ 2000000 ∧ CS ≤ 2000000 := by have := hroom.out; omega
 have hu := Tryz.underlying163
 have hu2 := Tryz.underlying153
 have hmo : Tryz.prog.follows .mixedOrders = true := by kernel_rfl
 have HG0 : Qa (∀ g ∈ Zx A, g < w.heap.size ∧ g ≠ p ∧ some g ≠ q) := ⟨fun g hg => by
  refine ⟨Y7 hr.1 h0 g hg, ?_⟩
  cases A with
  | none => cases hg
  | some a =>
   rw [List.mem_singleton.1 hg]
   exact hr.2 a rfl h0⟩
 clear hr hr2 hL hok hcap hs hsf hR hw hB4
 refine (callsIn_wide (n := 3)).1 ?_
 refine callsIn_of_wp_marks Tryz.func90 rfl trivial ?_ rfl
 simp only [Tryz.ntmps90, List.size_toArray, List.length_cons, List.length_nil, Nat.reduceAdd, Nat.reduceSub, Array.replicate_succ, Array.replicate_zero, List.push_toArray, List.append_toArray, List.nil_append, List.cons_append]
 gi_wp2_with fail
 obtain ⟨W0, hW0⟩ : ∃ W0, W0 = w.alloc (.cells #[.pointer (some ⟨p, 0, none⟩)] 69) := ⟨_, rfl⟩
 have hS0 := (StW.start HW.out).alloc #[.pointer (some ⟨p, 0, none⟩)] 69
 have hb0 := (Below.refl w.heap.size w).alloc (Nat.le_refl _) (.cells #[.pointer (some ⟨p, 0, none⟩)] 69)
 simp only [List.nil_append, List.cons_append] at hS0
 rw [← hW0] at hS0 hb0 ⊢
 clear hW0
 refine ⟨trivial, (callsIn_wide.2 (HCo.out W0 hb0)).mono ?_⟩
 rintro en W1 ⟨rfl, hb1⟩
 have hS1 := hS0.step hb1
 have z4 : W1.cell? ⟨w.heap.size, 0, none⟩ = some (.pointer (some ⟨p, 0, none⟩)) := by rw [Qb (hS1.blk (b := ⟨w.heap.size, #[.pointer (some ⟨p, 0, none⟩)], 69⟩) (by simp))]; rfl
 have hW1 : Wr W1 base p q L := (HW.out.step hb0).step hb1
 replace hS1 := Qa.mk hS1
 clear hS0 hb0 hb1
 gi_wp2_with fail
 refine ⟨trivial, (callsIn_wide.2 (hLn.out W1 hW1)).mono ?_⟩
 rintro en W2 ⟨rfl, rfl⟩
 replace htest := htest.out
 clear hW1
 gi_wp2_with fail
 obtain ⟨g11, hg11⟩ : ∃ g11, g11 = W1.heap.size := ⟨_, rfl⟩
 obtain ⟨wo, hwo⟩ : ∃ wo, wo = W1.alloc (.cells #[.int .i64 0] 3) := ⟨_, rfl⟩
 have hS2 := hS1.out.alloc #[.int .i64 0] 3
 simp only [List.nil_append, List.cons_append] at hS2
 rw [← hg11, ← hwo] at hS2
 rw [← hg11, ← hwo]
 replace hS2 := Qa.mk hS2
 clear hg11 hwo hS1 z4 htest HCo hLn
 refine wpIn_loop (fun a wr => ∃ (k : Nat) (Ds : List Nat) (u13 u14 u35 u36 u37 u38 u39 u40 u41 u42 u43 u44 u45 u46 u47 u48 u49 u50 u51 u52 u53 u54 u55 u56 u57 u58 u59 u60 u61 u62 u63 u64 u65 u66 u67 u68 u69 u70 u71 u72 u73 : Value), k ≤ s.length ∧ Qa (StW w base p q L (Zl (s.take k) + cbk (Zz ws l) 0 ((Qo s).take (Qo (s.take k)).length)) [⟨w.heap.size, #[.pointer (some ⟨p, 0, none⟩)], 69⟩, ⟨g11, #[.int .i64 ((Qo (s.take k)).length : Nat)], 3⟩] wr) ∧ Qa (Marks w.heap.size Ds wr) ∧ a = { tmps := #[.pointer (some ⟨p, 0, none⟩), .slice A ws.length c1, .slice (some bd) l.length c2, .slice As s.length cs, .pointer (some ⟨w.heap.size, 0, none⟩), undef, undef, undef, .int .i64 0, .int .i64 CS, .int .i64 0, .pointer (some ⟨g11, 0, none⟩), undef, u13, u14, .pointer (some ⟨p, 0, none⟩), .bool false, .tuple #[.int .i64 CS, .int .i64 0], .slice A ws.length c1, .slice (some bd) l.length c2, .slice As s.length cs, .tuple #[.int .i64 CS, .int .i64 0], .int .i64 CS, .int .i64 0, .int .i64 0, .bool false, undef, .pointer (some ⟨p, 0, none⟩), .int .i64 Z, .int .i64 CS, .int .i64 (Z + CS), .bool false, .slice As s.length cs, .int .i64 s.length, .int .i64 k, u35, u36, u37, u38, u39, u40, u41, u42, u43, u44, u45, u46, u47, u48, u49, u50, u51, u52, u53, u54, u55, u56, u57, u58, u59, u60, u61, u62, u63, u64, u65, u66, u67, u68, u69, u70, u71, u72, u73], defers := Ds.map markD }) (fun a _ => s.length - (intOf (a.tmps.getD 34 undef)).toNat) ?start ?round
 case start => exact ⟨0, [], _, _, _, _, _, _, _, _, _, _, _, _, _, _, _, _, _, _, _, _, _, _, _, _, _, _, _, _, _, _, _, _, _, _, _, _, _, _, _, _, _, Nat.zero_le _, ⟨by simpa [Zl, cbk, Qo] using hS2.out⟩, ⟨List.nodup_nil, fun D hD => by cases hD⟩, rfl⟩
 case round =>
  rintro a wr ⟨k, Ds, u13, u14, u35, u36, u37, u38, u39, u40, u41, u42, u43, u44, u45, u46, u47, u48, u49, u50, u51, u52, u53, u54, u55, u56, u57, u58, u59, u60, u61, u62, u63, u64, u65, u66, u67, u68, u69, u70, u71, u72, u73, hk, hSt, hMk, rfl⟩
  clear hS2 wo
  by_cases hlt : k < s.length
  ·obtain ⟨ad, had, m1, m2⟩ := Lm (Cells.far HS.out hSt.out.kp HSf.out) hlt
   subst had
   rw [Q9] at m2
   obtain ⟨e1, e2, e3, e4⟩ := HRs.out.el _ (List.getElem_mem hlt)
   have hst := D7 s hlt
   have hft := F3 s hlt
   have hfl := Kj s (k + 1)
   rw [HRs.out.len] at hfl
   have hfa := Qa.mk (fun j h1 h2 => flat_at (fun p hp => (HRs.out.el p hp).2.2.1) hlt (j := j) h1 h2)
   obtain ⟨bk, hbk⟩ : ∃ bk : Nat, (bk : Int) = (s[k]).1 := ⟨(s[k]).1.toNat, by omega⟩
   have hBWk := Qa.mk (show BW bk from by have h9 := HBW.out _ (List.getElem_mem hlt); rwa [← hbk, Int.toNat_natCast] at h9)
   obtain ⟨nb, hnb⟩ : ∃ nb : Nat, (nb : Int) = (s[k]).2 := ⟨(s[k]).2.toNat, by omega⟩
   rw [← hbk] at m1 e1 e2 hfa hft
   rw [← hnb] at m2 e3 e4 hst hfa hft
   rw [Int.toNat_natCast] at hfa hft
   obtain ⟨o, ho⟩ : ∃ o, o = (Qo (s.take k)).length := ⟨_, rfl⟩
   rw [← ho] at hSt hfa
   have hfl2 : o + nb ≤ ws.length := by rw [hft, List.length_append, List.length_replicate, ← ho] at hfl; exact hfl
   have hon : (Qo (s.take (k + 1))).length = o + nb := by rw [hft, List.length_append, List.length_replicate, ← ho]
   obtain ⟨h1, hh1⟩ : ∃ h1, h1 = Zl (s.take (k + 1)) := ⟨_, rfl⟩
   have hlt' := Qa.mk hlt
   have hkI : (k : Int) < (s.length : Int) := by omega
   have hoI : (o : Int) + (nb : Int) ≤ 128 := by omega
   have hpl := Qa.mk (fun (k' j : Nat) (h : k' ≤ s.length) (h2 : j ≤ ws.length) => Ir HRs.out h h2)
   have hS4 := hSt.out.alloc #[.int .i64 bk, .int .i64 nb] 153
   simp only [List.nil_append, List.cons_append] at hS4
   have hM4 := hMk.out.keep (KeepsOthers.alloc wr (.cells #[.int .i64 bk, .int .i64 nb] 153))
   obtain ⟨g13, hg13⟩ : ∃ g13, g13 = wr.heap.size := ⟨_, rfl⟩
   obtain ⟨W4, hW4⟩ : ∃ W4, W4 = wr.alloc (.cells #[.int .i64 bk, .int .i64 nb] 153) := ⟨_, rfl⟩
   rw [← hg13, ← hW4] at hS4
   rw [← hW4] at hM4
   have z4 : wr.cell? ⟨w.heap.size, 0, none⟩ = some (.pointer (some ⟨p, 0, none⟩)) := by rw [Qb (hSt.out.blk (b := ⟨w.heap.size, #[.pointer (some ⟨p, 0, none⟩)], 69⟩) (by simp))]; rfl
   have z4l : w.heap.size < wr.heap.size := World.block_lt_of_cell? _ _ z4
   obtain ⟨c0, hc0⟩ : ∃ c0, c0 = cbk (Zz ws l) 0 ((Qo s).take o) := ⟨_, rfl⟩
   obtain ⟨h0', hh0⟩ : ∃ h0', h0' = Zl (s.take k) := ⟨_, rfl⟩
   rw [← hc0, ← hh0] at hS4
   rw [← hh0, ← hh1] at hst
   have hrm1 : Z + (h1 + c0) ≤ 1048576 := by have := hpl.out (k + 1) o (by omega) (by omega); have := hroom.out; rw [hh1, hc0]; have := hCS.out; omega
   have hgb : 1 ≤ Zc (nb : Int) ∧ Zc (nb : Int) ≤ 15 := Kw (by omega) (by omega)
   obtain ⟨bs, q1, i1, i2, i3, i4⟩ := hS4.ex
   have hPt := Yr (v := bk) (n := 3) i2 (by omega) (by omega) (by rw [List.length_append]; have := hZ.out; omega)
   replace hPt := Qa.mk hPt
   replace i2 := Qa.mk i2
   replace i3 := Qa.mk i3
   replace i4 := Qa.mk i4
   replace i1 := Qa.mk i1
   replace hS4 := Qa.mk hS4
   replace hM4 := Qa.mk hM4
   replace hc0 := Qa.mk hc0
   replace hh0 := Qa.mk hh0
   replace hh1 := Qa.mk hh1
   replace ho := Qa.mk ho
   replace hon := Qa.mk hon
   clear hbk hnb
   replace hst := Qa.mk hst
   clear hft hfl hlt hk hSt hMk
   gi_wp2_with fail
   rw [← hW4, ← hg13]
   clear hW4 hg13 m1 m2
   refine ⟨trivial, (callsIn_wide.2 hPt.out).mono ?_⟩
   rintro en W5 ⟨Ep, rfl, hP5⟩
   have hS5 := StW.wrote (m := 3) i1.out i3.out i4.out hS4.out.kp hS4.out.ge hS4.out.gs hP5 (by rw [Zy]; rfl)
   have hM5 := hM4.out.keep (hS4.out.keeps i2.out hP5)
   clear hP5 hPt i1 i2 i3 i4 hS4 hM4 z4 z4l
   have z4 : W5.cell? ⟨w.heap.size, 0, none⟩ = some (.pointer (some ⟨p, 0, none⟩)) := by rw [Qb (hS5.blk (b := ⟨w.heap.size, #[.pointer (some ⟨p, 0, none⟩)], 69⟩) (by simp))]; rfl
   have z13 : W5.cell? ⟨g13, 1, none⟩ = some (.int .i64 nb) := by rw [Qb (hS5.blk (b := ⟨g13, #[.int .i64 bk, .int .i64 nb], 153⟩) (by simp))]; rfl
   obtain ⟨bs, q1, i1, i2, i3, i4⟩ := hS5.ex
   have hGm := Ti (v := nb) i2 (by omega) (by omega) (by rw [List.length_append]; have := hZ.out; have := hst.out; push_cast; omega)
   replace hGm := Qa.mk hGm
   replace i2 := Qa.mk i2
   replace i3 := Qa.mk i3
   replace i4 := Qa.mk i4
   replace i1 := Qa.mk i1
   replace hS5 := Qa.mk hS5
   replace hM5 := Qa.mk hM5
   gi_wp2_with fail
   refine ⟨trivial, (callsIn_wide.2 hGm.out).mono ?_⟩
   rintro en W6 ⟨Eg, rfl, hP6⟩
   have hS6 := StW.wrote (m := Zc (nb : Int)) i1.out i3.out i4.out hS5.out.kp hS5.out.ge hS5.out.gs hP6 (Bp nb)
   have hM6 := hM5.out.keep (hS5.out.keeps i2.out hP6)
   rw [show h0' + c0 + 3 + Zc (nb : Int) = h1 + c0 by have := hst.out; omega] at hS6
   clear hP6 hGm i1 i2 i3 i4 hS5 hM5 z4 z13
   obtain ⟨g1, hg1⟩ : ∃ g1, g1 = W6.heap.size := ⟨_, rfl⟩
   gi_wp2_with fail
   refine ⟨trivial, (callsIn_wide.2 (Kr A (some bd) ws.length c1 l.length c2 W6)).mono ?_⟩
   rintro en W7 ⟨rfl, hW7⟩
   have hS7 := (hS6.alloc #[.slice A ws.length c1] 22).alloc #[.slice (some bd) l.length c2] 22
   have hM7 := (hM6.keep (KeepsOthers.alloc _ (.cells #[.slice A ws.length c1] 22))).keep (KeepsOthers.alloc _ (.cells #[.slice (some bd) l.length c2] 22))
   have hs7 : W7.heap.size = g1 + 1 + 1 := by rw [hW7, hg1]; simp
   simp only [World.size_alloc, List.nil_append, List.cons_append] at hS7
   rw [← hW7, ← hg1] at hS7
   rw [← hW7] at hM7
   rw [← hg1]
   have hg1w : w.heap.size ≤ g1 := by rw [hg1]; exact hS6.kp.size
   clear hW7 hg1 hS6 hM6
   have b1 : W7.cell? ⟨g1, 0, none⟩ = some (.slice A ws.length c1) := by rw [Qb (hS7.blk (b := ⟨g1, #[.slice A ws.length c1], 22⟩) (by simp))]; rfl
   have b2 : W7.cell? ⟨g1 + 1, 0, none⟩ = some (.slice (some bd) l.length c2) := by rw [Qb (hS7.blk (b := ⟨(g1 + 1), #[.slice (some bd) l.length c2], 22⟩) (by simp))]; rfl
   have HA7 := Qa.mk ((HA.out.kp hS7.kp (q' := q) (.inl rfl)).1)
   have hMlt : Qa (∀ D ∈ Ds, D < W7.heap.size) := ⟨fun D hD => (Array.getElem?_eq_some_iff.1 (hM7.2 D hD).2).1⟩
   replace hs7 := Qa.mk hs7
   replace hS7 := Qa.mk hS7
   replace hM7 := Qa.mk hM7
   have HG : Qa (∀ g ∈ g1 :: (g1 + 1) :: Zx A, g < W7.heap.size) := ⟨fun g hg => by
    rw [hs7.out]
    rcases List.mem_cons.1 hg with rfl | hg
    ·omega
    ·rcases List.mem_cons.1 hg with rfl | hg
     ·omega
     ·have := HG0.out g hg; omega⟩
   gi_wp2_with fail
   refine X5 rfl (by omega) (gf := 192) (lb := #[.pointer (some ⟨g1, 0, none⟩), .pointer (some ⟨g1 + 1, 0, none⟩)]) rfl trivial (enters_of Tryz.func192 (by kernel_rfl) rfl)
    (Kn Fence.wide _ trivial rfl (by omega) g1 (g1 + 1) A (some bd) c1 c2 ws l HO.out HC.out W7 HA7.out (fun _ => ⟨bd, rfl⟩) b1 b2)
    (fun h k => h.trans k) ?keep (Below.refl _ _) (fun _ => rfl) (fun j W => StW w base p q L (h1 + cbk (Zz ws l) 0 ((Qo s).take (Dz o nb j))) [⟨w.heap.size, #[.pointer (some ⟨p, 0, none⟩)], 69⟩, ⟨g11, #[.int .i64 (o : Nat)], 3⟩, ⟨g13, #[.int .i64 bk, .int .i64 nb], 153⟩, ⟨g1, #[.slice A ws.length c1], 22⟩, ⟨(g1 + 1), #[.slice (some bd) l.length c2], 22⟩] W ∧ Marks w.heap.size Ds W) ?own ?rstart ?rround ?rdone
   case keep => exact Qu.putObj (N := W7.heap.size) HG.out
   case own =>
    rintro j W W' row ⟨h, hm⟩ hg hrow
    refine ⟨h.turn hg (fun r e => ⟨by have := (hrow r e).1; have := hs7.out; omega, (hrow r e).2⟩), hm.1, fun D hD => ⟨(hm.2 D hD).1, (hg.block D (Array.getElem?_eq_some_iff.1 (hm.2 D hD).2).1 (fun e => ?_)).trans (hm.2 D hD).2⟩⟩
    have := (hrow D e.symm).1
    have := hMlt.out D hD
    omega
   case rstart => exact ⟨by rw [show Dz o nb 0 = o by unfold Dz; omega, ← hc0.out]; exact hS7.out, hM7.out⟩
   case rround =>
    rintro Lr j W ⟨hSw, hMw⟩ hj
    have hof := Vq HO.out hj
    have hbA : Yf (Xh ws l j) = true := Va HO.out.vals j
    have hbl := J8 HO.out hj
    have hBF : Qa (∀ (W' : World) (q' : Option Nat), Xw p q' W' (some bd) l.length l → Xw p q' W' (some (bd.add (V8 ws j))) (Xh ws l j).length (Xh ws l j)) := ⟨fun W' q' h => band_far HO.out hj h⟩
    have hft := HRs.out.fits j hj
    have hcb := Gg (Zz ws l) (Qo s) (k := j) (by rw [HRs.out.len]; exact hj)
    have hcc : Zz ws l (rd (Qo s) j).toNat j = Q4 (rd (Qo s) j).toNat (Xh ws l j) := rfl
    rw [hcc] at hft hcb
    simp only [Ay, gSl]
    obtain ⟨ag, hag⟩ : ∃ ag, ag = bd.add (V8 ws j) := ⟨_, rfl⟩
    obtain ⟨d, hd⟩ : ∃ d, d = (rd ws j).toNat := ⟨_, rfl⟩
    obtain ⟨x, hx⟩ : ∃ x, x = Xh ws l j := ⟨_, rfl⟩
    rw [← hx] at hBF hbA hbl hft hcb
    rw [← hag] at hBF ⊢
    rw [← hd] at hbl hof ⊢
    have hxl : x.length ≤ 128 := by omega
    rw [← hbl]
    have hjT := Qa.mk hj
    have hj9 : (j : Int) < (ws.length : Int) := by omega
    replace hft := Qa.mk hft
    replace hcb := Qa.mk hcb
    clear hof hag hx hj hd hbl hcc
    gi_wp2
    have hal := (Below.refl W.heap.size W).alloc (Nat.le_refl _) (.cells #[.int .i64 j, .slice (some ag) x.length x.length] 163)
    have hSa := hSw.alloc #[.int .i64 j, .slice (some ag) x.length x.length] 163
    simp only [List.nil_append, List.cons_append] at hSa
    have hszW : W7.heap.size ≤ W.heap.size := by
     have h9 := Qq (hSw.blk (b := ⟨(g1 + 1), #[.slice (some bd) l.length c2], 22⟩) (by simp))
     dsimp only at h9
     have := hs7.out
     omega
    refine ⟨(Zp hal).from _, Qu.step HG.out hszW hal, fun Z => StW w base p q L (h1 + cbk (Zz ws l) 0 ((Qo s).take (Dz o nb j))) [⟨w.heap.size, #[.pointer (some ⟨p, 0, none⟩)], 69⟩, ⟨g11, #[.int .i64 (o : Nat)], 3⟩, ⟨g13, #[.int .i64 bk, .int .i64 nb], 153⟩, ⟨g1, #[.slice A ws.length c1], 22⟩, ⟨(g1 + 1), #[.slice (some bd) l.length c2], 22⟩, ⟨W.heap.size, #[.int .i64 j, .slice (some ag) x.length x.length], 163⟩] Z ∧ Marks w.heap.size Ds Z, ⟨hSa, hMw.keep (KeepsOthers.alloc _ _)⟩, ?_, ?_⟩
    ·rintro _ Z Z' row ⟨h, hm⟩ hg hrow
     refine ⟨h.turn hg (fun r e => ⟨by have := (hrow r e).1; have := hs7.out; omega, (hrow r e).2⟩), hm.1, fun D hD => ⟨(hm.2 D hD).1, (hg.block D (Array.getElem?_eq_some_iff.1 (hm.2 D hD).2).1 (fun e => ?_)).trans (hm.2 D hD).2⟩⟩
     have := (hrow D e.symm).1
     have := hMlt.out D hD
     omega
    clear hal hSa hszW hSw hMw
    obtain ⟨g14, hg14⟩ : ∃ g14, g14 = W.heap.size := ⟨_, rfl⟩
    rw [← hg14]
    rintro Z ⟨hSw, hMw⟩
    clear hg14
    obtain ⟨W, rfl⟩ : ∃ W : World, W = Z := ⟨_, rfl⟩
    have z4 : W.cell? ⟨w.heap.size, 0, none⟩ = some (.pointer (some ⟨p, 0, none⟩)) := by rw [Qb (hSw.blk (b := ⟨w.heap.size, #[.pointer (some ⟨p, 0, none⟩)], 69⟩) (by simp))]; rfl
    have z11 : W.cell? ⟨g11, 0, none⟩ = some (.int .i64 (o : Nat)) := by rw [Qb (hSw.blk (b := ⟨g11, #[.int .i64 (o : Nat)], 3⟩) (by simp))]; rfl
    have za : W.cell? ⟨g13, 0, none⟩ = some (.int .i64 bk) := by rw [Qb (hSw.blk (b := ⟨g13, #[.int .i64 bk, .int .i64 nb], 153⟩) (by simp))]; rfl
    have zb : W.cell? ⟨g13, 1, none⟩ = some (.int .i64 nb) := by rw [Qb (hSw.blk (b := ⟨g13, #[.int .i64 bk, .int .i64 nb], 153⟩) (by simp))]; rfl
    have ya : W.cell? ⟨g14, 0, none⟩ = some (.int .i64 j) := by rw [Qb (hSw.blk (b := ⟨g14, #[.int .i64 j, .slice (some ag) x.length x.length], 163⟩) (by simp))]; rfl
    have yb : W.cell? ⟨g14, 1, none⟩ = some (.slice (some ag) x.length x.length) := by rw [Qb (hSw.blk (b := ⟨g14, #[.int .i64 j, .slice (some ag) x.length x.length], 163⟩) (by simp))]; rfl
    have hdr : ∀ (n : Int) (W' : World), StW w base p q L (n) [⟨w.heap.size, #[.pointer (some ⟨p, 0, none⟩)], 69⟩, ⟨g11, #[.int .i64 (o : Nat)], 3⟩, ⟨g13, #[.int .i64 bk, .int .i64 nb], 153⟩, ⟨g1, #[.slice A ws.length c1], 22⟩, ⟨(g1 + 1), #[.slice (some bd) l.length c2], 22⟩, ⟨g14, #[.int .i64 j, .slice (some ag) x.length x.length], 163⟩] W' → StW w base p q L (n) [⟨w.heap.size, #[.pointer (some ⟨p, 0, none⟩)], 69⟩, ⟨g11, #[.int .i64 (o : Nat)], 3⟩, ⟨g13, #[.int .i64 bk, .int .i64 nb], 153⟩, ⟨g1, #[.slice A ws.length c1], 22⟩, ⟨(g1 + 1), #[.slice (some bd) l.length c2], 22⟩] W' := fun n W' h => StW.drop (G1 := [⟨w.heap.size, #[.pointer (some ⟨p, 0, none⟩)], 69⟩, ⟨g11, #[.int .i64 (o : Nat)], 3⟩, ⟨g13, #[.int .i64 bk, .int .i64 nb], 153⟩, ⟨g1, #[.slice A ws.length c1], 22⟩, ⟨(g1 + 1), #[.slice (some bd) l.length c2], 22⟩]) (G2 := [⟨g14, #[.int .i64 j, .slice (some ag) x.length x.length], 163⟩]) h
    replace hdr := Qa.mk hdr
    by_cases hlo : j < o
    ·have hpo : Qa (Dz o nb (j + 1) = Dz o nb j) := ⟨by unfold Dz; omega⟩
     have hlo' : decide (o ≤ j) = false := decide_eq_false (by omega)
     replace hSw := Qa.mk hSw
     replace hMw := Qa.mk hMw
     clear hlo
     gi_wp2
     exact ⟨(KeepsOthers.refl W).from _, Qu.refl _ _, by rw [hpo.out]; exact hdr.out _ _ hSw.out, hMw.out⟩
    ·by_cases hhi : j < o + nb
     ·have hrd := hfa.out j (by omega) hhi
      have hpj : Qa (Dz o nb (j + 1) = j + 1 ∧ Dz o nb j = j) := ⟨by unfold Dz; omega⟩
      rw [hrd, Int.toNat_natCast] at hft hcb
      obtain ⟨hfit, hcB⟩ := Qal hft.out
      have hrm := hpl.out (k + 1) (j + 1) (by have := hlt'.out; omega) (by omega)
      rw [hcb.out, ← hh1.out, ← hCS.out] at hrm
      rw [hpj.out.2] at hSw
      obtain ⟨bs, q1, i1, i2, i3, i4, hF⟩ := hSw.far HA2.out
      have hWb := hBWk.out base p q1 (L ++ bs) (some ag) x.length x W i2 HB4.out (hSw.laid HW.out HL.out HB4.out) (hBF.out W q1 hF) (by omega) (Nat.le_refl _) hbA hfit (by rw [List.length_append, hcB]; have := hroom.out; have := hZ.out; push_cast; omega)
      have hiI : (o : Int) ≤ (j : Int) ∧ (j : Int) < (o : Int) + (nb : Int) := by omega
      have hlo2 : o ≤ j := by omega
      replace hWb := Qa.mk hWb
      replace i1 := Qa.mk i1
      replace i2 := Qa.mk i2
      replace i3 := Qa.mk i3
      replace i4 := Qa.mk i4
      replace hSw := Qa.mk hSw
      replace hMw := Qa.mk hMw
      replace hfit := Qa.mk hfit
      replace hcB := Qa.mk hcB
      replace hrd := Qa.mk hrd
      clear hlo hrm hF
      gi_wp2_with fail
      refine ⟨trivial, CallsIn.inRound Lr (callsIn_wide.2 (hWb.out.mono ?_))⟩
      rintro en W9 ⟨rfl, bs2, hb2, hP9⟩
      have hS9 := StW.wrote (m := Zm bk x) i1.out i3.out i4.out hSw.out.kp hSw.out.ge hSw.out.gs hP9 hb2
      have hK9 := hSw.out.keeps i2.out hP9
      rw [show h1 + cbk (Zz ws l) 0 ((Qo s).take j) + Zm bk x = h1 + cbk (Zz ws l) 0 ((Qo s).take (j + 1)) by rw [hcb.out, hcB.out]; omega] at hS9
      have hkl := StW.keepL (b1 := ⟨g1, #[.slice A ws.length c1], 22⟩) (b2 := ⟨(g1 + 1), #[.slice (some bd) l.length c2], 22⟩) hSw.out hS9 (by simp) (by simp) (by simp) (by simp) HG0.out
      replace hS9 := Qa.mk hS9
      replace hK9 := Qa.mk hK9
      replace hkl := Qa.mk hkl
      clear hP9 hb2 hWb i1 i2 i3 i4 z4 z11 za zb ya yb
      gi_wp2
      exact ⟨hK9.out.from _, hkl.out, by rw [hpj.out.1]; exact hdr.out _ _ hS9.out, hMw.out.keep hK9.out⟩
     ·have hpo : Qa (Dz o nb (j + 1) = Dz o nb j) := ⟨by unfold Dz; omega⟩
      have hlo2 : o ≤ j := by omega
      have hhi' : decide ((j : Int) < (o : Int) + (nb : Int)) = false := decide_eq_false (by omega)
      have hhi2 : decide (j < o + nb) = false := decide_eq_false (by omega)
      replace hSw := Qa.mk hSw
      replace hMw := Qa.mk hMw
      clear hlo hhi
      gi_wp2
      exact ⟨(KeepsOthers.refl W).from _, Qu.refl _ _, by rw [hpo.out]; exact hdr.out _ _ hSw.out, hMw.out⟩
   case rdone =>
    rintro D W hD ⟨hSw, hMw⟩ hDf
    rw [show Dz o nb ws.length = o + nb by unfold Dz; omega] at hSw
    have z11 : W.cell? ⟨g11, 0, none⟩ = some (.int .i64 (o : Nat)) := by rw [Qb (hSw.blk (b := ⟨g11, #[.int .i64 (o : Nat)], 3⟩) (by simp))]; rfl
    have y11 := Qe (hSw.blk (b := ⟨g11, #[.int .i64 (o : Nat)], 3⟩) (by simp)) 0
    have zb : W.cell? ⟨g13, 1, none⟩ = some (.int .i64 nb) := by rw [Qb (hSw.blk (b := ⟨g13, #[.int .i64 bk, .int .i64 nb], 153⟩) (by simp))]; rfl
    have hSf := StW.set (G1 := [⟨w.heap.size, #[.pointer (some ⟨p, 0, none⟩)], 69⟩]) (G2 := [⟨g13, #[.int .i64 bk, .int .i64 nb], 153⟩, ⟨g1, #[.slice A ws.length c1], 22⟩, ⟨(g1 + 1), #[.slice (some bd) l.length c2], 22⟩]) (b := ⟨g11, #[.int .i64 (o : Nat)], 3⟩) hSw 0 (.int .i64 ((o : Int) + (nb : Int)))
    simp only [List.nil_append, List.cons_append, List.setIfInBounds_toArray, List.set_cons_zero] at hSf
    have hSg := Qa.mk (StW.drop (G1 := [⟨w.heap.size, #[.pointer (some ⟨p, 0, none⟩)], 69⟩, ⟨g11, #[.int .i64 ((o : Int) + (nb : Int))], 3⟩]) (G2 := [⟨g13, #[.int .i64 bk, .int .i64 nb], 153⟩, ⟨g1, #[.slice A ws.length c1], 22⟩, ⟨(g1 + 1), #[.slice (some bd) l.length c2], 22⟩]) hSf)
    have hMg := Qa.mk ((hMw.cons (D := D) (by have := hs7.out; omega) hDf (fun D' hD' => by have := hMlt.out D' hD'; omega)).keep (KeepsOthers.setCell W ⟨g11, 0, none⟩ (.int .i64 ((o : Int) + (nb : Int)))))
    have hcast : Qa (((Qo (s.take (k + 1))).length : Int) = (o : Int) + (nb : Int)) := ⟨by rw [hon.out]; push_cast; rfl⟩
    clear hSw hMw hSf hDf
    gi_wp2
    refine ⟨⟨k + 1, hlt'.out, ?_, D :: Ds, hMg, by push_cast; rfl, rfl⟩, ?_⟩
    ·exact ⟨by rw [hcast.out, hon.out, ← hh1.out]; exact hSg.out⟩
    ·simp [intOf]
     have := hlt'.out
     omega
  ·obtain rfl : k = s.length := by omega
   rw [List.take_length, HRs.out.len, show (Qo s).take ws.length = Qo s by rw [← HRs.out.len, List.take_length]] at hSt
   gi_wp2
   refine Ga (B := w.heap.size) (J := fun W => StW w base p q L (Zl s + cbk (Zz ws l) 0 (Qo s)) [⟨w.heap.size, #[.pointer (some ⟨p, 0, none⟩)], 69⟩, ⟨g11, #[.int .i64 (ws.length : Nat)], 3⟩] W) ?_ ?_ Ds wr hMk.out hSt.out
   ·intro W D hJ hB hDf
    exact hJ.turn (grownBy_putObj' W D (.deferred none)) (fun r e => by cases e; exact ⟨hB, _, hDf, rfl⟩)
   ·intro W hJ
    obtain ⟨⟨bs, q1, i1, i2, i3, -⟩, i5, -, -⟩ := hJ
    exact ⟨.int .i64 0, by simp [results, Tryz.f90, go_sem], rfl, bs, by rw [i1, hCS.out]; rfl, q1, i2, i3, i5⟩
end Sec

end Go.Proofs.YtnflnicdjioflaaGreatDoor
