/- A part of the proof. -/
import Derived.Test.YtnflnicdjioflaaGreatDoorSlbh
set_option linter.unusedVariables false
set_option linter.unusedSimpArgs false
set_option maxRecDepth 100000
set_option maxHeartbeats 8000000
namespace Go.Proofs.YtnflnicdjioflaaGreatDoor
open Go.RowKit Go.Proofs.YtnflnicdjioflaaGreatDoorW.PrintWords Go.Proofs.YtnflnicdjioflaaGreatDoorW.PrintLast Go.Proofs.YtnflnicdjioflaaGreatDoorW.PrintMore
namespace Sca
attribute [local go_sem] Qj Qi Ql Qk Qg Qf
open Q15
open Runs Go.Shelf
open Q16 (Q0 Q8 X8)
open Q21 (Qb Qe)
open Bts
open Bk
open Sec
attribute [local go_sem] Oper.semAt_some
def wrdL : List Int := Pre.Xv Da
theorem Tx : wrdL.length = 191 := by unfold wrdL; rw [Pre.Yh]; exact G9
theorem lenL_pre : Pre.U4 Da = 0 := by decide +kernel
theorem lenL_ok : Pre.N9 Da = true := by decide +kernel
theorem wrd_at {d : Int} (h0 : -95 ≤ d) (h1 : d ≤ 95) : ∃ v n : Nat, (v : Int) = rd wrdL ((d + 95).toNat : Nat) ∧ (n : Int) = Us d ∧ v < 2 ^ n ∧ n ≤ 15 := by
 have h := Pre.F7 lenL_ok (s := (d + 95).toNat) (by rw [G9]; omega)
 have hb := Ky h0 h1
 have e : rd Da (((d + 95).toNat : Nat) : Int) = Us d := by unfold Us; rw [show (((d + 95).toNat : Nat) : Int) = d + 95 by omega]
 rw [e] at h
 refine ⟨(rd wrdL ((d + 95).toNat : Nat)).toNat, (Us d).toNat, Int.toNat_of_nonneg h.1, by omega, ?_, by omega⟩
 have h2 := h.2
 unfold wrdL
 have : ((2 ^ (Us d).toNat : Nat) : Int) = 2 ^ (Us d).toNat := by push_cast; rfl
 have h3 := h.1
 omega
theorem _root_.Go.Proofs.YtnflnicdjioflaaGreatDoor.Sec.StW.keep0 {w W W1 : World} {base p : Nat} {q : Option Nat} {L : List Int} {n n1 : Int} {G G1 : List Blk} {gs : List Nat} (h : StW w base p q L n G W) (h1 : StW w base p q L n1 G1 W1) (hg : ∀ g ∈ gs, g < w.heap.size ∧ g ≠ p ∧ some g ≠ q) : Qu gs W W1 := fun g hm => by
 obtain ⟨a, b, c⟩ := hg g hm
 rw [h1.kp.block g a b c, h.kp.block g a b c]
theorem _root_.Go.Proofs.YtnflnicdjioflaaGreatDoor.Sec.StW.wr {w W : World} {base p : Nat} {q : Option Nat} {L : List Int} {n : Int} {G : List Blk} (h : StW w base p q L n G W) : ∃ (bs : List Int) (q1 : Option Nat), (bs.length : Int) = n ∧ Wr W base p q1 (L ++ bs) ∧ (∀ (more : List Int) (m : Int) (W1 : World), WrP base p q1 (L ++ bs ++ more) W W1 → (more.length : Int) = m → StW w base p q L (n + m) G W1 ∧ KeepsOthers W W1) := by
 obtain ⟨bs, q1, h1, h2, h3, h4⟩ := h.ex
 exact ⟨bs, q1, h1, h2, fun more m W1 hP hm => ⟨StW.wrote h1 h3 h4 h.kp h.ge h.gs hP hm, h.keeps h2 hP⟩⟩
theorem _root_.Go.Proofs.YtnflnicdjioflaaGreatDoor.Sec.StW.put {w W W' : World} {base p : Nat} {q : Option Nat} {L : List Int} {n : Int} {G : List Blk} (h : StW w base p q L n G W) {v k : Nat} (hk : k ≤ 32) (hv : v < 2 ^ k) (hroom : (L.length : Int) + n + k ≤ 1048576) (hb : Below W.heap.size W W') :
  Calls Tryz.prog 84 #[.pointer (some ⟨p, 0, none⟩), .int .i64 v, .int .i64 k] W' fun e w' => ∃ E : Int, e = .returned (.int .i64 E) ∧ StW w base p q L (n + k) G w' ∧ KeepsOthers W w' := by
 obtain ⟨bs, q1, i1, i2, i3⟩ := h.wr
 refine (Yr (v := v) (n := k) (i2.step hb) hk hv (by rw [List.length_append]; omega)).mono ?_
 rintro e w' ⟨E, rfl, hP⟩
 exact ⟨E, rfl, i3 _ k w' (WrP.next (.inl rfl) (Kp.of_below hb p q1) hP) (by rw [Zy])⟩
theorem Cb {ss : List Int} {us : List Bool} (hl : ss.length = us.length) (h : ∀ x ∈ ss, 0 ≤ x ∧ x ≤ 95) (j : Nat) : ∀ d, j + d ≤ uN us → scT ss us j ≤ scT ss us (j + d)
 | 0, _ => Int.le_refl _
 | d + 1, hd => by
  have h1 := Cb hl h j d (by omega)
  have h2 := (Kt (us := us) (m := j + d) (by omega)).1
  have h3 := h _ (Qt ss (uAt us (j + d)) (by omega))
  have h0 : scT ss us (j + (d + 1)) = scT ss us (j + d) + (if j + d = 0 then 7 else Us (rd ss (uAt us (j + d)) - rd ss (uAt us (j + d - 1)))) := rfl
  rw [h0]
  split
  ·omega
  ·have h4 := (Kt (us := us) (m := j + d - 1) (by omega)).1
   have h5 := h _ (Qt ss (uAt us (j + d - 1)) (by omega))
   have h6 := Ky (d := rd ss (uAt us (j + d)) - rd ss (uAt us (j + d - 1))) (by omega) (by omega)
   omega
theorem Rq (base p : Nat) (q : Option Nat) (L : List Int) (A B : Option Addr) (c1 c2 : Nat) (ss : List Int) (us : List Bool) (w : World) (hw : Wr w base p q L) (hr : Xw p q w A ss.length ss) (hr2 : Kd.bool.C w B us.length us) (hB : ∀ g ∈ Zx B, g ≠ p ∧ some g ≠ q) (hl : ss.length = us.length) (h128 : us.length ≤ 128) (h0 : 0 < us.length) (he : scE ss us = 0) (hroom : (L.length : Int) + Z9 ss us ≤ 1048576) :
  Calls Tryz.prog 91 #[.pointer (some ⟨p, 0, none⟩), .slice A ss.length c1, .slice B us.length c2] w fun e w' => e = .returned (.int .i64 0) ∧ ∃ bs : List Int, (bs.length : Int) = Z9 ss us ∧ WrP base p q (L ++ bs) w w' := by
 have HCo := Qa.mk (fun (W : World) (hb : Below w.heap.size w W) => Ba A B c1 c2 ss us W (Kd.Qh hr.1 hb) (Kd.Qh hr2 hb) hl h128 h0 he)
 have HA := Qa.mk hr
 have HB := Qa.mk hr2
 have HG : Qa (∀ g ∈ Zx B, g < w.heap.size ∧ g ≠ p ∧ some g ≠ q) := ⟨fun g hg => ⟨Bg hr2 h0 g hg, hB g hg⟩⟩
 have HS := Qa.mk (Tq he)
 have HL := Qa.mk hl
 have H128 := Qa.mk h128
 have HW := Qa.mk hw
 have hmo : Tryz.prog.follows .mixedOrders = true := by kernel_rfl
 have hcS : 0 ≤ Z9 ss us := (Fx hl HS.out (uN us) (Nat.le_refl _)).1
 have hCSd : Qa (Z9 ss us = scT ss us (uN us)) := ⟨rfl⟩
 obtain ⟨CS, hCS⟩ : ∃ CS, CS = Z9 ss us := ⟨_, rfl⟩
 rw [← hCS] at HCo hroom hcS hCSd ⊢
 have hLn := Qa.mk (fun (W : World) (h : Wr W base p q L) => J7 base p q L W h)
 obtain ⟨Z, hZ⟩ : ∃ Z : Int, Z = L.length := ⟨_, rfl⟩
 rw [← hZ] at hLn hroom
 have hZ0 : 0 ≤ Z := by omega
 have htest : decide (1048576 < Z + CS) = false := decide_eq_false (by omega)
 replace htest := Qa.mk htest
 replace hZ := Qa.mk hZ
 have hroomI : Z ≤ 2000000 ∧ CS ≤ 2000000 := by omega
 replace hroom := Qa.mk hroom
 clear hr hr2 hl h128 h0 he hw hB hCS
 refine (callsIn_wide (n := 3)).1 ?_
 refine callsIn_of_wp_marks Tryz.func91 rfl trivial ?_ rfl
 simp only [Tryz.ntmps91, List.size_toArray, List.length_cons, List.length_nil, Nat.reduceAdd, Nat.reduceSub, Array.replicate_succ, Array.replicate_zero, List.push_toArray, List.append_toArray, List.nil_append, List.cons_append]
 gi_wp2_with fail
 obtain ⟨W0, hW0⟩ : ∃ W0, W0 = (w.alloc (.cells #[.pointer (some ⟨p, 0, none⟩)] 69)).alloc (.cells #[.slice A ss.length c1] 22) := ⟨_, rfl⟩
 have hR0 := ((Rws.start w).alloc #[.pointer (some ⟨p, 0, none⟩)] 69).alloc #[.slice A ss.length c1] 22
 simp only [World.size_alloc, List.nil_append, List.cons_append] at hR0
 rw [← hW0] at hR0 ⊢
 clear hW0
 refine ⟨trivial, (callsIn_wide.2 (HCo.out W0 hR0.below)).mono ?_⟩
 rintro en W1 ⟨rfl, hb1⟩
 have hR1 := hR0.step hb1
 have z3 : W1.cell? ⟨w.heap.size, 0, none⟩ = some (.pointer (some ⟨p, 0, none⟩)) := by rw [Qb (hR1.blk ⟨w.heap.size, #[.pointer (some ⟨p, 0, none⟩)], 69⟩ (by simp)).1]; rfl
 clear hR0 hb1 HCo
 gi_wp2_with fail
 refine ⟨trivial, (callsIn_wide.2 (hLn.out W1 (HW.out.step hR1.below))).mono ?_⟩
 rintro en W2 ⟨rfl, rfl⟩
 replace htest := htest.out
 gi_wp2_with fail
 refine ⟨trivial, (callsIn_wide.2 (Rc W1)).mono ?_⟩
 rintro en W2 ⟨vl, rfl, hRl, hb2⟩
 obtain ⟨Al, cl, rfl, -, hCl⟩ := Kd.Qz hRl
 have hR2 := hR1.step hb2
 clear hRl
 replace hCl := Qa.mk hCl
 gi_wp2_with fail
 refine ⟨trivial, (callsIn_wide.2 (Pre.Sq Al cl Da W2 hCl.out lenL_pre)).mono ?_⟩
 rintro en W3 ⟨v9, rfl, hR9, hb3⟩
 have hbd9 := (Kd.Zg hR9).1
 obtain ⟨A9, c9, rfl, -, hC9⟩ := Kd.Qz hR9
 have hw9 : (Pre.Xv Da).length = 191 := Tx
 rw [hw9] at hC9 ⊢
 have hA9 : ∀ ad, A9 = some ad → w.heap.size ≤ ad.block := fun ad e => by
  subst e
  have := (hbd9 ad.block rfl).2.1
  have := hR2.below.size
  omega
 have hR3 := hR2.step hb3
 obtain ⟨g9, hg9⟩ : ∃ g9, g9 = W3.heap.size := ⟨_, rfl⟩
 have hg9w : w.heap.size ≤ g9 := by rw [hg9]; exact hR3.below.size
 have hR4 := hR3.alloc #[.slice A9 191 c9] 22
 have hC9' := Kd.Qh hC9 ((Below.refl W3.heap.size W3).alloc (Nat.le_refl _) (.cells #[.slice A9 191 c9] 22))
 simp only [List.nil_append, List.cons_append] at hR4
 clear hR9 hbd9 hCl hb2 hb3 hR1 hR2 hR3 hw9 hC9
 replace hC9' := Qa.mk hC9'
 replace hA9 := Qa.mk hA9
 gi_wp2_with fail
 rw [← hg9] at hR4
 rw [← hg9]
 obtain ⟨W4, hW4⟩ : ∃ W4, W4 = W3.alloc (.cells #[.slice A9 191 c9] 22) := ⟨_, rfl⟩
 have hC4 := hC9'.out
 rw [← hW4] at hR4 hC4
 rw [← hW4]
 clear hC9' hg9 hW4 z3
 refine ⟨trivial, (callsIn_wide.2 (Pg B us.length c2 W4)).mono ?_⟩
 rintro en V ⟨rfl, hV⟩
 obtain ⟨g10, hg10⟩ : ∃ g10, g10 = W4.heap.size := ⟨_, rfl⟩
 have hRv := hR4.alloc #[.slice B us.length c2] 23
 have hbv := (Below.refl W4.heap.size W4).alloc (Nat.le_refl _) (.cells #[.slice B us.length c2] 23)
 simp only [List.nil_append, List.cons_append] at hRv
 rw [← hV, ← hg10] at hRv
 rw [← hV] at hbv
 rw [← hg10]
 have hfar : Qa (∀ g, w.heap.size ≤ g → g ≠ p ∧ some g ≠ q) := ⟨fun g hg => ⟨fun e => by have := Wr.plt HW.out; omega, fun e => by have := (Wr.Du HW.out _ e.symm).2; omega⟩⟩
 have zV3 : V.cell? ⟨w.heap.size, 0, none⟩ = some (.pointer (some ⟨p, 0, none⟩)) := by rw [Qb (hRv.blk ⟨w.heap.size, #[.pointer (some ⟨p, 0, none⟩)], 69⟩ (by simp)).1]; rfl
 have zV4 : V.cell? ⟨w.heap.size + 1, 0, none⟩ = some (.slice A ss.length c1) := by rw [Qb (hRv.blk ⟨w.heap.size + 1, #[.slice A ss.length c1], 22⟩ (by simp)).1]; rfl
 have zV9 : V.cell? ⟨g9, 0, none⟩ = some (.slice A9 191 c9) := by rw [Qb (hRv.blk ⟨g9, #[.slice A9 191 c9], 22⟩ (by simp)).1]; rfl
 have b10 : V.cell? ⟨g10, 0, none⟩ = some (.slice B us.length c2) := by rw [Qb (hRv.blk ⟨g10, #[.slice B us.length c2], 23⟩ (by simp)).1]; rfl
 have HK : Qa (∀ (n : Int) (W : World), StW V base p q L n [] W → W.cell? ⟨w.heap.size, 0, none⟩ = some (.pointer (some ⟨p, 0, none⟩)) ∧ W.cell? ⟨w.heap.size + 1, 0, none⟩ = some (.slice A ss.length c1) ∧ W.cell? ⟨g9, 0, none⟩ = some (.slice A9 191 c9)) := ⟨fun n W h =>
  ⟨h.kp.cell zV3 (hfar.out _ (Nat.le_refl _)).1 (hfar.out _ (Nat.le_refl _)).2, h.kp.cell zV4 (hfar.out _ (Nat.le_succ _)).1 (hfar.out _ (Nat.le_succ _)).2, h.kp.cell zV9 (hfar.out _ hg9w).1 (hfar.out _ hg9w).2⟩⟩
 have hFA := HA.out.step hRv.below
 have hF9 : Xw p q V A9 wrdL.length wrdL := by
  rw [Tx]
  exact Ut HW.out (Kd.Qh hC4 hbv) hA9.out
 have HFA := Qa.mk (fun (n : Int) (W : World) (h : StW V base p q L n [] W) => (hFA.kp h.kp (q' := q) (.inl rfl)).1)
 have HF9 := Qa.mk (fun (n : Int) (W : World) (h : StW V base p q L n [] W) => (hF9.kp h.kp (q' := q) (.inl rfl)).1)
 have hWv := Qa.mk (HW.out.step hRv.below)
 have hVb := Qa.mk hRv.below
 have HBv := Qa.mk (Kd.Qh HB.out hRv.below)
 have HGv : Qa (∀ g ∈ Zx B, g < V.heap.size ∧ g ≠ p ∧ some g ≠ q) := ⟨fun g hg => by
  have := HG.out g hg
  have := hVb.out.size
  exact ⟨by omega, (HG.out g hg).2⟩⟩
 clear hV hg10 hR4 hC4 hRv hbv hFA hF9 hA9 zV3 zV4 zV9 hLn
 gi_wp2_with fail
 refine X5 rfl (by omega) (gf := 199) (lb := #[.pointer (some ⟨g10, 0, none⟩)]) rfl trivial (enters_of Tryz.func199 (by kernel_rfl) rfl)
  (H6 Fence.wide _ trivial rfl (by omega) g10 B c2 us H128.out V HBv.out b10)
  (fun h k => h.trans k) ?keep (Below.refl _ _) (fun _ => rfl) (fun j W => StW V base p q L (scT ss us j) [] W) ?own ?start ?round ?done
 case keep => exact Qu.putObj (N := V.heap.size) (fun g hg => (HGv.out g hg).1)
 case own => exact fun j W W' row h hg hrow => h.turn hg (fun r e => ⟨(hrow r e).1, (hrow r e).2⟩)
 case start => exact StW.start hWv.out
 case round =>
  rintro Lr j W hSt hj
  obtain ⟨hi1, -⟩ := Kt hj
  have hbd := Fx HL.out HS.out j (by omega)
  have hj9 : j ≤ 128 := by have := uN_le us; have := H128.out; omega
  have hst : scT ss us (j + 1) = scT ss us j + (if j = 0 then 7 else Us (rd ss (uAt us j) - rd ss (uAt us (j - 1)))) := rfl
  have hmn := Cb HL.out HS.out (j + 1) (uN us - (j + 1)) (by omega)
  rw [show j + 1 + (uN us - (j + 1)) = uN us by omega, ← hCSd.out] at hmn
  have hrm := hroom.out
  have hZe := hZ.out
  rw [← HL.out] at hi1
  have v1 := HS.out _ (Qt ss (uAt us j) hi1)
  rcases j with _ | j
  ·have hu0 : uBe us 0 = -1 := rfl
   rw [hu0]
   rw [if_pos rfl, show scT ss us 0 = 0 from rfl] at hst
   obtain ⟨ad, had, q1⟩ := Qr (HFA.out _ _ hSt) (Below.refl _ _) hi1
   have hq1 : Qa (∀ (n : Int) (W : World), StW V base p q L n [] W → W.cell? (ad.add (uAt us 0)) = some (.int .i64 (rd ss (uAt us 0)))) := ⟨fun n W h => by
    obtain ⟨ad2, e, q⟩ := Qr (HFA.out _ _ h) (Below.refl _ _) hi1
    rw [had] at e
    cases e
    exact q⟩
   obtain ⟨o, ho⟩ : ∃ o : Nat, o = uAt us 0 := ⟨_, rfl⟩
   rw [← ho] at hi1 hq1 v1
   rw [← ho]
   obtain ⟨x, hx⟩ : ∃ x : Nat, (x : Int) = rd ss (o : Nat) := ⟨(rd ss (o : Nat)).toNat, by omega⟩
   rw [← hx] at hq1 v1
   have hsI : (o : Int) < (ss.length : Int) := by omega
   subst had
   clear ho hbd hj hu0 hj9 q1 hx hi1
   gi_wp2
   refine ⟨(KeepsOthers.refl W).from _, Qu.refl _ _, fun Z => StW V base p q L 0 [] Z, hSt, fun _ Z Z' row h hg hrow => h.turn hg (fun r e => ⟨(hrow r e).1, (hrow r e).2⟩), ?_⟩
   clear hSt
   rintro Zw hSw
   obtain ⟨z3, z4, z9⟩ := HK.out _ _ hSw
   have e1 := hq1.out _ _ hSw
   have hPt := Qa.mk (fun (W' : World) (hb : Below Zw.heap.size Zw W') => hSw.put (v := x) (k := 7) (by omega) (by omega) (by push_cast; omega) hb)
   have hst' : Qa (scT ss us (0 + 1) = 0 + (7 : Nat)) := ⟨hst⟩
   replace hSw := Qa.mk hSw
   clear hst hmn hrm hZe v1 hZ0 hroomI hcS
   gi_wp2_with fail
   refine Held.Q7 (fun W' => W'.cell? ⟨w.heap.size, 0, none⟩ = some (.pointer (some ⟨p, 0, none⟩)) ∧ W'.cell? ⟨w.heap.size + 1, 0, none⟩ = some (.slice (some ad) ss.length c1) ∧ W'.cell? (ad.add o) = some (.int .i64 x)) hmo (by kernel_rfl) (fun ⟨_, _, h⟩ => h) ⟨z3, z4, e1⟩ (fun hHeld => ?_)
   have hbD : Below Zw.heap.size Zw Zw.drew := (Below.refl _ _).drew
   obtain ⟨ZD, hZD⟩ : ∃ ZD, ZD = Zw.drew := ⟨_, rfl⟩
   rw [← hZD] at hHeld hbD ⊢
   clear hZD
   (refine Tk.tk 0 (.pointer (some ⟨p, 0, none⟩)) hHeld ?_)
   (refine Tk.tk 1 (.slice (some ad) ss.length c1) hHeld ?_)
   (refine Tk.tk 2 (.int .i64 o) hHeld ?_)
   (refine Tk.tk 3 (.pointer (some (ad.add o))) hHeld ?_)
   (refine Tk.tk 4 (.int .i64 x) hHeld ?_)
   (refine wpAnyH_ready (rs := [5]) (by kernel_rfl) (by simp) ?_; refine AllReadyH.cons rfl (fun K hK => ?_) AllReadyH.nil; go_simp)
   refine (hPt.out _ hbD).mono ?_
   rintro en w5 ⟨E, rfl, hS5, hK5⟩
   obtain ⟨y3, y4, y9⟩ := HK.out _ _ hS5
   (go_wp2_with fail; refine hK.out _ _ (⟨y3, y4, hq1.out _ _ hS5⟩) (fun hHeld => ?_); clear hK K; try simp only [Act.put, Tk.z1, Tk.z2, Tk.z3, Tk.z4, Tk.z5, Tk.z6])
   refine wpAnyH_done (by kernel_rfl) ?_ _
   have hkl := StW.keep0 hSw.out hS5 HGv.out
   replace hS5 := Qa.mk hS5
   replace hK5 := Qa.mk hK5
   replace hkl := Qa.mk hkl
   clear hHeld z3 z4 z9 e1 y3 y4 y9 hPt
   gi_wp2
   exact ⟨hK5.out.from _, hkl.out, by show StW V base p q L (scT ss us (0 + 1)) [] _; rw [hst'.out]; exact hS5.out⟩
  ·have hi2 := (Kt (us := us) (m := j) (by omega)).1
   rw [← HL.out] at hi2
   have v2 := HS.out _ (Qt ss (uAt us j) hi2)
   have hu1 : uBe us (j + 1) = (uAt us j : Nat) := rfl
   rw [hu1]
   rw [if_neg (by omega), Nat.add_sub_cancel] at hst
   obtain ⟨ad, had, -⟩ := Qr (HFA.out _ _ hSt) (Below.refl _ _) hi1
   have hq1 : Qa (∀ (n : Int) (W : World), StW V base p q L n [] W → W.cell? (ad.add (uAt us (j + 1))) = some (.int .i64 (rd ss (uAt us (j + 1)))) ∧ W.cell? (ad.add (uAt us j)) = some (.int .i64 (rd ss (uAt us j)))) := ⟨fun n W h => by
    obtain ⟨ad2, e, q⟩ := Qr (HFA.out _ _ h) (Below.refl _ _) hi1
    obtain ⟨ad3, e3, q3⟩ := Qr (HFA.out _ _ h) (Below.refl _ _) hi2
    rw [had] at e e3
    cases e
    cases e3
    exact ⟨q, q3⟩⟩
   obtain ⟨o, ho⟩ : ∃ o : Nat, o = uAt us (j + 1) := ⟨_, rfl⟩
   obtain ⟨p', hp'⟩ : ∃ p' : Nat, p' = uAt us j := ⟨_, rfl⟩
   rw [← ho] at hi1 hq1 v1 hst
   rw [← hp'] at hi2 hq1 v2 hst
   rw [← ho, ← hp']
   obtain ⟨x, hx⟩ : ∃ x, x = rd ss (o : Nat) := ⟨_, rfl⟩
   obtain ⟨y, hy⟩ : ∃ y, y = rd ss (p' : Nat) := ⟨_, rfl⟩
   rw [← hx] at hq1 v1 hst
   rw [← hy] at hq1 v2 hst
   obtain ⟨vw, nw, hvw, hnw, hvlt, hn15⟩ := wrd_at (d := x - y) (by omega) (by omega)
   have hLn := Qa.mk (fun (W : World) => Ur (x - y) W (by omega) (by omega))
   rw [← hnw] at hst hLn
   obtain ⟨wi, hwi⟩ : ∃ wi : Nat, (wi : Int) = x - y + 95 := ⟨(x - y + 95).toNat, by omega⟩
   have hwi9 : wi < wrdL.length := by rw [Tx]; omega
   rw [show (x - y + 95).toNat = wi by omega] at hvw
   obtain ⟨ad9, had9, -⟩ := Qr (HF9.out _ _ hSt) (Below.refl _ _) hwi9
   have hq9 : Qa (∀ (n : Int) (W : World), StW V base p q L n [] W → W.cell? (ad9.add wi) = some (.int .i64 vw)) := ⟨fun n W h => by
    obtain ⟨ad2, e, q⟩ := Qr (HF9.out _ _ h) (Below.refl _ _) hwi9
    rw [had9] at e
    cases e
    rw [hvw]
    exact q⟩
   obtain ⟨sm, hsm⟩ : ∃ sm, sm = scT ss us (j + 1) := ⟨_, rfl⟩
   rw [← hsm] at hst hbd hSt
   have hsI : (o : Int) < (ss.length : Int) ∧ (p' : Int) < (ss.length : Int) := by omega
   have hwI : wi < 191 ∧ (wi : Int) < 191 := by rw [Tx] at hwi9; omega
   have hI1 : IntKind.i64.wrap (x - y) = x - y := IntWalk.i64_in _ (by omega)
   have hI2 : IntKind.i64.wrap (x - y + 95) = (wi : Int) := by rw [hwi]; exact IntWalk.i64_in _ (by omega)
   have hp0 : decide ((p' : Int) < 0) = false := decide_eq_false (by omega)
   have hst' : Qa (scT ss us (j + 1 + 1) = sm + nw) := ⟨hst⟩
   have hrmP : Qa ((L.length : Int) + sm + nw ≤ 1048576) := ⟨by omega⟩
   have hvlt' := Qa.mk hvlt
   have hn15' := Qa.mk hn15
   have hxy : -95 ≤ x - y ∧ x - y ≤ 95 := by omega
   subst had
   subst had9
   replace hwi := Qa.mk hwi
   clear ho hp' hbd hj hu1 hj9 hx hy hi1 hi2 hvw hnw hwi9 hsm hst hmn hrm hZe v1 v2 hZ0 hroomI hcS hvlt hn15
   gi_wp2
   refine ⟨(KeepsOthers.refl W).from _, Qu.refl _ _, fun Z => StW V base p q L sm [] Z, hSt, fun _ Z Z' row h hg hrow => h.turn hg (fun r e => ⟨(hrow r e).1, (hrow r e).2⟩), ?_⟩
   clear hSt
   rintro Zw hSw
   obtain ⟨z3, z4, z9⟩ := HK.out _ _ hSw
   obtain ⟨e1, e2⟩ := hq1.out _ _ hSw
   have e9 := hq9.out _ _ hSw
   have hPt := Qa.mk (fun (W' : World) (hb : Below Zw.heap.size Zw W') => hSw.put (v := vw) (k := nw) (by have := hn15'.out; omega) hvlt'.out hrmP.out hb)
   replace hSw := Qa.mk hSw
   gi_wp2_with fail
   refine Held.Q7 (fun W' => W'.cell? ⟨w.heap.size + 1, 0, none⟩ = some (.slice (some ad) ss.length c1) ∧ W'.cell? (ad.add o) = some (.int .i64 x) ∧ W'.cell? (ad.add p') = some (.int .i64 y)) hmo (by kernel_rfl) (fun ⟨_, _, h⟩ => h) ⟨z4, e1, e2⟩ (fun hHeld => ?_)
   have hbD : Below Zw.heap.size Zw Zw.drew := (Below.refl _ _).drew
   obtain ⟨ZD, hZD⟩ : ∃ ZD, ZD = Zw.drew := ⟨_, rfl⟩
   rw [← hZD] at hHeld hbD ⊢
   (refine Tk.tk 0 (.slice (some ad) ss.length c1) hHeld ?_)
   (refine Tk.tk 1 (.int .i64 o) hHeld ?_)
   (refine Tk.tk 2 (.pointer (some (ad.add o))) hHeld ?_)
   (refine Tk.tk 3 (.int .i64 x) hHeld ?_)
   (refine Tk.tk 4 (.slice (some ad) ss.length c1) hHeld ?_)
   (refine Tk.tk 5 (.int .i64 p') hHeld ?_)
   (refine Tk.tk 6 (.pointer (some (ad.add p'))) hHeld ?_)
   (refine Tk.tk 7 (.int .i64 y) hHeld ?_)
   (refine Tk.tk 8 (.int .i64 (x - y)) hHeld ?_)
   (refine Tk.tk 9 (.int .i64 (x - y)) hHeld ?_)
   refine wpAnyH_done (by kernel_rfl) ?_ _
   have y3 := cnx z3 hbD
   have y9 := cnx z9 hbD
   have f9 := cnx e9 hbD
   clear hHeld z3 z4 z9 e1 e2 e9 hZD
   gi_wp2_with fail
   refine Held.Q7 (fun W' => W'.cell? ⟨w.heap.size, 0, none⟩ = some (.pointer (some ⟨p, 0, none⟩)) ∧ W'.cell? ⟨g9, 0, none⟩ = some (.slice (some ad9) 191 c9) ∧ W'.cell? (ad9.add wi) = some (.int .i64 vw)) hmo (by kernel_rfl) (fun ⟨_, _, h⟩ => h) ⟨y3, y9, f9⟩ (fun hHeld => ?_)
   have hbE : Below Zw.heap.size Zw ZD.drew := hbD.drew
   obtain ⟨ZE, hZE⟩ : ∃ ZE, ZE = ZD.drew := ⟨_, rfl⟩
   rw [← hZE] at hHeld hbE ⊢
   clear hZE y3 y9 f9
   (refine Tk.tk 0 (.pointer (some ⟨p, 0, none⟩)) hHeld ?_)
   (refine Tk.tk 1 (.slice (some ad9) 191 c9) hHeld ?_)
   (refine Tk.tk 2 (.int .i64 (x - y)) hHeld ?_)
   (refine Tk.tk 3 (.int .i64 wi) hHeld ?_)
   (refine Tk.tk 4 (.pointer (some (ad9.add wi))) hHeld ?_)
   (refine Tk.tk 5 (.int .i64 vw) hHeld ?_)
   (refine Tk.tk 6 (.int .i64 (x - y)) hHeld ?_)
   (refine wpAnyH_ready (rs := [7]) (by kernel_rfl) (by simp) ?_; refine AllReadyH.cons rfl (fun K hK => ?_) AllReadyH.nil; go_simp)
   refine (hLn.out _).mono ?_
   rintro en w1 ⟨rfl, hw1⟩
   rw [hw1]
   clear hw1
   (go_wp2_with fail; refine hK.out _ _ (hHeld) (fun hHeld => ?_); clear hK K; try simp only [Act.put, Tk.z1, Tk.z2, Tk.z3, Tk.z4, Tk.z5, Tk.z6])
   (refine wpAnyH_ready (rs := [8]) (by kernel_rfl) (by simp) ?_; refine AllReadyH.cons rfl (fun K hK => ?_) AllReadyH.nil; go_simp)
   refine (hPt.out _ hbE).mono ?_
   rintro en w5 ⟨E, rfl, hS5, hK5⟩
   obtain ⟨y3, y4, y9⟩ := HK.out _ _ hS5
   (go_wp2_with fail; refine hK.out _ _ (⟨y3, y9, hq9.out _ _ hS5⟩) (fun hHeld => ?_); clear hK K; try simp only [Act.put, Tk.z1, Tk.z2, Tk.z3, Tk.z4, Tk.z5, Tk.z6])
   refine wpAnyH_done (by kernel_rfl) ?_ _
   have hkl := StW.keep0 hSw.out hS5 HGv.out
   replace hS5 := Qa.mk hS5
   replace hK5 := Qa.mk hK5
   replace hkl := Qa.mk hkl
   clear hHeld y3 y4 y9 hPt
   gi_wp2
   exact ⟨hK5.out.from _, hkl.out, by show StW V base p q L (scT ss us (j + 1 + 1)) [] _; rw [hst'.out]; exact hS5.out⟩
 case done =>
  rintro D W hD hSt hDf
  have hS2 := hSt.turn (grownBy_putObj' W D (.deferred none)) (fun r e => by cases e; exact ⟨hD, _, hDf, rfl⟩)
  obtain ⟨⟨bs, q1, i1, i2, i3, -⟩, i5, -, -⟩ := hS2
  rw [← hCSd.out] at i1
  replace i1 := Qa.mk i1
  replace i2 := Qa.mk i2
  replace i3 := Qa.mk i3
  replace i5 := Qa.mk i5
  clear hSt
  gi_wp2
  refine ⟨by simp, .inl ⟨_, _, rfl, run_takeDeferred hDf, ?_⟩⟩
  exact ⟨.int .i64 0, by simp [results, Tryz.f91, go_sem], rfl, bs, i1.out, q1, i2.out, i3.out.imp id (fun ⟨g, e, h⟩ => ⟨g, e, Nat.le_trans hVb.out.size h⟩), (Kp.of_below hVb.out p q).trans i5.out (.inl rfl)⟩
end Sca

end Go.Proofs.YtnflnicdjioflaaGreatDoor
