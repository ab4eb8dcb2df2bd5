/- A part of the proof. -/
import Derived.Test.YtnflnicdjioflaaGreatDoorSlbl
import Derived.Test.YtnflnicdjioflaaGreatDoorSlbn
set_option linter.unusedVariables false
set_option linter.unusedSimpArgs false
set_option maxRecDepth 100000
set_option maxHeartbeats 8000000
namespace Go.Proofs.YtnflnicdjioflaaGreatDoor
open Go.RowKit Go.Proofs.YtnflnicdjioflaaGreatDoorW.PrintWords Go.Proofs.YtnflnicdjioflaaGreatDoorW.PrintLast Go.Proofs.YtnflnicdjioflaaGreatDoorW.PrintMore
namespace Gn
attribute [local go_sem] Qj Qi Ql Qk Qg Qf
open Q15
open Q21
open Bk
theorem V5 (n : Nat) (sh : Bool) (hn : 0 < n) : chK (Xi n sh) 0 = chS sh := by
 unfold chK Xi
 cases n with
 | zero => omega
 | succ n => rfl
theorem Qad : Te (Xi 1 false) = true := by
 refine Kh.2 ⟨by decide, ?_, ?_, ?_⟩
 ·rw [V5 1 false (by decide)]; decide +kernel
 ·rw [V5 1 false (by decide)]; decide +kernel
 ·intro c hc
  obtain rfl := List.mem_singleton.1 hc
  rw [V5 1 false (by decide)]
  refine ⟨rfl, rfl, ?_⟩
  decide +kernel
theorem Qaz : Ud (Xi 1 false) = 15 := by
 unfold Ud
 rw [V5 1 false (by decide)]
 show 1 + (stN [] : Int) + Yx (Xi 1 false) + ([chS false].map (Yg Z6)).sum = 15
 have h1 : Yg Z6 (chS false) = 14 := by
  show 4 + 8 * ((0 : Nat) : Int) + ((Sec.wL Z6 zeros Z6.length).getD 0 Sec.w0).cost + Sca.Z9 (chS false).sc (Xg Z6 zeros) = 14
  have h2 : Sca.Z9 (chS false).sc (Xg Z6 zeros) = 0 := by
   unfold Sca.Z9
   rw [Hd]
   rfl
  rw [h2, Pt]
  rfl
 rw [List.map_cons, List.map_nil, List.sum_cons, List.sum_nil, h1]
 decide +kernel
theorem dr0_no : validD ⟨false, [], [], [], [], []⟩ = false := by decide +kernel
theorem Ih : BW 0 := fun base p q L A cap l w hw hB4 hL hr hl hcap hA hf hroom => Cw base p q L 0 (by decide) A cap l w hw hB4 hL hr hl hcap hA hf hroom rfl (by decide)
theorem Sn : ∀ p ∈ ((Sec.wL Z6 zeros Z6.length).getD 0 Sec.w0).secs, p.1.toNat = 0 := by decide +kernel
theorem sil1_bw : ∀ c ∈ (Xi 1 false).chs, ∀ p ∈ ((Sec.wL (Qm (chK (Xi 1 false) 0).sh (chK (Xi 1 false) 0).gr) c.qu (Qm (chK (Xi 1 false) 0).sh (chK (Xi 1 false) 0).gr).length).getD 0 Sec.w0).secs, BW p.1.toNat := by
 rw [V5 1 false (by decide)]
 intro c hc
 obtain rfl := List.mem_singleton.1 hc
 intro p hp
 rw [Sn p hp]
 exact Ih
theorem Ap (w : World) (hL : Laid w) (hB : Xe w) (hB4 : 4 ≤ w.heap.size) :
  Calls Tryz.prog 8 #[] w fun e w' => e = .returned (.bool true) ∧ Below w.heap.size w w' := by
 have hu31 := Tryz.underlying31
 have hu26 := Tryz.underlying26
 have HS := Qa.mk (V4 1 (.inl rfl) w hL)
 obtain ⟨G, hG⟩ : ∃ G, G = Xi 1 false := ⟨_, rfl⟩
 have hok := Qad
 have hco := Qaz
 have hsm : Sm (Xi 1 false) := by
  intro x hx
  obtain rfl := List.mem_singleton.1 hx
  decide +kernel
 have hbw := sil1_bw
 rw [← hG] at HS hok hco hsm hbw
 have HCo := Qa.mk (fun (W : World) (A M : Option Addr) (c m : Nat) (hb : Below w.heap.size w W) (h : Uv W G A c M m) => Jp G A c M m W (hL.below hb) (hB.below hb) (by have := hb.size; omega) h hsm hok hbw)
 rw [hco] at HCo
 have HCh := Qa.mk (fun (W : World) (A M : Option Addr) (c m : Nat) (hb : Below w.heap.size w W) (h : Uv W G A c M m) => Vt G A c M m W (hL.below hb) h hsm)
 rw [hok] at HCh
 simp only [if_true] at HCh
 have HV := Qa.mk (fun (W : World) (hb : Below w.heap.size w W) => Mf ⟨false, [], [], [], [], []⟩ ⟨none, 0, none, 0, none, 0, none, 0, none, 0⟩ W (hL.below hb) ⟨Kd.Jr _ _, Kd.Jr _ _, Kd.Jr _ _, Kd.Jr _ _, Kd.Jr _ _⟩ (by decide +kernel))
 rw [dr0_no] at HV
 unfold Ji at HV
 simp only [List.length_nil] at HV
 clear hL hB hB4 hG hok hco hsm hbw
 go_enter Tryz.func8, Tryz.ntmps8
 go_wp2_with fail
 refine HS.out.mono ?_
 intro e w1 hg
 obtain ⟨A, c, M, m, rfl, h1, h2, hb1⟩ := hg.reads
 have hGA : Uv w1 G A c M m := ⟨h1, h2⟩
 clear hg h1 h2 HS
 go_wp2_with fail
 obtain ⟨w2, hw2⟩ : ∃ w2, w2 = w1.alloc (.cells #[.slice A G.chs.length c, .slice M G.mid.length m] 31) := ⟨_, rfl⟩
 have hb12 : Below w1.heap.size w1 w2 := by rw [hw2]; exact (Below.refl _ _).alloc (Nat.le_refl _) _
 have hB2 : w2.heap[w1.heap.size]? = some (.cells #[.slice A G.chs.length c, .slice M G.mid.length m] 31 (0, 0)) := by rw [hw2]; exact heap_alloc_new _ _
 have hb2 := bnx hb1 hb12
 rw [← hw2]
 refine (HCo.out w2 A M c m hb2 (hGA.below hb12)).mono ?_
 rintro e w3 ⟨rfl, hb3⟩
 have hG3 := Qa.mk ((hGA.below hb12).below hb3)
 have hB3 := (hb3.block _ (Qq hB2)).trans hB2
 have z0 : w3.cell? ⟨w1.heap.size, 0, none⟩ = some (.slice A G.chs.length c) := by rw [Qb hB3]; rfl
 have z1 : w3.cell? ⟨w1.heap.size, 1, none⟩ = some (.slice M G.mid.length m) := by rw [Qb hB3]; rfl
 replace hb2 := bnx hb2 hb3
 clear hw2 hb12 hB2 hb3 hB3 hb1 hGA HCo
 go_wp2_with fail
 refine (HCh.out w3 A M c m hb2 hG3.out).mono ?_
 rintro e w4 ⟨rfl, hb4⟩
 replace hb2 := bnx hb2 hb4
 clear hb4 z0 z1 hG3 HCh
 go_wp2_with fail
 refine (HV.out w4 hb2).mono ?_
 rintro e w5 ⟨rfl, hb5⟩
 replace hb2 := bnx hb2 hb5
 clear hb5 HV
 go_wp2
 go_ret
 exact ⟨rfl, hb2⟩
end Gn

namespace Gn
attribute [local go_sem] Qj Qi Ql Qk Qg Qf
open Q15
open Q21
open Bk
open Sec
open Sca
open Q16 (isW Za)
theorem Qaw {a b : Nat} (h : a ≤ b) : a.log2 ≤ b.log2 := by
 rcases Nat.eq_zero_or_pos a with rfl | ha
 ·simp
 ·have h1 : 2 ^ a.log2 ≤ a := Nat.log2_self_le (by omega)
  have h2 : b < 2 ^ (b.log2 + 1) := Nat.lt_log2_self
  have h3 : 2 ^ a.log2 < 2 ^ (b.log2 + 1) := by omega
  have := (Nat.pow_lt_pow_iff_right (by decide)).1 h3
  omega
theorem Qap {a b : Int} (h : a ≤ b) : Zc a ≤ Zc b := by
 have := Qaw (a := a.toNat) (b := b.toNat) (by omega)
 unfold Zc
 omega
theorem log2_add {a b : Nat} (ha : 0 < a) (hb : 0 < b) : (a + b).log2 ≤ a.log2 + b.log2 + 1 := by
 have key : ∀ {a b : Nat}, a ≤ b → 0 < b → (a + b).log2 ≤ b.log2 + 1 := fun {a b} h hb => by
  have h2 : b < 2 ^ (b.log2 + 1) := Nat.lt_log2_self
  have h3 : 2 ^ (a + b).log2 ≤ a + b := Nat.log2_self_le (by omega)
  have h4 : 2 ^ (a + b).log2 < 2 ^ (b.log2 + 1 + 1) := by rw [Nat.pow_succ 2 (b.log2 + 1)]; omega
  have := (Nat.pow_lt_pow_iff_right (by decide)).1 h4
  omega
 rcases Nat.le_total a b with h | h
 ·have := key h hb; omega
 ·have := key h ha; rw [Nat.add_comm]; omega
theorem gamI_add {a b : Int} (ha : 1 ≤ a) (hb : 1 ≤ b) : Zc (a + b) ≤ Zc a + Zc b + 3 := by
 have := log2_add (a := a.toNat) (b := b.toNat) (by omega) (by omega)
 unfold Zc
 rw [show (a + b).toNat = a.toNat + b.toNat by omega]
 omega
theorem Sb : ∀ {s : List (Int × Int)}, s ≠ [] → (∀ p ∈ s, 1 ≤ p.2) → 3 + Zc (((Qo s).length : Nat) : Int) ≤ Zl s
 | [], h, _ => absurd rfl h
 | [p], _, h => by
  have h1 := h p (by simp)
  rw [Jh, List.length_append, List.length_replicate]
  have : Zl [p] = 3 + Zc p.2 := by simp [Zl]
  rw [this]
  have h2 : ((p.2.toNat + (Qo ([] : List (Int × Int))).length : Nat) : Int) = p.2 := by simp [Qo]; omega
  rw [h2]
  omega
 | p :: q :: s, _, h => by
  have h1 := h p (by simp)
  have h2 := Sb (s := q :: s) (by simp) (fun x hx => h x (by simp [hx]))
  have h3 := h q (by simp)
  have h4 : Zl (p :: q :: s) = 3 + Zc p.2 + Zl (q :: s) := by simp [Zl]
  have h5 : 1 ≤ (Qo (q :: s)).length := by rw [Jh, List.length_append, List.length_replicate]; omega
  have h6 := gamI_add (a := p.2) (b := (((Qo (q :: s)).length : Nat) : Int)) h1 (by omega)
  rw [h4, Jh, List.length_append, List.length_replicate]
  rw [show ((p.2.toNat + (Qo (q :: s)).length : Nat) : Int) = p.2 + (((Qo (q :: s)).length : Nat) : Int) by omega]
  omega
theorem cost_low {ws : List Int} {c : Ch} (h : ChF ws c) : 4 + (3 + Zc (ws.length : Nat)) ≤ Yg ws c := by
 obtain ⟨hR, hC⟩ := Gw h.ok
 obtain ⟨-, -, -, h4⟩ := Bo h
 have h0 := h.w0
 have hne : ((wL ws c.qu ws.length).getD 0 Sec.w0).secs ≠ [] := fun e => by
  have := hR.len
  rw [e] at this
  simp [Qo] at this
  omega
 have h1 := Sb hne (fun p hp => (hR.el p hp).2.2.1)
 rw [hR.len] at h1
 have h2 : 0 ≤ cbk (Zz ws c.qu) 0 (Qo ((wL ws c.qu ws.length).getD 0 Sec.w0).secs) := by
  have key : ∀ (b : List Int) (o : Nat), (∀ j, j < b.length → 0 ≤ Zz ws c.qu (rd b j).toNat (o + j)) → 0 ≤ cbk (Zz ws c.qu) o b := by
   intro b
   induction b with
   | nil => intro o _; simp [cbk]
   | cons x b ih =>
    intro o hb
    have k1 := hb 0 (by simp)
    have k2 := ih (o + 1) (fun j hj => by
     have := hb (j + 1) (by simpa using hj)
     rw [show o + (j + 1) = o + 1 + j by omega] at this
     rw [show rd (x :: b) ((j + 1 : Nat) : Int) = rd b j by unfold rd; simp] at this
     exact this)
    rw [show rd (x :: b) ((0 : Nat) : Int) = x from rfl, Nat.add_zero] at k1
    unfold cbk
    omega
  exact key _ 0 (fun j hj => by rw [Nat.zero_add]; exact hR.fits j (by rw [← hR.len]; exact hj))
 have h3 : Vr ws c.qu ((wL ws c.qu ws.length).getD 0 Sec.w0).secs = Zl ((wL ws c.qu ws.length).getD 0 Sec.w0).secs + cbk (Zz ws c.qu) 0 (Qo ((wL ws c.qu ws.length).getD 0 Sec.w0).secs) := rfl
 unfold Yg
 rw [← hC]
 omega
theorem Ck : ((wL (Qm true [8]) zeros (Qm true [8]).length).getD 0 w0).cost = 8 := by decide +kernel
theorem Cz : Sca.uN (Xg (Qm true [8]) zeros) = 0 := by decide +kernel
theorem Ov : ∀ p ∈ ((Sec.wL (Qm true [8]) zeros (Qm true [8]).length).getD 0 Sec.w0).secs, p.1.toNat = 0 := by decide +kernel
theorem sil_cost (sh : Bool) : Yg (Qm sh (grpS sh)) (chS sh) = 4 + (3 + Zc (Ty sh : Nat)) := by
 cases sh with
 | false =>
  show 4 + 8 * ((0 : Nat) : Int) + ((Sec.wL Z6 zeros Z6.length).getD 0 Sec.w0).cost + Sca.Z9 (chS false).sc (Xg Z6 zeros) = _
  have h2 : Sca.Z9 (chS false).sc (Xg Z6 zeros) = 0 := by unfold Sca.Z9; rw [Hd]; rfl
  rw [h2, Pt]; decide +kernel
 | true =>
  show 4 + 8 * ((0 : Nat) : Int) + ((Sec.wL (Qm true [8]) zeros (Qm true [8]).length).getD 0 Sec.w0).cost + Sca.Z9 (chS true).sc (Xg (Qm true [8]) zeros) = _
  have h2 : Sca.Z9 (chS true).sc (Xg (Qm true [8]) zeros) = 0 := by unfold Sca.Z9; rw [Cz]; rfl
  rw [h2, Ck]; decide +kernel
theorem sil_wid (sh : Bool) : Qm (chS sh).sh (chS sh).gr = Qm sh (grpS sh) := rfl
theorem sil_ok (n : Nat) (sh : Bool) (hn : n = 1 ∨ n = 2) : Te (Xi n sh) = true := by
 rcases hn with rfl | rfl <;> cases sh
 ·exact Qad
 all_goals
  refine Kh.2 ⟨by decide, ?_, ?_, ?_⟩
  ·rw [V5 _ _ (by decide)]; decide +kernel
  ·rw [V5 _ _ (by decide)]; decide +kernel
  ·intro c hc
   obtain rfl := List.eq_of_mem_replicate hc
   rw [V5 _ _ (by decide)]
   refine ⟨rfl, rfl, ?_⟩
   decide +kernel
theorem sil_bw (n : Nat) (sh : Bool) (hn : n = 1 ∨ n = 2) : ∀ c ∈ (Xi n sh).chs, ∀ p ∈ ((Sec.wL (Qm (chK (Xi n sh) 0).sh (chK (Xi n sh) 0).gr) c.qu (Qm (chK (Xi n sh) 0).sh (chK (Xi n sh) 0).gr).length).getD 0 Sec.w0).secs, BW p.1.toNat := by
 rw [V5 n sh (by omega)]
 intro c hc
 obtain rfl := List.eq_of_mem_replicate hc
 intro p hp
 have h0 : p.1.toNat = 0 := by
  cases sh with
  | false => exact Sn p hp
  | true => exact Ov p hp
 rw [h0]
 exact Ih
theorem sum_rep (n : Nat) (x : Int) : (List.replicate n x).sum = n * x := by
 induction n with
 | zero => simp
 | succ n ih => rw [List.replicate_succ, List.sum_cons, ih]; push_cast; rw [Int.add_mul]; omega
theorem many_le {sh : Bool} {g : List Int} (h : Zf sh g = true) : Ty sh ≤ (Qm sh g).length ∧ stN g = stN (grpS sh) := by
 cases sh with
 | false =>
  have : g = [] := by unfold Zf at h; simpa using h
  subst this
  decide
 | true =>
  obtain ⟨h1, h2, h3⟩ := X3.1 h
  refine ⟨?_, ?_⟩
  ·cases g with
   | nil => simp at h3
   | cons a g => unfold Qm; rw [if_pos rfl, List.map_cons, List.flatten_cons, List.length_append]; show 4 ≤ _; simp
  ·unfold stN Vj
   rw [List.take_length, h3]
   decide
theorem Qay {g : Gr} (h : GrOk g) : Ud (Xi g.chs.length (chK g 0).sh) ≤ Ud g := by
 obtain ⟨n1, n2⟩ := h.n
 have hw := Yu h.div
 obtain ⟨m1, m2⟩ := many_le h.div
 have hlow : ∀ c ∈ g.chs, 4 + (3 + Zc (Ty (chK g 0).sh : Nat)) ≤ Yg (Qm (chK g 0).sh (chK g 0).gr) c := fun c hc => by
  have := cost_low (F5 hw (h.ch c hc).2.2)
  have := Qap (a := (Ty (chK g 0).sh : Nat)) (b := ((Qm (chK g 0).sh (chK g 0).gr).length : Nat)) (by omega)
  omega
 have hM : Yx (Xi g.chs.length (chK g 0).sh) ≤ Yx g := by
  have hl : (Xi g.chs.length (chK g 0).sh).chs.length = g.chs.length := by simp [Xi]
  unfold Yx
  rw [hl]
  by_cases h2 : g.chs.length = 2
  ·rw [if_pos h2, if_pos h2]
   have : Ha (Xi g.chs.length (chK g 0).sh).mid = 0 := by
    unfold Xi
    dsimp only
    rw [if_pos h2]
    cases (chK g 0).sh <;> decide
   rw [this]
   split <;> simp <;> omega
  ·rw [if_neg h2, if_neg h2]; omega
 have hsum : ∀ l : List Ch, (∀ c ∈ l, 4 + (3 + Zc (Ty (chK g 0).sh : Nat)) ≤ Yg (Qm (chK g 0).sh (chK g 0).gr) c) → (l.length : Int) * (4 + (3 + Zc (Ty (chK g 0).sh : Nat))) ≤ (l.map (Yg (Qm (chK g 0).sh (chK g 0).gr))).sum := by
  intro l
  induction l with
  | nil => intro _; simp
  | cons a l ih =>
   intro hl
   have k1 := hl a (by simp)
   have k2 := ih (fun c hc => hl c (by simp [hc]))
   rw [List.map_cons, List.sum_cons, List.length_cons]
   push_cast
   rw [Int.add_mul]
   omega
 have hs := hsum g.chs hlow
 have hS : Ud (Xi g.chs.length (chK g 0).sh) = 1 + stN (grpS (chK g 0).sh) + Yx (Xi g.chs.length (chK g 0).sh) + (g.chs.length : Int) * (4 + (3 + Zc (Ty (chK g 0).sh : Nat))) := by
  unfold Ud
  rw [V5 _ _ (by omega), sil_wid, show (Xi g.chs.length (chK g 0).sh).chs = List.replicate g.chs.length (chS (chK g 0).sh) from rfl, List.map_replicate, sum_rep, sil_cost]
  rfl
 rw [hS]
 unfold Ud
 rw [m2]
 omega
end Gn

namespace Gn
attribute [local go_sem] Qj Qi Ql Qk Qg Qf
open Q15
open Q21
open Sp (capQ Sa)
theorem capQ_of {w : World} {base p : Nat} {A : Option Addr} {xs : List Ch} (h : kCh.R 46 w base (fun _ => True) (.slice A xs.length p) xs) : capQ w A xs := by
 obtain ⟨A', c', he, -, hr⟩ := Y1.reads h.2
 injection he with he _ _
 subst he
 intro k ad B c hk hA hc
 obtain ⟨ad', cs, e1, -, hM, hcell⟩ := Zn.get_ hr ch0 (k : Int) (by omega) (by omega)
 rw [hA] at e1
 cases e1
 rw [Int.toNat_natCast] at hM hcell
 obtain ⟨_, _, rfl, rfl, ⟨_, _, rfl, ⟨v1, rfl, r1⟩, ⟨_, _, rfl, ⟨v2, rfl, r2⟩, ⟨_, _, rfl, ⟨v3, rfl, r3⟩, ⟨v4, rfl, r4⟩⟩⟩⟩⟩ := hM
 obtain ⟨A3, c3, rfl, l3, -⟩ := Kd.Qz r3
 have h3 := hcell 3 _ rfl
 have : w.cell? (ad.add (k * 5 + 3)) = _ := h3
 rw [hc] at this
 injection this with this
 injection this with _ _ e4
 rw [e4]
 exact ⟨l3, Bts.R_cap r3⟩
theorem Ta {w W : World} {A : Option Addr} {xs : List Ch} (h : capQ w A xs) (hC : kCh.C w A xs.length xs) (hb : Below w.heap.size w W) : capQ W A xs := fun k ad B c hk hA hc => by
 obtain ⟨ad2, A1, c1, A2, c2, A3, c3, A4, c4, e, hcell, -, -, -, -⟩ := U2 hC (Below.refl _ _) hk
 rw [hA] at e
 cases e
 have h3 := cnx (hcell 3 _ rfl) hb
 rw [hc] at h3
 injection h3 with h3
 injection h3 with _ _ e4
 rw [e4]
 exact h k ad A3 c3 hk hA (hcell 3 _ rfl)
theorem Ah (A B : Option Addr) (c1 c2 : Nat) (l : List Int) (w : World) (h1 : (Kd.int .i64).C w A l.length l) (h2 : (Kd.int .i64).C w B l.length l) (hl : l.length ≤ 1000000) :
  Calls Tryz.prog 18 #[.slice A l.length c1, .slice B l.length c2] w fun e w' => e = .returned (.bool true) ∧ Below w.heap.size w w' := by
 have HA := Qa.mk h1
 have HB := Qa.mk h2
 have hlI : (l.length : Int) ≤ 1000000 := by omega
 clear h1 h2 hl
 go_enter Tryz.func18, Tryz.ntmps18
 go_wp2
 go_loopw [13] (fun i wr => ∃ k : Nat, i = .int .i64 k ∧ k ≤ l.length ∧ Below w.heap.size w wr) (fun i _ => l.length - (intOf i).toNat)
 case atStart => exact ⟨0, rfl, by omega, Below.refl _ _⟩
 case round =>
  obtain ⟨k, rfl, hk, hb⟩ := hrel
  by_cases hlt : k < l.length
  ·obtain ⟨a, rfl, e1⟩ := Qr HA.out hb hlt
   obtain ⟨b, rfl, e2⟩ := Qr HB.out hb hlt
   have hkI : (k : Int) < (l.length : Int) := by omega
   obtain ⟨x, hx⟩ : ∃ x, x = rd l k := ⟨_, rfl⟩
   rw [← hx] at e1 e2
   have hT := Qa.mk hlt
   clear hx hlt hk
   go_wp2
   go_quiet (fail)
   go_wp2
   go_roundw
   case rel => exact ⟨k + 1, by go_num, hT.out, below_drewN' hb nq⟩
   case measure => have := hT.out; simp [intOf]; omega
  ·obtain rfl : k = l.length := by omega
   go_wp2
   go_ret
   exact ⟨rfl, hb⟩
theorem Qbs (g : Gr) (A : Option Addr) (c : Nat) (M : Option Addr) (m : Nat) (w : World) (h : Uv w g A c M m) :
  Calls Tryz.prog 12 #[grV g A c M m] w fun e w' => ∃ b : Bool, e = .returned (.bool b) ∧ (b = true → g.chs.length ≤ 4 ∧ g.mid.length ≤ 200 ∧ ∀ x ∈ g.chs, x.gr.length ≤ 200 ∧ x.sc.length ≤ 200 ∧ x.qu.length ≤ 400 ∧ x.fi.length ≤ 200) ∧ Below w.heap.size w w' := by
 have hu31 := Tryz.underlying31
 have hu46 := Tryz.underlying46
 obtain ⟨xs, mid⟩ := g
 unfold grV
 have hC := h.chs
 dsimp only at hC ⊢
 have HC := Qa.mk hC
 obtain ⟨w1, hw1⟩ : ∃ w1, w1 = w.alloc (.cells #[.slice A xs.length c, .slice M mid.length m] 31) := ⟨_, rfl⟩
 have hb : Below w.heap.size w w1 := by rw [hw1]; exact (Below.refl _ _).alloc (Nat.le_refl _) _
 have hB1 : w1.heap[w.heap.size]? = some (.cells #[.slice A xs.length c, .slice M mid.length m] 31 (0, 0)) := by rw [hw1]; exact heap_alloc_new _ _
 clear h hC
 by_cases h4 : xs.length ≤ 4
 ·by_cases h5 : mid.length ≤ 200
  ·have t1 : decide (4 < (xs.length : Int)) = false := decide_eq_false (by omega)
   have t2 : decide (200 < (mid.length : Int)) = false := decide_eq_false (by omega)
   have hlI : (xs.length : Int) ≤ 4 := by omega
   have H45 := Qa.mk (And.intro h4 h5)
   clear h4 h5
   go_enter Tryz.func12, Tryz.ntmps12
   go_wp2_with fail
   rw [← hw1]
   clear hw1
   go_loopw [18] (fun i wr => ∃ k : Nat, i = .int .i64 k ∧ k ≤ xs.length ∧ Qa (∀ x ∈ xs.take k, x.gr.length ≤ 200 ∧ x.sc.length ≤ 200 ∧ x.qu.length ≤ 400 ∧ x.fi.length ≤ 200) ∧ Below w.heap.size w wr) (fun i _ => xs.length - (intOf i).toNat)
   case atStart => exact ⟨0, rfl, by omega, ⟨by simp⟩, hb⟩
   case round =>
    obtain ⟨k, rfl, hk, ha, hbr⟩ := hrel
    clear hb
    by_cases hlt : k < xs.length
    ·obtain ⟨ad, A1, c1, A2, c2, A3, c3, A4, c4, rfl, hcell, -, -, -, -⟩ := U2 HC.out hbr hlt
     have hT : xs.take (k + 1) = xs.take k ++ [xs.getD k ch0] := by rw [List.take_succ_eq_append_getElem hlt, List.getD_eq_getElem?_getD, List.getElem?_eq_getElem hlt]; rfl
     obtain ⟨X, hX⟩ : ∃ X, X = xs.getD k ch0 := ⟨_, rfl⟩
     rw [← hX] at hcell hT
     have m0 : wr.cell? (ad.add (k * 5)) = some (.bool X.sh) := hcell 0 _ rfl
     have m1 := hcell 1 _ rfl
     have m2 := hcell 2 _ rfl
     have m3 := hcell 3 _ rfl
     have m4 := hcell 4 _ rfl
     rw [Sa] at m1 m2 m3 m4
     have hkI : (k : Int) < (xs.length : Int) := by omega
     have hbn := Qa.mk (hbr.trans (((Below.refl w.heap.size wr).alloc hbr.size (.cells #[.bool X.sh, .slice A1 X.gr.length c1, .slice A2 X.sc.length c2, .slice A3 X.qu.length c3, .slice A4 X.fi.length c4] 46))))
     have hltT := Qa.mk hlt
     replace hT := Qa.mk hT
     clear hX hcell hlt hk hbr
     by_cases g1 : X.gr.length ≤ 200
     ·have u1 : decide (200 < (X.gr.length : Int)) = false := decide_eq_false (by omega)
      by_cases g2 : X.sc.length ≤ 200
      ·have u2 : decide (200 < (X.sc.length : Int)) = false := decide_eq_false (by omega)
       by_cases g3 : X.qu.length ≤ 400
       ·have u3 : decide (400 < (X.qu.length : Int)) = false := decide_eq_false (by omega)
        by_cases g4 : X.fi.length ≤ 200
        ·have u4 : decide (200 < (X.fi.length : Int)) = false := decide_eq_false (by omega)
         have hn : Qa (∀ x ∈ xs.take (k + 1), x.gr.length ≤ 200 ∧ x.sc.length ≤ 200 ∧ x.qu.length ≤ 400 ∧ x.fi.length ≤ 200) := ⟨fun x hx => by
          rw [hT.out] at hx
          rcases List.mem_append.1 hx with hx | hx
          ·exact ha.out x hx
          ·rw [List.mem_singleton.1 hx]; exact ⟨g1, g2, g3, g4⟩⟩
         clear g1 g2 g3 g4 ha
         go_wp2
         go_roundw
         case rel => exact ⟨k + 1, by go_num, hltT.out, hn, hbn.out⟩
         case measure => have := hltT.out; simp [intOf]; omega
        ·have u4 : decide (200 < (X.fi.length : Int)) = true := decide_eq_true (by omega)
         clear g1 g2 g3 g4
         go_wp2
         go_ret
         exact ⟨false, rfl, (fun e => by cases e), hbn.out⟩
       ·have u3 : decide (400 < (X.qu.length : Int)) = true := decide_eq_true (by omega)
        clear g1 g2 g3
        go_wp2
        go_ret
        exact ⟨false, rfl, (fun e => by cases e), hbn.out⟩
      ·have u2 : decide (200 < (X.sc.length : Int)) = true := decide_eq_true (by omega)
       clear g1 g2
       go_wp2
       go_ret
       exact ⟨false, rfl, (fun e => by cases e), hbn.out⟩
     ·have u1 : decide (200 < (X.gr.length : Int)) = true := decide_eq_true (by omega)
      clear g1
      go_wp2
      go_ret
      exact ⟨false, rfl, (fun e => by cases e), hbn.out⟩
    ·obtain rfl : k = xs.length := by omega
     rw [List.take_length] at ha
     clear hlt hk
     go_wp2
     go_ret
     exact ⟨true, rfl, fun _ => ⟨H45.out.1, H45.out.2, ha.out⟩, hbr⟩
  ·have t1 : decide (4 < (xs.length : Int)) = false := decide_eq_false (by omega)
   have t2 : decide (200 < (mid.length : Int)) = true := decide_eq_true (by omega)
   clear h4 h5
   go_enter Tryz.func12, Tryz.ntmps12
   go_wp2_with fail
   rw [← hw1]
   go_ret
   exact ⟨false, rfl, (fun e => by cases e), hb⟩
 ·have t1 : decide (4 < (xs.length : Int)) = true := decide_eq_true (by omega)
  clear h4
  go_enter Tryz.func12, Tryz.ntmps12
  go_wp2_with fail
  rw [← hw1]
  go_ret
  exact ⟨false, rfl, (fun e => by cases e), hb⟩
end Gn

namespace Gn
attribute [local go_sem] Qj Qi Ql Qk Qg Qf
open Q15
open Q21
open Bk
open Q16 (KL isW Za Xx)
theorem size4 {w : World} (hB : Xe w) : 4 ≤ w.heap.size := by
 have := World.block_lt_of_cell? _ _ (hB.tab 0 (by decide))
 exact this
end Gn

end Go.Proofs.YtnflnicdjioflaaGreatDoor
