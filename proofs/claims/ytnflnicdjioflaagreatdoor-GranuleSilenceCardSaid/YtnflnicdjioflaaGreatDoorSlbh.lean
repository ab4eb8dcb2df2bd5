/- A part of the proof. -/
import Derived.Test.YtnflnicdjioflaaGreatDoorSlbg
set_option linter.unusedVariables false
set_option linter.unusedSimpArgs false
set_option maxRecDepth 100000
set_option maxHeartbeats 8000000
namespace Go.Proofs.YtnflnicdjioflaaGreatDoor
open Go.RowKit Go.Proofs.YtnflnicdjioflaaGreatDoorW.PrintWords Go.Proofs.YtnflnicdjioflaaGreatDoorW.PrintLast Go.Proofs.YtnflnicdjioflaaGreatDoorW.PrintMore
namespace Sec
attribute [local go_sem] Qj Qi Ql Qk Qg Qf
open Q15
open Bts
open Bk
structure Tj (ws l : List Int) (s : List (Int × Int)) : Prop where
 el : ∀ p ∈ s, 0 ≤ p.1 ∧ p.1 < 8 ∧ 1 ≤ p.2 ∧ p.2 ≤ 128
 adj : AdjS s
 len : (Qo s).length = ws.length
 fits : ∀ j, j < ws.length → 0 ≤ Zz ws l (rd (Qo s) j).toNat j
def Vr (ws l : List Int) (s : List (Int × Int)) : Int := Zl s + cbk (Zz ws l) 0 (Qo s)
theorem Tj.sl {ws l : List Int} {s : List (Int × Int)} (h : Tj ws l s) : s.length ≤ ws.length := by
 rw [← h.len]
 have key : ∀ s : List (Int × Int), (∀ p ∈ s, 1 ≤ p.2) → s.length ≤ (Qo s).length := by
  intro s
  induction s with
  | nil => intro _; simp
  | cons p s ih =>
   intro h
   have h1 := h p (by simp)
   have h2 := ih (fun q hq => h q (by simp [hq]))
   rw [Jh, List.length_append, List.length_replicate, List.length_cons]
   omega
 exact key s (fun p hp => (h.el p hp).2.2.1)
theorem Cq (A B : Option Addr) (c1 c2 : Nat) (ws l : List Int) (As : Option Addr) (cs : Nat) (s : List (Int × Int)) (w : World) (hL : Xe w) (hr : (Kd.int .i64).C w A ws.length ws) (hr2 : (Kd.int .i64).C w B l.length l) (hcap : l.length ≤ c2) (hok : Ok ws l) (h0 : 0 < ws.length)
  (hs : Cells w As (Zr s)) (hR : Tj ws l s) :
  Calls Tryz.prog 147 #[.slice A ws.length c1, .slice B l.length c2, .slice As s.length cs] w fun e w' => e = .returned (.tuple #[.int .i64 (Vr ws l s), .int .i64 0]) ∧ Below w.heap.size w w' := by
 have hb := Below.refl w.heap.size w
 have HC := Qa.mk (fun (W : World) (hb : Below w.heap.size w W) => U9 A B c1 c2 ws l W (hL.below hb) (Kd.Qh hr hb) (Kd.Qh hr2 hb) hok)
 have HK := Qa.mk (fun (W : World) (hb : Below w.heap.size w W) => A7 A B c1 c2 ws l As cs s W (hL.below hb) (Kd.Qh hr hb) (Kd.Qh hr2 hb) hcap hok h0 (hs.below hb) hR.el (by have := hR.sl; have := hok.len; omega) hR.adj hR.len hR.fits)
 obtain ⟨T, hT⟩ : ∃ T, T = Vr ws l s := ⟨_, rfl⟩
 have hT2 : Zl s + cbk (Zz ws l) 0 (Qo s) = T := by rw [hT]; rfl
 rw [hT2] at HK
 rw [← hT]
 clear hL hr hr2 hcap hok h0 hs hR hT hT2
 go_enter Tryz.func147, Tryz.ntmps147
 go_wp2_with (first | (go_at_call 140; refine ((HC.out _ hb)).mono ?_; rintro e w' ⟨rfl, hbn⟩; replace hb := bnx hb hbn; clear hbn) | (go_at_call 191; refine ((HK.out _ hb)).mono ?_; rintro e w' ⟨rfl, hbn⟩; replace hb := bnx hb hbn; clear hbn))
 go_ret2
 exact ⟨rfl, hb⟩
theorem Gw {ws l : List Int} (hok : Ok ws l) : Tj ws l ((wL ws l ws.length).getD 0 w0).secs ∧ Vr ws l ((wL ws l ws.length).getD 0 w0).secs = ((wL ws l ws.length).getD 0 w0).cost := by
 have h := wL_ok hok ws.length (Nat.le_refl _)
 rw [Nat.sub_self] at h
 refine ⟨⟨h.el, h.adj, by rw [← h.bk]; have := h.len; omega, fun j hj => ?_⟩, ?_⟩
 ·rw [← h.bk]
  have := h.fits j (by have := h.len; omega)
  rwa [Nat.zero_add] at this
 ·unfold Vr
  rw [← h.bk, h.cost]
end Sec

namespace Sec
attribute [local go_sem] Qj Qi Ql Qk Qg Qf
open Q15
open Q21 (Qb Qe)
open Bts
open Bk
theorem Wr.other {w w1 : World} {base p g : Nat} {q : Option Nat} {l : List Int} (h : Wr w base p q l) (hg : w.grownBy w1 (some g)) (hp : g ≠ p) (hq : some g ≠ q) : Wr w1 base p q l := by
 obtain ⟨v, hB, hR, e, rest⟩ := h
 refine ⟨v, ?_, ?_, e, rest⟩
 ·exact (hg.block p (Qq hB) (fun e => hp (Option.some.inj e).symm)).trans hB
 ·have h1 := Kd.Vg (enc := Value.int .u8) (h1 := fun _ => rfl) (ok := fun k => some k = v.ownBlock) (Kd.Zk (enc := Value.int .u8) (h1 := fun _ => rfl) hR) (fun k hk => hk.symm)
  have h2 := Kd.Mk h1 (fun k hk hlt => hg.block k hlt (fun e2 => hq (by rw [e, ← hk]; exact e2.symm)))
  exact Kd.X9 h2 (fun _ _ => trivial)
theorem Re (w : World) (a : Addr) (u : Value) : w.grownBy (w.setCell a u) (some a.block) :=
 ⟨rfl, rfl, rfl, by simp [World.setCell], fun k hk hne => Below.heap_setCell w a u k (fun e => hne (by rw [e]))⟩
structure StW (w : World) (base p : Nat) (q : Option Nat) (L : List Int) (n : Int) (G : List Blk) (W : World) : Prop where
 ex : ∃ (bs : List Int) (q1 : Option Nat), (bs.length : Int) = n ∧ Wr W base p q1 (L ++ bs) ∧ (q1 = q ∨ ∃ g, q1 = some g ∧ w.heap.size ≤ g) ∧ Be p q1 W G
 kp : Kp p q w W
 ge : ∀ b ∈ G, w.heap.size ≤ b.g
 gs : G.Pairwise (fun a b => a.g ≠ b.g)
variable {w W W1 : World} {base p : Nat} {q : Option Nat} {L : List Int} {n m : Int} {G G1 G2 : List Blk}
theorem StW.start (hw : Wr w base p q L) : StW w base p q L 0 [] w := ⟨⟨[], q, rfl, by rw [List.append_nil]; exact hw, .inl rfl, fun b hb => by cases hb⟩, Kp.refl _ _ _, fun b hb => (by cases hb), .nil⟩
theorem StW.step (h : StW w base p q L n G W) (hb : Below W.heap.size W W1) : StW w base p q L n G W1 := by
 obtain ⟨⟨bs, q1, h1, h2, h3, h4⟩, h5, h6, h7⟩ := h
 exact ⟨⟨bs, q1, h1, h2.step hb, h3, h4.step hb⟩, h5.Ze (hb.mono h5.size), h6, h7⟩
theorem StW.turn {row : Option Nat} (h : StW w base p q L n G W) (hg : W.grownBy W1 row) (hr : ∀ r, row = some r → w.heap.size ≤ r ∧ ∃ o : Obj, W.heap[r]? = some o ∧ o.isCells = false) : StW w base p q L n G W1 := by
 obtain ⟨⟨bs, q1, h1, h2, h3, h4⟩, h5, h6, h7⟩ := h
 refine ⟨⟨bs, q1, h1, h2.turn hg (fun r e => (hr r e).2), h3, fun b hb => ?_⟩, h5.grown hg (fun r e => (hr r e).1), h6, h7⟩
 obtain ⟨g1, g2, g3⟩ := h4 b hb
 exact ⟨Yl g1 hg (fun r e => (hr r e).2), g2, g3⟩
theorem StW.alloc (h : StW w base p q L n G W) (cs : Array Value) (t : Nat) : StW w base p q L n (G ++ [⟨W.heap.size, cs, t⟩]) (W.alloc (.cells cs t)) := by
 obtain ⟨⟨bs, q1, h1, h2, h3, h4⟩, h5, h6, h7⟩ := h
 have hb : Below W.heap.size W (W.alloc (.cells cs t)) := (Below.refl _ _).alloc (Nat.le_refl _) _
 refine ⟨⟨bs, q1, h1, h2.step hb, h3, fun b hm => ?_⟩, h5.Ze (hb.mono h5.size), fun b hm => ?_, ?_⟩
 ·rcases List.mem_append.1 hm with hm | hm
  ·exact h4.step hb b hm
  ·rw [List.mem_singleton.1 hm]
   refine ⟨heap_alloc_new _ _, ?_, fun e => ?_⟩
   ·have := h2.plt
    show W.heap.size ≠ p
    omega
   ·have := (h2.Du W.heap.size e.symm).2
    omega
 ·rcases List.mem_append.1 hm with hm | hm
  ·exact h6 b hm
  ·rw [List.mem_singleton.1 hm]
   exact h5.size
 ·refine List.pairwise_append.2 ⟨h7, List.pairwise_singleton _ _, fun a ha c hc => ?_⟩
  rw [List.mem_singleton.1 hc]
  have := Qq (h4 a ha).1
  show a.g ≠ W.heap.size
  omega
theorem StW.set {b : Blk} (h : StW w base p q L n (G1 ++ b :: G2) W) (i : Nat) (u : Value) : StW w base p q L n (G1 ++ ⟨b.g, b.cs.setIfInBounds i u, b.t⟩ :: G2) (W.setCell ⟨b.g, i, none⟩ u) := by
 obtain ⟨⟨bs, q1, h1, h2, h3, h4⟩, h5, h6, h7⟩ := h
 obtain ⟨k1, k2, k3⟩ := h4 b (by simp)
 have hpw := List.pairwise_append.1 h7
 have hpc := List.pairwise_cons.1 hpw.2.1
 refine ⟨⟨bs, q1, h1, Wr.other h2 (Re _ _ _) k2 k3, h3, fun c hc => ?_⟩, h5.setQ (.inr (h6 b (by simp))) i u, fun c hc => ?_, ?_⟩
 ·have hoth : ∀ c ∈ G1 ++ G2, c.g ≠ b.g := fun c hc => by
   rcases List.mem_append.1 hc with hc | hc
   ·exact hpw.2.2 c hc b (by simp)
   ·exact fun e => hpc.1 c hc e.symm
  have hfar : ∀ c ∈ G1 ++ G2, (W.setCell ⟨b.g, i, none⟩ u).heap[c.g]? = some (.cells c.cs c.t (0, 0)) ∧ c.g ≠ p ∧ some c.g ≠ q1 := fun c hc => by
   obtain ⟨j1, j2, j3⟩ := h4 c (by rcases List.mem_append.1 hc with h | h <;> simp [h])
   exact ⟨Jj j1 (p := ⟨b.g, i, none⟩) (hoth c hc) u, j2, j3⟩
  rcases List.mem_append.1 hc with hc | hc
  ·exact hfar c (by simp [hc])
  ·rcases List.mem_cons.1 hc with rfl | hc
   ·exact ⟨Q5 k1 i u, k2, k3⟩
   ·exact hfar c (by simp [hc])
 ·rcases List.mem_append.1 hc with hc | hc
  ·exact h6 c (by simp [hc])
  ·rcases List.mem_cons.1 hc with rfl | hc
   ·exact h6 b (by simp)
   ·exact h6 c (by simp [hc])
 ·refine List.pairwise_append.2 ⟨hpw.1, List.pairwise_cons.2 ⟨hpc.1, hpc.2⟩, fun a ha c hc => ?_⟩
  rcases List.mem_cons.1 hc with rfl | hc
  ·exact hpw.2.2 a ha b (by simp)
  ·exact hpw.2.2 a ha c (by simp [hc])
theorem StW.drop (h : StW w base p q L n (G1 ++ G2) W) : StW w base p q L n G1 W := by
 obtain ⟨⟨bs, q1, h1, h2, h3, h4⟩, h5, h6, h7⟩ := h
 exact ⟨⟨bs, q1, h1, h2, h3, fun b hb => h4 b (by simp [hb])⟩, h5, fun b hb => h6 b (by simp [hb]), (List.pairwise_append.1 h7).1⟩
theorem StW.blk (h : StW w base p q L n G W) {b : Blk} (hb : b ∈ G) : W.heap[b.g]? = some (.cells b.cs b.t (0, 0)) := by
 obtain ⟨⟨bs, q1, h1, h2, h3, h4⟩, _⟩ := h
 exact (h4 b hb).1
theorem StW.wrote {q1 : Option Nat} {bs more : List Int} (h1 : (bs.length : Int) = n) (h3 : q1 = q ∨ ∃ g, q1 = some g ∧ w.heap.size ≤ g) (h4 : Be p q1 W G) (h5 : Kp p q w W) (h6 : ∀ b ∈ G, w.heap.size ≤ b.g) (h7 : G.Pairwise (fun a b => a.g ≠ b.g))
  (hP : WrP base p q1 (L ++ bs ++ more) W W1) (hm : (more.length : Int) = m) : StW w base p q L (n + m) G W1 := by
 obtain ⟨q2, k1, k2, k3⟩ := hP
 refine ⟨⟨bs ++ more, q2, by rw [List.length_append, ← h1, ← hm]; push_cast; rfl, by rw [← List.append_assoc]; exact k1, ?_, h4.kp k3 k2⟩, h5.trans k3 h3, h6, h7⟩
 rcases k2 with e | ⟨g, e, hg⟩
 ·rw [e]; exact h3
 ·exact .inr ⟨g, e, Nat.le_trans h5.size hg⟩
theorem StW.far (h : StW w base p q L n G W) {A : Option Addr} {k : Nat} {xs : List Int} (hA : Xw p q w A k xs) : ∃ (bs : List Int) (q1 : Option Nat), (bs.length : Int) = n ∧ Wr W base p q1 (L ++ bs) ∧ (q1 = q ∨ ∃ g, q1 = some g ∧ w.heap.size ≤ g) ∧ Be p q1 W G ∧ Xw p q1 W A k xs := by
 obtain ⟨⟨bs, q1, h1, h2, h3, h4⟩, h5, h6, h7⟩ := h
 exact ⟨bs, q1, h1, h2, h3, h4, hA.kp h5 h3⟩
theorem StW.keeps (h : StW w base p q L n G W) {q1 : Option Nat} {bs : List Int} (hw : Wr W base p q1 bs) {xs : List Int} (hP : WrP base p q1 xs W W1) : KeepsOthers W W1 := by
 obtain ⟨q2, _, _, k3⟩ := hP
 exact Yy k3 hw
theorem StW.keepL {b1 b2 : Blk} {gs : List Nat} {n1 : Int} {G1 : List Blk} (h : StW w base p q L n G W) (h1 : StW w base p q L n1 G1 W1) (m1 : b1 ∈ G) (m2 : b2 ∈ G) (n1' : b1 ∈ G1) (n2 : b2 ∈ G1) (hg : ∀ g ∈ gs, g < w.heap.size ∧ g ≠ p ∧ some g ≠ q) : Qu (b1.g :: b2.g :: gs) W W1 := fun g hm => by
 rcases List.mem_cons.1 hm with rfl | hm
 ·rw [h.blk m1, h1.blk n1']
 ·rcases List.mem_cons.1 hm with rfl | hm
  ·rw [h.blk m2, h1.blk n2]
  ·obtain ⟨a, b, c⟩ := hg g hm
   rw [h1.kp.block g a b c, h.kp.block g a b c]
theorem Cells.far {A : Option Addr} {cs : List Value} (h : Cells w A cs) (hk : Kp p q w W) (hA : ∀ ad, A = some ad → ad.block ≠ p ∧ some ad.block ≠ q) : Cells W A cs := fun hn => by
 obtain ⟨ad, e, hc⟩ := h hn
 obtain ⟨a, b⟩ := hA ad e
 exact ⟨ad, e, fun j u hj => hk.cell (hc j u hj) (by rw [add_block]; exact a) (by rw [add_block]; exact b)⟩
def Dz (o n j : Nat) : Nat := max o (min j (o + n))
theorem cbk_nn {C : Nat → Nat → Int} {b : List Int} (h : ∀ j, j < b.length → 0 ≤ C (rd b j).toNat j) : ∀ j d, j + d ≤ b.length → cbk C 0 (b.take j) ≤ cbk C 0 (b.take (j + d))
 | j, 0, _ => Int.le_refl _
 | j, d + 1, hd => by
  have h1 := cbk_nn h j d (by omega)
  have h2 := h (j + d) (by omega)
  rw [← Nat.add_assoc, Gg _ _ (by omega)]
  omega
theorem Ef {s : List (Int × Int)} (h : ∀ p ∈ s, 1 ≤ p.2 ∧ p.2 ≤ 128) : ∀ j d, j + d ≤ s.length → Zl (s.take j) ≤ Zl (s.take (j + d))
 | j, 0, _ => Int.le_refl _
 | j, d + 1, hd => by
  have h1 := Ef h j d (by omega)
  have h2 := h _ (List.getElem_mem (show j + d < s.length by omega))
  have h3 := Kw (n := (s[j + d]).2.toNat) (by omega) (by omega)
  rw [show (((s[j + d]).2.toNat : Nat) : Int) = (s[j + d]).2 by omega] at h3
  rw [← Nat.add_assoc, D7 _ (by omega)]
  omega
theorem Ir {ws l : List Int} {s : List (Int × Int)} (h : Tj ws l s) {k j : Nat} (hk : k ≤ s.length) (hj : j ≤ ws.length) : Zl (s.take k) + cbk (Zz ws l) 0 ((Qo s).take j) ≤ Vr ws l s := by
 have h1 := Ef (s := s) (fun p hp => by have := h.el p hp; omega) k (s.length - k) (by omega)
 have h2 := cbk_nn (C := Zz ws l) (b := Qo s) (fun j hj => h.fits j (by rw [← h.len]; exact hj)) j (ws.length - j) (by rw [h.len]; omega)
 rw [show k + (s.length - k) = s.length by omega, List.take_length] at h1
 rw [show j + (ws.length - j) = ws.length by omega, show (Qo s).take ws.length = Qo s by rw [← h.len, List.take_length]] at h2
 unfold Vr
 omega
theorem flat_at {s : List (Int × Int)} (h : ∀ p ∈ s, 1 ≤ p.2) {k : Nat} (hk : k < s.length) {j : Nat} (h1 : (Qo (s.take k)).length ≤ j) (h2 : j < (Qo (s.take k)).length + (s[k]).2.toNat) : rd (Qo s) j = (s[k]).1 := by
 have hsplit : s = s.take k ++ s[k] :: s.drop (k + 1) := by rw [← List.drop_eq_getElem_cons hk, List.take_append_drop]
 have e : Qo s = Qo (s.take k) ++ (List.replicate (s[k]).2.toNat (s[k]).1 ++ Qo (s.drop (k + 1))) := (congrArg Qo hsplit).trans (by
  unfold Qo
  rw [List.map_append, List.flatten_append, List.map_cons, List.flatten_cons])
 rw [e]
 unfold rd
 rw [Int.toNat_natCast, List.getD_eq_getElem?_getD, List.getElem?_append_right h1, List.getElem?_append_left (by rw [List.length_replicate]; omega), List.getElem?_replicate, if_pos (by omega)]
 rfl
theorem O1 {w W : World} {b : Nat} (h : Xe w) (hb : Below b w W) (h4 : 4 ≤ b) : Xe W :=
 ⟨fun k hk => by
  obtain ⟨a, b', c⟩ := h.form k hk
  exact ⟨(hb.cell (p := ⟨2, _, none⟩) (by simp; omega)).trans a, (hb.cell (p := ⟨2, _, none⟩) (by simp; omega)).trans b', (hb.cell (p := ⟨2, _, none⟩) (by simp; omega)).trans c⟩, fun k hk => (hb.cell (p := ⟨3, _, none⟩) (by simp; omega)).trans (h.tab k hk)⟩
theorem StW.laid {w W : World} {base p : Nat} {q : Option Nat} {L : List Int} {n : Int} {G : List Blk} (h : StW w base p q L n G W) (hw : Wr w base p q L) (hL : Xe w) (h4 : 4 ≤ base) : Xe W :=
 O1 hL (h.kp.below hw.base (fun k e => (hw.Du k e).1) (by have := hw.base; have := hw.plt; omega)) h4
theorem Qal {k : Nat} {x : List Int} (h : 0 ≤ Q4 k x) : Vx k x = true ∧ Zm k x = Q4 k x := by
 unfold Q4 at h ⊢
 by_cases hf : Vx k x = true
 ·rw [if_pos hf]; exact ⟨hf, rfl⟩
 ·rw [if_neg hf] at h; omega
theorem band_far {p : Nat} {q : Option Nat} {W : World} {bd : Addr} {ws l : List Int} (hok : Ok ws l) {j : Nat} (hj : j < ws.length) (h : Xw p q W (some bd) l.length l) : Xw p q W (some (bd.add (V8 ws j))) (Xh ws l j).length (Xh ws l j) :=
 ⟨Uk hok hj h.1, fun ad e _ => by
  cases e
  rw [add_block]
  exact h.2 bd rfl (by have := Vq hok hj; omega)⟩
end Sec

end Go.Proofs.YtnflnicdjioflaaGreatDoor
