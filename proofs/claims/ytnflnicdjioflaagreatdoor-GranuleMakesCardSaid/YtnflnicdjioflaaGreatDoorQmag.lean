/- A part of the proof. -/
import Derived.Test.YtnflnicdjioflaaGreatDoorQmad
set_option linter.unusedVariables false
set_option linter.unusedSimpArgs false
namespace Go.Proofs.YtnflnicdjioflaaGreatDoor
open Go.RowKit Go.Proofs.YtnflnicdjioflaaGreatDoorW.PrintWords Go.Proofs.YtnflnicdjioflaaGreatDoorW.PrintLast Go.Proofs.YtnflnicdjioflaaGreatDoorW.PrintMore
namespace Bts
attribute [local go_sem] max2_int min2_int max_two min_two max_three min_three
open Q15 (cnx bnx)
structure Kp (p : Nat) (q : Option Nat) (w w' : World) : Prop where
 os : w'.os = w.os
 tape : w'.tape = w.tape
 output : w'.output = w.output
 size : w.heap.size ≤ w'.heap.size
 block : ∀ k, k < w.heap.size → k ≠ p → some k ≠ q → w'.heap[k]? = w.heap[k]?
theorem Kp.refl (p : Nat) (q : Option Nat) (w : World) : Kp p q w w := ⟨rfl, rfl, rfl, Nat.le_refl _, fun _ _ _ _ => rfl⟩
theorem Kp.trans {p : Nat} {q q1 : Option Nat} {w w1 w2 : World} (h : Kp p q w w1) (h2 : Kp p q1 w1 w2) (hq : q1 = q ∨ ∃ g, q1 = some g ∧ w.heap.size ≤ g) : Kp p q w w2 :=
 ⟨h2.os.trans h.os, h2.tape.trans h.tape, h2.output.trans h.output, Nat.le_trans h.size h2.size, fun k hk hp hne => by
  refine (h2.block k (Nat.lt_of_lt_of_le hk h.size) hp ?_).trans (h.block k hk hp hne)
  rcases hq with e | ⟨g, e, hg⟩
  ·rw [e]; exact hne
  ·rw [e]
   intro h
   have := Option.some.inj h
   omega⟩
theorem Kp.of_below {w w1 : World} (h : Below w.heap.size w w1) (p : Nat) (q : Option Nat) : Kp p q w w1 := ⟨h.os, h.tape, h.output, h.size, fun k hk _ _ => h.block k hk⟩
theorem Kp.of_grown {w w1 : World} {q : Option Nat} (h : w.grownBy w1 q) (p : Nat) : Kp p q w w1 := ⟨h.os, h.tape, h.output, h.size, fun k hk _ hne => h.block k hk hne⟩
theorem Kp.then_below {p : Nat} {q : Option Nat} {w w1 w2 : World} (h : Kp p q w w1) (h2 : Below w.heap.size w1 w2) : Kp p q w w2 :=
 ⟨h2.os.trans h.os, h2.tape.trans h.tape, h2.output.trans h.output, Nat.le_trans h.size h2.size, fun k hk hp hne => (h2.block k hk).trans (h.block k hk hp hne)⟩
theorem Kp.drew {p : Nat} {q : Option Nat} {w w1 : World} (h : Kp p q w w1) : Kp p q w w1.drew := ⟨h.os, h.tape, h.output, h.size, h.block⟩
theorem Kp.setP {p : Nat} {q : Option Nat} {w w1 : World} (h : Kp p q w w1) (j : Nat) (u : Value) : Kp p q w (w1.setCell ⟨p, j, none⟩ u) :=
 ⟨h.os, h.tape, h.output, by simpa [World.setCell] using h.size, fun k hk hp hne => (Below.heap_setCell w1 ⟨p, j, none⟩ u k hp).trans (h.block k hk hp hne)⟩
theorem Kp.setQ {p g : Nat} {w w1 : World} {q : Option Nat} (h : Kp p q w w1) (hg : q = some g ∨ w.heap.size ≤ g) (j : Nat) (u : Value) : Kp p q w (w1.setCell ⟨g, j, none⟩ u) :=
 ⟨h.os, h.tape, h.output, by simpa [World.setCell] using h.size, fun k hk hp hne => (Below.heap_setCell w1 ⟨g, j, none⟩ u k (by
  intro e
  rcases hg with e2 | e2
  ·exact hne (by rw [e2, e])
  ·simp at e; omega)).trans (h.block k hk hp hne)⟩
theorem Kp.below {p : Nat} {q : Option Nat} {w w1 : World} {B : Nat} (h : Kp p q w w1) (hp : B ≤ p) (hq : ∀ k, q = some k → B ≤ k) (hB : B ≤ w.heap.size) : Below B w w1 :=
 ⟨h.os, h.tape, h.output, h.size, fun k hk => h.block k (by omega) (by omega) (fun e => by have := hq k e.symm; omega)⟩
theorem Kp.blk {p : Nat} {q : Option Nat} {w w1 : World} (h : Kp p q w w1) {g : Nat} {o : Obj} (hg : w.heap[g]? = some o) (hp : g ≠ p) (hq : some g ≠ q) : w1.heap[g]? = some o := (h.block g (blk_lt hg) hp hq).trans hg
theorem Kp.cell {p : Nat} {q : Option Nat} {w w1 : World} (h : Kp p q w w1) {a : Addr} {v : Value} (hc : w.cell? a = some v) (hp : a.block ≠ p) (hq : some a.block ≠ q) : w1.cell? a = some v := by
 have := h.block a.block (World.block_lt_of_cell? w a hc) hp hq
 simpa [World.cell?, this] using hc
theorem R_before {α β : Type} {d : Kd α} {d' : Kd β} {e e' b b' : Nat} {ok ok' : Nat → Prop} {w w' : World} {v v' : Value} {xs : List α} {ys : List β} (h : d.R e w b ok v xs) (h' : d'.R e' w' b' ok' v' ys) (hs : w.heap.size ≤ b') : d.R e w b (fun k => ok k ∧ some k ≠ v'.ownBlock) v xs :=
 Kd.R_mono (Kd.R_bound h) (fun k hk => ⟨hk.1, fun he => by have := (Kd.R_bound h').1 k he.symm; have := hk.2.2.1; omega⟩)
theorem R_behind {α β : Type} {d : Kd α} {d' : Kd β} {e e' b b' : Nat} {ok ok' : Nat → Prop} {w w' : World} {v v' : Value} {xs : List α} {ys : List β} (h : d.R e w b ok v xs) (h' : d'.R e' w' b' ok' v' ys) (hs : w'.heap.size ≤ b) : d.R e w b (fun k => ok k ∧ some k ≠ v'.ownBlock) v xs :=
 Kd.R_mono (Kd.R_bound h) (fun k hk => ⟨hk.1, fun he => by have := (Kd.R_bound h').1 k he.symm; have := hk.2.1; omega⟩)
theorem R_based {α : Type} {d : Kd α} {e b B : Nat} {ok : Nat → Prop} {w : World} {v : Value} {xs : List α} (h : d.R e w b ok v xs) (hB : B ≤ b) : d.R e w B (fun k => b ≤ k) v xs :=
 Kd.R_lower (Kd.R_mono (Kd.R_bound h) (fun k hk => hk.2.1)) hB
theorem R_some {α : Type} {d : Kd α} {e b : Nat} {ok : Nat → Prop} {w : World} {v : Value} {xs : List α} (h : d.R e w b ok v xs) (hn : 0 < xs.length) : ∃ g c, v = .slice (some ⟨g, 0, none⟩) xs.length c := by
 obtain ⟨A, c, rfl, _, hC⟩ := Kd.R_reads h
 obtain ⟨ad, rfl, _⟩ := hC.2.2 hn
 obtain ⟨_, inner, ho, _⟩ := h
 rcases ho.2 with ⟨hv, _⟩ | ⟨g, cap', cur, hv, _⟩
 ·cases hv
 ·cases hv
  exact ⟨g, c, rfl⟩
theorem R_cap {e base : Nat} {ok : Nat → Prop} {w : World} {A : Option Addr} {n p : Nat} {xs : List Int} (h : (Kd.int .i64).R e w base ok (.slice A n p) xs) : p ≤ 9223372036854775807 := by
 have ho := Kd.own_of_R (enc := Value.int .i64) (h1 := fun _ => rfl) h
 rcases ho.2 with ⟨e1, _⟩ | ⟨g, cap, cur, e1, _, _, _, hcap, _⟩
 ·injection e1 with _ _ e1
  omega
 ·injection e1 with _ _ e1
  unfold maxLen at hcap
  omega
end Bts

namespace Bts
attribute [local go_sem] max2_int min2_int max_two min_two max_three min_three
open Q15 (cnx bnx)
structure Row where
 e : Nat
 sz : Nat
 v : Value
 n : Nat
 cs : List Value
structure Blk where
 g : Nat
 cs : Array Value
 t : Nat
structure Rws (wr w : World) (L : List Row) (G : List Blk) : Prop where
 below : Below wr.heap.size wr w
 row : ∀ r ∈ L, w.ownsRow wr.heap.size r.e r.sz r.v r.n r.cs
 pair : L.Pairwise (fun a b => a.v.ownBlock = none ∨ a.v.ownBlock ≠ b.v.ownBlock)
 blk : ∀ b ∈ G, w.heap[b.g]? = some (.cells b.cs b.t (0, 0)) ∧ wr.heap.size ≤ b.g
 far : ∀ r ∈ L, ∀ b ∈ G, r.v.ownBlock ≠ some b.g
 gs : G.Pairwise (fun a b => a.g ≠ b.g)
variable {wr w w1 : World} {L L1 L2 : List Row} {G G1 G2 : List Blk}
theorem Rws.start (w : World) : Rws w w [] [] := ⟨Below.refl _ _, by simp, .nil, by simp, by simp, .nil⟩
theorem Rws.step (h : Rws wr w L G) (hb : Below w.heap.size w w1) : Rws wr w1 L G :=
 ⟨bnx h.below hb, fun r hr => pw_own_below (h.row r hr) hb, h.pair, fun b hb' => ⟨blk_below (h.blk b hb').1 hb, (h.blk b hb').2⟩, h.far, h.gs⟩
theorem Rws.drew (h : Rws wr w L G) : Rws wr w.drew L G := h.step (Below.refl _ _).drew
theorem Rws.call (h : Rws wr w L G) (hb : Below w.heap.size w w1) {r : Row} {b : Nat} (ho : w1.ownsRow b r.e r.sz r.v r.n r.cs) (hbs : w.heap.size ≤ b) : Rws wr w1 (L ++ [r]) G := by
 have h1 := h.step hb
 refine ⟨h1.below, fun q hq => ?_, ?_, h1.blk, fun q hq g hg => ?_, h1.gs⟩
 ·rcases List.mem_append.1 hq with hq | hq
  ·exact h1.row q hq
  ·rw [List.mem_singleton.1 hq]
   exact Kd.own_raise ho (fun k hk => by have := own_base ho k hk; have := h.below.size; omega)
 ·refine List.pairwise_append.2 ⟨h1.pair, List.pairwise_singleton _ _, fun a ha c hc => ?_⟩
  rw [List.mem_singleton.1 hc]
  cases hav : a.v.ownBlock with
  | none => exact .inl rfl
  | some k =>
   refine .inr fun e => ?_
   have := own_lt (h.row a ha) k hav
   have := own_base ho k e.symm
   omega
 ·rcases List.mem_append.1 hq with hq | hq
  ·exact h1.far q hq g hg
  ·rw [List.mem_singleton.1 hq]
   intro e
   have := blk_lt (h.blk g hg).1
   have := own_base ho g.g e
   omega
theorem lit_own (w : World) (e sz : Nat) : (w.alloc (.cells #[] e)).ownsRow w.heap.size e sz (.slice (some ⟨w.heap.size, 0, none⟩) 0 0) 0 [] :=
 ⟨by simp, .inr ⟨w.heap.size, 0, #[], rfl, Nat.le_refl _, heap_alloc_new _ _, Nat.le_refl _, by unfold maxLen; omega, by simp, by simp⟩⟩
theorem Rws.lit (h : Rws wr w L G) (e sz : Nat) : Rws wr (w.alloc (.cells #[] e)) (L ++ [⟨e, sz, .slice (some ⟨w.heap.size, 0, none⟩) 0 0, 0, []⟩]) G :=
 h.call ((Below.refl _ _).alloc (Nat.le_refl _) _) (r := ⟨e, sz, .slice (some ⟨w.heap.size, 0, none⟩) 0 0, 0, []⟩) (lit_own w e sz) (Nat.le_refl _)
theorem Rws.alloc (h : Rws wr w L G) (cs : Array Value) (t : Nat) : Rws wr (w.alloc (.cells cs t)) L (G ++ [⟨w.heap.size, cs, t⟩]) := by
 have hb : Below w.heap.size w (w.alloc (.cells cs t)) := (Below.refl _ _).alloc (Nat.le_refl _) _
 have h1 := h.step hb
 refine ⟨h1.below, h1.row, h1.pair, fun b hb => ?_, fun r hr b hb => ?_, ?_⟩
 ·rcases List.mem_append.1 hb with hb | hb
  ·exact h1.blk b hb
  ·rw [List.mem_singleton.1 hb]
   exact ⟨heap_alloc_new _ _, h.below.size⟩
 ·rcases List.mem_append.1 hb with hb | hb
  ·exact h1.far r hr b hb
  ·rw [List.mem_singleton.1 hb]
   intro e
   have : w.heap.size < w.heap.size := own_lt (h.row r hr) _ e
   omega
 ·refine List.pairwise_append.2 ⟨h1.gs, List.pairwise_singleton _ _, fun a ha c hc => ?_⟩
  rw [List.mem_singleton.1 hc]
  have := blk_lt (h.blk a ha).1
  show a.g ≠ w.heap.size
  omega
theorem Rws.app {r : Row} (h : Rws wr w (L1 ++ r :: L2) G) {r1 : Row} (ho : w1.ownsRow wr.heap.size r1.e r1.sz r1.v r1.n r1.cs) (hb : Below wr.heap.size wr w1) (hg : w.grownBy w1 r.v.ownBlock)
  (hat : r1.v.ownBlock = r.v.ownBlock ∨ ∃ b, r1.v.ownBlock = some b ∧ w.heap.size ≤ b) : Rws wr w1 (L1 ++ r1 :: L2) G := by
 have hpw := List.pairwise_append.1 h.pair
 have hpc := List.pairwise_cons.1 hpw.2.1
 have key : ∀ q : Row, (q.v.ownBlock = none ∨ q.v.ownBlock ≠ r.v.ownBlock) → w.ownsRow wr.heap.size q.e q.sz q.v q.n q.cs → (q.v.ownBlock = none ∨ q.v.ownBlock ≠ r1.v.ownBlock) ∧ w1.ownsRow wr.heap.size q.e q.sz q.v q.n q.cs := fun q hq ho => by
  refine ⟨?_, own_other ho hg hq⟩
  rcases hat with e | ⟨b, e, hle⟩
  ·rw [e]; exact hq
  ·cases hqv : q.v.ownBlock with
   | none => exact .inl rfl
   | some k =>
    refine .inr fun e2 => ?_
    have := own_lt ho k hqv
    rw [e] at e2
    cases e2
    omega
 have hq : ∀ q ∈ L1 ++ L2, q.v.ownBlock = none ∨ q.v.ownBlock ≠ r.v.ownBlock := fun q hq => by
  rcases List.mem_append.1 hq with hq | hq
  ·exact hpw.2.2 q hq r (by simp)
  ·rcases hpc.1 q hq with e | e
   ·cases hqv : q.v.ownBlock with
    | none => exact .inl rfl
    | some k => rw [e]; exact .inr (by simp)
   ·exact .inr (fun e2 => e e2.symm)
 refine ⟨hb, fun q hq' => ?_, ?_, fun b hb' => ?_, fun q hq' b hb' => ?_, h.gs⟩
 ·rcases List.mem_append.1 hq' with h1 | h1
  ·exact (key q (hq q (by simp [h1])) (h.row q (by simp [h1]))).2
  ·rcases List.mem_cons.1 h1 with rfl | h1
   ·exact ho
   ·exact (key q (hq q (by simp [h1])) (h.row q (by simp [h1]))).2
 ·refine List.pairwise_append.2 ⟨hpw.1, List.pairwise_cons.2 ⟨fun q h1 => ?_, hpc.2⟩, fun a ha c hc => ?_⟩
  ·have := (key q (hq q (by simp [h1])) (h.row q (by simp [h1]))).1
   cases hrv : r1.v.ownBlock with
   | none => exact .inl rfl
   | some k =>
    refine .inr fun e => ?_
    rcases this with e2 | e2
    ·rw [e2] at e; cases e
    ·exact e2 (by rw [hrv]; exact e.symm)
  ·rcases List.mem_cons.1 hc with rfl | hc
   ·exact (key a (hq a (by simp [ha])) (h.row a (by simp [ha]))).1
   ·exact hpw.2.2 a ha c (by simp [hc])
 ·have h1 := h.blk b hb'
  refine ⟨(hg.block b.g (blk_lt h1.1) (fun e => h.far r (by simp) b hb' e.symm)).trans h1.1, h1.2⟩
 ·have hfar : ∀ q ∈ L1 ++ r :: L2, q.v.ownBlock ≠ some b.g := fun q hq => h.far q hq b hb'
  rcases List.mem_append.1 hq' with h1 | h1
  ·exact hfar q (by simp [h1])
  ·rcases List.mem_cons.1 h1 with rfl | h1
   ·rcases hat with e | ⟨k, e, hle⟩
    ·rw [e]; exact hfar r (by simp)
    ·rw [e]
     intro e2
     cases e2
     have := blk_lt (h.blk b hb').1
     omega
   ·exact hfar q (by simp [h1])
theorem Rws.set {b : Blk} (h : Rws wr w L (G1 ++ b :: G2)) (i : Nat) (u : Value) : Rws wr (w.setCell ⟨b.g, i, none⟩ u) L (G1 ++ ⟨b.g, b.cs.setIfInBounds i u, b.t⟩ :: G2) := by
 have hpw := List.pairwise_append.1 h.gs
 have hpc := List.pairwise_cons.1 hpw.2.1
 have hb := h.blk b (by simp)
 refine ⟨h.below.setCell (p := ⟨b.g, i, none⟩) hb.2 u, fun r hr => own_setCell (h.row r hr) (fun e => h.far r hr b (by simp) e.symm) u, h.pair, fun c hc => ?_, fun r hr c hc => ?_, ?_⟩
 ·have hne : ∀ c ∈ G1 ++ G2, c.g ≠ b.g := fun c hc => by
   rcases List.mem_append.1 hc with hc | hc
   ·exact hpw.2.2 c hc b (by simp)
   ·exact fun e => hpc.1 c hc e.symm
  rcases List.mem_append.1 hc with h1 | h1
  ·exact ⟨blk_far (h.blk c (by simp [h1])).1 (p := ⟨b.g, i, none⟩) (hne c (by simp [h1])) u, (h.blk c (by simp [h1])).2⟩
  ·rcases List.mem_cons.1 h1 with rfl | h1
   ·exact ⟨blk_set hb.1 i u, hb.2⟩
   ·exact ⟨blk_far (h.blk c (by simp [h1])).1 (p := ⟨b.g, i, none⟩) (hne c (by simp [h1])) u, (h.blk c (by simp [h1])).2⟩
 ·rcases List.mem_append.1 hc with h1 | h1
  ·exact h.far r hr c (by simp [h1])
  ·rcases List.mem_cons.1 h1 with rfl | h1
   ·exact h.far r hr b (by simp)
   ·exact h.far r hr c (by simp [h1])
 ·refine List.pairwise_append.2 ⟨hpw.1, List.pairwise_cons.2 ⟨hpc.1, hpc.2⟩, fun a ha c hc => ?_⟩
  rcases List.mem_cons.1 hc with rfl | hc
  ·exact hpw.2.2 a ha b (by simp)
  ·exact hpw.2.2 a ha c (by simp [hc])
theorem Rws.perm {L' : List Row} {G' : List Blk} (h : Rws wr w L G) (p : L.Perm L') (p2 : G.Perm G') : Rws wr w L' G' :=
 ⟨h.below, fun r hr => h.row r (p.mem_iff.2 hr), (p.pairwise_iff (fun {a b} hab => by
   rcases hab with e | e
   ·cases hb : b.v.ownBlock with
    | none => exact .inl rfl
    | some k => rw [e]; exact .inr (by simp)
   ·exact .inr (fun e2 => e e2.symm))).1 h.pair, fun b hb => h.blk b (p2.mem_iff.2 hb), fun r hr b hb => h.far r (p.mem_iff.2 hr) b (p2.mem_iff.2 hb), (p2.pairwise_iff (fun {a b} hab e => hab e.symm)).1 h.gs⟩
theorem Rws.into {r : Row} (h : Rws wr w (L1 ++ L2 ++ [r]) G) : Rws wr w (L1 ++ r :: L2) G :=
 h.perm (by
  rw [List.append_assoc]
  exact List.Perm.append_left L1 (List.perm_append_singleton r L2)) (List.Perm.refl _)
theorem Rws.nil (h : Rws wr w L G) (e sz : Nat) : Rws wr w (L ++ [⟨e, sz, .slice none 0 0, 0, []⟩]) G :=
 h.call (Below.refl _ _) (r := ⟨e, sz, .slice none 0 0, 0, []⟩) (own_nil w w.heap.size e sz) (Nat.le_refl _)
theorem Rws.stored5 {g t : Nat} {a0 a1 a2 a3 a4 : Value} (h : Rws wr w L [⟨g, #[a0, a1, a2, a3, a4], t⟩]) (b0 b1 b2 b3 b4 : Value) :
  Rws wr (((((w.setCell ⟨g, 0, none⟩ b0).setCell ⟨g, 1, none⟩ b1).setCell ⟨g, 2, none⟩ b2).setCell ⟨g, 3, none⟩ b3).setCell ⟨g, 4, none⟩ b4) L [⟨g, #[b0, b1, b2, b3, b4], t⟩] :=
 ((((h.set (G1 := []) (G2 := []) 0 b0).set (G1 := []) (G2 := []) 1 b1).set (G1 := []) (G2 := []) 2 b2).set (G1 := []) (G2 := []) 3 b3).set (G1 := []) (G2 := []) 4 b4
theorem leaf_ {P : Program} {md : Region.Mode} {ops : Array Oper} {Q : Exit → Act → World → Prop} {S : World → Prop} {ds : List Nat} {n : Nat} {l l' : Array Bool} {a a' : Act} {w : World} (hl : l = l') (ha : a = a') (h : Go.Proofs.YtnflnicdjioflaaGreatDoorW.PrintLast.wpAnyLast P md ops Q S ds n l' a' w) : Go.Proofs.YtnflnicdjioflaaGreatDoorW.PrintLast.wpAnyLast P md ops Q S ds n l a w := by
 subst hl
 subst ha
 exact h
abbrev rI (e : Nat) (v : Value) (xs : List Int) : Row := ⟨e, 1, v, xs.length, encs (Value.int .i64) xs⟩
theorem R_of_row {e b : Nat} {v : Value} {xs : List Int} (h : w.ownsRow b e 1 v xs.length (encs (Value.int .i64) xs)) : (Kd.int .i64).R e w b (fun k => some k = v.ownBlock) v xs := Kd.R_of_own h (fun k e => e.symm)
end Bts

end Go.Proofs.YtnflnicdjioflaaGreatDoor
