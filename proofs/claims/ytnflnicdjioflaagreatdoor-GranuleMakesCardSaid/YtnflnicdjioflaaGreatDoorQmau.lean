/- A part of the proof. -/
import Derived.Test.YtnflnicdjioflaaGreatDoorQmaq
import Derived.Lib.AppendZeros
import Derived.RangeFuncOwn
import Derived.Laws.Append
set_option linter.unusedVariables false
set_option linter.unusedSimpArgs false
namespace Go.Proofs.YtnflnicdjioflaaGreatDoor
open Go.RowKit Go.Proofs.YtnflnicdjioflaaGreatDoorW.PrintWords Go.Proofs.YtnflnicdjioflaaGreatDoorW.PrintLast Go.Proofs.YtnflnicdjioflaaGreatDoorW.PrintMore
namespace Bts
attribute [local go_sem] max2_int min2_int max_two min_two max_three min_three
open Q15 (cnx bnx)
variable {P : Program} {wr W : World} {L L1 L2 : List Row} {G G2 : List Blk}
theorem new_at (W : World) (news : List Value) (e : Nat) : ∀ j u, news[j]? = some u → (W.alloc (.cells news.toArray e)).cell? ((⟨W.heap.size, 0, none⟩ : Addr).add j) = some u := by
 simpa using World.news_of_block (cs := news.toArray) (t := e) (fr := (0, 0)) (heap_alloc_new W (.cells news.toArray e))
theorem ownsl {W : World} {base e sz n : Nat} {v : Value} {xs : List Value} (h : W.ownsRow base e sz v n xs) : ∃ A c, v = .slice A n c := by
 rcases h.2 with ⟨hv, rfl⟩ | ⟨g, cap, cur, hv, _⟩
 ·exact ⟨_, _, hv⟩
 ·exact ⟨_, _, hv⟩
theorem own_keeps {base e sz n : Nat} {v : Value} {xs : List Value} {W1 : World} (h : W.ownsRow base e sz v n xs) (hg : W.grownBy W1 v.ownBlock) : KeepsOthers W W1 :=
 KeepsOthers.of_grownBy hg (fun j o hj ho => by
  rcases h.2 with ⟨hv, _⟩ | ⟨g, cap, cur, hv, _, hg2, _⟩
  ·rw [hv] at hj; cases hj
  ·rw [hv] at hj
   cases hj
   rw [hg2] at ho
   cases ho
   rfl)
theorem Rws.drop (h : Rws wr W (L1 ++ L2) (G ++ G2)) : Rws wr W L1 G :=
 ⟨h.below, fun r hr => h.row r (by simp [hr]), (List.pairwise_append.1 h.pair).1, fun b hb => h.blk b (by simp [hb]), fun r hr b hb => h.far r (by simp [hr]) b (by simp [hb]), (List.pairwise_append.1 h.gs).1⟩
theorem app_run (t ty e : TypeId) (z : Value) (sz bytes : Nat) (ht : P.underlying t = some (.slice e)) (hinfo : (P.info? e).map (fun i => (i.zero, i.size, i.bytes)) = some (some z, sz, bytes)) (hz : z.cells.size = sz) (hs0 : 0 < sz) (hb0 : 0 < bytes)
  (v : Value) (n : Nat) (xs : List Value) (h : Rws wr W (L1 ++ ⟨e, sz, v, n, xs⟩ :: L2) G) (ad : Addr) (m c : Nat) (news : List Value) (hn : news.length = m * sz)
  (hc : ∀ j u, news[j]? = some u → W.cell? (ad.add j) = some u) (h1 : ∀ u ∈ news, u.oneCell' = true) (hl : (n + m) * bytes ≤ 140737488355328) :
  ∃ v1 w1, (Builtin.append_ #[t, t] ty #[v, .slice (some ad) m c]).run P W = .ok v1 w1 ∧ Rws wr w1 (L1 ++ ⟨e, sz, v1, n + m, xs ++ news⟩ :: L2) G ∧ W.grownBy w1 v.ownBlock ∧ KeepsOthers W w1 := by
 obtain ⟨i, hi, hzz⟩ := Option.map_eq_some_iff.1 hinfo
 simp only [Prod.mk.injEq] at hzz
 obtain ⟨hz1, hz2, hz3⟩ := hzz
 have ho : W.ownsRow wr.heap.size e sz v n xs := h.row ⟨e, sz, v, n, xs⟩ (by simp)
 have hlen : n + m ≤ 140737488355328 := Nat.le_trans (Nat.le_mul_of_pos_right _ hb0) hl
 obtain ⟨v1, w1, hrun, r1, r2, _, r4⟩ := run_append_own_at (P := P) W wr.heap.size t ty e i z sz bytes ht hi hz1 hz2 hz3 hz hs0 v n xs ho ad m c news hn hc h1 (by unfold maxLen; omega) hl h.below.size
 refine ⟨v1, w1, hrun, ?_, r2, own_keeps ho r2⟩
 exact Rws.app (r := ⟨e, sz, v, n, xs⟩) (r1 := ⟨e, sz, v1, n + m, xs ++ news⟩) h r1 (h.below.grown r2 h.below.size (fun r er => own_base ho r er)) r2 (by
  rcases r4 with e4 | e4
  ·exact .inl e4
  ·exact .inr ⟨_, e4, Nat.le_refl _⟩)
theorem appIn {F : Fence} {n0 : Nat} {ops : Array Oper} {rest : List Oper} {o : Oper} {a : Act} {Q : Exit → Act → World → Prop}
  (hg : o.guard = none) (s x : Operand) (t e : TypeId) (hop : o.op = Op.call { callee := Callee.builtin Builtin.append, args := #[s, x], argTypes := #[t, t] }) (z : Value) (sz bytes : Nat)
  (ht : P.underlying t = some (.slice e)) (hinfo : (P.info? e).map (fun i => (i.zero, i.size, i.bytes)) = some (some z, sz, bytes)) (hz : z.cells.size = sz) (hs0 : 0 < sz) (hb0 : 0 < bytes)
  (v : Value) (n : Nat) (xs : List Value) (hs : a.eval s = v) (h : Rws wr W (L1 ++ ⟨e, sz, v, n, xs⟩ :: L2) G) (ad : Addr) (m c : Nat) (news : List Value) (hx : a.eval x = .slice (some ad) m c) (hn : news.length = m * sz)
  (hc : ∀ j u, news[j]? = some u → W.cell? (ad.add j) = some u) (h1 : ∀ u ∈ news, u.oneCell' = true) (hl : (n + m) * bytes ≤ 140737488355328)
  (hK : ∀ v1 w1, Rws wr w1 (L1 ++ ⟨e, sz, v1, n + m, xs ++ news⟩ :: L2) G → W.grownBy w1 v.ownBlock → KeepsOthers W w1 → wpListIn F n0 P ops Q rest (a.put o.dst v1) w1) :
  wpListIn F n0 P ops Q (o :: rest) a W := by
 refine wpListIn_plain hg fun K hK' => ?_
 obtain ⟨v', w', hrun, r1, r2, r3⟩ := app_run (P := P) t o.type e z sz bytes ht hinfo hz hs0 hb0 v n xs h ad m c news hn hc h1 hl
 unfold Oper.wpIn
 refine ⟨?_, ?_⟩
 ·simp [Oper.about, hop, resolve, Target.leads, Sem.run_pure]
 ·rw [Oper.semAt_plain F _ _ (by rw [hop]; intro c hc'; cases hc')]
  simp [execOp, hop, resolve, invoke, builtin, hs, hx, hrun, Result.andThen]
  exact hK' _ _ (hK v' w' r1 r2 r3)
end Bts

namespace Bts
attribute [local go_sem] max2_int min2_int max_two min_two max_three min_three
open Q15 (cnx bnx)
variable {P : Program} {W : World}
def Cells (w : World) (A : Option Addr) (cs : List Value) : Prop := cs ≠ [] → ∃ ad, A = some ad ∧ ∀ j u, cs[j]? = some u → w.cell? (ad.add j) = some u
theorem Cells.below {w w1 : World} {A : Option Addr} {cs : List Value} (h : Cells w A cs) (hb : Below w.heap.size w w1) : Cells w1 A cs := fun hn => by
 obtain ⟨ad, e, hc⟩ := h hn
 exact ⟨ad, e, fun j u hj => cnx (hc j u hj) hb⟩
def Typed (w : World) (A : Option Addr) (t : Nat) : Prop := ∀ ad, A = some ad → ∃ cells, w.heap[ad.block]? = some (.cells cells t (0, 0))
theorem Typed.below {w w1 : World} {A : Option Addr} {t : Nat} (h : Typed w A t) (hb : Below w.heap.size w w1) : Typed w1 A t := fun ad e => by
 obtain ⟨cs, hc⟩ := h ad e
 exact ⟨cs, blk_below hc hb⟩
theorem Typed.ne {w : World} {A : Option Addr} {t t' g : Nat} {cs : Array Value} (h : Typed w A t) (hg : w.heap[g]? = some (.cells cs t' (0, 0))) (ht : t ≠ t') : ∀ ad, A = some ad → ad.block ≠ g := fun ad e hbl => by
 obtain ⟨cs2, hc⟩ := h ad e
 rw [hbl, hg] at hc
 cases hc
 exact ht rfl
theorem run_app_none (t ty e : TypeId) (i : TypeInfo) (ht : P.underlying t = some (.slice e)) (hi : P.info? e = some i) (b A : Option Addr) (n c q : Nat) (hc : n ≤ c) (w : World) :
  (Builtin.append_ #[t, t] ty #[.slice b n c, .slice A 0 q]).run P w = .ok (.slice b n c) w := by
 cases b <;> cases A <;> simp [Builtin.append_, run_underlying ht, sizeOf, typeInfo, hi, Builtin.lenOf, Builtin.firstCells, loadCells, loadCellsFrom, hc, storeCells]
theorem app_full (t ty e : TypeId) (z : Value) (sz bytes : Nat) (ht : P.underlying t = some (.slice e)) (hinfo : (P.info? e).map (fun i => (i.zero, i.size, i.bytes)) = some (some z, sz, bytes)) (hs0 : 0 < sz) (hb0 : 0 < bytes)
  (b : Addr) (n : Nat) (olds : List Value) (hlo : olds.length = n * sz) (hol : Cells W (some b) olds) (A : Option Addr) (m c : Nat) (news : List Value) (hl : news.length = m * sz) (hn : Cells W A news) (hbig : (n + m) * bytes ≤ 140737488355328) :
  ∃ A' c' w1, (Builtin.append_ #[t, t] ty #[.slice (some b) n n, .slice A m c]).run P W = .ok (.slice A' (n + m) c') w1 ∧ Below W.heap.size W w1 ∧ Cells w1 A' (olds ++ news) ∧ (A' = some b ∨ ∃ ad, A' = some ad ∧ W.heap.size ≤ ad.block ∧ ∃ cells, w1.heap[ad.block]? = some (.cells cells e (0, 0))) := by
 obtain ⟨i, hi, hzz⟩ := Option.map_eq_some_iff.1 hinfo
 simp only [Prod.mk.injEq] at hzz
 obtain ⟨hz1, hz2, hz3⟩ := hzz
 subst hz2
 have hlen : n + m ≤ 140737488355328 := Nat.le_trans (Nat.le_mul_of_pos_right _ hb0) hbig
 by_cases hm : m = 0
 ·subst hm
  obtain rfl : news = [] := List.eq_nil_of_length_eq_zero (by simpa using hl)
  exact ⟨some b, n, W, run_app_none t ty e i ht hi (some b) A n n c (Nat.le_refl _) W, Below.refl _ _, by rw [List.append_nil]; exact hol, .inl rfl⟩
 ·have hne : news ≠ [] := fun e2 => by
   rw [e2] at hl
   have := Nat.mul_pos (Nat.pos_of_ne_zero hm) hs0
   simp at hl
   omega
  obtain ⟨a, rfl, ha⟩ := hn hne
  have hr := run_append_grow (P := P) W t ty e i z ht hi hz1 b n n olds hlo (fun j v hj => by
   have h0 : olds ≠ [] := fun e2 => by rw [e2] at hj; simp at hj
   obtain ⟨b', e2, hb'⟩ := hol h0
   cases e2
   exact hb' j v hj) a m c news hl ha (by omega) (by omega) (growslice_fits (by omega) (by rw [hz3]; exact hbig))
  refine ⟨_, _, _, hr, (Below.refl _ _).drew.alloc (Nat.le_refl _) _, fun _ => ⟨_, rfl, fun j u hj => ?_⟩, .inr ⟨_, rfl, Nat.le_refl _, _, heap_alloc_new W.drew _⟩⟩
  have h9 := heap_alloc_new W.drew (.cells (olds.toArray ++ news.toArray ++ Builtin.zeroCells z.cells (grownCap W (n + m) n e - (n + m))) e)
  have e9 : ((⟨W.heap.size, 0, none⟩ : Addr).add j) = ⟨W.heap.size, j, none⟩ := by
   unfold Addr.add
   by_cases h0 : j = 0
   ·simp [h0]
   ·simp [h0]
  rw [e9]
  refine (Go.Proofs.YtnflnicdjioflaaGreatDoor.Q21.cell_blk h9 j).trans ?_
  rw [Array.getElem?_append_left]
  ·rw [List.append_toArray]
   simpa using hj
  ·have := (List.getElem?_eq_some_iff.1 hj).1
   simpa using this
theorem appf_step {ops : Array Oper} {o : Oper} {a : Act} {Q : Exit → Act → World → Prop} {Kc : Act → World → Prop} (hw : Region.wanted o (yielded ops a.tmps) = true)
  (s x : Operand) (t e : TypeId) (hop : o.op = Op.call { callee := Callee.builtin Builtin.append, args := #[s, x], argTypes := #[t, t] }) (z : Value) (sz bytes : Nat)
  (ht : P.underlying t = some (.slice e)) (hinfo : (P.info? e).map (fun i => (i.zero, i.size, i.bytes)) = some (some z, sz, bytes)) (hs0 : 0 < sz) (hb0 : 0 < bytes)
  (b : Addr) (n : Nat) (olds : List Value) (hs : a.eval s = .slice (some b) n n) (hlo : olds.length = n * sz) (hol : Cells W (some b) olds) (A : Option Addr) (m c : Nat) (news : List Value) (hx : a.eval x = .slice A m c) (hl : news.length = m * sz) (hn : Cells W A news) (hbig : (n + m) * bytes ≤ 140737488355328)
  (hK : ∀ A' c' w1, Below W.heap.size W w1 → Cells w1 A' (olds ++ news) → (A' = some b ∨ ∃ ad, A' = some ad ∧ W.heap.size ≤ ad.block ∧ ∃ cells, w1.heap[ad.block]? = some (.cells cells e (0, 0))) → Kc (a.put o.dst (.slice A' (n + m) c')) w1) :
  if Region.wanted o (yielded ops a.tmps) = true then Oper.wp P o a W Kc Q else Kc (a.put o.dst undef) W := by
 rw [if_pos hw]
 obtain ⟨A', c', w1, hrun, r1, r2, r3⟩ := app_full (P := P) t o.type e z sz bytes ht hinfo hs0 hb0 b n olds hlo hol A m c news hl hn hbig
 unfold Oper.wp
 simp [execOp, hop, resolve, invoke, builtin, hs, hx, hrun, Result.andThen, Oper.upon]
 exact hK A' c' w1 r1 r2 r3
end Bts

end Go.Proofs.YtnflnicdjioflaaGreatDoor
