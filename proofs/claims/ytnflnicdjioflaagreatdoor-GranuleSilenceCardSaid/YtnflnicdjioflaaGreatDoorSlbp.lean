/- A part of the proof. -/
import Derived.Test.YtnflnicdjioflaaGreatDoorSlbo
set_option linter.unusedVariables false
set_option linter.unusedSimpArgs false
set_option maxRecDepth 100000
set_option maxHeartbeats 8000000
namespace Go.Proofs.YtnflnicdjioflaaGreatDoor
open Go.RowKit Go.Proofs.YtnflnicdjioflaaGreatDoorW.PrintWords Go.Proofs.YtnflnicdjioflaaGreatDoorW.PrintLast Go.Proofs.YtnflnicdjioflaaGreatDoorW.PrintMore
namespace Gn
attribute [local go_sem] Qj Qi Ql Qk Qg Qf
open Q15
open Q21
open St (at_ ge_ Jn sV)
open Bts
attribute [local go_sem] Oper.semAt_some
theorem Im (w : World) (x : Ch) {v1 v2 v3 v4 : Value} (g1 : ∃ A c, v1 = .slice A x.gr.length c ∧ x.gr.length ≤ c ∧ (Kd.int .i64).C w A x.gr.length x.gr) (g2 : ∃ A c, v2 = .slice A x.sc.length c ∧ x.sc.length ≤ c ∧ (Kd.int .i64).C w A x.sc.length x.sc)
  (g3 : ∃ A c, v3 = .slice A x.qu.length c ∧ x.qu.length ≤ c ∧ (Kd.int .i64).C w A x.qu.length x.qu) (g4 : ∃ A c, v4 = .slice A x.fi.length c ∧ x.fi.length ≤ c ∧ (Kd.int .i64).C w A x.fi.length x.fi) : kCh.K w x [.bool x.sh, v1, v2, v3, v4] := by
 obtain ⟨A1, c1, rfl, l1, g1⟩ := g1
 obtain ⟨A2, c2, rfl, l2, g2⟩ := g2
 obtain ⟨A3, c3, rfl, l3, g3⟩ := g3
 obtain ⟨A4, c4, rfl, l4, g4⟩ := g4
 exact ⟨[.bool x.sh], _, rfl, rfl, ⟨[_], _, rfl, ⟨A1, c1, rfl, l1, g1⟩, ⟨[_], _, rfl, ⟨A2, c2, rfl, l2, g2⟩, ⟨[_], [_], rfl, ⟨A3, c3, rfl, l3, g3⟩, ⟨A4, c4, rfl, l4, g4⟩⟩⟩⟩⟩
theorem chs_C {w : World} {g : Nat} {cur : Array Value} {cs : List Value} {x : Ch} {n : Nat} (hg : w.heap[g]? = some (.cells cur 46 (0, 0))) (hl : cs.length = 5) (hK : kCh.K w x cs) (hc : ∀ j, j < n * 5 → cur[j]? = ((List.replicate n cs).flatten)[j]?) (hn : n = 1 ∨ n = 2) : kCh.C w (some ⟨g, 0, none⟩) n (List.replicate n x) := by
 refine ⟨by simp, by omega, fun _ => ⟨_, rfl, fun j p hj => ?_⟩⟩
 obtain ⟨hj1, rfl⟩ := List.getElem?_eq_some_iff.1 hj
 have hj2 : j < n := by simpa using hj1
 refine ⟨cs, hl, by rw [List.getElem_replicate]; exact hK, fun i u hi => ?_⟩
 have hi2 : i < 5 := by have := (List.getElem?_eq_some_iff.1 hi).1; omega
 rw [show kCh.sz = 5 from rfl, add_plain, Qb hg, hc _ (by omega)]
 obtain ⟨a, b, c, d, e, rfl⟩ : ∃ a b c d e, cs = [a, b, c, d, e] := by
  match cs, hl with
  | [a, b, c, d, e], _ => exact ⟨a, b, c, d, e, rfl⟩
 have h01 : j = 0 ∨ j = 1 := by omega
 rcases hn with rfl | rfl
 ·obtain rfl : j = 0 := by omega
  have : i = 0 ∨ i = 1 ∨ i = 2 ∨ i = 3 ∨ i = 4 := by omega
  rcases this with rfl | rfl | rfl | rfl | rfl <;> exact hi
 ·have : i = 0 ∨ i = 1 ∨ i = 2 ∨ i = 3 ∨ i = 4 := by omega
  rcases h01 with rfl | rfl <;> rcases this with rfl | rfl | rfl | rfl | rfl <;> exact hi
theorem Cr (n : Int) (sh : Bool) (w : World) (hn : n < 1 ∨ 2 < n) :
  Calls Tryz.prog 17 #[.int .i64 n, .bool sh] w (Gj ⟨[], []⟩ 1 w) := by
 have hu31 := Tryz.underlying31
 obtain ⟨w1, hw1⟩ : ∃ w1, w1 = w.alloc (.cells #[.slice none 0 0, .slice none 0 0] 31) := ⟨_, rfl⟩
 have hb : Below w.heap.size w w1 := by rw [hw1]; exact (Below.refl _ _).alloc (Nat.le_refl _) _
 have hR1 : w1.heap[w.heap.size]? = some (.cells #[.slice none 0 0, .slice none 0 0] 31 (0, 0)) := by rw [hw1]; exact heap_alloc_new _ _
 have f0 := Qe hR1 0
 have f1 := Qe hR1 1
 have z0 : w1.cell? ⟨w.heap.size, 0, none⟩ = some (.slice none 0 0) := by rw [Qb hR1]; rfl
 have z1 : w1.cell? ⟨w.heap.size, 1, none⟩ = some (.slice none 0 0) := by rw [Qb hR1]; rfl
 rcases hn with hn | hn
 ·have t1 : decide (n < 1) = true := decide_eq_true hn
  clear hn
  go_enter Tryz.func17, Tryz.ntmps17
  go_wp2_with fail
  rw [← hw1]
  (try simp only [Exit.inBlock, Exit.then]); refine bodyPost_ret (Z5 rfl _ _ w.heap.size 31 #[.slice none 0 0, .slice none 0 0] (0, 0) _ rfl hR1 hu31 rfl (by kernel_rfl)) rfl ?_
  exact ⟨⟨_, _, rfl, Kd.Xr _ _ _ _ _, Kd.Xr _ _ _ _ _⟩, hb⟩
 ·have t1 : decide (n < 1) = false := decide_eq_false (by omega)
  have t2 : decide (2 < n) = true := decide_eq_true hn
  clear hn
  go_enter Tryz.func17, Tryz.ntmps17
  go_wp2_with fail
  rw [← hw1]
  (try simp only [Exit.inBlock, Exit.then]); refine bodyPost_ret (Z5 rfl _ _ w.heap.size 31 #[.slice none 0 0, .slice none 0 0] (0, 0) _ rfl hR1 hu31 rfl (by kernel_rfl)) rfl ?_
  exact ⟨⟨_, _, rfl, Kd.Xr _ _ _ _ _, Kd.Xr _ _ _ _ _⟩, hb⟩
def ROut (g : Gr) (w : World) (e : Ending) (w' : World) : Prop := ∃ A p M q, e = .returned (.tuple #[.agg #[.slice A g.chs.length p, .slice M g.mid.length q], .int .i64 0]) ∧ Uv w' g A p M q ∧ Below w.heap.size w w'
theorem Hm (n : Nat) (sh : Bool) (w : World) (hn : n = 1 ∨ n = 2) :
  Calls Tryz.prog 17 #[.int .i64 n, .bool sh] w (ROut (Xi n sh) w) := by
 have hu31 := Tryz.underlying31
 have hu46 := Tryz.underlying46
 have t1 : decide ((n : Int) < 1) = false := decide_eq_false (by omega)
 have t2 : decide (2 < (n : Int)) = false := decide_eq_false (by omega)
 have hnI : (n : Int) ≤ 2 := by omega
 have Hn := Qa.mk hn
 have hmk : ∀ W : World, (Instr.makeSlice 22 (.int .i64 (128 : Int)) (.int .i64 (128 : Int))).run Tryz.prog W = .ok (sV W.heap.size) (W.alloc (.cells (List.replicate 128 (Value.int .i64 0)).toArray 3)) := Sec.Xc 128 (by omega)
 obtain ⟨Z0, hZ0⟩ : ∃ Z0, Z0 = (List.replicate 128 (Value.int .i64 0)).toArray := ⟨_, rfl⟩
 rw [← hZ0] at hmk
 have hmo : Tryz.prog.follows .mixedOrders = true := by kernel_rfl
 replace hZ0 := Qa.mk hZ0
 clear hn
 refine (callsIn_wide (n := 3)).1 ?_
 refine callsIn_of_wp Tryz.func17 rfl trivial ?_ rfl
 simp only [Tryz.ntmps17, List.size_toArray, List.length_cons, List.length_nil, Nat.reduceAdd, Nat.reduceSub, Array.replicate_succ, Array.replicate_zero, List.push_toArray, List.append_toArray, List.nil_append, List.cons_append]
 cases sh with
 | false =>
  have hmN : ∀ W : World, (Instr.makeSlice 22 (.int .i64 (15 : Int)) (.int .i64 (15 : Int))).run Tryz.prog W = .ok (.slice (some ⟨W.heap.size, 0, none⟩) 15 15) (W.alloc (.cells (List.replicate 15 (Value.int .i64 0)).toArray 3)) := Sec.Xc 15 (by omega)
  have hmB : ∀ W : World, (Instr.makeSlice 23 (.int .i64 (15 : Int)) (.int .i64 (15 : Int))).run Tryz.prog W = .ok (.slice (some ⟨W.heap.size, 0, none⟩) 15 15) (W.alloc (.cells (List.replicate 15 (Value.bool false)).toArray 4)) := Vs 15 (by omega)
  obtain ⟨Z1, hZ1⟩ : ∃ Z, Z = (List.replicate 15 (Value.int .i64 0)).toArray := ⟨_, rfl⟩
  obtain ⟨Z2, hZ2⟩ : ∃ Z, Z = (List.replicate 15 (Value.bool false)).toArray := ⟨_, rfl⟩
  rw [← hZ1] at hmN
  rw [← hZ2] at hmB
  replace hZ1 := Qa.mk hZ1
  replace hZ2 := Qa.mk hZ2
  gi_wp2_with fail
  obtain ⟨W4, hW4⟩ : ∃ W, W = ((w.alloc (.cells #[.slice none 0 0, .slice none 0 0] 31)).alloc (.cells Z0 3)).alloc (.cells #[.bool false, .slice none 0 0, .slice none 0 0, sV (w.heap.size + 1), .slice none 0 0] 46) := ⟨_, rfl⟩
  have hR3 := (((Rws.start w).alloc #[.slice none 0 0, .slice none 0 0] 31).alloc Z0 3).alloc #[.bool false, .slice none 0 0, .slice none 0 0, sV (w.heap.size + 1), .slice none 0 0] 46
  simp only [World.size_alloc, List.nil_append, List.cons_append] at hR3
  rw [← hW4] at hR3 ⊢
  clear hW4
  refine ⟨trivial, (callsIn_wide.2 (Vw false none 0 [] W4 (Kd.Jr _ _))).mono ?_⟩
  rintro en W5 ⟨A, p, rfl, -, hb5⟩
  have hR5 := hR3.step hb5
  have y2 := Qe (at_ hR5 2 rfl) 2
  have z2 := Qb (at_ hR5 2 rfl) 2
  have hl2 := Qq (at_ hR5 2 rfl)
  rw [show (Df false []).length = 15 from rfl]
  gi_wp2_with fail
  obtain ⟨bs, hbs⟩ : ∃ g, g = W5.heap.size := ⟨_, rfl⟩
  rw [← hbs]
  obtain ⟨bt, hbt⟩ : ∃ g, g = bs + 1 := ⟨_, rfl⟩
  rw [← hbt]
  have hR8 := (((Jn hR5 2 rfl 2 (.slice (some ⟨bs, 0, none⟩) 15 15)).alloc Z1 3).alloc #[.slice none 0 0, .slice none 0 0] 31).nil 46 5
  simp only [World.size_alloc, World.size_setCell, List.nil_append] at hR8
  rw [← hbs, ← hbt] at hR8
  obtain ⟨W8, hW8⟩ : ∃ W, W = ((W5.setCell ⟨w.heap.size + 1 + 1, 2, none⟩ (.slice (some ⟨bs, 0, none⟩) 15 15)).alloc (.cells Z1 3)).alloc (.cells #[.slice none 0 0, .slice none 0 0] 31) := ⟨_, rfl⟩
  rw [← hW8] at hR8 ⊢
  have hR9 := Qa.mk (show Rws w W8 [⟨46, 5, .slice none 0 0, 0, []⟩] ([⟨w.heap.size, #[.slice none 0 0, .slice none 0 0], 31⟩, ⟨w.heap.size + 1, Z0, 3⟩, ⟨w.heap.size + 1 + 1, #[.bool false, .slice none 0 0, .slice (some ⟨bs, 0, none⟩) 15 15, sV (w.heap.size + 1), .slice none 0 0], 46⟩, ⟨bs, Z1, 3⟩, ⟨bt, #[.slice none 0 0, .slice none 0 0], 31⟩]) from hR8)
  clear hbs hbt hW8 hR8 hR5 hR3 hb5 hl2 y2 z2 hmN hmk W5 W4
  gi_loopw [36] (fun i wr => ∃ (k : Nat) (v : Value), i = .int .i64 k ∧ k ≤ n ∧ Qa (Rws w wr [⟨46, 5, v, k, (List.replicate k [.bool false, .slice none 0 0, .slice (some ⟨bs, 0, none⟩) 15 15, sV (w.heap.size + 1), .slice none 0 0]).flatten⟩] ([⟨w.heap.size, #[.slice none 0 0, .slice none 0 0], 31⟩, ⟨w.heap.size + 1, Z0, 3⟩, ⟨w.heap.size + 1 + 1, #[.bool false, .slice none 0 0, .slice (some ⟨bs, 0, none⟩) 15 15, sV (w.heap.size + 1), .slice none 0 0], 46⟩, ⟨bs, Z1, 3⟩, ⟨bt, #[v, .slice none 0 0], 31⟩]))) (fun i _ => n - (intOf i).toNat)
  case atStart => exact ⟨0, _, rfl, by omega, hR9⟩
  case round =>
   obtain ⟨k, v, rfl, hk, hRw⟩ := hrel
   clear hR9
   by_cases hlt : k < n
   ·have hkI : (k : Int) < (n : Int) := by omega
    have m0 := Qb (at_ hRw.out 2 rfl) 0
    have m1 := Qb (at_ hRw.out 2 rfl) 1
    have m2 := Qb (at_ hRw.out 2 rfl) 2
    have m3 := Qb (at_ hRw.out 2 rfl) 3
    have m4 := Qb (at_ hRw.out 2 rfl) 4
    have zt := Qb (at_ hRw.out 4 rfl) 0
    have hRl := Qa.mk (hRw.out.alloc #[.bool false, .slice none 0 0, .slice (some ⟨bs, 0, none⟩) 15 15, sV (w.heap.size + 1), .slice none 0 0] 46)
    have hl9 : Qa ((k + 1) * 104 ≤ 140737488355328) := ⟨by omega⟩
    have hT := Qa.mk hlt
    clear hlt hk
    gi_wp2_with (refine appIn (wr := w) (L1 := []) (L2 := []) (G := _) rfl (.tmp 39) (.tmp 41) 29 46 rfl (.agg #[(.bool false), (.slice none 0 0), (.slice none 0 0), (.slice none 0 0), (.slice none 0 0)]) 5 104 Tryz.underlying29 Fb rfl (by decide) (by decide) v k ((List.replicate k [.bool false, .slice none 0 0, .slice (some ⟨bs, 0, none⟩) 15 15, sV (w.heap.size + 1), .slice none 0 0]).flatten) rfl hRl.out ⟨wr.heap.size, 0, none⟩ 1 1 [.bool false, .slice none 0 0, .slice (some ⟨bs, 0, none⟩) 15 15, sV (w.heap.size + 1), .slice none 0 0] rfl rfl (M6 _ _ _) (by simp [Value.oneCell']) hl9.out ?_; intro v1 wA hRA hgA hkA; have HRA := Qa.mk hRA; have HKA := Qa.mk hkA; clear hRA hgA hkA; obtain ⟨A4, p4, hv4⟩ := ownsl (HRA.out.row _ (List.mem_append_right _ (List.mem_cons_self))); dsimp only at hv4; subst hv4; have yt := Qe (at_ HRA.out 4 rfl) 0; have xt := Qb (at_ HRA.out 4 rfl) 0; dsimp only at yt xt)
    have hfin := Jn HRA.out 4 rfl 0 (.slice A4 (k + 1) p4)
    have hfl : (List.replicate k [.bool false, .slice none 0 0, .slice (some ⟨bs, 0, none⟩) 15 15, sV (w.heap.size + 1), .slice none 0 0]).flatten ++ [.bool false, .slice none 0 0, .slice (some ⟨bs, 0, none⟩) 15 15, sV (w.heap.size + 1), .slice none 0 0] = (List.replicate (k + 1) [.bool false, .slice none 0 0, .slice (some ⟨bs, 0, none⟩) 15 15, sV (w.heap.size + 1), .slice none 0 0]).flatten := by rw [List.replicate_succ', List.flatten_append]; simp
    rw [hfl] at hfin
    have hfin2 : Qa (Rws w (wA.setCell ⟨bt, 0, none⟩ (.slice A4 (k + 1) p4)) [⟨46, 5, .slice A4 (k + 1) p4, k + 1, (List.replicate (k + 1) [.bool false, .slice none 0 0, .slice (some ⟨bs, 0, none⟩) 15 15, sV (w.heap.size + 1), .slice none 0 0]).flatten⟩] ([⟨w.heap.size, #[.slice none 0 0, .slice none 0 0], 31⟩, ⟨w.heap.size + 1, Z0, 3⟩, ⟨w.heap.size + 1 + 1, #[.bool false, .slice none 0 0, .slice (some ⟨bs, 0, none⟩) 15 15, sV (w.heap.size + 1), .slice none 0 0], 46⟩, ⟨bs, Z1, 3⟩, ⟨bt, #[.slice A4 (k + 1) p4, .slice none 0 0], 31⟩])) := ⟨Sp.Rws.sub hfin (List.sublist_append_left _ [_])⟩
    go_roundw
    case rel => exact ⟨k + 1, _, by go_num, hT.out, hfin2⟩
    case measure => have := hT.out; simp [intOf]; omega
   ·obtain rfl : k = n := by omega
    have z0 := Qb (at_ hRw.out 0 rfl) 0
    have z1 := Qb (at_ hRw.out 0 rfl) 1
    have y0 := Qe (at_ hRw.out 0 rfl) 0
    have y1 := Qe (at_ hRw.out 0 rfl) 1
    have x0 := Qb (at_ hRw.out 4 rfl) 0
    have x1 := Qb (at_ hRw.out 4 rfl) 1
    have v0 := Qe (at_ hRw.out 4 rfl) 1
    have l0 := Qq (at_ hRw.out 0 rfl)
    have l1 := Qq (at_ hRw.out 4 rfl)
    dsimp only at l0 l1
    have hn2 := Hn.out
    clear hk hlt Hn hnI t1 t2
    obtain ⟨hro1, hro2⟩ := hRw.out.row _ (List.mem_singleton.2 rfl)
    dsimp only at hro1 hro2
    have hk0 : 0 < k := by omega
    rcases hro2 with ⟨-, h0⟩ | ⟨g, cap, cur, rfl, -, -, -, -, -, -⟩
    ·omega
    have HF : Qa (∀ (W : World) (L : List Blk), Rws w W [⟨46, 5, .slice (some ⟨g, 0, none⟩) k cap, k, (List.replicate k [.bool false, .slice none 0 0, .slice (some ⟨bs, 0, none⟩) 15 15, sV (w.heap.size + 1), .slice none 0 0]).flatten⟩] L → L[3]? = some ⟨bs, Z1, 3⟩ → L[1]? = some ⟨w.heap.size + 1, Z0, 3⟩ → kCh.C W (some ⟨g, 0, none⟩) k (List.replicate k (chS false))) := ⟨fun W L h i5 i1 => by
     obtain ⟨-, r2⟩ := h.row _ (List.mem_singleton.2 rfl)
     dsimp only at r2
     rcases r2 with ⟨-, r0⟩ | ⟨g2, cap2, cur2, e, -, e2, -, -, -, e6⟩
     ·omega
     injection e with e _ _
     injection e with e
     injection e with e _ _
     subst e
     have hz1 := at_ h 3 i5
     have hz0 := at_ h 1 i1
     dsimp only at hz1 hz0
     rw [hZ1.out, show (List.replicate 15 (Value.int .i64 0)).toArray = ((List.replicate 15 (0 : Int)).map (Value.int .i64)).toArray by simp] at hz1
     rw [hZ0.out, show (List.replicate 128 (Value.int .i64 0)).toArray = ((List.replicate 128 (0 : Int)).map (Value.int .i64)).toArray by simp] at hz0
     refine chs_C e2 rfl (Im W (chS false) ⟨none, 0, rfl, Nat.le_refl _, Kd.Jr _ _⟩ ⟨_, 15, rfl, Nat.le_refl _, Sp.Xy (l := List.replicate 15 0) hz1 (by decide)⟩ ⟨_, 128, rfl, Nat.le_refl _, Sp.Xy (l := List.replicate 128 0) hz0 (by decide)⟩ ⟨none, 0, rfl, Nat.le_refl _, Kd.Jr _ _⟩) (fun j hj => ?_) hn2
     change cur2[j]? = (List.replicate k [.bool false, .slice none 0 0, .slice (some ⟨bs, 0, none⟩) 15 15, sV (w.heap.size + 1), .slice none 0 0]).flatten[j]?
     rw [← e6, List.getElem?_take_of_lt hj]
     simp⟩
    have hne : ¬ w.heap.size = bt := (List.pairwise_cons.1 hRw.out.gs).1 ⟨bt, #[.slice (some ⟨g, 0, none⟩) k cap, .slice none 0 0], 31⟩ (by simp)
    have hne2 : ¬ bt = w.heap.size := fun e => hne e.symm
    clear hro1
    rcases hn2 with rfl | rfl
    ·have hRf := Jn (Jn hRw.out 0 rfl 0 (.slice (some ⟨g, 0, none⟩) 1 cap)) 0 rfl 1 (.slice none 0 0)
     have hB := Qa.mk (at_ hRf 0 rfl)
     have hbe := Qa.mk hRf.below
     have hrow := Qa.mk hRf
     clear hRf
     gi_wp2
     (try simp only [Exit.inBlock, Exit.then]); refine bodyPost_ret (Z5 rfl _ _ w.heap.size 31 #[.slice (some ⟨g, 0, none⟩) 1 cap, .slice none 0 0] (0, 0) _ rfl hB.out hu31 rfl (by kernel_rfl)) rfl ?_
     exact ⟨_, cap, none, 0, rfl, ⟨HF.out _ _ hrow.out rfl rfl, Kd.Jr _ _⟩, hbe.out⟩
    ·have hRf := (Jn (Jn (Jn hRw.out 4 rfl 1 (.slice (some ⟨wr.heap.size, 0, none⟩) 15 15)) 0 rfl 0 (.slice (some ⟨g, 0, none⟩) 2 cap)) 0 rfl 1 (.slice (some ⟨wr.heap.size, 0, none⟩) 15 15)).alloc Z2 4
     simp only [World.size_setCell] at hRf
     have hB := Qa.mk (at_ hRf 0 rfl)
     have hM := (at_ hRf 5 rfl).trans (congrArg (fun z => some (Obj.cells z 4 (0, 0))) (hZ2.out.trans (show (List.replicate 15 (Value.bool false)).toArray = ((List.replicate 15 false).map Value.bool).toArray by simp)))
     replace hM := Qa.mk (CB_of (l := List.replicate 15 false) hM (by decide))
     have hbe := Qa.mk hRf.below
     have hrow := Qa.mk hRf
     clear hRf
     gi_wp2
     (try simp only [Exit.inBlock, Exit.then]); refine bodyPost_ret (Z5 rfl _ _ w.heap.size 31 #[.slice (some ⟨g, 0, none⟩) 2 cap, .slice (some ⟨wr.heap.size, 0, none⟩) 15 15] (0, 0) _ rfl hB.out hu31 rfl (by kernel_rfl)) rfl ?_
     exact ⟨_, cap, _, 15, rfl, ⟨HF.out _ _ hrow.out rfl rfl, hM.out⟩, hbe.out⟩
 | true =>
  have hmN : ∀ W : World, (Instr.makeSlice 22 (.int .i64 (4 : Int)) (.int .i64 (4 : Int))).run Tryz.prog W = .ok (.slice (some ⟨W.heap.size, 0, none⟩) 4 4) (W.alloc (.cells (List.replicate 4 (Value.int .i64 0)).toArray 3)) := Sec.Xc 4 (by omega)
  have hmB : ∀ W : World, (Instr.makeSlice 23 (.int .i64 (4 : Int)) (.int .i64 (4 : Int))).run Tryz.prog W = .ok (.slice (some ⟨W.heap.size, 0, none⟩) 4 4) (W.alloc (.cells (List.replicate 4 (Value.bool false)).toArray 4)) := Vs 4 (by omega)
  obtain ⟨Z1, hZ1⟩ : ∃ Z, Z = (List.replicate 4 (Value.int .i64 0)).toArray := ⟨_, rfl⟩
  obtain ⟨Z2, hZ2⟩ : ∃ Z, Z = (List.replicate 4 (Value.bool false)).toArray := ⟨_, rfl⟩
  rw [← hZ1] at hmN
  rw [← hZ2] at hmB
  replace hZ1 := Qa.mk hZ1
  replace hZ2 := Qa.mk hZ2
  gi_wp2_with fail
  obtain ⟨W4, hW4⟩ : ∃ W, W = (((w.alloc (.cells #[.slice none 0 0, .slice none 0 0] 31)).alloc (.cells Z0 3)).alloc (.cells #[.bool true, .slice (some ⟨w.heap.size + 1 + 1 + 1, 0, none⟩) 1 1, .slice none 0 0, sV (w.heap.size + 1), .slice none 0 0] 46)).alloc (.cells #[.int .i64 8] 3) := ⟨_, rfl⟩
  have hR3 := ((((Rws.start w).alloc #[.slice none 0 0, .slice none 0 0] 31).alloc Z0 3).alloc #[.bool true, .slice (some ⟨w.heap.size + 1 + 1 + 1, 0, none⟩) 1 1, .slice none 0 0, sV (w.heap.size + 1), .slice none 0 0] 46).alloc #[.int .i64 8] 3
  simp only [World.size_alloc, List.nil_append, List.cons_append] at hR3
  rw [← hW4] at hR3 ⊢
  clear hW4
  refine ⟨trivial, (callsIn_wide.2 (Vw true (some ⟨w.heap.size + 1 + 1 + 1, 0, none⟩) 1 [8] W4 (Sp.Xy (l := [8]) (at_ hR3 3 rfl) (by decide)))).mono ?_⟩
  rintro en W5 ⟨A, p, rfl, -, hb5⟩
  have hR5 := hR3.step hb5
  have y2 := Qe (at_ hR5 2 rfl) 2
  have z2 := Qb (at_ hR5 2 rfl) 2
  have hl2 := Qq (at_ hR5 2 rfl)
  rw [show (Df true [8]).length = 4 from rfl]
  gi_wp2_with fail
  obtain ⟨bs, hbs⟩ : ∃ g, g = W5.heap.size := ⟨_, rfl⟩
  rw [← hbs]
  obtain ⟨bt, hbt⟩ : ∃ g, g = bs + 1 := ⟨_, rfl⟩
  rw [← hbt]
  have hR8 := (((Jn hR5 2 rfl 2 (.slice (some ⟨bs, 0, none⟩) 4 4)).alloc Z1 3).alloc #[.slice none 0 0, .slice none 0 0] 31).nil 46 5
  simp only [World.size_alloc, World.size_setCell, List.nil_append] at hR8
  rw [← hbs, ← hbt] at hR8
  obtain ⟨W8, hW8⟩ : ∃ W, W = ((W5.setCell ⟨w.heap.size + 1 + 1, 2, none⟩ (.slice (some ⟨bs, 0, none⟩) 4 4)).alloc (.cells Z1 3)).alloc (.cells #[.slice none 0 0, .slice none 0 0] 31) := ⟨_, rfl⟩
  rw [← hW8] at hR8 ⊢
  have hR9 := Qa.mk (show Rws w W8 [⟨46, 5, .slice none 0 0, 0, []⟩] ([⟨w.heap.size, #[.slice none 0 0, .slice none 0 0], 31⟩, ⟨w.heap.size + 1, Z0, 3⟩, ⟨w.heap.size + 1 + 1, #[.bool true, .slice (some ⟨w.heap.size + 1 + 1 + 1, 0, none⟩) 1 1, .slice (some ⟨bs, 0, none⟩) 4 4, sV (w.heap.size + 1), .slice none 0 0], 46⟩, ⟨w.heap.size + 1 + 1 + 1, #[.int .i64 8], 3⟩, ⟨bs, Z1, 3⟩, ⟨bt, #[.slice none 0 0, .slice none 0 0], 31⟩]) from hR8)
  clear hbs hbt hW8 hR8 hR5 hR3 hb5 hl2 y2 z2 hmN hmk W5 W4
  gi_loopw [36] (fun i wr => ∃ (k : Nat) (v : Value), i = .int .i64 k ∧ k ≤ n ∧ Qa (Rws w wr [⟨46, 5, v, k, (List.replicate k [.bool true, .slice (some ⟨w.heap.size + 1 + 1 + 1, 0, none⟩) 1 1, .slice (some ⟨bs, 0, none⟩) 4 4, sV (w.heap.size + 1), .slice none 0 0]).flatten⟩] ([⟨w.heap.size, #[.slice none 0 0, .slice none 0 0], 31⟩, ⟨w.heap.size + 1, Z0, 3⟩, ⟨w.heap.size + 1 + 1, #[.bool true, .slice (some ⟨w.heap.size + 1 + 1 + 1, 0, none⟩) 1 1, .slice (some ⟨bs, 0, none⟩) 4 4, sV (w.heap.size + 1), .slice none 0 0], 46⟩, ⟨w.heap.size + 1 + 1 + 1, #[.int .i64 8], 3⟩, ⟨bs, Z1, 3⟩, ⟨bt, #[v, .slice none 0 0], 31⟩]))) (fun i _ => n - (intOf i).toNat)
  case atStart => exact ⟨0, _, rfl, by omega, hR9⟩
  case round =>
   obtain ⟨k, v, rfl, hk, hRw⟩ := hrel
   clear hR9
   by_cases hlt : k < n
   ·have hkI : (k : Int) < (n : Int) := by omega
    have m0 := Qb (at_ hRw.out 2 rfl) 0
    have m1 := Qb (at_ hRw.out 2 rfl) 1
    have m2 := Qb (at_ hRw.out 2 rfl) 2
    have m3 := Qb (at_ hRw.out 2 rfl) 3
    have m4 := Qb (at_ hRw.out 2 rfl) 4
    have zt := Qb (at_ hRw.out 5 rfl) 0
    have hRl := Qa.mk (hRw.out.alloc #[.bool true, .slice (some ⟨w.heap.size + 1 + 1 + 1, 0, none⟩) 1 1, .slice (some ⟨bs, 0, none⟩) 4 4, sV (w.heap.size + 1), .slice none 0 0] 46)
    have hl9 : Qa ((k + 1) * 104 ≤ 140737488355328) := ⟨by omega⟩
    have hT := Qa.mk hlt
    clear hlt hk
    gi_wp2_with (refine appIn (wr := w) (L1 := []) (L2 := []) (G := _) rfl (.tmp 39) (.tmp 41) 29 46 rfl (.agg #[(.bool false), (.slice none 0 0), (.slice none 0 0), (.slice none 0 0), (.slice none 0 0)]) 5 104 Tryz.underlying29 Fb rfl (by decide) (by decide) v k ((List.replicate k [.bool true, .slice (some ⟨w.heap.size + 1 + 1 + 1, 0, none⟩) 1 1, .slice (some ⟨bs, 0, none⟩) 4 4, sV (w.heap.size + 1), .slice none 0 0]).flatten) rfl hRl.out ⟨wr.heap.size, 0, none⟩ 1 1 [.bool true, .slice (some ⟨w.heap.size + 1 + 1 + 1, 0, none⟩) 1 1, .slice (some ⟨bs, 0, none⟩) 4 4, sV (w.heap.size + 1), .slice none 0 0] rfl rfl (M6 _ _ _) (by simp [Value.oneCell']) hl9.out ?_; intro v1 wA hRA hgA hkA; have HRA := Qa.mk hRA; have HKA := Qa.mk hkA; clear hRA hgA hkA; obtain ⟨A4, p4, hv4⟩ := ownsl (HRA.out.row _ (List.mem_append_right _ (List.mem_cons_self))); dsimp only at hv4; subst hv4; have yt := Qe (at_ HRA.out 5 rfl) 0; have xt := Qb (at_ HRA.out 5 rfl) 0; dsimp only at yt xt)
    have hfin := Jn HRA.out 5 rfl 0 (.slice A4 (k + 1) p4)
    have hfl : (List.replicate k [.bool true, .slice (some ⟨w.heap.size + 1 + 1 + 1, 0, none⟩) 1 1, .slice (some ⟨bs, 0, none⟩) 4 4, sV (w.heap.size + 1), .slice none 0 0]).flatten ++ [.bool true, .slice (some ⟨w.heap.size + 1 + 1 + 1, 0, none⟩) 1 1, .slice (some ⟨bs, 0, none⟩) 4 4, sV (w.heap.size + 1), .slice none 0 0] = (List.replicate (k + 1) [.bool true, .slice (some ⟨w.heap.size + 1 + 1 + 1, 0, none⟩) 1 1, .slice (some ⟨bs, 0, none⟩) 4 4, sV (w.heap.size + 1), .slice none 0 0]).flatten := by rw [List.replicate_succ', List.flatten_append]; simp
    rw [hfl] at hfin
    have hfin2 : Qa (Rws w (wA.setCell ⟨bt, 0, none⟩ (.slice A4 (k + 1) p4)) [⟨46, 5, .slice A4 (k + 1) p4, k + 1, (List.replicate (k + 1) [.bool true, .slice (some ⟨w.heap.size + 1 + 1 + 1, 0, none⟩) 1 1, .slice (some ⟨bs, 0, none⟩) 4 4, sV (w.heap.size + 1), .slice none 0 0]).flatten⟩] ([⟨w.heap.size, #[.slice none 0 0, .slice none 0 0], 31⟩, ⟨w.heap.size + 1, Z0, 3⟩, ⟨w.heap.size + 1 + 1, #[.bool true, .slice (some ⟨w.heap.size + 1 + 1 + 1, 0, none⟩) 1 1, .slice (some ⟨bs, 0, none⟩) 4 4, sV (w.heap.size + 1), .slice none 0 0], 46⟩, ⟨w.heap.size + 1 + 1 + 1, #[.int .i64 8], 3⟩, ⟨bs, Z1, 3⟩, ⟨bt, #[.slice A4 (k + 1) p4, .slice none 0 0], 31⟩])) := ⟨Sp.Rws.sub hfin (List.sublist_append_left _ [_])⟩
    go_roundw
    case rel => exact ⟨k + 1, _, by go_num, hT.out, hfin2⟩
    case measure => have := hT.out; simp [intOf]; omega
   ·obtain rfl : k = n := by omega
    have z0 := Qb (at_ hRw.out 0 rfl) 0
    have z1 := Qb (at_ hRw.out 0 rfl) 1
    have y0 := Qe (at_ hRw.out 0 rfl) 0
    have y1 := Qe (at_ hRw.out 0 rfl) 1
    have x0 := Qb (at_ hRw.out 5 rfl) 0
    have x1 := Qb (at_ hRw.out 5 rfl) 1
    have v0 := Qe (at_ hRw.out 5 rfl) 1
    have l0 := Qq (at_ hRw.out 0 rfl)
    have l1 := Qq (at_ hRw.out 5 rfl)
    dsimp only at l0 l1
    have hn2 := Hn.out
    clear hk hlt Hn hnI t1 t2
    obtain ⟨hro1, hro2⟩ := hRw.out.row _ (List.mem_singleton.2 rfl)
    dsimp only at hro1 hro2
    have hk0 : 0 < k := by omega
    rcases hro2 with ⟨-, h0⟩ | ⟨g, cap, cur, rfl, -, -, -, -, -, -⟩
    ·omega
    have HF : Qa (∀ (W : World) (L : List Blk), Rws w W [⟨46, 5, .slice (some ⟨g, 0, none⟩) k cap, k, (List.replicate k [.bool true, .slice (some ⟨w.heap.size + 1 + 1 + 1, 0, none⟩) 1 1, .slice (some ⟨bs, 0, none⟩) 4 4, sV (w.heap.size + 1), .slice none 0 0]).flatten⟩] L → L[4]? = some ⟨bs, Z1, 3⟩ → L[1]? = some ⟨w.heap.size + 1, Z0, 3⟩ → L[3]? = some ⟨w.heap.size + 1 + 1 + 1, #[.int .i64 8], 3⟩ → kCh.C W (some ⟨g, 0, none⟩) k (List.replicate k (chS true))) := ⟨fun W L h i5 i1 i3 => by
     obtain ⟨-, r2⟩ := h.row _ (List.mem_singleton.2 rfl)
     dsimp only at r2
     rcases r2 with ⟨-, r0⟩ | ⟨g2, cap2, cur2, e, -, e2, -, -, -, e6⟩
     ·omega
     injection e with e _ _
     injection e with e
     injection e with e _ _
     subst e
     have hz1 := at_ h 4 i5
     have hz0 := at_ h 1 i1
     dsimp only at hz1 hz0
     rw [hZ1.out, show (List.replicate 4 (Value.int .i64 0)).toArray = ((List.replicate 4 (0 : Int)).map (Value.int .i64)).toArray by simp] at hz1
     rw [hZ0.out, show (List.replicate 128 (Value.int .i64 0)).toArray = ((List.replicate 128 (0 : Int)).map (Value.int .i64)).toArray by simp] at hz0
     refine chs_C e2 rfl (Im W (chS true) ⟨_, 1, rfl, Nat.le_refl _, Sp.Xy (l := [8]) (at_ h 3 i3) (by decide)⟩ ⟨_, 4, rfl, Nat.le_refl _, Sp.Xy (l := List.replicate 4 0) hz1 (by decide)⟩ ⟨_, 128, rfl, Nat.le_refl _, Sp.Xy (l := List.replicate 128 0) hz0 (by decide)⟩ ⟨none, 0, rfl, Nat.le_refl _, Kd.Jr _ _⟩) (fun j hj => ?_) hn2
     change cur2[j]? = (List.replicate k [.bool true, .slice (some ⟨w.heap.size + 1 + 1 + 1, 0, none⟩) 1 1, .slice (some ⟨bs, 0, none⟩) 4 4, sV (w.heap.size + 1), .slice none 0 0]).flatten[j]?
     rw [← e6, List.getElem?_take_of_lt hj]
     simp⟩
    have hne : ¬ w.heap.size = bt := (List.pairwise_cons.1 hRw.out.gs).1 ⟨bt, #[.slice (some ⟨g, 0, none⟩) k cap, .slice none 0 0], 31⟩ (by simp)
    have hne2 : ¬ bt = w.heap.size := fun e => hne e.symm
    clear hro1
    rcases hn2 with rfl | rfl
    ·have hRf := Jn (Jn hRw.out 0 rfl 0 (.slice (some ⟨g, 0, none⟩) 1 cap)) 0 rfl 1 (.slice none 0 0)
     have hB := Qa.mk (at_ hRf 0 rfl)
     have hbe := Qa.mk hRf.below
     have hrow := Qa.mk hRf
     clear hRf
     gi_wp2
     (try simp only [Exit.inBlock, Exit.then]); refine bodyPost_ret (Z5 rfl _ _ w.heap.size 31 #[.slice (some ⟨g, 0, none⟩) 1 cap, .slice none 0 0] (0, 0) _ rfl hB.out hu31 rfl (by kernel_rfl)) rfl ?_
     exact ⟨_, cap, none, 0, rfl, ⟨HF.out _ _ hrow.out rfl rfl rfl, Kd.Jr _ _⟩, hbe.out⟩
    ·have hRf := (Jn (Jn (Jn hRw.out 5 rfl 1 (.slice (some ⟨wr.heap.size, 0, none⟩) 4 4)) 0 rfl 0 (.slice (some ⟨g, 0, none⟩) 2 cap)) 0 rfl 1 (.slice (some ⟨wr.heap.size, 0, none⟩) 4 4)).alloc Z2 4
     simp only [World.size_setCell] at hRf
     have hB := Qa.mk (at_ hRf 0 rfl)
     have hM := (at_ hRf 6 rfl).trans (congrArg (fun z => some (Obj.cells z 4 (0, 0))) (hZ2.out.trans (show (List.replicate 4 (Value.bool false)).toArray = ((List.replicate 4 false).map Value.bool).toArray by simp)))
     replace hM := Qa.mk (CB_of (l := List.replicate 4 false) hM (by decide))
     have hbe := Qa.mk hRf.below
     have hrow := Qa.mk hRf
     clear hRf
     gi_wp2
     (try simp only [Exit.inBlock, Exit.then]); refine bodyPost_ret (Z5 rfl _ _ w.heap.size 31 #[.slice (some ⟨g, 0, none⟩) 2 cap, .slice (some ⟨wr.heap.size, 0, none⟩) 4 4] (0, 0) _ rfl hB.out hu31 rfl (by kernel_rfl)) rfl ?_
     exact ⟨_, cap, _, 4, rfl, ⟨HF.out _ _ hrow.out rfl rfl rfl, hM.out⟩, hbe.out⟩
end Gn

end Go.Proofs.YtnflnicdjioflaaGreatDoor
