/- What each function of package quant returns: Most. -/
import Derived.Test.YtglpdojccncjjaaQuantM
import Derived.Test.YtglpdojccncjjaaHeld
import Derived.RangeFuncNested
import Derived.RangeFuncBound
import Derived.RangeFuncCalls
import Derived.RangeFuncLeaves
import Derived.Shelf.Abstract
import Derived.Shelf.RegionOpen
import Derived.OwnWalkIn
import Derived.TacticsInMore
import Derived.LoopNIn
import Derived.LoopIn
import Derived.WalkKit
import Derived.WalkSpells
import Derived.WalkLawsBesides
import Derived.KernelRfl
import Derived.Deep.RegionHeld3
import Derived.Deep.LoopGhost
import Derived.Deep.AppendLies
import Derived.Laws.Rows
import Derived.Shelf.GgClosure.Gives
import Derived.Test.YtglpdojccncjjaaWWords
import Derived.Test.YtglpdojccncjjaaWLast
import Derived.Test.YtglpdojccncjjaaWMore
set_option linter.unusedVariables false
set_option linter.unusedSimpArgs false
namespace Go.Proofs.Ytglpdojccncjjaa.Q15
open Go.RowKit Go.Proofs.YtglpdojccncjjaaW.PrintWords Go.Proofs.YtglpdojccncjjaaW.PrintLast Go.Proofs.YtglpdojccncjjaaW.PrintMore
attribute [local go_sem] max2_int min2_int max_two min_two max_three min_three
open Go.Shelf
attribute [local go_sem] Oper.semAt_some

theorem cell_new_l (W : World) (v : Value) (t : TypeId) : (W.alloc (.cells #[v] t)).cell? ⟨W.heap.size, 0, none⟩ = some v ∧ (W.alloc (.cells #[v] t)).frozen? ⟨W.heap.size, 0, none⟩ = false := by
  have h := heap_alloc_new W (.cells #[v] t)
  exact ⟨by unfold World.cell?; rw [h]; rfl, by unfold World.frozen?; rw [h]; rfl⟩
theorem cell_alloc_l {W : World} {a : Addr} {v : Value} (o : Obj) (h : W.cell? a = some v) : (W.alloc o).cell? a = some v := cnx h ((Below.refl _ _).alloc (Nat.le_refl _) o)
theorem frozen_alloc_l {W : World} {a : Addr} {v : Value} (o : Obj) (h : W.cell? a = some v) (hf : W.frozen? a = false) : (W.alloc o).frozen? a = false :=
  (((Below.refl _ W).alloc (Nat.le_refl _) o).frozen (World.block_lt_of_cell? W _ h)).trans hf
def AllHi (l : List Int) (limit : Int) (pre : List Sc) : Prop := ∀ s ∈ pre, ¬ noiseI (stepI s.1) l ≤ limit
def Hit (l : List Int) (limit : Int) (B : Nat) (c : Code) (pre : List Sc) (W : World) : Prop :=
  c = .ret ∧ ∃ p, ∃ s : Sc, pre = p ++ [s] ∧ AllHi l limit p ∧ noiseI (stepI s.1) l ≤ limit ∧ W.cell? ⟨B + 1 + 1, 0, none⟩ = some (.int .i64 s.1) ∧ W.cell? ⟨B + 1 + 1 + 1, 0, none⟩ = some (.int .i64 0)
theorem hit_own (l : List Int) (limit : Int) (B D : Nat) (c : Code) : OwnFrom D (fun pre W => Hit l limit B c pre W) := fun pre W W' row hs hg hr => by
  obtain ⟨h, p, s, e1, e2, e3, e4, e5⟩ := hs
  exact ⟨h, p, s, e1, e2, e3, cell_kept e4 hg (fun r e => (hr r e).2), cell_kept e5 hg (fun r e => (hr r e).2)⟩
theorem keeps_below {W W' : World} (h : Below W.heap.size W W') : KeepsOthers W W' := ⟨h.size, fun k _ hk _ => (h.block k (Array.getElem?_eq_some_iff.1 hk).1).trans hk⟩

set_option maxRecDepth 100000 in
set_option maxHeartbeats 1000000 in
theorem Most_arg (A : Option Addr) (cap : Nat) (l : List Int) (limit : Int) (w : World) (h : limit < 0 ∨ 72057594037927936 < limit) :
    Calls Try.prog 27 #[.slice A l.length cap, .int .i64 limit] w fun e w' => e = .returned (.tuple #[.int .i64 0, .int .i64 1]) ∧ Below w.heap.size w w' := by
  rcases h with h | h
  · go_enter Try.func27, Try.ntmps27
    go_wp2
    exact bodyPost_ret (v := .tuple #[.int .i64 0, .int .i64 1]) (by simp [results, Try.f27, go_sem]) rfl ⟨rfl, ((((Below.refl _ _).alloc (Nat.le_refl _) _).alloc (by simp) _).alloc (by simp; omega) _).alloc (by simp; omega) _⟩
  · have hd : decide (limit < 0) = false := by simp; omega
    go_enter Try.func27, Try.ntmps27
    go_wp2
    exact bodyPost_ret (v := .tuple #[.int .i64 0, .int .i64 1]) (by simp [results, Try.f27, go_sem]) rfl ⟨rfl, ((((Below.refl _ _).alloc (Nat.le_refl _) _).alloc (by simp) _).alloc (by simp; omega) _).alloc (by simp; omega) _⟩

set_option maxRecDepth 100000 in
set_option maxHeartbeats 1000000 in
theorem Most_yes (A : Option Addr) (cap : Nat) (l : List Int) (limit : Int) (w : World) (hr : (Kd.int .i64).C w A l.length l) (h0 : 0 ≤ limit) (h1 : limit ≤ 72057594037927936) (hk : chk isC l 0 = 0) :
    Calls Try.prog 27 #[.slice A l.length cap, .int .i64 limit] w fun e w' => e = .returned (mostR l limit) ∧ Below w.heap.size w w' := by
  obtain ⟨hs, hl, hp⟩ := chk_zero hk
  have HC := fun W hb => check_calls 37 isC A cap l 0 W (fun _ _ => by kernel_rfl) (Kd.C_below hr hb) fn_isC
  rw [hk] at HC
  replace HC := Aside0.mk HC
  have HL := fun W hb => least_calls A cap l W (Kd.C_below hr hb) (by omega) (fun n hn => isC_bd (hp n hn))
  have hlb : 0 ≤ leastI l ∧ leastI l ≤ 95 := leastT_bd _
  obtain ⟨low, hlow⟩ : ∃ low, low = leastI l := ⟨_, rfl⟩
  rw [← hlow] at HL hlb
  replace HL := Aside0.mk HL
  have hd1 : decide (limit < 0) = false := by simp; omega
  have hd2 : decide (72057594037927936 < limit) = false := by simp; omega
  have HN := fun s (s0 : 0 ≤ s) (s1 : s ≤ 95) W hb => noise_calls (stepI s) A cap l limit W (Kd.C_below hr hb) (by omega) (by have := stepI_bd s0 s1; omega) (stepI_bd s0 s1).2 (fun n hn => isC_bd (hp n hn))
  replace HN := Aside0.mk HN
  have HE := fun s (s0 : 0 ≤ s) (s1 : s ≤ 95) => (noiseTo_eq (x := stepI s) (limit := limit) (by have := stepI_bd s0 s1; omega) l (fun n hn => isC_bd (hp n hn)) 0 h0).1
  replace HE := Aside0.mk HE
  have HM : Aside0 (mostR l limit = match mostI l limit with | some s => .tuple #[.int .i64 s, .int .i64 0] | none => .tuple #[.int .i64 0, .int .i64 5]) := ⟨by unfold mostR; rw [if_neg (by omega), if_pos hk]; cases mostI l limit <;> rfl⟩
  have HI : Aside0 (mostI l limit = (downL 95 low).find? fun s => decide (noiseI (stepI s) l ≤ limit)) := ⟨by rw [hlow]; rfl⟩
  obtain ⟨W4, hW4⟩ : ∃ W4, W4 = (((w.alloc (.cells #[.slice A l.length cap] 28)).alloc (.cells #[.int .i64 limit] 3)).alloc (.cells #[.int .i64 0] 3)).alloc (.cells #[.int .i64 0] 22) := ⟨_, rfl⟩
  have hB4 : Below w.heap.size w W4 := by rw [hW4]; exact ((((Below.refl _ _).alloc (Nat.le_refl _) _).alloc (by simp) _).alloc (by simp; omega) _).alloc (by simp; omega) _
  have x0 := cell_new_l w (.slice A l.length cap) 28
  have x1 := cell_new_l (w.alloc (.cells #[.slice A l.length cap] 28)) (.int .i64 limit) 3
  have x2 := cell_new_l ((w.alloc (.cells #[.slice A l.length cap] 28)).alloc (.cells #[.int .i64 limit] 3)) (.int .i64 0) 3
  have x3 := cell_new_l (((w.alloc (.cells #[.slice A l.length cap] 28)).alloc (.cells #[.int .i64 limit] 3)).alloc (.cells #[.int .i64 0] 3)) (.int .i64 0) 22
  simp only [World.size_alloc] at x1 x2 x3
  have a0 : W4.cell? ⟨w.heap.size, 0, none⟩ = some (.slice A l.length cap) := by rw [hW4]; exact cell_alloc_l _ (cell_alloc_l _ (cell_alloc_l _ x0.1))
  have a1 : W4.cell? ⟨w.heap.size + 1, 0, none⟩ = some (.int .i64 limit) := by rw [hW4]; exact cell_alloc_l _ (cell_alloc_l _ x1.1)
  have a2 : W4.cell? ⟨w.heap.size + 1 + 1, 0, none⟩ = some (.int .i64 0) := by rw [hW4]; exact cell_alloc_l _ x2.1
  have a3 : W4.cell? ⟨w.heap.size + 1 + 1 + 1, 0, none⟩ = some (.int .i64 0) := by rw [hW4]; exact x3.1
  have f2 : W4.frozen? ⟨w.heap.size + 1 + 1, 0, none⟩ = false := by rw [hW4]; exact frozen_alloc_l _ x2.1 x2.2
  have f3 : W4.frozen? ⟨w.heap.size + 1 + 1 + 1, 0, none⟩ = false := by rw [hW4]; exact x3.2
  have s4 : w.heap.size + 3 < W4.heap.size := by rw [hW4]; simp
  clear x0 x1 x2 x3
  clear hr hp hlow hk
  refine (callsIn_wide (n := 3)).1 ?_
  refine callsIn_of_wp_marks Try.func27 rfl trivial ?_ rfl
  simp only [Try.ntmps27, List.size_toArray, List.length_cons, List.length_nil, Nat.reduceAdd, Nat.reduceSub, Array.replicate_succ, Array.replicate_zero, List.push_toArray, List.append_toArray, List.nil_append, List.cons_append]
  gi_wp2_with fail
  rw [← hW4]
  clear hW4
  refine ⟨trivial, (callsIn_wide.2 (HC.out W4 hB4)).mono ?_⟩
  rintro e W5 ⟨rfl, hb5⟩
  have hB5 := bnx hB4 hb5
  have b0 := cnx a0 hb5
  gi_wp2_with fail
  refine ⟨trivial, (callsIn_wide.2 (HL.out W5 hB5)).mono ?_⟩
  rintro e W6 ⟨rfl, hb6⟩
  have hB6 := bnx hB5 hb6
  gi_wp2_with fail
  refine ⟨trivial, (callsIn_wide.2 (down_calls 95 low W6)).mono ?_⟩
  rintro e W7 ⟨rfl, hw7⟩
  have hb7 : Below W6.heap.size W6 W7 := by rw [hw7]; exact ((Below.refl _ _).alloc (Nat.le_refl _) _).alloc (by simp) _
  have d1 : W7.cell? ⟨W6.heap.size, 0, none⟩ = some (.int .i64 95) := by rw [hw7]; simp
  have d2 : W7.cell? ⟨W6.heap.size + 1, 0, none⟩ = some (.int .i64 low) := by rw [hw7]; simp
  have s7 : W7.heap.size = W6.heap.size + 2 := by rw [hw7]; simp
  have hb47 : Below W4.heap.size W4 W7 := bnx (bnx hb5 hb6) hb7
  have hB7 := bnx hB4 hb47
  replace a0 := cnx a0 hb47
  replace a1 := cnx a1 hb47
  replace a2 := cnx a2 hb47
  replace a3 := cnx a3 hb47
  replace f2 := (hb47.frozen (p := ⟨w.heap.size + 1 + 1, 0, none⟩) (by simp; omega)).trans f2
  replace f3 := (hb47.frozen (p := ⟨w.heap.size + 1 + 1 + 1, 0, none⟩) (by simp; omega)).trans f3
  have l3 : w.heap.size + 3 < W7.heap.size := by have := hb47.size; omega
  replace s7 := Aside0.mk s7
  clear hw7 b0 s4 hb5 hb6 hb7 hB5 hb47
  gi_wp2_with fail
  have hmo : Try.prog.follows .mixedOrders = true := by kernel_rfl
  refine wpIn_rangeFunc_ownF rfl (by omega) (gf := 74) (lb := #[.pointer (some ⟨W6.heap.size, 0, none⟩), .pointer (some ⟨W6.heap.size + 1, 0, none⟩)]) rfl trivial (enters_of Try.func74 (by kernel_rfl) rfl)
    (down1_stops Fence.wide _ trivial rfl (by omega) W6.heap.size (W6.heap.size + 1) W7.heap.size low hlb.1 hlb.2 W7 (by have := s7.out; omega) (by have := s7.out; omega) d1 d2) belowK_t (belowK_b (Nat.le_refl _)) (Below.refl _ _) (fun _ => rfl)
    (fun pre W => AllHi l limit pre ∧ Below W7.heap.size W7 W)
    (fun c pre W => Hit l limit w.heap.size c pre W ∧ Below w.heap.size w W)
    (OwnFrom.and (ownFrom_pure _ _) (ownFrom_below (Nat.le_refl _) (Nat.le_refl _)))
    (fun c => OwnFrom.and (hit_own _ _ _ _ _) (ownFrom_below (Nat.le_refl _) hB7.size))
    ⟨fun s hs => by simp at hs, Below.refl _ _⟩
    (fun s => { tmps := #[.slice A l.length cap, .int .i64 limit, .pointer (some ⟨w.heap.size, 0, none⟩), .pointer (some ⟨w.heap.size + 1, 0, none⟩), .pointer (some ⟨w.heap.size + 1 + 1, 0, none⟩), .pointer (some ⟨w.heap.size + 1 + 1 + 1, 0, none⟩), .int .i64 0, .int .i64 s.1, .int .i64 limit, .bool false, .bool false, .int .i64 limit, .bool false, .bool false, .slice A l.length cap, .int .i64 0, .int .i64 0, .bool false, undef, .slice A l.length cap, .int .i64 low, .func (.func 74) #[] #[.pointer (some ⟨W6.heap.size, 0, none⟩), .pointer (some ⟨W6.heap.size + 1, 0, none⟩)], .int .i64 s.1, undef, undef, undef, undef, undef, undef, undef, undef], defers := [] }) ?assign ?body ?done ?stop
  case assign =>
    intro l x W K hK
    gi_wp2
    exact hK
  case body =>
    rintro lp pre x W ⟨hpre, hb⟩ _
    have HX := HE.out x.1 x.2.1 x.2.2
    have HNX := fun W hb => HN.out x.1 x.2.1 x.2.2 W hb
    have HWX := fun w => with_calls x.1 w x.2.1 x.2.2
    have e0 := cnx a0 hb
    have e1 := cnx a1 hb
    have e2 := cnx a2 hb
    have e3 := cnx a3 hb
    have g2 := (hb.frozen (p := ⟨w.heap.size + 1 + 1, 0, none⟩) (by simp; omega)).trans f2
    have g3 := (hb.frozen (p := ⟨w.heap.size + 1 + 1 + 1, 0, none⟩) (by simp; omega)).trans f3
    have hbw := bnx hB7 hb
    obtain ⟨st, hst⟩ : ∃ st, st = stepI x.1 := ⟨_, rfl⟩
    rw [← hst] at HX HNX HWX
    replace HX := Aside0.mk HX
    replace HNX := Aside0.mk HNX
    replace HWX := Aside0.mk HWX
    have HST := Aside0.mk hst
    have HPRE := Aside0.mk hpre
    clear hst hpre a0 a1 a2 a3 f2 f3
    gi_wp2_with fail
    have hz0 := noiseI_bd (x := st)
    obtain ⟨N, hN⟩ : ∃ N, N = noiseTo st limit 0 l := ⟨_, rfl⟩
    rw [← hN] at HX HNX
    clear hN hz0
    refine Held.wpIn_region_held (fun w' => w'.cell? ⟨w.heap.size, 0, none⟩ = some (.slice A l.length cap) ∧ w'.cell? ⟨w.heap.size + 1, 0, none⟩ = some (.int .i64 limit) ∧ Below W.heap.size W w') hmo (by kernel_rfl) (fun ⟨_, _, h⟩ => h) ⟨e0, e1, (Below.refl _ _).drew⟩ (fun hHeld => ?_)
    (refine wpAnyH_take (i := 0) (v := .int .i64 x.1) rfl (by kernel_rfl) (by kernel_rfl) (by kernel_rfl) (fun _ _ _ h => h) (Or.inl ⟨by rfl, fun wS hS => (by (try dsimp only at hS); go_simp)⟩) hHeld ?_; simp only [Act.put, List.setIfInBounds_toArray, List.set_cons_zero, List.set_cons_succ])
    (refine wpAnyH_take (i := 2) (v := .slice A l.length cap) rfl (by kernel_rfl) (by kernel_rfl) (by kernel_rfl) (fun _ _ _ h => h) (Or.inl ⟨by rfl, fun wS hS => (by (try dsimp only at hS); go_simp)⟩) hHeld ?_; simp only [Act.put, List.setIfInBounds_toArray, List.set_cons_zero, List.set_cons_succ])
    (refine wpAnyH_take (i := 3) (v := .int .i64 limit) rfl (by kernel_rfl) (by kernel_rfl) (by kernel_rfl) (fun _ _ _ h => h) (Or.inl ⟨by rfl, fun wS hS => (by (try dsimp only at hS); go_simp)⟩) hHeld ?_; simp only [Act.put, List.setIfInBounds_toArray, List.set_cons_zero, List.set_cons_succ])
    (refine wpAnyH_take (i := 5) (v := .int .i64 limit) rfl (by kernel_rfl) (by kernel_rfl) (by kernel_rfl) (fun _ _ _ h => h) (Or.inl ⟨by rfl, fun wS hS => (by (try dsimp only at hS); go_simp)⟩) hHeld ?_; simp only [Act.put, List.setIfInBounds_toArray, List.set_cons_zero, List.set_cons_succ])
    (refine wpAnyH_ready (rs := [1]) (by kernel_rfl) (by simp) ?_; refine AllReadyH.cons rfl (fun K hK => ?_) AllReadyH.nil; go_simp)
    refine (HWX.out _).mono ?_
    rintro e w1 ⟨rfl, hb1⟩
    (go_wp2_with fail; refine hK.out _ _ (⟨cnx hHeld.1 hb1, cnx hHeld.2.1 hb1, bnx hHeld.2.2 hb1⟩) (fun hHeld => ?_); clear hK K; try simp only [Act.put, List.setIfInBounds_toArray, List.set_cons_zero, List.set_cons_succ])
    (refine wpAnyH_ready (rs := [4]) (by kernel_rfl) (by simp) ?_; refine AllReadyH.cons rfl (fun K hK => ?_) AllReadyH.nil; go_simp)
    refine (HNX.out _ (bnx hbw hHeld.2.2)).mono ?_
    rintro e w2 ⟨rfl, hb2⟩
    (go_wp2_with fail; refine hK.out _ _ (⟨cnx hHeld.1 hb2, cnx hHeld.2.1 hb2, bnx hHeld.2.2 hb2⟩) (fun hHeld => ?_); clear hK K; try simp only [Act.put, List.setIfInBounds_toArray, List.set_cons_zero, List.set_cons_succ])
    (refine wpAnyH_take (i := 6) (v := .bool (decide (N ≤ limit))) rfl (by kernel_rfl) (by kernel_rfl) (by kernel_rfl) (fun _ _ _ h => h) (Or.inl ⟨by rfl, fun wS hS => (by (try dsimp only at hS); go_simp)⟩) hHeld ?_; simp only [Act.put, List.setIfInBounds_toArray, List.set_cons_zero, List.set_cons_succ])
    refine wpAnyH_done (by kernel_rfl) ?_ _
    have hW := hHeld.2.2
    have q2 := cnx e2 hW
    have q3 := cnx e3 hW
    have k2 := (hW.frozen (p := ⟨w.heap.size + 1 + 1, 0, none⟩) (by simp; have := hb.size; omega)).trans g2
    have k3 := (hW.frozen (p := ⟨w.heap.size + 1 + 1 + 1, 0, none⟩) (by simp; have := hb.size; omega)).trans g3
    have hW2 := bnx hb hW
    have hW3 := bnx hbw hW
    by_cases hle : N ≤ limit
    · have HZ : Aside0 (noiseI (stepI x.1) l ≤ limit) := ⟨by rw [← HST.out]; have := HX.out.1 hle; omega⟩
      clear e0 e1 e2 e3 g2 g3 hHeld
      have s2 := (Below.refl w.heap.size w2)
      gi_wp2
      refine ⟨KeepsOthers.trans (keeps_below hW) (KeepsOthers.trans (KeepsOthers.setCell _ _ _) (KeepsOthers.setCell _ _ _)), ⟨rfl, pre, x, rfl, HPRE.out, HZ.out, ?_, ?_⟩, ?_⟩
      · rw [World.cell?_setCell_far _ _ _ _ (by simp)]; exact World.cell?_setCell_same' _ _ _ (by rw [q2]; rfl)
      · exact World.cell?_setCell_same' _ _ _ (by rw [World.cell?_setCell_far _ _ _ _ (by simp)]; rw [q3]; rfl)
      · exact (hW3.setCell (p := ⟨w.heap.size + 1 + 1, 0, none⟩) (by simp; omega) _).setCell (p := ⟨w.heap.size + 1 + 1 + 1, 0, none⟩) (by simp; omega) _
    · have HZ : Aside0 (¬ noiseI (stepI x.1) l ≤ limit) := ⟨by rw [← HST.out]; have := HX.out; omega⟩
      have hle' : limit < N := by omega
      clear e0 e1 e2 e3 g2 g3 hHeld
      gi_wp2
      refine ⟨keeps_below hW, hW.mono hb.size, fun s hs' => ?_, hW2⟩
      rcases List.mem_append.1 hs' with hs' | hs'
      · exact HPRE.out s hs'
      · rw [List.mem_singleton.1 hs']; have := HZ.out; omega
  case done =>
    rintro D xs W hD hxs ⟨hpre, hb⟩ hK
    have hnone : mostI l limit = none := by
      rw [HI.out, ← hxs]
      rw [List.find?_eq_none]
      intro y hy
      obtain ⟨s, hs, rfl⟩ := List.mem_map.1 hy
      have := hpre s hs
      simpa using this
    have hR := HM.out
    rw [hnone] at hR
    have HR := Aside0.mk hR
    have e2 := cnx a2 hb
    have e3 := cnx a3 hb
    have g2 := (hb.frozen (p := ⟨w.heap.size + 1 + 1, 0, none⟩) (by simp; omega)).trans f2
    have g3 := (hb.frozen (p := ⟨w.heap.size + 1 + 1 + 1, 0, none⟩) (by simp; omega)).trans f3
    have hbw := bnx hB7 hb
    have HXS := Aside0.mk hxs
    have HPRE := Aside0.mk hpre
    clear hnone hR hxs hpre a0 a1 a2 a3 f2 f3
    gi_wp2
    have hk1 := (KeepsOthers.trans (KeepsOthers.setCell W ⟨w.heap.size + 1 + 1, 0, none⟩ (.int .i64 0)) (KeepsOthers.setCell _ ⟨w.heap.size + 1 + 1 + 1, 0, none⟩ (.int .i64 5))).same D _ hK rfl
    have c2 : ((W.setCell ⟨w.heap.size + 1 + 1, 0, none⟩ (.int .i64 0)).setCell ⟨w.heap.size + 1 + 1 + 1, 0, none⟩ (.int .i64 5)).cell? ⟨w.heap.size + 1 + 1, 0, none⟩ = some (.int .i64 0) := by
      rw [World.cell?_setCell_far _ _ _ _ (by simp)]; exact World.cell?_setCell_same' _ _ _ (by rw [e2]; rfl)
    have c3 : ((W.setCell ⟨w.heap.size + 1 + 1, 0, none⟩ (.int .i64 0)).setCell ⟨w.heap.size + 1 + 1 + 1, 0, none⟩ (.int .i64 5)).cell? ⟨w.heap.size + 1 + 1 + 1, 0, none⟩ = some (.int .i64 5) :=
      World.cell?_setCell_same' _ _ _ (by rw [World.cell?_setCell_far _ _ _ _ (by simp)]; rw [e3]; rfl)
    have hc2 := cell_kept c2 (grownBy_putObj' _ D (.deferred none)) (fun r e => by cases e; exact ⟨_, hk1, rfl⟩)
    have hc3 := cell_kept c3 (grownBy_putObj' _ D (.deferred none)) (fun r e => by cases e; exact ⟨_, hk1, rfl⟩)
    refine ⟨by simp, .inl ⟨_, _, rfl, run_takeDeferred hk1, ?_⟩⟩
    refine ⟨.tuple #[.int .i64 0, .int .i64 5], by simp [results, Try.f27, go_sem, hc2, hc3], by rw [HR.out], ?_⟩
    exact ((hbw.setCell (p := ⟨w.heap.size + 1 + 1, 0, none⟩) (by simp; omega) _).setCell (p := ⟨w.heap.size + 1 + 1 + 1, 0, none⟩) (by simp; omega) _).grown (grownBy_putObj' _ D (.deferred none)) (by simp; have := hbw.size; omega) (fun k e => by cases e; have := hB7.size; omega)
  case stop =>
    rintro D c pre W hD hpre ⟨⟨rfl, p, s, rfl, hp, hsn, c2, c3⟩, hb⟩ hK
    have hsome : mostI l limit = some s.1 := by
      rw [HI.out]
      obtain ⟨t, ht⟩ := hpre
      rw [← ht, List.map_append, List.map_cons, List.map_nil, List.append_assoc, List.find?_append]
      have h1 : (p.map (·.1)).find? (fun s => decide (noiseI (stepI s) l ≤ limit)) = none := by
        rw [List.find?_eq_none]
        intro y hy
        obtain ⟨s', hs', rfl⟩ := List.mem_map.1 hy
        have := hp s' hs'
        simpa using this
      rw [h1, List.singleton_append, List.find?_cons_of_pos (by simpa using hsn)]
      rfl
    have hR := HM.out
    rw [hsome] at hR
    have HR := Aside0.mk hR
    clear hsome hR hp hpre
    gi_wp2
    have hc2 := cell_kept c2 (grownBy_putObj' _ D (.deferred none)) (fun r e => by cases e; exact ⟨_, hK, rfl⟩)
    have hc3 := cell_kept c3 (grownBy_putObj' _ D (.deferred none)) (fun r e => by cases e; exact ⟨_, hK, rfl⟩)
    refine ⟨by simp, .inl ⟨_, _, rfl, run_takeDeferred hK, ?_⟩⟩
    refine ⟨.tuple #[.int .i64 s.1, .int .i64 0], by simp [results, Try.f27, go_sem, hc2, hc3], by rw [HR.out], ?_⟩
    exact hb.grown (grownBy_putObj' _ D (.deferred none)) hb.size (fun k e => by cases e; have := hB7.size; omega)

set_option maxRecDepth 100000 in
set_option maxHeartbeats 1000000 in
theorem Most_no (A : Option Addr) (cap : Nat) (l : List Int) (limit : Int) (w : World) (hr : (Kd.int .i64).C w A l.length l) (h0 : 0 ≤ limit) (h1 : limit ≤ 72057594037927936) (hk : chk isC l 0 ≠ 0) :
    Calls Try.prog 27 #[.slice A l.length cap, .int .i64 limit] w fun e w' => e = .returned (.tuple #[.int .i64 0, .int .i64 (chk isC l 0)]) ∧ Below w.heap.size w w' := by
  obtain ⟨e0, he0⟩ : ∃ e0, e0 = chk isC l 0 := ⟨_, rfl⟩
  have HC := fun W hb => check_calls 37 isC A cap l 0 W (fun _ _ => by kernel_rfl) (Kd.C_below hr hb) fn_isC
  rw [← he0] at HC hk ⊢
  replace HC := Aside0.mk HC
  have hk' : (e0 == 0) = false := beq_eq_false_iff_ne.2 hk
  have hd1 : decide (limit < 0) = false := by simp; omega
  have hd2 : decide (72057594037927936 < limit) = false := by simp; omega
  obtain ⟨W4, hW4⟩ : ∃ W4, W4 = (((w.alloc (.cells #[.slice A l.length cap] 28)).alloc (.cells #[.int .i64 limit] 3)).alloc (.cells #[.int .i64 0] 3)).alloc (.cells #[.int .i64 0] 22) := ⟨_, rfl⟩
  have hB4 : Below w.heap.size w W4 := by rw [hW4]; exact ((((Below.refl _ _).alloc (Nat.le_refl _) _).alloc (by simp) _).alloc (by simp; omega) _).alloc (by simp; omega) _
  have x2 := cell_new_l ((w.alloc (.cells #[.slice A l.length cap] 28)).alloc (.cells #[.int .i64 limit] 3)) (.int .i64 0) 3
  have x3 := cell_new_l (((w.alloc (.cells #[.slice A l.length cap] 28)).alloc (.cells #[.int .i64 limit] 3)).alloc (.cells #[.int .i64 0] 3)) (.int .i64 0) 22
  simp only [World.size_alloc] at x2 x3
  have a2 : W4.cell? ⟨w.heap.size + 1 + 1, 0, none⟩ = some (.int .i64 0) := by rw [hW4]; exact cell_alloc_l _ x2.1
  have a3 : W4.cell? ⟨w.heap.size + 1 + 1 + 1, 0, none⟩ = some (.int .i64 0) := by rw [hW4]; exact x3.1
  have f2 : W4.frozen? ⟨w.heap.size + 1 + 1, 0, none⟩ = false := by rw [hW4]; exact frozen_alloc_l _ x2.1 x2.2
  have f3 : W4.frozen? ⟨w.heap.size + 1 + 1 + 1, 0, none⟩ = false := by rw [hW4]; exact x3.2
  have s4 : w.heap.size + 3 < W4.heap.size := by rw [hW4]; simp
  clear x2 x3 he0 hr
  go_enter Try.func27, Try.ntmps27
  go_wp2_with fail
  rw [← hW4]
  clear hW4
  refine (HC.out W4 hB4).mono ?_
  rintro e W5 ⟨rfl, hb5⟩
  have hB5 := bnx hB4 hb5
  replace f2 := (hb5.frozen (p := ⟨w.heap.size + 1 + 1, 0, none⟩) (by simp; omega)).trans f2
  replace f3 := (hb5.frozen (p := ⟨w.heap.size + 1 + 1 + 1, 0, none⟩) (by simp; omega)).trans f3
  replace a2 := cnx a2 hb5
  replace a3 := cnx a3 hb5
  go_wp2
  have c2 : ((W5.setCell ⟨w.heap.size + 1 + 1, 0, none⟩ (.int .i64 0)).setCell ⟨w.heap.size + 1 + 1 + 1, 0, none⟩ (.int .i64 e0)).cell? ⟨w.heap.size + 1 + 1, 0, none⟩ = some (.int .i64 0) := by
    rw [World.cell?_setCell_far _ _ _ _ (by simp)]; exact World.cell?_setCell_same' _ _ _ (by rw [a2]; rfl)
  have c3 : ((W5.setCell ⟨w.heap.size + 1 + 1, 0, none⟩ (.int .i64 0)).setCell ⟨w.heap.size + 1 + 1 + 1, 0, none⟩ (.int .i64 e0)).cell? ⟨w.heap.size + 1 + 1 + 1, 0, none⟩ = some (.int .i64 e0) :=
    World.cell?_setCell_same' _ _ _ (by rw [World.cell?_setCell_far _ _ _ _ (by simp)]; rw [a3]; rfl)
  refine bodyPost_ret (v := .tuple #[.int .i64 0, .int .i64 e0]) (by simp [results, Try.f27, go_sem, c2, c3]) rfl ⟨rfl, ?_⟩
  exact (hB5.setCell (p := ⟨w.heap.size + 1 + 1, 0, none⟩) (by simp; omega) _).setCell (p := ⟨w.heap.size + 1 + 1 + 1, 0, none⟩) (by simp; omega) _

theorem Most_calls (A : Option Addr) (cap : Nat) (l : List Int) (limit : Int) (w : World) (hr : (Kd.int .i64).C w A l.length l) :
    Calls Try.prog 27 #[.slice A l.length cap, .int .i64 limit] w fun e w' => e = .returned (mostR l limit) ∧ Below w.heap.size w w' := by
  by_cases h : limit < 0 ∨ 72057594037927936 < limit
  · unfold mostR
    rw [if_pos h]
    exact Most_arg A cap l limit w h
  · by_cases hk : chk isC l 0 = 0
    · exact Most_yes A cap l limit w hr (by omega) (by omega) hk
    · unfold mostR
      rw [if_neg h, if_neg hk]
      exact Most_no A cap l limit w hr (by omega) (by omega) hk

end Go.Proofs.Ytglpdojccncjjaa.Q15
