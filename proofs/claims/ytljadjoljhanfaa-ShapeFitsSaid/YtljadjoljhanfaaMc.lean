/- A region that draws its order, inside a round of a range over a function: by the plain walk's own words. -/
import Derived.RangeFuncNested
import Derived.RangeFuncCalls
import Derived.Deep.RegionHeld3
import Derived.OrdersIn
import Derived.RegionIn
import Derived.Test.YtljadjoljhanfaaMa
import Derived.Test.YtljadjoljhanfaaMb
import Derived.RangeFuncNested
import Derived.RangeFuncBound
import Derived.RangeFuncCalls
import Derived.RangeFuncLeaves
import Derived.Shelf.Abstract
import Derived.Shelf.RegionOpen
import Derived.OwnWalkIn
import Derived.TacticsInMore
import Derived.LoopNIn
import Derived.LoopIn
import Derived.WalkKit
import Derived.WalkSpells
import Derived.WalkLawsBesides
import Derived.KernelRfl
import Derived.Deep.RegionHeld3
import Derived.Deep.LoopGhost
import Derived.Deep.AppendLies
import Derived.Laws.Rows
import Derived.Shelf.GgClosure.Gives
import Derived.Test.YtljadjoljhanfaaWWords
import Derived.Test.YtljadjoljhanfaaWLast
import Derived.Test.YtljadjoljhanfaaWMore
set_option linter.unusedVariables false
set_option linter.unusedSimpArgs false
namespace Go.Proofs.Ytljadjoljhanfaa.Held
open Go

/-- No operation is a defer. -/
def noDefer (ops : Array Oper) : Bool := ops.toList.all fun o => match o.op with | .defer _ => false | _ => true
theorem noDefer_spec {ops : Array Oper} (h : noDefer ops = true) {i : Nat} {o : Oper} (ho : ops[i]? = some o) : ∀ c, o.op ≠ .defer c := by
  intro c hc
  have hm : o ∈ ops.toList := by
    rw [Array.getElem?_eq_some_iff] at ho
    obtain ⟨hi, rfl⟩ := ho
    exact Array.getElem_mem_toList hi
  have := List.all_eq_true.1 h o hm
  rw [hc] at this
  cases this
theorem rows_wide {l n : Nat} {P : Program} {row : String} {args : Array Value} {w : World} {R : Value → World → Prop} (h : Rows P row args w R) : RowsIn (Fence.wide.inRound l) n P row args w R :=
  fun c cs _ => let ⟨v, w', r, s⟩ := h c cs; ⟨v, w', r, by
    have : StepsIn (Machine.fenced P Fence.wide) P (lone (Frame.ofRow P row args .normal) (c :: cs) w) (lone (c.finish v) cs w') := stepsIn_wide.2 s
    exact this⟩
theorem upon_wide {l n : Nat} {P : Program} {o : Oper} {a : Act} {K K' : Act → World → Prop} {Q : Exit → Act → World → Prop} (hK : ∀ a w, K a w → K' a w) : ∀ r : Result Next, o.upon P a K Q r → o.uponIn (Fence.wide.inRound l) n P a K' Q r := by
  intro r h
  cases r with
  | ok x w' =>
    cases x
    case enter f args =>
      simp only [Oper.upon, Oper.uponIn] at h ⊢
      refine ⟨fun hd => (by cases hd), CallsIn.inRound l (callsIn_wide.2 (Calls.mono h ?_))⟩
      intro e w'' he
      cases e
      · exact hK _ _ he
      · exact he
      · exact he
    case row row args =>
      simp only [Oper.upon, Oper.uponIn] at h ⊢
      exact ⟨fun hd => (by cases hd), rows_wide (Rows.mono h (fun _ _ he => hK _ _ he))⟩
    all_goals
      simp only [Oper.upon, Oper.uponIn] at h ⊢ <;> first | exact hK _ _ h | exact h.elim
  | halt x w' => cases x <;> simp only [Oper.upon, Oper.uponIn] at h ⊢ <;> exact h
theorem wpOp_wide {l n : Nat} {P : Program} {ops : Array Oper} {Q : Exit → Act → World → Prop} (hd : noDefer ops = true) (hq : ¬ LetsOut Q) {i : Nat} {K K' : Act → World → Prop} (hK : ∀ a w, K a w → K' a w) {a : Act} {w : World}
    (h : wpOp P ops Q i K a w) : wpOpIn (Fence.wide.inRound l) n P ops Q i K' a w := by
  unfold wpOp at h
  unfold wpOpIn
  cases ho : ops[i]? with
  | none => rw [ho] at h; exact hK _ _ h
  | some o =>
    rw [ho] at h
    dsimp only at h ⊢
    split at h
    · rename_i hw
      rw [if_pos hw]
      rcases h with h | h
      · refine ⟨fun _ _ => trivial, ?_⟩
        rw [Oper.semAt_eq _ _ _ (noDefer_spec hd ho)]
        exact upon_wide hK _ h
      · exact absurd h.2 hq
    · rename_i hw
      rw [if_neg hw]
      exact ⟨fun _ _ => trivial, hK _ _ h⟩
theorem wpAny_wide {l n : Nat} {P : Program} {md : Region.Mode} {ops : Array Oper} {Q : Exit → Act → World → Prop} (hd : noDefer ops = true) (hq : ¬ LetsOut Q) : ∀ (fuel : Nat) (listed : Array Bool) (a : Act) (w : World),
    wpAny P md ops Q fuel listed a w → wpAnyIn (Fence.wide.inRound l) n P md ops Q fuel listed a w
  | 0, _, _, _, h => h
  | fuel + 1, _, _, _, h => ⟨h.1, fun i hi => wpOp_wide hd hq (fun a w h => wpAny_wide hd hq fuel _ a w h) (h.2 i hi)⟩
/-- **THE REGION, IN A ROUND.** -/
theorem wpIn_region_held {l n : Nat} {P : Program} {id : Nat} {ops : Array Oper} {Q : Exit → Act → World → Prop} {a : Act} {w : World} (S : World → Prop) (hm : P.follows .mixedOrders = true) (hd : noDefer ops = true) (hq : ¬ LetsOut Q)
    (hS : S w.drew) (h : S w.drew → wpAnyH P .any ops Q S ops.size (Array.replicate ops.size false) a w.drew) : (Code.region id ops true).wpIn (Fence.wide.inRound l) n P Q a w :=
  wpIn_region_any hm (wpAny_wide hd hq _ _ _ _ (wpAny_of_held _ _ _ _ (h hS)))

end Go.Proofs.Ytljadjoljhanfaa.Held
/- What each function of package quant returns: Most. -/
namespace Go.Proofs.Ytljadjoljhanfaa.Q15
open Go.RowKit Go.Proofs.YtljadjoljhanfaaW.PrintWords Go.Proofs.YtljadjoljhanfaaW.PrintLast Go.Proofs.YtljadjoljhanfaaW.PrintMore
attribute [local go_sem] max2_int min2_int max_two min_two max_three min_three
open Go.Shelf
attribute [local go_sem] Oper.semAt_some

abbrev Sc := { s : Int // 0 ≤ s ∧ s ≤ 95 }

set_option maxRecDepth 100000 in
set_option maxHeartbeats 1000000 in
theorem down1_stops (F : Fence) (n : Nat) (hF : F.fn 94) (hro : F.round = none) (hn : 1 ≤ n) (B1 B2 n0 : Nat) (b : Int) (hb0 : 0 ≤ b) (hb1 : b ≤ 95) (w : World) (l1 : B1 < n0) (l2 : B2 < n0) (c1 : w.cell? ⟨B1, 0, none⟩ = some (.int .i64 95)) (c2 : w.cell? ⟨B2, 0, none⟩ = some (.int .i64 b)) :
    SeqStopsK F n Try.prog 94 #[.pointer (some ⟨B1, 0, none⟩), .pointer (some ⟨B2, 0, none⟩)] (fun s : Sc => #[.int .i64 s.1]) (Below n0) (fun xs => xs.map (·.1) = downL 95 b) (fun pre => pre.map (·.1) <+: downL 95 b) 96 w := fun l J Jx W hW hJ hJx hY h0 => by
  have d1 := cnx c1 hW
  have d2 := cnx c2 hW
  refine callsIn_of_wp Try.func94 rfl hF ?_ hro
  simp only [Try.ntmps94, List.size_toArray, List.length_cons, List.length_nil, Nat.reduceAdd, Nat.reduceSub, Array.replicate_succ, Array.replicate_zero, List.push_toArray, List.append_toArray, List.nil_append, List.cons_append]
  gi_wp2
  have HY := Aside0.mk hY
  clear hY c1 c2
  gi_loopw [4] (fun s wr => ∃ (z : Int) (pre : List Sc), s = .int .i64 z ∧ b - 1 ≤ z ∧ z ≤ 95 ∧ Aside0 (pre.map (·.1) ++ downL z b = downL 95 b) ∧ Aside0 ((pre.length : Int) = 95 - z) ∧ Below n0 W wr ∧ Aside0 (J pre wr)) (fun s _ => (intOf s + 1).toNat)
  case atStart => exact ⟨95, [], rfl, by omega, by omega, ⟨by simp⟩, ⟨by simp⟩, Below.refl _ _, ⟨h0⟩⟩
  case round =>
    obtain ⟨z, pre, rfl, hz0, hz1, hpre, hlen, hb, hJs⟩ := hrel
    have e1 := (hb.cell (p := ⟨B1, 0, none⟩) l1).trans d1
    have e2 := (hb.cell (p := ⟨B2, 0, none⟩) l2).trans d2
    by_cases hlt : b ≤ z
    · obtain ⟨fn, tmps, assign, body, hy, hR⟩ := HY.out pre ⟨z, by omega, hz1⟩ wr hJs.out (by have := hlen.out; omega)
      have HD : Aside0 ((pre ++ [⟨z, by omega, hz1⟩] : List Sc).map (·.1) ++ downL (z - 1) b = downL 95 b) := ⟨by rw [← hpre.out, downL_cons hlt]; simp⟩
      have hR2 := Aside0.mk hR
      clear hR
      gi_wp2
      refine hR2.out.mono ?_
      rintro e W3 (⟨rfl, hJ3, hk3⟩ | ⟨rfl, hJx3⟩)
      · have HJ3 := Aside0.mk hJ3
        clear hJ3 hR2
        gi_wp2
        go_roundw
        case rel => exact ⟨z - 1, _, rfl, by omega, by omega, HD, ⟨by have := hlen.out; simp; omega⟩, hb.trans hk3, HJ3⟩
        case measure => simp [intOf]; omega
      · have HJ3 := Aside0.mk hJx3
        clear hJx3 hR2
        gi_wp2
        refine bodyPost_ret (results_none rfl _ _ _) rfl ?_
        exact ⟨⟨_, rfl⟩, .inr ⟨_, ⟨_, HD.out⟩, HJ3.out⟩⟩
    · obtain rfl : z = b - 1 := by omega
      gi_wp2
      go_end0
      refine ⟨⟨_, rfl⟩, .inl ⟨pre, ?_, hJs.out⟩⟩
      have := hpre.out
      rwa [downL_nil (by omega), List.append_nil] at this

set_option maxHeartbeats 400000 in
theorem down_calls (a b : Int) (w : World) :
    Calls Try.prog 69 #[.int .i64 a, .int .i64 b] w fun e w' => e = .returned (.func (.func 94) #[] #[.pointer (some ⟨w.heap.size, 0, none⟩), .pointer (some ⟨w.heap.size + 1, 0, none⟩)]) ∧ w' = (w.alloc (.cells #[.int .i64 a] 3)).alloc (.cells #[.int .i64 b] 3) := by
  go_enter Try.func69, Try.ntmps69
  go_wp2
  go_ret
  exact ⟨rfl, rfl⟩

end Go.Proofs.Ytljadjoljhanfaa.Q15
/- What each function of package quant returns: Most. -/
namespace Go.Proofs.Ytljadjoljhanfaa.Q15
open Go.RowKit Go.Proofs.YtljadjoljhanfaaW.PrintWords Go.Proofs.YtljadjoljhanfaaW.PrintLast Go.Proofs.YtljadjoljhanfaaW.PrintMore
attribute [local go_sem] max2_int min2_int max_two min_two max_three min_three
open Go.Shelf
attribute [local go_sem] Oper.semAt_some

theorem cell_new_l (W : World) (v : Value) (t : TypeId) : (W.alloc (.cells #[v] t)).cell? ⟨W.heap.size, 0, none⟩ = some v ∧ (W.alloc (.cells #[v] t)).frozen? ⟨W.heap.size, 0, none⟩ = false := by
  have h := heap_alloc_new W (.cells #[v] t)
  exact ⟨by unfold World.cell?; rw [h]; rfl, by unfold World.frozen?; rw [h]; rfl⟩
theorem cell_alloc_l {W : World} {a : Addr} {v : Value} (o : Obj) (h : W.cell? a = some v) : (W.alloc o).cell? a = some v := cnx h ((Below.refl _ _).alloc (Nat.le_refl _) o)
theorem frozen_alloc_l {W : World} {a : Addr} {v : Value} (o : Obj) (h : W.cell? a = some v) (hf : W.frozen? a = false) : (W.alloc o).frozen? a = false :=
  (((Below.refl _ W).alloc (Nat.le_refl _) o).frozen (World.block_lt_of_cell? W _ h)).trans hf
def AllHi (l : List Int) (limit : Int) (pre : List Sc) : Prop := ∀ s ∈ pre, ¬ noiseI (stepI s.1) l ≤ limit
def Hit (l : List Int) (limit : Int) (B : Nat) (c : Code) (pre : List Sc) (W : World) : Prop :=
  c = .ret ∧ ∃ p, ∃ s : Sc, pre = p ++ [s] ∧ AllHi l limit p ∧ noiseI (stepI s.1) l ≤ limit ∧ W.cell? ⟨B + 1 + 1, 0, none⟩ = some (.int .i64 s.1) ∧ W.cell? ⟨B + 1 + 1 + 1, 0, none⟩ = some (.int .i64 0)
theorem hit_own (l : List Int) (limit : Int) (B D : Nat) (c : Code) : OwnFrom D (fun pre W => Hit l limit B c pre W) := fun pre W W' row hs hg hr => by
  obtain ⟨h, p, s, e1, e2, e3, e4, e5⟩ := hs
  exact ⟨h, p, s, e1, e2, e3, cell_kept e4 hg (fun r e => (hr r e).2), cell_kept e5 hg (fun r e => (hr r e).2)⟩
theorem keeps_below {W W' : World} (h : Below W.heap.size W W') : KeepsOthers W W' := ⟨h.size, fun k _ hk _ => (h.block k (Array.getElem?_eq_some_iff.1 hk).1).trans hk⟩

set_option maxRecDepth 100000 in
set_option maxHeartbeats 1000000 in
theorem Most_arg (A : Option Addr) (cap : Nat) (l : List Int) (limit : Int) (w : World) (h : limit < 0 ∨ 72057594037927936 < limit) :
    Calls Try.prog 35 #[.slice A l.length cap, .int .i64 limit] w fun e w' => e = .returned (.tuple #[.int .i64 0, .int .i64 1]) ∧ Below w.heap.size w w' := by
  rcases h with h | h
  · go_enter Try.func35, Try.ntmps35
    go_wp2
    exact bodyPost_ret (v := .tuple #[.int .i64 0, .int .i64 1]) (by simp [results, Try.f35, go_sem]) rfl ⟨rfl, ((((Below.refl _ _).alloc (Nat.le_refl _) _).alloc (by simp) _).alloc (by simp; omega) _).alloc (by simp; omega) _⟩
  · have hd : decide (limit < 0) = false := by simp; omega
    go_enter Try.func35, Try.ntmps35
    go_wp2
    exact bodyPost_ret (v := .tuple #[.int .i64 0, .int .i64 1]) (by simp [results, Try.f35, go_sem]) rfl ⟨rfl, ((((Below.refl _ _).alloc (Nat.le_refl _) _).alloc (by simp) _).alloc (by simp; omega) _).alloc (by simp; omega) _⟩

set_option maxRecDepth 100000 in
set_option maxHeartbeats 1000000 in
theorem Most_yes (A : Option Addr) (cap : Nat) (l : List Int) (limit : Int) (w : World) (hr : (Kd.int .i64).C w A l.length l) (h0 : 0 ≤ limit) (h1 : limit ≤ 72057594037927936) (hk : chk isC l 0 = 0) :
    Calls Try.prog 35 #[.slice A l.length cap, .int .i64 limit] w fun e w' => e = .returned (mostR l limit) ∧ Below w.heap.size w w' := by
  obtain ⟨hs, hl, hp⟩ := chk_zero hk
  have HC := fun W hb => check_calls 68 isC A cap l 0 W (fun _ _ => by kernel_rfl) (Kd.C_below hr hb) fn_isC
  rw [hk] at HC
  replace HC := Aside0.mk HC
  have HL := fun W hb => least_calls A cap l W (Kd.C_below hr hb) (by omega) (fun n hn => isC_bd (hp n hn))
  have hlb : 0 ≤ leastI l ∧ leastI l ≤ 95 := leastT_bd _
  obtain ⟨low, hlow⟩ : ∃ low, low = leastI l := ⟨_, rfl⟩
  rw [← hlow] at HL hlb
  replace HL := Aside0.mk HL
  have hd1 : decide (limit < 0) = false := by simp; omega
  have hd2 : decide (72057594037927936 < limit) = false := by simp; omega
  have HN := fun s (s0 : 0 ≤ s) (s1 : s ≤ 95) W hb => noise_calls (stepI s) A cap l limit W (Kd.C_below hr hb) (by omega) (by have := stepI_bd s0 s1; omega) (stepI_bd s0 s1).2 (fun n hn => isC_bd (hp n hn))
  replace HN := Aside0.mk HN
  have HE := fun s (s0 : 0 ≤ s) (s1 : s ≤ 95) => (noiseTo_eq (x := stepI s) (limit := limit) (by have := stepI_bd s0 s1; omega) l (fun n hn => isC_bd (hp n hn)) 0 h0).1
  replace HE := Aside0.mk HE
  have HM : Aside0 (mostR l limit = match mostI l limit with | some s => .tuple #[.int .i64 s, .int .i64 0] | none => .tuple #[.int .i64 0, .int .i64 5]) := ⟨by unfold mostR; rw [if_neg (by omega), if_pos hk]; cases mostI l limit <;> rfl⟩
  have HI : Aside0 (mostI l limit = (downL 95 low).find? fun s => decide (noiseI (stepI s) l ≤ limit)) := ⟨by rw [hlow]; rfl⟩
  obtain ⟨W4, hW4⟩ : ∃ W4, W4 = (((w.alloc (.cells #[.slice A l.length cap] 22)).alloc (.cells #[.int .i64 limit] 3)).alloc (.cells #[.int .i64 0] 3)).alloc (.cells #[.int .i64 0] 27) := ⟨_, rfl⟩
  have hB4 : Below w.heap.size w W4 := by rw [hW4]; exact ((((Below.refl _ _).alloc (Nat.le_refl _) _).alloc (by simp) _).alloc (by simp; omega) _).alloc (by simp; omega) _
  have x0 := cell_new_l w (.slice A l.length cap) 22
  have x1 := cell_new_l (w.alloc (.cells #[.slice A l.length cap] 22)) (.int .i64 limit) 3
  have x2 := cell_new_l ((w.alloc (.cells #[.slice A l.length cap] 22)).alloc (.cells #[.int .i64 limit] 3)) (.int .i64 0) 3
  have x3 := cell_new_l (((w.alloc (.cells #[.slice A l.length cap] 22)).alloc (.cells #[.int .i64 limit] 3)).alloc (.cells #[.int .i64 0] 3)) (.int .i64 0) 27
  simp only [World.size_alloc] at x1 x2 x3
  have a0 : W4.cell? ⟨w.heap.size, 0, none⟩ = some (.slice A l.length cap) := by rw [hW4]; exact cell_alloc_l _ (cell_alloc_l _ (cell_alloc_l _ x0.1))
  have a1 : W4.cell? ⟨w.heap.size + 1, 0, none⟩ = some (.int .i64 limit) := by rw [hW4]; exact cell_alloc_l _ (cell_alloc_l _ x1.1)
  have a2 : W4.cell? ⟨w.heap.size + 1 + 1, 0, none⟩ = some (.int .i64 0) := by rw [hW4]; exact cell_alloc_l _ x2.1
  have a3 : W4.cell? ⟨w.heap.size + 1 + 1 + 1, 0, none⟩ = some (.int .i64 0) := by rw [hW4]; exact x3.1
  have f2 : W4.frozen? ⟨w.heap.size + 1 + 1, 0, none⟩ = false := by rw [hW4]; exact frozen_alloc_l _ x2.1 x2.2
  have f3 : W4.frozen? ⟨w.heap.size + 1 + 1 + 1, 0, none⟩ = false := by rw [hW4]; exact x3.2
  have s4 : w.heap.size + 3 < W4.heap.size := by rw [hW4]; simp
  clear x0 x1 x2 x3
  clear hr hp hlow hk
  refine (callsIn_wide (n := 3)).1 ?_
  refine callsIn_of_wp_marks Try.func35 rfl trivial ?_ rfl
  simp only [Try.ntmps35, List.size_toArray, List.length_cons, List.length_nil, Nat.reduceAdd, Nat.reduceSub, Array.replicate_succ, Array.replicate_zero, List.push_toArray, List.append_toArray, List.nil_append, List.cons_append]
  gi_wp2_with fail
  rw [← hW4]
  clear hW4
  refine ⟨trivial, (callsIn_wide.2 (HC.out W4 hB4)).mono ?_⟩
  rintro e W5 ⟨rfl, hb5⟩
  have hB5 := bnx hB4 hb5
  have b0 := cnx a0 hb5
  gi_wp2_with fail
  refine ⟨trivial, (callsIn_wide.2 (HL.out W5 hB5)).mono ?_⟩
  rintro e W6 ⟨rfl, hb6⟩
  have hB6 := bnx hB5 hb6
  gi_wp2_with fail
  refine ⟨trivial, (callsIn_wide.2 (down_calls 95 low W6)).mono ?_⟩
  rintro e W7 ⟨rfl, hw7⟩
  have hb7 : Below W6.heap.size W6 W7 := by rw [hw7]; exact ((Below.refl _ _).alloc (Nat.le_refl _) _).alloc (by simp) _
  have d1 : W7.cell? ⟨W6.heap.size, 0, none⟩ = some (.int .i64 95) := by rw [hw7]; simp
  have d2 : W7.cell? ⟨W6.heap.size + 1, 0, none⟩ = some (.int .i64 low) := by rw [hw7]; simp
  have s7 : W7.heap.size = W6.heap.size + 2 := by rw [hw7]; simp
  have hb47 : Below W4.heap.size W4 W7 := bnx (bnx hb5 hb6) hb7
  have hB7 := bnx hB4 hb47
  replace a0 := cnx a0 hb47
  replace a1 := cnx a1 hb47
  replace a2 := cnx a2 hb47
  replace a3 := cnx a3 hb47
  replace f2 := (hb47.frozen (p := ⟨w.heap.size + 1 + 1, 0, none⟩) (by simp; omega)).trans f2
  replace f3 := (hb47.frozen (p := ⟨w.heap.size + 1 + 1 + 1, 0, none⟩) (by simp; omega)).trans f3
  have l3 : w.heap.size + 3 < W7.heap.size := by have := hb47.size; omega
  replace s7 := Aside0.mk s7
  clear hw7 b0 s4 hb5 hb6 hb7 hB5 hb47
  gi_wp2_with fail
  have hmo : Try.prog.follows .mixedOrders = true := by kernel_rfl
  refine wpIn_rangeFunc_ownF rfl (by omega) (gf := 94) (lb := #[.pointer (some ⟨W6.heap.size, 0, none⟩), .pointer (some ⟨W6.heap.size + 1, 0, none⟩)]) rfl trivial (enters_of Try.func94 (by kernel_rfl) rfl)
    (down1_stops Fence.wide _ trivial rfl (by omega) W6.heap.size (W6.heap.size + 1) W7.heap.size low hlb.1 hlb.2 W7 (by have := s7.out; omega) (by have := s7.out; omega) d1 d2) belowK_t (belowK_b (Nat.le_refl _)) (Below.refl _ _) (fun _ => rfl)
    (fun pre W => AllHi l limit pre ∧ Below W7.heap.size W7 W)
    (fun c pre W => Hit l limit w.heap.size c pre W ∧ Below w.heap.size w W)
    (OwnFrom.and (ownFrom_pure _ _) (ownFrom_below (Nat.le_refl _) (Nat.le_refl _)))
    (fun c => OwnFrom.and (hit_own _ _ _ _ _) (ownFrom_below (Nat.le_refl _) hB7.size))
    ⟨fun s hs => by simp at hs, Below.refl _ _⟩
    (fun s => { tmps := #[.slice A l.length cap, .int .i64 limit, .pointer (some ⟨w.heap.size, 0, none⟩), .pointer (some ⟨w.heap.size + 1, 0, none⟩), .pointer (some ⟨w.heap.size + 1 + 1, 0, none⟩), .pointer (some ⟨w.heap.size + 1 + 1 + 1, 0, none⟩), .int .i64 0, .int .i64 s.1, .int .i64 limit, .bool false, .bool false, .int .i64 limit, .bool false, .bool false, .slice A l.length cap, .int .i64 0, .int .i64 0, .bool false, undef, .slice A l.length cap, .int .i64 low, .func (.func 94) #[] #[.pointer (some ⟨W6.heap.size, 0, none⟩), .pointer (some ⟨W6.heap.size + 1, 0, none⟩)], .int .i64 s.1, undef, undef, undef, undef, undef, undef, undef, undef], defers := [] }) ?assign ?body ?done ?stop
  case assign =>
    intro l x W K hK
    gi_wp2
    exact hK
  case body =>
    rintro lp pre x W ⟨hpre, hb⟩ _
    have HX := HE.out x.1 x.2.1 x.2.2
    have HNX := fun W hb => HN.out x.1 x.2.1 x.2.2 W hb
    have HWX := fun w => with_calls x.1 w x.2.1 x.2.2
    have e0 := cnx a0 hb
    have e1 := cnx a1 hb
    have e2 := cnx a2 hb
    have e3 := cnx a3 hb
    have g2 := (hb.frozen (p := ⟨w.heap.size + 1 + 1, 0, none⟩) (by simp; omega)).trans f2
    have g3 := (hb.frozen (p := ⟨w.heap.size + 1 + 1 + 1, 0, none⟩) (by simp; omega)).trans f3
    have hbw := bnx hB7 hb
    obtain ⟨st, hst⟩ : ∃ st, st = stepI x.1 := ⟨_, rfl⟩
    rw [← hst] at HX HNX HWX
    replace HX := Aside0.mk HX
    replace HNX := Aside0.mk HNX
    replace HWX := Aside0.mk HWX
    have HST := Aside0.mk hst
    have HPRE := Aside0.mk hpre
    clear hst hpre a0 a1 a2 a3 f2 f3
    gi_wp2_with fail
    have hz0 := noiseI_bd (x := st)
    obtain ⟨N, hN⟩ : ∃ N, N = noiseTo st limit 0 l := ⟨_, rfl⟩
    rw [← hN] at HX HNX
    clear hN hz0
    refine Held.wpIn_region_held (fun w' => w'.cell? ⟨w.heap.size, 0, none⟩ = some (.slice A l.length cap) ∧ w'.cell? ⟨w.heap.size + 1, 0, none⟩ = some (.int .i64 limit) ∧ Below W.heap.size W w') hmo (by kernel_rfl) (fun ⟨_, _, h⟩ => h) ⟨e0, e1, (Below.refl _ _).drew⟩ (fun hHeld => ?_)
    (refine wpAnyH_take (i := 0) (v := .int .i64 x.1) rfl (by kernel_rfl) (by kernel_rfl) (by kernel_rfl) (fun _ _ _ h => h) (Or.inl ⟨by rfl, fun wS hS => (by (try dsimp only at hS); go_simp)⟩) hHeld ?_; simp only [Act.put, List.setIfInBounds_toArray, List.set_cons_zero, List.set_cons_succ])
    (refine wpAnyH_take (i := 2) (v := .slice A l.length cap) rfl (by kernel_rfl) (by kernel_rfl) (by kernel_rfl) (fun _ _ _ h => h) (Or.inl ⟨by rfl, fun wS hS => (by (try dsimp only at hS); go_simp)⟩) hHeld ?_; simp only [Act.put, List.setIfInBounds_toArray, List.set_cons_zero, List.set_cons_succ])
    (refine wpAnyH_take (i := 3) (v := .int .i64 limit) rfl (by kernel_rfl) (by kernel_rfl) (by kernel_rfl) (fun _ _ _ h => h) (Or.inl ⟨by rfl, fun wS hS => (by (try dsimp only at hS); go_simp)⟩) hHeld ?_; simp only [Act.put, List.setIfInBounds_toArray, List.set_cons_zero, List.set_cons_succ])
    (refine wpAnyH_take (i := 5) (v := .int .i64 limit) rfl (by kernel_rfl) (by kernel_rfl) (by kernel_rfl) (fun _ _ _ h => h) (Or.inl ⟨by rfl, fun wS hS => (by (try dsimp only at hS); go_simp)⟩) hHeld ?_; simp only [Act.put, List.setIfInBounds_toArray, List.set_cons_zero, List.set_cons_succ])
    (refine wpAnyH_ready (rs := [1]) (by kernel_rfl) (by simp) ?_; refine AllReadyH.cons rfl (fun K hK => ?_) AllReadyH.nil; go_simp)
    refine (HWX.out _).mono ?_
    rintro e w1 ⟨rfl, hb1⟩
    (go_wp2_with fail; refine hK.out _ _ (⟨cnx hHeld.1 hb1, cnx hHeld.2.1 hb1, bnx hHeld.2.2 hb1⟩) (fun hHeld => ?_); clear hK K; try simp only [Act.put, List.setIfInBounds_toArray, List.set_cons_zero, List.set_cons_succ])
    (refine wpAnyH_ready (rs := [4]) (by kernel_rfl) (by simp) ?_; refine AllReadyH.cons rfl (fun K hK => ?_) AllReadyH.nil; go_simp)
    refine (HNX.out _ (bnx hbw hHeld.2.2)).mono ?_
    rintro e w2 ⟨rfl, hb2⟩
    (go_wp2_with fail; refine hK.out _ _ (⟨cnx hHeld.1 hb2, cnx hHeld.2.1 hb2, bnx hHeld.2.2 hb2⟩) (fun hHeld => ?_); clear hK K; try simp only [Act.put, List.setIfInBounds_toArray, List.set_cons_zero, List.set_cons_succ])
    (refine wpAnyH_take (i := 6) (v := .bool (decide (N ≤ limit))) rfl (by kernel_rfl) (by kernel_rfl) (by kernel_rfl) (fun _ _ _ h => h) (Or.inl ⟨by rfl, fun wS hS => (by (try dsimp only at hS); go_simp)⟩) hHeld ?_; simp only [Act.put, List.setIfInBounds_toArray, List.set_cons_zero, List.set_cons_succ])
    refine wpAnyH_done (by kernel_rfl) ?_ _
    have hW := hHeld.2.2
    have q2 := cnx e2 hW
    have q3 := cnx e3 hW
    have k2 := (hW.frozen (p := ⟨w.heap.size + 1 + 1, 0, none⟩) (by simp; have := hb.size; omega)).trans g2
    have k3 := (hW.frozen (p := ⟨w.heap.size + 1 + 1 + 1, 0, none⟩) (by simp; have := hb.size; omega)).trans g3
    have hW2 := bnx hb hW
    have hW3 := bnx hbw hW
    by_cases hle : N ≤ limit
    · have HZ : Aside0 (noiseI (stepI x.1) l ≤ limit) := ⟨by rw [← HST.out]; have := HX.out.1 hle; omega⟩
      clear e0 e1 e2 e3 g2 g3 hHeld
      have s2 := (Below.refl w.heap.size w2)
      gi_wp2
      refine ⟨KeepsOthers.trans (keeps_below hW) (KeepsOthers.trans (KeepsOthers.setCell _ _ _) (KeepsOthers.setCell _ _ _)), ⟨rfl, pre, x, rfl, HPRE.out, HZ.out, ?_, ?_⟩, ?_⟩
      · rw [World.cell?_setCell_far _ _ _ _ (by simp)]; exact World.cell?_setCell_same' _ _ _ (by rw [q2]; rfl)
      · exact World.cell?_setCell_same' _ _ _ (by rw [World.cell?_setCell_far _ _ _ _ (by simp)]; rw [q3]; rfl)
      · exact (hW3.setCell (p := ⟨w.heap.size + 1 + 1, 0, none⟩) (by simp; omega) _).setCell (p := ⟨w.heap.size + 1 + 1 + 1, 0, none⟩) (by simp; omega) _
    · have HZ : Aside0 (¬ noiseI (stepI x.1) l ≤ limit) := ⟨by rw [← HST.out]; have := HX.out; omega⟩
      have hle' : limit < N := by omega
      clear e0 e1 e2 e3 g2 g3 hHeld
      gi_wp2
      refine ⟨keeps_below hW, hW.mono hb.size, fun s hs' => ?_, hW2⟩
      rcases List.mem_append.1 hs' with hs' | hs'
      · exact HPRE.out s hs'
      · rw [List.mem_singleton.1 hs']; have := HZ.out; omega
  case done =>
    rintro D xs W hD hxs ⟨hpre, hb⟩ hK
    have hnone : mostI l limit = none := by
      rw [HI.out, ← hxs]
      rw [List.find?_eq_none]
      intro y hy
      obtain ⟨s, hs, rfl⟩ := List.mem_map.1 hy
      have := hpre s hs
      simpa using this
    have hR := HM.out
    rw [hnone] at hR
    have HR := Aside0.mk hR
    have e2 := cnx a2 hb
    have e3 := cnx a3 hb
    have g2 := (hb.frozen (p := ⟨w.heap.size + 1 + 1, 0, none⟩) (by simp; omega)).trans f2
    have g3 := (hb.frozen (p := ⟨w.heap.size + 1 + 1 + 1, 0, none⟩) (by simp; omega)).trans f3
    have hbw := bnx hB7 hb
    have HXS := Aside0.mk hxs
    have HPRE := Aside0.mk hpre
    clear hnone hR hxs hpre a0 a1 a2 a3 f2 f3
    gi_wp2
    have hk1 := (KeepsOthers.trans (KeepsOthers.setCell W ⟨w.heap.size + 1 + 1, 0, none⟩ (.int .i64 0)) (KeepsOthers.setCell _ ⟨w.heap.size + 1 + 1 + 1, 0, none⟩ (.int .i64 5))).same D _ hK rfl
    have c2 : ((W.setCell ⟨w.heap.size + 1 + 1, 0, none⟩ (.int .i64 0)).setCell ⟨w.heap.size + 1 + 1 + 1, 0, none⟩ (.int .i64 5)).cell? ⟨w.heap.size + 1 + 1, 0, none⟩ = some (.int .i64 0) := by
      rw [World.cell?_setCell_far _ _ _ _ (by simp)]; exact World.cell?_setCell_same' _ _ _ (by rw [e2]; rfl)
    have c3 : ((W.setCell ⟨w.heap.size + 1 + 1, 0, none⟩ (.int .i64 0)).setCell ⟨w.heap.size + 1 + 1 + 1, 0, none⟩ (.int .i64 5)).cell? ⟨w.heap.size + 1 + 1 + 1, 0, none⟩ = some (.int .i64 5) :=
      World.cell?_setCell_same' _ _ _ (by rw [World.cell?_setCell_far _ _ _ _ (by simp)]; rw [e3]; rfl)
    have hc2 := cell_kept c2 (grownBy_putObj' _ D (.deferred none)) (fun r e => by cases e; exact ⟨_, hk1, rfl⟩)
    have hc3 := cell_kept c3 (grownBy_putObj' _ D (.deferred none)) (fun r e => by cases e; exact ⟨_, hk1, rfl⟩)
    refine ⟨by simp, .inl ⟨_, _, rfl, run_takeDeferred hk1, ?_⟩⟩
    refine ⟨.tuple #[.int .i64 0, .int .i64 5], by simp [results, Try.f35, go_sem, hc2, hc3], by rw [HR.out], ?_⟩
    exact ((hbw.setCell (p := ⟨w.heap.size + 1 + 1, 0, none⟩) (by simp; omega) _).setCell (p := ⟨w.heap.size + 1 + 1 + 1, 0, none⟩) (by simp; omega) _).grown (grownBy_putObj' _ D (.deferred none)) (by simp; have := hbw.size; omega) (fun k e => by cases e; have := hB7.size; omega)
  case stop =>
    rintro D c pre W hD hpre ⟨⟨rfl, p, s, rfl, hp, hsn, c2, c3⟩, hb⟩ hK
    have hsome : mostI l limit = some s.1 := by
      rw [HI.out]
      obtain ⟨t, ht⟩ := hpre
      rw [← ht, List.map_append, List.map_cons, List.map_nil, List.append_assoc, List.find?_append]
      have h1 : (p.map (·.1)).find? (fun s => decide (noiseI (stepI s) l ≤ limit)) = none := by
        rw [List.find?_eq_none]
        intro y hy
        obtain ⟨s', hs', rfl⟩ := List.mem_map.1 hy
        have := hp s' hs'
        simpa using this
      rw [h1, List.singleton_append, List.find?_cons_of_pos (by simpa using hsn)]
      rfl
    have hR := HM.out
    rw [hsome] at hR
    have HR := Aside0.mk hR
    clear hsome hR hp hpre
    gi_wp2
    have hc2 := cell_kept c2 (grownBy_putObj' _ D (.deferred none)) (fun r e => by cases e; exact ⟨_, hK, rfl⟩)
    have hc3 := cell_kept c3 (grownBy_putObj' _ D (.deferred none)) (fun r e => by cases e; exact ⟨_, hK, rfl⟩)
    refine ⟨by simp, .inl ⟨_, _, rfl, run_takeDeferred hK, ?_⟩⟩
    refine ⟨.tuple #[.int .i64 s.1, .int .i64 0], by simp [results, Try.f35, go_sem, hc2, hc3], by rw [HR.out], ?_⟩
    exact hb.grown (grownBy_putObj' _ D (.deferred none)) hb.size (fun k e => by cases e; have := hB7.size; omega)

set_option maxRecDepth 100000 in
set_option maxHeartbeats 1000000 in
theorem Most_no (A : Option Addr) (cap : Nat) (l : List Int) (limit : Int) (w : World) (hr : (Kd.int .i64).C w A l.length l) (h0 : 0 ≤ limit) (h1 : limit ≤ 72057594037927936) (hk : chk isC l 0 ≠ 0) :
    Calls Try.prog 35 #[.slice A l.length cap, .int .i64 limit] w fun e w' => e = .returned (.tuple #[.int .i64 0, .int .i64 (chk isC l 0)]) ∧ Below w.heap.size w w' := by
  obtain ⟨e0, he0⟩ : ∃ e0, e0 = chk isC l 0 := ⟨_, rfl⟩
  have HC := fun W hb => check_calls 68 isC A cap l 0 W (fun _ _ => by kernel_rfl) (Kd.C_below hr hb) fn_isC
  rw [← he0] at HC hk ⊢
  replace HC := Aside0.mk HC
  have hk' : (e0 == 0) = false := beq_eq_false_iff_ne.2 hk
  have hd1 : decide (limit < 0) = false := by simp; omega
  have hd2 : decide (72057594037927936 < limit) = false := by simp; omega
  obtain ⟨W4, hW4⟩ : ∃ W4, W4 = (((w.alloc (.cells #[.slice A l.length cap] 22)).alloc (.cells #[.int .i64 limit] 3)).alloc (.cells #[.int .i64 0] 3)).alloc (.cells #[.int .i64 0] 27) := ⟨_, rfl⟩
  have hB4 : Below w.heap.size w W4 := by rw [hW4]; exact ((((Below.refl _ _).alloc (Nat.le_refl _) _).alloc (by simp) _).alloc (by simp; omega) _).alloc (by simp; omega) _
  have x2 := cell_new_l ((w.alloc (.cells #[.slice A l.length cap] 22)).alloc (.cells #[.int .i64 limit] 3)) (.int .i64 0) 3
  have x3 := cell_new_l (((w.alloc (.cells #[.slice A l.length cap] 22)).alloc (.cells #[.int .i64 limit] 3)).alloc (.cells #[.int .i64 0] 3)) (.int .i64 0) 27
  simp only [World.size_alloc] at x2 x3
  have a2 : W4.cell? ⟨w.heap.size + 1 + 1, 0, none⟩ = some (.int .i64 0) := by rw [hW4]; exact cell_alloc_l _ x2.1
  have a3 : W4.cell? ⟨w.heap.size + 1 + 1 + 1, 0, none⟩ = some (.int .i64 0) := by rw [hW4]; exact x3.1
  have f2 : W4.frozen? ⟨w.heap.size + 1 + 1, 0, none⟩ = false := by rw [hW4]; exact frozen_alloc_l _ x2.1 x2.2
  have f3 : W4.frozen? ⟨w.heap.size + 1 + 1 + 1, 0, none⟩ = false := by rw [hW4]; exact x3.2
  have s4 : w.heap.size + 3 < W4.heap.size := by rw [hW4]; simp
  clear x2 x3 he0 hr
  go_enter Try.func35, Try.ntmps35
  go_wp2_with fail
  rw [← hW4]
  clear hW4
  refine (HC.out W4 hB4).mono ?_
  rintro e W5 ⟨rfl, hb5⟩
  have hB5 := bnx hB4 hb5
  replace f2 := (hb5.frozen (p := ⟨w.heap.size + 1 + 1, 0, none⟩) (by simp; omega)).trans f2
  replace f3 := (hb5.frozen (p := ⟨w.heap.size + 1 + 1 + 1, 0, none⟩) (by simp; omega)).trans f3
  replace a2 := cnx a2 hb5
  replace a3 := cnx a3 hb5
  go_wp2
  have c2 : ((W5.setCell ⟨w.heap.size + 1 + 1, 0, none⟩ (.int .i64 0)).setCell ⟨w.heap.size + 1 + 1 + 1, 0, none⟩ (.int .i64 e0)).cell? ⟨w.heap.size + 1 + 1, 0, none⟩ = some (.int .i64 0) := by
    rw [World.cell?_setCell_far _ _ _ _ (by simp)]; exact World.cell?_setCell_same' _ _ _ (by rw [a2]; rfl)
  have c3 : ((W5.setCell ⟨w.heap.size + 1 + 1, 0, none⟩ (.int .i64 0)).setCell ⟨w.heap.size + 1 + 1 + 1, 0, none⟩ (.int .i64 e0)).cell? ⟨w.heap.size + 1 + 1 + 1, 0, none⟩ = some (.int .i64 e0) :=
    World.cell?_setCell_same' _ _ _ (by rw [World.cell?_setCell_far _ _ _ _ (by simp)]; rw [a3]; rfl)
  refine bodyPost_ret (v := .tuple #[.int .i64 0, .int .i64 e0]) (by simp [results, Try.f35, go_sem, c2, c3]) rfl ⟨rfl, ?_⟩
  exact (hB5.setCell (p := ⟨w.heap.size + 1 + 1, 0, none⟩) (by simp; omega) _).setCell (p := ⟨w.heap.size + 1 + 1 + 1, 0, none⟩) (by simp; omega) _

theorem Most_calls (A : Option Addr) (cap : Nat) (l : List Int) (limit : Int) (w : World) (hr : (Kd.int .i64).C w A l.length l) :
    Calls Try.prog 35 #[.slice A l.length cap, .int .i64 limit] w fun e w' => e = .returned (mostR l limit) ∧ Below w.heap.size w w' := by
  by_cases h : limit < 0 ∨ 72057594037927936 < limit
  · unfold mostR
    rw [if_pos h]
    exact Most_arg A cap l limit w h
  · by_cases hk : chk isC l 0 = 0
    · exact Most_yes A cap l limit w hr (by omega) (by omega) hk
    · unfold mostR
      rw [if_neg h, if_neg hk]
      exact Most_no A cap l limit w hr (by omega) (by omega) hk

end Go.Proofs.Ytljadjoljhanfaa.Q15
/- The chapter's examples hold. -/
namespace Go.Proofs.Ytljadjoljhanfaa.Q15
open Go.RowKit Go.Proofs.YtljadjoljhanfaaW.PrintWords Go.Proofs.YtljadjoljhanfaaW.PrintLast Go.Proofs.YtljadjoljhanfaaW.PrintMore
attribute [local go_sem] max2_int min2_int max_two min_two max_three min_three

theorem lit_C (l : List Int) (w : World) (t : TypeId) (hl : l.length ≤ 9223372036854775807) : (Kd.int .i64).C (w.alloc (.cells (l.map (Value.int .i64)).toArray t)) (some ⟨w.heap.size, 0, none⟩) l.length l := by
  refine ⟨rfl, hl, fun _ => ⟨_, rfl, fun j p hj => ⟨[.int .i64 p], rfl, rfl, fun i u hu => ?_⟩⟩⟩
  have hi : i = 0 := by
    rcases Nat.eq_zero_or_pos i with h | h
    · exact h
    · have := (List.getElem?_eq_some_iff.1 hu).1
      simp at this
      omega
  subst hi
  have hu' : u = .int .i64 p := by simpa using hu.symm
  subst hu'
  have e : (⟨w.heap.size, 0, none⟩ : Addr).add (j * (Kd.int .i64).sz + 0) = ⟨w.heap.size, j, none⟩ := by
    show Addr.add _ (j * 1 + 0) = _
    unfold Addr.add
    split <;> simp_all
  rw [e]
  unfold World.cell?
  rw [heap_alloc_new]
  simp only [Option.isSome_none, Bool.false_eq_true, if_false, List.getElem?_toArray, List.getElem?_map, hj]
  rfl
theorem Quantize_at (A : Option Addr) (cap : Nat) (l : List Int) (s : Int) (r : List Int) (w : World) (hr : (Kd.int .i64).C w A l.length l) (h : chk isC l s = 0 ∧ (l.map fun c => sg c (qn (stepI s) (absI c))) = r) :
    Calls Try.prog 48 #[.slice A l.length cap, .int .i64 s] w fun e w' => ∃ v, e = .returned (.tuple #[v, .int .i64 0]) ∧ (Kd.int .i64).R 3 w' w.heap.size (fun _ => True) v r ∧ Below w.heap.size w w' := by
  have := Quantize_yes A cap l s w hr h.1
  rwa [h.2] at this
theorem Values_at (A : Option Addr) (cap : Nat) (l : List Int) (s : Int) (r : List Int) (w : World) (hr : (Kd.int .i64).C w A l.length l) (h : chk isQ l s = 0 ∧ (l.map fun q => sg q (V (stepI s) (absI q))) = r) :
    Calls Try.prog 53 #[.slice A l.length cap, .int .i64 s] w fun e w' => ∃ v, e = .returned (.tuple #[v, .int .i64 0]) ∧ (Kd.int .i64).R 3 w' w.heap.size (fun _ => True) v r ∧ Below w.heap.size w w' := by
  have := Values_yes A cap l s w hr h.1
  rwa [h.2] at this
theorem Noise_at (A : Option Addr) (cap : Nat) (l : List Int) (s v : Int) (w : World) (hr : (Kd.int .i64).C w A l.length l) (h : chk isC l s = 0 ∧ noiseTo (stepI s) 72057594037927936 0 l = v) :
    Calls Try.prog 87 #[.slice A l.length cap, .int .i64 s] w fun e w' => e = .returned (.tuple #[.int .i64 v, .int .i64 0]) ∧ Below w.heap.size w w' := by
  have := Noise_yes A cap l s w hr h.1
  rwa [h.2] at this
theorem Least_at (A : Option Addr) (cap : Nat) (l : List Int) (v : Int) (w : World) (hr : (Kd.int .i64).C w A l.length l) (h : chk isC l 0 = 0 ∧ leastI l = v) :
    Calls Try.prog 36 #[.slice A l.length cap] w fun e w' => e = .returned (.tuple #[.int .i64 v, .int .i64 0]) ∧ Below w.heap.size w w' := by
  have := Least_yes A cap l w hr h.1
  rwa [h.2] at this
theorem mostR_some {l : List Int} {limit v : Int} (h : ¬ (limit < 0 ∨ 72057594037927936 < limit) ∧ chk isC l 0 = 0 ∧ mostI l limit = some v) : mostR l limit = .tuple #[.int .i64 v, .int .i64 0] := by
  unfold mostR
  rw [if_neg h.1, if_pos h.2.1, h.2.2]
theorem ints_eq (A0 A1 : Option Addr) (c0 c1 : Nat) (l0 l1 : List Int) (w : World) (hr0 : (Kd.int .i64).C w A0 l0.length l0) (hr1 : (Kd.int .i64).C w A1 l1.length l1) (hl : l0.length ≤ 1099511627776) (h : l0 = l1) :
    Calls Try.prog 13 #[.slice A0 l0.length c0, .slice A1 l1.length c1] w fun e w' => e = .returned (.bool true) ∧ Below w.heap.size w w' := by
  have := Ints_calls A0 A1 c0 c1 l0 l1 w hr0 hr1 hl
  rwa [decide_eq_true h] at this

end Go.Proofs.Ytljadjoljhanfaa.Q15
/- The functions on lists, with and without an error, each in one sentence. -/
namespace Go.Proofs.Ytljadjoljhanfaa.Q15
open Go.RowKit Go.Proofs.YtljadjoljhanfaaW.PrintWords Go.Proofs.YtljadjoljhanfaaW.PrintLast Go.Proofs.YtljadjoljhanfaaW.PrintMore
attribute [local go_sem] max2_int min2_int max_two min_two max_three min_three

def quanta (l : List Int) (s : Int) : List Int := if chk isC l s = 0 then l.map fun c => sg c (qn (stepI s) (absI c)) else []
def valuesL (l : List Int) (s : Int) : List Int := if chk isQ l s = 0 then l.map fun q => sg q (V (stepI s) (absI q)) else []
def noiseR (l : List Int) (s : Int) : Int := if chk isC l s = 0 then noiseI (stepI s) l else 0
def leastR (l : List Int) : Int := if chk isC l 0 = 0 then leastI l else 0

section
variable (A : Option Addr) (cap : Nat) (l : List Int) (s limit : Int) (w : World) (hr : (Kd.int .i64).C w A l.length l)
include hr
theorem Quantize_calls : Calls Try.prog 48 #[.slice A l.length cap, .int .i64 s] w fun e w' => ∃ v, e = .returned (.tuple #[v, .int .i64 (chk isC l s)]) ∧ (Kd.int .i64).R 3 w' w.heap.size (fun _ => True) v (quanta l s) ∧ Below w.heap.size w w' := by
  unfold quanta
  by_cases hk : chk isC l s = 0
  · rw [if_pos hk, hk]; exact Quantize_yes A cap l s w hr hk
  · rw [if_neg hk]; exact (Quantize_no A cap l s w hr hk).mono fun e w' ⟨he, hb⟩ => ⟨_, he, Kd.R_nil _ _ _ _ _, hb⟩
theorem Values_calls : Calls Try.prog 53 #[.slice A l.length cap, .int .i64 s] w fun e w' => ∃ v, e = .returned (.tuple #[v, .int .i64 (chk isQ l s)]) ∧ (Kd.int .i64).R 3 w' w.heap.size (fun _ => True) v (valuesL l s) ∧ Below w.heap.size w w' := by
  unfold valuesL
  by_cases hk : chk isQ l s = 0
  · rw [if_pos hk, hk]; exact Values_yes A cap l s w hr hk
  · rw [if_neg hk]; exact (Values_no A cap l s w hr hk).mono fun e w' ⟨he, hb⟩ => ⟨_, he, Kd.R_nil _ _ _ _ _, hb⟩
theorem Noise_calls : Calls Try.prog 87 #[.slice A l.length cap, .int .i64 s] w fun e w' => e = .returned (.tuple #[.int .i64 (noiseR l s), .int .i64 (chk isC l s)]) ∧ Below w.heap.size w w' := by
  unfold noiseR
  by_cases hk : chk isC l s = 0
  · obtain ⟨hs, hl, hp⟩ := chk_zero hk
    have h := Noise_yes A cap l s w hr hk
    rw [noiseTo_all (by have := stepI_bd hs.1 hs.2; omega) l hl (fun n hn => isC_bd (hp n hn))] at h
    rw [if_pos hk, hk]; exact h
  · rw [if_neg hk]; exact Noise_no A cap l s w hr hk
theorem Least_calls : Calls Try.prog 36 #[.slice A l.length cap] w fun e w' => e = .returned (.tuple #[.int .i64 (leastR l), .int .i64 (chk isC l 0)]) ∧ Below w.heap.size w w' := by
  unfold leastR
  by_cases hk : chk isC l 0 = 0
  · rw [if_pos hk, hk]; exact Least_yes A cap l w hr hk
  · rw [if_neg hk]; exact Least_no A cap l w hr hk
theorem rLeast_calls : Calls Try.prog 29 #[.slice A l.length cap] w fun e w' => e = .returned (.tuple #[.int .i64 (leastR l), .int .i64 (chk isC l 0)]) ∧ Below w.heap.size w w' := by
  unfold leastR
  by_cases hk : chk isC l 0 = 0
  · rw [if_pos hk, hk]; exact rLeast_yes A cap l w hr hk
  · rw [if_neg hk]; exact rLeast_no A cap l w hr hk
end
theorem mostR_pair (l : List Int) (limit : Int) : ∃ u v : Int, mostR l limit = .tuple #[.int .i64 u, .int .i64 v] := by
  unfold mostR
  split
  · exact ⟨_, _, rfl⟩
  · split
    · split <;> exact ⟨_, _, rfl⟩
    · exact ⟨_, _, rfl⟩
theorem quanta_len (l : List Int) (s : Int) : (quanta l s).length ≤ 128 := by
  unfold quanta
  split
  · rename_i h; rw [List.length_map]; exact (chk_zero h).2.1
  · simp
theorem valuesL_len (l : List Int) (s : Int) : (valuesL l s).length ≤ 128 := by
  unfold valuesL
  split
  · rename_i h; rw [List.length_map]; exact (chk_zero h).2.1
  · simp

end Go.Proofs.Ytljadjoljhanfaa.Q15
/- The plain laws of layer 15: rising, odd, idempotent, nearest, best. -/
namespace Go.Proofs.Ytljadjoljhanfaa.Q15

theorem max2_max (k k' : IntKind) (x y : Int) : Builtin.max2 (.int k x) (.int k' y) = pure (.int k (max x y)) := by
  simp only [Builtin.max2, gt_iff_lt]
  by_cases h : x < y
  · rw [if_pos h, show max x y = y by omega]
  · rw [if_neg h, show max x y = x by omega]
theorem min2_min (k k' : IntKind) (x y : Int) : Builtin.min2 (.int k x) (.int k' y) = pure (.int k (min x y)) := by
  simp only [Builtin.min2]
  by_cases h : y < x
  · rw [if_pos h, show min x y = y by omega]
  · rw [if_neg h, show min x y = x by omega]
theorem steps_mono : ((List.range 95).all fun k => decide (stepI (k : Nat) ≤ stepI ((k + 1 : Nat) : Int))) = true := by decide +kernel
theorem step_mono {a b : Int} (h0 : 0 ≤ a) (h : a ≤ b) (h1 : b ≤ 95) : stepI a ≤ stepI b := by
  obtain ⟨n, rfl⟩ := Int.eq_ofNat_of_zero_le h0
  obtain ⟨d, hd⟩ := Int.eq_ofNat_of_zero_le (show 0 ≤ b - n by omega)
  obtain rfl : b = ((n + d : Nat) : Int) := by omega
  induction d with
  | zero => exact Int.le_refl _
  | succ d ih =>
    have h := List.all_eq_true.1 steps_mono (n + d) (by simp; omega)
    simp only [decide_eq_true_eq] at h
    exact Int.le_trans (ih (by omega) (by omega) (by omega)) h
theorem V_up {x y : Int} (q : Int) (h : x ≤ y) : V x q ≤ V y q := by
  unfold V
  have := Int.mul_le_mul_of_nonneg_left h (show 0 ≤ 2 * P q by have := P_bd q; omega)
  omega
theorem absI_neg (n : Int) : absI (-n) = absI n := by unfold absI; omega
theorem absI_nonneg (n : Int) : 0 ≤ absI n := by unfold absI; omega

/-- The first quantum whose value is at least c, or 1023. -/
def upq (x c : Int) : Int := fst (fun k => decide (V x k ≥ c)) 0 1023
theorem upq_bd (x c : Int) : 0 ≤ upq x c ∧ upq x c ≤ 1023 := fst_bd _ (by decide)
theorem upq_at {x c : Int} (h : upq x c < 1023) : c ≤ V x (upq x c) := by simpa [upq] using fst_at _ h
theorem upq_before {x c k : Int} (h0 : 0 ≤ k) (h : k < upq x c) : V x k < c := by simpa using fst_before _ h0 h (by decide)
theorem upq_le {x c k : Int} (h0 : 0 ≤ k) (h : c ≤ V x k) : upq x c ≤ k := by
  rcases Int.lt_or_le k (upq x c) with h1 | h1
  · have := upq_before h0 h1; omega
  · exact h1
/-- The first quantum with the value that m has. -/
def back (x m : Int) : Int := fst (fun k => decide (V x k ≥ V x m)) 0 m
theorem back_bd (x : Int) {m : Int} (h : 0 ≤ m) : 0 ≤ back x m ∧ back x m ≤ m := fst_bd _ h
theorem back_val {x m : Int} (hx : 0 ≤ x) (h : 0 ≤ m) (h1 : m ≤ 1023) : V x (back x m) = V x m := by
  have hb := back_bd x h
  have h2 := V_mono hx hb.1 hb.2 h1
  rcases Int.lt_or_eq_of_le hb.2 with h3 | h3
  · have : V x m ≤ V x (back x m) := by simpa [back] using fst_at _ h3
    omega
  · rw [h3]
theorem back_le {x m k : Int} (h0 : 0 ≤ k) (hm : 0 ≤ m) (h : V x m ≤ V x k) : back x m ≤ k := by
  rcases Int.lt_or_le k (back x m) with h1 | h1
  · have : V x k < V x m := by simpa using fst_before _ h0 h1 hm
    omega
  · exact h1
/-- The quantum of c, in these words. -/
theorem qn_up (x c : Int) : qn x c = if upq x c = 0 then 0 else if absI (V x (upq x c - 1) - c) ≤ absI (V x (upq x c) - c) then back x (upq x c - 1) else upq x c := rfl
/-- The two ways. -/
theorem qn_ways {x c : Int} (hx : 0 ≤ x) :
    (upq x c = 0 ∧ qn x c = 0) ∨
    (1 ≤ upq x c ∧ V x (upq x c - 1) < c ∧ absI (V x (upq x c - 1) - c) ≤ absI (V x (upq x c) - c) ∧ qn x c = back x (upq x c - 1)) ∨
    (1 ≤ upq x c ∧ V x (upq x c - 1) < c ∧ absI (V x (upq x c) - c) < absI (V x (upq x c - 1) - c) ∧ qn x c = upq x c) := by
  have hb := upq_bd x c
  rw [qn_up]
  by_cases h0 : upq x c = 0
  · exact .inl ⟨h0, by rw [if_pos h0]⟩
  · have hv := upq_before (x := x) (c := c) (k := upq x c - 1) (by omega) (by omega)
    rw [if_neg h0]
    split
    · rename_i h; exact .inr (.inl ⟨by omega, hv, h, rfl⟩)
    · rename_i h; exact .inr (.inr ⟨by omega, hv, by omega, rfl⟩)

theorem back_mono {x a b : Int} (hx : 0 ≤ x) (h0 : 0 ≤ a) (h : a ≤ b) (h1 : b ≤ 1023) : back x a ≤ back x b := by
  have hb := back_bd x (show 0 ≤ b by omega)
  refine back_le hb.1 h0 ?_
  rw [back_val hx (by omega) h1]
  exact V_mono hx h0 h h1
theorem upq_mono {x a b : Int} (h : a ≤ b) : upq x a ≤ upq x b := by
  rcases Int.lt_or_le (upq x b) 1023 with h1 | h1
  · exact upq_le (upq_bd x b).1 (by have := upq_at h1; omega)
  · have := upq_bd x a; omega
theorem qn_le_upq {x c : Int} (hx : 0 ≤ x) : 0 ≤ qn x c ∧ qn x c ≤ upq x c := by
  have hb := upq_bd x c
  rcases qn_ways (c := c) hx with ⟨h, e⟩ | ⟨h, _, _, e⟩ | ⟨h, _, _, e⟩
  · omega
  · have := back_bd x (show 0 ≤ upq x c - 1 by omega); omega
  · omega
/-- Quanta never fall with the coefficient. -/
theorem qn_mono {x a b : Int} (hx : 0 ≤ x) (h : a ≤ b) : qn x a ≤ qn x b := by
  have ha := upq_bd x a
  have hb := upq_bd x b
  have hm := upq_mono (x := x) h
  have q0 := qn_le_upq (c := a) hx
  have q1 := qn_le_upq (c := b) hx
  rcases Int.lt_or_eq_of_le hm with hl | he
  · have hva : a ≤ V x (upq x a) := upq_at (by omega)
    rcases qn_ways (c := b) hx with ⟨h2, e⟩ | ⟨h2, _, _, e⟩ | ⟨h2, _, _, e⟩
    · omega
    · have g1 := back_bd x (show 0 ≤ upq x b - 1 by omega)
      have : upq x a ≤ back x (upq x b - 1) := upq_le g1.1 (by
        rw [back_val hx (by omega) (by omega)]
        exact Int.le_trans hva (V_mono hx ha.1 (by omega) (by omega)))
      omega
    · omega
  · rcases qn_ways (c := b) hx with ⟨h2, e⟩ | ⟨h2, h3, h4, e⟩ | ⟨h2, _, _, e⟩
    · omega
    · rcases qn_ways (c := a) hx with ⟨g2, f⟩ | ⟨g2, g3, g4, f⟩ | ⟨g2, g3, g4, f⟩
      · omega
      · rw [e, f, he]; exact Int.le_refl _
      · exfalso
        rw [he] at g3 g4
        have hV := V_mono hx (show 0 ≤ upq x b - 1 by omega) (show upq x b - 1 ≤ upq x b by omega) hb.2
        unfold absI at h4 g4
        omega
    · omega
theorem qn_zero {x : Int} (hx : 0 ≤ x) : qn x 0 = 0 := by
  have := upq_le (x := x) (c := 0) (k := 0) (Int.le_refl _) (by rw [V_zero]; exact Int.le_refl _)
  have := upq_bd x 0
  have := qn_le_upq (c := 0) hx
  omega
theorem sgq_mono {x a b : Int} (hx : 0 ≤ x) (h : a ≤ b) : sg a (qn x (absI a)) ≤ sg b (qn x (absI b)) := by
  have q0 := qn_le_upq (c := absI a) hx
  have q1 := qn_le_upq (c := absI b) hx
  unfold sg
  split
  · split
    · have := qn_mono (x := x) hx (show absI b ≤ absI a by unfold absI; omega)
      omega
    · omega
  · split
    · omega
    · exact qn_mono hx (by unfold absI; omega)
theorem sgV_mono {x a b : Int} (hx : 0 ≤ x) (h : a ≤ b) (h0 : -1023 ≤ a) (h1 : b ≤ 1023) : sg a (V x (absI a)) ≤ sg b (V x (absI b)) := by
  have q0 := V_bd (x := x) (absI a) hx
  have q1 := V_bd (x := x) (absI b) hx
  unfold sg
  split
  · split
    · have := V_mono (x := x) hx (absI_nonneg b) (show absI b ≤ absI a by unfold absI; omega) (by unfold absI; omega)
      omega
    · omega
  · split
    · omega
    · exact V_mono hx (absI_nonneg a) (by unfold absI; omega) (by unfold absI; omega)
theorem sg_abs (n : Int) {r : Int} (h : 0 ≤ r) : max (sg n r) (-(sg n r)) = r := by unfold sg; split <;> omega
/-- A value's sign turns with the quantum's. -/
theorem sg_neg {f : Int → Int} (h : f 0 = 0) (q : Int) : sg (-q) (f (absI (-q))) = -(sg q (f (absI q))) := by
  rw [absI_neg]
  by_cases h0 : q = 0
  · subst h0
    rw [show absI 0 = 0 by decide, h]
    rfl
  · unfold sg
    split <;> split <;> omega

/-- The quantum of a value has that value, and is no greater. -/
theorem qn_V {x k : Int} (hx : 0 ≤ x) (h0 : 0 ≤ k) (h1 : k ≤ 1023) : 0 ≤ qn x (V x k) ∧ qn x (V x k) ≤ k ∧ V x (qn x (V x k)) = V x k := by
  have hu := upq_le (x := x) (c := V x k) h0 (Int.le_refl _)
  have hb := upq_bd x (V x k)
  have hV : V x (upq x (V x k)) = V x k := by
    have h2 := V_mono hx hb.1 hu h1
    rcases Int.lt_or_eq_of_le hu with h3 | h3
    · have := upq_at (x := x) (c := V x k) (by omega); omega
    · rw [h3]
  rcases qn_ways (c := V x k) hx with ⟨h, e⟩ | ⟨h2, h3, h4, e⟩ | ⟨h2, _, _, e⟩
  · rw [h] at hV; rw [e]; exact ⟨Int.le_refl _, h0, hV⟩
  · exfalso; rw [hV] at h4; unfold absI at h4; omega
  · rw [e]; exact ⟨hb.1, hu, hV⟩
theorem absI_sgn (n : Int) {r : Int} (h : 0 ≤ r) : absI (sg n r) = r := sg_abs n h
theorem again_one {x q : Int} (hx : 0 ≤ x) (h : -1023 ≤ q ∧ q ≤ 1023) :
    let v := sg q (V x (absI q)); let r := sg v (qn x (absI v))
    (-2097152 ≤ v ∧ v ≤ 2097152) ∧ absI r ≤ absI q ∧ sg r (V x (absI r)) = v ∧ dsq x v = 0 := by
  have hq : 0 ≤ absI q ∧ absI q ≤ 1023 := by unfold absI; omega
  have hv := V_bd (x := x) (absI q) hx
  obtain ⟨h0, h1, h2⟩ := qn_V hx hq.1 hq.2
  have hav : absI (sg q (V x (absI q))) = V x (absI q) := absI_sgn q hv.1
  have har : absI (sg (sg q (V x (absI q))) (qn x (V x (absI q)))) = qn x (V x (absI q)) := absI_sgn _ h0
  dsimp only
  refine ⟨by unfold sg; split <;> omega, by rw [hav, har]; exact h1, ?_, ?_⟩
  · rw [hav, har, h2]
    generalize V x (absI q) = v at *
    by_cases hz : v = 0
    · subst hz
      unfold sg; split <;> split <;> omega
    · have hr : qn x v ≠ 0 := fun e => by rw [e, V_zero] at h2; omega
      unfold sg; split <;> split <;> (try split) <;> omega
  · unfold dsq
    rw [hav, h2]
    simp

/-- How near the value of a quantum is. -/
theorem near_top {x c : Int} (hx : 0 ≤ x) (h : V x 1023 < c) : V x (qn x c) = V x 1023 := by
  have hb := upq_bd x c
  have hu : upq x c = 1023 := by
    rcases Int.lt_or_eq_of_le hb.2 with h1 | h1
    · have := upq_at h1
      have := V_mono hx hb.1 hb.2 (Int.le_refl _)
      omega
    · exact h1
  rcases qn_ways (c := c) hx with ⟨h2, e⟩ | ⟨h2, h3, h4, e⟩ | ⟨h2, _, _, e⟩
  · omega
  · rw [hu] at h4
    rw [e, hu, back_val hx (by decide) (by decide)]
    have := V_mono hx (show (0 : Int) ≤ 1023 - 1 by decide) (show (1023 : Int) - 1 ≤ 1023 by decide) (by decide)
    unfold absI at h4
    omega
  · rw [e, hu]
theorem near_low {x c : Int} (hx : 0 ≤ x) (hc : 0 ≤ c) (h : c ≤ V x 1023) (hl : V x (qn x c) < c) :
    ∃ f, qn x c < f ∧ f ≤ 1023 ∧ (∀ j, qn x c ≤ j → j < f → V x j = V x (qn x c)) ∧ c < V x f ∧ 2 * (c - V x (qn x c)) ≤ V x f - V x (qn x c) := by
  have hb := upq_bd x c
  have hu : c ≤ V x (upq x c) := by
    rcases Int.lt_or_eq_of_le hb.2 with h1 | h1
    · exact upq_at h1
    · rw [h1]; exact h
  rcases qn_ways (c := c) hx with ⟨h2, e⟩ | ⟨h2, h3, h4, e⟩ | ⟨h2, _, _, e⟩
  · rw [h2] at hu; rw [e] at hl; omega
  · have g := back_bd x (show 0 ≤ upq x c - 1 by omega)
    have gv := back_val hx (show 0 ≤ upq x c - 1 by omega) (by omega)
    rw [e] at hl ⊢
    refine ⟨upq x c, by omega, hb.2, fun j j0 j1 => ?_, ?_, ?_⟩
    · have a1 := V_mono hx g.1 j0 (by omega)
      have a2 := V_mono hx (show 0 ≤ j by omega) (show j ≤ upq x c - 1 by omega) (by omega)
      omega
    · unfold absI at h4; omega
    · unfold absI at h4; omega
  · rw [e] at hl; omega
theorem near_high {x c : Int} (hx : 0 ≤ x) (hc : 0 ≤ c) (hl : c < V x (qn x c)) :
    1 ≤ qn x c ∧ V x (qn x c - 1) < c ∧ 2 * (V x (qn x c) - c) ≤ V x (qn x c) - V x (qn x c - 1) := by
  have hb := upq_bd x c
  rcases qn_ways (c := c) hx with ⟨h2, e⟩ | ⟨h2, h3, h4, e⟩ | ⟨h2, h3, h4, e⟩
  · rw [e, V_zero] at hl; omega
  · have gv := back_val hx (show 0 ≤ upq x c - 1 by omega) (by omega)
    rw [e, gv] at hl; omega
  · rw [e] at hl ⊢
    refine ⟨h2, h3, ?_⟩
    unfold absI at h4
    omega

end Go.Proofs.Ytljadjoljhanfaa.Q15
