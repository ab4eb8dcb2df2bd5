/- The chapter's examples hold. -/
import Derived.Test.YtglpdojccncjjaaQuantN
import Derived.WalkKit
import Derived.WalkSpells
import Derived.WalkLawsBesides
import Derived.KernelRfl
import Derived.Deep.RegionHeld3
import Derived.Deep.LoopGhost
import Derived.Deep.AppendLies
import Derived.Laws.Rows
import Derived.Shelf.GgClosure.Gives
import Derived.Test.YtglpdojccncjjaaWWords
import Derived.Test.YtglpdojccncjjaaWLast
import Derived.Test.YtglpdojccncjjaaWMore
set_option linter.unusedVariables false
set_option linter.unusedSimpArgs false
namespace Go.Proofs.Ytglpdojccncjjaa.Q15
open Go.RowKit Go.Proofs.YtglpdojccncjjaaW.PrintWords Go.Proofs.YtglpdojccncjjaaW.PrintLast Go.Proofs.YtglpdojccncjjaaW.PrintMore
attribute [local go_sem] max2_int min2_int max_two min_two max_three min_three

theorem lit_C (l : List Int) (w : World) (t : TypeId) (hl : l.length ≤ 9223372036854775807) : (Kd.int .i64).C (w.alloc (.cells (l.map (Value.int .i64)).toArray t)) (some ⟨w.heap.size, 0, none⟩) l.length l := by
  refine ⟨rfl, hl, fun _ => ⟨_, rfl, fun j p hj => ⟨[.int .i64 p], rfl, rfl, fun i u hu => ?_⟩⟩⟩
  have hi : i = 0 := by
    rcases Nat.eq_zero_or_pos i with h | h
    · exact h
    · have := (List.getElem?_eq_some_iff.1 hu).1
      simp at this
      omega
  subst hi
  have hu' : u = .int .i64 p := by simpa using hu.symm
  subst hu'
  have e : (⟨w.heap.size, 0, none⟩ : Addr).add (j * (Kd.int .i64).sz + 0) = ⟨w.heap.size, j, none⟩ := by
    show Addr.add _ (j * 1 + 0) = _
    unfold Addr.add
    split <;> simp_all
  rw [e]
  unfold World.cell?
  rw [heap_alloc_new]
  simp only [Option.isSome_none, Bool.false_eq_true, if_false, List.getElem?_toArray, List.getElem?_map, hj]
  rfl
theorem Power_at (q v : Int) (w : World) (h : isQ q = true ∧ P (absI q) = v) : Calls Try.prog 11 #[.int .i64 q] w fun e w' => e = .returned (.tuple #[.int .i64 v, .int .i64 0]) ∧ Below w.heap.size w w' := by
  have := Power_calls q w
  rwa [if_pos h.1, h.2] at this
theorem Value_at (q s v : Int) (w : World) (h : isS s = true ∧ isQ q = true ∧ sg q (V (stepI s) (absI q)) = v) : Calls Try.prog 13 #[.int .i64 q, .int .i64 s] w fun e w' => e = .returned (.tuple #[.int .i64 v, .int .i64 0]) ∧ Below w.heap.size w w' := by
  have := Value_calls q s w
  rwa [if_pos h.1, if_pos h.2.1, h.2.2] at this
theorem Quantum_at (c s v : Int) (w : World) (h : isS s = true ∧ isC c = true ∧ sg c (qn (stepI s) (absI c)) = v) : Calls Try.prog 15 #[.int .i64 c, .int .i64 s] w fun e w' => e = .returned (.tuple #[.int .i64 v, .int .i64 0]) ∧ Below w.heap.size w w' := by
  have := Quantum_calls c s w
  rwa [if_pos h.1, if_pos h.2.1, h.2.2] at this
theorem Quantize_at (A : Option Addr) (cap : Nat) (l : List Int) (s : Int) (r : List Int) (w : World) (hr : (Kd.int .i64).C w A l.length l) (h : chk isC l s = 0 ∧ (l.map fun c => sg c (qn (stepI s) (absI c))) = r) :
    Calls Try.prog 18 #[.slice A l.length cap, .int .i64 s] w fun e w' => ∃ v, e = .returned (.tuple #[v, .int .i64 0]) ∧ (Kd.int .i64).R 3 w' w.heap.size (fun _ => True) v r ∧ Below w.heap.size w w' := by
  have := Quantize_yes A cap l s w hr h.1
  rwa [h.2] at this
theorem Values_at (A : Option Addr) (cap : Nat) (l : List Int) (s : Int) (r : List Int) (w : World) (hr : (Kd.int .i64).C w A l.length l) (h : chk isQ l s = 0 ∧ (l.map fun q => sg q (V (stepI s) (absI q))) = r) :
    Calls Try.prog 20 #[.slice A l.length cap, .int .i64 s] w fun e w' => ∃ v, e = .returned (.tuple #[v, .int .i64 0]) ∧ (Kd.int .i64).R 3 w' w.heap.size (fun _ => True) v r ∧ Below w.heap.size w w' := by
  have := Values_yes A cap l s w hr h.1
  rwa [h.2] at this
theorem Noise_at (A : Option Addr) (cap : Nat) (l : List Int) (s v : Int) (w : World) (hr : (Kd.int .i64).C w A l.length l) (h : chk isC l s = 0 ∧ noiseTo (stepI s) 72057594037927936 0 l = v) :
    Calls Try.prog 22 #[.slice A l.length cap, .int .i64 s] w fun e w' => e = .returned (.tuple #[.int .i64 v, .int .i64 0]) ∧ Below w.heap.size w w' := by
  have := Noise_yes A cap l s w hr h.1
  rwa [h.2] at this
theorem Least_at (A : Option Addr) (cap : Nat) (l : List Int) (v : Int) (w : World) (hr : (Kd.int .i64).C w A l.length l) (h : chk isC l 0 = 0 ∧ leastI l = v) :
    Calls Try.prog 25 #[.slice A l.length cap] w fun e w' => e = .returned (.tuple #[.int .i64 v, .int .i64 0]) ∧ Below w.heap.size w w' := by
  have := Least_yes A cap l w hr h.1
  rwa [h.2] at this
theorem mostR_some {l : List Int} {limit v : Int} (h : ¬ (limit < 0 ∨ 72057594037927936 < limit) ∧ chk isC l 0 = 0 ∧ mostI l limit = some v) : mostR l limit = .tuple #[.int .i64 v, .int .i64 0] := by
  unfold mostR
  rw [if_neg h.1, if_pos h.2.1, h.2.2]
theorem ints_eq (A0 A1 : Option Addr) (c0 c1 : Nat) (l0 l1 : List Int) (w : World) (hr0 : (Kd.int .i64).C w A0 l0.length l0) (hr1 : (Kd.int .i64).C w A1 l1.length l1) (hl : l0.length ≤ 1099511627776) (h : l0 = l1) :
    Calls Try.prog 24 #[.slice A0 l0.length c0, .slice A1 l1.length c1] w fun e w' => e = .returned (.bool true) ∧ Below w.heap.size w w' := by
  have := Ints_calls A0 A1 c0 c1 l0 l1 w hr0 hr1 hl
  rwa [decide_eq_true h] at this

set_option maxRecDepth 100000 in
set_option maxHeartbeats 2000000 in
theorem awake_calls (w : World) : Calls Try.prog 17 #[] w fun e w' => e = .returned (.bool true) ∧ Below w.heap.size w w' := by
  have c1 := fun w => Power_at 2 40 w (by decide +kernel)
  have c2 := fun w => Value_at 2 0 3 w (by decide +kernel)
  have c3 := fun w => Value_at 3 0 4 w (by decide +kernel)
  have c4 := fun w => Quantum_at 2 0 1 w (by decide +kernel)
  have c5 := fun A cap w hr => Quantize_at A cap [2, -3, 0, 1] 0 [1, -2, 0, 1] w hr (by decide +kernel)
  have c6 := fun A cap w hr => Values_at A cap [1, -2, 0, 1] 0 [1, -3, 0, 1] w hr (by decide +kernel)
  have c7 := fun A cap w hr => Noise_at A cap [2, -3] 0 1 w hr (by decide +kernel)
  have c8 := fun A cap w hr => Least_at A cap [1000] 0 w hr (by decide +kernel)
  have c9 : ∀ A cap (w : World), (Kd.int .i64).C w A 1 [0] → Calls Try.prog 27 #[.slice A 1 cap, .int .i64 0] w fun e w' => e = .returned (.tuple #[.int .i64 95, .int .i64 0]) ∧ Below w.heap.size w w' := fun A cap w hr => by
    have := Most_calls A cap [0] 0 w hr
    rwa [mostR_some (v := 95) (by decide +kernel)] at this
  replace c1 := Aside0.mk c1
  replace c2 := Aside0.mk c2
  replace c3 := Aside0.mk c3
  replace c4 := Aside0.mk c4
  replace c5 := Aside0.mk c5
  replace c6 := Aside0.mk c6
  replace c7 := Aside0.mk c7
  replace c8 := Aside0.mk c8
  replace c9 := Aside0.mk c9
  go_enter Try.func17, Try.ntmps17
  go_wp2_with fail
  refine (c1.out _).mono ?_; rintro e w1 ⟨rfl, hb⟩
  go_wp2_with fail
  refine (c2.out _).mono ?_; rintro e w2 ⟨rfl, hb2⟩; replace hb := bnx hb hb2; clear hb2
  go_wp2_with fail
  refine (c3.out _).mono ?_; rintro e w3 ⟨rfl, hb2⟩; replace hb := bnx hb hb2; clear hb2
  go_wp2_with fail
  refine (c4.out _).mono ?_; rintro e w4 ⟨rfl, hb2⟩; replace hb := bnx hb hb2; clear hb2
  go_wp2_with fail
  refine (c5.out _ _ _ (lit_C [2, -3, 0, 1] w4 3 (by decide))).mono ?_; rintro e w5 ⟨v, rfl, hR, hb2⟩; replace hb := bnx (hb.alloc hb.size _) hb2; clear hb2
  obtain ⟨A5, p5, rfl, _, hC⟩ := Kd.R_reads hR
  have HC5 := Aside0.mk hC
  clear hC hR
  go_wp2_with fail
  refine (c6.out _ _ _ HC5.out).mono ?_; rintro e w6 ⟨v, rfl, hR, hb2⟩; replace hb := bnx hb hb2
  replace HC5 := Aside0.mk (Kd.C_below HC5.out hb2)
  clear hb2
  obtain ⟨A6, p6, rfl, _, hC⟩ := Kd.R_reads hR
  have HC6 := Aside0.mk hC
  clear hC hR
  go_wp2_with fail
  have hx := (Below.refl w6.heap.size w6).alloc (Nat.le_refl _) (.cells #[.int .i64 2, .int .i64 (-3)] 3)
  refine (c7.out _ _ _ (lit_C [2, -3] w6 3 (by decide))).mono ?_; rintro e w7 ⟨rfl, hb2⟩; replace hb := bnx (hb.alloc hb.size _) hb2
  replace HC5 := Aside0.mk (Kd.C_below HC5.out (bnx hx hb2))
  replace HC6 := Aside0.mk (Kd.C_below HC6.out (bnx hx hb2))
  clear hb2 hx
  go_wp2_with fail
  have hx := (Below.refl w7.heap.size w7).alloc (Nat.le_refl _) (.cells #[.int .i64 1000] 3)
  refine (c8.out _ _ _ (lit_C [1000] w7 3 (by decide))).mono ?_; rintro e w8 ⟨rfl, hb2⟩; replace hb := bnx (hb.alloc hb.size _) hb2
  replace HC5 := Aside0.mk (Kd.C_below HC5.out (bnx hx hb2))
  replace HC6 := Aside0.mk (Kd.C_below HC6.out (bnx hx hb2))
  clear hb2 hx
  go_wp2_with fail
  have hx := (Below.refl w8.heap.size w8).alloc (Nat.le_refl _) (.cells #[.int .i64 0] 3)
  refine (c9.out _ _ _ (lit_C [0] w8 3 (by decide))).mono ?_; rintro e w9 ⟨rfl, hb2⟩; replace hb := bnx (hb.alloc hb.size _) hb2
  replace HC5 := Aside0.mk (Kd.C_below HC5.out (bnx hx hb2))
  replace HC6 := Aside0.mk (Kd.C_below HC6.out (bnx hx hb2))
  clear hb2 hx
  go_wp2_with fail
  have hx := (Below.refl w9.heap.size w9).alloc (Nat.le_refl _) (.cells #[.int .i64 1, .int .i64 (-2), .int .i64 0, .int .i64 1] 3)
  refine (ints_eq A5 _ p5 _ [1, -2, 0, 1] [1, -2, 0, 1] _ (Kd.C_below HC5.out hx) (lit_C [1, -2, 0, 1] w9 3 (by decide)) (by decide) rfl).mono ?_; rintro e w10 ⟨rfl, hb2⟩; replace hb := bnx (hb.alloc hb.size _) hb2
  replace HC6 := Aside0.mk (Kd.C_below HC6.out (bnx hx hb2))
  clear hb2 hx
  go_wp2_with fail
  have hx := (Below.refl w10.heap.size w10).alloc (Nat.le_refl _) (.cells #[.int .i64 1, .int .i64 (-3), .int .i64 0, .int .i64 1] 3)
  refine (ints_eq A6 _ p6 _ [1, -3, 0, 1] [1, -3, 0, 1] _ (Kd.C_below HC6.out hx) (lit_C [1, -3, 0, 1] w10 3 (by decide)) (by decide) rfl).mono ?_; rintro e w11 ⟨rfl, hb2⟩; replace hb := bnx (hb.alloc hb.size _) hb2
  clear hb2 hx
  go_wp2
  go_ret
  exact ⟨rfl, hb⟩

end Go.Proofs.Ytglpdojccncjjaa.Q15
