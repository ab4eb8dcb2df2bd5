/- The law QuantOne. -/
import Derived.Test.YtglpdojccncjjaaQuantAw
import Derived.WalkKit
import Derived.WalkSpells
import Derived.WalkLawsBesides
import Derived.KernelRfl
import Derived.Deep.RegionHeld3
import Derived.Deep.LoopGhost
import Derived.Deep.AppendLies
import Derived.Laws.Rows
import Derived.Shelf.GgClosure.Gives
import Derived.Test.YtglpdojccncjjaaWWords
import Derived.Test.YtglpdojccncjjaaWLast
import Derived.Test.YtglpdojccncjjaaWMore
set_option linter.unusedVariables false
set_option linter.unusedSimpArgs false
namespace Go.Proofs.Ytglpdojccncjjaa.Q15
open Go.RowKit Go.Proofs.YtglpdojccncjjaaW.PrintWords Go.Proofs.YtglpdojccncjjaaW.PrintLast Go.Proofs.YtglpdojccncjjaaW.PrintMore
attribute [local go_sem] max2_int min2_int max_two min_two max_three min_three

theorem if_pair {c : Prop} [Decidable c] {a b d f : Int} {x : Array Value} (hx : x = #[.int .i64 d, .int .i64 f] ∨ ∃ d f : Int, x = #[.int .i64 d, .int .i64 f]) : ∃ u v : Int, (if c then #[.int .i64 a, .int .i64 b] else x : Array Value) = #[.int .i64 u, .int .i64 v] := by
  rcases hx with rfl | ⟨d, f, rfl⟩
  · split <;> exact ⟨_, _, rfl⟩
  · split <;> exact ⟨_, _, rfl⟩
theorem if_pair2 {c g : Prop} [Decidable c] [Decidable g] {a b d f k m : Int} : ∃ u v : Int, (if c then if g then #[.int .i64 a, .int .i64 b] else #[.int .i64 d, .int .i64 f] else #[.int .i64 k, .int .i64 m] : Array Value) = #[.int .i64 u, .int .i64 v] := by
  split
  · split <;> exact ⟨_, _, rfl⟩
  · exact ⟨_, _, rfl⟩

set_option maxRecDepth 100000 in
set_option maxHeartbeats 1000000 in
theorem QuantOne_calls (q c s : Int) (w : World) : Calls Try.prog 3 #[.int .i64 q, .int .i64 c, .int .i64 s] w fun e w' => e = .returned (.bool true) ∧ Below w.heap.size w w' := by
  have p1 := fun w => Power_calls q w
  have p2 := fun w => rPower_calls q w
  obtain ⟨u1, v1, h1⟩ := if_pair (c := isQ q = true) (a := P (absI q)) (b := 0) (d := 0) (f := 6) (.inl rfl)
  rw [h1] at p1 p2
  have p3 := fun w => Value_calls q s w
  have p4 := fun w => rValue_calls q s w
  obtain ⟨u2, v2, h2⟩ := if_pair2 (c := isS s = true) (g := isQ q = true) (a := sg q (V (stepI s) (absI q))) (b := 0) (d := 0) (f := 6) (k := 0) (m := 1)
  rw [h2] at p3 p4
  have p5 := fun w => Quantum_calls c s w
  have p6 := fun w => rQuantum_calls c s w
  obtain ⟨u3, v3, h3⟩ := if_pair2 (c := isS s = true) (g := isC c = true) (a := sg c (qn (stepI s) (absI c))) (b := 0) (d := 0) (f := 6) (k := 0) (m := 1)
  rw [h3] at p5 p6
  replace p1 := Aside0.mk p1
  replace p2 := Aside0.mk p2
  replace p3 := Aside0.mk p3
  replace p4 := Aside0.mk p4
  replace p5 := Aside0.mk p5
  replace p6 := Aside0.mk p6
  clear h1 h2 h3
  have hb := Below.refl w.heap.size w
  go_enter Try.func3, Try.ntmps3
  go_wp2_with (first | (go_at_call 11; refine (p1.out _).mono ?_; rintro e w' ⟨rfl, hbn⟩; replace hb := bnx hb hbn; clear hbn) | (go_at_call 12; refine (p2.out _).mono ?_; rintro e w' ⟨rfl, hbn⟩; replace hb := bnx hb hbn; clear hbn) | (go_at_call 13; refine (p3.out _).mono ?_; rintro e w' ⟨rfl, hbn⟩; replace hb := bnx hb hbn; clear hbn) | (go_at_call 14; refine (p4.out _).mono ?_; rintro e w' ⟨rfl, hbn⟩; replace hb := bnx hb hbn; clear hbn) | (go_at_call 15; refine (p5.out _).mono ?_; rintro e w' ⟨rfl, hbn⟩; replace hb := bnx hb hbn; clear hbn) | (go_at_call 16; refine (p6.out _).mono ?_; rintro e w' ⟨rfl, hbn⟩; replace hb := bnx hb hbn; clear hbn) | (go_at_call 17; refine (awake_calls _).mono ?_; rintro e w' ⟨rfl, hbn⟩; replace hb := bnx hb hbn; clear hbn))
  go_ret
  exact ⟨rfl, hb⟩

theorem QuantOne_row (q : Int) (_ : -9223372036854775808 ≤ q ∧ q ≤ 9223372036854775807) (c : Int) (_ : -9223372036854775808 ≤ c ∧ c ≤ 9223372036854775807) (s : Int) (_ : -9223372036854775808 ≤ s ∧ s ≤ 9223372036854775807) (w : World) :
    Calls Try.prog 3 #[.int .i64 q, .int .i64 c, .int .i64 s] w fun e w' => e = .returned (.bool true) ∧ Below w.heap.size w w' := QuantOne_calls q c s w

end Go.Proofs.Ytglpdojccncjjaa.Q15
