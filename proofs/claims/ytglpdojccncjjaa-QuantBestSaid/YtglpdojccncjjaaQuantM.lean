/- What each function of package quant returns: Most. -/
import Derived.Test.YtglpdojccncjjaaQuantG
import Derived.Test.YtglpdojccncjjaaQuantRh
import Derived.RangeFuncNested
import Derived.RangeFuncBound
import Derived.RangeFuncCalls
import Derived.RangeFuncLeaves
import Derived.Shelf.Abstract
import Derived.Shelf.RegionOpen
import Derived.OwnWalkIn
import Derived.TacticsInMore
import Derived.LoopNIn
import Derived.LoopIn
import Derived.WalkKit
import Derived.WalkSpells
import Derived.WalkLawsBesides
import Derived.KernelRfl
import Derived.Deep.RegionHeld3
import Derived.Deep.LoopGhost
import Derived.Deep.AppendLies
import Derived.Laws.Rows
import Derived.Shelf.GgClosure.Gives
import Derived.Test.YtglpdojccncjjaaWWords
import Derived.Test.YtglpdojccncjjaaWLast
import Derived.Test.YtglpdojccncjjaaWMore
namespace Go.Proofs.Ytglpdojccncjjaa.Q15
open Go.RowKit Go.Proofs.YtglpdojccncjjaaW.PrintWords Go.Proofs.YtglpdojccncjjaaW.PrintLast Go.Proofs.YtglpdojccncjjaaW.PrintMore
attribute [local go_sem] max2_int min2_int max_two min_two max_three min_three
open Go.Shelf
attribute [local go_sem] Oper.semAt_some

abbrev Sc := { s : Int // 0 ≤ s ∧ s ≤ 95 }

set_option maxRecDepth 100000 in
set_option maxHeartbeats 1000000 in
theorem down1_stops (F : Fence) (n : Nat) (hF : F.fn 74) (hro : F.round = none) (hn : 1 ≤ n) (B1 B2 n0 : Nat) (b : Int) (hb0 : 0 ≤ b) (hb1 : b ≤ 95) (w : World) (l1 : B1 < n0) (l2 : B2 < n0) (c1 : w.cell? ⟨B1, 0, none⟩ = some (.int .i64 95)) (c2 : w.cell? ⟨B2, 0, none⟩ = some (.int .i64 b)) :
    SeqStopsK F n Try.prog 74 #[.pointer (some ⟨B1, 0, none⟩), .pointer (some ⟨B2, 0, none⟩)] (fun s : Sc => #[.int .i64 s.1]) (Below n0) (fun xs => xs.map (·.1) = downL 95 b) (fun pre => pre.map (·.1) <+: downL 95 b) 96 w := fun l J Jx W hW hJ hJx hY h0 => by
  have d1 := cnx c1 hW
  have d2 := cnx c2 hW
  refine callsIn_of_wp Try.func74 rfl hF ?_ hro
  simp only [Try.ntmps74, List.size_toArray, List.length_cons, List.length_nil, Nat.reduceAdd, Nat.reduceSub, Array.replicate_succ, Array.replicate_zero, List.push_toArray, List.append_toArray, List.nil_append, List.cons_append]
  gi_wp2
  have HY := Aside0.mk hY
  clear hY c1 c2
  gi_loopw [4] (fun s wr => ∃ (z : Int) (pre : List Sc), s = .int .i64 z ∧ b - 1 ≤ z ∧ z ≤ 95 ∧ Aside0 (pre.map (·.1) ++ downL z b = downL 95 b) ∧ Aside0 ((pre.length : Int) = 95 - z) ∧ Below n0 W wr ∧ Aside0 (J pre wr)) (fun s _ => (intOf s + 1).toNat)
  case atStart => exact ⟨95, [], rfl, by omega, by omega, ⟨by simp⟩, ⟨by simp⟩, Below.refl _ _, ⟨h0⟩⟩
  case round =>
    obtain ⟨z, pre, rfl, hz0, hz1, hpre, hlen, hb, hJs⟩ := hrel
    have e1 := (hb.cell (p := ⟨B1, 0, none⟩) l1).trans d1
    have e2 := (hb.cell (p := ⟨B2, 0, none⟩) l2).trans d2
    by_cases hlt : b ≤ z
    · obtain ⟨fn, tmps, assign, body, hy, hR⟩ := HY.out pre ⟨z, by omega, hz1⟩ wr hJs.out (by have := hlen.out; omega)
      have HD : Aside0 ((pre ++ [⟨z, by omega, hz1⟩] : List Sc).map (·.1) ++ downL (z - 1) b = downL 95 b) := ⟨by rw [← hpre.out, downL_cons hlt]; simp⟩
      have hR2 := Aside0.mk hR
      clear hR
      gi_wp2
      refine hR2.out.mono ?_
      rintro e W3 (⟨rfl, hJ3, hk3⟩ | ⟨rfl, hJx3⟩)
      · have HJ3 := Aside0.mk hJ3
        clear hJ3 hR2
        gi_wp2
        go_roundw
        case rel => exact ⟨z - 1, _, rfl, by omega, by omega, HD, ⟨by have := hlen.out; simp; omega⟩, hb.trans hk3, HJ3⟩
        case measure => simp [intOf]; omega
      · have HJ3 := Aside0.mk hJx3
        clear hJx3 hR2
        gi_wp2
        refine bodyPost_ret (results_none rfl _ _ _) rfl ?_
        exact ⟨⟨_, rfl⟩, .inr ⟨_, ⟨_, HD.out⟩, HJ3.out⟩⟩
    · obtain rfl : z = b - 1 := by omega
      gi_wp2
      go_end0
      refine ⟨⟨_, rfl⟩, .inl ⟨pre, ?_, hJs.out⟩⟩
      have := hpre.out
      rwa [downL_nil (by omega), List.append_nil] at this

set_option maxHeartbeats 400000 in
theorem down_calls (a b : Int) (w : World) :
    Calls Try.prog 55 #[.int .i64 a, .int .i64 b] w fun e w' => e = .returned (.func (.func 74) #[] #[.pointer (some ⟨w.heap.size, 0, none⟩), .pointer (some ⟨w.heap.size + 1, 0, none⟩)]) ∧ w' = (w.alloc (.cells #[.int .i64 a] 3)).alloc (.cells #[.int .i64 b] 3) := by
  go_enter Try.func55, Try.ntmps55
  go_wp2
  go_ret
  exact ⟨rfl, rfl⟩

end Go.Proofs.Ytglpdojccncjjaa.Q15
