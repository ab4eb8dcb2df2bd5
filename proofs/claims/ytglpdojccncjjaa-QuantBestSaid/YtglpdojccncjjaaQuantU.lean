/- The functions on lists, with and without an error, each in one sentence. -/
import Derived.Test.YtglpdojccncjjaaQuantAw
import Derived.WalkKit
import Derived.WalkSpells
import Derived.WalkLawsBesides
import Derived.KernelRfl
import Derived.Deep.RegionHeld3
import Derived.Deep.LoopGhost
import Derived.Deep.AppendLies
import Derived.Laws.Rows
import Derived.Shelf.GgClosure.Gives
import Derived.Test.YtglpdojccncjjaaWWords
import Derived.Test.YtglpdojccncjjaaWLast
import Derived.Test.YtglpdojccncjjaaWMore
set_option linter.unusedVariables false
set_option linter.unusedSimpArgs false
namespace Go.Proofs.Ytglpdojccncjjaa.Q15
open Go.RowKit Go.Proofs.YtglpdojccncjjaaW.PrintWords Go.Proofs.YtglpdojccncjjaaW.PrintLast Go.Proofs.YtglpdojccncjjaaW.PrintMore
attribute [local go_sem] max2_int min2_int max_two min_two max_three min_three

def quanta (l : List Int) (s : Int) : List Int := if chk isC l s = 0 then l.map fun c => sg c (qn (stepI s) (absI c)) else []
def valuesL (l : List Int) (s : Int) : List Int := if chk isQ l s = 0 then l.map fun q => sg q (V (stepI s) (absI q)) else []
def noiseR (l : List Int) (s : Int) : Int := if chk isC l s = 0 then noiseI (stepI s) l else 0
def leastR (l : List Int) : Int := if chk isC l 0 = 0 then leastI l else 0

section
variable (A : Option Addr) (cap : Nat) (l : List Int) (s limit : Int) (w : World) (hr : (Kd.int .i64).C w A l.length l)
include hr
theorem Quantize_calls : Calls Try.prog 18 #[.slice A l.length cap, .int .i64 s] w fun e w' => ∃ v, e = .returned (.tuple #[v, .int .i64 (chk isC l s)]) ∧ (Kd.int .i64).R 3 w' w.heap.size (fun _ => True) v (quanta l s) ∧ Below w.heap.size w w' := by
  unfold quanta
  by_cases hk : chk isC l s = 0
  · rw [if_pos hk, hk]; exact Quantize_yes A cap l s w hr hk
  · rw [if_neg hk]; exact (Quantize_no A cap l s w hr hk).mono fun e w' ⟨he, hb⟩ => ⟨_, he, Kd.R_nil _ _ _ _ _, hb⟩
theorem rQuantize_calls : Calls Try.prog 19 #[.slice A l.length cap, .int .i64 s] w fun e w' => ∃ v, e = .returned (.tuple #[v, .int .i64 (chk isC l s)]) ∧ (Kd.int .i64).R 3 w' w.heap.size (fun _ => True) v (quanta l s) ∧ Below w.heap.size w w' := by
  unfold quanta
  by_cases hk : chk isC l s = 0
  · rw [if_pos hk, hk]; exact rQuantize_yes A cap l s w hr hk
  · rw [if_neg hk]; exact (rQuantize_no A cap l s w hr hk).mono fun e w' ⟨he, hb⟩ => ⟨_, he, Kd.R_nil _ _ _ _ _, hb⟩
theorem Values_calls : Calls Try.prog 20 #[.slice A l.length cap, .int .i64 s] w fun e w' => ∃ v, e = .returned (.tuple #[v, .int .i64 (chk isQ l s)]) ∧ (Kd.int .i64).R 3 w' w.heap.size (fun _ => True) v (valuesL l s) ∧ Below w.heap.size w w' := by
  unfold valuesL
  by_cases hk : chk isQ l s = 0
  · rw [if_pos hk, hk]; exact Values_yes A cap l s w hr hk
  · rw [if_neg hk]; exact (Values_no A cap l s w hr hk).mono fun e w' ⟨he, hb⟩ => ⟨_, he, Kd.R_nil _ _ _ _ _, hb⟩
theorem rValues_calls : Calls Try.prog 21 #[.slice A l.length cap, .int .i64 s] w fun e w' => ∃ v, e = .returned (.tuple #[v, .int .i64 (chk isQ l s)]) ∧ (Kd.int .i64).R 3 w' w.heap.size (fun _ => True) v (valuesL l s) ∧ Below w.heap.size w w' := by
  unfold valuesL
  by_cases hk : chk isQ l s = 0
  · rw [if_pos hk, hk]; exact rValues_yes A cap l s w hr hk
  · rw [if_neg hk]; exact (rValues_no A cap l s w hr hk).mono fun e w' ⟨he, hb⟩ => ⟨_, he, Kd.R_nil _ _ _ _ _, hb⟩
theorem Noise_calls : Calls Try.prog 22 #[.slice A l.length cap, .int .i64 s] w fun e w' => e = .returned (.tuple #[.int .i64 (noiseR l s), .int .i64 (chk isC l s)]) ∧ Below w.heap.size w w' := by
  unfold noiseR
  by_cases hk : chk isC l s = 0
  · obtain ⟨hs, hl, hp⟩ := chk_zero hk
    have h := Noise_yes A cap l s w hr hk
    rw [noiseTo_all (by have := stepI_bd hs.1 hs.2; omega) l hl (fun n hn => isC_bd (hp n hn))] at h
    rw [if_pos hk, hk]; exact h
  · rw [if_neg hk]; exact Noise_no A cap l s w hr hk
theorem rNoise_calls : Calls Try.prog 23 #[.slice A l.length cap, .int .i64 s] w fun e w' => e = .returned (.tuple #[.int .i64 (noiseR l s), .int .i64 (chk isC l s)]) ∧ Below w.heap.size w w' := by
  unfold noiseR
  by_cases hk : chk isC l s = 0
  · rw [if_pos hk, hk]; exact rNoise_yes A cap l s w hr hk
  · rw [if_neg hk]; exact rNoise_no A cap l s w hr hk
theorem Least_calls : Calls Try.prog 25 #[.slice A l.length cap] w fun e w' => e = .returned (.tuple #[.int .i64 (leastR l), .int .i64 (chk isC l 0)]) ∧ Below w.heap.size w w' := by
  unfold leastR
  by_cases hk : chk isC l 0 = 0
  · rw [if_pos hk, hk]; exact Least_yes A cap l w hr hk
  · rw [if_neg hk]; exact Least_no A cap l w hr hk
theorem rLeast_calls : Calls Try.prog 26 #[.slice A l.length cap] w fun e w' => e = .returned (.tuple #[.int .i64 (leastR l), .int .i64 (chk isC l 0)]) ∧ Below w.heap.size w w' := by
  unfold leastR
  by_cases hk : chk isC l 0 = 0
  · rw [if_pos hk, hk]; exact rLeast_yes A cap l w hr hk
  · rw [if_neg hk]; exact rLeast_no A cap l w hr hk
end
theorem mostR_pair (l : List Int) (limit : Int) : ∃ u v : Int, mostR l limit = .tuple #[.int .i64 u, .int .i64 v] := by
  unfold mostR
  split
  · exact ⟨_, _, rfl⟩
  · split
    · split <;> exact ⟨_, _, rfl⟩
    · exact ⟨_, _, rfl⟩
theorem quanta_len (l : List Int) (s : Int) : (quanta l s).length ≤ 128 := by
  unfold quanta
  split
  · rename_i h; rw [List.length_map]; exact (chk_zero h).2.1
  · simp
theorem valuesL_len (l : List Int) (s : Int) : (valuesL l s).length ≤ 128 := by
  unfold valuesL
  split
  · rename_i h; rw [List.length_map]; exact (chk_zero h).2.1
  · simp

end Go.Proofs.Ytglpdojccncjjaa.Q15
