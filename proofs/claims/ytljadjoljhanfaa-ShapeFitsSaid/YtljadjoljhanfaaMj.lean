/- What each of shape's public functions returns, in one form; few. -/
import Derived.Test.YtljadjoljhanfaaMi
import Derived.Test.YtljadjoljhanfaaMf
import Derived.WalkKit
import Derived.WalkSpells
import Derived.WalkLawsBesides
import Derived.KernelRfl
import Derived.Deep.RegionHeld3
import Derived.Deep.LoopGhost
import Derived.Deep.AppendLies
import Derived.Laws.Rows
import Derived.Shelf.GgClosure.Gives
import Derived.Test.YtljadjoljhanfaaWWords
import Derived.Test.YtljadjoljhanfaaWLast
import Derived.Test.YtljadjoljhanfaaWMore
import Derived.Test.YtljadjoljhanfaaMc
import Derived.Deep.DeepCutAuto
set_option linter.unusedVariables false
set_option linter.unusedSimpArgs false
namespace Go.Proofs.Ytljadjoljhanfaa.Q16
open Go.RowKit Go.Proofs.YtljadjoljhanfaaW.PrintWords Go.Proofs.YtljadjoljhanfaaW.PrintLast Go.Proofs.YtljadjoljhanfaaW.PrintMore
attribute [local go_sem] max2_int min2_int max_two min_two max_three min_three
open Go.Proofs.Ytljadjoljhanfaa.Q15

/-- A list that is returned with an error. -/
def ifl (E : Int) (L : List Int) : List Int := if E = 0 then L else []
/-- A list and an error are returned. -/
def Out (L : List Int) (E : Int) (w : World) (e : Ending) (w' : World) : Prop := ∃ A p, e = .returned (.tuple #[.slice A L.length p, .int .i64 E]) ∧ L.length ≤ p ∧ p ≤ 9223372036854775807 ∧ (∀ ad, A = some ad → ad = ⟨ad.block, 0, none⟩) ∧ (Kd.int .i64).C w' A L.length L ∧ Below w.heap.size w w'

theorem R_cap {e base : Nat} {ok : Nat → Prop} {w : World} {A : Option Addr} {n p : Nat} {xs : List Int} (h : (Kd.int .i64).R e w base ok (.slice A n p) xs) : p ≤ 9223372036854775807 := by
  have ho := Kd.own_of_R (enc := Value.int .i64) (h1 := fun _ => rfl) h
  rcases ho.2 with ⟨e1, _⟩ | ⟨g, cap, cur, e1, _, _, _, hcap, _⟩
  · injection e1 with _ _ e1
    omega
  · injection e1 with _ _ e1
    unfold maxLen at hcap
    omega
theorem R_zero {e base : Nat} {ok : Nat → Prop} {w : World} {ad : Addr} {n p : Nat} {xs : List Int} (h : (Kd.int .i64).R e w base ok (.slice (some ad) n p) xs) : ad = ⟨ad.block, 0, none⟩ := by
  have ho := Kd.own_of_R (enc := Value.int .i64) (h1 := fun _ => rfl) h
  rcases ho.2 with ⟨e1, _⟩ | ⟨g, cap, cur, e1, _⟩
  · injection e1 with e1
    cases e1
  · injection e1 with e1
    cases e1
    rfl
theorem out_of {g : Nat} {args : Array Value} {w : World} {E : Int} {L : List Int}
    (hn : E ≠ 0 → Calls Try.prog g args w fun e w' => e = .returned (.tuple #[.slice none 0 0, .int .i64 E]) ∧ Below w.heap.size w w')
    (hy : E = 0 → Calls Try.prog g args w fun e w' => ∃ v, e = .returned (.tuple #[v, .int .i64 0]) ∧ (Kd.int .i64).R 3 w' w.heap.size (fun _ => True) v L ∧ Below w.heap.size w w') :
    Calls Try.prog g args w (Out (ifl E L) E w) := by
  unfold ifl
  by_cases h : E = 0
  · rw [if_pos h]
    subst h
    refine (hy rfl).mono ?_
    rintro e w' ⟨v, rfl, hR, hb⟩
    obtain ⟨A, p, rfl, hp, hC⟩ := Kd.R_reads hR
    exact ⟨A, p, rfl, hp, R_cap hR, fun ad e => by cases e; exact R_zero hR, hC, hb⟩
  · rw [if_neg h]
    refine (hn h).mono ?_
    rintro e w' ⟨rfl, hb⟩
    exact ⟨none, 0, rfl, Nat.le_refl _, by omega, fun _ h => (by cases h), Kd.C_nil _ _, hb⟩

def scalesL (c l s : List Int) : List Int := (List.range l.length).map fun k => scaleB (band c l k) (rd s k)
def quantL (c l s : List Int) : List Int := ((List.range l.length).map fun k => quanta (band c l k) (rd s k)).flatten
def valL (c l s : List Int) : List Int := ((List.range l.length).map fun k => valuesL (band c l k) (rd s k)).flatten
def noisL (c l s : List Int) : List Int := (List.range l.length).map fun k => noiseR (band c l k) (rd s k)
def coarL (c l s : List Int) (n : Int) : List Int := (List.range l.length).map fun k => coarse (band c l k) (rd s k) n

section
variable (A0 A1 A2 A3 : Option Addr) (c0 c1 c2 c3 : Nat) (c l s m : List Int) (w : World) (hr0 : (Kd.int .i64).C w A0 c.length c) (hr1 : (Kd.int .i64).C w A1 l.length l) (hr2 : (Kd.int .i64).C w A2 s.length s) (hr3 : (Kd.int .i64).C w A3 m.length m) (hc0 : c.length ≤ c0) (hc9 : c0 ≤ 9223372036854775807) (b0 : c.length ≤ 1000000) (b1 : l.length ≤ 1000000) (b2 : s.length ≤ 1000000) (b3 : m.length ≤ 1000000)
include hr0 hr1 hr2 hc0 hc9 b0 b1 b2
theorem Scales_out : Calls Try.prog 11 #[.slice A0 c.length c0, .slice A1 l.length c1, .slice A2 s.length c2] w (Out (ifl (errS (-2097152) 2097152 0 72057594037927936 c l s) (scalesL c l s)) (errS (-2097152) 2097152 0 72057594037927936 c l s) w) :=
  out_of (Scales_no A0 A1 A2 c0 c1 c2 c l s w hr0 hr1 hr2 b0 b1 b2) (Scales_yes A0 A1 A2 c0 c1 c2 c l s w hr0 hr1 hr2 hc0 hc9)
theorem rScales_out : Calls Try.prog 12 #[.slice A0 c.length c0, .slice A1 l.length c1, .slice A2 s.length c2] w (Out (ifl (errS (-2097152) 2097152 0 72057594037927936 c l s) (scalesL c l s)) (errS (-2097152) 2097152 0 72057594037927936 c l s) w) :=
  out_of (rScales_no A0 A1 A2 c0 c1 c2 c l s w hr0 hr1 hr2 b0 b1 b2) (rScales_yes A0 A1 A2 c0 c1 c2 c l s w hr0 hr1 hr2 hc0 hc9)
theorem Quantize_out : Calls Try.prog 14 #[.slice A0 c.length c0, .slice A1 l.length c1, .slice A2 s.length c2] w (Out (ifl (errS (-2097152) 2097152 0 95 c l s) (quantL c l s)) (errS (-2097152) 2097152 0 95 c l s) w) :=
  out_of (Quantize_no A0 A1 A2 c0 c1 c2 c l s w hr0 hr1 hr2 b0 b1 b2) (Quantize_yes A0 A1 A2 c0 c1 c2 c l s w hr0 hr1 hr2 hc0 hc9)
theorem rQuantize_out : Calls Try.prog 15 #[.slice A0 c.length c0, .slice A1 l.length c1, .slice A2 s.length c2] w (Out (ifl (errS (-2097152) 2097152 0 95 c l s) (quantL c l s)) (errS (-2097152) 2097152 0 95 c l s) w) :=
  out_of (rQuantize_no A0 A1 A2 c0 c1 c2 c l s w hr0 hr1 hr2 b0 b1 b2) (rQuantize_yes A0 A1 A2 c0 c1 c2 c l s w hr0 hr1 hr2 hc0 hc9)
theorem Values_out : Calls Try.prog 16 #[.slice A0 c.length c0, .slice A1 l.length c1, .slice A2 s.length c2] w (Out (ifl (errS (-1023) 1023 0 95 c l s) (valL c l s)) (errS (-1023) 1023 0 95 c l s) w) :=
  out_of (Values_no A0 A1 A2 c0 c1 c2 c l s w hr0 hr1 hr2 b0 b1 b2) (Values_yes A0 A1 A2 c0 c1 c2 c l s w hr0 hr1 hr2 hc0 hc9)
theorem rValues_out : Calls Try.prog 17 #[.slice A0 c.length c0, .slice A1 l.length c1, .slice A2 s.length c2] w (Out (ifl (errS (-1023) 1023 0 95 c l s) (valL c l s)) (errS (-1023) 1023 0 95 c l s) w) :=
  out_of (rValues_no A0 A1 A2 c0 c1 c2 c l s w hr0 hr1 hr2 b0 b1 b2) (rValues_yes A0 A1 A2 c0 c1 c2 c l s w hr0 hr1 hr2 hc0 hc9)
theorem Noises_out : Calls Try.prog 18 #[.slice A0 c.length c0, .slice A1 l.length c1, .slice A2 s.length c2] w (Out (ifl (errS (-2097152) 2097152 0 95 c l s) (noisL c l s)) (errS (-2097152) 2097152 0 95 c l s) w) :=
  out_of (Noises_no A0 A1 A2 c0 c1 c2 c l s w hr0 hr1 hr2 b0 b1 b2) (Noises_yes A0 A1 A2 c0 c1 c2 c l s w hr0 hr1 hr2 hc0 hc9)
theorem rNoises_out : Calls Try.prog 19 #[.slice A0 c.length c0, .slice A1 l.length c1, .slice A2 s.length c2] w (Out (ifl (errS (-2097152) 2097152 0 95 c l s) (noisL c l s)) (errS (-2097152) 2097152 0 95 c l s) w) :=
  out_of (rNoises_no A0 A1 A2 c0 c1 c2 c l s w hr0 hr1 hr2 b0 b1 b2) (rNoises_yes A0 A1 A2 c0 c1 c2 c l s w hr0 hr1 hr2 hc0 hc9)
theorem Coarser_out (n : Int) : Calls Try.prog 26 #[.slice A0 c.length c0, .slice A1 l.length c1, .slice A2 s.length c2, .int .i64 n] w (Out (ifl (errC c l s n) (coarL c l s n)) (errC c l s n) w) :=
  out_of (Coarser_no A0 A1 A2 c0 c1 c2 c l s n w hr0 hr1 hr2 b0 b1 b2) (Coarser_yes A0 A1 A2 c0 c1 c2 c l s n w hr0 hr1 hr2 hc0 hc9)
theorem rCoarser_out (n : Int) : Calls Try.prog 27 #[.slice A0 c.length c0, .slice A1 l.length c1, .slice A2 s.length c2, .int .i64 n] w (Out (ifl (errC c l s n) (coarL c l s n)) (errC c l s n) w) :=
  out_of (rCoarser_no A0 A1 A2 c0 c1 c2 c l s n w hr0 hr1 hr2 b0 b1 b2) (rCoarser_yes A0 A1 A2 c0 c1 c2 c l s n w hr0 hr1 hr2 hc0 hc9)
include hr3 b3
theorem Amplify_out : Calls Try.prog 24 #[.slice A0 c.length c0, .slice A1 l.length c1, .slice A2 s.length c2, .slice A3 m.length c3] w (Out (ifl (errX c l s m) (ampls c l s m)) (errX c l s m) w) :=
  out_of (Amplify_no A0 A1 A2 A3 c0 c1 c2 c3 c l s m w hr0 hr1 hr2 hr3 b0 b1 b2 b3) (Amplify_yes A0 A1 A2 A3 c0 c1 c2 c3 c l s m w hr0 hr1 hr2 hr3 hc0 hc9)
theorem rAmplify_out : Calls Try.prog 25 #[.slice A0 c.length c0, .slice A1 l.length c1, .slice A2 s.length c2, .slice A3 m.length c3] w (Out (ifl (errX c l s m) (ampls c l s m)) (errX c l s m) w) :=
  out_of (rAmplify_no A0 A1 A2 A3 c0 c1 c2 c3 c l s m w hr0 hr1 hr2 hr3 b0 b1 b2 b3 hc0 hc9) (rAmplify_yes A0 A1 A2 A3 c0 c1 c2 c3 c l s m w hr0 hr1 hr2 hr3 hc0 hc9)
end

set_option maxRecDepth 100000 in
set_option maxHeartbeats 1000000 in
theorem few_calls (A0 A1 : Option Addr) (n0 n1 c0 c1 c2 : Nat) (B : Nat) (ls : List Nat) (w : World) (hls : Lens w B ls) (hll : ls.length ≤ 1000000) :
    Calls Try.prog 9 #[.agg #[.slice A0 n0 c0, .slice A1 n1 c1], .slice (some ⟨B, 0, none⟩) ls.length c2] w fun e w' => e = .returned (.bool (decide ((∀ n ∈ ls, n ≤ 200) ∧ n0 ≤ 300 ∧ n1 ≤ 200))) ∧ Below w.heap.size w w' := by
  have hb : Below w.heap.size w (w.alloc (.cells #[.slice A0 n0 c0, .slice A1 n1 c1] 24)) := (Below.refl w.heap.size w).alloc (Nat.le_refl _) _
  have HLS := Aside0.mk hls
  clear hls
  obtain ⟨E, hE⟩ : ∃ E : Bool, E = decide ((∀ n ∈ ls, n ≤ 200) ∧ n0 ≤ 300 ∧ n1 ≤ 200) := ⟨_, rfl⟩
  rw [← hE]
  have HX : Aside0 (∀ k n, ls[k]? = some n → 200 < n → E = false) := ⟨fun k n hk hne => by
    rw [hE, decide_eq_false]
    intro h
    have := h.1 n (List.mem_of_getElem? hk)
    omega⟩
  have HY : Aside0 ((∀ x ∈ ls, x ≤ 200) → E = (decide (n0 ≤ 300) && decide (n1 ≤ 200))) := ⟨fun h => by rw [hE, ← Bool.decide_and]; exact decide_eq_decide.2 ⟨fun h2 => h2.2, fun h2 => ⟨h, h2⟩⟩⟩
  clear hE
  go_enter Try.func9, Try.ntmps9
  go_wp2_with fail
  obtain ⟨W, hW⟩ : ∃ W, W = w.alloc (.cells #[.slice A0 n0 c0, .slice A1 n1 c1] 24) := ⟨_, rfl⟩
  rw [← hW] at hb ⊢
  have k1 : W.cell? ⟨w.heap.size, 0, none⟩ = some (.slice A0 n0 c0) := by rw [hW]; go_simp
  have k2 : W.cell? ⟨w.heap.size, 1, none⟩ = some (.slice A1 n1 c1) := by rw [hW]; go_simp
  clear hW
  go_loopw [9] (fun i wr => ∃ (k : Nat), i = .int .i64 k ∧ k ≤ ls.length ∧ Aside0 (∀ x ∈ ls.take k, x ≤ 200) ∧ wr = W) (fun i _ => ls.length - (intOf i).toNat)
  case atStart => exact ⟨0, rfl, by omega, ⟨by simp⟩, rfl⟩
  case round =>
    obtain ⟨k, rfl, hk, ha, rfl⟩ := hrel
    by_cases hlt : k < ls.length
    · have hk? := List.getElem?_eq_getElem hlt
      obtain ⟨A2, c3, hcell⟩ := HLS.out k _ hk?
      replace hcell := cnx hcell hb
      have hX := HX.out k _ hk?
      have hT : ls.take (k + 1) = ls.take k ++ [ls[k]] := List.take_succ_eq_append_getElem hlt
      obtain ⟨n, hx⟩ : ∃ n, n = ls[k] := ⟨_, rfl⟩
      rw [← hx] at hcell hX hT
      replace hX := Aside0.mk hX
      replace hT := Aside0.mk hT
      clear hx hk?
      by_cases h1 : 200 < n
      · have h1' : (200 : Int) < (n : Int) := by omega
        have hf := Aside0.mk (hX.out h1)
        clear h1
        go_wp2
        go_ret
        exact ⟨by rw [hf.out]; rfl, hb⟩
      · have h1' : decide ((200 : Int) < (n : Int)) = false := by simp; omega
        have h1'' : Aside0 (n ≤ 200) := ⟨by omega⟩
        clear h1
        go_wp2
        go_roundw
        case rel => exact ⟨k + 1, by go_num, by omega, ⟨by
          rw [hT.out]
          intro x hx
          rcases List.mem_append.1 hx with hx | hx
          · exact ha.out x hx
          · rw [List.mem_singleton.1 hx]; exact h1''.out⟩, trivial⟩
        case measure => simp [intOf]; omega
    · obtain rfl : k = ls.length := by omega
      have hA := ha.out
      rw [List.take_length] at hA
      have hf := Aside0.mk (HY.out hA)
      clear ha hA
      have hways : (∃ a b : Bool, decide ((n0 : Int) ≤ 300) = a ∧ decide ((n1 : Int) ≤ 200) = b ∧ E = (a && b)) := ⟨_, _, rfl, rfl, by rw [hf.out]; congr 1 <;> exact decide_eq_decide.2 (by omega)⟩
      obtain ⟨a, b, ha', hb', hab⟩ := hways
      clear hf
      replace hab := Aside0.mk hab
      cases a <;> cases b
      all_goals
        go_wp2
        go_ret
        exact ⟨by rw [hab.out]; rfl, hb⟩

end Go.Proofs.Ytljadjoljhanfaa.Q16
/- The chapter's examples hold. -/
namespace Go.Proofs.Ytljadjoljhanfaa.Q16
open Go.RowKit Go.Proofs.YtljadjoljhanfaaW.PrintWords Go.Proofs.YtljadjoljhanfaaW.PrintLast Go.Proofs.YtljadjoljhanfaaW.PrintMore
attribute [local go_sem] max2_int min2_int max_two min_two max_three min_three
open Go.Proofs.Ytljadjoljhanfaa.Q15

theorem row_C {w : World} {g : Nat} {t : TypeId} {fz : Nat × Nat} {l : List Int} (h : w.heap[g]? = some (.cells (l.map (Value.int .i64)).toArray t fz)) (hl : l.length ≤ 9223372036854775807) : (Kd.int .i64).C w (some ⟨g, 0, none⟩) l.length l := by
  refine ⟨rfl, hl, fun _ => ⟨_, rfl, fun j p hj => ⟨[.int .i64 p], rfl, rfl, fun i u hu => ?_⟩⟩⟩
  have hi : i = 0 := by
    rcases Nat.eq_zero_or_pos i with h | h
    · exact h
    · have := (List.getElem?_eq_some_iff.1 hu).1
      simp at this
      omega
  subst hi
  have hu' : u = .int .i64 p := by simpa using hu.symm
  subst hu'
  have e : (⟨g, 0, none⟩ : Addr).add (j * (Kd.int .i64).sz + 0) = ⟨g, j, none⟩ := by
    show Addr.add _ (j * 1 + 0) = _
    unfold Addr.add
    split <;> simp_all
  rw [e]
  unfold World.cell?
  rw [h]
  simp only [Option.isSome_none, Bool.false_eq_true, if_false, List.getElem?_toArray, List.getElem?_map, hj]
  rfl

def zeros : List Int := List.replicate 128 0
def three : List Int := zeros.set 7 3
def ones : List Int := zeros.set 7 1
theorem a1 : errS (-2097152) 2097152 0 72057594037927936 zeros [128] [9] = 0 ∧ scalesL zeros [128] [9] = [95] := by decide +kernel
theorem a2 : errS (-2097152) 2097152 0 72057594037927936 three [128] [0] = 0 ∧ scalesL three [128] [0] = [7] := by decide +kernel
theorem a3 : errS (-2097152) 2097152 0 95 three [128] [7] = 0 ∧ quantL three [128] [7] = ones := by decide +kernel
theorem a4 : errS (-1023) 1023 0 95 ones [128] [7] = 0 ∧ valL ones [128] [7] = three := by decide +kernel
theorem a5 : errS (-2097152) 2097152 0 95 three [128] [7] = 0 ∧ noisL three [128] [7] = [0] := by decide +kernel
theorem a6 : errC three [128] [7] 96 = 0 ∧ coarL three [128] [7] 96 = [95] := by decide +kernel
theorem a7 : errX three [128] [7] [0] = 0 ∧ overR three [128] [7] [0] = 0 ∧ worstR three [128] [7] [0] = 0 := by decide +kernel
theorem a8 : errX three [128] [8] [0] = 0 ∧ ampls three [128] [8] [0] = [7] := by decide +kernel
theorem z_len : zeros.length = 128 := by decide +kernel
theorem t_len : three.length = 128 := by decide +kernel
theorem o_len : ones.length = 128 := by decide +kernel

/-- A list of n numbers is returned, without an error. -/
def OutN (n : Nat) (L : List Int) (w : World) (e : Ending) (w' : World) : Prop := ∃ A p, e = .returned (.tuple #[.slice A n p, .int .i64 0]) ∧ n ≤ p ∧ p ≤ 9223372036854775807 ∧ (∀ ad, A = some ad → ad = ⟨ad.block, 0, none⟩) ∧ (Kd.int .i64).C w' A n L ∧ Below w.heap.size w w'
theorem outN {g : Nat} {args : Array Value} {w : World} {E : Int} {L M : List Int} {n : Nat} (h : Calls Try.prog g args w (Out (ifl E L) E w)) (hE : E = 0 ∧ L = M) (hn : M.length = n) : Calls Try.prog g args w (OutN n M w) := by
  obtain ⟨rfl, rfl⟩ := hE
  subst hn
  exact h

theorem push3 (w : World) (a b c : Obj) : (((w.alloc a).alloc b).alloc c).drew.heap[w.heap.size]? = some a ∧ (((w.alloc a).alloc b).alloc c).drew.heap[w.heap.size + 1]? = some b ∧ (((w.alloc a).alloc b).alloc c).drew.heap[w.heap.size + 1 + 1]? = some c ∧ Below w.heap.size w (((w.alloc a).alloc b).alloc c).drew := by
  have e : (((w.alloc a).alloc b).alloc c).drew.heap = ((w.heap.push a).push b).push c := rfl
  rw [e]
  refine ⟨?_, ?_, ?_, ?_⟩
  · simp [Array.getElem?_push]; omega
  · simp [Array.getElem?_push, Array.getElem_push]
  · simp [Array.getElem?_push, Array.getElem_push]
  · exact ((((Below.refl _ _).alloc (Nat.le_refl _) _).alloc (by simp) _).alloc (by simp; omega) _).drew

set_option maxRecDepth 100000 in
set_option maxHeartbeats 8000000 in
theorem awake_calls (w : World) : Calls Try.prog 10 #[] w fun e w' => e = .returned (.bool true) ∧ Below w.heap.size w w' := by
  have hmk : ∀ W : World, (Instr.makeSlice 22 (.int .i64 128) (.int .i64 128)).run Try.prog W = .ok (.slice (some ⟨W.heap.size, 0, none⟩) 128 128) (W.alloc (.cells (zeros.map (Value.int .i64)).toArray 3)) := fun W => by kernel_rfl
  obtain ⟨Z, hZ⟩ : ∃ Z, Z = (zeros.map (Value.int .i64)).toArray := ⟨_, rfl⟩
  rw [← hZ] at hmk
  have hZ7 : Aside0 (Z[7]? = some (.int .i64 0)) := ⟨by rw [hZ]; rfl⟩
  have hZ3 : Aside0 (Z.setIfInBounds 7 (.int .i64 3) = (three.map (Value.int .i64)).toArray) := ⟨by rw [hZ]; rfl⟩
  have c1 : Aside0 (∀ (A0 A1 A2 : Option Addr) (p0 p1 p2 : Nat) (W : World), (Kd.int .i64).C W A0 128 zeros → (Kd.int .i64).C W A1 1 [128] → (Kd.int .i64).C W A2 1 [9] → 128 ≤ p0 → p0 ≤ 9223372036854775807 → Calls Try.prog 11 #[.slice A0 128 p0, .slice A1 1 p1, .slice A2 1 p2] W (OutN 1 [95] W)) := ⟨fun A0 A1 A2 p0 p1 p2 W h0 h1 h2 q0 q1 => by
    have h := Scales_out A0 A1 A2 p0 p1 p2 zeros [128] [9] W (by rw [z_len]; exact h0) h1 h2 (by rw [z_len]; exact q0) q1 (by rw [z_len]; omega) (by simp) (by simp)
    rw [z_len] at h
    exact outN h a1 rfl⟩
  have c2 : Aside0 (∀ (A0 A1 A2 : Option Addr) (p0 p1 p2 : Nat) (W : World), (Kd.int .i64).C W A0 128 three → (Kd.int .i64).C W A1 1 [128] → (Kd.int .i64).C W A2 1 [0] → 128 ≤ p0 → p0 ≤ 9223372036854775807 → Calls Try.prog 11 #[.slice A0 128 p0, .slice A1 1 p1, .slice A2 1 p2] W (OutN 1 [7] W)) := ⟨fun A0 A1 A2 p0 p1 p2 W h0 h1 h2 q0 q1 => by
    have h := Scales_out A0 A1 A2 p0 p1 p2 three [128] [0] W (by rw [t_len]; exact h0) h1 h2 (by rw [t_len]; exact q0) q1 (by rw [t_len]; omega) (by simp) (by simp)
    rw [t_len] at h
    exact outN h a2 rfl⟩
  have c3 : Aside0 (∀ (A0 A1 A2 : Option Addr) (p0 p1 p2 : Nat) (W : World), (Kd.int .i64).C W A0 128 three → (Kd.int .i64).C W A1 1 [128] → (Kd.int .i64).C W A2 1 [7] → 128 ≤ p0 → p0 ≤ 9223372036854775807 → Calls Try.prog 14 #[.slice A0 128 p0, .slice A1 1 p1, .slice A2 1 p2] W (OutN 128 ones W)) := ⟨fun A0 A1 A2 p0 p1 p2 W h0 h1 h2 q0 q1 => by
    have h := Quantize_out A0 A1 A2 p0 p1 p2 three [128] [7] W (by rw [t_len]; exact h0) h1 h2 (by rw [t_len]; exact q0) q1 (by rw [t_len]; omega) (by simp) (by simp)
    rw [t_len] at h
    exact outN h a3 o_len⟩
  have c4 : Aside0 (∀ (A0 A1 A2 : Option Addr) (p0 p1 p2 : Nat) (W : World), (Kd.int .i64).C W A0 128 ones → (Kd.int .i64).C W A1 1 [128] → (Kd.int .i64).C W A2 1 [7] → 128 ≤ p0 → p0 ≤ 9223372036854775807 → Calls Try.prog 16 #[.slice A0 128 p0, .slice A1 1 p1, .slice A2 1 p2] W (OutN 128 three W)) := ⟨fun A0 A1 A2 p0 p1 p2 W h0 h1 h2 q0 q1 => by
    have h := Values_out A0 A1 A2 p0 p1 p2 ones [128] [7] W (by rw [o_len]; exact h0) h1 h2 (by rw [o_len]; exact q0) q1 (by rw [o_len]; omega) (by simp) (by simp)
    rw [o_len] at h
    exact outN h a4 t_len⟩
  have c5 : Aside0 (∀ (A0 A1 A2 : Option Addr) (p0 p1 p2 : Nat) (W : World), (Kd.int .i64).C W A0 128 three → (Kd.int .i64).C W A1 1 [128] → (Kd.int .i64).C W A2 1 [7] → 128 ≤ p0 → p0 ≤ 9223372036854775807 → Calls Try.prog 18 #[.slice A0 128 p0, .slice A1 1 p1, .slice A2 1 p2] W (OutN 1 [0] W)) := ⟨fun A0 A1 A2 p0 p1 p2 W h0 h1 h2 q0 q1 => by
    have h := Noises_out A0 A1 A2 p0 p1 p2 three [128] [7] W (by rw [t_len]; exact h0) h1 h2 (by rw [t_len]; exact q0) q1 (by rw [t_len]; omega) (by simp) (by simp)
    rw [t_len] at h
    exact outN h a5 rfl⟩
  have c6 : Aside0 (∀ (A0 A1 A2 : Option Addr) (p0 p1 p2 : Nat) (W : World), (Kd.int .i64).C W A0 128 three → (Kd.int .i64).C W A1 1 [128] → (Kd.int .i64).C W A2 1 [7] → 128 ≤ p0 → p0 ≤ 9223372036854775807 → Calls Try.prog 26 #[.slice A0 128 p0, .slice A1 1 p1, .slice A2 1 p2, .int .i64 96] W (OutN 1 [95] W)) := ⟨fun A0 A1 A2 p0 p1 p2 W h0 h1 h2 q0 q1 => by
    have h := Coarser_out A0 A1 A2 p0 p1 p2 three [128] [7] W (by rw [t_len]; exact h0) h1 h2 (by rw [t_len]; exact q0) q1 (by rw [t_len]; omega) (by simp) (by simp) 96
    rw [t_len] at h
    exact outN h a6 rfl⟩
  have c7 : Aside0 (∀ (A0 A1 A2 A3 : Option Addr) (p0 p1 p2 p3 : Nat) (W : World), (Kd.int .i64).C W A0 128 three → (Kd.int .i64).C W A1 1 [128] → (Kd.int .i64).C W A2 1 [7] → (Kd.int .i64).C W A3 1 [0] → 128 ≤ p0 → p0 ≤ 9223372036854775807 → Calls Try.prog 20 #[.slice A0 128 p0, .slice A1 1 p1, .slice A2 1 p2, .slice A3 1 p3] W fun e w' => e = .returned (.tuple #[.int .i64 0, .int .i64 0]) ∧ Below W.heap.size W w') := ⟨fun A0 A1 A2 A3 p0 p1 p2 p3 W h0 h1 h2 h3 q0 q1 => by
    have h := Over_calls A0 A1 A2 A3 p0 p1 p2 p3 three [128] [7] [0] W (by rw [t_len]; exact h0) h1 h2 h3 (by rw [t_len]; omega) (by simp) (by simp) (by simp) (by rw [t_len]; exact q0) q1
    rw [t_len, a7.1, a7.2.1] at h
    exact h⟩
  have c8 : Aside0 (∀ (A0 A1 A2 A3 : Option Addr) (p0 p1 p2 p3 : Nat) (W : World), (Kd.int .i64).C W A0 128 three → (Kd.int .i64).C W A1 1 [128] → (Kd.int .i64).C W A2 1 [7] → (Kd.int .i64).C W A3 1 [0] → 128 ≤ p0 → p0 ≤ 9223372036854775807 → Calls Try.prog 22 #[.slice A0 128 p0, .slice A1 1 p1, .slice A2 1 p2, .slice A3 1 p3] W fun e w' => e = .returned (.tuple #[.int .i64 0, .int .i64 0]) ∧ Below W.heap.size W w') := ⟨fun A0 A1 A2 A3 p0 p1 p2 p3 W h0 h1 h2 h3 q0 q1 => by
    have h := Worst_calls A0 A1 A2 A3 p0 p1 p2 p3 three [128] [7] [0] W (by rw [t_len]; exact h0) h1 h2 h3 (by rw [t_len]; omega) (by simp) (by simp) (by simp) (by rw [t_len]; exact q0) q1
    rw [t_len, a7.1, a7.2.2] at h
    exact h⟩
  have c9 : Aside0 (∀ (A0 A1 A2 A3 : Option Addr) (p0 p1 p2 p3 : Nat) (W : World), (Kd.int .i64).C W A0 128 three → (Kd.int .i64).C W A1 1 [128] → (Kd.int .i64).C W A2 1 [8] → (Kd.int .i64).C W A3 1 [0] → 128 ≤ p0 → p0 ≤ 9223372036854775807 → Calls Try.prog 24 #[.slice A0 128 p0, .slice A1 1 p1, .slice A2 1 p2, .slice A3 1 p3] W (OutN 1 [7] W)) := ⟨fun A0 A1 A2 A3 p0 p1 p2 p3 W h0 h1 h2 h3 q0 q1 => by
    have h := Amplify_out A0 A1 A2 A3 p0 p1 p2 p3 three [128] [8] [0] W (by rw [t_len]; exact h0) h1 h2 h3 (by rw [t_len]; exact q0) q1 (by rw [t_len]; omega) (by simp) (by simp) (by simp)
    rw [t_len] at h
    exact outN h a8 rfl⟩
  have cI : Aside0 (∀ (A0 A1 : Option Addr) (p0 p1 n : Nat) (L : List Int) (W : World), L.length = n → n ≤ 128 → (Kd.int .i64).C W A0 n L → (Kd.int .i64).C W A1 n L → Calls Try.prog 13 #[.slice A0 n p0, .slice A1 n p1] W fun e w' => e = .returned (.bool true) ∧ Below W.heap.size W w') := ⟨fun A0 A1 p0 p1 n L W hn h128 h0 h1 => by
    subst hn
    exact ints_eq A0 A1 p0 p1 L L W h0 h1 (by omega) rfl⟩
  have c17 : Aside0 (∀ (A : Option Addr) (W : World), (∀ ad, A = some ad → ad = ⟨ad.block, 0, none⟩) → (Kd.int .i64).C W A 128 ones → ∃ g, A = some ⟨g, 0, none⟩ ∧ W.cell? ⟨g, 7, none⟩ = some (.int .i64 1)) := ⟨fun A W ha h => by
    obtain ⟨ad, e, h2⟩ := el_at (w1 := W) (by rw [o_len]; exact h) (Below.refl _ _) (k := 7) (by rw [o_len]; omega)
    have e2 := ha ad e
    rw [show rd ones ((7 : Nat) : Int) = 1 by decide +kernel] at h2
    rw [e2] at h2
    exact ⟨ad.block, by rw [e, ← e2], h2⟩⟩
  replace hZ := Aside0.mk hZ
  have hlz := Aside0.mk z_len
  have hlt' := Aside0.mk t_len
  have hlo := Aside0.mk o_len
  obtain ⟨z0, hz0⟩ : ∃ z, z = zeros := ⟨_, rfl⟩
  obtain ⟨z3, hz3⟩ : ∃ z, z = three := ⟨_, rfl⟩
  obtain ⟨z1, hz1⟩ : ∃ z, z = ones := ⟨_, rfl⟩
  rw [← hz0] at c1 hZ hlz
  rw [← hz3] at c2 c3 c4 c5 c6 c7 c8 c9 hZ3 hlt'
  rw [← hz1] at c3 c4 c17 hlo
  clear hz0 hz3 hz1
  go_enter Try.func10, Try.ntmps10
  go_upto_region 1 with fail
  go_cut [1, 2, 3] from 22 to 24 (fun u1 u2 u3 wx => ∃ g1 g2 g3 : Nat, u1 = .slice (some ⟨g1, 0, none⟩) 128 128 ∧ u2 = .slice (some ⟨g2, 0, none⟩) 128 128 ∧ u3 = .slice (some ⟨g3, 0, none⟩) 1 1 ∧ wx.heap[g1]? = some (.cells Z 3 (0, 0)) ∧ wx.heap[g2]? = some (.cells Z 3 (0, 0)) ∧ wx.heap[g3]? = some (.cells #[.int .i64 128] 3 (0, 0)) ∧ w.heap.size ≤ g2 ∧ g1 ≠ g2 ∧ g3 ≠ g2 ∧ Below w.heap.size w wx)
  case first =>
    go_region
    all_goals
      go_wp2_with fail
      go_meet
      refine ⟨_, _, _, rfl, rfl, rfl, ?_, ?_, ?_, by omega, by omega, by omega, ?_⟩
    all_goals first | exact (push3 _ _ _ _).1 | exact (push3 _ _ _ _).2.1 | exact (push3 _ _ _ _).2.2.1 | exact (push3 _ _ _ _).2.2.2
  case rest =>
    obtain ⟨g1, g2, g3, rfl, rfl, rfl, h1, h2, h3, hlt, n12, n32, hb⟩ := hcut
    have hc : wc.cell? ⟨g2, 7, none⟩ = some (.int .i64 0) := by unfold World.cell?; rw [h2]; exact hZ7.out
    have hfz : wc.frozen? ⟨g2, 7, none⟩ = false := by unfold World.frozen?; rw [h2]; rfl
    have KZ : (Kd.int .i64).C (wc.setCell ⟨g2, 7, none⟩ (.int .i64 3)) (some ⟨g1, 0, none⟩) 128 z0 := by
      have h := row_C (w := wc.setCell ⟨g2, 7, none⟩ (.int .i64 3)) (g := g1) (l := z0) (t := 3) (fz := (0, 0)) (by rw [Below.heap_setCell _ _ _ _ (by simpa using n12), h1, hZ.out]) (by rw [hlz.out]; omega)
      rwa [hlz.out] at h
    have K3 : (Kd.int .i64).C (wc.setCell ⟨g2, 7, none⟩ (.int .i64 3)) (some ⟨g2, 0, none⟩) 128 z3 := by
      have h := row_C (w := wc.setCell ⟨g2, 7, none⟩ (.int .i64 3)) (g := g2) (l := z3) (t := 3) (fz := (0, 0)) (by rw [heap_setCell_same _ _ _ _ _ _ h2, hZ3.out]) (by rw [hlt'.out]; omega)
      rwa [hlt'.out] at h
    have K1 : (Kd.int .i64).C (wc.setCell ⟨g2, 7, none⟩ (.int .i64 3)) (some ⟨g3, 0, none⟩) 1 [128] := row_C (w := wc.setCell ⟨g2, 7, none⟩ (.int .i64 3)) (g := g3) (l := [128]) (t := 3) (fz := (0, 0)) (by rw [Below.heap_setCell _ _ _ _ (by simpa using n32), h3]; rfl) (by simp)
    replace KZ := Aside0.mk KZ
    replace K3 := Aside0.mk K3
    replace K1 := Aside0.mk K1
    replace hb : Below w.heap.size w (wc.setCell ⟨g2, 7, none⟩ (.int .i64 3)) := hb.setCell (p := ⟨g2, 7, none⟩) hlt _
    clear h1 h2 h3 hlt n12 n32 hZ hZ3 hZ7 hmk
    go_wp2_with fail
    obtain ⟨W0, hW⟩ : ∃ W, W = wc.setCell ⟨g2, 7, none⟩ (.int .i64 3) := ⟨_, rfl⟩
    have hs0 : W0.heap.size = wc.heap.size := by rw [hW]; simp [World.setCell]
    rw [← hW] at KZ K3 K1 hb ⊢
    rw [← hs0]
    clear hW hc hfz hs0
    obtain ⟨V1, hW⟩ : ∃ V, V = W0.alloc (.cells #[.int .i64 9] 3) := ⟨_, rfl⟩
    have L1 : (Kd.int .i64).C V1 (some ⟨W0.heap.size, 0, none⟩) 1 [9] := by rw [hW]; exact lit_C [9] W0 3 (by simp)
    have hal : Below W0.heap.size W0 V1 := by rw [hW]; exact (Below.refl _ _).alloc (Nat.le_refl _) _
    rw [← hW]
    replace L1 := Aside0.mk L1
    replace KZ := Aside0.mk (Kd.C_below KZ.out hal)
    replace K3 := Aside0.mk (Kd.C_below K3.out hal)
    replace K1 := Aside0.mk (Kd.C_below K1.out hal)
    replace hb := bnx hb hal
    clear hal hW
    refine (c1.out _ _ _ _ _ _ _ KZ.out K1.out L1.out (by omega) (by omega)).mono ?_; rintro _ X2 ⟨Aa, pa, rfl, -, -, -, Ka, hbn⟩
    replace KZ := Aside0.mk (Kd.C_below KZ.out hbn)
    replace K3 := Aside0.mk (Kd.C_below K3.out hbn)
    replace K1 := Aside0.mk (Kd.C_below K1.out hbn)
    replace L1 := Aside0.mk (Kd.C_below L1.out hbn)
    replace hb := bnx hb hbn
    clear hbn
    replace Ka := Aside0.mk Ka
    clear L1
    clear KZ
    go_wp2_with fail
    obtain ⟨V3, hW⟩ : ∃ V, V = X2.alloc (.cells #[.int .i64 0] 3) := ⟨_, rfl⟩
    have L3 : (Kd.int .i64).C V3 (some ⟨X2.heap.size, 0, none⟩) 1 [0] := by rw [hW]; exact lit_C [0] X2 3 (by simp)
    have hal : Below X2.heap.size X2 V3 := by rw [hW]; exact (Below.refl _ _).alloc (Nat.le_refl _) _
    rw [← hW]
    replace L3 := Aside0.mk L3
    replace K3 := Aside0.mk (Kd.C_below K3.out hal)
    replace K1 := Aside0.mk (Kd.C_below K1.out hal)
    replace Ka := Aside0.mk (Kd.C_below Ka.out hal)
    replace hb := bnx hb hal
    clear hal hW
    refine (c2.out _ _ _ _ _ _ _ K3.out K1.out L3.out (by omega) (by omega)).mono ?_; rintro _ X4 ⟨Ab, pb, rfl, -, -, -, Kb, hbn⟩
    replace K3 := Aside0.mk (Kd.C_below K3.out hbn)
    replace K1 := Aside0.mk (Kd.C_below K1.out hbn)
    replace Ka := Aside0.mk (Kd.C_below Ka.out hbn)
    replace L3 := Aside0.mk (Kd.C_below L3.out hbn)
    replace hb := bnx hb hbn
    clear hbn
    replace Kb := Aside0.mk Kb
    clear L3
    go_wp2_with fail
    refine (c3.out _ _ _ _ _ _ _ K3.out K1.out Kb.out (by omega) (by omega)).mono ?_; rintro _ X5 ⟨Aq, pq, rfl, q1, q2, q3, Kq, hbn⟩
    replace K3 := Aside0.mk (Kd.C_below K3.out hbn)
    replace K1 := Aside0.mk (Kd.C_below K1.out hbn)
    replace Ka := Aside0.mk (Kd.C_below Ka.out hbn)
    replace Kb := Aside0.mk (Kd.C_below Kb.out hbn)
    replace hb := bnx hb hbn
    clear hbn
    replace Kq := Aside0.mk Kq
    go_wp2_with fail
    refine (c4.out _ _ _ _ _ _ _ Kq.out K1.out Kb.out q1 q2).mono ?_; rintro _ X6 ⟨Av, pv, rfl, -, -, -, Kv, hbn⟩
    replace K3 := Aside0.mk (Kd.C_below K3.out hbn)
    replace K1 := Aside0.mk (Kd.C_below K1.out hbn)
    replace Ka := Aside0.mk (Kd.C_below Ka.out hbn)
    replace Kb := Aside0.mk (Kd.C_below Kb.out hbn)
    replace Kq := Aside0.mk (Kd.C_below Kq.out hbn)
    replace hb := bnx hb hbn
    clear hbn
    replace Kv := Aside0.mk Kv
    clear q1 q2; replace q3 := Aside0.mk q3
    go_wp2_with fail
    refine (c5.out _ _ _ _ _ _ _ K3.out K1.out Kb.out (by omega) (by omega)).mono ?_; rintro _ X7 ⟨An, pn, rfl, -, -, -, Kn, hbn⟩
    replace K3 := Aside0.mk (Kd.C_below K3.out hbn)
    replace K1 := Aside0.mk (Kd.C_below K1.out hbn)
    replace Ka := Aside0.mk (Kd.C_below Ka.out hbn)
    replace Kb := Aside0.mk (Kd.C_below Kb.out hbn)
    replace Kq := Aside0.mk (Kd.C_below Kq.out hbn)
    replace Kv := Aside0.mk (Kd.C_below Kv.out hbn)
    replace hb := bnx hb hbn
    clear hbn
    replace Kn := Aside0.mk Kn
    go_wp2_with fail
    refine (c6.out _ _ _ _ _ _ _ K3.out K1.out Kb.out (by omega) (by omega)).mono ?_; rintro _ X8 ⟨Ac, pc, rfl, -, -, -, Kc, hbn⟩
    replace K3 := Aside0.mk (Kd.C_below K3.out hbn)
    replace K1 := Aside0.mk (Kd.C_below K1.out hbn)
    replace Ka := Aside0.mk (Kd.C_below Ka.out hbn)
    replace Kb := Aside0.mk (Kd.C_below Kb.out hbn)
    replace Kq := Aside0.mk (Kd.C_below Kq.out hbn)
    replace Kv := Aside0.mk (Kd.C_below Kv.out hbn)
    replace Kn := Aside0.mk (Kd.C_below Kn.out hbn)
    replace hb := bnx hb hbn
    clear hbn
    replace Kc := Aside0.mk Kc
    go_wp2_with fail
    obtain ⟨V9, hW⟩ : ∃ V, V = X8.alloc (.cells #[.int .i64 0] 3) := ⟨_, rfl⟩
    have L9 : (Kd.int .i64).C V9 (some ⟨X8.heap.size, 0, none⟩) 1 [0] := by rw [hW]; exact lit_C [0] X8 3 (by simp)
    have hal : Below X8.heap.size X8 V9 := by rw [hW]; exact (Below.refl _ _).alloc (Nat.le_refl _) _
    rw [← hW]
    replace L9 := Aside0.mk L9
    replace K3 := Aside0.mk (Kd.C_below K3.out hal)
    replace K1 := Aside0.mk (Kd.C_below K1.out hal)
    replace Ka := Aside0.mk (Kd.C_below Ka.out hal)
    replace Kb := Aside0.mk (Kd.C_below Kb.out hal)
    replace Kq := Aside0.mk (Kd.C_below Kq.out hal)
    replace Kv := Aside0.mk (Kd.C_below Kv.out hal)
    replace Kn := Aside0.mk (Kd.C_below Kn.out hal)
    replace Kc := Aside0.mk (Kd.C_below Kc.out hal)
    replace hb := bnx hb hal
    clear hal hW
    refine (c7.out _ _ _ _ _ _ _ _ _ K3.out K1.out Kb.out L9.out (by omega) (by omega)).mono ?_; rintro _ X10 ⟨rfl, hbn⟩
    replace K3 := Aside0.mk (Kd.C_below K3.out hbn)
    replace K1 := Aside0.mk (Kd.C_below K1.out hbn)
    replace Ka := Aside0.mk (Kd.C_below Ka.out hbn)
    replace Kb := Aside0.mk (Kd.C_below Kb.out hbn)
    replace Kq := Aside0.mk (Kd.C_below Kq.out hbn)
    replace Kv := Aside0.mk (Kd.C_below Kv.out hbn)
    replace Kn := Aside0.mk (Kd.C_below Kn.out hbn)
    replace Kc := Aside0.mk (Kd.C_below Kc.out hbn)
    replace L9 := Aside0.mk (Kd.C_below L9.out hbn)
    replace hb := bnx hb hbn
    clear hbn
    clear L9
    go_wp2_with fail
    obtain ⟨V11, hW⟩ : ∃ V, V = X10.alloc (.cells #[.int .i64 0] 3) := ⟨_, rfl⟩
    have L11 : (Kd.int .i64).C V11 (some ⟨X10.heap.size, 0, none⟩) 1 [0] := by rw [hW]; exact lit_C [0] X10 3 (by simp)
    have hal : Below X10.heap.size X10 V11 := by rw [hW]; exact (Below.refl _ _).alloc (Nat.le_refl _) _
    rw [← hW]
    replace L11 := Aside0.mk L11
    replace K3 := Aside0.mk (Kd.C_below K3.out hal)
    replace K1 := Aside0.mk (Kd.C_below K1.out hal)
    replace Ka := Aside0.mk (Kd.C_below Ka.out hal)
    replace Kb := Aside0.mk (Kd.C_below Kb.out hal)
    replace Kq := Aside0.mk (Kd.C_below Kq.out hal)
    replace Kv := Aside0.mk (Kd.C_below Kv.out hal)
    replace Kn := Aside0.mk (Kd.C_below Kn.out hal)
    replace Kc := Aside0.mk (Kd.C_below Kc.out hal)
    replace hb := bnx hb hal
    clear hal hW
    refine (c8.out _ _ _ _ _ _ _ _ _ K3.out K1.out Kb.out L11.out (by omega) (by omega)).mono ?_; rintro _ X12 ⟨rfl, hbn⟩
    replace K3 := Aside0.mk (Kd.C_below K3.out hbn)
    replace K1 := Aside0.mk (Kd.C_below K1.out hbn)
    replace Ka := Aside0.mk (Kd.C_below Ka.out hbn)
    replace Kb := Aside0.mk (Kd.C_below Kb.out hbn)
    replace Kq := Aside0.mk (Kd.C_below Kq.out hbn)
    replace Kv := Aside0.mk (Kd.C_below Kv.out hbn)
    replace Kn := Aside0.mk (Kd.C_below Kn.out hbn)
    replace Kc := Aside0.mk (Kd.C_below Kc.out hbn)
    replace L11 := Aside0.mk (Kd.C_below L11.out hbn)
    replace hb := bnx hb hbn
    clear hbn
    clear L11
    go_wp2_with fail
    obtain ⟨Y1, hY⟩ : ∃ V, V = X12.alloc (.cells #[.int .i64 8] 3) := ⟨_, rfl⟩
    have L8 : (Kd.int .i64).C Y1 (some ⟨X12.heap.size, 0, none⟩) 1 [8] := by rw [hY]; exact lit_C [8] X12 3 (by simp)
    have hal : Below X12.heap.size X12 Y1 := by rw [hY]; exact (Below.refl _ _).alloc (Nat.le_refl _) _
    have hsz : Y1.heap.size = X12.heap.size + 1 := by rw [hY]; simp
    rw [← hY, ← hsz]
    replace L8 := Aside0.mk L8
    replace K3 := Aside0.mk (Kd.C_below K3.out hal)
    replace K1 := Aside0.mk (Kd.C_below K1.out hal)
    replace Ka := Aside0.mk (Kd.C_below Ka.out hal)
    replace Kb := Aside0.mk (Kd.C_below Kb.out hal)
    replace Kq := Aside0.mk (Kd.C_below Kq.out hal)
    replace Kv := Aside0.mk (Kd.C_below Kv.out hal)
    replace Kn := Aside0.mk (Kd.C_below Kn.out hal)
    replace Kc := Aside0.mk (Kd.C_below Kc.out hal)
    replace hb := bnx hb hal
    clear hal hY hsz
    obtain ⟨V13, hW⟩ : ∃ V, V = Y1.alloc (.cells #[.int .i64 0] 3) := ⟨_, rfl⟩
    have L13 : (Kd.int .i64).C V13 (some ⟨Y1.heap.size, 0, none⟩) 1 [0] := by rw [hW]; exact lit_C [0] Y1 3 (by simp)
    have hal : Below Y1.heap.size Y1 V13 := by rw [hW]; exact (Below.refl _ _).alloc (Nat.le_refl _) _
    rw [← hW]
    replace L13 := Aside0.mk L13
    replace K3 := Aside0.mk (Kd.C_below K3.out hal)
    replace K1 := Aside0.mk (Kd.C_below K1.out hal)
    replace Ka := Aside0.mk (Kd.C_below Ka.out hal)
    replace Kb := Aside0.mk (Kd.C_below Kb.out hal)
    replace Kq := Aside0.mk (Kd.C_below Kq.out hal)
    replace Kv := Aside0.mk (Kd.C_below Kv.out hal)
    replace Kn := Aside0.mk (Kd.C_below Kn.out hal)
    replace Kc := Aside0.mk (Kd.C_below Kc.out hal)
    replace L8 := Aside0.mk (Kd.C_below L8.out hal)
    replace hb := bnx hb hal
    clear hal hW
    refine (c9.out _ _ _ _ _ _ _ _ _ K3.out K1.out L8.out L13.out (by omega) (by omega)).mono ?_; rintro _ X14 ⟨Ad, pd, rfl, -, -, -, Kd1, hbn⟩
    replace K3 := Aside0.mk (Kd.C_below K3.out hbn)
    replace K1 := Aside0.mk (Kd.C_below K1.out hbn)
    replace Ka := Aside0.mk (Kd.C_below Ka.out hbn)
    replace Kb := Aside0.mk (Kd.C_below Kb.out hbn)
    replace Kq := Aside0.mk (Kd.C_below Kq.out hbn)
    replace Kv := Aside0.mk (Kd.C_below Kv.out hbn)
    replace Kn := Aside0.mk (Kd.C_below Kn.out hbn)
    replace Kc := Aside0.mk (Kd.C_below Kc.out hbn)
    replace L8 := Aside0.mk (Kd.C_below L8.out hbn)
    replace L13 := Aside0.mk (Kd.C_below L13.out hbn)
    replace hb := bnx hb hbn
    clear hbn
    replace Kd1 := Aside0.mk Kd1
    clear L13
    clear L8
    clear K1
    go_wp2_with fail
    obtain ⟨V15, hW⟩ : ∃ V, V = X14.alloc (.cells #[.int .i64 95] 3) := ⟨_, rfl⟩
    have L15 : (Kd.int .i64).C V15 (some ⟨X14.heap.size, 0, none⟩) 1 [95] := by rw [hW]; exact lit_C [95] X14 3 (by simp)
    have hal : Below X14.heap.size X14 V15 := by rw [hW]; exact (Below.refl _ _).alloc (Nat.le_refl _) _
    rw [← hW]
    replace L15 := Aside0.mk L15
    replace K3 := Aside0.mk (Kd.C_below K3.out hal)
    replace Ka := Aside0.mk (Kd.C_below Ka.out hal)
    replace Kb := Aside0.mk (Kd.C_below Kb.out hal)
    replace Kq := Aside0.mk (Kd.C_below Kq.out hal)
    replace Kv := Aside0.mk (Kd.C_below Kv.out hal)
    replace Kn := Aside0.mk (Kd.C_below Kn.out hal)
    replace Kc := Aside0.mk (Kd.C_below Kc.out hal)
    replace Kd1 := Aside0.mk (Kd.C_below Kd1.out hal)
    replace hb := bnx hb hal
    clear hal hW
    refine (cI.out _ _ _ _ 1 [95] _ rfl (by decide) Ka.out L15.out).mono ?_; rintro _ X16 ⟨rfl, hbn⟩
    replace K3 := Aside0.mk (Kd.C_below K3.out hbn)
    replace Ka := Aside0.mk (Kd.C_below Ka.out hbn)
    replace Kb := Aside0.mk (Kd.C_below Kb.out hbn)
    replace Kq := Aside0.mk (Kd.C_below Kq.out hbn)
    replace Kv := Aside0.mk (Kd.C_below Kv.out hbn)
    replace Kn := Aside0.mk (Kd.C_below Kn.out hbn)
    replace Kc := Aside0.mk (Kd.C_below Kc.out hbn)
    replace Kd1 := Aside0.mk (Kd.C_below Kd1.out hbn)
    replace L15 := Aside0.mk (Kd.C_below L15.out hbn)
    replace hb := bnx hb hbn
    clear hbn
    clear L15
    clear Ka
    go_wp2_with fail
    obtain ⟨V17, hW⟩ : ∃ V, V = X16.alloc (.cells #[.int .i64 7] 3) := ⟨_, rfl⟩
    have L17 : (Kd.int .i64).C V17 (some ⟨X16.heap.size, 0, none⟩) 1 [7] := by rw [hW]; exact lit_C [7] X16 3 (by simp)
    have hal : Below X16.heap.size X16 V17 := by rw [hW]; exact (Below.refl _ _).alloc (Nat.le_refl _) _
    rw [← hW]
    replace L17 := Aside0.mk L17
    replace K3 := Aside0.mk (Kd.C_below K3.out hal)
    replace Kb := Aside0.mk (Kd.C_below Kb.out hal)
    replace Kq := Aside0.mk (Kd.C_below Kq.out hal)
    replace Kv := Aside0.mk (Kd.C_below Kv.out hal)
    replace Kn := Aside0.mk (Kd.C_below Kn.out hal)
    replace Kc := Aside0.mk (Kd.C_below Kc.out hal)
    replace Kd1 := Aside0.mk (Kd.C_below Kd1.out hal)
    replace hb := bnx hb hal
    clear hal hW
    refine (cI.out _ _ _ _ 1 [7] _ rfl (by decide) Kb.out L17.out).mono ?_; rintro _ X18 ⟨rfl, hbn⟩
    replace K3 := Aside0.mk (Kd.C_below K3.out hbn)
    replace Kb := Aside0.mk (Kd.C_below Kb.out hbn)
    replace Kq := Aside0.mk (Kd.C_below Kq.out hbn)
    replace Kv := Aside0.mk (Kd.C_below Kv.out hbn)
    replace Kn := Aside0.mk (Kd.C_below Kn.out hbn)
    replace Kc := Aside0.mk (Kd.C_below Kc.out hbn)
    replace Kd1 := Aside0.mk (Kd.C_below Kd1.out hbn)
    replace L17 := Aside0.mk (Kd.C_below L17.out hbn)
    replace hb := bnx hb hbn
    clear hbn
    clear L17
    clear Kb
    obtain ⟨adq, rfl, hcq⟩ := c17.out _ _ q3.out Kq.out
    go_wp2_with fail
    clear hcq
    refine (cI.out _ _ _ _ 128 z3 _ hlt'.out (by decide) Kv.out K3.out).mono ?_; rintro _ X19 ⟨rfl, hbn⟩
    replace K3 := Aside0.mk (Kd.C_below K3.out hbn)
    replace Kq := Aside0.mk (Kd.C_below Kq.out hbn)
    replace Kv := Aside0.mk (Kd.C_below Kv.out hbn)
    replace Kn := Aside0.mk (Kd.C_below Kn.out hbn)
    replace Kc := Aside0.mk (Kd.C_below Kc.out hbn)
    replace Kd1 := Aside0.mk (Kd.C_below Kd1.out hbn)
    replace hb := bnx hb hbn
    clear hbn
    clear Kv
    clear K3
    clear Kq
    go_wp2_with fail
    obtain ⟨V20, hW⟩ : ∃ V, V = X19.alloc (.cells #[.int .i64 0] 3) := ⟨_, rfl⟩
    have L20 : (Kd.int .i64).C V20 (some ⟨X19.heap.size, 0, none⟩) 1 [0] := by rw [hW]; exact lit_C [0] X19 3 (by simp)
    have hal : Below X19.heap.size X19 V20 := by rw [hW]; exact (Below.refl _ _).alloc (Nat.le_refl _) _
    rw [← hW]
    replace L20 := Aside0.mk L20
    replace Kn := Aside0.mk (Kd.C_below Kn.out hal)
    replace Kc := Aside0.mk (Kd.C_below Kc.out hal)
    replace Kd1 := Aside0.mk (Kd.C_below Kd1.out hal)
    replace hb := bnx hb hal
    clear hal hW
    refine (cI.out _ _ _ _ 1 [0] _ rfl (by decide) Kn.out L20.out).mono ?_; rintro _ X21 ⟨rfl, hbn⟩
    replace Kn := Aside0.mk (Kd.C_below Kn.out hbn)
    replace Kc := Aside0.mk (Kd.C_below Kc.out hbn)
    replace Kd1 := Aside0.mk (Kd.C_below Kd1.out hbn)
    replace L20 := Aside0.mk (Kd.C_below L20.out hbn)
    replace hb := bnx hb hbn
    clear hbn
    clear L20
    clear Kn
    go_wp2_with fail
    obtain ⟨V22, hW⟩ : ∃ V, V = X21.alloc (.cells #[.int .i64 95] 3) := ⟨_, rfl⟩
    have L22 : (Kd.int .i64).C V22 (some ⟨X21.heap.size, 0, none⟩) 1 [95] := by rw [hW]; exact lit_C [95] X21 3 (by simp)
    have hal : Below X21.heap.size X21 V22 := by rw [hW]; exact (Below.refl _ _).alloc (Nat.le_refl _) _
    rw [← hW]
    replace L22 := Aside0.mk L22
    replace Kc := Aside0.mk (Kd.C_below Kc.out hal)
    replace Kd1 := Aside0.mk (Kd.C_below Kd1.out hal)
    replace hb := bnx hb hal
    clear hal hW
    refine (cI.out _ _ _ _ 1 [95] _ rfl (by decide) Kc.out L22.out).mono ?_; rintro _ X23 ⟨rfl, hbn⟩
    replace Kc := Aside0.mk (Kd.C_below Kc.out hbn)
    replace Kd1 := Aside0.mk (Kd.C_below Kd1.out hbn)
    replace L22 := Aside0.mk (Kd.C_below L22.out hbn)
    replace hb := bnx hb hbn
    clear hbn
    clear L22
    clear Kc
    go_wp2_with fail
    obtain ⟨V24, hW⟩ : ∃ V, V = X23.alloc (.cells #[.int .i64 7] 3) := ⟨_, rfl⟩
    have L24 : (Kd.int .i64).C V24 (some ⟨X23.heap.size, 0, none⟩) 1 [7] := by rw [hW]; exact lit_C [7] X23 3 (by simp)
    have hal : Below X23.heap.size X23 V24 := by rw [hW]; exact (Below.refl _ _).alloc (Nat.le_refl _) _
    rw [← hW]
    replace L24 := Aside0.mk L24
    replace Kd1 := Aside0.mk (Kd.C_below Kd1.out hal)
    replace hb := bnx hb hal
    clear hal hW
    refine (cI.out _ _ _ _ 1 [7] _ rfl (by decide) Kd1.out L24.out).mono ?_; rintro _ X25 ⟨rfl, hbn⟩
    replace Kd1 := Aside0.mk (Kd.C_below Kd1.out hbn)
    replace L24 := Aside0.mk (Kd.C_below L24.out hbn)
    replace hb := bnx hb hbn
    clear hbn
    clear L24
    clear Kd1
    go_wp2_with fail
    go_ret
    exact ⟨rfl, hb⟩

end Go.Proofs.Ytljadjoljhanfaa.Q16
