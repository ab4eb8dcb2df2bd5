/- What the functions that are asked of each band return: noises. -/
import Derived.Test.YtljadjoljhanfaaMe
import Derived.WalkKit
import Derived.WalkSpells
import Derived.WalkLawsBesides
import Derived.KernelRfl
import Derived.Deep.RegionHeld3
import Derived.Deep.LoopGhost
import Derived.Deep.AppendLies
import Derived.Laws.Rows
import Derived.Shelf.GgClosure.Gives
import Derived.Test.YtljadjoljhanfaaWWords
import Derived.Test.YtljadjoljhanfaaWLast
import Derived.Test.YtljadjoljhanfaaWMore
import Derived.Test.YtljadjoljhanfaaWApart
import Derived.Test.YtljadjoljhanfaaMd
import Derived.Test.YtljadjoljhanfaaMc
import Derived.Deep.QuietTactic
import Derived.BigQuiet
set_option linter.unusedVariables false
set_option linter.unusedSimpArgs false
namespace Go.Proofs.Ytljadjoljhanfaa.Q16
open Go.RowKit Go.Proofs.YtljadjoljhanfaaW.PrintWords Go.Proofs.YtljadjoljhanfaaW.PrintLast Go.Proofs.YtljadjoljhanfaaW.PrintMore
attribute [local go_sem] max2_int min2_int max_two min_two max_three min_three
open Go.Proofs.Ytljadjoljhanfaa.Q15

set_option maxRecDepth 100000 in
theorem noises1_part {c l s : List Int} {a : Addr} {A2 : Option Addr} {cap B : Nat} {w : World} (hr : (Kd.int .i64).C w (some a) c.length c) (hc : c.length = 128) (hl : isW l = true) (hs : (Kd.int .i64).C w A2 s.length s) (hsl : s.length = l.length)
    (hB : w.cell? ⟨B, 0, none⟩ = some (.slice A2 s.length cap)) {k : Nat} (hk : k < l.length) : FnPart 86 #[] #[.pointer (some ⟨B, 0, none⟩)] a l w k (noiseR (band c l k) (rd s k)) := by
  intro W hb0
  have HC := fun W2 (hb : Below w.heap.size w W2) => Noise_calls (some (a.add (off l k))) (wd l k) (band c l k) (rd s k) W2 (Kd.C_below (band_C hr hc hl hk) hb)
  rw [band_len hc hl hk] at HC
  obtain ⟨ad, rfl, hcell⟩ := el_at hs hb0 (show k < s.length by omega)
  have hB' := cnx hB hb0
  have hks : (k : Int) < (s.length : Int) := by omega
  obtain ⟨r, hre⟩ : ∃ r, r = noiseR (band c l k) (rd s k) := ⟨_, rfl⟩
  rw [← hre] at HC ⊢
  obtain ⟨e, hee⟩ : ∃ e, e = chk isC (band c l k) (rd s k) := ⟨_, rfl⟩
  rw [← hee] at HC
  obtain ⟨x, hx⟩ : ∃ x, x = rd s k := ⟨_, rfl⟩
  rw [← hx] at HC hcell
  unfold encB
  obtain ⟨o, ho⟩ : ∃ o, o = a.add (off l k) := ⟨_, rfl⟩
  obtain ⟨d, hd⟩ : ∃ d, d = wd l k := ⟨_, rfl⟩
  rw [← ho, ← hd] at HC ⊢
  replace HC := Aside0.mk HC
  have hb := Below.refl W.heap.size W
  clear hr hs hre hee hx ho hd hc hl hB hsl
  show Calls Try.prog 86 #[.int .i64 k, .slice (some o) d d, .pointer (some ⟨B, 0, none⟩)] W _
  go_enter Try.func86, Try.ntmps86
  go_wp2_with (first | (go_at_call 87; refine (HC.out _ (bnx hb0 hb)).mono ?_; rintro e w' ⟨rfl, hbn⟩; replace hb := bnx hb hbn; clear hbn))
  go_ret
  exact ⟨rfl, hb⟩

end Go.Proofs.Ytljadjoljhanfaa.Q16
/- What the functions that are asked of each band return: lists. -/
namespace Go.Proofs.Ytljadjoljhanfaa.Q16
open Go.RowKit Go.Proofs.YtljadjoljhanfaaW.PrintWords Go.Proofs.YtljadjoljhanfaaW.PrintLast Go.Proofs.YtljadjoljhanfaaW.PrintMore
attribute [local go_sem] max2_int min2_int max_two min_two max_three min_three
open Go.Proofs.Ytljadjoljhanfaa.Q15

set_option maxRecDepth 100000 in
theorem quantize1_part {c l s : List Int} {a : Addr} {A2 : Option Addr} {cap B : Nat} {w : World} (hr : (Kd.int .i64).C w (some a) c.length c) (hc : c.length = 128) (hl : isW l = true) (hs : (Kd.int .i64).C w A2 s.length s) (hsl : s.length = l.length)
    (hB : w.cell? ⟨B, 0, none⟩ = some (.slice A2 s.length cap)) {k : Nat} (hk : k < l.length) : FnList 47 #[] #[.pointer (some ⟨B, 0, none⟩)] a l w k (quanta (band c l k) (rd s k)) := by
  intro W hb0
  have HC := fun W2 (hb : Below w.heap.size w W2) => Quantize_calls (some (a.add (off l k))) (wd l k) (band c l k) (rd s k) W2 (Kd.C_below (band_C hr hc hl hk) hb)
  rw [band_len hc hl hk] at HC
  obtain ⟨ad, rfl, hcell⟩ := el_at hs hb0 (show k < s.length by omega)
  have hB' := cnx hB hb0
  have hks : (k : Int) < (s.length : Int) := by omega
  obtain ⟨r, hre⟩ : ∃ r, r = quanta (band c l k) (rd s k) := ⟨_, rfl⟩
  rw [← hre] at HC ⊢
  obtain ⟨e, hee⟩ : ∃ e, e = chk isC (band c l k) (rd s k) := ⟨_, rfl⟩
  rw [← hee] at HC
  obtain ⟨x, hx⟩ : ∃ x, x = rd s k := ⟨_, rfl⟩
  rw [← hx] at HC hcell
  unfold encB
  obtain ⟨o, ho⟩ : ∃ o, o = a.add (off l k) := ⟨_, rfl⟩
  obtain ⟨d, hd⟩ : ∃ d, d = wd l k := ⟨_, rfl⟩
  rw [← ho, ← hd] at HC ⊢
  replace HC := Aside0.mk HC
  have hb := Below.refl W.heap.size W
  clear hr hs hre hee hx ho hd hc hl hB hsl
  show Calls Try.prog 47 #[.int .i64 k, .slice (some o) d d, .pointer (some ⟨B, 0, none⟩)] W _
  go_enter Try.func47, Try.ntmps47
  go_wp2_with (first | (go_at_call 48; refine (HC.out _ (bnx hb0 hb)).mono ?_; rintro e w' ⟨v, rfl, hR, hbn⟩; replace hb := bnx hb hbn; clear hbn; obtain ⟨A5, p5, rfl, _, _⟩ := Kd.R_reads hR; have HRR := Aside0.mk hR; clear hR))
  go_ret
  exact ⟨_, rfl, HRR.out, hb⟩

set_option maxRecDepth 100000 in
theorem values1_part {c l s : List Int} {a : Addr} {A2 : Option Addr} {cap B : Nat} {w : World} (hr : (Kd.int .i64).C w (some a) c.length c) (hc : c.length = 128) (hl : isW l = true) (hs : (Kd.int .i64).C w A2 s.length s) (hsl : s.length = l.length)
    (hB : w.cell? ⟨B, 0, none⟩ = some (.slice A2 s.length cap)) {k : Nat} (hk : k < l.length) : FnList 52 #[] #[.pointer (some ⟨B, 0, none⟩)] a l w k (valuesL (band c l k) (rd s k)) := by
  intro W hb0
  have HC := fun W2 (hb : Below w.heap.size w W2) => Values_calls (some (a.add (off l k))) (wd l k) (band c l k) (rd s k) W2 (Kd.C_below (band_C hr hc hl hk) hb)
  rw [band_len hc hl hk] at HC
  obtain ⟨ad, rfl, hcell⟩ := el_at hs hb0 (show k < s.length by omega)
  have hB' := cnx hB hb0
  have hks : (k : Int) < (s.length : Int) := by omega
  obtain ⟨r, hre⟩ : ∃ r, r = valuesL (band c l k) (rd s k) := ⟨_, rfl⟩
  rw [← hre] at HC ⊢
  obtain ⟨e, hee⟩ : ∃ e, e = chk isQ (band c l k) (rd s k) := ⟨_, rfl⟩
  rw [← hee] at HC
  obtain ⟨x, hx⟩ : ∃ x, x = rd s k := ⟨_, rfl⟩
  rw [← hx] at HC hcell
  unfold encB
  obtain ⟨o, ho⟩ : ∃ o, o = a.add (off l k) := ⟨_, rfl⟩
  obtain ⟨d, hd⟩ : ∃ d, d = wd l k := ⟨_, rfl⟩
  rw [← ho, ← hd] at HC ⊢
  replace HC := Aside0.mk HC
  have hb := Below.refl W.heap.size W
  clear hr hs hre hee hx ho hd hc hl hB hsl
  show Calls Try.prog 52 #[.int .i64 k, .slice (some o) d d, .pointer (some ⟨B, 0, none⟩)] W _
  go_enter Try.func52, Try.ntmps52
  go_wp2_with (first | (go_at_call 53; refine (HC.out _ (bnx hb0 hb)).mono ?_; rintro e w' ⟨v, rfl, hR, hbn⟩; replace hb := bnx hb hbn; clear hbn; obtain ⟨A5, p5, rfl, _, _⟩ := Kd.R_reads hR; have HRR := Aside0.mk hR; clear hR))
  go_ret
  exact ⟨_, rfl, HRR.out, hb⟩

end Go.Proofs.Ytljadjoljhanfaa.Q16
/- What the functions that are asked of each band return: scales. -/
namespace Go.Proofs.Ytljadjoljhanfaa.Q16
open Go.RowKit Go.Proofs.YtljadjoljhanfaaW.PrintWords Go.Proofs.YtljadjoljhanfaaW.PrintLast Go.Proofs.YtljadjoljhanfaaW.PrintMore
attribute [local go_sem] max2_int min2_int max_two min_two max_three min_three
open Go.Proofs.Ytljadjoljhanfaa.Q15

/-- The scale of a band with a limit. -/
def scaleB (b : List Int) (limit : Int) : Int := match mostI b limit with
  | some s => s
  | none => leastI b
theorem mostR_val {b : List Int} {limit : Int} (h0 : 0 ≤ limit) (h1 : limit ≤ 72057594037927936) (hk : chk isC b 0 = 0) :
    mostR b limit = .tuple #[.int .i64 (scaleB b limit), .int .i64 0] ∨ (mostR b limit = .tuple #[.int .i64 0, .int .i64 5] ∧ scaleB b limit = leastI b) := by
  unfold mostR scaleB
  rw [if_neg (by omega), if_pos hk]
  cases mostI b limit with
  | some s => exact .inl rfl
  | none => exact .inr ⟨rfl, rfl⟩

set_option maxRecDepth 100000 in
theorem scales1_part {c l s : List Int} {a : Addr} {A2 : Option Addr} {cap B : Nat} {w : World} (hr : (Kd.int .i64).C w (some a) c.length c) (hc : c.length = 128) (hl : isW l = true) (hs : (Kd.int .i64).C w A2 s.length s) (hsl : s.length = l.length)
    (hB : w.cell? ⟨B, 0, none⟩ = some (.slice A2 s.length cap)) {k : Nat} (hk : k < l.length) (hlim : 0 ≤ rd s k ∧ rd s k ≤ 72057594037927936) (hck : chk isC (band c l k) 0 = 0) :
    FnPart 34 #[] #[.pointer (some ⟨B, 0, none⟩)] a l w k (scaleB (band c l k) (rd s k)) := by
  intro W hb0
  have HC := fun W2 (hb : Below w.heap.size w W2) => Most_calls (some (a.add (off l k))) (wd l k) (band c l k) (rd s k) W2 (Kd.C_below (band_C hr hc hl hk) hb)
  have HL := fun W2 (hb : Below w.heap.size w W2) => Least_yes (some (a.add (off l k))) (wd l k) (band c l k) W2 (Kd.C_below (band_C hr hc hl hk) hb) hck
  have hways := mostR_val hlim.1 hlim.2 hck
  rw [band_len hc hl hk] at HC HL
  obtain ⟨ad, rfl, hcell⟩ := el_at hs hb0 (show k < s.length by omega)
  have hB' := cnx hB hb0
  have hks : (k : Int) < (s.length : Int) := by omega
  obtain ⟨r, hre⟩ : ∃ r, r = scaleB (band c l k) (rd s k) := ⟨_, rfl⟩
  rw [← hre] at hways ⊢
  obtain ⟨e, hee⟩ : ∃ e, e = leastI (band c l k) := ⟨_, rfl⟩
  rw [← hee] at HL hways
  obtain ⟨m, hme⟩ : ∃ m, m = mostR (band c l k) (rd s k) := ⟨_, rfl⟩
  rw [← hme] at HC hways
  obtain ⟨x, hx⟩ : ∃ x, x = rd s k := ⟨_, rfl⟩
  rw [← hx] at HC hcell
  unfold encB
  obtain ⟨o, ho⟩ : ∃ o, o = a.add (off l k) := ⟨_, rfl⟩
  obtain ⟨d, hd⟩ : ∃ d, d = wd l k := ⟨_, rfl⟩
  rw [← ho, ← hd] at HC HL ⊢
  replace HC := Aside0.mk HC
  replace HL := Aside0.mk HL
  have hb := Below.refl W.heap.size W
  clear hr hs hre hee hx ho hd hc hl hB hsl hme hck hlim
  show Calls Try.prog 34 #[.int .i64 k, .slice (some o) d d, .pointer (some ⟨B, 0, none⟩)] W _
  rcases hways with rfl | ⟨rfl, rfl⟩
  all_goals
    go_enter Try.func34, Try.ntmps34
    go_wp2_with (first | (go_at_call 35; refine (HC.out _ (bnx hb0 hb)).mono ?_; rintro e w' ⟨rfl, hbn⟩; replace hb := bnx hb hbn; clear hbn) | (go_at_call 36; refine (HL.out _ (bnx hb0 hb)).mono ?_; rintro e w' ⟨rfl, hbn⟩; replace hb := bnx hb hbn; clear hbn))
    go_ret
    exact ⟨rfl, hb⟩

end Go.Proofs.Ytljadjoljhanfaa.Q16
/- What shape.Scales returns. -/
namespace Go.Proofs.Ytljadjoljhanfaa.Q16
open Go.RowKit Go.Proofs.YtljadjoljhanfaaW.PrintWords Go.Proofs.YtljadjoljhanfaaW.PrintLast Go.Proofs.YtljadjoljhanfaaW.PrintMore
attribute [local go_sem] max2_int min2_int max_two min_two max_three min_three
open Go.Proofs.Ytljadjoljhanfaa.Q15

/-- The error of numbers, widths and one list over the bands. -/
def errS (p q lo hi : Int) (c l s : List Int) : Int := if formE c.length l [s.length] = 0 then if rng p q c then if rng lo hi s then 0 else 6 else 6 else formE c.length l [s.length]
theorem formE_one {n m : Nat} {l : List Int} (h : formE n l [m] = 0) : isW l = true ∧ n = 128 ∧ m = l.length := by
  unfold formE at h
  split at h
  · split at h
    · split at h
      · rename_i h1 h2 h3
        simp at h3
        exact ⟨h1, h2, h3⟩
      · omega
    · omega
  · omega
theorem lens_one {w : World} {B : Nat} {A : Option Addr} {n c : Nat} (h : w.cell? ⟨B, 0, none⟩ = some (.slice A n c)) : Lens w B [n] := fun j m hj => by
  cases j with
  | zero => cases hj; exact ⟨A, c, h⟩
  | succ j => simp at hj
theorem rng_mem {lo hi : Int} {l : List Int} (h : rng lo hi l = true) {x : Int} (hx : x ∈ l) : lo ≤ x ∧ x ≤ hi := by
  have := List.all_eq_true.1 h x hx
  simpa using this

set_option maxRecDepth 100000 in
set_option maxHeartbeats 1000000 in
theorem Scales_no (A0 A1 A2 : Option Addr) (c0 c1 c2 : Nat) (c l s : List Int) (w : World) (hr0 : (Kd.int .i64).C w A0 c.length c) (hr1 : (Kd.int .i64).C w A1 l.length l) (hr2 : (Kd.int .i64).C w A2 s.length s) (b0 : c.length ≤ 1000000) (b1 : l.length ≤ 1000000) (b2 : s.length ≤ 1000000)
    (he : errS (-2097152) 2097152 0 72057594037927936 c l s ≠ 0) :
    Calls Try.prog 11 #[.slice A0 c.length c0, .slice A1 l.length c1, .slice A2 s.length c2] w fun e w' => e = .returned (.tuple #[.slice none 0 0, .int .i64 (errS (-2097152) 2097152 0 72057594037927936 c l s)]) ∧ Below w.heap.size w w' := by
  have hb := Below.refl w.heap.size w
  have HF := fun (W : World) (hb : Below w.heap.size w W) B h => form_calls A0 A1 c.length c0 c1 1 l B [s.length] W (Kd.C_below hr1 hb) (by omega) (by omega) h (show 1 ≤ 1000000 by decide) (by simp; omega)
  have HC := fun (W : World) (hb : Below w.heap.size w W) => isCoefs_calls A0 c0 c W (Kd.C_below hr0 hb) (by omega)
  have HL := fun (W : World) (hb : Below w.heap.size w W) => isLimits_calls A2 c2 s W (Kd.C_below hr2 hb) (by omega)
  unfold errS at he ⊢
  obtain ⟨E, hE⟩ : ∃ E, E = formE c.length l [s.length] := ⟨_, rfl⟩
  rw [← hE] at HF he ⊢
  replace HF := Aside0.mk HF
  clear hE hr0 hr1 hr2
  have hcb : (c.length : Int) ≤ 1000000 := by omega
  clear b0 b1 b2
  by_cases h0 : E = 0
  · subst h0
    rw [if_pos rfl] at he ⊢
    cases h1 : rng (-2097152) 2097152 c with
    | false =>
      rw [h1] at HC he
      replace HC := Aside0.mk HC
      replace HL := Aside0.mk HL
      clear h1 he
      go_enter Try.func11, Try.ntmps11
      go_wp2_with fail
      obtain ⟨W, hW⟩ : ∃ W, W = (w.alloc (.cells #[.slice A2 s.length c2] 22)).alloc (.cells #[.slice A2 s.length c2] 22) := ⟨_, rfl⟩
      rw [← hW]
      have k1 : W.cell? ⟨w.heap.size, 0, none⟩ = some (.slice A2 s.length c2) := by rw [hW]; go_simp
      have k2 : W.cell? ⟨w.heap.size + 1, 0, none⟩ = some (.slice A2 s.length c2) := by rw [hW]; go_simp
      replace hb : Below w.heap.size w W := by rw [hW]; exact (hb.alloc hb.size _).alloc (hb.alloc hb.size _).size _
      clear hW
      refine (HF.out W hb _ (lens_one k2)).mono ?_; rintro _ w1 ⟨rfl, hbn⟩; replace k1 := cnx k1 hbn; replace hb := bnx hb hbn; clear hbn k2
      go_wp2_with (first | (go_at_call 31; refine (HC.out _ hb).mono ?_; rintro e w' ⟨rfl, hbn⟩; replace hb := bnx hb hbn; clear hbn))
      go_ret2
      exact ⟨rfl, hb⟩
    | true =>
      rw [h1] at HC he
      cases h2 : rng 0 72057594037927936 s with
      | true => rw [h2] at he; exact absurd rfl he
      | false =>
      rw [h2] at HL
      replace HC := Aside0.mk HC
      replace HL := Aside0.mk HL
      clear h1 h2 he
      go_enter Try.func11, Try.ntmps11
      go_wp2_with fail
      obtain ⟨W, hW⟩ : ∃ W, W = (w.alloc (.cells #[.slice A2 s.length c2] 22)).alloc (.cells #[.slice A2 s.length c2] 22) := ⟨_, rfl⟩
      rw [← hW]
      have k1 : W.cell? ⟨w.heap.size, 0, none⟩ = some (.slice A2 s.length c2) := by rw [hW]; go_simp
      have k2 : W.cell? ⟨w.heap.size + 1, 0, none⟩ = some (.slice A2 s.length c2) := by rw [hW]; go_simp
      replace hb : Below w.heap.size w W := by rw [hW]; exact (hb.alloc hb.size _).alloc (hb.alloc hb.size _).size _
      clear hW
      refine (HF.out W hb _ (lens_one k2)).mono ?_; rintro _ w1 ⟨rfl, hbn⟩; replace k1 := cnx k1 hbn; replace hb := bnx hb hbn; clear hbn k2
      go_wp2_with fail
      refine (HC.out _ hb).mono ?_; rintro _ w2 ⟨rfl, hbn⟩; replace k1 := cnx k1 hbn; replace hb := bnx hb hbn; clear hbn
      go_wp2_with (first | (go_at_call 32; refine (HL.out _ hb).mono ?_; rintro e w' ⟨rfl, hbn⟩; replace hb := bnx hb hbn; clear hbn))
      go_ret2
      exact ⟨rfl, hb⟩
  · rw [if_neg h0] at he ⊢
    clear HC HL
    go_enter Try.func11, Try.ntmps11
    go_wp2_with fail
    obtain ⟨W, hW⟩ : ∃ W, W = (w.alloc (.cells #[.slice A2 s.length c2] 22)).alloc (.cells #[.slice A2 s.length c2] 22) := ⟨_, rfl⟩
    rw [← hW]
    have k1 : W.cell? ⟨w.heap.size, 0, none⟩ = some (.slice A2 s.length c2) := by rw [hW]; go_simp
    have k2 : W.cell? ⟨w.heap.size + 1, 0, none⟩ = some (.slice A2 s.length c2) := by rw [hW]; go_simp
    replace hb : Below w.heap.size w W := by rw [hW]; exact (hb.alloc hb.size _).alloc (hb.alloc hb.size _).size _
    clear hW
    refine (HF.out W hb _ (lens_one k2)).mono ?_; rintro _ w1 ⟨rfl, hbn⟩; replace k1 := cnx k1 hbn; replace hb := bnx hb hbn; clear hbn k2
    have h0' : (E != 0) = true := bne_iff_ne.2 h0
    go_wp2_with fail
    go_ret2
    exact ⟨rfl, hb⟩

theorem errS_zero {p q lo hi : Int} {c l s : List Int} (h : errS p q lo hi c l s = 0) : isW l = true ∧ c.length = 128 ∧ s.length = l.length ∧ rng p q c = true ∧ rng lo hi s = true ∧ formE c.length l [s.length] = 0 := by
  unfold errS at h
  split at h
  · rename_i h0
    obtain ⟨g0, g1, g2⟩ := formE_one h0
    split at h
    · split at h
      · rename_i h1 h2
        exact ⟨g0, g1, g2, h1, h2, h0⟩
      · omega
    · omega
  · rename_i h0; exact absurd h h0
theorem chk_band {c l : List Int} (hc : rng (-2097152) 2097152 c = true) (hl : isW l = true) (h1 : c.length = 128) {k : Nat} (hk : k < l.length) {s : Int} (hs : 0 ≤ s ∧ s ≤ 95) : chk isC (band c l k) s = 0 := by
  have hlen := band_len h1 hl hk
  have hn := off_next hl hk
  unfold chk
  rw [if_pos (by simp [isS, hs]), if_pos (by omega), if_pos]
  refine List.all_eq_true.2 fun x hx => ?_
  have := rng_mem hc (List.mem_of_mem_drop (List.mem_of_mem_take hx))
  simp [isC, this]

set_option maxRecDepth 100000 in
set_option maxHeartbeats 1000000 in
theorem Scales_yes (A0 A1 A2 : Option Addr) (c0 c1 c2 : Nat) (c l s : List Int) (w : World) (hr0 : (Kd.int .i64).C w A0 c.length c) (hr1 : (Kd.int .i64).C w A1 l.length l) (hr2 : (Kd.int .i64).C w A2 s.length s) (hc0 : c.length ≤ c0) (hc9 : c0 ≤ 9223372036854775807)
    (he : errS (-2097152) 2097152 0 72057594037927936 c l s = 0) :
    Calls Try.prog 11 #[.slice A0 c.length c0, .slice A1 l.length c1, .slice A2 s.length c2] w fun e w' => ∃ v, e = .returned (.tuple #[v, .int .i64 0]) ∧ (Kd.int .i64).R 3 w' w.heap.size (fun _ => True) v ((List.range l.length).map fun k => scaleB (band c l k) (rd s k)) ∧ Below w.heap.size w w' := by
  obtain ⟨g0, g1, g2, g3, g4, g5⟩ := errS_zero he
  have hl32 := (isW_iff.1 g0).2.2
  have hb := Below.refl w.heap.size w
  obtain ⟨a, rfl⟩ : ∃ a, A0 = some a := by
    obtain ⟨_, _, h⟩ := hr0
    obtain ⟨a, e, _⟩ := h (by omega)
    exact ⟨a, e⟩
  have HF := fun (W : World) (hb : Below w.heap.size w W) B h => form_calls (some a) A1 c.length c0 c1 1 l B [s.length] W (Kd.C_below hr1 hb) (by omega) (by omega) h (show 1 ≤ 1000000 by decide) (by simp; omega)
  have HC := fun (W : World) (hb : Below w.heap.size w W) => isCoefs_calls (some a) c0 c W (Kd.C_below hr0 hb) (by omega)
  have HL := fun (W : World) (hb : Below w.heap.size w W) => isLimits_calls A2 c2 s W (Kd.C_below hr2 hb) (by omega)
  have HE := fun (W : World) (hb : Below w.heap.size w W) (B : Nat) (hB : W.cell? ⟨B, 0, none⟩ = some (.slice A2 s.length c2)) => each_calls 34 #[] #[.pointer (some ⟨B, 0, none⟩)] (fun _ _ => by kernel_rfl) a c0 A1 c1 l g0 (by omega) hc9 (fun k => scaleB (band c l k) (rd s k)) W (Kd.C_below hr1 hb)
    (fun k hk => scales1_part (Kd.C_below hr0 hb) g1 g0 (Kd.C_below hr2 hb) g2 hB hk (rng_mem g4 (rd_mem s k (by omega))) (chk_band g3 g0 g1 hk (by decide)))
  rw [g5, g1] at HF
  rw [g3, g1] at HC
  rw [g4] at HL
  rw [g1]
  obtain ⟨r, hre⟩ : ∃ r, r = (List.range l.length).map fun k => scaleB (band c l k) (rd s k) := ⟨_, rfl⟩
  rw [← hre] at HE ⊢
  replace HF := Aside0.mk HF
  replace HC := Aside0.mk HC
  replace HL := Aside0.mk HL
  replace HE := Aside0.mk HE
  clear hr0 hr1 hr2 hre g0 g1 g2 g3 g4 g5 he hc0 hl32
  go_enter Try.func11, Try.ntmps11
  go_wp2_with fail
  obtain ⟨W, hW⟩ : ∃ W, W = (w.alloc (.cells #[.slice A2 s.length c2] 22)).alloc (.cells #[.slice A2 s.length c2] 22) := ⟨_, rfl⟩
  rw [← hW]
  have k1 : W.cell? ⟨w.heap.size, 0, none⟩ = some (.slice A2 s.length c2) := by rw [hW]; go_simp
  have k2 : W.cell? ⟨w.heap.size + 1, 0, none⟩ = some (.slice A2 s.length c2) := by rw [hW]; go_simp
  replace hb : Below w.heap.size w W := by rw [hW]; exact (hb.alloc hb.size _).alloc (hb.alloc hb.size _).size _
  clear hW
  refine (HF.out W hb _ (lens_one k2)).mono ?_; rintro _ w1 ⟨rfl, hbn⟩; replace k1 := cnx k1 hbn; replace hb := bnx hb hbn; clear hbn k2
  go_wp2_with fail
  refine (HC.out _ hb).mono ?_; rintro _ w2 ⟨rfl, hbn⟩; replace k1 := cnx k1 hbn; replace hb := bnx hb hbn; clear hbn
  go_wp2_with fail
  refine (HL.out _ hb).mono ?_; rintro _ w3 ⟨rfl, hbn⟩; replace k1 := cnx k1 hbn; replace hb := bnx hb hbn; clear hbn
  go_wp2_with fail
  refine (HE.out _ hb _ k1).mono ?_; rintro _ w4 ⟨v, rfl, hR, hbn⟩
  have hR2 := Kd.R_lower hR hb.size
  replace hb := bnx hb hbn
  obtain ⟨A5, p5, rfl, _, _⟩ := Kd.R_reads hR2
  replace hR2 := Aside0.mk hR2
  clear hR hbn
  go_wp2
  go_ret2
  exact ⟨_, rfl, hR2.out, hb⟩

end Go.Proofs.Ytljadjoljhanfaa.Q16
/- What shape.Quantize and shape.Values return. -/
namespace Go.Proofs.Ytljadjoljhanfaa.Q16
open Go.RowKit Go.Proofs.YtljadjoljhanfaaW.PrintWords Go.Proofs.YtljadjoljhanfaaW.PrintLast Go.Proofs.YtljadjoljhanfaaW.PrintMore
attribute [local go_sem] max2_int min2_int max_two min_two max_three min_three
open Go.Proofs.Ytljadjoljhanfaa.Q15

set_option maxRecDepth 100000 in
set_option maxHeartbeats 1000000 in
theorem Quantize_no (A0 A1 A2 : Option Addr) (c0 c1 c2 : Nat) (c l s : List Int) (w : World) (hr0 : (Kd.int .i64).C w A0 c.length c) (hr1 : (Kd.int .i64).C w A1 l.length l) (hr2 : (Kd.int .i64).C w A2 s.length s) (b0 : c.length ≤ 1000000) (b1 : l.length ≤ 1000000) (b2 : s.length ≤ 1000000)
    (he : errS (-2097152) 2097152 0 95 c l s ≠ 0) :
    Calls Try.prog 14 #[.slice A0 c.length c0, .slice A1 l.length c1, .slice A2 s.length c2] w fun e w' => e = .returned (.tuple #[.slice none 0 0, .int .i64 (errS (-2097152) 2097152 0 95 c l s)]) ∧ Below w.heap.size w w' := by
  have hb := Below.refl w.heap.size w
  have HF := fun (W : World) (hb : Below w.heap.size w W) B h => form_calls A0 A1 c.length c0 c1 1 l B [s.length] W (Kd.C_below hr1 hb) (by omega) (by omega) h (show 1 ≤ 1000000 by decide) (by simp; omega)
  have HC := fun (W : World) (hb : Below w.heap.size w W) => isCoefs_calls A0 c0 c W (Kd.C_below hr0 hb) (by omega)
  have HL := fun (W : World) (hb : Below w.heap.size w W) => isScales_calls A2 c2 s W (Kd.C_below hr2 hb) (by omega)
  unfold errS at he ⊢
  obtain ⟨E, hE⟩ : ∃ E, E = formE c.length l [s.length] := ⟨_, rfl⟩
  rw [← hE] at HF he ⊢
  replace HF := Aside0.mk HF
  clear hE hr0 hr1 hr2
  have hcb : (c.length : Int) ≤ 1000000 := by omega
  clear b0 b1 b2
  by_cases h0 : E = 0
  · subst h0
    rw [if_pos rfl] at he ⊢
    cases h1 : rng (-2097152) 2097152 c with
    | false =>
      rw [h1] at HC he
      replace HC := Aside0.mk HC
      replace HL := Aside0.mk HL
      clear h1 he
      go_enter Try.func14, Try.ntmps14
      go_wp2_with fail
      obtain ⟨W, hW⟩ : ∃ W, W = (w.alloc (.cells #[.slice A2 s.length c2] 22)).alloc (.cells #[.slice A2 s.length c2] 22) := ⟨_, rfl⟩
      rw [← hW]
      have k1 : W.cell? ⟨w.heap.size, 0, none⟩ = some (.slice A2 s.length c2) := by rw [hW]; go_simp
      have k2 : W.cell? ⟨w.heap.size + 1, 0, none⟩ = some (.slice A2 s.length c2) := by rw [hW]; go_simp
      replace hb : Below w.heap.size w W := by rw [hW]; exact (hb.alloc hb.size _).alloc (hb.alloc hb.size _).size _
      clear hW
      refine (HF.out W hb _ (lens_one k2)).mono ?_; rintro _ w1 ⟨rfl, hbn⟩; replace k1 := cnx k1 hbn; replace hb := bnx hb hbn; clear hbn k2
      go_wp2_with (first | (go_at_call 31; refine (HC.out _ hb).mono ?_; rintro e w' ⟨rfl, hbn⟩; replace hb := bnx hb hbn; clear hbn))
      go_ret2
      exact ⟨rfl, hb⟩
    | true =>
      rw [h1] at HC he
      cases h2 : rng 0 95 s with
      | true => rw [h2] at he; exact absurd rfl he
      | false =>
      rw [h2] at HL
      replace HC := Aside0.mk HC
      replace HL := Aside0.mk HL
      clear h1 h2 he
      go_enter Try.func14, Try.ntmps14
      go_wp2_with fail
      obtain ⟨W, hW⟩ : ∃ W, W = (w.alloc (.cells #[.slice A2 s.length c2] 22)).alloc (.cells #[.slice A2 s.length c2] 22) := ⟨_, rfl⟩
      rw [← hW]
      have k1 : W.cell? ⟨w.heap.size, 0, none⟩ = some (.slice A2 s.length c2) := by rw [hW]; go_simp
      have k2 : W.cell? ⟨w.heap.size + 1, 0, none⟩ = some (.slice A2 s.length c2) := by rw [hW]; go_simp
      replace hb : Below w.heap.size w W := by rw [hW]; exact (hb.alloc hb.size _).alloc (hb.alloc hb.size _).size _
      clear hW
      refine (HF.out W hb _ (lens_one k2)).mono ?_; rintro _ w1 ⟨rfl, hbn⟩; replace k1 := cnx k1 hbn; replace hb := bnx hb hbn; clear hbn k2
      go_wp2_with fail
      refine (HC.out _ hb).mono ?_; rintro _ w2 ⟨rfl, hbn⟩; replace k1 := cnx k1 hbn; replace hb := bnx hb hbn; clear hbn
      go_wp2_with (first | (go_at_call 44; refine (HL.out _ hb).mono ?_; rintro e w' ⟨rfl, hbn⟩; replace hb := bnx hb hbn; clear hbn))
      go_ret2
      exact ⟨rfl, hb⟩
  · rw [if_neg h0] at he ⊢
    clear HC HL
    go_enter Try.func14, Try.ntmps14
    go_wp2_with fail
    obtain ⟨W, hW⟩ : ∃ W, W = (w.alloc (.cells #[.slice A2 s.length c2] 22)).alloc (.cells #[.slice A2 s.length c2] 22) := ⟨_, rfl⟩
    rw [← hW]
    have k1 : W.cell? ⟨w.heap.size, 0, none⟩ = some (.slice A2 s.length c2) := by rw [hW]; go_simp
    have k2 : W.cell? ⟨w.heap.size + 1, 0, none⟩ = some (.slice A2 s.length c2) := by rw [hW]; go_simp
    replace hb : Below w.heap.size w W := by rw [hW]; exact (hb.alloc hb.size _).alloc (hb.alloc hb.size _).size _
    clear hW
    refine (HF.out W hb _ (lens_one k2)).mono ?_; rintro _ w1 ⟨rfl, hbn⟩; replace k1 := cnx k1 hbn; replace hb := bnx hb hbn; clear hbn k2
    have h0' : (E != 0) = true := bne_iff_ne.2 h0
    go_wp2_with fail
    go_ret2
    exact ⟨rfl, hb⟩

set_option maxRecDepth 100000 in
set_option maxHeartbeats 1000000 in
theorem Quantize_yes (A0 A1 A2 : Option Addr) (c0 c1 c2 : Nat) (c l s : List Int) (w : World) (hr0 : (Kd.int .i64).C w A0 c.length c) (hr1 : (Kd.int .i64).C w A1 l.length l) (hr2 : (Kd.int .i64).C w A2 s.length s) (hc0 : c.length ≤ c0) (hc9 : c0 ≤ 9223372036854775807)
    (he : errS (-2097152) 2097152 0 95 c l s = 0) :
    Calls Try.prog 14 #[.slice A0 c.length c0, .slice A1 l.length c1, .slice A2 s.length c2] w fun e w' => ∃ v, e = .returned (.tuple #[v, .int .i64 0]) ∧ (Kd.int .i64).R 3 w' w.heap.size (fun _ => True) v ((List.range l.length).map fun k => quanta (band c l k) (rd s k)).flatten ∧ Below w.heap.size w w' := by
  obtain ⟨g0, g1, g2, g3, g4, g5⟩ := errS_zero he
  have hl32 := (isW_iff.1 g0).2.2
  have hb := Below.refl w.heap.size w
  obtain ⟨a, rfl⟩ : ∃ a, A0 = some a := by
    obtain ⟨_, _, h⟩ := hr0
    obtain ⟨a, e, _⟩ := h (by omega)
    exact ⟨a, e⟩
  have HF := fun (W : World) (hb : Below w.heap.size w W) B h => form_calls (some a) A1 c.length c0 c1 1 l B [s.length] W (Kd.C_below hr1 hb) (by omega) (by omega) h (show 1 ≤ 1000000 by decide) (by simp; omega)
  have HC := fun (W : World) (hb : Below w.heap.size w W) => isCoefs_calls (some a) c0 c W (Kd.C_below hr0 hb) (by omega)
  have HL := fun (W : World) (hb : Below w.heap.size w W) => isScales_calls A2 c2 s W (Kd.C_below hr2 hb) (by omega)
  have HE := fun (W : World) (hb : Below w.heap.size w W) (B : Nat) (hB : W.cell? ⟨B, 0, none⟩ = some (.slice A2 s.length c2)) => eachL_calls 47 #[] #[.pointer (some ⟨B, 0, none⟩)] (fun _ _ => by kernel_rfl) a c0 A1 c1 l g0 (by omega) hc9 (fun k => quanta (band c l k) (rd s k)) W (Kd.C_below hr1 hb)
    (fun k hk => quantize1_part (Kd.C_below hr0 hb) g1 g0 (Kd.C_below hr2 hb) g2 hB hk)
  rw [g5, g1] at HF
  rw [g3, g1] at HC
  rw [g4] at HL
  rw [g1]
  have hrl : ((List.range l.length).map fun k => quanta (band c l k) (rd s k)).length ≤ 1000 := by rw [List.length_map, List.length_range]; omega
  have hrn : ∀ x ∈ (List.range l.length).map fun k => quanta (band c l k) (rd s k), x.length ≤ 1000 := fun x hx => by
    obtain ⟨k, _, rfl⟩ := List.mem_map.1 hx
    have := quanta_len (band c l k) (rd s k)
    omega
  obtain ⟨r, hre⟩ : ∃ r, r = (List.range l.length).map fun k => quanta (band c l k) (rd s k) := ⟨_, rfl⟩
  rw [← hre] at HE hrl hrn ⊢
  have HJ := fun A p W hK => joined_calls A p r W hK hrl hrn
  obtain ⟨rf, hrf⟩ : ∃ x, x = r.flatten := ⟨_, rfl⟩
  rw [← hrf] at HJ ⊢
  replace HJ := Aside0.mk HJ
  clear hrf hrl hrn
  replace HF := Aside0.mk HF
  replace HC := Aside0.mk HC
  replace HL := Aside0.mk HL
  replace HE := Aside0.mk HE
  clear hr0 hr1 hr2 hre g0 g1 g2 g3 g4 g5 he hc0 hl32
  go_enter Try.func14, Try.ntmps14
  go_wp2_with fail
  obtain ⟨W, hW⟩ : ∃ W, W = (w.alloc (.cells #[.slice A2 s.length c2] 22)).alloc (.cells #[.slice A2 s.length c2] 22) := ⟨_, rfl⟩
  rw [← hW]
  have k1 : W.cell? ⟨w.heap.size, 0, none⟩ = some (.slice A2 s.length c2) := by rw [hW]; go_simp
  have k2 : W.cell? ⟨w.heap.size + 1, 0, none⟩ = some (.slice A2 s.length c2) := by rw [hW]; go_simp
  replace hb : Below w.heap.size w W := by rw [hW]; exact (hb.alloc hb.size _).alloc (hb.alloc hb.size _).size _
  clear hW
  refine (HF.out W hb _ (lens_one k2)).mono ?_; rintro _ w1 ⟨rfl, hbn⟩; replace k1 := cnx k1 hbn; replace hb := bnx hb hbn; clear hbn k2
  go_wp2_with fail
  refine (HC.out _ hb).mono ?_; rintro _ w2 ⟨rfl, hbn⟩; replace k1 := cnx k1 hbn; replace hb := bnx hb hbn; clear hbn
  go_wp2_with fail
  refine (HL.out _ hb).mono ?_; rintro _ w3 ⟨rfl, hbn⟩; replace k1 := cnx k1 hbn; replace hb := bnx hb hbn; clear hbn
  go_wp2_with fail
  refine (HE.out _ hb _ k1).mono ?_; rintro _ w4 ⟨v, rfl, hR, hbn⟩
  replace hb := bnx hb hbn
  obtain ⟨A5, p5, rfl, _, hK⟩ := Kd.R_reads hR
  replace hK := Aside0.mk hK
  clear hR hbn
  go_wp2_with fail
  refine (HJ.out A5 p5 w4 hK.out).mono ?_; rintro _ w5 ⟨v, rfl, hR, hbn⟩
  clear hK
  have hR2 := Kd.R_lower hR hb.size
  replace hb := bnx hb hbn
  obtain ⟨A6, p6, rfl, _, _⟩ := Kd.R_reads hR2
  replace hR2 := Aside0.mk hR2
  clear hR hbn
  go_wp2
  go_ret2
  exact ⟨_, rfl, hR2.out, hb⟩

set_option maxRecDepth 100000 in
set_option maxHeartbeats 1000000 in
theorem Values_no (A0 A1 A2 : Option Addr) (c0 c1 c2 : Nat) (c l s : List Int) (w : World) (hr0 : (Kd.int .i64).C w A0 c.length c) (hr1 : (Kd.int .i64).C w A1 l.length l) (hr2 : (Kd.int .i64).C w A2 s.length s) (b0 : c.length ≤ 1000000) (b1 : l.length ≤ 1000000) (b2 : s.length ≤ 1000000)
    (he : errS (-1023) 1023 0 95 c l s ≠ 0) :
    Calls Try.prog 16 #[.slice A0 c.length c0, .slice A1 l.length c1, .slice A2 s.length c2] w fun e w' => e = .returned (.tuple #[.slice none 0 0, .int .i64 (errS (-1023) 1023 0 95 c l s)]) ∧ Below w.heap.size w w' := by
  have hb := Below.refl w.heap.size w
  have HF := fun (W : World) (hb : Below w.heap.size w W) B h => form_calls A0 A1 c.length c0 c1 1 l B [s.length] W (Kd.C_below hr1 hb) (by omega) (by omega) h (show 1 ≤ 1000000 by decide) (by simp; omega)
  have HC := fun (W : World) (hb : Below w.heap.size w W) => isQuanta_calls A0 c0 c W (Kd.C_below hr0 hb) (by omega)
  have HL := fun (W : World) (hb : Below w.heap.size w W) => isScales_calls A2 c2 s W (Kd.C_below hr2 hb) (by omega)
  unfold errS at he ⊢
  obtain ⟨E, hE⟩ : ∃ E, E = formE c.length l [s.length] := ⟨_, rfl⟩
  rw [← hE] at HF he ⊢
  replace HF := Aside0.mk HF
  clear hE hr0 hr1 hr2
  have hcb : (c.length : Int) ≤ 1000000 := by omega
  clear b0 b1 b2
  by_cases h0 : E = 0
  · subst h0
    rw [if_pos rfl] at he ⊢
    cases h1 : rng (-1023) 1023 c with
    | false =>
      rw [h1] at HC he
      replace HC := Aside0.mk HC
      replace HL := Aside0.mk HL
      clear h1 he
      go_enter Try.func16, Try.ntmps16
      go_wp2_with fail
      obtain ⟨W, hW⟩ : ∃ W, W = (w.alloc (.cells #[.slice A2 s.length c2] 22)).alloc (.cells #[.slice A2 s.length c2] 22) := ⟨_, rfl⟩
      rw [← hW]
      have k1 : W.cell? ⟨w.heap.size, 0, none⟩ = some (.slice A2 s.length c2) := by rw [hW]; go_simp
      have k2 : W.cell? ⟨w.heap.size + 1, 0, none⟩ = some (.slice A2 s.length c2) := by rw [hW]; go_simp
      replace hb : Below w.heap.size w W := by rw [hW]; exact (hb.alloc hb.size _).alloc (hb.alloc hb.size _).size _
      clear hW
      refine (HF.out W hb _ (lens_one k2)).mono ?_; rintro _ w1 ⟨rfl, hbn⟩; replace k1 := cnx k1 hbn; replace hb := bnx hb hbn; clear hbn k2
      go_wp2_with (first | (go_at_call 51; refine (HC.out _ hb).mono ?_; rintro e w' ⟨rfl, hbn⟩; replace hb := bnx hb hbn; clear hbn))
      go_ret2
      exact ⟨rfl, hb⟩
    | true =>
      rw [h1] at HC he
      cases h2 : rng 0 95 s with
      | true => rw [h2] at he; exact absurd rfl he
      | false =>
      rw [h2] at HL
      replace HC := Aside0.mk HC
      replace HL := Aside0.mk HL
      clear h1 h2 he
      go_enter Try.func16, Try.ntmps16
      go_wp2_with fail
      obtain ⟨W, hW⟩ : ∃ W, W = (w.alloc (.cells #[.slice A2 s.length c2] 22)).alloc (.cells #[.slice A2 s.length c2] 22) := ⟨_, rfl⟩
      rw [← hW]
      have k1 : W.cell? ⟨w.heap.size, 0, none⟩ = some (.slice A2 s.length c2) := by rw [hW]; go_simp
      have k2 : W.cell? ⟨w.heap.size + 1, 0, none⟩ = some (.slice A2 s.length c2) := by rw [hW]; go_simp
      replace hb : Below w.heap.size w W := by rw [hW]; exact (hb.alloc hb.size _).alloc (hb.alloc hb.size _).size _
      clear hW
      refine (HF.out W hb _ (lens_one k2)).mono ?_; rintro _ w1 ⟨rfl, hbn⟩; replace k1 := cnx k1 hbn; replace hb := bnx hb hbn; clear hbn k2
      go_wp2_with fail
      refine (HC.out _ hb).mono ?_; rintro _ w2 ⟨rfl, hbn⟩; replace k1 := cnx k1 hbn; replace hb := bnx hb hbn; clear hbn
      go_wp2_with (first | (go_at_call 44; refine (HL.out _ hb).mono ?_; rintro e w' ⟨rfl, hbn⟩; replace hb := bnx hb hbn; clear hbn))
      go_ret2
      exact ⟨rfl, hb⟩
  · rw [if_neg h0] at he ⊢
    clear HC HL
    go_enter Try.func16, Try.ntmps16
    go_wp2_with fail
    obtain ⟨W, hW⟩ : ∃ W, W = (w.alloc (.cells #[.slice A2 s.length c2] 22)).alloc (.cells #[.slice A2 s.length c2] 22) := ⟨_, rfl⟩
    rw [← hW]
    have k1 : W.cell? ⟨w.heap.size, 0, none⟩ = some (.slice A2 s.length c2) := by rw [hW]; go_simp
    have k2 : W.cell? ⟨w.heap.size + 1, 0, none⟩ = some (.slice A2 s.length c2) := by rw [hW]; go_simp
    replace hb : Below w.heap.size w W := by rw [hW]; exact (hb.alloc hb.size _).alloc (hb.alloc hb.size _).size _
    clear hW
    refine (HF.out W hb _ (lens_one k2)).mono ?_; rintro _ w1 ⟨rfl, hbn⟩; replace k1 := cnx k1 hbn; replace hb := bnx hb hbn; clear hbn k2
    have h0' : (E != 0) = true := bne_iff_ne.2 h0
    go_wp2_with fail
    go_ret2
    exact ⟨rfl, hb⟩

set_option maxRecDepth 100000 in
set_option maxHeartbeats 1000000 in
theorem Values_yes (A0 A1 A2 : Option Addr) (c0 c1 c2 : Nat) (c l s : List Int) (w : World) (hr0 : (Kd.int .i64).C w A0 c.length c) (hr1 : (Kd.int .i64).C w A1 l.length l) (hr2 : (Kd.int .i64).C w A2 s.length s) (hc0 : c.length ≤ c0) (hc9 : c0 ≤ 9223372036854775807)
    (he : errS (-1023) 1023 0 95 c l s = 0) :
    Calls Try.prog 16 #[.slice A0 c.length c0, .slice A1 l.length c1, .slice A2 s.length c2] w fun e w' => ∃ v, e = .returned (.tuple #[v, .int .i64 0]) ∧ (Kd.int .i64).R 3 w' w.heap.size (fun _ => True) v ((List.range l.length).map fun k => valuesL (band c l k) (rd s k)).flatten ∧ Below w.heap.size w w' := by
  obtain ⟨g0, g1, g2, g3, g4, g5⟩ := errS_zero he
  have hl32 := (isW_iff.1 g0).2.2
  have hb := Below.refl w.heap.size w
  obtain ⟨a, rfl⟩ : ∃ a, A0 = some a := by
    obtain ⟨_, _, h⟩ := hr0
    obtain ⟨a, e, _⟩ := h (by omega)
    exact ⟨a, e⟩
  have HF := fun (W : World) (hb : Below w.heap.size w W) B h => form_calls (some a) A1 c.length c0 c1 1 l B [s.length] W (Kd.C_below hr1 hb) (by omega) (by omega) h (show 1 ≤ 1000000 by decide) (by simp; omega)
  have HC := fun (W : World) (hb : Below w.heap.size w W) => isQuanta_calls (some a) c0 c W (Kd.C_below hr0 hb) (by omega)
  have HL := fun (W : World) (hb : Below w.heap.size w W) => isScales_calls A2 c2 s W (Kd.C_below hr2 hb) (by omega)
  have HE := fun (W : World) (hb : Below w.heap.size w W) (B : Nat) (hB : W.cell? ⟨B, 0, none⟩ = some (.slice A2 s.length c2)) => eachL_calls 52 #[] #[.pointer (some ⟨B, 0, none⟩)] (fun _ _ => by kernel_rfl) a c0 A1 c1 l g0 (by omega) hc9 (fun k => valuesL (band c l k) (rd s k)) W (Kd.C_below hr1 hb)
    (fun k hk => values1_part (Kd.C_below hr0 hb) g1 g0 (Kd.C_below hr2 hb) g2 hB hk)
  rw [g5, g1] at HF
  rw [g3, g1] at HC
  rw [g4] at HL
  rw [g1]
  have hrl : ((List.range l.length).map fun k => valuesL (band c l k) (rd s k)).length ≤ 1000 := by rw [List.length_map, List.length_range]; omega
  have hrn : ∀ x ∈ (List.range l.length).map fun k => valuesL (band c l k) (rd s k), x.length ≤ 1000 := fun x hx => by
    obtain ⟨k, _, rfl⟩ := List.mem_map.1 hx
    have := valuesL_len (band c l k) (rd s k)
    omega
  obtain ⟨r, hre⟩ : ∃ r, r = (List.range l.length).map fun k => valuesL (band c l k) (rd s k) := ⟨_, rfl⟩
  rw [← hre] at HE hrl hrn ⊢
  have HJ := fun A p W hK => joined_calls A p r W hK hrl hrn
  obtain ⟨rf, hrf⟩ : ∃ x, x = r.flatten := ⟨_, rfl⟩
  rw [← hrf] at HJ ⊢
  replace HJ := Aside0.mk HJ
  clear hrf hrl hrn
  replace HF := Aside0.mk HF
  replace HC := Aside0.mk HC
  replace HL := Aside0.mk HL
  replace HE := Aside0.mk HE
  clear hr0 hr1 hr2 hre g0 g1 g2 g3 g4 g5 he hc0 hl32
  go_enter Try.func16, Try.ntmps16
  go_wp2_with fail
  obtain ⟨W, hW⟩ : ∃ W, W = (w.alloc (.cells #[.slice A2 s.length c2] 22)).alloc (.cells #[.slice A2 s.length c2] 22) := ⟨_, rfl⟩
  rw [← hW]
  have k1 : W.cell? ⟨w.heap.size, 0, none⟩ = some (.slice A2 s.length c2) := by rw [hW]; go_simp
  have k2 : W.cell? ⟨w.heap.size + 1, 0, none⟩ = some (.slice A2 s.length c2) := by rw [hW]; go_simp
  replace hb : Below w.heap.size w W := by rw [hW]; exact (hb.alloc hb.size _).alloc (hb.alloc hb.size _).size _
  clear hW
  refine (HF.out W hb _ (lens_one k2)).mono ?_; rintro _ w1 ⟨rfl, hbn⟩; replace k1 := cnx k1 hbn; replace hb := bnx hb hbn; clear hbn k2
  go_wp2_with fail
  refine (HC.out _ hb).mono ?_; rintro _ w2 ⟨rfl, hbn⟩; replace k1 := cnx k1 hbn; replace hb := bnx hb hbn; clear hbn
  go_wp2_with fail
  refine (HL.out _ hb).mono ?_; rintro _ w3 ⟨rfl, hbn⟩; replace k1 := cnx k1 hbn; replace hb := bnx hb hbn; clear hbn
  go_wp2_with fail
  refine (HE.out _ hb _ k1).mono ?_; rintro _ w4 ⟨v, rfl, hR, hbn⟩
  replace hb := bnx hb hbn
  obtain ⟨A5, p5, rfl, _, hK⟩ := Kd.R_reads hR
  replace hK := Aside0.mk hK
  clear hR hbn
  go_wp2_with fail
  refine (HJ.out A5 p5 w4 hK.out).mono ?_; rintro _ w5 ⟨v, rfl, hR, hbn⟩
  clear hK
  have hR2 := Kd.R_lower hR hb.size
  replace hb := bnx hb hbn
  obtain ⟨A6, p6, rfl, _, _⟩ := Kd.R_reads hR2
  replace hR2 := Aside0.mk hR2
  clear hR hbn
  go_wp2
  go_ret2
  exact ⟨_, rfl, hR2.out, hb⟩

end Go.Proofs.Ytljadjoljhanfaa.Q16
/- What shape.noises and shape.Noises return. -/
namespace Go.Proofs.Ytljadjoljhanfaa.Q16
open Go.RowKit Go.Proofs.YtljadjoljhanfaaW.PrintWords Go.Proofs.YtljadjoljhanfaaW.PrintLast Go.Proofs.YtljadjoljhanfaaW.PrintMore
attribute [local go_sem] max2_int min2_int max_two min_two max_three min_three
open Go.Proofs.Ytljadjoljhanfaa.Q15

set_option maxRecDepth 100000 in
set_option maxHeartbeats 1000000 in
theorem noises_calls {c l s : List Int} {a : Addr} {A1 A2 : Option Addr} {c0 cap1 cap2 : Nat} {w : World} (hr0 : (Kd.int .i64).C w (some a) c.length c) (g1 : c.length = 128) (hc0 : c.length ≤ c0) (hc9 : c0 ≤ 9223372036854775807) (g0 : isW l = true) (hr1 : (Kd.int .i64).C w A1 l.length l) (hr2 : (Kd.int .i64).C w A2 s.length s) (g2 : s.length = l.length) :
    Calls Try.prog 55 #[.slice (some a) c.length c0, .slice A1 l.length cap1, .slice A2 s.length cap2] w fun e w' => ∃ v, e = .returned v ∧ (Kd.int .i64).R 3 w' w.heap.size (fun _ => True) v ((List.range l.length).map fun k => noiseR (band c l k) (rd s k)) ∧ Below w.heap.size w w' := by
  have hb := Below.refl w.heap.size w
  have HE := fun (W : World) (hb : Below w.heap.size w W) (B : Nat) (hB : W.cell? ⟨B, 0, none⟩ = some (.slice A2 s.length cap2)) => each_calls 86 #[] #[.pointer (some ⟨B, 0, none⟩)] (fun _ _ => by kernel_rfl) a c0 A1 cap1 l g0 (by omega) hc9 (fun k => noiseR (band c l k) (rd s k)) W (Kd.C_below hr1 hb)
    (fun k hk => noises1_part (Kd.C_below hr0 hb) g1 g0 (Kd.C_below hr2 hb) g2 hB hk)
  rw [g1]
  obtain ⟨r, hre⟩ : ∃ r, r = (List.range l.length).map fun k => noiseR (band c l k) (rd s k) := ⟨_, rfl⟩
  rw [← hre] at HE ⊢
  replace HE := Aside0.mk HE
  clear hr0 hr1 hr2 hre g0 g1 g2 hc0
  go_enter Try.func55, Try.ntmps55
  go_wp2_with fail
  obtain ⟨W, hW⟩ : ∃ W, W = w.alloc (.cells #[.slice A2 s.length cap2] 22) := ⟨_, rfl⟩
  rw [← hW]
  have k1 : W.cell? ⟨w.heap.size, 0, none⟩ = some (.slice A2 s.length cap2) := by rw [hW]; go_simp
  replace hb : Below w.heap.size w W := by rw [hW]; exact hb.alloc hb.size _
  clear hW
  refine (HE.out _ hb _ k1).mono ?_; rintro _ w4 ⟨v, rfl, hR, hbn⟩
  have hR2 := Kd.R_lower hR hb.size
  replace hb := bnx hb hbn
  obtain ⟨A5, p5, rfl, _, _⟩ := Kd.R_reads hR2
  replace hR2 := Aside0.mk hR2
  clear hR hbn
  go_wp2
  go_ret
  exact ⟨_, rfl, hR2.out, hb⟩

set_option maxRecDepth 100000 in
set_option maxHeartbeats 1000000 in
theorem Noises_no (A0 A1 A2 : Option Addr) (c0 c1 c2 : Nat) (c l s : List Int) (w : World) (hr0 : (Kd.int .i64).C w A0 c.length c) (hr1 : (Kd.int .i64).C w A1 l.length l) (hr2 : (Kd.int .i64).C w A2 s.length s) (b0 : c.length ≤ 1000000) (b1 : l.length ≤ 1000000) (b2 : s.length ≤ 1000000)
    (he : errS (-2097152) 2097152 0 95 c l s ≠ 0) :
    Calls Try.prog 18 #[.slice A0 c.length c0, .slice A1 l.length c1, .slice A2 s.length c2] w fun e w' => e = .returned (.tuple #[.slice none 0 0, .int .i64 (errS (-2097152) 2097152 0 95 c l s)]) ∧ Below w.heap.size w w' := by
  have hb := Below.refl w.heap.size w
  have HF := fun (W : World) (hb : Below w.heap.size w W) B h => form_calls A0 A1 c.length c0 c1 1 l B [s.length] W (Kd.C_below hr1 hb) (by omega) (by omega) h (show 1 ≤ 1000000 by decide) (by simp; omega)
  have HC := fun (W : World) (hb : Below w.heap.size w W) => isCoefs_calls A0 c0 c W (Kd.C_below hr0 hb) (by omega)
  have HL := fun (W : World) (hb : Below w.heap.size w W) => isScales_calls A2 c2 s W (Kd.C_below hr2 hb) (by omega)
  unfold errS at he ⊢
  obtain ⟨E, hE⟩ : ∃ E, E = formE c.length l [s.length] := ⟨_, rfl⟩
  rw [← hE] at HF he ⊢
  replace HF := Aside0.mk HF
  clear hE hr0 hr1 hr2
  have hcb : (c.length : Int) ≤ 1000000 := by omega
  clear b0 b1 b2
  by_cases h0 : E = 0
  · subst h0
    rw [if_pos rfl] at he ⊢
    cases h1 : rng (-2097152) 2097152 c with
    | false =>
      rw [h1] at HC he
      replace HC := Aside0.mk HC
      replace HL := Aside0.mk HL
      clear h1 he
      go_enter Try.func18, Try.ntmps18
      go_wp2_with fail
      obtain ⟨W, hW⟩ : ∃ W, W = w.alloc (.cells #[.slice A2 s.length c2] 22) := ⟨_, rfl⟩
      rw [← hW]
      have k1 : W.cell? ⟨w.heap.size, 0, none⟩ = some (.slice A2 s.length c2) := by rw [hW]; go_simp
      replace hb : Below w.heap.size w W := by rw [hW]; exact hb.alloc hb.size _
      clear hW
      refine (HF.out W hb _ (lens_one k1)).mono ?_; rintro _ w1 ⟨rfl, hbn⟩; replace k1 := cnx k1 hbn; replace hb := bnx hb hbn; clear hbn
      go_wp2_with (first | (go_at_call 31; refine (HC.out _ hb).mono ?_; rintro e w' ⟨rfl, hbn⟩; replace hb := bnx hb hbn; clear hbn))
      go_ret2
      exact ⟨rfl, hb⟩
    | true =>
      rw [h1] at HC he
      cases h2 : rng 0 95 s with
      | true => rw [h2] at he; exact absurd rfl he
      | false =>
      rw [h2] at HL
      replace HC := Aside0.mk HC
      replace HL := Aside0.mk HL
      clear h1 h2 he
      go_enter Try.func18, Try.ntmps18
      go_wp2_with fail
      obtain ⟨W, hW⟩ : ∃ W, W = w.alloc (.cells #[.slice A2 s.length c2] 22) := ⟨_, rfl⟩
      rw [← hW]
      have k1 : W.cell? ⟨w.heap.size, 0, none⟩ = some (.slice A2 s.length c2) := by rw [hW]; go_simp
      replace hb : Below w.heap.size w W := by rw [hW]; exact hb.alloc hb.size _
      clear hW
      refine (HF.out W hb _ (lens_one k1)).mono ?_; rintro _ w1 ⟨rfl, hbn⟩; replace k1 := cnx k1 hbn; replace hb := bnx hb hbn; clear hbn
      go_wp2_with fail
      refine (HC.out _ hb).mono ?_; rintro _ w2 ⟨rfl, hbn⟩; replace k1 := cnx k1 hbn; replace hb := bnx hb hbn; clear hbn
      go_wp2_with (first | (go_at_call 44; refine (HL.out _ hb).mono ?_; rintro e w' ⟨rfl, hbn⟩; replace hb := bnx hb hbn; clear hbn))
      go_ret2
      exact ⟨rfl, hb⟩
  · rw [if_neg h0] at he ⊢
    clear HC HL
    go_enter Try.func18, Try.ntmps18
    go_wp2_with fail
    obtain ⟨W, hW⟩ : ∃ W, W = w.alloc (.cells #[.slice A2 s.length c2] 22) := ⟨_, rfl⟩
    rw [← hW]
    have k1 : W.cell? ⟨w.heap.size, 0, none⟩ = some (.slice A2 s.length c2) := by rw [hW]; go_simp
    replace hb : Below w.heap.size w W := by rw [hW]; exact hb.alloc hb.size _
    clear hW
    refine (HF.out W hb _ (lens_one k1)).mono ?_; rintro _ w1 ⟨rfl, hbn⟩; replace k1 := cnx k1 hbn; replace hb := bnx hb hbn; clear hbn
    have h0' : (E != 0) = true := bne_iff_ne.2 h0
    go_wp2_with fail
    go_ret2
    exact ⟨rfl, hb⟩

set_option maxRecDepth 100000 in
set_option maxHeartbeats 1000000 in
theorem Noises_yes (A0 A1 A2 : Option Addr) (c0 c1 c2 : Nat) (c l s : List Int) (w : World) (hr0 : (Kd.int .i64).C w A0 c.length c) (hr1 : (Kd.int .i64).C w A1 l.length l) (hr2 : (Kd.int .i64).C w A2 s.length s) (hc0 : c.length ≤ c0) (hc9 : c0 ≤ 9223372036854775807)
    (he : errS (-2097152) 2097152 0 95 c l s = 0) :
    Calls Try.prog 18 #[.slice A0 c.length c0, .slice A1 l.length c1, .slice A2 s.length c2] w fun e w' => ∃ v, e = .returned (.tuple #[v, .int .i64 0]) ∧ (Kd.int .i64).R 3 w' w.heap.size (fun _ => True) v ((List.range l.length).map fun k => noiseR (band c l k) (rd s k)) ∧ Below w.heap.size w w' := by
  obtain ⟨g0, g1, g2, g3, g4, g5⟩ := errS_zero he
  have hl32 := (isW_iff.1 g0).2.2
  have hb := Below.refl w.heap.size w
  obtain ⟨a, rfl⟩ : ∃ a, A0 = some a := by
    obtain ⟨_, _, h⟩ := hr0
    obtain ⟨a, e, _⟩ := h (by omega)
    exact ⟨a, e⟩
  have HF := fun (W : World) (hb : Below w.heap.size w W) B h => form_calls (some a) A1 c.length c0 c1 1 l B [s.length] W (Kd.C_below hr1 hb) (by omega) (by omega) h (show 1 ≤ 1000000 by decide) (by simp; omega)
  have HC := fun (W : World) (hb : Below w.heap.size w W) => isCoefs_calls (some a) c0 c W (Kd.C_below hr0 hb) (by omega)
  have HL := fun (W : World) (hb : Below w.heap.size w W) => isScales_calls A2 c2 s W (Kd.C_below hr2 hb) (by omega)
  have HE := fun (W : World) (hb : Below w.heap.size w W) => noises_calls (Kd.C_below hr0 hb) g1 hc0 hc9 g0 (Kd.C_below hr1 hb) (cap1 := c1) (Kd.C_below hr2 hb) (cap2 := c2) g2
  rw [g5, g1] at HF
  rw [g3, g1] at HC
  rw [g4] at HL
  rw [g1] at HE
  rw [g1]
  obtain ⟨r, hre⟩ : ∃ r, r = (List.range l.length).map fun k => noiseR (band c l k) (rd s k) := ⟨_, rfl⟩
  rw [← hre] at HE ⊢
  replace HF := Aside0.mk HF
  replace HC := Aside0.mk HC
  replace HL := Aside0.mk HL
  replace HE := Aside0.mk HE
  clear hr0 hr1 hr2 hre g0 g1 g2 g3 g4 g5 he hc0 hl32
  go_enter Try.func18, Try.ntmps18
  go_wp2_with fail
  obtain ⟨W, hW⟩ : ∃ W, W = w.alloc (.cells #[.slice A2 s.length c2] 22) := ⟨_, rfl⟩
  rw [← hW]
  have k1 : W.cell? ⟨w.heap.size, 0, none⟩ = some (.slice A2 s.length c2) := by rw [hW]; go_simp
  replace hb : Below w.heap.size w W := by rw [hW]; exact hb.alloc hb.size _
  clear hW
  refine (HF.out W hb _ (lens_one k1)).mono ?_; rintro _ w1 ⟨rfl, hbn⟩; replace k1 := cnx k1 hbn; replace hb := bnx hb hbn; clear hbn
  go_wp2_with fail
  refine (HC.out _ hb).mono ?_; rintro _ w2 ⟨rfl, hbn⟩; replace k1 := cnx k1 hbn; replace hb := bnx hb hbn; clear hbn
  go_wp2_with fail
  refine (HL.out _ hb).mono ?_; rintro _ w3 ⟨rfl, hbn⟩; replace k1 := cnx k1 hbn; replace hb := bnx hb hbn; clear hbn
  go_wp2_with fail
  refine (HE.out _ hb).mono ?_; rintro _ w4 ⟨v, rfl, hR, hbn⟩
  have hR2 := Kd.R_lower hR hb.size
  replace hb := bnx hb hbn
  obtain ⟨A5, p5, rfl, _, _⟩ := Kd.R_reads hR2
  replace hR2 := Aside0.mk hR2
  clear hR hbn
  go_wp2
  go_ret2
  exact ⟨_, rfl, hR2.out, hb⟩

end Go.Proofs.Ytljadjoljhanfaa.Q16
/- What the reference's cut returns: the lists of the bands. -/
namespace Go.Proofs.Ytljadjoljhanfaa.Q16
open Go.RowKit Go.Proofs.YtljadjoljhanfaaW.PrintWords Go.Proofs.YtljadjoljhanfaaW.PrintLast Go.Proofs.YtljadjoljhanfaaW.PrintMore
attribute [local go_sem] max2_int min2_int max_two min_two max_three min_three
open Go.Proofs.Ytljadjoljhanfaa.Q15

/-- The cell of band k, as the reference cuts it. -/
def cellB (a : Addr) (c0 : Nat) (l : List Int) (k : Nat) : List Value := [.slice (some (a.add (off l k))) (wd l k) (c0 - off l k)]
/-- The lists of the bands. -/
def bands (c l : List Int) : List (List Int) := (List.range l.length).map (band c l)
theorem bands_read {c l : List Int} {a : Addr} {c0 : Nat} {w : World} {A : Option Addr} (hr : (Kd.int .i64).C w (some a) c.length c) (hc : c.length = 128) (hc0 : 128 ≤ c0) (hl : isW l = true) (h : (Kd.raw 1).C w A l.length ((List.range l.length).map (cellB a c0 l))) : KL.C w A (bands c l).length (bands c l) := by
  have hlen : (bands c l).length = l.length := by unfold bands; rw [List.length_map, List.length_range]
  obtain ⟨h0, h1, h2⟩ := h
  refine ⟨rfl, by rw [hlen]; exact h1, fun hp => ?_⟩
  obtain ⟨ad, e, h3⟩ := h2 (by omega)
  refine ⟨ad, e, fun j p hj => ?_⟩
  have hjl : j < l.length := by
    have := (List.getElem?_eq_some_iff.1 hj).1
    omega
  have hp' : p = band c l j := by
    unfold bands at hj
    rw [List.getElem?_map, List.getElem?_range hjl] at hj
    exact (Option.some.inj hj).symm
  obtain ⟨cs, hz, ⟨hcs, _⟩, hcell⟩ := h3 j (cellB a c0 l j) (by rw [List.getElem?_map, List.getElem?_range hjl]; rfl)
  have hb := band_len hc hl hjl
  have hn := off_next hl hjl
  refine ⟨cs, hz, ⟨some (a.add (off l j)), c0 - off l j, ?_, ?_, ?_⟩, hcell⟩
  · rw [hcs, hp', hb]; rfl
  · rw [hp', hb]; omega
  · rw [hp']; exact band_C hr hc hl hjl

set_option maxRecDepth 100000 in
set_option maxHeartbeats 1000000 in
theorem cut_calls {a : Addr} {A1 : Option Addr} {c0 cap : Nat} {c l : List Int} {w : World} (hr0 : (Kd.int .i64).C w (some a) c.length c) (hc : c.length = 128) (hc0 : 128 ≤ c0) (hc9 : c0 ≤ 9223372036854775807) (hl : isW l = true) (hr1 : (Kd.int .i64).C w A1 l.length l) :
    Calls Try.prog 41 #[.slice (some a) 128 c0, .slice A1 l.length cap] w fun e w' => ∃ A p, e = .returned (.slice A l.length p) ∧ KL.C w' A (bands c l).length (bands c l) ∧ Below w.heap.size w w' := by
  have HR := Aside0.mk hr1
  have HZ := Aside0.mk hr0
  have HN := Aside0.mk (fun k (hk : k < l.length) => off_next hl hk)
  have hll : (l.length : Int) ≤ 32 := by have := (isW_iff.1 hl).2.2; omega
  have HL := Aside0.mk hl
  have HC := Aside0.mk hc
  clear hr0 hr1 hl hc
  go_enter Try.func41, Try.ntmps41
  go_wp2
  go_loopw [0, 5, 10] (fun x s i wr => ∃ k : Nat, i = .int .i64 k ∧ k ≤ l.length ∧ (∃ B m cp, x = .slice (some B) m cp ∧ Aside0 (k < l.length → B = a.add (off l k) ∧ m = 128 - off l k ∧ cp = c0 - off l k)) ∧ Aside0 ((Kd.raw 1).R 22 wr w.heap.size (fun _ => True) s ((List.range k).map (cellB a c0 l))) ∧ Below w.heap.size w wr) (fun _ _ i _ => l.length - (intOf i).toNat)
  case atStart => exact ⟨0, rfl, by omega, ⟨a, 128, c0, rfl, ⟨fun _ => by simp [off, addr_add_zero]⟩⟩, ⟨Kd.R_nil _ _ _ _ _⟩, Below.refl _ _⟩
  case round =>
    obtain ⟨k, rfl, hk, ⟨B, m, cp, rfl, hx⟩, hR, hb⟩ := hrel
    by_cases hlt : k < l.length
    · obtain ⟨ad, rfl, hcell⟩ := el_at HR.out hb hlt
      obtain ⟨rfl, hm, hcp⟩ := hx.out hlt
      obtain ⟨q1, q2, q3, q4⟩ := HN.out k hlt
      rw [q4] at hcell
      have hle : ((List.range k).map (cellB a c0 l)).length = k := by rw [List.length_map, List.length_range]
      have hT : (List.range (k + 1)).map (cellB a c0 l) = (List.range k).map (cellB a c0 l) ++ [cellB a c0 l k] := by rw [List.range_succ, List.map_append]; rfl
      have hce : cellB a c0 l k = [.slice (some (a.add (off l k))) (wd l k) (c0 - off l k)] := rfl
      obtain ⟨o, ho⟩ : ∃ o, o = off l k := ⟨_, rfl⟩
      obtain ⟨d, hd⟩ : ∃ d, d = wd l k := ⟨_, rfl⟩
      rw [← ho] at hm hcp hce q1 q3 ⊢
      rw [← hd] at hcell hce q1 q2 q3
      have i1 : (d : Int) ≤ (m : Int) := by omega
      have i2 : (d : Int) ≤ (cp : Int) := by omega
      have i3 : (m : Int) ≤ (cp : Int) := by omega
      have i4 : (cp : Int) ≤ 9223372036854775807 := by omega
      have i5 : (1 : Int) ≤ (d : Int) := by omega
      have hkI : (k : Int) < (l.length : Int) := by omega
      rw [← hcp] at hce
      replace hm := Aside0.mk hm
      replace hcp := Aside0.mk hcp
      replace hce := Aside0.mk hce
      replace q1 := Aside0.mk q1
      replace hT := Aside0.mk hT
      replace hle := Aside0.mk hle
      obtain ⟨a', ha'⟩ : ∃ a', a' = a.add o := ⟨_, rfl⟩
      rw [← ha']
      replace ha' := Aside0.mk ha'
      replace ho := Aside0.mk ho
      replace hd := Aside0.mk hd
      clear q2 q3 q4 hx
      have hlen : (((List.range k).map (cellB a c0 l)).length + 1) * 24 ≤ 140737488355328 := by rw [hle.out]; omega
      replace hlen := Aside0.mk hlen
      go_wp2_with (at_builtin; refine Kd.R_append (Kd.raw 1) (w0 := w) w.heap.size rfl (.tmp 14) (.tmp 18) 42 22 (.slice none 0 0) 24 rfl Try.underlying42 info_list rfl (by decide) (by decide) u5 ((List.range k).map (cellB a c0 l)) [.slice (some a') d cp] [.slice (some a') d cp] (fun _ => True) (fun _ => False) rfl rfl ⟨rfl, rfl, fun u hu => by rw [List.mem_singleton.1 hu]; rfl⟩ (fun _ hk => hk.elim) (fun _ _ => trivial) hR.out hb hb.size hlen.out ?_; intro v1 wA hoA hbA hgA hatA; have HOA := Aside0.mk hoA; clear hoA hgA hatA)
      go_roundw
      case rel =>
        refine ⟨k + 1, by go_num, by omega, ?_, ⟨by rw [hT.out, hce.out, ← ha'.out]; exact HOA.out⟩, hbA⟩
        by_cases hcd : cp = d
        · refine ⟨a', _, _, by rw [if_pos hcd], ⟨fun h => ?_⟩⟩
          obtain ⟨p1, p2, p3, p4⟩ := HN.out (k + 1) h
          have := q1.out; have := hcp.out; have := ho.out
          exfalso; omega
        · refine ⟨a'.add d, _, _, by rw [if_neg hcd], ⟨fun h => ⟨?_, ?_, ?_⟩⟩⟩
          · rw [ha'.out, Addr.add_add, q1.out]
          · rw [hm.out, q1.out]; omega
          · rw [hcp.out, q1.out]; omega
      case measure => simp [intOf]; omega
    · obtain rfl : k = l.length := by omega
      have hR' := hR.out
      obtain ⟨A5, p5, rfl, _, hK⟩ := Kd.R_reads hR'
      rw [List.length_map, List.length_range] at hK ⊢
      have hF := bands_read (Kd.C_below HZ.out hb) HC.out hc0 HL.out hK
      replace hF := Aside0.mk hF
      clear hR hx hR' hK
      go_wp2
      go_ret
      exact ⟨_, _, rfl, hF.out, hb⟩

end Go.Proofs.Ytljadjoljhanfaa.Q16
/- What the reference's Noises returns; the error of its lists. -/
namespace Go.Proofs.Ytljadjoljhanfaa.Q16
open Go.RowKit Go.Proofs.YtljadjoljhanfaaW.PrintWords Go.Proofs.YtljadjoljhanfaaW.PrintLast Go.Proofs.YtljadjoljhanfaaW.PrintMore
attribute [local go_sem] max2_int min2_int max_two min_two max_three min_three
open Go.Proofs.Ytljadjoljhanfaa.Q15

theorem bands_at {c l : List Int} {w w1 : World} {A : Option Addr} (h : KL.C w A (bands c l).length (bands c l)) (hb : Below w.heap.size w w1) {k : Nat} (hk : k < l.length) :
    ∃ ad A' cp, A = some ad ∧ w1.cell? (ad.add k) = some (.slice A' (band c l k).length cp) ∧ (Kd.int .i64).C w1 A' (band c l k).length (band c l k) := by
  have hlen : (bands c l).length = l.length := by unfold bands; rw [List.length_map, List.length_range]
  obtain ⟨ad, A', cp, e, h1, _, h2⟩ := list_at h hb (show k < (bands c l).length by omega)
  have he : (bands c l)[k]'(by omega) = band c l k := by simp [bands]
  rw [he] at h1 h2
  exact ⟨ad, A', cp, e, h1, h2⟩

set_option maxRecDepth 100000 in
set_option maxHeartbeats 1000000 in
theorem scaled_calls (A0 A1 A2 : Option Addr) (c0 c1 c2 : Nat) (c l s : List Int) (w : World) (hr0 : (Kd.int .i64).C w A0 c.length c) (hr1 : (Kd.int .i64).C w A1 l.length l) (hr2 : (Kd.int .i64).C w A2 s.length s) (b0 : c.length ≤ 1000000) (b1 : l.length ≤ 1000000) (b2 : s.length ≤ 1000000) :
    Calls Try.prog 49 #[.slice A0 c.length c0, .slice A1 l.length c1, .slice A2 s.length c2] w fun e w' => e = .returned (.int .i64 (errS (-2097152) 2097152 0 95 c l s)) ∧ Below w.heap.size w w' := by
  have hb := Below.refl w.heap.size w
  have HF := fun (W : World) (hb : Below w.heap.size w W) B h => forms_calls A0 A1 c.length c0 c1 1 l B [s.length] W (Kd.C_below hr1 hb) (by omega) (by omega) h (show 1 ≤ 1000000 by decide) (by simp; omega)
  have HC := fun (W : World) (hb : Below w.heap.size w W) => Within_calls 2097152 (by decide) A0 c0 c W (Kd.C_below hr0 hb) (by omega)
  have HL := fun (W : World) (hb : Below w.heap.size w W) => all_calls 95 A2 c2 s W (Kd.C_below hr2 hb) (by omega)
  unfold errS
  obtain ⟨E, hE⟩ : ∃ E, E = formE c.length l [s.length] := ⟨_, rfl⟩
  rw [← hE] at HF ⊢
  replace HF := Aside0.mk HF
  clear hE hr0 hr1 hr2
  have hcb : (c.length : Int) ≤ 1000000 := by omega
  clear b0 b1 b2
  by_cases h0 : E = 0
  · subst h0
    rw [if_pos rfl]
    cases h1 : rng (-2097152) 2097152 c with
    | false =>
      rw [h1] at HC
      replace HC := Aside0.mk HC
      replace HL := Aside0.mk HL
      clear h1
      go_enter Try.func49, Try.ntmps49
      go_wp2_with fail
      obtain ⟨W, hW⟩ : ∃ W, W = w.alloc (.cells #[.slice A2 s.length c2] 22) := ⟨_, rfl⟩
      rw [← hW]
      have k1 : W.cell? ⟨w.heap.size, 0, none⟩ = some (.slice A2 s.length c2) := by rw [hW]; go_simp
      replace hb : Below w.heap.size w W := by rw [hW]; exact hb.alloc hb.size _
      clear hW
      refine (HF.out W hb _ (lens_one k1)).mono ?_; rintro _ w1 ⟨rfl, hbn⟩; replace hb := bnx hb hbn; clear hbn k1
      go_wp2_with (first | (go_at_call 38; refine (HC.out _ hb).mono ?_; rintro e w' ⟨rfl, hbn⟩; replace hb := bnx hb hbn; clear hbn))
      go_ret
      exact ⟨rfl, hb⟩
    | true =>
      rw [h1] at HC
      obtain ⟨b, hbe⟩ : ∃ b, b = rng 0 95 s := ⟨_, rfl⟩
      rw [← hbe] at HL ⊢
      replace HC := Aside0.mk HC
      replace HL := Aside0.mk HL
      clear h1 hbe
      cases b
      all_goals
        go_enter Try.func49, Try.ntmps49
        go_wp2_with fail
        obtain ⟨W, hW⟩ : ∃ W, W = w.alloc (.cells #[.slice A2 s.length c2] 22) := ⟨_, rfl⟩
        rw [← hW]
        have k1 : W.cell? ⟨w.heap.size, 0, none⟩ = some (.slice A2 s.length c2) := by rw [hW]; go_simp
        replace hb : Below w.heap.size w W := by rw [hW]; exact hb.alloc hb.size _
        clear hW
        refine (HF.out W hb _ (lens_one k1)).mono ?_; rintro _ w1 ⟨rfl, hbn⟩; replace hb := bnx hb hbn; clear hbn k1
        go_wp2_with (first | (go_at_call 38; refine (HC.out _ hb).mono ?_; rintro e w' ⟨rfl, hbn⟩; replace hb := bnx hb hbn; clear hbn) | (go_at_call 39; refine (HL.out _ hb).mono ?_; rintro e w' ⟨rfl, hbn⟩; replace hb := bnx hb hbn; clear hbn))
        go_ret
        exact ⟨rfl, hb⟩
  · rw [if_neg h0]
    clear HC HL
    go_enter Try.func49, Try.ntmps49
    go_wp2_with fail
    obtain ⟨W, hW⟩ : ∃ W, W = w.alloc (.cells #[.slice A2 s.length c2] 22) := ⟨_, rfl⟩
    rw [← hW]
    have k1 : W.cell? ⟨w.heap.size, 0, none⟩ = some (.slice A2 s.length c2) := by rw [hW]; go_simp
    replace hb : Below w.heap.size w W := by rw [hW]; exact hb.alloc hb.size _
    clear hW
    refine (HF.out W hb _ (lens_one k1)).mono ?_; rintro _ w1 ⟨rfl, hbn⟩; replace hb := bnx hb hbn; clear hbn k1
    have h0' : (E != 0) = true := bne_iff_ne.2 h0
    go_wp2_with fail
    go_ret
    exact ⟨rfl, hb⟩

end Go.Proofs.Ytljadjoljhanfaa.Q16
/- What shape's Coarser and Amplify ask of each band. -/
namespace Go.Proofs.Ytljadjoljhanfaa.Q16
open Go.Proofs.Ytljadjoljhanfaa.Q15
open Go.RowKit Go.Proofs.YtljadjoljhanfaaW.PrintWords Go.Proofs.YtljadjoljhanfaaW.PrintLast Go.Proofs.YtljadjoljhanfaaW.PrintMore
attribute [local go_sem] max2_max min2_min max_two min_two max_three min_three

/-- The scale of a band, coarser by n. -/
def coarse (b : List Int) (s n : Int) : Int := if 0 ≤ n then min (s + n) 95 else max (s + n) (leastI b)
/-- The scale of a band, finer if its noise is above its limit. -/
def ampl (b : List Int) (s n limit : Int) : Int := if limit < n ∧ leastI b < s then s - 1 else s

set_option maxRecDepth 100000 in
theorem coarser1_part {c l s : List Int} {n : Int} {a : Addr} {A2 : Option Addr} {cap B B2 : Nat} {w : World} (hr : (Kd.int .i64).C w (some a) c.length c) (hc : c.length = 128) (hl : isW l = true) (hs : (Kd.int .i64).C w A2 s.length s) (hsl : s.length = l.length)
    (hB : w.cell? ⟨B, 0, none⟩ = some (.slice A2 s.length cap)) (hB2 : w.cell? ⟨B2, 0, none⟩ = some (.int .i64 n)) {k : Nat} (hk : k < l.length) (hsc : 0 ≤ rd s k ∧ rd s k ≤ 95) (hn : -96 ≤ n ∧ n ≤ 96) (hck : chk isC (band c l k) 0 = 0) :
    FnPart 62 #[] #[.pointer (some ⟨B2, 0, none⟩), .pointer (some ⟨B, 0, none⟩)] a l w k (coarse (band c l k) (rd s k) n) := by
  intro W hb0
  have HL := fun W2 (hb : Below w.heap.size w W2) => Least_yes (some (a.add (off l k))) (wd l k) (band c l k) W2 (Kd.C_below (band_C hr hc hl hk) hb) hck
  rw [band_len hc hl hk] at HL
  obtain ⟨ad, rfl, hcell⟩ := el_at hs hb0 (show k < s.length by omega)
  have hB' := cnx hB hb0
  have hB2' := cnx hB2 hb0
  have hks : (k : Int) < (s.length : Int) := by omega
  unfold coarse
  obtain ⟨e, hee⟩ : ∃ e, e = leastI (band c l k) := ⟨_, rfl⟩
  rw [← hee] at HL ⊢
  obtain ⟨x, hx⟩ : ∃ x, x = rd s k := ⟨_, rfl⟩
  rw [← hx] at hcell hsc ⊢
  unfold encB
  obtain ⟨o, ho⟩ : ∃ o, o = a.add (off l k) := ⟨_, rfl⟩
  obtain ⟨d, hd⟩ : ∃ d, d = wd l k := ⟨_, rfl⟩
  rw [← ho, ← hd] at HL ⊢
  replace HL := Aside0.mk HL
  have hb := Below.refl W.heap.size W
  have hsum : IntKind.i64.wrap (x + n) = x + n := IntWalk.i64_in _ (by omega)
  clear hr hs hee hx ho hd hc hl hB hB2 hsl hck
  show Calls Try.prog 62 #[.int .i64 k, .slice (some o) d d, .pointer (some ⟨B2, 0, none⟩), .pointer (some ⟨B, 0, none⟩)] W _
  by_cases h0 : 0 ≤ n
  · rw [if_pos h0]
    go_enter Try.func62, Try.ntmps62
    go_wp2
    go_quiet (fail)
    go_wp2
    go_ret
    exact ⟨rfl, below_drewN' hb nq⟩
  · rw [if_neg h0]
    go_enter Try.func62, Try.ntmps62
    go_wp2_with fail
    refine (HL.out _ (bnx hb0 hb)).mono ?_; rintro _ w1 ⟨rfl, hbn⟩; replace hcell := cnx hcell hbn; replace hB' := cnx hB' hbn; replace hB2' := cnx hB2' hbn; replace hb := bnx hb hbn; clear hbn
    go_wp2_with fail
    go_quiet (fail)
    go_wp2
    go_ret
    exact ⟨rfl, below_drewN' hb nq⟩

set_option maxRecDepth 100000 in
set_option maxHeartbeats 1000000 in
theorem amplify1_part {c l s m z : List Int} {a : Addr} {A2 A3 A4 : Option Addr} {cap cap3 cap4 B B3 B4 : Nat} {w : World} (hr : (Kd.int .i64).C w (some a) c.length c) (hc : c.length = 128) (hl : isW l = true) (hs : (Kd.int .i64).C w A2 s.length s) (hsl : s.length = l.length) (hm : (Kd.int .i64).C w A3 m.length m) (hml : m.length = l.length) (hz : (Kd.int .i64).C w A4 z.length z) (hzl : z.length = l.length)
    (hB : w.cell? ⟨B, 0, none⟩ = some (.slice A2 s.length cap)) (hB3 : w.cell? ⟨B3, 0, none⟩ = some (.slice A3 m.length cap3)) (hB4 : w.cell? ⟨B4, 0, none⟩ = some (.slice A4 z.length cap4)) {k : Nat} (hk : k < l.length) (hsc : 0 ≤ rd s k ∧ rd s k ≤ 95) (hck : chk isC (band c l k) 0 = 0) :
    FnPart 59 #[] #[.pointer (some ⟨B4, 0, none⟩), .pointer (some ⟨B3, 0, none⟩), .pointer (some ⟨B, 0, none⟩)] a l w k (ampl (band c l k) (rd s k) (rd z k) (rd m k)) := by
  intro W hb0
  have HL := fun W2 (hb : Below w.heap.size w W2) => Least_yes (some (a.add (off l k))) (wd l k) (band c l k) W2 (Kd.C_below (band_C hr hc hl hk) hb) hck
  rw [band_len hc hl hk] at HL
  obtain ⟨ad, rfl, hcell⟩ := el_at hs hb0 (show k < s.length by omega)
  obtain ⟨ad3, rfl, hcell3⟩ := el_at hm hb0 (show k < m.length by omega)
  obtain ⟨ad4, rfl, hcell4⟩ := el_at hz hb0 (show k < z.length by omega)
  have hB' := cnx hB hb0
  have hB3' := cnx hB3 hb0
  have hB4' := cnx hB4 hb0
  have hks : (k : Int) < (s.length : Int) := by omega
  have hks3 : (k : Int) < (m.length : Int) := by omega
  have hks4 : (k : Int) < (z.length : Int) := by omega
  unfold ampl
  obtain ⟨e, hee⟩ : ∃ e, e = leastI (band c l k) := ⟨_, rfl⟩
  rw [← hee] at HL ⊢
  obtain ⟨x, hx⟩ : ∃ x, x = rd s k := ⟨_, rfl⟩
  rw [← hx] at hcell hsc ⊢
  obtain ⟨y, hy⟩ : ∃ y, y = rd m k := ⟨_, rfl⟩
  rw [← hy] at hcell3 ⊢
  obtain ⟨v, hv⟩ : ∃ v, v = rd z k := ⟨_, rfl⟩
  rw [← hv] at hcell4 ⊢
  unfold encB
  obtain ⟨o, ho⟩ : ∃ o, o = a.add (off l k) := ⟨_, rfl⟩
  obtain ⟨d, hd⟩ : ∃ d, d = wd l k := ⟨_, rfl⟩
  rw [← ho, ← hd] at HL ⊢
  replace HL := Aside0.mk HL
  have hb := Below.refl W.heap.size W
  have hsum : IntKind.i64.wrap (x - 1) = x - 1 := IntWalk.i64_in _ (by omega)
  clear hr hs hm hz hee hx hy hv ho hd hc hl hB hB3 hB4 hsl hml hzl hck
  show Calls Try.prog 59 #[.int .i64 k, .slice (some o) d d, .pointer (some ⟨B4, 0, none⟩), .pointer (some ⟨B3, 0, none⟩), .pointer (some ⟨B, 0, none⟩)] W _
  by_cases h0 : y < v
  · by_cases h1 : e < x
    · rw [if_pos ⟨h0, h1⟩]
      go_enter Try.func59, Try.ntmps59
      go_wp2_with fail
      refine (HL.out _ (bnx hb0 hb)).mono ?_; rintro _ w1 ⟨rfl, hbn⟩; replace hcell := cnx hcell hbn; replace hcell3 := cnx hcell3 hbn; replace hcell4 := cnx hcell4 hbn; replace hB' := cnx hB' hbn; replace hB3' := cnx hB3' hbn; replace hB4' := cnx hB4' hbn; replace hb := bnx hb hbn; clear hbn
      go_wp2_with fail
      go_quiet (fail)
      go_wp2
      go_ret
      exact ⟨rfl, below_drewN' hb nq⟩
    · rw [if_neg (fun h => h1 h.2)]
      have h1' : decide (e < x) = false := by simpa using h1
      go_enter Try.func59, Try.ntmps59
      go_wp2_with fail
      refine (HL.out _ (bnx hb0 hb)).mono ?_; rintro _ w1 ⟨rfl, hbn⟩; replace hcell := cnx hcell hbn; replace hcell3 := cnx hcell3 hbn; replace hcell4 := cnx hcell4 hbn; replace hB' := cnx hB' hbn; replace hB3' := cnx hB3' hbn; replace hB4' := cnx hB4' hbn; replace hb := bnx hb hbn; clear hbn
      go_wp2_with fail
      go_quiet (fail)
      go_wp2
      go_ret
      exact ⟨rfl, below_drewN' hb nq⟩
  · rw [if_neg (fun h => h0 h.1)]
    have h0' : decide (y < v) = false := by simpa using h0
    go_enter Try.func59, Try.ntmps59
    go_wp2_with fail
    refine (HL.out _ (bnx hb0 hb)).mono ?_; rintro _ w1 ⟨rfl, hbn⟩; replace hcell := cnx hcell hbn; replace hcell3 := cnx hcell3 hbn; replace hcell4 := cnx hcell4 hbn; replace hB' := cnx hB' hbn; replace hB3' := cnx hB3' hbn; replace hB4' := cnx hB4' hbn; replace hb := bnx hb hbn; clear hbn
    go_wp2_with fail
    go_quiet (fail)
    go_wp2
    go_ret
    exact ⟨rfl, below_drewN' hb nq⟩

end Go.Proofs.Ytljadjoljhanfaa.Q16
