/- The logarithms that are kept: a map keyed by arrays of one number. -/
import Derived.Test.YtljadjoljhanfaaMd
import Derived.WalkKit
import Derived.WalkSpells
import Derived.WalkLawsBesides
import Derived.KernelRfl
import Derived.Deep.RegionHeld3
import Derived.Deep.LoopGhost
import Derived.Deep.AppendLies
import Derived.Laws.Rows
import Derived.Shelf.GgClosure.Gives
import Derived.Test.YtljadjoljhanfaaWWords
import Derived.Test.YtljadjoljhanfaaWLast
import Derived.Test.YtljadjoljhanfaaWMore
import Derived.Maps.OwnSet
import Derived.Maps.OwnOps
import Derived.DeepKeys4
import Derived.Test.YtljadjoljhanfaaMf
import Derived.Test.YtljadjoljhanfaaMe
import Derived.Test.YtljadjoljhanfaaMc
set_option linter.unusedVariables false
set_option linter.unusedSimpArgs false
namespace Go.Proofs.Ytljadjoljhanfaa.Q16
open Go.RowKit Go.Proofs.YtljadjoljhanfaaW.PrintWords Go.Proofs.YtljadjoljhanfaaW.PrintLast Go.Proofs.YtljadjoljhanfaaW.PrintMore
attribute [local go_sem] max2_int min2_int max_two min_two max_three min_three
open Go.Proofs.Ytljadjoljhanfaa.Q15
open Go.Maps (Keyed has)

theorem logsLaw : Keyed Try.prog 92 := Keyed.of_law (deep_law_laid (by kernel_rfl) (m := 2) (by omega) (of_decide_eq_true (by kernel_rfl)) (by kernel_rfl) (by kernel_rfl))
theorem logs_zero (w : World) : (zeroValue 3).run Try.prog w = .ok (.int .i64 0) w := by kernel_rfl

/-- The key of a number. -/
def keyN (n : Int) : Lit := .string (keyBytes [.int .i64 n])
theorem keyOf_one {n : Int} (h : (Lit.int .i64 n).wf = true) : keyOf Try.prog 92 (.agg #[.int .i64 n]) = some (keyN n) := by
  have hkt : Try.prog.keyType 92 = true := by kernel_rfl
  have hs : ∃ m, Try.prog.types.size = m + 1 := ⟨Try.prog.types.size - 1, by have : 0 < Try.prog.types.size := of_decide_eq_true (by kernel_rfl); omega⟩
  have hc : Try.prog.cellsOf 92 = 1 := by kernel_rfl
  have hc1 : Try.prog.cellsOf 3 = 1 := by kernel_rfl
  obtain ⟨m, hm⟩ := hs
  unfold keyOf
  simp only [Try.underlying92]
  rw [if_pos (by simp [hkt, Value.formed, Try.underlying92]; exact hc.symm), hm]
  unfold Program.keyLits
  simp only [Try.underlying92, Value.cells]
  rw [if_pos (by rw [hc]; rfl), show List.range 1 = [0] from rfl, List.mapM_cons, List.mapM_nil]
  simp [hc1, Program.keyLits, Try.underlying3, h, keyN]
theorem keyN_inj {a b : Int} (ha : (Lit.int .i64 a).wf = true) (hb : (Lit.int .i64 b).wf = true) (h : keyN a = keyN b) : a = b := by
  have := logsLaw.inj (keyOf_one ha) (by rw [h]; exact keyOf_one hb)
  injection this with h1
  injection h1 with h2
  injection h2 with h3
  injection h3

/-- What is kept is what was reckoned. -/
structure GoodL (D : DataW Unit) : Prop where
  map : Maps.IsMap D
  val : ∀ n v, (Lit.int .i64 n).wf = true → has D (keyN n) = true → D.atKey (keyN n) (.lit (.int .i64 0)) = .lit (.int .i64 v) → v = logI (n + 1)
theorem GoodL.empty : GoodL (.map []) := ⟨⟨_, rfl⟩, fun n v _ h _ => by simp [has] at h⟩
theorem GoodL.put {D : DataW Unit} (h : GoodL D) {n : Int} (hn : (Lit.int .i64 n).wf = true) : GoodL (D.put (keyN n) (.lit (.int .i64 (logI (n + 1))))) := by
  refine ⟨h.map.put _ _, fun m v hm hh hv => ?_⟩
  by_cases e : keyN m = keyN n
  · rw [e, Maps.atKey_put_same h.map (logsLaw.key (keyOf_one hn))] at hv
    cases keyN_inj hm hn e
    injection hv with hv
    injection hv with _ hv
    exact hv.symm
  · rw [Maps.has_put_other e] at hh
    rw [Maps.atKey_put_other e] at hv
    exact h.val m v hm hh hv

theorem cell_one_new' (w : World) (v : Value) (t : TypeId) : (w.alloc (.cells #[v] t)).cell? ⟨w.heap.size, 0, none⟩ = some v := by go_simp

theorem grown3 {w W W' w3 : World} {b : Nat} (h1 : w.grownBy W (some b)) (h2 : W.grownBy W' none) (h3 : W'.grownBy w3 (some b)) : w.grownBy w3 (some b) :=
  ⟨h3.os.trans (h2.os.trans h1.os), h3.tape.trans (h2.tape.trans h1.tape), h3.output.trans (h2.output.trans h1.output), Nat.le_trans h1.size (Nat.le_trans h2.size h3.size), fun k hk hne =>
    (h3.block k (Nat.lt_of_lt_of_le hk (Nat.le_trans h1.size h2.size)) hne).trans ((h2.block k (Nat.lt_of_lt_of_le hk h1.size) (by simp)).trans (h1.block k hk hne))⟩

set_option maxRecDepth 100000 in
set_option maxHeartbeats 1000000 in
theorem of_calls (b m : Nat) (D : DataW Unit) (n : Int) (w : World) (hown : w.ownsMap Try.prog 92 (plainElem Try.prog 3) b m D) (hm : m < 1000000) (hg : GoodL D) (h0 : 0 ≤ n) (h1 : n ≤ 2305843009213693952) :
    Calls Try.prog 89 #[.map (some b), .int .i64 n] w fun e w' => e = .returned (.int .i64 (logI (n + 1))) ∧ (∃ D' : DataW Unit, w'.ownsMap Try.prog 92 (plainElem Try.prog 3) b (m + 1) D' ∧ GoodL D') ∧ w.grownBy w' (some b) := by
  have hwf : (Lit.int .i64 n).wf = true := WalkArith.wf_i64 (by omega)
  have hkey := Aside0.mk (keyOf_one hwf)
  have hsum : IntKind.i64.wrap (n + 1) = n + 1 := IntWalk.i64_in _ (by omega)
  have hlb := logI_bd (n := n + 1) (by omega) (by omega)
  have HC := fun W => Log_calls (n + 1) W (by omega) (by omega)
  have HV := Aside0.mk (fun v => hg.val n v hwf)
  have HP := Aside0.mk (hg.put hwf)
  obtain ⟨z, hz⟩ : ∃ z, z = logI (n + 1) := ⟨_, rfl⟩
  rw [← hz] at HC HV HP hlb ⊢
  have hwz : Aside0 ((Lit.int .i64 z).wf = true) := ⟨WalkArith.wf_i64 (by omega)⟩
  replace HC := Aside0.mk HC
  have HG := Aside0.mk hg
  have HOWN1 := Aside0.mk (hown.alloc (.cells #[.int .i64 n] 92))
  have HGW : Aside0 (w.grownBy (w.alloc (.cells #[.int .i64 n] 92)) (some b)) := ⟨World.grownBy_alloc w _ _⟩
  have HM := Aside0.mk hm
  clear hg hz hlb hwf hown hm
  cases hB : has D (keyN n) with
  | true =>
    rw [hB] at HV
    go_enter Try.func89, Try.ntmps89
    go_wp2_with (first | (at_lookup; refine wpList_lookup_own_ok_int _ rfl _ _ 87 rfl 92 3 .i64 logsLaw Try.underlying87 Try.underlying3 (logs_zero _) b m D rfl HOWN1.out _ _ rfl hkey.out ?_; intro c hat hwc; rw [hB]; have HCV := Aside0.mk (HV.out c rfl hat); clear hat hwc hB))
    go_ret
    exact ⟨by rw [HCV.out]; rfl, ⟨D, HOWN1.out.mono (by omega), HG.out⟩, HGW.out⟩
  | false =>
    clear HV
    go_enter Try.func89, Try.ntmps89
    go_wp2_with (first | (at_lookup; refine wpList_lookup_own_ok_int _ rfl _ _ 87 rfl 92 3 .i64 logsLaw Try.underlying87 Try.underlying3 (logs_zero _) b m D rfl HOWN1.out _ _ rfl hkey.out ?_; intro c hat hwc; rw [hB]; obtain ⟨W, hW⟩ : ∃ W, W = w.alloc (.cells #[.int .i64 n] 92) := ⟨_, rfl⟩; rw [← hW] at HOWN1 HGW ⊢; have k1 : W.cell? ⟨w.heap.size, 0, none⟩ = some (.int .i64 n) := (by rw [hW]; exact cell_one_new' _ _ _); clear hat hwc hW hB) | (go_at_call 108; refine (HC.out _).mono ?_; rintro e w' ⟨rfl, hbn⟩; replace k1 := cnx k1 hbn; have HG1 : Aside0 (W.grownBy w' none) := ⟨⟨hbn.os, hbn.tape, hbn.output, hbn.size, fun k hk _ => hbn.block k hk⟩⟩; have HOWN2 := Aside0.mk (HOWN1.out.kept HG1.out (by simp)); clear hbn) | (at_mapUpdate; refine wpList_mapUpdate_own _ rfl _ _ _ 87 rfl 92 3 logsLaw Try.underlying87 _ b m D rfl HOWN2.out (by have := HM.out; unfold maxLen; omega) _ _ _ rfl rfl hkey.out _ [] (plainElem_int Try.underlying3 hwz.out) ?_; intro w3 hown3 hgrow3; have HOWN3 := Aside0.mk hown3; have HG3 := Aside0.mk hgrow3; clear hown3 hgrow3))
    go_ret
    exact ⟨rfl, ⟨_, HOWN3.out, HP.out⟩, grown3 HGW.out HG1.out HG3.out⟩

end Go.Proofs.Ytljadjoljhanfaa.Q16
/- What shape.excess returns. -/
namespace Go.Proofs.Ytljadjoljhanfaa.Q16
open Go.RowKit Go.Proofs.YtljadjoljhanfaaW.PrintWords Go.Proofs.YtljadjoljhanfaaW.PrintLast Go.Proofs.YtljadjoljhanfaaW.PrintMore
attribute [local go_sem] max2_int min2_int max_two min_two max_three min_three
open Go.Proofs.Ytljadjoljhanfaa.Q15

/-- The error of coefficients, widths, scales and limits. -/
def errX (c l s m : List Int) : Int := if formE c.length l [s.length, m.length] = 0 then if (rng (-2097152) 2097152 c && rng 0 95 s && rng 0 72057594037927936 m) = true then 0 else 6 else formE c.length l [s.length, m.length]
/-- How much the noise of a band is above its limit. -/
def exc (c l s m : List Int) (k : Nat) : Int := logI (noiseR (band c l k) (rd s k) + 1) - logI (rd m k + 1)

theorem lens_two {w : World} {B : Nat} {A A' : Option Addr} {n c n' c' : Nat} (h : w.cell? ⟨B, 0, none⟩ = some (.slice A n c)) (h2 : w.cell? ⟨B, 1, none⟩ = some (.slice A' n' c')) : Lens w B [n, n'] := fun j m hj => by
  match j with
  | 0 => cases hj; exact ⟨A, c, h⟩
  | 1 => cases hj; exact ⟨A', c', h2⟩
  | j + 2 => simp at hj
theorem formE_two {n m m' : Nat} {l : List Int} (h : formE n l [m, m'] = 0) : isW l = true ∧ n = 128 ∧ m = l.length ∧ m' = l.length := by
  unfold formE at h
  split at h
  · rename_i h0
    split at h
    · rename_i h1
      split at h
      · rename_i h2
        simp at h2
        exact ⟨h0, h1, h2.1, h2.2⟩
      · cases h
    · cases h
  · cases h
theorem errX_zero {c l s m : List Int} (h : errX c l s m = 0) : isW l = true ∧ c.length = 128 ∧ s.length = l.length ∧ m.length = l.length ∧ rng (-2097152) 2097152 c = true ∧ rng 0 95 s = true ∧ rng 0 72057594037927936 m = true ∧ formE c.length l [s.length, m.length] = 0 := by
  unfold errX at h
  split at h
  · rename_i h0
    split at h
    · rename_i h1
      obtain ⟨q0, q1, q2, q3⟩ := formE_two h0
      simp at h1
      exact ⟨q0, q1, q2, q3, h1.1.1, h1.1.2, h1.2, h0⟩
    · cases h
  · rename_i h0; exact absurd h h0

set_option maxRecDepth 100000 in
set_option maxHeartbeats 4000000 in
theorem excess_no (A0 A1 A2 A3 : Option Addr) (c0 c1 c2 c3 : Nat) (c l s m : List Int) (w : World) (hr0 : (Kd.int .i64).C w A0 c.length c) (hr1 : (Kd.int .i64).C w A1 l.length l) (hr2 : (Kd.int .i64).C w A2 s.length s) (hr3 : (Kd.int .i64).C w A3 m.length m) (b0 : c.length ≤ 1000000) (b1 : l.length ≤ 1000000) (b2 : s.length ≤ 1000000) (b3 : m.length ≤ 1000000)
    (he : errX c l s m ≠ 0) :
    Calls Try.prog 57 #[.slice A0 c.length c0, .slice A1 l.length c1, .slice A2 s.length c2, .slice A3 m.length c3] w fun e w' => e = .returned (.tuple #[.slice none 0 0, .int .i64 (errX c l s m)]) ∧ Below w.heap.size w w' := by
  have hb := Below.refl w.heap.size w
  have HF := fun (W : World) (hb : Below w.heap.size w W) B h => form_calls A0 A1 c.length c0 c1 2 l B [s.length, m.length] W (Kd.C_below hr1 hb) (by omega) (by omega) h (show 2 ≤ 1000000 by decide) (by simp; omega)
  have HC := fun (W : World) (hb : Below w.heap.size w W) => isCoefs_calls A0 c0 c W (Kd.C_below hr0 hb) (by omega)
  have HL := fun (W : World) (hb : Below w.heap.size w W) => isScales_calls A2 c2 s W (Kd.C_below hr2 hb) (by omega)
  have HM := fun (W : World) (hb : Below w.heap.size w W) => isLimits_calls A3 c3 m W (Kd.C_below hr3 hb) (by omega)
  unfold errX at he ⊢
  obtain ⟨E, hE⟩ : ∃ E, E = formE c.length l [s.length, m.length] := ⟨_, rfl⟩
  rw [← hE] at HF he ⊢
  replace HF := Aside0.mk HF
  clear hE hr0 hr1 hr2 hr3
  have hcb : (c.length : Int) ≤ 1000000 := by omega
  clear b0 b1 b2 b3
  by_cases h0 : E = 0
  · subst h0
    rw [if_pos rfl] at he ⊢
    obtain ⟨x1, hx1⟩ : ∃ x, x = rng (-2097152) 2097152 c := ⟨_, rfl⟩
    obtain ⟨x2, hx2⟩ : ∃ x, x = rng 0 95 s := ⟨_, rfl⟩
    obtain ⟨x3, hx3⟩ : ∃ x, x = rng 0 72057594037927936 m := ⟨_, rfl⟩
    rw [← hx1, ← hx2, ← hx3] at he ⊢
    rw [← hx1] at HC
    rw [← hx2] at HL
    rw [← hx3] at HM
    have hf : (x1 && x2 && x3) = false := by
      cases hxx : (x1 && x2 && x3) with
      | false => rfl
      | true => rw [hxx] at he; exact absurd rfl he
    rw [hf]
    rw [if_neg (by decide)]
    replace HC := Aside0.mk HC
    replace HL := Aside0.mk HL
    replace HM := Aside0.mk HM
    have hways : (x1 = false) ∨ (x1 = true ∧ x2 = false) ∨ (x1 = true ∧ x2 = true ∧ x3 = false) := by revert hf; cases x1 <;> cases x2 <;> cases x3 <;> simp
    clear hx1 hx2 hx3 he hf
    rcases hways with rfl | ⟨rfl, rfl⟩ | ⟨rfl, rfl, rfl⟩
    all_goals
      go_enter Try.func57, Try.ntmps57
      go_wp2_with fail
      obtain ⟨W, hW⟩ : ∃ W, W = w.alloc (.cells #[.slice A2 s.length c2, .slice A3 m.length c3] 22) := ⟨_, rfl⟩
      rw [← hW]
      have k1 : W.cell? ⟨w.heap.size, 0, none⟩ = some (.slice A2 s.length c2) := by rw [hW]; go_simp
      have k2 : W.cell? ⟨w.heap.size, 1, none⟩ = some (.slice A3 m.length c3) := by rw [hW]; go_simp
      replace hb : Below w.heap.size w W := by rw [hW]; exact hb.alloc hb.size _
      clear hW
      refine (HF.out W hb _ (lens_two k1 k2)).mono ?_; rintro _ w1 ⟨rfl, hbn⟩; replace hb := bnx hb hbn; clear hbn k1 k2
      go_wp2_with (first | (go_at_call 31; refine (HC.out _ hb).mono ?_; rintro e w' ⟨rfl, hbn⟩; replace hb := bnx hb hbn; clear hbn) | (go_at_call 44; refine (HL.out _ hb).mono ?_; rintro e w' ⟨rfl, hbn⟩; replace hb := bnx hb hbn; clear hbn) | (go_at_call 32; refine (HM.out _ hb).mono ?_; rintro e w' ⟨rfl, hbn⟩; replace hb := bnx hb hbn; clear hbn))
      go_ret2
      exact ⟨rfl, hb⟩
  · rw [if_neg h0] at he ⊢
    clear HC HL HM
    go_enter Try.func57, Try.ntmps57
    go_wp2_with fail
    obtain ⟨W, hW⟩ : ∃ W, W = w.alloc (.cells #[.slice A2 s.length c2, .slice A3 m.length c3] 22) := ⟨_, rfl⟩
    rw [← hW]
    have k1 : W.cell? ⟨w.heap.size, 0, none⟩ = some (.slice A2 s.length c2) := by rw [hW]; go_simp
    have k2 : W.cell? ⟨w.heap.size, 1, none⟩ = some (.slice A3 m.length c3) := by rw [hW]; go_simp
    replace hb : Below w.heap.size w W := by rw [hW]; exact hb.alloc hb.size _
    clear hW
    refine (HF.out W hb _ (lens_two k1 k2)).mono ?_; rintro _ w1 ⟨rfl, hbn⟩; replace hb := bnx hb hbn; clear hbn k1 k2
    have h0' : (E != 0) = true := bne_iff_ne.2 h0
    go_wp2_with fail
    go_ret2
    exact ⟨rfl, hb⟩

end Go.Proofs.Ytljadjoljhanfaa.Q16
/- What shape.excess returns: of bands with scales and limits. -/
namespace Go.Proofs.Ytljadjoljhanfaa.Q16
open Go.RowKit Go.Proofs.YtljadjoljhanfaaW.PrintWords Go.Proofs.YtljadjoljhanfaaW.PrintLast Go.Proofs.YtljadjoljhanfaaW.PrintMore
attribute [local go_sem] max2_int min2_int max_two min_two max_three min_three
open Go.Proofs.Ytljadjoljhanfaa.Q15

theorem map_apart {w : World} {P : Program} {k : TypeId} {R : Value → Option (DataW Unit × List MemPlace)} {b n : Nat} {D : DataW Unit} (h : w.ownsMap P k R b n D) {a : Addr} {v : Value} (hc : w.cell? a = some v) : some a.block ≠ some b := by
  intro e
  injection e with e
  obtain ⟨es, clock, hb, _⟩ := h
  unfold World.cell? at hc
  rw [e, hb] at hc
  cases hc
theorem grown_app {w2 W w1 : World} {b : Nat} {row : Option Nat} (h1 : w2.grownBy W (some b)) (h2 : W.grownBy w1 row) (hr : ∀ k, row = some k → w2.heap.size ≤ k) : w2.grownBy w1 (some b) :=
  ⟨h2.os.trans h1.os, h2.tape.trans h1.tape, h2.output.trans h1.output, Nat.le_trans h1.size h2.size, fun k hk hne => (h2.block k (Nat.lt_of_lt_of_le hk h1.size) (fun e => by have := hr k e.symm; omega)).trans (h1.block k hk hne)⟩
theorem grown_two {w2 W w1 : World} {b : Nat} (h1 : w2.grownBy W (some b)) (h2 : W.grownBy w1 (some b)) : w2.grownBy w1 (some b) :=
  ⟨h2.os.trans h1.os, h2.tape.trans h1.tape, h2.output.trans h1.output, Nat.le_trans h1.size h2.size, fun k hk hne => (h2.block k (Nat.lt_of_lt_of_le hk h1.size) hne).trans (h1.block k hk hne)⟩
theorem grown_drew (w : World) (b : Nat) : w.grownBy w.drew (some b) := ⟨rfl, rfl, rfl, Nat.le_refl _, fun _ _ _ => rfl⟩
theorem below_of_grown {w w2 W : World} {b : Nat} (h : Below w.heap.size w w2) (hg : w2.grownBy W (some b)) (hb : w.heap.size ≤ b) : Below w.heap.size w W := h.grown hg h.size (fun k hk => by cases hk; exact hb)
theorem map_obj {w : World} {P : Program} {k : TypeId} {R : Value → Option (DataW Unit × List MemPlace)} {b n : Nat} {D : DataW Unit} (h : w.ownsMap P k R b n D) : ∃ o : Obj, w.heap[b]? = some o ∧ o.isCells = false := by
  obtain ⟨es, clock, hb, _⟩ := h
  exact ⟨_, hb, rfl⟩
theorem rd_range (f : Nat → Int) (n k : Nat) (h : k < n) : rd ((List.range n).map f) k = f k := by
  unfold rd
  simp [List.getD_eq_getElem?_getD, h]

set_option maxRecDepth 100000 in
set_option maxHeartbeats 4000000 in
theorem excess_yes (A0 A1 A2 A3 : Option Addr) (c0 c1 c2 c3 : Nat) (c l s m : List Int) (w : World) (hr0 : (Kd.int .i64).C w A0 c.length c) (hr1 : (Kd.int .i64).C w A1 l.length l) (hr2 : (Kd.int .i64).C w A2 s.length s) (hr3 : (Kd.int .i64).C w A3 m.length m) (hc0 : c.length ≤ c0) (hc9 : c0 ≤ 9223372036854775807)
    (he : errX c l s m = 0) :
    Calls Try.prog 57 #[.slice A0 c.length c0, .slice A1 l.length c1, .slice A2 s.length c2, .slice A3 m.length c3] w fun e w' => ∃ v, e = .returned (.tuple #[v, .int .i64 0]) ∧ (Kd.int .i64).R 3 w' w.heap.size (fun _ => True) v ((List.range l.length).map (exc c l s m)) ∧ Below w.heap.size w w' := by
  obtain ⟨g0, g1, g2, g6, g3, g4, g7, g5⟩ := errX_zero he
  have hl32 := (isW_iff.1 g0).2.2
  have hb := Below.refl w.heap.size w
  obtain ⟨a, rfl⟩ : ∃ a, A0 = some a := by
    obtain ⟨_, _, h⟩ := hr0
    obtain ⟨a, e, _⟩ := h (by omega)
    exact ⟨a, e⟩
  have HF := fun (W : World) (hb : Below w.heap.size w W) B h => form_calls (some a) A1 c.length c0 c1 2 l B [s.length, m.length] W (Kd.C_below hr1 hb) (by omega) (by omega) h (show 2 ≤ 1000000 by decide) (by simp; omega)
  have HC := fun (W : World) (hb : Below w.heap.size w W) => isCoefs_calls (some a) c0 c W (Kd.C_below hr0 hb) (by omega)
  have HL := fun (W : World) (hb : Below w.heap.size w W) => isScales_calls A2 c2 s W (Kd.C_below hr2 hb) (by omega)
  have HM := fun (W : World) (hb : Below w.heap.size w W) => isLimits_calls A3 c3 m W (Kd.C_below hr3 hb) (by omega)
  have HE := fun (W : World) (hb : Below w.heap.size w W) => noises_calls (Kd.C_below hr0 hb) g1 hc0 hc9 g0 (Kd.C_below hr1 hb) (cap1 := c1) (Kd.C_below hr2 hb) (cap2 := c2) g2
  have HS := fun (W : World) (hb : Below w.heap.size w W) (k : Nat) (hk : k < l.length) => el_at hr3 hb (show k < m.length by omega)
  have HMB : ∀ k, k < l.length → 0 ≤ rd m k ∧ rd m k ≤ 72057594037927936 := fun k hk => rng_mem g7 (rd_mem m k (by omega))
  have HNB : ∀ k, k < l.length → 0 ≤ noiseR (band c l k) (rd s k) ∧ noiseR (band c l k) (rd s k) ≤ 1152921504606846976 := fun k hk => by
    have hsk := rng_mem g4 (rd_mem s k (by omega))
    unfold noiseR
    rw [if_pos (chk_band g3 g0 g1 hk hsk)]
    have h := noiseI_bd (x := stepI (rd s k)) (by have := stepI_bd hsk.1 hsk.2; omega) (band c l k) (fun n hn => rng_mem g3 (List.mem_of_mem_drop (List.mem_of_mem_take hn)))
    have h2 := band_len g1 g0 hk
    have := off_next g0 hk
    omega
  rw [g5, g1] at HF
  rw [g3, g1] at HC
  rw [g4] at HL
  rw [g7] at HM
  rw [g1] at HE
  rw [g1]
  obtain ⟨z, hz⟩ : ∃ z : Nat → Int, z = fun k => noiseR (band c l k) (rd s k) := ⟨_, rfl⟩
  rw [← hz] at HE
  have HZB : Aside0 (∀ k, k < l.length → 0 ≤ z k ∧ z k ≤ 1152921504606846976) := ⟨fun k hk => by rw [hz]; exact HNB k hk⟩
  obtain ⟨r, hre⟩ : ∃ r, r = exc c l s m := ⟨_, rfl⟩
  have HRV : Aside0 (∀ k, r k = logI (z k + 1) - logI (rd m k + 1)) := ⟨fun k => by rw [hre, hz]; rfl⟩
  rw [← hre]
  replace HF := Aside0.mk HF
  replace HC := Aside0.mk HC
  replace HL := Aside0.mk HL
  replace HM := Aside0.mk HM
  replace HE := Aside0.mk HE
  replace HS := Aside0.mk HS
  replace HMB := Aside0.mk HMB
  have hml : (l.length : Int) ≤ (m.length : Int) := by omega
  have hlI : (l.length : Int) ≤ 32 := by omega
  have hmo : Try.prog.follows .mixedOrders = true := by kernel_rfl
  have HMO := Aside0.mk hmo
  have hmm := @run_makeMap Try.prog
  clear hr0 hr1 hr2 hr3 hre hz HNB g0 g1 g2 g3 g4 g5 g6 g7 he hc0 hc9 hl32 hmo
  go_enter Try.func57, Try.ntmps57
  go_wp2_with fail
  obtain ⟨W, hW⟩ : ∃ W, W = w.alloc (.cells #[.slice A2 s.length c2, .slice A3 m.length c3] 22) := ⟨_, rfl⟩
  rw [← hW]
  have k1 : W.cell? ⟨w.heap.size, 0, none⟩ = some (.slice A2 s.length c2) := by rw [hW]; go_simp
  have k2 : W.cell? ⟨w.heap.size, 1, none⟩ = some (.slice A3 m.length c3) := by rw [hW]; go_simp
  replace hb : Below w.heap.size w W := by rw [hW]; exact hb.alloc hb.size _
  clear hW
  refine (HF.out W hb _ (lens_two k1 k2)).mono ?_; rintro _ w1 ⟨rfl, hbn⟩; replace hb := bnx hb hbn; clear hbn k1 k2
  go_wp2_with fail
  refine (HC.out _ hb).mono ?_; rintro _ w3 ⟨rfl, hbn⟩; replace hb := bnx hb hbn; clear hbn
  go_wp2_with fail
  refine (HL.out _ hb).mono ?_; rintro _ w4 ⟨rfl, hbn⟩; replace hb := bnx hb hbn; clear hbn
  go_wp2_with fail
  refine (HM.out _ hb).mono ?_; rintro _ w5 ⟨rfl, hbn⟩; replace hb := bnx hb hbn; clear hbn
  go_wp2_with fail
  obtain ⟨b, hbe⟩ : ∃ b, b = w5.heap.size := ⟨_, rfl⟩
  have hwb : Aside0 (w.heap.size ≤ b) := ⟨by rw [hbe]; exact hb.size⟩
  have hown0 : (w5.alloc (.map #[] 0)).ownsMap Try.prog 92 (plainElem (H := Unit) Try.prog 3) b 0 (.map []) := by rw [hbe]; exact World.ownsMap_made _ _ _ _
  have hb6 : Below w.heap.size w (w5.alloc (.map #[] 0)) := hb.alloc hb.size _
  rw [← hbe]
  obtain ⟨W6, hW6⟩ : ∃ W, W = w5.alloc (.map #[] 0) := ⟨_, rfl⟩
  rw [← hW6] at hown0 hb6 ⊢
  clear hbe hW6 hb
  refine (HE.out W6 hb6).mono ?_; rintro _ w2 ⟨N, rfl, hR, hbn⟩
  have hownM : Aside0 (∃ D : DataW Unit, w2.ownsMap Try.prog 92 (plainElem Try.prog 3) b 0 D ∧ GoodL D) := ⟨⟨_, hown0.kept (row := none) ⟨hbn.os, hbn.tape, hbn.output, hbn.size, fun k hk _ => hbn.block k hk⟩ (by simp), GoodL.empty⟩⟩
  have hb := bnx hb6 hbn
  obtain ⟨A5, p5, rfl, _, hCN⟩ := Kd.R_reads hR
  rw [List.length_map, List.length_range] at hCN ⊢
  have HCN := Aside0.mk (fun (k : Nat) (hk : k < l.length) => by
    have h := el_at (w1 := w2) (l := (List.range l.length).map z) (by rw [List.length_map, List.length_range]; exact hCN) (Below.refl _ _) (k := k) (by rw [List.length_map, List.length_range]; exact hk)
    rw [rd_range z l.length k hk] at h
    exact h)
  have hblt : Aside0 (b < w2.heap.size) := ⟨hownM.out.choose_spec.1.lt⟩
  clear hR hbn hCN hown0 hb6 HE HM HL HC HF
  go_wp2_with fail
  go_loopw [12, 43] (fun o i wr => ∃ k : Nat, i = .int .i64 k ∧ k ≤ l.length ∧ Aside0 ((Kd.int .i64).R 3 wr w2.heap.size (fun _ => True) o ((List.range k).map r)) ∧ Aside0 (∃ D : DataW Unit, wr.ownsMap Try.prog 92 (plainElem Try.prog 3) b (2 * k) D ∧ GoodL D) ∧ Aside0 (w2.grownBy wr (some b))) (fun _ i _ => l.length - (intOf i).toNat)
  case atStart => exact ⟨0, rfl, by omega, ⟨Kd.R_nil _ _ _ _ _⟩, hownM, ⟨⟨rfl, rfl, rfl, Nat.le_refl _, fun _ _ _ => rfl⟩⟩⟩
  case round =>
    obtain ⟨k, rfl, hk, ho, hM, hG⟩ := hrel
    by_cases hlt : k < l.length
    · obtain ⟨ad, rfl, hcN⟩ := HCN.out k hlt
      have hbr := below_of_grown hb hG.out hwb.out
      obtain ⟨ad3, rfl, hcM⟩ := HS.out wr hbr k hlt
      have hblk : Aside0 ((ad3.add k).block < w2.heap.size) := ⟨by
        obtain ⟨ad4, e4, h4⟩ := HS.out w (Below.refl _ _) k hlt
        cases e4
        exact Nat.lt_of_lt_of_le (World.block_lt_of_cell? w _ h4) hb.size⟩
      obtain ⟨D, hown, hgood⟩ := hM.out
      have hcN2 := hG.out.cell hcN (map_apart hownM.out.choose_spec.1 hcN)
      have hkI : (k : Int) < (l.length : Int) := by omega
      have hks : (k : Int) < (m.length : Int) := by omega
      have HT : Aside0 ((List.range (k + 1)).map r = (List.range k).map r ++ [r k]) := ⟨by rw [List.range_succ, List.map_append]; rfl⟩
      have hzb := HZB.out k hlt
      have hyb := HMB.out k hlt
      have hrv := HRV.out k
      obtain ⟨q, hq⟩ : ∃ q, q = (List.range k).map r := ⟨_, rfl⟩
      have hql : q.length ≤ 32 := by rw [hq]; simp; omega
      rw [← hq] at ho HT
      obtain ⟨v, hv⟩ : ∃ v, v = r k := ⟨_, rfl⟩
      rw [← hv] at HT hrv
      obtain ⟨x, hx⟩ : ∃ x, x = z k := ⟨_, rfl⟩
      rw [← hx] at hcN hcN2 hzb hrv
      obtain ⟨y, hy⟩ : ∃ y, y = rd m k := ⟨_, rfl⟩
      rw [← hy] at hcM hyb hrv
      have l1 := logI_bd (n := x + 1) (by omega) (by omega)
      have l2 := logI_bd (n := y + 1) (by omega) (by omega)
      have HOF1 := fun (j : Nat) (hj : j < 1000000) (D : DataW Unit) (W : World) (ho : W.ownsMap Try.prog 92 (plainElem Try.prog 3) b j D) (hg : GoodL D) => of_calls b j D x W ho hj hg (by omega) (by omega)
      have HOF2 := fun (j : Nat) (hj : j < 1000000) (D : DataW Unit) (W : World) (ho : W.ownsMap Try.prog 92 (plainElem Try.prog 3) b j D) (hg : GoodL D) => of_calls b j D y W ho hj hg (by omega) (by omega)
      obtain ⟨lx, hlx⟩ : ∃ lx, lx = logI (x + 1) := ⟨_, rfl⟩
      rw [← hlx] at l1 hrv HOF1
      obtain ⟨ly, hly⟩ : ∃ ly, ly = logI (y + 1) := ⟨_, rfl⟩
      rw [← hly] at l2 hrv HOF2
      have hsum : IntKind.i64.wrap (lx - ly) = v := by rw [hrv]; exact IntWalk.i64_in _ (by omega)
      have hk6 : Aside0 (2 * k < 100) := ⟨by omega⟩
      replace HOF1 := Aside0.mk HOF1
      replace HOF2 := Aside0.mk HOF2
      have HOWN := Aside0.mk hown
      have HGOOD := Aside0.mk hgood
      have hs0 := hG.out.size
      replace hrv := Aside0.mk hrv
      clear hq hv hx hy hcN hzb hyb l1 l2 hlx hly hown hgood hM hbr
      have hmb := Aside0.mk (map_apart HOWN.out hcM)
      go_wp2_with fail
      refine wp_region_last_drew (S := fun w' => w'.cell? (ad3.add k) = some (.int .i64 y)) (ds := [13]) HMO.out hcM (fun hHeld => ?_)
      (refine wpAnyLast_take (i := 0) (v := u12) rfl (by kernel_rfl) (by kernel_rfl) (by kernel_rfl) (by kernel_rfl) (by kernel_rfl) (fun _ _ _ h => h) (Or.inl ⟨by rfl, fun wS hS => by (try dsimp only at hS); go_simp⟩) hHeld ?_; simp only [Act.put, List.setIfInBounds_toArray, List.set_cons_zero, List.set_cons_succ])
      (refine wpAnyLast_take (i := 1) (v := .map (some b)) rfl (by kernel_rfl) (by kernel_rfl) (by kernel_rfl) (by kernel_rfl) (by kernel_rfl) (fun _ _ _ h => h) (Or.inl ⟨by rfl, fun wS hS => by (try dsimp only at hS); go_simp⟩) hHeld ?_; simp only [Act.put, List.setIfInBounds_toArray, List.set_cons_zero, List.set_cons_succ])
      (refine wpAnyLast_take (i := 2) (v := .int .i64 x) rfl (by kernel_rfl) (by kernel_rfl) (by kernel_rfl) (by kernel_rfl) (by kernel_rfl) (fun _ _ _ h => h) (Or.inl ⟨by rfl, fun wS hS => by (try dsimp only at hS); go_simp⟩) hHeld ?_; simp only [Act.put, List.setIfInBounds_toArray, List.set_cons_zero, List.set_cons_succ])
      (refine wpAnyLast_take (i := 4) (v := .map (some b)) rfl (by kernel_rfl) (by kernel_rfl) (by kernel_rfl) (by kernel_rfl) (by kernel_rfl) (fun _ _ _ h => h) (Or.inl ⟨by rfl, fun wS hS => by (try dsimp only at hS); go_simp⟩) hHeld ?_; simp only [Act.put, List.setIfInBounds_toArray, List.set_cons_zero, List.set_cons_succ])
      (refine wpAnyLast_take (i := 5) (v := .slice (some ad3) m.length c3) rfl (by kernel_rfl) (by kernel_rfl) (by kernel_rfl) (by kernel_rfl) (by kernel_rfl) (fun _ _ _ h => h) (Or.inl ⟨by rfl, fun wS hS => by (try dsimp only at hS); go_simp⟩) hHeld ?_; simp only [Act.put, List.setIfInBounds_toArray, List.set_cons_zero, List.set_cons_succ])
      (refine wpAnyLast_take (i := 6) (v := .int .i64 k) rfl (by kernel_rfl) (by kernel_rfl) (by kernel_rfl) (by kernel_rfl) (by kernel_rfl) (fun _ _ _ h => h) (Or.inl ⟨by rfl, fun wS hS => by (try dsimp only at hS); go_simp⟩) hHeld ?_; simp only [Act.put, List.setIfInBounds_toArray, List.set_cons_zero, List.set_cons_succ])
      (refine wpAnyLast_take (i := 7) (v := .pointer (some (ad3.add k))) rfl (by kernel_rfl) (by kernel_rfl) (by kernel_rfl) (by kernel_rfl) (by kernel_rfl) (fun _ _ _ h => h) (Or.inl ⟨by rfl, fun wS hS => by (try dsimp only at hS); go_simp⟩) hHeld ?_; simp only [Act.put, List.setIfInBounds_toArray, List.set_cons_zero, List.set_cons_succ])
      (refine wpAnyLast_take (i := 8) (v := .int .i64 y) rfl (by kernel_rfl) (by kernel_rfl) (by kernel_rfl) (by kernel_rfl) (by kernel_rfl) (fun _ _ _ h => h) (Or.inl ⟨by rfl, fun wS hS => by (try dsimp only at hS); go_simp⟩) hHeld ?_; simp only [Act.put, List.setIfInBounds_toArray, List.set_cons_zero, List.set_cons_succ])
      (refine wpAnyLast_ready (rs := [3]) (by kernel_rfl) (by simp) ?_; refine AllReadyL.cons rfl (by decide) (fun K hK => ?_) AllReadyL.nil)
      go_simp
      refine (HOF1.out (2 * k) (by have := hk6.out; omega) D wr.drew HOWN.out.drew HGOOD.out).mono ?_
      rintro e w7 ⟨rfl, ⟨D1, ho1, hg1⟩, hgr1⟩
      have hR7 := R_turn (W := wr.drew) ho.out hgr1 (fun r e => by cases e; exact map_obj HOWN.out)
      have hG7 := grown_two (W := wr.drew) ⟨hG.out.os, hG.out.tape, hG.out.output, hG.out.size, hG.out.block⟩ hgr1
      have hHeld7 := hgr1.cell hHeld hmb.out
      clear hgr1
      (go_wp2_with fail; refine hK.out _ _ (hHeld7) (fun hHeld => ?_); clear hK K; try simp only [Act.put, List.setIfInBounds_toArray, List.set_cons_zero, List.set_cons_succ])
      (refine wpAnyLast_ready (rs := [9]) (by kernel_rfl) (by simp) ?_; refine AllReadyL.cons rfl (by decide) (fun K hK => ?_) AllReadyL.nil)
      go_simp
      refine (HOF2.out (2 * k + 1) (by have := hk6.out; omega) D1 _ ho1 hg1).mono ?_
      rintro e w8 ⟨rfl, ⟨D2, ho2, hg2⟩, hgr2⟩
      have hR8 := R_turn hR7 hgr2 (fun r e => by cases e; exact map_obj ho1)
      have hG8 := grown_two hG7 hgr2
      have hHeld8 := hgr2.cell hHeld hmb.out
      clear hgr2 hR7 hG7 ho1 hg1
      (go_wp2_with fail; refine hK.out _ _ (hHeld8) (fun hHeld => ?_); clear hK K; try simp only [Act.put, List.setIfInBounds_toArray, List.set_cons_zero, List.set_cons_succ])
      (refine wpAnyLast_ready (rs := [10]) (by kernel_rfl) (by simp) ?_; refine AllReadyL.cons rfl (by decide) (fun K hK => ?_) AllReadyL.nil)
      go_simp
      (go_wp2_with fail; refine hK.out _ _ (hHeld) (fun hHeld => ?_); clear hK K; try simp only [Act.put, List.setIfInBounds_toArray, List.set_cons_zero, List.set_cons_succ])
      (refine wpAnyLast_ready (rs := [11]) (by kernel_rfl) (by simp) ?_; refine AllReadyL.cons rfl (by decide) (fun K hK => ?_) AllReadyL.nil)
      go_simp
      (go_wp2_with fail; refine hK.out _ _ (cell_alloc_l _ hHeld) (fun hHeld => ?_); clear hK K; try simp only [Act.put, List.setIfInBounds_toArray, List.set_cons_zero, List.set_cons_succ])
      (refine wpAnyLast_ready (rs := [12]) (by kernel_rfl) (by simp) ?_; refine AllReadyL.cons rfl (by decide) (fun K hK => ?_) AllReadyL.nil)
      refine Kd.R_append_step (Kd.int .i64) (w0 := w8) w2.heap.size rfl (.tmp 48) (.tmp 59) 22 3 (.int .i64 0) 8 rfl Try.underlying22 info_int rfl (by decide) (by decide) u12 q v [.int .i64 v] (fun _ => True) (fun _ => False) rfl rfl rfl (fun _ hk => hk.elim) (fun _ _ => trivial) hR8 (Below.refl _ _) hG8.size (by omega) ?_
      intro v1 w9 hR9 hB9 hg9 hat9
      have hbase : ∀ k, u12.ownBlock = some k → w2.heap.size ≤ k := fun k hk => ((Kd.R_bound hR8).1 k hk).2.1
      have hG9 := Aside0.mk (grown_app hG8 hg9 hbase)
      have hM9 : Aside0 (∃ D : DataW Unit, w9.ownsMap Try.prog 92 (plainElem Try.prog 3) b (2 * k + 1 + 1) D ∧ GoodL D) := ⟨D2, ho2.kept hg9 (fun e => by have := hbase b e.symm; have := hblt.out; omega), hg2⟩
      replace hR9 := Aside0.mk hR9
      have hHeld9 := hg9.cell hHeld8 (fun e => by have := hbase _ e.symm; have := hblk.out; omega)
      clear hB9 hg9 hat9 hbase hG8 hR8 ho2 hg2 hHeld8 hHeld
      (go_wp2_with fail; refine hK.out _ _ (hHeld9) (fun hHeld => ?_); clear hK K; try simp only [Act.put, List.setIfInBounds_toArray, List.set_cons_zero, List.set_cons_succ])
      (refine wpAnyLast_ready (rs := [13]) (by kernel_rfl) (by simp) ?_; refine AllReadyL.cons_last rfl (by decide) (fun K hK => ?_) AllReadyL.nil)
      go_simp
      go_wp2_with fail
      refine hK.out _ _ ?_
      clear hK K
      try simp only [Act.put, List.setIfInBounds_toArray, List.set_cons_zero, List.set_cons_succ]
      refine wpAnyLast_done (by kernel_rfl) ?_ _
      go_wp2_with fail
      go_roundw
      case rel => exact ⟨k + 1, by go_num, by omega, ⟨by rw [HT.out]; exact hR9.out⟩, hM9, hG9⟩
      case measure => simp [intOf]; omega
    · obtain rfl : k = l.length := by omega
      go_wp2
      go_ret2
      exact ⟨_, rfl, Kd.R_lower ho.out hb.size, below_of_grown hb hG.out hwb.out⟩

end Go.Proofs.Ytljadjoljhanfaa.Q16
/- What shape's Over and Worst return. -/
namespace Go.Proofs.Ytljadjoljhanfaa.Q16
open Go.Proofs.Ytljadjoljhanfaa.Q15
open Go.RowKit Go.Proofs.YtljadjoljhanfaaW.PrintWords Go.Proofs.YtljadjoljhanfaaW.PrintLast Go.Proofs.YtljadjoljhanfaaW.PrintMore
attribute [local go_sem] max2_max min2_min max_two min_two max_three min_three

/-- The sum of what is above, of the first k bands. -/
def overT (x : List Int) : Nat → Int
  | 0 => 0
  | k + 1 => overT x k + max (rd x k) 0
/-- The band with the greatest excess, of the first k. -/
def worstT (x : List Int) : Nat → Int
  | 0 => 0
  | k + 1 => if rd x (worstT x k) < rd x k then k else worstT x k
theorem overT_bd {x : List Int} (h : ∀ n ∈ x, -100000 ≤ n ∧ n ≤ 100000) : ∀ k, k ≤ x.length → 0 ≤ overT x k ∧ overT x k ≤ k * 100000
  | 0, _ => by simp [overT]
  | k + 1, hk => by
    have h1 := overT_bd h k (by omega)
    have h2 := h _ (rd_mem x k (by omega))
    unfold overT
    omega
theorem worstT_bd (x : List Int) : ∀ k, 0 ≤ worstT x k ∧ (worstT x k < k ∨ (worstT x k = 0 ∧ k = 0))
  | 0 => by simp [worstT]
  | k + 1 => by
    have h1 := worstT_bd x k
    unfold worstT
    split <;> omega
theorem exc_bd {c l s m : List Int} (he : errX c l s m = 0) : ∀ n ∈ (List.range l.length).map (exc c l s m), -100000 ≤ n ∧ n ≤ 100000 := fun n hn => by
  obtain ⟨g0, g1, g2, g6, g3, g4, g7, g5⟩ := errX_zero he
  have hl32 := (isW_iff.1 g0).2.2
  obtain ⟨k, hk, rfl⟩ := List.mem_map.1 hn
  replace hk := List.mem_range.1 hk
  have hsk := rng_mem g4 (rd_mem s k (by omega))
  have hmk := rng_mem g7 (rd_mem m k (by omega))
  have hnb : 0 ≤ noiseR (band c l k) (rd s k) ∧ noiseR (band c l k) (rd s k) ≤ 1152921504606846976 := by
    unfold noiseR
    rw [if_pos (chk_band g3 g0 g1 hk hsk)]
    have h := noiseI_bd (x := stepI (rd s k)) (by have := stepI_bd hsk.1 hsk.2; omega) (band c l k) (fun n hn => rng_mem g3 (List.mem_of_mem_drop (List.mem_of_mem_take hn)))
    have h2 := band_len g1 g0 hk
    have := off_next g0 hk
    omega
  have l1 := logI_bd (n := noiseR (band c l k) (rd s k) + 1) (by omega) (by omega)
  have l2 := logI_bd (n := rd m k + 1) (by omega) (by omega)
  unfold exc
  omega

/-- The numbers of what is above. -/
def excs (c l s m : List Int) : List Int := (List.range l.length).map (exc c l s m)
theorem excs_len (c l s m : List Int) : (excs c l s m).length = l.length := by unfold excs; rw [List.length_map, List.length_range]
def overR (c l s m : List Int) : Int := if errX c l s m = 0 then overT (excs c l s m) l.length else 0
def worstR (c l s m : List Int) : Int := if errX c l s m = 0 then worstT (excs c l s m) l.length else 0

set_option maxRecDepth 100000 in
set_option maxHeartbeats 1000000 in
theorem Over_calls (A0 A1 A2 A3 : Option Addr) (c0 c1 c2 c3 : Nat) (c l s m : List Int) (w : World) (hr0 : (Kd.int .i64).C w A0 c.length c) (hr1 : (Kd.int .i64).C w A1 l.length l) (hr2 : (Kd.int .i64).C w A2 s.length s) (hr3 : (Kd.int .i64).C w A3 m.length m) (b0 : c.length ≤ 1000000) (b1 : l.length ≤ 1000000) (b2 : s.length ≤ 1000000) (b3 : m.length ≤ 1000000) (hc0 : c.length ≤ c0) (hc9 : c0 ≤ 9223372036854775807) :
    Calls Try.prog 20 #[.slice A0 c.length c0, .slice A1 l.length c1, .slice A2 s.length c2, .slice A3 m.length c3] w fun e w' => e = .returned (.tuple #[.int .i64 (overR c l s m), .int .i64 (errX c l s m)]) ∧ Below w.heap.size w w' := by
  have hb := Below.refl w.heap.size w
  unfold overR
  by_cases he : errX c l s m = 0
  · have HE := excess_yes A0 A1 A2 A3 c0 c1 c2 c3 c l s m w hr0 hr1 hr2 hr3 hc0 hc9 he
    have hbd := exc_bd he
    have hll := (isW_iff.1 (errX_zero he).1).2.2
    rw [if_pos he, he]
    have hlen := excs_len c l s m
    change ∀ n ∈ excs c l s m, _ at hbd
    obtain ⟨x, hx⟩ : ∃ x, x = excs c l s m := ⟨_, rfl⟩
    change Calls _ _ _ _ (fun e w' => ∃ v, _ ∧ (Kd.int .i64).R _ w' _ _ v (excs c l s m) ∧ _) at HE
    rw [← hx] at HE hbd hlen ⊢
    rw [show overT x l.length = overT x x.length by rw [hlen]]
    rw [← hlen] at hll
    have hxI : (x.length : Int) ≤ 32 := by omega
    have HBD := Aside0.mk (overT_bd hbd)
    have HBX := Aside0.mk (fun (k : Nat) (hk : k < x.length) => hbd _ (rd_mem x k hk))
    obtain ⟨X, hX⟩ : ∃ X, X = x.length := ⟨_, rfl⟩
    replace HE := Aside0.mk HE
    replace hlen := Aside0.mk hlen
    clear hr0 hr1 hr2 hr3 b0 b1 b2 b3 hc0 hc9 he hx hbd hll hX X
    go_enter Try.func20, Try.ntmps20
    go_wp2_with fail
    refine HE.out.mono ?_; rintro _ w1 ⟨v, rfl, hR, hbn⟩; replace hb := bnx hb hbn
    obtain ⟨A5, p5, rfl, _, hC⟩ := Kd.R_reads hR
    have HC := Aside0.mk hC
    clear hC hR hbn HE
    go_wp2
    go_loopw [12, 28] (fun o i wr => ∃ k : Nat, i = .int .i64 k ∧ k ≤ x.length ∧ o = .int .i64 (overT x k) ∧ Below w1.heap.size w1 wr) (fun _ i _ => x.length - (intOf i).toNat)
    case atStart => exact ⟨0, rfl, by omega, rfl, Below.refl _ _⟩
    case round =>
      obtain ⟨k, rfl, hk, rfl, hbL⟩ := hrel
      by_cases hlt : k < x.length
      · obtain ⟨ad, rfl, hcell⟩ := el_at HC.out hbL hlt
        have hkI : (k : Int) < (x.length : Int) := by omega
        have h1 := HBD.out k hk
        have h2 := HBX.out k hlt
        have hT : Aside0 (overT x (k + 1) = overT x k + max (rd x k) 0) := ⟨rfl⟩
        obtain ⟨y, hy⟩ : ∃ y, y = rd x k := ⟨_, rfl⟩
        rw [← hy] at hcell h2 hT
        obtain ⟨o, ho⟩ : ∃ o, o = overT x k := ⟨_, rfl⟩
        rw [← ho] at h1 hT ⊢
        have hsum : IntKind.i64.wrap (o + max y 0) = o + max y 0 := IntWalk.i64_in _ (by omega)
        clear hy ho h1 h2
        go_wp2
        go_roundw
        case rel => exact ⟨k + 1, by go_num, by omega, by rw [hT.out], hbL⟩
        case measure => simp [intOf]; omega
      · obtain rfl : k = x.length := by omega
        go_wp2
        go_ret2
        exact ⟨rfl, bnx hb hbL⟩
  · have HE := Aside0.mk (excess_no A0 A1 A2 A3 c0 c1 c2 c3 c l s m w hr0 hr1 hr2 hr3 b0 b1 b2 b3 he)
    rw [if_neg he]
    obtain ⟨E, hE⟩ : ∃ E, E = errX c l s m := ⟨_, rfl⟩
    rw [← hE] at HE he ⊢
    have h0' : (E != 0) = true := bne_iff_ne.2 he
    clear hE hr0 hr1 hr2 hr3 b0 b1 b2 b3 hc0 hc9 he
    go_enter Try.func20, Try.ntmps20
    go_wp2_with (first | (go_at_call 57; refine (HE.out).mono ?_; rintro e w' ⟨rfl, hbn⟩; replace hb := bnx hb hbn; clear hbn))
    go_ret2
    exact ⟨rfl, hb⟩

set_option maxRecDepth 100000 in
set_option maxHeartbeats 1000000 in
theorem Worst_calls (A0 A1 A2 A3 : Option Addr) (c0 c1 c2 c3 : Nat) (c l s m : List Int) (w : World) (hr0 : (Kd.int .i64).C w A0 c.length c) (hr1 : (Kd.int .i64).C w A1 l.length l) (hr2 : (Kd.int .i64).C w A2 s.length s) (hr3 : (Kd.int .i64).C w A3 m.length m) (b0 : c.length ≤ 1000000) (b1 : l.length ≤ 1000000) (b2 : s.length ≤ 1000000) (b3 : m.length ≤ 1000000) (hc0 : c.length ≤ c0) (hc9 : c0 ≤ 9223372036854775807) :
    Calls Try.prog 22 #[.slice A0 c.length c0, .slice A1 l.length c1, .slice A2 s.length c2, .slice A3 m.length c3] w fun e w' => e = .returned (.tuple #[.int .i64 (worstR c l s m), .int .i64 (errX c l s m)]) ∧ Below w.heap.size w w' := by
  have hb := Below.refl w.heap.size w
  unfold worstR
  by_cases he : errX c l s m = 0
  · have HE := excess_yes A0 A1 A2 A3 c0 c1 c2 c3 c l s m w hr0 hr1 hr2 hr3 hc0 hc9 he
    have hbd := exc_bd he
    have hll := (isW_iff.1 (errX_zero he).1).2.2
    rw [if_pos he, he]
    have hlen := excs_len c l s m
    change ∀ n ∈ excs c l s m, _ at hbd
    obtain ⟨x, hx⟩ : ∃ x, x = excs c l s m := ⟨_, rfl⟩
    change Calls _ _ _ _ (fun e w' => ∃ v, _ ∧ (Kd.int .i64).R _ w' _ _ v (excs c l s m) ∧ _) at HE
    rw [← hx] at HE hbd hlen ⊢
    rw [show worstT x l.length = worstT x x.length by rw [hlen]]
    rw [← hlen] at hll
    have hxI : (x.length : Int) ≤ 32 := by omega
    have HBD := Aside0.mk (worstT_bd x)
    have HBX := Aside0.mk (fun (k : Nat) (hk : k < x.length) => hbd _ (rd_mem x k hk))
    obtain ⟨X, hX⟩ : ∃ X, X = x.length := ⟨_, rfl⟩
    replace HE := Aside0.mk HE
    replace hlen := Aside0.mk hlen
    clear hr0 hr1 hr2 hr3 b0 b1 b2 b3 hc0 hc9 he hx hbd hll hX X
    go_enter Try.func22, Try.ntmps22
    go_wp2_with fail
    refine HE.out.mono ?_; rintro _ w1 ⟨v, rfl, hR, hbn⟩; replace hb := bnx hb hbn
    obtain ⟨A5, p5, rfl, _, hC⟩ := Kd.R_reads hR
    have HC := Aside0.mk hC
    clear hC hR hbn HE
    go_wp2
    go_loopw [12, 28] (fun o i wr => ∃ k : Nat, i = .int .i64 k ∧ k ≤ x.length ∧ o = .int .i64 (worstT x k) ∧ Below w1.heap.size w1 wr) (fun _ i _ => x.length - (intOf i).toNat)
    case atStart => exact ⟨0, rfl, by omega, rfl, Below.refl _ _⟩
    case round =>
      obtain ⟨k, rfl, hk, rfl, hbL⟩ := hrel
      by_cases hlt : k < x.length
      · obtain ⟨ad, rfl, hcell⟩ := el_at HC.out hbL hlt
        have hkI : (k : Int) < (x.length : Int) := by omega
        have h1 := HBD.out k
        have hT : Aside0 (worstT x (k + 1) = if rd x (worstT x k) < rd x k then (k : Int) else worstT x k) := ⟨rfl⟩
        obtain ⟨o, ho⟩ : ∃ o : Nat, worstT x k = o := ⟨(worstT x k).toNat, by omega⟩
        have ho2 : (o : Int) < (x.length : Int) := by omega
        obtain ⟨ad', e', hcell2⟩ := el_at HC.out hbL (show o < x.length by omega)
        cases e'
        rw [ho] at hT ⊢
        obtain ⟨y, hy⟩ : ∃ y, y = rd x k := ⟨_, rfl⟩
        rw [← hy] at hcell hT
        obtain ⟨z, hz⟩ : ∃ z, z = rd x o := ⟨_, rfl⟩
        rw [← hz] at hcell2 hT
        clear hy hz h1 ho
        by_cases hlt2 : z < y
        · rw [if_pos hlt2] at hT
          go_wp2
          go_roundw
          case rel => exact ⟨k + 1, by go_num, by omega, by rw [hT.out], hbL⟩
          case measure => simp [intOf]; omega
        · rw [if_neg hlt2] at hT
          have hlt3 : decide (z < y) = false := by simpa using hlt2
          go_wp2
          go_roundw
          case rel => exact ⟨k + 1, by go_num, by omega, by rw [hT.out], hbL⟩
          case measure => simp [intOf]; omega
      · obtain rfl : k = x.length := by omega
        go_wp2
        go_ret2
        exact ⟨rfl, bnx hb hbL⟩
  · have HE := Aside0.mk (excess_no A0 A1 A2 A3 c0 c1 c2 c3 c l s m w hr0 hr1 hr2 hr3 b0 b1 b2 b3 he)
    rw [if_neg he]
    obtain ⟨E, hE⟩ : ∃ E, E = errX c l s m := ⟨_, rfl⟩
    rw [← hE] at HE he ⊢
    have h0' : (E != 0) = true := bne_iff_ne.2 he
    clear hE hr0 hr1 hr2 hr3 b0 b1 b2 b3 hc0 hc9 he
    go_enter Try.func22, Try.ntmps22
    go_wp2_with (first | (go_at_call 57; refine (HE.out).mono ?_; rintro e w' ⟨rfl, hbn⟩; replace hb := bnx hb hbn; clear hbn))
    go_ret2
    exact ⟨rfl, hb⟩

end Go.Proofs.Ytljadjoljhanfaa.Q16
/- What shape.Coarser returns. -/
namespace Go.Proofs.Ytljadjoljhanfaa.Q16
open Go.RowKit Go.Proofs.YtljadjoljhanfaaW.PrintWords Go.Proofs.YtljadjoljhanfaaW.PrintLast Go.Proofs.YtljadjoljhanfaaW.PrintMore
attribute [local go_sem] max2_int min2_int max_two min_two max_three min_three
open Go.Proofs.Ytljadjoljhanfaa.Q15

/-- The error of coefficients, widths, scales and a number. -/
def errC (c l s : List Int) (n : Int) : Int := if -96 ≤ n ∧ n ≤ 96 then errS (-2097152) 2097152 0 95 c l s else 1
theorem C_one {w : World} {B : Nat} {n : Int} (h : w.cell? ⟨B, 0, none⟩ = some (.int .i64 n)) : (Kd.int .i64).C w (some ⟨B, 0, none⟩) [n].length [n] := by
  refine ⟨rfl, by simp, fun _ => ⟨_, rfl, fun j p hj => ?_⟩⟩
  match j with
  | 0 =>
    cases hj
    refine ⟨[.int .i64 n], rfl, rfl, fun i u hu => ?_⟩
    match i with
    | 0 => cases hu; simpa [Addr.add] using h
    | i + 1 => simp at hu
  | j + 1 => simp at hj

set_option maxRecDepth 100000 in
set_option maxHeartbeats 2000000 in
theorem Coarser_no (A0 A1 A2 : Option Addr) (c0 c1 c2 : Nat) (c l s : List Int) (n : Int) (w : World) (hr0 : (Kd.int .i64).C w A0 c.length c) (hr1 : (Kd.int .i64).C w A1 l.length l) (hr2 : (Kd.int .i64).C w A2 s.length s) (b0 : c.length ≤ 1000000) (b1 : l.length ≤ 1000000) (b2 : s.length ≤ 1000000)
    (he : errC c l s n ≠ 0) :
    Calls Try.prog 26 #[.slice A0 c.length c0, .slice A1 l.length c1, .slice A2 s.length c2, .int .i64 n] w fun e w' => e = .returned (.tuple #[.slice none 0 0, .int .i64 (errC c l s n)]) ∧ Below w.heap.size w w' := by
  have hb := Below.refl w.heap.size w
  have HW := fun (W : World) (hb : Below w.heap.size w W) => isWidths_calls A1 c1 l W (Kd.C_below hr1 hb) (by omega)
  have HI := fun (W : World) (B : Nat) (h : W.cell? ⟨B, 0, none⟩ = some (.int .i64 n)) => inRange_calls (-96) 96 (some ⟨B, 0, none⟩) 1 [n] W (C_one h) (by simp)
  have HF := fun (W : World) (hb : Below w.heap.size w W) B h => form_calls A0 A1 c.length c0 c1 1 l B [s.length] W (Kd.C_below hr1 hb) (by omega) (by omega) h (show 1 ≤ 1000000 by decide) (by simp; omega)
  have HC := fun (W : World) (hb : Below w.heap.size w W) => isCoefs_calls A0 c0 c W (Kd.C_below hr0 hb) (by omega)
  have HL := fun (W : World) (hb : Below w.heap.size w W) => isScales_calls A2 c2 s W (Kd.C_below hr2 hb) (by omega)
  rw [show rng (-96) 96 [n] = decide (-96 ≤ n ∧ n ≤ 96) by simp [rng]] at HI
  clear hr0 hr1 hr2
  have hcb : (c.length : Int) ≤ 1000000 := by omega
  clear b0 b1 b2
  cases hw : isW l with
  | false =>
    have hv : errC c l s n = 1 := by
      unfold errC errS
      rw [show formE c.length l [s.length] = 1 by unfold formE; rw [hw]; rfl]
      split <;> rfl
    rw [hv]
    rw [hw] at HW
    replace HW := Aside0.mk HW
    replace HI := Aside0.mk HI
    replace HF := Aside0.mk HF
    replace HC := Aside0.mk HC
    replace HL := Aside0.mk HL
    clear he hv hw
    go_enter Try.func26, Try.ntmps26
    go_wp2_with fail
    obtain ⟨W, hW⟩ : ∃ W, W = (w.alloc (.cells #[.slice A2 s.length c2] 22)).alloc (.cells #[.int .i64 n] 3) := ⟨_, rfl⟩
    rw [← hW]
    have k1 : W.cell? ⟨w.heap.size, 0, none⟩ = some (.slice A2 s.length c2) := by rw [hW]; go_simp
    have k2 : W.cell? ⟨w.heap.size + 1, 0, none⟩ = some (.int .i64 n) := by rw [hW]; go_simp
    replace hb : Below w.heap.size w W := by rw [hW]; exact (hb.alloc hb.size _).alloc (hb.alloc hb.size _).size _
    clear hW
    refine (HW.out W hb).mono ?_; rintro _ w1 ⟨rfl, hbn⟩; replace k1 := cnx k1 hbn; replace k2 := cnx k2 hbn; replace hb := bnx hb hbn; clear hbn
    go_wp2_with fail
    go_ret2
    exact ⟨rfl, hb⟩
  | true =>
    rw [hw] at HW
    by_cases hn : -96 ≤ n ∧ n ≤ 96
    · rw [decide_eq_true hn] at HI
      have hv : errC c l s n = errS (-2097152) 2097152 0 95 c l s := if_pos hn
      rw [hv] at he ⊢
      unfold errS at he ⊢
      obtain ⟨E, hE⟩ : ∃ E, E = formE c.length l [s.length] := ⟨_, rfl⟩
      rw [← hE] at HF he ⊢
      clear hE hv hw
      by_cases h0 : E = 0
      · subst h0
        rw [if_pos rfl] at he ⊢
        cases h1 : rng (-2097152) 2097152 c with
        | false =>
          rw [h1] at HC he
          replace HW := Aside0.mk HW
          replace HI := Aside0.mk HI
          replace HF := Aside0.mk HF
          replace HC := Aside0.mk HC
          replace HL := Aside0.mk HL
          clear h1 he hn
          go_enter Try.func26, Try.ntmps26
          go_wp2_with fail
          obtain ⟨W, hW⟩ : ∃ W, W = (w.alloc (.cells #[.slice A2 s.length c2] 22)).alloc (.cells #[.int .i64 n] 3) := ⟨_, rfl⟩
          rw [← hW]
          have k1 : W.cell? ⟨w.heap.size, 0, none⟩ = some (.slice A2 s.length c2) := by rw [hW]; go_simp
          have k2 : W.cell? ⟨w.heap.size + 1, 0, none⟩ = some (.int .i64 n) := by rw [hW]; go_simp
          replace hb : Below w.heap.size w W := by rw [hW]; exact (hb.alloc hb.size _).alloc (hb.alloc hb.size _).size _
          clear hW
          refine (HW.out W hb).mono ?_; rintro _ w1 ⟨rfl, hbn⟩; replace k1 := cnx k1 hbn; replace k2 := cnx k2 hbn; replace hb := bnx hb hbn; clear hbn
          go_wp2_with fail
          obtain ⟨W2, hW⟩ : ∃ W, W = w1.alloc (.cells #[.int .i64 n] 3) := ⟨_, rfl⟩
          rw [← hW]
          have k3 : W2.cell? ⟨w1.heap.size, 0, none⟩ = some (.int .i64 n) := by rw [hW]; go_simp
          replace k1 : W2.cell? ⟨w.heap.size, 0, none⟩ = some (.slice A2 s.length c2) := by rw [hW]; exact cell_alloc_l _ k1
          replace k2 : W2.cell? ⟨w.heap.size + 1, 0, none⟩ = some (.int .i64 n) := by rw [hW]; exact cell_alloc_l _ k2
          replace hb : Below w.heap.size w W2 := by rw [hW]; exact hb.alloc hb.size _
          clear hW
          refine (HI.out W2 _ k3).mono ?_; rintro _ w2 ⟨rfl, hbn⟩; replace k1 := cnx k1 hbn; replace k2 := cnx k2 hbn; replace hb := bnx hb hbn; clear hbn k3
          go_wp2_with fail
          obtain ⟨W3, hW⟩ : ∃ W, W = w2.alloc (.cells #[.slice A2 s.length c2] 22) := ⟨_, rfl⟩
          rw [← hW]
          have k3 : W3.cell? ⟨w2.heap.size, 0, none⟩ = some (.slice A2 s.length c2) := by rw [hW]; go_simp
          replace k1 : W3.cell? ⟨w.heap.size, 0, none⟩ = some (.slice A2 s.length c2) := by rw [hW]; exact cell_alloc_l _ k1
          replace k2 : W3.cell? ⟨w.heap.size + 1, 0, none⟩ = some (.int .i64 n) := by rw [hW]; exact cell_alloc_l _ k2
          replace hb : Below w.heap.size w W3 := by rw [hW]; exact hb.alloc hb.size _
          clear hW
          refine (HF.out W3 hb _ (lens_one k3)).mono ?_; rintro _ w3 ⟨rfl, hbn⟩; replace k1 := cnx k1 hbn; replace k2 := cnx k2 hbn; replace hb := bnx hb hbn; clear hbn k3
          go_wp2_with fail
          refine (HC.out _ hb).mono ?_; rintro _ w4 ⟨rfl, hbn⟩; replace k1 := cnx k1 hbn; replace k2 := cnx k2 hbn; replace hb := bnx hb hbn; clear hbn
          go_wp2_with fail
          go_ret2
          exact ⟨rfl, hb⟩
        | true =>
          rw [h1] at HC he
          cases h2 : rng 0 95 s with
          | true => rw [h2] at he; exact absurd rfl he
          | false =>
          rw [h2] at HL
          replace HW := Aside0.mk HW
          replace HI := Aside0.mk HI
          replace HF := Aside0.mk HF
          replace HC := Aside0.mk HC
          replace HL := Aside0.mk HL
          clear h1 h2 he hn
          go_enter Try.func26, Try.ntmps26
          go_wp2_with fail
          obtain ⟨W, hW⟩ : ∃ W, W = (w.alloc (.cells #[.slice A2 s.length c2] 22)).alloc (.cells #[.int .i64 n] 3) := ⟨_, rfl⟩
          rw [← hW]
          have k1 : W.cell? ⟨w.heap.size, 0, none⟩ = some (.slice A2 s.length c2) := by rw [hW]; go_simp
          have k2 : W.cell? ⟨w.heap.size + 1, 0, none⟩ = some (.int .i64 n) := by rw [hW]; go_simp
          replace hb : Below w.heap.size w W := by rw [hW]; exact (hb.alloc hb.size _).alloc (hb.alloc hb.size _).size _
          clear hW
          refine (HW.out W hb).mono ?_; rintro _ w1 ⟨rfl, hbn⟩; replace k1 := cnx k1 hbn; replace k2 := cnx k2 hbn; replace hb := bnx hb hbn; clear hbn
          go_wp2_with fail
          obtain ⟨W2, hW⟩ : ∃ W, W = w1.alloc (.cells #[.int .i64 n] 3) := ⟨_, rfl⟩
          rw [← hW]
          have k3 : W2.cell? ⟨w1.heap.size, 0, none⟩ = some (.int .i64 n) := by rw [hW]; go_simp
          replace k1 : W2.cell? ⟨w.heap.size, 0, none⟩ = some (.slice A2 s.length c2) := by rw [hW]; exact cell_alloc_l _ k1
          replace k2 : W2.cell? ⟨w.heap.size + 1, 0, none⟩ = some (.int .i64 n) := by rw [hW]; exact cell_alloc_l _ k2
          replace hb : Below w.heap.size w W2 := by rw [hW]; exact hb.alloc hb.size _
          clear hW
          refine (HI.out W2 _ k3).mono ?_; rintro _ w2 ⟨rfl, hbn⟩; replace k1 := cnx k1 hbn; replace k2 := cnx k2 hbn; replace hb := bnx hb hbn; clear hbn k3
          go_wp2_with fail
          obtain ⟨W3, hW⟩ : ∃ W, W = w2.alloc (.cells #[.slice A2 s.length c2] 22) := ⟨_, rfl⟩
          rw [← hW]
          have k3 : W3.cell? ⟨w2.heap.size, 0, none⟩ = some (.slice A2 s.length c2) := by rw [hW]; go_simp
          replace k1 : W3.cell? ⟨w.heap.size, 0, none⟩ = some (.slice A2 s.length c2) := by rw [hW]; exact cell_alloc_l _ k1
          replace k2 : W3.cell? ⟨w.heap.size + 1, 0, none⟩ = some (.int .i64 n) := by rw [hW]; exact cell_alloc_l _ k2
          replace hb : Below w.heap.size w W3 := by rw [hW]; exact hb.alloc hb.size _
          clear hW
          refine (HF.out W3 hb _ (lens_one k3)).mono ?_; rintro _ w3 ⟨rfl, hbn⟩; replace k1 := cnx k1 hbn; replace k2 := cnx k2 hbn; replace hb := bnx hb hbn; clear hbn k3
          go_wp2_with fail
          refine (HC.out _ hb).mono ?_; rintro _ w4 ⟨rfl, hbn⟩; replace k1 := cnx k1 hbn; replace k2 := cnx k2 hbn; replace hb := bnx hb hbn; clear hbn
          go_wp2_with fail
          refine (HL.out _ hb).mono ?_; rintro _ w5 ⟨rfl, hbn⟩; replace k1 := cnx k1 hbn; replace k2 := cnx k2 hbn; replace hb := bnx hb hbn; clear hbn
          go_wp2_with fail
          go_ret2
          exact ⟨rfl, hb⟩
      · rw [if_neg h0] at he ⊢
        have h0' : (E != 0) = true := bne_iff_ne.2 h0
        replace HW := Aside0.mk HW
        replace HI := Aside0.mk HI
        replace HF := Aside0.mk HF
        replace HC := Aside0.mk HC
        replace HL := Aside0.mk HL
        clear he hn h0
        go_enter Try.func26, Try.ntmps26
        go_wp2_with fail
        obtain ⟨W, hW⟩ : ∃ W, W = (w.alloc (.cells #[.slice A2 s.length c2] 22)).alloc (.cells #[.int .i64 n] 3) := ⟨_, rfl⟩
        rw [← hW]
        have k1 : W.cell? ⟨w.heap.size, 0, none⟩ = some (.slice A2 s.length c2) := by rw [hW]; go_simp
        have k2 : W.cell? ⟨w.heap.size + 1, 0, none⟩ = some (.int .i64 n) := by rw [hW]; go_simp
        replace hb : Below w.heap.size w W := by rw [hW]; exact (hb.alloc hb.size _).alloc (hb.alloc hb.size _).size _
        clear hW
        refine (HW.out W hb).mono ?_; rintro _ w1 ⟨rfl, hbn⟩; replace k1 := cnx k1 hbn; replace k2 := cnx k2 hbn; replace hb := bnx hb hbn; clear hbn
        go_wp2_with fail
        obtain ⟨W2, hW⟩ : ∃ W, W = w1.alloc (.cells #[.int .i64 n] 3) := ⟨_, rfl⟩
        rw [← hW]
        have k3 : W2.cell? ⟨w1.heap.size, 0, none⟩ = some (.int .i64 n) := by rw [hW]; go_simp
        replace k1 : W2.cell? ⟨w.heap.size, 0, none⟩ = some (.slice A2 s.length c2) := by rw [hW]; exact cell_alloc_l _ k1
        replace k2 : W2.cell? ⟨w.heap.size + 1, 0, none⟩ = some (.int .i64 n) := by rw [hW]; exact cell_alloc_l _ k2
        replace hb : Below w.heap.size w W2 := by rw [hW]; exact hb.alloc hb.size _
        clear hW
        refine (HI.out W2 _ k3).mono ?_; rintro _ w2 ⟨rfl, hbn⟩; replace k1 := cnx k1 hbn; replace k2 := cnx k2 hbn; replace hb := bnx hb hbn; clear hbn k3
        go_wp2_with fail
        obtain ⟨W3, hW⟩ : ∃ W, W = w2.alloc (.cells #[.slice A2 s.length c2] 22) := ⟨_, rfl⟩
        rw [← hW]
        have k3 : W3.cell? ⟨w2.heap.size, 0, none⟩ = some (.slice A2 s.length c2) := by rw [hW]; go_simp
        replace k1 : W3.cell? ⟨w.heap.size, 0, none⟩ = some (.slice A2 s.length c2) := by rw [hW]; exact cell_alloc_l _ k1
        replace k2 : W3.cell? ⟨w.heap.size + 1, 0, none⟩ = some (.int .i64 n) := by rw [hW]; exact cell_alloc_l _ k2
        replace hb : Below w.heap.size w W3 := by rw [hW]; exact hb.alloc hb.size _
        clear hW
        refine (HF.out W3 hb _ (lens_one k3)).mono ?_; rintro _ w3 ⟨rfl, hbn⟩; replace k1 := cnx k1 hbn; replace k2 := cnx k2 hbn; replace hb := bnx hb hbn; clear hbn k3
        go_wp2_with fail
        go_ret2
        exact ⟨rfl, hb⟩
    · rw [decide_eq_false hn] at HI
      have hv : errC c l s n = 1 := if_neg hn
      rw [hv]
      replace HW := Aside0.mk HW
      replace HI := Aside0.mk HI
      replace HF := Aside0.mk HF
      replace HC := Aside0.mk HC
      replace HL := Aside0.mk HL
      clear he hn hv hw
      go_enter Try.func26, Try.ntmps26
      go_wp2_with fail
      obtain ⟨W, hW⟩ : ∃ W, W = (w.alloc (.cells #[.slice A2 s.length c2] 22)).alloc (.cells #[.int .i64 n] 3) := ⟨_, rfl⟩
      rw [← hW]
      have k1 : W.cell? ⟨w.heap.size, 0, none⟩ = some (.slice A2 s.length c2) := by rw [hW]; go_simp
      have k2 : W.cell? ⟨w.heap.size + 1, 0, none⟩ = some (.int .i64 n) := by rw [hW]; go_simp
      replace hb : Below w.heap.size w W := by rw [hW]; exact (hb.alloc hb.size _).alloc (hb.alloc hb.size _).size _
      clear hW
      refine (HW.out W hb).mono ?_; rintro _ w1 ⟨rfl, hbn⟩; replace k1 := cnx k1 hbn; replace k2 := cnx k2 hbn; replace hb := bnx hb hbn; clear hbn
      go_wp2_with fail
      obtain ⟨W2, hW⟩ : ∃ W, W = w1.alloc (.cells #[.int .i64 n] 3) := ⟨_, rfl⟩
      rw [← hW]
      have k3 : W2.cell? ⟨w1.heap.size, 0, none⟩ = some (.int .i64 n) := by rw [hW]; go_simp
      replace k1 : W2.cell? ⟨w.heap.size, 0, none⟩ = some (.slice A2 s.length c2) := by rw [hW]; exact cell_alloc_l _ k1
      replace k2 : W2.cell? ⟨w.heap.size + 1, 0, none⟩ = some (.int .i64 n) := by rw [hW]; exact cell_alloc_l _ k2
      replace hb : Below w.heap.size w W2 := by rw [hW]; exact hb.alloc hb.size _
      clear hW
      refine (HI.out W2 _ k3).mono ?_; rintro _ w2 ⟨rfl, hbn⟩; replace k1 := cnx k1 hbn; replace k2 := cnx k2 hbn; replace hb := bnx hb hbn; clear hbn k3
      go_wp2_with fail
      go_ret2
      exact ⟨rfl, hb⟩

set_option maxRecDepth 100000 in
set_option maxHeartbeats 2000000 in
theorem Coarser_yes (A0 A1 A2 : Option Addr) (c0 c1 c2 : Nat) (c l s : List Int) (n : Int) (w : World) (hr0 : (Kd.int .i64).C w A0 c.length c) (hr1 : (Kd.int .i64).C w A1 l.length l) (hr2 : (Kd.int .i64).C w A2 s.length s) (hc0 : c.length ≤ c0) (hc9 : c0 ≤ 9223372036854775807)
    (he : errC c l s n = 0) :
    Calls Try.prog 26 #[.slice A0 c.length c0, .slice A1 l.length c1, .slice A2 s.length c2, .int .i64 n] w fun e w' => ∃ v, e = .returned (.tuple #[v, .int .i64 0]) ∧ (Kd.int .i64).R 3 w' w.heap.size (fun _ => True) v ((List.range l.length).map fun k => coarse (band c l k) (rd s k) n) ∧ Below w.heap.size w w' := by
  have hn : -96 ≤ n ∧ n ≤ 96 := by
    unfold errC at he
    split at he
    · assumption
    · cases he
  rw [show errC c l s n = errS (-2097152) 2097152 0 95 c l s from if_pos hn] at he
  obtain ⟨g0, g1, g2, g3, g4, g5⟩ := errS_zero he
  have hl32 := (isW_iff.1 g0).2.2
  have hb := Below.refl w.heap.size w
  obtain ⟨a, rfl⟩ : ∃ a, A0 = some a := by
    obtain ⟨_, _, h⟩ := hr0
    obtain ⟨a, e, _⟩ := h (by omega)
    exact ⟨a, e⟩
  have HW := fun (W : World) (hb : Below w.heap.size w W) => isWidths_calls A1 c1 l W (Kd.C_below hr1 hb) (by omega)
  have HI := fun (W : World) (B : Nat) (h : W.cell? ⟨B, 0, none⟩ = some (.int .i64 n)) => inRange_calls (-96) 96 (some ⟨B, 0, none⟩) 1 [n] W (C_one h) (by simp)
  have HF := fun (W : World) (hb : Below w.heap.size w W) B h => form_calls (some a) A1 c.length c0 c1 1 l B [s.length] W (Kd.C_below hr1 hb) (by omega) (by omega) h (show 1 ≤ 1000000 by decide) (by simp; omega)
  have HC := fun (W : World) (hb : Below w.heap.size w W) => isCoefs_calls (some a) c0 c W (Kd.C_below hr0 hb) (by omega)
  have HL := fun (W : World) (hb : Below w.heap.size w W) => isScales_calls A2 c2 s W (Kd.C_below hr2 hb) (by omega)
  rw [show rng (-96) 96 [n] = decide (-96 ≤ n ∧ n ≤ 96) by simp [rng]] at HI
  have HE := fun (W : World) (hb : Below w.heap.size w W) (B B2 : Nat) (hB : W.cell? ⟨B, 0, none⟩ = some (.slice A2 s.length c2)) (hB2 : W.cell? ⟨B2, 0, none⟩ = some (.int .i64 n)) => each_calls 62 #[] #[.pointer (some ⟨B2, 0, none⟩), .pointer (some ⟨B, 0, none⟩)] (fun _ _ => by kernel_rfl) a c0 A1 c1 l g0 (by omega) hc9 (fun k => coarse (band c l k) (rd s k) n) W (Kd.C_below hr1 hb)
    (fun k hk => coarser1_part (Kd.C_below hr0 hb) g1 g0 (Kd.C_below hr2 hb) g2 hB hB2 hk (rng_mem g4 (rd_mem s k (by omega))) hn (chk_band g3 g0 g1 hk (by decide)))
  rw [g5, g1] at HF
  rw [g3, g1] at HC
  rw [g4] at HL
  rw [g0] at HW
  rw [decide_eq_true hn] at HI
  rw [g1]
  obtain ⟨r, hre⟩ : ∃ r, r = (List.range l.length).map fun k => coarse (band c l k) (rd s k) n := ⟨_, rfl⟩
  rw [← hre] at HE ⊢
  replace HW := Aside0.mk HW
  replace HI := Aside0.mk HI
  replace HF := Aside0.mk HF
  replace HC := Aside0.mk HC
  replace HL := Aside0.mk HL
  replace HE := Aside0.mk HE
  clear hr0 hr1 hr2 hre g0 g1 g2 g3 g4 g5 he hc0 hl32 hn
  go_enter Try.func26, Try.ntmps26
  go_wp2_with fail
  obtain ⟨W, hW⟩ : ∃ W, W = (w.alloc (.cells #[.slice A2 s.length c2] 22)).alloc (.cells #[.int .i64 n] 3) := ⟨_, rfl⟩
  rw [← hW]
  have k1 : W.cell? ⟨w.heap.size, 0, none⟩ = some (.slice A2 s.length c2) := by rw [hW]; go_simp
  have k2 : W.cell? ⟨w.heap.size + 1, 0, none⟩ = some (.int .i64 n) := by rw [hW]; go_simp
  replace hb : Below w.heap.size w W := by rw [hW]; exact (hb.alloc hb.size _).alloc (hb.alloc hb.size _).size _
  clear hW
  refine (HW.out W hb).mono ?_; rintro _ w1 ⟨rfl, hbn⟩; replace k1 := cnx k1 hbn; replace k2 := cnx k2 hbn; replace hb := bnx hb hbn; clear hbn
  go_wp2_with fail
  obtain ⟨W2, hW⟩ : ∃ W, W = w1.alloc (.cells #[.int .i64 n] 3) := ⟨_, rfl⟩
  rw [← hW]
  have k3 : W2.cell? ⟨w1.heap.size, 0, none⟩ = some (.int .i64 n) := by rw [hW]; go_simp
  replace k1 : W2.cell? ⟨w.heap.size, 0, none⟩ = some (.slice A2 s.length c2) := by rw [hW]; exact cell_alloc_l _ k1
  replace k2 : W2.cell? ⟨w.heap.size + 1, 0, none⟩ = some (.int .i64 n) := by rw [hW]; exact cell_alloc_l _ k2
  replace hb : Below w.heap.size w W2 := by rw [hW]; exact hb.alloc hb.size _
  clear hW
  refine (HI.out W2 _ k3).mono ?_; rintro _ w2 ⟨rfl, hbn⟩; replace k1 := cnx k1 hbn; replace k2 := cnx k2 hbn; replace hb := bnx hb hbn; clear hbn k3
  go_wp2_with fail
  obtain ⟨W3, hW⟩ : ∃ W, W = w2.alloc (.cells #[.slice A2 s.length c2] 22) := ⟨_, rfl⟩
  rw [← hW]
  have k3 : W3.cell? ⟨w2.heap.size, 0, none⟩ = some (.slice A2 s.length c2) := by rw [hW]; go_simp
  replace k1 : W3.cell? ⟨w.heap.size, 0, none⟩ = some (.slice A2 s.length c2) := by rw [hW]; exact cell_alloc_l _ k1
  replace k2 : W3.cell? ⟨w.heap.size + 1, 0, none⟩ = some (.int .i64 n) := by rw [hW]; exact cell_alloc_l _ k2
  replace hb : Below w.heap.size w W3 := by rw [hW]; exact hb.alloc hb.size _
  clear hW
  refine (HF.out W3 hb _ (lens_one k3)).mono ?_; rintro _ w3 ⟨rfl, hbn⟩; replace k1 := cnx k1 hbn; replace k2 := cnx k2 hbn; replace hb := bnx hb hbn; clear hbn k3
  go_wp2_with fail
  refine (HC.out _ hb).mono ?_; rintro _ w4 ⟨rfl, hbn⟩; replace k1 := cnx k1 hbn; replace k2 := cnx k2 hbn; replace hb := bnx hb hbn; clear hbn
  go_wp2_with fail
  refine (HL.out _ hb).mono ?_; rintro _ w5 ⟨rfl, hbn⟩; replace k1 := cnx k1 hbn; replace k2 := cnx k2 hbn; replace hb := bnx hb hbn; clear hbn
  go_wp2_with fail
  refine (HE.out _ hb _ _ k1 k2).mono ?_; rintro _ w6 ⟨v, rfl, hR, hbn⟩
  have hR2 := Kd.R_lower hR hb.size
  replace hb := bnx hb hbn
  obtain ⟨A5, p5, rfl, _, _⟩ := Kd.R_reads hR2
  replace hR2 := Aside0.mk hR2
  clear hR hbn
  go_wp2
  go_ret2
  exact ⟨_, rfl, hR2.out, hb⟩

end Go.Proofs.Ytljadjoljhanfaa.Q16
/- What shape.Amplify returns. -/
namespace Go.Proofs.Ytljadjoljhanfaa.Q16
open Go.RowKit Go.Proofs.YtljadjoljhanfaaW.PrintWords Go.Proofs.YtljadjoljhanfaaW.PrintLast Go.Proofs.YtljadjoljhanfaaW.PrintMore
attribute [local go_sem] max2_int min2_int max_two min_two max_three min_three
open Go.Proofs.Ytljadjoljhanfaa.Q15

/-- The scales, finer where the noise is above the limit. -/
def ampls (c l s m : List Int) : List Int := (List.range l.length).map fun k => ampl (band c l k) (rd s k) (noiseR (band c l k) (rd s k)) (rd m k)

set_option maxRecDepth 100000 in
set_option maxHeartbeats 2000000 in
theorem Amplify_no (A0 A1 A2 A3 : Option Addr) (c0 c1 c2 c3 : Nat) (c l s m : List Int) (w : World) (hr0 : (Kd.int .i64).C w A0 c.length c) (hr1 : (Kd.int .i64).C w A1 l.length l) (hr2 : (Kd.int .i64).C w A2 s.length s) (hr3 : (Kd.int .i64).C w A3 m.length m) (b0 : c.length ≤ 1000000) (b1 : l.length ≤ 1000000) (b2 : s.length ≤ 1000000) (b3 : m.length ≤ 1000000)
    (he : errX c l s m ≠ 0) :
    Calls Try.prog 24 #[.slice A0 c.length c0, .slice A1 l.length c1, .slice A2 s.length c2, .slice A3 m.length c3] w fun e w' => e = .returned (.tuple #[.slice none 0 0, .int .i64 (errX c l s m)]) ∧ Below w.heap.size w w' := by
  have hb := Below.refl w.heap.size w
  have HE := fun (W : World) (hb : Below w.heap.size w W) => excess_no A0 A1 A2 A3 c0 c1 c2 c3 c l s m W (Kd.C_below hr0 hb) (Kd.C_below hr1 hb) (Kd.C_below hr2 hb) (Kd.C_below hr3 hb) b0 b1 b2 b3 he
  obtain ⟨E, hE⟩ : ∃ E, E = errX c l s m := ⟨_, rfl⟩
  rw [← hE] at HE he ⊢
  have h0' : (E != 0) = true := bne_iff_ne.2 he
  replace HE := Aside0.mk HE
  clear hE hr0 hr1 hr2 hr3 b0 b1 b2 b3 he
  go_enter Try.func24, Try.ntmps24
  go_wp2_with fail
  obtain ⟨W, hW⟩ : ∃ W, W = (w.alloc (.cells #[.slice A2 s.length c2] 22)).alloc (.cells #[.slice A3 m.length c3] 22) := ⟨_, rfl⟩
  rw [← hW]
  replace hb : Below w.heap.size w W := by rw [hW]; exact (hb.alloc hb.size _).alloc (hb.alloc hb.size _).size _
  clear hW
  refine (HE.out W hb).mono ?_; rintro _ w1 ⟨rfl, hbn⟩; replace hb := bnx hb hbn; clear hbn
  go_wp2_with fail
  go_ret2
  exact ⟨rfl, hb⟩

set_option maxRecDepth 100000 in
set_option maxHeartbeats 2000000 in
theorem Amplify_yes (A0 A1 A2 A3 : Option Addr) (c0 c1 c2 c3 : Nat) (c l s m : List Int) (w : World) (hr0 : (Kd.int .i64).C w A0 c.length c) (hr1 : (Kd.int .i64).C w A1 l.length l) (hr2 : (Kd.int .i64).C w A2 s.length s) (hr3 : (Kd.int .i64).C w A3 m.length m) (hc0 : c.length ≤ c0) (hc9 : c0 ≤ 9223372036854775807)
    (he : errX c l s m = 0) :
    Calls Try.prog 24 #[.slice A0 c.length c0, .slice A1 l.length c1, .slice A2 s.length c2, .slice A3 m.length c3] w fun e w' => ∃ v, e = .returned (.tuple #[v, .int .i64 0]) ∧ (Kd.int .i64).R 3 w' w.heap.size (fun _ => True) v (ampls c l s m) ∧ Below w.heap.size w w' := by
  obtain ⟨g0, g1, g2, g6, g3, g4, g7, g5⟩ := errX_zero he
  have hb := Below.refl w.heap.size w
  obtain ⟨a, rfl⟩ : ∃ a, A0 = some a := by
    obtain ⟨_, _, h⟩ := hr0
    obtain ⟨a, e, _⟩ := h (by omega)
    exact ⟨a, e⟩
  have HX := fun (W : World) (hb : Below w.heap.size w W) => excess_yes (some a) A1 A2 A3 c0 c1 c2 c3 c l s m W (Kd.C_below hr0 hb) (Kd.C_below hr1 hb) (Kd.C_below hr2 hb) (Kd.C_below hr3 hb) hc0 hc9 he
  have HN := fun (W : World) (hb : Below w.heap.size w W) => noises_calls (Kd.C_below hr0 hb) g1 hc0 hc9 g0 (Kd.C_below hr1 hb) (cap1 := c1) (Kd.C_below hr2 hb) (cap2 := c2) g2
  have HE := fun (W : World) (hb : Below w.heap.size w W) (B B3 B4 : Nat) (A4 : Option Addr) (c4 : Nat) (hz : (Kd.int .i64).C W A4 l.length ((List.range l.length).map fun k => noiseR (band c l k) (rd s k))) (hB : W.cell? ⟨B, 0, none⟩ = some (.slice A2 s.length c2)) (hB3 : W.cell? ⟨B3, 0, none⟩ = some (.slice A3 m.length c3)) (hB4 : W.cell? ⟨B4, 0, none⟩ = some (.slice A4 l.length c4)) => each_calls 59 #[] #[.pointer (some ⟨B4, 0, none⟩), .pointer (some ⟨B3, 0, none⟩), .pointer (some ⟨B, 0, none⟩)] (fun _ _ => by kernel_rfl) a c0 A1 c1 l g0 (by omega) hc9 (fun k => ampl (band c l k) (rd s k) (rd ((List.range l.length).map fun k => noiseR (band c l k) (rd s k)) k) (rd m k)) W (Kd.C_below hr1 hb)
    (fun k hk => amplify1_part (z := (List.range l.length).map fun k => noiseR (band c l k) (rd s k)) (Kd.C_below hr0 hb) g1 g0 (Kd.C_below hr2 hb) g2 (Kd.C_below hr3 hb) g6 (by rw [List.length_map, List.length_range]; exact hz) (by rw [List.length_map, List.length_range]) hB hB3 (by rw [List.length_map, List.length_range]; exact hB4) hk (rng_mem g4 (rd_mem s k (by omega))) (chk_band g3 g0 g1 hk (by decide)))
  have hres : ((List.range l.length).map fun (k : Nat) => ampl (band c l k) (rd s k) (rd ((List.range l.length).map fun k => noiseR (band c l k) (rd s k)) k) (rd m k)) = ampls c l s m := by
    unfold ampls
    refine List.map_congr_left fun k hk => ?_
    rw [rd_range _ _ _ (List.mem_range.1 hk)]
  rw [hres] at HE
  rw [g1] at HX HN
  rw [g1]
  obtain ⟨x, hx⟩ : ∃ x, x = (List.range l.length).map (exc c l s m) := ⟨_, rfl⟩
  rw [← hx] at HX
  obtain ⟨z, hz⟩ : ∃ z, z = (List.range l.length).map fun k => noiseR (band c l k) (rd s k) := ⟨_, rfl⟩
  rw [← hz] at HN HE
  have hzl : z.length = l.length := by rw [hz, List.length_map, List.length_range]
  obtain ⟨r, hre⟩ : ∃ r, r = ampls c l s m := ⟨_, rfl⟩
  rw [← hre] at HE ⊢
  replace HE := Aside0.mk HE
  replace HX := Aside0.mk HX
  have HN2 : Aside0 (∀ (W : World), Below w.heap.size w W → Calls Try.prog 55 #[.slice (some a) 128 c0, .slice A1 l.length c1, .slice A2 s.length c2] W fun e w' => ∃ A p, e = .returned (.slice A l.length p) ∧ (Kd.int .i64).C w' A l.length z ∧ Below W.heap.size W w') := ⟨fun W hb => (HN W hb).mono (fun e w' ⟨v, hv, hR, hb⟩ => by
    obtain ⟨A, p, rfl, _, hC⟩ := Kd.R_reads hR
    rw [hzl] at hv hC
    exact ⟨A, p, hv, hC, hb⟩)⟩
  clear hr0 hr1 hr2 hr3 hre hx hz hzl HN hres g0 g1 g2 g3 g4 g5 g6 g7 he hc0 hc9
  go_enter Try.func24, Try.ntmps24
  go_wp2_with fail
  obtain ⟨W, hW⟩ : ∃ W, W = (w.alloc (.cells #[.slice A2 s.length c2] 22)).alloc (.cells #[.slice A3 m.length c3] 22) := ⟨_, rfl⟩
  rw [← hW]
  have k1 : W.cell? ⟨w.heap.size, 0, none⟩ = some (.slice A2 s.length c2) := by rw [hW]; go_simp
  have k2 : W.cell? ⟨w.heap.size + 1, 0, none⟩ = some (.slice A3 m.length c3) := by rw [hW]; go_simp
  replace hb : Below w.heap.size w W := by rw [hW]; exact (hb.alloc hb.size _).alloc (hb.alloc hb.size _).size _
  clear hW
  refine (HX.out W hb).mono ?_; rintro _ w1 ⟨v, rfl, hR, hbn⟩; replace k1 := cnx k1 hbn; replace k2 := cnx k2 hbn; replace hb := bnx hb hbn
  obtain ⟨A5, p5, rfl, _, _⟩ := Kd.R_reads hR
  clear hbn hR HX
  go_wp2_with fail
  refine (HN2.out _ hb).mono ?_; rintro _ w2 ⟨A4, c4, rfl, hC, hbn⟩; replace k1 := cnx k1 hbn; replace k2 := cnx k2 hbn; replace hb := bnx hb hbn
  replace hC := Aside0.mk hC
  clear hbn HN2
  go_wp2_with fail
  obtain ⟨W3, hW⟩ : ∃ W, W = w2.alloc (.cells #[.slice A4 l.length c4] 22) := ⟨_, rfl⟩
  rw [← hW]
  have k3 : W3.cell? ⟨w2.heap.size, 0, none⟩ = some (.slice A4 l.length c4) := by rw [hW]; go_simp
  replace k1 : W3.cell? ⟨w.heap.size, 0, none⟩ = some (.slice A2 s.length c2) := by rw [hW]; exact cell_alloc_l _ k1
  replace k2 : W3.cell? ⟨w.heap.size + 1, 0, none⟩ = some (.slice A3 m.length c3) := by rw [hW]; exact cell_alloc_l _ k2
  have hC3 := Aside0.mk (Kd.C_below hC.out ((Below.refl w2.heap.size w2).alloc (Nat.le_refl _) (.cells #[.slice A4 l.length c4] 22)))
  rw [← hW] at hC3
  replace hb : Below w.heap.size w W3 := by rw [hW]; exact hb.alloc hb.size _
  clear hW hC
  refine (HE.out W3 hb _ _ _ A4 c4 hC3.out k1 k2 k3).mono ?_; rintro _ w4 ⟨v, rfl, hR, hbn⟩
  have hR2 := Kd.R_lower hR hb.size
  replace hb := bnx hb hbn
  obtain ⟨A6, p6, rfl, _, _⟩ := Kd.R_reads hR2
  replace hR2 := Aside0.mk hR2
  clear hR hbn
  go_wp2
  go_ret2
  exact ⟨_, rfl, hR2.out, hb⟩

end Go.Proofs.Ytljadjoljhanfaa.Q16
