/- What the reference's Noises returns. -/
import Derived.Test.YtljadjoljhanfaaMf
import Derived.WalkKit
import Derived.WalkSpells
import Derived.WalkLawsBesides
import Derived.KernelRfl
import Derived.Deep.RegionHeld3
import Derived.Deep.LoopGhost
import Derived.Deep.AppendLies
import Derived.Laws.Rows
import Derived.Shelf.GgClosure.Gives
import Derived.Test.YtljadjoljhanfaaWWords
import Derived.Test.YtljadjoljhanfaaWLast
import Derived.Test.YtljadjoljhanfaaWMore
set_option linter.unusedVariables false
set_option linter.unusedSimpArgs false
namespace Go.Proofs.Ytljadjoljhanfaa.Q16
open Go.RowKit Go.Proofs.YtljadjoljhanfaaW.PrintWords Go.Proofs.YtljadjoljhanfaaW.PrintLast Go.Proofs.YtljadjoljhanfaaW.PrintMore
attribute [local go_sem] max2_int min2_int max_two min_two max_three min_three
open Go.Proofs.Ytljadjoljhanfaa.Q15

theorem Powers_reads (w : World) :
    Calls Try.prog 40 #[] w fun e w' => ∃ A p, e = .returned (.slice A powTab.length p) ∧ (Kd.int .i64).C w' A powTab.length powTab ∧ Below w.heap.size w w' :=
  (Powers_calls w).mono fun e w' ⟨v, he, hR, hb⟩ => by
    obtain ⟨A, p, rfl, _, hC⟩ := Kd.R_reads hR
    exact ⟨A, p, he, hC, hb⟩

set_option maxRecDepth 100000 in
set_option maxHeartbeats 1000000 in
theorem rNoises_no (A0 A1 A2 : Option Addr) (c0 c1 c2 : Nat) (c l s : List Int) (w : World) (hr0 : (Kd.int .i64).C w A0 c.length c) (hr1 : (Kd.int .i64).C w A1 l.length l) (hr2 : (Kd.int .i64).C w A2 s.length s) (b0 : c.length ≤ 1000000) (b1 : l.length ≤ 1000000) (b2 : s.length ≤ 1000000)
    (he : errS (-2097152) 2097152 0 95 c l s ≠ 0) :
    Calls Try.prog 19 #[.slice A0 c.length c0, .slice A1 l.length c1, .slice A2 s.length c2] w fun e w' => e = .returned (.tuple #[.slice none 0 0, .int .i64 (errS (-2097152) 2097152 0 95 c l s)]) ∧ Below w.heap.size w w' := by
  have hb := Below.refl w.heap.size w
  have HF := scaled_calls A0 A1 A2 c0 c1 c2 c l s w hr0 hr1 hr2 b0 b1 b2
  obtain ⟨E, hE⟩ : ∃ E, E = errS (-2097152) 2097152 0 95 c l s := ⟨_, rfl⟩
  rw [← hE] at HF he ⊢
  replace HF := Aside0.mk HF
  have h0' : (E != 0) = true := bne_iff_ne.2 he
  clear hE hr0 hr1 hr2 b0 b1 b2
  go_enter Try.func19, Try.ntmps19
  go_wp2_with (first | (go_at_call 49; refine (HF.out).mono ?_; rintro e w' ⟨rfl, hbn⟩; replace hb := bnx hb hbn; clear hbn))
  go_ret2
  exact ⟨rfl, hb⟩

set_option maxRecDepth 100000 in
set_option maxHeartbeats 1000000 in
theorem rNoises_yes (A0 A1 A2 : Option Addr) (c0 c1 c2 : Nat) (c l s : List Int) (w : World) (hr0 : (Kd.int .i64).C w A0 c.length c) (hr1 : (Kd.int .i64).C w A1 l.length l) (hr2 : (Kd.int .i64).C w A2 s.length s) (hc0 : c.length ≤ c0) (hc9 : c0 ≤ 9223372036854775807)
    (he : errS (-2097152) 2097152 0 95 c l s = 0) :
    Calls Try.prog 19 #[.slice A0 c.length c0, .slice A1 l.length c1, .slice A2 s.length c2] w fun e w' => ∃ v, e = .returned (.tuple #[v, .int .i64 0]) ∧ (Kd.int .i64).R 3 w' w.heap.size (fun _ => True) v ((List.range l.length).map fun k => noiseR (band c l k) (rd s k)) ∧ Below w.heap.size w w' := by
  obtain ⟨g0, g1, g2, g3, g4, g5⟩ := errS_zero he
  have hl32 := (isW_iff.1 g0).2.2
  have hb := Below.refl w.heap.size w
  obtain ⟨a, rfl⟩ : ∃ a, A0 = some a := by
    obtain ⟨_, _, h⟩ := hr0
    obtain ⟨a, e, _⟩ := h (by omega)
    exact ⟨a, e⟩
  have HF := scaled_calls (some a) A1 A2 c0 c1 c2 c l s w hr0 hr1 hr2 (by omega) (by omega) (by omega)
  rw [he, g1] at HF
  have HP := Powers_reads
  have HCut := fun (W : World) (hb : Below w.heap.size w W) => cut_calls (c0 := c0) (cap := c1) (Kd.C_below hr0 hb) g1 (by omega) hc9 g0 (Kd.C_below hr1 hb)
  have HS := fun (W : World) (hb : Below w.heap.size w W) (k : Nat) (hk : k < l.length) => el_at hr2 hb (show k < s.length by omega)
  have HB := fun (k : Nat) (hk : k < l.length) (W : World) (Ap A' : Option Addr) (cp cp' : Nat) (hp : (Kd.int .i64).C W Ap powTab.length powTab) (hbd : (Kd.int .i64).C W A' (band c l k).length (band c l k)) =>
    NoiseBy_calls Ap A' cp cp' (band c l k) (rd s k) W hp hbd (by rw [band_len g1 g0 hk]; have := off_next g0 hk; omega) (fun n hn => rng_mem g3 (List.mem_of_mem_drop (List.mem_of_mem_take hn))) (rng_mem g4 (rd_mem s k (by omega))).1 (rng_mem g4 (rd_mem s k (by omega))).2
  have HX : ∀ k, k < l.length → noiseI (stepI (rd s k)) (band c l k) = noiseR (band c l k) (rd s k) := fun k hk => by
    unfold noiseR
    rw [if_pos (chk_band g3 g0 g1 hk (rng_mem g4 (rd_mem s k (by omega))))]
  have HB2 := fun (k : Nat) (hk : k < l.length) => HX k hk ▸ HB k hk
  rw [g1]
  have hsl : (s.length : Int) = l.length := by omega
  obtain ⟨r, hre⟩ : ∃ r : Nat → Int, r = fun k => noiseR (band c l k) (rd s k) := ⟨_, rfl⟩
  obtain ⟨T, hT⟩ : ∃ T, T = powTab.length := ⟨_, rfl⟩
  rw [← hT] at HP
  replace HF := Aside0.mk HF
  replace HP := Aside0.mk HP
  replace HCut := Aside0.mk HCut
  replace HS := Aside0.mk HS
  have HB3 : Aside0 (∀ k, k < l.length → ∀ (W : World) (Ap A' : Option Addr) (cp cp' : Nat), (Kd.int .i64).C W Ap T powTab → (Kd.int .i64).C W A' (band c l k).length (band c l k) → Calls Try.prog 56 #[.slice Ap T cp, .slice A' (band c l k).length cp', .int .i64 (rd s k)] W fun e w' => e = .returned (.int .i64 (r k)) ∧ Below W.heap.size W w') := ⟨fun k hk W Ap A' cp cp' h1 h2 => by rw [hT, hre]; exact HB2 k hk W Ap A' cp cp' (by rw [← hT]; exact h1) h2⟩
  rw [← hre]
  replace hT := Aside0.mk hT
  have hsI : (l.length : Int) ≤ (s.length : Int) := by omega
  have hlI : (l.length : Int) ≤ 32 := by omega
  clear HB HB2 HX hre hr0 hr1 hr2 hc0 hc9 g0 g1 g2 g3 g4 g5 he hsl hl32
  go_enter Try.func19, Try.ntmps19
  go_wp2_with (first | (go_at_call 49; refine (HF.out).mono ?_; rintro e w' ⟨rfl, hbn⟩; replace hb := bnx hb hbn; clear hbn) | (go_at_call 40; refine (HP.out _).mono ?_; rintro e w1 ⟨Ap, pp, rfl, hCp, hb1⟩; replace hb := bnx hb hb1; have HPW := Aside0.mk hCp; clear hCp hb1) | (go_at_call 41; refine (HCut.out _ hb).mono ?_; rintro e w2 ⟨Ac, pc, rfl, hK, hb2⟩; replace hb := bnx hb hb2; have HPW2 := Aside0.mk (Kd.C_below HPW.out hb2); have HKL := Aside0.mk hK; clear hK hb2 HPW))
  go_loopw [9, 25] (fun o i wr => ∃ k : Nat, i = .int .i64 k ∧ k ≤ l.length ∧ Aside0 ((Kd.int .i64).R 3 wr w2.heap.size (fun _ => True) o ((List.range k).map r)) ∧ Below w2.heap.size w2 wr) (fun _ i _ => l.length - (intOf i).toNat)
  case atStart => exact ⟨0, rfl, by omega, ⟨Kd.R_nil _ _ _ _ _⟩, Below.refl _ _⟩
  case round =>
    obtain ⟨k, rfl, hk, ho, hbL⟩ := hrel
    by_cases hlt : k < l.length
    · obtain ⟨ad, A', cp, rfl, hcell, hCB⟩ := bands_at HKL.out hbL hlt
      obtain ⟨ads, rfl, hcs⟩ := HS.out _ (bnx hb hbL) k hlt
      have HN := Aside0.mk (HB3.out k hlt wr Ap A' pp cp (Kd.C_below HPW2.out hbL) hCB)
      have hkI : (k : Int) < (l.length : Int) := by omega
      have hks : (k : Int) < (s.length : Int) := by omega
      have HT : Aside0 ((List.range (k + 1)).map r = (List.range k).map r ++ [r k]) := ⟨by rw [List.range_succ, List.map_append]; rfl⟩
      obtain ⟨y, hy⟩ : ∃ y, y = (List.range k).map r := ⟨_, rfl⟩
      have hyl : y.length ≤ 32 := by rw [hy]; simp; omega
      rw [← hy] at ho HT
      obtain ⟨z, hz⟩ : ∃ z, z = r k := ⟨_, rfl⟩
      rw [← hz] at HN HT
      obtain ⟨x, hx⟩ : ∃ x, x = rd s k := ⟨_, rfl⟩
      rw [← hx] at HN hcs
      obtain ⟨n, hn⟩ : ∃ n, n = (band c l k).length := ⟨_, rfl⟩
      rw [← hn] at HN hcell
      clear hy hz hx hn hCB
      go_wp2_with (first | (go_at_call 56; refine HN.out.mono ?_; rintro e w' ⟨rfl, hb1⟩; have HO1 := Aside0.mk (Kd.R_below ho.out hb1); have HB1 := Aside0.mk (bnx hbL hb1); clear ho hb1 hbL) | (at_builtin; refine Kd.R_append (Kd.int .i64) (w0 := w2) w2.heap.size rfl (.tmp 30) (.tmp 38) 22 3 (.int .i64 0) 8 rfl Try.underlying22 info_int rfl (by decide) (by omega) u9 y (z) [.int .i64 (z)] (fun _ => True) (fun _ => False) rfl rfl rfl (fun _ hk => hk.elim) (fun _ _ => trivial) HO1.out HB1.out HB1.out.size (by omega) ?_; intro v1 wA hoA hbA hgA hatA; have HOA := Aside0.mk hoA; have HBA := Aside0.mk hbA; clear hoA hbA hgA hatA))
      go_roundw
      case rel => exact ⟨k + 1, by go_num, by omega, ⟨by rw [HT.out]; exact HOA.out⟩, HBA.out⟩
      case measure => simp [intOf]; omega
    · obtain rfl : k = l.length := by omega
      go_wp2
      go_ret2
      exact ⟨_, rfl, Kd.R_lower ho.out hb.size, bnx hb hbL⟩

end Go.Proofs.Ytljadjoljhanfaa.Q16
/- What the reference's Quantize returns. -/
namespace Go.Proofs.Ytljadjoljhanfaa.Q16
open Go.RowKit Go.Proofs.YtljadjoljhanfaaW.PrintWords Go.Proofs.YtljadjoljhanfaaW.PrintLast Go.Proofs.YtljadjoljhanfaaW.PrintMore
attribute [local go_sem] max2_int min2_int max_two min_two max_three min_three
open Go.Proofs.Ytljadjoljhanfaa.Q15

set_option maxRecDepth 100000 in
set_option maxHeartbeats 1000000 in
theorem rQuantize_no (A0 A1 A2 : Option Addr) (c0 c1 c2 : Nat) (c l s : List Int) (w : World) (hr0 : (Kd.int .i64).C w A0 c.length c) (hr1 : (Kd.int .i64).C w A1 l.length l) (hr2 : (Kd.int .i64).C w A2 s.length s) (b0 : c.length ≤ 1000000) (b1 : l.length ≤ 1000000) (b2 : s.length ≤ 1000000)
    (he : errS (-2097152) 2097152 0 95 c l s ≠ 0) :
    Calls Try.prog 15 #[.slice A0 c.length c0, .slice A1 l.length c1, .slice A2 s.length c2] w fun e w' => e = .returned (.tuple #[.slice none 0 0, .int .i64 (errS (-2097152) 2097152 0 95 c l s)]) ∧ Below w.heap.size w w' := by
  have hb := Below.refl w.heap.size w
  have HF := scaled_calls A0 A1 A2 c0 c1 c2 c l s w hr0 hr1 hr2 b0 b1 b2
  obtain ⟨E, hE⟩ : ∃ E, E = errS (-2097152) 2097152 0 95 c l s := ⟨_, rfl⟩
  rw [← hE] at HF he ⊢
  replace HF := Aside0.mk HF
  have h0' : (E != 0) = true := bne_iff_ne.2 he
  clear hE hr0 hr1 hr2 b0 b1 b2
  go_enter Try.func15, Try.ntmps15
  go_wp2_with (first | (go_at_call 49; refine (HF.out).mono ?_; rintro e w' ⟨rfl, hbn⟩; replace hb := bnx hb hbn; clear hbn))
  go_ret2
  exact ⟨rfl, hb⟩


set_option maxRecDepth 100000 in
set_option maxHeartbeats 1000000 in
theorem rQuantize_yes (A0 A1 A2 : Option Addr) (c0 c1 c2 : Nat) (c l s : List Int) (w : World) (hr0 : (Kd.int .i64).C w A0 c.length c) (hr1 : (Kd.int .i64).C w A1 l.length l) (hr2 : (Kd.int .i64).C w A2 s.length s) (hc0 : c.length ≤ c0) (hc9 : c0 ≤ 9223372036854775807)
    (he : errS (-2097152) 2097152 0 95 c l s = 0) :
    Calls Try.prog 15 #[.slice A0 c.length c0, .slice A1 l.length c1, .slice A2 s.length c2] w fun e w' => ∃ v, e = .returned (.tuple #[v, .int .i64 0]) ∧ (Kd.int .i64).R 3 w' w.heap.size (fun _ => True) v ((List.range l.length).map fun k => quanta (band c l k) (rd s k)).flatten ∧ Below w.heap.size w w' := by
  obtain ⟨g0, g1, g2, g3, g4, g5⟩ := errS_zero he
  have hl32 := (isW_iff.1 g0).2.2
  have hb := Below.refl w.heap.size w
  obtain ⟨a, rfl⟩ : ∃ a, A0 = some a := by
    obtain ⟨_, _, h⟩ := hr0
    obtain ⟨a, e, _⟩ := h (by omega)
    exact ⟨a, e⟩
  have HF := scaled_calls (some a) A1 A2 c0 c1 c2 c l s w hr0 hr1 hr2 (by omega) (by omega) (by omega)
  rw [he, g1] at HF
  have HP := Powers_reads
  have HCut := fun (W : World) (hb : Below w.heap.size w W) => cut_calls (c0 := c0) (cap := c1) (Kd.C_below hr0 hb) g1 (by omega) hc9 g0 (Kd.C_below hr1 hb)
  have HS := fun (W : World) (hb : Below w.heap.size w W) (k : Nat) (hk : k < l.length) => el_at hr2 hb (show k < s.length by omega)
  have HB := fun (k : Nat) (hk : k < l.length) (W : World) (Ap A' : Option Addr) (cp cp' : Nat) (hp : (Kd.int .i64).C W Ap powTab.length powTab) (hbd : (Kd.int .i64).C W A' (band c l k).length (band c l k)) =>
    QuantizeBy_calls Ap A' cp cp' (band c l k) (rd s k) W hp hbd (by rw [band_len g1 g0 hk]; have := off_next g0 hk; omega) (fun n hn => rng_mem g3 (List.mem_of_mem_drop (List.mem_of_mem_take hn))) (rng_mem g4 (rd_mem s k (by omega))).1 (rng_mem g4 (rd_mem s k (by omega))).2
  have HX : ∀ k, k < l.length → (band c l k).map (fun c => sg c (qn (stepI (rd s k)) (absI c))) = quanta (band c l k) (rd s k) := fun k hk => by
    unfold quanta
    rw [if_pos (chk_band g3 g0 g1 hk (rng_mem g4 (rd_mem s k (by omega))))]
  have HXL : ∀ k, k < l.length → (quanta (band c l k) (rd s k)).length ≤ 128 := fun k hk => by
    rw [← HX k hk, List.length_map, band_len g1 g0 hk]; have := off_next g0 hk; omega
  have HB2 := fun (k : Nat) (hk : k < l.length) => HX k hk ▸ HB k hk
  rw [g1]
  have hsl : (s.length : Int) = l.length := by omega
  obtain ⟨r, hre⟩ : ∃ r : Nat → List Int, r = fun k => quanta (band c l k) (rd s k) := ⟨_, rfl⟩
  obtain ⟨T, hT⟩ : ∃ T, T = powTab.length := ⟨_, rfl⟩
  rw [← hT] at HP
  replace HF := Aside0.mk HF
  replace HP := Aside0.mk HP
  replace HCut := Aside0.mk HCut
  replace HS := Aside0.mk HS
  have HB3 : Aside0 (∀ k, k < l.length → ∀ (W : World) (Ap A' : Option Addr) (cp cp' : Nat), (Kd.int .i64).C W Ap T powTab → (Kd.int .i64).C W A' (band c l k).length (band c l k) → Calls Try.prog 50 #[.slice Ap T cp, .slice A' (band c l k).length cp', .int .i64 (rd s k)] W fun e w' => ∃ v, e = .returned v ∧ (Kd.int .i64).R 3 w' W.heap.size (fun _ => True) v (r k) ∧ Below W.heap.size W w') := ⟨fun k hk W Ap A' cp cp' h1 h2 => by rw [hT, hre]; exact HB2 k hk W Ap A' cp cp' (by rw [← hT]; exact h1) h2⟩
  have HRL : Aside0 (∀ k, k < l.length → (r k).length ≤ 128) := ⟨fun k hk => by rw [hre]; exact HXL k hk⟩
  rw [← hre]
  replace hT := Aside0.mk hT
  have hsI : (l.length : Int) ≤ (s.length : Int) := by omega
  have hlI : (l.length : Int) ≤ 32 := by omega
  clear HB HB2 HX HXL hre hr0 hr1 hr2 hc0 hc9 g0 g1 g2 g3 g4 g5 he hsl hl32
  go_enter Try.func15, Try.ntmps15
  go_wp2_with (first | (go_at_call 49; refine (HF.out).mono ?_; rintro e w' ⟨rfl, hbn⟩; replace hb := bnx hb hbn; clear hbn) | (go_at_call 40; refine (HP.out _).mono ?_; rintro e w1 ⟨Ap, pp, rfl, hCp, hb1⟩; replace hb := bnx hb hb1; have HPW := Aside0.mk hCp; clear hCp hb1) | (go_at_call 41; refine (HCut.out _ hb).mono ?_; rintro e w2 ⟨Ac, pc, rfl, hK, hb2⟩; replace hb := bnx hb hb2; have HPW2 := Aside0.mk (Kd.C_below HPW.out hb2); have HKL := Aside0.mk hK; clear hK hb2 HPW))
  go_loopw [9, 25] (fun o i wr => ∃ k : Nat, i = .int .i64 k ∧ k ≤ l.length ∧ Aside0 ((Kd.int .i64).R 3 wr w2.heap.size (fun _ => True) o ((List.range k).map r).flatten) ∧ Aside0 (((List.range k).map r).flatten.length ≤ k * 128) ∧ Below w2.heap.size w2 wr) (fun _ i _ => l.length - (intOf i).toNat)
  case atStart => exact ⟨0, rfl, by omega, ⟨Kd.R_nil _ _ _ _ _⟩, ⟨by simp⟩, Below.refl _ _⟩
  case round =>
    obtain ⟨k, rfl, hk, ho, hle, hbL⟩ := hrel
    by_cases hlt : k < l.length
    · obtain ⟨ad, A', cp, rfl, hcell, hCB⟩ := bands_at HKL.out hbL hlt
      obtain ⟨ads, rfl, hcs⟩ := HS.out _ (bnx hb hbL) k hlt
      have HN := Aside0.mk (HB3.out k hlt wr Ap A' pp cp (Kd.C_below HPW2.out hbL) hCB)
      have hkI : (k : Int) < (l.length : Int) := by omega
      have hks : (k : Int) < (s.length : Int) := by omega
      have HT : Aside0 (((List.range (k + 1)).map r).flatten = ((List.range k).map r).flatten ++ r k) := ⟨by rw [List.range_succ, List.map_append, List.flatten_append]; simp⟩
      have hzl := HRL.out k hlt
      have hyl := hle.out
      obtain ⟨y, hy⟩ : ∃ y, y = ((List.range k).map r).flatten := ⟨_, rfl⟩
      rw [← hy] at ho HT hyl
      obtain ⟨z, hz⟩ : ∃ z, z = r k := ⟨_, rfl⟩
      rw [← hz] at HN HT hzl
      have hlen : Aside0 ((y.length + z.length) * 8 ≤ 140737488355328) := ⟨by omega⟩
      have hlen2 : Aside0 ((y ++ z).length ≤ (k + 1) * 128) := ⟨by rw [List.length_append]; omega⟩
      obtain ⟨x, hx⟩ : ∃ x, x = rd s k := ⟨_, rfl⟩
      rw [← hx] at HN hcs
      obtain ⟨n, hn⟩ : ∃ n, n = (band c l k).length := ⟨_, rfl⟩
      rw [← hn] at HN hcell
      clear hy hz hx hn hCB hle hyl hzl
      go_wp2_with (first | (go_at_call 50; refine HN.out.mono ?_; rintro e w5 ⟨v5, rfl, hR5, hb1⟩; obtain ⟨B5, p5, rfl, _, hC5⟩ := Kd.R_reads hR5; have HC5 := Aside0.mk hC5; have HO1 := Aside0.mk (Kd.R_below ho.out hb1); have HB1 := Aside0.mk (bnx hbL hb1); clear ho hb1 hbL hC5 hR5) | (at_builtin; refine Kd.R_append_rows (Kd.int .i64) (Rr := (Kd.int .i64).K w5) (w0 := w2) w2.heap.size rfl (.tmp 30) (.tmp 37) 22 3 (.int .i64 0) 8 rfl Try.underlying22 info_int rfl (by decide) (by decide) u9 y z B5 z.length p5 (fun _ => True) (fun _ => False) rfl rfl HO1.out HC5.out (fun _ _ h => h) (fun _ h => h.elim) (fun _ _ => trivial) HB1.out HB1.out.size hlen.out ?_; intro v1 wA hoA hbA hgA hatA; have HOA := Aside0.mk hoA; have HBA := Aside0.mk hbA; clear hoA hgA hatA hbA))
      go_roundw
      case rel => exact ⟨k + 1, by go_num, by omega, ⟨by rw [HT.out]; exact HOA.out⟩, ⟨by rw [HT.out]; exact hlen2.out⟩, HBA.out⟩
      case measure => simp [intOf]; omega
    · obtain rfl : k = l.length := by omega
      go_wp2
      go_ret2
      exact ⟨_, rfl, Kd.R_lower ho.out hb.size, bnx hb hbL⟩

end Go.Proofs.Ytljadjoljhanfaa.Q16
/- What the reference's Values returns. -/
namespace Go.Proofs.Ytljadjoljhanfaa.Q16
open Go.RowKit Go.Proofs.YtljadjoljhanfaaW.PrintWords Go.Proofs.YtljadjoljhanfaaW.PrintLast Go.Proofs.YtljadjoljhanfaaW.PrintMore
attribute [local go_sem] max2_int min2_int max_two min_two max_three min_three
open Go.Proofs.Ytljadjoljhanfaa.Q15

theorem chk_bandQ {c l : List Int} (hc : rng (-1023) 1023 c = true) (hl : isW l = true) (h1 : c.length = 128) {k : Nat} (hk : k < l.length) {s : Int} (hs : 0 ≤ s ∧ s ≤ 95) : chk isQ (band c l k) s = 0 := by
  have hlen := band_len h1 hl hk
  have hn := off_next hl hk
  unfold chk
  rw [if_pos (by simp [isS, hs]), if_pos (by omega), if_pos]
  refine List.all_eq_true.2 fun x hx => ?_
  have := rng_mem hc (List.mem_of_mem_drop (List.mem_of_mem_take hx))
  simp [isQ, this]


set_option maxRecDepth 100000 in
set_option maxHeartbeats 1000000 in
theorem rValues_no (A0 A1 A2 : Option Addr) (c0 c1 c2 : Nat) (c l s : List Int) (w : World) (hr0 : (Kd.int .i64).C w A0 c.length c) (hr1 : (Kd.int .i64).C w A1 l.length l) (hr2 : (Kd.int .i64).C w A2 s.length s) (b0 : c.length ≤ 1000000) (b1 : l.length ≤ 1000000) (b2 : s.length ≤ 1000000)
    (he : errS (-1023) 1023 0 95 c l s ≠ 0) :
    Calls Try.prog 17 #[.slice A0 c.length c0, .slice A1 l.length c1, .slice A2 s.length c2] w fun e w' => e = .returned (.tuple #[.slice none 0 0, .int .i64 (errS (-1023) 1023 0 95 c l s)]) ∧ Below w.heap.size w w' := by
  have hb := Below.refl w.heap.size w
  have HF := fun (W : World) (hb : Below w.heap.size w W) B h => forms_calls A0 A1 c.length c0 c1 1 l B [s.length] W (Kd.C_below hr1 hb) (by omega) (by omega) h (show 1 ≤ 1000000 by decide) (by simp; omega)
  have HC := fun (W : World) (hb : Below w.heap.size w W) => Within_calls 1023 (by decide) A0 c0 c W (Kd.C_below hr0 hb) (by omega)
  have HL := fun (W : World) (hb : Below w.heap.size w W) => all_calls 95 A2 c2 s W (Kd.C_below hr2 hb) (by omega)
  unfold errS at he ⊢
  obtain ⟨E, hE⟩ : ∃ E, E = formE c.length l [s.length] := ⟨_, rfl⟩
  rw [← hE] at HF he ⊢
  replace HF := Aside0.mk HF
  clear hE hr0 hr1 hr2
  have hcb : (c.length : Int) ≤ 1000000 := by omega
  clear b0 b1 b2
  by_cases h0 : E = 0
  · subst h0
    rw [if_pos rfl] at he ⊢
    cases h1 : rng (-1023) 1023 c with
    | false =>
      rw [h1] at HC he
      replace HC := Aside0.mk HC
      replace HL := Aside0.mk HL
      clear h1 he
      go_enter Try.func17, Try.ntmps17
      go_wp2_with fail
      obtain ⟨W, hW⟩ : ∃ W, W = w.alloc (.cells #[.slice A2 s.length c2] 22) := ⟨_, rfl⟩
      rw [← hW]
      have k1 : W.cell? ⟨w.heap.size, 0, none⟩ = some (.slice A2 s.length c2) := by rw [hW]; go_simp
      replace hb : Below w.heap.size w W := by rw [hW]; exact hb.alloc hb.size _
      clear hW
      refine (HF.out W hb _ (lens_one k1)).mono ?_; rintro _ w1 ⟨rfl, hbn⟩; replace k1 := cnx k1 hbn; replace hb := bnx hb hbn; clear hbn
      go_wp2_with (first | (go_at_call 38; refine (HC.out _ hb).mono ?_; rintro e w' ⟨rfl, hbn⟩; replace hb := bnx hb hbn; clear hbn))
      go_ret2
      exact ⟨rfl, hb⟩
    | true =>
      rw [h1] at HC he
      cases h2 : rng 0 95 s with
      | true => rw [h2] at he; exact absurd rfl he
      | false =>
      rw [h2] at HL
      replace HC := Aside0.mk HC
      replace HL := Aside0.mk HL
      clear h1 h2 he
      go_enter Try.func17, Try.ntmps17
      go_wp2_with fail
      obtain ⟨W, hW⟩ : ∃ W, W = w.alloc (.cells #[.slice A2 s.length c2] 22) := ⟨_, rfl⟩
      rw [← hW]
      have k1 : W.cell? ⟨w.heap.size, 0, none⟩ = some (.slice A2 s.length c2) := by rw [hW]; go_simp
      replace hb : Below w.heap.size w W := by rw [hW]; exact hb.alloc hb.size _
      clear hW
      refine (HF.out W hb _ (lens_one k1)).mono ?_; rintro _ w1 ⟨rfl, hbn⟩; replace k1 := cnx k1 hbn; replace hb := bnx hb hbn; clear hbn
      go_wp2_with fail
      refine (HC.out _ hb).mono ?_; rintro _ w2 ⟨rfl, hbn⟩; replace k1 := cnx k1 hbn; replace hb := bnx hb hbn; clear hbn
      go_wp2_with (first | (go_at_call 39; refine (HL.out _ hb).mono ?_; rintro e w' ⟨rfl, hbn⟩; replace hb := bnx hb hbn; clear hbn))
      go_ret2
      exact ⟨rfl, hb⟩
  · rw [if_neg h0] at he ⊢
    clear HC HL
    go_enter Try.func17, Try.ntmps17
    go_wp2_with fail
    obtain ⟨W, hW⟩ : ∃ W, W = w.alloc (.cells #[.slice A2 s.length c2] 22) := ⟨_, rfl⟩
    rw [← hW]
    have k1 : W.cell? ⟨w.heap.size, 0, none⟩ = some (.slice A2 s.length c2) := by rw [hW]; go_simp
    replace hb : Below w.heap.size w W := by rw [hW]; exact hb.alloc hb.size _
    clear hW
    refine (HF.out W hb _ (lens_one k1)).mono ?_; rintro _ w1 ⟨rfl, hbn⟩; replace k1 := cnx k1 hbn; replace hb := bnx hb hbn; clear hbn
    have h0' : (E != 0) = true := bne_iff_ne.2 h0
    go_wp2_with fail
    go_ret2
    exact ⟨rfl, hb⟩


set_option maxRecDepth 100000 in
set_option maxHeartbeats 1000000 in
theorem rValues_yes (A0 A1 A2 : Option Addr) (c0 c1 c2 : Nat) (c l s : List Int) (w : World) (hr0 : (Kd.int .i64).C w A0 c.length c) (hr1 : (Kd.int .i64).C w A1 l.length l) (hr2 : (Kd.int .i64).C w A2 s.length s) (hc0 : c.length ≤ c0) (hc9 : c0 ≤ 9223372036854775807)
    (he : errS (-1023) 1023 0 95 c l s = 0) :
    Calls Try.prog 17 #[.slice A0 c.length c0, .slice A1 l.length c1, .slice A2 s.length c2] w fun e w' => ∃ v, e = .returned (.tuple #[v, .int .i64 0]) ∧ (Kd.int .i64).R 3 w' w.heap.size (fun _ => True) v ((List.range l.length).map fun k => valuesL (band c l k) (rd s k)).flatten ∧ Below w.heap.size w w' := by
  obtain ⟨g0, g1, g2, g3, g4, g5⟩ := errS_zero he
  have hl32 := (isW_iff.1 g0).2.2
  have hb := Below.refl w.heap.size w
  obtain ⟨a, rfl⟩ : ∃ a, A0 = some a := by
    obtain ⟨_, _, h⟩ := hr0
    obtain ⟨a, e, _⟩ := h (by omega)
    exact ⟨a, e⟩
  have HF := fun (W : World) (hb : Below w.heap.size w W) B h => forms_calls (some a) A1 c.length c0 c1 1 l B [s.length] W (Kd.C_below hr1 hb) (by omega) (by omega) h (show 1 ≤ 1000000 by decide) (by simp; omega)
  have HC := fun (W : World) (hb : Below w.heap.size w W) => Within_calls 1023 (by decide) (some a) c0 c W (Kd.C_below hr0 hb) (by omega)
  have HL := fun (W : World) (hb : Below w.heap.size w W) => all_calls 95 A2 c2 s W (Kd.C_below hr2 hb) (by omega)
  rw [g5, g1] at HF
  rw [g3, g1] at HC
  rw [g4] at HL
  have HP := Powers_reads
  have HCut := fun (W : World) (hb : Below w.heap.size w W) => cut_calls (c0 := c0) (cap := c1) (Kd.C_below hr0 hb) g1 (by omega) hc9 g0 (Kd.C_below hr1 hb)
  have HS := fun (W : World) (hb : Below w.heap.size w W) (k : Nat) (hk : k < l.length) => el_at hr2 hb (show k < s.length by omega)
  have HB := fun (k : Nat) (hk : k < l.length) (W : World) (Ap A' : Option Addr) (cp cp' : Nat) (hp : (Kd.int .i64).C W Ap powTab.length powTab) (hbd : (Kd.int .i64).C W A' (band c l k).length (band c l k)) =>
    ValuesBy_calls Ap A' cp cp' (band c l k) (rd s k) W hp hbd (by rw [band_len g1 g0 hk]; have := off_next g0 hk; omega) (fun n hn => rng_mem g3 (List.mem_of_mem_drop (List.mem_of_mem_take hn))) (rng_mem g4 (rd_mem s k (by omega))).1 (rng_mem g4 (rd_mem s k (by omega))).2
  have HX : ∀ k, k < l.length → (band c l k).map (fun q => sg q (V (stepI (rd s k)) (absI q))) = valuesL (band c l k) (rd s k) := fun k hk => by
    unfold valuesL
    rw [if_pos (chk_bandQ g3 g0 g1 hk (rng_mem g4 (rd_mem s k (by omega))))]
  have HXL : ∀ k, k < l.length → (valuesL (band c l k) (rd s k)).length ≤ 128 := fun k hk => by
    rw [← HX k hk, List.length_map, band_len g1 g0 hk]; have := off_next g0 hk; omega
  have HB2 := fun (k : Nat) (hk : k < l.length) => HX k hk ▸ HB k hk
  rw [g1]
  have hsl : (s.length : Int) = l.length := by omega
  obtain ⟨r, hre⟩ : ∃ r : Nat → List Int, r = fun k => valuesL (band c l k) (rd s k) := ⟨_, rfl⟩
  obtain ⟨T, hT⟩ : ∃ T, T = powTab.length := ⟨_, rfl⟩
  rw [← hT] at HP
  replace HF := Aside0.mk HF
  replace HC := Aside0.mk HC
  replace HL := Aside0.mk HL
  replace HP := Aside0.mk HP
  replace HCut := Aside0.mk HCut
  replace HS := Aside0.mk HS
  have HB3 : Aside0 (∀ k, k < l.length → ∀ (W : World) (Ap A' : Option Addr) (cp cp' : Nat), (Kd.int .i64).C W Ap T powTab → (Kd.int .i64).C W A' (band c l k).length (band c l k) → Calls Try.prog 54 #[.slice Ap T cp, .slice A' (band c l k).length cp', .int .i64 (rd s k)] W fun e w' => ∃ v, e = .returned v ∧ (Kd.int .i64).R 3 w' W.heap.size (fun _ => True) v (r k) ∧ Below W.heap.size W w') := ⟨fun k hk W Ap A' cp cp' h1 h2 => by rw [hT, hre]; exact HB2 k hk W Ap A' cp cp' (by rw [← hT]; exact h1) h2⟩
  have HRL : Aside0 (∀ k, k < l.length → (r k).length ≤ 128) := ⟨fun k hk => by rw [hre]; exact HXL k hk⟩
  rw [← hre]
  replace hT := Aside0.mk hT
  have hsI : (l.length : Int) ≤ (s.length : Int) := by omega
  have hlI : (l.length : Int) ≤ 32 := by omega
  clear HB HB2 HX HXL hre hr0 hr1 hr2 hc0 hc9 g0 g1 g2 g3 g4 g5 he hsl hl32
  go_enter Try.func17, Try.ntmps17
  go_wp2_with fail
  obtain ⟨W, hW⟩ : ∃ W, W = w.alloc (.cells #[.slice A2 s.length c2] 22) := ⟨_, rfl⟩
  rw [← hW]
  have k1 : W.cell? ⟨w.heap.size, 0, none⟩ = some (.slice A2 s.length c2) := by rw [hW]; go_simp
  replace hb : Below w.heap.size w W := by rw [hW]; exact hb.alloc hb.size _
  clear hW
  refine (HF.out W hb _ (lens_one k1)).mono ?_; rintro _ w1 ⟨rfl, hbn⟩; replace hb := bnx hb hbn; clear hbn k1
  go_wp2_with fail
  refine (HC.out _ hb).mono ?_; rintro _ w2 ⟨rfl, hbn⟩; replace hb := bnx hb hbn; clear hbn
  go_wp2_with fail
  refine (HL.out _ hb).mono ?_; rintro _ w3 ⟨rfl, hbn⟩; replace hb := bnx hb hbn; clear hbn
  go_wp2_with (first | (go_at_call 40; refine (HP.out _).mono ?_; rintro e w1 ⟨Ap, pp, rfl, hCp, hb1⟩; replace hb := bnx hb hb1; have HPW := Aside0.mk hCp; clear hCp hb1) | (go_at_call 41; refine (HCut.out _ hb).mono ?_; rintro e w2 ⟨Ac, pc, rfl, hK, hb2⟩; replace hb := bnx hb hb2; have HPW2 := Aside0.mk (Kd.C_below HPW.out hb2); have HKL := Aside0.mk hK; clear hK hb2 HPW))
  go_loopw [9, 34] (fun o i wr => ∃ k : Nat, i = .int .i64 k ∧ k ≤ l.length ∧ Aside0 ((Kd.int .i64).R 3 wr w2.heap.size (fun _ => True) o ((List.range k).map r).flatten) ∧ Aside0 (((List.range k).map r).flatten.length ≤ k * 128) ∧ Below w2.heap.size w2 wr) (fun _ i _ => l.length - (intOf i).toNat)
  case atStart => exact ⟨0, rfl, by omega, ⟨Kd.R_nil _ _ _ _ _⟩, ⟨by simp⟩, Below.refl _ _⟩
  case round =>
    obtain ⟨k, rfl, hk, ho, hle, hbL⟩ := hrel
    by_cases hlt : k < l.length
    · obtain ⟨ad, A', cp, rfl, hcell, hCB⟩ := bands_at HKL.out hbL hlt
      obtain ⟨ads, rfl, hcs⟩ := HS.out _ (bnx hb hbL) k hlt
      have HN := Aside0.mk (HB3.out k hlt wr Ap A' pp cp (Kd.C_below HPW2.out hbL) hCB)
      have hkI : (k : Int) < (l.length : Int) := by omega
      have hks : (k : Int) < (s.length : Int) := by omega
      have HT : Aside0 (((List.range (k + 1)).map r).flatten = ((List.range k).map r).flatten ++ r k) := ⟨by rw [List.range_succ, List.map_append, List.flatten_append]; simp⟩
      have hzl := HRL.out k hlt
      have hyl := hle.out
      obtain ⟨y, hy⟩ : ∃ y, y = ((List.range k).map r).flatten := ⟨_, rfl⟩
      rw [← hy] at ho HT hyl
      obtain ⟨z, hz⟩ : ∃ z, z = r k := ⟨_, rfl⟩
      rw [← hz] at HN HT hzl
      have hlen : Aside0 ((y.length + z.length) * 8 ≤ 140737488355328) := ⟨by omega⟩
      have hlen2 : Aside0 ((y ++ z).length ≤ (k + 1) * 128) := ⟨by rw [List.length_append]; omega⟩
      obtain ⟨x, hx⟩ : ∃ x, x = rd s k := ⟨_, rfl⟩
      rw [← hx] at HN hcs
      obtain ⟨n, hn⟩ : ∃ n, n = (band c l k).length := ⟨_, rfl⟩
      rw [← hn] at HN hcell
      clear hy hz hx hn hCB hle hyl hzl
      go_wp2_with (first | (go_at_call 54; refine HN.out.mono ?_; rintro e w5 ⟨v5, rfl, hR5, hb1⟩; obtain ⟨B5, p5, rfl, _, hC5⟩ := Kd.R_reads hR5; have HC5 := Aside0.mk hC5; have HO1 := Aside0.mk (Kd.R_below ho.out hb1); have HB1 := Aside0.mk (bnx hbL hb1); clear ho hb1 hbL hC5 hR5) | (at_builtin; refine Kd.R_append_rows (Kd.int .i64) (Rr := (Kd.int .i64).K w5) (w0 := w2) w2.heap.size rfl (.tmp 39) (.tmp 46) 22 3 (.int .i64 0) 8 rfl Try.underlying22 info_int rfl (by decide) (by decide) u9 y z B5 z.length p5 (fun _ => True) (fun _ => False) rfl rfl HO1.out HC5.out (fun _ _ h => h) (fun _ h => h.elim) (fun _ _ => trivial) HB1.out HB1.out.size hlen.out ?_; intro v1 wA hoA hbA hgA hatA; have HOA := Aside0.mk hoA; have HBA := Aside0.mk hbA; clear hoA hgA hatA hbA))
      go_roundw
      case rel => exact ⟨k + 1, by go_num, by omega, ⟨by rw [HT.out]; exact HOA.out⟩, ⟨by rw [HT.out]; exact hlen2.out⟩, HBA.out⟩
      case measure => simp [intOf]; omega
    · obtain rfl : k = l.length := by omega
      go_wp2
      go_ret2
      exact ⟨_, rfl, Kd.R_lower ho.out hb.size, bnx hb hbL⟩

end Go.Proofs.Ytljadjoljhanfaa.Q16
/- What the reference's Scales returns. -/
namespace Go.Proofs.Ytljadjoljhanfaa.Q16
open Go.RowKit Go.Proofs.YtljadjoljhanfaaW.PrintWords Go.Proofs.YtljadjoljhanfaaW.PrintLast Go.Proofs.YtljadjoljhanfaaW.PrintMore
attribute [local go_sem] max2_int min2_int max_two min_two max_three min_three
open Go.Proofs.Ytljadjoljhanfaa.Q15

theorem Finest_calls (A : Option Addr) (cap : Nat) (l : List Int) (w : World) (hr : (Kd.int .i64).C w A l.length l) (hl : l.length ≤ 1099511627776) (hp : ∀ n ∈ l, -2097152 ≤ n ∧ n ≤ 2097152) :
    Calls Try.prog 43 #[.slice A l.length cap] w fun e w' => e = .returned (.int .i64 (leastI l)) ∧ Below w.heap.size w w' := by
  have hb := Below.refl w.heap.size w
  have HC := Aside0.mk (rleast_calls A cap l w hr hl hp)
  clear hr hl hp
  go_enter Try.func43, Try.ntmps43
  go_wp2_with (first | (go_at_call 65; refine (HC.out).mono ?_; rintro e w' ⟨rfl, hbn⟩; replace hb := bnx hb hbn; clear hbn))
  go_ret
  exact ⟨rfl, hb⟩


set_option maxRecDepth 100000 in
set_option maxHeartbeats 1000000 in
theorem rScales_no (A0 A1 A2 : Option Addr) (c0 c1 c2 : Nat) (c l s : List Int) (w : World) (hr0 : (Kd.int .i64).C w A0 c.length c) (hr1 : (Kd.int .i64).C w A1 l.length l) (hr2 : (Kd.int .i64).C w A2 s.length s) (b0 : c.length ≤ 1000000) (b1 : l.length ≤ 1000000) (b2 : s.length ≤ 1000000)
    (he : errS (-2097152) 2097152 0 72057594037927936 c l s ≠ 0) :
    Calls Try.prog 12 #[.slice A0 c.length c0, .slice A1 l.length c1, .slice A2 s.length c2] w fun e w' => e = .returned (.tuple #[.slice none 0 0, .int .i64 (errS (-2097152) 2097152 0 72057594037927936 c l s)]) ∧ Below w.heap.size w w' := by
  have hb := Below.refl w.heap.size w
  have HF := fun (W : World) (hb : Below w.heap.size w W) B h => forms_calls A0 A1 c.length c0 c1 1 l B [s.length] W (Kd.C_below hr1 hb) (by omega) (by omega) h (show 1 ≤ 1000000 by decide) (by simp; omega)
  have HC := fun (W : World) (hb : Below w.heap.size w W) => Within_calls 2097152 (by decide) A0 c0 c W (Kd.C_below hr0 hb) (by omega)
  have HL := fun (W : World) (hb : Below w.heap.size w W) => all_calls 72057594037927936 A2 c2 s W (Kd.C_below hr2 hb) (by omega)
  unfold errS at he ⊢
  obtain ⟨E, hE⟩ : ∃ E, E = formE c.length l [s.length] := ⟨_, rfl⟩
  rw [← hE] at HF he ⊢
  replace HF := Aside0.mk HF
  clear hE hr0 hr1 hr2
  have hcb : (c.length : Int) ≤ 1000000 := by omega
  clear b0 b1 b2
  by_cases h0 : E = 0
  · subst h0
    rw [if_pos rfl] at he ⊢
    cases h1 : rng (-2097152) 2097152 c with
    | false =>
      rw [h1] at HC he
      replace HC := Aside0.mk HC
      replace HL := Aside0.mk HL
      clear h1 he
      go_enter Try.func12, Try.ntmps12
      go_wp2_with fail
      obtain ⟨W, hW⟩ : ∃ W, W = w.alloc (.cells #[.slice A2 s.length c2] 22) := ⟨_, rfl⟩
      rw [← hW]
      have k1 : W.cell? ⟨w.heap.size, 0, none⟩ = some (.slice A2 s.length c2) := by rw [hW]; go_simp
      replace hb : Below w.heap.size w W := by rw [hW]; exact hb.alloc hb.size _
      clear hW
      refine (HF.out W hb _ (lens_one k1)).mono ?_; rintro _ w1 ⟨rfl, hbn⟩; replace k1 := cnx k1 hbn; replace hb := bnx hb hbn; clear hbn
      go_wp2_with (first | (go_at_call 38; refine (HC.out _ hb).mono ?_; rintro e w' ⟨rfl, hbn⟩; replace hb := bnx hb hbn; clear hbn))
      go_ret2
      exact ⟨rfl, hb⟩
    | true =>
      rw [h1] at HC he
      cases h2 : rng 0 72057594037927936 s with
      | true => rw [h2] at he; exact absurd rfl he
      | false =>
      rw [h2] at HL
      replace HC := Aside0.mk HC
      replace HL := Aside0.mk HL
      clear h1 h2 he
      go_enter Try.func12, Try.ntmps12
      go_wp2_with fail
      obtain ⟨W, hW⟩ : ∃ W, W = w.alloc (.cells #[.slice A2 s.length c2] 22) := ⟨_, rfl⟩
      rw [← hW]
      have k1 : W.cell? ⟨w.heap.size, 0, none⟩ = some (.slice A2 s.length c2) := by rw [hW]; go_simp
      replace hb : Below w.heap.size w W := by rw [hW]; exact hb.alloc hb.size _
      clear hW
      refine (HF.out W hb _ (lens_one k1)).mono ?_; rintro _ w1 ⟨rfl, hbn⟩; replace k1 := cnx k1 hbn; replace hb := bnx hb hbn; clear hbn
      go_wp2_with fail
      refine (HC.out _ hb).mono ?_; rintro _ w2 ⟨rfl, hbn⟩; replace k1 := cnx k1 hbn; replace hb := bnx hb hbn; clear hbn
      go_wp2_with (first | (go_at_call 39; refine (HL.out _ hb).mono ?_; rintro e w' ⟨rfl, hbn⟩; replace hb := bnx hb hbn; clear hbn))
      go_ret2
      exact ⟨rfl, hb⟩
  · rw [if_neg h0] at he ⊢
    clear HC HL
    go_enter Try.func12, Try.ntmps12
    go_wp2_with fail
    obtain ⟨W, hW⟩ : ∃ W, W = w.alloc (.cells #[.slice A2 s.length c2] 22) := ⟨_, rfl⟩
    rw [← hW]
    have k1 : W.cell? ⟨w.heap.size, 0, none⟩ = some (.slice A2 s.length c2) := by rw [hW]; go_simp
    replace hb : Below w.heap.size w W := by rw [hW]; exact hb.alloc hb.size _
    clear hW
    refine (HF.out W hb _ (lens_one k1)).mono ?_; rintro _ w1 ⟨rfl, hbn⟩; replace k1 := cnx k1 hbn; replace hb := bnx hb hbn; clear hbn
    have h0' : (E != 0) = true := bne_iff_ne.2 h0
    go_wp2_with fail
    go_ret2
    exact ⟨rfl, hb⟩


set_option maxRecDepth 100000 in
set_option maxHeartbeats 1000000 in
theorem rScales_yes (A0 A1 A2 : Option Addr) (c0 c1 c2 : Nat) (c l s : List Int) (w : World) (hr0 : (Kd.int .i64).C w A0 c.length c) (hr1 : (Kd.int .i64).C w A1 l.length l) (hr2 : (Kd.int .i64).C w A2 s.length s) (hc0 : c.length ≤ c0) (hc9 : c0 ≤ 9223372036854775807)
    (he : errS (-2097152) 2097152 0 72057594037927936 c l s = 0) :
    Calls Try.prog 12 #[.slice A0 c.length c0, .slice A1 l.length c1, .slice A2 s.length c2] w fun e w' => ∃ v, e = .returned (.tuple #[v, .int .i64 0]) ∧ (Kd.int .i64).R 3 w' w.heap.size (fun _ => True) v ((List.range l.length).map fun k => scaleB (band c l k) (rd s k)) ∧ Below w.heap.size w w' := by
  obtain ⟨g0, g1, g2, g3, g4, g5⟩ := errS_zero he
  have hl32 := (isW_iff.1 g0).2.2
  have hb := Below.refl w.heap.size w
  obtain ⟨a, rfl⟩ : ∃ a, A0 = some a := by
    obtain ⟨_, _, h⟩ := hr0
    obtain ⟨a, e, _⟩ := h (by omega)
    exact ⟨a, e⟩
  have HF := fun (W : World) (hb : Below w.heap.size w W) B h => forms_calls (some a) A1 c.length c0 c1 1 l B [s.length] W (Kd.C_below hr1 hb) (by omega) (by omega) h (show 1 ≤ 1000000 by decide) (by simp; omega)
  have HC := fun (W : World) (hb : Below w.heap.size w W) => Within_calls 2097152 (by decide) (some a) c0 c W (Kd.C_below hr0 hb) (by omega)
  have HL := fun (W : World) (hb : Below w.heap.size w W) => all_calls 72057594037927936 A2 c2 s W (Kd.C_below hr2 hb) (by omega)
  rw [g5, g1] at HF
  rw [g3, g1] at HC
  rw [g4] at HL
  have HP := Powers_reads
  have HCut := fun (W : World) (hb : Below w.heap.size w W) => cut_calls (c0 := c0) (cap := c1) (Kd.C_below hr0 hb) g1 (by omega) hc9 g0 (Kd.C_below hr1 hb)
  have HS := fun (W : World) (hb : Below w.heap.size w W) (k : Nat) (hk : k < l.length) => el_at hr2 hb (show k < s.length by omega)
  have HB := fun (k : Nat) (hk : k < l.length) (W : World) (Ap A' : Option Addr) (cp cp' : Nat) (hp : (Kd.int .i64).C W Ap powTab.length powTab) (hbd : (Kd.int .i64).C W A' (band c l k).length (band c l k)) =>
    MostBy_calls Ap A' cp cp' (band c l k) (rd s k) W hp hbd (by rw [band_len g1 g0 hk]; have := off_next g0 hk; omega) (fun n hn => rng_mem g3 (List.mem_of_mem_drop (List.mem_of_mem_take hn)))
  have HFi := fun (k : Nat) (hk : k < l.length) (W : World) (A' : Option Addr) (cp' : Nat) (hbd : (Kd.int .i64).C W A' (band c l k).length (band c l k)) =>
    Finest_calls A' cp' (band c l k) W hbd (by rw [band_len g1 g0 hk]; have := off_next g0 hk; omega) (fun n hn => rng_mem g3 (List.mem_of_mem_drop (List.mem_of_mem_take hn)))
  rw [g1]
  have hsl : (s.length : Int) = l.length := by omega
  obtain ⟨r, hre⟩ : ∃ r : Nat → Int, r = fun k => scaleB (band c l k) (rd s k) := ⟨_, rfl⟩
  obtain ⟨T, hT⟩ : ∃ T, T = powTab.length := ⟨_, rfl⟩
  rw [← hT] at HP
  replace HF := Aside0.mk HF
  replace HC := Aside0.mk HC
  replace HL := Aside0.mk HL
  replace HP := Aside0.mk HP
  replace HCut := Aside0.mk HCut
  replace HS := Aside0.mk HS
  have HB3 : Aside0 (∀ k, k < l.length → ∀ (W : World) (Ap A' : Option Addr) (cp cp' : Nat), (Kd.int .i64).C W Ap T powTab → (Kd.int .i64).C W A' (band c l k).length (band c l k) → Calls Try.prog 42 #[.slice Ap T cp, .slice A' (band c l k).length cp', .int .i64 (rd s k)] W fun e w' => e = .returned (mostT (mostI (band c l k) (rd s k))) ∧ Below W.heap.size W w') := ⟨fun k hk W Ap A' cp cp' h1 h2 => by rw [hT]; exact HB k hk W Ap A' cp cp' (by rw [← hT]; exact h1) h2⟩
  have HFi2 := Aside0.mk HFi
  have HRE : Aside0 (∀ k, r k = scaleB (band c l k) (rd s k)) := ⟨fun k => by rw [hre]⟩
  rw [← hre]
  replace hT := Aside0.mk hT
  have hsI : (l.length : Int) ≤ (s.length : Int) := by omega
  have hlI : (l.length : Int) ≤ 32 := by omega
  clear HB HFi hre hr0 hr1 hr2 hc0 hc9 g0 g1 g2 g3 g4 g5 he hsl hl32
  go_enter Try.func12, Try.ntmps12
  go_wp2_with fail
  obtain ⟨W, hW⟩ : ∃ W, W = w.alloc (.cells #[.slice A2 s.length c2] 22) := ⟨_, rfl⟩
  rw [← hW]
  have k1 : W.cell? ⟨w.heap.size, 0, none⟩ = some (.slice A2 s.length c2) := by rw [hW]; go_simp
  replace hb : Below w.heap.size w W := by rw [hW]; exact hb.alloc hb.size _
  clear hW
  refine (HF.out W hb _ (lens_one k1)).mono ?_; rintro _ w1 ⟨rfl, hbn⟩; replace hb := bnx hb hbn; clear hbn k1
  go_wp2_with fail
  refine (HC.out _ hb).mono ?_; rintro _ w2 ⟨rfl, hbn⟩; replace hb := bnx hb hbn; clear hbn
  go_wp2_with fail
  refine (HL.out _ hb).mono ?_; rintro _ w3 ⟨rfl, hbn⟩; replace hb := bnx hb hbn; clear hbn
  go_wp2_with (first | (go_at_call 40; refine (HP.out _).mono ?_; rintro e w1 ⟨Ap, pp, rfl, hCp, hb1⟩; replace hb := bnx hb hb1; have HPW := Aside0.mk hCp; clear hCp hb1) | (go_at_call 41; refine (HCut.out _ hb).mono ?_; rintro e w2 ⟨Ac, pc, rfl, hK, hb2⟩; replace hb := bnx hb hb2; have HPW2 := Aside0.mk (Kd.C_below HPW.out hb2); have HKL := Aside0.mk hK; clear hK hb2 HPW))
  go_loopw [9, 36] (fun o i wr => ∃ k : Nat, i = .int .i64 k ∧ k ≤ l.length ∧ Aside0 ((Kd.int .i64).R 3 wr w2.heap.size (fun _ => True) o ((List.range k).map r)) ∧ Below w2.heap.size w2 wr) (fun _ i _ => l.length - (intOf i).toNat)
  case atStart => exact ⟨0, rfl, by omega, ⟨Kd.R_nil _ _ _ _ _⟩, Below.refl _ _⟩
  case round =>
    obtain ⟨k, rfl, hk, ho, hbL⟩ := hrel
    by_cases hlt : k < l.length
    · obtain ⟨ad, A', cp, rfl, hcell, hCB⟩ := bands_at HKL.out hbL hlt
      obtain ⟨ads, rfl, hcs⟩ := HS.out _ (bnx hb hbL) k hlt
      have HN := Aside0.mk (HB3.out k hlt wr Ap A' pp cp (Kd.C_below HPW2.out hbL) hCB)
      have HFN := Aside0.mk (fun W2 (hb2 : Below wr.heap.size wr W2) => HFi2.out k hlt W2 A' cp (Kd.C_below hCB hb2))
      have hre2 := HRE.out k
      unfold scaleB at hre2
      obtain ⟨ms, hms⟩ : ∃ ms, ms = mostI (band c l k) (rd s k) := ⟨_, rfl⟩
      rw [← hms] at HN hre2
      obtain ⟨fi, hfi⟩ : ∃ fi, fi = leastI (band c l k) := ⟨_, rfl⟩
      rw [← hfi] at HFN hre2
      have hkI : (k : Int) < (l.length : Int) := by omega
      have hks : (k : Int) < (s.length : Int) := by omega
      have HT : Aside0 ((List.range (k + 1)).map r = (List.range k).map r ++ [r k]) := ⟨by rw [List.range_succ, List.map_append]; rfl⟩
      obtain ⟨y, hy⟩ : ∃ y, y = (List.range k).map r := ⟨_, rfl⟩
      have hyl : y.length ≤ 32 := by rw [hy]; simp; omega
      rw [← hy] at ho HT
      obtain ⟨z, hz⟩ : ∃ z, z = r k := ⟨_, rfl⟩
      rw [← hz] at hre2 HT
      obtain ⟨x, hx⟩ : ∃ x, x = rd s k := ⟨_, rfl⟩
      rw [← hx] at HN hcs
      obtain ⟨n, hn⟩ : ∃ n, n = (band c l k).length := ⟨_, rfl⟩
      rw [← hn] at HN HFN hcell
      clear hy hz hx hn hCB hms hfi
      have HO := ho
      have hbW := Below.refl wr.heap.size wr
      cases ms with
      | some m =>
        rw [show mostT (some m) = .tuple #[.int .i64 m, .bool true] from rfl] at HN
        subst hre2
        go_wp2_with (first | (go_at_call 42; refine HN.out.mono ?_; rintro e w' ⟨rfl, hb1⟩; have HO1 := Aside0.mk (Kd.R_below ho.out hb1); have HB1 := Aside0.mk (bnx hbL hb1); clear ho HO hb1 hbL) | (at_builtin; refine Kd.R_append (Kd.int .i64) (w0 := w2) w2.heap.size rfl (.tmp 55) (.tmp 57) 22 3 (.int .i64 0) 8 rfl Try.underlying22 info_int rfl (by decide) (by omega) u9 y (z) [.int .i64 (z)] (fun _ => True) (fun _ => False) rfl rfl rfl (fun _ hk => hk.elim) (fun _ _ => trivial) HO1.out HB1.out HB1.out.size (by omega) ?_; intro v1 wA hoA hbA hgA hatA; have HOA := Aside0.mk hoA; have HBA := Aside0.mk hbA; clear hoA hbA hgA hatA))
        go_roundw
        case rel => exact ⟨k + 1, by go_num, by omega, ⟨by rw [HT.out]; exact HOA.out⟩, HBA.out⟩
        case measure => simp [intOf]; omega
      | none =>
        rw [show mostT none = .tuple #[.int .i64 0, .bool false] from rfl] at HN
        subst hre2
        go_wp2_with (first | (go_at_call 42; refine HN.out.mono ?_; rintro e w' ⟨rfl, hb1⟩; replace hbW := bnx hbW hb1; clear hb1) | (go_at_call 43; refine (HFN.out _ hbW).mono ?_; rintro e w' ⟨rfl, hb1⟩; replace hbW := bnx hbW hb1; have HO1 := Aside0.mk (Kd.R_below ho.out hbW); have HB1 := Aside0.mk (bnx hbL hbW); clear ho HO hb1 hbL hbW) | (at_builtin; refine Kd.R_append (Kd.int .i64) (w0 := w2) w2.heap.size rfl (.tmp 55) (.tmp 57) 22 3 (.int .i64 0) 8 rfl Try.underlying22 info_int rfl (by decide) (by omega) u9 y (z) [.int .i64 (z)] (fun _ => True) (fun _ => False) rfl rfl rfl (fun _ hk => hk.elim) (fun _ _ => trivial) HO1.out HB1.out HB1.out.size (by omega) ?_; intro v1 wA hoA hbA hgA hatA; have HOA := Aside0.mk hoA; have HBA := Aside0.mk hbA; clear hoA hbA hgA hatA))
        go_roundw
        case rel => exact ⟨k + 1, by go_num, by omega, ⟨by rw [HT.out]; exact HOA.out⟩, HBA.out⟩
        case measure => simp [intOf]; omega
    · obtain rfl : k = l.length := by omega
      go_wp2
      go_ret2
      exact ⟨_, rfl, Kd.R_lower ho.out hb.size, bnx hb hbL⟩

end Go.Proofs.Ytljadjoljhanfaa.Q16
