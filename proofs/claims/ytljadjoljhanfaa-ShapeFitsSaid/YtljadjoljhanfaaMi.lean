/- What the reference's above returns. -/
import Derived.Test.YtljadjoljhanfaaMd
import Derived.Test.YtljadjoljhanfaaMg
import Derived.Test.YtljadjoljhanfaaMh
import Derived.WalkKit
import Derived.WalkSpells
import Derived.WalkLawsBesides
import Derived.KernelRfl
import Derived.Deep.RegionHeld3
import Derived.Deep.LoopGhost
import Derived.Deep.AppendLies
import Derived.Laws.Rows
import Derived.Shelf.GgClosure.Gives
import Derived.Test.YtljadjoljhanfaaWWords
import Derived.Test.YtljadjoljhanfaaWLast
import Derived.Test.YtljadjoljhanfaaWMore
import Derived.Test.YtljadjoljhanfaaMe
import Derived.Test.YtljadjoljhanfaaMc
set_option linter.unusedVariables false
set_option linter.unusedSimpArgs false
namespace Go.Proofs.Ytljadjoljhanfaa.Q16
open Go.RowKit Go.Proofs.YtljadjoljhanfaaW.PrintWords Go.Proofs.YtljadjoljhanfaaW.PrintLast Go.Proofs.YtljadjoljhanfaaW.PrintMore
attribute [local go_sem] max2_int min2_int max_two min_two max_three min_three
open Go.Proofs.Ytljadjoljhanfaa.Q15

/-- Whether the noise of each band is above its limit. -/
def isAb (c l s m : List Int) (k : Nat) : Bool := decide (rd m k < noiseR (band c l k) (rd s k))

theorem info_bool : (Try.prog.info? 4).map (fun i => (i.zero, i.size, i.bytes)) = some (some (.bool false), 1, 1) := by kernel_rfl

theorem R_other {α β : Type} {d : α → Value} {h1 : ∀ x, (d x).oneCell' = true} {d2 : β → Value} {h2 : ∀ x, (d2 x).oneCell' = true} {e e2 base : Nat} {W W' : World} {v v2 : Value} {xs : List α} {ys : List β} (hne : e ≠ e2)
    (h : (Kd.scalar d h1).R e W base (fun _ => True) v xs) (h' : (Kd.scalar d2 h2).R e2 W base (fun _ => True) v2 ys) (hg : W.grownBy W' v2.ownBlock) : (Kd.scalar d h1).R e W' base (fun _ => True) v xs :=
  Kd.R_mono (Kd.R_grown (Kd.R_bound h) hg (fun k hk he => by
    obtain ⟨_, _, _, q, hq, cells, hc⟩ := hk
    obtain ⟨_, _, _, q2, hq2, cells2, hc2⟩ := (Kd.R_bound h').1 k he.symm
    rw [hc] at hc2
    injection hc2 with hc2
    injection hc2 with _ hc2
    rcases List.mem_cons.1 hq with rfl | hq
    · rcases List.mem_cons.1 hq2 with rfl | hq2
      · exact hne hc2
      · cases hq2
    · cases hq)) (fun _ _ => trivial)

set_option maxRecDepth 100000 in
set_option maxHeartbeats 4000000 in
theorem above_no (A0 A1 A2 A3 : Option Addr) (c0 c1 c2 c3 : Nat) (c l s m : List Int) (w : World) (hr0 : (Kd.int .i64).C w A0 c.length c) (hr1 : (Kd.int .i64).C w A1 l.length l) (hr2 : (Kd.int .i64).C w A2 s.length s) (hr3 : (Kd.int .i64).C w A3 m.length m) (b0 : c.length ≤ 1000000) (b1 : l.length ≤ 1000000) (b2 : s.length ≤ 1000000) (b3 : m.length ≤ 1000000) (hc0 : c.length ≤ c0) (hc9 : c0 ≤ 9223372036854775807)
    (he : errX c l s m ≠ 0) :
    Calls Try.prog 58 #[.slice A0 c.length c0, .slice A1 l.length c1, .slice A2 s.length c2, .slice A3 m.length c3] w fun e w' => e = .returned (.tuple #[.slice none 0 0, .slice none 0 0, .int .i64 (errX c l s m)]) ∧ Below w.heap.size w w' := by
  have hb := Below.refl w.heap.size w
  have HF := fun (W : World) (hb : Below w.heap.size w W) B h => forms_calls A0 A1 c.length c0 c1 2 l B [s.length, m.length] W (Kd.C_below hr1 hb) (by omega) (by omega) h (show 2 ≤ 1000000 by decide) (by simp; omega)
  have HA := fun (W : World) (hb : Below w.heap.size w W) => all_calls 72057594037927936 A3 c3 m W (Kd.C_below hr3 hb) (by omega)
  have HNn := fun (W : World) (hb : Below w.heap.size w W) => rNoises_no A0 A1 A2 c0 c1 c2 c l s W (Kd.C_below hr0 hb) (Kd.C_below hr1 hb) (Kd.C_below hr2 hb) b0 b1 b2
  have HNy := fun (W : World) (hb : Below w.heap.size w W) => rNoises_yes A0 A1 A2 c0 c1 c2 c l s W (Kd.C_below hr0 hb) (Kd.C_below hr1 hb) (Kd.C_below hr2 hb) hc0 hc9
  by_cases h0 : formE c.length l [s.length, m.length] = 0
  · obtain ⟨q0, q1, q2, q3⟩ := formE_two h0
    have h1 : formE c.length l [s.length] = 0 := by
      unfold formE
      rw [if_pos q0, if_pos q1, if_pos (by simp [q2])]
    have hv : errX c l s m = 6 := by
      unfold errX at he ⊢
      rw [if_pos h0] at he ⊢
      split at he
      · exact absurd rfl he
      · rename_i hx; rw [if_neg hx]
    rw [hv]
    rw [h0] at HF
    by_cases hs : errS (-2097152) 2097152 0 95 c l s = 0
    · have hm : rng 0 72057594037927936 m = false := by
        obtain ⟨_, _, _, p3, p4, _⟩ := errS_zero hs
        unfold errX at hv
        rw [if_pos h0, p3, p4] at hv
        cases hm : rng 0 72057594037927936 m with
        | false => rfl
        | true => rw [hm] at hv; cases hv
      rw [hm] at HA
      have HN := Aside0.mk (fun W hb => HNy W hb hs)
      replace HF := Aside0.mk HF
      replace HA := Aside0.mk HA
      clear HNn HNy hs hm hv h0 h1 q0 q1 q2 q3 he hr0 hr1 hr2 hr3 b0 b1 b2 b3 hc0 hc9
      go_enter Try.func58, Try.ntmps58
      go_wp2_with fail
      obtain ⟨W, hW⟩ : ∃ W, W = w.alloc (.cells #[.slice A2 s.length c2, .slice A3 m.length c3] 22) := ⟨_, rfl⟩
      rw [← hW]
      have k1 : W.cell? ⟨w.heap.size, 0, none⟩ = some (.slice A2 s.length c2) := by rw [hW]; go_simp
      have k2 : W.cell? ⟨w.heap.size, 1, none⟩ = some (.slice A3 m.length c3) := by rw [hW]; go_simp
      replace hb : Below w.heap.size w W := by rw [hW]; exact hb.alloc hb.size _
      clear hW
      refine (HF.out W hb _ (lens_two k1 k2)).mono ?_; rintro _ w1 ⟨rfl, hbn⟩; replace hb := bnx hb hbn; clear hbn k1 k2
      go_wp2_with fail
      refine (HN.out _ hb).mono ?_; rintro _ w2 ⟨v, rfl, hR, hbn⟩; replace hb := bnx hb hbn
      obtain ⟨A5, p5, rfl, _, _⟩ := Kd.R_reads hR
      clear hbn hR
      go_wp2_with (first | (go_at_call 39; refine (HA.out _ hb).mono ?_; rintro e w' ⟨rfl, hbn⟩; replace hb := bnx hb hbn; clear hbn))
      go_ret3
      exact ⟨rfl, hb⟩
    · have hs6 : errS (-2097152) 2097152 0 95 c l s = 6 := by
        unfold errS at hs ⊢
        rw [if_pos h1] at hs ⊢
        split
        · rename_i hx
          rw [if_pos hx] at hs
          split
          · rename_i hy; rw [if_pos hy] at hs; exact absurd rfl hs
          · rfl
        · rfl
      have HN := fun W hb => HNn W hb hs
      rw [hs6] at HN
      replace HN := Aside0.mk HN
      replace HF := Aside0.mk HF
      clear HNn HNy hs hs6 hv h0 h1 q0 q1 q2 q3 he hr0 hr1 hr2 hr3 b0 b1 b2 b3 hc0 hc9 HA
      go_enter Try.func58, Try.ntmps58
      go_wp2_with fail
      obtain ⟨W, hW⟩ : ∃ W, W = w.alloc (.cells #[.slice A2 s.length c2, .slice A3 m.length c3] 22) := ⟨_, rfl⟩
      rw [← hW]
      have k1 : W.cell? ⟨w.heap.size, 0, none⟩ = some (.slice A2 s.length c2) := by rw [hW]; go_simp
      have k2 : W.cell? ⟨w.heap.size, 1, none⟩ = some (.slice A3 m.length c3) := by rw [hW]; go_simp
      replace hb : Below w.heap.size w W := by rw [hW]; exact hb.alloc hb.size _
      clear hW
      refine (HF.out W hb _ (lens_two k1 k2)).mono ?_; rintro _ w1 ⟨rfl, hbn⟩; replace hb := bnx hb hbn; clear hbn k1 k2
      go_wp2_with (first | (go_at_call 19; refine (HN.out _ hb).mono ?_; rintro e w' ⟨rfl, hbn⟩; replace hb := bnx hb hbn; clear hbn))
      go_ret3
      exact ⟨rfl, hb⟩
  · have hv : errX c l s m = formE c.length l [s.length, m.length] := if_neg h0
    rw [hv]
    obtain ⟨E, hE⟩ : ∃ E, E = formE c.length l [s.length, m.length] := ⟨_, rfl⟩
    rw [← hE] at HF h0 ⊢
    have h0' : (E != 0) = true := bne_iff_ne.2 h0
    replace HF := Aside0.mk HF
    clear HNn HNy hv h0 he hr0 hr1 hr2 hr3 b0 b1 b2 b3 hc0 hc9 HA hE
    go_enter Try.func58, Try.ntmps58
    go_wp2_with fail
    obtain ⟨W, hW⟩ : ∃ W, W = w.alloc (.cells #[.slice A2 s.length c2, .slice A3 m.length c3] 22) := ⟨_, rfl⟩
    rw [← hW]
    have k1 : W.cell? ⟨w.heap.size, 0, none⟩ = some (.slice A2 s.length c2) := by rw [hW]; go_simp
    have k2 : W.cell? ⟨w.heap.size, 1, none⟩ = some (.slice A3 m.length c3) := by rw [hW]; go_simp
    replace hb : Below w.heap.size w W := by rw [hW]; exact hb.alloc hb.size _
    clear hW
    refine (HF.out W hb _ (lens_two k1 k2)).mono ?_; rintro _ w1 ⟨rfl, hbn⟩; replace hb := bnx hb hbn; clear hbn k1 k2
    go_wp2_with fail
    go_ret3
    exact ⟨rfl, hb⟩

end Go.Proofs.Ytljadjoljhanfaa.Q16
/- What the reference's above returns: of bands with scales and limits. -/
namespace Go.Proofs.Ytljadjoljhanfaa.Q16
open Go.RowKit Go.Proofs.YtljadjoljhanfaaW.PrintWords Go.Proofs.YtljadjoljhanfaaW.PrintLast Go.Proofs.YtljadjoljhanfaaW.PrintMore
attribute [local go_sem] max2_int min2_int max_two min_two max_three min_three
open Go.Proofs.Ytljadjoljhanfaa.Q15

set_option maxRecDepth 100000 in
set_option maxHeartbeats 4000000 in
theorem above_yes (A0 A1 A2 A3 : Option Addr) (c0 c1 c2 c3 : Nat) (c l s m : List Int) (w : World) (hr0 : (Kd.int .i64).C w A0 c.length c) (hr1 : (Kd.int .i64).C w A1 l.length l) (hr2 : (Kd.int .i64).C w A2 s.length s) (hr3 : (Kd.int .i64).C w A3 m.length m) (hc0 : c.length ≤ c0) (hc9 : c0 ≤ 9223372036854775807)
    (he : errX c l s m = 0) :
    Calls Try.prog 58 #[.slice A0 c.length c0, .slice A1 l.length c1, .slice A2 s.length c2, .slice A3 m.length c3] w fun e w' => ∃ v u, e = .returned (.tuple #[v, u, .int .i64 0]) ∧ (Kd.int .i64).R 3 w' w.heap.size (fun _ => True) v ((List.range l.length).map (exc c l s m)) ∧ Kd.bool.R 4 w' w.heap.size (fun _ => True) u ((List.range l.length).map (isAb c l s m)) ∧ Below w.heap.size w w' := by
  obtain ⟨g0, g1, g2, g6, g3, g4, g7, g5⟩ := errX_zero he
  have hl32 := (isW_iff.1 g0).2.2
  have hb := Below.refl w.heap.size w
  obtain ⟨a, rfl⟩ : ∃ a, A0 = some a := by
    obtain ⟨_, _, h⟩ := hr0
    obtain ⟨a, e, _⟩ := h (by omega)
    exact ⟨a, e⟩
  have h1 : formE c.length l [s.length] = 0 := by
    unfold formE
    rw [if_pos g0, if_pos g1, if_pos (by simp [g2])]
  have hs : errS (-2097152) 2097152 0 95 c l s = 0 := by
    unfold errS
    rw [if_pos h1, g3, g4]
    rfl
  have HF := fun (W : World) (hb : Below w.heap.size w W) B h => forms_calls (some a) A1 c.length c0 c1 2 l B [s.length, m.length] W (Kd.C_below hr1 hb) (by omega) (by omega) h (show 2 ≤ 1000000 by decide) (by simp; omega)
  have HA := fun (W : World) (hb : Below w.heap.size w W) => all_calls 72057594037927936 A3 c3 m W (Kd.C_below hr3 hb) (by omega)
  have HN := fun (W : World) (hb : Below w.heap.size w W) => rNoises_yes (some a) A1 A2 c0 c1 c2 c l s W (Kd.C_below hr0 hb) (Kd.C_below hr1 hb) (Kd.C_below hr2 hb) hc0 hc9 hs
  have HS := fun (W : World) (hb : Below w.heap.size w W) (k : Nat) (hk : k < l.length) => el_at hr3 hb (show k < m.length by omega)
  have HMB : ∀ k, k < l.length → 0 ≤ rd m k ∧ rd m k ≤ 72057594037927936 := fun k hk => rng_mem g7 (rd_mem m k (by omega))
  have HNB : ∀ k, k < l.length → 0 ≤ noiseR (band c l k) (rd s k) ∧ noiseR (band c l k) (rd s k) ≤ 1152921504606846976 := fun k hk => by
    have hsk := rng_mem g4 (rd_mem s k (by omega))
    unfold noiseR
    rw [if_pos (chk_band g3 g0 g1 hk hsk)]
    have h := noiseI_bd (x := stepI (rd s k)) (by have := stepI_bd hsk.1 hsk.2; omega) (band c l k) (fun n hn => rng_mem g3 (List.mem_of_mem_drop (List.mem_of_mem_take hn)))
    have h2 := band_len g1 g0 hk
    have := off_next g0 hk
    omega
  rw [g5, g1] at HF
  rw [g7] at HA
  rw [g1] at HN
  rw [g1]
  obtain ⟨z, hz⟩ : ∃ z : Nat → Int, z = fun k => noiseR (band c l k) (rd s k) := ⟨_, rfl⟩
  rw [← hz] at HN
  have HZB : Aside0 (∀ k, k < l.length → 0 ≤ z k ∧ z k ≤ 1152921504606846976) := ⟨fun k hk => by rw [hz]; exact HNB k hk⟩
  obtain ⟨r, hre⟩ : ∃ r, r = exc c l s m := ⟨_, rfl⟩
  have HRV : Aside0 (∀ k, r k = logI (z k + 1) - logI (rd m k + 1)) := ⟨fun k => by rw [hre, hz]; rfl⟩
  obtain ⟨t, hte⟩ : ∃ t, t = isAb c l s m := ⟨_, rfl⟩
  have HTV : Aside0 (∀ k, t k = decide (rd m k < z k)) := ⟨fun k => by rw [hte, hz]; rfl⟩
  rw [← hre, ← hte]
  have HN2 : Aside0 (∀ (W : World), Below w.heap.size w W → Calls Try.prog 19 #[.slice (some a) 128 c0, .slice A1 l.length c1, .slice A2 s.length c2] W fun e w' => ∃ A p, e = .returned (.tuple #[.slice A l.length p, .int .i64 0]) ∧ (∀ k, k < l.length → ∃ ad, A = some ad ∧ w'.cell? (ad.add k) = some (.int .i64 (z k))) ∧ Below W.heap.size W w') := ⟨fun W hb => (HN W hb).mono (fun e w' ⟨v, hv, hR, hb⟩ => by
    obtain ⟨A, p, rfl, _, hC⟩ := Kd.R_reads hR
    rw [List.length_map, List.length_range] at hv hC
    refine ⟨A, p, hv, fun k hk => ?_, hb⟩
    have h := el_at (w1 := w') (l := (List.range l.length).map z) (by rw [List.length_map, List.length_range]; exact hC) (Below.refl _ _) (k := k) (by rw [List.length_map, List.length_range]; exact hk)
    rw [rd_range z l.length k hk] at h
    exact h)⟩
  replace HF := Aside0.mk HF
  replace HA := Aside0.mk HA
  replace HS := Aside0.mk HS
  replace HMB := Aside0.mk HMB
  have hml : (l.length : Int) ≤ (m.length : Int) := by omega
  have hlI : (l.length : Int) ≤ 32 := by omega
  have hmo : Try.prog.follows .mixedOrders = true := by kernel_rfl
  have HMO := Aside0.mk hmo
  clear hr0 hr1 hr2 hr3 hre hz hte HN HNB g0 g1 g2 g3 g4 g5 g6 g7 he hc0 hc9 hl32 hmo h1 hs
  go_enter Try.func58, Try.ntmps58
  go_wp2_with fail
  obtain ⟨W, hW⟩ : ∃ W, W = w.alloc (.cells #[.slice A2 s.length c2, .slice A3 m.length c3] 22) := ⟨_, rfl⟩
  rw [← hW]
  have k1 : W.cell? ⟨w.heap.size, 0, none⟩ = some (.slice A2 s.length c2) := by rw [hW]; go_simp
  have k2 : W.cell? ⟨w.heap.size, 1, none⟩ = some (.slice A3 m.length c3) := by rw [hW]; go_simp
  replace hb : Below w.heap.size w W := by rw [hW]; exact hb.alloc hb.size _
  clear hW
  refine (HF.out W hb _ (lens_two k1 k2)).mono ?_; rintro _ w1 ⟨rfl, hbn⟩; replace hb := bnx hb hbn; clear hbn k1 k2
  go_wp2_with fail
  refine (HN2.out _ hb).mono ?_; rintro _ w2 ⟨A5, p5, rfl, hCN, hbn⟩; replace hb := bnx hb hbn
  replace hCN := Aside0.mk hCN
  clear hbn
  go_wp2_with fail
  refine (HA.out _ hb).mono ?_; rintro _ w3 ⟨rfl, hbn⟩; replace hb := bnx hb hbn
  have HCN : Aside0 (∀ k, k < l.length → ∃ ad, A5 = some ad ∧ w3.cell? (ad.add k) = some (.int .i64 (z k))) := ⟨fun k hk => by
    obtain ⟨ad, e, h⟩ := hCN.out k hk
    exact ⟨ad, e, cnx h hbn⟩⟩
  clear hbn hCN
  go_wp2_with fail
  go_loopw [14, 15, 43] (fun o u i wr => ∃ k : Nat, i = .int .i64 k ∧ k ≤ l.length ∧ Aside0 ((Kd.int .i64).R 3 wr w3.heap.size (fun _ => True) o ((List.range k).map r)) ∧ Aside0 (Kd.bool.R 4 wr w3.heap.size (fun _ => True) u ((List.range k).map t)) ∧ Below w3.heap.size w3 wr) (fun _ _ i _ => l.length - (intOf i).toNat)
  case atStart => exact ⟨0, rfl, by omega, ⟨Kd.R_nil _ _ _ _ _⟩, ⟨Kd.R_nil _ _ _ _ _⟩, Below.refl _ _⟩
  case round =>
    obtain ⟨k, rfl, hk, ho, hu, hbL⟩ := hrel
    by_cases hlt : k < l.length
    · obtain ⟨ad, rfl, hcN⟩ := HCN.out k hlt
      replace hcN := cnx hcN hbL
      obtain ⟨ad3, rfl, hcM⟩ := HS.out wr (bnx hb hbL) k hlt
      have hblk : Aside0 ((ad3.add k).block < w3.heap.size) := ⟨by
        obtain ⟨ad4, e4, h4⟩ := HS.out w (Below.refl _ _) k hlt
        cases e4
        exact Nat.lt_of_lt_of_le (World.block_lt_of_cell? w _ h4) hb.size⟩
      have hkI : (k : Int) < (l.length : Int) := by omega
      have hks : (k : Int) < (m.length : Int) := by omega
      have HT : Aside0 ((List.range (k + 1)).map r = (List.range k).map r ++ [r k]) := ⟨by rw [List.range_succ, List.map_append]; rfl⟩
      have HT2 : Aside0 ((List.range (k + 1)).map t = (List.range k).map t ++ [t k]) := ⟨by rw [List.range_succ, List.map_append]; rfl⟩
      have hzb := HZB.out k hlt
      have hyb := HMB.out k hlt
      have hrv := HRV.out k
      have htv := HTV.out k
      obtain ⟨q, hq⟩ : ∃ q, q = (List.range k).map r := ⟨_, rfl⟩
      have hql : q.length ≤ 32 := by rw [hq]; simp; omega
      rw [← hq] at ho HT
      obtain ⟨p, hp⟩ : ∃ p, p = (List.range k).map t := ⟨_, rfl⟩
      have hpl : p.length ≤ 32 := by rw [hp]; simp; omega
      rw [← hp] at hu HT2
      obtain ⟨v, hv⟩ : ∃ v, v = r k := ⟨_, rfl⟩
      rw [← hv] at HT hrv
      obtain ⟨x, hx⟩ : ∃ x, x = z k := ⟨_, rfl⟩
      rw [← hx] at hcN hzb hrv htv
      obtain ⟨y, hy⟩ : ∃ y, y = rd m k := ⟨_, rfl⟩
      rw [← hy] at hcM hyb hrv htv
      rw [htv] at HT2
      have HY := Aside0.mk hy
      have l1 := logI_bd (n := x + 1) (by omega) (by omega)
      have l2 := logI_bd (n := y + 1) (by omega) (by omega)
      have HL1 := fun (W : World) => Level_calls (x + 1) W (by omega) (by omega)
      have HL2 := fun (W : World) => Level_calls (y + 1) W (by omega) (by omega)
      obtain ⟨lx, hlx⟩ : ∃ lx, lx = logI (x + 1) := ⟨_, rfl⟩
      rw [← hlx] at l1 hrv HL1
      obtain ⟨ly, hly⟩ : ∃ ly, ly = logI (y + 1) := ⟨_, rfl⟩
      rw [← hly] at l2 hrv HL2
      have hsum : IntKind.i64.wrap (lx - ly) = v := by rw [hrv]; exact IntWalk.i64_in _ (by omega)
      have hsx : IntKind.i64.wrap (x + 1) = x + 1 := IntWalk.i64_in _ (by omega)
      have hsy : IntKind.i64.wrap (y + 1) = y + 1 := IntWalk.i64_in _ (by omega)
      replace HL1 := Aside0.mk HL1
      replace HL2 := Aside0.mk HL2
      have hbase := hb.size
      clear hq hp hv hx hy hzb hyb l1 l2 hlx hly hrv htv
      go_wp2_with fail
      refine wp_region_last_drew (S := fun w' => w'.cell? (ad3.add k) = some (.int .i64 y)) (ds := [13]) HMO.out hcM (fun hHeld => ?_)
      (refine wpAnyLast_take (i := 0) (v := u14) rfl (by kernel_rfl) (by kernel_rfl) (by kernel_rfl) (by kernel_rfl) (by kernel_rfl) (fun _ _ _ h => h) (Or.inl ⟨by rfl, fun wS hS => by (try dsimp only at hS); go_simp⟩) hHeld ?_; simp only [Act.put, List.setIfInBounds_toArray, List.set_cons_zero, List.set_cons_succ])
      (refine wpAnyLast_take (i := 1) (v := .int .i64 x) rfl (by kernel_rfl) (by kernel_rfl) (by kernel_rfl) (by kernel_rfl) (by kernel_rfl) (fun _ _ _ h => h) (Or.inl ⟨by rfl, fun wS hS => by (try dsimp only at hS); go_simp⟩) hHeld ?_; simp only [Act.put, List.setIfInBounds_toArray, List.set_cons_zero, List.set_cons_succ])
      (refine wpAnyLast_take (i := 2) (v := .int .i64 (x + 1)) rfl (by kernel_rfl) (by kernel_rfl) (by kernel_rfl) (by kernel_rfl) (by kernel_rfl) (fun _ _ _ h => h) (Or.inl ⟨by rfl, fun wS hS => by (try dsimp only at hS); go_simp⟩) hHeld ?_; simp only [Act.put, List.setIfInBounds_toArray, List.set_cons_zero, List.set_cons_succ])
      (refine wpAnyLast_take (i := 4) (v := .slice (some ad3) m.length c3) rfl (by kernel_rfl) (by kernel_rfl) (by kernel_rfl) (by kernel_rfl) (by kernel_rfl) (fun _ _ _ h => h) (Or.inl ⟨by rfl, fun wS hS => by (try dsimp only at hS); go_simp⟩) hHeld ?_; simp only [Act.put, List.setIfInBounds_toArray, List.set_cons_zero, List.set_cons_succ])
      (refine wpAnyLast_take (i := 5) (v := .int .i64 k) rfl (by kernel_rfl) (by kernel_rfl) (by kernel_rfl) (by kernel_rfl) (by kernel_rfl) (fun _ _ _ h => h) (Or.inl ⟨by rfl, fun wS hS => by (try dsimp only at hS); go_simp⟩) hHeld ?_; simp only [Act.put, List.setIfInBounds_toArray, List.set_cons_zero, List.set_cons_succ])
      (refine wpAnyLast_take (i := 6) (v := .pointer (some (ad3.add k))) rfl (by kernel_rfl) (by kernel_rfl) (by kernel_rfl) (by kernel_rfl) (by kernel_rfl) (fun _ _ _ h => h) (Or.inl ⟨by rfl, fun wS hS => by (try dsimp only at hS); go_simp⟩) hHeld ?_; simp only [Act.put, List.setIfInBounds_toArray, List.set_cons_zero, List.set_cons_succ])
      (refine wpAnyLast_take (i := 7) (v := .int .i64 y) rfl (by kernel_rfl) (by kernel_rfl) (by kernel_rfl) (by kernel_rfl) (by kernel_rfl) (fun _ _ _ h => h) (Or.inl ⟨by rfl, fun wS hS => by (try dsimp only at hS); go_simp⟩) hHeld ?_; simp only [Act.put, List.setIfInBounds_toArray, List.set_cons_zero, List.set_cons_succ])
      (refine wpAnyLast_take (i := 8) (v := .int .i64 (y + 1)) rfl (by kernel_rfl) (by kernel_rfl) (by kernel_rfl) (by kernel_rfl) (by kernel_rfl) (fun _ _ _ h => h) (Or.inl ⟨by rfl, fun wS hS => by (try dsimp only at hS); go_simp⟩) hHeld ?_; simp only [Act.put, List.setIfInBounds_toArray, List.set_cons_zero, List.set_cons_succ])
      (refine wpAnyLast_ready (rs := [3]) (by kernel_rfl) (by simp) ?_; refine AllReadyL.cons rfl (by decide) (fun K hK => ?_) AllReadyL.nil)
      go_simp
      refine (HL1.out _).mono ?_
      rintro e w7 ⟨rfl, hb7⟩
      have hbd : Below wr.heap.size wr wr.drew := (Below.refl _ _).drew
      replace hb7 := bnx hbd hb7
      (go_wp2_with fail; refine hK.out _ _ (cnx hcM hb7) (fun hHeld => ?_); clear hK K; try simp only [Act.put, List.setIfInBounds_toArray, List.set_cons_zero, List.set_cons_succ])
      (refine wpAnyLast_ready (rs := [9]) (by kernel_rfl) (by simp) ?_; refine AllReadyL.cons rfl (by decide) (fun K hK => ?_) AllReadyL.nil)
      go_simp
      refine (HL2.out _).mono ?_
      rintro e w8 ⟨rfl, hb8⟩
      replace hb8 := bnx hb7 hb8
      clear hb7 hbd
      (go_wp2_with fail; refine hK.out _ _ (cnx hcM hb8) (fun hHeld => ?_); clear hK K; try simp only [Act.put, List.setIfInBounds_toArray, List.set_cons_zero, List.set_cons_succ])
      have hR8 := Kd.R_below ho.out hb8
      have hU8 := Kd.R_below hu.out hb8
      have hc8 := cnx hcN hb8
      have hcM8 := cnx hcM hb8
      replace hb8 := bnx hbL hb8
      clear hcM hcN hbL ho hu
      (refine wpAnyLast_ready (rs := [10]) (by kernel_rfl) (by simp) ?_; refine AllReadyL.cons rfl (by decide) (fun K hK => ?_) AllReadyL.nil)
      go_simp
      (go_wp2_with fail; refine hK.out _ _ (hHeld) (fun hHeld => ?_); clear hK K; try simp only [Act.put, List.setIfInBounds_toArray, List.set_cons_zero, List.set_cons_succ])
      (refine wpAnyLast_ready (rs := [11]) (by kernel_rfl) (by simp) ?_; refine AllReadyL.cons rfl (by decide) (fun K hK => ?_) AllReadyL.nil)
      go_simp
      (go_wp2_with fail; refine hK.out _ _ (cell_alloc_l _ hHeld) (fun hHeld => ?_); clear hK K; try simp only [Act.put, List.setIfInBounds_toArray, List.set_cons_zero, List.set_cons_succ])
      (refine wpAnyLast_ready (rs := [12]) (by kernel_rfl) (by simp) ?_; refine AllReadyL.cons rfl (by decide) (fun K hK => ?_) AllReadyL.nil)
      refine Kd.R_append_step (Kd.int .i64) (w0 := w3) w3.heap.size rfl (.tmp 48) (.tmp 59) 22 3 (.int .i64 0) 8 rfl Try.underlying22 info_int rfl (by decide) (by decide) u14 q v [.int .i64 v] (fun _ => True) (fun _ => False) rfl rfl rfl (fun _ hk => hk.elim) (fun _ _ => trivial) hR8 hb8 hb8.size (by omega) ?_
      intro v1 w9 hR9 hB9 hg9 hat9
      have hU9 := Aside0.mk (R_other (by decide) hU8 hR8 hg9)
      have hcM9 : w9.cell? (ad3.add k) = some (.int .i64 y) := by
        obtain ⟨ad4, e4, h4⟩ := HS.out w9 (bnx hb hB9) k hlt
        cases e4
        rw [HY.out]
        exact h4
      replace hR9 := Aside0.mk hR9
      replace hB9 := Aside0.mk hB9
      clear hg9 hat9 hR8 hU8 hb8 hHeld hcM8 hc8
      (go_wp2_with fail; refine hK.out _ _ (hcM9) (fun hHeld => ?_); clear hK K; try simp only [Act.put, List.setIfInBounds_toArray, List.set_cons_zero, List.set_cons_succ])
      (refine wpAnyLast_ready (rs := [13]) (by kernel_rfl) (by simp) ?_; refine AllReadyL.cons_last rfl (by decide) (fun K hK => ?_) AllReadyL.nil)
      go_simp
      go_wp2_with fail
      refine hK.out _ _ ?_
      clear hK K
      try simp only [Act.put, List.setIfInBounds_toArray, List.set_cons_zero, List.set_cons_succ]
      refine wpAnyLast_done (by kernel_rfl) ?_ _
      go_wp2_with (first | (at_builtin; refine Kd.R_append Kd.bool (w0 := w3) w3.heap.size rfl (.tmp 61) (.tmp 68) 63 4 (.bool false) 1 rfl Try.underlying63 info_bool rfl (by decide) (by decide) u15 p (decide (y < x)) [.bool (decide (y < x))] (fun _ => True) (fun _ => False) rfl rfl rfl (fun _ hk => hk.elim) (fun _ _ => trivial) hU9.out hB9.out hB9.out.size (by omega) ?_; intro v2 wB hoB hbB hgB hatB; have HOB := Aside0.mk hoB; have HBB := Aside0.mk hbB; have HRB := Aside0.mk (R_other (by decide) hR9.out hU9.out hgB); clear hoB hbB hgB hatB))
      go_roundw
      case rel => exact ⟨k + 1, by go_num, by omega, ⟨by rw [HT.out]; exact HRB.out⟩, ⟨by rw [HT2.out]; exact HOB.out⟩, HBB.out⟩
      case measure => simp [intOf]; omega
    · obtain rfl : k = l.length := by omega
      go_wp2
      go_ret3
      exact ⟨_, _, rfl, Kd.R_lower ho.out hb.size, Kd.R_lower hu.out hb.size, bnx hb hbL⟩

end Go.Proofs.Ytljadjoljhanfaa.Q16
/- What the reference's Over and Worst return. -/
namespace Go.Proofs.Ytljadjoljhanfaa.Q16
open Go.RowKit Go.Proofs.YtljadjoljhanfaaW.PrintWords Go.Proofs.YtljadjoljhanfaaW.PrintLast Go.Proofs.YtljadjoljhanfaaW.PrintMore
attribute [local go_sem] max2_int min2_int max_two min_two max_three min_three
open Go.Proofs.Ytljadjoljhanfaa.Q15

theorem bool_at {f : Nat → Bool} {n : Nat} {w : World} {A : Option Addr} (h : Kd.bool.C w A n ((List.range n).map f)) {k : Nat} (hk : k < n) : ∃ ad, A = some ad ∧ w.cell? (ad.add k) = some (.bool (f k)) := by
  obtain ⟨ad, e, h2⟩ := Kd.at_bool h (k : Nat) (by omega) (by omega)
  refine ⟨ad, e, ?_⟩
  rw [show rdOf false ((List.range n).map f) (k : Int) = f k by unfold rdOf; simp [List.getD_eq_getElem?_getD, hk]] at h2
  exact h2
theorem int_at {f : Nat → Int} {n : Nat} {w : World} {A : Option Addr} (h : (Kd.int .i64).C w A n ((List.range n).map f)) {k : Nat} (hk : k < n) : ∃ ad, A = some ad ∧ w.cell? (ad.add k) = some (.int .i64 (f k)) := by
  have h := el_at (w1 := w) (l := (List.range n).map f) (by rw [List.length_map, List.length_range]; exact h) (Below.refl _ _) (k := k) (by rw [List.length_map, List.length_range]; exact hk)
  rw [rd_range f n k hk] at h
  exact h

/-- What above returns, number by number. -/
theorem above_cells (A0 A1 A2 A3 : Option Addr) (c0 c1 c2 c3 : Nat) (c l s m : List Int) (w : World) (hr0 : (Kd.int .i64).C w A0 c.length c) (hr1 : (Kd.int .i64).C w A1 l.length l) (hr2 : (Kd.int .i64).C w A2 s.length s) (hr3 : (Kd.int .i64).C w A3 m.length m) (hc0 : c.length ≤ c0) (hc9 : c0 ≤ 9223372036854775807)
    (he : errX c l s m = 0) :
    Calls Try.prog 58 #[.slice A0 c.length c0, .slice A1 l.length c1, .slice A2 s.length c2, .slice A3 m.length c3] w fun e w' => ∃ A p B q, e = .returned (.tuple #[.slice A l.length p, .slice B l.length q, .int .i64 0]) ∧ (∀ k, k < l.length → ∃ ad, A = some ad ∧ w'.cell? (ad.add k) = some (.int .i64 (rd (excs c l s m) k))) ∧ (∀ k, k < l.length → ∃ ad, B = some ad ∧ w'.cell? (ad.add k) = some (.bool (isAb c l s m k))) ∧ Below w.heap.size w w' :=
  (above_yes A0 A1 A2 A3 c0 c1 c2 c3 c l s m w hr0 hr1 hr2 hr3 hc0 hc9 he).mono (fun e w' ⟨v, u, hv, hR, hU, hb⟩ => by
    obtain ⟨A, p, rfl, _, hC⟩ := Kd.R_reads hR
    obtain ⟨B, q, rfl, _, hD⟩ := Kd.R_reads hU
    rw [List.length_map, List.length_range] at hv hC hD
    rw [List.length_map, List.length_range] at hv
    refine ⟨A, p, B, q, hv, fun k hk => ?_, fun k hk => bool_at hD hk, hb⟩
    unfold excs
    rw [rd_range _ _ _ hk]
    exact int_at hC hk)

theorem exc_is {c l s m : List Int} (he : errX c l s m = 0) {k : Nat} (hk : k < l.length) : if isAb c l s m k then 0 ≤ rd (excs c l s m) k else rd (excs c l s m) k ≤ 0 := by
  obtain ⟨g0, g1, g2, g6, g3, g4, g7, g5⟩ := errX_zero he
  have hsk := rng_mem g4 (rd_mem s k (by omega))
  have hmk := rng_mem g7 (rd_mem m k (by omega))
  have hnb : 0 ≤ noiseR (band c l k) (rd s k) := by
    unfold noiseR
    rw [if_pos (chk_band g3 g0 g1 hk hsk)]
    exact (noiseI_bd (x := stepI (rd s k)) (by have := stepI_bd hsk.1 hsk.2; omega) (band c l k) (fun n hn => rng_mem g3 (List.mem_of_mem_drop (List.mem_of_mem_take hn)))).1
  unfold excs
  rw [rd_range _ _ _ hk]
  unfold exc
  by_cases h : rd m k < noiseR (band c l k) (rd s k)
  · rw [if_pos (by unfold isAb; exact decide_eq_true h)]
    have := logI_mono (a := rd m k + 1) (b := noiseR (band c l k) (rd s k) + 1) (by omega) (by omega)
    omega
  · rw [if_neg (by unfold isAb; simpa using h)]
    have := logI_mono (a := noiseR (band c l k) (rd s k) + 1) (b := rd m k + 1) (by omega) (by omega)
    omega

set_option maxRecDepth 100000 in
set_option maxHeartbeats 1000000 in
theorem rOver_calls (A0 A1 A2 A3 : Option Addr) (c0 c1 c2 c3 : Nat) (c l s m : List Int) (w : World) (hr0 : (Kd.int .i64).C w A0 c.length c) (hr1 : (Kd.int .i64).C w A1 l.length l) (hr2 : (Kd.int .i64).C w A2 s.length s) (hr3 : (Kd.int .i64).C w A3 m.length m) (b0 : c.length ≤ 1000000) (b1 : l.length ≤ 1000000) (b2 : s.length ≤ 1000000) (b3 : m.length ≤ 1000000) (hc0 : c.length ≤ c0) (hc9 : c0 ≤ 9223372036854775807) :
    Calls Try.prog 21 #[.slice A0 c.length c0, .slice A1 l.length c1, .slice A2 s.length c2, .slice A3 m.length c3] w fun e w' => e = .returned (.tuple #[.int .i64 (overR c l s m), .int .i64 (errX c l s m)]) ∧ Below w.heap.size w w' := by
  have hb := Below.refl w.heap.size w
  unfold overR
  by_cases he : errX c l s m = 0
  · have HE := above_cells A0 A1 A2 A3 c0 c1 c2 c3 c l s m w hr0 hr1 hr2 hr3 hc0 hc9 he
    have hbd := exc_bd he
    have hll := (isW_iff.1 (errX_zero he).1).2.2
    rw [if_pos he, he]
    have hlen := excs_len c l s m
    change ∀ n ∈ excs c l s m, _ at hbd
    have HIS := fun (k : Nat) (hk : k < l.length) => exc_is he hk
    obtain ⟨x, hx⟩ : ∃ x, x = excs c l s m := ⟨_, rfl⟩
    obtain ⟨t, ht⟩ : ∃ t, t = isAb c l s m := ⟨_, rfl⟩
    rw [← hx] at HE hbd hlen HIS ⊢
    rw [← ht] at HE HIS
    have hxI : (l.length : Int) ≤ 32 := by omega
    have HBD := Aside0.mk (fun k (hk : k ≤ l.length) => overT_bd hbd k (by omega))
    have HBX : Aside0 (∀ k, k < l.length → -100000 ≤ rd x k ∧ rd x k ≤ 100000) := ⟨fun k hk => hbd _ (rd_mem x k (by omega))⟩
    replace HE := Aside0.mk HE
    replace HIS := Aside0.mk HIS
    replace hlen := Aside0.mk hlen
    clear hr0 hr1 hr2 hr3 b0 b1 b2 b3 hc0 hc9 he hx hbd hll ht
    go_enter Try.func21, Try.ntmps21
    go_wp2_with fail
    refine HE.out.mono ?_; rintro _ w1 ⟨A5, p5, A6, p6, rfl, hC, hD, hbn⟩; replace hb := bnx hb hbn
    replace hC := Aside0.mk hC
    replace hD := Aside0.mk hD
    clear hbn HE
    go_wp2
    go_loopw [13, 27] (fun o i wr => ∃ k : Nat, i = .int .i64 k ∧ k ≤ l.length ∧ o = .int .i64 (overT x k) ∧ Below w1.heap.size w1 wr) (fun _ i _ => l.length - (intOf i).toNat)
    case atStart => exact ⟨0, rfl, by omega, rfl, Below.refl _ _⟩
    case round =>
      obtain ⟨k, rfl, hk, rfl, hbL⟩ := hrel
      by_cases hlt : k < l.length
      · obtain ⟨ad, rfl, hcell⟩ := hC.out k hlt
        replace hcell := cnx hcell hbL
        have hkI : (k : Int) < (l.length : Int) := by omega
        obtain ⟨ad2, rfl, hcell2⟩ := hD.out k hlt
        replace hcell2 := cnx hcell2 hbL
        have h1 := HBD.out k hk
        have h2 := HBX.out k hlt
        have h3 := HIS.out k hlt
        have hT : Aside0 (overT x (k + 1) = overT x k + max (rd x k) 0) := ⟨rfl⟩
        obtain ⟨y, hy⟩ : ∃ y, y = rd x k := ⟨_, rfl⟩
        rw [← hy] at hcell h2 hT h3
        obtain ⟨o, ho⟩ : ∃ o, o = overT x k := ⟨_, rfl⟩
        rw [← ho] at h1 hT ⊢
        obtain ⟨tk, htk⟩ : ∃ tk, tk = t k := ⟨_, rfl⟩
        rw [← htk] at hcell2 h3
        clear hy ho htk
        cases tk with
        | true =>
          have h4 : (0 : Int) ≤ y := by simpa using h3
          have hmx : Aside0 (max y 0 = y) := ⟨by omega⟩
          have hsum : IntKind.i64.wrap (o + y) = o + y := IntWalk.i64_in _ (by omega)
          clear h1 h2 h3
          go_wp2
          go_roundw
          case rel => exact ⟨k + 1, by go_num, by omega, by rw [hT.out, hmx.out], hbL⟩
          case measure => simp [intOf]; omega
        | false =>
          have h4 : y ≤ 0 := by simpa using h3
          have hmx : Aside0 (o + max y 0 = o) := ⟨by omega⟩
          clear h1 h2 h3
          go_wp2
          go_roundw
          case rel => exact ⟨k + 1, by go_num, by omega, by rw [hT.out, hmx.out], hbL⟩
          case measure => simp [intOf]; omega
      · obtain rfl : k = l.length := by omega
        go_wp2
        go_ret2
        exact ⟨rfl, bnx hb hbL⟩
  · have HE := Aside0.mk (above_no A0 A1 A2 A3 c0 c1 c2 c3 c l s m w hr0 hr1 hr2 hr3 b0 b1 b2 b3 hc0 hc9 he)
    rw [if_neg he]
    obtain ⟨E, hE⟩ : ∃ E, E = errX c l s m := ⟨_, rfl⟩
    rw [← hE] at HE he ⊢
    have h0' : (E != 0) = true := bne_iff_ne.2 he
    clear hE hr0 hr1 hr2 hr3 b0 b1 b2 b3 hc0 hc9 he
    go_enter Try.func21, Try.ntmps21
    go_wp2_with (first | (go_at_call 58; refine (HE.out).mono ?_; rintro e w' ⟨rfl, hbn⟩; replace hb := bnx hb hbn; clear hbn))
    go_loopw [13, 27] (fun o i wr => o = .int .i64 0 ∧ i = .int .i64 0 ∧ Below w.heap.size w wr) (fun _ _ _ => 0)
    case atStart => exact ⟨rfl, rfl, hb⟩
    case round =>
      obtain ⟨rfl, rfl, hbL⟩ := hrel
      go_wp2
      go_ret2
      exact ⟨rfl, hbL⟩

set_option maxRecDepth 100000 in
set_option maxHeartbeats 1000000 in
theorem rWorst_calls (A0 A1 A2 A3 : Option Addr) (c0 c1 c2 c3 : Nat) (c l s m : List Int) (w : World) (hr0 : (Kd.int .i64).C w A0 c.length c) (hr1 : (Kd.int .i64).C w A1 l.length l) (hr2 : (Kd.int .i64).C w A2 s.length s) (hr3 : (Kd.int .i64).C w A3 m.length m) (b0 : c.length ≤ 1000000) (b1 : l.length ≤ 1000000) (b2 : s.length ≤ 1000000) (b3 : m.length ≤ 1000000) (hc0 : c.length ≤ c0) (hc9 : c0 ≤ 9223372036854775807) :
    Calls Try.prog 23 #[.slice A0 c.length c0, .slice A1 l.length c1, .slice A2 s.length c2, .slice A3 m.length c3] w fun e w' => e = .returned (.tuple #[.int .i64 (worstR c l s m), .int .i64 (errX c l s m)]) ∧ Below w.heap.size w w' := by
  have hb := Below.refl w.heap.size w
  unfold worstR
  by_cases he : errX c l s m = 0
  · have HE := above_cells A0 A1 A2 A3 c0 c1 c2 c3 c l s m w hr0 hr1 hr2 hr3 hc0 hc9 he
    have hbd := exc_bd he
    have hll := (isW_iff.1 (errX_zero he).1).2.2
    rw [if_pos he, he]
    have hlen := excs_len c l s m
    change ∀ n ∈ excs c l s m, _ at hbd
    have HIS := fun (k : Nat) (hk : k < l.length) => exc_is he hk
    obtain ⟨x, hx⟩ : ∃ x, x = excs c l s m := ⟨_, rfl⟩
    obtain ⟨t, ht⟩ : ∃ t, t = isAb c l s m := ⟨_, rfl⟩
    rw [← hx] at HE hbd hlen HIS ⊢
    rw [← ht] at HE HIS
    have hxI : (l.length : Int) ≤ 32 := by omega
    have HBD := Aside0.mk (worstT_bd x)
    have HBX : Aside0 (∀ k, k < l.length → -100000 ≤ rd x k ∧ rd x k ≤ 100000) := ⟨fun k hk => hbd _ (rd_mem x k (by omega))⟩
    replace HE := Aside0.mk HE
    replace HIS := Aside0.mk HIS
    replace hlen := Aside0.mk hlen
    clear hr0 hr1 hr2 hr3 b0 b1 b2 b3 hc0 hc9 he hx hbd hll ht
    go_enter Try.func23, Try.ntmps23
    go_wp2_with fail
    refine HE.out.mono ?_; rintro _ w1 ⟨A5, p5, A6, p6, rfl, hC, hD, hbn⟩; replace hb := bnx hb hbn
    replace hC := Aside0.mk hC
    replace hD := Aside0.mk hD
    clear hbn HE
    go_wp2
    go_loopw [13, 27] (fun o i wr => ∃ k : Nat, i = .int .i64 k ∧ k ≤ l.length ∧ o = .int .i64 (worstT x k) ∧ Below w1.heap.size w1 wr) (fun _ i _ => l.length - (intOf i).toNat)
    case atStart => exact ⟨0, rfl, by omega, rfl, Below.refl _ _⟩
    case round =>
      obtain ⟨k, rfl, hk, rfl, hbL⟩ := hrel
      by_cases hlt : k < l.length
      · obtain ⟨ad, rfl, hcell⟩ := hC.out k hlt
        replace hcell := cnx hcell hbL
        have hkI : (k : Int) < (l.length : Int) := by omega
        have h1 := HBD.out k
        have hT : Aside0 (worstT x (k + 1) = if rd x (worstT x k) < rd x k then (k : Int) else worstT x k) := ⟨rfl⟩
        obtain ⟨o, ho⟩ : ∃ o : Nat, worstT x k = o := ⟨(worstT x k).toNat, by omega⟩
        have ho2 : (o : Int) < (l.length : Int) := by omega
        obtain ⟨ad', e', hcell2⟩ := hC.out o (by omega)
        cases e'
        replace hcell2 := cnx hcell2 hbL
        rw [ho] at hT ⊢
        obtain ⟨y, hy⟩ : ∃ y, y = rd x k := ⟨_, rfl⟩
        rw [← hy] at hcell hT
        obtain ⟨z, hz⟩ : ∃ z, z = rd x o := ⟨_, rfl⟩
        rw [← hz] at hcell2 hT
        clear hy hz h1 ho
        by_cases hlt2 : z < y
        · rw [if_pos hlt2] at hT
          go_wp2
          go_roundw
          case rel => exact ⟨k + 1, by go_num, by omega, by rw [hT.out], hbL⟩
          case measure => simp [intOf]; omega
        · rw [if_neg hlt2] at hT
          have hlt3 : decide (z < y) = false := by simpa using hlt2
          go_wp2
          go_roundw
          case rel => exact ⟨k + 1, by go_num, by omega, by rw [hT.out], hbL⟩
          case measure => simp [intOf]; omega
      · obtain rfl : k = l.length := by omega
        go_wp2
        go_ret2
        exact ⟨rfl, bnx hb hbL⟩
  · have HE := Aside0.mk (above_no A0 A1 A2 A3 c0 c1 c2 c3 c l s m w hr0 hr1 hr2 hr3 b0 b1 b2 b3 hc0 hc9 he)
    rw [if_neg he]
    obtain ⟨E, hE⟩ : ∃ E, E = errX c l s m := ⟨_, rfl⟩
    rw [← hE] at HE he ⊢
    have h0' : (E != 0) = true := bne_iff_ne.2 he
    clear hE hr0 hr1 hr2 hr3 b0 b1 b2 b3 hc0 hc9 he
    go_enter Try.func23, Try.ntmps23
    go_wp2_with (first | (go_at_call 58; refine (HE.out).mono ?_; rintro e w' ⟨rfl, hbn⟩; replace hb := bnx hb hbn; clear hbn))
    go_loopw [13, 27] (fun o i wr => o = .int .i64 0 ∧ i = .int .i64 0 ∧ Below w.heap.size w wr) (fun _ _ _ => 0)
    case atStart => exact ⟨rfl, rfl, hb⟩
    case round =>
      obtain ⟨rfl, rfl, hbL⟩ := hrel
      go_wp2
      go_ret2
      exact ⟨rfl, hbL⟩

end Go.Proofs.Ytljadjoljhanfaa.Q16
/- What the reference's Amplify and Coarser return. -/
namespace Go.Proofs.Ytljadjoljhanfaa.Q16
open Go.Proofs.Ytljadjoljhanfaa.Q15
open Go.RowKit Go.Proofs.YtljadjoljhanfaaW.PrintWords Go.Proofs.YtljadjoljhanfaaW.PrintLast Go.Proofs.YtljadjoljhanfaaW.PrintMore
attribute [local go_sem] max2_max min2_min max_two min_two max_three min_three

set_option maxRecDepth 100000 in
set_option maxHeartbeats 1000000 in
theorem rAmplify_no (A0 A1 A2 A3 : Option Addr) (c0 c1 c2 c3 : Nat) (c l s m : List Int) (w : World) (hr0 : (Kd.int .i64).C w A0 c.length c) (hr1 : (Kd.int .i64).C w A1 l.length l) (hr2 : (Kd.int .i64).C w A2 s.length s) (hr3 : (Kd.int .i64).C w A3 m.length m) (b0 : c.length ≤ 1000000) (b1 : l.length ≤ 1000000) (b2 : s.length ≤ 1000000) (b3 : m.length ≤ 1000000) (hc0 : c.length ≤ c0) (hc9 : c0 ≤ 9223372036854775807)
    (he : errX c l s m ≠ 0) :
    Calls Try.prog 25 #[.slice A0 c.length c0, .slice A1 l.length c1, .slice A2 s.length c2, .slice A3 m.length c3] w fun e w' => e = .returned (.tuple #[.slice none 0 0, .int .i64 (errX c l s m)]) ∧ Below w.heap.size w w' := by
  have hb := Below.refl w.heap.size w
  have HE := Aside0.mk (above_no A0 A1 A2 A3 c0 c1 c2 c3 c l s m w hr0 hr1 hr2 hr3 b0 b1 b2 b3 hc0 hc9 he)
  obtain ⟨E, hE⟩ : ∃ E, E = errX c l s m := ⟨_, rfl⟩
  rw [← hE] at HE he ⊢
  have h0' : (E != 0) = true := bne_iff_ne.2 he
  clear hE hr0 hr1 hr2 hr3 b0 b1 b2 b3 hc0 hc9 he
  go_enter Try.func25, Try.ntmps25
  go_wp2_with (first | (go_at_call 58; refine (HE.out).mono ?_; rintro e w' ⟨rfl, hbn⟩; replace hb := bnx hb hbn; clear hbn))
  go_ret2
  exact ⟨rfl, hb⟩

set_option maxRecDepth 100000 in
set_option maxHeartbeats 2000000 in
theorem rAmplify_yes (A0 A1 A2 A3 : Option Addr) (c0 c1 c2 c3 : Nat) (c l s m : List Int) (w : World) (hr0 : (Kd.int .i64).C w A0 c.length c) (hr1 : (Kd.int .i64).C w A1 l.length l) (hr2 : (Kd.int .i64).C w A2 s.length s) (hr3 : (Kd.int .i64).C w A3 m.length m) (hc0 : c.length ≤ c0) (hc9 : c0 ≤ 9223372036854775807)
    (he : errX c l s m = 0) :
    Calls Try.prog 25 #[.slice A0 c.length c0, .slice A1 l.length c1, .slice A2 s.length c2, .slice A3 m.length c3] w fun e w' => ∃ v, e = .returned (.tuple #[v, .int .i64 0]) ∧ (Kd.int .i64).R 3 w' w.heap.size (fun _ => True) v (ampls c l s m) ∧ Below w.heap.size w w' := by
  have HE := above_cells A0 A1 A2 A3 c0 c1 c2 c3 c l s m w hr0 hr1 hr2 hr3 hc0 hc9 he
  obtain ⟨g0, g1, g2, g6, g3, g4, g7, g5⟩ := errX_zero he
  have hl32 := (isW_iff.1 g0).2.2
  have hb := Below.refl w.heap.size w
  obtain ⟨a, rfl⟩ : ∃ a, A0 = some a := by
    obtain ⟨_, _, h⟩ := hr0
    obtain ⟨a, e, _⟩ := h (by omega)
    exact ⟨a, e⟩
  have HCut := fun (W : World) (hb : Below w.heap.size w W) => cut_calls (c0 := c0) (cap := c1) (Kd.C_below hr0 hb) g1 (by omega) hc9 g0 (Kd.C_below hr1 hb)
  have HS := fun (W : World) (hb : Below w.heap.size w W) (k : Nat) (hk : k < l.length) => el_at hr2 hb (show k < s.length by omega)
  have HSB : Aside0 (∀ k, k < l.length → 0 ≤ rd s k ∧ rd s k ≤ 95) := ⟨fun k hk => rng_mem g4 (rd_mem s k (by omega))⟩
  have HFi := Aside0.mk (fun (k : Nat) (hk : k < l.length) (W : World) (A' : Option Addr) (cp' : Nat) (hbd : (Kd.int .i64).C W A' (band c l k).length (band c l k)) =>
    Finest_calls A' cp' (band c l k) W hbd (by rw [band_len g1 g0 hk]; have := off_next g0 hk; omega) (fun n hn => rng_mem g3 (List.mem_of_mem_drop (List.mem_of_mem_take hn))))
  rw [g1] at HE
  rw [g1]
  have hsI : (l.length : Int) ≤ (s.length : Int) := by omega
  have hlI : (l.length : Int) ≤ 32 := by omega
  obtain ⟨r, hre⟩ : ∃ r : Nat → Int, r = fun k => ampl (band c l k) (rd s k) (noiseR (band c l k) (rd s k)) (rd m k) := ⟨_, rfl⟩
  obtain ⟨t, hte⟩ : ∃ t, t = isAb c l s m := ⟨_, rfl⟩
  have HRV : Aside0 (∀ k, r k = if t k = true then (if leastI (band c l k) < rd s k then rd s k - 1 else rd s k) else rd s k) := ⟨fun k => by
    rw [hre, hte]
    unfold isAb ampl
    by_cases h1 : rd m k < noiseR (band c l k) (rd s k)
    · by_cases h2 : leastI (band c l k) < rd s k
      · simp [h1, h2]
      · simp [h1, h2]
    · simp [h1]⟩
  have hres : ampls c l s m = (List.range l.length).map r := by rw [hre]; rfl
  rw [hres]
  rw [← hte] at HE
  replace HE := Aside0.mk HE
  replace HCut := Aside0.mk HCut
  replace HS := Aside0.mk HS
  clear hr0 hr1 hr2 hr3 hc0 hc9 g0 g1 g2 g3 g4 g5 g6 g7 he hre hte hres hl32
  go_enter Try.func25, Try.ntmps25
  go_wp2_with fail
  refine HE.out.mono ?_; rintro _ w1 ⟨A5, p5, A6, p6, rfl, hC, hD, hb1⟩; replace hb := bnx hb hb1
  replace hD := Aside0.mk hD
  clear hb1 hC HE
  go_wp2_with (first | (go_at_call 41; refine (HCut.out _ hb).mono ?_; rintro e w2 ⟨Ac, pc, rfl, hK, hb2⟩; replace hb := bnx hb hb2; have HKL := Aside0.mk hK; have HDL : Aside0 (∀ k, k < l.length → ∃ ad, A6 = some ad ∧ w2.cell? (ad.add k) = some (.bool (t k))) := ⟨fun k hk => (hD.out k hk).imp fun ad h => ⟨h.1, cnx h.2 hb2⟩⟩; clear hK hb2 hD))
  go_loopw [13, 33] (fun o i wr => ∃ k : Nat, i = .int .i64 k ∧ k ≤ l.length ∧ Aside0 ((Kd.int .i64).R 3 wr w2.heap.size (fun _ => True) o ((List.range k).map r)) ∧ Below w2.heap.size w2 wr) (fun _ i _ => l.length - (intOf i).toNat)
  case atStart => exact ⟨0, rfl, by omega, ⟨Kd.R_nil _ _ _ _ _⟩, Below.refl _ _⟩
  case round =>
    obtain ⟨k, rfl, hk, ho, hbL⟩ := hrel
    by_cases hlt : k < l.length
    · obtain ⟨ad, A', cp, rfl, hcell, hCB⟩ := bands_at HKL.out hbL hlt
      obtain ⟨ads, rfl, hcs⟩ := HS.out _ (bnx hb hbL) k hlt
      obtain ⟨adb, rfl, hcb⟩ := HDL.out k hlt
      replace hcb := cnx hcb hbL
      have HFN := Aside0.mk (HFi.out k hlt wr A' cp hCB)
      have hkI : (k : Int) < (l.length : Int) := by omega
      have hks : (k : Int) < (s.length : Int) := by omega
      have hsb := HSB.out k hlt
      have hrv := HRV.out k
      have HT : Aside0 ((List.range (k + 1)).map r = (List.range k).map r ++ [r k]) := ⟨by rw [List.range_succ, List.map_append]; rfl⟩
      obtain ⟨y, hy⟩ : ∃ y, y = (List.range k).map r := ⟨_, rfl⟩
      have hyl : y.length ≤ 32 := by rw [hy]; simp; omega
      rw [← hy] at ho HT
      rw [hrv] at HT
      obtain ⟨x, hx⟩ : ∃ x, x = rd s k := ⟨_, rfl⟩
      rw [← hx] at hcs HT hsb
      obtain ⟨tk, htk⟩ : ∃ tk, tk = t k := ⟨_, rfl⟩
      rw [← htk] at hcb HT
      obtain ⟨fi, hfi⟩ : ∃ fi, fi = leastI (band c l k) := ⟨_, rfl⟩
      rw [← hfi] at HFN HT
      obtain ⟨n, hn⟩ : ∃ n, n = (band c l k).length := ⟨_, rfl⟩
      rw [← hn] at HFN hcell
      have hsum : IntKind.i64.wrap (x - 1) = x - 1 := IntWalk.i64_in _ (by omega)
      clear hy hrv hx htk hfi hn hCB hsb
      cases tk with
      | true =>
        by_cases hlt2 : fi < x
        · rw [if_pos rfl, if_pos hlt2] at HT
          go_wp2_with (first | (go_at_call 43; refine HFN.out.mono ?_; rintro e w' ⟨rfl, hb1⟩; have HO1 := Aside0.mk (Kd.R_below ho.out hb1); have HB1 := Aside0.mk (bnx hbL hb1); clear ho hb1 hbL) | (at_builtin; refine Kd.R_append (Kd.int .i64) (w0 := w2) w2.heap.size rfl (.tmp 54) (.tmp 56) 22 3 (.int .i64 0) 8 rfl Try.underlying22 info_int rfl (by decide) (by omega) u13 y ((x - 1)) [.int .i64 ((x - 1))] (fun _ => True) (fun _ => False) rfl rfl rfl (fun _ hk => hk.elim) (fun _ _ => trivial) HO1.out HB1.out HB1.out.size (by omega) ?_; intro v1 wA hoA hbA hgA hatA; have HOA := Aside0.mk hoA; have HBA := Aside0.mk hbA; clear hoA hbA hgA hatA))
          go_roundw
          case rel => exact ⟨k + 1, by go_num, by omega, ⟨by rw [HT.out]; exact HOA.out⟩, HBA.out⟩
          case measure => simp [intOf]; omega
        · rw [if_pos rfl, if_neg hlt2] at HT
          have hlt3 : decide (fi < x) = false := by simpa using hlt2
          go_wp2_with (first | (go_at_call 43; refine HFN.out.mono ?_; rintro e w' ⟨rfl, hb1⟩; have HO1 := Aside0.mk (Kd.R_below ho.out hb1); have HB1 := Aside0.mk (bnx hbL hb1); clear ho hb1 hbL) | (at_builtin; refine Kd.R_append (Kd.int .i64) (w0 := w2) w2.heap.size rfl (.tmp 54) (.tmp 56) 22 3 (.int .i64 0) 8 rfl Try.underlying22 info_int rfl (by decide) (by omega) u13 y (x) [.int .i64 (x)] (fun _ => True) (fun _ => False) rfl rfl rfl (fun _ hk => hk.elim) (fun _ _ => trivial) HO1.out HB1.out HB1.out.size (by omega) ?_; intro v1 wA hoA hbA hgA hatA; have HOA := Aside0.mk hoA; have HBA := Aside0.mk hbA; clear hoA hbA hgA hatA))
          go_roundw
          case rel => exact ⟨k + 1, by go_num, by omega, ⟨by rw [HT.out]; exact HOA.out⟩, HBA.out⟩
          case measure => simp [intOf]; omega
      | false =>
        rw [if_neg (by decide)] at HT
        replace hbL := Aside0.mk hbL
        go_wp2_with (first | (at_builtin; refine Kd.R_append (Kd.int .i64) (w0 := w2) w2.heap.size rfl (.tmp 54) (.tmp 56) 22 3 (.int .i64 0) 8 rfl Try.underlying22 info_int rfl (by decide) (by omega) u13 y (x) [.int .i64 (x)] (fun _ => True) (fun _ => False) rfl rfl rfl (fun _ hk => hk.elim) (fun _ _ => trivial) ho.out hbL.out hbL.out.size (by omega) ?_; intro v1 wA hoA hbA hgA hatA; have HOA := Aside0.mk hoA; have HBA := Aside0.mk hbA; clear hoA hbA hgA hatA))
        go_roundw
        case rel => exact ⟨k + 1, by go_num, by omega, ⟨by rw [HT.out]; exact HOA.out⟩, HBA.out⟩
        case measure => simp [intOf]; omega
    · obtain rfl : k = l.length := by omega
      go_wp2
      go_ret2
      exact ⟨_, rfl, Kd.R_lower ho.out hb.size, bnx hb hbL⟩

set_option maxRecDepth 100000 in
set_option maxHeartbeats 1000000 in
theorem rCoarser_no (A0 A1 A2 : Option Addr) (c0 c1 c2 : Nat) (c l s : List Int) (n : Int) (w : World) (hr0 : (Kd.int .i64).C w A0 c.length c) (hr1 : (Kd.int .i64).C w A1 l.length l) (hr2 : (Kd.int .i64).C w A2 s.length s) (b0 : c.length ≤ 1000000) (b1 : l.length ≤ 1000000) (b2 : s.length ≤ 1000000)
    (he : errC c l s n ≠ 0) :
    Calls Try.prog 27 #[.slice A0 c.length c0, .slice A1 l.length c1, .slice A2 s.length c2, .int .i64 n] w fun e w' => e = .returned (.tuple #[.slice none 0 0, .int .i64 (errC c l s n)]) ∧ Below w.heap.size w w' := by
  have hb := Below.refl w.heap.size w
  have HF := scaled_calls A0 A1 A2 c0 c1 c2 c l s w hr0 hr1 hr2 b0 b1 b2
  by_cases hn : -96 ≤ n ∧ n ≤ 96
  · have hv : errC c l s n = errS (-2097152) 2097152 0 95 c l s := if_pos hn
    rw [hv] at he ⊢
    obtain ⟨E, hE⟩ : ∃ E, E = errS (-2097152) 2097152 0 95 c l s := ⟨_, rfl⟩
    rw [← hE] at HF he ⊢
    replace HF := Aside0.mk HF
    have h0' : (E != 0) = true := bne_iff_ne.2 he
    have h1 : decide (n < -96) = false := by simp; omega
    have h2 : decide (96 < n) = false := by simp; omega
    clear hE hr0 hr1 hr2 b0 b1 b2 he hn hv
    go_enter Try.func27, Try.ntmps27
    go_wp2_with (first | (go_at_call 49; refine (HF.out).mono ?_; rintro e w' ⟨rfl, hbn⟩; replace hb := bnx hb hbn; clear hbn))
    go_ret2
    exact ⟨rfl, hb⟩
  · have hv : errC c l s n = 1 := if_neg hn
    rw [hv]
    clear hr0 hr1 hr2 b0 b1 b2 he hv HF
    by_cases h1 : n < -96
    · clear hn
      go_enter Try.func27, Try.ntmps27
      go_wp2
      go_ret2
      exact ⟨rfl, hb⟩
    · have h2 : 96 < n := by omega
      have h1' : decide (n < -96) = false := by simp; omega
      clear hn h1
      go_enter Try.func27, Try.ntmps27
      go_wp2
      go_ret2
      exact ⟨rfl, hb⟩

set_option maxRecDepth 100000 in
set_option maxHeartbeats 2000000 in
theorem rCoarser_yes (A0 A1 A2 : Option Addr) (c0 c1 c2 : Nat) (c l s : List Int) (n : Int) (w : World) (hr0 : (Kd.int .i64).C w A0 c.length c) (hr1 : (Kd.int .i64).C w A1 l.length l) (hr2 : (Kd.int .i64).C w A2 s.length s) (hc0 : c.length ≤ c0) (hc9 : c0 ≤ 9223372036854775807)
    (he : errC c l s n = 0) :
    Calls Try.prog 27 #[.slice A0 c.length c0, .slice A1 l.length c1, .slice A2 s.length c2, .int .i64 n] w fun e w' => ∃ v, e = .returned (.tuple #[v, .int .i64 0]) ∧ (Kd.int .i64).R 3 w' w.heap.size (fun _ => True) v ((List.range l.length).map fun k => coarse (band c l k) (rd s k) n) ∧ Below w.heap.size w w' := by
  have hn : -96 ≤ n ∧ n ≤ 96 := by
    unfold errC at he
    split at he
    · assumption
    · cases he
  rw [show errC c l s n = errS (-2097152) 2097152 0 95 c l s from if_pos hn] at he
  obtain ⟨g0, g1, g2, g3, g4, g5⟩ := errS_zero he
  have hl32 := (isW_iff.1 g0).2.2
  have hb := Below.refl w.heap.size w
  obtain ⟨a, rfl⟩ : ∃ a, A0 = some a := by
    obtain ⟨_, _, h⟩ := hr0
    obtain ⟨a, e, _⟩ := h (by omega)
    exact ⟨a, e⟩
  have HF := scaled_calls (some a) A1 A2 c0 c1 c2 c l s w hr0 hr1 hr2 (by omega) (by omega) (by omega)
  rw [he, g1] at HF
  have HCut := fun (W : World) (hb : Below w.heap.size w W) => cut_calls (c0 := c0) (cap := c1) (Kd.C_below hr0 hb) g1 (by omega) hc9 g0 (Kd.C_below hr1 hb)
  have HS := fun (W : World) (hb : Below w.heap.size w W) (k : Nat) (hk : k < l.length) => el_at hr2 hb (show k < s.length by omega)
  have HSB : Aside0 (∀ k, k < l.length → 0 ≤ rd s k ∧ rd s k ≤ 95) := ⟨fun k hk => rng_mem g4 (rd_mem s k (by omega))⟩
  have HFi := Aside0.mk (fun (k : Nat) (hk : k < l.length) (W : World) (A' : Option Addr) (cp' : Nat) (hbd : (Kd.int .i64).C W A' (band c l k).length (band c l k)) =>
    Finest_calls A' cp' (band c l k) W hbd (by rw [band_len g1 g0 hk]; have := off_next g0 hk; omega) (fun n hn => rng_mem g3 (List.mem_of_mem_drop (List.mem_of_mem_take hn))))
  rw [g1]
  have hsI : (l.length : Int) ≤ (s.length : Int) := by omega
  have hlI : (l.length : Int) ≤ 32 := by omega
  obtain ⟨r, hre⟩ : ∃ r : Nat → Int, r = fun k => coarse (band c l k) (rd s k) n := ⟨_, rfl⟩
  have HRV : Aside0 (∀ k, r k = if 0 ≤ n then min (rd s k + n) 95 else max (rd s k + n) (leastI (band c l k))) := ⟨fun k => by rw [hre]; rfl⟩
  rw [← hre]
  replace HF := Aside0.mk HF
  replace HCut := Aside0.mk HCut
  replace HS := Aside0.mk HS
  have h1 : decide (n < -96) = false := by simp; omega
  have h2 : decide (96 < n) = false := by simp; omega
  clear hr0 hr1 hr2 hc0 hc9 g0 g1 g2 g3 g4 g5 he hre hl32
  go_enter Try.func27, Try.ntmps27
  go_wp2_with (first | (go_at_call 49; refine (HF.out).mono ?_; rintro e w' ⟨rfl, hbn⟩; replace hb := bnx hb hbn; clear hbn) | (go_at_call 41; refine (HCut.out _ hb).mono ?_; rintro e w2 ⟨Ac, pc, rfl, hK, hb2⟩; replace hb := bnx hb hb2; have HKL := Aside0.mk hK; clear hK hb2))
  go_loopw [11, 32] (fun o i wr => ∃ k : Nat, i = .int .i64 k ∧ k ≤ l.length ∧ Aside0 ((Kd.int .i64).R 3 wr w2.heap.size (fun _ => True) o ((List.range k).map r)) ∧ Below w2.heap.size w2 wr) (fun _ i _ => l.length - (intOf i).toNat)
  case atStart => exact ⟨0, rfl, by omega, ⟨Kd.R_nil _ _ _ _ _⟩, Below.refl _ _⟩
  case round =>
    obtain ⟨k, rfl, hk, ho, hbL⟩ := hrel
    by_cases hlt : k < l.length
    · obtain ⟨ad, A', cp, rfl, hcell, hCB⟩ := bands_at HKL.out hbL hlt
      obtain ⟨ads, rfl, hcs⟩ := HS.out _ (bnx hb hbL) k hlt
      have HFN := Aside0.mk (HFi.out k hlt wr A' cp hCB)
      have hkI : (k : Int) < (l.length : Int) := by omega
      have hks : (k : Int) < (s.length : Int) := by omega
      have hsb := HSB.out k hlt
      have hrv := HRV.out k
      have HT : Aside0 ((List.range (k + 1)).map r = (List.range k).map r ++ [r k]) := ⟨by rw [List.range_succ, List.map_append]; rfl⟩
      obtain ⟨y, hy⟩ : ∃ y, y = (List.range k).map r := ⟨_, rfl⟩
      have hyl : y.length ≤ 32 := by rw [hy]; simp; omega
      rw [← hy] at ho HT
      rw [hrv] at HT
      obtain ⟨x, hx⟩ : ∃ x, x = rd s k := ⟨_, rfl⟩
      rw [← hx] at hcs HT hsb
      obtain ⟨fi, hfi⟩ : ∃ fi, fi = leastI (band c l k) := ⟨_, rfl⟩
      rw [← hfi] at HFN HT
      obtain ⟨q, hq⟩ : ∃ q, q = (band c l k).length := ⟨_, rfl⟩
      rw [← hq] at HFN hcell
      have hsum : IntKind.i64.wrap (x + n) = x + n := IntWalk.i64_in _ (by omega)
      by_cases h0 : 0 ≤ n
      · rw [if_pos h0] at HT
        have h3 : decide (n < 0) = false := by simp; omega
        clear hy hrv hx hfi hq hCB hsb
        replace hbL := Aside0.mk hbL
        go_wp2_with (first | (at_builtin; refine Kd.R_append (Kd.int .i64) (w0 := w2) w2.heap.size rfl (.tmp 50) (.tmp 52) 22 3 (.int .i64 0) 8 rfl Try.underlying22 info_int rfl (by decide) (by omega) u11 y ((min (x + n) 95)) [.int .i64 ((min (x + n) 95))] (fun _ => True) (fun _ => False) rfl rfl rfl (fun _ hk => hk.elim) (fun _ _ => trivial) ho.out hbL.out hbL.out.size (by omega) ?_; intro v1 wA hoA hbA hgA hatA; have HOA := Aside0.mk hoA; have HBA := Aside0.mk hbA; clear hoA hbA hgA hatA))
        go_roundw
        case rel => exact ⟨k + 1, by go_num, by omega, ⟨by rw [HT.out]; exact HOA.out⟩, HBA.out⟩
        case measure => simp [intOf]; omega
      · rw [if_neg h0] at HT
        have hmn : min (x + n) 95 = x + n := by omega
        clear hy hrv hx hfi hq hCB hsb
        go_wp2_with (first | (go_at_call 43; refine HFN.out.mono ?_; rintro e w' ⟨rfl, hb1⟩; have HO1 := Aside0.mk (Kd.R_below ho.out hb1); have HB1 := Aside0.mk (bnx hbL hb1); clear ho hb1 hbL) | (at_builtin; refine Kd.R_append (Kd.int .i64) (w0 := w2) w2.heap.size rfl (.tmp 50) (.tmp 52) 22 3 (.int .i64 0) 8 rfl Try.underlying22 info_int rfl (by decide) (by omega) u11 y ((max (x + n) fi)) [.int .i64 ((max (x + n) fi))] (fun _ => True) (fun _ => False) rfl rfl rfl (fun _ hk => hk.elim) (fun _ _ => trivial) HO1.out HB1.out HB1.out.size (by omega) ?_; intro v1 wA hoA hbA hgA hatA; have HOA := Aside0.mk hoA; have HBA := Aside0.mk hbA; clear hoA hbA hgA hatA))
        go_roundw
        case rel => exact ⟨k + 1, by go_num, by omega, ⟨by rw [HT.out]; exact HOA.out⟩, HBA.out⟩
        case measure => simp [intOf]; omega
    · obtain rfl : k = l.length := by omega
      go_wp2
      go_ret2
      exact ⟨_, rfl, Kd.R_lower ho.out hb.size, bnx hb hbL⟩

end Go.Proofs.Ytljadjoljhanfaa.Q16
