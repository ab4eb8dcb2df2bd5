/- A part of the proof. -/
import Derived.Test.YtnflnicdjioflaaGreatDoorQmak
set_option linter.unusedVariables false
set_option linter.unusedSimpArgs false
namespace Go.Proofs.YtnflnicdjioflaaGreatDoor
open Go.RowKit Go.Proofs.YtnflnicdjioflaaGreatDoorW.PrintWords Go.Proofs.YtnflnicdjioflaaGreatDoorW.PrintLast Go.Proofs.YtnflnicdjioflaaGreatDoorW.PrintMore
namespace Q16
attribute [local go_sem] max2_int min2_int max_two min_two max_three min_three
open Q15
set_option maxRecDepth 100000 in
set_option maxHeartbeats 1000000 in
theorem rQuantize_yes (A0 A1 A2 : Option Addr) (c0 c1 c2 : Nat) (c l s : List Int) (w : World) (hr0 : (Kd.int .i64).C w A0 c.length c) (hr1 : (Kd.int .i64).C w A1 l.length l) (hr2 : (Kd.int .i64).C w A2 s.length s) (hc0 : c.length ≤ c0) (hc9 : c0 ≤ 9223372036854775807)
  (he : errS (-2097152) 2097152 0 95 c l s = 0) :
  Calls Tryz.prog 64 #[.slice A0 c.length c0, .slice A1 l.length c1, .slice A2 s.length c2] w fun e w' => ∃ v, e = .returned (.tuple #[v, .int .i64 0]) ∧ (Kd.int .i64).R 3 w' w.heap.size (fun _ => True) v ((List.range l.length).map fun k => quanta (band c l k) (rd s k)).flatten ∧ Below w.heap.size w w' := by
 obtain ⟨g0, g1, g2, g3, g4, g5⟩ := errS_zero he
 have hl32 := (isW_iff.1 g0).2.2
 have hb := Below.refl w.heap.size w
 obtain ⟨a, rfl⟩ : ∃ a, A0 = some a := by
  obtain ⟨_, _, h⟩ := hr0
  obtain ⟨a, e, _⟩ := h (by omega)
  exact ⟨a, e⟩
 have HF := scaled_calls (some a) A1 A2 c0 c1 c2 c l s w hr0 hr1 hr2 (by omega) (by omega) (by omega)
 rw [he, g1] at HF
 have HP := Powers_reads
 have HCut := fun (W : World) (hb : Below w.heap.size w W) => cut_calls (c0 := c0) (cap := c1) (Kd.C_below hr0 hb) g1 (by omega) hc9 g0 (Kd.C_below hr1 hb)
 have HS := fun (W : World) (hb : Below w.heap.size w W) (k : Nat) (hk : k < l.length) => el_at hr2 hb (show k < s.length by omega)
 have HB := fun (k : Nat) (hk : k < l.length) (W : World) (Ap A' : Option Addr) (cp cp' : Nat) (hp : (Kd.int .i64).C W Ap powTab.length powTab) (hbd : (Kd.int .i64).C W A' (band c l k).length (band c l k)) =>
  QuantizeBy_calls Ap A' cp cp' (band c l k) (rd s k) W hp hbd (by rw [band_len g1 g0 hk]; have := off_next g0 hk; omega) (fun n hn => rng_mem g3 (List.mem_of_mem_drop (List.mem_of_mem_take hn))) (rng_mem g4 (rd_mem s k (by omega))).1 (rng_mem g4 (rd_mem s k (by omega))).2
 have HX : ∀ k, k < l.length → (band c l k).map (fun c => sg c (qn (stepI (rd s k)) (absI c))) = quanta (band c l k) (rd s k) := fun k hk => by
  unfold quanta
  rw [if_pos (chk_band g3 g0 g1 hk (rng_mem g4 (rd_mem s k (by omega))))]
 have HXL : ∀ k, k < l.length → (quanta (band c l k) (rd s k)).length ≤ 128 := fun k hk => by
  rw [← HX k hk, List.length_map, band_len g1 g0 hk]; have := off_next g0 hk; omega
 have HB2 := fun (k : Nat) (hk : k < l.length) => HX k hk ▸ HB k hk
 rw [g1]
 have hsl : (s.length : Int) = l.length := by omega
 obtain ⟨r, hre⟩ : ∃ r : Nat → List Int, r = fun k => quanta (band c l k) (rd s k) := ⟨_, rfl⟩
 obtain ⟨T, hT⟩ : ∃ T, T = powTab.length := ⟨_, rfl⟩
 rw [← hT] at HP
 replace HF := Aside0.mk HF
 replace HP := Aside0.mk HP
 replace HCut := Aside0.mk HCut
 replace HS := Aside0.mk HS
 have HB3 : Aside0 (∀ k, k < l.length → ∀ (W : World) (Ap A' : Option Addr) (cp cp' : Nat), (Kd.int .i64).C W Ap T powTab → (Kd.int .i64).C W A' (band c l k).length (band c l k) → Calls Tryz.prog 112 #[.slice Ap T cp, .slice A' (band c l k).length cp', .int .i64 (rd s k)] W fun e w' => ∃ v, e = .returned v ∧ (Kd.int .i64).R 3 w' W.heap.size (fun _ => True) v (r k) ∧ Below W.heap.size W w') := ⟨fun k hk W Ap A' cp cp' h1 h2 => by rw [hT, hre]; exact HB2 k hk W Ap A' cp cp' (by rw [← hT]; exact h1) h2⟩
 have HRL : Aside0 (∀ k, k < l.length → (r k).length ≤ 128) := ⟨fun k hk => by rw [hre]; exact HXL k hk⟩
 rw [← hre]
 replace hT := Aside0.mk hT
 have hsI : (l.length : Int) ≤ (s.length : Int) := by omega
 have hlI : (l.length : Int) ≤ 32 := by omega
 clear HB HB2 HX HXL hre hr0 hr1 hr2 hc0 hc9 g0 g1 g2 g3 g4 g5 he hsl hl32
 go_enter Tryz.func64, Tryz.ntmps64
 go_wp2_with (first | (go_at_call 109; refine (HF.out).mono ?_; rintro e w' ⟨rfl, hbn⟩; replace hb := bnx hb hbn; clear hbn) | (go_at_call 110; refine (HP.out _).mono ?_; rintro e w1 ⟨Ap, pp, rfl, hCp, hb1⟩; replace hb := bnx hb hb1; have HPW := Aside0.mk hCp; clear hCp hb1) | (go_at_call 111; refine (HCut.out _ hb).mono ?_; rintro e w2 ⟨Ac, pc, rfl, hK, hb2⟩; replace hb := bnx hb hb2; have HPW2 := Aside0.mk (Kd.C_below HPW.out hb2); have HKL := Aside0.mk hK; clear hK hb2 HPW))
 go_loopw [9, 25] (fun o i wr => ∃ k : Nat, i = .int .i64 k ∧ k ≤ l.length ∧ Aside0 ((Kd.int .i64).R 3 wr w2.heap.size (fun _ => True) o ((List.range k).map r).flatten) ∧ Aside0 (((List.range k).map r).flatten.length ≤ k * 128) ∧ Below w2.heap.size w2 wr) (fun _ i _ => l.length - (intOf i).toNat)
 case atStart => exact ⟨0, rfl, by omega, ⟨Kd.R_nil _ _ _ _ _⟩, ⟨by simp⟩, Below.refl _ _⟩
 case round =>
  obtain ⟨k, rfl, hk, ho, hle, hbL⟩ := hrel
  by_cases hlt : k < l.length
  ·obtain ⟨ad, A', cp, rfl, hcell, hCB⟩ := bands_at HKL.out hbL hlt
   obtain ⟨ads, rfl, hcs⟩ := HS.out _ (bnx hb hbL) k hlt
   have HN := Aside0.mk (HB3.out k hlt wr Ap A' pp cp (Kd.C_below HPW2.out hbL) hCB)
   have hkI : (k : Int) < (l.length : Int) := by omega
   have hks : (k : Int) < (s.length : Int) := by omega
   have HT : Aside0 (((List.range (k + 1)).map r).flatten = ((List.range k).map r).flatten ++ r k) := ⟨by rw [List.range_succ, List.map_append, List.flatten_append]; simp⟩
   have hzl := HRL.out k hlt
   have hyl := hle.out
   obtain ⟨y, hy⟩ : ∃ y, y = ((List.range k).map r).flatten := ⟨_, rfl⟩
   rw [← hy] at ho HT hyl
   obtain ⟨z, hz⟩ : ∃ z, z = r k := ⟨_, rfl⟩
   rw [← hz] at HN HT hzl
   have hlen : Aside0 ((y.length + z.length) * 8 ≤ 140737488355328) := ⟨by omega⟩
   have hlen2 : Aside0 ((y ++ z).length ≤ (k + 1) * 128) := ⟨by rw [List.length_append]; omega⟩
   obtain ⟨x, hx⟩ : ∃ x, x = rd s k := ⟨_, rfl⟩
   rw [← hx] at HN hcs
   obtain ⟨n, hn⟩ : ∃ n, n = (band c l k).length := ⟨_, rfl⟩
   rw [← hn] at HN hcell
   clear hy hz hx hn hCB hle hyl hzl
   go_wp2_with (first | (go_at_call 112; refine HN.out.mono ?_; rintro e w5 ⟨v5, rfl, hR5, hb1⟩; obtain ⟨B5, p5, rfl, _, hC5⟩ := Kd.R_reads hR5; have HC5 := Aside0.mk hC5; have HO1 := Aside0.mk (Kd.R_below ho.out hb1); have HB1 := Aside0.mk (bnx hbL hb1); clear ho hb1 hbL hC5 hR5) | (at_builtin; refine Kd.R_append_rows (Kd.int .i64) (Rr := (Kd.int .i64).K w5) (w0 := w2) w2.heap.size rfl (.tmp 30) (.tmp 37) 22 3 (.int .i64 0) 8 rfl Tryz.underlying22 info_int rfl (by decide) (by decide) u9 y z B5 z.length p5 (fun _ => True) (fun _ => False) rfl rfl HO1.out HC5.out (fun _ _ h => h) (fun _ h => h.elim) (fun _ _ => trivial) HB1.out HB1.out.size hlen.out ?_; intro v1 wA hoA hbA hgA hatA; have HOA := Aside0.mk hoA; have HBA := Aside0.mk hbA; clear hoA hgA hatA hbA))
   go_roundw
   case rel => exact ⟨k + 1, by go_num, by omega, ⟨by rw [HT.out]; exact HOA.out⟩, ⟨by rw [HT.out]; exact hlen2.out⟩, HBA.out⟩
   case measure => simp [intOf]; omega
  ·obtain rfl : k = l.length := by omega
   go_wp2
   go_ret2
   exact ⟨_, rfl, Kd.R_lower ho.out hb.size, bnx hb hbL⟩
end Q16

end Go.Proofs.YtnflnicdjioflaaGreatDoor
