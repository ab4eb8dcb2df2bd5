/- What each function of layer 15's reference returns: lists, noise. -/
import Derived.Test.YtglpdojccncjjaaQuantRd
import Derived.Test.YtglpdojccncjjaaQuantRs
import Derived.WalkKit
import Derived.WalkSpells
import Derived.WalkLawsBesides
import Derived.KernelRfl
import Derived.Deep.RegionHeld3
import Derived.Deep.LoopGhost
import Derived.Deep.AppendLies
import Derived.Laws.Rows
import Derived.Shelf.GgClosure.Gives
import Derived.Test.YtglpdojccncjjaaWWords
import Derived.Test.YtglpdojccncjjaaWLast
import Derived.Test.YtglpdojccncjjaaWMore
import Derived.Deep.QuietTactic
import Derived.BigQuiet
namespace Go.Proofs.Ytglpdojccncjjaa.Q15
open Go.RowKit Go.Proofs.YtglpdojccncjjaaW.PrintWords Go.Proofs.YtglpdojccncjjaaW.PrintLast Go.Proofs.YtglpdojccncjjaaW.PrintMore
attribute [local go_sem] max2_int min2_int max_two min_two max_three min_three

theorem sg_bd {c r m : Int} (h0 : 0 ≤ r) (h1 : r ≤ m) : -m ≤ sg c r ∧ sg c r ≤ m := by unfold sg; split <;> omega

set_option maxRecDepth 100000 in
set_option maxHeartbeats 1000000 in
theorem QuantizeBy_calls (A0 A1 : Option Addr) (c0 c1 : Nat) (l : List Int) (s : Int) (w : World) (hr0 : (Kd.int .i64).C w A0 powTab.length powTab) (hr : (Kd.int .i64).C w A1 l.length l) (hl : l.length ≤ 1099511627776) (hp : ∀ n ∈ l, -2097152 ≤ n ∧ n ≤ 2097152) (h2 : 0 ≤ s) (h3 : s ≤ 95) :
    Calls Try.prog 47 #[.slice A0 powTab.length c0, .slice A1 l.length c1, .int .i64 s] w fun e w' => ∃ v, e = .returned v ∧ (Kd.int .i64).R 3 w' w.heap.size (fun _ => True) v (l.map fun c => sg c (qn (stepI s) (absI c))) ∧ Below w.heap.size w w' := by
  have hs := stepI_bd h2 h3
  have HG := fun W hb => greatest_calls A1 c1 l W (Kd.C_below hr hb) hl hp
  have HV := fun g W hb => values_calls A0 c0 s g W (Kd.C_below hr0 hb) h2 h3
  have hup := up_pos (stepI s) (peakI l)
  have HN := fun c (hc : c ∈ l) A cap W hr => nearest_calls A cap (upToL (tab (stepI s)) (peakI l)) c W hr (by omega) hup.1 (up_rising (by omega) _) (by have := hp c hc; omega) (by have := hp c hc; omega) (fun x hx => by have := up_bd (x := stepI s) (by omega) (peakI l) x hx; omega)
  have HN2 : ∀ c, c ∈ l → nearL (upToL (tab (stepI s)) (peakI l)) (absI c) = qn (stepI s) (absI c) := fun c hc => near_qn (stepI s) (peakI l) (absI c) (by omega) (by unfold absI; omega) (peak_abs hc)
  have HV' := HV (peakI l)
  obtain ⟨g, hg⟩ : ∃ g, g = peakI l := ⟨_, rfl⟩
  rw [← hg] at HG HV' HN HN2 hup
  obtain ⟨x, hx⟩ : ∃ x, x = stepI s := ⟨_, rfl⟩
  rw [← hx] at HV' HN HN2 hup hs ⊢
  obtain ⟨t, ht⟩ : ∃ t, t = upToL (tab x) g := ⟨_, rfl⟩
  rw [← ht] at HV' HN HN2 hup
  have HR := Aside0.mk hr
  replace HG := Aside0.mk HG
  replace HV' := Aside0.mk HV'
  replace HN := Aside0.mk HN
  replace HN2 := Aside0.mk HN2
  obtain ⟨n0, hn0⟩ : ∃ n0, n0 = powTab.length := ⟨_, rfl⟩
  rw [← hn0] at HV' ⊢
  clear hg hx ht hr hr0 hp HV hn0
  go_enter Try.func47, Try.ntmps47
  go_wp2_with (first | (go_at_call 70; refine (HG.out _ (Below.refl _ _)).mono ?_; rintro e w' ⟨rfl, hb0⟩) | (go_at_call 67; refine (HV'.out _ hb0).mono ?_; rintro e w1 ⟨v, rfl, hR, hb1⟩; obtain ⟨A, cp, rfl, _, hC⟩ := Kd.R_reads hR; have HC := Aside0.mk hC; have HB0 := bnx hb0 hb1; clear hC hR))
  go_loopw [8, 18] (fun o i wr => ∃ k : Nat, i = .int .i64 k ∧ k ≤ l.length ∧ Aside0 ((Kd.int .i64).R 3 wr w1.heap.size (fun _ => True) o ((l.take k).map fun c => sg c (qn x (absI c)))) ∧ Below w1.heap.size w1 wr) (fun _ i _ => l.length - (intOf i).toNat)
  case atStart => exact ⟨0, rfl, by omega, ⟨Kd.R_nil _ _ _ _ _⟩, Below.refl _ _⟩
  case round =>
    obtain ⟨k, rfl, hk, ho, hb⟩ := hrel
    have hbw := bnx HB0 hb
    by_cases hlt : k < l.length
    · obtain ⟨ad, rfl, hcell⟩ := el_at HR.out hbw hlt
      have hc := HN.out _ (rd_mem l k hlt) A cp wr (Kd.C_below HC.out hb)
      rw [HN2.out _ (rd_mem l k hlt)] at hc
      have HT := Aside0.mk (take_rd l k hlt)
      obtain ⟨z, hx⟩ : ∃ z, z = rd l k := ⟨_, rfl⟩
      rw [← hx] at hcell hc HT
      clear hx
      obtain ⟨r, hr⟩ : ∃ r, r = sg z (qn x (absI z)) := ⟨_, rfl⟩
      have HRr := Aside0.mk hr
      rw [← hr] at hc
      clear hr
      have HC1 := Aside0.mk hc
      clear hc
      obtain ⟨y, hy⟩ : ∃ y, y = (l.take k).map fun c => sg c (qn x (absI c)) := ⟨_, rfl⟩
      have hyl : y.length ≤ 1099511627776 := by rw [hy]; simp; omega
      rw [← hy] at ho
      have HY := Aside0.mk hy
      clear hy
      go_wp2_with (first | (go_at_call 41; refine HC1.out.mono ?_; rintro e w' ⟨rfl, hb1⟩; have HO1 := Aside0.mk (Kd.R_below ho.out hb1); have HB1 := Aside0.mk (bnx hb hb1); clear ho hb hb1 hbw) | (at_builtin; refine Kd.R_append (Kd.int .i64) (w0 := w1) w1.heap.size rfl (.tmp 22) (.tmp 26) 28 3 (.int .i64 0) 8 rfl Try.underlying28 info_int rfl (by decide) (by omega) u8 y (r) [.int .i64 (r)] (fun _ => True) (fun _ => False) rfl rfl rfl (fun _ hk => hk.elim) (fun _ _ => trivial) HO1.out HB1.out HB1.out.size (by omega) ?_; intro v1 wA hoA hbA hgA hatA; have HOA := Aside0.mk hoA; have HBA := Aside0.mk hbA; clear hoA hbA hgA hatA))
      go_roundw
      case rel => exact ⟨k + 1, by go_num, by omega, ⟨by rw [HT.out, List.map_append, ← HY.out, List.map_cons, List.map_nil, ← HRr.out]; exact HOA.out⟩, HBA.out⟩
      case measure => simp [intOf]; omega
    · obtain rfl : k = l.length := by omega
      rw [List.take_length] at ho
      go_wp2
      go_ret
      exact ⟨_, rfl, Kd.R_lower ho.out HB0.size, hbw⟩

end Go.Proofs.Ytglpdojccncjjaa.Q15
