/- What each function of package quant returns: lists. -/
import Derived.Test.YtglpdojccncjjaaQuantC
import Derived.WalkKit
import Derived.WalkSpells
import Derived.WalkLawsBesides
import Derived.KernelRfl
import Derived.Deep.RegionHeld3
import Derived.Deep.LoopGhost
import Derived.Deep.AppendLies
import Derived.Laws.Rows
import Derived.Shelf.GgClosure.Gives
import Derived.Test.YtglpdojccncjjaaWWords
import Derived.Test.YtglpdojccncjjaaWLast
import Derived.Test.YtglpdojccncjjaaWMore
namespace Go.Proofs.Ytglpdojccncjjaa.Q15
open Go.RowKit Go.Proofs.YtglpdojccncjjaaW.PrintWords Go.Proofs.YtglpdojccncjjaaW.PrintLast Go.Proofs.YtglpdojccncjjaaW.PrintMore
attribute [local go_sem] max2_int min2_int max_two min_two max_three min_three

theorem rd_nat (l : List Int) (k : Nat) (h : k < l.length) : rd l k = l[k] := by unfold rd; simp [List.getD_eq_getElem?_getD, h]
theorem rd_mem (l : List Int) (k : Nat) (h : k < l.length) : rd l k ∈ l := by rw [rd_nat l k h]; exact List.getElem_mem _
theorem take_rd (l : List Int) (k : Nat) (h : k < l.length) : l.take (k + 1) = l.take k ++ [rd l k] := by rw [rd_nat l k h, List.take_succ_eq_append_getElem h]
/-- The element at k, where a loop reads it. -/
theorem el_at {w w1 : World} {A : Option Addr} {l : List Int} (hr : (Kd.int .i64).C w A l.length l) (hb : Below w.heap.size w w1) {k : Nat} (hk : k < l.length) :
    ∃ ad, A = some ad ∧ w1.cell? (ad.add k) = some (.int .i64 (rd l k)) := by
  obtain ⟨ad, e, h⟩ := Kd.at_int hr (k : Nat) (by omega) (by omega)
  exact ⟨ad, e, cnx h hb⟩

theorem info_int : (Try.prog.info? 3).map (fun i => (i.zero, i.size, i.bytes)) = some (some (.int .i64 0), 1, 8) := by kernel_rfl

set_option maxHeartbeats 400000 in
theorem all_calls (g : Nat) (fs cs : Array Value) (p : Int → Bool) (A : Option Addr) (cap : Nat) (l : List Int) (w : World) (eg : Enters g) (hr : (Kd.int .i64).C w A l.length l) (hl : l.length ≤ 1099511627776)
    (hp : ∀ x ∈ l, FnBool g fs cs w x (p x)) :
    Calls Try.prog 68 #[.slice A l.length cap, .func (.func g) fs cs] w fun e w' => e = .returned (.bool (l.all p)) ∧ Below w.heap.size w w' := by
  have HP := Aside0.mk hp
  have HR := Aside0.mk hr
  clear hp hr
  unfold Enters at eg
  go_enter Try.func68, Try.ntmps68
  go_wp2
  go_loopw [9] (fun i wr => ∃ k : Nat, i = .int .i64 k ∧ k ≤ l.length ∧ Aside0 ((l.take k).all p = true) ∧ Below w.heap.size w wr) (fun i _ => l.length - (intOf i).toNat)
  case atStart => exact ⟨0, rfl, by omega, ⟨by simp⟩, Below.refl _ _⟩
  case round =>
    obtain ⟨k, rfl, hk, ha, hb⟩ := hrel
    by_cases hlt : k < l.length
    · obtain ⟨ad, rfl, hcell⟩ := el_at HR.out hb hlt
      have hc := HP.out _ (rd_mem l k hlt) wr hb
      have HT := Aside0.mk (take_rd l k hlt)
      have HRD := Aside0.mk (rd_mem l k hlt)
      obtain ⟨x, hx⟩ : ∃ x, x = rd l k := ⟨_, rfl⟩
      rw [← hx] at hcell hc HT HRD
      clear hx
      cases hpm : p x with
      | true =>
        rw [hpm] at hc
        have HC := Aside0.mk hc
        have hpm := Aside0.mk hpm
        clear hc
        go_wp2_with (go_at_fn g; refine HC.out.mono ?_; rintro e w' ⟨rfl, hb1⟩)
        go_roundw
        case rel => exact ⟨k + 1, by go_num, by omega, ⟨by rw [HT.out, List.all_append, ha.out]; simp [hpm.out]⟩, bnx hb hb1⟩
        case measure => simp [intOf]; omega
      | false =>
        rw [hpm] at hc
        have HC := Aside0.mk hc
        have hpm := Aside0.mk hpm
        clear hc
        go_wp2_with (go_at_fn g; refine HC.out.mono ?_; rintro e w' ⟨rfl, hb1⟩)
        go_ret
        refine ⟨?_, bnx hb hb1⟩
        rw [show l.all p = false from List.all_eq_false.2 ⟨x, HRD.out, by rw [hpm.out]; simp⟩]
        rfl
    · obtain rfl : k = l.length := by omega
      go_wp2
      go_ret
      refine ⟨?_, hb⟩
      have := ha.out
      rw [List.take_length] at this
      rw [this]
      rfl

set_option maxHeartbeats 400000 in
theorem mapped_calls (g : Nat) (fs cs : Array Value) (f : Int → Int) (A : Option Addr) (cap : Nat) (l : List Int) (w : World) (eg : Enters g) (hr : (Kd.int .i64).C w A l.length l) (hl : l.length ≤ 1099511627776)
    (hp : ∀ x ∈ l, FnInt g fs cs w x (f x)) :
    Calls Try.prog 44 #[.slice A l.length cap, .func (.func g) fs cs] w fun e w' => ∃ v : Value, e = .returned v ∧ (Kd.int .i64).R 3 w' w.heap.size (fun _ => True) v (l.map f) ∧ Below w.heap.size w w' := by
  have HP := Aside0.mk hp
  have HR := Aside0.mk hr
  clear hp hr
  unfold Enters at eg
  go_enter Try.func44, Try.ntmps44
  go_wp2
  go_loopw [5, 10] (fun o i wr => ∃ k : Nat, i = .int .i64 k ∧ k ≤ l.length ∧ Aside0 ((Kd.int .i64).R 3 wr w.heap.size (fun _ => True) o ((l.take k).map f)) ∧ Below w.heap.size w wr) (fun _ i _ => l.length - (intOf i).toNat)
  case atStart => exact ⟨0, rfl, by omega, ⟨Kd.R_nil _ _ _ _ _⟩, Below.refl _ _⟩
  case round =>
    obtain ⟨k, rfl, hk, ho, hb⟩ := hrel
    by_cases hlt : k < l.length
    · obtain ⟨ad, rfl, hcell⟩ := el_at HR.out hb hlt
      have hc := HP.out _ (rd_mem l k hlt) wr hb
      have HT := Aside0.mk (take_rd l k hlt)
      obtain ⟨x, hx⟩ : ∃ x, x = rd l k := ⟨_, rfl⟩
      rw [← hx] at hcell hc HT
      clear hx
      have HC := Aside0.mk hc
      clear hc
      obtain ⟨y, hy⟩ : ∃ y, y = (l.take k).map f := ⟨_, rfl⟩
      have hyl : y.length ≤ 1099511627776 := by rw [hy]; simp; omega
      rw [← hy] at ho
      have HY := Aside0.mk hy
      clear hy
      go_wp2_with (first
        | (go_at_fn g; refine HC.out.mono ?_; rintro e w' ⟨rfl, hb1⟩; have HO1 := Aside0.mk (Kd.R_below ho.out hb1); have HB1 := Aside0.mk (bnx hb hb1); clear ho hb hb1)
        | (at_builtin; refine Kd.R_append (Kd.int .i64) (w0 := w) w.heap.size rfl (.tmp 14) (.tmp 18) 28 3 (.int .i64 0) 8 rfl Try.underlying28 info_int rfl (by decide) (by omega) u5 y (f x) [.int .i64 (f x)] (fun _ => True) (fun _ => False) rfl rfl rfl (fun _ hk => hk.elim) (fun _ _ => trivial) HO1.out HB1.out HB1.out.size (by omega) ?_; intro v1 wA hoA hbA hgA hatA; have HOA := Aside0.mk hoA; have HBA := Aside0.mk hbA; clear hoA hbA hgA hatA))
      go_roundw
      case rel => exact ⟨k + 1, by go_num, by omega, ⟨by rw [HT.out, List.map_append, ← HY.out]; exact HOA.out⟩, HBA.out⟩
      case measure => simp [intOf]; omega
    · obtain rfl : k = l.length := by omega
      rw [List.take_length] at ho
      go_wp2
      go_ret
      exact ⟨_, rfl, ho.out, hb⟩

end Go.Proofs.Ytglpdojccncjjaa.Q15
