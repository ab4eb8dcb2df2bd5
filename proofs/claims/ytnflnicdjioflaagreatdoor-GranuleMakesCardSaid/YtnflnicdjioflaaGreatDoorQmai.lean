/- A part of the proof. -/
import Derived.Test.YtnflnicdjioflaaGreatDoorQmae
import Derived.Test.YtnflnicdjioflaaGreatDoorQmah
import Derived.Test.YtnflnicdjioflaaGreatDoorQmab
import Derived.RangeFuncBound
import Derived.Shelf.Abstract
import Derived.Shelf.RegionOpen
import Derived.OwnWalkIn
import Derived.TacticsInMore
import Derived.LoopNIn
import Derived.LoopIn
set_option linter.unusedVariables false
set_option linter.unusedSimpArgs false
namespace Go.Proofs.YtnflnicdjioflaaGreatDoor
open Go.RowKit Go.Proofs.YtnflnicdjioflaaGreatDoorW.PrintWords Go.Proofs.YtnflnicdjioflaaGreatDoorW.PrintLast Go.Proofs.YtnflnicdjioflaaGreatDoorW.PrintMore
namespace Q21
attribute [local go_sem] max2_int min2_int max_two min_two max_three min_three
open Q15
theorem R_lit0 {α : Type} (enc : α → Value) (h1 : ∀ x, (enc x).oneCell' = true) (w : World) (e : Nat) : (Kd.scalar enc h1).R e (w.alloc (.cells #[] e)) w.heap.size (fun _ => True) (.slice (some ⟨w.heap.size, 0, none⟩) 0 0) [] :=
 Kd.R_of_own (World.ownsRow_made w #[] 0 (Nat.le_refl _) (by decide) (by simp)) (fun _ _ => trivial)
set_option maxRecDepth 100000 in
set_option maxHeartbeats 1000000 in
theorem Clone_calls (A : Option Addr) (cap : Nat) (l : List Int) (w : World) (hr : (Kd.int .i64).C w A l.length l) (hl : l.length ≤ 1000000) :
  Calls Tryz.prog 28 #[.slice A l.length cap] w fun e w' => ∃ v, e = .returned v ∧ (Kd.int .i64).R 3 w' w.heap.size (fun _ => True) v l ∧ Below w.heap.size w w' := by
 have hb := Below.refl w.heap.size w
 cases A with
 | none =>
  have h0 : l = [] := by
   obtain ⟨_, _, h⟩ := hr
   rcases Nat.eq_zero_or_pos l.length with h1 | h1
   ·exact List.length_eq_zero_iff.1 h1
   ·obtain ⟨a, e, _⟩ := h h1
    cases e
  subst h0
  have q22 : ∀ (w : World) (a : Option Addr) (n c n' c' : Nat), (binOp .eql 22 (.slice a n c) (.slice none n' c')).run Tryz.prog w = .ok (.bool a.isNone) w := fun w a n c n' c' => Lib.run_eql_slice_nil w _ _ a n c n' c' Tryz.underlying22
  clear hr hl
  go_enter Tryz.func28, Tryz.ntmps28
  go_wp2
  go_ret
  exact ⟨_, rfl, Kd.R_nil _ _ _ _ _, hb⟩
 | some a =>
  have HR := Aside0.mk (Kd.C_below hr ((Below.refl w.heap.size w).alloc (Nat.le_refl _) (.cells #[] 3)))
  have HO := Aside0.mk (R_lit0 (Value.int .i64) (fun _ => rfl) w 3)
  have HB := Aside0.mk ((Below.refl w.heap.size w).alloc (Nat.le_refl _) (.cells #[] 3))
  have q22 : ∀ (w : World) (a : Option Addr) (n c n' c' : Nat), (binOp .eql 22 (.slice a n c) (.slice none n' c')).run Tryz.prog w = .ok (.bool a.isNone) w := fun w a n c n' c' => Lib.run_eql_slice_nil w _ _ a n c n' c' Tryz.underlying22
  have hlen : Aside0 ((([] : List Int).length + l.length) * 8 ≤ 140737488355328) := ⟨by simp; omega⟩
  clear hr hl
  go_enter Tryz.func28, Tryz.ntmps28
  go_wp2_with (at_builtin; refine Kd.R_append_rows (Kd.int .i64) (Rr := (Kd.int .i64).K (w.alloc (.cells #[] 3))) (w0 := w) w.heap.size rfl (.tmp 5) (.tmp 6) 22 3 (.int .i64 0) 8 rfl Tryz.underlying22 info_int rfl (by decide) (by decide) (.slice (some ⟨w.heap.size, 0, none⟩) 0 0) [] l (some a) l.length cap (fun _ => True) (fun _ => False) rfl rfl HO.out HR.out (fun _ _ h => h) (fun _ h => h.elim) (fun _ _ => trivial) HB.out HB.out.size hlen.out ?_; intro v1 wA hoA hbA hgA hatA; have HOA := Aside0.mk hoA; have HBA := Aside0.mk hbA; clear hoA hgA hatA hbA)
  go_ret
  exact ⟨_, rfl, HOA.out, HBA.out⟩
theorem info_bool : (Tryz.prog.info? 4).map (fun i => (i.zero, i.size, i.bytes)) = some (some (.bool false), 1, 1) := by kernel_rfl
set_option maxRecDepth 100000 in
set_option maxHeartbeats 1000000 in
theorem CloneB_calls (A : Option Addr) (cap : Nat) (l : List Bool) (w : World) (hr : Kd.bool.C w A l.length l) (hl : l.length ≤ 1000000) :
  Calls Tryz.prog 27 #[.slice A l.length cap] w fun e w' => ∃ v, e = .returned v ∧ Kd.bool.R 4 w' w.heap.size (fun _ => True) v l ∧ Below w.heap.size w w' := by
 have hb := Below.refl w.heap.size w
 cases A with
 | none =>
  have h0 : l = [] := by
   obtain ⟨_, _, h⟩ := hr
   rcases Nat.eq_zero_or_pos l.length with h1 | h1
   ·exact List.length_eq_zero_iff.1 h1
   ·obtain ⟨a, e, _⟩ := h h1
    cases e
  subst h0
  have q22 : ∀ (w : World) (a : Option Addr) (n c n' c' : Nat), (binOp .eql 23 (.slice a n c) (.slice none n' c')).run Tryz.prog w = .ok (.bool a.isNone) w := fun w a n c n' c' => Lib.run_eql_slice_nil w _ _ a n c n' c' Tryz.underlying23
  clear hr hl
  go_enter Tryz.func27, Tryz.ntmps27
  go_wp2
  go_ret
  exact ⟨_, rfl, Kd.R_nil _ _ _ _ _, hb⟩
 | some a =>
  have HR := Aside0.mk (Kd.C_below hr ((Below.refl w.heap.size w).alloc (Nat.le_refl _) (.cells #[] 4)))
  have HO := Aside0.mk (R_lit0 (Value.bool) (fun _ => rfl) w 4)
  have HB := Aside0.mk ((Below.refl w.heap.size w).alloc (Nat.le_refl _) (.cells #[] 4))
  have q22 : ∀ (w : World) (a : Option Addr) (n c n' c' : Nat), (binOp .eql 23 (.slice a n c) (.slice none n' c')).run Tryz.prog w = .ok (.bool a.isNone) w := fun w a n c n' c' => Lib.run_eql_slice_nil w _ _ a n c n' c' Tryz.underlying23
  have hlen : Aside0 ((([] : List Bool).length + l.length) * 1 ≤ 140737488355328) := ⟨by simp; omega⟩
  clear hr hl
  go_enter Tryz.func27, Tryz.ntmps27
  go_wp2_with (at_builtin; refine Kd.R_append_rows Kd.bool (Rr := Kd.bool.K (w.alloc (.cells #[] 4))) (w0 := w) w.heap.size rfl (.tmp 5) (.tmp 6) 23 4 (.bool false) 1 rfl Tryz.underlying23 info_bool rfl (by decide) (by decide) (.slice (some ⟨w.heap.size, 0, none⟩) 0 0) [] l (some a) l.length cap (fun _ => True) (fun _ => False) rfl rfl HO.out HR.out (fun _ _ h => h) (fun _ h => h.elim) (fun _ _ => trivial) HB.out HB.out.size hlen.out ?_; intro v1 wA hoA hbA hgA hatA; have HOA := Aside0.mk hoA; have HBA := Aside0.mk hbA; clear hoA hgA hatA hbA)
  go_ret
  exact ⟨_, rfl, HOA.out, HBA.out⟩
end Q21

namespace Q21
attribute [local go_sem] max2_int min2_int max_two min_two max_three min_three
open Q15
def longsL : List Int := [4, 4, 4, 4, 4, 4, 4, 8, 8, 8, 12, 12, 16, 16, 20]
def shortsL : List Int := [2, 2, 4, 8]
def widthsL (sh : Bool) (g : List Int) : List Int := if sh then (g.map fun n => [n * 2, n * 2, n * 4, n * 8]).flatten else longsL
structure Laid (w : World) : Prop where
 longs : (Kd.int .i64).C w (some ⟨0, 0, none⟩) 15 longsL
 shorts : (Kd.int .i64).C w (some ⟨1, 0, none⟩) 4 shortsL
theorem Laid.below {w w1 : World} (h : Laid w) (hb : Below w.heap.size w w1) : Laid w1 := ⟨Kd.C_below h.longs hb, Kd.C_below h.shorts hb⟩
theorem Laid.short {w : World} (h : Laid w) : w.cell? ⟨1, 0, none⟩ = some (.int .i64 2) ∧ w.cell? ⟨1, 1, none⟩ = some (.int .i64 2) ∧ w.cell? ⟨1, 2, none⟩ = some (.int .i64 4) ∧ w.cell? ⟨1, 3, none⟩ = some (.int .i64 8) := by
 have h2 : ∀ (k : Nat), k < 4 → w.cell? ((⟨1, 0, none⟩ : Addr).add k) = some (.int .i64 (rd shortsL k)) := fun k hk => by
  obtain ⟨ad, e, h3⟩ := el_at (w1 := w) (l := shortsL) h.shorts (Below.refl _ _) (k := k) hk
  cases e
  exact h3
 exact ⟨h2 0 (by decide), h2 1 (by decide), h2 2 (by decide), h2 3 (by decide)⟩
set_option maxRecDepth 100000 in
set_option maxHeartbeats 2000000 in
theorem widths_calls (sh : Bool) (A : Option Addr) (cap : Nat) (g : List Int) (w : World) (hL : Laid w) (hr : (Kd.int .i64).C w A g.length g) (hg : g.length ≤ 8) (hn : ∀ n ∈ g, 1 ≤ n ∧ n ≤ 8) :
  Calls Tryz.prog 95 #[.bool sh, .slice A g.length cap] w fun e w' => ∃ A p, e = .returned (.slice A (widthsL sh g).length p) ∧ (Kd.int .i64).C w' A (widthsL sh g).length (widthsL sh g) ∧ Below w.heap.size w w' := by
 have hb := Below.refl w.heap.size w
 cases sh with
 | false =>
  have HC := Aside0.mk hL.longs
  clear hr hL hn hg
  go_enter Tryz.func95, Tryz.ntmps95
  go_wp2
  go_ret
  exact ⟨_, _, rfl, HC.out, hb⟩
 | true =>
  have HR := Aside0.mk hr
  have HL := Aside0.mk hL
  have HN := Aside0.mk (fun k (hk : k < g.length) => hn _ (rd_mem g k hk))
  have hgI : (g.length : Int) ≤ 8 := by omega
  have x0 : ∀ w, (Instr.index 172 (.agg #[.int .i64 2, .int .i64 2, .int .i64 4, .int .i64 8]) (.int .i64 0)).run Tryz.prog w = .ok (.int .i64 2) w := fun _ => by kernel_rfl
  have x1 : ∀ w, (Instr.index 172 (.agg #[.int .i64 2, .int .i64 2, .int .i64 4, .int .i64 8]) (.int .i64 1)).run Tryz.prog w = .ok (.int .i64 2) w := fun _ => by kernel_rfl
  have x2 : ∀ w, (Instr.index 172 (.agg #[.int .i64 2, .int .i64 2, .int .i64 4, .int .i64 8]) (.int .i64 2)).run Tryz.prog w = .ok (.int .i64 4) w := fun _ => by kernel_rfl
  have x3 : ∀ w, (Instr.index 172 (.agg #[.int .i64 2, .int .i64 2, .int .i64 4, .int .i64 8]) (.int .i64 3)).run Tryz.prog w = .ok (.int .i64 8) w := fun _ => by kernel_rfl
  clear hr hL hn hg
  go_enter Tryz.func95, Tryz.ntmps95
  go_wp2
  go_loopw [5, 15] (fun o i wr => ∃ k : Nat, i = .int .i64 k ∧ k ≤ g.length ∧ Aside0 ((Kd.int .i64).R 3 wr w.heap.size (fun _ => True) o (widthsL true (g.take k))) ∧ Aside0 (Below w.heap.size w wr)) (fun _ i _ => g.length - (intOf i).toNat)
  case atStart => exact ⟨0, rfl, by omega, ⟨Kd.R_nil _ _ _ _ _⟩, ⟨hb⟩⟩
  case round =>
   obtain ⟨k, rfl, hk, ho, hbL⟩ := hrel
   by_cases hlt : k < g.length
   ·obtain ⟨ad, rfl, hcell⟩ := el_at HR.out hbL.out hlt
    have hkI : (k : Int) < (g.length : Int) := by omega
    have hnb := HN.out k hlt
    have hT : widthsL true (g.take (k + 1)) = widthsL true (g.take k) ++ [rd g k * 2, rd g k * 2, rd g k * 4, rd g k * 8] := by
     unfold widthsL
     rw [if_pos rfl, if_pos rfl, take_rd g k hlt, List.map_append, List.flatten_append]
     simp
    obtain ⟨s0, s1, s2, s3⟩ := (HL.out.below hbL.out).short
    obtain ⟨n, hx⟩ : ∃ n, n = rd g k := ⟨_, rfl⟩
    rw [← hx] at hcell hnb hT
    replace hT := Aside0.mk hT
    clear hx
    obtain ⟨y, hy⟩ : ∃ y, y = widthsL true (g.take k) := ⟨_, rfl⟩
    have hyl : y.length ≤ 32 := by
     rw [hy]
     unfold widthsL
     rw [if_pos rfl]
     have : ∀ l : List Int, ((l.map fun n => [n * 2, n * 2, n * 4, n * 8]).flatten).length = l.length * 4 := fun l => by
      induction l with
      | nil => rfl
      | cons a t ih => rw [List.map_cons, List.flatten_cons, List.length_append, ih]; simp; omega
     rw [this, List.length_take]
     omega
    rw [← hy] at ho hT
    have a0 : (y.length + 1) * 8 ≤ 140737488355328 := by omega
    have a1 : ((y ++ [n * 2]).length + 1) * 8 ≤ 140737488355328 := by simp; omega
    have a2 : ((y ++ [n * 2] ++ [n * 2]).length + 1) * 8 ≤ 140737488355328 := by simp; omega
    have a3 : ((y ++ [n * 2] ++ [n * 2] ++ [n * 4]).length + 1) * 8 ≤ 140737488355328 := by simp; omega
    replace a0 := Aside0.mk a0
    replace a1 := Aside0.mk a1
    replace a2 := Aside0.mk a2
    replace a3 := Aside0.mk a3
    clear hyl hy
    go_wp2_with fail
    refine wp_loop_rounds 5 ?_
    rw [rounds_succ]
    go_wp2_with (first | (at_builtin; refine Kd.R_append (Kd.int .i64) (w0 := w) w.heap.size rfl (.tmp 23) (.tmp 27) 22 3 (.int .i64 0) 8 rfl Tryz.underlying22 info_int rfl (by decide) (by omega) u5 y ((n * 2)) [.int .i64 ((n * 2))] (fun _ => True) (fun _ => False) rfl rfl rfl (fun _ hk => hk.elim) (fun _ _ => trivial) ho.out hbL.out hbL.out.size a0.out ?_; intro v1 wA hoA hbA hgA hatA; have HOA := Aside0.mk hoA; have HBA := Aside0.mk hbA; clear hoA hbA hgA hatA))
    rw [rounds_succ]
    go_wp2_with (first | (at_builtin; refine Kd.R_append (Kd.int .i64) (w0 := w) w.heap.size rfl (.tmp 23) (.tmp 27) 22 3 (.int .i64 0) 8 rfl Tryz.underlying22 info_int rfl (by decide) (by omega) v1 (y ++ [n * 2]) ((n * 2)) [.int .i64 ((n * 2))] (fun _ => True) (fun _ => False) rfl rfl rfl (fun _ hk => hk.elim) (fun _ _ => trivial) HOA.out HBA.out HBA.out.size a1.out ?_; intro v1 wA hoA hbA hgA hatA; have HOA := Aside0.mk hoA; have HBA := Aside0.mk hbA; clear hoA hbA hgA hatA))
    rw [rounds_succ]
    go_wp2_with (first | (at_builtin; refine Kd.R_append (Kd.int .i64) (w0 := w) w.heap.size rfl (.tmp 23) (.tmp 27) 22 3 (.int .i64 0) 8 rfl Tryz.underlying22 info_int rfl (by decide) (by omega) v1 (y ++ [n * 2] ++ [n * 2]) ((n * 4)) [.int .i64 ((n * 4))] (fun _ => True) (fun _ => False) rfl rfl rfl (fun _ hk => hk.elim) (fun _ _ => trivial) HOA.out HBA.out HBA.out.size a2.out ?_; intro v1 wA hoA hbA hgA hatA; have HOA := Aside0.mk hoA; have HBA := Aside0.mk hbA; clear hoA hbA hgA hatA))
    rw [rounds_succ]
    go_wp2_with (first | (at_builtin; refine Kd.R_append (Kd.int .i64) (w0 := w) w.heap.size rfl (.tmp 23) (.tmp 27) 22 3 (.int .i64 0) 8 rfl Tryz.underlying22 info_int rfl (by decide) (by omega) v1 (y ++ [n * 2] ++ [n * 2] ++ [n * 4]) ((n * 8)) [.int .i64 ((n * 8))] (fun _ => True) (fun _ => False) rfl rfl rfl (fun _ hk => hk.elim) (fun _ _ => trivial) HOA.out HBA.out HBA.out.size a3.out ?_; intro v1 wA hoA hbA hgA hatA; have HOA := Aside0.mk hoA; have HBA := Aside0.mk hbA; clear hoA hbA hgA hatA))
    rw [rounds_succ]
    go_wp2_with fail
    go_roundw
    case rel => exact ⟨k + 1, by go_num, by omega, ⟨by rw [hT.out]; simpa using HOA.out⟩, HBA⟩
    case measure => simp [intOf]; omega
   ·obtain rfl : k = g.length := by omega
    have ho' := ho.out
    rw [List.take_length] at ho'
    replace ho' := Aside0.mk ho'
    clear ho
    go_wp2
    go_ret
    obtain ⟨B5, p5, rfl, _, hC⟩ := Kd.R_reads ho'.out
    exact ⟨_, _, rfl, hC, hbL.out⟩
end Q21

namespace Sca
attribute [local go_sem] max2_int min2_int max_two min_two max_three min_three
open Q15
def lenL : List Int := [15, 15, 15, 15, 15, 15, 14, 14, 14, 14, 14, 14, 14, 14, 14, 14, 14, 14, 14, 14, 14, 14, 14, 14, 14, 14, 14, 14, 14, 14, 14, 14, 14, 14, 13, 13, 13, 13, 13, 13, 13, 13, 13, 13, 13, 13, 13, 13, 13, 13, 13, 13, 12, 12, 12, 12, 12, 12, 12, 12, 12, 12, 12, 12, 12, 11, 11, 11, 11, 11, 11, 11, 11, 11, 10, 10, 10, 10, 10, 10, 9, 9, 9, 9, 9, 8, 8, 8, 7, 7, 7, 6, 6, 5, 3, 1, 3, 5, 6, 6, 7, 7, 7, 8, 8, 8, 9, 9, 9, 9, 9, 10, 10, 10, 10, 10, 10, 11, 11, 11, 11, 11, 11, 11, 11, 11, 12, 12, 12, 12, 12, 12, 12, 12, 12, 12, 12, 12, 12, 13, 13, 13, 13, 13, 13, 13, 13, 13, 13, 13, 13, 13, 13, 13, 13, 13, 13, 13, 13, 14, 14, 14, 14, 14, 14, 14, 14, 14, 14, 14, 14, 14, 14, 14, 14, 14, 14, 14, 14, 14, 14, 14, 14, 14, 14, 15, 15, 15, 15, 15, 15]
theorem lenL_len : lenL.length = 191 := by decide +kernel
def lenD (d : Int) : Int := rd lenL (d + 95)
theorem lenL_bd : ∀ x ∈ lenL, 1 ≤ x ∧ x ≤ 15 := by decide +kernel
theorem lenD_bd {d : Int} (h0 : -95 ≤ d) (h1 : d ≤ 95) : 1 ≤ lenD d ∧ lenD d ≤ 15 := by
 have h := rd_mem lenL (d + 95).toNat (by rw [lenL_len]; omega)
 rw [show (((d + 95).toNat : Nat) : Int) = d + 95 by omega] at h
 exact lenL_bd _ h
set_option maxRecDepth 100000 in
theorem tab_all : ∀ i : Fin 191, (((ByteArray.mk #[111, 111, 111, 111, 111, 111, 110, 110, 110, 110, 110, 110, 110, 110, 110, 110, 110, 110, 110, 110, 110, 110, 110, 110, 110, 110, 110, 110, 110, 110, 110, 110, 110, 110, 109, 109, 109, 109, 109, 109, 109, 109, 109, 109, 109, 109, 109, 109, 109, 109, 109, 109, 108, 108, 108, 108, 108, 108, 108, 108, 108, 108, 108, 108, 108, 107, 107, 107, 107, 107, 107, 107, 107, 107, 106, 106, 106, 106, 106, 106, 105, 105, 105, 105, 105, 104, 104, 104, 103, 103, 103, 102, 102, 101, 99, 97, 99, 101, 102, 102, 103, 103, 103, 104, 104, 104, 105, 105, 105, 105, 105, 106, 106, 106, 106, 106, 106, 107, 107, 107, 107, 107, 107, 107, 107, 107, 108, 108, 108, 108, 108, 108, 108, 108, 108, 108, 108, 108, 108, 109, 109, 109, 109, 109, 109, 109, 109, 109, 109, 109, 109, 109, 109, 109, 109, 109, 109, 109, 109, 110, 110, 110, 110, 110, 110, 110, 110, 110, 110, 110, 110, 110, 110, 110, 110, 110, 110, 110, 110, 110, 110, 110, 110, 110, 110, 111, 111, 111, 111, 111, 111])[i.1]'(by show i.1 < 191; exact i.2)).toNat : Int) = rd lenL ((i.1 : Nat) : Int) + 96 := by decide +kernel
set_option maxRecDepth 100000 in
theorem tab_at {d : Int} (h0 : -95 ≤ d) (h1 : d ≤ 95) (hb : (d + 95).toNat < (ByteArray.mk #[111, 111, 111, 111, 111, 111, 110, 110, 110, 110, 110, 110, 110, 110, 110, 110, 110, 110, 110, 110, 110, 110, 110, 110, 110, 110, 110, 110, 110, 110, 110, 110, 110, 110, 109, 109, 109, 109, 109, 109, 109, 109, 109, 109, 109, 109, 109, 109, 109, 109, 109, 109, 108, 108, 108, 108, 108, 108, 108, 108, 108, 108, 108, 108, 108, 107, 107, 107, 107, 107, 107, 107, 107, 107, 106, 106, 106, 106, 106, 106, 105, 105, 105, 105, 105, 104, 104, 104, 103, 103, 103, 102, 102, 101, 99, 97, 99, 101, 102, 102, 103, 103, 103, 104, 104, 104, 105, 105, 105, 105, 105, 106, 106, 106, 106, 106, 106, 107, 107, 107, 107, 107, 107, 107, 107, 107, 108, 108, 108, 108, 108, 108, 108, 108, 108, 108, 108, 108, 108, 109, 109, 109, 109, 109, 109, 109, 109, 109, 109, 109, 109, 109, 109, 109, 109, 109, 109, 109, 109, 110, 110, 110, 110, 110, 110, 110, 110, 110, 110, 110, 110, 110, 110, 110, 110, 110, 110, 110, 110, 110, 110, 110, 110, 110, 110, 111, 111, 111, 111, 111, 111]).size) : (((ByteArray.mk #[111, 111, 111, 111, 111, 111, 110, 110, 110, 110, 110, 110, 110, 110, 110, 110, 110, 110, 110, 110, 110, 110, 110, 110, 110, 110, 110, 110, 110, 110, 110, 110, 110, 110, 109, 109, 109, 109, 109, 109, 109, 109, 109, 109, 109, 109, 109, 109, 109, 109, 109, 109, 108, 108, 108, 108, 108, 108, 108, 108, 108, 108, 108, 108, 108, 107, 107, 107, 107, 107, 107, 107, 107, 107, 106, 106, 106, 106, 106, 106, 105, 105, 105, 105, 105, 104, 104, 104, 103, 103, 103, 102, 102, 101, 99, 97, 99, 101, 102, 102, 103, 103, 103, 104, 104, 104, 105, 105, 105, 105, 105, 106, 106, 106, 106, 106, 106, 107, 107, 107, 107, 107, 107, 107, 107, 107, 108, 108, 108, 108, 108, 108, 108, 108, 108, 108, 108, 108, 108, 109, 109, 109, 109, 109, 109, 109, 109, 109, 109, 109, 109, 109, 109, 109, 109, 109, 109, 109, 109, 110, 110, 110, 110, 110, 110, 110, 110, 110, 110, 110, 110, 110, 110, 110, 110, 110, 110, 110, 110, 110, 110, 110, 110, 110, 110, 111, 111, 111, 111, 111, 111])[(d + 95).toNat]'hb).toNat : Int) = lenD d + 96 := by
 have h := tab_all ⟨(d + 95).toNat, by omega⟩
 rw [show (((d + 95).toNat : Nat) : Int) = d + 95 by omega] at h
 exact h
set_option maxRecDepth 100000 in
set_option maxHeartbeats 1000000 in
theorem length_calls (d : Int) (w : World) (h0 : -95 ≤ d) (h1 : d ≤ 95) :
  Calls Tryz.prog 154 #[.int .i64 d] w fun e w' => e = .returned (.int .i64 (lenD d)) ∧ w' = w := by
 have H := Aside0.mk (fun hb => tab_at h0 h1 hb)
 have hx := Aside0.mk (lenD_bd h0 h1)
 obtain ⟨x, hx2⟩ : ∃ x, x = lenD d := ⟨_, rfl⟩
 rw [← hx2] at H hx ⊢
 clear hx2
 go_enter Tryz.func154, Tryz.ntmps154
 go_wp2
 rw [H.out]
 go_ret
 have := hx.out
 exact ⟨by rw [show (x + 96 - 97) % 256 + 1 = x by omega]; rfl, rfl⟩
set_option maxRecDepth 100000 in
set_option maxHeartbeats 1000000 in
theorem Lengths_calls (w : World) :
  Calls Tryz.prog 152 #[] w fun e w' => ∃ v, e = .returned v ∧ (Kd.int .i64).R 3 w' w.heap.size (fun _ => True) v lenL ∧ Below w.heap.size w w' := by
 have hlen := lenL_len
 have HT : Aside0 (∀ k : Nat, k < 191 → lenL.take (k + 1) = lenL.take k ++ [lenD ((k : Int) - 95)]) := ⟨fun k hk => by
  rw [take_rd lenL k (by omega)]
  unfold lenD
  rw [show (k : Int) - 95 + 95 = k by omega]⟩
 have hL := Aside0.mk (fun (k : Nat) (hk : k < 191) (W : World) => length_calls ((k : Int) - 95) W (by omega) (by omega))
 have HB := Aside0.mk (fun (k : Nat) (hk : k < 191) => lenD_bd (d := (k : Int) - 95) (by omega) (by omega))
 obtain ⟨LL, hLL⟩ : ∃ LL, LL = lenL := ⟨_, rfl⟩
 rw [← hLL] at hlen HT ⊢
 clear hLL
 have hlen' := Aside0.mk hlen
 clear hlen
 go_enter Tryz.func152, Tryz.ntmps152
 go_wp2
 go_loopw [1, 3] (fun o i wr => ∃ k : Nat, i = .int .i64 k ∧ k ≤ 191 ∧ Aside0 ((Kd.int .i64).R 3 wr w.heap.size (fun _ => True) o (LL.take k)) ∧ Below w.heap.size w wr) (fun _ i _ => 191 - (intOf i).toNat)
 case atStart => exact ⟨0, rfl, by omega, ⟨Kd.R_nil _ _ _ _ _⟩, Below.refl _ _⟩
 case round =>
  obtain ⟨k, rfl, hk, ho, hb⟩ := hrel
  by_cases hlt : k < 191
  ·have hT := Aside0.mk (HT.out k hlt)
   have hLk := Aside0.mk (hL.out k hlt)
   have hkI : (k : Int) < 191 := by omega
   obtain ⟨x, hx⟩ : ∃ x, x = lenD ((k : Int) - 95) := ⟨_, rfl⟩
   rw [← hx] at hT hLk
   obtain ⟨Y, hY⟩ : ∃ Y, Y = LL.take k := ⟨_, rfl⟩
   have hYl : Y.length ≤ 191 := by rw [hY, List.length_take]; omega
   rw [← hY] at ho hT
   have hlt' := Aside0.mk hlt
   clear hY hx hlt
   go_wp2_with (first | (go_at_call 154; refine (hLk.out _).mono ?_; rintro e w' ⟨rfl, hw'⟩; rw [hw']; clear hw') | (at_builtin; refine Kd.R_append (Kd.int .i64) (w0 := w) w.heap.size rfl (.tmp 6) (.tmp 10) 22 3 (.int .i64 0) 8 rfl Tryz.underlying22 info_int rfl (by decide) (by omega) u1 Y (x) [.int .i64 (x)] (fun _ => True) (fun _ => False) rfl rfl rfl (fun _ hk => hk.elim) (fun _ _ => trivial) ho.out (Aside0.mk hb).out (Aside0.mk hb).out.size (by omega) ?_; intro v1 wA hoA hbA hgA hatA; have HOA := Aside0.mk hoA; have HBA := Aside0.mk hbA; clear hoA hbA hgA hatA))
   go_roundw
   case rel => exact ⟨k + 1, by go_num, by have := hlt'.out; omega, ⟨by rw [hT.out]; exact HOA.out⟩, HBA.out⟩
   case measure => have := hlt'.out; simp [intOf]; omega
  ·obtain rfl : k = 191 := by omega
   have hR := ho.out
   rw [List.take_of_length_le (by rw [hlen'.out]; exact Nat.le_refl _)] at hR
   have hR2 := Aside0.mk hR
   clear hR ho
   go_wp2
   go_ret
   exact ⟨_, rfl, hR2.out, hb⟩
end Sca

namespace Sca
attribute [local go_sem] max2_int min2_int max_two min_two max_three min_three
open Q15
def isS (s : Int) : Bool := decide (0 ≤ s ∧ s ≤ 95)
def badU (ss : List Int) (us : List Bool) (k : Nat) : Bool := (List.range k).any fun i => decide (rd ss i ≠ 0) && !us.getD i false
def scE (ss : List Int) (us : List Bool) : Int := if ss.all isS = true then (if badU ss us ss.length = true then 4 else 0) else 6
theorem badU_succ (ss : List Int) (us : List Bool) (k : Nat) : badU ss us (k + 1) = (badU ss us k || (decide (rd ss k ≠ 0) && !us.getD k false)) := by
 unfold badU
 rw [List.range_succ, List.any_append]
 simp
theorem elb_at {w w1 : World} {A : Option Addr} {l : List Bool} (hr : Kd.bool.C w A l.length l) (hb : Below w.heap.size w w1) {k : Nat} (hk : k < l.length) :
  ∃ ad, A = some ad ∧ w1.cell? (ad.add k) = some (.bool (l.getD k false)) := by
 obtain ⟨-, -, r3⟩ := Kd.reads_of_C (enc := Value.bool) (h1 := fun _ => rfl) (d := false) hr
 obtain ⟨a, rfl, hc⟩ := r3 (by omega)
 refine ⟨a, rfl, cnx ?_ hb⟩
 have := hc k hk
 simpa using this
set_option maxHeartbeats 1000000 in
theorem is_calls (s : Int) (w : World) :
  Calls Tryz.prog 208 #[.int .i64 s] w fun e w' => e = .returned (.bool (isS s)) ∧ w' = w := by
 by_cases h : 0 ≤ s
 ·by_cases h2 : s ≤ 95
  ·have hi : Aside0 (isS s = true) := ⟨decide_eq_true ⟨h, h2⟩⟩
   go_enter Tryz.func208, Tryz.ntmps208
   go_wp2
   go_ret
   exact ⟨by rw [hi.out]; simp [h2], rfl⟩
  ·have hi : Aside0 (isS s = false) := ⟨decide_eq_false (by omega)⟩
   go_enter Tryz.func208, Tryz.ntmps208
   go_wp2
   go_ret
   exact ⟨by rw [hi.out]; simp [h2], rfl⟩
 ·have hi : Aside0 (isS s = false) := ⟨decide_eq_false (by omega)⟩
  go_enter Tryz.func208, Tryz.ntmps208
  go_wp2
  go_ret
  exact ⟨by rw [hi.out]; rfl, rfl⟩
set_option maxRecDepth 100000 in
set_option maxHeartbeats 2000000 in
theorem checked_calls (A B : Option Addr) (c1 c2 : Nat) (ss : List Int) (us : List Bool) (w : World) (hr : (Kd.int .i64).C w A ss.length ss) (hr2 : Kd.bool.C w B us.length us) (hl : ss.length = us.length) (h128 : us.length ≤ 128) :
  Calls Tryz.prog 169 #[.slice A ss.length c1, .slice B us.length c2] w fun e w' => e = .returned (.int .i64 (scE ss us)) ∧ Below w.heap.size w w' := by
 have HR := Aside0.mk hr
 have HR2 := Aside0.mk hr2
 have HL := Aside0.mk hl
 have hne : ((ss.length : Int) != (us.length : Int)) = false := by rw [hl]; simp
 have hne2 : (ss.length != us.length) = false := by rw [hl]; simp
 have hlI : (ss.length : Int) ≤ 128 := by omega
 have hlI2 : (us.length : Int) ≤ 128 := by omega
 have HI := Aside0.mk is_calls
 clear hr hr2 hl h128
 go_enter Tryz.func169, Tryz.ntmps169
 go_wp2
 go_loopw [5, 20] (fun x i wr => ∃ k : Nat, i = .int .i64 k ∧ k ≤ ss.length ∧ Aside0 (x = .int .i64 (if badU ss us k = true then 4 else 0)) ∧ Aside0 ((ss.take k).all isS = true) ∧ Below w.heap.size w wr) (fun _ i _ => ss.length - (intOf i).toNat)
 case atStart => exact ⟨0, rfl, by omega, ⟨by simp [badU]⟩, ⟨by simp⟩, Below.refl _ _⟩
 case round =>
  obtain ⟨k, rfl, hk, hx, ha, hb⟩ := hrel
  by_cases hlt : k < ss.length
  ·obtain ⟨ad, rfl, hcell⟩ := el_at HR.out hb hlt
   obtain ⟨ad2, rfl, hcell2⟩ := elb_at HR2.out hb (k := k) (by rw [← HL.out]; exact hlt)
   have hltI : (k : Int) < (ss.length : Int) := by omega
   have hltI2 : (k : Int) < (us.length : Int) := by rw [← HL.out]; exact hltI
   have hIc := Aside0.mk (fun W => HI.out (rd ss k) W)
   have hT : Aside0 ((ss.take (k + 1)).all isS = isS (rd ss k)) := ⟨by rw [take_rd ss k hlt, List.all_append, ha.out]; simp⟩
   have hU := Aside0.mk (badU_succ ss us k)
   have hall : Aside0 (isS (rd ss k) = false → scE ss us = 6) := ⟨fun h => by
    unfold scE
    rw [if_neg]
    intro h2
    have := List.all_eq_true.1 h2 _ (rd_mem ss k hlt)
    rw [h] at this
    exact absurd this (by simp)⟩
   obtain ⟨s, hs⟩ : ∃ s, s = rd ss k := ⟨_, rfl⟩
   obtain ⟨u, hu⟩ : ∃ u, u = us.getD k false := ⟨_, rfl⟩
   rw [← hs] at hcell hIc hT hU hall
   rw [← hu] at hcell2 hU
   obtain ⟨r, hr⟩ : ∃ r, r = isS s := ⟨_, rfl⟩
   rw [← hr] at hIc hT hall
   have hlt' := Aside0.mk hlt
   clear hs hu hr hlt hk
   cases r with
   | false =>
    go_wp2_with (first | (go_at_call 208; refine (hIc.out _).mono ?_; rintro e w' ⟨rfl, hw'⟩; rw [hw']; clear hw'))
    go_ret
    exact ⟨by rw [hall.out trivial]; rfl, hb⟩
   | true =>
    by_cases h0 : s = 0
    ·subst h0
     go_wp2_with (first | (go_at_call 208; refine (hIc.out _).mono ?_; rintro e w' ⟨rfl, hw'⟩; rw [hw']; clear hw'))
     go_roundw
     case rel => exact ⟨k + 1, by go_num, hlt'.out, ⟨by rw [hU.out, hx.out]; simp⟩, ⟨hT.out⟩, hb⟩
     case measure => have := hlt'.out; simp [intOf]; omega
    ·have hb0 : (s != 0) = true := by simpa using h0
     cases u with
     | false =>
      have hU2 : Aside0 (badU ss us (k + 1) = true) := ⟨by rw [hU.out]; simp [h0]⟩
      clear hU h0
      go_wp2_with (first | (go_at_call 208; refine (hIc.out _).mono ?_; rintro e w' ⟨rfl, hw'⟩; rw [hw']; clear hw'))
      go_roundw
      case rel => exact ⟨k + 1, by go_num, hlt'.out, ⟨by rw [hU2.out]; rfl⟩, ⟨hT.out⟩, hb⟩
      case measure => have := hlt'.out; simp [intOf]; omega
     | true =>
      have hU2 : Aside0 (badU ss us (k + 1) = badU ss us k) := ⟨by rw [hU.out]; simp⟩
      clear hU h0
      go_wp2_with (first | (go_at_call 208; refine (hIc.out _).mono ?_; rintro e w' ⟨rfl, hw'⟩; rw [hw']; clear hw'))
      go_roundw
      case rel => exact ⟨k + 1, by go_num, hlt'.out, ⟨by rw [hU2.out]; exact hx.out⟩, ⟨hT.out⟩, hb⟩
      case measure => have := hlt'.out; simp [intOf]; omega
  ·obtain rfl : k = ss.length := by omega
   have hx2 := hx.out
   subst hx2
   have hS : Aside0 (scE ss us = if badU ss us ss.length = true then 4 else 0) := ⟨by unfold scE; rw [if_pos (by have := ha.out; rwa [List.take_length] at this)]⟩
   obtain ⟨E, hE⟩ : ∃ E : Int, (if badU ss us ss.length = true then 4 else 0) = E := ⟨_, rfl⟩
   rw [hE] at hS ⊢
   clear hE hx
   go_wp2
   go_ret
   exact ⟨by rw [hS.out]; rfl, hb⟩
end Sca

namespace Q15
attribute [local go_sem] max2_int min2_int max_two min_two max_three min_three
theorem pow_rd (k : Nat) : rd powTab k = P k := by unfold rd P; rw [Int.toNat_natCast]
theorem tab_take (x : Int) {k : Nat} (h : k < 1024) : (tab x).take (k + 1) = (tab x).take k ++ [V x k] := by
 rw [List.take_succ_eq_append_getElem (by rw [tab_len]; exact h), tab_at x h]
theorem tab_rising {x : Int} (hx : 0 ≤ x) : Rising (tab x) := fun i j hij hj => by
 rw [tab_len] at hj
 rw [tab_getD x (by omega), tab_getD x hj]
 exact V_mono hx (by omega) (by omega) (by omega)
theorem rising_take {l : List Int} (h : Rising l) (n : Nat) : Rising (l.take n) := fun i j hij hj => by
 rw [List.length_take] at hj
 rw [getD_take (by omega), getD_take (by omega)]
 exact h i j hij (by omega)
theorem up_rising {x : Int} (hx : 0 ≤ x) (g : Int) : Rising (upToL (tab x) g) := rising_take (tab_rising hx) _
theorem up_bd {x : Int} (hx : 0 ≤ x) (g : Int) : ∀ y ∈ upToL (tab x) g, 0 ≤ y ∧ y ≤ 2097152 := fun y hy => by
 have := List.mem_of_mem_take hy
 obtain ⟨k, hk, rfl⟩ := List.mem_iff_getElem.1 this
 rw [tab_len] at hk
 rw [tab_at x hk]
 exact V_bd _ hx
theorem up_pos (x g : Int) : 1 ≤ (upToL (tab x) g).length ∧ (upToL (tab x) g).length ≤ 1024 := by rw [up_len]; omega
set_option maxHeartbeats 400000 in
theorem Powers_calls (w : World) :
  Calls Tryz.prog 110 #[] w fun e w' => ∃ v : Value, e = .returned v ∧ (Kd.int .i64).R 3 w' w.heap.size (fun _ => True) v powTab ∧ Below w.heap.size w w' := by
 have hpl := powTab_len
 go_enter Tryz.func110, Tryz.ntmps110
 go_wp2
 go_loopw [1, 3] (fun o i wr => ∃ k : Nat, i = .int .i64 k ∧ (k : Int) ≤ 1024 ∧ Aside0 ((Kd.int .i64).R 3 wr w.heap.size (fun _ => True) o (powTab.take k)) ∧ Below w.heap.size w wr) (fun _ i _ => (1024 - intOf i).toNat)
 case atStart => exact ⟨0, rfl, by omega, ⟨Kd.R_nil _ _ _ _ _⟩, Below.refl _ _⟩
 case round =>
  obtain ⟨k, rfl, hk, ho, hb⟩ := hrel
  by_cases hlt : (k : Int) < 1024
  ·have HC := fun w => rpower_calls k w (by omega) (by omega)
   rw [show absI (k : Int) = k by unfold absI; omega, ← pow_rd] at HC
   have HT := Aside0.mk (take_rd powTab k (by omega))
   obtain ⟨x, hx⟩ : ∃ x, x = rd powTab k := ⟨_, rfl⟩
   rw [← hx] at HC HT
   obtain ⟨y, hy⟩ : ∃ y, y = powTab.take k := ⟨_, rfl⟩
   have hyl : y.length ≤ 1099511627776 := by rw [hy]; simp; omega
   rw [← hy] at ho HT
   replace HC := Aside0.mk HC
   clear hx hy hpl
   go_wp2_with (first | (go_at_call 165; refine (HC.out _).mono ?_; rintro e w' ⟨rfl, hb1⟩; have HO1 := Aside0.mk (Kd.R_below ho.out hb1); have HB1 := Aside0.mk (bnx hb hb1); clear ho hb hb1) | (at_builtin; refine Kd.R_append (Kd.int .i64) (w0 := w) w.heap.size rfl (.tmp 6) (.tmp 9) 22 3 (.int .i64 0) 8 rfl Tryz.underlying22 info_int rfl (by decide) (by omega) u1 y (x) [.int .i64 (x)] (fun _ => True) (fun _ => False) rfl rfl rfl (fun _ hk => hk.elim) (fun _ _ => trivial) HO1.out HB1.out HB1.out.size (by omega) ?_; intro v1 wA hoA hbA hgA hatA; have HOA := Aside0.mk hoA; have HBA := Aside0.mk hbA; clear hoA hbA hgA hatA))
   go_roundw
   case rel => exact ⟨k + 1, by go_num, by omega, ⟨by rw [HT.out]; exact HOA.out⟩, HBA.out⟩
   case measure => simp [intOf]; omega
  ·obtain rfl : k = 1024 := by omega
   have e : powTab.take 1024 = powTab := List.take_of_length_le (by omega)
   rw [e] at ho
   clear e
   go_wp2
   go_ret
   exact ⟨_, rfl, ho.out, hb⟩
set_option maxRecDepth 100000 in
set_option maxHeartbeats 1000000 in
theorem values_calls (A : Option Addr) (cap : Nat) (s g : Int) (w : World) (hr : (Kd.int .i64).C w A powTab.length powTab) (h2 : 0 ≤ s) (h3 : s ≤ 95) :
  Calls Tryz.prog 166 #[.slice A powTab.length cap, .int .i64 s, .int .i64 g] w fun e w' => ∃ v : Value, e = .returned v ∧ (Kd.int .i64).R 3 w' w.heap.size (fun _ => True) v (upToL (tab (stepI s)) g) ∧ Below w.heap.size w w' := by
 have hs := stepI_bd h2 h3
 have HS := fun p w hp0 hp1 => stands_calls p s w hp0 hp1 h2 h3
 have hpl := powTab_len
 have HR := Aside0.mk hr
 obtain ⟨x, hx⟩ : ∃ x, x = stepI s := ⟨_, rfl⟩
 rw [← hx] at hs HS ⊢
 replace HS := Aside0.mk HS
 obtain ⟨n, hn⟩ : ∃ n, n = powTab.length := ⟨_, rfl⟩
 rw [← hn] at HR hpl ⊢
 clear hx hr hn
 go_enter Tryz.func166, Tryz.ntmps166
 go_wp2
 go_loopw [7, 13] (fun o i wr => ∃ k : Nat, i = .int .i64 k ∧ k ≤ n ∧ Aside0 (∀ j, j < k → (tab x).getD j 0 < g) ∧ Aside0 ((Kd.int .i64).R 3 wr w.heap.size (fun _ => True) o ((tab x).take k)) ∧ Below w.heap.size w wr) (fun _ i _ => n - (intOf i).toNat)
 case atStart => exact ⟨0, rfl, by omega, ⟨fun j hj => by omega⟩, ⟨Kd.R_nil _ _ _ _ _⟩, Below.refl _ _⟩
 case round =>
  obtain ⟨k, rfl, hk, hj, ho, hb⟩ := hrel
  by_cases hlt : k < n
  ·obtain ⟨ad, rfl, hcell⟩ := Kd.at_int HR.out (k : Int) (by omega) (by omega)
   rw [pow_rd, Int.toNat_natCast] at hcell
   replace hcell := cnx hcell hb
   have hp := P_bd k
   have HC := fun w => HS.out (P k) w hp.1 hp.2
   rw [V_min] at HC
   have HT := Aside0.mk (tab_take x (show k < 1024 by omega))
   have HG := Aside0.mk (tab_getD x (show k < 1024 by omega))
   have hv := V_bd (x := x) k (by omega)
   obtain ⟨p, hpe⟩ : ∃ p, p = P k := ⟨_, rfl⟩
   obtain ⟨v, hv'⟩ : ∃ v, v = V x k := ⟨_, rfl⟩
   rw [← hpe] at hcell hp HC
   rw [← hv'] at HC HT HG hv
   obtain ⟨y, hy⟩ : ∃ y, y = (tab x).take k := ⟨_, rfl⟩
   have hyl : y.length ≤ 1099511627776 := by rw [hy]; simp; omega
   rw [← hy] at ho HT
   replace HC := Aside0.mk HC
   have HJ1 : Aside0 (v < g → ∀ j, j < k + 1 → (tab x).getD j 0 < g) := ⟨fun h j h1 => by
    rcases Nat.lt_succ_iff_lt_or_eq.1 h1 with h2 | rfl
    ·exact hj.out j h2
    ·rw [HG.out]; exact h⟩
   have HJ2 : Aside0 (g ≤ v → upToL (tab x) g = y ++ [v]) := ⟨fun h => by
    unfold upToL
    rw [first_is (j := k) (by rw [tab_len]; omega) hj.out (fun _ => by rw [HG.out]; exact h), HT.out]⟩
   have hnb : (n : Int) ≤ 1024 := by omega
   clear hpe hv' hy hj hpl hs h2 h3
   by_cases hge : g ≤ v
   ·go_wp2_with (first | (go_at_call 177; refine (HC.out _).mono ?_; rintro e w' ⟨rfl, hb1⟩; have HO1 := Aside0.mk (Kd.R_below ho.out hb1); have HB1 := Aside0.mk (bnx hb hb1); clear ho hb hb1) | (at_builtin; refine Kd.R_append (Kd.int .i64) (w0 := w) w.heap.size rfl (.tmp 20) (.tmp 22) 22 3 (.int .i64 0) 8 rfl Tryz.underlying22 info_int rfl (by decide) (by omega) u7 y (v) [.int .i64 (v)] (fun _ => True) (fun _ => False) rfl rfl rfl (fun _ hk => hk.elim) (fun _ _ => trivial) HO1.out HB1.out HB1.out.size (by omega) ?_; intro v1 wA hoA hbA hgA hatA; have HOA := Aside0.mk hoA; have HBA := Aside0.mk hbA; clear hoA hbA hgA hatA))
    go_ret
    exact ⟨_, rfl, by rw [HJ2.out hge]; exact HOA.out, HBA.out⟩
   ·go_wp2_with (first | (go_at_call 177; refine (HC.out _).mono ?_; rintro e w' ⟨rfl, hb1⟩; have HO1 := Aside0.mk (Kd.R_below ho.out hb1); have HB1 := Aside0.mk (bnx hb hb1); clear ho hb hb1) | (at_builtin; refine Kd.R_append (Kd.int .i64) (w0 := w) w.heap.size rfl (.tmp 20) (.tmp 22) 22 3 (.int .i64 0) 8 rfl Tryz.underlying22 info_int rfl (by decide) (by omega) u7 y (v) [.int .i64 (v)] (fun _ => True) (fun _ => False) rfl rfl rfl (fun _ hk => hk.elim) (fun _ _ => trivial) HO1.out HB1.out HB1.out.size (by omega) ?_; intro v1 wA hoA hbA hgA hatA; have HOA := Aside0.mk hoA; have HBA := Aside0.mk hbA; clear hoA hbA hgA hatA))
    go_roundw
    case rel => exact ⟨k + 1, by go_num, by omega, ⟨HJ1.out (by omega)⟩, ⟨by rw [HT.out]; exact HOA.out⟩, HBA.out⟩
    case measure => simp [intOf]; omega
  ·obtain rfl : k = n := by omega
   have e : (tab x).take k = upToL (tab x) g := by
    unfold upToL
    have : firstL (tab x) g = 1024 := first_is (by rw [tab_len]; omega) (fun i hi => hj.out i (by omega)) (fun h => by rw [tab_len] at h; omega)
    rw [this, List.take_of_length_le (by rw [tab_len]; omega), List.take_of_length_le (by rw [tab_len]; omega)]
   rw [e] at ho
   clear e
   go_wp2
   go_ret
   exact ⟨_, rfl, ho.out, hb⟩
end Q15

namespace Q15
attribute [local go_sem] max2_int min2_int max_two min_two max_three min_three
def within (m : Int) (n : Int) : Bool := decide (-m ≤ n ∧ n ≤ m)
set_option maxHeartbeats 400000 in
theorem within_calls (m : Int) (A : Option Addr) (cap : Nat) (l : List Int) (w : World) (hr : (Kd.int .i64).C w A l.length l) (hl : l.length ≤ 1099511627776) (hm0 : 0 ≤ m) (hm1 : m ≤ 1099511627776) :
  Calls Tryz.prog 49 #[.int .i64 m, .slice A l.length cap] w fun e w' => e = .returned (.bool (l.all (within m))) ∧ Below w.heap.size w w' := by
 have HR := Aside0.mk hr
 clear hr
 go_enter Tryz.func49, Tryz.ntmps49
 go_wp2
 go_loopw [9] (fun i wr => ∃ k : Nat, i = .int .i64 k ∧ k ≤ l.length ∧ Aside0 ((l.take k).all (within m) = true) ∧ Below w.heap.size w wr) (fun i _ => l.length - (intOf i).toNat)
 case atStart => exact ⟨0, rfl, by omega, ⟨by simp⟩, Below.refl _ _⟩
 case round =>
  obtain ⟨k, rfl, hk, ha, hb⟩ := hrel
  by_cases hlt : k < l.length
  ·obtain ⟨ad, rfl, hcell⟩ := el_at HR.out hb hlt
   have HT := Aside0.mk (take_rd l k hlt)
   have HRD := Aside0.mk (rd_mem l k hlt)
   obtain ⟨x, hx⟩ : ∃ x, x = rd l k := ⟨_, rfl⟩
   rw [← hx] at hcell HT HRD
   clear hx
   by_cases h1 : x < -m
   ·have hno := HRD.out
    have HE : Aside0 (l.all (within m) = false) := ⟨List.all_eq_false.2 ⟨x, HRD.out, by unfold within; simp; omega⟩⟩
    clear hno
    go_wp2
    go_ret
    exact ⟨by rw [HE.out]; rfl, hb⟩
   ·by_cases h2 : m < x
    ·have HE : Aside0 (l.all (within m) = false) := ⟨List.all_eq_false.2 ⟨x, HRD.out, by unfold within; simp; omega⟩⟩
     go_wp2
     go_ret
     exact ⟨by rw [HE.out]; rfl, hb⟩
    ·have hd1 : decide (x < -m) = false := by simp; omega
     have hd2 : decide (m < x) = false := by simp; omega
     have HX : Aside0 (within m x = true) := ⟨by unfold within; simp; omega⟩
     go_wp2
     go_roundw
     case rel => exact ⟨k + 1, by go_num, by omega, ⟨by rw [HT.out, List.all_append, ha.out]; simp [HX.out]⟩, hb⟩
     case measure => simp [intOf]; omega
  ·obtain rfl : k = l.length := by omega
   go_wp2
   go_ret
   refine ⟨?_, hb⟩
   have := ha.out
   rw [List.take_length] at this
   rw [this]
   rfl
set_option maxHeartbeats 400000 in
theorem Within_calls (m : Int) (A : Option Addr) (cap : Nat) (l : List Int) (w : World) (hr : (Kd.int .i64).C w A l.length l) (hl : l.length ≤ 1099511627776) (hm0 : 0 ≤ m) (hm1 : m ≤ 1099511627776) :
  Calls Tryz.prog 23 #[.int .i64 m, .slice A l.length cap] w fun e w' => e = .returned (.bool (l.all (within m))) ∧ Below w.heap.size w w' := by
 have HW := fun W hb => within_calls m A cap l W (Kd.C_below hr hb) hl hm0 hm1
 replace HW := Aside0.mk HW
 clear hr
 go_enter Tryz.func23, Tryz.ntmps23
 go_wp2_with (first | (go_at_call 49; refine (HW.out _ (Below.refl _ _)).mono ?_; rintro e w' ⟨rfl, hb⟩))
 go_ret
 exact ⟨rfl, hb⟩
set_option maxHeartbeats 400000 in
theorem greatest_calls (A : Option Addr) (cap : Nat) (l : List Int) (w : World) (hr : (Kd.int .i64).C w A l.length l) (hl : l.length ≤ 1099511627776) (hp : ∀ n ∈ l, -2097152 ≤ n ∧ n ≤ 2097152) :
  Calls Tryz.prog 167 #[.slice A l.length cap] w fun e w' => e = .returned (.int .i64 (peakI l)) ∧ Below w.heap.size w w' := by
 have HP := Aside0.mk hp
 have HR := Aside0.mk hr
 clear hp hr
 go_enter Tryz.func167, Tryz.ntmps167
 go_wp2
 go_loopw [3, 8] (fun s i wr => ∃ (k : Nat) (z : Int), i = .int .i64 k ∧ s = .int .i64 z ∧ k ≤ l.length ∧ 0 ≤ z ∧ z ≤ 2097152 ∧ Aside0 (z = peakI (l.take k)) ∧ Below w.heap.size w wr) (fun _ i _ => l.length - (intOf i).toNat)
 case atStart => exact ⟨0, 0, rfl, rfl, by omega, by omega, by omega, ⟨by simp [peakI]⟩, Below.refl _ _⟩
 case round =>
  obtain ⟨k, z, rfl, rfl, hk, hz0, hz1, hn, hb⟩ := hrel
  by_cases hlt : k < l.length
  ·obtain ⟨ad, rfl, hcell⟩ := el_at HR.out hb hlt
   have hc := HP.out _ (rd_mem l k hlt)
   have hT := take_rd l k hlt
   obtain ⟨n, hx⟩ : ∃ n, n = rd l k := ⟨_, rfl⟩
   rw [← hx] at hcell hc hT
   have hT2 : peakI (l.take (k + 1)) = max (max z n) (-n) := by
    rw [hT, hn.out]
    unfold peakI
    rw [List.foldl_append]
    rfl
   obtain ⟨j, hj⟩ : ∃ j, (if z < n then n else z) = j := ⟨_, rfl⟩
   obtain ⟨j2, hj2⟩ : ∃ j2, (if j < -n then -n else j) = j2 := ⟨_, rfl⟩
   have hb2 : 0 ≤ j2 ∧ j2 ≤ 2097152 := by omega
   have hT3 : Aside0 (j2 = peakI (l.take (k + 1))) := ⟨by rw [hT2]; omega⟩
   clear hx hT hT2 hn
   go_wp2
   go_roundw
   case rel => exact ⟨k + 1, j2, by go_num, rfl, by omega, hb2.1, hb2.2, hT3, hb⟩
   case measure => simp [intOf]; omega
  ·obtain rfl : k = l.length := by omega
   rw [List.take_length] at hn
   go_wp2
   go_ret
   exact ⟨ret_int hn.out, hb⟩
end Q15

namespace Q15
attribute [local go_sem] max2_int min2_int max_two min_two max_three min_three
set_option maxRecDepth 100000 in
set_option maxHeartbeats 1000000 in
theorem QuantizeBy_calls (A0 A1 : Option Addr) (c0 c1 : Nat) (l : List Int) (s : Int) (w : World) (hr0 : (Kd.int .i64).C w A0 powTab.length powTab) (hr : (Kd.int .i64).C w A1 l.length l) (hl : l.length ≤ 1099511627776) (hp : ∀ n ∈ l, -2097152 ≤ n ∧ n ≤ 2097152) (h2 : 0 ≤ s) (h3 : s ≤ 95) :
  Calls Tryz.prog 112 #[.slice A0 powTab.length c0, .slice A1 l.length c1, .int .i64 s] w fun e w' => ∃ v, e = .returned v ∧ (Kd.int .i64).R 3 w' w.heap.size (fun _ => True) v (l.map fun c => sg c (qn (stepI s) (absI c))) ∧ Below w.heap.size w w' := by
 have hs := stepI_bd h2 h3
 have HG := fun W hb => greatest_calls A1 c1 l W (Kd.C_below hr hb) hl hp
 have HV := fun g W hb => values_calls A0 c0 s g W (Kd.C_below hr0 hb) h2 h3
 have hup := up_pos (stepI s) (peakI l)
 have HN := fun c (hc : c ∈ l) A cap W hr => nearest_calls A cap (upToL (tab (stepI s)) (peakI l)) c W hr (by omega) hup.1 (up_rising (by omega) _) (by have := hp c hc; omega) (by have := hp c hc; omega) (fun x hx => by have := up_bd (x := stepI s) (by omega) (peakI l) x hx; omega)
 have HN2 : ∀ c, c ∈ l → nearL (upToL (tab (stepI s)) (peakI l)) (absI c) = qn (stepI s) (absI c) := fun c hc => near_qn (stepI s) (peakI l) (absI c) (by omega) (by unfold absI; omega) (peak_abs hc)
 have HV' := HV (peakI l)
 obtain ⟨g, hg⟩ : ∃ g, g = peakI l := ⟨_, rfl⟩
 rw [← hg] at HG HV' HN HN2 hup
 obtain ⟨x, hx⟩ : ∃ x, x = stepI s := ⟨_, rfl⟩
 rw [← hx] at HV' HN HN2 hup hs ⊢
 obtain ⟨t, ht⟩ : ∃ t, t = upToL (tab x) g := ⟨_, rfl⟩
 rw [← ht] at HV' HN HN2 hup
 have HR := Aside0.mk hr
 replace HG := Aside0.mk HG
 replace HV' := Aside0.mk HV'
 replace HN := Aside0.mk HN
 replace HN2 := Aside0.mk HN2
 obtain ⟨n0, hn0⟩ : ∃ n0, n0 = powTab.length := ⟨_, rfl⟩
 rw [← hn0] at HV' ⊢
 clear hg hx ht hr hr0 hp HV hn0
 go_enter Tryz.func112, Tryz.ntmps112
 go_wp2_with (first | (go_at_call 167; refine (HG.out _ (Below.refl _ _)).mono ?_; rintro e w' ⟨rfl, hb0⟩) | (go_at_call 166; refine (HV'.out _ hb0).mono ?_; rintro e w1 ⟨v, rfl, hR, hb1⟩; obtain ⟨A, cp, rfl, _, hC⟩ := Kd.R_reads hR; have HC := Aside0.mk hC; have HB0 := bnx hb0 hb1; clear hC hR))
 go_loopw [8, 18] (fun o i wr => ∃ k : Nat, i = .int .i64 k ∧ k ≤ l.length ∧ Aside0 ((Kd.int .i64).R 3 wr w1.heap.size (fun _ => True) o ((l.take k).map fun c => sg c (qn x (absI c)))) ∧ Below w1.heap.size w1 wr) (fun _ i _ => l.length - (intOf i).toNat)
 case atStart => exact ⟨0, rfl, by omega, ⟨Kd.R_nil _ _ _ _ _⟩, Below.refl _ _⟩
 case round =>
  obtain ⟨k, rfl, hk, ho, hb⟩ := hrel
  have hbw := bnx HB0 hb
  by_cases hlt : k < l.length
  ·obtain ⟨ad, rfl, hcell⟩ := el_at HR.out hbw hlt
   have hc := HN.out _ (rd_mem l k hlt) A cp wr (Kd.C_below HC.out hb)
   rw [HN2.out _ (rd_mem l k hlt)] at hc
   have HT := Aside0.mk (take_rd l k hlt)
   obtain ⟨z, hx⟩ : ∃ z, z = rd l k := ⟨_, rfl⟩
   rw [← hx] at hcell hc HT
   clear hx
   obtain ⟨r, hr⟩ : ∃ r, r = sg z (qn x (absI z)) := ⟨_, rfl⟩
   have HRr := Aside0.mk hr
   rw [← hr] at hc
   clear hr
   have HC1 := Aside0.mk hc
   clear hc
   obtain ⟨y, hy⟩ : ∃ y, y = (l.take k).map fun c => sg c (qn x (absI c)) := ⟨_, rfl⟩
   have hyl : y.length ≤ 1099511627776 := by rw [hy]; simp; omega
   rw [← hy] at ho
   have HY := Aside0.mk hy
   clear hy
   go_wp2_with (first | (go_at_call 168; refine HC1.out.mono ?_; rintro e w' ⟨rfl, hb1⟩; have HO1 := Aside0.mk (Kd.R_below ho.out hb1); have HB1 := Aside0.mk (bnx hb hb1); clear ho hb hb1 hbw) | (at_builtin; refine Kd.R_append (Kd.int .i64) (w0 := w1) w1.heap.size rfl (.tmp 22) (.tmp 26) 22 3 (.int .i64 0) 8 rfl Tryz.underlying22 info_int rfl (by decide) (by omega) u8 y (r) [.int .i64 (r)] (fun _ => True) (fun _ => False) rfl rfl rfl (fun _ hk => hk.elim) (fun _ _ => trivial) HO1.out HB1.out HB1.out.size (by omega) ?_; intro v1 wA hoA hbA hgA hatA; have HOA := Aside0.mk hoA; have HBA := Aside0.mk hbA; clear hoA hbA hgA hatA))
   go_roundw
   case rel => exact ⟨k + 1, by go_num, by omega, ⟨by rw [HT.out, List.map_append, ← HY.out, List.map_cons, List.map_nil, ← HRr.out]; exact HOA.out⟩, HBA.out⟩
   case measure => simp [intOf]; omega
  ·obtain rfl : k = l.length := by omega
   rw [List.take_length] at ho
   go_wp2
   go_ret
   exact ⟨_, rfl, Kd.R_lower ho.out HB0.size, hbw⟩
end Q15

namespace Q15
attribute [local go_sem] max2_int min2_int max_two min_two max_three min_three
open Go.Shelf
attribute [local go_sem] Oper.semAt_some
theorem cell_alloc_l {W : World} {a : Addr} {v : Value} (o : Obj) (h : W.cell? a = some v) : (W.alloc o).cell? a = some v := cnx h ((Below.refl _ _).alloc (Nat.le_refl _) o)
theorem keeps_below {W W' : World} (h : Below W.heap.size W W') : KeepsOthers W W' := ⟨h.size, fun k _ hk _ => (h.block k (Array.getElem?_eq_some_iff.1 hk).1).trans hk⟩
end Q15

namespace Q15
attribute [local go_sem] max2_int min2_int max_two min_two max_three min_three
theorem lit_C (l : List Int) (w : World) (t : TypeId) (hl : l.length ≤ 9223372036854775807) : (Kd.int .i64).C (w.alloc (.cells (l.map (Value.int .i64)).toArray t)) (some ⟨w.heap.size, 0, none⟩) l.length l := by
 refine ⟨rfl, hl, fun _ => ⟨_, rfl, fun j p hj => ⟨[.int .i64 p], rfl, rfl, fun i u hu => ?_⟩⟩⟩
 have hi : i = 0 := by
  rcases Nat.eq_zero_or_pos i with h | h
  ·exact h
  ·have := (List.getElem?_eq_some_iff.1 hu).1
   simp at this
   omega
 subst hi
 have hu' : u = .int .i64 p := by simpa using hu.symm
 subst hu'
 have e : (⟨w.heap.size, 0, none⟩ : Addr).add (j * (Kd.int .i64).sz + 0) = ⟨w.heap.size, j, none⟩ := by
  show Addr.add _ (j * 1 + 0) = _
  unfold Addr.add
  split <;> simp_all
 rw [e]
 unfold World.cell?
 rw [heap_alloc_new]
 simp only [Option.isSome_none, Bool.false_eq_true, if_false, List.getElem?_toArray, List.getElem?_map, hj]
 rfl
end Q15

namespace Q21
attribute [local go_sem] max2_int min2_int max_two min_two max_three min_three
open Q15
theorem app_keep {W wA : World} {v v1 : Value} {b : Nat} (hg : W.grownBy wA v.ownBlock) (hat : v1.ownBlock = v.ownBlock ∨ ∃ b, v1.ownBlock = some b ∧ W.heap.size ≤ b) (hne : some b ≠ v.ownBlock) (hlt : b < W.heap.size) :
  some b ≠ v1.ownBlock ∧ b < wA.heap.size ∧ ∀ j x, W.cell? ⟨b, j, none⟩ = some x → wA.cell? ⟨b, j, none⟩ = some x := by
 refine ⟨?_, Nat.lt_of_lt_of_le hlt hg.size, fun j x h => hg.cell h hne⟩
 rcases hat with h | ⟨b2, h, h2⟩
 ·rw [h]; exact hne
 ·rw [h]
  intro e
  injection e with e
  omega
theorem long_calls (w : World) : Calls Tryz.prog 107 #[] w fun e w' => ∃ A p, e = .returned (.slice A 15 p) ∧ (Kd.int .i64).C w' A 15 longsL ∧ Below w.heap.size w w' := by
 have hb := (Below.refl w.heap.size w).alloc (Nat.le_refl _) (.cells (longsL.map (Value.int .i64)).toArray 3)
 have HC := Aside0.mk (lit_C longsL w 3 (by decide))
 go_enter Tryz.func107, Tryz.ntmps107
 go_wp2
 go_ret
 exact ⟨_, _, rfl, HC.out, hb⟩
theorem short_calls (w : World) : Calls Tryz.prog 108 #[] w fun e w' => e = .returned (.slice (some ⟨w.heap.size, 0, none⟩) 4 4) ∧ w.heap.size < w'.heap.size ∧ w'.cell? ⟨w.heap.size, 0, none⟩ = some (.int .i64 2) ∧ w'.cell? ⟨w.heap.size, 1, none⟩ = some (.int .i64 2) ∧ w'.cell? ⟨w.heap.size, 2, none⟩ = some (.int .i64 4) ∧ w'.cell? ⟨w.heap.size, 3, none⟩ = some (.int .i64 8) ∧ Below w.heap.size w w' := by
 have hb := (Below.refl w.heap.size w).alloc (Nat.le_refl _) (.cells #[.int .i64 2, .int .i64 2, .int .i64 4, .int .i64 8] 3)
 have h0 : (w.alloc (.cells #[.int .i64 2, .int .i64 2, .int .i64 4, .int .i64 8] 3)).cell? ⟨w.heap.size, 0, none⟩ = some (.int .i64 2) := by go_simp
 have h1 : (w.alloc (.cells #[.int .i64 2, .int .i64 2, .int .i64 4, .int .i64 8] 3)).cell? ⟨w.heap.size, 1, none⟩ = some (.int .i64 2) := by go_simp
 have h2 : (w.alloc (.cells #[.int .i64 2, .int .i64 2, .int .i64 4, .int .i64 8] 3)).cell? ⟨w.heap.size, 2, none⟩ = some (.int .i64 4) := by go_simp
 have h3 : (w.alloc (.cells #[.int .i64 2, .int .i64 2, .int .i64 4, .int .i64 8] 3)).cell? ⟨w.heap.size, 3, none⟩ = some (.int .i64 8) := by go_simp
 replace hb := Aside0.mk hb
 replace h0 := Aside0.mk h0
 replace h1 := Aside0.mk h1
 replace h2 := Aside0.mk h2
 replace h3 := Aside0.mk h3
 go_enter Tryz.func108, Tryz.ntmps108
 go_wp2
 go_ret
 exact ⟨rfl, by simp, h0.out, h1.out, h2.out, h3.out, hb.out⟩
theorem widthsL_len (g : List Int) : (widthsL true g).length = g.length * 4 := by
 unfold widthsL
 rw [if_pos rfl]
 induction g with
 | nil => rfl
 | cons a t ih => rw [List.map_cons, List.flatten_cons, List.length_append, ih]; simp; omega
theorem widthsL_snoc (g : List Int) (n : Int) : widthsL true (g ++ [n]) = widthsL true g ++ [n * 2, n * 2, n * 4, n * 8] := by
 unfold widthsL
 rw [if_pos rfl, if_pos rfl, List.map_append, List.flatten_append]
 simp
set_option maxRecDepth 100000 in
set_option maxHeartbeats 2000000 in
theorem Bands_calls (sh : Bool) (A : Option Addr) (cap : Nat) (g : List Int) (w : World) (hr : (Kd.int .i64).C w A g.length g) (hg : g.length ≤ 8) (hn : ∀ n ∈ g, 1 ≤ n ∧ n ≤ 8) :
  Calls Tryz.prog 63 #[.bool sh, .slice A g.length cap] w fun e w' => ∃ A p, e = .returned (.slice A (widthsL sh g).length p) ∧ (Kd.int .i64).C w' A (widthsL sh g).length (widthsL sh g) ∧ Below w.heap.size w w' := by
 have hb := Below.refl w.heap.size w
 cases sh with
 | false =>
  have HC := Aside0.mk long_calls
  clear hr hn hg
  go_enter Tryz.func63, Tryz.ntmps63
  go_wp2_with (first | (go_at_call 107; refine (HC.out _).mono ?_; rintro e w1 ⟨B, p, rfl, hC, hbn⟩; have HC2 := Aside0.mk hC; clear hC))
  go_ret
  exact ⟨_, _, rfl, HC2.out, hbn⟩
 | true =>
  have HR := Aside0.mk hr
  have HS := Aside0.mk short_calls
  have HN := Aside0.mk (fun k (hk : k < g.length) => hn _ (rd_mem g k hk))
  have hgI : (g.length : Int) ≤ 8 := by omega
  clear hr hn hg
  go_enter Tryz.func63, Tryz.ntmps63
  go_wp2
  go_loopw [5, 15] (fun o i wr => ∃ k : Nat, i = .int .i64 k ∧ k ≤ g.length ∧ Aside0 ((Kd.int .i64).R 3 wr w.heap.size (fun _ => True) o (widthsL true (g.take k))) ∧ Aside0 (Below w.heap.size w wr)) (fun _ i _ => g.length - (intOf i).toNat)
  case atStart => exact ⟨0, rfl, by omega, ⟨Kd.R_nil _ _ _ _ _⟩, ⟨hb⟩⟩
  case round =>
   obtain ⟨k, rfl, hk, ho, hbL⟩ := hrel
   by_cases hlt : k < g.length
   ·obtain ⟨ad, rfl, hcell⟩ := el_at HR.out hbL.out hlt
    have hkI : (k : Int) < (g.length : Int) := by omega
    have hnb := HN.out k hlt
    have hT : widthsL true (g.take (k + 1)) = widthsL true (g.take k) ++ [rd g k * 2, rd g k * 2, rd g k * 4, rd g k * 8] := by
     rw [take_rd g k hlt, widthsL_snoc]
    obtain ⟨n, hx⟩ : ∃ n, n = rd g k := ⟨_, rfl⟩
    rw [← hx] at hcell hnb hT
    replace hT := Aside0.mk hT
    obtain ⟨y, hy⟩ : ∃ y, y = widthsL true (g.take k) := ⟨_, rfl⟩
    have hyl : y.length ≤ 32 := by rw [hy, widthsL_len, List.length_take]; omega
    rw [← hy] at ho hT
    have a0 : (y.length + 1) * 8 ≤ 140737488355328 := by omega
    have a1 : ((y ++ [n * 2]).length + 1) * 8 ≤ 140737488355328 := by simp; omega
    have a2 : ((y ++ [n * 2] ++ [n * 2]).length + 1) * 8 ≤ 140737488355328 := by simp; omega
    have a3 : ((y ++ [n * 2] ++ [n * 2] ++ [n * 4]).length + 1) * 8 ≤ 140737488355328 := by simp; omega
    replace a0 := Aside0.mk a0
    replace a1 := Aside0.mk a1
    replace a2 := Aside0.mk a2
    replace a3 := Aside0.mk a3
    clear hyl hy hx
    go_wp2_with fail
    refine (HS.out _).mono ?_; rintro e w1 ⟨rfl, hsz, s0, s1, s2, s3, hbn⟩
    have hR1 := Aside0.mk (Kd.R_below ho.out hbn)
    have hB1 := Aside0.mk (bnx hbL.out hbn)
    obtain ⟨b, hbe⟩ : ∃ b, b = wr.heap.size := ⟨_, rfl⟩
    rw [← hbe] at hsz s0 s1 s2 s3
    have ne0 : Aside0 (some b ≠ u5.ownBlock) := ⟨fun h => by have := ((Kd.R_bound ho.out).1 b h.symm).2.2.1; omega⟩
    have hsz' := Aside0.mk hsz
    rw [← hbe]
    clear hbe hsz hbn ho hbL
    go_wp2_with fail
    refine wp_loop_rounds 5 ?_
    rw [rounds_succ]
    go_wp2_with (first | (at_builtin; refine Kd.R_append (Kd.int .i64) (w0 := w) w.heap.size rfl (.tmp 25) (.tmp 29) 22 3 (.int .i64 0) 8 rfl Tryz.underlying22 info_int rfl (by decide) (by omega) u5 y ((n * 2)) [.int .i64 ((n * 2))] (fun _ => True) (fun _ => False) rfl rfl rfl (fun _ hk => hk.elim) (fun _ _ => trivial) hR1.out hB1.out hB1.out.size a0.out ?_; intro v1 wA hoA hbA hgA hatA; have HOA := Aside0.mk hoA; have HBA := Aside0.mk hbA; have hkp := app_keep hgA hatA ne0.out hsz'.out; replace s1 := hkp.2.2 _ _ s1; replace s2 := hkp.2.2 _ _ s2; replace s3 := hkp.2.2 _ _ s3; replace ne0 := Aside0.mk hkp.1; replace hsz' := Aside0.mk hkp.2.1; clear hoA hbA hgA hatA hkp))
    rw [rounds_succ]
    go_wp2_with (first | (at_builtin; refine Kd.R_append (Kd.int .i64) (w0 := w) w.heap.size rfl (.tmp 25) (.tmp 29) 22 3 (.int .i64 0) 8 rfl Tryz.underlying22 info_int rfl (by decide) (by omega) v1 (y ++ [n * 2]) ((n * 2)) [.int .i64 ((n * 2))] (fun _ => True) (fun _ => False) rfl rfl rfl (fun _ hk => hk.elim) (fun _ _ => trivial) HOA.out HBA.out HBA.out.size a1.out ?_; intro v1 wA hoA hbA hgA hatA; have HOA := Aside0.mk hoA; have HBA := Aside0.mk hbA; have hkp := app_keep hgA hatA ne0.out hsz'.out; replace s2 := hkp.2.2 _ _ s2; replace s3 := hkp.2.2 _ _ s3; replace ne0 := Aside0.mk hkp.1; replace hsz' := Aside0.mk hkp.2.1; clear hoA hbA hgA hatA hkp))
    rw [rounds_succ]
    go_wp2_with (first | (at_builtin; refine Kd.R_append (Kd.int .i64) (w0 := w) w.heap.size rfl (.tmp 25) (.tmp 29) 22 3 (.int .i64 0) 8 rfl Tryz.underlying22 info_int rfl (by decide) (by omega) v1 (y ++ [n * 2] ++ [n * 2]) ((n * 4)) [.int .i64 ((n * 4))] (fun _ => True) (fun _ => False) rfl rfl rfl (fun _ hk => hk.elim) (fun _ _ => trivial) HOA.out HBA.out HBA.out.size a2.out ?_; intro v1 wA hoA hbA hgA hatA; have HOA := Aside0.mk hoA; have HBA := Aside0.mk hbA; have hkp := app_keep hgA hatA ne0.out hsz'.out; replace s3 := hkp.2.2 _ _ s3; replace ne0 := Aside0.mk hkp.1; replace hsz' := Aside0.mk hkp.2.1; clear hoA hbA hgA hatA hkp))
    rw [rounds_succ]
    go_wp2_with (first | (at_builtin; refine Kd.R_append (Kd.int .i64) (w0 := w) w.heap.size rfl (.tmp 25) (.tmp 29) 22 3 (.int .i64 0) 8 rfl Tryz.underlying22 info_int rfl (by decide) (by omega) v1 (y ++ [n * 2] ++ [n * 2] ++ [n * 4]) ((n * 8)) [.int .i64 ((n * 8))] (fun _ => True) (fun _ => False) rfl rfl rfl (fun _ hk => hk.elim) (fun _ _ => trivial) HOA.out HBA.out HBA.out.size a3.out ?_; intro v1 wA hoA hbA hgA hatA; have HOA := Aside0.mk hoA; have HBA := Aside0.mk hbA; clear hoA hbA hgA hatA))
    rw [rounds_succ]
    go_wp2_with fail
    go_roundw
    case rel => exact ⟨k + 1, by go_num, by omega, ⟨by rw [hT.out]; simpa using HOA.out⟩, HBA⟩
    case measure => simp [intOf]; omega
   ·obtain rfl : k = g.length := by omega
    have ho' := ho.out
    rw [List.take_length] at ho'
    replace ho' := Aside0.mk ho'
    clear ho
    go_wp2
    go_ret
    obtain ⟨B5, p5, rfl, _, hC⟩ := Kd.R_reads ho'.out
    exact ⟨_, _, rfl, hC, hbL.out⟩
end Q21

namespace Q16
attribute [local go_sem] max2_int min2_int max_two min_two max_three min_three
open Q15 Runs Go.Shelf
attribute [local go_sem] Oper.semAt_some
def off (l : List Int) (k : Nat) : Nat := (l.take k).sum.toNat
def wd (l : List Int) (k : Nat) : Nat := (rd l k).toNat
def encB (a : Addr) (l : List Int) (k : Nat) : Array Value := #[.int .i64 k, .slice (some (a.add (off l k))) (wd l k) (wd l k)]
theorem off_next {l : List Int} (h : isW l = true) {k : Nat} (hk : k < l.length) : off l (k + 1) = off l k + wd l k ∧ 1 ≤ wd l k ∧ off l k + wd l k ≤ 128 ∧ rd l k = (wd l k : Nat) := by
 obtain ⟨h1, h2, h3⟩ := isW_iff.1 h
 have h4 := h1 _ (rd_mem l k hk)
 have h5 := sum_take_le h1 (k + 1)
 have h6 := sum_pos (l := l.take k) (fun x hx => h1 x (List.mem_of_mem_take hx))
 unfold off wd
 rw [take_rd l k hk, List.sum_append] at h5 ⊢
 simp only [List.sum_cons, List.sum_nil] at h5 ⊢
 omega
def Keep3 (S B1 Bc : Nat) (A B : World) : Prop := Below S A B ∧ B.heap[B1]? = A.heap[B1]? ∧ B.heap[Bc]? = A.heap[Bc]?
theorem Keep3.trans {S B1 Bc : Nat} {A B C : World} (h : Keep3 S B1 Bc A B) (k : Keep3 S B1 Bc B C) : Keep3 S B1 Bc A C := ⟨h.1.trans k.1, k.2.1.trans h.2.1, k.2.2.trans h.2.2⟩
theorem Keep3.putObj {S B1 Bc N : Nat} (h0 : S ≤ N) (h1 : B1 < N) (h2 : Bc < N) (W : World) (l : Nat) (o o' : Obj) (hl : N ≤ l) (ho : W.heap[l]? = some o) (hc : o.isCells = false) (hw : o.isWalk = false) : Keep3 S B1 Bc W (W.putObj l o') :=
 ⟨(Below.refl S W).grown (grownBy_putObj' W l o') (by have := (Array.getElem?_eq_some_iff.1 ho).1; omega) (fun k e => by cases e; omega), World.putObj_heap_other (by omega), World.putObj_heap_other (by omega)⟩
theorem cell_heap {A B : World} {b : Nat} (h : B.heap[b]? = A.heap[b]?) {o : Nat} : B.cell? ⟨b, o, none⟩ = A.cell? ⟨b, o, none⟩ := by simp [World.cell?, h]
theorem frozen_heap {A B : World} {b : Nat} (h : B.heap[b]? = A.heap[b]?) {o : Nat} : B.frozen? ⟨b, o, none⟩ = A.frozen? ⟨b, o, none⟩ := by simp [World.frozen?, h]
theorem addr_add_zero (a : Addr) : a.add 0 = a := by simp [Addr.add]
set_option maxRecDepth 100000 in
set_option maxHeartbeats 1000000 in
theorem parts1_runs (F : Fence) (n : Nat) (hF : F.fn 156) (hro : F.round = none) (hn : 1 ≤ n) (B1 Bc : Nat) (a : Addr) (c0 : Nat) (A1 : Option Addr) (cap : Nat) (l : List Int) (hl : isW l = true) (hc0 : 128 ≤ c0) (hc9 : c0 ≤ 9223372036854775807)
  (wS w : World) (hr : (Kd.int .i64).C wS A1 l.length l) (hS : Below wS.heap.size wS w) (s1 : wS.heap.size ≤ B1) (s2 : wS.heap.size ≤ Bc) (hne : B1 ≠ Bc) (l1 : B1 < w.heap.size) (l2 : Bc < w.heap.size)
  (c1 : w.cell? ⟨B1, 0, none⟩ = some (.slice A1 l.length cap)) (c2 : w.cell? ⟨Bc, 0, none⟩ = some (.slice (some a) 128 c0)) (f2 : w.frozen? ⟨Bc, 0, none⟩ = false) :
  SeqRuns F n Tryz.prog 156 #[.pointer (some ⟨B1, 0, none⟩), .pointer (some ⟨Bc, 0, none⟩)] (encB a l) (Keep3 wS.heap.size B1 Bc) Bc l.length w := fun L J W hW hJ hY h0 => by
 have d1 := cnx c1 hW
 have d2 := cnx c2 hW
 have g2 := (hW.frozen (p := ⟨Bc, 0, none⟩) (by simp; omega)).trans f2
 have hS' := bnx hS hW
 have HR := Aside0.mk hr
 have HY := Aside0.mk hY
 have HJ := Aside0.mk hJ
 have HN := Aside0.mk (fun k (hk : k < l.length) => off_next hl hk)
 have hll : (l.length : Int) ≤ 32 := by have := (isW_iff.1 hl).2.2; omega
 clear hY hJ c1 c2 f2 hr hl
 refine callsIn_of_wp Tryz.func156 rfl hF ?_ hro
 simp only [Tryz.ntmps156, List.size_toArray, List.length_cons, List.length_nil, Nat.reduceAdd, Nat.reduceSub, Array.replicate_succ, Array.replicate_zero, List.push_toArray, List.append_toArray, List.nil_append, List.cons_append]
 gi_wp2
 gi_loopw [8] (fun i wr => ∃ k : Nat, i = .int .i64 k ∧ k ≤ l.length ∧ wr.cell? ⟨B1, 0, none⟩ = some (.slice A1 l.length cap) ∧ Aside0 (k < l.length → wr.cell? ⟨Bc, 0, none⟩ = some (.slice (some (a.add (off l k))) (128 - off l k) (c0 - off l k))) ∧ wr.frozen? ⟨Bc, 0, none⟩ = false ∧ Below wS.heap.size wS wr ∧ w.heap.size ≤ wr.heap.size ∧ Aside0 (J k wr)) (fun i _ => l.length - (intOf i).toNat)
 case atStart => exact ⟨0, rfl, by omega, d1, ⟨fun _ => by rw [d2]; simp [off, addr_add_zero]⟩, g2, hS', hW.size, ⟨h0⟩⟩
 case round =>
  obtain ⟨k, rfl, hk, e1, e2, e3, hb, hsz, hJs⟩ := hrel
  clear d1 d2 g2 hS'
  by_cases hlt : k < l.length
  ·obtain ⟨ad, rfl, hcell⟩ := el_at HR.out hb hlt
   have e2' := e2.out hlt
   obtain ⟨q1, q2, q3, q4⟩ := HN.out k hlt
   rw [q4] at hcell
   obtain ⟨fn, tmps, assign, body, hy, hR⟩ := HY.out k wr hlt hJs.out
   have hR2 := Aside0.mk hR
   clear hR q4
   unfold encB at hy
   obtain ⟨o, ho⟩ : ∃ o, o = off l k := ⟨_, rfl⟩
   obtain ⟨d, hd⟩ : ∃ d, d = wd l k := ⟨_, rfl⟩
   rw [← ho] at e2' q1 q3 hy
   rw [← hd] at hcell q1 q2 q3 hy
   obtain ⟨m, hm⟩ : ∃ m, m = 128 - o := ⟨_, rfl⟩
   obtain ⟨c, hc⟩ : ∃ c, c = c0 - o := ⟨_, rfl⟩
   rw [← hm, ← hc] at e2'
   have i1 : (d : Int) ≤ (m : Int) := by omega
   have i2 : (d : Int) ≤ (c : Int) := by omega
   have i3 : (m : Int) ≤ (c : Int) := by omega
   have i4 : (c : Int) ≤ 9223372036854775807 := by omega
   have i5 : (1 : Int) ≤ (d : Int) := by omega
   replace hm := Aside0.mk hm
   replace hc := Aside0.mk hc
   replace q1 := Aside0.mk q1
   obtain ⟨a', ha'⟩ : ∃ a', a' = a.add o := ⟨_, rfl⟩
   rw [← ha'] at e2' hy
   replace ho := Aside0.mk ho
   replace hd := Aside0.mk hd
   replace ha' := Aside0.mk ha'
   clear q2 q3 e2
   gi_wp2
   refine hR2.out.mono ?_
   rintro e W3 ⟨rfl, hJ3, hk3⟩
   have b1 := (cell_heap hk3.2.1).trans e1
   have b2 := (cell_heap hk3.2.2).trans e2'
   have b3 := (frozen_heap hk3.2.2 (o := 0)).trans e3
   have hb3 : Below wS.heap.size wS W3 := hb.trans hk3.1
   have hs3 := hk3.1.size
   replace hJ3 := Aside0.mk hJ3
   clear hR2 e1 e2' e3 hk3 hb hy
   gi_wp2
   go_roundw
   case rel =>
    refine ⟨k + 1, by go_num, by omega, (World.cell?_setCell_far _ _ _ _ (by simp; omega)).trans b1, ⟨fun hk1 => ?_⟩, ?_, hb3.setCell (by simp; omega) _, by simp; omega, ⟨HJ.out _ _ _ hJ3.out⟩⟩
    ·obtain ⟨p1, p2, p3, p4⟩ := HN.out (k + 1) hk1
     have hq := q1.out
     have hmo := hm.out
     have hco := hc.out
     rw [hq] at p3 ⊢
     rw [World.cell?_setCell_same' _ _ _ (by rw [b2]; rfl), if_neg (by omega), ha'.out, Addr.add_add]
     rw [show m - d = 128 - (o + d) by omega, show c - d = c0 - (o + d) by omega]
    ·simpa using b3
   case measure => simp [intOf]; omega
  ·obtain rfl : k = l.length := by omega
   gi_wp2
   go_end0
   exact ⟨⟨_, rfl⟩, hJs.out⟩
set_option maxHeartbeats 400000 in
theorem parts_calls (A0 A1 : Option Addr) (n0 c0 n1 c1 : Nat) (w : World) :
  Calls Tryz.prog 99 #[.slice A0 n0 c0, .slice A1 n1 c1] w fun e w' => e = .returned (.func (.func 156) #[] #[.pointer (some ⟨w.heap.size + 1, 0, none⟩), .pointer (some ⟨w.heap.size, 0, none⟩)]) ∧ w' = (w.alloc (.cells #[.slice A0 n0 c0] 22)).alloc (.cells #[.slice A1 n1 c1] 22) := by
 go_enter Tryz.func99, Tryz.ntmps99
 go_wp2
 go_ret
 exact ⟨rfl, rfl⟩
end Q16

namespace Q16
attribute [local go_sem] max2_int min2_int max_two min_two max_three min_three
open Q15 Runs Go.Shelf
attribute [local go_sem] Oper.semAt_some
theorem R_set {α : Type} {D : Kd α} {e base : Nat} {W : World} {v : Value} {xs : List α} (h : D.R e W base (fun _ => True) v xs) {p : Addr} (hp : p.block < base) (u : Value) : D.R e (W.setCell p u) base (fun _ => True) v xs :=
 Kd.R_mono (Kd.R_far (Kd.R_bound h) (fun k hk e => by have := hk.2.1; omega) u) (fun _ _ => trivial)
theorem R_turn {α : Type} {D : Kd α} {e base : Nat} {W W' : World} {v : Value} {xs : List α} {row : Option Nat} (h : D.R e W base (fun _ => True) v xs) (hg : W.grownBy W' row) (hr : ∀ r, row = some r → ∃ o : Obj, W.heap[r]? = some o ∧ o.isCells = false) : D.R e W' base (fun _ => True) v xs :=
 Kd.R_mono (Kd.R_grown (Kd.R_bound h) hg (fun k hk e => by
  obtain ⟨_, _, _, q, _, cells, hc⟩ := hk
  obtain ⟨o, ho, hco⟩ := hr k e.symm
  rw [hc] at ho
  cases ho
  cases hco)) (fun _ _ => trivial)
theorem keeps_row {α : Type} {D : Kd α} {e base : Nat} {W W' : World} {v : Value} {xs : List α} (h : D.R e W base (fun _ => True) v xs) (hg : W.grownBy W' v.ownBlock) : KeepsOthers W W' :=
 ⟨hg.size, fun k o hk ho => (hg.block k (Array.getElem?_eq_some_iff.1 hk).1 (fun e => by
  obtain ⟨_, _, _, q, _, cells, hc⟩ := (Kd.R_bound h).1 k e.symm
  rw [hk] at hc
  cases hc
  cases ho)).trans hk⟩
end Q16

namespace Q15
attribute [local go_sem] max2_int min2_int max_two min_two max_three min_three
def quanta (l : List Int) (s : Int) : List Int := if chk isC l s = 0 then l.map fun c => sg c (qn (stepI s) (absI c)) else []
section
variable (A : Option Addr) (cap : Nat) (l : List Int) (s limit : Int) (w : World) (hr : (Kd.int .i64).C w A l.length l)
include hr
theorem Quantize_calls : Calls Tryz.prog 61 #[.slice A l.length cap, .int .i64 s] w fun e w' => ∃ v, e = .returned (.tuple #[v, .int .i64 (chk isC l s)]) ∧ (Kd.int .i64).R 3 w' w.heap.size (fun _ => True) v (quanta l s) ∧ Below w.heap.size w w' := by
 unfold quanta
 by_cases hk : chk isC l s = 0
 ·rw [if_pos hk, hk]; exact Quantize_yes A cap l s w hr hk
 ·rw [if_neg hk]; exact (Quantize_no A cap l s w hr hk).mono fun e w' ⟨he, hb⟩ => ⟨_, he, Kd.R_nil _ _ _ _ _, hb⟩
end
theorem quanta_len (l : List Int) (s : Int) : (quanta l s).length ≤ 128 := by
 unfold quanta
 split
 ·rename_i h; rw [List.length_map]; exact (chk_zero h).2.1
 ·simp
end Q15

end Go.Proofs.YtnflnicdjioflaaGreatDoor
