/- A part of the proof. -/
import Derived.Test.YtnflnicdjioflaaGreatDoorQmav
import Derived.Lib.AppendZerosOnto
set_option linter.unusedVariables false
set_option linter.unusedSimpArgs false
namespace Go.Proofs.YtnflnicdjioflaaGreatDoor
open Go.RowKit Go.Proofs.YtnflnicdjioflaaGreatDoorW.PrintWords Go.Proofs.YtnflnicdjioflaaGreatDoorW.PrintLast Go.Proofs.YtnflnicdjioflaaGreatDoorW.PrintMore
namespace Sec
attribute [local go_sem] max2_int min2_int max_two min_two max_three min_three
open Q15
theorem grow_own (w W : World) (G : Nat) (cs : Array Value) (hs : cs.size = G) (hG : G ≤ maxLen) (hW : W = w.drew.alloc (.cells cs 3)) :
  (Kd.int .i64).R 3 W w.heap.size (fun _ => True) (.slice (some ⟨w.heap.size, 0, none⟩) 0 G) [] := by
 refine Kd.R_of_own (enc := Value.int .i64) (h1 := fun _ => rfl) ?_ (fun _ _ => trivial)
 refine ⟨rfl, .inr ⟨w.heap.size, G, cs, rfl, Nat.le_refl _, ?_, Nat.zero_le _, hG, by simpa using hs, rfl⟩⟩
 rw [hW]
 exact heap_alloc_new _ _
set_option maxRecDepth 100000 in
set_option maxHeartbeats 1000000 in
theorem growNil_calls (n : Nat) (w : World) (h1 : 1 ≤ n) (h2 : n ≤ 1000000) :
  Calls Tryz.prog 218 #[.slice none 0 0, .int .i64 n] w fun e w' => ∃ G, e = .returned (.slice (some ⟨w.heap.size, 0, none⟩) 0 G) ∧ n ≤ G ∧ (Kd.int .i64).R 3 w' w.heap.size (fun _ => True) (.slice (some ⟨w.heap.size, 0, none⟩) 0 G) [] ∧ Below w.heap.size w w' := by
 obtain ⟨i0, hi0, hz0⟩ := Option.map_eq_some_iff.1 info_int
 simp only [Prod.mk.injEq] at hz0
 obtain ⟨hz1, hz2, hz3⟩ := hz0
 have hold : (Builtin.firstCells i0.size 0 (.slice none 0 0)).run Tryz.prog w.drew = .ok ([] : List Value).toArray w.drew := run_firstCells_none w.drew i0.size 0 0 0
 have hrz : ∀ ty, (Builtin.append_ #[22, 3] ty #[.slice none 0 0, .int .i64 (n : Int)]).run Tryz.prog w = _ := fun ty =>
  Lib.run_append_grow_zeros w 22 3 ty 3 i0 (.int .i64 0) .i64 .i64 Tryz.underlying22 Tryz.underlying3 hi0 hz1 none 0 0 [] hold n (by omega) (by omega) (by omega) (by omega) (by rw [hz3]; omega)
   (by rw [Nat.zero_add, hz3]; exact growslice_fits (by omega) (by omega))
 have hGn := grownCap_ge w (0 + n) 0 3
 have hGm := grownCap_le_maxLen w (0 + n) 0 3 (by unfold maxLen; omega)
 rw [Nat.zero_add] at hrz hGn hGm
 obtain ⟨G, hG⟩ : ∃ G, G = grownCap w n 0 3 := ⟨_, rfl⟩
 rw [← hG] at hrz hGn hGm
 obtain ⟨W, hW⟩ : ∃ W, W = w.drew.alloc (.cells (([] : List Value).toArray ++ Builtin.zeroCells (Value.int .i64 0).cells n ++ Builtin.zeroCells (Value.int .i64 0).cells (G - n)) 3) := ⟨_, rfl⟩
 have hR := Aside0.mk (grow_own w W G _ (by
  simp [Builtin.zeroCells, Value.cells]
  omega) hGm hW)
 have hB : Aside0 (Below w.heap.size w W) := ⟨by rw [hW]; exact (Below.refl _ _).drew.alloc (Nat.le_refl _) _⟩
 rw [← hW] at hrz
 have hG9 : (G : Int) ≤ 9223372036854775807 := by unfold maxLen at hGm; omega
 have hnI : 1 ≤ (n : Int) ∧ (n : Int) ≤ 1000000 := by omega
 have hGN := Aside0.mk hGn
 clear hold hW hG hGn hGm h1 h2
 go_enter Tryz.func218, Tryz.ntmps218
 go_wp2_with (at_builtin; refine Lib.wpList_append_run _ rfl _ _ _ _ rfl _ _ rfl rfl _ _ (hrz _) ?_)
 go_ret
 exact ⟨G, rfl, hGN.out, hR.out, hB.out⟩
set_option maxRecDepth 100000 in
set_option maxHeartbeats 2000000 in
theorem concat2_calls (g cg : Nat) (A B : Option Addr) (ca cb : Nat) (a b : List Int) (w : World) (h0 : w.cell? ⟨g, 0, none⟩ = some (.slice A a.length ca)) (h1 : w.cell? ⟨g, 1, none⟩ = some (.slice B b.length cb))
  (hr : (Kd.int .i64).C w A a.length a) (hr2 : (Kd.int .i64).C w B b.length b) (h2 : 1 ≤ a.length) (h3 : a.length + b.length ≤ 1000000) :
  Calls Tryz.prog 189 #[.slice (some ⟨g, 0, none⟩) 2 cg] w fun e w' => ∃ v, e = .returned v ∧ (Kd.int .i64).R 3 w' w.heap.size (fun _ => True) v (a ++ b) ∧ Below w.heap.size w w' := by
 have haI : (a.length : Int) ≤ 1000000 := by omega
 have hbI : (b.length : Int) ≤ 1000000 := by omega
 have hsI : 1 ≤ (a.length : Int) + (b.length : Int) ∧ (a.length : Int) + (b.length : Int) ≤ 1000000 := by omega
 have HG := Aside0.mk (fun W => growNil_calls (a.length + b.length) W (by omega) h3)
 have HA := Aside0.mk hr
 have HB := Aside0.mk hr2
 have hlen := Aside0.mk h3
 have H0 : Aside0 (∀ W : World, Below w.heap.size w W → W.cell? ⟨g, 0, none⟩ = some (.slice A a.length ca) ∧ W.cell? ⟨g, 1, none⟩ = some (.slice B b.length cb)) := ⟨fun W hb => ⟨cnx h0 hb, cnx h1 hb⟩⟩
 clear hr hr2 h2 h3 h0 h1
 have hw : IntKind.i64.wrap ((a.length : Int) + (b.length : Int)) = ((a.length + b.length : Nat) : Int) := by rw [IntWalk.i64_in _ (by omega)]; push_cast; rfl
 go_enter Tryz.func189, Tryz.ntmps189
 go_wp2
 go_loopw [3, 11] (fun s i wr => ∃ k : Nat, i = .int .i64 k ∧ k ≤ 2 ∧ s = .int .i64 (if k = 0 then 0 else if k = 1 then (a.length : Int) else ((a.length + b.length : Nat) : Int)) ∧ Below w.heap.size w wr) (fun _ i _ => 2 - (intOf i).toNat)
 case atStart => exact ⟨0, rfl, by omega, rfl, Below.refl _ _⟩
 case round =>
  obtain ⟨k, rfl, hk, rfl, hb⟩ := hrel
  obtain ⟨c0, c1⟩ := H0.out _ hb
  rcases k with _ | _ | k
  ·clear c1
   go_wp2
   go_roundw
   case rel => exact ⟨1, by go_num, by omega, by simp, hb⟩
   case measure => simp [intOf]
  ·clear c0
   go_wp2
   go_roundw
   case rel => exact ⟨2, by go_num, by omega, by simp, hb⟩
   case measure => simp [intOf]
  ·obtain rfl : k = 0 := by omega
   obtain ⟨wo, rfl⟩ : ∃ wo : World, wo = wr := ⟨_, rfl⟩
   clear c0 c1
   go_wp2_with (first | (go_at_call 218; refine (HG.out _).mono ?_; rintro e w1 ⟨G, rfl, -, hR, hb1⟩; have HR := Aside0.mk hR; clear hR))
   go_loopw [6, 27] (fun s i wr => ∃ k : Nat, i = .int .i64 k ∧ k ≤ 2 ∧ Aside0 ((Kd.int .i64).R 3 wr wo.heap.size (fun _ => True) s (if k = 0 then [] else if k = 1 then a else a ++ b)) ∧ Aside0 (Below wo.heap.size wo wr)) (fun _ i _ => 2 - (intOf i).toNat)
   case atStart => exact ⟨0, rfl, by omega, HR, ⟨hb1⟩⟩
   case round =>
    obtain ⟨k, rfl, hk, hR', hb'⟩ := hrel
    obtain ⟨c0, c1⟩ := H0.out _ (bnx hb hb'.out)
    rcases k with _ | _ | k
    ·clear c1
     have hRk : Aside0 ((Kd.int .i64).R 3 wr wo.heap.size (fun _ => True) u6 []) := ⟨by simpa using hR'.out⟩
     have hC := Aside0.mk (Kd.C_below HA.out (bnx hb hb'.out))
     go_wp2_with (at_builtin; refine Kd.R_append_rows (Kd.int .i64) (Rr := (Kd.int .i64).K wr) (w0 := wo) wo.heap.size rfl (.tmp 31) (.tmp 32) 22 3 (.int .i64 0) 8 rfl Tryz.underlying22 info_int rfl (by decide) (by decide) u6 [] a A a.length ca (fun _ => True) (fun _ => False) rfl rfl hRk.out hC.out (fun _ _ h => h) (fun _ h => h.elim) (fun _ _ => trivial) hb'.out hb'.out.size (by have := hlen.out; simp only [List.length_nil]; omega) ?_; intro v1 wA hoA hbA hgA hatA; have HOA := Aside0.mk hoA; have HBA := Aside0.mk hbA; clear hoA hgA hatA hbA)
     go_roundw
     case rel => exact ⟨1, by go_num, by omega, HOA, HBA⟩
     case measure => simp [intOf]
    ·clear c0
     have hRk : Aside0 ((Kd.int .i64).R 3 wr wo.heap.size (fun _ => True) u6 a) := ⟨by simpa using hR'.out⟩
     have hC := Aside0.mk (Kd.C_below HB.out (bnx hb hb'.out))
     go_wp2_with (at_builtin; refine Kd.R_append_rows (Kd.int .i64) (Rr := (Kd.int .i64).K wr) (w0 := wo) wo.heap.size rfl (.tmp 31) (.tmp 32) 22 3 (.int .i64 0) 8 rfl Tryz.underlying22 info_int rfl (by decide) (by decide) u6 a b B b.length cb (fun _ => True) (fun _ => False) rfl rfl hRk.out hC.out (fun _ _ h => h) (fun _ h => h.elim) (fun _ _ => trivial) hb'.out hb'.out.size (by have := hlen.out; omega) ?_; intro v1 wA hoA hbA hgA hatA; have HOA := Aside0.mk hoA; have HBA := Aside0.mk hbA; clear hoA hgA hatA hbA)
     go_roundw
     case rel => exact ⟨2, by go_num, by omega, HOA, HBA⟩
     case measure => simp [intOf]
    ·obtain rfl : k = 0 := by omega
     clear c0 c1
     go_wp2
     go_ret
     exact ⟨_, rfl, Kd.R_lower (by simpa using hR'.out) hb.size, bnx hb hb'.out⟩
end Sec

end Go.Proofs.YtnflnicdjioflaaGreatDoor
