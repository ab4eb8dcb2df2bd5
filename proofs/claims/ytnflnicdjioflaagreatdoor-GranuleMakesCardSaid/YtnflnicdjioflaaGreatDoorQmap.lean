/- A part of the proof. -/
import Derived.Test.YtnflnicdjioflaaGreatDoorQmam
import Derived.Test.YtnflnicdjioflaaGreatDoorQmao
set_option linter.unusedVariables false
set_option linter.unusedSimpArgs false
namespace Go.Proofs.YtnflnicdjioflaaGreatDoor
open Go.RowKit Go.Proofs.YtnflnicdjioflaaGreatDoorW.PrintWords Go.Proofs.YtnflnicdjioflaaGreatDoorW.PrintLast Go.Proofs.YtnflnicdjioflaaGreatDoorW.PrintMore
namespace Q21
attribute [local go_sem] max2_int min2_int max_two min_two max_three min_three
open Q15
open Q16 (isW off wd off_next band band_len band_C isW_iff)
section
variable {α : Type} {enc : α → Value} {w : World} {g t : Nat} {l : List α}
theorem bk_cell (h : w.heap[g]? = some (.cells (l.map enc).toArray t (0, 0))) {i : Nat} {x : α} (hx : l[i]? = some x) : w.cell? ⟨g, i, none⟩ = some (enc x) := by
 rw [blk_cell h]
 simp [hx]
theorem bk_set (h : w.heap[g]? = some (.cells (l.map enc).toArray t (0, 0))) (i : Nat) (u : α) : (w.setCell ⟨g, i, none⟩ (enc u)).heap[g]? = some (.cells ((l.set i u).map enc).toArray t (0, 0)) := by
 rw [blk_set h, List.map_set]
 simp
theorem bk_new (w : World) (t n : Nat) (x : α) : (w.alloc (.cells (madeCells #[enc x] n) t)).heap[w.heap.size]? = some (.cells ((List.replicate n x).map enc).toArray t (0, 0)) := by
 have e : madeCells #[enc x] n = ((List.replicate n x).map enc).toArray := by
  apply Array.ext
  ·simp [madeCells]
  ·intro i h1 h2
   simp [madeCells, Nat.mod_one]
 rw [e]
 exact heap_alloc_new _ _
end
def usedK (l c : List Int) (k : Nat) : Bool := (band c l k).any fun v => decide (v ≠ 0)
def usedL (l c : List Int) : List Bool := (List.range l.length).map (usedK l c)
def usedM (l c : List Int) (k m : Nat) : List Bool := (List.range l.length).map fun i => if i < k then usedK l c i else if i = k then ((band c l k).take m).any fun v => decide (v ≠ 0) else false
theorem usedL_len (l c : List Int) : (usedL l c).length = l.length := by simp [usedL]
theorem usedM_zero (l c : List Int) : usedM l c 0 0 = List.replicate l.length false := by
 apply List.ext_getElem
 ·simp [usedM]
 ·intro i h1 h2
  simp only [usedM, List.getElem_map, List.getElem_range, List.take_zero, List.any_nil, List.getElem_replicate, Nat.not_lt_zero, if_false]
  split <;> rfl
theorem usedM_all (l c : List Int) (m : Nat) : usedM l c l.length m = usedL l c := by
 apply List.ext_getElem
 ·simp [usedM, usedL]
 ·intro i h1 h2
  have h : i < l.length := by simpa [usedM] using h1
  simp [usedM, usedL, h]
theorem usedM_next {l c : List Int} {k : Nat} {m : Nat} (hm : (band c l k).length ≤ m) : usedM l c k m = usedM l c (k + 1) 0 := by
 apply List.ext_getElem
 ·simp [usedM]
 ·intro i h1 h2
  simp only [usedM, List.getElem_map, List.getElem_range, List.take_of_length_le hm, List.take_zero, List.any_nil]
  by_cases h : i < k
  ·rw [if_pos h, if_pos (by omega)]
  ·by_cases h3 : i = k
   ·subst h3
    rw [if_neg h, if_pos rfl, if_pos (by omega)]
    rfl
   ·rw [if_neg h, if_neg h3, if_neg (by omega)]
    split <;> rfl
theorem usedM_at {l c : List Int} {k m : Nat} (hk : k < l.length) : (usedM l c k m)[k]? = some (((band c l k).take m).any fun v => decide (v ≠ 0)) := by
 simp [usedM, hk]
theorem band_rd {l c : List Int} (hc : c.length = 128) (hl : isW l = true) {k : Nat} (hk : k < l.length) {m : Nat} (hm : m < wd l k) : (band c l k).take (m + 1) = (band c l k).take m ++ [rd c (off l k + m : Nat)] := by
 have h1 := band_len hc hl hk
 have h2 := off_next hl hk
 rw [List.take_add_one]
 congr 1
 rw [List.getElem?_eq_getElem (by omega)]
 simp only [band, List.getElem_take, List.getElem_drop, Option.toList_some, rd, Int.toNat_natCast]
 rw [List.getD_eq_getElem?_getD, List.getElem?_eq_getElem (by omega)]
 rfl
theorem usedM_step {l c : List Int} (hc : c.length = 128) (hl : isW l = true) {k : Nat} (hk : k < l.length) {m : Nat} (hm : m < wd l k) :
  usedM l c k (m + 1) = (usedM l c k m).set k ((((band c l k).take m).any fun v => decide (v ≠ 0)) || decide (rd c (off l k + m : Nat) ≠ 0)) := by
 apply List.ext_getElem
 ·simp [usedM]
 ·intro i h1 h2
  rw [List.getElem_set]
  simp only [usedM, List.getElem_map, List.getElem_range, band_rd hc hl hk hm, List.any_append, List.any_cons, List.any_nil, Bool.or_false]
  by_cases h : k = i
  ·subst h
   rw [if_neg (by omega), if_pos rfl, if_pos rfl]
  ·rw [if_neg h]
   by_cases h3 : i < k
   ·rw [if_pos h3, if_pos h3]
   ·rw [if_neg h3, if_neg (fun e => h e.symm), if_neg h3, if_neg (fun e => h e.symm)]
theorem off_all {l : List Int} (h : isW l = true) : off l l.length = 128 := by
 unfold off
 rw [List.take_length, (isW_iff.1 h).2.1]
 rfl
set_option maxRecDepth 100000 in
set_option maxHeartbeats 4000000 in
theorem Used_calls (A : Option Addr) (cap : Nat) (l : List Int) (a : Addr) (c1 : Nat) (c : List Int) (w : World) (hr : (Kd.int .i64).C w A l.length l) (hl : isW l = true) (hr1 : (Kd.int .i64).C w (some a) c.length c) (hc : c.length = 128) :
  Calls Tryz.prog 30 #[.slice A l.length cap, .slice (some a) 128 c1] w fun e w' => ∃ g, e = .returned (.tuple #[.slice (some ⟨g, 0, none⟩) l.length l.length, .int .i64 0]) ∧ w.heap.size ≤ g ∧ w'.heap[g]? = some (.cells ((usedL l c).map Value.bool).toArray 4 (0, 0)) ∧ Below w.heap.size w w' := by
 have HR := Aside0.mk hr
 have HR1 := Aside0.mk hr1
 have h32 := (isW_iff.1 hl).2.2
 have hlI : (l.length : Int) ≤ 32 := by omega
 have hlI2 : decide ((128 : Int) < (l.length : Int)) = false := decide_eq_false (by omega)
 have HO := Aside0.mk (fun k (hk : k < l.length) => off_next hl hk)
 have hoA := Aside0.mk (off_all hl)
 have HS := Aside0.mk (fun (k : Nat) (hk : k < l.length) (m : Nat) (hm : m < wd l k) => usedM_step hc hl hk hm)
 have HBL := Aside0.mk (fun (k : Nat) (hk : k < l.length) => band_len hc hl hk)
 have hmk := print_make_of (P := Tryz.prog) 23 4 (.bool false) 1 Tryz.underlying23 info_bool rfl (by decide) l.length (by omega)
 have hcL := Aside0.mk hc
 clear hr hr1 hl h32 hc
 go_enter Tryz.func30, Tryz.ntmps30
 go_wp2_with fail
 go_loopw [6, 15] (fun s i wr => ∃ (k : Nat) (z : Int), i = .int .i64 k ∧ s = .int .i64 z ∧ k ≤ l.length ∧ 0 ≤ z ∧ z ≤ 128 ∧ Aside0 (z = (off l k : Nat)) ∧ Aside0 (Below w.heap.size w wr)) (fun _ i _ => l.length - (intOf i).toNat)
 case atStart => exact ⟨0, 0, rfl, rfl, by omega, by omega, by omega, ⟨by simp [off]⟩, ⟨Below.refl _ _⟩⟩
 case round =>
  obtain ⟨k, z, rfl, rfl, hk, hz0, hz1, hz, hb⟩ := hrel
  by_cases hlt : k < l.length
  ·obtain ⟨ad, rfl, hcell⟩ := el_at HR.out hb.out hlt
   obtain ⟨h1, h2, h3, h4⟩ := HO.out k hlt
   have hzv := hz.out
   have hx : rd l k = ((off l (k + 1) : Nat) : Int) - z ∧ 1 ≤ rd l k ∧ rd l k ≤ 128 ∧ z + rd l k ≤ 128 := by omega
   obtain ⟨n, hn⟩ : ∃ n, n = rd l k := ⟨_, rfl⟩
   rw [← hn] at hx hcell
   obtain ⟨hx1, hx2, hx3, hx4⟩ := hx
   have hx1' := Aside0.mk hx1
   have hkI : (k : Int) < (l.length : Int) := by omega
   clear h1 h2 h3 h4 hn hzv hz hx1
   go_wp2_with fail
   go_roundw
   case rel => exact ⟨k + 1, z + n, by go_num, rfl, by omega, by omega, by omega, ⟨by have := hx1'.out; omega⟩, hb⟩
   case measure => simp [intOf]; omega
  ·obtain rfl : k = l.length := by omega
   obtain rfl : z = 128 := by rw [hz.out, hoA.out]; rfl
   clear hz hz0 hz1
   have hb' := hb
   go_wp2_with fail
   obtain ⟨W1, hW1⟩ : ∃ W, W = wr.alloc (.cells (madeCells #[Value.bool false] l.length) 4) := ⟨_, rfl⟩
   have hB1 : W1.heap[wr.heap.size]? = some (.cells ((usedM l c 0 0).map Value.bool).toArray 4 (0, 0)) := by rw [hW1, usedM_zero]; exact bk_new wr _ _ false
   have hb1 : Below w.heap.size w W1 := by rw [hW1]; exact hb.out.alloc hb.out.size _
   rw [← hW1]
   have hg0 : Aside0 (w.heap.size ≤ wr.heap.size) := ⟨hb.out.size⟩
   obtain ⟨g, hg⟩ : ∃ g, g = wr.heap.size := ⟨_, rfl⟩
   rw [← hg] at hB1 hg0 ⊢
   replace hB1 := Aside0.mk hB1
   replace hb1 := Aside0.mk hb1
   clear hW1 hg hb hmk
   go_loopw [10, 43] (fun s i wr => ∃ (k : Nat), i = .int .i64 k ∧ s = .int .i64 ((off l k : Nat) : Int) ∧ k ≤ l.length ∧ Aside0 (wr.heap[g]? = some (.cells ((usedM l c k 0).map Value.bool).toArray 4 (0, 0))) ∧ Aside0 (Below w.heap.size w wr)) (fun _ i _ => l.length - (intOf i).toNat)
   case atStart => exact ⟨0, rfl, by simp [off], by omega, hB1, hb1⟩
   case round =>
    obtain ⟨k, rfl, rfl, hk, hB, hb⟩ := hrel
    by_cases hlt : k < l.length
    ·obtain ⟨ad, rfl, hcell⟩ := el_at HR.out hb.out hlt
     obtain ⟨h1, h2, h3, h4⟩ := HO.out k hlt
     have hkI : (k : Int) < (l.length : Int) := by omega
     rw [h4] at hcell
     have hbl := HBL.out k hlt
     have HN := Aside0.mk (usedM_next (l := l) (c := c) (k := k) (m := wd l k) (by omega))
     have h1' := Aside0.mk h1
     obtain ⟨n, hn⟩ : ∃ n, n = wd l k := ⟨_, rfl⟩
     obtain ⟨o, ho⟩ : ∃ o, o = off l k := ⟨_, rfl⟩
     have hS := HS.out k hlt
     rw [← hn] at hcell hS HN h1' h2 h3
     rw [← ho] at hS h1' h3 ⊢
     replace hS := Aside0.mk hS
     have hltk := Aside0.mk hlt
     have ho' := Aside0.mk ho
     clear h1 h4 hbl hn ho
     go_wp2_with fail
     go_loopw [10, 49] (fun s i wr => ∃ (m : Nat), i = .int .i64 m ∧ s = .int .i64 ((o + m : Nat) : Int) ∧ m ≤ n ∧ Aside0 (wr.heap[g]? = some (.cells ((usedM l c k m).map Value.bool).toArray 4 (0, 0))) ∧ Aside0 (Below w.heap.size w wr)) (fun _ i _ => n - (intOf i).toNat)
     case atStart => exact ⟨0, rfl, rfl, by omega, hB, hb⟩
     case round =>
      obtain ⟨m, rfl, rfl, hm, hB, hb⟩ := hrel
      by_cases hlm : m < n
      ·have hom : o + m < 128 := by omega
       obtain ⟨ad, e1, c2⟩ := el_at HR1.out hb.out (k := o + m) (by have := hcL.out; omega)
       cases e1
       have c1 := bk_cell hB.out (usedM_at (l := l) (c := c) (m := m) hltk.out)
       have f1 := blk_frozen hB.out k
       have hst := hS.out m hlm
       have hmI : (m : Int) < (n : Int) := by omega
       obtain ⟨x, hx⟩ : ∃ x, x = rd c (o + m : Nat) := ⟨_, rfl⟩
       rw [← hx] at c2 hst
       obtain ⟨v, hv⟩ : ∃ v, v = ((band c l k).take m).any fun v => decide (v ≠ 0) := ⟨_, rfl⟩
       rw [← hv] at c1 hst
       have hkg := Aside0.mk (fun (u : Bool) => bk_set hB.out k u)
       have hbs := Aside0.mk (fun (u : Bool) => Below.setCell hb.out (p := ⟨g, k, none⟩) hg0.out (.bool u))
       clear hx hv hB hb
       have hmn : Aside0 (m + 1 ≤ n) := ⟨hlm⟩
       have hmeas : Aside0 (m < n) := ⟨hlm⟩
       cases v
       ·by_cases hx0 : x = 0
        ·have hn0 : (x != 0) = false := by simp [hx0]
         rw [decide_eq_false (by simpa using hx0)] at hst
         replace hst := Aside0.mk hst
         clear hx0 hlm
         go_wp2_with fail
         go_roundw
         case rel => exact ⟨m + 1, by go_num, by go_num, hmn.out, ⟨by rw [hst.out]; exact hkg.out false⟩, ⟨hbs.out false⟩⟩
         case measure => have := hmeas.out; simp [intOf]; omega
        ·have hn0 : (x != 0) = true := by simpa using hx0
         rw [decide_eq_true (by simpa using hx0)] at hst
         replace hst := Aside0.mk hst
         clear hx0 hlm
         go_wp2_with fail
         go_roundw
         case rel => exact ⟨m + 1, by go_num, by go_num, hmn.out, ⟨by rw [hst.out]; exact hkg.out true⟩, ⟨hbs.out true⟩⟩
         case measure => have := hmeas.out; simp [intOf]; omega
       ·rw [Bool.true_or] at hst
        replace hst := Aside0.mk hst
        clear hlm
        go_wp2_with fail
        go_roundw
        case rel => exact ⟨m + 1, by go_num, by go_num, hmn.out, ⟨by rw [hst.out]; exact hkg.out true⟩, ⟨hbs.out true⟩⟩
        case measure => have := hmeas.out; simp [intOf]; omega
      ·obtain rfl : m = n := by omega
       rw [HN.out] at hB
       have hoo : o + m = off l (k + 1) := by rw [h1'.out]
       rw [hoo]
       clear hoo
       go_wp2_with fail
       go_roundw
       case rel => exact ⟨k + 1, by go_num, rfl, by omega, hB, hb⟩
       case measure => simp [intOf]; omega
    ·obtain rfl : k = l.length := by omega
     rw [usedM_all] at hB
     go_wp2_with fail
     go_ret2
     exact ⟨g, rfl, hg0.out, hB.out, hb.out⟩
end Q21

namespace Q21
attribute [local go_sem] max2_int min2_int max_two min_two max_three min_three
open Q15
open Q16 (isW off wd off_next band band_len band_C isW_iff addr_add_zero)
set_option maxRecDepth 100000 in
set_option maxHeartbeats 4000000 in
theorem r18Widths_calls (A : Option Addr) (cap : Nat) (l : List Int) (w : World) (hr : (Kd.int .i64).C w A l.length l) (hl : isW l = true) :
  Calls Tryz.prog 113 #[.slice A l.length cap] w fun e w' => e = .returned (.tuple #[.int .i64 128, .bool true]) ∧ Below w.heap.size w w' := by
 have HR := Aside0.mk hr
 have h32 := (isW_iff.1 hl).2.2
 have hlI : (l.length : Int) ≤ 32 := by omega
 have hlI2 : decide ((l.length : Int) ≤ 128) = true := decide_eq_true (by omega)
 have HO := Aside0.mk (fun k (hk : k < l.length) => off_next hl hk)
 have hoA := Aside0.mk (off_all hl)
 clear hr hl h32
 go_enter Tryz.func113, Tryz.ntmps113
 go_wp2_with fail
 go_loopw [4, 9] (fun s i wr => ∃ (k : Nat) (z : Int), i = .int .i64 k ∧ s = .int .i64 z ∧ k ≤ l.length ∧ 0 ≤ z ∧ z ≤ 128 ∧ Aside0 (z = (off l k : Nat)) ∧ Aside0 (Below w.heap.size w wr)) (fun _ i _ => l.length - (intOf i).toNat)
 case atStart => exact ⟨0, 0, rfl, rfl, by omega, by omega, by omega, ⟨by simp [off]⟩, ⟨Below.refl _ _⟩⟩
 case round =>
  obtain ⟨k, z, rfl, rfl, hk, hz0, hz1, hz, hb⟩ := hrel
  by_cases hlt : k < l.length
  ·obtain ⟨ad, rfl, hcell⟩ := el_at HR.out hb.out hlt
   obtain ⟨h1, h2, h3, h4⟩ := HO.out k hlt
   have hzv := hz.out
   have hx : rd l k = ((off l (k + 1) : Nat) : Int) - z ∧ 1 ≤ rd l k ∧ rd l k ≤ 128 ∧ z + rd l k ≤ 128 := by omega
   obtain ⟨n, hn⟩ : ∃ n, n = rd l k := ⟨_, rfl⟩
   rw [← hn] at hx hcell
   obtain ⟨hx1, hx2, hx3, hx4⟩ := hx
   have hx1' := Aside0.mk hx1
   have hkI : (k : Int) < (l.length : Int) := by omega
   clear h1 h2 h3 h4 hn hzv hz hx1
   go_wp2_with fail
   go_roundw
   case rel => exact ⟨k + 1, z + n, by go_num, rfl, by omega, by omega, by omega, ⟨by have := hx1'.out; omega⟩, hb⟩
   case measure => simp [intOf]; omega
  ·obtain rfl : k = l.length := by omega
   obtain rfl : z = 128 := by rw [hz.out, hoA.out]; rfl
   clear hz hz0 hz1
   go_wp2_with fail
   go_ret2
   exact ⟨rfl, hb.out⟩
theorem any_snoc {b : List Int} {x : Int} : ((b ++ [x]).any fun v => decide (v ≠ 0)) = ((b.any fun v => decide (v ≠ 0)) || decide (x ≠ 0)) := by
 rw [List.any_append]
 simp
set_option maxRecDepth 100000 in
set_option maxHeartbeats 4000000 in
theorem rUsed_calls (A : Option Addr) (cap : Nat) (l : List Int) (a : Addr) (c1 : Nat) (c : List Int) (w : World) (hr : (Kd.int .i64).C w A l.length l) (hl : isW l = true) (hr1 : (Kd.int .i64).C w (some a) c.length c) (hc : c.length = 128) (hc0 : 128 ≤ c1) (hc9 : c1 ≤ 9223372036854775807) :
  Calls Tryz.prog 65 #[.slice A l.length cap, .slice (some a) 128 c1] w fun e w' => ∃ v, e = .returned (.tuple #[v, .int .i64 0]) ∧ Kd.bool.R 4 w' w.heap.size (fun _ => True) v (usedL l c) ∧ Below w.heap.size w w' := by
 have HR := Aside0.mk hr
 have HR1 := Aside0.mk hr1
 have h32 := (isW_iff.1 hl).2.2
 have hlI : (l.length : Int) ≤ 32 := by omega
 have HO := Aside0.mk (fun k (hk : k < l.length) => off_next hl hk)
 have HBR := Aside0.mk (fun (k : Nat) (hk : k < l.length) (m : Nat) (hm : m < wd l k) => band_rd hc hl hk hm)
 have HBL := Aside0.mk (fun (k : Nat) (hk : k < l.length) => band_len hc hl hk)
 have HW := Aside0.mk (fun (W : World) (hb : Below w.heap.size w W) => r18Widths_calls A cap l W (Kd.C_below hr hb) hl)
 have hcL := Aside0.mk hc
 have hb := Below.refl w.heap.size w
 clear hr hr1 hl h32 hc
 go_enter Tryz.func65, Tryz.ntmps65
 go_wp2_with (first | (go_at_call 113; refine (HW.out _ hb).mono ?_; rintro e w' ⟨rfl, hbn⟩; replace hb := bnx hb hbn; clear hbn))
 replace hb := Aside0.mk hb
 go_loopw [1, 8, 29] (fun x s i wr => ∃ k : Nat, i = .int .i64 k ∧ k ≤ l.length ∧ (∃ B m cp, x = .slice (some B) m cp ∧ Aside0 (k < l.length → B = a.add (off l k) ∧ m = 128 - off l k ∧ cp = c1 - off l k)) ∧ Aside0 (Kd.bool.R 4 wr w.heap.size (fun _ => True) s ((List.range k).map (usedK l c))) ∧ Aside0 (Below w.heap.size w wr)) (fun _ _ i _ => l.length - (intOf i).toNat)
 case atStart => exact ⟨0, rfl, by omega, ⟨a, 128, c1, rfl, ⟨fun _ => by simp [off, addr_add_zero]⟩⟩, ⟨Kd.R_nil _ _ _ _ _⟩, hb⟩
 case round =>
  obtain ⟨k, rfl, hk, ⟨B, m, cp, rfl, hx⟩, hR, hb⟩ := hrel
  by_cases hlt : k < l.length
  ·obtain ⟨ad, rfl, hcell⟩ := el_at HR.out hb.out hlt
   obtain ⟨rfl, hm, hcp⟩ := hx.out hlt
   obtain ⟨q1, q2, q3, q4⟩ := HO.out k hlt
   rw [q4] at hcell
   have hle : ((List.range k).map (usedK l c)).length = k := by rw [List.length_map, List.length_range]
   have hT : (List.range (k + 1)).map (usedK l c) = (List.range k).map (usedK l c) ++ [usedK l c k] := by rw [List.range_succ, List.map_append]; rfl
   have hbr := HBR.out k hlt
   have hbl := HBL.out k hlt
   have hfin : Aside0 (usedK l c k = ((band c l k).take (wd l k)).any fun v => decide (v ≠ 0)) := ⟨by rw [List.take_of_length_le (by omega)]; rfl⟩
   obtain ⟨o, ho⟩ : ∃ o, o = off l k := ⟨_, rfl⟩
   obtain ⟨d, hd⟩ : ∃ d, d = wd l k := ⟨_, rfl⟩
   rw [← ho] at hm hcp q1 q3 hbr ⊢
   rw [← hd] at hcell q1 q2 q3 hbr hfin
   have i1 : (d : Int) ≤ (m : Int) := by omega
   have i2 : (d : Int) ≤ (cp : Int) := by omega
   have i3 : (m : Int) ≤ (cp : Int) := by omega
   have i4 : (cp : Int) ≤ 9223372036854775807 := by omega
   have i5 : (1 : Int) ≤ (d : Int) := by omega
   have hkI : (k : Int) < (l.length : Int) := by omega
   have q3' := Aside0.mk q3
   replace hbr := Aside0.mk hbr
   replace hm := Aside0.mk hm
   replace hcp := Aside0.mk hcp
   replace q1 := Aside0.mk q1
   replace hT := Aside0.mk hT
   replace hle := Aside0.mk hle
   obtain ⟨a', ha'⟩ : ∃ a', a' = a.add o := ⟨_, rfl⟩
   rw [← ha']
   replace ha' := Aside0.mk ha'
   replace ho := Aside0.mk ho
   replace hd := Aside0.mk hd
   have hlen : (((List.range k).map (usedK l c)).length + 1) * 1 ≤ 140737488355328 := by rw [hle.out]; omega
   replace hlen := Aside0.mk hlen
   clear q2 q3 q4 hx hbl
   go_wp2_with fail
   obtain ⟨wi, hwi⟩ : ∃ wi, wi = wr := ⟨_, rfl⟩
   subst hwi
   go_loopw [11, 37] (fun s i wr => ∃ (j : Nat), i = .int .i64 j ∧ (∃ b, s = .bool b ∧ Aside0 (b = ((band c l k).take j).any fun v => decide (v ≠ 0))) ∧ j ≤ d ∧ Aside0 (Below wi.heap.size wi wr)) (fun _ i _ => d - (intOf i).toNat)
   case atStart => exact ⟨0, rfl, ⟨_, rfl, ⟨by simp⟩⟩, by omega, ⟨Below.refl _ _⟩⟩
   case round =>
    obtain ⟨j, rfl, ⟨v, rfl, hv⟩, hj, hbJ⟩ := hrel
    by_cases hlj : j < d
    ·obtain ⟨ad3, e1, c2⟩ := el_at HR1.out (hb.out.trans (hbJ.out.mono hb.out.size)) (k := o + j) (by have := hcL.out; have := q3'.out; omega)
     cases e1
     rw [← Addr.add_add, ← ha'.out] at c2
     have hst := hbr.out j hlj
     obtain ⟨x, hx⟩ : ∃ x, x = rd c (o + j : Nat) := ⟨_, rfl⟩
     rw [← hx] at c2 hst
     have hjI : (j : Int) < (d : Int) := by omega
     have hv2 : Aside0 ((((band c l k).take (j + 1)).any fun v => decide (v ≠ 0)) = (v || decide (x ≠ 0))) := ⟨by rw [hst, any_snoc, hv.out]⟩
     clear hx hv hst
     cases v
     ·by_cases hx0 : x = 0
      ·have hn0 : (x != 0) = false := by simp [hx0]
       have hv3 := hv2.out
       rw [decide_eq_false (by simpa using hx0)] at hv3
       replace hv2 := Aside0.mk hv3
       clear hx0 hv3
       go_wp2_with fail
       go_roundw
       case rel => exact ⟨j + 1, by go_num, ⟨_, rfl, ⟨hv2.out.symm⟩⟩, by omega, hbJ⟩
       case measure => simp [intOf]; omega
      ·have hn0 : (x != 0) = true := by simpa using hx0
       have hv3 := hv2.out
       rw [decide_eq_true (by simpa using hx0)] at hv3
       replace hv2 := Aside0.mk hv3
       clear hx0 hv3
       go_wp2_with fail
       go_roundw
       case rel => exact ⟨j + 1, by go_num, ⟨_, rfl, ⟨hv2.out.symm⟩⟩, by omega, hbJ⟩
       case measure => simp [intOf]; omega
     ·have hv3 := hv2.out
      rw [Bool.true_or] at hv3
      replace hv2 := Aside0.mk hv3
      clear hv3
      go_wp2_with fail
      go_roundw
      case rel => exact ⟨j + 1, by go_num, ⟨_, rfl, ⟨hv2.out.symm⟩⟩, by omega, hbJ⟩
      case measure => simp [intOf]; omega
    ·obtain rfl : j = d := by omega
     have hv2 : Aside0 (v = usedK l c k) := ⟨by rw [hv.out, hfin.out]⟩
     have hR2 := Aside0.mk (Kd.R_below hR.out hbJ.out)
     have hb2 := Aside0.mk (hb.out.trans (hbJ.out.mono hb.out.size))
     clear hR hbJ hb hv
     obtain ⟨q, hqe⟩ : ∃ q, q = (List.range k).map (usedK l c) := ⟨_, rfl⟩
     rw [← hqe] at hR2 hlen hT
     clear hqe hle
     go_wp2_with (first | (at_builtin; refine Kd.R_append Kd.bool (w0 := w) w.heap.size rfl (.tmp 50) (.tmp 52) 23 4 (.bool false) 1 rfl Tryz.underlying23 info_bool rfl (by decide) (by omega) u8 q (v) [.bool (v)] (fun _ => True) (fun _ => False) rfl rfl rfl (fun _ hk => hk.elim) (fun _ _ => trivial) hR2.out hb2.out hb2.out.size hlen.out ?_; intro v1 wA hoA hbA hgA hatA; have HOA := Aside0.mk hoA; have HBA := Aside0.mk hbA; clear hoA hbA hgA hatA))
     go_roundw
     case rel =>
      refine ⟨k + 1, by go_num, by omega, ?_, ⟨by rw [hT.out, ← hv2.out]; exact HOA.out⟩, HBA⟩
      by_cases hcd : cp = j
      ·refine ⟨a', _, _, by rw [if_pos hcd], ⟨fun h => ?_⟩⟩
       obtain ⟨p1, p2, p3, p4⟩ := HO.out (k + 1) h
       have := q1.out; have := hcp.out; have := ho.out
       exfalso; omega
      ·refine ⟨a'.add j, _, _, by rw [if_neg hcd], ⟨fun h => ⟨?_, ?_, ?_⟩⟩⟩
       ·rw [ha'.out, Addr.add_add, q1.out]
       ·rw [hm.out, q1.out]; omega
       ·rw [hcp.out, q1.out]; omega
     case measure => simp [intOf]; omega
  ·obtain rfl : k = l.length := by omega
   clear hx
   go_wp2_with fail
   go_ret2
   exact ⟨_, rfl, hR.out, hb.out⟩
end Q21

end Go.Proofs.YtnflnicdjioflaaGreatDoor
