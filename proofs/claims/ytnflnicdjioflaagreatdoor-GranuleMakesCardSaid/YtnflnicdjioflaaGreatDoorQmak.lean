/- A part of the proof. -/
import Derived.Test.YtnflnicdjioflaaGreatDoorQmai
import Derived.Test.YtnflnicdjioflaaGreatDoorQmaj
set_option linter.unusedVariables false
set_option linter.unusedSimpArgs false
namespace Go.Proofs.YtnflnicdjioflaaGreatDoor
open Go.RowKit Go.Proofs.YtnflnicdjioflaaGreatDoorW.PrintWords Go.Proofs.YtnflnicdjioflaaGreatDoorW.PrintLast Go.Proofs.YtnflnicdjioflaaGreatDoorW.PrintMore
namespace Q16
attribute [local go_sem] max2_int min2_int max_two min_two max_three min_three
open Q15 Runs Go.Shelf
attribute [local go_sem] Oper.semAt_some
abbrev KL : Kd (List Int) := Kd.slice 3 (Kd.int .i64)
def FnList (g : Nat) (fs cs : Array Value) (a : Addr) (l : List Int) (w : World) (k : Nat) (r : List Int) : Prop :=
 ∀ W, Below w.heap.size w W → Calls Tryz.prog g (fs ++ encB a l k ++ cs) W fun e w' => ∃ v, e = .returned v ∧ (Kd.int .i64).R 3 w' W.heap.size (fun _ => True) v r ∧ Below W.heap.size W w'
theorem info_list : (Tryz.prog.info? 22).map (fun i => (i.zero, i.size, i.bytes)) = some (some (.slice none 0 0), 1, 24) := by kernel_rfl
set_option maxRecDepth 100000 in
set_option maxHeartbeats 1000000 in
theorem eachL_calls (g : Nat) (fs cs : Array Value) (eg : Q15.Enters g) (a : Addr) (c0 : Nat) (A1 : Option Addr) (cap : Nat) (l : List Int) (hl : isW l = true) (hc0 : 128 ≤ c0) (hc9 : c0 ≤ 9223372036854775807) (r : Nat → List Int)
  (w : World) (hr : (Kd.int .i64).C w A1 l.length l) (hof : ∀ k, k < l.length → FnList g fs cs a l w k (r k)) :
  Calls Tryz.prog 59 #[.slice (some a) 128 c0, .slice A1 l.length cap, .func (.func g) fs cs] w fun e w' => ∃ v, e = .returned v ∧ KL.R 22 w' w.heap.size (fun _ => True) v ((List.range l.length).map r) ∧ Below w.heap.size w w' := by
 obtain ⟨W2, hW2⟩ : ∃ W2, W2 = (w.alloc (.cells #[.func (.func g) fs cs] 82)).alloc (.cells #[.slice none 0 0] 24) := ⟨_, rfl⟩
 have hB2 : Below w.heap.size w W2 := by rw [hW2]; exact ((Below.refl _ _).alloc (Nat.le_refl _) _).alloc (by simp) _
 have a0 : W2.cell? ⟨w.heap.size, 0, none⟩ = some (.func (.func g) fs cs) := by rw [hW2]; go_simp
 have a1 : W2.cell? ⟨w.heap.size + 1, 0, none⟩ = some (.slice none 0 0) := by rw [hW2]; go_simp
 have f1 : W2.frozen? ⟨w.heap.size + 1, 0, none⟩ = false := by rw [hW2]; go_simp
 have s2 : w.heap.size + 2 ≤ W2.heap.size := by rw [hW2]; simp
 have hOF := Aside0.mk hof
 have hR1 := Aside0.mk hr
 have hL := Aside0.mk hl
 have hll : (l.length : Int) ≤ 32 := by have := (isW_iff.1 hl).2.2; omega
 clear hof hr hl
 unfold Q15.Enters at eg
 refine (callsIn_wide (n := 3)).1 ?_
 refine callsIn_of_wp_marks Tryz.func59 rfl trivial ?_ rfl
 simp only [Tryz.ntmps59, List.size_toArray, List.length_cons, List.length_nil, Nat.reduceAdd, Nat.reduceSub, Array.replicate_succ, Array.replicate_zero, List.push_toArray, List.append_toArray, List.nil_append, List.cons_append]
 gi_wp2_with fail
 rw [← hW2]
 clear hW2
 refine ⟨trivial, (callsIn_wide.2 (parts_calls (some a) A1 128 c0 l.length cap W2)).mono ?_⟩
 rintro e W3 ⟨rfl, hw3⟩
 have hb3 : Below W2.heap.size W2 W3 := by rw [hw3]; exact ((Below.refl _ _).alloc (Nat.le_refl _) _).alloc (by simp) _
 have d1 : W3.cell? ⟨W2.heap.size, 0, none⟩ = some (.slice (some a) 128 c0) := by rw [hw3]; go_simp
 have d2 : W3.cell? ⟨W2.heap.size + 1, 0, none⟩ = some (.slice A1 l.length cap) := by rw [hw3]; go_simp
 have g1 : W3.frozen? ⟨W2.heap.size, 0, none⟩ = false := by rw [hw3]; go_simp
 have s3 : W2.heap.size + 2 ≤ W3.heap.size := by rw [hw3]; simp
 have hB3 := bnx hB2 hb3
 clear hw3
 gi_wp2_with fail
 have hmo : Tryz.prog.follows .mixedOrders = true := by kernel_rfl
 refine wpIn_rangeRuns rfl (by omega) (gf := 156) (lb := #[.pointer (some ⟨W2.heap.size + 1, 0, none⟩), .pointer (some ⟨W2.heap.size, 0, none⟩)]) rfl trivial (enters_of Tryz.func156 (by kernel_rfl) rfl)
  (parts1_runs Fence.wide _ trivial rfl (by omega) (W2.heap.size + 1) W2.heap.size a c0 A1 cap l hL.out hc0 hc9 w W3 hR1.out hB3 (by omega) (by omega) (by omega) (by omega) (by omega) d2 d1 g1) (by omega)
  (fun h k => h.trans k) (fun W l' o o' hl' => Keep3.putObj (N := W3.heap.size) (by omega) (by omega) (by omega) W l' o o' hl') (Below.refl _ _) (fun _ => rfl)
  (fun k W => W.cell? ⟨w.heap.size, 0, none⟩ = some (.func (.func g) fs cs) ∧ W.frozen? ⟨w.heap.size + 1, 0, none⟩ = false ∧ (∃ v, W.cell? ⟨w.heap.size + 1, 0, none⟩ = some v ∧ KL.R 22 W W3.heap.size (fun _ => True) v ((List.range k).map r)) ∧ Below w.heap.size w W ∧ W3.heap.size ≤ W.heap.size)
  ?own ?cell ?start
  (fun k => { tmps := #[.slice (some a) 128 c0, .slice A1 l.length cap, .func (.func g) fs cs, undef, undef, .pointer (some ⟨w.heap.size, 0, none⟩), .slice none 0 0, .pointer (some ⟨w.heap.size + 1, 0, none⟩), .int .i64 k, .slice (some (a.add (off l k))) (wd l k) (wd l k), .slice (some a) 128 c0, .slice A1 l.length cap, .func (.func 156) #[] #[.pointer (some ⟨W2.heap.size + 1, 0, none⟩), .pointer (some ⟨W2.heap.size, 0, none⟩)], .int .i64 k, .slice (some (a.add (off l k))) (wd l k) (wd l k), undef, undef, undef, undef, undef, undef, undef, undef], defers := [] }) ?assign ?body ?done
 case own =>
  rintro k W W' row ⟨e0, e1, ⟨v, e2, e3⟩, e4, e5⟩ hg hrow
  exact ⟨cell_kept e0 hg (fun r e => (hrow r e).2), (frozen_kept e2 hg (fun r e => (hrow r e).2)).trans e1, ⟨v, cell_kept e2 hg (fun r e => (hrow r e).2), R_turn e3 hg (fun r e => (hrow r e).2)⟩, e4.grown hg e4.size (fun r e => by have := (hrow r e).1; omega), Nat.le_trans e5 hg.size⟩
 case cell =>
  rintro k W v ⟨e0, e1, ⟨u, e2, e3⟩, e4, e5⟩
  exact ⟨(World.cell?_setCell_far _ _ _ _ (by simp; omega)).trans e0, by simpa using e1, ⟨u, (World.cell?_setCell_far _ _ _ _ (by simp; omega)).trans e2, R_set e3 (by simp; omega) _⟩, e4.setCell (by simp; omega) _, by simpa using e5⟩
 case start => exact ⟨cnx a0 hb3, (hb3.frozen (p := ⟨w.heap.size + 1, 0, none⟩) (by simp; omega)).trans f1, ⟨_, cnx a1 hb3, Kd.R_nil _ _ _ _ _⟩, hB3, Nat.le_refl _⟩
 case assign =>
  intro l' k W K _ hK
  unfold encB
  gi_wp2
  exact hK
 case body =>
  rintro L k W ⟨e0, e1, ⟨v, e2, e3⟩, e4, e5⟩ hk
  have hF := hOF.out k hk
  unfold FnList encB at hF
  obtain ⟨o, ho⟩ : ∃ o, o = a.add (off l k) := ⟨_, rfl⟩
  obtain ⟨d, hd⟩ : ∃ d, d = wd l k := ⟨_, rfl⟩
  rw [← ho, ← hd] at hF ⊢
  replace hF := Aside0.mk hF
  replace ho := Aside0.mk ho
  replace hd := Aside0.mk hd
  gi_wp2_with fail
  refine Held.wpIn_region_last (fun w' => w'.cell? ⟨w.heap.size, 0, none⟩ = some (.func (.func g) fs cs) ∧ w'.cell? ⟨w.heap.size + 1, 0, none⟩ = some v ∧ Below W3.heap.size W w') [7] hmo (by kernel_rfl) (fun ⟨_, _, h⟩ => h) ⟨e0, e2, (Below.refl _ _).drew⟩ (fun hHeld => ?_)
  (refine Tk.tl 0 (v) hHeld ?_)
  (refine Tk.tl 1 (.func (.func g) fs cs) hHeld ?_)
  (refine Tk.tl 2 (.int .i64 k) hHeld ?_)
  (refine Tk.tl 3 (.slice (some o) d d) hHeld ?_)
  (refine wpAnyLast_ready (rs := [4]) (by kernel_rfl) (by simp) ?_; refine AllReadyL.cons rfl (by decide) (fun K hK => ?_) AllReadyL.nil)
  go_simp
  simp only [Array.append_assoc] at hF
  have hbd : Below W.heap.size W W.drew := (Below.refl _ _).drew
  refine (hF.out _ (bnx e4 hbd)).mono ?_
  rintro e w1 ⟨x, rfl, hx, hb1⟩
  have hxM : KL.M w1 W3.heap.size (fun k => W.drew.heap.size ≤ k) (r k) [x] := ⟨x, rfl, Kd.R_lower (Kd.R_mono (Kd.R_bound hx) (fun k hk => hk.2.1)) (Nat.le_trans e5 hbd.size)⟩
  obtain ⟨A5, p5, rfl, _, _⟩ := Kd.R_reads hx
  have hbw := bnx hbd hb1
  have hbw3 : Below W3.heap.size W w1 := hbw.mono e5
  (go_wp2_with fail; refine hK.out _ _ (⟨cnx e0 hbw, cnx e2 hbw, hbw3⟩) (fun hHeld => ?_); clear hK K; try simp only [Act.put, Tk.z1, Tk.z2, Tk.z3, Tk.z4, Tk.z5, Tk.z6])
  have hR := Kd.R_below e3 hbw
  (refine wpAnyLast_ready (rs := [5]) (by kernel_rfl) (by simp) ?_; refine AllReadyL.cons rfl (by decide) (fun K hK => ?_) AllReadyL.nil)
  go_simp
  (go_wp2_with fail; refine hK.out _ _ (⟨cell_alloc_l _ hHeld.1, cell_alloc_l _ hHeld.2.1, hbw3.alloc (Nat.le_trans e5 hbw.size) _⟩) (fun hHeld => ?_); clear hK K; try simp only [Act.put, Tk.z1, Tk.z2, Tk.z3, Tk.z4, Tk.z5, Tk.z6])
  (refine wpAnyLast_ready (rs := [6]) (by kernel_rfl) (by simp) ?_; refine AllReadyL.cons rfl (by decide) (fun K hK => ?_) AllReadyL.nil)
  refine Kd.R_append_step KL (w0 := W) W3.heap.size rfl (.tmp 15) (.tmp 20) 24 22 (.slice none 0 0) 24 rfl Tryz.underlying24 info_list rfl (by decide) (by decide) v ((List.range k).map r) (r k) [.slice A5 (r k).length p5] (fun _ => True) (fun k => W.drew.heap.size ≤ k) rfl rfl hxM (fun j hj => ⟨trivial, fun e => by have := ((Kd.R_bound e3).1 j e.symm).2.2.1; have := hbd.size; omega⟩) (fun _ _ => trivial) hR hbw3 (Nat.le_trans e5 hbw.size) (by simp; omega) ?_
  intro v1 w2 hR2 hB2' hg2 hat2
  have p0 := (hB2'.cell (p := ⟨w.heap.size, 0, none⟩) (by simp; omega)).trans e0
  have p1 := (hB2'.cell (p := ⟨w.heap.size + 1, 0, none⟩) (by simp; omega)).trans e2
  have p2 := (hB2'.frozen (p := ⟨w.heap.size + 1, 0, none⟩) (by simp; omega)).trans e1
  (go_wp2_with fail; refine hK.out _ _ (⟨p0, p1, hB2'⟩) (fun hHeld => ?_); clear hK K; try simp only [Act.put, Tk.z1, Tk.z2, Tk.z3, Tk.z4, Tk.z5, Tk.z6])
  have hko := (keeps_below hbw).trans (keeps_row hR hg2)
  obtain ⟨A4, p4, rfl, _, _⟩ := Kd.R_reads hR2
  (refine wpAnyLast_ready (rs := [7]) (by kernel_rfl) (by simp) ?_; refine AllReadyL.cons_last rfl (by decide) (fun K hK => ?_) AllReadyL.nil)
  go_simp
  go_wp2_with fail
  refine hK.out _ _ ?_
  clear hK K
  refine wpAnyLast_done (by kernel_rfl) ?_ _
  have hBw : Below w.heap.size W w2 := hB2'.mono (by omega)
  have hsz : W3.heap.size ≤ w2.heap.size := Nat.le_trans e5 hB2'.size
  refine ⟨(hko.trans (KeepsOthers.setCell _ _ _)).from _, ⟨hBw.setCell (by simp) _, (heap_setCell_ne _ _ (by omega)).trans (hB2'.block _ (by omega)), (heap_setCell_ne _ _ (by omega)).trans (hB2'.block _ (by omega))⟩,
   (World.cell?_setCell_far _ _ _ _ (by simp)).trans p0, by simpa using p2, ⟨_, World.cell?_setCell_same' _ _ _ (by rw [p1]; rfl), ?_⟩, (e4.trans hBw).setCell (by simp) _, by simpa using hsz⟩
  rw [List.range_succ, List.map_append]
  simp only [List.length_append, List.length_map, List.length_range, List.length_cons, List.length_nil, Nat.zero_add] at hR2
  exact R_set (p := ⟨w.heap.size + 1, 0, none⟩) hR2 (show w.heap.size + 1 < W3.heap.size by omega) _
 case done =>
  rintro D W hD ⟨e0, e1, ⟨v, e2, e3⟩, e4, e5⟩ hK
  have hgD := grownBy_putObj' W D (.deferred none)
  have hrD : ∀ r, some D = some r → ∃ o : Obj, W.heap[r]? = some o ∧ o.isCells = false := fun r e => by cases e; exact ⟨_, hK, rfl⟩
  have hR9 := Kd.R_lower (base' := w.heap.size) (R_turn e3 hgD hrD) (by omega)
  have hB9 : Below w.heap.size w (W.putObj D (.deferred none)) := e4.grown hgD e4.size (fun r e => by cases e; omega)
  obtain ⟨A4, p4, rfl, _, _⟩ := Kd.R_reads e3
  gi_wp2
  refine ⟨by simp, .inl ⟨_, _, rfl, run_takeDeferred hK, ?_⟩⟩
  rw [List.length_map, List.length_range] at hR9
  exact ⟨.slice A4 l.length p4, by simp [results, Tryz.f59, go_sem], _, rfl, hR9, hB9⟩
end Q16

namespace Q16
attribute [local go_sem] max2_int min2_int max_two min_two max_three min_three
open Q15
theorem list_at {w w1 : World} {A : Option Addr} {ls : List (List Int)} (hr : KL.C w A ls.length ls) (hb : Below w.heap.size w w1) {k : Nat} (hk : k < ls.length) :
  ∃ ad A' c, A = some ad ∧ w1.cell? (ad.add k) = some (.slice A' (ls[k]).length c) ∧ (ls[k]).length ≤ c ∧ (Kd.int .i64).C w1 A' (ls[k]).length ls[k] := by
 obtain ⟨_, _, h⟩ := hr
 obtain ⟨ad, e, h2⟩ := h (by omega)
 subst e
 obtain ⟨cs, hz, ⟨A', c, hcs, hc, hC⟩, hcell⟩ := h2 k _ (List.getElem?_eq_getElem hk)
 subst hcs
 have := hcell 0 _ rfl
 exact ⟨ad, A', c, rfl, cnx (by simpa [KL, Kd.slice] using this) hb, hc, Kd.C_below hC hb⟩
set_option maxRecDepth 100000 in
set_option maxHeartbeats 1000000 in
theorem joined_calls (A : Option Addr) (cap : Nat) (ls : List (List Int)) (w : World) (hr : KL.C w A ls.length ls) (hl : ls.length ≤ 1000) (hn : ∀ l ∈ ls, l.length ≤ 1000) :
  Calls Tryz.prog 58 #[.slice A ls.length cap] w fun e w' => ∃ v, e = .returned v ∧ (Kd.int .i64).R 3 w' w.heap.size (fun _ => True) v ls.flatten ∧ Below w.heap.size w w' := by
 have HR := Aside0.mk hr
 have HN := Aside0.mk hn
 have hlI : (ls.length : Int) ≤ 1000 := by omega
 clear hr hn hl
 go_enter Tryz.func58, Tryz.ntmps58
 go_wp2
 go_loopw [3, 8] (fun s i wr => ∃ k : Nat, i = .int .i64 k ∧ k ≤ ls.length ∧ Aside0 ((Kd.int .i64).R 3 wr w.heap.size (fun _ => True) s (ls.take k).flatten) ∧ Aside0 (((ls.take k).flatten).length ≤ k * 1000) ∧ Below w.heap.size w wr) (fun _ i _ => ls.length - (intOf i).toNat)
 case atStart => exact ⟨0, rfl, by omega, ⟨Kd.R_nil _ _ _ _ _⟩, ⟨by simp⟩, Below.refl _ _⟩
 case round =>
  obtain ⟨k, rfl, hk, hR, hle, hb⟩ := hrel
  by_cases hlt : k < ls.length
  ·obtain ⟨ad, A', c, rfl, hcell, hc, hC⟩ := list_at HR.out hb hlt
   have hT : ls.take (k + 1) = ls.take k ++ [ls[k]] := List.take_succ_eq_append_getElem hlt
   have hn := HN.out _ (List.getElem_mem hlt)
   obtain ⟨l, hle2⟩ : ∃ l, l = ls[k] := ⟨_, rfl⟩
   rw [← hle2] at hcell hc hC hT hn
   replace hT := Aside0.mk hT
   replace hC := Aside0.mk hC
   clear hle2
   have hlen : ((ls.take k).flatten.length + l.length) * 8 ≤ 140737488355328 := by have := hle.out; omega
   replace hlen := Aside0.mk hlen
   replace hn := Aside0.mk hn
   go_wp2_with (at_builtin; refine Kd.R_append_rows (Kd.int .i64) (Rr := (Kd.int .i64).K wr) (w0 := w) w.heap.size rfl (.tmp 12) (.tmp 13) 22 3 (.int .i64 0) 8 rfl Tryz.underlying22 info_int rfl (by decide) (by decide) u3 (ls.take k).flatten l A' l.length c (fun _ => True) (fun _ => False) rfl rfl hR.out hC.out (fun _ _ h => h) (fun _ h => h.elim) (fun _ _ => trivial) hb hb.size hlen.out ?_; intro v1 wA hoA hbA hgA hatA; have HOA := Aside0.mk hoA; clear hoA hgA hatA)
   go_roundw
   case rel => exact ⟨k + 1, by go_num, by omega, ⟨by rw [hT.out, List.flatten_append]; simpa using HOA.out⟩, ⟨by rw [hT.out, List.flatten_append, List.length_append]; have := hle.out; have := hn.out; simp only [List.flatten_cons, List.flatten_nil, List.append_nil]; omega⟩, hbA⟩
   case measure => simp [intOf]; omega
  ·obtain rfl : k = ls.length := by omega
   have hR' := hR.out
   rw [List.take_length] at hR'
   replace hR' := Aside0.mk hR'
   clear hR hle
   go_wp2
   go_ret
   exact ⟨_, rfl, hR'.out, hb⟩
end Q16

namespace Q16
attribute [local go_sem] max2_int min2_int max_two min_two max_three min_three
open Q15
def band (c l : List Int) (k : Nat) : List Int := (c.drop (off l k)).take (wd l k)
theorem band_len {c l : List Int} (hc : c.length = 128) (hl : isW l = true) {k : Nat} (hk : k < l.length) : (band c l k).length = wd l k := by
 have := off_next hl hk
 unfold band
 rw [List.length_take, List.length_drop]
 omega
theorem band_C {c l : List Int} {w : World} {a : Addr} (hr : (Kd.int .i64).C w (some a) c.length c) (hc : c.length = 128) (hl : isW l = true) {k : Nat} (hk : k < l.length) :
  (Kd.int .i64).C w (some (a.add (off l k))) (band c l k).length (band c l k) := by
 have hn := off_next hl hk
 have hlen := band_len hc hl hk
 obtain ⟨h0, h1, h2⟩ := hr
 refine ⟨rfl, by rw [hlen]; omega, fun _ => ⟨_, rfl, fun j p hj => ?_⟩⟩
 obtain ⟨ad, e, h3⟩ := h2 (by omega)
 cases e
 have hj' : c[off l k + j]? = some p := by
  unfold band at hj
  have hlt : j < wd l k := by
   have := (List.getElem?_eq_some_iff.1 hj).1
   rw [List.length_take] at this
   omega
  rw [List.getElem?_take_of_lt hlt, List.getElem?_drop] at hj
  exact hj
 obtain ⟨cs, hz, hK, hcell⟩ := h3 _ p hj'
 refine ⟨cs, hz, hK, fun i u hu => ?_⟩
 have := hcell i u hu
 rw [Addr.add_add]
 rw [show off l k + (j * (Kd.int .i64).sz + i) = (off l k + j) * (Kd.int .i64).sz + i by show off l k + (j * 1 + i) = (off l k + j) * 1 + i; omega]
 exact this
end Q16

namespace Q16
attribute [local go_sem] max2_int min2_int max_two min_two max_three min_three
open Q15
def cellB (a : Addr) (c0 : Nat) (l : List Int) (k : Nat) : List Value := [.slice (some (a.add (off l k))) (wd l k) (c0 - off l k)]
def bands (c l : List Int) : List (List Int) := (List.range l.length).map (band c l)
theorem bands_read {c l : List Int} {a : Addr} {c0 : Nat} {w : World} {A : Option Addr} (hr : (Kd.int .i64).C w (some a) c.length c) (hc : c.length = 128) (hc0 : 128 ≤ c0) (hl : isW l = true) (h : (Kd.raw 1).C w A l.length ((List.range l.length).map (cellB a c0 l))) : KL.C w A (bands c l).length (bands c l) := by
 have hlen : (bands c l).length = l.length := by unfold bands; rw [List.length_map, List.length_range]
 obtain ⟨h0, h1, h2⟩ := h
 refine ⟨rfl, by rw [hlen]; exact h1, fun hp => ?_⟩
 obtain ⟨ad, e, h3⟩ := h2 (by omega)
 refine ⟨ad, e, fun j p hj => ?_⟩
 have hjl : j < l.length := by
  have := (List.getElem?_eq_some_iff.1 hj).1
  omega
 have hp' : p = band c l j := by
  unfold bands at hj
  rw [List.getElem?_map, List.getElem?_range hjl] at hj
  exact (Option.some.inj hj).symm
 obtain ⟨cs, hz, ⟨hcs, _⟩, hcell⟩ := h3 j (cellB a c0 l j) (by rw [List.getElem?_map, List.getElem?_range hjl]; rfl)
 have hb := band_len hc hl hjl
 have hn := off_next hl hjl
 refine ⟨cs, hz, ⟨some (a.add (off l j)), c0 - off l j, ?_, ?_, ?_⟩, hcell⟩
 ·rw [hcs, hp', hb]; rfl
 ·rw [hp', hb]; omega
 ·rw [hp']; exact band_C hr hc hl hjl
set_option maxRecDepth 100000 in
set_option maxHeartbeats 1000000 in
theorem cut_calls {a : Addr} {A1 : Option Addr} {c0 cap : Nat} {c l : List Int} {w : World} (hr0 : (Kd.int .i64).C w (some a) c.length c) (hc : c.length = 128) (hc0 : 128 ≤ c0) (hc9 : c0 ≤ 9223372036854775807) (hl : isW l = true) (hr1 : (Kd.int .i64).C w A1 l.length l) :
  Calls Tryz.prog 111 #[.slice (some a) 128 c0, .slice A1 l.length cap] w fun e w' => ∃ A p, e = .returned (.slice A l.length p) ∧ KL.C w' A (bands c l).length (bands c l) ∧ Below w.heap.size w w' := by
 have HR := Aside0.mk hr1
 have HZ := Aside0.mk hr0
 have HN := Aside0.mk (fun k (hk : k < l.length) => off_next hl hk)
 have hll : (l.length : Int) ≤ 32 := by have := (isW_iff.1 hl).2.2; omega
 have HL := Aside0.mk hl
 have HC := Aside0.mk hc
 clear hr0 hr1 hl hc
 go_enter Tryz.func111, Tryz.ntmps111
 go_wp2
 go_loopw [0, 5, 10] (fun x s i wr => ∃ k : Nat, i = .int .i64 k ∧ k ≤ l.length ∧ (∃ B m cp, x = .slice (some B) m cp ∧ Aside0 (k < l.length → B = a.add (off l k) ∧ m = 128 - off l k ∧ cp = c0 - off l k)) ∧ Aside0 ((Kd.raw 1).R 22 wr w.heap.size (fun _ => True) s ((List.range k).map (cellB a c0 l))) ∧ Below w.heap.size w wr) (fun _ _ i _ => l.length - (intOf i).toNat)
 case atStart => exact ⟨0, rfl, by omega, ⟨a, 128, c0, rfl, ⟨fun _ => by simp [off, addr_add_zero]⟩⟩, ⟨Kd.R_nil _ _ _ _ _⟩, Below.refl _ _⟩
 case round =>
  obtain ⟨k, rfl, hk, ⟨B, m, cp, rfl, hx⟩, hR, hb⟩ := hrel
  by_cases hlt : k < l.length
  ·obtain ⟨ad, rfl, hcell⟩ := el_at HR.out hb hlt
   obtain ⟨rfl, hm, hcp⟩ := hx.out hlt
   obtain ⟨q1, q2, q3, q4⟩ := HN.out k hlt
   rw [q4] at hcell
   have hle : ((List.range k).map (cellB a c0 l)).length = k := by rw [List.length_map, List.length_range]
   have hT : (List.range (k + 1)).map (cellB a c0 l) = (List.range k).map (cellB a c0 l) ++ [cellB a c0 l k] := by rw [List.range_succ, List.map_append]; rfl
   have hce : cellB a c0 l k = [.slice (some (a.add (off l k))) (wd l k) (c0 - off l k)] := rfl
   obtain ⟨o, ho⟩ : ∃ o, o = off l k := ⟨_, rfl⟩
   obtain ⟨d, hd⟩ : ∃ d, d = wd l k := ⟨_, rfl⟩
   rw [← ho] at hm hcp hce q1 q3 ⊢
   rw [← hd] at hcell hce q1 q2 q3
   have i1 : (d : Int) ≤ (m : Int) := by omega
   have i2 : (d : Int) ≤ (cp : Int) := by omega
   have i3 : (m : Int) ≤ (cp : Int) := by omega
   have i4 : (cp : Int) ≤ 9223372036854775807 := by omega
   have i5 : (1 : Int) ≤ (d : Int) := by omega
   have hkI : (k : Int) < (l.length : Int) := by omega
   rw [← hcp] at hce
   replace hm := Aside0.mk hm
   replace hcp := Aside0.mk hcp
   replace hce := Aside0.mk hce
   replace q1 := Aside0.mk q1
   replace hT := Aside0.mk hT
   replace hle := Aside0.mk hle
   obtain ⟨a', ha'⟩ : ∃ a', a' = a.add o := ⟨_, rfl⟩
   rw [← ha']
   replace ha' := Aside0.mk ha'
   replace ho := Aside0.mk ho
   replace hd := Aside0.mk hd
   clear q2 q3 q4 hx
   have hlen : (((List.range k).map (cellB a c0 l)).length + 1) * 24 ≤ 140737488355328 := by rw [hle.out]; omega
   replace hlen := Aside0.mk hlen
   go_wp2_with (at_builtin; refine Kd.R_append (Kd.raw 1) (w0 := w) w.heap.size rfl (.tmp 14) (.tmp 18) 24 22 (.slice none 0 0) 24 rfl Tryz.underlying24 info_list rfl (by decide) (by decide) u5 ((List.range k).map (cellB a c0 l)) [.slice (some a') d cp] [.slice (some a') d cp] (fun _ => True) (fun _ => False) rfl rfl ⟨rfl, rfl, fun u hu => by rw [List.mem_singleton.1 hu]; rfl⟩ (fun _ hk => hk.elim) (fun _ _ => trivial) hR.out hb hb.size hlen.out ?_; intro v1 wA hoA hbA hgA hatA; have HOA := Aside0.mk hoA; clear hoA hgA hatA)
   go_roundw
   case rel =>
    refine ⟨k + 1, by go_num, by omega, ?_, ⟨by rw [hT.out, hce.out, ← ha'.out]; exact HOA.out⟩, hbA⟩
    by_cases hcd : cp = d
    ·refine ⟨a', _, _, by rw [if_pos hcd], ⟨fun h => ?_⟩⟩
     obtain ⟨p1, p2, p3, p4⟩ := HN.out (k + 1) h
     have := q1.out; have := hcp.out; have := ho.out
     exfalso; omega
    ·refine ⟨a'.add d, _, _, by rw [if_neg hcd], ⟨fun h => ⟨?_, ?_, ?_⟩⟩⟩
     ·rw [ha'.out, Addr.add_add, q1.out]
     ·rw [hm.out, q1.out]; omega
     ·rw [hcp.out, q1.out]; omega
   case measure => simp [intOf]; omega
  ·obtain rfl : k = l.length := by omega
   have hR' := hR.out
   obtain ⟨A5, p5, rfl, _, hK⟩ := Kd.R_reads hR'
   rw [List.length_map, List.length_range] at hK ⊢
   have hF := bands_read (Kd.C_below HZ.out hb) HC.out hc0 HL.out hK
   replace hF := Aside0.mk hF
   clear hR hx hR' hK
   go_wp2
   go_ret
   exact ⟨_, _, rfl, hF.out, hb⟩
end Q16

namespace Q16
attribute [local go_sem] max2_int min2_int max_two min_two max_three min_three
open Q15
def errS (p q lo hi : Int) (c l s : List Int) : Int := if formE c.length l [s.length] = 0 then if rng p q c then if rng lo hi s then 0 else 6 else 6 else formE c.length l [s.length]
theorem formE_one {n m : Nat} {l : List Int} (h : formE n l [m] = 0) : isW l = true ∧ n = 128 ∧ m = l.length := by
 unfold formE at h
 split at h
 ·split at h
  ·split at h
   ·rename_i h1 h2 h3
    simp at h3
    exact ⟨h1, h2, h3⟩
   ·omega
  ·omega
 ·omega
theorem lens_one {w : World} {B : Nat} {A : Option Addr} {n c : Nat} (h : w.cell? ⟨B, 0, none⟩ = some (.slice A n c)) : Lens w B [n] := fun j m hj => by
 cases j with
 | zero => cases hj; exact ⟨A, c, h⟩
 | succ j => simp at hj
theorem rng_mem {lo hi : Int} {l : List Int} (h : rng lo hi l = true) {x : Int} (hx : x ∈ l) : lo ≤ x ∧ x ≤ hi := by
 have := List.all_eq_true.1 h x hx
 simpa using this
theorem errS_zero {p q lo hi : Int} {c l s : List Int} (h : errS p q lo hi c l s = 0) : isW l = true ∧ c.length = 128 ∧ s.length = l.length ∧ rng p q c = true ∧ rng lo hi s = true ∧ formE c.length l [s.length] = 0 := by
 unfold errS at h
 split at h
 ·rename_i h0
  obtain ⟨g0, g1, g2⟩ := formE_one h0
  split at h
  ·split at h
   ·rename_i h1 h2
    exact ⟨g0, g1, g2, h1, h2, h0⟩
   ·omega
  ·omega
 ·rename_i h0; exact absurd h h0
theorem chk_band {c l : List Int} (hc : rng (-2097152) 2097152 c = true) (hl : isW l = true) (h1 : c.length = 128) {k : Nat} (hk : k < l.length) {s : Int} (hs : 0 ≤ s ∧ s ≤ 95) : chk isC (band c l k) s = 0 := by
 have hlen := band_len h1 hl hk
 have hn := off_next hl hk
 unfold chk
 rw [if_pos (by simp [isS, hs]), if_pos (by omega), if_pos]
 refine List.all_eq_true.2 fun x hx => ?_
 have := rng_mem hc (List.mem_of_mem_drop (List.mem_of_mem_take hx))
 simp [isC, this]
end Q16

namespace Q16
attribute [local go_sem] max2_int min2_int max_two min_two max_three min_three
open Q15
theorem bands_at {c l : List Int} {w w1 : World} {A : Option Addr} (h : KL.C w A (bands c l).length (bands c l)) (hb : Below w.heap.size w w1) {k : Nat} (hk : k < l.length) :
  ∃ ad A' cp, A = some ad ∧ w1.cell? (ad.add k) = some (.slice A' (band c l k).length cp) ∧ (Kd.int .i64).C w1 A' (band c l k).length (band c l k) := by
 have hlen : (bands c l).length = l.length := by unfold bands; rw [List.length_map, List.length_range]
 obtain ⟨ad, A', cp, e, h1, _, h2⟩ := list_at h hb (show k < (bands c l).length by omega)
 have he : (bands c l)[k]'(by omega) = band c l k := by simp [bands]
 rw [he] at h1 h2
 exact ⟨ad, A', cp, e, h1, h2⟩
set_option maxRecDepth 100000 in
set_option maxHeartbeats 1000000 in
theorem scaled_calls (A0 A1 A2 : Option Addr) (c0 c1 c2 : Nat) (c l s : List Int) (w : World) (hr0 : (Kd.int .i64).C w A0 c.length c) (hr1 : (Kd.int .i64).C w A1 l.length l) (hr2 : (Kd.int .i64).C w A2 s.length s) (b0 : c.length ≤ 1000000) (b1 : l.length ≤ 1000000) (b2 : s.length ≤ 1000000) :
  Calls Tryz.prog 109 #[.slice A0 c.length c0, .slice A1 l.length c1, .slice A2 s.length c2] w fun e w' => e = .returned (.int .i64 (errS (-2097152) 2097152 0 95 c l s)) ∧ Below w.heap.size w w' := by
 have hb := Below.refl w.heap.size w
 have HF := fun (W : World) (hb : Below w.heap.size w W) B h => forms_calls A0 A1 c.length c0 c1 1 l B [s.length] W (Kd.C_below hr1 hb) (by omega) (by omega) h (show 1 ≤ 1000000 by decide) (by simp; omega)
 have HC := fun (W : World) (hb : Below w.heap.size w W) => Within_calls 2097152 (by decide) A0 c0 c W (Kd.C_below hr0 hb) (by omega)
 have HL := fun (W : World) (hb : Below w.heap.size w W) => all_calls 95 A2 c2 s W (Kd.C_below hr2 hb) (by omega)
 unfold errS
 obtain ⟨E, hE⟩ : ∃ E, E = formE c.length l [s.length] := ⟨_, rfl⟩
 rw [← hE] at HF ⊢
 replace HF := Aside0.mk HF
 clear hE hr0 hr1 hr2
 have hcb : (c.length : Int) ≤ 1000000 := by omega
 clear b0 b1 b2
 by_cases h0 : E = 0
 ·subst h0
  rw [if_pos rfl]
  cases h1 : rng (-2097152) 2097152 c with
  | false =>
   rw [h1] at HC
   replace HC := Aside0.mk HC
   replace HL := Aside0.mk HL
   clear h1
   go_enter Tryz.func109, Tryz.ntmps109
   go_wp2_with fail
   obtain ⟨W, hW⟩ : ∃ W, W = w.alloc (.cells #[.slice A2 s.length c2] 22) := ⟨_, rfl⟩
   rw [← hW]
   have k1 : W.cell? ⟨w.heap.size, 0, none⟩ = some (.slice A2 s.length c2) := by rw [hW]; go_simp
   replace hb : Below w.heap.size w W := by rw [hW]; exact hb.alloc hb.size _
   clear hW
   refine (HF.out W hb _ (lens_one k1)).mono ?_; rintro _ w1 ⟨rfl, hbn⟩; replace hb := bnx hb hbn; clear hbn k1
   go_wp2_with (first | (go_at_call 23; refine (HC.out _ hb).mono ?_; rintro e w' ⟨rfl, hbn⟩; replace hb := bnx hb hbn; clear hbn))
   go_ret
   exact ⟨rfl, hb⟩
  | true =>
   rw [h1] at HC
   obtain ⟨b, hbe⟩ : ∃ b, b = rng 0 95 s := ⟨_, rfl⟩
   rw [← hbe] at HL ⊢
   replace HC := Aside0.mk HC
   replace HL := Aside0.mk HL
   clear h1 hbe
   cases b
   all_goals
    go_enter Tryz.func109, Tryz.ntmps109
    go_wp2_with fail
    obtain ⟨W, hW⟩ : ∃ W, W = w.alloc (.cells #[.slice A2 s.length c2] 22) := ⟨_, rfl⟩
    rw [← hW]
    have k1 : W.cell? ⟨w.heap.size, 0, none⟩ = some (.slice A2 s.length c2) := by rw [hW]; go_simp
    replace hb : Below w.heap.size w W := by rw [hW]; exact hb.alloc hb.size _
    clear hW
    refine (HF.out W hb _ (lens_one k1)).mono ?_; rintro _ w1 ⟨rfl, hbn⟩; replace hb := bnx hb hbn; clear hbn k1
    go_wp2_with (first | (go_at_call 23; refine (HC.out _ hb).mono ?_; rintro e w' ⟨rfl, hbn⟩; replace hb := bnx hb hbn; clear hbn) | (go_at_call 128; refine (HL.out _ hb).mono ?_; rintro e w' ⟨rfl, hbn⟩; replace hb := bnx hb hbn; clear hbn))
    go_ret
    exact ⟨rfl, hb⟩
 ·rw [if_neg h0]
  clear HC HL
  go_enter Tryz.func109, Tryz.ntmps109
  go_wp2_with fail
  obtain ⟨W, hW⟩ : ∃ W, W = w.alloc (.cells #[.slice A2 s.length c2] 22) := ⟨_, rfl⟩
  rw [← hW]
  have k1 : W.cell? ⟨w.heap.size, 0, none⟩ = some (.slice A2 s.length c2) := by rw [hW]; go_simp
  replace hb : Below w.heap.size w W := by rw [hW]; exact hb.alloc hb.size _
  clear hW
  refine (HF.out W hb _ (lens_one k1)).mono ?_; rintro _ w1 ⟨rfl, hbn⟩; replace hb := bnx hb hbn; clear hbn k1
  have h0' : (E != 0) = true := bne_iff_ne.2 h0
  go_wp2_with fail
  go_ret
  exact ⟨rfl, hb⟩
end Q16

namespace Q16
attribute [local go_sem] max2_int min2_int max_two min_two max_three min_three
open Q15
theorem Powers_reads (w : World) :
  Calls Tryz.prog 110 #[] w fun e w' => ∃ A p, e = .returned (.slice A powTab.length p) ∧ (Kd.int .i64).C w' A powTab.length powTab ∧ Below w.heap.size w w' :=
 (Powers_calls w).mono fun e w' ⟨v, he, hR, hb⟩ => by
  obtain ⟨A, p, rfl, _, hC⟩ := Kd.R_reads hR
  exact ⟨A, p, he, hC, hb⟩
end Q16

namespace Q16
attribute [local go_sem] max2_int min2_int max_two min_two max_three min_three
open Q15
set_option maxRecDepth 100000 in
theorem quantize1_part {c l s : List Int} {a : Addr} {A2 : Option Addr} {cap B : Nat} {w : World} (hr : (Kd.int .i64).C w (some a) c.length c) (hc : c.length = 128) (hl : isW l = true) (hs : (Kd.int .i64).C w A2 s.length s) (hsl : s.length = l.length)
  (hB : w.cell? ⟨B, 0, none⟩ = some (.slice A2 s.length cap)) {k : Nat} (hk : k < l.length) : FnList 60 #[] #[.pointer (some ⟨B, 0, none⟩)] a l w k (quanta (band c l k) (rd s k)) := by
 intro W hb0
 have HC := fun W2 (hb : Below w.heap.size w W2) => Quantize_calls (some (a.add (off l k))) (wd l k) (band c l k) (rd s k) W2 (Kd.C_below (band_C hr hc hl hk) hb)
 rw [band_len hc hl hk] at HC
 obtain ⟨ad, rfl, hcell⟩ := el_at hs hb0 (show k < s.length by omega)
 have hB' := cnx hB hb0
 have hks : (k : Int) < (s.length : Int) := by omega
 obtain ⟨r, hre⟩ : ∃ r, r = quanta (band c l k) (rd s k) := ⟨_, rfl⟩
 rw [← hre] at HC ⊢
 obtain ⟨e, hee⟩ : ∃ e, e = chk isC (band c l k) (rd s k) := ⟨_, rfl⟩
 rw [← hee] at HC
 obtain ⟨x, hx⟩ : ∃ x, x = rd s k := ⟨_, rfl⟩
 rw [← hx] at HC hcell
 unfold encB
 obtain ⟨o, ho⟩ : ∃ o, o = a.add (off l k) := ⟨_, rfl⟩
 obtain ⟨d, hd⟩ : ∃ d, d = wd l k := ⟨_, rfl⟩
 rw [← ho, ← hd] at HC ⊢
 replace HC := Aside0.mk HC
 have hb := Below.refl W.heap.size W
 clear hr hs hre hee hx ho hd hc hl hB hsl
 show Calls Tryz.prog 60 #[.int .i64 k, .slice (some o) d d, .pointer (some ⟨B, 0, none⟩)] W _
 go_enter Tryz.func60, Tryz.ntmps60
 go_wp2_with (first | (go_at_call 61; refine (HC.out _ (bnx hb0 hb)).mono ?_; rintro e w' ⟨v, rfl, hR, hbn⟩; replace hb := bnx hb hbn; clear hbn; obtain ⟨A5, p5, rfl, _, _⟩ := Kd.R_reads hR; have HRR := Aside0.mk hR; clear hR))
 go_ret
 exact ⟨_, rfl, HRR.out, hb⟩
end Q16

namespace Q16
attribute [local go_sem] max2_int min2_int max_two min_two max_three min_three
open Q15
set_option maxRecDepth 100000 in
set_option maxHeartbeats 1000000 in
theorem Quantize_no (A0 A1 A2 : Option Addr) (c0 c1 c2 : Nat) (c l s : List Int) (w : World) (hr0 : (Kd.int .i64).C w A0 c.length c) (hr1 : (Kd.int .i64).C w A1 l.length l) (hr2 : (Kd.int .i64).C w A2 s.length s) (b0 : c.length ≤ 1000000) (b1 : l.length ≤ 1000000) (b2 : s.length ≤ 1000000)
  (he : errS (-2097152) 2097152 0 95 c l s ≠ 0) :
  Calls Tryz.prog 29 #[.slice A0 c.length c0, .slice A1 l.length c1, .slice A2 s.length c2] w fun e w' => e = .returned (.tuple #[.slice none 0 0, .int .i64 (errS (-2097152) 2097152 0 95 c l s)]) ∧ Below w.heap.size w w' := by
 have hb := Below.refl w.heap.size w
 have HF := fun (W : World) (hb : Below w.heap.size w W) B h => form_calls A0 A1 c.length c0 c1 1 l B [s.length] W (Kd.C_below hr1 hb) (by omega) (by omega) h (show 1 ≤ 1000000 by decide) (by simp; omega)
 have HC := fun (W : World) (hb : Below w.heap.size w W) => isCoefs_calls A0 c0 c W (Kd.C_below hr0 hb) (by omega)
 have HL := fun (W : World) (hb : Below w.heap.size w W) => isScales_calls A2 c2 s W (Kd.C_below hr2 hb) (by omega)
 unfold errS at he ⊢
 obtain ⟨E, hE⟩ : ∃ E, E = formE c.length l [s.length] := ⟨_, rfl⟩
 rw [← hE] at HF he ⊢
 replace HF := Aside0.mk HF
 clear hE hr0 hr1 hr2
 have hcb : (c.length : Int) ≤ 1000000 := by omega
 clear b0 b1 b2
 by_cases h0 : E = 0
 ·subst h0
  rw [if_pos rfl] at he ⊢
  cases h1 : rng (-2097152) 2097152 c with
  | false =>
   rw [h1] at HC he
   replace HC := Aside0.mk HC
   replace HL := Aside0.mk HL
   clear h1 he
   go_enter Tryz.func29, Tryz.ntmps29
   go_wp2_with fail
   obtain ⟨W, hW⟩ : ∃ W, W = (w.alloc (.cells #[.slice A2 s.length c2] 22)).alloc (.cells #[.slice A2 s.length c2] 22) := ⟨_, rfl⟩
   rw [← hW]
   have k1 : W.cell? ⟨w.heap.size, 0, none⟩ = some (.slice A2 s.length c2) := by rw [hW]; go_simp
   have k2 : W.cell? ⟨w.heap.size + 1, 0, none⟩ = some (.slice A2 s.length c2) := by rw [hW]; go_simp
   replace hb : Below w.heap.size w W := by rw [hW]; exact (hb.alloc hb.size _).alloc (hb.alloc hb.size _).size _
   clear hW
   refine (HF.out W hb _ (lens_one k2)).mono ?_; rintro _ w1 ⟨rfl, hbn⟩; replace k1 := cnx k1 hbn; replace hb := bnx hb hbn; clear hbn k2
   go_wp2_with (first | (go_at_call 56; refine (HC.out _ hb).mono ?_; rintro e w' ⟨rfl, hbn⟩; replace hb := bnx hb hbn; clear hbn))
   go_ret2
   exact ⟨rfl, hb⟩
  | true =>
   rw [h1] at HC he
   cases h2 : rng 0 95 s with
   | true => rw [h2] at he; exact absurd rfl he
   | false =>
   rw [h2] at HL
   replace HC := Aside0.mk HC
   replace HL := Aside0.mk HL
   clear h1 h2 he
   go_enter Tryz.func29, Tryz.ntmps29
   go_wp2_with fail
   obtain ⟨W, hW⟩ : ∃ W, W = (w.alloc (.cells #[.slice A2 s.length c2] 22)).alloc (.cells #[.slice A2 s.length c2] 22) := ⟨_, rfl⟩
   rw [← hW]
   have k1 : W.cell? ⟨w.heap.size, 0, none⟩ = some (.slice A2 s.length c2) := by rw [hW]; go_simp
   have k2 : W.cell? ⟨w.heap.size + 1, 0, none⟩ = some (.slice A2 s.length c2) := by rw [hW]; go_simp
   replace hb : Below w.heap.size w W := by rw [hW]; exact (hb.alloc hb.size _).alloc (hb.alloc hb.size _).size _
   clear hW
   refine (HF.out W hb _ (lens_one k2)).mono ?_; rintro _ w1 ⟨rfl, hbn⟩; replace k1 := cnx k1 hbn; replace hb := bnx hb hbn; clear hbn k2
   go_wp2_with fail
   refine (HC.out _ hb).mono ?_; rintro _ w2 ⟨rfl, hbn⟩; replace k1 := cnx k1 hbn; replace hb := bnx hb hbn; clear hbn
   go_wp2_with (first | (go_at_call 57; refine (HL.out _ hb).mono ?_; rintro e w' ⟨rfl, hbn⟩; replace hb := bnx hb hbn; clear hbn))
   go_ret2
   exact ⟨rfl, hb⟩
 ·rw [if_neg h0] at he ⊢
  clear HC HL
  go_enter Tryz.func29, Tryz.ntmps29
  go_wp2_with fail
  obtain ⟨W, hW⟩ : ∃ W, W = (w.alloc (.cells #[.slice A2 s.length c2] 22)).alloc (.cells #[.slice A2 s.length c2] 22) := ⟨_, rfl⟩
  rw [← hW]
  have k1 : W.cell? ⟨w.heap.size, 0, none⟩ = some (.slice A2 s.length c2) := by rw [hW]; go_simp
  have k2 : W.cell? ⟨w.heap.size + 1, 0, none⟩ = some (.slice A2 s.length c2) := by rw [hW]; go_simp
  replace hb : Below w.heap.size w W := by rw [hW]; exact (hb.alloc hb.size _).alloc (hb.alloc hb.size _).size _
  clear hW
  refine (HF.out W hb _ (lens_one k2)).mono ?_; rintro _ w1 ⟨rfl, hbn⟩; replace k1 := cnx k1 hbn; replace hb := bnx hb hbn; clear hbn k2
  have h0' : (E != 0) = true := bne_iff_ne.2 h0
  go_wp2_with fail
  go_ret2
  exact ⟨rfl, hb⟩
set_option maxRecDepth 100000 in
set_option maxHeartbeats 1000000 in
theorem Quantize_yes (A0 A1 A2 : Option Addr) (c0 c1 c2 : Nat) (c l s : List Int) (w : World) (hr0 : (Kd.int .i64).C w A0 c.length c) (hr1 : (Kd.int .i64).C w A1 l.length l) (hr2 : (Kd.int .i64).C w A2 s.length s) (hc0 : c.length ≤ c0) (hc9 : c0 ≤ 9223372036854775807)
  (he : errS (-2097152) 2097152 0 95 c l s = 0) :
  Calls Tryz.prog 29 #[.slice A0 c.length c0, .slice A1 l.length c1, .slice A2 s.length c2] w fun e w' => ∃ v, e = .returned (.tuple #[v, .int .i64 0]) ∧ (Kd.int .i64).R 3 w' w.heap.size (fun _ => True) v ((List.range l.length).map fun k => quanta (band c l k) (rd s k)).flatten ∧ Below w.heap.size w w' := by
 obtain ⟨g0, g1, g2, g3, g4, g5⟩ := errS_zero he
 have hl32 := (isW_iff.1 g0).2.2
 have hb := Below.refl w.heap.size w
 obtain ⟨a, rfl⟩ : ∃ a, A0 = some a := by
  obtain ⟨_, _, h⟩ := hr0
  obtain ⟨a, e, _⟩ := h (by omega)
  exact ⟨a, e⟩
 have HF := fun (W : World) (hb : Below w.heap.size w W) B h => form_calls (some a) A1 c.length c0 c1 1 l B [s.length] W (Kd.C_below hr1 hb) (by omega) (by omega) h (show 1 ≤ 1000000 by decide) (by simp; omega)
 have HC := fun (W : World) (hb : Below w.heap.size w W) => isCoefs_calls (some a) c0 c W (Kd.C_below hr0 hb) (by omega)
 have HL := fun (W : World) (hb : Below w.heap.size w W) => isScales_calls A2 c2 s W (Kd.C_below hr2 hb) (by omega)
 have HE := fun (W : World) (hb : Below w.heap.size w W) (B : Nat) (hB : W.cell? ⟨B, 0, none⟩ = some (.slice A2 s.length c2)) => eachL_calls 60 #[] #[.pointer (some ⟨B, 0, none⟩)] (fun _ _ => by kernel_rfl) a c0 A1 c1 l g0 (by omega) hc9 (fun k => quanta (band c l k) (rd s k)) W (Kd.C_below hr1 hb)
  (fun k hk => quantize1_part (Kd.C_below hr0 hb) g1 g0 (Kd.C_below hr2 hb) g2 hB hk)
 rw [g5, g1] at HF
 rw [g3, g1] at HC
 rw [g4] at HL
 rw [g1]
 have hrl : ((List.range l.length).map fun k => quanta (band c l k) (rd s k)).length ≤ 1000 := by rw [List.length_map, List.length_range]; omega
 have hrn : ∀ x ∈ (List.range l.length).map fun k => quanta (band c l k) (rd s k), x.length ≤ 1000 := fun x hx => by
  obtain ⟨k, _, rfl⟩ := List.mem_map.1 hx
  have := quanta_len (band c l k) (rd s k)
  omega
 obtain ⟨r, hre⟩ : ∃ r, r = (List.range l.length).map fun k => quanta (band c l k) (rd s k) := ⟨_, rfl⟩
 rw [← hre] at HE hrl hrn ⊢
 have HJ := fun A p W hK => joined_calls A p r W hK hrl hrn
 obtain ⟨rf, hrf⟩ : ∃ x, x = r.flatten := ⟨_, rfl⟩
 rw [← hrf] at HJ ⊢
 replace HJ := Aside0.mk HJ
 clear hrf hrl hrn
 replace HF := Aside0.mk HF
 replace HC := Aside0.mk HC
 replace HL := Aside0.mk HL
 replace HE := Aside0.mk HE
 clear hr0 hr1 hr2 hre g0 g1 g2 g3 g4 g5 he hc0 hl32
 go_enter Tryz.func29, Tryz.ntmps29
 go_wp2_with fail
 obtain ⟨W, hW⟩ : ∃ W, W = (w.alloc (.cells #[.slice A2 s.length c2] 22)).alloc (.cells #[.slice A2 s.length c2] 22) := ⟨_, rfl⟩
 rw [← hW]
 have k1 : W.cell? ⟨w.heap.size, 0, none⟩ = some (.slice A2 s.length c2) := by rw [hW]; go_simp
 have k2 : W.cell? ⟨w.heap.size + 1, 0, none⟩ = some (.slice A2 s.length c2) := by rw [hW]; go_simp
 replace hb : Below w.heap.size w W := by rw [hW]; exact (hb.alloc hb.size _).alloc (hb.alloc hb.size _).size _
 clear hW
 refine (HF.out W hb _ (lens_one k2)).mono ?_; rintro _ w1 ⟨rfl, hbn⟩; replace k1 := cnx k1 hbn; replace hb := bnx hb hbn; clear hbn k2
 go_wp2_with fail
 refine (HC.out _ hb).mono ?_; rintro _ w2 ⟨rfl, hbn⟩; replace k1 := cnx k1 hbn; replace hb := bnx hb hbn; clear hbn
 go_wp2_with fail
 refine (HL.out _ hb).mono ?_; rintro _ w3 ⟨rfl, hbn⟩; replace k1 := cnx k1 hbn; replace hb := bnx hb hbn; clear hbn
 go_wp2_with fail
 refine (HE.out _ hb _ k1).mono ?_; rintro _ w4 ⟨v, rfl, hR, hbn⟩
 replace hb := bnx hb hbn
 obtain ⟨A5, p5, rfl, _, hK⟩ := Kd.R_reads hR
 replace hK := Aside0.mk hK
 clear hR hbn
 go_wp2_with fail
 refine (HJ.out A5 p5 w4 hK.out).mono ?_; rintro _ w5 ⟨v, rfl, hR, hbn⟩
 clear hK
 have hR2 := Kd.R_lower hR hb.size
 replace hb := bnx hb hbn
 obtain ⟨A6, p6, rfl, _, _⟩ := Kd.R_reads hR2
 replace hR2 := Aside0.mk hR2
 clear hR hbn
 go_wp2
 go_ret2
 exact ⟨_, rfl, hR2.out, hb⟩
end Q16

end Go.Proofs.YtnflnicdjioflaaGreatDoor
