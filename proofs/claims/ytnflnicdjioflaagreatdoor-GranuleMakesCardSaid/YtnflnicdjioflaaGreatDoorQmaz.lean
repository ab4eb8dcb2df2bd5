/- A part of the proof. -/
import Derived.Test.YtnflnicdjioflaaGreatDoorQmav
import Derived.Test.YtnflnicdjioflaaGreatDoorQmas
set_option linter.unusedVariables false
set_option linter.unusedSimpArgs false
namespace Go.Proofs.YtnflnicdjioflaaGreatDoor
open Go.RowKit Go.Proofs.YtnflnicdjioflaaGreatDoorW.PrintWords Go.Proofs.YtnflnicdjioflaaGreatDoorW.PrintLast Go.Proofs.YtnflnicdjioflaaGreatDoorW.PrintMore
namespace Bk
attribute [local go_sem] max2_max min2_min max_two min_two max_three min_three
open Q15
theorem digF_bd {m v : Int} (hm : 0 ≤ m ∧ m ≤ 31) (h : -1023 ≤ v ∧ v ≤ 1023) : 0 ≤ digF m v ∧ digF m v ≤ m := by
 have := szI_bd (v := v) (m := 1023) h
 unfold digF
 omega
set_option maxRecDepth 100000 in
set_option maxHeartbeats 1000000 in
theorem symbolOf_calls (d : Nat) (m : Int) (e : Bool) (A : Option Addr) (cap : Nat) (l : List Int) (w : World) (hm : 0 ≤ m ∧ m ≤ 31) (hr : (Kd.int .i64).C w A l.length l) (hl : l.length ≤ 4) (hx : areB l = true) :
  Calls Tryz.prog 195 #[frm d m e, .slice A l.length cap] w fun en w' => en = .returned (.int .i64 (symF m l)) ∧ Below w.heap.size w w' := by
 have hu := Tryz.underlying194
 have HR := Aside0.mk hr
 have hlI : (l.length : Int) ≤ 4 := by omega
 have hxk := fun k (hk : k < l.length) => areB_mem hx (rd_mem l k hk)
 obtain ⟨W0, hW0⟩ : ∃ W0, W0 = w.alloc (.cells #[.int .i64 d, .int .i64 m, .bool e] 194) := ⟨_, rfl⟩
 have hb0 : Below w.heap.size w W0 := by rw [hW0]; exact (Below.refl _ _).alloc (Nat.le_refl _) _
 have c0 : W0.cell? ⟨w.heap.size, 0, none⟩ = some (.int .i64 d) := by rw [hW0]; simp [go_sem]
 have c1 : W0.cell? ⟨w.heap.size, 1, none⟩ = some (.int .i64 m) := by rw [hW0]; simp [go_sem]
 have c2 : W0.cell? ⟨w.heap.size, 2, none⟩ = some (.bool e) := by rw [hW0]; simp [go_sem]
 have hs0 : W0.heap.size = w.heap.size + 1 := by rw [hW0]; simp
 replace hW0 := Aside0.mk hW0
 have HD := Aside0.mk (digs_calls d m e W0)
 have HG := Aside0.mk (fun k (hk : k < l.length) (B : Nat) (W : World) (hc : W.cell? ⟨B, 1, none⟩ = some (.int .i64 m)) => digits1_calls m (rd l k) B W hc (by have := hxk k hk; omega) (by have := hxk k hk; omega) hm)
 obtain ⟨y, hy⟩ : ∃ y, y = l.map (digF m) := ⟨_, rfl⟩
 have hyl : y.length = l.length := by rw [hy]; simp
 have HS := Aside0.mk (fun (W : World) (A' : Option Addr) (c' : Nat) (h : (Kd.int .i64).C W A' y.length y) => symbol_calls d m e A' c' y W hm h (by omega) (fun x hx2 => by
  rw [hy] at hx2
  obtain ⟨z, hz, rfl⟩ := List.mem_map.1 hx2
  exact digF_bd hm (areB_mem hx hz)))
 have hF : Aside0 (symF m l = symD m y) := ⟨by rw [hy]; rfl⟩
 rw [hF.out]
 obtain ⟨E, hE⟩ : ∃ E, E = symD m y := ⟨_, rfl⟩
 rw [← hE] at HS ⊢
 have HT : Aside0 (∀ k, k < l.length → y.take (k + 1) = y.take k ++ [digF m (rd l k)]) := ⟨fun k hk => by
  rw [take_rd y k (by omega), hy]
  unfold rd
  simp [List.getD_eq_getElem?_getD, hk]⟩
 have hyl' := Aside0.mk hyl
 clear hr hl hx hxk hy hE hF hyl
 unfold frm at *
 go_enter Tryz.func195, Tryz.ntmps195
 go_wp2_with (first | (go_at_call 222; rw [← hW0.out]; refine HD.out.mono ?_; rintro e1 w1 ⟨rfl, hw1'⟩; have hw1 := Aside0.mk hw1'; clear hw1'))
 have hb1 : Below W0.heap.size W0 w1 := by rw [hw1.out]; exact (Below.refl _ _).alloc (Nat.le_refl _) _
 have q1 : w1.cell? ⟨W0.heap.size, 1, none⟩ = some (.int .i64 m) := by rw [hw1.out]; simp [go_sem]
 clear hw1
 have HC := Aside0.mk (fun W (hb : Below w1.heap.size w1 W) k (hk : k < l.length) => HG.out k hk W0.heap.size W (cnx q1 hb))
 clear q1
 rw [hs0] at HC
 go_loopw [6, 13] (fun o i wr => ∃ k : Nat, i = .int .i64 k ∧ k ≤ l.length ∧ Aside0 ((Kd.int .i64).R 3 wr w1.heap.size (fun _ => True) o (y.take k)) ∧ Below w1.heap.size w1 wr) (fun _ i _ => l.length - (intOf i).toNat)
 case atStart => exact ⟨0, rfl, by omega, ⟨Kd.R_nil _ _ _ _ _⟩, Below.refl _ _⟩
 case round =>
  obtain ⟨k, rfl, hk, ho, hbL⟩ := hrel
  by_cases hlt : k < l.length
  ·obtain ⟨ad, rfl, hcell⟩ := el_at HR.out (bnx hb0 (bnx hb1 hbL)) hlt
   have hkI : (k : Int) < (l.length : Int) := by omega
   have hT := Aside0.mk (HT.out k hlt)
   have HC1 := Aside0.mk (HC.out wr hbL k hlt)
   obtain ⟨z, hz⟩ : ∃ z, z = digF m (rd l k) := ⟨_, rfl⟩
   rw [← hz] at hT HC1
   obtain ⟨x, hxe⟩ : ∃ x, x = rd l k := ⟨_, rfl⟩
   rw [← hxe] at hcell HC1
   obtain ⟨Y, hY⟩ : ∃ Y, Y = y.take k := ⟨_, rfl⟩
   have hYl : Y.length ≤ 4 := by rw [hY, List.length_take]; have := hyl'.out; omega
   rw [← hY] at ho hT
   clear hz hxe hY
   go_wp2_with (first | (go_at_call 233; refine HC1.out.mono ?_; rintro e2 w2 ⟨rfl, hb2⟩; have HO1 := Aside0.mk (Kd.R_below ho.out hb2); have HB1 := Aside0.mk (bnx hbL hb2); clear hb2) | (at_builtin; refine Kd.R_append (Kd.int .i64) (w0 := w1) w1.heap.size rfl (.tmp 17) (.tmp 21) 22 3 (.int .i64 0) 8 rfl Tryz.underlying22 info_int rfl (by decide) (by omega) u6 Y (z) [.int .i64 (z)] (fun _ => True) (fun _ => False) rfl rfl rfl (fun _ hk => hk.elim) (fun _ _ => trivial) HO1.out HB1.out HB1.out.size (by omega) ?_; intro v1 wA hoA hbA hgA hatA; have HOA := Aside0.mk hoA; have HBA := Aside0.mk hbA; clear hoA hbA hgA hatA))
   go_roundw
   case rel => exact ⟨k + 1, by go_num, by omega, ⟨by rw [hT.out]; exact HOA.out⟩, HBA.out⟩
   case measure => simp [intOf]; omega
  ·obtain rfl : k = l.length := by omega
   have hR := ho.out
   rw [List.take_of_length_le (by rw [hyl'.out]; omega)] at hR
   obtain ⟨A', p, rfl, _, hC⟩ := Kd.R_reads hR
   have HS1 := Aside0.mk (HS.out wr A' p hC)
   have d0 := cnx c0 (bnx hb1 hbL)
   have d1 := cnx c1 (bnx hb1 hbL)
   have d2 := cnx c2 (bnx hb1 hbL)
   clear c0 c1 c2 ho hR hC
   have hbz := bnx hb0 (bnx hb1 hbL)
   go_wp2_with (first | (go_at_call 223; refine HS1.out.mono ?_; rintro e2 w2 ⟨rfl, hb2⟩; replace hbz := bnx hbz hb2; clear hb2))
   go_ret
   exact ⟨rfl, hbz⟩
end Bk

namespace Bk
attribute [local go_sem] max2_int min2_int max_two min_two max_three min_three
open Q15
theorem _root_.Go.Proofs.YtnflnicdjioflaaGreatDoor.Bts.Rws.intoG {wr w : World} {L : List Bts.Row} {G1 G2 : List Bts.Blk} {b : Bts.Blk} (h : Bts.Rws wr w L (G1 ++ G2 ++ [b])) : Bts.Rws wr w L (G1 ++ b :: G2) :=
 Bts.Rws.perm h (List.Perm.refl _) (by rw [List.append_assoc]; exact List.Perm.append_left G1 (List.perm_append_singleton b G2))
def tabT : List (List Nat) := [
 [],
 [2, 3, 3, 5, 3, 5, 5, 7, 3, 5, 5, 6, 5, 6, 6, 7],
 [3, 4, 5, 4, 5, 7, 5, 7, 8, 4, 5, 7, 5, 7, 8, 7, 8, 9, 5, 7, 8, 7, 8, 9, 8, 9, 10, 4, 5, 6, 5, 6, 8, 6, 8, 9, 5, 6, 8, 6, 8, 9, 8, 9, 10, 6, 8, 9, 8, 9, 10, 9, 10, 12, 5, 6, 8, 6, 8, 9, 8, 9, 10, 6, 8, 9, 8, 9, 10, 9, 10, 11, 8, 9, 10, 9, 10, 11, 10, 11, 12],
 [2, 3, 4, 5, 6, 3, 4, 5, 6, 6, 4, 5, 6, 6, 7, 5, 6, 6, 7, 9, 5, 6, 7, 8, 9],
 [3, 4, 4, 5, 5, 6, 7, 7, 4, 4, 5, 5, 6, 7, 7, 8, 4, 5, 5, 6, 7, 7, 8, 8, 5, 5, 6, 7, 7, 8, 8, 9, 5, 6, 7, 7, 8, 8, 9, 10, 6, 7, 7, 8, 8, 9, 10, 10, 7, 7, 8, 8, 9, 10, 10, 11, 7, 8, 8, 9, 9, 10, 10, 11],
 [5, 5, 5, 6, 6, 6, 6, 7, 7, 7, 8, 8, 8, 5, 5, 6, 6, 6, 6, 7, 7, 7, 8, 8, 8, 9, 5, 6, 6, 6, 6, 7, 7, 7, 8, 8, 8, 9, 9, 6, 6, 6, 6, 7, 7, 7, 8, 8, 8, 9, 9, 9, 6, 6, 6, 7, 7, 7, 8, 8, 8, 9, 9, 9, 9, 6, 6, 7, 7, 7, 8, 8, 8, 9, 9, 9, 9, 10, 6, 7, 7, 7, 8, 8, 8, 9, 9, 9, 9, 10, 10, 7, 7, 7, 8, 8, 8, 9, 9, 9, 9, 10, 10, 10, 7, 7, 8, 8, 8, 9, 9, 9, 9, 10, 10, 10, 11, 7, 8, 8, 8, 8, 9, 9, 9, 10, 10, 10, 11, 11, 8, 8, 8, 8, 9, 9, 9, 10, 10, 10, 11, 11, 11, 8, 8, 8, 9, 9, 9, 10, 10, 10, 11, 11, 11, 12, 8, 8, 9, 9, 9, 10, 10, 10, 11, 11, 11, 11, 12],
 [4, 4, 5, 5, 6, 6, 7, 7, 7, 8, 8, 9, 9, 9, 10, 10, 4, 5, 5, 6, 6, 7, 7, 7, 8, 8, 9, 9, 9, 10, 10, 11, 5, 5, 6, 6, 7, 7, 7, 8, 8, 9, 9, 9, 10, 10, 11, 11, 5, 6, 6, 7, 7, 7, 8, 8, 9, 9, 9, 10, 10, 11, 11, 11, 6, 6, 7, 7, 7, 8, 8, 9, 9, 9, 10, 10, 11, 11, 11, 12, 6, 6, 7, 7, 8, 8, 9, 9, 9, 10, 10, 11, 11, 11, 12, 12, 6, 7, 7, 8, 8, 9, 9, 9, 10, 10, 11, 11, 11, 12, 12, 13, 7, 7, 8, 8, 9, 9, 9, 10, 10, 11, 11, 11, 12, 12, 13, 13, 7, 8, 8, 9, 9, 9, 10, 10, 11, 11, 11, 12, 12, 13, 13, 14, 8, 8, 9, 9, 9, 10, 10, 11, 11, 11, 12, 12, 13, 13, 14, 14, 8, 9, 9, 9, 10, 10, 11, 11, 11, 12, 12, 13, 13, 14, 14, 14, 9, 9, 9, 10, 10, 11, 11, 11, 12, 12, 13, 13, 14, 14, 14, 15, 9, 9, 10, 10, 11, 11, 11, 12, 12, 13, 13, 14, 14, 14, 15, 15, 9, 10, 10, 11, 11, 11, 12, 12, 13, 13, 13, 14, 14, 15, 15, 16, 10, 10, 11, 11, 11, 12, 12, 13, 13, 13, 14, 14, 15, 15, 16, 16, 10, 11, 11, 11, 12, 12, 13, 13, 13, 14, 14, 15, 15, 16, 16, 16],
 [3, 3, 3, 4, 4, 4, 4, 4, 5, 5, 5, 5, 5, 6, 6, 6, 6, 6, 6, 7, 7, 7, 7, 7, 8, 8, 8, 8, 9, 9, 9, 9]]
def tabL (k : Nat) : List Nat := tabT.getD k []
def tabS (k : Nat) : ByteArray := ⟨((tabL k).map fun n => UInt8.ofNat (n + 96)).toArray⟩
structure LaidB (w : World) : Prop where
 form : ∀ k, k < 8 → w.cell? ⟨2, k * 3, none⟩ = some (.int .i64 (dimB k)) ∧ w.cell? ⟨2, k * 3 + 1, none⟩ = some (.int .i64 (mostB k)) ∧ w.cell? ⟨2, k * 3 + 2, none⟩ = some (.bool (escB k))
 tab : ∀ k, k < 8 → w.cell? ⟨3, k, none⟩ = some (.string (tabS k))
theorem LaidB.below {w w1 : World} (h : LaidB w) (hb : Below w.heap.size w w1) : LaidB w1 :=
 ⟨fun k hk => ⟨cnx (h.form k hk).1 hb, cnx (h.form k hk).2.1 hb, cnx (h.form k hk).2.2 hb⟩, fun k hk => cnx (h.tab k hk) hb⟩
theorem tab_len : ∀ k, k < 8 → 0 < k → ((tabL k).length : Int) = (mostB k + 1) ^ dimB k := by decide +kernel
theorem tab_bd : ∀ k, k < 8 → ∀ n ∈ tabL k, 1 ≤ n ∧ n ≤ 16 := by decide +kernel
theorem tabS_size (k : Nat) : (tabS k).size = (tabL k).length := by show Array.size _ = _; simp
theorem tabS_at {k i : Nat} (hk : k < 8) (hi : i < (tabL k).length) : ∃ b : UInt8, (tabS k)[i]? = some b ∧ (b.toNat : Int) = (tabL k)[i] + 96 := by
 have hb := tab_bd k hk _ (List.getElem_mem hi)
 refine ⟨UInt8.ofNat ((tabL k)[i] + 96), ?_, ?_⟩
 ·have h2 : i < (tabS k).size := by rw [tabS_size]; exact hi
  rw [getElem?_pos (tabS k) i h2]
  congr 1
  show ((((tabL k).map fun n => UInt8.ofNat (n + 96)).toArray)[i]'(by simpa using hi)) = _
  simp
 ·rw [UInt8.toNat_ofNat']
  omega
def grpL (d : Nat) (l : List Int) (j : Nat) : List Int := (l.drop (j * d)).take d
def wlI (k : Nat) (g : List Int) : Int := ((tabL k).getD (symF (mostB k) g).toNat 0 : Nat)
def besS (k : Nat) (g : List Int) : Int := (g.map (besF (mostB k) (escB k))).sum
def gCost (k : Nat) (g : List Int) : Int := (if 0 < k then wlI k g else 0) + besS k g
def costTo (k : Nat) (l : List Int) : Nat → Int
 | 0 => 0
 | j + 1 => costTo k l j + gCost k (grpL (dimB k) l j)
def costB (k : Nat) (l : List Int) : Int := costTo k l (l.length / dimB k)
theorem grp_len {d : Nat} {l : List Int} {j : Nat} (h : j * d + d ≤ l.length) : (grpL d l j).length = d := by
 unfold grpL; rw [List.length_take, List.length_drop]; omega
theorem grp_C {d : Nat} {l : List Int} {j : Nat} {w : World} {ad : Addr} (hd : 1 ≤ d) (hr : (Kd.int .i64).C w (some ad) l.length l) (h : j * d + d ≤ l.length) : (Kd.int .i64).C w (some (ad.add (j * d))) (grpL d l j).length (grpL d l j) := by
 have h1 := Kd.C_mid (k := Kd.int .i64) (c := l.length) (lo := j * d) (hi := j * d + d) hr (by omega) h (Nat.le_refl _)
 rw [if_neg (by omega)] at h1
 have e : (l.take (j * d + d)).drop (j * d) = grpL d l j := by
  unfold grpL
  rw [List.drop_take]
  congr 1
  omega
 rw [e, show j * d * (Kd.int IntKind.i64).sz = j * d from Nat.mul_one _] at h1
 exact h1
theorem grp_are {d : Nat} {l : List Int} {j : Nat} (h : areB l = true) : areB (grpL d l j) = true := by
 refine List.all_eq_true.2 fun x hx => ?_
 exact List.all_eq_true.1 h x (List.mem_of_mem_drop (List.mem_of_mem_take hx))
theorem grp_in {d n : Nat} {j : Nat} (hd : 1 ≤ d) (h : j < n / d) : j * d + d ≤ n := by
 have h1 : (j + 1) * d ≤ n := Nat.le_trans (Nat.mul_le_mul_right d h) (Nat.div_mul_le_self n d)
 rw [Nat.add_mul] at h1
 omega
theorem log2_le {n b : Nat} (h : n < 2 ^ (b + 1)) : n.log2 ≤ b := by
 by_cases hz : n = 0
 ·subst hz
  have : Nat.log2 0 = 0 := by decide
  omega
 ·have := (Nat.log2_lt hz).2 h
  omega
theorem besF_bd {m : Int} {e : Bool} {v : Int} (hm : 0 ≤ m ∧ m ≤ 31) (h : -1023 ≤ v ∧ v ≤ 1023) : 0 ≤ besF m e v ∧ besF m e v ≤ 22 := by
 have hs := szI_bd (v := v) (m := 1023) h
 have hg : 1 ≤ gamI (szI v - m + 1) ∧ (m ≤ szI v → gamI (szI v - m + 1) ≤ 21) := by
  unfold gamI
  refine ⟨by omega, fun _ => ?_⟩
  have := log2_le (n := (szI v - m + 1).toNat) (b := 10) (by omega)
  omega
 unfold besF
 split
 ·omega
 ·split
  ·rename_i h2
   have := hg.2 h2.2
   omega
  ·omega
theorem besS_bd {m : Int} {e : Bool} (hm : 0 ≤ m ∧ m ≤ 31) : ∀ g : List Int, areB g = true → 0 ≤ (g.map (besF m e)).sum ∧ (g.map (besF m e)).sum ≤ 22 * g.length
 | [], _ => by simp
 | x :: g, h => by
  have h1 := besF_bd (e := e) hm (areB_mem h (x := x) (by simp))
  have h2 := besS_bd (e := e) hm g (by
   refine List.all_eq_true.2 fun y hy => ?_
   exact List.all_eq_true.1 h y (by simp [hy]))
  simp only [List.map_cons, List.sum_cons, List.length_cons]
  omega
theorem wlI_bd {k : Nat} (hk : k < 8) (g : List Int) : 0 ≤ wlI k g ∧ wlI k g ≤ 16 := by
 unfold wlI
 by_cases h : (symF (mostB k) g).toNat < (tabL k).length
 ·have := tab_bd k hk _ (List.getElem_mem h)
  rw [List.getD_eq_getElem?_getD, List.getElem?_eq_getElem h, Option.getD_some]
  omega
 ·rw [List.getD_eq_getElem?_getD, List.getElem?_eq_none (by omega)]
  simp
theorem gCost_bd {k : Nat} (hk : k < 8) {g : List Int} (hg : g.length ≤ 4) (h : areB g = true) : 0 ≤ gCost k g ∧ gCost k g ≤ 104 := by
 have h1 := wlI_bd hk g
 have h2 := besS_bd (e := escB k) (mostB_bd k) g h
 unfold gCost besS
 split <;> omega
theorem costTo_bd {k : Nat} (hk : k < 8) {l : List Int} (h : areB l = true) : ∀ j, 0 ≤ costTo k l j ∧ costTo k l j ≤ 104 * j
 | 0 => by simp [costTo]
 | j + 1 => by
  have h1 := costTo_bd hk h j
  have h2 := gCost_bd hk (g := grpL (dimB k) l j) (by unfold grpL; rw [List.length_take]; have := dimB_bd k; omega) (grp_are h)
  simp only [costTo]
  omega
theorem sym_in {k : Nat} (hk : k < 8) (h0 : 0 < k) {g : List Int} (hg : g.length = dimB k) (h : areB g = true) : 0 ≤ symF (mostB k) g ∧ symF (mostB k) g < (tabL k).length := by
 have hm := mostB_bd k
 obtain ⟨h1, h2⟩ := symD_bd (mostB k) hm.1 (g.map (digF (mostB k))) (fun x hx => by
  obtain ⟨z, hz, rfl⟩ := List.mem_map.1 hx
  exact digF_bd hm (areB_mem h hz)) 0 (by omega)
 have h3 := tab_len k hk h0
 rw [List.length_map, hg] at h2
 have h4 : symF (mostB k) g = (g.map (digF (mostB k))).foldl (fun s d => s * (mostB k + 1) + d) 0 := rfl
 rw [h4]
 refine ⟨h1, ?_⟩
 omega
theorem tabS_ne : ∀ k, k < 8 → 0 < k → (tabS k).toList.isEmpty = false := by decide +kernel
theorem Keep3.set {S B1 B2 n8 : Nat} {W w1 : World} {v : Value} (hb : Below W.heap.size W w1) (hS : S ≤ W.heap.size) (h1 : B1 < W.heap.size) (h2 : B2 < W.heap.size) (h3 : S ≤ n8) (h4 : n8 ≠ B1) (h5 : n8 ≠ B2) : Keep3 S B1 B2 W (w1.setCell ⟨n8, 0, none⟩ v) :=
 ⟨(hb.mono hS).setCell (p := ⟨n8, 0, none⟩) (by simp only; omega) _, (Below.heap_setCell _ _ _ _ (by simp only; omega)).trans (hb.block B1 h1), (Below.heap_setCell _ _ _ _ (by simp only; omega)).trans (hb.block B2 h2)⟩
end Bk

namespace Bk
attribute [local go_sem] max2_int min2_int max_two min_two max_three min_three
open Q15
open Runs Go.Shelf
open Q16 (cell_heap frozen_heap R_turn)
open Q21 (cell_blk frozen_blk)
open Bts
attribute [local go_sem] Oper.semAt_some
set_option maxRecDepth 100000 in
set_option maxHeartbeats 4000000 in
theorem cost_calls (k : Nat) (hk : k < 8) (A : Option Addr) (cap : Nat) (l : List Int) (w : World) (hL : LaidB w) (hr : (Kd.int .i64).C w A l.length l) (hl : l.length ≤ 1000) (hcap : l.length ≤ cap) (hA : areB l = true) :
  Calls Tryz.prog 215 #[.int .i64 k, .slice A l.length cap] w fun e w' => e = .returned (.int .i64 (costB k l)) ∧ Below w.heap.size w w' := by
 have hkI : (k : Int) < 8 := by omega
 have hu := Tryz.underlying194
 have HR := Aside0.mk hr
 have hl' := Aside0.mk hl
 obtain ⟨l1, l2, l3⟩ := hL.form k hk
 have l4 := hL.tab k hk
 obtain ⟨S, hSe⟩ : ∃ S, S = tabS k := ⟨_, rfl⟩
 obtain ⟨d, hde⟩ : ∃ d, d = dimB k := ⟨_, rfl⟩
 obtain ⟨m, hme⟩ : ∃ m, m = mostB k := ⟨_, rfl⟩
 obtain ⟨e, hee⟩ : ∃ e, e = escB k := ⟨_, rfl⟩
 rw [← hSe] at l4
 rw [← hde] at l1
 rw [← hme] at l2
 rw [← hee] at l3
 have hd9 := dimB_bd k
 have hm9 := mostB_bd k
 rw [← hde] at hd9
 rw [← hme] at hm9
 replace hSe := Aside0.mk hSe
 replace hde := Aside0.mk hde
 replace hme := Aside0.mk hme
 replace hee := Aside0.mk hee
 have hS : Aside0 (∀ w' : World, Below w.heap.size w w' → w'.cell? ⟨2, k * 3, none⟩ = some (.int .i64 d) ∧ w'.cell? ⟨2, k * 3 + 1, none⟩ = some (.int .i64 m) ∧ w'.cell? ⟨2, k * 3 + 2, none⟩ = some (.bool e) ∧ w'.cell? ⟨3, k, none⟩ = some (.string S)) := ⟨fun w' hb => ⟨cnx l1 hb, cnx l2 hb, cnx l3 hb, cnx l4 hb⟩⟩
 have hmo : Tryz.prog.follows .mixedOrders = true := by kernel_rfl
 refine (callsIn_wide (n := 3)).1 ?_
 refine callsIn_of_wp_marks Tryz.func215 rfl trivial ?_ rfl
 simp only [Tryz.ntmps215, List.size_toArray, List.length_cons, List.length_nil, Nat.reduceAdd, Nat.reduceSub, Array.replicate_succ, Array.replicate_zero, List.push_toArray, List.append_toArray, List.nil_append, List.cons_append]
 clear hL hr hl
 gi_wp2_with fail
 refine Go.wpIn_wide.2 (wp_region_noPanic (wp_region_last_drew (S := fun w' => w'.cell? ⟨2, k * 3, none⟩ = some (.int .i64 d) ∧ w'.cell? ⟨2, k * 3 + 1, none⟩ = some (.int .i64 m) ∧ w'.cell? ⟨2, k * 3 + 2, none⟩ = some (.bool e) ∧ w'.cell? ⟨3, k, none⟩ = some (.string S)) (ds := []) hmo (hS.out _ (Below.refl _ _).drew) (fun hHeld => ?_)))
 clear l1 l2 l3 l4
 (refine Tk.tl 0 (.int .i64 k) hHeld ?_)
 (refine Tk.tl 1 (.pointer (some ⟨2, k * 3, none⟩)) hHeld ?_)
 (refine Tk.tl 2 (.agg #[.int .i64 d, .int .i64 m, .bool e]) hHeld ?_)
 (refine Tk.tl 3 (.int .i64 k) hHeld ?_)
 (refine Tk.tl 4 (.pointer (some ⟨3, k, none⟩)) hHeld ?_)
 (refine Tk.tl 5 (.string S) hHeld ?_)
 have hRw : Aside0 (Rws w w.drew [] []) := ⟨(Rws.start w).drew⟩
 refine join_ (σ := Nat × Nat) 2 #[true, true, true, true, true, true, true, true, false, false] (fun s => [(5, .pointer (some ⟨s.1, 0, none⟩)), (6, .pointer (some ⟨s.2, 0, none⟩))]) (fun s w' => Rws w w' [] [⟨s.1, #[.int .i64 0, .int .i64 0, .bool false], 194⟩, ⟨s.2, #[.string ⟨#[]⟩], 9⟩]) ?_ ?_
 ·intro s xj hRw
  obtain ⟨n6, n7⟩ := s
  replace hRw := Aside0.mk hRw
  simp only [putAll, Act.put, Tk.z1, Tk.z2, Tk.z3, Tk.z4, Tk.z5, Tk.z6] at hRw ⊢
  (refine wpAnyLast_ready (rs := [8]) (by kernel_rfl) (by simp) ?_; refine AllReadyL.cons rfl (by decide) (fun K hK => ?_) AllReadyL.nil)
  have hG := (hRw.out.blk ⟨n6, #[.int .i64 0, .int .i64 0, .bool false], 194⟩ (by simp)).1
  have z0 : xj.cell? ⟨n6, 0, none⟩ = some (.int .i64 0) := by rw [blk_cell hG]; rfl
  have y0 := frozen_blk hG 0
  have z1 : xj.cell? ⟨n6, 1, none⟩ = some (.int .i64 0) := by rw [blk_cell hG]; rfl
  have y1 := frozen_blk hG 1
  have z2 : xj.cell? ⟨n6, 2, none⟩ = some (.bool false) := by rw [blk_cell hG]; rfl
  have y2 := frozen_blk hG 2
  have hRx := hRw.out
  clear hG
  replace hRx := Rws.set (G1 := []) (G2 := [⟨n7, #[.string ⟨#[]⟩], 9⟩]) (b := ⟨n6, #[.int .i64 0, .int .i64 0, .bool false], 194⟩) hRx 0 (.int .i64 d)
  simp only [List.setIfInBounds_toArray, List.set_cons_zero, List.set_cons_succ, List.nil_append, List.cons_append] at hRx
  replace hRx := Rws.set (G1 := []) (G2 := [⟨n7, #[.string ⟨#[]⟩], 9⟩]) (b := ⟨n6, #[.int .i64 d, .int .i64 0, .bool false], 194⟩) hRx 1 (.int .i64 m)
  simp only [List.setIfInBounds_toArray, List.set_cons_zero, List.set_cons_succ, List.nil_append, List.cons_append] at hRx
  replace hRx := Rws.set (G1 := []) (G2 := [⟨n7, #[.string ⟨#[]⟩], 9⟩]) (b := ⟨n6, #[.int .i64 d, .int .i64 m, .bool false], 194⟩) hRx 2 (.bool e)
  simp only [List.setIfInBounds_toArray, List.set_cons_zero, List.set_cons_succ, List.nil_append, List.cons_append] at hRx
  replace hRx := Aside0.mk hRx
  go_simp
  go_wp2_with fail
  refine hK.out _ _ (hS.out _ hRx.out.below) (fun hHeld => ?_)
  clear hK K
  try simp only [Act.put, Tk.z1, Tk.z2, Tk.z3, Tk.z4, Tk.z5, Tk.z6]
  obtain ⟨x8, hxN⟩ : ∃ x, x = (((xj.setCell ⟨n6, 0, none⟩ (.int .i64 d)).setCell ⟨n6, 1, none⟩ (.int .i64 m)).setCell ⟨n6, 2, none⟩ (.bool e)) := ⟨_, rfl⟩
  have hRy := hRx.out
  rw [← hxN] at hRy ⊢
  replace hRw := Aside0.mk hRy
  clear hxN hRx hRy z0 y0 z1 y1 z2 y2
  (refine wpAnyLast_ready (rs := [9]) (by kernel_rfl) (by simp) ?_; refine AllReadyL.cons rfl (by decide) (fun K hK => ?_) AllReadyL.nil)
  have hG := (hRw.out.blk ⟨n7, #[.string ⟨#[]⟩], 9⟩ (by simp)).1
  have z0 : x8.cell? ⟨n7, 0, none⟩ = some (.string ⟨#[]⟩) := by rw [blk_cell hG]; rfl
  have y0 := frozen_blk hG 0
  have hRx := hRw.out
  clear hG
  replace hRx := Rws.set (G1 := [⟨n6, #[.int .i64 d, .int .i64 m, .bool e], 194⟩]) (G2 := []) (b := ⟨n7, #[.string ⟨#[]⟩], 9⟩) hRx 0 (.string S)
  simp only [List.setIfInBounds_toArray, List.set_cons_zero, List.set_cons_succ, List.nil_append, List.cons_append] at hRx
  replace hRx := Aside0.mk hRx
  go_simp
  go_wp2_with fail
  refine hK.out _ _ (hS.out _ hRx.out.below) (fun hHeld => ?_)
  clear hK K
  try simp only [Act.put, Tk.z1, Tk.z2, Tk.z3, Tk.z4, Tk.z5, Tk.z6]
  obtain ⟨x9, hxN⟩ : ∃ x, x = (x8.setCell ⟨n7, 0, none⟩ (.string S)) := ⟨_, rfl⟩
  have hRy := hRx.out
  rw [← hxN] at hRy ⊢
  replace hRw := Aside0.mk hRy
  clear hxN hRx hRy z0 y0
  refine wpAnyLast_done (by kernel_rfl) ?_ _
  clear hHeld
  refine NoPanic.normal ?_
  obtain ⟨W5, hW5⟩ : ∃ W5, W5 = x9 := ⟨_, rfl⟩
  rw [← hW5] at hRw ⊢
  clear hW5
  have hR5 := hRw.out
  have g6 := (hR5.blk ⟨n6, #[.int .i64 d, .int .i64 m, .bool e], 194⟩ (by simp)).1
  have g60 : W5.cell? ⟨n6, 0, none⟩ = some (.int .i64 d) := by rw [cell_blk g6]; rfl
  have g61 : W5.cell? ⟨n6, 1, none⟩ = some (.int .i64 m) := by rw [cell_blk g6]; rfl
  have g62 : W5.cell? ⟨n6, 2, none⟩ = some (.bool e) := by rw [cell_blk g6]; rfl
  have hz6 := World.block_lt_of_cell? _ _ g60
  dsimp only at hz6
  clear g6 hR5
  gi_wp2_with fail
  obtain ⟨n8, hn8⟩ : ∃ n8, n8 = W5.heap.size := ⟨_, rfl⟩
  obtain ⟨W6, hW6⟩ : ∃ W6, W6 = W5.alloc (.cells #[.int .i64 0] 3) := ⟨_, rfl⟩
  have hR6 := hRw.out.alloc #[.int .i64 0] 3
  simp only [List.nil_append, List.cons_append] at hR6
  rw [← hW6, ← hn8] at hR6
  rw [← hW6, ← hn8]
  refine ⟨trivial, (callsIn_wide.2 (groups_calls d m e A l.length cap W6)).mono ?_⟩
  rintro en W7 ⟨rfl, hW7⟩
  obtain ⟨n9, hn9⟩ : ∃ n9, n9 = W6.heap.size := ⟨_, rfl⟩
  have hs7 : W7.heap.size = n9 + 2 := by rw [hW7, hn9]; simp
  have hR7 := (hR6.alloc #[.int .i64 d, .int .i64 m, .bool e] 194).alloc #[.slice A l.length cap] 22
  simp only [World.size_alloc, List.nil_append, List.cons_append] at hR7
  rw [← hW7, ← hn9] at hR7
  rw [← hn9]
  have hn69 : Aside0 (n6 < n9 ∧ n7 < n9 ∧ n8 < n9 ∧ w.heap.size ≤ n6 ∧ w.heap.size ≤ n8 ∧ w.heap.size ≤ n9) := by
   have q6 := Array.getElem?_eq_some_iff.1 (hR6.blk ⟨n6, #[.int .i64 d, .int .i64 m, .bool e], 194⟩ (by simp)).1
   have q7 := Array.getElem?_eq_some_iff.1 (hR6.blk ⟨n7, #[.string S], 9⟩ (by simp)).1
   have q8 := Array.getElem?_eq_some_iff.1 (hR6.blk ⟨n8, #[.int .i64 0], 3⟩ (by simp)).1
   have r6 := (hR6.blk ⟨n6, #[.int .i64 d, .int .i64 m, .bool e], 194⟩ (by simp)).2
   have r8 := (hR6.blk ⟨n8, #[.int .i64 0], 3⟩ (by simp)).2
   obtain ⟨q6, _⟩ := q6
   obtain ⟨q7, _⟩ := q7
   obtain ⟨q8, _⟩ := q8
   dsimp only at q6 q7 q8 r6 r8
   exact ⟨by omega, by omega, by omega, by omega, by omega, by omega⟩
  have b9 : W7.cell? ⟨n9, 0, none⟩ = some (.int .i64 d) := by rw [cell_blk (hR7.blk ⟨n9, #[.int .i64 d, .int .i64 m, .bool e], 194⟩ (by simp)).1]; rfl
  have b10 : W7.cell? ⟨n9 + 1, 0, none⟩ = some (.slice A l.length cap) := by rw [cell_blk (hR7.blk ⟨n9 + 1, #[.slice A l.length cap], 22⟩ (by simp)).1]; rfl
  replace hs7 := Aside0.mk hs7
  replace hR7 := Aside0.mk hR7
  clear hW7 hn9 hW6 hn8 hR6 hz6 g60 g61 g62 hRw
  gi_wp2_with fail
  have hAs : Aside0 (0 < l.length → ∃ ad, A = some ad) := ⟨fun h => by
   obtain ⟨ad, e, _⟩ := el_at HR.out (Below.refl _ _) h
   exact ⟨ad, e⟩⟩
  refine wpIn_rangeRuns0 rfl (by omega) (gf := 221) (lb := #[.pointer (some ⟨n9, 0, none⟩), .pointer (some ⟨n9 + 1, 0, none⟩)]) rfl trivial (enters_of Tryz.func221 (by kernel_rfl) rfl)
   (groups1_runs Fence.wide _ trivial rfl (by omega) n9 (n9 + 1) A cap l.length d hd9 (by have := hl'.out; omega) hcap hAs.out w W7 hR7.out.below b9 b10)
   (fun h k => h.trans k) (fun W l' o o' hl' => Keep3.putObj (N := W7.heap.size) (by have := hs7.out; have := hn69.out; omega) (by have := hs7.out; omega) (by have := hs7.out; omega) W l' o o' hl') (Below.refl _ _) (fun _ => rfl)
   (fun j W => Rws w W [] [⟨n6, #[.int .i64 d, .int .i64 m, .bool e], 194⟩, ⟨n7, #[.string S], 9⟩, ⟨n8, #[.int .i64 (costTo k l j)], 3⟩, ⟨n9, #[.int .i64 d, .int .i64 m, .bool e], 194⟩, ⟨n9 + 1, #[.slice A l.length cap], 22⟩])
   ?own ?start
   (fun j => { tmps := #[.int .i64 k, .slice A l.length cap, undef, undef, .int .i64 0, .pointer (some ⟨n6, 0, none⟩), .pointer (some ⟨n7, 0, none⟩), .pointer (some ⟨n8, 0, none⟩), gSl A (j * d) d, undef, undef, .int .i64 k, .pointer (some ⟨2, k * 3, none⟩), .agg #[.int .i64 d, .int .i64 m, .bool e], .int .i64 k, .pointer (some ⟨3, k, none⟩), .string S, .agg #[.int .i64 d, .int .i64 m, .bool e], .slice A l.length cap, .func (.func 221) #[] #[.pointer (some ⟨n9, 0, none⟩), .pointer (some ⟨n9 + 1, 0, none⟩)], gSl A (j * d) d, undef, undef, undef, undef, undef, undef, undef, undef, undef, undef, undef, undef, undef, undef, undef, undef, undef, undef, undef, undef, undef, undef, undef, undef, undef], defers := [] }) ?assign ?body ?done
  case own => exact fun j W W' row h hg hrow => Pre.Rws.turn h hg (fun r e => ⟨by have := (hrow r e).1; have := hs7.out; have := hn69.out; omega, (hrow r e).2⟩)
  case start => exact hR7.out
  case assign =>
   intro l' j W K _ hK
   gi_wp2
   exact hK
  case body =>
   rintro L j W hRw hj
   obtain ⟨ad, rfl⟩ := hAs.out (by have := grp_in hd9.1 hj; omega)
   have hjd := grp_in hd9.1 hj
   obtain ⟨ag, hag⟩ : ∃ ag, ag = ad.add (j * d) := ⟨_, rfl⟩
   have HG := grp_C hd9.1 HR.out hjd
   have hgl := grp_len hjd
   have hga := grp_are (d := d) (j := j) hA
   have hst : costTo k l (j + 1) = costTo k l j + gCost k (grpL d l j) := by rw [hde.out]; rfl
   have hc09 := costTo_bd hk hA j
   have hj9 : j ≤ 1000 := by have := hl'.out; have := Nat.mul_le_mul_left j hd9.1; omega
   obtain ⟨gr, hgr⟩ : ∃ gr, gr = grpL d l j := ⟨_, rfl⟩
   rw [← hag, ← hgr] at HG
   rw [← hgr] at hgl hga hst
   obtain ⟨c0, hc0⟩ : ∃ c0, c0 = costTo k l j := ⟨_, rfl⟩
   rw [← hc0] at hst hc09 hRw
   have hgc := gCost_bd hk (g := gr) (by omega) hga
   simp only [gSl]
   rw [← hag]
   have a6 := (hRw.blk ⟨n6, #[.int .i64 d, .int .i64 m, .bool e], 194⟩ (by simp)).1
   have a60 : W.cell? ⟨n6, 0, none⟩ = some (.int .i64 d) := by rw [cell_blk a6]; rfl
   have a61 : W.cell? ⟨n6, 1, none⟩ = some (.int .i64 m) := by rw [cell_blk a6]; rfl
   have a62 : W.cell? ⟨n6, 2, none⟩ = some (.bool e) := by rw [cell_blk a6]; rfl
   have a70 : W.cell? ⟨n7, 0, none⟩ = some (.string S) := by rw [cell_blk (hRw.blk ⟨n7, #[.string S], 9⟩ (by simp)).1]; rfl
   have a8 := (hRw.blk ⟨n8, #[.int .i64 c0], 3⟩ (by simp)).1
   have a80 : W.cell? ⟨n8, 0, none⟩ = some (.int .i64 c0) := by rw [cell_blk a8]; rfl
   clear a6 a8
   have hz6 := World.block_lt_of_cell? _ _ a60
   have HSy := Aside0.mk (fun (W' : World) (hb : Below W.heap.size W W') => symbolOf_calls d m e (some ag) d gr W' hm9 (Kd.C_below HG (bnx hRw.below hb)) (by omega) hga)
   rw [hgl] at HSy
   have hI : IntKind.i64.wrap c0 = c0 := IntWalk.i64_in _ (by omega)
   replace hRw := Aside0.mk hRw
   obtain ⟨bT, hbTe⟩ : ∃ bT : Nat → Int, bT = fun i => ((gr.take i).map (besF m e)).sum := ⟨_, rfl⟩
   have hbT0 : Aside0 (bT 0 = 0) := ⟨by rw [hbTe]; simp⟩
   have hbTs : Aside0 (∀ i, i < d → bT (i + 1) = bT i + besF m e (rd gr i)) := ⟨fun i hi => by rw [hbTe]; dsimp only; rw [take_rd gr i (by omega), List.map_append, List.sum_append]; simp⟩
   have hbT9 : Aside0 (∀ i, i ≤ d → 0 ≤ bT i ∧ bT i ≤ 100) := ⟨fun i hi => by
    have h1 := besS_bd (e := e) hm9 (gr.take i) (List.all_eq_true.2 fun x hx => List.all_eq_true.1 hga x (List.mem_of_mem_take hx))
    have h2 : (gr.take i).length ≤ 4 := by rw [List.length_take]; omega
    rw [hbTe]
    dsimp only
    omega⟩
   have hbTd : bT d = besS k gr := by rw [hbTe, ← hgl]; dsimp only; rw [List.take_length, hme.out, hee.out]; rfl
   have hwb := wlI_bd hk gr
   have hE : gCost k gr = (if 0 < k then wlI k gr else 0) + besS k gr := rfl
   replace HG := Aside0.mk HG
   by_cases hk0 : 0 < k
   ·have hsi := sym_in hk hk0 (g := gr) (by rw [hgl, hde.out]) hga
    rw [← hme.out] at hsi
    have hne : S.toList.isEmpty = false := by rw [hSe.out]; exact tabS_ne k hk hk0
    obtain ⟨bt, hbt, hbx⟩ := tabS_at hk (i := (symF m gr).toNat) (by omega)
    rw [← hSe.out] at hbt
    have hwl : wlI k gr = ((tabL k)[(symF m gr).toNat]'(by omega) : Nat) := by unfold wlI; rw [← hme.out, List.getD_eq_getElem?_getD, List.getElem?_eq_getElem (by omega), Option.getD_some]
    rw [← hwl] at hbx
    have htb := tab_bd k hk _ (List.getElem_mem (show (symF m gr).toNat < (tabL k).length by omega))
    obtain ⟨wl, hwle⟩ : ∃ wl, wl = wlI k gr := ⟨_, rfl⟩
    have hwl1 : 1 ≤ wl := by rw [hwle, hwl]; omega
    rw [← hwle] at hbx hwb hE
    obtain ⟨c1, hc1⟩ : ∃ c1, c1 = c0 + wl := ⟨_, rfl⟩
    have hfin : Aside0 (c1 + bT d = costTo k l (j + 1)) := ⟨by rw [hst, hE, if_pos hk0, hbTd]; omega⟩
    obtain ⟨sy, hsy⟩ : ∃ sy, sy = symF m gr := ⟨_, rfl⟩
    rw [← hsy] at HSy hsi hbt
    obtain ⟨y, hy⟩ : ∃ y, y = wl - 1 := ⟨_, rfl⟩
    obtain ⟨xb, hxb⟩ : ∃ xb : Int, (bt.toNat : Int) = xb := ⟨_, rfl⟩
    rw [hxb] at hbx
    have f1 : IntKind.u8.wrap (xb - 97) = y := by rw [show xb - 97 = y by omega]; exact IntWalk.u8_in _ (by omega)
    have f2 : IntKind.i64.wrap y = y := IntWalk.i64_in _ (by omega)
    have f3 : IntKind.i64.wrap (y + 1) = wl := by rw [show y + 1 = wl by omega]; exact IntWalk.i64_in _ (by omega)
    have f4 : IntKind.i64.wrap (c0 + wl) = c1 := by rw [← hc1]; exact IntWalk.i64_in _ (by omega)
    have hc19 : 0 ≤ c1 ∧ c1 ≤ 200000 := by omega
    have hsy0 : 0 ≤ sy := hsi.1
    have hszS : Aside0 (sy < (S.size : Int) ∧ ∀ h : sy.toNat < S.size, ((S[sy.toNat]'h).toNat : Int) = xb) := by
     have h1 : sy < (S.size : Int) := by rw [hSe.out, tabS_size]; exact hsi.2
     refine ⟨h1, fun h => ?_⟩
     rw [getElem?_pos S sy.toNat h] at hbt
     injection hbt with hbt
     rw [hbt]
     exact hxb
    clear hsi hwl htb hwle hsy hy hbx hc1 hwb hc09 hj9 hwl1
    replace hgl := Aside0.mk hgl
    replace hga := Aside0.mk hga
    clear hbTe hbTd hE hst hc0 hgr hag hgc hjd hj
    replace hfin := Aside0.mk hfin.out
    gi_wp2_with fail
    obtain ⟨hszS1, hszS2⟩ := hszS.out
    clear hszS hbt
    refine Held.wpIn_region_last (fun w' => w'.cell? ⟨n6, 0, none⟩ = some (.int .i64 d) ∧ w'.cell? ⟨n6, 1, none⟩ = some (.int .i64 m) ∧ w'.cell? ⟨n6, 2, none⟩ = some (.bool e) ∧ w'.cell? ⟨n7, 0, none⟩ = some (.string S) ∧ w'.cell? ⟨n8, 0, none⟩ = some (.int .i64 c0) ∧ Below W.heap.size W w') [10] hmo (by kernel_rfl) (fun ⟨_, _, h⟩ => h) ⟨a60, a61, a62, a70, a80, (Below.refl _ _).drew⟩ (fun hHeld => ?_)
    (refine Tk.tl 0 (.int .i64 c0) hHeld ?_)
    (refine Tk.tl 1 (.string S) hHeld ?_)
    (refine Tk.tl 2 (.agg #[.int .i64 d, .int .i64 m, .bool e]) hHeld ?_)
    (refine Tk.tl 3 (.slice (some ag) d d) hHeld ?_)
    (refine wpAnyLast_ready (rs := [4]) (by kernel_rfl) (by simp) ?_; refine AllReadyL.cons rfl (by decide) (fun K hK => ?_) AllReadyL.nil)
    go_simp
    refine (HSy.out _ hHeld.2.2.2.2.2).mono ?_
    rintro en w1 ⟨rfl, hb1⟩
    go_wp2_with fail
    refine hK.out _ _ ⟨cnx hHeld.1 hb1, cnx hHeld.2.1 hb1, cnx hHeld.2.2.1 hb1, cnx hHeld.2.2.2.1 hb1, cnx hHeld.2.2.2.2.1 hb1, bnx hHeld.2.2.2.2.2 hb1⟩ (fun hHeld => ?_)
    clear hK K
    try simp only [Act.put, Tk.z1, Tk.z2, Tk.z3, Tk.z4, Tk.z5, Tk.z6]
    (refine Tk.tl 5 (.int .u8 xb) hHeld ?_)
    (refine Tk.tl 6 (.int .u8 y) hHeld ?_)
    (refine Tk.tl 7 (.int .i64 y) hHeld ?_)
    (refine Tk.tl 8 (.int .i64 wl) hHeld ?_)
    (refine Tk.tl 9 (.int .i64 c1) hHeld ?_)
    have hRs := hRw.out.step hHeld.2.2.2.2.2
    have G8 := (hRs.blk ⟨n8, #[.int .i64 c0], 3⟩ (by simp)).1
    have z80 : w1.cell? ⟨n8, 0, none⟩ = some (.int .i64 c0) := by rw [cell_blk G8]; rfl
    have y80 := frozen_blk G8 0
    clear G8
    have hRn := Bts.Rws.set (G1 := [⟨n6, #[.int .i64 d, .int .i64 m, .bool e], 194⟩, ⟨n7, #[.string S], 9⟩]) (G2 := [⟨n9, #[.int .i64 d, .int .i64 m, .bool e], 194⟩, ⟨n9 + 1, #[.slice (some ad) l.length cap], 22⟩]) (b := ⟨n8, #[.int .i64 c0], 3⟩) hRs 0 (.int .i64 c1)
    simp only [List.setIfInBounds_toArray, List.set_cons_zero, List.nil_append, List.cons_append] at hRn
    have hKn : KeepsOthers W (w1.setCell ⟨n8, 0, none⟩ (.int .i64 c1)) ∧ Keep3 w.heap.size n9 (n9 + 1) W (w1.setCell ⟨n8, 0, none⟩ (.int .i64 c1)) := ⟨(keeps_below hHeld.2.2.2.2.2).trans (KeepsOthers.setCell w1 ⟨n8, 0, none⟩ (.int .i64 c1)), Keep3.set (hHeld.2.2.2.2.2) hRw.out.below.size (by have := hRw.out.blk ⟨n9, #[.int .i64 d, .int .i64 m, .bool e], 194⟩ (by simp); exact (Array.getElem?_eq_some_iff.1 this.1).1) (by have := hRw.out.blk ⟨n9 + 1, #[.slice (some ad) l.length cap], 22⟩ (by simp); exact (Array.getElem?_eq_some_iff.1 this.1).1) (by have := hn69.out; omega) (by have := hn69.out; omega) (by have := hn69.out; omega)⟩
    obtain ⟨wn, hwn⟩ : ∃ wn, wn = w1.setCell ⟨n8, 0, none⟩ (.int .i64 c1) := ⟨_, rfl⟩
    rw [← hwn] at hRn hKn
    replace hRn := Aside0.mk hRn
    replace hKn := Aside0.mk hKn
    replace hwn := Aside0.mk hwn
    clear hRs
    (refine wpAnyLast_ready (rs := [10]) (by kernel_rfl) (by simp) ?_; refine AllReadyL.cons_last rfl (by decide) (fun K hK => ?_) AllReadyL.nil)
    go_simp
    go_wp2_with fail
    refine hK.out _ _ ?_
    clear hK K
    try simp only [Act.put, Tk.z1, Tk.z2, Tk.z3, Tk.z4, Tk.z5, Tk.z6]
    refine wpAnyLast_done (by kernel_rfl) ?_ _
    rw [← hwn.out]
    clear z80 y80 hHeld hwn
    clear a60 a61 a62 a70 a80 hz6 HSy hszS1 hszS2 hxb f1 f2 f3 f4 hne
    have hbW : Below w.heap.size w wn := hRn.out.below
    obtain ⟨wo, hwo⟩ : ∃ wo : World, wo = wn := ⟨_, rfl⟩
    rw [← hwo] at hRn hKn hbW ⊢
    clear hwo
    gi_wp2_with fail
    gi_loopw [35] (fun x wr => ∃ i : Nat, x = .int .i64 i ∧ i ≤ d ∧ Aside0 (Rws w wr [] [⟨n6, #[.int .i64 d, .int .i64 m, .bool e], 194⟩, ⟨n7, #[.string S], 9⟩, ⟨n8, #[.int .i64 (c1 + bT i)], 3⟩, ⟨n9, #[.int .i64 d, .int .i64 m, .bool e], 194⟩, ⟨n9 + 1, #[.slice (some ad) l.length cap], 22⟩]) ∧ Aside0 (KeepsOthers W wr ∧ Keep3 w.heap.size n9 (n9 + 1) W wr)) (fun x _ => d - (intOf x).toNat)
    case atStart => exact ⟨0, rfl, by omega, ⟨by rw [hbT0.out, Int.add_zero]; exact hRn.out⟩, hKn⟩
    case round =>
     obtain ⟨i, rfl, hi, hRr, hKr⟩ := hrel
     by_cases hlt : i < d
     ·obtain ⟨ad2, had2, hcell⟩ := el_at HG.out hRr.out.below (show i < gr.length by have := hgl.out; omega)
      cases had2
      have hv := areB_mem hga.out (rd_mem gr i (by have := hgl.out; omega))
      have hbs := hbTs.out i hlt
      have hbb := besF_bd (e := e) hm9 hv
      have hb9 := hbT9.out i (by omega)
      have HBs := Aside0.mk (fun (W' : World) => beside_calls d m e (rd gr i) W' hm9 hv.1 hv.2)
      obtain ⟨v, hve⟩ : ∃ v, v = rd gr i := ⟨_, rfl⟩
      rw [← hve] at hcell hbs hbb HBs
      obtain ⟨bq, hbq⟩ : ∃ bq, bq = besF m e v := ⟨_, rfl⟩
      rw [← hbq] at hbs hbb HBs
      obtain ⟨ac, hac⟩ : ∃ ac, ac = c1 + bT i := ⟨_, rfl⟩
      rw [← hac] at hRr
      obtain ⟨an, han⟩ : ∃ an, an = c1 + bT (i + 1) := ⟨_, rfl⟩
      have hwr : IntKind.i64.wrap (ac + bq) = an := by rw [show ac + bq = an by omega]; exact IntWalk.i64_in _ (by omega)
      clear hve hbq hv
      have r6 := (hRr.out.blk ⟨n6, #[.int .i64 d, .int .i64 m, .bool e], 194⟩ (by simp)).1
      have r60 : wr.cell? ⟨n6, 0, none⟩ = some (.int .i64 d) := by rw [cell_blk r6]; rfl
      have r61 : wr.cell? ⟨n6, 1, none⟩ = some (.int .i64 m) := by rw [cell_blk r6]; rfl
      have r62 : wr.cell? ⟨n6, 2, none⟩ = some (.bool e) := by rw [cell_blk r6]; rfl
      have r70 : wr.cell? ⟨n7, 0, none⟩ = some (.string S) := by rw [cell_blk (hRr.out.blk ⟨n7, #[.string S], 9⟩ (by simp)).1]; rfl
      have r8 := (hRr.out.blk ⟨n8, #[.int .i64 ac], 3⟩ (by simp)).1
      have r80 : wr.cell? ⟨n8, 0, none⟩ = some (.int .i64 ac) := by rw [cell_blk r8]; rfl
      clear r6 r8
      have hz6 := World.block_lt_of_cell? _ _ r60
      have hiI : (i : Int) < (d : Int) := by omega
      replace hac := Aside0.mk hac
      replace han := Aside0.mk han
      replace hbs := Aside0.mk hbs
      replace hb9 := Aside0.mk hb9
      replace hbb := Aside0.mk hbb
      gi_wp2_with fail
      refine Held.wpIn_region_last (fun w' => w'.cell? ⟨n6, 0, none⟩ = some (.int .i64 d) ∧ w'.cell? ⟨n6, 1, none⟩ = some (.int .i64 m) ∧ w'.cell? ⟨n6, 2, none⟩ = some (.bool e) ∧ w'.cell? ⟨n7, 0, none⟩ = some (.string S) ∧ w'.cell? ⟨n8, 0, none⟩ = some (.int .i64 ac) ∧ Below wr.heap.size wr w') [5] hmo (by kernel_rfl) (fun ⟨_, _, h⟩ => h) ⟨r60, r61, r62, r70, r80, (Below.refl _ _).drew⟩ (fun hHeld => ?_)
      (refine Tk.tl 0 (.int .i64 ac) hHeld ?_)
      (refine Tk.tl 1 (.agg #[.int .i64 d, .int .i64 m, .bool e]) hHeld ?_)
      (refine Tk.tl 2 (.int .i64 v) hHeld ?_)
      (refine wpAnyLast_ready (rs := [3]) (by kernel_rfl) (by simp) ?_; refine AllReadyL.cons rfl (by decide) (fun K hK => ?_) AllReadyL.nil)
      go_simp
      refine (HBs.out _).mono ?_
      rintro en w1 ⟨rfl, hb1⟩
      go_wp2_with fail
      refine hK.out _ _ ⟨cnx hHeld.1 hb1, cnx hHeld.2.1 hb1, cnx hHeld.2.2.1 hb1, cnx hHeld.2.2.2.1 hb1, cnx hHeld.2.2.2.2.1 hb1, bnx hHeld.2.2.2.2.2 hb1⟩ (fun hHeld => ?_)
      clear hK K
      try simp only [Act.put, Tk.z1, Tk.z2, Tk.z3, Tk.z4, Tk.z5, Tk.z6]
      (refine Tk.tl 4 (.int .i64 an) hHeld ?_)
      have hRs := hRr.out.step hHeld.2.2.2.2.2
      have G8 := (hRs.blk ⟨n8, #[.int .i64 ac], 3⟩ (by simp)).1
      have z80 : w1.cell? ⟨n8, 0, none⟩ = some (.int .i64 ac) := by rw [cell_blk G8]; rfl
      have y80 := frozen_blk G8 0
      clear G8
      have hRn := Bts.Rws.set (G1 := [⟨n6, #[.int .i64 d, .int .i64 m, .bool e], 194⟩, ⟨n7, #[.string S], 9⟩]) (G2 := [⟨n9, #[.int .i64 d, .int .i64 m, .bool e], 194⟩, ⟨n9 + 1, #[.slice (some ad) l.length cap], 22⟩]) (b := ⟨n8, #[.int .i64 ac], 3⟩) hRs 0 (.int .i64 an)
      simp only [List.setIfInBounds_toArray, List.set_cons_zero, List.nil_append, List.cons_append] at hRn
      have hKn : KeepsOthers wr (w1.setCell ⟨n8, 0, none⟩ (.int .i64 an)) ∧ Keep3 w.heap.size n9 (n9 + 1) wr (w1.setCell ⟨n8, 0, none⟩ (.int .i64 an)) := ⟨(keeps_below hHeld.2.2.2.2.2).trans (KeepsOthers.setCell w1 ⟨n8, 0, none⟩ (.int .i64 an)), Keep3.set (hHeld.2.2.2.2.2) hRr.out.below.size (by have := hRr.out.blk ⟨n9, #[.int .i64 d, .int .i64 m, .bool e], 194⟩ (by simp); exact (Array.getElem?_eq_some_iff.1 this.1).1) (by have := hRr.out.blk ⟨n9 + 1, #[.slice (some ad) l.length cap], 22⟩ (by simp); exact (Array.getElem?_eq_some_iff.1 this.1).1) (by have := hn69.out; omega) (by have := hn69.out; omega) (by have := hn69.out; omega)⟩
      obtain ⟨wn, hwn⟩ : ∃ wn, wn = w1.setCell ⟨n8, 0, none⟩ (.int .i64 an) := ⟨_, rfl⟩
      rw [← hwn] at hRn hKn
      replace hRn := Aside0.mk hRn
      replace hKn := Aside0.mk hKn
      replace hwn := Aside0.mk hwn
      clear hRs
      (refine wpAnyLast_ready (rs := [5]) (by kernel_rfl) (by simp) ?_; refine AllReadyL.cons_last rfl (by decide) (fun K hK => ?_) AllReadyL.nil)
      go_simp
      go_wp2_with fail
      refine hK.out _ _ ?_
      clear hK K
      try simp only [Act.put, Tk.z1, Tk.z2, Tk.z3, Tk.z4, Tk.z5, Tk.z6]
      refine wpAnyLast_done (by kernel_rfl) ?_ _
      rw [← hwn.out]
      clear z80 y80 hHeld hwn
      clear r60 r61 r62 r70 r80 hcell hz6
      gi_wp2
      go_roundw
      case rel => exact ⟨i + 1, by go_num, by omega, ⟨by rw [← han.out]; exact hRn.out⟩, ⟨hKr.out.1.trans hKn.out.1, hKr.out.2.trans hKn.out.2⟩⟩
      case measure => simp [intOf]; omega
     ·obtain rfl : i = d := by omega
      gi_wp2
      refine ⟨hKr.out.1.from _, hKr.out.2, ?_⟩
      have h9 := hRr.out
      rw [hfin.out] at h9
      exact h9
   ·obtain rfl : k = 0 := by omega
    obtain ⟨c1, hc1⟩ : ∃ c1, c1 = c0 := ⟨_, rfl⟩
    have hfin : Aside0 (c1 + bT d = costTo 0 l (j + 1)) := ⟨by rw [hst, hE, if_neg (by omega), hbTd]; omega⟩
    have hSe0 : S = ⟨#[]⟩ := by rw [hSe.out]; rfl
    have hc19 : 0 ≤ c1 ∧ c1 ≤ 200000 := by omega
    rw [← hc1] at hRw a80 hI
    have hKw : Aside0 (KeepsOthers W W ∧ Keep3 w.heap.size n9 (n9 + 1) W W) := ⟨KeepsOthers.refl W, Below.refl _ _, rfl, rfl⟩
    clear hc1 hwb hc09 hj9 HSy
    replace hgl := Aside0.mk hgl
    replace hga := Aside0.mk hga
    clear hbTe hbTd hE hst hc0 hgr hag hgc hjd hj
    have hne : S.toList.isEmpty = true := by rw [hSe0]; decide +kernel
    gi_wp2_with fail
    clear a60 a61 a62 a70 a80 hz6
    obtain ⟨wz, hwz⟩ : ∃ wz : World, wz = W := ⟨_, rfl⟩
    have hKz : Aside0 (KeepsOthers W wz ∧ Keep3 w.heap.size n9 (n9 + 1) W wz) := by rw [hwz]; exact hKw
    have hRz := hRw
    rw [← hwz] at hRz ⊢
    clear hwz
    have hbW : Below w.heap.size w wz := hRz.out.below
    obtain ⟨wo, hwo⟩ : ∃ wo : World, wo = wz := ⟨_, rfl⟩
    rw [← hwo] at hRz hKz hbW ⊢
    clear hwo
    gi_wp2_with fail
    gi_loopw [35] (fun x wr => ∃ i : Nat, x = .int .i64 i ∧ i ≤ d ∧ Aside0 (Rws w wr [] [⟨n6, #[.int .i64 d, .int .i64 m, .bool e], 194⟩, ⟨n7, #[.string S], 9⟩, ⟨n8, #[.int .i64 (c1 + bT i)], 3⟩, ⟨n9, #[.int .i64 d, .int .i64 m, .bool e], 194⟩, ⟨n9 + 1, #[.slice (some ad) l.length cap], 22⟩]) ∧ Aside0 (KeepsOthers W wr ∧ Keep3 w.heap.size n9 (n9 + 1) W wr)) (fun x _ => d - (intOf x).toNat)
    case atStart => exact ⟨0, rfl, by omega, ⟨by rw [hbT0.out, Int.add_zero]; exact hRz.out⟩, hKz⟩
    case round =>
     obtain ⟨i, rfl, hi, hRr, hKr⟩ := hrel
     by_cases hlt : i < d
     ·obtain ⟨ad2, had2, hcell⟩ := el_at HG.out hRr.out.below (show i < gr.length by have := hgl.out; omega)
      cases had2
      have hv := areB_mem hga.out (rd_mem gr i (by have := hgl.out; omega))
      have hbs := hbTs.out i hlt
      have hbb := besF_bd (e := e) hm9 hv
      have hb9 := hbT9.out i (by omega)
      have HBs := Aside0.mk (fun (W' : World) => beside_calls d m e (rd gr i) W' hm9 hv.1 hv.2)
      obtain ⟨v, hve⟩ : ∃ v, v = rd gr i := ⟨_, rfl⟩
      rw [← hve] at hcell hbs hbb HBs
      obtain ⟨bq, hbq⟩ : ∃ bq, bq = besF m e v := ⟨_, rfl⟩
      rw [← hbq] at hbs hbb HBs
      obtain ⟨ac, hac⟩ : ∃ ac, ac = c1 + bT i := ⟨_, rfl⟩
      rw [← hac] at hRr
      obtain ⟨an, han⟩ : ∃ an, an = c1 + bT (i + 1) := ⟨_, rfl⟩
      have hwr : IntKind.i64.wrap (ac + bq) = an := by rw [show ac + bq = an by omega]; exact IntWalk.i64_in _ (by omega)
      clear hve hbq hv
      have r6 := (hRr.out.blk ⟨n6, #[.int .i64 d, .int .i64 m, .bool e], 194⟩ (by simp)).1
      have r60 : wr.cell? ⟨n6, 0, none⟩ = some (.int .i64 d) := by rw [cell_blk r6]; rfl
      have r61 : wr.cell? ⟨n6, 1, none⟩ = some (.int .i64 m) := by rw [cell_blk r6]; rfl
      have r62 : wr.cell? ⟨n6, 2, none⟩ = some (.bool e) := by rw [cell_blk r6]; rfl
      have r70 : wr.cell? ⟨n7, 0, none⟩ = some (.string S) := by rw [cell_blk (hRr.out.blk ⟨n7, #[.string S], 9⟩ (by simp)).1]; rfl
      have r8 := (hRr.out.blk ⟨n8, #[.int .i64 ac], 3⟩ (by simp)).1
      have r80 : wr.cell? ⟨n8, 0, none⟩ = some (.int .i64 ac) := by rw [cell_blk r8]; rfl
      clear r6 r8
      have hz6 := World.block_lt_of_cell? _ _ r60
      have hiI : (i : Int) < (d : Int) := by omega
      replace hac := Aside0.mk hac
      replace han := Aside0.mk han
      replace hbs := Aside0.mk hbs
      replace hb9 := Aside0.mk hb9
      replace hbb := Aside0.mk hbb
      gi_wp2_with fail
      refine Held.wpIn_region_last (fun w' => w'.cell? ⟨n6, 0, none⟩ = some (.int .i64 d) ∧ w'.cell? ⟨n6, 1, none⟩ = some (.int .i64 m) ∧ w'.cell? ⟨n6, 2, none⟩ = some (.bool e) ∧ w'.cell? ⟨n7, 0, none⟩ = some (.string S) ∧ w'.cell? ⟨n8, 0, none⟩ = some (.int .i64 ac) ∧ Below wr.heap.size wr w') [5] hmo (by kernel_rfl) (fun ⟨_, _, h⟩ => h) ⟨r60, r61, r62, r70, r80, (Below.refl _ _).drew⟩ (fun hHeld => ?_)
      (refine Tk.tl 0 (.int .i64 ac) hHeld ?_)
      (refine Tk.tl 1 (.agg #[.int .i64 d, .int .i64 m, .bool e]) hHeld ?_)
      (refine Tk.tl 2 (.int .i64 v) hHeld ?_)
      (refine wpAnyLast_ready (rs := [3]) (by kernel_rfl) (by simp) ?_; refine AllReadyL.cons rfl (by decide) (fun K hK => ?_) AllReadyL.nil)
      go_simp
      refine (HBs.out _).mono ?_
      rintro en w1 ⟨rfl, hb1⟩
      go_wp2_with fail
      refine hK.out _ _ ⟨cnx hHeld.1 hb1, cnx hHeld.2.1 hb1, cnx hHeld.2.2.1 hb1, cnx hHeld.2.2.2.1 hb1, cnx hHeld.2.2.2.2.1 hb1, bnx hHeld.2.2.2.2.2 hb1⟩ (fun hHeld => ?_)
      clear hK K
      try simp only [Act.put, Tk.z1, Tk.z2, Tk.z3, Tk.z4, Tk.z5, Tk.z6]
      (refine Tk.tl 4 (.int .i64 an) hHeld ?_)
      have hRs := hRr.out.step hHeld.2.2.2.2.2
      have G8 := (hRs.blk ⟨n8, #[.int .i64 ac], 3⟩ (by simp)).1
      have z80 : w1.cell? ⟨n8, 0, none⟩ = some (.int .i64 ac) := by rw [cell_blk G8]; rfl
      have y80 := frozen_blk G8 0
      clear G8
      have hRn := Bts.Rws.set (G1 := [⟨n6, #[.int .i64 d, .int .i64 m, .bool e], 194⟩, ⟨n7, #[.string S], 9⟩]) (G2 := [⟨n9, #[.int .i64 d, .int .i64 m, .bool e], 194⟩, ⟨n9 + 1, #[.slice (some ad) l.length cap], 22⟩]) (b := ⟨n8, #[.int .i64 ac], 3⟩) hRs 0 (.int .i64 an)
      simp only [List.setIfInBounds_toArray, List.set_cons_zero, List.nil_append, List.cons_append] at hRn
      have hKn : KeepsOthers wr (w1.setCell ⟨n8, 0, none⟩ (.int .i64 an)) ∧ Keep3 w.heap.size n9 (n9 + 1) wr (w1.setCell ⟨n8, 0, none⟩ (.int .i64 an)) := ⟨(keeps_below hHeld.2.2.2.2.2).trans (KeepsOthers.setCell w1 ⟨n8, 0, none⟩ (.int .i64 an)), Keep3.set (hHeld.2.2.2.2.2) hRr.out.below.size (by have := hRr.out.blk ⟨n9, #[.int .i64 d, .int .i64 m, .bool e], 194⟩ (by simp); exact (Array.getElem?_eq_some_iff.1 this.1).1) (by have := hRr.out.blk ⟨n9 + 1, #[.slice (some ad) l.length cap], 22⟩ (by simp); exact (Array.getElem?_eq_some_iff.1 this.1).1) (by have := hn69.out; omega) (by have := hn69.out; omega) (by have := hn69.out; omega)⟩
      obtain ⟨wn, hwn⟩ : ∃ wn, wn = w1.setCell ⟨n8, 0, none⟩ (.int .i64 an) := ⟨_, rfl⟩
      rw [← hwn] at hRn hKn
      replace hRn := Aside0.mk hRn
      replace hKn := Aside0.mk hKn
      replace hwn := Aside0.mk hwn
      clear hRs
      (refine wpAnyLast_ready (rs := [5]) (by kernel_rfl) (by simp) ?_; refine AllReadyL.cons_last rfl (by decide) (fun K hK => ?_) AllReadyL.nil)
      go_simp
      go_wp2_with fail
      refine hK.out _ _ ?_
      clear hK K
      try simp only [Act.put, Tk.z1, Tk.z2, Tk.z3, Tk.z4, Tk.z5, Tk.z6]
      refine wpAnyLast_done (by kernel_rfl) ?_ _
      rw [← hwn.out]
      clear z80 y80 hHeld hwn
      clear r60 r61 r62 r70 r80 hcell hz6
      gi_wp2
      go_roundw
      case rel => exact ⟨i + 1, by go_num, by omega, ⟨by rw [← han.out]; exact hRn.out⟩, ⟨hKr.out.1.trans hKn.out.1, hKr.out.2.trans hKn.out.2⟩⟩
      case measure => simp [intOf]; omega
     ·obtain rfl : i = d := by omega
      gi_wp2
      refine ⟨hKr.out.1.from _, hKr.out.2, ?_⟩
      have h9 := hRr.out
      rw [hfin.out] at h9
      exact h9
  case done =>
   rintro D W hD hRw hDf
   have hgD := grownBy_putObj' W D (.deferred none)
   have hsz := hs7.out
   have hbn := hn69.out
   have h1 : Rws w (W.putObj D (.deferred none)) [] _ := Pre.Rws.turn hRw hgD (fun r e => by cases e; exact ⟨by omega, _, hDf, rfl⟩)
   have p3 : W.cell? ⟨n8, 0, none⟩ = some (.int .i64 (costTo k l (l.length / d))) := by rw [cell_blk (hRw.blk ⟨n8, #[.int .i64 (costTo k l (l.length / d))], 3⟩ (by simp)).1]; rfl
   have hb := h1.below
   have hC : Aside0 (costB k l = costTo k l (l.length / d)) := ⟨by rw [hde.out]; rfl⟩
   gi_wp2
   refine ⟨by simp, .inl ⟨_, _, rfl, run_takeDeferred hDf, ?_⟩⟩
   exact ⟨.int .i64 (costTo k l (l.length / d)), by simp [results, Tryz.f215, go_sem], by rw [hC.out], hb⟩
 ·intro hJ1
  replace hJ1 := Aside0.mk hJ1
  refine wpAnyLast_ready (rs := [6, 7]) (by kernel_rfl) (by simp) ?_; refine AllReadyL.cons rfl (by decide) (fun K hK => ?_) (AllReadyL.cons rfl (by decide) (fun K hK => ?_) (AllReadyL.nil))
  ·refine value_ (w1 := w.drew.alloc (.cells #[.int .i64 0, .int .i64 0, .bool false] 194)) (v := .pointer (some ⟨w.drew.heap.size, 0, none⟩)) (by kernel_rfl) rfl (by kernel_rfl) ?_
   have hRx := hRw.out.alloc #[.int .i64 0, .int .i64 0, .bool false] 194
   refine hK.out _ _ (hS.out _ hRx.below) (fun hHeld => ?_)
   clear hK K
   try simp only [Act.put, Tk.z1, Tk.z2, Tk.z3, Tk.z4, Tk.z5, Tk.z6]
   obtain ⟨x6, hxN⟩ : ∃ x, x = w.drew.alloc (.cells #[.int .i64 0, .int .i64 0, .bool false] 194) := ⟨_, rfl⟩
   obtain ⟨n6, hnN⟩ : ∃ n, n = w.drew.heap.size := ⟨_, rfl⟩
   rw [← hxN] at hRx ⊢
   rw [← hnN] at hRx ⊢
   clear hxN hnN
   simp only [List.nil_append, List.cons_append] at hRx
   replace hRw := Aside0.mk hRx
   clear hRx
   (refine wpAnyLast_ready (rs := [7]) (by kernel_rfl) (by simp) ?_; refine AllReadyL.cons rfl (by decide) (fun K hK => ?_) AllReadyL.nil)
   refine value_ (w1 := x6.alloc (.cells #[.string ⟨#[]⟩] 9)) (v := .pointer (some ⟨x6.heap.size, 0, none⟩)) (by kernel_rfl) rfl (by kernel_rfl) ?_
   have hRx := hRw.out.alloc #[.string ⟨#[]⟩] 9
   refine hK.out _ _ (hS.out _ hRx.below) (fun hHeld => ?_)
   clear hK K
   try simp only [Act.put, Tk.z1, Tk.z2, Tk.z3, Tk.z4, Tk.z5, Tk.z6]
   obtain ⟨x7, hxN⟩ : ∃ x, x = x6.alloc (.cells #[.string ⟨#[]⟩] 9) := ⟨_, rfl⟩
   obtain ⟨n7, hnN⟩ : ∃ n, n = x6.heap.size := ⟨_, rfl⟩
   rw [← hxN] at hRx ⊢
   rw [← hnN] at hRx ⊢
   clear hxN hnN
   simp only [List.nil_append, List.cons_append] at hRx
   replace hRw := Aside0.mk hRx
   clear hRx
   exact leaf_ (by kernel_rfl) (by kernel_rfl) (hJ1.out (n6, n7) _ hRw.out)
  ·refine value_ (w1 := w.drew.alloc (.cells #[.string ⟨#[]⟩] 9)) (v := .pointer (some ⟨w.drew.heap.size, 0, none⟩)) (by kernel_rfl) rfl (by kernel_rfl) ?_
   have hRx := hRw.out.alloc #[.string ⟨#[]⟩] 9
   refine hK.out _ _ (hS.out _ hRx.below) (fun hHeld => ?_)
   clear hK K
   try simp only [Act.put, Tk.z1, Tk.z2, Tk.z3, Tk.z4, Tk.z5, Tk.z6]
   obtain ⟨x7, hxN⟩ : ∃ x, x = w.drew.alloc (.cells #[.string ⟨#[]⟩] 9) := ⟨_, rfl⟩
   obtain ⟨n7, hnN⟩ : ∃ n, n = w.drew.heap.size := ⟨_, rfl⟩
   rw [← hxN] at hRx ⊢
   rw [← hnN] at hRx ⊢
   clear hxN hnN
   simp only [List.nil_append, List.cons_append] at hRx
   replace hRw := Aside0.mk hRx
   clear hRx
   (refine wpAnyLast_ready (rs := [6]) (by kernel_rfl) (by simp) ?_; refine AllReadyL.cons rfl (by decide) (fun K hK => ?_) AllReadyL.nil)
   refine value_ (w1 := x7.alloc (.cells #[.int .i64 0, .int .i64 0, .bool false] 194)) (v := .pointer (some ⟨x7.heap.size, 0, none⟩)) (by kernel_rfl) rfl (by kernel_rfl) ?_
   have hRx := hRw.out.alloc #[.int .i64 0, .int .i64 0, .bool false] 194
   refine hK.out _ _ (hS.out _ hRx.below) (fun hHeld => ?_)
   clear hK K
   try simp only [Act.put, Tk.z1, Tk.z2, Tk.z3, Tk.z4, Tk.z5, Tk.z6]
   obtain ⟨x6, hxN⟩ : ∃ x, x = x7.alloc (.cells #[.int .i64 0, .int .i64 0, .bool false] 194) := ⟨_, rfl⟩
   obtain ⟨n6, hnN⟩ : ∃ n, n = x7.heap.size := ⟨_, rfl⟩
   rw [← hxN] at hRx ⊢
   rw [← hnN] at hRx ⊢
   clear hxN hnN
   simp only [List.nil_append, List.cons_append] at hRx
   replace hRx := Rws.intoG (G1 := []) (G2 := [⟨n7, #[.string ⟨#[]⟩], 9⟩]) (b := ⟨n6, #[.int .i64 0, .int .i64 0, .bool false], 194⟩) hRx
   simp only [List.nil_append, List.cons_append] at hRx
   replace hRw := Aside0.mk hRx
   clear hRx
   exact leaf_ (by kernel_rfl) (by kernel_rfl) (hJ1.out (n6, n7) _ hRw.out)
end Bk

end Go.Proofs.YtnflnicdjioflaaGreatDoor
