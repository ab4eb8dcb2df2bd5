/- A part of the proof. -/
import Derived.Test.YtnflnicdjioflaaGreatDoorQmaz
import Derived.Test.YtnflnicdjioflaaGreatDoorQmax
set_option linter.unusedVariables false
set_option linter.unusedSimpArgs false
namespace Go.Proofs.YtnflnicdjioflaaGreatDoor
open Go.RowKit Go.Proofs.YtnflnicdjioflaaGreatDoorW.PrintWords Go.Proofs.YtnflnicdjioflaaGreatDoorW.PrintLast Go.Proofs.YtnflnicdjioflaaGreatDoorW.PrintMore
namespace Bk
attribute [local go_sem] max2_int min2_int max_two min_two max_three min_three
open Q15
def fitB (k : Nat) (l : List Int) : Bool := fitsF (dimB k) (mostB k) (escB k) l
set_option maxRecDepth 100000 in
set_option maxHeartbeats 1000000 in
theorem Fits_yes (k : Nat) (hk : k < 8) (A : Option Addr) (cap : Nat) (l : List Int) (w : World) (hL : LaidB w) (hr : (Kd.int .i64).C w A l.length l) (hl : l.length ≤ 1000000) (hA : areB l = true) :
  Calls Tryz.prog 186 #[.int .i64 k, .slice A l.length cap] w fun e w' => e = .returned (.tuple #[.bool (fitB k l), .int .i64 0]) ∧ Below w.heap.size w w' := by
 have hb := Below.refl w.heap.size w
 have HF := bchecked_calls k A cap l w (by omega) (by omega) hr hl
 have hE : bkE k l = 0 := by unfold bkE; rw [if_pos (show isB (k : Int) = true from decide_eq_true ⟨by omega, by omega⟩), if_pos hA]
 rw [hE] at HF
 replace HF := Aside0.mk HF
 have HG := Aside0.mk (fun (W : World) (hb : Below w.heap.size w W) => fits_calls (dimB k) (mostB k) (escB k) A cap l W (dimB_bd k) (mostB_bd k) (Kd.C_below hr hb) hl hA)
 have HL := Aside0.mk (fun (W : World) (hb : Below w.heap.size w W) => (hL.below hb).form k hk)
 have hu := Tryz.underlying194
 have hkI : (k : Int) < 8 := by omega
 unfold fitB
 obtain ⟨d, hd⟩ : ∃ d, d = dimB k := ⟨_, rfl⟩
 obtain ⟨m, hm⟩ : ∃ m, m = mostB k := ⟨_, rfl⟩
 obtain ⟨e, hee⟩ : ∃ e, e = escB k := ⟨_, rfl⟩
 rw [← hd, ← hm, ← hee] at HG HL ⊢
 clear hE hr hl hd hm hee hL hk
 unfold frm at HG
 go_enter Tryz.func186, Tryz.ntmps186
 go_wp2_with (first | (go_at_call 213; refine HF.out.mono ?_; rintro e w1 ⟨rfl, hbn⟩; obtain ⟨l1, l2, l3⟩ := HL.out _ hbn; replace hb := bnx hb hbn; clear hbn) | (go_at_call 214; refine ((HG.out _ hb)).mono ?_; rintro e w' ⟨rfl, hbn⟩; replace hb := bnx hb hbn; clear hbn))
 go_ret2
 exact ⟨rfl, hb⟩
set_option maxRecDepth 100000 in
set_option maxHeartbeats 1000000 in
theorem Cost_bad (k : Nat) (hk : k < 8) (A : Option Addr) (cap : Nat) (l : List Int) (w : World) (hL : LaidB w) (hr : (Kd.int .i64).C w A l.length l) (hl : l.length ≤ 1000) (hA : areB l = true) (hf : fitB k l = false) :
  Calls Tryz.prog 187 #[.int .i64 k, .slice A l.length cap] w fun e w' => e = .returned (.tuple #[.int .i64 0, .int .i64 4]) ∧ Below w.heap.size w w' := by
 have hb := Below.refl w.heap.size w
 have HF := bchecked_calls k A cap l w (by omega) (by omega) hr (by omega)
 have hE : bkE k l = 0 := by unfold bkE; rw [if_pos (show isB (k : Int) = true from decide_eq_true ⟨by omega, by omega⟩), if_pos hA]
 rw [hE] at HF
 replace HF := Aside0.mk HF
 have HG := fun (W : World) (hb : Below w.heap.size w W) => fits_calls (dimB k) (mostB k) (escB k) A cap l W (dimB_bd k) (mostB_bd k) (Kd.C_below hr hb) (by omega) hA
 have HL := Aside0.mk (fun (W : World) (hb : Below w.heap.size w W) => (hL.below hb).form k hk)
 have hu := Tryz.underlying194
 have hkI : (k : Int) < 8 := by omega
 unfold fitB at hf
 rw [hf] at HG
 replace HG := Aside0.mk HG
 obtain ⟨d, hd⟩ : ∃ d, d = dimB k := ⟨_, rfl⟩
 obtain ⟨m, hm⟩ : ∃ m, m = mostB k := ⟨_, rfl⟩
 obtain ⟨e, hee⟩ : ∃ e, e = escB k := ⟨_, rfl⟩
 rw [← hd, ← hm, ← hee] at HG HL
 clear hE hr hl hd hm hee hL hk hf
 unfold frm at HG
 go_enter Tryz.func187, Tryz.ntmps187
 go_wp2_with (first | (go_at_call 213; refine HF.out.mono ?_; rintro e w1 ⟨rfl, hbn⟩; obtain ⟨l1, l2, l3⟩ := HL.out _ hbn; replace hb := bnx hb hbn; clear hbn) | (go_at_call 214; refine ((HG.out _ hb)).mono ?_; rintro e w' ⟨rfl, hbn⟩; replace hb := bnx hb hbn; clear hbn))
 go_ret2
 exact ⟨rfl, hb⟩
set_option maxRecDepth 100000 in
set_option maxHeartbeats 1000000 in
theorem Cost_yes (k : Nat) (hk : k < 8) (A : Option Addr) (cap : Nat) (l : List Int) (w : World) (hL : LaidB w) (hr : (Kd.int .i64).C w A l.length l) (hl : l.length ≤ 1000) (hcap : l.length ≤ cap) (hA : areB l = true) (hf : fitB k l = true) :
  Calls Tryz.prog 187 #[.int .i64 k, .slice A l.length cap] w fun e w' => e = .returned (.tuple #[.int .i64 (costB k l), .int .i64 0]) ∧ Below w.heap.size w w' := by
 have hb := Below.refl w.heap.size w
 have HF := bchecked_calls k A cap l w (by omega) (by omega) hr (by omega)
 have hE : bkE k l = 0 := by unfold bkE; rw [if_pos (show isB (k : Int) = true from decide_eq_true ⟨by omega, by omega⟩), if_pos hA]
 rw [hE] at HF
 replace HF := Aside0.mk HF
 have HG := fun (W : World) (hb : Below w.heap.size w W) => fits_calls (dimB k) (mostB k) (escB k) A cap l W (dimB_bd k) (mostB_bd k) (Kd.C_below hr hb) (by omega) hA
 have HC := fun (W : World) (hb : Below w.heap.size w W) => cost_calls k hk A cap l W (hL.below hb) (Kd.C_below hr hb) hl hcap hA
 have HL := Aside0.mk (fun (W : World) (hb : Below w.heap.size w W) => (hL.below hb).form k hk)
 have hu := Tryz.underlying194
 have hkI : (k : Int) < 8 := by omega
 unfold fitB at hf
 rw [hf] at HG
 replace HG := Aside0.mk HG
 obtain ⟨c, hc⟩ : ∃ c, c = costB k l := ⟨_, rfl⟩
 rw [← hc] at HC ⊢
 replace HC := Aside0.mk HC
 obtain ⟨d, hd⟩ : ∃ d, d = dimB k := ⟨_, rfl⟩
 obtain ⟨m, hm⟩ : ∃ m, m = mostB k := ⟨_, rfl⟩
 obtain ⟨e, hee⟩ : ∃ e, e = escB k := ⟨_, rfl⟩
 rw [← hd, ← hm, ← hee] at HG HL
 clear hE hr hl hd hm hee hL hk hf hc
 unfold frm at HG
 go_enter Tryz.func187, Tryz.ntmps187
 go_wp2_with (first | (go_at_call 213; refine HF.out.mono ?_; rintro e w1 ⟨rfl, hbn⟩; obtain ⟨l1, l2, l3⟩ := HL.out _ hbn; replace hb := bnx hb hbn; clear hbn) | (go_at_call 214; refine ((HG.out _ hb)).mono ?_; rintro e w' ⟨rfl, hbn⟩; replace hb := bnx hb hbn; clear hbn) | (go_at_call 215; refine ((HC.out _ hb)).mono ?_; rintro e w' ⟨rfl, hbn⟩; replace hb := bnx hb hbn; clear hbn))
 go_ret2
 exact ⟨rfl, hb⟩
end Bk

namespace Bk
attribute [local go_sem] max2_int min2_int max_two min_two max_three min_three
open Q15
def lensI (k : Nat) : List Int := (tabL k).map fun (n : Nat) => (n : Int)
theorem lensI_len (k : Nat) : (lensI k).length = (tabL k).length := by simp [lensI]
theorem bytes_below (w : World) (e : TypeId) (s : ByteArray) : Below w.heap.size w (Go.Lib.bytesWorld w e s) := by
 unfold Go.Lib.bytesWorld World.freeze
 refine ⟨rfl, rfl, rfl, ?_, fun i hi => Go.Lib.bytesWorld_at_old w e s i hi⟩
 simp [World.alloc, World.drew, -World.alloc_eq, -World.drew_eq]
theorem bytes_at (w : World) (e : TypeId) (k i : Nat) (hk : k < 8) (hi : i < (tabL k).length) : (Go.Lib.bytesWorld w e (tabS k)).cell? ⟨w.heap.size, i, none⟩ = some (.int .u8 ((tabL k)[i] + 96)) := by
 unfold World.cell?
 rw [Go.Lib.bytesWorld_at_new]
 obtain ⟨b, hb, hx⟩ := tabS_at hk hi
 have h2 : i < (tabS k).size := by rw [tabS_size]; exact hi
 rw [getElem?_pos (tabS k) i h2] at hb
 injection hb with hb
 show (Go.Lib.bytesCells w e (tabS k))[i]? = _
 unfold Go.Lib.bytesCells
 rw [Array.getElem?_append_left (by simpa using h2), Array.getElem?_map]
 have h3 : (tabS k).data[i]? = some b := by
  rw [Array.getElem?_eq_getElem (show i < (tabS k).data.size from h2)]
  exact congrArg some hb
 rw [h3, Option.map_some, hx]
set_option maxRecDepth 100000 in
set_option maxHeartbeats 1000000 in
theorem lengths_calls (k : Nat) (hk : k < 8) (w : World) (hL : LaidB w) :
  Calls Tryz.prog 193 #[.int .i64 k] w fun e w' => ∃ v, e = .returned v ∧ (Kd.int .i64).R 3 w' w.heap.size (fun _ => True) v (lensI k) ∧ Below w.heap.size w w' := by
 have l4 := hL.tab k hk
 have hkI : (k : Int) < 8 := by omega
 have hc := Go.Lib.run_convert_string_bytes (P := Tryz.prog) w 9 107 5 (tabS k) (u := .string) Tryz.underlying9 Tryz.underlying107 Tryz.underlying5
 have hbb := bytes_below w 5 (tabS k)
 have hat := Aside0.mk (fun i hi => bytes_at w 5 k i hk hi)
 obtain ⟨W1, hW1⟩ : ∃ W1, W1 = Go.Lib.bytesWorld w 5 (tabS k) := ⟨_, rfl⟩
 obtain ⟨cp, hcp⟩ : ∃ cp, cp = grownCap w (tabS k).size 0 5 := ⟨_, rfl⟩
 obtain ⟨N, hN⟩ : ∃ N, N = (tabL k).length := ⟨_, rfl⟩
 rw [← hW1] at hbb hat hc
 rw [← hcp, tabS_size, ← hN] at hc
 have hN9 : N ≤ 256 := by
  rw [hN]
  have : ∀ k, k < 8 → (tabL k).length ≤ 256 := by decide +kernel
  exact this k hk
 have HT : Aside0 (∀ i (hi : i < (tabL k).length), (lensI k).take (i + 1) = (lensI k).take i ++ [((tabL k)[i] : Int)]) := ⟨fun i hi => by
  rw [List.take_add_one]
  congr 1
  unfold lensI
  rw [List.getElem?_map, List.getElem?_eq_getElem hi]
  rfl⟩
 have HB := Aside0.mk (tab_bd k hk)
 have hN' := Aside0.mk hN
 have hlen := Aside0.mk (lensI_len k)
 obtain ⟨S, hSe⟩ : ∃ S, S = tabS k := ⟨_, rfl⟩
 rw [← hSe] at l4 hc
 clear hL hW1 hcp hSe hN
 go_enter Tryz.func193, Tryz.ntmps193
 go_wp2
 go_loopw [3, 11] (fun o i wr => ∃ k1 : Nat, i = .int .i64 k1 ∧ k1 ≤ N ∧ Aside0 ((Kd.int .i64).R 3 wr W1.heap.size (fun _ => True) o ((lensI k).take k1)) ∧ Below W1.heap.size W1 wr) (fun _ i _ => N - (intOf i).toNat)
 case atStart => exact ⟨0, rfl, by omega, ⟨Kd.R_nil _ _ _ _ _⟩, Below.refl _ _⟩
 case round =>
  obtain ⟨i, rfl, hi, ho, hbL⟩ := hrel
  by_cases hlt : i < N
  ·have hlt2 : i < (tabL k).length := by rw [← hN'.out]; exact hlt
   have hcell := cnx (hat.out i hlt2) hbL
   have hT := Aside0.mk (HT.out i hlt2)
   have hbd := HB.out _ (List.getElem_mem hlt2)
   obtain ⟨n, hn⟩ : ∃ n : Nat, n = (tabL k)[i] := ⟨_, rfl⟩
   rw [← hn] at hT hcell hbd
   have hiI : (i : Int) < (N : Int) := by omega
   have f1 : IntKind.u8.wrap ((n : Int) + 96 - 97) = (n : Int) - 1 := by rw [show (n : Int) + 96 - 97 = (n : Int) - 1 by omega]; exact IntWalk.u8_in _ (by omega)
   have f2 : IntKind.i64.wrap ((n : Int) - 1) = (n : Int) - 1 := IntWalk.i64_in _ (by omega)
   have f3 : IntKind.i64.wrap ((n : Int) - 1 + 1) = (n : Int) := by rw [show (n : Int) - 1 + 1 = (n : Int) by omega]; exact IntWalk.i64_in _ (by omega)
   obtain ⟨Y, hY⟩ : ∃ Y, Y = (lensI k).take i := ⟨_, rfl⟩
   have hYl : Y.length ≤ 256 := by rw [hY, List.length_take]; omega
   rw [← hY] at ho hT
   clear hY hn hlt2
   go_wp2_with (first | (at_builtin; refine Kd.R_append (Kd.int .i64) (w0 := W1) W1.heap.size rfl (.tmp 15) (.tmp 20) 22 3 (.int .i64 0) 8 rfl Tryz.underlying22 info_int rfl (by decide) (by omega) u3 Y ((n : Int)) [.int .i64 ((n : Int))] (fun _ => True) (fun _ => False) rfl rfl rfl (fun _ hk => hk.elim) (fun _ _ => trivial) ho.out (Aside0.mk hbL).out (Aside0.mk hbL).out.size (by omega) ?_; intro v1 wA hoA hbA hgA hatA; have HOA := Aside0.mk hoA; have HBA := Aside0.mk hbA; clear hoA hbA hgA hatA))
   go_roundw
   case rel => exact ⟨i + 1, by go_num, by omega, ⟨by rw [hT.out]; exact HOA.out⟩, HBA.out⟩
   case measure => simp [intOf]; omega
  ·obtain rfl : i = N := by omega
   have hR := ho.out
   rw [List.take_of_length_le (by rw [hlen.out, ← hN'.out]; exact Nat.le_refl _)] at hR
   have hR2 := Aside0.mk hR
   clear hR ho
   go_wp2
   go_ret
   exact ⟨_, rfl, Kd.R_lower hR2.out hbb.size, bnx hbb hbL⟩
end Bk

namespace Pre
attribute [local go_sem] max2_int min2_int max_two min_two max_three min_three
open Q15
def wdRun (l : List Int) : List Nat → Int × Int → List (Int × Int) → List (Int × Int)
 | [], _, out => out
 | i :: is, s, out => wdRun l is (cdStep l s i) (out.set i (cdStep l s i))
theorem wdRun_eq (l : List Int) : ∀ (m k : Nat), k + m = (ordL l).length → wdRun l ((ordL l).drop k) (wdSt l k).1 (wdSt l k).2 = (wdSt l (ordL l).length).2
 | 0, k, h => by
  obtain rfl : k = (ordL l).length := by omega
  rw [List.drop_length]
  rfl
 | m + 1, k, h => by
  have hk : k < (ordL l).length := by omega
  rw [List.drop_eq_getElem_cons hk]
  have e : (ordL l)[k] = (ordL l).getD k 0 := by rw [List.getD_eq_getElem?_getD, List.getElem?_eq_getElem hk]; rfl
  rw [e]
  show wdRun l ((ordL l).drop (k + 1)) (wdSt l (k + 1)).1 (wdSt l (k + 1)).2 = _
  exact wdRun_eq l m (k + 1) (by omega)
def wordsOk (l : List Int) : Bool := ((wdRun l (ordL l) (0, 0) (List.replicate l.length (0, 0))).zip l).all fun x => decide (0 ≤ x.1.2 ∧ x.1.2 < 2 ^ x.2.toNat)
theorem words_lt {l : List Int} (h : wordsOk l = true) {s : Nat} (hs : s < l.length) : 0 ≤ rd (codesI l) s ∧ rd (codesI l) s < 2 ^ (rd l s).toNat := by
 have h1 := wdRun_eq l (ordL l).length 0 (by omega)
 unfold wordsOk at h
 have e0 : wdSt l 0 = ((0, 0), List.replicate l.length (0, 0)) := rfl
 rw [List.drop_zero, e0] at h1
 rw [h1] at h
 have hl : s < (wdSt l (ordL l).length).2.length := by rw [wdSt_len]; exact hs
 have h2 := List.all_eq_true.1 h (((wdSt l (ordL l).length).2)[s], l[s]) (by
  rw [List.mem_iff_getElem]
  exact ⟨s, by rw [List.length_zip]; omega, by simp⟩)
 simp only [decide_eq_true_eq] at h2
 have e1 : rd (codesI l) s = ((wdSt l (ordL l).length).2)[s].2 := by
  unfold rd codesI
  simp [List.getD_eq_getElem?_getD, hl]
 have e2 : rd l s = l[s] := by
  unfold rd
  simp [List.getD_eq_getElem?_getD, hs]
 rw [e1, e2]
 exact h2
end Pre
namespace Bk
attribute [local go_sem] max2_int min2_int max_two min_two max_three min_three
open Q15
set_option maxRecDepth 100000 in
theorem lens_pre : ∀ k, k < 8 → 0 < k → Pre.preE (lensI k) = 0 := by decide +kernel
theorem lens_pre0 : Pre.preE (lensI 0) ≠ 0 := by decide +kernel
end Bk

namespace Bk
attribute [local go_sem] max2_int min2_int max_two min_two max_three min_three
open Q15
open Runs Go.Shelf
open Q16 (cell_heap frozen_heap R_turn)
open Bts (Rws Row Blk Kp Wr WrP heap_kept)
attribute [local go_sem] Oper.semAt_some
def KeepB (B1 B2 : Nat) (A B : World) : Prop := B.heap[B1]? = A.heap[B1]? ∧ B.heap[B2]? = A.heap[B2]?
theorem KeepB.trans {B1 B2 : Nat} {A B C : World} (h : KeepB B1 B2 A B) (k : KeepB B1 B2 B C) : KeepB B1 B2 A C := ⟨k.1.trans h.1, k.2.trans h.2⟩
theorem KeepB.putObj {B1 B2 N : Nat} (h1 : B1 < N) (h2 : B2 < N) (W : World) (l : Nat) (o o' : Obj) (hl : N ≤ l) (ho : W.heap[l]? = some o) (hc : o.isCells = false) (hw : o.isWalk = false) : KeepB B1 B2 W (W.putObj l o') :=
 ⟨World.putObj_heap_other (by omega), World.putObj_heap_other (by omega)⟩
set_option maxRecDepth 100000 in
set_option maxHeartbeats 2000000 in
theorem groups1_runsB (F : Fence) (n : Nat) (hF : F.fn 221) (hro : F.round = none) (hn : 1 ≤ n) (B1 B2 : Nat) (A : Option Addr) (cap len d : Nat) (hd : 1 ≤ d ∧ d ≤ 4) (hl : len ≤ 1000000) (hcap : len ≤ cap) (hA : 0 < len → ∃ ad, A = some ad) (w : World)
  (c1 : w.cell? ⟨B1, 0, none⟩ = some (.int .i64 d)) (c2 : w.cell? ⟨B2, 0, none⟩ = some (.slice A len cap)) :
  SeqRuns0 F n Tryz.prog 221 #[.pointer (some ⟨B1, 0, none⟩), .pointer (some ⟨B2, 0, none⟩)] (fun k => #[gSl A (k * d) d]) (KeepB B1 B2) (len / d) w := fun L J W hW hY h0 => by
 have d1 := cnx c1 hW
 have d2 := cnx c2 hW
 have HY := Aside0.mk hY
 have HA := Aside0.mk hA
 have hlI : (len : Int) ≤ 1000000 := by omega
 have hcI : (len : Int) ≤ (cap : Int) := by omega
 have hdI : 1 ≤ (d : Int) ∧ (d : Int) ≤ 4 := by omega
 have hDV : Aside0 (∀ k p : Nat, p = k * d → (p + d ≤ len → k < len / d) ∧ (p ≤ len → ¬ p + d ≤ len → k = len / d)) := ⟨fun k p hp => by
  subst hp
  refine ⟨fun h => ?_, fun h1 h2 => ?_⟩
  ·have : k + 1 ≤ len / d := (Nat.le_div_iff_mul_le (by omega)).2 (by rw [Nat.add_mul]; omega)
   omega
  ·refine Nat.le_antisymm ((Nat.le_div_iff_mul_le (by omega)).2 h1) ?_
   have h3 : len / d < k + 1 := (Nat.div_lt_iff_lt_mul (by omega)).2 (by rw [Nat.add_mul]; omega)
   omega⟩
 clear hY c1 c2 hl hA
 refine callsIn_of_wp Tryz.func221 rfl hF ?_ hro
 simp only [Tryz.ntmps221, List.size_toArray, List.length_cons, List.length_nil, Nat.reduceAdd, Nat.reduceSub, Array.replicate_succ, Array.replicate_zero, List.push_toArray, List.append_toArray, List.nil_append, List.cons_append]
 gi_wp2
 gi_loopw [4] (fun i wr => ∃ k p : Nat, i = .int .i64 p ∧ p ≤ len ∧ Aside0 (p = k * d) ∧ wr.cell? ⟨B1, 0, none⟩ = some (.int .i64 d) ∧ wr.cell? ⟨B2, 0, none⟩ = some (.slice A len cap) ∧ Aside0 (J k wr)) (fun i _ => len - (intOf i).toNat)
 case atStart => exact ⟨0, 0, rfl, by omega, ⟨by omega⟩, d1, d2, ⟨h0⟩⟩
 case round =>
  obtain ⟨k, p, rfl, hp, hpk, e1, e2, hJ⟩ := hrel
  clear d1 d2
  have hpI : (p : Int) ≤ 1000000 := by omega
  by_cases hlt : p + d ≤ len
  ·have hltI : (p : Int) + (d : Int) ≤ (len : Int) := by omega
   obtain ⟨ad, rfl⟩ := HA.out (by omega)
   obtain ⟨fn, tmps, assign, body, hy, hR⟩ := HY.out k wr ((hDV.out k p hpk.out).1 hlt) hJ.out
   rw [← hpk.out] at hy
   have hT := Aside0.mk hlt
   have hR2 := Aside0.mk hR
   simp only [gSl] at hy
   clear hR hlt hp
   gi_wp2
   refine hR2.out.mono ?_
   rintro e W3 ⟨rfl, hJ3, hk3⟩
   have b1 := (cell_heap hk3.1).trans e1
   have b2 := (cell_heap hk3.2).trans e2
   replace hJ3 := Aside0.mk hJ3
   have hq9 : Aside0 (p + d = (k + 1) * d) := ⟨by rw [hpk.out, Nat.add_mul]; omega⟩
   clear hR2 e1 e2 hk3 hy
   gi_wp2
   go_roundw
   case rel => exact ⟨k + 1, p + d, by go_num, hT.out, hq9, b1, b2, hJ3⟩
   case measure => have := hT.out; simp [intOf]; omega
  ·have hnl : ¬ (p : Int) + (d : Int) ≤ (len : Int) := by omega
   have hK := Aside0.mk ((hDV.out k p hpk.out).2 hp hlt)
   clear hlt
   gi_wp2
   go_end0
   refine ⟨⟨_, rfl⟩, ?_⟩
   rw [← hK.out]
   exact hJ.out
def OwnB (p : Nat) (q : Option Nat) (W : World) (bs : List Blk) : Prop := ∀ b ∈ bs, W.heap[b.g]? = some (.cells b.cs b.t (0, 0)) ∧ b.g ≠ p ∧ some b.g ≠ q
theorem q_ne {q q' : Option Nat} {W : World} {g : Nat} (hq : q' = q ∨ ∃ g, q' = some g ∧ W.heap.size ≤ g) (hg : g < W.heap.size) (h : some g ≠ q) : some g ≠ q' := by
 rcases hq with e | ⟨z, e, hz⟩
 ·rw [e]; exact h
 ·rw [e]
  intro h2
  have := Option.some.inj h2
  omega
theorem OwnB.kp {p : Nat} {q q' : Option Nat} {W W' : World} {bs : List Blk} (h : OwnB p q W bs) (hk : Kp p q W W') (hq : q' = q ∨ ∃ g, q' = some g ∧ W.heap.size ≤ g) : OwnB p q' W' bs := fun b hb => by
 obtain ⟨h1, h2, h3⟩ := h b hb
 exact ⟨hk.blk h1 h2 h3, h2, q_ne hq (Array.getElem?_eq_some_iff.1 h1).1 h3⟩
def FarC (p : Nat) (q : Option Nat) (W : World) (A : Option Addr) (n : Nat) (xs : List Int) : Prop := (Kd.int .i64).C W A n xs ∧ ∀ ad, A = some ad → 0 < n → ad.block ≠ p ∧ some ad.block ≠ q
theorem FarC.kp {p : Nat} {q q' : Option Nat} {W W' : World} {A : Option Addr} {n : Nat} {xs : List Int} (h : FarC p q W A n xs) (hk : Kp p q W W') (hq : q' = q ∨ ∃ g, q' = some g ∧ W.heap.size ≤ g) : FarC p q' W' A n xs := by
 obtain ⟨h1, h2⟩ := h
 have h3 := Kd.reads_of_C (enc := Value.int .i64) (h1 := fun _ => rfl) (d := (0 : Int)) h1
 obtain ⟨r1, r2, r3⟩ := h3
 refine ⟨Kd.C_of_reads (d := (0 : Int)) ⟨r1, r2, fun h0 => ?_⟩, fun ad e h0 => ?_⟩
 ·obtain ⟨ad, e, hc⟩ := r3 h0
  obtain ⟨g1, g2⟩ := h2 ad e h0
  exact ⟨ad, e, fun j hj => hk.cell (hc j hj) (by rw [add_block]; exact g1) (by rw [add_block]; exact g2)⟩
 ·obtain ⟨g1, g2⟩ := h2 ad e h0
  obtain ⟨ad', e', hc⟩ := r3 h0
  rw [e] at e'
  cases e'
  have := World.block_lt_of_cell? _ _ (hc 0 h0)
  rw [add_block] at this
  exact ⟨g1, q_ne hq this g2⟩
theorem FarC.step {p : Nat} {q : Option Nat} {W W' : World} {A : Option Addr} {n : Nat} {xs : List Int} (h : FarC p q W A n xs) (hb : Below W.heap.size W W') : FarC p q W' A n xs := ⟨Kd.C_below h.1 hb, h.2⟩
theorem OwnB.step {p : Nat} {q : Option Nat} {W W' : World} {bs : List Blk} (h : OwnB p q W bs) (hb : Below W.heap.size W W') : OwnB p q W' bs := h.kp (Kp.of_below hb p q) (.inl rfl)
theorem WrP.step {base p : Nat} {q : Option Nat} {L : List Int} {W W1 W2 : World} (h : WrP base p q L W W1) (hb : Below W1.heap.size W1 W2) : WrP base p q L W W2 := by
 obtain ⟨q1, h1, h2, h3⟩ := h
 exact ⟨q1, h1.step hb, h2, h3.then_below (hb.mono h3.size)⟩
theorem ownB_of {base p : Nat} {q : Option Nat} {L : List Int} {w W : World} {bs : List Blk} (hw : Wr w base p q L) (h : ∀ b ∈ bs, W.heap[b.g]? = some (.cells b.cs b.t (0, 0)) ∧ w.heap.size ≤ b.g) : OwnB p q W bs := fun b hb => by
 obtain ⟨h1, h2⟩ := h b hb
 exact ⟨h1, by have := Bts.Wr.plt hw; omega, fun e => by have := (Bts.Wr.qbase hw _ e.symm).2; omega⟩
theorem farC_of {base p : Nat} {q : Option Nat} {L : List Int} {w W : World} {A : Option Addr} {n : Nat} {xs : List Int} (hw : Wr w base p q L) (h : (Kd.int .i64).C W A n xs) (hA : ∀ ad, A = some ad → w.heap.size ≤ ad.block) : FarC p q W A n xs :=
 ⟨h, fun ad e _ => ⟨by have := Bts.Wr.plt hw; have := hA ad e; omega, fun e2 => by have := (Bts.Wr.qbase hw _ e2.symm).2; have := hA ad e; omega⟩⟩
theorem WrP.turn {base p : Nat} {q : Option Nat} {L : List Int} {w W W1 : World} {row : Option Nat} (h : WrP base p q L w W) (hg : W.grownBy W1 row) (hr : ∀ r, row = some r → w.heap.size ≤ r ∧ ∃ o : Obj, W.heap[r]? = some o ∧ o.isCells = false) : WrP base p q L w W1 := by
 obtain ⟨q', e0, e1, e2⟩ := h
 exact ⟨q', e0.turn hg (fun r e => (hr r e).2), e1, e2.grown hg (fun r e => (hr r e).1)⟩
theorem WrP.next {base p : Nat} {q q1 : Option Nat} {L : List Int} {W W1 W2 : World} (hq : q1 = q ∨ ∃ g, q1 = some g ∧ W.heap.size ≤ g) (hk : Kp p q W W1) (h2 : WrP base p q1 L W1 W2) : WrP base p q L W W2 := Bts.WrP.trans hk hq h2
theorem Put_room {base p : Nat} {q : Option Nat} {L : List Int} {v n : Nat} {w : World} (hw : Wr w base p q L) (hn : n ≤ 32) (hv : v < 2 ^ n) (hr : L.length + n ≤ 1048576) :
  Calls Tryz.prog 84 #[.pointer (some ⟨p, 0, none⟩), .int .i64 v, .int .i64 n] w fun e w' => ∃ E : Int, e = .returned (.int .i64 E) ∧ WrP base p q (L ++ Bts.numB v n) w w' :=
 (Bts.Put_calls base p q L v n w hw hn hv).mono fun e w' ⟨he, h⟩ => ⟨_, he, by
  have e2 : Bts.roomL L (Bts.numB v n) = L ++ Bts.numB v n := by unfold Bts.roomL; rw [if_neg (by rw [Bts.numB_len]; omega)]
  rw [← e2]; exact h⟩
theorem Gamma_room {base p : Nat} {q : Option Nat} {L : List Int} {v : Nat} {w : World} (hw : Wr w base p q L) (h0 : 1 ≤ v) (h1 : v < 2097152) (hr : (L.length : Int) + gamI v ≤ 1048576) :
  Calls Tryz.prog 148 #[.pointer (some ⟨p, 0, none⟩), .int .i64 v] w fun e w' => ∃ E : Int, e = .returned (.int .i64 E) ∧ WrP base p q (L ++ Bts.gamB v) w w' :=
 (Bts.Gamma_calls base p q L v w hw h0 h1).mono fun e w' ⟨he, h⟩ => ⟨_, he, by
  have e2 : Bts.roomL L (Bts.gamB v) = L ++ Bts.gamB v := by
   unfold Bts.roomL
   rw [if_neg]
   rw [Bts.gamB_len]
   unfold gamI at hr
   rw [Int.toNat_natCast] at hr
   omega
  rw [← e2]; exact h⟩
theorem gamB_gamI (v : Nat) : ((Bts.gamB v).length : Int) = gamI v := by
 rw [Bts.gamB_len]
 unfold gamI
 rw [Int.toNat_natCast]
 push_cast
 rfl
theorem costTo_mono {k : Nat} (hk : k < 8) {l : List Int} (h : areB l = true) {i j : Nat} (hij : i ≤ j) : costTo k l i ≤ costTo k l j := by
 induction j with
 | zero =>
      obtain rfl : i = 0 := by omega
      exact Int.le_refl _
 | succ j ih =>
  by_cases e : i = j + 1
  ·rw [e]; exact Int.le_refl _
  ·have h1 := ih (by omega)
   have h2 := gCost_bd hk (g := grpL (dimB k) l j) (by unfold grpL; rw [List.length_take]; have := dimB_bd k; omega) (grp_are h)
   simp only [costTo]
   omega
theorem sum_mono {f : Int → Int} {g : List Int} (h : ∀ x ∈ g, 0 ≤ f x) {i j : Nat} (hij : i ≤ j) : ((g.take i).map f).sum ≤ ((g.take j).map f).sum := by
 induction g generalizing i j with
 | nil => simp
 | cons x g ih =>
  cases j with
  | zero =>
       obtain rfl : i = 0 := by omega
       exact Int.le_refl _
  | succ j =>
   cases i with
   | zero =>
    have h1 := ih (fun y hy => h y (by simp [hy])) (i := 0) (j := j) (by omega)
    have h2 := h x (by simp)
    simp only [List.take_zero, List.map_nil, List.sum_nil, List.take_succ_cons, List.map_cons, List.sum_cons] at h1 ⊢
    omega
   | succ i =>
    have h1 := ih (fun y hy => h y (by simp [hy])) (i := i) (j := j) (by omega)
    simp only [List.take_succ_cons, List.map_cons, List.sum_cons]
    omega
theorem far_grp {p : Nat} {q : Option Nat} {W : World} {ad : Addr} {l : List Int} {d j : Nat} (hd : 1 ≤ d) (h : FarC p q W (some ad) l.length l) (hj : j * d + d ≤ l.length) : FarC p q W (some (ad.add (j * d))) (grpL d l j).length (grpL d l j) :=
 ⟨grp_C hd h.1 hj, fun a e _ => by
  injection e with e
  rw [← e, add_block]
  exact h.2 ad rfl (by omega)⟩
theorem Codes_any (k : Nat) (hk : k < 8) (A : Option Addr) (cap : Nat) (w : World) (hr : (Kd.int .i64).C w A (lensI k).length (lensI k)) :
  Calls Tryz.prog 151 #[.slice A (lensI k).length cap] w fun e w' => ∃ (A' : Option Addr) (n c : Nat) (E : Int), e = .returned (.tuple #[.slice A' n c, .int .i64 E]) ∧ (0 < k → n = (lensI k).length ∧ (Kd.int .i64).C w' A' n (Pre.codesI (lensI k)) ∧ ∀ ad, A' = some ad → w.heap.size ≤ ad.block) ∧ Below w.heap.size w w' := by
 have hl : (lensI k).length ≤ 1000000 := by
  rw [lensI_len]
  have : ∀ k, k < 8 → (tabL k).length ≤ 256 := by decide +kernel
  have := this k hk
  omega
 by_cases h0 : 0 < k
 ·refine (Pre.Codes_yes A cap (lensI k) w hr (lens_pre k hk h0)).mono ?_
  rintro e w' ⟨v, rfl, hR, hb⟩
  have hbd := (Kd.R_bound hR).1
  obtain ⟨A', c, rfl, _, hC⟩ := Kd.R_reads hR
  rw [Pre.codesI_len] at hC
  exact ⟨A', _, c, 0, rfl, fun _ => ⟨Pre.codesI_len _, by rw [Pre.codesI_len]; exact hC, fun ad e => by subst e; exact (hbd ad.block rfl).2.1⟩, hb⟩
 ·obtain rfl : k = 0 := by omega
  refine (Pre.Codes_no A cap (lensI 0) w hr hl lens_pre0).mono ?_
  rintro e w' ⟨rfl, hb⟩
  exact ⟨none, 0, 0, _, rfl, fun h => absurd h (by omega), hb⟩
end Bk

end Go.Proofs.YtnflnicdjioflaaGreatDoor
