/- A part of the proof. -/
import Derived.Test.YtnflnicdjioflaaGreatDoorQmad
set_option linter.unusedVariables false
set_option linter.unusedSimpArgs false
namespace Go.Proofs.YtnflnicdjioflaaGreatDoor
open Go.RowKit Go.Proofs.YtnflnicdjioflaaGreatDoorW.PrintWords Go.Proofs.YtnflnicdjioflaaGreatDoorW.PrintLast Go.Proofs.YtnflnicdjioflaaGreatDoorW.PrintMore
namespace Q15
attribute [local go_sem] max2_int min2_int max_two min_two max_three min_three
set_option maxHeartbeats 1000000 in
theorem quantum_calls (x c : Int) (w : World) (hx0 : 0 ≤ x) (hx1 : x ≤ 268435456) (hc0 : 0 ≤ c) (hc9 : c ≤ 2097152) :
  Calls Tryz.prog 106 #[.int .i64 x, .int .i64 c] w fun e w' => e = .returned (.int .i64 (qn x c)) ∧ Below w.heap.size w w' := by
 obtain ⟨q, hq⟩ : ∃ q, q = fst (fun k => decide (V x k ≥ c)) 0 1023 := ⟨_, rfl⟩
 have hqb : 0 ≤ q ∧ q ≤ 1023 := by rw [hq]; exact fst_bd _ (by omega)
 have hV : ∀ a b, 0 ≤ a → a ≤ b → b < 1023 → V x a ≤ V x b := fun a b h0 h h1 => V_mono hx0 h0 h (by omega)
 have HF : ∀ W : World, W.cell? ⟨w.heap.size, 0, none⟩ = some (.int .i64 x) → W.cell? ⟨w.heap.size + 1, 0, none⟩ = some (.int .i64 c) →
   Calls Tryz.prog 160 #[.int .i64 0, .int .i64 1023, .func (.func 161) #[] #[.pointer (some ⟨w.heap.size, 0, none⟩), .pointer (some ⟨w.heap.size + 1, 0, none⟩)]] W
    fun e w' => e = .returned (.int .i64 q) ∧ Below W.heap.size W w' := fun W h1 h2 => by
  rw [hq]
  refine first_calls _ #[] _ (fun k => decide (V x k ≥ c)) 0 1023 W (fun _ _ => by kernel_rfl) (by omega) (by omega) (by omega) (fun k k0 k1 W' hb => ?_) (fun a b a0 ab b1 ha => ?_)
  ·exact q1_calls _ _ x c k W' (cnx h1 hb) (cnx h2 hb) hx0 hx1 k0 (by omega)
  ·have := hV a b a0 ab b1
   simp only [decide_eq_true_eq] at ha ⊢
   omega
 have HN : ∀ (k : Int) (W : World), 0 ≤ k → k ≤ 1023 → W.cell? ⟨w.heap.size, 0, none⟩ = some (.int .i64 x) → W.cell? ⟨w.heap.size + 1, 0, none⟩ = some (.int .i64 c) →
   Calls Tryz.prog 163 #[.int .i64 k, .pointer (some ⟨w.heap.size, 0, none⟩), .pointer (some ⟨w.heap.size + 1, 0, none⟩)] W
    fun e w' => e = .returned (.int .i64 (absI (V x k - c))) ∧ Below W.heap.size W w' := fun k W k0 k1 h1 h2 => q2_calls _ _ x c k W h1 h2 hx0 hx1 k0 k1 hc0 hc9
 have HG : ∀ (B : Nat) (W : World), 1 ≤ q → W.cell? ⟨w.heap.size, 0, none⟩ = some (.int .i64 x) → W.cell? ⟨B, 0, none⟩ = some (.int .i64 (V x (q - 1))) →
   Calls Tryz.prog 160 #[.int .i64 0, .int .i64 (q - 1), .func (.func 164) #[] #[.pointer (some ⟨w.heap.size, 0, none⟩), .pointer (some ⟨B, 0, none⟩)]] W
    fun e w' => e = .returned (.int .i64 (fst (fun k => decide (V x k ≥ V x (q - 1))) 0 (q - 1))) ∧ Below W.heap.size W w' := fun B W q1 h1 h2 => by
  refine first_calls _ #[] _ (fun k => decide (V x k ≥ V x (q - 1))) 0 (q - 1) W (fun _ _ => by kernel_rfl) (by omega) (by omega) (by omega) (fun k k0 k1 W' hb => ?_) (fun a b a0 ab b1 ha => ?_)
  ·exact q3_calls _ _ x _ k W' (cnx h1 hb) (cnx h2 hb) hx0 hx1 k0 (by omega)
  ·have := hV a b a0 ab (by omega)
   simp only [decide_eq_true_eq] at ha ⊢
   omega
 have hqn : qn x c = if q = 0 then 0 else if absI (V x (q - 1) - c) ≤ absI (V x q - c) then fst (fun k => decide (V x k ≥ V x (q - 1))) 0 (q - 1) else q := by unfold qn; rw [← hq]
 obtain ⟨W1, hW1⟩ : ∃ W1, W1 = (w.alloc (.cells #[.int .i64 x] 118)).alloc (.cells #[.int .i64 c] 3) := ⟨_, rfl⟩
 have hb0 : Below w.heap.size w W1 := by rw [hW1]; exact ((Below.refl _ _).alloc (Nat.le_refl _) _).alloc (by simp) _
 have k1 : W1.cell? ⟨w.heap.size, 0, none⟩ = some (.int .i64 x) := by rw [hW1]; simp
 have k2 : W1.cell? ⟨w.heap.size + 1, 0, none⟩ = some (.int .i64 c) := by rw [hW1]; simp
 have HQN := Aside0.mk hqn
 replace HF := Aside0.mk HF
 replace HN := Aside0.mk HN
 replace HG := Aside0.mk HG
 clear hV hqn hq
 go_enter Tryz.func106, Tryz.ntmps106
 go_wp2_with fail
 rw [← hW1]
 refine (HF.out W1 k1 k2).mono ?_
 rintro e w1 ⟨rfl, hb1⟩
 have m1 := cnx k1 hb1
 have m2 := cnx k2 hb1
 have hB1 := bnx hb0 hb1
 clear hW1
 by_cases hq0 : q = 0
 ·subst hq0
  go_wp2
  go_ret
  exact ⟨ret_int (by rw [HQN.out]; rfl), hB1⟩
 ·have hq1 : 1 ≤ q := by omega
  have hqe : (q == 0) = false := beq_eq_false_iff_ne.2 hq0
  obtain ⟨d1, hd1⟩ : ∃ d1, d1 = absI (V x (q - 1) - c) := ⟨_, rfl⟩
  obtain ⟨d2, hd2⟩ : ∃ d2, d2 = absI (V x q - c) := ⟨_, rfl⟩
  have N1 := fun W => HN.out (q - 1) W (by omega) (by omega)
  have N2 := fun W => HN.out q W (by omega) (by omega)
  rw [← hd1] at N1
  rw [← hd2] at N2
  have hq2 := HQN.out
  rw [if_neg hq0, ← hd1, ← hd2] at hq2
  have HQ2 := Aside0.mk hq2
  replace N1 := Aside0.mk N1
  replace N2 := Aside0.mk N2
  clear hq2 hd1 hd2 HQN
  go_wp2_with fail
  refine (N1.out w1 m1 m2).mono ?_
  rintro e w2 ⟨rfl, hb2⟩
  have n1 := cnx m1 hb2
  have n2 := cnx m2 hb2
  have hB2 := bnx hB1 hb2
  go_wp2_with fail
  refine (N2.out w2 n1 n2).mono ?_
  rintro e w3 ⟨rfl, hb3⟩
  have p1 := cnx n1 hb3
  have hB3 := bnx hB2 hb3
  by_cases hd : d1 ≤ d2
  ·have hq3 := HQ2.out
   rw [if_pos hd] at hq3
   have HQ3 := Aside0.mk hq3
   clear hq3 HQ2
   go_wp2_with fail
   refine (xvalue_calls x (q - 1) _ hx0 hx1 (by omega) (by omega)).mono ?_
   rintro e w4 ⟨rfl, hb4⟩
   have hv := V_bd (q - 1) hx0
   obtain ⟨v, hv'⟩ : ∃ v, v = V x (q - 1) := ⟨_, rfl⟩
   have G := HG.out
   rw [← hv'] at hv G ⊢
   replace G := Aside0.mk G
   replace HQ3 := HQ3.out
   rw [← hv'] at HQ3
   replace HQ3 := Aside0.mk HQ3
   have r1 := cnx p1 hb4
   have hB4 := bnx hB3 hb4
   clear hv' HG
   go_wp2_with fail
   refine (G.out w4.heap.size (w4.alloc (.cells #[.int .i64 v] 3)) hq1 (cnx r1 ((Below.refl _ _).alloc (Nat.le_refl _) _)) (by simp)).mono ?_
   rintro e w5 ⟨rfl, hb5⟩
   go_wp2
   go_ret
   exact ⟨ret_int (by rw [HQ3.out]), bnx (hB4.alloc hB4.size _) hb5⟩
  ·have hq3 := HQ2.out
   rw [if_neg hd] at hq3
   have HQ3 := Aside0.mk hq3
   clear hq3 HQ2
   go_wp2
   go_ret
   exact ⟨ret_int (by rw [HQ3.out]), hB3⟩
theorem qn_bd {x c : Int} (_ : 0 ≤ x) : 0 ≤ qn x c ∧ qn x c ≤ 1023 := by
 unfold qn
 have h := fst_bd (fun k => decide (V x k ≥ c)) (show (0 : Int) ≤ 1023 by omega)
 generalize fst (fun k => decide (V x k ≥ c)) 0 1023 = q at h
 dsimp only
 split
 ·omega
 ·split
  ·have := fst_bd (fun k => decide (V x k ≥ V x (q - 1))) (show (0 : Int) ≤ q - 1 by omega)
   omega
  ·omega
end Q15

namespace Q15
attribute [local go_sem] max2_int min2_int max_two min_two max_three min_three
theorem rd_nat (l : List Int) (k : Nat) (h : k < l.length) : rd l k = l[k] := by unfold rd; simp [List.getD_eq_getElem?_getD, h]
theorem rd_mem (l : List Int) (k : Nat) (h : k < l.length) : rd l k ∈ l := by rw [rd_nat l k h]; exact List.getElem_mem _
theorem take_rd (l : List Int) (k : Nat) (h : k < l.length) : l.take (k + 1) = l.take k ++ [rd l k] := by rw [rd_nat l k h, List.take_succ_eq_append_getElem h]
theorem el_at {w w1 : World} {A : Option Addr} {l : List Int} (hr : (Kd.int .i64).C w A l.length l) (hb : Below w.heap.size w w1) {k : Nat} (hk : k < l.length) :
  ∃ ad, A = some ad ∧ w1.cell? (ad.add k) = some (.int .i64 (rd l k)) := by
 obtain ⟨ad, e, h⟩ := Kd.at_int hr (k : Nat) (by omega) (by omega)
 exact ⟨ad, e, cnx h hb⟩
theorem info_int : (Tryz.prog.info? 3).map (fun i => (i.zero, i.size, i.bytes)) = some (some (.int .i64 0), 1, 8) := by kernel_rfl
set_option maxHeartbeats 400000 in
theorem all_calls (g : Nat) (fs cs : Array Value) (p : Int → Bool) (A : Option Addr) (cap : Nat) (l : List Int) (w : World) (eg : Enters g) (hr : (Kd.int .i64).C w A l.length l) (hl : l.length ≤ 1099511627776)
  (hp : ∀ x ∈ l, FnBool g fs cs w x (p x)) :
  Calls Tryz.prog 158 #[.slice A l.length cap, .func (.func g) fs cs] w fun e w' => e = .returned (.bool (l.all p)) ∧ Below w.heap.size w w' := by
 have HP := Aside0.mk hp
 have HR := Aside0.mk hr
 clear hp hr
 unfold Enters at eg
 go_enter Tryz.func158, Tryz.ntmps158
 go_wp2
 go_loopw [9] (fun i wr => ∃ k : Nat, i = .int .i64 k ∧ k ≤ l.length ∧ Aside0 ((l.take k).all p = true) ∧ Below w.heap.size w wr) (fun i _ => l.length - (intOf i).toNat)
 case atStart => exact ⟨0, rfl, by omega, ⟨by simp⟩, Below.refl _ _⟩
 case round =>
  obtain ⟨k, rfl, hk, ha, hb⟩ := hrel
  by_cases hlt : k < l.length
  ·obtain ⟨ad, rfl, hcell⟩ := el_at HR.out hb hlt
   have hc := HP.out _ (rd_mem l k hlt) wr hb
   have HT := Aside0.mk (take_rd l k hlt)
   have HRD := Aside0.mk (rd_mem l k hlt)
   obtain ⟨x, hx⟩ : ∃ x, x = rd l k := ⟨_, rfl⟩
   rw [← hx] at hcell hc HT HRD
   clear hx
   cases hpm : p x with
   | true =>
    rw [hpm] at hc
    have HC := Aside0.mk hc
    have hpm := Aside0.mk hpm
    clear hc
    go_wp2_with (go_at_fn g; refine HC.out.mono ?_; rintro e w' ⟨rfl, hb1⟩)
    go_roundw
    case rel => exact ⟨k + 1, by go_num, by omega, ⟨by rw [HT.out, List.all_append, ha.out]; simp [hpm.out]⟩, bnx hb hb1⟩
    case measure => simp [intOf]; omega
   | false =>
    rw [hpm] at hc
    have HC := Aside0.mk hc
    have hpm := Aside0.mk hpm
    clear hc
    go_wp2_with (go_at_fn g; refine HC.out.mono ?_; rintro e w' ⟨rfl, hb1⟩)
    go_ret
    refine ⟨?_, bnx hb hb1⟩
    rw [show l.all p = false from List.all_eq_false.2 ⟨x, HRD.out, by rw [hpm.out]; simp⟩]
    rfl
  ·obtain rfl : k = l.length := by omega
   go_wp2
   go_ret
   refine ⟨?_, hb⟩
   have := ha.out
   rw [List.take_length] at this
   rw [this]
   rfl
set_option maxHeartbeats 400000 in
theorem mapped_calls (g : Nat) (fs cs : Array Value) (f : Int → Int) (A : Option Addr) (cap : Nat) (l : List Int) (w : World) (eg : Enters g) (hr : (Kd.int .i64).C w A l.length l) (hl : l.length ≤ 1099511627776)
  (hp : ∀ x ∈ l, FnInt g fs cs w x (f x)) :
  Calls Tryz.prog 103 #[.slice A l.length cap, .func (.func g) fs cs] w fun e w' => ∃ v : Value, e = .returned v ∧ (Kd.int .i64).R 3 w' w.heap.size (fun _ => True) v (l.map f) ∧ Below w.heap.size w w' := by
 have HP := Aside0.mk hp
 have HR := Aside0.mk hr
 clear hp hr
 unfold Enters at eg
 go_enter Tryz.func103, Tryz.ntmps103
 go_wp2
 go_loopw [5, 10] (fun o i wr => ∃ k : Nat, i = .int .i64 k ∧ k ≤ l.length ∧ Aside0 ((Kd.int .i64).R 3 wr w.heap.size (fun _ => True) o ((l.take k).map f)) ∧ Below w.heap.size w wr) (fun _ i _ => l.length - (intOf i).toNat)
 case atStart => exact ⟨0, rfl, by omega, ⟨Kd.R_nil _ _ _ _ _⟩, Below.refl _ _⟩
 case round =>
  obtain ⟨k, rfl, hk, ho, hb⟩ := hrel
  by_cases hlt : k < l.length
  ·obtain ⟨ad, rfl, hcell⟩ := el_at HR.out hb hlt
   have hc := HP.out _ (rd_mem l k hlt) wr hb
   have HT := Aside0.mk (take_rd l k hlt)
   obtain ⟨x, hx⟩ : ∃ x, x = rd l k := ⟨_, rfl⟩
   rw [← hx] at hcell hc HT
   clear hx
   have HC := Aside0.mk hc
   clear hc
   obtain ⟨y, hy⟩ : ∃ y, y = (l.take k).map f := ⟨_, rfl⟩
   have hyl : y.length ≤ 1099511627776 := by rw [hy]; simp; omega
   rw [← hy] at ho
   have HY := Aside0.mk hy
   clear hy
   go_wp2_with (first | (go_at_fn g; refine HC.out.mono ?_; rintro e w' ⟨rfl, hb1⟩; have HO1 := Aside0.mk (Kd.R_below ho.out hb1); have HB1 := Aside0.mk (bnx hb hb1); clear ho hb hb1) | (at_builtin; refine Kd.R_append (Kd.int .i64) (w0 := w) w.heap.size rfl (.tmp 14) (.tmp 18) 22 3 (.int .i64 0) 8 rfl Tryz.underlying22 info_int rfl (by decide) (by omega) u5 y (f x) [.int .i64 (f x)] (fun _ => True) (fun _ => False) rfl rfl rfl (fun _ hk => hk.elim) (fun _ _ => trivial) HO1.out HB1.out HB1.out.size (by omega) ?_; intro v1 wA hoA hbA hgA hatA; have HOA := Aside0.mk hoA; have HBA := Aside0.mk hbA; clear hoA hbA hgA hatA))
   go_roundw
   case rel => exact ⟨k + 1, by go_num, by omega, ⟨by rw [HT.out, List.map_append, ← HY.out]; exact HOA.out⟩, HBA.out⟩
   case measure => simp [intOf]; omega
  ·obtain rfl : k = l.length := by omega
   rw [List.take_length] at ho
   go_wp2
   go_ret
   exact ⟨_, rfl, ho.out, hb⟩
end Q15

namespace Q21
attribute [local go_sem] max2_int min2_int max_two min_two max_three min_three
open Q15
def isDiv (sh : Bool) (g : List Int) : Bool := if sh then decide (g.length ≤ 8) && g.all (fun n => decide (1 ≤ n ∧ n ≤ 8)) && decide (g.sum = 8) else decide (g.length = 0)
theorem isDiv_iff {g : List Int} : isDiv true g = true ↔ g.length ≤ 8 ∧ (∀ n ∈ g, 1 ≤ n ∧ n ≤ 8) ∧ g.sum = 8 := by
 unfold isDiv
 simp [and_assoc]
theorem isDiv_not {g : List Int} {k : Nat} (hk : k < g.length) (h : rd g k < 1 ∨ 8 < rd g k) : isDiv true g = false := by
 rw [← Bool.not_eq_true]
 intro h2
 have := (isDiv_iff.1 h2).2.1 _ (rd_mem g k hk)
 omega
theorem isDiv_end {g : List Int} (h8 : g.length ≤ 8) (ha : ∀ n ∈ g, 1 ≤ n ∧ n ≤ 8) : isDiv true g = decide (g.sum = 8) := by
 by_cases h : g.sum = 8
 ·rw [decide_eq_true h]; exact isDiv_iff.2 ⟨h8, ha, h⟩
 ·rw [decide_eq_false h, ← Bool.not_eq_true]; exact fun h2 => h (isDiv_iff.1 h2).2.2
set_option maxHeartbeats 1000000 in
theorem check_calls (sh : Bool) (A : Option Addr) (cap : Nat) (g : List Int) (w : World) (hr : (Kd.int .i64).C w A g.length g) :
  Calls Tryz.prog 94 #[.bool sh, .slice A g.length cap] w fun e w' => e = .returned (.int .i64 (if isDiv sh g then 0 else 1)) ∧ Below w.heap.size w w' := by
 have hb := Below.refl w.heap.size w
 have HR := Aside0.mk hr
 clear hr
 cases sh with
 | false =>
  by_cases h0 : g.length = 0
  ·rw [show isDiv false g = true from decide_eq_true h0]
   have h1 : decide ((g.length : Int) = 0) = true := decide_eq_true (by omega)
   have h2 : ((g.length : Int) == 0) = true := beq_iff_eq.2 (by omega)
   have h3 : decide ((8 : Int) < (g.length : Int)) = false := by simp; omega
   clear h0
   go_enter Tryz.func94, Tryz.ntmps94
   go_wp2
   go_ret
   exact ⟨rfl, hb⟩
  ·rw [show isDiv false g = false from decide_eq_false h0]
   have h1 : decide ((g.length : Int) = 0) = false := decide_eq_false (by omega)
   have h2 : ((g.length : Int) == 0) = false := beq_eq_false_iff_ne.2 (by omega)
   clear h0
   go_enter Tryz.func94, Tryz.ntmps94
   go_wp2
   go_ret
   exact ⟨rfl, hb⟩
 | true =>
  by_cases h8 : 8 < g.length
  ·have hf : isDiv true g = false := by
    rw [← Bool.not_eq_true]
    intro h2
    have := (isDiv_iff.1 h2).1
    omega
   rw [hf]
   have h1 : (8 : Int) < (g.length : Int) := by omega
   clear h8
   go_enter Tryz.func94, Tryz.ntmps94
   go_wp2
   go_ret
   exact ⟨rfl, hb⟩
  ·have hgI : (g.length : Int) ≤ 8 := by omega
   have h3 : decide ((8 : Int) < (g.length : Int)) = false := by simp; omega
   have hno := Aside0.mk (fun k hk h => isDiv_not (g := g) (k := k) hk h)
   have hend := Aside0.mk (fun ha => isDiv_end (g := g) (by omega) ha)
   obtain ⟨E, hE⟩ : ∃ E, E = isDiv true g := ⟨_, rfl⟩
   rw [← hE] at hno hend ⊢
   obtain ⟨V, hV⟩ : ∃ V : Value, V = (.int .i64 (if E then 0 else 1)) := ⟨_, rfl⟩
   have HV : Aside0 ((E = true → V = .int .i64 0) ∧ (E = false → V = .int .i64 1)) := ⟨⟨fun h => by rw [h] at hV; exact hV, fun h => by rw [h] at hV; exact hV⟩⟩
   rw [← hV]
   clear hE h8 hV
   go_enter Tryz.func94, Tryz.ntmps94
   go_wp2
   go_loopw [5, 24] (fun s i wr => ∃ (k : Nat) (z : Int), i = .int .i64 k ∧ s = .int .i64 z ∧ k ≤ g.length ∧ 0 ≤ z ∧ z ≤ k * 8 ∧ Aside0 (z = (g.take k).sum) ∧ Aside0 (∀ n ∈ g.take k, 1 ≤ n ∧ n ≤ 8) ∧ Below w.heap.size w wr) (fun _ i _ => g.length - (intOf i).toNat)
   case atStart => exact ⟨0, 0, rfl, rfl, by omega, by omega, by omega, ⟨by simp⟩, ⟨by simp⟩, Below.refl _ _⟩
   case round =>
    obtain ⟨k, z, rfl, rfl, hk, hz0, hz1, hn, ha, hb⟩ := hrel
    by_cases hlt : k < g.length
    ·obtain ⟨ad, rfl, hcell⟩ := el_at HR.out hb hlt
     have hno2 := hno.out k hlt
     have hT := take_rd g k hlt
     have hkI : (k : Int) < (g.length : Int) := by omega
     obtain ⟨n, hx⟩ : ∃ n, n = rd g k := ⟨_, rfl⟩
     rw [← hx] at hcell hno2 hT
     replace hno2 := Aside0.mk hno2
     replace hT := Aside0.mk hT
     clear hx
     by_cases h1 : n < 1
     ·have hf := Aside0.mk (HV.out.2 (hno2.out (.inl h1)))
      go_wp2
      go_ret
      exact ⟨by rw [hf.out]; rfl, hb⟩
     ·by_cases h2 : 8 < n
      ·have hf := Aside0.mk (HV.out.2 (hno2.out (.inr h2)))
       have h1' : decide (n < 1) = false := by simpa using h1
       go_wp2
       go_ret
       exact ⟨by rw [hf.out]; rfl, hb⟩
      ·have h1' : decide (n < 1) = false := by simpa using h1
       have h2' : decide (8 < n) = false := by simpa using h2
       go_wp2
       go_roundw
       case rel => exact ⟨k + 1, z + n, by go_num, rfl, by omega, by omega, by omega, ⟨by rw [hT.out, List.sum_append, hn.out]; simp⟩, ⟨by
        rw [hT.out]
        intro x hx
        rcases List.mem_append.1 hx with hx | hx
        ·exact ha.out x hx
        ·rw [List.mem_singleton.1 hx]; omega⟩, hb⟩
       case measure => simp [intOf]; omega
    ·obtain rfl : k = g.length := by omega
     have hA := ha.out
     have hN := hn.out
     rw [List.take_length] at hA hN
     have hf := hend.out hA
     rw [← hN] at hf
     replace hf := Aside0.mk hf
     clear ha hn hA hN
     by_cases g1 : z = 8
     ·subst g1
      replace hf := Aside0.mk (HV.out.1 (hf.out.trans (decide_eq_true rfl)))
      go_wp2
      go_ret
      exact ⟨by rw [hf.out]; rfl, hb⟩
     ·have g2 : (z != 8) = true := bne_iff_ne.2 g1
      have g3 : (z == 8) = false := by simpa using g1
      replace hf := Aside0.mk (HV.out.2 (hf.out.trans (decide_eq_false g1)))
      clear g1
      go_wp2
      go_ret
      exact ⟨by rw [hf.out]; rfl, hb⟩
set_option maxHeartbeats 1000000 in
theorem Is_calls (sh : Bool) (A : Option Addr) (cap : Nat) (g : List Int) (w : World) (hr : (Kd.int .i64).C w A g.length g) :
  Calls Tryz.prog 62 #[.bool sh, .slice A g.length cap] w fun e w' => e = .returned (.bool (isDiv sh g)) ∧ Below w.heap.size w w' := by
 have hb := Below.refl w.heap.size w
 have HR := Aside0.mk hr
 clear hr
 cases sh with
 | false =>
  by_cases h0 : g.length = 0
  ·rw [show isDiv false g = true from decide_eq_true h0]
   have h1 : decide ((g.length : Int) = 0) = true := decide_eq_true (by omega)
   have h2 : ((g.length : Int) == 0) = true := beq_iff_eq.2 (by omega)
   have h3 : decide ((8 : Int) < (g.length : Int)) = false := by simp; omega
   clear h0
   go_enter Tryz.func62, Tryz.ntmps62
   go_wp2
   go_ret
   exact ⟨rfl, hb⟩
  ·rw [show isDiv false g = false from decide_eq_false h0]
   have h1 : decide ((g.length : Int) = 0) = false := decide_eq_false (by omega)
   have h2 : ((g.length : Int) == 0) = false := beq_eq_false_iff_ne.2 (by omega)
   clear h0
   go_enter Tryz.func62, Tryz.ntmps62
   go_wp2
   go_ret
   exact ⟨rfl, hb⟩
 | true =>
  by_cases h8 : 8 < g.length
  ·have hf : isDiv true g = false := by
    rw [← Bool.not_eq_true]
    intro h2
    have := (isDiv_iff.1 h2).1
    omega
   rw [hf]
   have h1 : (8 : Int) < (g.length : Int) := by omega
   clear h8
   go_enter Tryz.func62, Tryz.ntmps62
   go_wp2
   go_ret
   exact ⟨rfl, hb⟩
  ·have hgI : (g.length : Int) ≤ 8 := by omega
   have h3 : decide ((8 : Int) < (g.length : Int)) = false := by simp; omega
   have hno := Aside0.mk (fun k hk h => isDiv_not (g := g) (k := k) hk h)
   have hend := Aside0.mk (fun ha => isDiv_end (g := g) (by omega) ha)
   obtain ⟨E, hE⟩ : ∃ E, E = isDiv true g := ⟨_, rfl⟩
   rw [← hE] at hno hend ⊢
   obtain ⟨V, hV⟩ : ∃ V : Value, V = (.bool E) := ⟨_, rfl⟩
   have HV : Aside0 ((E = true → V = .bool true) ∧ (E = false → V = .bool false)) := ⟨⟨fun h => by rw [h] at hV; exact hV, fun h => by rw [h] at hV; exact hV⟩⟩
   rw [← hV]
   clear hE h8 hV
   go_enter Tryz.func62, Tryz.ntmps62
   go_wp2
   go_loopw [5, 24] (fun s i wr => ∃ (k : Nat) (z : Int), i = .int .i64 k ∧ s = .int .i64 z ∧ k ≤ g.length ∧ 0 ≤ z ∧ z ≤ k * 8 ∧ Aside0 (z = (g.take k).sum) ∧ Aside0 (∀ n ∈ g.take k, 1 ≤ n ∧ n ≤ 8) ∧ Below w.heap.size w wr) (fun _ i _ => g.length - (intOf i).toNat)
   case atStart => exact ⟨0, 0, rfl, rfl, by omega, by omega, by omega, ⟨by simp⟩, ⟨by simp⟩, Below.refl _ _⟩
   case round =>
    obtain ⟨k, z, rfl, rfl, hk, hz0, hz1, hn, ha, hb⟩ := hrel
    by_cases hlt : k < g.length
    ·obtain ⟨ad, rfl, hcell⟩ := el_at HR.out hb hlt
     have hno2 := hno.out k hlt
     have hT := take_rd g k hlt
     have hkI : (k : Int) < (g.length : Int) := by omega
     obtain ⟨n, hx⟩ : ∃ n, n = rd g k := ⟨_, rfl⟩
     rw [← hx] at hcell hno2 hT
     replace hno2 := Aside0.mk hno2
     replace hT := Aside0.mk hT
     clear hx
     by_cases h1 : n < 1
     ·have hf := Aside0.mk (HV.out.2 (hno2.out (.inl h1)))
      go_wp2
      go_ret
      exact ⟨by rw [hf.out]; rfl, hb⟩
     ·by_cases h2 : 8 < n
      ·have hf := Aside0.mk (HV.out.2 (hno2.out (.inr h2)))
       have h1' : decide (n < 1) = false := by simpa using h1
       go_wp2
       go_ret
       exact ⟨by rw [hf.out]; rfl, hb⟩
      ·have h1' : decide (n < 1) = false := by simpa using h1
       have h2' : decide (8 < n) = false := by simpa using h2
       go_wp2
       go_roundw
       case rel => exact ⟨k + 1, z + n, by go_num, rfl, by omega, by omega, by omega, ⟨by rw [hT.out, List.sum_append, hn.out]; simp⟩, ⟨by
        rw [hT.out]
        intro x hx
        rcases List.mem_append.1 hx with hx | hx
        ·exact ha.out x hx
        ·rw [List.mem_singleton.1 hx]; omega⟩, hb⟩
       case measure => simp [intOf]; omega
    ·obtain rfl : k = g.length := by omega
     have hA := ha.out
     have hN := hn.out
     rw [List.take_length] at hA hN
     have hf := hend.out hA
     rw [← hN] at hf
     replace hf := Aside0.mk hf
     clear ha hn hA hN
     by_cases g1 : z = 8
     ·subst g1
      replace hf := Aside0.mk (HV.out.1 (hf.out.trans (decide_eq_true rfl)))
      go_wp2
      go_ret
      exact ⟨by rw [hf.out]; rfl, hb⟩
     ·have g2 : (z != 8) = true := bne_iff_ne.2 g1
      have g3 : (z == 8) = false := by simpa using g1
      replace hf := Aside0.mk (HV.out.2 (hf.out.trans (decide_eq_false g1)))
      clear g1
      go_wp2
      go_ret
      exact ⟨by rw [hf.out]; rfl, hb⟩
end Q21

namespace Q15
attribute [local go_sem] max2_int min2_int max_two min_two max_three min_three
theorem drop_rd (l : List Int) (k : Nat) (h : k < l.length) : l.drop k = rd l k :: l.drop (k + 1) := by rw [rd_nat l k h, List.drop_eq_getElem_cons h]
set_option maxHeartbeats 400000 in
theorem check_calls (g : Nat) (p : Int → Bool) (A : Option Addr) (cap : Nat) (l : List Int) (s : Int) (w : World) (eg : Enters g) (hr : (Kd.int .i64).C w A l.length l)
  (hp : ∀ x W, FnBool g #[] #[] W x (p x)) :
  Calls Tryz.prog 100 #[.slice A l.length cap, .int .i64 s, .func (.func g) #[] #[]] w fun e w' => e = .returned (.int .i64 (chk p l s)) ∧ Below w.heap.size w w' := by
 have HA : l.length ≤ 128 → ∀ W, Below w.heap.size w W → Calls Tryz.prog 158 #[.slice A l.length cap, .func (.func g) #[] #[]] W fun e w' => e = .returned (.bool (l.all p)) ∧ Below W.heap.size W w' :=
  fun hl W hb => all_calls g #[] #[] p A cap l W eg (Kd.C_below hr hb) (by omega) (fun x _ => hp x W)
 replace HA := Aside0.mk HA
 clear hp hr
 cases h : isS s with
 | true =>
  by_cases hn : l.length ≤ 128
  ·cases k : l.all p with
   | true =>
    have e : chk p l s = 0 := by unfold chk; rw [if_pos h, if_pos hn, if_pos k]
    rw [k] at HA
    rw [e]
    clear e k
    go_enter Tryz.func100, Tryz.ntmps100
    go_wp2_with (first | (go_at_call 157; refine (isS_calls _ _).mono ?_; rintro e w' ⟨rfl, hb0⟩) | (go_at_call 158; refine (HA.out hn _ hb0).mono ?_; rintro e w' ⟨rfl, hb⟩))
    go_ret
    exact ⟨rfl, bnx hb0 hb⟩
   | false =>
    have e : chk p l s = 6 := by unfold chk; rw [if_pos h, if_pos hn, if_neg (by rw [k]; simp)]
    rw [k] at HA
    rw [e]
    clear e k
    go_enter Tryz.func100, Tryz.ntmps100
    go_wp2_with (first | (go_at_call 157; refine (isS_calls _ _).mono ?_; rintro e w' ⟨rfl, hb0⟩) | (go_at_call 158; refine (HA.out hn _ hb0).mono ?_; rintro e w' ⟨rfl, hb⟩))
    go_ret
    exact ⟨rfl, bnx hb0 hb⟩
  ·have e : chk p l s = 2 := by unfold chk; rw [if_pos h, if_neg hn]
   rw [e]
   clear e
   have hn' : (128 : Int) < (l.length : Int) := by omega
   go_enter Tryz.func100, Tryz.ntmps100
   go_wp2_with (first | (go_at_call 157; refine (isS_calls _ _).mono ?_; rintro e w' ⟨rfl, hb0⟩))
   go_ret
   exact ⟨rfl, hb0⟩
 | false =>
  have e : chk p l s = 1 := by unfold chk; rw [if_neg (by rw [h]; simp)]
  rw [e]
  clear e
  go_enter Tryz.func100, Tryz.ntmps100
  go_wp2_with (first | (go_at_call 157; refine (isS_calls _ _).mono ?_; rintro e w' ⟨rfl, hb0⟩))
  go_ret
  exact ⟨rfl, hb0⟩
theorem fn_isC (x : Int) (W : World) : FnBool 101 #[] #[] W x (isC x) := fun W' _ => isC_calls x W'
set_option maxHeartbeats 400000 in
theorem quantize1_calls (c x : Int) (B : Nat) (w : World) (hc : w.cell? ⟨B, 0, none⟩ = some (.int .i64 x)) (hx0 : 0 ≤ x) (hx1 : x ≤ 268435456) (h1 : -2097152 ≤ c) (h2 : c ≤ 2097152) :
  Calls Tryz.prog 104 #[.int .i64 c, .pointer (some ⟨B, 0, none⟩)] w fun e w' => e = .returned (.int .i64 (sg c (qn x (absI c)))) ∧ Below w.heap.size w w' := by
 have ha : 0 ≤ absI c ∧ absI c ≤ 2097152 := by unfold absI; omega
 have hqb := qn_bd (x := x) (c := absI c) hx0
 go_enter Tryz.func104, Tryz.ntmps104
 go_wp2_with (first | (go_at_call 105; refine (signed_calls 106 #[.int .i64 x] #[] c (qn x (absI c)) _ (fun _ _ => by kernel_rfl) (by omega) (by omega) (by omega) (by omega) (fun W _ => quantum_calls x _ W hx0 hx1 ha.1 ha.2)).mono ?_; rintro e w' ⟨rfl, hb⟩))
 go_ret
 exact ⟨rfl, hb⟩
set_option maxHeartbeats 400000 in
theorem Quantize_no (A : Option Addr) (cap : Nat) (l : List Int) (s : Int) (w : World) (hr : (Kd.int .i64).C w A l.length l) (hk : chk isC l s ≠ 0) :
  Calls Tryz.prog 61 #[.slice A l.length cap, .int .i64 s] w fun e w' => e = .returned (.tuple #[.slice none 0 0, .int .i64 (chk isC l s)]) ∧ Below w.heap.size w w' := by
 obtain ⟨e0, he0⟩ : ∃ e0, e0 = chk isC l s := ⟨_, rfl⟩
 have HC := fun W hb => check_calls 101 isC A cap l s W (fun _ _ => by kernel_rfl) (Kd.C_below hr hb) fn_isC
 rw [← he0] at HC hk ⊢
 replace HC := Aside0.mk HC
 have hk' : (e0 == 0) = false := beq_eq_false_iff_ne.2 hk
 clear he0 hr
 go_enter Tryz.func61, Tryz.ntmps61
 go_wp2_with (first | (go_at_call 100; refine (HC.out _ (Below.refl _ _)).mono ?_; rintro e w' ⟨rfl, hb0⟩))
 go_ret2
 exact ⟨rfl, hb0⟩
end Q15

namespace Q15
attribute [local go_sem] max2_int min2_int max_two min_two max_three min_three
theorem chk_zero {p : Int → Bool} {l : List Int} {s : Int} (h : chk p l s = 0) : (0 ≤ s ∧ s ≤ 95) ∧ l.length ≤ 128 ∧ ∀ x ∈ l, p x = true := by
 unfold chk at h
 split at h
 ·rename_i h1
  split at h
  ·rename_i h2
   split at h
   ·rename_i h3
    exact ⟨isS_bd h1, h2, List.all_eq_true.1 h3⟩
   ·omega
  ·omega
 ·omega
set_option maxHeartbeats 400000 in
theorem Quantize_yes (A : Option Addr) (cap : Nat) (l : List Int) (s : Int) (w : World) (hr : (Kd.int .i64).C w A l.length l) (hk : chk isC l s = 0) :
  Calls Tryz.prog 61 #[.slice A l.length cap, .int .i64 s] w fun e w' => ∃ v, e = .returned (.tuple #[v, .int .i64 0]) ∧ (Kd.int .i64).R 3 w' w.heap.size (fun _ => True) v (l.map fun c => sg c (qn (stepI s) (absI c))) ∧ Below w.heap.size w w' := by
 obtain ⟨hs, hl, hp⟩ := chk_zero hk
 have HC := fun W hb => check_calls 101 isC A cap l s W (fun _ _ => by kernel_rfl) (Kd.C_below hr hb) fn_isC
 rw [hk] at HC
 replace HC := Aside0.mk HC
 have hst := stepI_bd hs.1 hs.2
 have HW := fun w => with_calls s w hs.1 hs.2
 obtain ⟨st, hst'⟩ : ∃ st, st = stepI s := ⟨_, rfl⟩
 rw [← hst'] at hst HW ⊢
 have HM : ∀ W B, Below w.heap.size w W → W.cell? ⟨B, 0, none⟩ = some (.int .i64 st) →
   Calls Tryz.prog 103 #[.slice A l.length cap, .func (.func 104) #[] #[.pointer (some ⟨B, 0, none⟩)]] W fun e w' => ∃ v : Value, e = .returned v ∧ (Kd.int .i64).R 3 w' W.heap.size (fun _ => True) v (l.map fun c => sg c (qn st (absI c))) ∧ Below W.heap.size W w' :=
  fun W B hb hB => mapped_calls _ #[] _ _ A cap l W (fun _ _ => by kernel_rfl) (Kd.C_below hr hb) (by omega) (fun c hc W' hb' => by
   have hcb := isC_bd (hp c hc)
   exact quantize1_calls c st B W' (cnx hB hb') (by omega) hst.2 hcb.1 hcb.2)
 replace HM := Aside0.mk HM
 replace HW := Aside0.mk HW
 clear hst' hk hr hp
 go_enter Tryz.func61, Tryz.ntmps61
 go_wp2_with (first | (go_at_call 100; refine (HC.out _ (Below.refl _ _)).mono ?_; rintro e w' ⟨rfl, hb0⟩) | (go_at_call 102; refine (HW.out _).mono ?_; rintro e w' ⟨rfl, hb1⟩) | (go_at_call 103; have hb2 := (bnx hb0 hb1).alloc (bnx hb0 hb1).size (.cells #[.int .i64 st] 118); refine (HM.out _ _ hb2 (by simp)).mono ?_; rintro e w2 ⟨v, rfl, hR, hb3⟩))
 go_ret2
 exact ⟨v, rfl, Kd.R_lower hR hb2.size, bnx hb2 hb3⟩
end Q15

namespace Q15
attribute [local go_sem] max2_int min2_int max_two min_two max_three min_three
set_option maxHeartbeats 1000000 in
theorem cube_calls (n r : Int) (w : World) (hn0 : 0 ≤ n) (hn1 : n ≤ 4611686018427387904) (hr0 : 0 ≤ r) (hr1 : r * r * r ≤ n) (hr2 : n < (r + 1) * (r + 1) * (r + 1)) :
  Calls Tryz.prog 206 #[.int .i64 n] w fun e w' => e = .returned (.tuple #[.int .i64 r, .int .i64 0]) ∧ Below w.heap.size w w' := by
 have hR := Aside0.mk hr1
 have hR2 := Aside0.mk hr2
 clear hr1 hr2
 go_enter Tryz.func206, Tryz.ntmps206
 go_wp2
 go_loopw [4, 5] (fun a b wr => ∃ (x B : Int), a = .int .i64 x ∧ b = .int .i64 (B / 2) ∧ 0 ≤ x ∧ 1 ≤ B ∧ Aside0 (∃ j : Nat, B = 2 ^ j) ∧ x + B ≤ 2097152 ∧ Aside0 (x * x * x ≤ n) ∧ Aside0 (n < (x + B) * (x + B) * (x + B)) ∧ Below w.heap.size w wr) (fun _ b _ => (intOf b).toNat)
 case atStart => exact ⟨0, 2097152, rfl, rfl, by omega, by omega, ⟨21, by decide⟩, by omega, ⟨by omega⟩, ⟨by omega⟩, Below.refl _ _⟩
 case round =>
  obtain ⟨x, B, rfl, rfl, hx, hB, ⟨j, hj⟩, hxB, h1, h2, hb⟩ := hrel
  by_cases hlt : B = 1
  ·subst hlt
   have e : x = r := cube_root hx hr0 h1.out h2.out hR.out hR2.out
   subst e
   clear hj
   go_wp2
   go_ret2
   exact ⟨rfl, hb⟩
  ·have hj2 : ∃ k : Nat, B = 2 * 2 ^ k := by
    cases j with
    | zero => exact absurd hj (by omega)
    | succ k => exact ⟨k, by rw [hj, Int.pow_succ, Int.mul_comm]⟩
   obtain ⟨k, hk⟩ := hj2
   obtain ⟨C, hC⟩ : ∃ C : Int, C = 2 ^ k := ⟨_, rfl⟩
   rw [← hC] at hk
   have HC := Aside0.mk (⟨k, hC⟩ : ∃ k : Nat, C = 2 ^ k)
   clear hC hj
   subst hk
   have hd : 2 * C / 2 = C := by omega
   rw [hd]
   have hy : 0 ≤ x + C ∧ x + C ≤ 2097151 := by omega
   have hs := mul_bd hy.1 hy.2 hy.1 hy.2
   have hs3 := mul_bd hs.1 hs.2 hy.1 hy.2
   have e2 : x + 2 * C = x + C + C := by omega
   by_cases hle : (x + C) * (x + C) * (x + C) ≤ n
   ·have HA := Aside0.mk hle
    have H2 : Aside0 (n < (x + C + C) * (x + C + C) * (x + C + C)) := ⟨by rw [← e2]; exact h2.out⟩
    clear h1 h2 e2 hd
    go_wp2
    go_roundw
    case rel => exact ⟨x + C, C, rfl, rfl, by omega, by omega, HC, by omega, HA, H2, hb⟩
    case measure => simp [intOf]; omega
   ·have H2 : Aside0 (n < (x + C) * (x + C) * (x + C)) := ⟨by omega⟩
    have hle' : n < (x + C) * (x + C) * (x + C) := by omega
    clear h2 e2 hd
    go_wp2
    go_roundw
    case rel => exact ⟨x, C, rfl, rfl, by omega, by omega, HC, by omega, h1, H2, hb⟩
    case measure => simp [intOf]; omega
set_option maxHeartbeats 400000 in
theorem rpower_calls (q : Int) (w : World) (h0 : -1023 ≤ q) (h1 : q ≤ 1023) :
  Calls Tryz.prog 165 #[.int .i64 q] w fun e w' => e = .returned (.int .i64 (P (absI q))) ∧ Below w.heap.size w w' := by
 have ha : 0 ≤ absI q ∧ absI q ≤ 1023 := by unfold absI; omega
 have hc := P_cube ha.1 ha.2
 rw [← q4_abs] at hc
 have hp := P_bd (absI q)
 obtain ⟨p, hpe⟩ : ∃ p, p = P (absI q) := ⟨_, rfl⟩
 rw [← hpe] at hc hp ⊢
 have b1 : -4190208 ≤ 4096 * q ∧ 4096 * q ≤ 4190208 := by omega
 have b2 : 0 ≤ 4096 * q * q ∧ 4096 * q * q ≤ 4286582784 := by
  rcases Int.le_total 0 q with h | h
  ·exact mul_bd (by omega) b1.2 h h1
  ·have := mul_bd (a := -(4096 * q)) (b := -q) (by omega) (show -(4096 * q) ≤ 4190208 by omega) (by omega) (show -q ≤ 1023 by omega)
   rwa [Int.neg_mul_neg] at this
 have b3 : -4385174188032 ≤ 4096 * q * q * q ∧ 4096 * q * q * q ≤ 4385174188032 := by
  rcases Int.le_total 0 q with h | h
  ·have := mul_bd b2.1 b2.2 h h1; omega
  ·have := mul_bd b2.1 b2.2 (show 0 ≤ -q by omega) (show -q ≤ 1023 by omega)
   rw [Int.mul_neg] at this
   omega
 have b4 : 0 ≤ 4096 * q * q * q * q ∧ 4096 * q * q * q * q ≤ 4600000000000000 := by
  have h3 : 0 ≤ 4096 * q * q * q * q := by rw [q4_abs]; exact (mul_bd (mul_bd (mul_bd (mul_bd (by omega) (Int.le_refl 4096) ha.1 ha.2).1 (mul_bd (by omega) (Int.le_refl 4096) ha.1 ha.2).2 ha.1 ha.2).1 (mul_bd (mul_bd (by omega) (Int.le_refl 4096) ha.1 ha.2).1 (mul_bd (by omega) (Int.le_refl 4096) ha.1 ha.2).2 ha.1 ha.2).2 ha.1 ha.2).1 (mul_bd (mul_bd (mul_bd (by omega) (Int.le_refl 4096) ha.1 ha.2).1 (mul_bd (by omega) (Int.le_refl 4096) ha.1 ha.2).2 ha.1 ha.2).1 (mul_bd (mul_bd (by omega) (Int.le_refl 4096) ha.1 ha.2).1 (mul_bd (by omega) (Int.le_refl 4096) ha.1 ha.2).2 ha.1 ha.2).2 ha.1 ha.2).2 ha.1 ha.2).1
  refine ⟨h3, ?_⟩
  have h5 := mul_bd (show 0 ≤ p + 1 by omega) (show p + 1 ≤ 164926 by omega) (show 0 ≤ p + 1 by omega) (show p + 1 ≤ 164926 by omega)
  have h6 := mul_bd h5.1 h5.2 (show 0 ≤ p + 1 by omega) (show p + 1 ≤ 164926 by omega)
  omega
 have HC := fun w => cube_calls (4096 * q * q * q * q) p w b4.1 (by omega) hp.1 hc.1 hc.2
 replace HC := Aside0.mk HC
 clear hc hpe
 go_enter Tryz.func165, Tryz.ntmps165
 go_wp2_with (first | (go_at_call 206; refine (HC.out _).mono ?_; rintro e w' ⟨rfl, hb⟩))
 go_ret
 exact ⟨rfl, hb⟩
set_option maxHeartbeats 400000 in
theorem rstep_calls (s : Int) (w : World) (h0 : 0 ≤ s) (h1 : s ≤ 95) :
  Calls Tryz.prog 210 #[.int .i64 s] w fun e w' => e = .returned (.tuple #[.int .i64 (stepI s), .int .i64 0]) ∧ Below w.heap.size w w' := by
 obtain ⟨c, hc⟩ : ∃ c, c = ([4096, 4871, 5793, 6889] : List Int).getD (s % 4).toNat 0 := ⟨_, rfl⟩
 have hq : ([.int .i64 4096, .int .i64 4871, .int .i64 5793, .int .i64 6889] : List Value)[(s % 4).toNat]? = some (.int .i64 c) := by
  rw [hc]
  have : s % 4 = 0 ∨ s % 4 = 1 ∨ s % 4 = 2 ∨ s % 4 = 3 := by omega
  rcases this with h | h | h | h <;> rw [h] <;> rfl
 have h2 : (2 : Int) ^ (s / 4).toNat ≤ 2 ^ 23 := by
  have : (2 : Nat) ^ (s / 4).toNat ≤ 2 ^ 23 := Nat.pow_le_pow_right (by omega) (by omega)
  exact_mod_cast this
 have h3 : 0 ≤ c ∧ c ≤ 6889 := by
  rw [hc]
  have : s % 4 = 0 ∨ s % 4 = 1 ∨ s % 4 = 2 ∨ s % 4 = 3 := by omega
  rcases this with h | h | h | h <;> rw [h] <;> decide
 have h4 := mul_bd h3.1 h3.2 (Int.pow_nonneg (show (0 : Int) ≤ 2 by omega)) h2
 have HS : Aside0 (wrap64 ((wrap64 (c * 2 ^ (s / 4).toNat)).tdiv 256) = stepI s) := ⟨by
  rw [show wrap64 (c * 2 ^ (s / 4).toNat) = c * 2 ^ (s / 4).toNat from by unfold wrap64; omega, Int.tdiv_eq_ediv_of_nonneg h4.1, show stepI s = c * 2 ^ (s / 4).toNat / 256 from by rw [hc]; rfl]
  unfold wrap64
  omega⟩
 clear hc h2 h3 h4
 go_enter Tryz.func210, Tryz.ntmps210
 go_wp2
 go_ret2
 exact ⟨by rw [HS.out]; rfl, (Below.refl _ _).alloc (Nat.le_refl _) _⟩
set_option maxHeartbeats 400000 in
theorem near256_calls (a : Int) (w : World) (h0 : 0 ≤ a) (h1 : a ≤ 1152921504606846976) :
  Calls Tryz.prog 211 #[.int .i64 a, .int .i64 256] w fun e w' => e = .returned (.int .i64 ((2 * a + 256) / 512)) ∧ Below w.heap.size w w' := by
 by_cases h : 128 ≤ a % 256
 ·have e : (2 * a + 256) / 512 = a / 256 + 1 := by omega
  rw [e]
  clear e
  go_enter Tryz.func211, Tryz.ntmps211
  go_wp2_with (first | go_in)
  go_ret
  exact ⟨rfl, Below.refl _ _⟩
 ·have e : (2 * a + 256) / 512 = a / 256 := by omega
  rw [e]
  clear e
  go_enter Tryz.func211, Tryz.ntmps211
  go_wp2_with (first | go_in)
  go_ret
  exact ⟨rfl, Below.refl _ _⟩
set_option maxHeartbeats 400000 in
theorem stands_calls (p s : Int) (w : World) (hp0 : 0 ≤ p) (hp1 : p ≤ 164925) (h0 : 0 ≤ s) (h1 : s ≤ 95) :
  Calls Tryz.prog 177 #[.int .i64 p, .int .i64 s] w fun e w' => e = .returned (.int .i64 (min 2097152 ((2 * (p * stepI s) + 256) / 512))) ∧ Below w.heap.size w w' := by
 have hs := stepI_bd h0 h1
 have HS := fun w => rstep_calls s w h0 h1
 obtain ⟨x, hx⟩ : ∃ x, x = stepI s := ⟨_, rfl⟩
 rw [← hx] at hs HS ⊢
 have hm := mul_bd hp0 hp1 (show 0 ≤ x by omega) hs.2
 have HN := fun w => near256_calls (p * x) w hm.1 (by omega)
 replace HS := Aside0.mk HS
 replace HN := Aside0.mk HN
 clear hx
 go_enter Tryz.func177, Tryz.ntmps177
 go_wp2_with (first | (go_at_call 210; refine (HS.out _).mono ?_; rintro e w' ⟨rfl, hb0⟩) | (go_at_call 211; refine (HN.out _).mono ?_; rintro e w' ⟨rfl, hb1⟩))
 all_goals
  go_ret
  exact ⟨ret_int (by omega), bnx hb0 hb1⟩
theorem V_min (x q : Int) : min 2097152 ((2 * (P q * x) + 256) / 512) = V x q := by unfold V; rw [Int.min_comm, Int.mul_assoc]
end Q15

namespace Q15
attribute [local go_sem] max2_int min2_int max_two min_two max_three min_three
def Rising (l : List Int) : Prop := ∀ i j : Nat, i ≤ j → j < l.length → l.getD i 0 ≤ l.getD j 0
theorem rd_getD (l : List Int) (i : Int) : rd l i = l.getD i.toNat 0 := rfl
set_option maxHeartbeats 400000 in
theorem rfirst_calls (A : Option Addr) (cap : Nat) (l : List Int) (v : Int) (w : World) (hr : (Kd.int .i64).C w A l.length l) (hl : l.length ≤ 1099511627776) (hs : Rising l) :
  Calls Tryz.prog 207 #[.slice A l.length cap, .int .i64 v] w fun e w' => e = .returned (.int .i64 (firstL l v)) ∧ Below w.heap.size w w' := by
 have HR := Aside0.mk hr
 have HS := Aside0.mk hs
 clear hr hs
 go_enter Tryz.func207, Tryz.ntmps207
 go_wp2
 go_loopw [5, 6] (fun a b wr => ∃ x y : Int, a = .int .i64 x ∧ b = .int .i64 y ∧ 0 ≤ x ∧ x ≤ y ∧ y ≤ l.length ∧ Aside0 (x = 0 ∨ rd l (x - 1) < v) ∧ Aside0 (y = l.length ∨ v ≤ rd l y) ∧ Below w.heap.size w wr) (fun a b _ => (intOf b - intOf a).toNat)
 case atStart => exact ⟨0, l.length, rfl, rfl, by omega, by omega, by omega, ⟨.inl rfl⟩, ⟨.inl rfl⟩, Below.refl _ _⟩
 case round =>
  obtain ⟨x, y, rfl, rfl, hx, hxy, hy, h1, h2, hb⟩ := hrel
  by_cases hlt : x < y
  ·obtain ⟨m, hm⟩ : ∃ m, m = (x + y) / 2 := ⟨_, rfl⟩
   have hmb : x ≤ m ∧ m < y := by omega
   obtain ⟨ad, rfl, hcell⟩ := Kd.at_int HR.out m (by omega) (by omega)
   replace hcell := cnx hcell hb
   obtain ⟨z, hz⟩ : ∃ z, z = rd l m := ⟨_, rfl⟩
   rw [← hz] at hcell
   have HZ := Aside0.mk hz
   clear hz
   subst hm
   by_cases hge : v ≤ z
   ·go_wp2
    go_roundw
    case rel => exact ⟨x, (x + y) / 2, rfl, rfl, hx, by omega, by omega, h1, ⟨.inr (by rw [← HZ.out]; exact hge)⟩, hb⟩
    case measure => simp [intOf]; omega
   ·have hge' : z < v := by omega
    go_wp2
    go_roundw
    case rel => exact ⟨(x + y) / 2 + 1, y, rfl, rfl, by omega, by omega, hy, ⟨.inr (by rw [show (x + y) / 2 + 1 - 1 = (x + y) / 2 by omega, ← HZ.out]; exact hge')⟩, h2, hb⟩
    case measure => simp [intOf]; omega
  ·obtain rfl : x = y := by omega
   have e : firstL l v = x.toNat := first_is (by omega) (fun i hi => by
    have h3 := h1.out.resolve_left (by omega)
    have h4 := HS.out i (x - 1).toNat (by omega) (by omega)
    rw [rd_getD] at h3
    omega) (fun hi => by
    have h3 := h2.out.resolve_left (by omega)
    rw [rd_getD] at h3
    exact h3)
   have HE := Aside0.mk e
   clear e
   go_wp2
   go_ret
   exact ⟨ret_int (by have := HE.out; omega), hb⟩
theorem near_bd (l : List Int) (c : Int) : 0 ≤ nearL l c ∧ nearL l c ≤ l.length := by
 have h1 := first_le l c
 have h2 := first_le l (l.getD (firstL l c - 1) 0)
 unfold nearL
 dsimp only
 split <;> omega
set_option maxHeartbeats 1000000 in
theorem nearest_calls (A : Option Addr) (cap : Nat) (l : List Int) (c : Int) (w : World) (hr : (Kd.int .i64).C w A l.length l) (hl : l.length ≤ 1099511627776) (hl0 : 1 ≤ l.length) (hs : Rising l) (hc0 : -1099511627776 ≤ c) (hc1 : c ≤ 1099511627776)
  (hb : ∀ x ∈ l, 0 ≤ x ∧ x ≤ 1099511627776) :
  Calls Tryz.prog 168 #[.int .i64 c, .slice A l.length cap] w fun e w' => e = .returned (.int .i64 (sg c (nearL l (absI c)))) ∧ Below w.heap.size w w' := by
 have HF := fun v W hb => rfirst_calls A cap l v W (Kd.C_below hr hb) hl hs
 replace HF := Aside0.mk HF
 have HR := Aside0.mk hr
 have HBD := Aside0.mk hb
 clear hr hs hb
 obtain ⟨m, hm⟩ : ∃ m, m = absI c := ⟨_, rfl⟩
 have hdi : (c < 0 ∧ m = -c) ∨ (¬ c < 0 ∧ m = c) := by rw [hm]; unfold absI; omega
 have hmb : 0 ≤ m ∧ m ≤ 1099511627776 := by omega
 rw [← hm]
 have hN := near_bd l m
 have hfe := first_le l m
 have hnl : nearL l m = if firstL l m = l.length ∨ (firstL l m > 0 ∧ m - l.getD (firstL l m - 1) 0 ≤ l.getD (firstL l m) 0 - m) then (firstL l (l.getD (firstL l m - 1) 0) : Int) else (firstL l m : Int) := rfl
 have HF1 := fun W hb => HF.out m W hb
 obtain ⟨f, hf⟩ : ∃ f, f = firstL l m := ⟨_, rfl⟩
 rw [← hf] at hfe hnl HF1
 obtain ⟨r, hr⟩ : ∃ r, r = nearL l m := ⟨_, rfl⟩
 rw [← hr] at hN hnl ⊢
 replace HF1 := Aside0.mk HF1
 clear hm hf hr
 by_cases hp : f = l.length ∨ (f > 0 ∧ m - l.getD (f - 1) 0 ≤ l.getD f 0 - m)
 ·rw [if_pos hp] at hnl
  have hf1 : 1 ≤ f := by omega
  obtain ⟨ad, rfl, hcell⟩ := Kd.at_int HR.out ((f : Int) - 1) (by omega) (by omega)
  rw [rd_getD, show ((f : Int) - 1).toNat = f - 1 by omega] at hcell
  have hzb : 0 ≤ l.getD (f - 1) 0 ∧ l.getD (f - 1) 0 ≤ 1099511627776 := HBD.out _ (by rw [List.getD_eq_getElem?_getD, List.getElem?_eq_getElem (by omega), Option.getD_some]; exact List.getElem_mem _)
  obtain ⟨z, hz⟩ : ∃ z, z = l.getD (f - 1) 0 := ⟨_, rfl⟩
  rw [← hz] at hcell hnl hp hzb
  have HF2 := fun W hb => HF.out z W hb
  obtain ⟨r2, hr2⟩ : ∃ r2, r2 = firstL l z := ⟨_, rfl⟩
  rw [← hr2] at hnl HF2
  replace HF2 := Aside0.mk HF2
  clear hz hr2
  subst hnl
  by_cases ha : f = l.length
  ·have ht1 : ((f : Int) == (l.length : Int)) = true := by rw [beq_iff_eq]; omega
   clear hp ha
   rcases hdi with ⟨hneg, rfl⟩ | ⟨hneg, rfl⟩
   all_goals
    go_enter Tryz.func168, Tryz.ntmps168
    go_wp2_with fail
    refine (HF1.out _ (Below.refl _ _)).mono ?_
    rintro e w1 ⟨rfl, hb0⟩
    replace hcell := cnx hcell hb0
    go_wp2_with fail
    go_quiet (fail)
    go_wp2_with fail
    have hb1 := below_drewN' hb0 nq
    refine (HF2.out _ hb1).mono ?_
    rintro e w2 ⟨rfl, hb2⟩
    go_wp2
    go_ret
    exact ⟨ret_int (by unfold sg; split <;> omega), bnx hb1 hb2⟩
  ·have hc := hp.resolve_left ha
   have ht1 : ((f : Int) == (l.length : Int)) = false := by rw [beq_eq_false_iff_ne]; omega
   have ht2 : decide (0 < f) = true := by simp; omega
   obtain ⟨ad2, he2, hcell2⟩ := Kd.at_int HR.out (f : Int) (by omega) (by omega)
   cases he2
   rw [rd_getD, Int.toNat_natCast] at hcell2
   have hzb2 : 0 ≤ l.getD f 0 ∧ l.getD f 0 ≤ 1099511627776 := HBD.out _ (by rw [List.getD_eq_getElem?_getD, List.getElem?_eq_getElem (by omega), Option.getD_some]; exact List.getElem_mem _)
   have hcd := hc.2
   obtain ⟨z2, hz2⟩ : ∃ z2, z2 = l.getD f 0 := ⟨_, rfl⟩
   rw [← hz2] at hcell2 hzb2 hcd
   have hflt : (f : Int) < (l.length : Int) := by omega
   clear hp ha hc hz2
   rcases hdi with ⟨hneg, rfl⟩ | ⟨hneg, rfl⟩
   all_goals
    go_enter Tryz.func168, Tryz.ntmps168
    go_wp2_with fail
    refine (HF1.out _ (Below.refl _ _)).mono ?_
    rintro e w1 ⟨rfl, hb0⟩
    replace hcell := cnx hcell hb0
    replace hcell2 := cnx hcell2 hb0
    go_wp2_with fail
    go_quiet (fail)
    go_wp2_with fail
    have hb1 := below_drewN' hb0 nq
    refine (HF2.out _ hb1).mono ?_
    rintro e w2 ⟨rfl, hb2⟩
    go_wp2
    go_ret
    exact ⟨ret_int (by unfold sg; split <;> omega), bnx hb1 hb2⟩
 ·rw [if_neg hp] at hnl
  have hfl : f < l.length := by omega
  have ht1 : ((f : Int) == (l.length : Int)) = false := by rw [beq_eq_false_iff_ne]; omega
  subst hnl
  by_cases h0 : f = 0
  ·have ht2 : decide (0 < f) = false := by simp; omega
   clear hp h0
   rcases hdi with ⟨hneg, rfl⟩ | ⟨hneg, rfl⟩
   all_goals
    go_enter Tryz.func168, Tryz.ntmps168
    go_wp2_with fail
    refine (HF1.out _ (Below.refl _ _)).mono ?_
    rintro e w1 ⟨rfl, hb0⟩
    go_wp2_with fail
    go_quiet (fail)
    have hb1 := below_drewN' hb0 nq
    go_wp2
    go_ret
    exact ⟨ret_int (by unfold sg; split <;> omega), hb1⟩
  ·have ht2 : decide (0 < f) = true := by simp; omega
   have hcd : ¬ (m - l.getD (f - 1) 0 ≤ l.getD f 0 - m) := fun h => hp (.inr ⟨by omega, h⟩)
   obtain ⟨ad, rfl, hcell⟩ := Kd.at_int HR.out ((f : Int) - 1) (by omega) (by omega)
   rw [rd_getD, show ((f : Int) - 1).toNat = f - 1 by omega] at hcell
   have hzb : 0 ≤ l.getD (f - 1) 0 ∧ l.getD (f - 1) 0 ≤ 1099511627776 := HBD.out _ (by rw [List.getD_eq_getElem?_getD, List.getElem?_eq_getElem (by omega), Option.getD_some]; exact List.getElem_mem _)
   obtain ⟨z, hz⟩ : ∃ z, z = l.getD (f - 1) 0 := ⟨_, rfl⟩
   rw [← hz] at hcell hzb hcd
   obtain ⟨ad2, he2, hcell2⟩ := Kd.at_int HR.out (f : Int) (by omega) (by omega)
   cases he2
   rw [rd_getD, Int.toNat_natCast] at hcell2
   have hzb2 : 0 ≤ l.getD f 0 ∧ l.getD f 0 ≤ 1099511627776 := HBD.out _ (by rw [List.getD_eq_getElem?_getD, List.getElem?_eq_getElem (by omega), Option.getD_some]; exact List.getElem_mem _)
   obtain ⟨z2, hz2⟩ : ∃ z2, z2 = l.getD f 0 := ⟨_, rfl⟩
   rw [← hz2] at hcell2 hzb2 hcd
   have hcd' : z2 - m < m - z := by omega
   have hflt : (f : Int) < (l.length : Int) := by omega
   have hf1 : 1 ≤ f := by omega
   clear hp hz2 hz h0 hcd
   rcases hdi with ⟨hneg, rfl⟩ | ⟨hneg, rfl⟩
   all_goals
    go_enter Tryz.func168, Tryz.ntmps168
    go_wp2_with fail
    refine (HF1.out _ (Below.refl _ _)).mono ?_
    rintro e w1 ⟨rfl, hb0⟩
    replace hcell := cnx hcell hb0
    replace hcell2 := cnx hcell2 hb0
    go_wp2_with fail
    go_quiet (fail)
    have hb1 := below_drewN' hb0 nq
    go_wp2
    go_ret
    exact ⟨ret_int (by unfold sg; split <;> omega), hb1⟩
end Q15

namespace Q16
attribute [local go_sem] max2_int min2_int max_two min_two max_three min_three
open Q15
def isW (l : List Int) : Bool := l.all (fun w => decide (1 ≤ w)) && decide (l.sum = 128) && decide (l.length ≤ 32)
def rng (low high : Int) (l : List Int) : Bool := l.all fun n => decide (low ≤ n ∧ n ≤ high)
def formE (n : Nat) (ws : List Int) (ls : List Nat) : Int := if isW ws then if n = 128 then if ls.all (fun m => decide (m = ws.length)) then 0 else 4 else 4 else 1
def Lens (w : World) (B : Nat) (ls : List Nat) : Prop := ∀ j n, ls[j]? = some n → ∃ A c, w.cell? ⟨B, j, none⟩ = some (.slice A n c)
theorem Lens.below {w w1 : World} {B : Nat} {ls : List Nat} (h : Lens w B ls) (hb : Below w.heap.size w w1) : Lens w1 B ls := fun j n hj => by
 obtain ⟨A, c, hc⟩ := h j n hj
 exact ⟨A, c, cnx hc hb⟩
theorem sum_pos : ∀ {l : List Int}, (∀ x ∈ l, 1 ≤ x) → (l.length : Int) ≤ l.sum
 | [], _ => by simp
 | a :: t, h => by
  have h1 := h a (by simp)
  have h2 := sum_pos (l := t) (fun x hx => h x (by simp [hx]))
  simp only [List.sum_cons, List.length_cons]
  omega
theorem isW_iff {l : List Int} : isW l = true ↔ (∀ x ∈ l, 1 ≤ x) ∧ l.sum = 128 ∧ l.length ≤ 32 := by
 unfold isW
 simp [List.all_eq_true, and_assoc]
theorem sum_take_le {l : List Int} (h : ∀ x ∈ l, 1 ≤ x) (k : Nat) : (l.take k).sum ≤ l.sum := by
 have h1 : (l.take k).sum + (l.drop k).sum = l.sum := by rw [← List.sum_append, List.take_append_drop]
 have h2 := sum_pos (l := l.drop k) (fun x hx => h x (List.mem_of_mem_drop hx))
 omega
theorem isW_not {l : List Int} {k : Nat} (hk : k < l.length) (h : rd l k < 1 ∨ 128 - (l.take k).sum < rd l k) : isW l = false := by
 rw [← Bool.not_eq_true]
 intro hw
 obtain ⟨h1, h2, h3⟩ := isW_iff.1 hw
 have h4 := h1 _ (rd_mem l k hk)
 have h5 := sum_take_le h1 (k + 1)
 rw [take_rd l k hk, List.sum_append] at h5
 simp only [List.sum_cons, List.sum_nil] at h5
 omega
theorem isW_all {l : List Int} (h : ∀ x ∈ l, 1 ≤ x) : isW l = (decide (1 ≤ l.length) && decide (l.length ≤ 32) && decide (128 - l.sum = 0)) := by
 have h1 : l.all (fun w => decide (1 ≤ w)) = true := by rw [List.all_eq_true]; intro x hx; exact decide_eq_true (h x hx)
 unfold isW
 rw [h1, Bool.true_and]
 cases l with
 | nil => decide
 | cons a t =>
  rw [decide_eq_true (show 1 ≤ (a :: t).length by simp), Bool.true_and, Bool.and_comm]
  congr 1
  exact decide_eq_decide.2 (by omega)
set_option maxHeartbeats 1000000 in
theorem isWidths_calls (A : Option Addr) (cap : Nat) (l : List Int) (w : World) (hr : (Kd.int .i64).C w A l.length l) (hl : l.length ≤ 1099511627776) :
  Calls Tryz.prog 97 #[.slice A l.length cap] w fun e w' => e = .returned (.bool (isW l)) ∧ Below w.heap.size w w' := by
 have HR := Aside0.mk hr
 clear hr
 go_enter Tryz.func97, Tryz.ntmps97
 go_wp2
 go_loopw [3, 8] (fun s i wr => ∃ (k : Nat) (z : Int), i = .int .i64 k ∧ s = .int .i64 z ∧ k ≤ l.length ∧ 0 ≤ z ∧ z ≤ 128 ∧ Aside0 (z = 128 - (l.take k).sum) ∧ Aside0 (∀ x ∈ l.take k, 1 ≤ x) ∧ Below w.heap.size w wr) (fun _ i _ => l.length - (intOf i).toNat)
 case atStart => exact ⟨0, 128, rfl, rfl, by omega, by omega, by omega, ⟨by simp⟩, ⟨by simp⟩, Below.refl _ _⟩
 case round =>
  obtain ⟨k, z, rfl, rfl, hk, hz0, hz1, hn, ha, hb⟩ := hrel
  by_cases hlt : k < l.length
  ·obtain ⟨ad, rfl, hcell⟩ := el_at HR.out hb hlt
   have hno := isW_not hlt
   have hT := take_rd l k hlt
   rw [← hn.out] at hno
   obtain ⟨n, hx⟩ : ∃ n, n = rd l k := ⟨_, rfl⟩
   rw [← hx] at hcell hno hT
   replace hno := Aside0.mk hno
   replace hT := Aside0.mk hT
   clear hx
   by_cases h1 : n < 1
   ·go_wp2
    go_ret
    exact ⟨by rw [hno.out (.inl h1)]; rfl, hb⟩
   ·by_cases h2 : z < n
    ·go_wp2
     go_ret
     exact ⟨by rw [hno.out (.inr h2)]; rfl, hb⟩
    ·go_wp2
     go_roundw
     case rel => exact ⟨k + 1, z - n, by go_num, rfl, by omega, by omega, by omega, ⟨by rw [hT.out, List.sum_append, hn.out]; simp; omega⟩, ⟨by
      rw [hT.out]
      intro x hx
      rcases List.mem_append.1 hx with hx | hx
      ·exact ha.out x hx
      ·rw [List.mem_singleton.1 hx]; omega⟩, hb⟩
     case measure => simp [intOf]; omega
  ·obtain rfl : k = l.length := by omega
   have hA := ha.out
   have hN := hn.out
   rw [List.take_length] at hA hN
   have hW := isW_all hA
   rw [← hN] at hW
   replace hW := Aside0.mk hW
   clear ha hn hA hN
   by_cases g1 : 1 ≤ l.length
   ·by_cases g2 : l.length ≤ 32
    ·have g1' : decide ((1 : Int) ≤ (l.length : Int)) = true := by simp; omega
     have g2' : decide ((l.length : Int) ≤ (32 : Int)) = true := by simp; omega
     rw [decide_eq_true g1, decide_eq_true g2, Bool.true_and, Bool.true_and] at hW
     clear g1 g2
     go_wp2
     go_ret
     exact ⟨by rw [hW.out]; rfl, hb⟩
    ·have g1' : decide ((1 : Int) ≤ (l.length : Int)) = true := by simp; omega
     have g2' : decide ((l.length : Int) ≤ (32 : Int)) = false := by simp; omega
     rw [decide_eq_false g2, Bool.and_false, Bool.false_and] at hW
     clear g1 g2
     go_wp2
     go_ret
     exact ⟨by rw [hW.out]; rfl, hb⟩
   ·have g1' : decide ((1 : Int) ≤ (l.length : Int)) = false := by simp; omega
    rw [decide_eq_false g1, Bool.false_and, Bool.false_and] at hW
    clear g1
    go_wp2
    go_ret
    exact ⟨by rw [hW.out]; rfl, hb⟩
theorem rng_not {low high : Int} {l : List Int} {k : Nat} (hk : k < l.length) (h : rd l k < low ∨ high < rd l k) : rng low high l = false := by
 rw [← Bool.not_eq_true]
 intro hw
 have := List.all_eq_true.1 hw _ (rd_mem l k hk)
 simp only [decide_eq_true_eq] at this
 omega
set_option maxHeartbeats 1000000 in
theorem inRange_calls (low high : Int) (A : Option Addr) (cap : Nat) (l : List Int) (w : World) (hr : (Kd.int .i64).C w A l.length l) (hl : l.length ≤ 1099511627776) :
  Calls Tryz.prog 98 #[.int .i64 low, .int .i64 high, .slice A l.length cap] w fun e w' => e = .returned (.bool (rng low high l)) ∧ Below w.heap.size w w' := by
 have HR := Aside0.mk hr
 clear hr
 go_enter Tryz.func98, Tryz.ntmps98
 go_wp2
 go_loopw [11] (fun i wr => ∃ (k : Nat), i = .int .i64 k ∧ k ≤ l.length ∧ Aside0 (∀ x ∈ l.take k, low ≤ x ∧ x ≤ high) ∧ Below w.heap.size w wr) (fun i _ => l.length - (intOf i).toNat)
 case atStart => exact ⟨0, rfl, by omega, ⟨by simp⟩, Below.refl _ _⟩
 case round =>
  obtain ⟨k, rfl, hk, ha, hb⟩ := hrel
  by_cases hlt : k < l.length
  ·obtain ⟨ad, rfl, hcell⟩ := el_at HR.out hb hlt
   have hno := rng_not (low := low) (high := high) hlt
   have hT := take_rd l k hlt
   obtain ⟨n, hx⟩ : ∃ n, n = rd l k := ⟨_, rfl⟩
   rw [← hx] at hcell hno hT
   replace hno := Aside0.mk hno
   replace hT := Aside0.mk hT
   clear hx
   by_cases h1 : n < low
   ·go_wp2
    go_ret
    exact ⟨by rw [hno.out (.inl h1)]; rfl, hb⟩
   ·by_cases h2 : high < n
    ·go_wp2
     go_ret
     exact ⟨by rw [hno.out (.inr h2)]; rfl, hb⟩
    ·go_wp2
     go_roundw
     case rel => exact ⟨k + 1, by go_num, by omega, ⟨by
      rw [hT.out]
      intro x hx
      rcases List.mem_append.1 hx with hx | hx
      ·exact ha.out x hx
      ·rw [List.mem_singleton.1 hx]; omega⟩, hb⟩
     case measure => simp [intOf]; omega
  ·obtain rfl : k = l.length := by omega
   have hA := ha.out
   rw [List.take_length] at hA
   have hW : Aside0 (rng low high l = true) := ⟨List.all_eq_true.2 fun x hx => decide_eq_true (hA x hx)⟩
   clear ha hA
   go_wp2
   go_ret
   exact ⟨by rw [hW.out]; rfl, hb⟩
section
variable (A : Option Addr) (cap : Nat) (l : List Int) (w : World) (hr : (Kd.int .i64).C w A l.length l) (hl : l.length ≤ 1099511627776)
include hr hl
theorem isCoefs_calls : Calls Tryz.prog 56 #[.slice A l.length cap] w fun e w' => e = .returned (.bool (rng (-2097152) 2097152 l)) ∧ Below w.heap.size w w' := by
 have hb := Below.refl w.heap.size w
 have HC := Aside0.mk (inRange_calls (-2097152) 2097152 A cap l w hr hl)
 obtain ⟨b, hbe⟩ : ∃ b, b = rng (-2097152) 2097152 l := ⟨_, rfl⟩
 rw [← hbe] at HC ⊢
 clear hr hbe
 go_enter Tryz.func56, Tryz.ntmps56
 go_wp2_with (first | (go_at_call 98; refine (HC.out).mono ?_; rintro e w' ⟨rfl, hbn⟩; replace hb := bnx hb hbn; clear hbn))
 go_ret
 exact ⟨rfl, hb⟩
theorem isScales_calls : Calls Tryz.prog 57 #[.slice A l.length cap] w fun e w' => e = .returned (.bool (rng 0 95 l)) ∧ Below w.heap.size w w' := by
 have hb := Below.refl w.heap.size w
 have HC := Aside0.mk (inRange_calls 0 95 A cap l w hr hl)
 obtain ⟨b, hbe⟩ : ∃ b, b = rng 0 95 l := ⟨_, rfl⟩
 rw [← hbe] at HC ⊢
 clear hr hbe
 go_enter Tryz.func57, Tryz.ntmps57
 go_wp2_with (first | (go_at_call 98; refine (HC.out).mono ?_; rintro e w' ⟨rfl, hbn⟩; replace hb := bnx hb hbn; clear hbn))
 go_ret
 exact ⟨rfl, hb⟩
end
set_option maxHeartbeats 1000000 in
theorem form_calls (A0 A : Option Addr) (n0 c0 cap c2 : Nat) (l : List Int) (B : Nat) (ls : List Nat) (w : World) (hr : (Kd.int .i64).C w A l.length l) (hl : l.length ≤ 1099511627776) (hn0 : n0 ≤ 1099511627776) (hls : Lens w B ls) (hll : ls.length ≤ 1000000) (hle : ∀ n ∈ ls, n ≤ 1099511627776) :
  Calls Tryz.prog 55 #[.slice A0 n0 c0, .slice A l.length cap, .slice (some ⟨B, 0, none⟩) ls.length c2] w fun e w' => e = .returned (.int .i64 (formE n0 l ls)) ∧ Below w.heap.size w w' := by
 have hb := Below.refl w.heap.size w
 have HW := Aside0.mk (isWidths_calls A cap l w hr hl)
 have HLS := Aside0.mk hls
 have HLE := Aside0.mk hle
 clear hr hls hle
 unfold formE
 cases hw : isW l with
 | false =>
  rw [hw] at HW
  clear hw
  go_enter Tryz.func55, Tryz.ntmps55
  go_wp2_with (first | (go_at_call 97; refine (HW.out).mono ?_; rintro e w' ⟨rfl, hbn⟩; replace hb := bnx hb hbn; clear hbn))
  go_ret
  exact ⟨rfl, hb⟩
 | true =>
  rw [hw] at HW
  clear hw
  by_cases h128 : n0 = 128
  ·subst h128
   rw [if_pos rfl, if_pos rfl]
   obtain ⟨E, hE⟩ : ∃ E : Int, E = (if ls.all (fun m => decide (m = l.length)) then 0 else 4) := ⟨_, rfl⟩
   rw [← hE]
   have HX : Aside0 (∀ k n, ls[k]? = some n → n ≠ l.length → E = 4) := ⟨fun k n hk hne => by
    rw [hE, if_neg]
    intro h
    have := List.all_eq_true.1 h n (List.mem_of_getElem? hk)
    simp at this
    exact hne this⟩
   have HY : Aside0 ((∀ x ∈ ls, x = l.length) → E = 0) := ⟨fun h => by rw [hE, if_pos (List.all_eq_true.2 fun x hx => decide_eq_true (h x hx))]⟩
   clear hE
   go_enter Tryz.func55, Tryz.ntmps55
   go_wp2_with (first | (go_at_call 97; refine (HW.out).mono ?_; rintro e w' ⟨rfl, hbn⟩; replace hb := bnx hb hbn; clear hbn))
   go_loopw [17] (fun i wr => ∃ (k : Nat), i = .int .i64 k ∧ k ≤ ls.length ∧ Aside0 (∀ x ∈ ls.take k, x = l.length) ∧ Below w.heap.size w wr) (fun i _ => ls.length - (intOf i).toNat)
   case atStart => exact ⟨0, rfl, by omega, ⟨by simp⟩, hb⟩
   case round =>
    obtain ⟨k, rfl, hk, ha, hbr⟩ := hrel
    clear hb
    have hb := hbr
    clear hbr
    by_cases hlt : k < ls.length
    ·have hk? := List.getElem?_eq_getElem hlt
     obtain ⟨A2, c3, hcell⟩ := HLS.out k _ hk?
     replace hcell := cnx hcell hb
     have hle := HLE.out _ (List.getElem_mem hlt)
     have hX := HX.out k _ hk?
     have hT : ls.take (k + 1) = ls.take k ++ [ls[k]] := List.take_succ_eq_append_getElem hlt
     obtain ⟨n, hx⟩ : ∃ n, n = ls[k] := ⟨_, rfl⟩
     rw [← hx] at hcell hX hT hle
     replace hX := Aside0.mk hX
     replace hT := Aside0.mk hT
     clear hx hk?
     by_cases h1 : n = l.length
     ·have h1' : decide ((n : Int) = (l.length : Int)) = true := by simp; omega
      have h1'' : ((n : Int) != (l.length : Int)) = false := by simp; omega
      have hn := Aside0.mk h1
      clear h1
      go_wp2
      go_roundw
      case rel => exact ⟨k + 1, by go_num, by omega, ⟨by
       rw [hT.out]
       intro x hx
       rcases List.mem_append.1 hx with hx | hx
       ·exact ha.out x hx
       ·rw [List.mem_singleton.1 hx]; exact hn.out⟩, hb⟩
      case measure => simp [intOf]; omega
     ·have h1' : decide ((n : Int) = (l.length : Int)) = false := by simp; omega
      have h1'' : ((n : Int) != (l.length : Int)) = true := by simp; omega
      have hf := Aside0.mk (hX.out h1)
      clear h1
      go_wp2
      go_ret
      exact ⟨by rw [hf.out]; rfl, hb⟩
    ·obtain rfl : k = ls.length := by omega
     have hA := ha.out
     rw [List.take_length] at hA
     have hf := Aside0.mk (HY.out hA)
     clear ha hA
     go_wp2
     go_ret
     exact ⟨by rw [hf.out]; rfl, hb⟩
  ·rw [if_neg h128, if_pos rfl]
   have h1' : ((n0 : Int) != (128 : Int)) = true := by simp; omega
   clear h128
   go_enter Tryz.func55, Tryz.ntmps55
   go_wp2_with (first | (go_at_call 97; refine (HW.out).mono ?_; rintro e w' ⟨rfl, hbn⟩; replace hb := bnx hb hbn; clear hbn))
   go_ret
   exact ⟨rfl, hb⟩
end Q16

namespace Sec
attribute [local go_sem] max2_int min2_int max_two min_two max_three min_three
open Q15
def cmpI (a b : Int) : Int := if a < b then -1 else if b < a then 1 else 0
def cmpL : List Int → List Int → Int
 | [], [] => 0
 | [], _ :: _ => -1
 | _ :: _, [] => 1
 | x :: xs, y :: ys => if x < y then -1 else if y < x then 1 else cmpL xs ys
theorem cmpL_cons (x y : Int) (xs ys : List Int) : cmpL (x :: xs) (y :: ys) = if x < y then -1 else if y < x then 1 else cmpL xs ys := rfl
theorem cmpL_cn (x : Int) (xs : List Int) : cmpL (x :: xs) [] = 1 := rfl
theorem cmpL_nc (y : Int) (ys : List Int) : cmpL [] (y :: ys) = -1 := rfl
theorem drop_rd (l : List Int) (k : Nat) (h : k < l.length) : l.drop k = rd l k :: l.drop (k + 1) := by
 rw [List.drop_eq_getElem_cons h]
 unfold rd
 simp [List.getD_eq_getElem?_getD, h]
set_option maxHeartbeats 1000000 in
theorem isNaN_calls (a : Int) (w : World) : Calls Tryz.prog 232 #[.int .i64 a] w fun e w' => e = .returned (.bool false) ∧ w' = w := by
 go_enter Tryz.func232, Tryz.ntmps232
 go_wp2
 go_ret
 exact ⟨rfl, rfl⟩
set_option maxHeartbeats 1000000 in
theorem cmpCompare_calls (a b : Int) (w : World) :
  Calls Tryz.prog 219 #[.int .i64 a, .int .i64 b] w fun e w' => e = .returned (.int .i64 (cmpI a b)) ∧ Below w.heap.size w w' := by
 have hb := Below.refl w.heap.size w
 by_cases h1 : a < b
 ·have hc : Aside0 (cmpI a b = -1) := ⟨by unfold cmpI; rw [if_pos h1]⟩
  go_enter Tryz.func219, Tryz.ntmps219
  go_wp2_with (first | (go_at_call 232; refine (isNaN_calls _ _).mono ?_; rintro e w' ⟨rfl, rfl⟩))
  go_ret
  exact ⟨by rw [hc.out]; rfl, hb⟩
 ·by_cases h2 : b < a
  ·have hc : Aside0 (cmpI a b = 1) := ⟨by unfold cmpI; rw [if_neg h1, if_pos h2]⟩
   have t1 : decide (a < b) = false := decide_eq_false h1
   clear h1
   go_enter Tryz.func219, Tryz.ntmps219
   go_wp2_with (first | (go_at_call 232; refine (isNaN_calls _ _).mono ?_; rintro e w' ⟨rfl, rfl⟩))
   go_ret
   exact ⟨by rw [hc.out]; rfl, hb⟩
  ·have hc : Aside0 (cmpI a b = 0) := ⟨by unfold cmpI; rw [if_neg h1, if_neg h2]⟩
   have t1 : decide (a < b) = false := decide_eq_false h1
   have t2 : decide (b < a) = false := decide_eq_false h2
   clear h1 h2
   go_enter Tryz.func219, Tryz.ntmps219
   go_wp2_with (first | (go_at_call 232; refine (isNaN_calls _ _).mono ?_; rintro e w' ⟨rfl, rfl⟩))
   go_ret
   exact ⟨by rw [hc.out]; rfl, hb⟩
set_option maxRecDepth 100000 in
set_option maxHeartbeats 1000000 in
theorem slCompare_calls (A B : Option Addr) (c1 c2 : Nat) (a b : List Int) (w : World) (hr : (Kd.int .i64).C w A a.length a) (hr2 : (Kd.int .i64).C w B b.length b) (h1 : a.length ≤ 1000000) (h2 : b.length ≤ 1000000) :
  Calls Tryz.prog 190 #[.slice A a.length c1, .slice B b.length c2] w fun e w' => e = .returned (.int .i64 (cmpL a b)) ∧ Below w.heap.size w w' := by
 have HA := Aside0.mk hr
 have HB := Aside0.mk hr2
 have haI : (a.length : Int) ≤ 1000000 := by omega
 have hbI : (b.length : Int) ≤ 1000000 := by omega
 obtain ⟨R, hR⟩ : ∃ R, R = cmpL a b := ⟨_, rfl⟩
 rw [← hR]
 replace hR := Aside0.mk hR
 clear hr hr2 h1 h2
 go_enter Tryz.func190, Tryz.ntmps190
 go_wp2
 go_loopw [11] (fun i wr => ∃ k : Nat, i = .int .i64 k ∧ k ≤ a.length ∧ k ≤ b.length ∧ Aside0 (R = cmpL (a.drop k) (b.drop k)) ∧ Below w.heap.size w wr) (fun i _ => a.length - (intOf i).toNat)
 case atStart => exact ⟨0, rfl, by omega, by omega, ⟨by rw [hR.out]; rfl⟩, Below.refl _ _⟩
 case round =>
  obtain ⟨k, rfl, hk, hk2, hz, hb⟩ := hrel
  by_cases hlt : k < a.length
  ·have hkI : (k : Int) < (a.length : Int) := by omega
   obtain ⟨ad, rfl, hcell⟩ := el_at HA.out hb hlt
   by_cases hlt2 : k < b.length
   ·have hkI2 : (k : Int) < (b.length : Int) := by omega
    obtain ⟨bd, rfl, hcell2⟩ := el_at HB.out hb hlt2
    have hz2 := hz.out
    rw [drop_rd a k hlt, drop_rd b k hlt2] at hz2
    obtain ⟨x, hx⟩ : ∃ x, x = rd a k := ⟨_, rfl⟩
    obtain ⟨y, hy⟩ : ∃ y, y = rd b k := ⟨_, rfl⟩
    rw [← hx] at hcell hz2
    rw [← hy] at hcell2 hz2
    have HC := Aside0.mk (fun W => cmpCompare_calls x y W)
    have hst : (cmpI x y ≠ 0 → R = cmpI x y) ∧ (cmpI x y = 0 → R = cmpL (a.drop (k + 1)) (b.drop (k + 1))) := by
     rw [hz2, cmpL_cons]
     unfold cmpI
     by_cases q1 : x < y
     ·simp [q1]
     ·by_cases q2 : y < x
      ·simp [q1, q2]
      ·simp [q1, q2]
    obtain ⟨c, hc⟩ : ∃ c, c = cmpI x y := ⟨_, rfl⟩
    rw [← hc] at HC hst
    clear hz2 hx hy hc hz
    have hT := Aside0.mk (And.intro hlt hlt2)
    have hbk := Aside0.mk hb
    clear hb hk hk2 hlt hlt2
    by_cases hc0 : c = 0
    ·have hst2 := Aside0.mk (hst.2 hc0)
     subst hc0
     clear hst
     have hbz := hbk.out
     go_wp2_with (first | (go_at_call 219; refine (HC.out _).mono ?_; rintro e w' ⟨rfl, hbn⟩; replace hbz := bnx hbz hbn; clear hbn))
     go_roundw
     case rel => exact ⟨k + 1, by go_num, hT.out.1, hT.out.2, hst2, hbz⟩
     case measure => have := hT.out; simp [intOf]; omega
    ·have hst1 := Aside0.mk (hst.1 hc0)
     have hcn : (c != 0) = true := bne_iff_ne.2 hc0
     clear hst hc0
     have hbz := hbk.out
     go_wp2_with (first | (go_at_call 219; refine (HC.out _).mono ?_; rintro e w' ⟨rfl, hbn⟩; replace hbz := bnx hbz hbn; clear hbn))
     go_ret
     exact ⟨by rw [hst1.out]; rfl, hbz⟩
   ·have hr1 : Aside0 (R = 1) := ⟨by rw [hz.out, drop_rd a k hlt, show b.drop k = [] from List.drop_of_length_le (by omega), cmpL_cn]⟩
    have hge : (b.length : Int) ≤ (k : Int) := by omega
    clear hlt2 hz
    go_wp2
    go_ret
    exact ⟨by rw [hr1.out]; rfl, hb⟩
  ·obtain rfl : k = a.length := by omega
   by_cases hlt2 : a.length < b.length
   ·have hr1 : Aside0 (R = -1) := ⟨by rw [hz.out, List.drop_length, drop_rd b _ hlt2, cmpL_nc]⟩
    have hge : (a.length : Int) < (b.length : Int) := by omega
    clear hlt2 hz
    go_wp2
    go_ret
    exact ⟨by rw [hr1.out]; rfl, hb⟩
   ·have hr1 : Aside0 (R = 0) := ⟨by rw [hz.out, List.drop_length, show b.drop a.length = [] from List.drop_of_length_le (by omega)]; rfl⟩
    have hge : decide (a.length < b.length) = false := decide_eq_false (by omega)
    clear hlt2 hz
    go_wp2
    go_ret
    exact ⟨by rw [hr1.out]; rfl, hb⟩
end Sec

end Go.Proofs.YtnflnicdjioflaaGreatDoor
