/- What each function of package quant returns: the search, the quantum, the noise. -/
import Derived.Test.YtglpdojccncjjaaQuantA
import Derived.WalkKit
import Derived.WalkSpells
import Derived.WalkLawsBesides
import Derived.KernelRfl
import Derived.Deep.RegionHeld3
import Derived.Deep.LoopGhost
import Derived.Deep.AppendLies
import Derived.Laws.Rows
import Derived.Shelf.GgClosure.Gives
import Derived.Test.YtglpdojccncjjaaWWords
import Derived.Test.YtglpdojccncjjaaWLast
import Derived.Test.YtglpdojccncjjaaWMore
namespace Go.Proofs.Ytglpdojccncjjaa.Q15
open Go.RowKit Go.Proofs.YtglpdojccncjjaaW.PrintWords Go.Proofs.YtglpdojccncjjaaW.PrintLast Go.Proofs.YtglpdojccncjjaaW.PrintMore
attribute [local go_sem] max2_int min2_int max_two min_two max_three min_three

/-- One step more. -/
theorem bnx {w w1 w2 : World} (h : Below w.heap.size w w1) (h2 : Below w1.heap.size w1 w2) : Below w.heap.size w w2 := h.trans (h2.mono h.size)
theorem cnx {w w1 : World} {a : Addr} {v : Value} (h : w.cell? a = some v) (hb : Below w.heap.size w w1) : w1.cell? a = some v := (hb.cell (World.block_lt_of_cell? w _ h)).trans h
theorem FnInt.later {g : Nat} {fs cs : Array Value} {w W : World} {x r : Int} (h : FnInt g fs cs w x r) (hb : Below w.heap.size w W) : FnInt g fs cs W x r := fun W' hb' => h W' (hb.trans (hb'.mono hb.size))
theorem FnBool.later {g : Nat} {fs cs : Array Value} {w W : World} {x : Int} {r : Bool} (h : FnBool g fs cs w x r) (hb : Below w.heap.size w W) : FnBool g fs cs W x r := fun W' hb' => h W' (hb.trans (hb'.mono hb.size))

set_option maxHeartbeats 400000 in
theorem first_calls (g : Nat) (fs cs : Array Value) (p : Int → Bool) (lo hi : Int) (w : World) (eg : Enters g) (h0 : 0 ≤ lo) (h1 : lo ≤ hi) (h2 : hi ≤ 1099511627776)
    (hp : ∀ x, lo ≤ x → x < hi → FnBool g fs cs w x (p x)) (hm : ∀ a b, lo ≤ a → a ≤ b → b < hi → p a = true → p b = true) :
    Calls Try.prog 62 #[.int .i64 lo, .int .i64 hi, .func (.func g) fs cs] w fun e w' => e = .returned (.int .i64 (fst p lo hi)) ∧ Below w.heap.size w w' := by
  have HP := Aside0.mk hp
  have HM := Aside0.mk hm
  clear hp hm
  unfold Enters at eg
  go_enter Try.func62, Try.ntmps62
  go_wp2
  go_loopw [0, 1] (fun a b wr => ∃ l h : Int, a = .int .i64 l ∧ b = .int .i64 h ∧ lo ≤ l ∧ l ≤ h ∧ h ≤ hi ∧ Aside0 (l = lo ∨ p (l - 1) = false) ∧ Aside0 (h = hi ∨ p h = true) ∧ Below w.heap.size w wr) (fun a b _ => (intOf b - intOf a).toNat)
  case atStart => exact ⟨lo, hi, rfl, rfl, by omega, h1, by omega, ⟨.inl rfl⟩, ⟨.inl rfl⟩, Below.refl _ _⟩
  case round =>
    obtain ⟨l, h, rfl, rfl, a1, a2, a3, a4, a5, hb⟩ := hrel
    by_cases hlt : l < h
    · have hmid : l ≤ (l + h) / 2 ∧ (l + h) / 2 < h := by omega
      have hc := HP.out ((l + h) / 2) (by omega) (by omega) wr hb
      cases hpm : p ((l + h) / 2) with
      | true =>
        rw [hpm] at hc
        have HC := Aside0.mk hc
        have hpm := Aside0.mk hpm
        clear hc
        go_wp2_with (go_at_fn g; refine HC.out.mono ?_; rintro e w' ⟨rfl, hb1⟩)
        go_roundw
        case rel => exact ⟨l, (l + h) / 2, rfl, rfl, a1, hmid.1, by omega, a4, ⟨.inr hpm.out⟩, hb.trans (hb1.mono hb.size)⟩
        case measure => simp [intOf]; omega
      | false =>
        rw [hpm] at hc
        have HC := Aside0.mk hc
        have hpm := Aside0.mk hpm
        clear hc
        go_wp2_with (go_at_fn g; refine HC.out.mono ?_; rintro e w' ⟨rfl, hb1⟩)
        go_roundw
        case rel => exact ⟨(l + h) / 2 + 1, h, rfl, rfl, by omega, by omega, a3, ⟨.inr (by rw [show (l + h) / 2 + 1 - 1 = (l + h) / 2 by omega]; exact hpm.out)⟩, a5, hb.trans (hb1.mono hb.size)⟩
        case measure => simp [intOf]; omega
    · obtain rfl : l = h := by omega
      have e : l = fst p lo hi := IsFirst.eq ⟨a1, a3, a4.out, a5.out⟩ HM.out
      go_wp2
      go_ret
      exact ⟨rfl, hb⟩

set_option maxHeartbeats 400000 in
theorem value_calls (q s : Int) (w : World) (h0 : -1023 ≤ q) (h1 : q ≤ 1023) (h2 : 0 ≤ s) (h3 : s ≤ 95) :
    Calls Try.prog 34 #[.int .i64 q, .int .i64 s] w fun e w' => e = .returned (.int .i64 (sg q (V (stepI s) (absI q)))) ∧ Below w.heap.size w w' := by
  have hs := stepI_bd h2 h3
  have hv := V_bd (x := stepI s) (absI q) (by omega)
  have ha : 0 ≤ absI q ∧ absI q ≤ 1023 := by unfold absI; omega
  obtain ⟨st, hst⟩ : ∃ st, st = stepI s := ⟨_, rfl⟩
  have hw := fun w => with_calls s w h2 h3
  rw [← hst] at hs hv hw ⊢
  have HW := Aside0.mk hw
  clear hst hw
  go_enter Try.func34, Try.ntmps34
  go_wp2_with (first | (go_at_call 39; refine (HW.out _).mono ?_; rintro e w' ⟨rfl, hb1⟩) |
    (go_at_call 38; refine (signed_calls 59 #[.int .i64 st] #[] q (V st (absI q)) _ (fun _ _ => by kernel_rfl) (by omega) (by omega) (by omega) (by omega) (fun W _ => xvalue_calls st _ W (by omega) hs.2 ha.1 ha.2)).mono ?_; rintro e w' ⟨rfl, hb⟩))
  go_ret
  exact ⟨rfl, hb1.trans (hb.mono hb1.size)⟩

set_option maxHeartbeats 400000 in
theorem Value_calls (q s : Int) (w : World) :
    Calls Try.prog 13 #[.int .i64 q, .int .i64 s] w fun e w' => e = .returned (.tuple (if isS s then if isQ q then #[.int .i64 (sg q (V (stepI s) (absI q))), .int .i64 0] else #[.int .i64 0, .int .i64 6] else #[.int .i64 0, .int .i64 1])) ∧ Below w.heap.size w w' := by
  cases h : isS s with
  | true =>
    obtain ⟨g1, g2⟩ := isS_bd h
    cases k : isQ q with
    | true =>
      obtain ⟨h1, h2⟩ := isQ_bd k
      go_enter Try.func13, Try.ntmps13
      go_wp2_with (first | (go_at_call 33; refine (isS_calls _ _).mono ?_; rintro e w' ⟨rfl, hb0⟩) | (go_at_call 29; refine (isQ_calls _ _).mono ?_; rintro e w' ⟨rfl, hb1⟩) | (go_at_call 34; refine (value_calls _ _ _ h1 h2 g1 g2).mono ?_; rintro e w' ⟨rfl, hb⟩))
      go_ret2
      exact ⟨rfl, (hb0.trans (hb1.mono hb0.size)).trans (hb.mono (Nat.le_trans hb0.size hb1.size))⟩
    | false =>
      go_enter Try.func13, Try.ntmps13
      go_wp2_with (first | (go_at_call 33; refine (isS_calls _ _).mono ?_; rintro e w' ⟨rfl, hb0⟩) | (go_at_call 29; refine (isQ_calls _ _).mono ?_; rintro e w' ⟨rfl, hb1⟩))
      go_ret2
      exact ⟨rfl, (hb0.trans (hb1.mono hb0.size))⟩
  | false =>
    go_enter Try.func13, Try.ntmps13
    go_wp2_with (first | (go_at_call 33; refine (isS_calls _ _).mono ?_; rintro e w' ⟨rfl, hb0⟩))
    go_ret2
    exact ⟨rfl, hb0⟩

set_option maxHeartbeats 400000 in
theorem q1_calls (B1 B2 : Nat) (x c q : Int) (w : World) (hc1 : w.cell? ⟨B1, 0, none⟩ = some (.int .i64 x)) (hc2 : w.cell? ⟨B2, 0, none⟩ = some (.int .i64 c)) (hx0 : 0 ≤ x) (hx1 : x ≤ 268435456) (h0 : 0 ≤ q) (h1 : q ≤ 1023) :
    Calls Try.prog 63 #[.int .i64 q, .pointer (some ⟨B1, 0, none⟩), .pointer (some ⟨B2, 0, none⟩)] w fun e w' => e = .returned (.bool (decide (V x q ≥ c))) ∧ Below w.heap.size w w' := by
  have l1 := World.block_lt_of_cell? w _ hc1
  have l2 := World.block_lt_of_cell? w _ hc2
  go_enter Try.func63, Try.ntmps63
  go_wp2_with fail
  go_region_held3 (fun w' => w'.cell? ⟨B1, 0, none⟩ = some (.int .i64 x) ∧ w'.cell? ⟨B2, 0, none⟩ = some (.int .i64 c) ∧ Below w.heap.size w w')
    (first | exact ⟨hc1, hc2, Below.refl _ _⟩ | exact ⟨hc1, hc2, (Below.refl _ _).drew⟩ | exact ⟨(hb.cell l1).trans hc1, (hb.cell l2).trans hc2, (Below.refl _ w).drew.trans hb⟩)
    (first | (go_at_call 59; refine (xvalue_calls x q _ hx0 hx1 h0 h1).mono ?_; rintro e w' ⟨rfl, hb⟩))
  go_wp2
  go_ret
  rename_i hh
  exact ⟨rfl, hh.2.2⟩

set_option maxHeartbeats 400000 in
theorem q3_calls (B1 B2 : Nat) (x c q : Int) (w : World) (hc1 : w.cell? ⟨B1, 0, none⟩ = some (.int .i64 x)) (hc2 : w.cell? ⟨B2, 0, none⟩ = some (.int .i64 c)) (hx0 : 0 ≤ x) (hx1 : x ≤ 268435456) (h0 : 0 ≤ q) (h1 : q ≤ 1023) :
    Calls Try.prog 65 #[.int .i64 q, .pointer (some ⟨B1, 0, none⟩), .pointer (some ⟨B2, 0, none⟩)] w fun e w' => e = .returned (.bool (decide (V x q ≥ c))) ∧ Below w.heap.size w w' := by
  have l1 := World.block_lt_of_cell? w _ hc1
  have l2 := World.block_lt_of_cell? w _ hc2
  go_enter Try.func65, Try.ntmps65
  go_wp2_with fail
  go_region_held3 (fun w' => w'.cell? ⟨B1, 0, none⟩ = some (.int .i64 x) ∧ w'.cell? ⟨B2, 0, none⟩ = some (.int .i64 c) ∧ Below w.heap.size w w')
    (first | exact ⟨hc1, hc2, Below.refl _ _⟩ | exact ⟨hc1, hc2, (Below.refl _ _).drew⟩ | exact ⟨(hb.cell l1).trans hc1, (hb.cell l2).trans hc2, (Below.refl _ w).drew.trans hb⟩)
    (first | (go_at_call 59; refine (xvalue_calls x q _ hx0 hx1 h0 h1).mono ?_; rintro e w' ⟨rfl, hb⟩))
  go_wp2
  go_ret
  rename_i hh
  exact ⟨rfl, hh.2.2⟩

set_option maxHeartbeats 400000 in
theorem q2_calls (B1 B2 : Nat) (x c q : Int) (w : World) (hc1 : w.cell? ⟨B1, 0, none⟩ = some (.int .i64 x)) (hc2 : w.cell? ⟨B2, 0, none⟩ = some (.int .i64 c)) (hx0 : 0 ≤ x) (hx1 : x ≤ 268435456) (h0 : 0 ≤ q) (h1 : q ≤ 1023) (hc0 : 0 ≤ c) (hc9 : c ≤ 2097152) :
    Calls Try.prog 64 #[.int .i64 q, .pointer (some ⟨B1, 0, none⟩), .pointer (some ⟨B2, 0, none⟩)] w fun e w' => e = .returned (.int .i64 (absI (V x q - c))) ∧ Below w.heap.size w w' := by
  have l1 := World.block_lt_of_cell? w _ hc1
  have l2 := World.block_lt_of_cell? w _ hc2
  have hv := V_bd q hx0
  go_enter Try.func64, Try.ntmps64
  go_wp2_with fail
  go_region_held3 (fun w' => w'.cell? ⟨B1, 0, none⟩ = some (.int .i64 x) ∧ w'.cell? ⟨B2, 0, none⟩ = some (.int .i64 c) ∧ Below w.heap.size w w')
    (first | exact ⟨hc1, hc2, Below.refl _ _⟩ | exact ⟨hc1, hc2, (Below.refl _ _).drew⟩ | exact ⟨(hb.cell l1).trans hc1, (hb.cell l2).trans hc2, (Below.refl _ w).drew.trans hb⟩)
    (first | (go_at_call 59; refine (xvalue_calls x q _ hx0 hx1 h0 h1).mono ?_; rintro e w' ⟨rfl, hb⟩))
  rename_i hh
  obtain ⟨_, _, hh⟩ := hh
  go_wp2
  all_goals
    go_ret
    exact ⟨ret_int (by unfold absI; omega), hh⟩

end Go.Proofs.Ytglpdojccncjjaa.Q15
