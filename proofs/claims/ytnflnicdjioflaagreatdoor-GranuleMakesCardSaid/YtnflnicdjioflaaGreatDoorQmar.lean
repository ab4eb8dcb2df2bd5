/- A part of the proof. -/
import Derived.Test.YtnflnicdjioflaaGreatDoorQmap
set_option linter.unusedVariables false
set_option linter.unusedSimpArgs false
namespace Go.Proofs.YtnflnicdjioflaaGreatDoor
open Go.RowKit Go.Proofs.YtnflnicdjioflaaGreatDoorW.PrintWords Go.Proofs.YtnflnicdjioflaaGreatDoorW.PrintLast Go.Proofs.YtnflnicdjioflaaGreatDoorW.PrintMore
namespace Q21
attribute [local go_sem] max2_int min2_int max_two min_two max_three min_three
open Q15
def okFil (f : List Int) : Bool := isFil f && (decide (f.length = 0) || decide (rd f (f.length - 1 : Nat) ≠ 0))
set_option maxRecDepth 100000 in
set_option maxHeartbeats 4000000 in
theorem gIsFilter_calls (A : Option Addr) (cap : Nat) (l : List Int) (w : World) (hr : (Kd.int .i64).C w A l.length l) (hl : l.length ≤ 1000000) :
  Calls Tryz.prog 52 #[.slice A l.length cap] w fun e w' => e = .returned (.bool (okFil l)) ∧ Below w.heap.size w w' := by
 have hb := Below.refl w.heap.size w
 have HC := Aside0.mk (Weights_calls A cap l w hr hl)
 have HR := Aside0.mk hr
 unfold okFil
 cases hd : isFil l with
 | false =>
  rw [Bool.false_and]
  have he : wgtE l = 1 := by unfold wgtE; rw [if_neg (by rw [hd]; decide)]
  rw [he] at HC
  clear hd he hr hl
  go_enter Tryz.func52, Tryz.ntmps52
  go_wp2_with fail
  refine HC.out.mono ?_; rintro e w1 ⟨B, p, rfl, -, hbn⟩; replace hb := bnx hb hbn
  clear hbn
  go_wp2_with fail
  go_ret
  exact ⟨rfl, hb⟩
 | true =>
  rw [Bool.true_and]
  have he : wgtE l = 0 := by unfold wgtE; rw [if_pos hd]
  rw [he] at HC
  by_cases h0 : l.length = 0
  ·have h0' : ((l.length : Int) == 0) = true := by simp [h0]
   rw [decide_eq_true h0, Bool.true_or]
   clear hd he hr hl h0
   go_enter Tryz.func52, Tryz.ntmps52
   go_wp2_with fail
   refine HC.out.mono ?_; rintro e w1 ⟨B, p, rfl, -, hbn⟩; replace hb := bnx hb hbn
   clear hbn
   go_wp2_with fail
   go_ret
   exact ⟨rfl, hb⟩
  ·have h0' : ((l.length : Int) == 0) = false := by simp; exact fun h => h0 (by rw [h]; rfl)
   rw [decide_eq_false h0, Bool.false_or]
   obtain ⟨n, hn⟩ : ∃ n, n = l.length - 1 := ⟨_, rfl⟩
   have hnI : (l.length : Int) - 1 = (n : Int) := by omega
   have hlI : (l.length : Int) ≤ 1000000 := by omega
   have hnl : n < l.length := by omega
   have hnl' : (n : Int) < (l.length : Int) := by omega
   have hs : IntKind.i64.wrap ((l.length : Int) - 1) = (n : Int) := by rw [hnI]; exact IntWalk.i64_in _ (by omega)
   rw [← hn]
   have hel := Aside0.mk (fun (W : World) (hb : Below w.heap.size w W) => el_at HR.out hb hnl)
   obtain ⟨x, hx⟩ : ∃ x, x = rd l (n : Int) := ⟨_, rfl⟩
   rw [← hx] at hel ⊢
   have hne : (x != 0) = decide (x ≠ 0) := by by_cases h : x = 0 <;> simp [h]
   obtain ⟨v, hv⟩ : ∃ v, v = decide (x ≠ 0) := ⟨_, rfl⟩
   rw [← hv] at hne ⊢
   clear hd he hr hl h0 hn hx hv hnI hnl
   cases v
   all_goals
    go_enter Tryz.func52, Tryz.ntmps52
    go_wp2_with fail
    refine HC.out.mono ?_; rintro e w1 ⟨B, p, rfl, -, hbn⟩; replace hb := bnx hb hbn
    clear hbn
    obtain ⟨ad, rfl, hcell⟩ := hel.out _ hb
    go_wp2_with fail
    go_ret
    exact ⟨rfl, hb⟩
theorem isFil_not {l : List Int} {k : Nat} (hk : k < l.length) (h : ¬ (-127 ≤ rd l k ∧ rd l k ≤ 127)) : isFil l = false := by
 unfold isFil
 rw [show Q16.rng (-127) 127 l = false from List.all_eq_false.2 ⟨_, rd_mem l k hk, by simpa using h⟩, Bool.and_false]
set_option maxRecDepth 100000 in
set_option maxHeartbeats 4000000 in
theorem rfilter_calls (A : Option Addr) (cap : Nat) (l : List Int) (w : World) (hr : (Kd.int .i64).C w A l.length l) (hl : l.length ≤ 1000000) :
  Calls Tryz.prog 47 #[.slice A l.length cap] w fun e w' => e = .returned (.bool (okFil l)) ∧ Below w.heap.size w w' := by
 have HR := Aside0.mk hr
 have hlI : (l.length : Int) ≤ 1000000 := by omega
 have HF : Aside0 (∀ k, k < l.length → ¬ (-127 ≤ rd l k ∧ rd l k ≤ 127) → okFil l = false) := ⟨fun k hk h => by unfold okFil; rw [isFil_not hk h, Bool.false_and]⟩
 have HT : Aside0 ((∀ x ∈ l, -127 ≤ x ∧ x ≤ 127) → okFil l = (decide (l.length ≤ 12) && (decide (l.length = 0) || decide (rd l (l.length - 1 : Nat) ≠ 0)))) := ⟨fun h => by
  unfold okFil isFil
  rw [show Q16.rng (-127) 127 l = true from List.all_eq_true.2 fun x hx => decide_eq_true (h x hx), Bool.and_true]⟩
 obtain ⟨b, hbe⟩ : ∃ b, b = okFil l := ⟨_, rfl⟩
 rw [← hbe] at HF HT ⊢
 clear hr hl hbe
 go_enter Tryz.func47, Tryz.ntmps47
 go_wp2
 go_loopw [7] (fun i wr => ∃ k : Nat, i = .int .i64 k ∧ k ≤ l.length ∧ Aside0 (∀ x ∈ l.take k, -127 ≤ x ∧ x ≤ 127) ∧ Below w.heap.size w wr) (fun i _ => l.length - (intOf i).toNat)
 case atStart => exact ⟨0, rfl, by omega, ⟨by simp⟩, Below.refl _ _⟩
 case round =>
  obtain ⟨k, rfl, hk, ha, hb⟩ := hrel
  by_cases hlt : k < l.length
  ·obtain ⟨ad, rfl, hcell⟩ := el_at HR.out hb hlt
   have hT := Aside0.mk (take_rd l k hlt)
   have hf := HF.out k hlt
   have hkI : (k : Int) < (l.length : Int) := by omega
   obtain ⟨n, hx⟩ : ∃ n, n = rd l k := ⟨_, rfl⟩
   rw [← hx] at hcell hT hf
   replace hf := Aside0.mk hf
   clear hx
   by_cases h1 : n < -127
   ·have hff := Aside0.mk (hf.out (by omega))
    go_wp2
    go_ret
    exact ⟨by rw [hff.out]; rfl, hb⟩
   ·by_cases h2 : 127 < n
    ·have hff := Aside0.mk (hf.out (by omega))
     have h1' : decide (n < -127) = false := by simpa using h1
     go_wp2
     go_ret
     exact ⟨by rw [hff.out]; rfl, hb⟩
    ·have h1' : decide (n < -127) = false := by simpa using h1
     have h2' : decide (127 < n) = false := by simpa using h2
     have h3 : Aside0 (-127 ≤ n ∧ n ≤ 127) := ⟨by omega⟩
     clear h1 h2
     go_wp2
     go_roundw
     case rel => exact ⟨k + 1, by go_num, by omega, ⟨by
      rw [hT.out]
      intro x hx
      rcases List.mem_append.1 hx with hx | hx
      ·exact ha.out x hx
      ·rw [List.mem_singleton.1 hx]; exact h3.out⟩, hb⟩
     case measure => simp [intOf]; omega
  ·obtain rfl : k = l.length := by omega
   have hA := ha.out
   rw [List.take_length] at hA
   have hff := HT.out hA
   clear ha hA HF HT
   by_cases h12 : l.length ≤ 12
   ·have h12' : decide ((l.length : Int) ≤ 12) = true := decide_eq_true (by omega)
    rw [decide_eq_true h12, Bool.true_and] at hff
    by_cases h0 : l.length = 0
    ·have h0' : ((l.length : Int) == 0) = true := by simp [h0]
     rw [decide_eq_true h0, Bool.true_or] at hff
     replace hff := Aside0.mk hff
     clear h0 h12 hk hlt
     go_wp2
     go_ret
     exact ⟨by rw [hff.out]; rfl, hb⟩
    ·have h0' : ((l.length : Int) == 0) = false := by simp; exact fun h => h0 (by rw [h]; rfl)
     rw [decide_eq_false h0, Bool.false_or] at hff
     obtain ⟨n, hn⟩ : ∃ n, n = l.length - 1 := ⟨_, rfl⟩
     have hnI : (l.length : Int) - 1 = (n : Int) := by omega
     have hnl : n < l.length := by omega
     have hnl' : (n : Int) < (l.length : Int) := by omega
     have hs : IntKind.i64.wrap ((l.length : Int) - 1) = (n : Int) := by rw [hnI]; exact IntWalk.i64_in _ (by omega)
     rw [← hn] at hff
     obtain ⟨ad, rfl, hcell⟩ := el_at HR.out hb hnl
     obtain ⟨x, hx⟩ : ∃ x, x = rd l (n : Int) := ⟨_, rfl⟩
     rw [← hx] at hcell hff
     have hne : (x != 0) = decide (x ≠ 0) := by by_cases h : x = 0 <;> simp [h]
     rw [← hff] at hne
     clear h0 hn hx hff hnI hnl h12 hk hlt
     cases b
     all_goals
      go_wp2
      go_ret
      exact ⟨rfl, hb⟩
   ·have h12' : decide ((l.length : Int) ≤ 12) = false := decide_eq_false (by omega)
    rw [decide_eq_false h12, Bool.false_and] at hff
    replace hff := Aside0.mk hff
    clear h12 hk hlt
    go_wp2
    go_ret
    exact ⟨by rw [hff.out]; rfl, hb⟩
end Q21

namespace Q21
attribute [local go_sem] max2_int min2_int max_two min_two max_three min_three
open Q15
open Q16 (KL info_list)
structure Dr where
 sh : Bool
 gr : List Int
 mid : List Bool
 fil : List (List Int)
 lis : List (List Int)
 lim : List (List Int)
structure DrV where
 Ag : Option Addr
 cg : Nat
 Am : Option Addr
 cm : Nat
 Af : Option Addr
 cf : Nat
 Al : Option Addr
 cl : Nat
 Ai : Option Addr
 ci : Nat
def drCells (d : Dr) (v : DrV) : Array Value := #[.bool d.sh, .slice v.Ag d.gr.length v.cg, .slice v.Am d.mid.length v.cm, .slice v.Af d.fil.length v.cf, .slice v.Al d.lis.length v.cl, .slice v.Ai d.lim.length v.ci]
structure DrAt (w : World) (d : Dr) (v : DrV) : Prop where
 gr : (Kd.int .i64).C w v.Ag d.gr.length d.gr
 mid : Kd.bool.C w v.Am d.mid.length d.mid
 fil : KL.C w v.Af d.fil.length d.fil
 lis : KL.C w v.Al d.lis.length d.lis
 lim : KL.C w v.Ai d.lim.length d.lim
theorem DrAt.below {w W : World} {d : Dr} {v : DrV} (h : DrAt w d v) (hb : Below w.heap.size w W) : DrAt W d v :=
 ⟨Kd.C_below h.gr hb, Kd.C_below h.mid hb, Kd.C_below h.fil hb, Kd.C_below h.lis hb, Kd.C_below h.lim hb⟩
def fewD (d : Dr) : Bool := decide (d.gr.length ≤ 200) && decide (d.mid.length ≤ 200) && decide (d.fil.length ≤ 4) && decide (d.lis.length ≤ 4) && decide (d.lim.length ≤ 4) && (d.fil ++ d.lis ++ d.lim).all fun l => decide (l.length ≤ 400)
def rdL (xs : List (List Int)) (i : Nat) : List Int := xs.getD i []
theorem KL_at {w W : World} {A : Option Addr} {xs : List (List Int)} (h : KL.C w A xs.length xs) (hb : Below w.heap.size w W) {k : Nat} (hk : k < xs.length) :
  ∃ ad B c, A = some ad ∧ W.cell? (ad.add k) = some (.slice B (rdL xs k).length c) ∧ (rdL xs k).length ≤ c ∧ (Kd.int .i64).C W B (rdL xs k).length (rdL xs k) := by
 obtain ⟨ad, c, e, _, hK, hc⟩ := Kd.C_get (Kd.C_below h hb) ([] : List Int) k (by omega) (by omega)
 have hc' : ∀ j u, c[j]? = some u → W.cell? (ad.add ((k : Int).toNat * 1 + j)) = some u := hc
 obtain ⟨B, c0, rfl, l0, g0⟩ := hK
 exact ⟨ad, B, c0, e, by have := hc' 0 _ rfl; simpa [rdL] using this, l0, g0⟩
theorem R_lit (D : Kd (List Value)) (w : World) (e base : Nat) (hb : base ≤ w.heap.size) : D.R e (w.alloc (.cells #[] e)) base (fun _ => True) (.slice (some ⟨w.heap.size, 0, none⟩) 0 0) [] :=
 ⟨fun _ _ => trivial, [], World.ownsRow_made w #[] 0 hb (by decide) (by simp), Reps.none _ _⟩
theorem raw_reads {w : World} {A : Option Addr} {n : Nat} {X : List (List Value)} {xs : List (List Int)} (h : (Kd.raw 1).C w A n X) (hX : ∀ (j : Nat) (x : List Int), xs[j]? = some x → ∃ B c, X[j]? = some [Value.slice B x.length c]) {k : Nat} (hk : k < xs.length) (hkn : k < n) :
  ∃ ad B c, A = some ad ∧ w.cell? (ad.add k) = some (.slice B (rdL xs k).length c) := by
 obtain ⟨B, c, hx⟩ := hX k (rdL xs k) (by simp [rdL, hk])
 obtain ⟨-, -, h2⟩ := h
 obtain ⟨ad, e, h3⟩ := h2 (by omega)
 obtain ⟨cs, -, hK, hcell⟩ := h3 k _ hx
 refine ⟨ad, B, c, e, ?_⟩
 have h4 := hcell 0 (.slice B (rdL xs k).length c) (by rw [hK.1]; rfl)
 rwa [show k * (Kd.raw 1).sz + 0 = k from Nat.mul_one k] at h4
theorem KL_raw {w : World} {A : Option Addr} {xs : List (List Int)} (h : KL.C w A xs.length xs) : ∃ X : List (List Value), X.length = xs.length ∧ (Kd.raw 1).C w A xs.length X ∧ ∀ (j : Nat) (x : List Int), xs[j]? = some x → ∃ B c, X[j]? = some [Value.slice B x.length c] := by
 obtain ⟨X, h1, h2, h3⟩ := Kd.reads_raw h (sz := 1) (fun x c hc => ⟨KL.K_len hc, KL.K_one hc⟩)
 refine ⟨X, h1, h2, fun j x hx => ?_⟩
 have hj : j < X.length := by rw [h1]; exact (List.getElem?_eq_some_iff.1 hx).1
 obtain ⟨B, c, e, _⟩ := h3 j x _ hx (List.getElem?_eq_getElem hj)
 exact ⟨B, c, by rw [List.getElem?_eq_getElem hj, e]⟩
theorem raw_app {xs ys : List (List Int)} {X Y : List (List Value)} (hl : X.length = xs.length) (h1 : ∀ (j : Nat) (x : List Int), xs[j]? = some x → ∃ B c, X[j]? = some [Value.slice B x.length c]) (h2 : ∀ (j : Nat) (x : List Int), ys[j]? = some x → ∃ B c, Y[j]? = some [Value.slice B x.length c]) :
  ∀ (j : Nat) (x : List Int), (xs ++ ys)[j]? = some x → ∃ B c, (X ++ Y)[j]? = some [Value.slice B x.length c] := fun j x hj => by
 by_cases hlt : j < xs.length
 ·rw [List.getElem?_append_left hlt] at hj
  rw [List.getElem?_append_left (by omega)]
  exact h1 j x hj
 ·rw [List.getElem?_append_right (by omega)] at hj
  rw [List.getElem?_append_right (by omega), hl]
  exact h2 _ x hj
theorem fewD_no {d : Dr} (h : ¬ (d.gr.length ≤ 200 ∧ d.mid.length ≤ 200 ∧ d.fil.length ≤ 4 ∧ d.lis.length ≤ 4 ∧ d.lim.length ≤ 4)) : fewD d = false := by
 rw [← Bool.not_eq_true]
 intro hf
 unfold fewD at hf
 simp only [Bool.and_eq_true, decide_eq_true_eq] at hf
 exact h ⟨hf.1.1.1.1.1, hf.1.1.1.1.2, hf.1.1.1.2, hf.1.1.2, hf.1.2⟩
theorem fewD_all {d : Dr} (h : d.gr.length ≤ 200 ∧ d.mid.length ≤ 200 ∧ d.fil.length ≤ 4 ∧ d.lis.length ≤ 4 ∧ d.lim.length ≤ 4) : fewD d = (d.fil ++ d.lis ++ d.lim).all fun l => decide (l.length ≤ 400) := by
 unfold fewD
 rw [decide_eq_true h.1, decide_eq_true h.2.1, decide_eq_true h.2.2.1, decide_eq_true h.2.2.2.1, decide_eq_true h.2.2.2.2]
 simp
set_option maxRecDepth 100000 in
set_option maxHeartbeats 4000000 in
theorem FewDraft_no (d : Dr) (v : DrV) (w : World) (h : ¬ (d.gr.length ≤ 200 ∧ d.mid.length ≤ 200 ∧ d.fil.length ≤ 4 ∧ d.lis.length ≤ 4 ∧ d.lim.length ≤ 4)) :
  Calls Tryz.prog 7 #[.agg (drCells d v)] w fun e w' => e = .returned (.bool (fewD d)) ∧ Below w.heap.size w w' := by
 have hu26 := Tryz.underlying26
 have HF := Aside0.mk (fewD_no h)
 have HN := Aside0.mk h
 clear h
 have hw : decide (200 < (d.gr.length : Int)) = true ∨ decide (200 < (d.gr.length : Int)) = false ∧ (decide (200 < (d.mid.length : Int)) = true ∨ decide (200 < (d.mid.length : Int)) = false ∧ (decide (4 < (d.fil.length : Int)) = true ∨ decide (4 < (d.fil.length : Int)) = false ∧ (decide (4 < (d.lis.length : Int)) = true ∨ decide (4 < (d.lis.length : Int)) = false ∧ decide (4 < (d.lim.length : Int)) = true))) := by
  have := HN.out
  simp only [decide_eq_true_eq, decide_eq_false_iff_not]
  omega
 clear HN
 unfold drCells
 rcases hw with h1 | ⟨h1, h2 | ⟨h2, h3 | ⟨h3, h4 | ⟨h4, h5⟩⟩⟩⟩
 all_goals
  go_enter Tryz.func7, Tryz.ntmps7
  go_wp2_with fail
  go_ret
  exact ⟨by rw [HF.out]; rfl, (Below.refl _ _).alloc (Nat.le_refl _) _⟩
set_option maxRecDepth 100000 in
set_option maxHeartbeats 4000000 in
theorem FewDraft_yes (d : Dr) (v : DrV) (w : World) (hd : DrAt w d v) (h : d.gr.length ≤ 200 ∧ d.mid.length ≤ 200 ∧ d.fil.length ≤ 4 ∧ d.lis.length ≤ 4 ∧ d.lim.length ≤ 4) :
  Calls Tryz.prog 7 #[.agg (drCells d v)] w fun e w' => e = .returned (.bool (fewD d)) ∧ Below w.heap.size w w' := by
 have hu26 := Tryz.underlying26
 have HD := Aside0.mk hd
 rw [fewD_all h]
 obtain ⟨b, hbe⟩ : ∃ b, b = (d.fil ++ d.lis ++ d.lim).all fun l => decide (l.length ≤ 400) := ⟨_, rfl⟩
 rw [← hbe]
 replace hbe := Aside0.mk hbe
 obtain ⟨g1, g2, g3, g4, g5⟩ := h
 have l1 : decide (200 < (d.gr.length : Int)) = false := decide_eq_false (by omega)
 have l2 : decide (200 < (d.mid.length : Int)) = false := decide_eq_false (by omega)
 have l3 : decide (4 < (d.fil.length : Int)) = false := decide_eq_false (by omega)
 have l4 : decide (4 < (d.lis.length : Int)) = false := decide_eq_false (by omega)
 have l5 : decide (4 < (d.lim.length : Int)) = false := decide_eq_false (by omega)
 have hmo := Aside0.mk (show Tryz.prog.follows .mixedOrders = true by kernel_rfl)
 clear hd
 unfold drCells
 go_enter Tryz.func7, Tryz.ntmps7
 go_wp2_with fail
 obtain ⟨W, hW⟩ : ∃ W, W = w.alloc (.cells (drCells d v) 26) := ⟨_, rfl⟩
 have hBW : W.heap[w.heap.size]? = some (.cells (drCells d v) 26 (0, 0)) := by rw [hW]; exact heap_alloc_new _ _
 have k3 : W.cell? ⟨w.heap.size, 3, none⟩ = some (.slice v.Af d.fil.length v.cf) := by rw [blk_cell hBW]; rfl
 have k4 : W.cell? ⟨w.heap.size, 4, none⟩ = some (.slice v.Al d.lis.length v.cl) := by rw [blk_cell hBW]; rfl
 have k5 : W.cell? ⟨w.heap.size, 5, none⟩ = some (.slice v.Ai d.lim.length v.ci) := by rw [blk_cell hBW]; rfl
 have hbW : Below w.heap.size w W := by rw [hW]; exact (Below.refl _ _).alloc (Nat.le_refl _) _
 unfold drCells at hW
 rw [← hW]
 obtain ⟨B, hB⟩ : ∃ B, B = w.heap.size := ⟨_, rfl⟩
 rw [← hB] at k3 k4 k5 ⊢
 replace hB := Aside0.mk hB
 clear hW hBW
 obtain ⟨Xf, lf, Cf, hXf⟩ := KL_raw (HD.out.below hbW).fil
 obtain ⟨Xl, ll, Cl, hXl⟩ := KL_raw (HD.out.below hbW).lis
 obtain ⟨Xi, li, Ci, hXi⟩ := KL_raw (HD.out.below hbW).lim
 have hX : ∀ (j : Nat) (x : List Int), (d.fil ++ d.lis ++ d.lim)[j]? = some x → ∃ B c, (Xf ++ Xl ++ Xi)[j]? = some [Value.slice B x.length c] := raw_app (by simp [lf, ll]) (raw_app lf hXf hXl) hXi
 replace hX := Aside0.mk hX
 replace Cf := Aside0.mk Cf
 replace Cl := Aside0.mk Cl
 replace Ci := Aside0.mk Ci
 have n1 : Aside0 ((([] : List (List Value)).length + d.fil.length) * 24 ≤ 140737488355328) := ⟨by simp; omega⟩
 have n2 : Aside0 ((([] ++ Xf).length + d.lis.length) * 24 ≤ 140737488355328) := ⟨by simp [lf]; omega⟩
 have n3 : Aside0 ((([] ++ Xf ++ Xl).length + d.lim.length) * 24 ≤ 140737488355328) := ⟨by simp [lf, ll]; omega⟩
 have hln : (d.fil ++ d.lis ++ d.lim).length ≤ 12 := by simp; omega
 have hlX : ([] ++ Xf ++ Xl ++ Xi).length = (d.fil ++ d.lis ++ d.lim).length := by simp [lf, ll, li]
 replace hbW := Aside0.mk hbW
 clear hXf hXl hXi g1 g2 g3 g4 g5 l1 l2 l3 l4 l5
 refine wp_region_last_drew (S := fun w' => w'.cell? ⟨B, 3, none⟩ = some (.slice v.Af d.fil.length v.cf) ∧ w'.cell? ⟨B, 4, none⟩ = some (.slice v.Al d.lis.length v.cl) ∧ w'.cell? ⟨B, 5, none⟩ = some (.slice v.Ai d.lim.length v.ci)) (ds := []) hmo.out ⟨k3, k4, k5⟩ (fun hHeld => ?_)
 (refine Tk.tl 1 (.pointer (some ⟨B, 3, none⟩)) hHeld ?_)
 (refine Tk.tl 2 (.slice v.Af d.fil.length v.cf) hHeld ?_)
 (refine Tk.tl 4 (.pointer (some ⟨B, 4, none⟩)) hHeld ?_)
 (refine Tk.tl 5 (.slice v.Al d.lis.length v.cl) hHeld ?_)
 (refine Tk.tl 7 (.pointer (some ⟨B, 5, none⟩)) hHeld ?_)
 (refine Tk.tl 8 (.slice v.Ai d.lim.length v.ci) hHeld ?_)
 (refine Tk.tl 11 (.int .i64 0) hHeld ?_)
 (refine wpAnyLast_ready (rs := [0]) (by kernel_rfl) (by simp) ?_; refine AllReadyL.cons rfl (by decide) (fun K hK => ?_) AllReadyL.nil)
 go_simp
 have hRl := R_lit (Kd.raw 1) W.drew 22 W.heap.size (Nat.le_refl _)
 have hb1 : Below W.heap.size W (W.drew.alloc (.cells #[] 22)) := (Below.refl W.heap.size W).drew.alloc (Nat.le_refl _) _
 obtain ⟨W1, hW1⟩ : ∃ W1, W1 = W.drew.alloc (.cells #[] 22) := ⟨_, rfl⟩
 rw [← hW1] at hRl hb1
 have d3 := cnx k3 hb1
 have d4 := cnx k4 hb1
 have d5 := cnx k5 hb1
 have hW1' : (W.alloc (.cells #[] 22)).drew = W1 := hW1.symm
 rw [hW1']
 replace Cf := Aside0.mk (Kd.C_below Cf.out hb1)
 clear hW1 hW1' hHeld
 (go_wp2_with fail; refine hK.out _ _ (⟨d3, d4, d5⟩) (fun hHeld => ?_); clear hK K; try simp only [Act.put, Tk.z1, Tk.z2, Tk.z3, Tk.z4, Tk.z5, Tk.z6])
 (refine wpAnyLast_ready (rs := [3]) (by kernel_rfl) (by simp) ?_; refine AllReadyL.cons rfl (by decide) (fun K hK => ?_) AllReadyL.nil)
 refine Kd.R_append_rows_step (Kd.raw 1) (Rr := (Kd.raw 1).K W1) (w0 := W) W.heap.size rfl (.tmp 33) (.tmp 35) 24 22 (.slice none 0 0) 24 rfl Tryz.underlying24 info_list rfl (by decide) (by decide) (.slice (some ⟨W.heap.size, 0, none⟩) 0 0) [] Xf v.Af d.fil.length v.cf (fun _ => True) (fun _ => False) rfl rfl hRl Cf.out (fun _ _ h => h) (fun _ h => h.elim) (fun _ _ => trivial) hb1 hb1.size n1.out ?_
 intro v3 W3 R3 B3 hg hat
 clear hg hat
 replace hRl := Aside0.mk hRl
 have e3 := cnx k3 B3
 have e4 := cnx k4 B3
 have e5 := cnx k5 B3
 replace Cl := Aside0.mk (Kd.C_below Cl.out B3)
 clear hHeld d3 d4 d5
 (go_wp2_with fail; refine hK.out _ _ (⟨e3, e4, e5⟩) (fun hHeld => ?_); clear hK K; try simp only [Act.put, Tk.z1, Tk.z2, Tk.z3, Tk.z4, Tk.z5, Tk.z6])
 (refine wpAnyLast_ready (rs := [6]) (by kernel_rfl) (by simp) ?_; refine AllReadyL.cons rfl (by decide) (fun K hK => ?_) AllReadyL.nil)
 refine Kd.R_append_rows_step (Kd.raw 1) (Rr := (Kd.raw 1).K W3) (w0 := W) W.heap.size rfl (.tmp 36) (.tmp 38) 24 22 (.slice none 0 0) 24 rfl Tryz.underlying24 info_list rfl (by decide) (by decide) v3 ([] ++ Xf) Xl v.Al d.lis.length v.cl (fun _ => True) (fun _ => False) rfl rfl R3 Cl.out (fun _ _ h => h) (fun _ h => h.elim) (fun _ _ => trivial) B3 B3.size n2.out ?_
 intro v6 W6 R6 B6 hg hat
 clear hg hat
 replace R3 := Aside0.mk R3
 have d3 := cnx k3 B6
 have d4 := cnx k4 B6
 have d5 := cnx k5 B6
 replace Ci := Aside0.mk (Kd.C_below Ci.out B6)
 clear hHeld e3 e4 e5
 (go_wp2_with fail; refine hK.out _ _ (⟨d3, d4, d5⟩) (fun hHeld => ?_); clear hK K; try simp only [Act.put, Tk.z1, Tk.z2, Tk.z3, Tk.z4, Tk.z5, Tk.z6])
 (refine wpAnyLast_ready (rs := [9]) (by kernel_rfl) (by simp) ?_; refine AllReadyL.cons rfl (by decide) (fun K hK => ?_) AllReadyL.nil)
 refine Kd.R_append_rows_step (Kd.raw 1) (Rr := (Kd.raw 1).K W6) (w0 := W) W.heap.size rfl (.tmp 39) (.tmp 41) 24 22 (.slice none 0 0) 24 rfl Tryz.underlying24 info_list rfl (by decide) (by decide) v6 ([] ++ Xf ++ Xl) Xi v.Ai d.lim.length v.ci (fun _ => True) (fun _ => False) rfl rfl R6 Ci.out (fun _ _ h => h) (fun _ h => h.elim) (fun _ _ => trivial) B6 B6.size n3.out ?_
 intro v9 W9 R9 B9 hg hat
 clear hg hat
 replace R6 := Aside0.mk R6
 have e3 := cnx k3 B9
 have e4 := cnx k4 B9
 have e5 := cnx k5 B9
 clear hHeld d3 d4 d5
 (go_wp2_with fail; refine hK.out _ _ (⟨e3, e4, e5⟩) (fun hHeld => ?_); clear hK K; try simp only [Act.put, Tk.z1, Tk.z2, Tk.z3, Tk.z4, Tk.z5, Tk.z6])
 obtain ⟨A9, c9, rfl, -, C9⟩ := Kd.R_reads R9
 rw [hlX] at C9 ⊢
 rw [List.nil_append] at C9
 obtain ⟨X, hXe⟩ : ∃ X, X = Xf ++ Xl ++ Xi := ⟨_, rfl⟩
 rw [← hXe] at C9 hX
 obtain ⟨L, hL⟩ : ∃ L, L = d.fil ++ d.lis ++ d.lim := ⟨_, rfl⟩
 rw [← hL] at C9 hX hln ⊢
 have hbe2 : Aside0 (b = L.all fun l => decide (l.length ≤ 400)) := ⟨by rw [hbe.out, hL]⟩
 clear hbe
 replace C9 := Aside0.mk C9
 have hbw := Aside0.mk (hbW.out.trans (B9.mono hbW.out.size))
 (refine Tk.tl 10 (.int .i64 L.length) hHeld ?_)
 try simp only [Act.put, List.setIfInBounds_toArray, List.set_cons_zero, List.set_cons_succ]
 refine wpAnyLast_done (by kernel_rfl) ?_ _
 have hlI : (L.length : Int) ≤ 12 := by omega
 clear B9 R9 e3 e4 e5 hHeld hXe hL hlX hln R6 B6 R3 B3 hRl hb1 k3 k4 k5 n1 n2 n3 HD hbW Cf Cl Ci lf ll li
 go_wp2_with fail
 go_loopw [44] (fun i wr => ∃ k : Nat, i = .int .i64 k ∧ k ≤ L.length ∧ Aside0 (∀ x ∈ L.take k, x.length ≤ 400) ∧ Aside0 (Below W9.heap.size W9 wr)) (fun i _ => L.length - (intOf i).toNat)
 case atStart => exact ⟨0, rfl, by omega, ⟨by simp⟩, ⟨Below.refl _ _⟩⟩
 case round =>
  obtain ⟨k, rfl, hk, ha, hb⟩ := hrel
  by_cases hlt : k < L.length
  ·obtain ⟨ad, B5, c5, rfl, hcell⟩ := raw_reads C9.out hX.out hlt hlt
   replace hcell := cnx hcell hb.out
   have hkI : (k : Int) < (L.length : Int) := by omega
   have hT : L.take (k + 1) = L.take k ++ [rdL L k] := by
    rw [List.take_add_one, List.getElem?_eq_getElem hlt]
    simp [rdL, hlt]
   have hno : 400 < (rdL L k).length → L.all (fun l => decide (l.length ≤ 400)) = false := fun h => List.all_eq_false.2 ⟨rdL L k, by simp [rdL, hlt], by simpa using h⟩
   obtain ⟨x, hx⟩ : ∃ x, x = rdL L k := ⟨_, rfl⟩
   rw [← hx] at hcell hT hno
   clear hx
   by_cases h4 : 400 < x.length
   ·have h4' : decide (400 < (x.length : Int)) = true := decide_eq_true (by omega)
    replace hno := Aside0.mk (hno h4)
    clear h4 hT
    go_wp2_with fail
    go_ret
    exact ⟨by rw [hbe2.out, hno.out]; rfl, hbw.out.trans (hb.out.mono hbw.out.size)⟩
   ·have h4' : decide (400 < (x.length : Int)) = false := decide_eq_false (by omega)
    have hT2 : Aside0 (∀ y ∈ L.take (k + 1), y.length ≤ 400) := ⟨by
     rw [hT]
     intro y hy
     rcases List.mem_append.1 hy with hy | hy
     ·exact ha.out y hy
     ·rw [List.mem_singleton.1 hy]; omega⟩
    clear h4 hT hno
    go_wp2_with fail
    go_roundw
    case rel => exact ⟨k + 1, by go_num, by omega, hT2, hb⟩
    case measure => simp [intOf]; omega
  ·obtain rfl : k = L.length := by omega
   have hA : Aside0 (L.all (fun l => decide (l.length ≤ 400)) = true) := ⟨List.all_eq_true.2 fun x hx => decide_eq_true (ha.out x (by rw [List.take_length]; exact hx))⟩
   clear ha
   go_wp2_with fail
   go_ret
   exact ⟨by rw [hbe2.out, hA.out]; rfl, hbw.out.trans (hb.out.mono hbw.out.size)⟩
theorem FewDraft_calls (d : Dr) (v : DrV) (w : World) (hd : DrAt w d v) :
  Calls Tryz.prog 7 #[.agg (drCells d v)] w fun e w' => e = .returned (.bool (fewD d)) ∧ Below w.heap.size w w' := by
 by_cases h : d.gr.length ≤ 200 ∧ d.mid.length ≤ 200 ∧ d.fil.length ≤ 4 ∧ d.lis.length ≤ 4 ∧ d.lim.length ≤ 4
 ·exact FewDraft_yes d v w hd h
 ·exact FewDraft_no d v w h
end Q21

namespace Q21
attribute [local go_sem] max2_int min2_int max_two min_two max_three min_three
open Q15
open Q16 (KL info_list)
def midB (n ch : Nat) (many : Nat) : Bool := if (ch : Int) = 1 then decide (n = 0) else decide ((n : Int) = many)
def okD (d : Dr) (m k : Nat) : Bool := decide ((rdL d.lis k).length = 128) && (Q16.rng (-2097152) 2097152 (rdL d.lis k) && (decide ((rdL d.lim k).length = m) && (Q16.rng 0 72057594037927936 (rdL d.lim k) && okFil (rdL d.fil k))))
def headD (d : Dr) : Bool := decide (1 ≤ d.lis.length ∧ d.lis.length ≤ 2 ∧ d.lim.length = d.lis.length ∧ d.fil.length = d.lis.length)
def validD (d : Dr) : Bool := headD d && (isDiv d.sh d.gr && (midB d.mid.length d.lis.length (widthsL d.sh d.gr).length && (List.range d.lis.length).all (okD d (widthsL d.sh d.gr).length)))
def DwOut (d : Dr) (w : World) (e : Ending) (w' : World) : Prop := (∃ A p, e = .returned (.tuple #[.slice A (if validD d then widthsL d.sh d.gr else []).length p, .bool (validD d)]) ∧ (Kd.int .i64).C w' A (if validD d then widthsL d.sh d.gr else []).length (if validD d then widthsL d.sh d.gr else [])) ∧ Below w.heap.size w w'
theorem fewD_facts {d : Dr} (h : fewD d = true) : d.gr.length ≤ 200 ∧ d.mid.length ≤ 200 ∧ d.fil.length ≤ 4 ∧ d.lis.length ≤ 4 ∧ d.lim.length ≤ 4 ∧ (∀ k, (rdL d.fil k).length ≤ 400) ∧ (∀ k, (rdL d.lis k).length ≤ 400) ∧ (∀ k, (rdL d.lim k).length ≤ 400) := by
 unfold fewD at h
 simp only [Bool.and_eq_true, decide_eq_true_eq] at h
 have h2 := List.all_eq_true.1 h.2
 have h3 : ∀ (xs : List (List Int)), (∀ x ∈ xs, x ∈ d.fil ++ d.lis ++ d.lim) → ∀ k, (rdL xs k).length ≤ 400 := fun xs hx k => by
  by_cases hk : k < xs.length
  ·have := h2 (rdL xs k) (hx _ (by simp [rdL, hk]))
   exact of_decide_eq_true this
  ·simp [rdL, hk]
 exact ⟨h.1.1.1.1.1, h.1.1.1.1.2, h.1.1.1.2, h.1.1.2, h.1.2, h3 _ (fun x hx => by simp [hx]), h3 _ (fun x hx => by simp [hx]), h3 _ (fun x hx => by simp [hx])⟩
theorem DwOut.no {d : Dr} {w : World} {e : Ending} {w' : World} (h : validD d = false) (he : e = .returned (.tuple #[.slice none 0 0, .bool false])) (hb : Below w.heap.size w w') : DwOut d w e w' := by
 refine ⟨⟨none, 0, ?_, ?_⟩, hb⟩
 ·rw [h]
  exact he
 ·rw [h]
  exact Kd.C_nil _ _
theorem DwOut.yes {d : Dr} {w : World} {e : Ending} {w' : World} {A : Option Addr} {n p : Nat} (h : validD d = true) (he : e = .returned (.tuple #[.slice A n p, .bool true])) (hn : n = (widthsL d.sh d.gr).length) (hC : (Kd.int .i64).C w' A n (widthsL d.sh d.gr)) (hb : Below w.heap.size w w') : DwOut d w e w' := by
 refine ⟨⟨A, p, ?_, ?_⟩, hb⟩
 ·rw [h, if_pos rfl, he, hn]
 ·rw [h, if_pos rfl, ← hn]
  exact hC
theorem headD_ways {d : Dr} (h : headD d = false) : decide ((d.lis.length : Int) < 1) = true ∨ decide ((d.lis.length : Int) < 1) = false ∧ (decide (2 < (d.lis.length : Int)) = true ∨ decide (2 < (d.lis.length : Int)) = false ∧ ((((d.lim.length : Int) != (d.lis.length : Int)) = true) ∨ (((d.lim.length : Int) != (d.lis.length : Int)) = false) ∧ (((d.fil.length : Int) != (d.lis.length : Int)) = true))) := by
 unfold headD at h
 rw [decide_eq_false_iff_not] at h
 simp only [decide_eq_true_eq, decide_eq_false_iff_not, bne_iff_ne, bne_eq_false_iff_eq, ne_eq]
 omega
theorem headD_yes {d : Dr} (h : headD d = true) : decide ((d.lis.length : Int) < 1) = false ∧ decide (2 < (d.lis.length : Int)) = false ∧ ((d.lim.length : Int) != (d.lis.length : Int)) = false ∧ ((d.fil.length : Int) != (d.lis.length : Int)) = false := by
 unfold headD at h
 rw [decide_eq_true_eq] at h
 simp only [decide_eq_false_iff_not, bne_eq_false_iff_eq]
 omega
set_option maxRecDepth 100000 in
set_option maxHeartbeats 4000000 in
theorem dw_head (d : Dr) (v : DrV) (w : World) (h : headD d = false) :
  Calls Tryz.prog 25 #[.agg (drCells d v)] w (DwOut d w) := by
 have hu26 := Tryz.underlying26
 have HF : Aside0 (validD d = false) := ⟨by unfold validD; rw [h, Bool.false_and]⟩
 have hw := headD_ways h
 clear h
 unfold drCells
 rcases hw with h1 | ⟨h1, h2 | ⟨h2, h3 | ⟨h3, h4⟩⟩⟩
 all_goals
  go_enter Tryz.func25, Tryz.ntmps25
  go_wp2_with fail
  go_ret2
  exact DwOut.no HF.out rfl ((Below.refl _ _).alloc (Nat.le_refl _) _)
set_option maxRecDepth 100000 in
set_option maxHeartbeats 4000000 in
theorem dw_div (d : Dr) (v : DrV) (w : World) (hL : Laid w) (hd : DrAt w d v) (h : headD d = true) (hv : isDiv d.sh d.gr = false) :
  Calls Tryz.prog 25 #[.agg (drCells d v)] w (DwOut d w) := by
 have hu26 := Tryz.underlying26
 have HF : Aside0 (validD d = false) := ⟨by unfold validD; rw [hv, Bool.false_and, Bool.and_false]⟩
 obtain ⟨h1, h2, h3, h4⟩ := headD_yes h
 have HC := Aside0.mk (fun (W : World) (hb : Below w.heap.size w W) => Widths_calls d.sh v.Ag v.cg d.gr W (hL.below hb) (hd.below hb).gr)
 have hE : divE d.sh d.gr = 1 := by unfold divE; rw [hv]; rfl
 rw [hE] at HC
 clear h hv hd hL hE
 unfold drCells
 go_enter Tryz.func25, Tryz.ntmps25
 go_wp2_with fail
 have hb : Below w.heap.size w (w.alloc (.cells #[.bool d.sh, .slice v.Ag d.gr.length v.cg, .slice v.Am d.mid.length v.cm, .slice v.Af d.fil.length v.cf, .slice v.Al d.lis.length v.cl, .slice v.Ai d.lim.length v.ci] 26)) := (Below.refl _ _).alloc (Nat.le_refl _) _
 refine (HC.out _ hb).mono ?_; rintro e w1 ⟨A, p, rfl, -, hbn⟩; replace hb := bnx hb hbn
 clear hbn
 go_wp2_with fail
 go_ret2
 exact DwOut.no HF.out rfl hb
set_option maxRecDepth 100000 in
set_option maxHeartbeats 8000000 in
theorem dw_yes (d : Dr) (v : DrV) (w : World) (hL : Laid w) (hd : DrAt w d v) (hf : fewD d = true) (h : headD d = true) (hv : isDiv d.sh d.gr = true) :
  Calls Tryz.prog 25 #[.agg (drCells d v)] w (DwOut d w) := by
 have hu26 := Tryz.underlying26
 obtain ⟨h1, h2, h3, h4⟩ := headD_yes h
 obtain ⟨f1, f2, f3, f4, f5, f6, f7, f8⟩ := fewD_facts hf
 have hlI : (d.lis.length : Int) ≤ 4 := by omega
 have hll : d.lim.length = d.lis.length ∧ d.fil.length = d.lis.length := by
  unfold headD at h
  rw [decide_eq_true_eq] at h
  exact ⟨h.2.2.1, h.2.2.2⟩
 have HV : Aside0 (validD d = (midB d.mid.length d.lis.length (widthsL d.sh d.gr).length && (List.range d.lis.length).all (okD d (widthsL d.sh d.gr).length))) := ⟨by unfold validD; rw [h, hv, Bool.true_and, Bool.true_and]⟩
 have HC := Aside0.mk (fun (W : World) (hb : Below w.heap.size w W) => Widths_calls d.sh v.Ag v.cg d.gr W (hL.below hb) (hd.below hb).gr)
 have hE : divE d.sh d.gr = 0 := by unfold divE; rw [hv]; rfl
 have hW : divW d.sh d.gr = widthsL d.sh d.gr := by unfold divW; rw [hv]; rfl
 rw [hE, hW] at HC
 obtain ⟨L, hL2⟩ : ∃ L, L = widthsL d.sh d.gr := ⟨_, rfl⟩
 rw [← hL2] at HC HV
 have hYes := Aside0.mk (fun {e : Ending} {w' : World} {A : Option Addr} {p : Nat} (h : validD d = true) (he : e = .returned (.tuple #[.slice A L.length p, .bool true])) (hC : (Kd.int .i64).C w' A L.length L) (hb : Below w.heap.size w w') => DwOut.yes (n := L.length) h he (by rw [hL2]) (by rw [← hL2]; exact hC) hb)
 have HM := Aside0.mk (fun (W : World) => isMid_calls v.Am v.cm d.mid.length (d.lis.length : Int) (L.length : Int) W)
 have HD := Aside0.mk hd
 have f6' := Aside0.mk f6
 have f7' := Aside0.mk f7
 have f8' := Aside0.mk f8
 have hll' := Aside0.mk hll
 clear h hv hd hL hE hW hf hL2 f1 f2 f3 f4 f5 f6 f7 f8 hll
 unfold drCells
 cases hm : midB d.mid.length d.lis.length L.length with
 | false =>
  have hmv := HV.out
  rw [hm, Bool.false_and] at hmv
  replace HV := Aside0.mk hmv
  unfold midB at hm
  rw [hm] at HM
  clear hm hmv
  go_enter Tryz.func25, Tryz.ntmps25
  go_wp2_with fail
  have hb : Below w.heap.size w (w.alloc (.cells #[.bool d.sh, .slice v.Ag d.gr.length v.cg, .slice v.Am d.mid.length v.cm, .slice v.Af d.fil.length v.cf, .slice v.Al d.lis.length v.cl, .slice v.Ai d.lim.length v.ci] 26)) := (Below.refl _ _).alloc (Nat.le_refl _) _
  obtain ⟨W, hW⟩ : ∃ W, W = w.alloc (.cells #[.bool d.sh, .slice v.Ag d.gr.length v.cg, .slice v.Am d.mid.length v.cm, .slice v.Af d.fil.length v.cf, .slice v.Al d.lis.length v.cl, .slice v.Ai d.lim.length v.ci] 26) := ⟨_, rfl⟩
  have k2 : W.cell? ⟨w.heap.size, 2, none⟩ = some (.slice v.Am d.mid.length v.cm) := by rw [hW]; go_simp
  rw [← hW] at hb ⊢
  clear hW
  refine (HC.out _ hb).mono ?_; rintro e w1 ⟨A, p, rfl, -, hbn⟩; replace hb := bnx hb hbn; replace k2 := cnx k2 hbn
  clear hbn
  go_wp2_with (first | (go_at_call 51; refine (HM.out _).mono ?_; rintro e w' ⟨rfl, hbn⟩; replace hb := bnx hb hbn; clear hbn))
  go_ret2
  exact DwOut.no HV.out rfl hb
 | true =>
  have hmv := HV.out
  rw [hm, Bool.true_and] at hmv
  replace HV := Aside0.mk hmv
  unfold midB at hm
  rw [hm] at HM
  have HNo : Aside0 (∀ k, k < d.lis.length → okD d L.length k = false → validD d = false) := ⟨fun k hk h => by rw [HV.out]; exact List.all_eq_false.2 ⟨k, List.mem_range.2 hk, by rw [h]; decide⟩⟩
  have HYv : Aside0 ((∀ k, k < d.lis.length → okD d L.length k = true) → validD d = true) := ⟨fun h => by rw [HV.out]; exact List.all_eq_true.2 fun k hk => h k (List.mem_range.1 hk)⟩
  clear hm hmv HV
  obtain ⟨Ag, cg, Am, cm, Af, cf, Al, cl, Ai, ci⟩ := v
  have gl := HD.out.lis
  have gi := HD.out.lim
  have gf := HD.out.fil
  dsimp only at gl gi gf HC HM ⊢
  replace gl := Aside0.mk gl
  replace gi := Aside0.mk gi
  replace gf := Aside0.mk gf
  clear HD
  go_enter Tryz.func25, Tryz.ntmps25
  go_wp2_with fail
  have hb : Below w.heap.size w (w.alloc (.cells #[.bool d.sh, .slice Ag d.gr.length cg, .slice Am d.mid.length cm, .slice Af d.fil.length cf, .slice Al d.lis.length cl, .slice Ai d.lim.length ci] 26)) := (Below.refl _ _).alloc (Nat.le_refl _) _
  obtain ⟨W, hW⟩ : ∃ W, W = w.alloc (.cells #[.bool d.sh, .slice Ag d.gr.length cg, .slice Am d.mid.length cm, .slice Af d.fil.length cf, .slice Al d.lis.length cl, .slice Ai d.lim.length ci] 26) := ⟨_, rfl⟩
  have k2 : W.cell? ⟨w.heap.size, 2, none⟩ = some (.slice Am d.mid.length cm) := by rw [hW]; go_simp
  have k3 : W.cell? ⟨w.heap.size, 3, none⟩ = some (.slice Af d.fil.length cf) := by rw [hW]; go_simp
  have k4 : W.cell? ⟨w.heap.size, 4, none⟩ = some (.slice Al d.lis.length cl) := by rw [hW]; go_simp
  have k5 : W.cell? ⟨w.heap.size, 5, none⟩ = some (.slice Ai d.lim.length ci) := by rw [hW]; go_simp
  rw [← hW] at hb ⊢
  clear hW
  refine (HC.out _ hb).mono ?_; rintro e w1 ⟨A, p, rfl, hCw, hbn⟩; replace hb := bnx hb hbn
  replace k2 := cnx k2 hbn; replace k3 := cnx k3 hbn; replace k4 := cnx k4 hbn; replace k5 := cnx k5 hbn
  clear hbn
  go_wp2_with fail
  refine (HM.out _).mono ?_; rintro e w2 ⟨rfl, hbn⟩; replace hb := bnx hb hbn
  replace k2 := cnx k2 hbn; replace k3 := cnx k3 hbn; replace k4 := cnx k4 hbn; replace k5 := cnx k5 hbn
  replace hCw := Aside0.mk (Kd.C_below hCw hbn)
  clear hbn
  go_wp2_with fail
  have K := Aside0.mk (And.intro k3 (And.intro k4 k5))
  replace hb := Aside0.mk hb
  clear k2 k3 k4 k5
  go_loopw [54] (fun i wr => ∃ k : Nat, i = .int .i64 k ∧ k ≤ d.lis.length ∧ Aside0 (∀ j, j < k → okD d L.length j = true) ∧ Aside0 (Below w2.heap.size w2 wr)) (fun i _ => d.lis.length - (intOf i).toNat)
  case atStart => exact ⟨0, rfl, by omega, ⟨fun j hj => by omega⟩, ⟨Below.refl _ _⟩⟩
  case round =>
   obtain ⟨k, rfl, hk, ha, hbL⟩ := hrel
   by_cases hlt : k < d.lis.length
   ·have hbw := hb.out.trans (hbL.out.mono hb.out.size)
    obtain ⟨ad1, B1, c1, rfl, m4, -, C1⟩ := KL_at gl.out hbw hlt
    obtain ⟨ad2, B2, c2, rfl, m5, -, C2⟩ := KL_at gi.out hbw (k := k) (by rw [hll'.out.1]; exact hlt)
    obtain ⟨ad3, B3, c3, rfl, m3, -, C3⟩ := KL_at gf.out hbw (k := k) (by rw [hll'.out.2]; exact hlt)
    obtain ⟨k3, k4, k5⟩ := K.out
    replace k3 := cnx k3 hbL.out
    replace k4 := cnx k4 hbL.out
    replace k5 := cnx k5 hbL.out
    have hkI : (k : Int) < (d.lis.length : Int) := by omega
    have hkI2 : (k : Int) < (d.lim.length : Int) := by have := hll'.out; omega
    have hkI3 : (k : Int) < (d.fil.length : Int) := by have := hll'.out; omega
    have HC1 := fun (W : World) (hz : Below wr.heap.size wr W) => within_calls B1 c1 (rdL d.lis k) (-2097152) 2097152 W (Kd.C_below C1 hz) (by have := f7'.out k; omega)
    have HC2 := fun (W : World) (hz : Below wr.heap.size wr W) => within_calls B2 c2 (rdL d.lim k) 0 72057594037927936 W (Kd.C_below C2 hz) (by have := f8'.out k; omega)
    have HC3 := fun (W : World) (hz : Below wr.heap.size wr W) => gIsFilter_calls B3 c3 (rdL d.fil k) W (Kd.C_below C3 hz) (by have := f6'.out k; omega)
    have hok : okD d L.length k = (decide ((rdL d.lis k).length = 128) && (Q16.rng (-2097152) 2097152 (rdL d.lis k) && (decide ((rdL d.lim k).length = L.length) && (Q16.rng 0 72057594037927936 (rdL d.lim k) && okFil (rdL d.fil k))))) := rfl
    obtain ⟨x, hx⟩ : ∃ x, x = rdL d.lis k := ⟨_, rfl⟩
    obtain ⟨y, hy⟩ : ∃ y, y = rdL d.lim k := ⟨_, rfl⟩
    obtain ⟨z, hzz⟩ : ∃ z, z = rdL d.fil k := ⟨_, rfl⟩
    rw [← hx] at m4 HC1 hok
    rw [← hy] at m5 HC2 hok
    rw [← hzz] at m3 HC3 hok
    obtain ⟨q2, hq2⟩ : ∃ q2, q2 = Q16.rng (-2097152) 2097152 x := ⟨_, rfl⟩
    obtain ⟨q4, hq4⟩ : ∃ q4, q4 = Q16.rng 0 72057594037927936 y := ⟨_, rfl⟩
    obtain ⟨q5, hq5⟩ : ∃ q5, q5 = okFil z := ⟨_, rfl⟩
    rw [← hq2] at HC1 hok
    rw [← hq4] at HC2 hok
    rw [← hq5] at HC3 hok
    replace HC1 := Aside0.mk HC1
    replace HC2 := Aside0.mk HC2
    replace HC3 := Aside0.mk HC3
    have hltk := Aside0.mk hlt
    have hz := Below.refl wr.heap.size wr
    clear hx hy hzz hq2 hq4 hq5 C1 C2 C3 hbw hlt
    by_cases hl1 : x.length = 128
    ·have t1 : ((x.length : Int) != 128) = false := by rw [bne_eq_false_iff_eq]; omega
     rw [decide_eq_true hl1, Bool.true_and] at hok
     clear hl1
     cases q2 with
     | false =>
      have hno : Aside0 (okD d L.length k = false) := ⟨by rw [hok, Bool.false_and]⟩
      clear hok
      go_wp2_with (first | (go_at_call 26; refine (HC1.out _ hz).mono ?_; rintro e w' ⟨rfl, hbn⟩; replace hz := bnx hz hbn; replace k3 := cnx k3 hbn; replace k4 := cnx k4 hbn; replace k5 := cnx k5 hbn; replace m3 := cnx m3 hbn; replace m5 := cnx m5 hbn; clear hbn) | (go_at_call 26; refine (HC2.out _ hz).mono ?_; rintro e w' ⟨rfl, hbn⟩; replace hz := bnx hz hbn; replace k3 := cnx k3 hbn; replace k4 := cnx k4 hbn; replace k5 := cnx k5 hbn; replace m3 := cnx m3 hbn; replace m5 := cnx m5 hbn; clear hbn) | (go_at_call 52; refine (HC3.out _ hz).mono ?_; rintro e w' ⟨rfl, hbn⟩; replace hz := bnx hz hbn; replace k3 := cnx k3 hbn; replace k4 := cnx k4 hbn; replace k5 := cnx k5 hbn; replace m3 := cnx m3 hbn; replace m5 := cnx m5 hbn; clear hbn))
      go_ret2
      exact DwOut.no (HNo.out _ hltk.out hno.out) rfl (hb.out.trans ((hbL.out.trans (hz.mono hbL.out.size)).mono hb.out.size))
     | true =>
      rw [Bool.true_and] at hok
      by_cases hl2 : y.length = L.length
      ·have t2 : ((y.length : Int) != (L.length : Int)) = false := by rw [bne_eq_false_iff_eq]; omega
       rw [decide_eq_true hl2, Bool.true_and] at hok
       clear hl2
       cases q4 with
       | false =>
        have hno : Aside0 (okD d L.length k = false) := ⟨by rw [hok, Bool.false_and]⟩
        clear hok
        go_wp2_with (first | (go_at_call 26; refine (HC1.out _ hz).mono ?_; rintro e w' ⟨rfl, hbn⟩; replace hz := bnx hz hbn; replace k3 := cnx k3 hbn; replace k4 := cnx k4 hbn; replace k5 := cnx k5 hbn; replace m3 := cnx m3 hbn; replace m5 := cnx m5 hbn; clear hbn) | (go_at_call 26; refine (HC2.out _ hz).mono ?_; rintro e w' ⟨rfl, hbn⟩; replace hz := bnx hz hbn; replace k3 := cnx k3 hbn; replace k4 := cnx k4 hbn; replace k5 := cnx k5 hbn; replace m3 := cnx m3 hbn; replace m5 := cnx m5 hbn; clear hbn) | (go_at_call 52; refine (HC3.out _ hz).mono ?_; rintro e w' ⟨rfl, hbn⟩; replace hz := bnx hz hbn; replace k3 := cnx k3 hbn; replace k4 := cnx k4 hbn; replace k5 := cnx k5 hbn; replace m3 := cnx m3 hbn; replace m5 := cnx m5 hbn; clear hbn))
        go_ret2
        exact DwOut.no (HNo.out _ hltk.out hno.out) rfl (hb.out.trans ((hbL.out.trans (hz.mono hbL.out.size)).mono hb.out.size))
       | true =>
        rw [Bool.true_and] at hok
        cases q5 with
        | false =>
         have hno : Aside0 (okD d L.length k = false) := ⟨hok⟩
         clear hok
         go_wp2_with (first | (go_at_call 26; refine (HC1.out _ hz).mono ?_; rintro e w' ⟨rfl, hbn⟩; replace hz := bnx hz hbn; replace k3 := cnx k3 hbn; replace k4 := cnx k4 hbn; replace k5 := cnx k5 hbn; replace m3 := cnx m3 hbn; replace m5 := cnx m5 hbn; clear hbn) | (go_at_call 26; refine (HC2.out _ hz).mono ?_; rintro e w' ⟨rfl, hbn⟩; replace hz := bnx hz hbn; replace k3 := cnx k3 hbn; replace k4 := cnx k4 hbn; replace k5 := cnx k5 hbn; replace m3 := cnx m3 hbn; replace m5 := cnx m5 hbn; clear hbn) | (go_at_call 52; refine (HC3.out _ hz).mono ?_; rintro e w' ⟨rfl, hbn⟩; replace hz := bnx hz hbn; replace k3 := cnx k3 hbn; replace k4 := cnx k4 hbn; replace k5 := cnx k5 hbn; replace m3 := cnx m3 hbn; replace m5 := cnx m5 hbn; clear hbn))
         go_ret2
         exact DwOut.no (HNo.out _ hltk.out hno.out) rfl (hb.out.trans ((hbL.out.trans (hz.mono hbL.out.size)).mono hb.out.size))
        | true =>
         replace hok := Aside0.mk hok
         go_wp2_with (first | (go_at_call 26; refine (HC1.out _ hz).mono ?_; rintro e w' ⟨rfl, hbn⟩; replace hz := bnx hz hbn; replace k3 := cnx k3 hbn; replace k4 := cnx k4 hbn; replace k5 := cnx k5 hbn; replace m3 := cnx m3 hbn; replace m5 := cnx m5 hbn; clear hbn) | (go_at_call 26; refine (HC2.out _ hz).mono ?_; rintro e w' ⟨rfl, hbn⟩; replace hz := bnx hz hbn; replace k3 := cnx k3 hbn; replace k4 := cnx k4 hbn; replace k5 := cnx k5 hbn; replace m3 := cnx m3 hbn; replace m5 := cnx m5 hbn; clear hbn) | (go_at_call 52; refine (HC3.out _ hz).mono ?_; rintro e w' ⟨rfl, hbn⟩; replace hz := bnx hz hbn; replace k3 := cnx k3 hbn; replace k4 := cnx k4 hbn; replace k5 := cnx k5 hbn; replace m3 := cnx m3 hbn; replace m5 := cnx m5 hbn; clear hbn))
         go_roundw
         case rel => exact ⟨k + 1, by go_num, hltk.out, ⟨fun j hj => by
          by_cases h : j = k
          ·rw [h]; exact hok.out
          ·exact ha.out j (by omega)⟩, ⟨hbL.out.trans (hz.mono hbL.out.size)⟩⟩
         case measure => have := hltk.out; simp [intOf]; omega
      ·have t2 : ((y.length : Int) != (L.length : Int)) = true := by rw [bne_iff_ne]; omega
       have hno : Aside0 (okD d L.length k = false) := ⟨by rw [hok, decide_eq_false hl2, Bool.false_and]⟩
       clear hok hl2
       go_wp2_with (first | (go_at_call 26; refine (HC1.out _ hz).mono ?_; rintro e w' ⟨rfl, hbn⟩; replace hz := bnx hz hbn; replace k3 := cnx k3 hbn; replace k4 := cnx k4 hbn; replace k5 := cnx k5 hbn; replace m3 := cnx m3 hbn; replace m5 := cnx m5 hbn; clear hbn) | (go_at_call 26; refine (HC2.out _ hz).mono ?_; rintro e w' ⟨rfl, hbn⟩; replace hz := bnx hz hbn; replace k3 := cnx k3 hbn; replace k4 := cnx k4 hbn; replace k5 := cnx k5 hbn; replace m3 := cnx m3 hbn; replace m5 := cnx m5 hbn; clear hbn) | (go_at_call 52; refine (HC3.out _ hz).mono ?_; rintro e w' ⟨rfl, hbn⟩; replace hz := bnx hz hbn; replace k3 := cnx k3 hbn; replace k4 := cnx k4 hbn; replace k5 := cnx k5 hbn; replace m3 := cnx m3 hbn; replace m5 := cnx m5 hbn; clear hbn))
       go_ret2
       exact DwOut.no (HNo.out _ hltk.out hno.out) rfl (hb.out.trans ((hbL.out.trans (hz.mono hbL.out.size)).mono hb.out.size))
    ·have t1 : ((x.length : Int) != 128) = true := by rw [bne_iff_ne]; omega
     have hno : Aside0 (okD d L.length k = false) := ⟨by rw [hok, decide_eq_false hl1, Bool.false_and]⟩
     clear hok hl1
     go_wp2_with (first | (go_at_call 26; refine (HC1.out _ hz).mono ?_; rintro e w' ⟨rfl, hbn⟩; replace hz := bnx hz hbn; replace k3 := cnx k3 hbn; replace k4 := cnx k4 hbn; replace k5 := cnx k5 hbn; replace m3 := cnx m3 hbn; replace m5 := cnx m5 hbn; clear hbn) | (go_at_call 26; refine (HC2.out _ hz).mono ?_; rintro e w' ⟨rfl, hbn⟩; replace hz := bnx hz hbn; replace k3 := cnx k3 hbn; replace k4 := cnx k4 hbn; replace k5 := cnx k5 hbn; replace m3 := cnx m3 hbn; replace m5 := cnx m5 hbn; clear hbn) | (go_at_call 52; refine (HC3.out _ hz).mono ?_; rintro e w' ⟨rfl, hbn⟩; replace hz := bnx hz hbn; replace k3 := cnx k3 hbn; replace k4 := cnx k4 hbn; replace k5 := cnx k5 hbn; replace m3 := cnx m3 hbn; replace m5 := cnx m5 hbn; clear hbn))
     go_ret2
     exact DwOut.no (HNo.out _ hltk.out hno.out) rfl (hb.out.trans ((hbL.out.trans (hz.mono hbL.out.size)).mono hb.out.size))
   ·obtain rfl : k = d.lis.length := by omega
    have hv := Aside0.mk (HYv.out ha.out)
    have hCw2 := Aside0.mk (Kd.C_below hCw.out hbL.out)
    clear ha HNo HYv
    go_wp2_with fail
    go_ret2
    exact hYes.out hv.out rfl hCw2.out (hb.out.trans (hbL.out.mono hb.out.size))
theorem draftWidths_calls (d : Dr) (v : DrV) (w : World) (hL : Laid w) (hd : DrAt w d v) (hf : fewD d = true) :
  Calls Tryz.prog 25 #[.agg (drCells d v)] w (DwOut d w) := by
 cases h : headD d with
 | false => exact dw_head d v w h
 | true =>
  cases hv : isDiv d.sh d.gr with
  | false => exact dw_div d v w hL hd h hv
  | true => exact dw_yes d v w hL hd hf h hv
end Q21

end Go.Proofs.YtnflnicdjioflaaGreatDoor
