/- A part of the proof. -/
import Derived.Test.YtnflnicdjioflaaGreatDoorSlbk
import Derived.Test.YtnflnicdjioflaaGreatDoorSlbf
import Derived.Test.YtnflnicdjioflaaGreatDoorSlbd
import Derived.Test.YtnflnicdjioflaaGreatDoorSlaw
set_option linter.unusedVariables false
set_option linter.unusedSimpArgs false
set_option maxRecDepth 100000
set_option maxHeartbeats 8000000
namespace Go.Proofs.YtnflnicdjioflaaGreatDoor
open Go.RowKit Go.Proofs.YtnflnicdjioflaaGreatDoorW.PrintWords Go.Proofs.YtnflnicdjioflaaGreatDoorW.PrintLast Go.Proofs.YtnflnicdjioflaaGreatDoorW.PrintMore
namespace Gn
attribute [local go_sem] Qj Qi Ql Qk Qg Qf
open Q15
open Q21
open Bts
open Bk
structure Uv (w : World) (g : Gr) (A : Option Addr) (c : Nat) (M : Option Addr) (m : Nat) : Prop where
 chs : kCh.C w A g.chs.length g.chs
 mid : Kd.bool.C w M g.mid.length g.mid
theorem Uv.below {w W : World} {g : Gr} {A M : Option Addr} {c m : Nat} (h : Uv w g A c M m) (hb : Below w.heap.size w W) : Uv W g A c M m := ⟨Kd.Qh h.chs hb, Kd.Qh h.mid hb⟩
abbrev grV (g : Gr) (A : Option Addr) (c : Nat) (M : Option Addr) (m : Nat) : Value := .agg #[.slice A g.chs.length c, .slice M g.mid.length m]
def Sm (g : Gr) : Prop := ∀ x ∈ g.chs, x.sc.length ≤ 1000000 ∧ x.qu.length ≤ 1000000 ∧ x.fi.length ≤ 1000000
theorem Vt (g : Gr) (A : Option Addr) (c : Nat) (M : Option Addr) (m : Nat) (w : World) (hL : Laid w) (h : Uv w g A c M m) (hs : Sm g) :
  Calls Tryz.prog 21 #[grV g A c M m] w fun e w' => e = .returned (.int .i64 (if Te g = true then 0 else 1)) ∧ Below w.heap.size w w' := by
 have hu31 := Tryz.underlying31
 unfold grV
 obtain ⟨w1, hw1⟩ : ∃ w1, w1 = w.alloc (.cells #[.slice A g.chs.length c, .slice M g.mid.length m] 31) := ⟨_, rfl⟩
 have hb : Below w.heap.size w w1 := by rw [hw1]; exact (Below.refl _ _).alloc (Nat.le_refl _) _
 have HC := Qa.mk (fun (W : World) (hb : Below w.heap.size w W) => Y4 A M c m g W (hL.below hb) (h.below hb).chs hs)
 unfold Nl at HC
 obtain ⟨ws, hws⟩ : ∃ ws, ws = Qm (chK g 0).sh (chK g 0).gr := ⟨_, rfl⟩
 rw [← hws] at HC
 clear hL h hs hws
 cases hg : Te g with
 | true =>
  simp only [hg, if_true] at HC
  rw [if_pos rfl]
  clear hg
  go_enter Tryz.func21, Tryz.ntmps21
  go_wp2_with fail
  rw [← hw1]
  refine (HC.out _ hb).mono ?_
  rintro e w2 ⟨B, q, rfl, -, hbn⟩
  replace hb := bnx hb hbn
  clear hbn hw1
  go_wp2
  go_ret
  exact ⟨rfl, hb⟩
 | false =>
  simp only [hg, Bool.false_eq_true, if_false] at HC
  rw [if_neg (by decide)]
  clear hg
  go_enter Tryz.func21, Tryz.ntmps21
  go_wp2_with fail
  rw [← hw1]
  refine (HC.out _ hb).mono ?_
  rintro e w2 ⟨rfl, hbn⟩
  replace hb := bnx hb hbn
  clear hbn hw1
  go_wp2
  go_ret
  exact ⟨rfl, hb⟩
theorem Ig (g : Gr) (A : Option Addr) (c : Nat) (M : Option Addr) (m : Nat) (w : World) (hL : Laid w) (h : Uv w g A c M m) (hs : Sm g) (hg : Te g = false) :
  Calls Tryz.prog 19 #[grV g A c M m] w fun e w' => e = .returned (.tuple #[.int .i64 0, .int .i64 1]) ∧ Below w.heap.size w w' := by
 have hu31 := Tryz.underlying31
 unfold grV
 obtain ⟨w1, hw1⟩ : ∃ w1, w1 = w.alloc (.cells #[.slice A g.chs.length c, .slice M g.mid.length m] 31) := ⟨_, rfl⟩
 have hb : Below w.heap.size w w1 := by rw [hw1]; exact (Below.refl _ _).alloc (Nat.le_refl _) _
 have HC := Qa.mk (fun (W : World) (hb : Below w.heap.size w W) => Y4 A M c m g W (hL.below hb) (h.below hb).chs hs)
 unfold Nl at HC
 simp only [hg, Bool.false_eq_true, if_false] at HC
 clear hL h hs hg
 go_enter Tryz.func19, Tryz.ntmps19
 go_wp2_with fail
 rw [← hw1]
 refine (HC.out _ hb).mono ?_
 rintro e w2 ⟨rfl, hbn⟩
 replace hb := bnx hb hbn
 clear hbn hw1
 go_wp2
 go_ret2
 exact ⟨rfl, hb⟩
theorem Jp (g : Gr) (A : Option Addr) (c : Nat) (M : Option Addr) (m : Nat) (w : World) (hL : Laid w) (hLB : Xe w) (hB4 : 4 ≤ w.heap.size) (h : Uv w g A c M m) (hs : Sm g) (hg : Te g = true) (hBW : ∀ c ∈ g.chs, ∀ p ∈ ((Sec.wL (Qm (chK g 0).sh (chK g 0).gr) c.qu (Qm (chK g 0).sh (chK g 0).gr).length).getD 0 Sec.w0).secs, BW p.1.toNat) :
  Calls Tryz.prog 19 #[grV g A c M m] w fun e w' => e = .returned (.tuple #[.int .i64 (Ud g), .int .i64 0]) ∧ Below w.heap.size w w' := by
 have hu31 := Tryz.underlying31
 unfold grV
 obtain ⟨w1, hw1⟩ : ∃ w1, w1 = w.alloc (.cells #[.slice A g.chs.length c, .slice M g.mid.length m] 31) := ⟨_, rfl⟩
 have hb : Below w.heap.size w w1 := by rw [hw1]; exact (Below.refl _ _).alloc (Nat.le_refl _) _
 have hB1 : w1.heap[w.heap.size]? = some (.cells #[.slice A g.chs.length c, .slice M g.mid.length m] 31 (0, 0)) := by rw [hw1]; exact heap_alloc_new _ _
 have HC := Qa.mk (fun (W : World) (hb : Below w.heap.size w W) => Y4 A M c m g W (hL.below hb) (h.below hb).chs hs)
 unfold Nl at HC
 simp only [hg, if_true] at HC
 obtain ⟨ws, hws⟩ : ∃ ws, ws = Qm (chK g 0).sh (chK g 0).gr := ⟨_, rfl⟩
 rw [← hws] at HC hBW
 have HWr := Qa.mk (fun (W : World) (B : Option Addr) (q : Nat) (hb : Below w.heap.size w W) (hC : (Kd.int .i64).C W B ws.length ws) => Rb A M B c m q g ws W hws (hLB.below hb) (by have := hb.size; omega) (h.below hb).chs (h.below hb).mid hC (Kh.1 hg) hBW)
 clear hL h hs hg hws hLB hB4 hBW
 go_enter Tryz.func19, Tryz.ntmps19
 go_wp2_with fail
 rw [← hw1]
 refine (HC.out _ hb).mono ?_
 rintro e w2 ⟨B, q, rfl, hC, hbn⟩
 have hB2 := (hbn.block _ (Qq hB1)).trans hB1
 have z0 : w2.cell? ⟨w.heap.size, 0, none⟩ = some (.slice A g.chs.length c) := by rw [Qb hB2]; rfl
 have z1 : w2.cell? ⟨w.heap.size, 1, none⟩ = some (.slice M g.mid.length m) := by rw [Qb hB2]; rfl
 replace hb := bnx hb hbn
 replace hC := Qa.mk hC
 clear hbn hw1 hB1 hB2 HC
 go_wp2_with fail
 refine (HWr.out w2 B q hb hC.out).mono ?_
 rintro e w3 ⟨p, q1, bs, rfl, hW, hlen, hbn⟩
 replace hb := bnx hb hbn
 have HLn := Qa.mk (J7 w2.heap.size p q1 bs w3 hW)
 rw [hlen] at HLn
 clear hbn hW hlen z0 z1 HWr hC
 go_wp2_with fail
 refine HLn.out.mono ?_
 rintro e w4 ⟨rfl, rfl⟩
 go_wp2
 go_ret2
 exact ⟨rfl, hb⟩
end Gn

namespace Sp
attribute [local go_sem] Qj Qi Ql Qk Qg Qf
open Q15
open Q21
open Gn
open Q16 (isW Za Xx Gt)
open St (Yw Gu Tz)
open Bd (Yn)
open Bts (Rws Row Blk)
def Nr (ws : List Int) (c : Ch) : List Int := ((List.range ws.length).map fun k => Xf (Xx c.qu ws k) (rd c.sc k)).flatten
def Um (ws : List Int) (c : Ch) : List Int := Ux (Zb c.fi) (Nr ws c) 128
def U5 (g : Gr) (ws : List Int) (j : Nat) : List Int :=
 if g.chs.length = 2 then (if j = 0 then Gu (Um ws (chK g 0)) (Um ws (chK g 1)) (Yw ws g.mid ws.length) else Tz (Um ws (chK g 0)) (Um ws (chK g 1)) (Yw ws g.mid ws.length)).map Jc
 else Um ws (chK g j)
def spJ (g : Gr) (ws : List Int) (j : Nat) : List Int := Yn (chK g j).sh (chK g j).gr (U5 g ws j) 128
theorem Yi {ws c : List Int} (hw : isW ws = true) (hc : c.length = 128) {k : Nat} (hk : k < ws.length) : (Xx c ws k).length = Q16.wd ws k := by
 obtain ⟨o1, o2, o3, -⟩ := Q16.Zj hw hk
 unfold Q16.Xx
 rw [List.length_take, List.length_drop]
 omega
theorem Od {l : List Int} {s : Int} (h : chk isQ l s = 0) : (Xf l s).length = l.length := by unfold Xf; rw [if_pos h, List.length_map]
theorem valJ_len {ws : List Int} {c : Ch} (hw : isW ws = true) (hq : c.qu.length = 128) (hk : ∀ k, k < ws.length → chk isQ (Xx c.qu ws k) (rd c.sc k) = 0) : (Nr ws c).length = 128 := by
 have key : ∀ n, n ≤ ws.length → (((List.range n).map fun k => Xf (Xx c.qu ws k) (rd c.sc k)).flatten).length = Q16.off ws n := by
  intro n
  induction n with
  | zero => intro _; simp [Q16.off]
  | succ n ih =>
   intro hn
   rw [List.range_succ, List.map_append, List.flatten_append, List.length_append, ih (by omega), (Q16.Zj hw (by omega : n < ws.length)).1]
   simp only [List.map_cons, List.map_nil, List.flatten_cons, List.flatten_nil, List.append_nil]
   rw [Od (hk n (by omega)), Yi hw hq (by omega)]
 unfold Nr
 rw [key _ (Nat.le_refl _)]
 unfold Q16.off
 rw [List.take_length, (Za.1 hw).2.1]
 rfl
theorem Qbk {l : List Int} {s : Int} (hs : chk isQ l s = 0) : ∀ x ∈ Xf l s, -2097152 ≤ x ∧ x ≤ 2097152 := by
 intro x hx
 unfold Xf at hx
 rw [if_pos hs] at hx
 obtain ⟨q, _, rfl⟩ := List.mem_map.1 hx
 obtain ⟨h1, h2, h3⟩ := Ph hs
 have := V_bd (x := Ve s) (De q) (by have := Cu h1.1 h1.2; omega)
 unfold sg
 split <;> omega
theorem valJ_bd {ws : List Int} {c : Ch} (hk : ∀ k, k < ws.length → chk isQ (Xx c.qu ws k) (rd c.sc k) = 0) : ∀ x ∈ Nr ws c, -2097152 ≤ x ∧ x ≤ 2097152 := by
 intro x hx
 obtain ⟨l, hl, hx⟩ := List.mem_flatten.1 hx
 obtain ⟨k, hk2, rfl⟩ := List.mem_map.1 hl
 exact Qbk (hk k (List.mem_range.1 hk2)) x hx
theorem chkB {ws : List Int} {c : Ch} (hw : isW ws = true) (h : ChF ws c) (hs : c.sc.length = ws.length) {k : Nat} (hk : k < ws.length) : chk isQ (Xx c.qu ws k) (rd c.sc k) = 0 := by
 have h1 := Sca.Tq h.e _ (Qt c.sc k (by omega))
 have h2 := Yi hw h.q hk
 obtain ⟨-, -, o3, -⟩ := Q16.Zj hw hk
 have h3 : (Xx c.qu ws k).all isQ = true := List.all_eq_true.2 fun x hx => by
  have hm : x ∈ c.qu := List.mem_of_mem_drop (List.mem_of_mem_take hx)
  have := List.all_eq_true.1 h.ok.vals x hm
  unfold isQ
  simpa using this
 have hS : isS (rd c.sc k) = true := by unfold isS; simpa using h1
 unfold chk
 rw [if_pos hS, if_pos (by omega), if_pos h3]
theorem Rws.blkc {wr w w1 : World} {L : List Row} {G : List Blk} (h : Rws wr w L G) (hb : Below w.heap.size w w1) {b : Blk} (hg : w1.heap[b.g]? = some (.cells b.cs b.t (0, 0))) (hs : w.heap.size ≤ b.g) : Rws wr w1 L (G ++ [b]) := by
 refine ⟨bnx h.below hb, fun r hr => Gy (h.row r hr) hb, h.pair, fun c hc => ?_, fun r hr c hc => ?_, ?_⟩
 ·rcases List.mem_append.1 hc with hc | hc
  ·exact ⟨Qn (h.blk c hc).1 hb, (h.blk c hc).2⟩
  ·rw [List.mem_singleton.1 hc]
   exact ⟨hg, Nat.le_trans h.below.size hs⟩
 ·rcases List.mem_append.1 hc with hc | hc
  ·exact h.far r hr c hc
  ·rw [List.mem_singleton.1 hc]
   intro e
   have := Pq (h.row r hr) _ e
   omega
 ·refine List.pairwise_append.2 ⟨h.gs, List.pairwise_singleton _ _, fun a ha c hc => ?_⟩
  rw [List.mem_singleton.1 hc]
  have := Qq (h.blk a ha).1
  omega
def capQ (w : World) (A : Option Addr) (xs : List Ch) : Prop := ∀ (k : Nat) (ad : Addr) (B : Option Addr) (c : Nat), k < xs.length → A = some ad → w.cell? (ad.add (k * 5 + 3)) = some (.slice B (xs.getD k ch0).qu.length c) → (xs.getD k ch0).qu.length ≤ c ∧ c ≤ 9223372036854775807
theorem Xy {w : World} {g : Nat} {l : List Int} (h : w.heap[g]? = some (.cells (l.map (Value.int .i64)).toArray 3 (0, 0))) (hl : l.length ≤ 1000000) : (Kd.int .i64).C w (some ⟨g, 0, none⟩) l.length l := by
 refine Kd.Zv (enc := Value.int .i64) (h1 := fun _ => rfl) (d := (0 : Int)) ⟨rfl, by omega, fun _ => ⟨_, rfl, fun j hj => ?_⟩⟩
 rw [add_plain, Qb h]
 simp [hj]
def SOut (n : Nat) (Y : Nat → List Int) (w : World) (e : Ending) (w' : World) : Prop :=
 ∃ (go cp : Nat) (cur : Array Value) (F : Nat → Nat), e = .returned (.tuple #[.slice (some ⟨go, 0, none⟩) n cp, .int .i64 0]) ∧ w'.heap[go]? = some (.cells cur 22 (0, 0)) ∧ (∀ j, j < n → cur[j]? = some (.slice (some ⟨F j, 0, none⟩) 128 128)) ∧ (∀ j, j < n → w'.heap[F j]? = some (.cells ((Y j).map (Value.int .i64)).toArray 3 (0, 0))) ∧ Below w.heap.size w w'
end Sp

namespace Gn
attribute [local go_sem] Qj Qi Ql Qk Qg Qf
open Q15
open Q21
open Bts
def grpS (sh : Bool) : List Int := if sh then [8] else []
def Ty (sh : Bool) : Nat := if sh then 4 else 15
def chS (sh : Bool) : Ch := ⟨sh, grpS sh, List.replicate (Ty sh) 0, List.replicate 128 0, []⟩
def Xi (n : Nat) (sh : Bool) : Gr := ⟨List.replicate n (chS sh), if n = 2 then List.replicate (Ty sh) false else []⟩
theorem Vs (c : Nat) (hc : c ≤ 1000000) : ∀ W : World, (Instr.makeSlice 23 (.int .i64 (c : Int)) (.int .i64 (c : Int))).run Tryz.prog W = .ok (.slice (some ⟨W.heap.size, 0, none⟩) c c) (W.alloc (.cells (List.replicate c (Value.bool false)).toArray 4)) := fun W => by
  rw [Pre.Tu 23 4 (.bool false) 1 1 Tryz.underlying23 Ma c (by decide) (by omega) W]
  congr 3
  show madeCells #[.bool false] (c * 1) = _
  apply Array.ext
  · simp [size_madeCells]
  · intro i h1 h2
    simp [madeCells, Nat.mod_one]
theorem CI_of {w : World} {g : Nat} {l : List Int} {t : Nat} (h : w.heap[g]? = some (.cells (l.map (Value.int .i64)).toArray t (0, 0))) (hl : l.length ≤ 1000000) : (Kd.int .i64).C w (some ⟨g, 0, none⟩) l.length l := by
  refine Kd.Zv (enc := Value.int .i64) (h1 := fun _ => rfl) (d := (0 : Int)) ⟨rfl, by omega, fun h0 => ⟨_, rfl, fun j hj => ?_⟩⟩
  have e : (⟨g, 0, none⟩ : Addr).add j = ⟨g, j, none⟩ := by simp [Addr.add]; exact fun h => h.symm
  rw [e, Qb h]
  simp [List.getD_eq_getElem?_getD, List.getElem?_eq_getElem hj]
theorem N8 (W : World) (n base : Nat) (hb : base ≤ W.heap.size) (hn : n ≤ 1000000) : (Kd.int .i64).R 3 (W.alloc (.cells (List.replicate n (Value.int .i64 0)).toArray 3)) base (fun _ => True) (.slice (some ⟨W.heap.size, 0, none⟩) n n) (List.replicate n 0) := by
  refine Kd.Vg (enc := Value.int .i64) (h1 := fun _ => rfl) ?_ (fun _ _ => trivial)
  refine ⟨by simp [encs], .inr ⟨W.heap.size, n, _, by rw [List.length_replicate], hb, heap_alloc_new W _, by rw [List.length_replicate]; exact Nat.le_refl _, by unfold maxLen; omega, by simp, ?_⟩⟩
  simp [encs]
theorem Cy (W : World) (n base : Nat) (hb : base ≤ W.heap.size) (hn : n ≤ 1000000) : Kd.bool.R 4 (W.alloc (.cells (List.replicate n (Value.bool false)).toArray 4)) base (fun _ => True) (.slice (some ⟨W.heap.size, 0, none⟩) n n) (List.replicate n false) := by
  refine Kd.Vg (enc := Value.bool) (h1 := fun _ => rfl) ?_ (fun _ _ => trivial)
  refine ⟨by simp [encs], .inr ⟨W.heap.size, n, _, by rw [List.length_replicate], hb, heap_alloc_new W _, by rw [List.length_replicate]; exact Nat.le_refl _, by unfold maxLen; omega, by simp, ?_⟩⟩
  simp [encs]
theorem V4 (n : Nat) (hn : n = 1 ∨ n = 2) (w : World) (hL : Laid w) :
    Calls Tryz.prog 16 #[.int .i64 n, .bool false] w (Gj (Xi n false) 0 w) := by
  have hu31 := Tryz.underlying31
  have hu46 := Tryz.underlying46
  have t1 : decide ((n : Int) < 1) = false := decide_eq_false (by omega)
  have t2 : decide (2 < (n : Int)) = false := decide_eq_false (by omega)
  have hnI : (n : Int) ≤ 2 := by omega
  have Hn := Qa.mk hn
  obtain ⟨w1, hw1⟩ : ∃ w1, w1 = w.alloc (.cells #[.slice none 0 0, .slice none 0 0] 31) := ⟨_, rfl⟩
  have hb : Below w.heap.size w w1 := by rw [hw1]; exact (Below.refl _ _).alloc (Nat.le_refl _) _
  have hR1 : w1.heap[w.heap.size]? = some (.cells #[.slice none 0 0, .slice none 0 0] 31 (0, 0)) := by rw [hw1]; exact heap_alloc_new _ _
  have HL := Qa.mk hL
  obtain ⟨w2, hw2⟩ : ∃ w2, w2 = w1 := ⟨_, rfl⟩
  have hb12 : Below w1.heap.size w1 w2 := by rw [hw2]; exact Below.refl _ _
  have hC8 : (Kd.int .i64).C w2 none 0 [] := Kd.Jr _ _
  have HCnt := Qa.mk (Bw false none 0 [] w2 (HL.out.below (bnx hb hb12)) hC8)
  have hR2 := (hb12.block _ (Qq hR1)).trans hR1
  have hb2 := bnx hb hb12
  have HC8 := Qa.mk hC8
  have hmk : ∀ W : World, (Instr.makeSlice 22 (.int .i64 15) (.int .i64 15)).run Tryz.prog W = .ok (.slice (some ⟨W.heap.size, 0, none⟩) 15 15) (W.alloc (.cells (List.replicate 15 (Value.int .i64 0)).toArray 3)) := Sec.Xc 15 (by omega)
  have hmk2 : ∀ W : World, (Instr.makeSlice 22 (.int .i64 128) (.int .i64 128)).run Tryz.prog W = .ok (.slice (some ⟨W.heap.size, 0, none⟩) 128 128) (W.alloc (.cells (List.replicate 128 (Value.int .i64 0)).toArray 3)) := Sec.Xc 128 (by omega)
  have hmk3 : ∀ W : World, (Instr.makeSlice 23 (.int .i64 15) (.int .i64 15)).run Tryz.prog W = .ok (.slice (some ⟨W.heap.size, 0, none⟩) 15 15) (W.alloc (.cells (List.replicate 15 (Value.bool false)).toArray 4)) := Vs 15 (by omega)
  replace hmk := Qa.mk hmk
  replace hmk2 := Qa.mk hmk2
  clear hn hL hC8
  go_enter Tryz.func16, Tryz.ntmps16
  go_wp2_with fail
  rw [← hw1]
  rw [← hw2]
  refine HCnt.out.mono ?_
  rintro e w3 ⟨rfl, hb3⟩
  have hR3 := (hb3.block _ (Qq hR2)).trans hR2
  have hb23 := Qa.mk hb3
  replace hb3 := bnx hb2 hb3
  clear hR1 hR2 hb2 hb12 hb hw1 HCnt hw2
  have he1 : (Df false []).length = 15 := by decide +kernel
  have he2 : Di false [] = 0 := by decide +kernel
  rw [he1, he2]
  rw [show ((15 : Nat) : Int) = 15 from rfl]
  clear he1 he2
  obtain ⟨bg, hbg⟩ : ∃ bg, bg = w3.heap.size := ⟨_, rfl⟩
  obtain ⟨w4, hw4⟩ : ∃ w4, w4 = w3.alloc (.cells #[.slice none 0 0, .slice none 0 0] 31) := ⟨_, rfl⟩
  have hb34 : Below w3.heap.size w3 w4 := by rw [hw4]; exact (Below.refl _ _).alloc (Nat.le_refl _) _
  have hG4 : w4.heap[bg]? = some (.cells #[.slice none 0 0, .slice none 0 0] 31 (0, 0)) := by rw [hw4, hbg]; exact heap_alloc_new _ _
  have hs4 : w4.heap.size = bg + 1 := by rw [hw4, hbg]; simp
  have hR4 := (hb34.block _ (Qq hR3)).trans hR3
  have hb4 := bnx hb3 hb34
  have hb24 := Qa.mk (bnx hb23.out hb34)
  have hbgw : Qa (w.heap.size < bg) := ⟨by rw [hbg]; exact Qq hR3⟩
  have HC4 := Qa.mk (Kd.Qh HC8.out hb24.out)
  clear hR3 hb3 hb23 hb34 HC8 HL hb24
  go_wp2_with fail
  rw [← hw4, ← hbg]
  clear hw4 hbg
  replace hR4 := Qa.mk hR4
  replace hs4 := Qa.mk hs4
  go_loopw [27] (fun i wr => ∃ k : Nat, i = .int .i64 k ∧ k ≤ n ∧ Qa (∃ vC, wr.heap[bg]? = some (.cells #[vC, .slice none 0 0] 31 (0, 0)) ∧ kCh.R 46 wr (bg + 1) (fun _ => True) vC (List.replicate k (chS false)) ∧ Kp bg none w4 wr)) (fun i _ => n - (intOf i).toNat)
  case atStart => exact ⟨0, rfl, by omega, ⟨_, hG4, Kd.Xr _ _ _ _ _, Kp.refl _ _ _⟩⟩
  case round =>
    obtain ⟨k, rfl, hk, hI⟩ := hrel
    obtain ⟨vC, hG, HR, hKp⟩ := hI.out
    clear hI hG4
    obtain ⟨aC, cC, rfl⟩ := Kd.Zq HR
    rw [List.length_replicate] at hG HR
    by_cases hlt : k < n
    · have hkI : (k : Int) < (n : Int) := by omega
      have hlt' := Qa.mk hlt
      have HCw := Qa.mk (Sec.C_kp HC4.out hKp (fun ad e => by cases e))
      have hbr : Qa (bg + 1 ≤ wr.heap.size) := ⟨by have := hKp.size; have := hs4.out; omega⟩
      have hown : Qa (∀ b, wr.heap.size ≤ b → some b ≠ (Value.slice aC k cC).ownBlock) := ⟨fun b hb e => by have := ((Kd.Zg HR).1 b e.symm).2.2.1; omega⟩
      have hgne : some bg ≠ (Value.slice aC k cC).ownBlock := fun e => by have := ((Kd.Zg HR).1 bg e.symm).2.1; omega
      have hS6 : Qa (∀ W, Below wr.heap.size wr W → W.cell? ⟨bg, 0, none⟩ = some (.slice aC k cC)) := ⟨fun W hb => by rw [Qb ((hb.block _ (Qq hG)).trans hG)]; rfl⟩
      have HG := Qa.mk hG
      have HRr := Qa.mk HR
      have HKp := Qa.mk hKp
      replace hgne := Qa.mk hgne
      clear hlt hG HR hKp hk
      go_upto_region 10 with fail
      refine Qs (S := fun W => W.cell? ⟨bg, 0, none⟩ = some (.slice aC k cC)) (ds := [12]) (by kernel_rfl) (hS6.out _ (Below.refl _ _).drew) (fun hHeld => ?_)
      (refine Tk.tl 0 (.pointer (some ⟨bg, 0, none⟩)) hHeld ?_)
      (refine Tk.tl 1 (.slice aC k cC) hHeld ?_)
      (refine Tk.tl 2 (.bool false) hHeld ?_)
      (refine Tk.tl 3 (.slice none 0 0) hHeld ?_)
      (refine Tk.tl 5 (.int .i64 15) hHeld ?_)
      refine Ord.Po 3 wr _ #[true, true, true, true, true, true, true, true, true, true, false, false, false] [(4, 33), (6, 35), (7, 36), (8, 37), (9, 38)]
        [(4, fun v w => (Kd.int .i64).R 3 w wr.heap.size (fun _ => True) v []),
         (6, fun v w => (Kd.int .i64).R 3 w wr.heap.size (fun _ => True) v (List.replicate 15 0)),
         (7, fun v w => (Kd.int .i64).R 3 w wr.heap.size (fun _ => True) v (List.replicate 128 0)),
         (8, fun v w => ∃ v1 v2 v3, v = .agg #[.bool false, v1, v2, v3, .slice none 0 0] ∧ (Kd.int .i64).R 3 w wr.heap.size (fun _ => True) v1 [] ∧ (Kd.int .i64).R 3 w wr.heap.size (fun _ => True) v2 (List.replicate 15 0) ∧ (Kd.int .i64).R 3 w wr.heap.size (fun _ => True) v3 (List.replicate 128 0)),
         (9, fun v w => ∃ g v1 v2 v3, v = .slice (some ⟨g, 0, none⟩) 1 1 ∧ w.heap[g]? = some (.cells #[.bool false, v1, v2, v3, .slice none 0 0] 46 (0, 0)) ∧ (Kd.int .i64).R 3 w wr.heap.size (fun _ => True) v1 [] ∧ (Kd.int .i64).R 3 w wr.heap.size (fun _ => True) v2 (List.replicate 15 0) ∧ (Kd.int .i64).R 3 w wr.heap.size (fun _ => True) v3 (List.replicate 128 0))]
        rfl (by decide) (by kernel_rfl) (fun W hb => hS6.out W hb) ((Below.refl _ _).drew) ?gstays ?gobl ?grest
      case gstays =>
        refine Ord.Zo ?_ (Ord.Zo ?_ (Ord.Zo ?_ (Ord.Zo ?_ (Ord.Zo ?_ Ord.F4))))
        · rintro v W W' hb h
          exact Kd.Qy h hb
        · rintro v W W' hb h
          exact Kd.Qy h hb
        · rintro v W W' hb h
          exact Kd.Qy h hb
        · rintro v W W' hb ⟨v1, v2, v3, e, h1, h2, h3⟩
          exact ⟨v1, v2, v3, e, Kd.Qy h1 hb, Kd.Qy h2 hb, Kd.Qy h3 hb⟩
        · rintro v W W' hb ⟨g, v1, v2, v3, e, e2, h1, h2, h3⟩
          exact ⟨g, v1, v2, v3, e, (hb.block _ (Qq e2)).trans e2, Kd.Qy h1 hb, Kd.Qy h2 hb, Kd.Qy h3 hb⟩
      case gobl =>
        refine Ord.Jt.cons ?_ (Ord.Jt.cons ?_ (Ord.Jt.cons ?_ (Ord.Jt.cons ?_ (Ord.Jt.cons ?_ Ord.Jt.nil))))
        · rintro o x W K ho hb hdp hK
          cases ho
          refine goes_ Tryz.func28 (by kernel_rfl) rfl #[.slice none 0 0] (by kernel_rfl) rfl rfl (by kernel_rfl) ((Vo none 0 [] W (Kd.Qh HCw.out hb) (by simp)).mono ?_)
          rintro e w1 ⟨v, rfl, r1, r2⟩
          exact ⟨_, rfl, Ord.Jv (by kernel_rfl) (hK.out _ _ r2 (Kd.Z8 r1 hb.size))⟩
        · rintro o x W K ho hb hdp hK
          have ho2 := (Option.some.inj ho)
          simp only [List.getElem_toArray, List.getElem_cons_succ, List.getElem_cons_zero] at ho2
          clear ho hdp
          subst ho2
          generalize hA : Ord.frA _ _ x = A9
          have hev : A9.tmps[34]?.getD undef = .int .i64 15 := by rw [← hA]; kernel_rfl
          refine Qv (w1 := W.alloc (.cells (List.replicate 15 (Value.int .i64 0)).toArray 3)) (v := .slice (some ⟨W.heap.size, 0, none⟩) 15 15) (by rw [← hA]; kernel_rfl) rfl (by have h9 := hmk.out; clear hA; go_simp) ?_
          rw [← hA]
          exact Ord.Jv (by kernel_rfl) (hK.out _ _ ((Below.refl _ _).alloc (Nat.le_refl _) _) (N8 W 15 _ hb.size (by omega)))
        · rintro o x W K ho hb hdp hK
          cases ho
          refine Qv (w1 := W.alloc (.cells (List.replicate 128 (Value.int .i64 0)).toArray 3)) (v := .slice (some ⟨W.heap.size, 0, none⟩) 128 128) (by kernel_rfl) rfl (by have h9 := hmk2.out; simp only [Ord.frA, List.foldl_cons, List.foldl_nil]; go_simp) ?_
          exact Ord.Jv (by kernel_rfl) (hK.out _ _ ((Below.refl _ _).alloc (Nat.le_refl _) _) (N8 W 128 _ hb.size (by omega)))
        · rintro o x W K ho hb hdp hK
          cases ho
          have h1 := hdp _ (.head _) (by kernel_rfl)
          have h2 := hdp _ (.tail _ (.head _)) (by kernel_rfl)
          have h3 := hdp _ (.tail _ (.tail _ (.head _))) (by kernel_rfl)
          dsimp only at h1 h2 h3
          obtain ⟨A1, q1, k1⟩ := Kd.Zq h1
          obtain ⟨A2, q2, k2⟩ := Kd.Zq h2
          obtain ⟨A3, q3, k3⟩ := Kd.Zq h3
          refine Qv (w1 := W) (v := .agg #[.bool false, x 4, x 6, x 7, .slice none 0 0]) (by kernel_rfl) rfl (by simp only [Ord.frA, List.foldl_cons, List.foldl_nil]; rw [k1, k2, k3]; kernel_rfl) ?_
          exact Ord.Jv (by kernel_rfl) (hK.out _ _ (Below.refl _ _) ⟨x 4, x 6, x 7, rfl, h1, h2, h3⟩)
        · rintro o x W K ho hb hdp hK
          cases ho
          obtain ⟨v1, v2, v3, e1, h1, h2, h3⟩ := hdp _ (.tail _ (.tail _ (.tail _ (.head _)))) (by kernel_rfl)
          dsimp only at e1
          obtain ⟨A1, q1, rfl⟩ := Kd.Zq h1
          obtain ⟨A2, q2, rfl⟩ := Kd.Zq h2
          obtain ⟨A3, q3, rfl⟩ := Kd.Zq h3
          refine Qv (w1 := W.alloc (.cells #[.bool false, .slice A1 ([] : List Int).length q1, .slice A2 (List.replicate 15 (0 : Int)).length q2, .slice A3 (List.replicate 128 (0 : Int)).length q3, .slice none 0 0] 46)) (v := .slice (some ⟨W.heap.size, 0, none⟩) 1 1) (by kernel_rfl) rfl (by simp only [Ord.frA, List.foldl_cons, List.foldl_nil]; rw [e1]; kernel_rfl) ?_
          have hba := (Below.refl W.heap.size W).alloc (Nat.le_refl _) (.cells #[.bool false, .slice A1 ([] : List Int).length q1, .slice A2 (List.replicate 15 (0 : Int)).length q2, .slice A3 (List.replicate 128 (0 : Int)).length q3, .slice none 0 0] 46)
          exact Ord.Jv (by kernel_rfl) (hK.out _ _ hba ⟨_, _, _, _, rfl, heap_alloc_new _ _, Kd.Qy h1 hba, Kd.Qy h2 hba, Kd.Qy h3 hba⟩)
      case grest =>
        intro x w7 hb7 hφ
        obtain ⟨g, v1, v2, v3, e1, e2, r1, r2, r3⟩ := hφ _ (.tail _ (.tail _ (.tail _ (.tail _ (.head _)))))
        dsimp only at e1
        clear hφ
        have hG7 := (hb7.block _ (Qq HG.out)).trans HG.out
        have z0 : w7.cell? ⟨bg, 0, none⟩ = some (.slice aC k cC) := by rw [Qb hG7]; rfl
        have HR7 := Kd.Qy HRr.out hb7
        have hM7 : Zn (kCh.M w7 (bg + 1) (fun b => wr.heap.size ≤ b)) 5 w7 (some ⟨g, 0, none⟩) 1 [chS false] := ⟨rfl, by omega, fun _ => ⟨_, rfl, fun j p hj => by
          have hj0 : j = 0 := by
            have := (List.getElem?_eq_some_iff.1 hj).1
            simp at this
            omega
          subst hj0
          obtain rfl : chS false = p := by simpa using hj
          refine ⟨[.bool false, v1, v2, v3, .slice none 0 0], rfl, I9 w7 (bg + 1) (fun b => wr.heap.size ≤ b) (chS false) (Yk r1 hbr.out) (Yk r2 hbr.out) (Yk r3 hbr.out) (Kd.Xr _ _ _ _ _), fun i u hi => ?_⟩
          rw [show (⟨g, 0, none⟩ : Addr).add (0 * 5 + i) = ⟨g, i, none⟩ by
            unfold Addr.add
            by_cases h0 : i = 0
            · simp [h0]
            · simp [h0], Qb e2]
          simpa using hi⟩⟩
        have hs7 : wr.heap.size ≤ w7.heap.size := hb7.size
        have hK7 := Qa.mk (HKp.out.Ze (hb7.mono HKp.out.size))
        have hln : Qa (((List.replicate k (chS false)).length + 1) * 104 ≤ 140737488355328) := ⟨by rw [List.length_replicate]; omega⟩
        simp only [Ord.frA, List.foldl_cons, List.foldl_nil]
        rw [e1]
        clear e1 e2 r1 r2 r3
        simp only [Act.put, List.setIfInBounds_toArray, List.set_cons_zero, List.set_cons_succ]
        (refine Qd (rs := [10]) (by kernel_rfl) (by simp) ?_; refine Qc.cons rfl (by decide) (fun K hK => ?_) Qc.nil)
        refine Kd.Vh kCh (Rr := kCh.M w7 (bg + 1) (fun b => wr.heap.size ≤ b)) (w0 := w7) (bg + 1) rfl (.tmp 30) (.tmp 38) 29 46 (.agg #[(.bool false), (.slice none 0 0), (.slice none 0 0), (.slice none 0 0), (.slice none 0 0)]) 104 rfl Tryz.underlying29 Fb rfl (by decide) (by decide) (.slice aC k cC) (List.replicate k (chS false)) [chS false] (some ⟨g, 0, none⟩) 1 1 (fun _ => True) (fun b => wr.heap.size ≤ b) rfl rfl HR7 hM7 (fun _ _ h => h) (fun b hb => ⟨trivial, hown.out b hb⟩) (fun _ _ => trivial) (Below.refl _ _) (by have := hbr.out; omega) hln.out ?_
        intro v8 w8 R8 B8 hg8 hat8
        have hG8 := (hg8.block _ (Qq hG7) hgne.out).trans hG7
        have z8 : w8.cell? ⟨bg, 0, none⟩ = some (.slice aC k cC) := by rw [Qb hG8]; rfl
        have y8 := Qe hG8 0
        obtain ⟨a8, c8, h8e⟩ := Kd.Zq R8
        subst h8e
        have hl8 : (List.replicate k (chS false) ++ [chS false]) = List.replicate (k + 1) (chS false) := List.replicate_succ'.symm
        rw [hl8, List.length_replicate] at R8
        rw [hl8, List.length_replicate]
        have hK8 := Qa.mk (hK7.out.Ze (B8.mono (by have := HKp.out.size; have := hs4.out; omega)))
        have hG8' := Qa.mk hG8
        replace R8 := Qa.mk R8
        clear hM7 HR7 hl8 hg8 hat8 hG7 hG8 z0 B8 hb7 hs7
        refine hK.out _ _ z8 (fun hHeld => ?_)
        clear hK K
        try simp only [Act.put, Tk.z1, Tk.z2, Tk.z3, Tk.z4, Tk.z5, Tk.z6]
        (refine Tk.tl 11 (.pointer (some ⟨bg, 0, none⟩)) hHeld ?_)
        (refine Qd (rs := [12]) (by kernel_rfl) (by simp) ?_; refine Qc.Zh rfl (by decide) (fun K hK => ?_) Qc.nil)
        go_simp
        go_wp2_with fail
        refine hK.out _ _ ?_
        clear hK K
        try simp only [Act.put, List.setIfInBounds_toArray, List.set_cons_zero, List.set_cons_succ]
        refine Qp (by kernel_rfl) ?_ _
        clear hHeld z8 y8
        go_wp2_with fail
        go_roundw
        case rel => exact ⟨k + 1, by go_num, hlt'.out, ⟨_, Q5 hG8'.out 0 _, Kd.X9 (Kd.Jd (p := ⟨bg, 0, none⟩) (Yk R8.out (Nat.le_refl _)) (fun b hb => by simp only; omega) _) (fun _ _ => trivial), Kp.Ki hK8.out 0 _⟩⟩
        case measure => have := hlt'.out; simp [intOf]; omega
    · obtain rfl : k = n := by omega
      have hR5 := hKp.blk hR4.out (by have := hbgw.out; omega) (by simp)
      have hb5 := hb4.trans (hKp.below (B := w.heap.size) (by have := hbgw.out; omega) (fun k h => by cases h) hb4.size)
      have hbr : bg + 1 ≤ wr.heap.size := by have := hKp.size; have := hs4.out; omega
      have f0 := Qe hR5 0
      have f1 := Qe hR5 1
      have c0 : wr.cell? ⟨w.heap.size, 0, none⟩ = some (.slice none 0 0) := by rw [Qb hR5]; rfl
      have c1 : wr.cell? ⟨w.heap.size, 1, none⟩ = some (.slice none 0 0) := by rw [Qb hR5]; rfl
      have g0 : wr.cell? ⟨bg, 0, none⟩ = some (.slice aC k cC) := by rw [Qb hG]; rfl
      have g1 : wr.cell? ⟨bg, 1, none⟩ = some (.slice none 0 0) := by rw [Qb hG]; rfl
      have y1 := Qe hG 1
      have hbgr : bg < wr.heap.size := by omega
      have hwr : w.heap.size < wr.heap.size := by have := hbgw.out; omega
      have hne : w.heap.size ≠ bg := by have := hbgw.out; omega
      replace hR5 := Qa.mk hR5
      replace hb5 := Qa.mk hb5
      have hG5 := Qa.mk hG
      replace HR := Qa.mk HR
      clear hlt hk hKp hG hR4 hs4 HC4 hb4
      rcases Hn.out with h1 | h2
      · subst h1
        clear y1
        go_wp2_with fail
        have hfin : ((wr.setCell ⟨w.heap.size, 0, none⟩ (.slice aC 1 cC)).setCell ⟨w.heap.size, 1, none⟩ (.slice none 0 0)).heap[w.heap.size]? = some (.cells #[.slice aC 1 cC, .slice none 0 0] 31 (0, 0)) := Q5 (Q5 hR5.out 0 (.slice aC 1 cC)) 1 (.slice none 0 0)
        (try simp only [Exit.inBlock, Exit.then]); refine bodyPost_ret (Z5 rfl _ _ w.heap.size 31 #[.slice aC 1 cC, .slice none 0 0] (0, 0) _ rfl hfin hu31 rfl (by kernel_rfl)) rfl ?_
        have hR9 := Kd.Z8 (Kd.X9 (Kd.Jd (p := ⟨w.heap.size, 1, none⟩) (Kd.Jd (p := ⟨w.heap.size, 0, none⟩) (Yk HR.out (Nat.le_refl _)) (fun b hb => by have := hbgw.out; simp only; omega) (.slice aC 1 cC)) (fun b hb => by have := hbgw.out; simp only; omega) (.slice none 0 0)) (fun _ _ => trivial)) (show w.heap.size ≤ bg + 1 by have := hbgw.out; omega)
        exact ⟨⟨_, _, rfl, hR9, Kd.Xr _ _ _ _ _⟩, (hb5.out.setCell (p := ⟨w.heap.size, 0, none⟩) (Nat.le_refl _) _).setCell (p := ⟨w.heap.size, 1, none⟩) (Nat.le_refl _) _⟩
      · subst h2
        go_wp2_with fail
        obtain ⟨W7, hW7⟩ : ∃ W7, W7 = ((wr.setCell ⟨bg, 1, none⟩ (.slice (some ⟨wr.heap.size, 0, none⟩) 15 15)).setCell ⟨w.heap.size, 0, none⟩ (.slice aC 2 cC)).setCell ⟨w.heap.size, 1, none⟩ (.slice (some ⟨wr.heap.size, 0, none⟩) 15 15) := ⟨_, rfl⟩
        have hs7 : W7.heap.size = wr.heap.size := by rw [hW7]; simp [World.setCell]
        have hq7 : W7.heap[w.heap.size]? = some (.cells #[.slice aC 2 cC, .slice (some ⟨wr.heap.size, 0, none⟩) 15 15] 31 (0, 0)) := by rw [hW7]; exact Q5 (Q5 (Jj hR5.out (p := ⟨bg, 1, none⟩) hne _) 0 (.slice aC 2 cC)) 1 (.slice (some ⟨wr.heap.size, 0, none⟩) 15 15)
        have hb7 : Below w.heap.size w W7 := by rw [hW7]; exact ((hb5.out.setCell (p := ⟨bg, 1, none⟩) (by have := hbgw.out; simp only; omega) _).setCell (p := ⟨w.heap.size, 0, none⟩) (Nat.le_refl _) _).setCell (p := ⟨w.heap.size, 1, none⟩) (Nat.le_refl _) _
        have hR9 := Kd.Jd (p := ⟨w.heap.size, 1, none⟩) (Kd.Jd (p := ⟨w.heap.size, 0, none⟩) (Kd.Jd (p := ⟨bg, 1, none⟩) (Yk HR.out (Nat.le_refl _)) (fun b hb => by simp only; omega) (.slice (some ⟨wr.heap.size, 0, none⟩) 15 15)) (fun b hb => by have := hbgw.out; simp only; omega) (.slice aC 2 cC)) (fun b hb => by have := hbgw.out; simp only; omega) (.slice (some ⟨wr.heap.size, 0, none⟩) 15 15)
        rw [← hW7] at hR9 ⊢
        clear hW7
        have hba := (Below.refl W7.heap.size W7).alloc (Nat.le_refl _) (.cells (List.replicate 15 (Value.bool false)).toArray 4)
        have hRM := Cy W7 15 w.heap.size (by omega) (by omega)
        rw [hs7] at hRM
        have hfin := (hba.block _ (Qq hq7)).trans hq7
        (try simp only [Exit.inBlock, Exit.then]); refine bodyPost_ret (Z5 rfl _ _ w.heap.size 31 #[.slice aC 2 cC, .slice (some ⟨wr.heap.size, 0, none⟩) 15 15] (0, 0) _ rfl hfin hu31 rfl (by kernel_rfl)) rfl ?_
        exact ⟨⟨_, _, rfl, Kd.Z8 (Kd.X9 (Kd.Qy hR9 hba) (fun _ _ => trivial)) (by have := hbgw.out; omega), hRM⟩, bnx hb7 hba⟩
theorem T9 (n : Nat) (hn : n = 1 ∨ n = 2) (w : World) (hL : Laid w) :
    Calls Tryz.prog 16 #[.int .i64 n, .bool true] w (Gj (Xi n true) 0 w) := by
  have hu31 := Tryz.underlying31
  have hu46 := Tryz.underlying46
  have t1 : decide ((n : Int) < 1) = false := decide_eq_false (by omega)
  have t2 : decide (2 < (n : Int)) = false := decide_eq_false (by omega)
  have hnI : (n : Int) ≤ 2 := by omega
  have Hn := Qa.mk hn
  obtain ⟨w1, hw1⟩ : ∃ w1, w1 = w.alloc (.cells #[.slice none 0 0, .slice none 0 0] 31) := ⟨_, rfl⟩
  have hb : Below w.heap.size w w1 := by rw [hw1]; exact (Below.refl _ _).alloc (Nat.le_refl _) _
  have hR1 : w1.heap[w.heap.size]? = some (.cells #[.slice none 0 0, .slice none 0 0] 31 (0, 0)) := by rw [hw1]; exact heap_alloc_new _ _
  have HL := Qa.mk hL
  obtain ⟨w2, hw2⟩ : ∃ w2, w2 = w1.alloc (.cells #[.int .i64 8] 3) := ⟨_, rfl⟩
  have hb12 : Below w1.heap.size w1 w2 := by rw [hw2]; exact (Below.refl _ _).alloc (Nat.le_refl _) _
  have hsz : w1.heap.size = w.heap.size + 1 := by rw [hw1]; simp
  have hC8 : (Kd.int .i64).C w2 (some ⟨w.heap.size + 1, 0, none⟩) 1 [8] := by
    rw [← hsz]
    exact CI_of (l := [8]) (by rw [hw2]; exact heap_alloc_new _ _) (by simp)
  clear hsz
  have HCnt := Qa.mk (Bw true (some ⟨w.heap.size + 1, 0, none⟩) 1 [8] w2 (HL.out.below (bnx hb hb12)) hC8)
  have hR2 := (hb12.block _ (Qq hR1)).trans hR1
  have hb2 := bnx hb hb12
  have HC8 := Qa.mk hC8
  have hmk : ∀ W : World, (Instr.makeSlice 22 (.int .i64 4) (.int .i64 4)).run Tryz.prog W = .ok (.slice (some ⟨W.heap.size, 0, none⟩) 4 4) (W.alloc (.cells (List.replicate 4 (Value.int .i64 0)).toArray 3)) := Sec.Xc 4 (by omega)
  have hmk2 : ∀ W : World, (Instr.makeSlice 22 (.int .i64 128) (.int .i64 128)).run Tryz.prog W = .ok (.slice (some ⟨W.heap.size, 0, none⟩) 128 128) (W.alloc (.cells (List.replicate 128 (Value.int .i64 0)).toArray 3)) := Sec.Xc 128 (by omega)
  have hmk3 : ∀ W : World, (Instr.makeSlice 23 (.int .i64 4) (.int .i64 4)).run Tryz.prog W = .ok (.slice (some ⟨W.heap.size, 0, none⟩) 4 4) (W.alloc (.cells (List.replicate 4 (Value.bool false)).toArray 4)) := Vs 4 (by omega)
  replace hmk := Qa.mk hmk
  replace hmk2 := Qa.mk hmk2
  clear hn hL hC8
  go_enter Tryz.func16, Tryz.ntmps16
  go_wp2_with fail
  rw [← hw1]
  rw [← hw2]
  refine HCnt.out.mono ?_
  rintro e w3 ⟨rfl, hb3⟩
  have hR3 := (hb3.block _ (Qq hR2)).trans hR2
  have hb23 := Qa.mk hb3
  replace hb3 := bnx hb2 hb3
  clear hR1 hR2 hb2 hb12 hb hw1 HCnt hw2
  have he1 : (Df true [8]).length = 4 := by decide +kernel
  have he2 : Di true [8] = 0 := by decide +kernel
  rw [he1, he2]
  rw [show ((4 : Nat) : Int) = 4 from rfl]
  clear he1 he2
  obtain ⟨bg, hbg⟩ : ∃ bg, bg = w3.heap.size := ⟨_, rfl⟩
  obtain ⟨w4, hw4⟩ : ∃ w4, w4 = w3.alloc (.cells #[.slice none 0 0, .slice none 0 0] 31) := ⟨_, rfl⟩
  have hb34 : Below w3.heap.size w3 w4 := by rw [hw4]; exact (Below.refl _ _).alloc (Nat.le_refl _) _
  have hG4 : w4.heap[bg]? = some (.cells #[.slice none 0 0, .slice none 0 0] 31 (0, 0)) := by rw [hw4, hbg]; exact heap_alloc_new _ _
  have hs4 : w4.heap.size = bg + 1 := by rw [hw4, hbg]; simp
  have hR4 := (hb34.block _ (Qq hR3)).trans hR3
  have hb4 := bnx hb3 hb34
  have hb24 := Qa.mk (bnx hb23.out hb34)
  have hbgw : Qa (w.heap.size < bg) := ⟨by rw [hbg]; exact Qq hR3⟩
  have hbgS : Qa (w.heap.size + 1 < bg) := ⟨by
    obtain ⟨ad, e, hc⟩ := Qr HC8.out (Below.refl _ _) (k := 0) (by decide)
    cases e
    have h1 := World.block_lt_of_cell? _ _ hc
    rw [Q21.add_block] at h1
    have h2 := hb23.out.size
    rw [hbg]
    exact Nat.lt_of_lt_of_le h1 h2⟩
  have HC4 := Qa.mk (Kd.Qh HC8.out hb24.out)
  clear hR3 hb3 hb23 hb34 HC8 HL hb24
  go_wp2_with fail
  rw [← hw4, ← hbg]
  clear hw4 hbg
  replace hR4 := Qa.mk hR4
  replace hs4 := Qa.mk hs4
  go_loopw [27] (fun i wr => ∃ k : Nat, i = .int .i64 k ∧ k ≤ n ∧ Qa (∃ vC, wr.heap[bg]? = some (.cells #[vC, .slice none 0 0] 31 (0, 0)) ∧ kCh.R 46 wr (bg + 1) (fun _ => True) vC (List.replicate k (chS true)) ∧ Kp bg none w4 wr)) (fun i _ => n - (intOf i).toNat)
  case atStart => exact ⟨0, rfl, by omega, ⟨_, hG4, Kd.Xr _ _ _ _ _, Kp.refl _ _ _⟩⟩
  case round =>
    obtain ⟨k, rfl, hk, hI⟩ := hrel
    obtain ⟨vC, hG, HR, hKp⟩ := hI.out
    clear hI hG4
    obtain ⟨aC, cC, rfl⟩ := Kd.Zq HR
    rw [List.length_replicate] at hG HR
    by_cases hlt : k < n
    · have hkI : (k : Int) < (n : Int) := by omega
      have hlt' := Qa.mk hlt
      have HCw := Qa.mk (Sec.C_kp HC4.out hKp (fun ad e => by cases e; have := hbgS.out; simp only; omega))
      have hbr : Qa (bg + 1 ≤ wr.heap.size) := ⟨by have := hKp.size; have := hs4.out; omega⟩
      have hown : Qa (∀ b, wr.heap.size ≤ b → some b ≠ (Value.slice aC k cC).ownBlock) := ⟨fun b hb e => by have := ((Kd.Zg HR).1 b e.symm).2.2.1; omega⟩
      have hgne : some bg ≠ (Value.slice aC k cC).ownBlock := fun e => by have := ((Kd.Zg HR).1 bg e.symm).2.1; omega
      have hS6 : Qa (∀ W, Below wr.heap.size wr W → W.cell? ⟨bg, 0, none⟩ = some (.slice aC k cC)) := ⟨fun W hb => by rw [Qb ((hb.block _ (Qq hG)).trans hG)]; rfl⟩
      have HG := Qa.mk hG
      have HRr := Qa.mk HR
      have HKp := Qa.mk hKp
      replace hgne := Qa.mk hgne
      clear hlt hG HR hKp hk
      go_upto_region 10 with fail
      refine Qs (S := fun W => W.cell? ⟨bg, 0, none⟩ = some (.slice aC k cC)) (ds := [12]) (by kernel_rfl) (hS6.out _ (Below.refl _ _).drew) (fun hHeld => ?_)
      (refine Tk.tl 0 (.pointer (some ⟨bg, 0, none⟩)) hHeld ?_)
      (refine Tk.tl 1 (.slice aC k cC) hHeld ?_)
      (refine Tk.tl 2 (.bool true) hHeld ?_)
      (refine Tk.tl 3 (.slice (some ⟨w.heap.size + 1, 0, none⟩) 1 1) hHeld ?_)
      (refine Tk.tl 5 (.int .i64 4) hHeld ?_)
      refine Ord.Po 3 wr _ #[true, true, true, true, true, true, true, true, true, true, false, false, false] [(4, 33), (6, 35), (7, 36), (8, 37), (9, 38)]
        [(4, fun v w => (Kd.int .i64).R 3 w wr.heap.size (fun _ => True) v [8]),
         (6, fun v w => (Kd.int .i64).R 3 w wr.heap.size (fun _ => True) v (List.replicate 4 0)),
         (7, fun v w => (Kd.int .i64).R 3 w wr.heap.size (fun _ => True) v (List.replicate 128 0)),
         (8, fun v w => ∃ v1 v2 v3, v = .agg #[.bool true, v1, v2, v3, .slice none 0 0] ∧ (Kd.int .i64).R 3 w wr.heap.size (fun _ => True) v1 [8] ∧ (Kd.int .i64).R 3 w wr.heap.size (fun _ => True) v2 (List.replicate 4 0) ∧ (Kd.int .i64).R 3 w wr.heap.size (fun _ => True) v3 (List.replicate 128 0)),
         (9, fun v w => ∃ g v1 v2 v3, v = .slice (some ⟨g, 0, none⟩) 1 1 ∧ w.heap[g]? = some (.cells #[.bool true, v1, v2, v3, .slice none 0 0] 46 (0, 0)) ∧ (Kd.int .i64).R 3 w wr.heap.size (fun _ => True) v1 [8] ∧ (Kd.int .i64).R 3 w wr.heap.size (fun _ => True) v2 (List.replicate 4 0) ∧ (Kd.int .i64).R 3 w wr.heap.size (fun _ => True) v3 (List.replicate 128 0))]
        rfl (by decide) (by kernel_rfl) (fun W hb => hS6.out W hb) ((Below.refl _ _).drew) ?gstays ?gobl ?grest
      case gstays =>
        refine Ord.Zo ?_ (Ord.Zo ?_ (Ord.Zo ?_ (Ord.Zo ?_ (Ord.Zo ?_ Ord.F4))))
        · rintro v W W' hb h
          exact Kd.Qy h hb
        · rintro v W W' hb h
          exact Kd.Qy h hb
        · rintro v W W' hb h
          exact Kd.Qy h hb
        · rintro v W W' hb ⟨v1, v2, v3, e, h1, h2, h3⟩
          exact ⟨v1, v2, v3, e, Kd.Qy h1 hb, Kd.Qy h2 hb, Kd.Qy h3 hb⟩
        · rintro v W W' hb ⟨g, v1, v2, v3, e, e2, h1, h2, h3⟩
          exact ⟨g, v1, v2, v3, e, (hb.block _ (Qq e2)).trans e2, Kd.Qy h1 hb, Kd.Qy h2 hb, Kd.Qy h3 hb⟩
      case gobl =>
        refine Ord.Jt.cons ?_ (Ord.Jt.cons ?_ (Ord.Jt.cons ?_ (Ord.Jt.cons ?_ (Ord.Jt.cons ?_ Ord.Jt.nil))))
        · rintro o x W K ho hb hdp hK
          cases ho
          refine goes_ Tryz.func28 (by kernel_rfl) rfl #[.slice (some ⟨w.heap.size + 1, 0, none⟩) 1 1] (by kernel_rfl) rfl rfl (by kernel_rfl) ((Vo (some ⟨w.heap.size + 1, 0, none⟩) 1 [8] W (Kd.Qh HCw.out hb) (by simp)).mono ?_)
          rintro e w1 ⟨v, rfl, r1, r2⟩
          exact ⟨_, rfl, Ord.Jv (by kernel_rfl) (hK.out _ _ r2 (Kd.Z8 r1 hb.size))⟩
        · rintro o x W K ho hb hdp hK
          have ho2 := (Option.some.inj ho)
          simp only [List.getElem_toArray, List.getElem_cons_succ, List.getElem_cons_zero] at ho2
          clear ho hdp
          subst ho2
          generalize hA : Ord.frA _ _ x = A9
          have hev : A9.tmps[34]?.getD undef = .int .i64 4 := by rw [← hA]; kernel_rfl
          refine Qv (w1 := W.alloc (.cells (List.replicate 4 (Value.int .i64 0)).toArray 3)) (v := .slice (some ⟨W.heap.size, 0, none⟩) 4 4) (by rw [← hA]; kernel_rfl) rfl (by have h9 := hmk.out; clear hA; go_simp) ?_
          rw [← hA]
          exact Ord.Jv (by kernel_rfl) (hK.out _ _ ((Below.refl _ _).alloc (Nat.le_refl _) _) (N8 W 4 _ hb.size (by omega)))
        · rintro o x W K ho hb hdp hK
          cases ho
          refine Qv (w1 := W.alloc (.cells (List.replicate 128 (Value.int .i64 0)).toArray 3)) (v := .slice (some ⟨W.heap.size, 0, none⟩) 128 128) (by kernel_rfl) rfl (by have h9 := hmk2.out; simp only [Ord.frA, List.foldl_cons, List.foldl_nil]; go_simp) ?_
          exact Ord.Jv (by kernel_rfl) (hK.out _ _ ((Below.refl _ _).alloc (Nat.le_refl _) _) (N8 W 128 _ hb.size (by omega)))
        · rintro o x W K ho hb hdp hK
          cases ho
          have h1 := hdp _ (.head _) (by kernel_rfl)
          have h2 := hdp _ (.tail _ (.head _)) (by kernel_rfl)
          have h3 := hdp _ (.tail _ (.tail _ (.head _))) (by kernel_rfl)
          dsimp only at h1 h2 h3
          obtain ⟨A1, q1, k1⟩ := Kd.Zq h1
          obtain ⟨A2, q2, k2⟩ := Kd.Zq h2
          obtain ⟨A3, q3, k3⟩ := Kd.Zq h3
          refine Qv (w1 := W) (v := .agg #[.bool true, x 4, x 6, x 7, .slice none 0 0]) (by kernel_rfl) rfl (by simp only [Ord.frA, List.foldl_cons, List.foldl_nil]; rw [k1, k2, k3]; kernel_rfl) ?_
          exact Ord.Jv (by kernel_rfl) (hK.out _ _ (Below.refl _ _) ⟨x 4, x 6, x 7, rfl, h1, h2, h3⟩)
        · rintro o x W K ho hb hdp hK
          cases ho
          obtain ⟨v1, v2, v3, e1, h1, h2, h3⟩ := hdp _ (.tail _ (.tail _ (.tail _ (.head _)))) (by kernel_rfl)
          dsimp only at e1
          obtain ⟨A1, q1, rfl⟩ := Kd.Zq h1
          obtain ⟨A2, q2, rfl⟩ := Kd.Zq h2
          obtain ⟨A3, q3, rfl⟩ := Kd.Zq h3
          refine Qv (w1 := W.alloc (.cells #[.bool true, .slice A1 ([8] : List Int).length q1, .slice A2 (List.replicate 4 (0 : Int)).length q2, .slice A3 (List.replicate 128 (0 : Int)).length q3, .slice none 0 0] 46)) (v := .slice (some ⟨W.heap.size, 0, none⟩) 1 1) (by kernel_rfl) rfl (by simp only [Ord.frA, List.foldl_cons, List.foldl_nil]; rw [e1]; kernel_rfl) ?_
          have hba := (Below.refl W.heap.size W).alloc (Nat.le_refl _) (.cells #[.bool true, .slice A1 ([8] : List Int).length q1, .slice A2 (List.replicate 4 (0 : Int)).length q2, .slice A3 (List.replicate 128 (0 : Int)).length q3, .slice none 0 0] 46)
          exact Ord.Jv (by kernel_rfl) (hK.out _ _ hba ⟨_, _, _, _, rfl, heap_alloc_new _ _, Kd.Qy h1 hba, Kd.Qy h2 hba, Kd.Qy h3 hba⟩)
      case grest =>
        intro x w7 hb7 hφ
        obtain ⟨g, v1, v2, v3, e1, e2, r1, r2, r3⟩ := hφ _ (.tail _ (.tail _ (.tail _ (.tail _ (.head _)))))
        dsimp only at e1
        clear hφ
        have hG7 := (hb7.block _ (Qq HG.out)).trans HG.out
        have z0 : w7.cell? ⟨bg, 0, none⟩ = some (.slice aC k cC) := by rw [Qb hG7]; rfl
        have HR7 := Kd.Qy HRr.out hb7
        have hM7 : Zn (kCh.M w7 (bg + 1) (fun b => wr.heap.size ≤ b)) 5 w7 (some ⟨g, 0, none⟩) 1 [chS true] := ⟨rfl, by omega, fun _ => ⟨_, rfl, fun j p hj => by
          have hj0 : j = 0 := by
            have := (List.getElem?_eq_some_iff.1 hj).1
            simp at this
            omega
          subst hj0
          obtain rfl : chS true = p := by simpa using hj
          refine ⟨[.bool true, v1, v2, v3, .slice none 0 0], rfl, I9 w7 (bg + 1) (fun b => wr.heap.size ≤ b) (chS true) (Yk r1 hbr.out) (Yk r2 hbr.out) (Yk r3 hbr.out) (Kd.Xr _ _ _ _ _), fun i u hi => ?_⟩
          rw [show (⟨g, 0, none⟩ : Addr).add (0 * 5 + i) = ⟨g, i, none⟩ by
            unfold Addr.add
            by_cases h0 : i = 0
            · simp [h0]
            · simp [h0], Qb e2]
          simpa using hi⟩⟩
        have hs7 : wr.heap.size ≤ w7.heap.size := hb7.size
        have hK7 := Qa.mk (HKp.out.Ze (hb7.mono HKp.out.size))
        have hln : Qa (((List.replicate k (chS true)).length + 1) * 104 ≤ 140737488355328) := ⟨by rw [List.length_replicate]; omega⟩
        simp only [Ord.frA, List.foldl_cons, List.foldl_nil]
        rw [e1]
        clear e1 e2 r1 r2 r3
        simp only [Act.put, List.setIfInBounds_toArray, List.set_cons_zero, List.set_cons_succ]
        (refine Qd (rs := [10]) (by kernel_rfl) (by simp) ?_; refine Qc.cons rfl (by decide) (fun K hK => ?_) Qc.nil)
        refine Kd.Vh kCh (Rr := kCh.M w7 (bg + 1) (fun b => wr.heap.size ≤ b)) (w0 := w7) (bg + 1) rfl (.tmp 30) (.tmp 38) 29 46 (.agg #[(.bool false), (.slice none 0 0), (.slice none 0 0), (.slice none 0 0), (.slice none 0 0)]) 104 rfl Tryz.underlying29 Fb rfl (by decide) (by decide) (.slice aC k cC) (List.replicate k (chS true)) [chS true] (some ⟨g, 0, none⟩) 1 1 (fun _ => True) (fun b => wr.heap.size ≤ b) rfl rfl HR7 hM7 (fun _ _ h => h) (fun b hb => ⟨trivial, hown.out b hb⟩) (fun _ _ => trivial) (Below.refl _ _) (by have := hbr.out; omega) hln.out ?_
        intro v8 w8 R8 B8 hg8 hat8
        have hG8 := (hg8.block _ (Qq hG7) hgne.out).trans hG7
        have z8 : w8.cell? ⟨bg, 0, none⟩ = some (.slice aC k cC) := by rw [Qb hG8]; rfl
        have y8 := Qe hG8 0
        obtain ⟨a8, c8, h8e⟩ := Kd.Zq R8
        subst h8e
        have hl8 : (List.replicate k (chS true) ++ [chS true]) = List.replicate (k + 1) (chS true) := List.replicate_succ'.symm
        rw [hl8, List.length_replicate] at R8
        rw [hl8, List.length_replicate]
        have hK8 := Qa.mk (hK7.out.Ze (B8.mono (by have := HKp.out.size; have := hs4.out; omega)))
        have hG8' := Qa.mk hG8
        replace R8 := Qa.mk R8
        clear hM7 HR7 hl8 hg8 hat8 hG7 hG8 z0 B8 hb7 hs7
        refine hK.out _ _ z8 (fun hHeld => ?_)
        clear hK K
        try simp only [Act.put, Tk.z1, Tk.z2, Tk.z3, Tk.z4, Tk.z5, Tk.z6]
        (refine Tk.tl 11 (.pointer (some ⟨bg, 0, none⟩)) hHeld ?_)
        (refine Qd (rs := [12]) (by kernel_rfl) (by simp) ?_; refine Qc.Zh rfl (by decide) (fun K hK => ?_) Qc.nil)
        go_simp
        go_wp2_with fail
        refine hK.out _ _ ?_
        clear hK K
        try simp only [Act.put, List.setIfInBounds_toArray, List.set_cons_zero, List.set_cons_succ]
        refine Qp (by kernel_rfl) ?_ _
        clear hHeld z8 y8
        go_wp2_with fail
        go_roundw
        case rel => exact ⟨k + 1, by go_num, hlt'.out, ⟨_, Q5 hG8'.out 0 _, Kd.X9 (Kd.Jd (p := ⟨bg, 0, none⟩) (Yk R8.out (Nat.le_refl _)) (fun b hb => by simp only; omega) _) (fun _ _ => trivial), Kp.Ki hK8.out 0 _⟩⟩
        case measure => have := hlt'.out; simp [intOf]; omega
    · obtain rfl : k = n := by omega
      have hR5 := hKp.blk hR4.out (by have := hbgw.out; omega) (by simp)
      have hb5 := hb4.trans (hKp.below (B := w.heap.size) (by have := hbgw.out; omega) (fun k h => by cases h) hb4.size)
      have hbr : bg + 1 ≤ wr.heap.size := by have := hKp.size; have := hs4.out; omega
      have f0 := Qe hR5 0
      have f1 := Qe hR5 1
      have c0 : wr.cell? ⟨w.heap.size, 0, none⟩ = some (.slice none 0 0) := by rw [Qb hR5]; rfl
      have c1 : wr.cell? ⟨w.heap.size, 1, none⟩ = some (.slice none 0 0) := by rw [Qb hR5]; rfl
      have g0 : wr.cell? ⟨bg, 0, none⟩ = some (.slice aC k cC) := by rw [Qb hG]; rfl
      have g1 : wr.cell? ⟨bg, 1, none⟩ = some (.slice none 0 0) := by rw [Qb hG]; rfl
      have y1 := Qe hG 1
      have hbgr : bg < wr.heap.size := by omega
      have hwr : w.heap.size < wr.heap.size := by have := hbgw.out; omega
      have hne : w.heap.size ≠ bg := by have := hbgw.out; omega
      replace hR5 := Qa.mk hR5
      replace hb5 := Qa.mk hb5
      have hG5 := Qa.mk hG
      replace HR := Qa.mk HR
      clear hlt hk hKp hG hR4 hs4 HC4 hb4
      rcases Hn.out with h1 | h2
      · subst h1
        clear y1
        go_wp2_with fail
        have hfin : ((wr.setCell ⟨w.heap.size, 0, none⟩ (.slice aC 1 cC)).setCell ⟨w.heap.size, 1, none⟩ (.slice none 0 0)).heap[w.heap.size]? = some (.cells #[.slice aC 1 cC, .slice none 0 0] 31 (0, 0)) := Q5 (Q5 hR5.out 0 (.slice aC 1 cC)) 1 (.slice none 0 0)
        (try simp only [Exit.inBlock, Exit.then]); refine bodyPost_ret (Z5 rfl _ _ w.heap.size 31 #[.slice aC 1 cC, .slice none 0 0] (0, 0) _ rfl hfin hu31 rfl (by kernel_rfl)) rfl ?_
        have hR9 := Kd.Z8 (Kd.X9 (Kd.Jd (p := ⟨w.heap.size, 1, none⟩) (Kd.Jd (p := ⟨w.heap.size, 0, none⟩) (Yk HR.out (Nat.le_refl _)) (fun b hb => by have := hbgw.out; simp only; omega) (.slice aC 1 cC)) (fun b hb => by have := hbgw.out; simp only; omega) (.slice none 0 0)) (fun _ _ => trivial)) (show w.heap.size ≤ bg + 1 by have := hbgw.out; omega)
        exact ⟨⟨_, _, rfl, hR9, Kd.Xr _ _ _ _ _⟩, (hb5.out.setCell (p := ⟨w.heap.size, 0, none⟩) (Nat.le_refl _) _).setCell (p := ⟨w.heap.size, 1, none⟩) (Nat.le_refl _) _⟩
      · subst h2
        go_wp2_with fail
        obtain ⟨W7, hW7⟩ : ∃ W7, W7 = ((wr.setCell ⟨bg, 1, none⟩ (.slice (some ⟨wr.heap.size, 0, none⟩) 4 4)).setCell ⟨w.heap.size, 0, none⟩ (.slice aC 2 cC)).setCell ⟨w.heap.size, 1, none⟩ (.slice (some ⟨wr.heap.size, 0, none⟩) 4 4) := ⟨_, rfl⟩
        have hs7 : W7.heap.size = wr.heap.size := by rw [hW7]; simp [World.setCell]
        have hq7 : W7.heap[w.heap.size]? = some (.cells #[.slice aC 2 cC, .slice (some ⟨wr.heap.size, 0, none⟩) 4 4] 31 (0, 0)) := by rw [hW7]; exact Q5 (Q5 (Jj hR5.out (p := ⟨bg, 1, none⟩) hne _) 0 (.slice aC 2 cC)) 1 (.slice (some ⟨wr.heap.size, 0, none⟩) 4 4)
        have hb7 : Below w.heap.size w W7 := by rw [hW7]; exact ((hb5.out.setCell (p := ⟨bg, 1, none⟩) (by have := hbgw.out; simp only; omega) _).setCell (p := ⟨w.heap.size, 0, none⟩) (Nat.le_refl _) _).setCell (p := ⟨w.heap.size, 1, none⟩) (Nat.le_refl _) _
        have hR9 := Kd.Jd (p := ⟨w.heap.size, 1, none⟩) (Kd.Jd (p := ⟨w.heap.size, 0, none⟩) (Kd.Jd (p := ⟨bg, 1, none⟩) (Yk HR.out (Nat.le_refl _)) (fun b hb => by simp only; omega) (.slice (some ⟨wr.heap.size, 0, none⟩) 4 4)) (fun b hb => by have := hbgw.out; simp only; omega) (.slice aC 2 cC)) (fun b hb => by have := hbgw.out; simp only; omega) (.slice (some ⟨wr.heap.size, 0, none⟩) 4 4)
        rw [← hW7] at hR9 ⊢
        clear hW7
        have hba := (Below.refl W7.heap.size W7).alloc (Nat.le_refl _) (.cells (List.replicate 4 (Value.bool false)).toArray 4)
        have hRM := Cy W7 4 w.heap.size (by omega) (by omega)
        rw [hs7] at hRM
        have hfin := (hba.block _ (Qq hq7)).trans hq7
        (try simp only [Exit.inBlock, Exit.then]); refine bodyPost_ret (Z5 rfl _ _ w.heap.size 31 #[.slice aC 2 cC, .slice (some ⟨wr.heap.size, 0, none⟩) 4 4] (0, 0) _ rfl hfin hu31 rfl (by kernel_rfl)) rfl ?_
        exact ⟨⟨_, _, rfl, Kd.Z8 (Kd.X9 (Kd.Qy hR9 hba) (fun _ _ => trivial)) (by have := hbgw.out; omega), hRM⟩, bnx hb7 hba⟩
end Gn

namespace Gn
attribute [local go_sem] Qj Qi Ql Qk Qg Qf
open Q15
open Q21
open Sca (Vi)
theorem Wp {w W : World} {A : Option Addr} {xs : List Ch} (h : kCh.C w A xs.length xs) (hb : Below w.heap.size w W) {k : Nat} (hk : k < xs.length) :
  ∃ ad A1 c1 A2 c2 A3 c3 A4 c4, A = some ad ∧ W.cell? (ad.add (k * 5)) = some (.bool (xs.getD k ch0).sh) ∧ W.cell? ⟨(ad.add (k * 5)).block, (ad.add (k * 5)).off + 1, none⟩ = some (.slice A1 (xs.getD k ch0).gr.length c1) ∧ W.cell? ⟨(ad.add (k * 5)).block, (ad.add (k * 5)).off + 2, none⟩ = some (.slice A2 (xs.getD k ch0).sc.length c2) ∧ W.cell? ⟨(ad.add (k * 5)).block, (ad.add (k * 5)).off + 3, none⟩ = some (.slice A3 (xs.getD k ch0).qu.length c3) ∧ W.cell? ⟨(ad.add (k * 5)).block, (ad.add (k * 5)).off + 4, none⟩ = some (.slice A4 (xs.getD k ch0).fi.length c4) ∧
   (Kd.int .i64).C W A1 (xs.getD k ch0).gr.length (xs.getD k ch0).gr ∧ (Kd.int .i64).C W A2 (xs.getD k ch0).sc.length (xs.getD k ch0).sc ∧ (Kd.int .i64).C W A3 (xs.getD k ch0).qu.length (xs.getD k ch0).qu ∧ (Kd.int .i64).C W A4 (xs.getD k ch0).fi.length (xs.getD k ch0).fi := by
 obtain ⟨ad, A1, c1, A2, c2, A3, c3, A4, c4, e, hch, g1, g2, g3, g4⟩ := U2 h hb hk
 have m0 := hch 0 _ rfl
 have m1 := hch 1 _ rfl
 have m2 := hch 2 _ rfl
 have m3 := hch 3 _ rfl
 have m4 := hch 4 _ rfl
 rw [show k * 5 + 4 = k * 5 + 1 + 1 + 1 + 1 by omega, Sec.Q9, Sec.Q9, Sec.Q9, Sec.Q9] at m4
 rw [show k * 5 + 3 = k * 5 + 1 + 1 + 1 by omega, Sec.Q9, Sec.Q9, Sec.Q9] at m3
 rw [show k * 5 + 2 = k * 5 + 1 + 1 by omega, Sec.Q9, Sec.Q9] at m2
 rw [Sec.Q9] at m1
 simp only [Nat.add_assoc, Nat.reduceAdd, Nat.add_zero] at m0 m1 m2 m3 m4
 exact ⟨ad, A1, c1, A2, c2, A3, c3, A4, c4, e, m0, m1, m2, m3, m4, g1, g2, g3, g4⟩
def Sm4 (g : Gr) : Prop := ∀ x ∈ g.chs, x.gr.length ≤ 1000000 ∧ x.sc.length ≤ 1000000 ∧ x.qu.length ≤ 1000000 ∧ x.fi.length ≤ 1000000
theorem getD_mem {xs : List Ch} {k : Nat} (hk : k < xs.length) : xs.getD k ch0 ∈ xs := by rw [List.getD_eq_getElem?_getD, List.getElem?_eq_getElem hk]; exact List.getElem_mem hk
theorem Gc (g : Gr) (A B : Option Addr) (c c' : Nat) (M N : Option Addr) (m m' : Nat) (w : World) (h : Uv w g A c M m) (h2 : Uv w g B c' N m') (hn : g.chs.length ≤ 1000 ∧ g.mid.length ≤ 1000) (hs : Sm4 g) :
  Calls Tryz.prog 11 #[grV g A c M m, grV g B c' N m'] w fun e w' => e = .returned (.bool true) ∧ Below w.heap.size w w' := by
 have hu31 := Tryz.underlying31
 have hu46 := Tryz.underlying46
 obtain ⟨xs, mid⟩ := g
 unfold grV
 have HS := Qa.mk hs
 clear hs
 have h1 := h.chs
 have h1m := h.mid
 have h2c := h2.chs
 have h2m := h2.mid
 dsimp only at h1 h1m h2c h2m hn ⊢
 have HA := Qa.mk h1
 have HM := Qa.mk h1m
 have HB := Qa.mk h2c
 have HN := Qa.mk h2m
 have hxI : (xs.length : Int) ≤ 1000 ∧ (mid.length : Int) ≤ 1000 := by omega
 obtain ⟨w1, hw1⟩ : ∃ w1, w1 = (w.alloc (.cells #[.slice A xs.length c, .slice M mid.length m] 31)).alloc (.cells #[.slice B xs.length c', .slice N mid.length m'] 31) := ⟨_, rfl⟩
 obtain ⟨hb, hG1, hG2, -⟩ := Hq (w := w) hw1
 clear h h2 h1 h1m h2c h2m hn
 go_enter Tryz.func11, Tryz.ntmps11
 go_wp2_with fail
 rw [← hw1]
 clear hw1
 have Hb := Qa.mk hb
 have z0 : w1.cell? ⟨w.heap.size, 0, none⟩ = some (.slice A xs.length c) := by rw [Qb hG1]; rfl
 have z1 : w1.cell? ⟨w.heap.size, 1, none⟩ = some (.slice M mid.length m) := by rw [Qb hG1]; rfl
 have y0 : w1.cell? ⟨w.heap.size + 1, 0, none⟩ = some (.slice B xs.length c') := by rw [Qb hG2]; rfl
 have y1 : w1.cell? ⟨w.heap.size + 1, 1, none⟩ = some (.slice N mid.length m') := by rw [Qb hG2]; rfl
 clear hG1 hG2 hb
 go_wp2_with fail
 go_loopw [29] (fun i wr => ∃ k : Nat, i = .int .i64 k ∧ k ≤ mid.length ∧ Below w1.heap.size w1 wr) (fun i _ => mid.length - (intOf i).toNat)
 case atStart => exact ⟨0, rfl, by omega, Below.refl _ _⟩
 case round =>
  obtain ⟨k, rfl, hk, hb3⟩ := hrel
  have q1 := cnx y1 hb3
  by_cases hlt : k < mid.length
  ·obtain ⟨am, rfl, e1⟩ := Vi HM.out (bnx Hb.out hb3) hlt
   obtain ⟨an, rfl, e2⟩ := Vi HN.out (bnx Hb.out hb3) hlt
   have hkI : (k : Int) < (mid.length : Int) := by omega
   obtain ⟨x, hx⟩ : ∃ x, x = mid.getD k false := ⟨_, rfl⟩
   rw [← hx] at e1 e2
   have hlt' := Qa.mk hlt
   clear hx hlt
   go_wp2
   go_roundw
   case rel => exact ⟨k + 1, by go_num, hlt'.out, hb3⟩
   case measure => have := hlt'.out; simp [intOf]; omega
  ·obtain rfl : k = mid.length := by omega
   have q0 := cnx z0 hb3
   clear hlt hk
   go_wp2_with fail
   obtain ⟨w2, rfl⟩ : ∃ w2 : World, w2 = wr := ⟨_, rfl⟩
   clear q0 q1
   go_loopw [45] (fun i wr => ∃ k : Nat, i = .int .i64 k ∧ k ≤ xs.length ∧ Below w1.heap.size w1 wr) (fun i _ => xs.length - (intOf i).toNat)
   case atStart => exact ⟨0, rfl, by omega, hb3⟩
   case round =>
    obtain ⟨k, rfl, hk, hb4⟩ := hrel
    by_cases hlt : k < xs.length
    ·obtain ⟨ad, A1, c1, A2, c2, A3, c3, A4, c4, rfl, m0, m1, m2, m3, m4, g1, g2, g3, g4⟩ := Wp HA.out (bnx Hb.out hb4) hlt
     obtain ⟨ad2, B1, d1, B2, d2, B3, d3, B4, d4, rfl, n0, n1, n2, n3, n4, f1, f2, f3, f4⟩ := Wp HB.out (bnx Hb.out hb4) hlt
     have q0 := cnx y0 hb4
     have hkI : (k : Int) < (xs.length : Int) := by omega
     have hlt' := Qa.mk hlt
     obtain ⟨X, hX⟩ : ∃ X, X = xs.getD k ch0 := ⟨_, rfl⟩
     obtain ⟨s1, s2, s3, s4⟩ := HS.out _ (getD_mem hlt)
     rw [← hX] at s1 s2 s3 s4 m0 m1 m2 m3 m4 n0 n1 n2 n3 n4 g1 g2 g3 g4 f1 f2 f3 f4
     have HSm := Qa.mk (fun (W : World) (hb : Below wr.heap.size wr W) => And.intro (Uo A1 B1 c1 d1 X.gr X.gr W (Kd.Qh g1 hb) (Kd.Qh f1 hb) (by omega)) (And.intro (Uo A2 B2 c2 d2 X.sc X.sc W (Kd.Qh g2 hb) (Kd.Qh f2 hb) (by omega)) (And.intro (Uo A3 B3 c3 d3 X.qu X.qu W (Kd.Qh g3 hb) (Kd.Qh f3 hb) (by omega)) (Uo A4 B4 c4 d4 X.fi X.fi W (Kd.Qh g4 hb) (Kd.Qh f4 hb) (by omega)))))
     simp only [decide_true] at HSm
     have hq0 : w.heap.size + 1 < wr.heap.size := World.block_lt_of_cell? wr _ q0
     have hn0 : (ad2.add (k * 5)).block < wr.heap.size := World.block_lt_of_cell? wr _ n0
     clear hX hlt g1 g2 g3 g4 f1 f2 f3 f4 s1 s2 s3 s4
     go_wp2_with fail
     obtain ⟨W5, hW5⟩ : ∃ W5, W5 = (wr.alloc (.cells #[.bool X.sh, .slice A1 X.gr.length c1, .slice A2 X.sc.length c2, .slice A3 X.qu.length c3, .slice A4 X.fi.length c4] 46)).alloc (.cells #[.bool X.sh, .slice B1 X.gr.length d1, .slice B2 X.sc.length d2, .slice B3 X.qu.length d3, .slice B4 X.fi.length d4] 46) := ⟨_, rfl⟩
     obtain ⟨hb5, hH1, hH2, -⟩ := Hq (w := wr) hW5
     rw [← hW5]
     have fin := Qa.mk (fun (W : World) (h : Below wr.heap.size wr W) => bnx hb4 h)
     have HH := Qa.mk (fun (W : World) (hb : Below W5.heap.size W5 W) => And.intro (Qb ((hb.block _ (Qq hH1)).trans hH1)) (Qb ((hb.block _ (Qq hH2)).trans hH2)))
     clear hW5 m0 m1 m2 m3 m4 n0 n1 n2 n3 n4 q0 hq0 hn0 hH1 hH2 hb4
     refine ((HSm.out _ hb5).1).mono ?_
     rintro e w6 ⟨rfl, hb6⟩
     have u2 : w6.cell? ⟨wr.heap.size, 2, none⟩ = some (.slice A2 X.sc.length c2) := by rw [(HH.out _ hb6).1]; rfl
     have v2 : w6.cell? ⟨wr.heap.size + 1, 2, none⟩ = some (.slice B2 X.sc.length d2) := by rw [(HH.out _ hb6).2]; rfl
     go_wp2_with fail
     refine ((HSm.out _ (bnx hb5 hb6)).2.1).mono ?_
     clear u2 v2
     rintro e w7 ⟨rfl, hbn⟩
     replace hb6 := bnx hb6 hbn
     clear hbn
     have u3 : w7.cell? ⟨wr.heap.size, 3, none⟩ = some (.slice A3 X.qu.length c3) := by rw [(HH.out _ hb6).1]; rfl
     have v3 : w7.cell? ⟨wr.heap.size + 1, 3, none⟩ = some (.slice B3 X.qu.length d3) := by rw [(HH.out _ hb6).2]; rfl
     go_wp2_with fail
     refine ((HSm.out _ (bnx hb5 hb6)).2.2.1).mono ?_
     clear u3 v3
     rintro e w8 ⟨rfl, hbn⟩
     replace hb6 := bnx hb6 hbn
     clear hbn
     have u4 : w8.cell? ⟨wr.heap.size, 4, none⟩ = some (.slice A4 X.fi.length c4) := by rw [(HH.out _ hb6).1]; rfl
     have v4 : w8.cell? ⟨wr.heap.size + 1, 4, none⟩ = some (.slice B4 X.fi.length d4) := by rw [(HH.out _ hb6).2]; rfl
     go_wp2_with fail
     refine ((HSm.out _ (bnx hb5 hb6)).2.2.2).mono ?_
     clear u4 v4
     rintro e w9 ⟨rfl, hbn⟩
     replace hb6 := bnx hb6 hbn
     clear hbn
     replace hb5 := bnx hb5 hb6
     clear hb6 HH HSm
     go_wp2
     go_roundw
     case rel => exact ⟨k + 1, by go_num, hlt'.out, fin.out _ hb5⟩
     case measure => have := hlt'.out; simp [intOf]; omega
    ·obtain rfl : k = xs.length := by omega
     have hbf := bnx Hb.out hb4
     clear hlt hk hb4
     go_wp2
     go_ret
     exact ⟨rfl, hbf⟩
end Gn

end Go.Proofs.YtnflnicdjioflaaGreatDoor
