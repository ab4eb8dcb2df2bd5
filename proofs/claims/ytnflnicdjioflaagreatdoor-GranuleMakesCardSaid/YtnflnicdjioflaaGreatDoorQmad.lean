/- A part of the proof. -/
import Derived.Test.YtnflnicdjioflaaGreatDoorQmaa
import Derived.Test.YtnflnicdjioflaaGreatDoorQmac
import Derived.WalkSpells
import Derived.WalkLawsBesides
import Derived.Shelf.GgClosure.Gives
import Derived.Test.YtnflnicdjioflaaGreatDoorProg
set_option linter.unusedVariables false
set_option linter.unusedSimpArgs false
namespace Go.Proofs.YtnflnicdjioflaaGreatDoorW.PrintWords
open Go.RowKit
namespace Kd
def tag {α : Type} (f : Nat → Nat) (d : Kd α) : Kd (α × Nat) where
 sz := d.sz
 E := d.E
 K := fun w x cs => d.K w x.1 cs
 M := fun w base ok x cs => d.M w base (fun k => ok k ∧ f k = x.2) x.1 cs
 K_len := fun h => d.K_len h
 K_one := fun h => d.K_one h
 K_below := fun hb h => d.K_below hb h
 K_of_M := fun h => d.K_of_M h
 M_mono := fun hok h => d.M_mono (fun k hk => ⟨hok k hk.1, hk.2⟩) h
 M_bound := fun h => d.M_mono (fun _ hk => ⟨⟨hk.1.1, hk.2⟩, hk.1.2⟩) (d.M_bound h)
 M_move := fun hm h => d.M_move (fun k hk => hm k hk.1) h
 M_lower := fun hb h => d.M_lower hb h
def raw (sz : Nat) : Kd (List Value) where
 sz := sz
 E := []
 K := fun _ x cs => cs = x ∧ cs.length = sz ∧ ∀ u ∈ cs, u.oneCell' = true
 M := fun _ _ _ x cs => cs = x ∧ cs.length = sz ∧ ∀ u ∈ cs, u.oneCell' = true
 K_len := fun h => h.2.1
 K_one := fun h => h.2.2
 K_below := fun _ h => h
 K_of_M := fun h => h
 M_mono := fun _ h => h
 M_bound := fun h => h
 M_move := fun _ h => h
 M_lower := fun _ h => h
def S {α : Type} (d : Kd α) (e : Nat) (w : World) (base : Nat) (ok : Nat → Prop) (v : Value) (xs : List α) : Prop := ∃ f, (tag f d).R e w base ok v xs.zipIdx
def gap {α : Type} (f : Nat → Nat) (d : Kd α) (i : Nat) (c : List Value) : Kd (α × Nat) where
 sz := d.sz
 E := d.E
 K := fun w x cs => (x.2 = i → cs = c ∧ cs.length = d.sz ∧ ∀ u ∈ cs, u.oneCell' = true) ∧ (x.2 ≠ i → d.K w x.1 cs)
 M := fun w base ok x cs => (x.2 = i → cs = c ∧ cs.length = d.sz ∧ ∀ u ∈ cs, u.oneCell' = true) ∧ (x.2 ≠ i → d.M w base (fun k => ok k ∧ f k = x.2) x.1 cs)
 K_len := fun {w x cs} h => by
  by_cases hx : x.2 = i
  ·exact (h.1 hx).2.1
  ·exact d.K_len (h.2 hx)
 K_one := fun {w x cs} h => by
  by_cases hx : x.2 = i
  ·exact (h.1 hx).2.2
  ·exact d.K_one (h.2 hx)
 K_below := fun hb h => ⟨h.1, fun hx => d.K_below hb (h.2 hx)⟩
 K_of_M := fun h => ⟨h.1, fun hx => d.K_of_M (h.2 hx)⟩
 M_mono := fun hok h => ⟨h.1, fun hx => d.M_mono (fun k hk => ⟨hok k hk.1, hk.2⟩) (h.2 hx)⟩
 M_bound := fun h => ⟨h.1, fun hx => d.M_mono (fun _ hk => ⟨⟨hk.1.1, hk.2⟩, hk.1.2⟩) (d.M_bound (h.2 hx))⟩
 M_move := fun hm h => ⟨h.1, fun hx => d.M_move (fun k hk => hm k hk.1) (h.2 hx)⟩
 M_lower := fun hb h => ⟨h.1, fun hx => d.M_lower hb (h.2 hx)⟩
def H {α : Type} (d : Kd α) (e : Nat) (w : World) (base : Nat) (ok : Nat → Prop) (v : Value) (xs : List α) (i : Int) (oki : Nat → Prop) (c : List Value) : Prop :=
 (∀ k, oki k → ok k) ∧ ∃ f, (gap f d i.toNat c).R e w base (fun k => ok k ∧ ¬ oki k) v xs.zipIdx
end Kd
end Go.Proofs.YtnflnicdjioflaaGreatDoorW.PrintWords

namespace Go.Proofs.YtnflnicdjioflaaGreatDoorW.PrintWords
open Go.RowKit
namespace Kd
structure Heap {α : Type} (d : Kd α) : Prop where
 K : ∀ {w w1 : World} {x : α} {cs : List Value}, (∀ k, k < w.heap.size → w1.heap[k]? = w.heap[k]?) → d.K w x cs → d.K w1 x cs
end Kd
end Go.Proofs.YtnflnicdjioflaaGreatDoorW.PrintWords

namespace Go.Proofs.YtnflnicdjioflaaGreatDoorW.PrintWords
open Go.RowKit
def Foot (P : World → Prop) (W : World) (ok : Nat → Prop) : Prop := ∀ W' : World, (∀ k, ok k → k < W.heap.size → W'.heap[k]? = W.heap[k]?) → P W'
namespace Kd
def F {α : Type} (d : Kd α) (W : World) (ok : Nat → Prop) (A : Option Addr) (n : Nat) (xs : List α) : Prop := Foot (fun W => d.C W A n xs) W ok
def FK {α : Type} (d : Kd α) (W : World) (ok : Nat → Prop) (x : α) (c : List Value) : Prop := Foot (fun W => d.K W x c) W ok
end Kd
end Go.Proofs.YtnflnicdjioflaaGreatDoorW.PrintWords

namespace Go.Proofs.YtnflnicdjioflaaGreatDoorW.PrintWords
open Go.RowKit
namespace Kd
def chunks (sz : Nat) (n : Nat) (inner : List Value) : List (List Value) := (List.range n).map fun j => (inner.drop (j * sz)).take sz
theorem chunks_length (sz n : Nat) (inner : List Value) : (chunks sz n inner).length = n := by simp [chunks]
theorem chunks_at {sz n : Nat} {inner : List Value} {j : Nat} (hj : j < n) : (chunks sz n inner)[j]? = some ((inner.drop (j * sz)).take sz) := by simp [chunks, hj]
theorem chunks_get {sz n : Nat} {inner : List Value} {j : Nat} {c : List Value} (h : (chunks sz n inner)[j]? = some c) : c = (inner.drop (j * sz)).take sz := by
 have hj : j < n := by have := (List.getElem?_eq_some_iff.1 h).1; rwa [chunks_length] at this
 rw [chunks_at hj] at h
 injection h with h
 exact h.symm
section
variable {α : Type} {d : Kd α} {e base n cc g : Nat} {ok ok' okp S : Nat → Prop} {w w1 W W1 : World} {A : Option Addr} {u v v1 : Value} {xs : List α} {x : α} {c : List Value}
def N {α : Type} (d : Kd α) (e : Nat) (w : World) (base : Nat) (ok : Nat → Prop) (v : Value) (xs : List α) : Prop :=
 (∀ k, v.ownBlock = some k → ok k) ∧ ∃ rows : List (List Value), rows.length = xs.length ∧ (raw d.sz).R e w base (fun k => some k = v.ownBlock) v rows ∧ ∀ (j : Nat) (x : α) (c : List Value), xs[j]? = some x → rows[j]? = some c → FK d w (fun k => ok k ∧ some k ≠ v.ownBlock) x c
end
end Kd
end Go.Proofs.YtnflnicdjioflaaGreatDoorW.PrintWords

namespace Go.Proofs.YtnflnicdjioflaaGreatDoorW.PrintWords
open Go.RowKit
namespace Kd
section
variable {α : Type} {d : Kd α} {e base n cap g : Nat} {ok ok' okp : Nat → Prop} {w w1 W : World} {v v1 : Value} {xs ys : List α}
theorem reads_raw {Rr : α → List Value → Prop} {sz m : Nat} {A : Option Addr} (h : ReadsRow Rr sz W A m ys) (hR : ∀ x c, Rr x c → c.length = sz ∧ ∀ u ∈ c, u.oneCell' = true) :
  ∃ news : List (List Value), news.length = ys.length ∧ ReadsRow (fun x cs => cs = x ∧ cs.length = sz ∧ ∀ u ∈ cs, u.oneCell' = true) sz W A m news ∧ ∀ (j : Nat) (x : α) (c : List Value), ys[j]? = some x → news[j]? = some c → Rr x c := by
 rcases Nat.eq_zero_or_pos m with h0 | hp
 ·have hy : ys = [] := List.eq_nil_of_length_eq_zero (h.1.trans h0)
  subst hy
  exact ⟨[], rfl, ⟨h0 ▸ rfl, h.2.1, fun hp => by omega⟩, fun j x c hx => by simp at hx⟩
 ·obtain ⟨ad, rfl, _⟩ := h.2.2 hp
  obtain ⟨inner, hr, hc⟩ := ReadsRow.inner_ h
  refine ⟨chunks sz ys.length inner, chunks_length _ _ _, ⟨by rw [chunks_length]; exact h.1, h.2.1, fun _ => ⟨ad, rfl, fun j p hj => ?_⟩⟩, fun j x c hx hcc => ?_⟩
  ·have hjl : j < ys.length := by have := (List.getElem?_eq_some_iff.1 hj).1; rwa [chunks_length] at this
   have hpe := chunks_get hj
   have hq := hR _ _ (hr.2 j _ (List.getElem?_eq_getElem hjl))
   rw [← hpe] at hq
   refine ⟨p, hq.1, ⟨rfl, hq⟩, fun i u hu => ?_⟩
   have hu2 : inner[j * sz + i]? = some u := by
    rw [hpe, List.getElem?_take] at hu
    split at hu
    ·rw [List.getElem?_drop] at hu
     exact hu
    ·cases hu
   exact hc _ u hu2
  ·rw [chunks_get hcc]
   exact hr.2 j x hx
end
end Kd
end Go.Proofs.YtnflnicdjioflaaGreatDoorW.PrintWords

namespace Go.Proofs.YtnflnicdjioflaaGreatDoorW.PrintMore
open Go.RowKit Go.Proofs.YtnflnicdjioflaaGreatDoorW.PrintWords
theorem max2_int (k k' : IntKind) (x y : Int) : Builtin.max2 (.int k x) (.int k' y) = pure (.int k (if x < y then y else x)) := by simp only [Builtin.max2, gt_iff_lt]
theorem min2_int (k k' : IntKind) (x y : Int) : Builtin.min2 (.int k x) (.int k' y) = pure (.int k (if y < x then y else x)) := by simp only [Builtin.min2]
theorem max_two (ats : Array TypeId) (ty : TypeId) (a b : Value) : Builtin.max_ ats ty #[a, b] = (Builtin.max2 a b >>= fun s => pure s) := by simp only [Builtin.max_, List.foldlM_cons, List.foldlM_nil]
theorem min_two (ats : Array TypeId) (ty : TypeId) (a b : Value) : Builtin.min_ ats ty #[a, b] = (Builtin.min2 a b >>= fun s => pure s) := by simp only [Builtin.min_, List.foldlM_cons, List.foldlM_nil]
theorem max_three (ats : Array TypeId) (ty : TypeId) (a b c : Value) : Builtin.max_ ats ty #[a, b, c] = (Builtin.max2 a b >>= fun s => Builtin.max2 s c >>= fun s => pure s) := by simp only [Builtin.max_, List.foldlM_cons, List.foldlM_nil]
theorem min_three (ats : Array TypeId) (ty : TypeId) (a b c : Value) : Builtin.min_ ats ty #[a, b, c] = (Builtin.min2 a b >>= fun s => Builtin.min2 s c >>= fun s => pure s) := by simp only [Builtin.min_, List.foldlM_cons, List.foldlM_nil]
end Go.Proofs.YtnflnicdjioflaaGreatDoorW.PrintMore
namespace Go.Proofs.YtnflnicdjioflaaGreatDoorW.PrintWords
open Go.RowKit
namespace Kd
section
variable {α : Type} {d : Kd α} {e base b b' g N : Nat} {ok ok1 : Nat → Prop} {W W2 w1 : World} {u v : Value} {xs ys : List α} {S : Nat → Prop}
theorem own_raise {n size : Nat} {cs : List Value} (h : W.ownsRow b e size v n cs) (hb : ∀ k, v.ownBlock = some k → b' ≤ k) : W.ownsRow b' e size v n cs := by
 obtain ⟨h1, h2⟩ := h
 refine ⟨h1, ?_⟩
 rcases h2 with h2 | ⟨g, cap, cur, rfl, _, r⟩
 ·exact .inl h2
 ·exact .inr ⟨g, cap, cur, rfl, hb g (by simp [Value.ownBlock]), r⟩
end
end Kd
end Go.Proofs.YtnflnicdjioflaaGreatDoorW.PrintWords
namespace Go.Proofs.YtnflnicdjioflaaGreatDoorW.PrintWords
open Go.RowKit
namespace Kd
def V {α : Type} (d : Kd α) (_e : Nat) (W : World) (_base : Nat) (ok : Nat → Prop) (v : Value) (xs : List α) : Prop := ∃ A c, v = .slice A xs.length c ∧ xs.length ≤ c ∧ F d W ok A xs.length xs
end Kd
end Go.Proofs.YtnflnicdjioflaaGreatDoorW.PrintWords

namespace Go.Proofs.YtnflnicdjioflaaGreatDoor.Tk
open Go.RowKit Go.Proofs.YtnflnicdjioflaaGreatDoorW.PrintWords Go.Proofs.YtnflnicdjioflaaGreatDoorW.PrintLast Go.Proofs.YtnflnicdjioflaaGreatDoorW.PrintMore
theorem z1 {α : Type} (l : List α) (i : Nat) (v : α) : l.toArray.setIfInBounds i v = (l.set i v).toArray := by simp
theorem z2 {α : Type} {l : List α} {i : Nat} (h : i < l.toArray.size) : l.toArray[i] = l[i]'(by simpa using h) := rfl
theorem z3 {α : Type} {a : α} {l : List α} (h : 0 < (a :: l).length) : (a :: l)[0] = a := rfl
theorem z4 {α : Type} {a : α} {l : List α} {i : Nat} (h : i + 1 < (a :: l).length) : (a :: l)[i + 1] = l[i]'(Nat.lt_of_succ_lt_succ h) := rfl
theorem z5 {α : Type} {a b : α} {l : List α} : (a :: l).set 0 b = b :: l := rfl
theorem z6 {α : Type} {a b : α} {l : List α} {i : Nat} : (a :: l).set (i + 1) b = a :: l.set i b := rfl
variable {P : Program} {md : Region.Mode} {ops : Array Oper} {Q : Exit → Act → World → Prop} {S : World → Prop} {ds : List Nat} {oi : Oper} {fuel : Nat} {listed l' : Array Bool} {a a' : Act} {w : World}
theorem tk (i : Nat) (v : Value) (hS : S w) (h : wpAnyH P md ops Q S fuel l' a' w) (hi : ops[i]? = some oi := by rfl)
  (hs : Region.noSelect ops = true := by kernel_rfl) (hf : Region.free md ops listed i = true := by kernel_rfl) (hr : (Region.ready md ops listed).contains i = true := by kernel_rfl) (hQ : ∀ c a w, Q (.panic c) (a.put oi.dst v) w → Q (.panic c) a w := by exact fun _ _ _ h => h)
  (hy : YieldsIf P ops S oi v a := by exact Or.inl ⟨by rfl, fun wS hS => by (try dsimp only at hS); go_simp⟩)
  (ha : a.put oi.dst v = a' := by (try simp only [Act.put, List.setIfInBounds_toArray, List.getElem_toArray, List.getElem_cons_zero, List.getElem_cons_succ, List.set_cons_zero, List.set_cons_succ]); (try rfl))
  (hl : listed.setIfInBounds i true = l' := by (try simp only [List.setIfInBounds_toArray, List.set_cons_zero, List.set_cons_succ]); (try rfl)) : wpAnyH P md ops Q S (fuel + 1) listed a w := by
 subst ha hl
 exact wpAnyH_take hi hs hf hr hQ hy hS h
theorem tl (i : Nat) (v : Value) (hS : S w) (h : wpAnyLast P md ops Q S ds fuel l' a' w) (hi : ops[i]? = some oi := by rfl)
  (hs : Region.noSelect ops = true := by kernel_rfl) (hf : Region.free md ops listed i = true := by kernel_rfl) (hr : (Region.ready md ops listed).contains i = true := by kernel_rfl) (hc : Region.closedB md ops listed = true := by kernel_rfl) (hl : Region.lastB md ops listed ds i = true := by kernel_rfl)
  (hQ : ∀ c a w, Q (.panic c) (a.put oi.dst v) w → Q (.panic c) a w := by exact fun _ _ _ h => h) (hy : YieldsIf P ops S oi v a := by exact Or.inl ⟨by rfl, fun wS hS => by (try dsimp only at hS); go_simp⟩)
  (ha : a.put oi.dst v = a' := by (try simp only [Act.put, List.setIfInBounds_toArray, List.getElem_toArray, List.getElem_cons_zero, List.getElem_cons_succ, List.set_cons_zero, List.set_cons_succ]); (try rfl))
  (hl' : listed.setIfInBounds i true = l' := by (try simp only [List.setIfInBounds_toArray, List.set_cons_zero, List.set_cons_succ]); (try rfl)) : wpAnyLast P md ops Q S ds (fuel + 1) listed a w := by
 subst ha hl'
 exact wpAnyLast_take hi hs hf hr hc hl hQ hy hS h
theorem tz (i : Nat) (hS : S w) (h : wpAnyH P md ops Q S fuel l' a' w) (hi : ops[i]? = some oi := by rfl)
  (hs : Region.noSelect ops = true := by kernel_rfl) (hf : Region.free md ops listed i = true := by kernel_rfl) (hr : (Region.ready md ops listed).contains i = true := by kernel_rfl) (hQ : ∀ c a w, Q (.panic c) (a.put oi.dst undef) w → Q (.panic c) a w := by exact fun _ _ _ h => h)
  (hy : YieldsIf P ops S oi undef a := by exact Or.inr ⟨by rfl, rfl⟩)
  (ha : a.put oi.dst undef = a' := by (try simp only [Act.put, List.setIfInBounds_toArray, List.getElem_toArray, List.getElem_cons_zero, List.getElem_cons_succ, List.set_cons_zero, List.set_cons_succ]); (try rfl))
  (hl : listed.setIfInBounds i true = l' := by (try simp only [List.setIfInBounds_toArray, List.set_cons_zero, List.set_cons_succ]); (try rfl)) : wpAnyH P md ops Q S (fuel + 1) listed a w := by
 subst ha hl
 exact wpAnyH_take hi hs hf hr hQ hy hS h
end Go.Proofs.YtnflnicdjioflaaGreatDoor.Tk

namespace Go.Proofs.YtnflnicdjioflaaGreatDoor.Q15
def powTab : List Int := [
 0, 16, 40, 69, 101, 136, 174, 214, 256, 299, 344, 391, 439, 489, 539, 591, 645, 699, 754, 811, 868, 926, 986, 1046, 1107, 1169, 1232, 1296, 1360, 1425, 1491, 1558,
 1625, 1693, 1762, 1831, 1901, 1972, 2044, 2116, 2188, 2262, 2335, 2410, 2485, 2560, 2637, 2713, 2791, 2868, 2947, 3026, 3105, 3185, 3265, 3346, 3427, 3509, 3592, 3674, 3758, 3842, 3926, 4010,
 4096, 4181, 4267, 4353, 4440, 4528, 4615, 4703, 4792, 4881, 4970, 5060, 5150, 5241, 5332, 5423, 5515, 5607, 5699, 5792, 5886, 5979, 6073, 6168, 6262, 6357, 6453, 6549, 6645, 6741, 6838, 6935,
 7033, 7130, 7229, 7327, 7426, 7525, 7625, 7725, 7825, 7925, 8026, 8127, 8229, 8330, 8432, 8535, 8637, 8740, 8844, 8947, 9051, 9155, 9260, 9365, 9470, 9575, 9681, 9787, 9893, 10000, 10106, 10213,
 10321, 10428, 10536, 10645, 10753, 10862, 10971, 11080, 11190, 11300, 11410, 11520, 11631, 11742, 11853, 11964, 12076, 12188, 12300, 12412, 12525, 12638, 12751, 12865, 12979, 13093, 13207, 13321, 13436, 13551, 13666, 13782,
 13897, 14013, 14129, 14246, 14362, 14479, 14597, 14714, 14831, 14949, 15067, 15186, 15304, 15423, 15542, 15661, 15781, 15900, 16020, 16140, 16261, 16381, 16502, 16623, 16744, 16866, 16987, 17109, 17231, 17354, 17476, 17599,
 17722, 17845, 17968, 18092, 18216, 18340, 18464, 18589, 18713, 18838, 18963, 19088, 19214, 19340, 19465, 19592, 19718, 19844, 19971, 20098, 20225, 20352, 20480, 20608, 20736, 20864, 20992, 21120, 21249, 21378, 21507, 21636,
 21766, 21895, 22025, 22155, 22286, 22416, 22547, 22677, 22808, 22940, 23071, 23202, 23334, 23466, 23598, 23731, 23863, 23996, 24129, 24262, 24395, 24528, 24662, 24796, 24929, 25064, 25198, 25332, 25467, 25602, 25737, 25872,
 26007, 26143, 26279, 26415, 26551, 26687, 26823, 26960, 27097, 27234, 27371, 27508, 27646, 27783, 27921, 28059, 28197, 28335, 28474, 28613, 28751, 28890, 29029, 29169, 29308, 29448, 29588, 29728, 29868, 30008, 30149, 30289,
 30430, 30571, 30712, 30853, 30995, 31137, 31278, 31420, 31562, 31705, 31847, 31990, 32132, 32275, 32418, 32561, 32705, 32848, 32992, 33136, 33280, 33424, 33568, 33713, 33857, 34002, 34147, 34292, 34437, 34583, 34728, 34874,
 35020, 35166, 35312, 35458, 35605, 35751, 35898, 36045, 36192, 36339, 36487, 36634, 36782, 36929, 37077, 37226, 37374, 37522, 37671, 37819, 37968, 38117, 38266, 38416, 38565, 38714, 38864, 39014, 39164, 39314, 39464, 39615,
 39765, 39916, 40067, 40218, 40369, 40520, 40672, 40823, 40975, 41127, 41279, 41431, 41583, 41735, 41888, 42041, 42193, 42346, 42500, 42653, 42806, 42960, 43113, 43267, 43421, 43575, 43729, 43883, 44038, 44192, 44347, 44502,
 44657, 44812, 44967, 45123, 45278, 45434, 45590, 45746, 45902, 46058, 46214, 46371, 46527, 46684, 46841, 46998, 47155, 47312, 47470, 47627, 47785, 47943, 48101, 48259, 48417, 48575, 48733, 48892, 49051, 49210, 49368, 49527,
 49687, 49846, 50005, 50165, 50325, 50485, 50645, 50805, 50965, 51125, 51286, 51446, 51607, 51768, 51929, 52090, 52251, 52412, 52574, 52735, 52897, 53059, 53221, 53383, 53545, 53707, 53870, 54032, 54195, 54358, 54521, 54684,
 54847, 55010, 55174, 55337, 55501, 55665, 55829, 55993, 56157, 56321, 56485, 56650, 56815, 56979, 57144, 57309, 57474, 57639, 57805, 57970, 58136, 58302, 58467, 58633, 58799, 58965, 59132, 59298, 59465, 59631, 59798, 59965,
 60132, 60299, 60466, 60633, 60801, 60968, 61136, 61304, 61472, 61640, 61808, 61976, 62145, 62313, 62482, 62650, 62819, 62988, 63157, 63326, 63496, 63665, 63834, 64004, 64174, 64344, 64514, 64684, 64854, 65024, 65194, 65365,
 65536, 65706, 65877, 66048, 66219, 66390, 66561, 66733, 66904, 67076, 67248, 67420, 67591, 67764, 67936, 68108, 68280, 68453, 68625, 68798, 68971, 69144, 69317, 69490, 69663, 69837, 70010, 70184, 70357, 70531, 70705, 70879,
 71053, 71227, 71401, 71576, 71750, 71925, 72100, 72275, 72450, 72625, 72800, 72975, 73150, 73326, 73501, 73677, 73853, 74029, 74205, 74381, 74557, 74733, 74910, 75086, 75263, 75440, 75617, 75793, 75971, 76148, 76325, 76502,
 76680, 76857, 77035, 77213, 77391, 77568, 77747, 77925, 78103, 78281, 78460, 78638, 78817, 78996, 79175, 79354, 79533, 79712, 79891, 80071, 80250, 80430, 80609, 80789, 80969, 81149, 81329, 81509, 81690, 81870, 82050, 82231,
 82412, 82592, 82773, 82954, 83135, 83317, 83498, 83679, 83861, 84042, 84224, 84406, 84588, 84769, 84952, 85134, 85316, 85498, 85681, 85863, 86046, 86229, 86411, 86594, 86777, 86961, 87144, 87327, 87511, 87694, 87878, 88061,
 88245, 88429, 88613, 88797, 88981, 89166, 89350, 89534, 89719, 89904, 90088, 90273, 90458, 90643, 90828, 91014, 91199, 91384, 91570, 91755, 91941, 92127, 92313, 92499, 92685, 92871, 93057, 93244, 93430, 93617, 93803, 93990,
 94177, 94364, 94551, 94738, 94925, 95112, 95300, 95487, 95675, 95862, 96050, 96238, 96426, 96614, 96802, 96990, 97178, 97367, 97555, 97744, 97932, 98121, 98310, 98499, 98688, 98877, 99066, 99255, 99445, 99634, 99824, 100013,
 100203, 100393, 100583, 100773, 100963, 101153, 101343, 101534, 101724, 101915, 102105, 102296, 102487, 102678, 102869, 103060, 103251, 103442, 103634, 103825, 104017, 104208, 104400, 104592, 104784, 104976, 105168, 105360, 105552, 105744, 105937, 106129,
 106322, 106514, 106707, 106900, 107093, 107286, 107479, 107672, 107865, 108059, 108252, 108446, 108639, 108833, 109027, 109221, 109415, 109609, 109803, 109997, 110191, 110386, 110580, 110775, 110969, 111164, 111359, 111554, 111749, 111944, 112139, 112334,
 112529, 112725, 112920, 113116, 113312, 113507, 113703, 113899, 114095, 114291, 114487, 114684, 114880, 115076, 115273, 115469, 115666, 115863, 116060, 116257, 116454, 116651, 116848, 117045, 117242, 117440, 117637, 117835, 118033, 118230, 118428, 118626,
 118824, 119022, 119220, 119419, 119617, 119815, 120014, 120212, 120411, 120610, 120809, 121008, 121207, 121406, 121605, 121804, 122003, 122203, 122402, 122602, 122801, 123001, 123201, 123401, 123601, 123801, 124001, 124201, 124401, 124602, 124802, 125003,
 125203, 125404, 125605, 125806, 126007, 126208, 126409, 126610, 126811, 127012, 127214, 127415, 127617, 127819, 128020, 128222, 128424, 128626, 128828, 129030, 129232, 129435, 129637, 129839, 130042, 130245, 130447, 130650, 130853, 131056, 131259, 131462,
 131665, 131868, 132071, 132275, 132478, 132682, 132885, 133089, 133293, 133497, 133701, 133905, 134109, 134313, 134517, 134721, 134926, 135130, 135335, 135540, 135744, 135949, 136154, 136359, 136564, 136769, 136974, 137179, 137385, 137590, 137796, 138001,
 138207, 138412, 138618, 138824, 139030, 139236, 139442, 139648, 139854, 140061, 140267, 140474, 140680, 140887, 141093, 141300, 141507, 141714, 141921, 142128, 142335, 142542, 142750, 142957, 143165, 143372, 143580, 143787, 143995, 144203, 144411, 144619,
 144827, 145035, 145243, 145451, 145660, 145868, 146077, 146285, 146494, 146703, 146911, 147120, 147329, 147538, 147747, 147957, 148166, 148375, 148584, 148794, 149003, 149213, 149423, 149632, 149842, 150052, 150262, 150472, 150682, 150893, 151103, 151313,
 151524, 151734, 151945, 152155, 152366, 152577, 152788, 152999, 153210, 153421, 153632, 153843, 154054, 154266, 154477, 154689, 154900, 155112, 155323, 155535, 155747, 155959, 156171, 156383, 156595, 156808, 157020, 157232, 157445, 157657, 157870, 158082,
 158295, 158508, 158721, 158934, 159147, 159360, 159573, 159786, 160000, 160213, 160426, 160640, 160853, 161067, 161281, 161495, 161708, 161922, 162136, 162350, 162565, 162779, 162993, 163207, 163422, 163636, 163851, 164066, 164280, 164495, 164710, 164925]
end Go.Proofs.YtnflnicdjioflaaGreatDoor.Q15

namespace Go.Proofs.YtnflnicdjioflaaGreatDoor.Q15
def P (q : Int) : Int := powTab.getD q.toNat 0
def stepI (s : Int) : Int := ([4096, 4871, 5793, 6889] : List Int).getD (s % 4).toNat 0 * 2 ^ (s / 4).toNat / 256
def V (x q : Int) : Int := min ((2 * P q * x + 256) / 512) 2097152
def IsFirst (p : Int → Bool) (lo hi r : Int) : Prop := lo ≤ r ∧ r ≤ hi ∧ (r = lo ∨ p (r - 1) = false) ∧ (r = hi ∨ p r = true)
def fst (p : Int → Bool) (lo hi : Int) : Int := lo + ((List.range (hi - lo).toNat).findIdx fun k => p (lo + (k : Nat)))
def absI (n : Int) : Int := max n (-n)
def qn (x c : Int) : Int :=
 let q := fst (fun k => decide (V x k ≥ c)) 0 1023
 if q = 0 then 0 else if absI (V x (q - 1) - c) ≤ absI (V x q - c) then fst (fun k => decide (V x k ≥ V x (q - 1))) 0 (q - 1) else q
def sg (n r : Int) : Int := if n < 0 then -r else r
theorem powTab_len : powTab.length = 1024 := by decide +kernel
theorem powTab_mono : powTab.Pairwise (· ≤ ·) := by
 have h : ((powTab.zip powTab.tail).all fun x => decide (x.1 ≤ x.2)) = true := by decide +kernel
 have gen : ∀ l : List Int, ((l.zip l.tail).all fun x => decide (x.1 ≤ x.2)) = true → l.Pairwise (· ≤ ·) := by
  intro l
  induction l with
  | nil => intro _; exact .nil
  | cons a t ih =>
   intro h
   cases t with
   | nil => exact .cons (by simp) .nil
   | cons b t =>
    simp only [List.tail_cons, List.zip_cons_cons, List.all_cons, Bool.and_eq_true, decide_eq_true_eq] at h
    have h2 := ih h.2
    refine .cons (fun x hx => ?_) h2
    rcases List.mem_cons.1 hx with rfl | hx
    ·exact h.1
    ·exact Int.le_trans h.1 (List.rel_of_pairwise_cons h2 hx)
 exact gen _ h
theorem powTab_all : powTab.all (fun x => decide (0 ≤ x ∧ x ≤ 164925)) = true := by decide +kernel
theorem P_bd (q : Int) : 0 ≤ P q ∧ P q ≤ 164925 := by
 unfold P
 rw [List.getD_eq_getElem?_getD]
 cases h : powTab[q.toNat]? with
 | none => simp
 | some x =>
  have := List.all_eq_true.1 powTab_all x (List.mem_of_getElem? h)
  simpa using this
theorem P_mono {a b : Int} (h0 : 0 ≤ a) (h : a ≤ b) (h1 : b ≤ 1023) : P a ≤ P b := by
 unfold P
 have hl := powTab_len
 rcases Int.lt_or_eq_of_le h with h | rfl
 ·rw [List.getD_eq_getElem?_getD, List.getD_eq_getElem?_getD, List.getElem?_eq_getElem (by omega), List.getElem?_eq_getElem (by omega)]
  exact (List.pairwise_iff_getElem.1 powTab_mono) _ _ _ _ (by omega)
 ·exact Int.le_refl _
theorem mul_bd {a b A B : Int} (h0 : 0 ≤ a) (h1 : a ≤ A) (g0 : 0 ≤ b) (g1 : b ≤ B) : 0 ≤ a * b ∧ a * b ≤ A * B :=
 ⟨Int.mul_nonneg h0 g0, Int.le_trans (Int.mul_le_mul_of_nonneg_right h1 g0) (Int.mul_le_mul_of_nonneg_left g1 (by omega))⟩
theorem stepI_all : ((List.range 96).all fun k => decide (16 ≤ stepI (k : Nat) ∧ stepI (k : Nat) ≤ 268435456)) = true := by decide +kernel
theorem stepI_bd {s : Int} (h0 : 0 ≤ s) (h1 : s ≤ 95) : 16 ≤ stepI s ∧ stepI s ≤ 268435456 := by
 have h := List.all_eq_true.1 stepI_all s.toNat (by simp; omega)
 simp only [decide_eq_true_eq] at h
 rwa [Int.toNat_of_nonneg h0] at h
theorem V_bd {x : Int} (q : Int) (h0 : 0 ≤ x) : 0 ≤ V x q ∧ V x q ≤ 2097152 := by
 unfold V
 have := Int.mul_nonneg (a := 2 * P q) (b := x) (by have := P_bd q; omega) h0
 omega
theorem V_mono {x a b : Int} (hx : 0 ≤ x) (h0 : 0 ≤ a) (h : a ≤ b) (h1 : b ≤ 1023) : V x a ≤ V x b := by
 unfold V
 have := Int.mul_le_mul_of_nonneg_right (c := x) (show 2 * P a ≤ 2 * P b by have := P_mono h0 h h1; omega) hx
 omega
theorem fst_bd (p : Int → Bool) {lo hi : Int} (h : lo ≤ hi) : lo ≤ fst p lo hi ∧ fst p lo hi ≤ hi := by
 unfold fst
 have := List.findIdx_le_length (p := fun k : Nat => p (lo + k)) (xs := List.range (hi - lo).toNat)
 simp at this
 omega
theorem fst_at (p : Int → Bool) {lo hi : Int} (h : fst p lo hi < hi) : p (fst p lo hi) = true := by
 have hl : (List.range (hi - lo).toNat).findIdx (fun k : Nat => p (lo + k)) < (List.range (hi - lo).toNat).length := by
  unfold fst at h
  simp
  omega
 have := List.findIdx_getElem (w := hl)
 simpa [fst] using this
theorem fst_before (p : Int → Bool) {lo hi x : Int} (h0 : lo ≤ x) (h : x < fst p lo hi) (hh : lo ≤ hi) : p x = false := by
 have hb := (fst_bd p hh).2
 have hx : (x - lo).toNat < (List.range (hi - lo).toNat).findIdx (fun k : Nat => p (lo + k)) := by
  unfold fst at h
  omega
 have := List.not_of_lt_findIdx hx
 simp only [List.getElem_range] at this
 rw [show lo + ((x - lo).toNat : Int) = x by omega] at this
 exact Bool.eq_false_iff.2 (by simpa using this)
theorem IsFirst.eq {p : Int → Bool} {lo hi r : Int} (h : IsFirst p lo hi r) (hm : ∀ a b, lo ≤ a → a ≤ b → b < hi → p a = true → p b = true) : r = fst p lo hi := by
 obtain ⟨h0, h1, h2, h3⟩ := h
 have hb := fst_bd p (Int.le_trans h0 h1)
 rcases Int.lt_trichotomy r (fst p lo hi) with h | h | h
 ·have h4 := fst_before p h0 h (Int.le_trans h0 h1)
  rcases h3 with h3 | h3
  ·omega
  ·rw [h3] at h4; cases h4
 ·exact h
 ·have h4 := fst_at p (lo := lo) (hi := hi) (by omega)
  have h5 := hm _ (r - 1) hb.1 (by omega) (by omega) h4
  rcases h2 with h2 | h2
  ·omega
  ·rw [h5] at h2; cases h2
def isS (n : Int) : Bool := decide (0 ≤ n ∧ n ≤ 95)
def isC (n : Int) : Bool := decide (-2097152 ≤ n ∧ n ≤ 2097152)
def chk (p : Int → Bool) (l : List Int) (s : Int) : Int := if isS s then if l.length ≤ 128 then if l.all p then 0 else 6 else 2 else 1
def peakI (l : List Int) : Int := l.foldl (fun a n => max (max a n) (-n)) 0
end Go.Proofs.YtnflnicdjioflaaGreatDoor.Q15

namespace Go.Proofs.YtnflnicdjioflaaGreatDoor.Q15
open Go.RowKit Go.Proofs.YtnflnicdjioflaaGreatDoorW.PrintWords
theorem fill_row : ∀ (vals : List Value) (k : Nat) (cells : Array Value), (∀ v ∈ vals, v.cells = #[v]) → k + vals.length = cells.size →
    Instr.fill (fun i => some (i * 1, 1)) cells ((List.range' k vals.length).zip vals) = some (cells.toList.take k ++ vals).toArray
  | [], k, cells, _, hk => by
    simp at hk
    simp [Instr.fill, List.take_of_length_le (show cells.toList.length ≤ k by simp [hk])]
  | v :: vs, k, cells, h1, hk => by
    have hv := h1 v (by simp)
    have hlt : k < cells.size := by simp at hk; omega
    simp only [List.length_cons, List.range'_succ, List.zip_cons_cons, Instr.fill, Nat.mul_one, hv]
    rw [if_neg (by simp; omega)]
    have e : (#[v].zipIdx.foldl (fun cs (c, j) => cs.setIfInBounds (k + j) c) cells) = cells.setIfInBounds k v := by simp
    rw [show (Array.foldl (fun cs (x : Value × Nat) => match x with | (c, j) => cs.setIfInBounds (k + j) c) cells #[v].zipIdx) = cells.setIfInBounds k v from by simp]
    have ih := fill_row vs (k + 1) (cells.setIfInBounds k v) (fun u hu => h1 u (by simp [hu])) (by simp at hk ⊢; omega)
    simp only [Nat.mul_one] at ih
    rw [ih]
    congr 2
    apply List.ext_getElem?
    intro i
    simp only [Array.toList_setIfInBounds, List.getElem?_append, List.length_take, List.length_set, Array.length_toList]
    by_cases hi : i < k
    · simp [hi, show i < k + 1 by omega, show min (k + 1) cells.size = k + 1 by omega, show min k cells.size = k by omega, show k ≠ i by omega]
    · by_cases hi2 : i = k
      · subst hi2
        simp [show min (i + 1) cells.size = i + 1 by omega, show min i cells.size = i by omega]
      · have e2 : i - k = (i - (k + 1)) + 1 := by omega
        simp [hi, show ¬ i < k + 1 by omega, show min (k + 1) cells.size = k + 1 by omega, show min k cells.size = k by omega, e2]
def POW : Array Value := (powTab.map (Value.int .i64)).toArray
theorem powers_form : ∃ parts : Array (Nat × Operand), Tryz.f205 =
{ name := "shawm/quant.powers", origin := "", params := #[], resultTypes := #[209], nfree := 0, ntmps := 2,
  results := #[Go.ResultVar.cell 0 209],
  body :=
    some
      ((Go.Code.region 0
            #[{ dst := some 0, op := Go.Op.alloc 209, type := 0, pos := "powers.go:6", after := #[], guard := none }]
            false).seq
        ((Go.Code.region 1
              #[{ dst := some 1,
                  op :=
                    Go.Op.build 209 parts,
                  type := 209, pos := "powers.go:7", after := #[], guard := none },
                { dst := none, op := Go.Op.store 209 (Go.Operand.tmp 0) (Go.Operand.tmp 1), type := 0,
                  pos := "powers.go:7",
                  after := #[{ on := 0, ground := Go.Ground.data }, { on := 0, ground := Go.Ground.phase }],
                  guard := none }]
              false).seq
          Go.Code.ret)),
  norace := false, file := "shawm/quant/powers.go", endLine := 73, tmpNames := #["", ""] }
   ∧ ∀ a : Act, parts.toList.map (fun (i, x) => (i, a.eval x)) = (List.range' 0 1024).zip (powTab.map (Value.int .i64)) := ⟨_, rfl, fun _ => by kernel_rfl⟩
theorem powers_size : POW.size = 1024 := by simp [POW]; decide +kernel
theorem powers_built (parts : Array (Nat × Operand)) (a : Act) (h : parts.toList.map (fun (i, x) => (i, a.eval x)) = (List.range' 0 1024).zip (powTab.map (Value.int .i64))) :
    Tryz.prog.built 209 (parts.map fun (i, x) => (i, a.eval x)).toList = some POW := by
  rw [Array.toList_map, h]
  have hf := fill_row (powTab.map (Value.int .i64)) 0 (Array.replicate 1024 (.int .i64 0)) (by intro v hv; simp at hv; obtain ⟨x, _, rfl⟩ := hv; rfl) (by simp; decide +kernel)
  have hl : (powTab.map (Value.int .i64)).length = 1024 := by simp; decide +kernel
  rw [hl] at hf
  have e : Tryz.prog.built 209 ((List.range' 0 1024).zip (powTab.map (Value.int .i64))) = Instr.fill (fun i => some (i * 1, 1)) (Array.replicate 1024 (.int .i64 0)) ((List.range' 0 1024).zip (powTab.map (Value.int .i64))) := by
    generalize (List.range' 0 1024).zip (powTab.map (Value.int .i64)) = l
    kernel_rfl
  rw [e, hf]
  simp [POW]
theorem wpList_value {P : Program} {ops : Array Oper} {rest : List Oper} {o : Oper} {a : Act} {w w' : World} {v : Value} {Q : Exit → Act → World → Prop} (hgd : o.guard = none)
    (hr : (execOp a.eval o).run P w = .ok (.value v) w') (h : wpList P ops Q rest (a.put o.dst v) w') : wpList P ops Q (o :: rest) a w :=
  wpList_plain hgd fun _ hK => by
    unfold Oper.wp
    rw [hr]
    exact hK _ _ h
def ZER : Array Value := Array.replicate 1024 (.int .i64 0)
theorem run_allocTab (ρ : Operand → Value) (o : Oper) (ho : o.op = .alloc 209) (w : World) :
    (execOp ρ o).run Tryz.prog w = .ok (.value (.pointer (some ⟨w.heap.size, 0, none⟩))) (w.alloc (.cells ZER 209)) := by
  obtain ⟨d, op, ty, pos, af, gu⟩ := o
  subst ho
  kernel_rfl
theorem tab_size : (Tryz.prog.info? 209).map (·.size) = some POW.size := by rw [powers_size]; kernel_rfl
theorem zer_size : ZER.size = POW.size := by rw [powers_size]; simp [ZER]
theorem tab_one : POW.all (·.oneCell') = true := by
  rw [Array.all_eq_true_iff_forall_mem]
  intro v hv
  simp [POW] at hv
  obtain ⟨x, _, rfl⟩ := hv
  rfl
set_option maxHeartbeats 400000 in
theorem powers_calls (w : World) :
    Calls Tryz.prog 205 #[] w fun e w' => e = .returned (.agg POW) ∧ Below w.heap.size w w' := by
  obtain ⟨parts, hf, hp⟩ := powers_form
  have hfn : Tryz.prog.funcs[205]? = some _ := Tryz.func205.trans (congrArg some hf)
  refine calls_of_wp hfn rfl ?_
  clear hfn hf
  have HB : ∀ a : Act, Tryz.prog.built 209 (parts.map fun (i, x) => (i, a.eval x)).toList = some POW := fun a => powers_built parts a (hp a)
  have HB := Aside0.mk HB
  clear hp
  simp only [List.size_toArray, List.length_nil, Nat.reduceSub, Array.replicate_succ, Array.replicate_zero, List.push_toArray, List.append_toArray, List.nil_append, List.cons_append]
  go_wp2_with (first | (refine wpList_value rfl (run_allocTab _ _ rfl _) ?_) | (refine wpList_build rfl 209 parts rfl (by rw [HB.out]; rfl) ?_; rw [HB.out, Option.getD_some]) | (refine wpList_store_row rfl 209 (.tmp 0) (.tmp 1) rfl w.heap.size POW rfl rfl 209 ZER (heap_alloc_new _ _) tab_size zer_size tab_one ?_))
  refine bodyPost_ret (v := .agg POW) (results_cell_row rfl _ _ w.heap.size 209 POW (0, 0) (.array 1024 3) rfl (setRow_heap _ _ ZER _ _ _ (heap_alloc_new _ _)) (by kernel_rfl) rfl tab_size) rfl ⟨rfl, ?_⟩
  have h := (Below.refl w.heap.size w).alloc (Nat.le_refl _) (.cells ZER 209)
  exact h.trans ⟨rfl, rfl, rfl, by simp, fun k hk => setRow_other _ _ _ _ (by omega)⟩
end Go.Proofs.YtnflnicdjioflaaGreatDoor.Q15

namespace Go.Proofs.YtnflnicdjioflaaGreatDoor.Q15
open Go.RowKit Go.Proofs.YtnflnicdjioflaaGreatDoorW.PrintWords Go.Proofs.YtnflnicdjioflaaGreatDoorW.PrintLast Go.Proofs.YtnflnicdjioflaaGreatDoorW.PrintMore
attribute [local go_sem] max2_int min2_int max_two min_two max_three min_three
theorem ret_int {k : IntKind} {a b : Int} (h : a = b) : Ending.returned (.int k a) = .returned (.int k b) := by rw [h]
theorem pow_at (q : Int) (h0 : 0 ≤ q) (h1 : q ≤ 1023) : POW[q.toNat]? = some (.int .i64 (P q)) := by
 have hl := powTab_len
 unfold POW P
 rw [List.getElem?_toArray, List.getElem?_map, List.getElem?_eq_getElem (by omega), List.getD_eq_getElem?_getD, List.getElem?_eq_getElem (by omega)]
 rfl
set_option maxHeartbeats 400000 in
theorem step_calls (s : Int) (w : World) (h0 : 0 ≤ s) (h1 : s ≤ 95) :
  Calls Tryz.prog 159 #[.int .i64 s] w fun e w' => e = .returned (.tuple #[.int .i64 (stepI s), .int .i64 0]) ∧ Below w.heap.size w w' := by
 obtain ⟨c, hc⟩ : ∃ c, c = ([4096, 4871, 5793, 6889] : List Int).getD (s % 4).toNat 0 := ⟨_, rfl⟩
 have hq : ([.int .i64 4096, .int .i64 4871, .int .i64 5793, .int .i64 6889] : List Value)[(s % 4).toNat]? = some (.int .i64 c) := by
  rw [hc]
  have : s % 4 = 0 ∨ s % 4 = 1 ∨ s % 4 = 2 ∨ s % 4 = 3 := by omega
  rcases this with h | h | h | h <;> rw [h] <;> rfl
 have h2 : (2 : Int) ^ (s / 4).toNat ≤ 2 ^ 23 := by
  have : (2 : Nat) ^ (s / 4).toNat ≤ 2 ^ 23 := Nat.pow_le_pow_right (by omega) (by omega)
  exact_mod_cast this
 have h3 : 0 ≤ c ∧ c ≤ 6889 := by
  rw [hc]
  have : s % 4 = 0 ∨ s % 4 = 1 ∨ s % 4 = 2 ∨ s % 4 = 3 := by omega
  rcases this with h | h | h | h <;> rw [h] <;> decide
 have h4 := mul_bd h3.1 h3.2 (Int.pow_nonneg (show (0 : Int) ≤ 2 by omega)) h2
 have HS : Aside0 (wrap64 (c * 2 ^ (s / 4).toNat) / 256 = stepI s) := ⟨by
  rw [show wrap64 (c * 2 ^ (s / 4).toNat) = c * 2 ^ (s / 4).toNat from by unfold wrap64; omega, hc]
  rfl⟩
 clear hc h2 h3 h4
 go_enter Tryz.func159, Tryz.ntmps159
 go_wp2
 go_ret2
 exact ⟨by rw [HS.out]; rfl, (Below.refl _ _).alloc (Nat.le_refl _) _⟩
theorem run_index_agg {P : Program} {T E len : Nat} {cs : Array Value} {q : Int} {v : Value} (hT : P.underlying T = some (.array len E)) (hs : (P.info? E).map (·.size) = some 1) (hE : P.plainKey E = true)
  (h0 : 0 ≤ q) (h1 : q < len) (hx : cs[q.toNat]? = some v) (w : World) : (Instr.index T (.agg cs) (.int .i64 q)).run P w = .ok v w := by
 cases hi : P.info? E with
 | none => simp [hi] at hs
 | some i =>
  have hz : i.size = 1 := by simpa [hi] using hs
  have hr := run_part_plain (P := P) (w := w) hE hx
  have hsz : (sizeOf E).run P w = .ok 1 w := by simp [sizeOf, typeInfo, hi, hz]
  simp [Instr.index, asIntOf, run_underlying hT, h0, h1, hsz, hr]
set_option maxHeartbeats 400000 in
theorem xvalue_calls (x q : Int) (w : World) (hx0 : 0 ≤ x) (hx1 : x ≤ 268435456) (h0 : 0 ≤ q) (h1 : q ≤ 1023) :
  Calls Tryz.prog 162 #[.int .i64 x, .int .i64 q] w fun e w' => e = .returned (.int .i64 (V x q)) ∧ Below w.heap.size w w' := by
 have hP := P_bd q
 have hm := mul_bd (show 0 ≤ 2 * P q by omega) (show 2 * P q ≤ 329850 by omega) hx0 hx1
 have hat := fun w => run_index_agg (P := Tryz.prog) (T := 209) (E := 3) (len := 1024) (by kernel_rfl) (by kernel_rfl) (by kernel_rfl) h0 (by omega) (pow_at q h0 h1) w
 go_enter Tryz.func162, Tryz.ntmps162
 go_wp2_with (go_at_call 205; refine (powers_calls _).mono ?_; rintro e w' ⟨rfl, hb⟩)
 all_goals
  go_ret
  exact ⟨ret_int (by unfold V; omega), hb⟩
set_option maxHeartbeats 400000 in
theorem isC_calls (n : Int) (w : World) : Calls Tryz.prog 101 #[.int .i64 n] w fun e w' => e = .returned (.bool (isC n)) ∧ Below w.heap.size w w' := by
 by_cases h1 : -2097152 ≤ n
 ·by_cases h2 : n ≤ 2097152
  ·rw [show isC n = true by unfold isC; simp [h1, h2]]
   go_enter Tryz.func101, Tryz.ntmps101
   go_wp2
   go_ret
   exact ⟨rfl, Below.refl _ _⟩
  ·rw [show isC n = false by unfold isC; simp [h2]]
   have h3 : decide (n ≤ 2097152) = false := by simpa using h2
   go_enter Tryz.func101, Tryz.ntmps101
   go_wp2
   go_ret
   exact ⟨rfl, Below.refl _ _⟩
 ·rw [show isC n = false by unfold isC; simp [h1]]
  have h3 : decide (-2097152 ≤ n) = false := by simpa using h1
  go_enter Tryz.func101, Tryz.ntmps101
  go_wp2
  go_ret
  exact ⟨rfl, Below.refl _ _⟩
set_option maxHeartbeats 400000 in
theorem isS_calls (n : Int) (w : World) : Calls Tryz.prog 157 #[.int .i64 n] w fun e w' => e = .returned (.bool (isS n)) ∧ Below w.heap.size w w' := by
 by_cases h1 : 0 ≤ n
 ·by_cases h2 : n ≤ 95
  ·rw [show isS n = true by unfold isS; simp [h1, h2]]
   go_enter Tryz.func157, Tryz.ntmps157
   go_wp2
   go_ret
   exact ⟨rfl, Below.refl _ _⟩
  ·rw [show isS n = false by unfold isS; simp [h2]]
   have h3 : decide (n ≤ 95) = false := by simpa using h2
   go_enter Tryz.func157, Tryz.ntmps157
   go_wp2
   go_ret
   exact ⟨rfl, Below.refl _ _⟩
 ·rw [show isS n = false by unfold isS; simp [h1]]
  have h3 : decide (0 ≤ n) = false := by simpa using h1
  go_enter Tryz.func157, Tryz.ntmps157
  go_wp2
  go_ret
  exact ⟨rfl, Below.refl _ _⟩
theorem isC_bd {q : Int} (h : isC q = true) : -2097152 ≤ q ∧ q ≤ 2097152 := by simpa [isC] using h
theorem isS_bd {q : Int} (h : isS q = true) : 0 ≤ q ∧ q ≤ 95 := by simpa [isS] using h
set_option maxHeartbeats 400000 in
theorem with_calls (s : Int) (w : World) (h0 : 0 ≤ s) (h1 : s ≤ 95) :
  Calls Tryz.prog 102 #[.int .i64 s] w fun e w' => e = .returned (.int .i64 (stepI s)) ∧ Below w.heap.size w w' := by
 go_enter Tryz.func102, Tryz.ntmps102
 go_wp2_with (go_at_call 159; refine (step_calls _ _ h0 h1).mono ?_; rintro e w' ⟨rfl, hb⟩)
 go_ret
 exact ⟨rfl, hb⟩
def FnInt (g : Nat) (fs cs : Array Value) (w : World) (x r : Int) : Prop :=
 ∀ W, Below w.heap.size w W → Calls Tryz.prog g (fs ++ #[.int .i64 x] ++ cs) W fun e w' => e = .returned (.int .i64 r) ∧ Below W.heap.size W w'
def FnBool (g : Nat) (fs cs : Array Value) (w : World) (x : Int) (r : Bool) : Prop :=
 ∀ W, Below w.heap.size w W → Calls Tryz.prog g (fs ++ #[.int .i64 x] ++ cs) W fun e w' => e = .returned (.bool r) ∧ Below W.heap.size W w'
def Enters (g : Nat) : Prop := ∀ args w, (callFunc g args).run Tryz.prog w = .ok (.enter g args) w
set_option maxHeartbeats 400000 in
theorem signed_calls (g : Nat) (fs cs : Array Value) (n r : Int) (w : World) (eg : Enters g) (hn0 : -4611686018427387904 ≤ n) (hn1 : n ≤ 4611686018427387904) (hr0 : -4611686018427387904 ≤ r) (hr1 : r ≤ 4611686018427387904)
  (hf : FnInt g fs cs w (absI n) r) :
  Calls Tryz.prog 105 #[.int .i64 n, .func (.func g) fs cs] w fun e w' => e = .returned (.int .i64 (sg n r)) ∧ Below w.heap.size w w' := by
 have hc := hf w (Below.refl _ _)
 unfold Enters at eg
 by_cases hn : n < 0
 ·rw [show absI n = -n by unfold absI; omega] at hc
  have HC := Aside0.mk hc
  clear hc hf
  go_enter Tryz.func105, Tryz.ntmps105
  go_wp2_with (go_at_fn g; refine HC.out.mono ?_; rintro e w' ⟨rfl, hb⟩)
  go_ret
  exact ⟨ret_int (by unfold sg; rw [if_pos hn]), hb⟩
 ·rw [show absI n = n by unfold absI; omega] at hc
  have HC := Aside0.mk hc
  clear hc hf
  go_enter Tryz.func105, Tryz.ntmps105
  go_wp2_with (go_at_fn g; refine HC.out.mono ?_; rintro e w' ⟨rfl, hb⟩)
  go_ret
  exact ⟨ret_int (by unfold sg; rw [if_neg (by omega)]), hb⟩
end Go.Proofs.YtnflnicdjioflaaGreatDoor.Q15

namespace Go.Proofs.YtnflnicdjioflaaGreatDoor.Q15
open Go.RowKit Go.Proofs.YtnflnicdjioflaaGreatDoorW.PrintWords Go.Proofs.YtnflnicdjioflaaGreatDoorW.PrintLast Go.Proofs.YtnflnicdjioflaaGreatDoorW.PrintMore
attribute [local go_sem] max2_int min2_int max_two min_two max_three min_three
theorem bnx {w w1 w2 : World} (h : Below w.heap.size w w1) (h2 : Below w1.heap.size w1 w2) : Below w.heap.size w w2 := h.trans (h2.mono h.size)
theorem cnx {w w1 : World} {a : Addr} {v : Value} (h : w.cell? a = some v) (hb : Below w.heap.size w w1) : w1.cell? a = some v := (hb.cell (World.block_lt_of_cell? w _ h)).trans h
theorem FnInt.later {g : Nat} {fs cs : Array Value} {w W : World} {x r : Int} (h : FnInt g fs cs w x r) (hb : Below w.heap.size w W) : FnInt g fs cs W x r := fun W' hb' => h W' (hb.trans (hb'.mono hb.size))
theorem FnBool.later {g : Nat} {fs cs : Array Value} {w W : World} {x : Int} {r : Bool} (h : FnBool g fs cs w x r) (hb : Below w.heap.size w W) : FnBool g fs cs W x r := fun W' hb' => h W' (hb.trans (hb'.mono hb.size))
set_option maxHeartbeats 400000 in
theorem first_calls (g : Nat) (fs cs : Array Value) (p : Int → Bool) (lo hi : Int) (w : World) (eg : Enters g) (h0 : 0 ≤ lo) (h1 : lo ≤ hi) (h2 : hi ≤ 1099511627776)
  (hp : ∀ x, lo ≤ x → x < hi → FnBool g fs cs w x (p x)) (hm : ∀ a b, lo ≤ a → a ≤ b → b < hi → p a = true → p b = true) :
  Calls Tryz.prog 160 #[.int .i64 lo, .int .i64 hi, .func (.func g) fs cs] w fun e w' => e = .returned (.int .i64 (fst p lo hi)) ∧ Below w.heap.size w w' := by
 have HP := Aside0.mk hp
 have HM := Aside0.mk hm
 clear hp hm
 unfold Enters at eg
 go_enter Tryz.func160, Tryz.ntmps160
 go_wp2
 go_loopw [0, 1] (fun a b wr => ∃ l h : Int, a = .int .i64 l ∧ b = .int .i64 h ∧ lo ≤ l ∧ l ≤ h ∧ h ≤ hi ∧ Aside0 (l = lo ∨ p (l - 1) = false) ∧ Aside0 (h = hi ∨ p h = true) ∧ Below w.heap.size w wr) (fun a b _ => (intOf b - intOf a).toNat)
 case atStart => exact ⟨lo, hi, rfl, rfl, by omega, h1, by omega, ⟨.inl rfl⟩, ⟨.inl rfl⟩, Below.refl _ _⟩
 case round =>
  obtain ⟨l, h, rfl, rfl, a1, a2, a3, a4, a5, hb⟩ := hrel
  by_cases hlt : l < h
  ·have hmid : l ≤ (l + h) / 2 ∧ (l + h) / 2 < h := by omega
   have hc := HP.out ((l + h) / 2) (by omega) (by omega) wr hb
   cases hpm : p ((l + h) / 2) with
   | true =>
    rw [hpm] at hc
    have HC := Aside0.mk hc
    have hpm := Aside0.mk hpm
    clear hc
    go_wp2_with (go_at_fn g; refine HC.out.mono ?_; rintro e w' ⟨rfl, hb1⟩)
    go_roundw
    case rel => exact ⟨l, (l + h) / 2, rfl, rfl, a1, hmid.1, by omega, a4, ⟨.inr hpm.out⟩, hb.trans (hb1.mono hb.size)⟩
    case measure => simp [intOf]; omega
   | false =>
    rw [hpm] at hc
    have HC := Aside0.mk hc
    have hpm := Aside0.mk hpm
    clear hc
    go_wp2_with (go_at_fn g; refine HC.out.mono ?_; rintro e w' ⟨rfl, hb1⟩)
    go_roundw
    case rel => exact ⟨(l + h) / 2 + 1, h, rfl, rfl, by omega, by omega, a3, ⟨.inr (by rw [show (l + h) / 2 + 1 - 1 = (l + h) / 2 by omega]; exact hpm.out)⟩, a5, hb.trans (hb1.mono hb.size)⟩
    case measure => simp [intOf]; omega
  ·obtain rfl : l = h := by omega
   have e : l = fst p lo hi := IsFirst.eq ⟨a1, a3, a4.out, a5.out⟩ HM.out
   go_wp2
   go_ret
   exact ⟨rfl, hb⟩
set_option maxHeartbeats 400000 in
theorem q1_calls (B1 B2 : Nat) (x c q : Int) (w : World) (hc1 : w.cell? ⟨B1, 0, none⟩ = some (.int .i64 x)) (hc2 : w.cell? ⟨B2, 0, none⟩ = some (.int .i64 c)) (hx0 : 0 ≤ x) (hx1 : x ≤ 268435456) (h0 : 0 ≤ q) (h1 : q ≤ 1023) :
  Calls Tryz.prog 161 #[.int .i64 q, .pointer (some ⟨B1, 0, none⟩), .pointer (some ⟨B2, 0, none⟩)] w fun e w' => e = .returned (.bool (decide (V x q ≥ c))) ∧ Below w.heap.size w w' := by
 have l1 := World.block_lt_of_cell? w _ hc1
 have l2 := World.block_lt_of_cell? w _ hc2
 go_enter Tryz.func161, Tryz.ntmps161
 go_wp2_with fail
 go_region_held3 (fun w' => w'.cell? ⟨B1, 0, none⟩ = some (.int .i64 x) ∧ w'.cell? ⟨B2, 0, none⟩ = some (.int .i64 c) ∧ Below w.heap.size w w')
  (first | exact ⟨hc1, hc2, Below.refl _ _⟩ | exact ⟨hc1, hc2, (Below.refl _ _).drew⟩ | exact ⟨(hb.cell l1).trans hc1, (hb.cell l2).trans hc2, (Below.refl _ w).drew.trans hb⟩)
  (first | (go_at_call 162; refine (xvalue_calls x q _ hx0 hx1 h0 h1).mono ?_; rintro e w' ⟨rfl, hb⟩))
 go_wp2
 go_ret
 rename_i hh
 exact ⟨rfl, hh.2.2⟩
set_option maxHeartbeats 400000 in
theorem q3_calls (B1 B2 : Nat) (x c q : Int) (w : World) (hc1 : w.cell? ⟨B1, 0, none⟩ = some (.int .i64 x)) (hc2 : w.cell? ⟨B2, 0, none⟩ = some (.int .i64 c)) (hx0 : 0 ≤ x) (hx1 : x ≤ 268435456) (h0 : 0 ≤ q) (h1 : q ≤ 1023) :
  Calls Tryz.prog 164 #[.int .i64 q, .pointer (some ⟨B1, 0, none⟩), .pointer (some ⟨B2, 0, none⟩)] w fun e w' => e = .returned (.bool (decide (V x q ≥ c))) ∧ Below w.heap.size w w' := by
 have l1 := World.block_lt_of_cell? w _ hc1
 have l2 := World.block_lt_of_cell? w _ hc2
 go_enter Tryz.func164, Tryz.ntmps164
 go_wp2_with fail
 go_region_held3 (fun w' => w'.cell? ⟨B1, 0, none⟩ = some (.int .i64 x) ∧ w'.cell? ⟨B2, 0, none⟩ = some (.int .i64 c) ∧ Below w.heap.size w w')
  (first | exact ⟨hc1, hc2, Below.refl _ _⟩ | exact ⟨hc1, hc2, (Below.refl _ _).drew⟩ | exact ⟨(hb.cell l1).trans hc1, (hb.cell l2).trans hc2, (Below.refl _ w).drew.trans hb⟩)
  (first | (go_at_call 162; refine (xvalue_calls x q _ hx0 hx1 h0 h1).mono ?_; rintro e w' ⟨rfl, hb⟩))
 go_wp2
 go_ret
 rename_i hh
 exact ⟨rfl, hh.2.2⟩
set_option maxHeartbeats 400000 in
theorem q2_calls (B1 B2 : Nat) (x c q : Int) (w : World) (hc1 : w.cell? ⟨B1, 0, none⟩ = some (.int .i64 x)) (hc2 : w.cell? ⟨B2, 0, none⟩ = some (.int .i64 c)) (hx0 : 0 ≤ x) (hx1 : x ≤ 268435456) (h0 : 0 ≤ q) (h1 : q ≤ 1023) (hc0 : 0 ≤ c) (hc9 : c ≤ 2097152) :
  Calls Tryz.prog 163 #[.int .i64 q, .pointer (some ⟨B1, 0, none⟩), .pointer (some ⟨B2, 0, none⟩)] w fun e w' => e = .returned (.int .i64 (absI (V x q - c))) ∧ Below w.heap.size w w' := by
 have l1 := World.block_lt_of_cell? w _ hc1
 have l2 := World.block_lt_of_cell? w _ hc2
 have hv := V_bd q hx0
 go_enter Tryz.func163, Tryz.ntmps163
 go_wp2_with fail
 go_region_held3 (fun w' => w'.cell? ⟨B1, 0, none⟩ = some (.int .i64 x) ∧ w'.cell? ⟨B2, 0, none⟩ = some (.int .i64 c) ∧ Below w.heap.size w w')
  (first | exact ⟨hc1, hc2, Below.refl _ _⟩ | exact ⟨hc1, hc2, (Below.refl _ _).drew⟩ | exact ⟨(hb.cell l1).trans hc1, (hb.cell l2).trans hc2, (Below.refl _ w).drew.trans hb⟩)
  (first | (go_at_call 162; refine (xvalue_calls x q _ hx0 hx1 h0 h1).mono ?_; rintro e w' ⟨rfl, hb⟩))
 rename_i hh
 obtain ⟨_, _, hh⟩ := hh
 go_wp2
 all_goals
  go_ret
  exact ⟨ret_int (by unfold absI; omega), hh⟩
end Go.Proofs.YtnflnicdjioflaaGreatDoor.Q15

namespace Go.Proofs.YtnflnicdjioflaaGreatDoor.Q15
theorem powTab_cubes : ((List.range 1024).all fun k => decide (P (k : Nat) * P (k : Nat) * P (k : Nat) ≤ 4096 * (k : Nat) * (k : Nat) * (k : Nat) * (k : Nat) ∧ 4096 * ((k : Nat) : Int) * (k : Nat) * (k : Nat) * (k : Nat) < (P (k : Nat) + 1) * (P (k : Nat) + 1) * (P (k : Nat) + 1))) = true := by decide +kernel
theorem cube_mono {a b : Int} (h0 : 0 ≤ a) (h : a ≤ b) : a * a * a ≤ b * b * b := (mul_bd (mul_bd h0 h h0 h).1 (mul_bd h0 h h0 h).2 h0 h).2
theorem cube_lt {a b : Int} (_h0 : 0 ≤ a) (hb : 0 ≤ b) (h : a * a * a < b * b * b) : a < b := by
 rcases Int.lt_or_le a b with h1 | h1
 ·exact h1
 ·have := cube_mono hb h1; omega
theorem cube_root {a b n : Int} (ha : 0 ≤ a) (hb : 0 ≤ b) (h1 : a * a * a ≤ n) (h2 : n < (a + 1) * (a + 1) * (a + 1)) (h3 : b * b * b ≤ n) (h4 : n < (b + 1) * (b + 1) * (b + 1)) : a = b := by
 have e1 := cube_lt ha (show 0 ≤ b + 1 by omega) (Int.lt_of_le_of_lt h1 h4)
 have e2 := cube_lt hb (show 0 ≤ a + 1 by omega) (Int.lt_of_le_of_lt h3 h2)
 omega
theorem P_cube {q : Int} (h0 : 0 ≤ q) (h1 : q ≤ 1023) : P q * P q * P q ≤ 4096 * q * q * q * q ∧ 4096 * q * q * q * q < (P q + 1) * (P q + 1) * (P q + 1) := by
 have h := List.all_eq_true.1 powTab_cubes q.toNat (by simp; omega)
 simp only [decide_eq_true_eq] at h
 rwa [Int.toNat_of_nonneg h0] at h
theorem q4_abs (q : Int) : 4096 * q * q * q * q = 4096 * absI q * absI q * absI q * absI q := by
 unfold absI
 rcases Int.le_total 0 q with h | h
 ·rw [show max q (-q) = q by omega]
 ·rw [show max q (-q) = -q by omega]
  simp only [Int.mul_neg, Int.neg_mul, Int.neg_neg]
def firstL (l : List Int) (v : Int) : Nat := l.findIdx fun x => decide (x ≥ v)
def upToL (l : List Int) (v : Int) : List Int := l.take (firstL l v + 1)
def tab (x : Int) : List Int := powTab.map fun p => min 2097152 ((2 * (p * x) + 256) / 512)
def nearL (l : List Int) (c : Int) : Int :=
 let at_ := firstL l c
 if at_ = l.length ∨ (at_ > 0 ∧ c - l.getD (at_ - 1) 0 ≤ l.getD at_ 0 - c) then (firstL l (l.getD (at_ - 1) 0) : Int) else at_
theorem tab_len (x : Int) : (tab x).length = 1024 := by unfold tab; rw [List.length_map]; exact powTab_len
theorem tab_at (x : Int) {k : Nat} (h : k < 1024) : (tab x)[k]'(by rw [tab_len]; exact h) = V x k := by
 have hl := powTab_len
 unfold tab V P
 rw [List.getElem_map, List.getD_eq_getElem?_getD, Int.toNat_natCast, List.getElem?_eq_getElem (by omega), Int.min_comm, Int.mul_assoc]
 rfl
end Go.Proofs.YtnflnicdjioflaaGreatDoor.Q15

namespace Go.Proofs.YtnflnicdjioflaaGreatDoor.Q15
theorem first_le (l : List Int) (v : Int) : firstL l v ≤ l.length := List.findIdx_le_length
theorem first_lt {l : List Int} {v : Int} {j : Nat} (h : j < firstL l v) : l.getD j 0 < v := by
 have hl := Nat.lt_of_lt_of_le h (first_le l v)
 have := List.not_of_lt_findIdx h
 rw [List.getD_eq_getElem?_getD, List.getElem?_eq_getElem hl]
 simpa using this
theorem first_ge {l : List Int} {v : Int} (h : firstL l v < l.length) : v ≤ l.getD (firstL l v) 0 := by
 have := List.findIdx_getElem (w := h)
 rw [List.getD_eq_getElem?_getD, List.getElem?_eq_getElem h]
 simpa [firstL] using this
theorem first_is {l : List Int} {v : Int} {j : Nat} (hj : j ≤ l.length) (h1 : ∀ i, i < j → l.getD i 0 < v) (h2 : j < l.length → v ≤ l.getD j 0) : firstL l v = j := by
 rcases Nat.lt_trichotomy (firstL l v) j with h | h | h
 ·have h3 := first_ge (l := l) (v := v) (by omega)
  have h4 := h1 _ h
  omega
 ·exact h
 ·have h3 := first_lt h
  have h4 := first_le l v
  have h5 := h2 (by omega)
  omega
theorem getD_take {l : List Int} {i n : Nat} (h : i < n) : (l.take n).getD i 0 = l.getD i 0 := by
 rw [List.getD_eq_getElem?_getD, List.getD_eq_getElem?_getD, List.getElem?_take_of_lt h]
theorem tab_getD (x : Int) {k : Nat} (h : k < 1024) : (tab x).getD k 0 = V x k := by
 rw [List.getD_eq_getElem?_getD, List.getElem?_eq_getElem (by rw [tab_len]; exact h), Option.getD_some, tab_at x h]
theorem up_len (x great : Int) : (upToL (tab x) great).length = min (firstL (tab x) great + 1) 1024 := by
 unfold upToL
 rw [List.length_take, tab_len]
theorem first_up (x great v : Int) (hv : v ≤ great) : firstL (upToL (tab x) great) v = if firstL (tab x) v < 1024 then firstL (tab x) v else (upToL (tab x) great).length := by
 have hl := tab_len x
 have hle : firstL (tab x) v ≤ firstL (tab x) great := by
  rcases Nat.lt_or_ge (firstL (tab x) great) (firstL (tab x) v) with h | h
  ·have h1 := first_lt h
   have h2 := first_ge (l := tab x) (v := great) (by have := first_le (tab x) v; omega)
   omega
  ·exact h
 have hlu := up_len x great
 have hg : ∀ i, i < firstL (tab x) great + 1 → (upToL (tab x) great).getD i 0 = (tab x).getD i 0 := fun i hi => getD_take hi
 have hfl := first_le (tab x) v
 split
 ·rename_i h
  refine first_is (by omega) (fun i hi => ?_) (fun _ => ?_)
  ·rw [hg i (by omega)]; exact first_lt hi
  ·rw [hg _ (by omega)]; exact first_ge (by omega)
 ·rename_i h
  refine first_is (Nat.le_refl _) (fun i hi => ?_) (fun h => absurd h (Nat.lt_irrefl _))
  rw [hg i (by omega)]
  exact first_lt (by omega)
theorem fst_tab (x c : Int) : fst (fun k => decide (V x k ≥ c)) 0 1023 = min (firstL (tab x) c : Int) 1023 := by
 have hb := fst_bd (fun k => decide (V x k ≥ c)) (show (0 : Int) ≤ 1023 by omega)
 obtain ⟨r, hr⟩ : ∃ r, r = fst (fun k => decide (V x k ≥ c)) 0 1023 := ⟨_, rfl⟩
 have hA : ∀ k : Int, 0 ≤ k → k < r → V x k < c := fun k h0 h => by
  have := fst_before (fun k => decide (V x k ≥ c)) (lo := 0) (hi := 1023) h0 (by omega) (by omega)
  simpa using this
 have hB : r < 1023 → c ≤ V x r := fun h => by
  have := fst_at (fun k => decide (V x k ≥ c)) (lo := 0) (hi := 1023) (by omega)
  rw [← hr] at this
  simpa using this
 rw [← hr] at hb ⊢
 have hl := tab_len x
 have hf := first_le (tab x) c
 rcases Int.lt_or_le r 1023 with h | h
 ·have : firstL (tab x) c = r.toNat := first_is (by omega) (fun i hi => by rw [tab_getD x (by omega)]; exact hA i (by omega) (by omega)) (fun _ => by
   rw [tab_getD x (by omega), Int.toNat_of_nonneg hb.1]; exact hB h)
  omega
 ·have : 1023 ≤ firstL (tab x) c := by
   rcases Nat.lt_or_ge (firstL (tab x) c) 1023 with h1 | h1
   ·have h2 := first_ge (l := tab x) (v := c) (by omega)
    rw [tab_getD x (by omega)] at h2
    have := hA (firstL (tab x) c : Int) (by omega) (by omega)
    omega
   ·exact h1
  omega
theorem fst_tab2 (x : Int) (m : Nat) (hm : m ≤ 1022) (_ : 0 ≤ x) : fst (fun k => decide (V x k ≥ V x m)) 0 m = firstL (tab x) (V x m) := by
 have hb := fst_bd (fun k => decide (V x k ≥ V x m)) (show (0 : Int) ≤ m by omega)
 obtain ⟨r, hr⟩ : ∃ r, r = fst (fun k => decide (V x k ≥ V x m)) 0 m := ⟨_, rfl⟩
 have hA : ∀ k : Int, 0 ≤ k → k < r → V x k < V x m := fun k h0 h => by
  have := fst_before (fun k => decide (V x k ≥ V x m)) (lo := 0) (hi := m) h0 (by omega) (by omega)
  simpa using this
 have hB : r < m → V x m ≤ V x r := fun h => by
  have := fst_at (fun k => decide (V x k ≥ V x m)) (lo := 0) (hi := m) (by omega)
  rw [← hr] at this
  simpa using this
 rw [← hr] at hb ⊢
 have hl := tab_len x
 have : firstL (tab x) (V x m) = r.toNat := first_is (by omega) (fun i hi => by rw [tab_getD x (by omega)]; exact hA i (by omega) (by omega)) (fun _ => by
  rw [tab_getD x (by omega), Int.toNat_of_nonneg hb.1]
  rcases Int.lt_or_eq_of_le hb.2 with h | h
  ·exact hB h
  ·rw [h]; exact Int.le_refl _)
 omega
theorem near_qn (x great c : Int) (hx : 0 ≤ x) (_ : 0 ≤ c) (hg : c ≤ great) : nearL (upToL (tab x) great) c = qn x c := by
 have hl := tab_len x
 have hf := first_le (tab x) c
 have hlu := up_len x great
 have hfu := first_up x great c hg
 have hgle : firstL (tab x) c ≤ firstL (tab x) great := by
  rcases Nat.lt_or_ge (firstL (tab x) great) (firstL (tab x) c) with h | h
  ·have h1 := first_lt h
   have h2 := first_ge (l := tab x) (v := great) (by omega)
   omega
  ·exact h
 have hG : ∀ i, i < firstL (tab x) great + 1 → (upToL (tab x) great).getD i 0 = (tab x).getD i 0 := fun i hi => getD_take hi
 obtain ⟨f, hfe⟩ : ∃ f, f = firstL (tab x) c := ⟨_, rfl⟩
 have hlt : ∀ i, i < f → V x i < c := fun i hi => by
  have := first_lt (l := tab x) (v := c) (by omega : i < firstL (tab x) c)
  rwa [tab_getD x (by omega)] at this
 have hge : f < 1024 → c ≤ V x f := fun h => by
  have := first_ge (l := tab x) (v := c) (by omega)
  rwa [tab_getD x (by omega), ← hfe] at this
 unfold nearL qn
 rw [hfu, fst_tab, ← hfe]
 dsimp only
 by_cases h1 : f < 1024
 ·rw [if_pos h1]
  rw [show min (f : Int) 1023 = f by omega]
  by_cases h0 : f = 0
  ·rw [if_neg (by omega), if_pos (by omega), h0]; rfl
  ·have g1 : (upToL (tab x) great).getD (f - 1) 0 = V x (f - 1 : Nat) := by rw [hG _ (by omega), tab_getD x (by omega)]
   have g2 : (upToL (tab x) great).getD f 0 = V x f := by rw [hG _ (by omega), tab_getD x (by omega)]
   have e1 : ((f : Int) - 1) = ((f - 1 : Nat) : Int) := by omega
   have v1 := hlt (f - 1) (by omega)
   have v2 := hge h1
   rw [g1, g2, if_neg (show ¬ (f : Int) = 0 by omega), e1]
   by_cases hc : c - V x (f - 1 : Nat) ≤ V x f - c
   ·rw [if_pos (by omega), if_pos (by unfold absI; omega), first_up x great _ (by omega), fst_tab2 x (f - 1) (by omega) hx]
    have : firstL (tab x) (V x (f - 1 : Nat)) ≤ f - 1 := by
     rcases Nat.lt_or_ge (f - 1) (firstL (tab x) (V x (f - 1 : Nat))) with h | h
     ·have := first_lt h
      rw [tab_getD x (by omega)] at this
      omega
     ·exact h
    rw [if_pos (by omega)]
   ·rw [if_neg (by omega), if_neg (by unfold absI; omega)]
 ·have h2 : f = 1024 := by omega
  rw [if_neg h1]
  have h3 : (upToL (tab x) great).length = 1024 := by omega
  have g1 : (upToL (tab x) great).getD ((upToL (tab x) great).length - 1) 0 = V x 1023 := by rw [hG _ (by omega), h3, tab_getD x (by omega)]; rfl
  have v1 : V x 1023 < c := hlt 1023 (by omega)
  have v2 : V x 1022 < c := hlt 1022 (by omega)
  have vm := V_mono hx (show (0 : Int) ≤ 1022 by omega) (show (1022 : Int) ≤ 1023 by omega) (by omega)
  rw [if_pos (by omega), g1, show min (f : Int) 1023 = 1023 by omega, if_neg (show ¬ (1023 : Int) = 0 by omega), first_up x great _ (by omega), show (1023 : Int) - 1 = 1022 by omega]
  by_cases hv : V x 1022 = V x 1023
  ·rw [if_pos (show absI (V x 1022 - c) ≤ absI (V x 1023 - c) by rw [hv]; exact Int.le_refl _), ← hv]
   have e := fst_tab2 x 1022 (by omega) hx
   rw [show ((1022 : Nat) : Int) = 1022 by rfl] at e
   rw [e]
   have : firstL (tab x) (V x 1022) ≤ 1022 := by
    rcases Nat.lt_or_ge 1022 (firstL (tab x) (V x 1022)) with h | h
    ·have := first_lt h
     rw [tab_getD x (by omega)] at this
     exact absurd this (by show ¬ V x 1022 < _; omega)
    ·exact h
   rw [if_pos (by omega)]
  ·rw [if_neg (show ¬ absI (V x 1022 - c) ≤ absI (V x 1023 - c) by unfold absI; omega)]
   have : firstL (tab x) (V x 1023) = 1023 := first_is (by omega) (fun i hi => by
    rw [tab_getD x (by omega)]
    have := V_mono hx (show (0 : Int) ≤ (i : Int) by omega) (show (i : Int) ≤ 1022 by omega) (by omega)
    omega) (fun _ => by rw [tab_getD x (by omega)]; exact Int.le_refl _)
   rw [this]
   rfl
end Go.Proofs.YtnflnicdjioflaaGreatDoor.Q15

