/- A part of the proof. -/
import Derived.Test.YtnflnicdjioflaaGreatDoorQmbi
set_option linter.unusedVariables false
set_option linter.unusedSimpArgs false
namespace Go.Proofs.YtnflnicdjioflaaGreatDoor
open Go.RowKit Go.Proofs.YtnflnicdjioflaaGreatDoorW.PrintWords Go.Proofs.YtnflnicdjioflaaGreatDoorW.PrintLast Go.Proofs.YtnflnicdjioflaaGreatDoorW.PrintMore
namespace Sec
attribute [local go_sem] max2_int min2_int max_two min_two max_three min_three
open Q15
open Bk
def flatS (s : List (Int × Int)) : List Int := (s.map fun p => List.replicate p.2.toNat p.1).flatten
theorem flatS_cons (p : Int × Int) (s : List (Int × Int)) : flatS (p :: s) = List.replicate p.2.toNat p.1 ++ flatS s := rfl
def cbk (C : Nat → Nat → Int) : Nat → List Int → Int
 | _, [] => 0
 | o, b :: bs => C b.toNat o + cbk C (o + 1) bs
def sumC (C : Nat → Nat → Int) (k : Nat) (o : Nat) : Nat → Int
 | 0 => 0
 | t + 1 => sumC C k o t + C k (o + t)
theorem cbk_app (C : Nat → Nat → Int) : ∀ (a b : List Int) (o : Nat), cbk C o (a ++ b) = cbk C o a + cbk C (o + a.length) b
 | [], b, o => by simp [cbk]
 | x :: a, b, o => by
  show C x.toNat o + cbk C (o + 1) (a ++ b) = (C x.toNat o + cbk C (o + 1) a) + cbk C (o + (a.length + 1)) b
  rw [cbk_app C a b (o + 1), show o + (a.length + 1) = o + 1 + a.length by omega]
  omega
theorem cbk_rep (C : Nat → Nat → Int) (k : Nat) (o : Nat) : ∀ t, cbk C o (List.replicate t (k : Int)) = sumC C k o t
 | 0 => rfl
 | t + 1 => by
  rw [List.replicate_succ', cbk_app, cbk_rep C k o t, List.length_replicate]
  simp [cbk, sumC]
def headS (s : List (Int × Int)) : Int := (s.map fun p => 3 + gamI p.2).sum
def AdjS : List (Int × Int) → Prop
 | [] => True
 | [_] => True
 | p :: q :: s => p.1 ≠ q.1 ∧ AdjS (q :: s)
structure OkS (C : Nat → Nat → Int) (n o : Nat) (r : Wy) : Prop where
 el : ∀ p ∈ r.secs, 0 ≤ p.1 ∧ p.1 < 8 ∧ 1 ≤ p.2 ∧ p.2 ≤ 128
 adj : AdjS r.secs
 bk : r.books = flatS r.secs
 len : o + r.books.length = n
 cost : r.cost = headS r.secs + cbk C o r.books
 fits : ∀ j, j < r.books.length → 0 ≤ C (rd r.books j).toNat (o + j)
theorem cand_ok {C : Nat → Nat → Int} {n o k t : Nat} {s : Int} {r : Wy} (hk : k < 8) (ht : t + 1 ≤ 128) (hr : OkS C n (o + (t + 1)) r) (hs : s = sumC C k o (t + 1)) (hf : ∀ u, u < t + 1 → 0 ≤ C k (o + u)) (hh : headW r k = false) : OkS C n o (candW k t s r) := by
 obtain ⟨a1, a2, a3, a4, a5, a6⟩ := hr
 have hn2 : ((t + 1 : Nat) : Int).toNat = t + 1 := Int.toNat_natCast _
 refine ⟨?_, ?_, ?_, ?_, ?_, ?_⟩
 ·intro p hp
  rcases List.mem_cons.1 hp with rfl | hp
  ·exact ⟨by omega, by omega, by omega, by omega⟩
  ·exact a1 p hp
 ·show AdjS (((k : Int), ((t + 1 : Nat) : Int)) :: r.secs)
  cases hq : r.secs with
  | nil => trivial
  | cons q s' =>
   refine ⟨fun e => ?_, by rw [← hq]; exact a2⟩
   have hq1 := a1 q (by rw [hq]; simp)
   unfold headW at hh
   rw [a3, hq, flatS_cons, show q.2.toNat = (q.2.toNat - 1) + 1 by omega, List.replicate_succ] at hh
   dsimp only at e
   rw [← e] at hh
   simp at hh
 ·show List.replicate (t + 1) (k : Int) ++ r.books = flatS (((k : Int), ((t + 1 : Nat) : Int)) :: r.secs)
  rw [flatS_cons, a3]
  rfl
 ·show o + (List.replicate (t + 1) (k : Int) ++ r.books).length = n
  rw [List.length_append, List.length_replicate]
  omega
 ·show 3 + gamI ((t + 1 : Nat) : Int) + s + r.cost = headS (((k : Int), ((t + 1 : Nat) : Int)) :: r.secs) + cbk C o (List.replicate (t + 1) (k : Int) ++ r.books)
  rw [cbk_app, cbk_rep, List.length_replicate, hs, a5]
  show _ = 3 + gamI ((t + 1 : Nat) : Int) + headS r.secs + _
  omega
 ·intro j hj
  show 0 ≤ C (rd (List.replicate (t + 1) (k : Int) ++ r.books) j).toNat (o + j)
  have hj' : j < (List.replicate (t + 1) (k : Int) ++ r.books).length := hj
  rw [List.length_append, List.length_replicate] at hj'
  unfold rd
  rw [Int.toNat_natCast, List.getD_eq_getElem?_getD]
  by_cases h : j < t + 1
  ·rw [List.getElem?_append_left (by simpa using h), List.getElem?_replicate, if_pos h]
   exact hf j h
  ·rw [List.getElem?_append_right (by simpa using Nat.le_of_not_lt h), List.length_replicate]
   have := a6 (j - (t + 1)) (by omega)
   unfold rd at this
   rw [Int.toNat_natCast, List.getD_eq_getElem?_getD] at this
   rw [show o + j = o + (t + 1) + (j - (t + 1)) by omega]
   exact this
theorem pick_ok {C : Nat → Nat → Int} {n o k t : Nat} {s : Int} {r : Wy} {top : Option Wy} (hk : k < 8) (ht : t + 1 ≤ 128) (hr : OkS C n (o + (t + 1)) r) (hs : s = sumC C k o (t + 1)) (hf : ∀ u, u < t + 1 → 0 ≤ C k (o + u)) (htop : ∀ a, top = some a → OkS C n o a) : ∀ a, pickW top k t s r = some a → OkS C n o a := by
 intro a ha
 unfold pickW at ha
 cases h : (overW top (candW k t s r).cost || headW r k) with
 | true => rw [if_pos h] at ha; exact htop a ha
 | false =>
  rw [if_neg (by rw [h]; simp)] at ha
  cases ha
  have hc := cand_ok hk ht hr hs hf (by cases hh : headW r k with
   | false => rfl
   | true => rw [hh, Bool.or_true] at h; cases h)
  cases top with
  | none => exact hc
  | some a =>
   show OkS C n o (if lessB (candW k t s r).cost (candW k t s r).books a.cost a.books = true then candW k t s r else a)
   by_cases h2 : lessB (candW k t s r).cost (candW k t s r).books a.cost a.books = true
   ·rw [if_pos h2]; exact hc
   ·rw [if_neg h2]; exact htop a rfl
theorem jL_ok {C : Nat → Nat → Int} {n o k : Nat} {l : List Wy} (hk : k < 8) (hM : ∀ t, o + t < n → t + 1 ≤ 128) (hl : ∀ t, o + t < n → OkS C n (o + (t + 1)) (l.getD t w0)) : ∀ (m t : Nat) (s : Int) (top : Option Wy), o + t + m = n → s = sumC C k o t → (∀ u, u < t → 0 ≤ C k (o + u)) → (∀ a, top = some a → OkS C n o a) → ∀ a, jL (fun t => C k (o + t)) l k m t s top = some a → OkS C n o a
 | 0, _, _, top, _, _, _, h => h
 | m + 1, t, s, top, hm, hs, hf, ht => by
  intro a ha
  rw [jL] at ha
  by_cases hn : C k (o + t) < 0
  ·rw [if_pos hn] at ha
   exact ht a ha
  ·rw [if_neg hn] at ha
   have hs2 : s + C k (o + t) = sumC C k o (t + 1) := by rw [hs]; rfl
   have hf2 : ∀ u, u < t + 1 → 0 ≤ C k (o + u) := fun u hu => by
    by_cases h : u < t
    ·exact hf u h
    ·obtain rfl : u = t := by omega
     omega
   exact jL_ok hk hM hl m (t + 1) _ _ (by omega) hs2 hf2 (pick_ok hk (hM t (by omega)) (hl t (by omega)) hs2 hf2 ht) a ha
def costC (ws l : List Int) : Nat → Nat → Int := fun k j => bcost k (bandL ws l j)
theorem kTo_ok {ws l : List Int} {m : Nat} {L : List Wy} (hok : Ok ws l) (hm : m + 1 ≤ ws.length) (hl : ∀ t, t ≤ m → OkS (costC ws l) ws.length (ws.length - (m + 1) + (t + 1)) (L.getD t w0)) : ∀ q, q ≤ 8 → ∀ a, kTo (cB ws l (m + 1)) L (m + 1) q = some a → OkS (costC ws l) ws.length (ws.length - (m + 1)) a
 | 0, _ => fun a ha => by cases ha
 | q + 1, hq => fun a ha => by
  rw [kTo_succ] at ha
  exact jL_ok (C := costC ws l) (o := ws.length - (m + 1)) (k := q) (by omega) (fun t ht => by have := hok.len; omega) (fun t ht => hl t (by omega)) (m + 1) 0 0 _ (by omega) rfl (fun u hu => by omega) (kTo_ok hok hm hl q (by omega)) a ha
theorem wL_ok {ws l : List Int} (hok : Ok ws l) : ∀ m, m ≤ ws.length → OkS (costC ws l) ws.length (ws.length - m) ((wL ws l m).getD 0 w0)
 | 0, _ => ⟨fun p hp => (by cases hp), trivial, rfl, (by simp [wL, w0]), rfl, fun j hj => (by simp [wL, w0] at hj)⟩
 | m + 1, h => by
  obtain ⟨a, ha, he⟩ := kTo_ne hok (m := m) h
  rw [he]
  refine kTo_ok hok h (fun t ht => ?_) 8 (Nat.le_refl _) a ha
  rw [wL_at ws l m t ht]
  have := wL_ok hok (m - t) (by omega)
  rwa [show ws.length - (m + 1) + (t + 1) = ws.length - (m - t) by omega]
end Sec

end Go.Proofs.YtnflnicdjioflaaGreatDoor
