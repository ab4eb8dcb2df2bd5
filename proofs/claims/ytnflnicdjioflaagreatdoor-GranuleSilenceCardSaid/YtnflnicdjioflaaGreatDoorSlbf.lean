/- A part of the proof. -/
import Derived.Test.YtnflnicdjioflaaGreatDoorSlba
set_option linter.unusedVariables false
set_option linter.unusedSimpArgs false
set_option maxRecDepth 100000
set_option maxHeartbeats 8000000
namespace Go.Proofs.YtnflnicdjioflaaGreatDoor
open Go.RowKit Go.Proofs.YtnflnicdjioflaaGreatDoorW.PrintWords Go.Proofs.YtnflnicdjioflaaGreatDoorW.PrintLast Go.Proofs.YtnflnicdjioflaaGreatDoorW.PrintMore
namespace St
attribute [local go_sem] Qj Qi Ql Qk Qg Qf
open Q15
open Q16 (isW Za off wd Zj)
def Yw (ws : List Int) (mid : List Bool) : Nat → List Bool
 | 0 => []
 | k + 1 => Yw ws mid k ++ List.replicate (wd ws k) (mid.getD k false)
def Gu (l r : List Int) (fl : List Bool) : List Int := (List.range l.length).map fun i => if fl.getD i false = true then Cj (rd l i) (rd r i) else rd l i
def Tz (l r : List Int) (fl : List Bool) : List Int := (List.range l.length).map fun i => if fl.getD i false = true then Ht (rd l i) (rd r i) else rd r i
theorem Bi {ws : List Int} (hw : isW ws = true) (mid : List Bool) : ∀ k, k ≤ ws.length → (Yw ws mid k).length = off ws k
 | 0, _ => by simp [Yw, off]
 | k + 1, hk => by rw [Yw, List.length_append, Bi hw mid k (by omega), List.length_replicate, (Zj hw (by omega)).1]
theorem Ac {ws : List Int} (hw : isW ws = true) (mid : List Bool) {k i : Nat} (h1 : off ws k ≤ i) (h2 : i < off ws (k + 1)) : ∀ n, k < n → n ≤ ws.length → (Yw ws mid n).getD i false = mid.getD k false
 | 0, h, _ => absurd h (by omega)
 | n + 1, h, hn => by
  have hl := Bi hw mid n (by omega)
  have hm := Bi hw mid (k + 1) (by omega)
  unfold Yw
  rw [List.getD_eq_getElem?_getD]
  by_cases hk : k < n
  ·have h3 := Ac hw mid h1 h2 n hk (by omega)
   rw [List.getD_eq_getElem?_getD] at h3
   rw [List.getElem?_append_left ?_, h3]
   have : off ws (k + 1) ≤ off ws n := by
    have hmono : ∀ d, k + 1 + d ≤ ws.length → off ws (k + 1) ≤ off ws (k + 1 + d) := fun d => by
     induction d with
     | zero => intro _; exact Nat.le_refl _
     | succ d ih => intro hd; have := ih (by omega); have := (Zj hw (k := k + 1 + d) (by omega)).1; rw [← Nat.add_assoc, this]; omega
    have := hmono (n - (k + 1)) (by omega)
    rwa [show k + 1 + (n - (k + 1)) = n by omega] at this
   omega
  ·obtain rfl : k = n := by omega
   rw [(Zj hw (by omega : k < ws.length)).1] at h2
   rw [List.getElem?_append_right (by omega), hl, List.getElem?_replicate, if_pos (by omega)]
   rfl
theorem rd_map {n : Nat} {f : Nat → Int} {i : Nat} (h : i < n) : rd ((List.range n).map f) i = f i := by rw [Y2 _ _ (by simpa using h)]; simp
theorem par_at {l r ws : List Int} {mid : List Bool} (hw : isW ws = true) (h1 : l.length = 128) : ∀ k, k < ws.length → ∀ i, off ws k ≤ i → i < off ws (k + 1) →
  rd (Gu l r (Yw ws mid ws.length)) i = (if mid.getD k false = true then Cj (rd l i) (rd r i) else rd l i) ∧ rd (Tz l r (Yw ws mid ws.length)) i = (if mid.getD k false = true then Ht (rd l i) (rd r i) else rd r i) := fun k hk i hi hi2 => by
 have h3 := Ac hw mid hi hi2 ws.length hk (Nat.le_refl _)
 obtain ⟨o1, o2, o3, -⟩ := Zj hw hk
 have hi9 : i < l.length := by omega
 unfold Gu Tz
 rw [rd_map hi9, rd_map hi9, h3]
 exact ⟨rfl, rfl⟩
def POut (l r ws : List Int) (mid : List Bool) (w : World) (e : Ending) (w' : World) : Prop :=
 ∃ gx gy, e = .returned (.tuple #[sV gx, sV gy, .int .i64 0]) ∧ w'.heap[gx]? = some (.cells ((Gu l r (Yw ws mid ws.length)).map (Value.int .i64)).toArray 3 (0, 0)) ∧ w'.heap[gy]? = some (.cells ((Tz l r (Yw ws mid ws.length)).map (Value.int .i64)).toArray 3 (0, 0)) ∧ w.heap.size ≤ gx ∧ w.heap.size ≤ gy ∧ gx ≠ gy ∧ Below w.heap.size w w'
theorem Ob (A B C M : Option Addr) (ca cb cc cm : Nat) (l r ws : List Int) (mid : List Bool) (w : World) (hl : (Kd.int .i64).C w A l.length l) (hr : (Kd.int .i64).C w B r.length r) (hC : (Kd.int .i64).C w C ws.length ws) (hM : Kd.bool.C w M mid.length mid) (hw : isW ws = true) (l1 : l.length = 128) (l2 : r.length = 128) (l3 : mid.length = ws.length)
  (hv : ∀ k : Nat, k < 128 → (-8388608 ≤ rd l k ∧ rd l k ≤ 8388608) ∧ (-8388608 ≤ rd r k ∧ rd r k ≤ 8388608)) :
  Calls Tryz.prog 38 #[.slice A l.length ca, .slice B r.length cb, .slice C ws.length cc, .slice M mid.length cm] w (POut l r ws mid w) := by
 have key : ∀ W : World, Below w.heap.size w W → Calls Tryz.prog 74 #[.slice A l.length ca, .slice B r.length cb, .slice C ws.length cc, .slice M mid.length cm, .int .i64 8388608, .func (.func 75) #[] #[]] W (POut l r ws mid W) := fun W hb => by
  have HK := Qa.mk (Qa7 A B C ca cb cc l r ws 8388608 W (Kd.Qh hl hb) (Kd.Qh hr hb) (Kd.Qh hC hb) hw l1 l2 (by omega) hv)
  have hx1 : (Gu l r (Yw ws mid ws.length)).length = 128 := by unfold Gu; rw [List.length_map, List.length_range, l1]
  have hy1 : (Tz l r (Yw ws mid ws.length)).length = 128 := by unfold Tz; rw [List.length_map, List.length_range, l1]
  have hpa := par_at (r := r) (mid := mid) hw l1
  obtain ⟨fx, hfx⟩ : ∃ f, f = Gu l r (Yw ws mid ws.length) := ⟨_, rfl⟩
  obtain ⟨fy, hfy⟩ : ∃ f, f = Tz l r (Yw ws mid ws.length) := ⟨_, rfl⟩
  unfold POut
  rw [← hfx] at hx1 hpa ⊢
  rw [← hfy] at hy1 hpa ⊢
  have hv2 : ∀ k : Nat, k < 128 → (-4294967296 ≤ rd l k ∧ rd l k ≤ 4294967296) ∧ (-4294967296 ≤ rd r k ∧ rd r k ≤ 4294967296) := fun k hk => by
   have := hv k hk
   omega
  clear hfx hfy
  have HCp := Qa.mk (fun (V : World) (hb2 : Below W.heap.size W V) => M7 A B C M ca cb cc cm l r ws fx fy mid V (Kd.Qh (Kd.Qh hl hb) hb2) (Kd.Qh (Kd.Qh hr hb) hb2) (Kd.Qh (Kd.Qh hC hb) hb2) (Kd.Qh (Kd.Qh hM hb) hb2) hw l1 l2 l3 hv2 hx1 hy1 hpa)
  have hn : ((mid.length : Int) != (ws.length : Int)) = false := by rw [bne_eq_false_iff_eq]; omega
  clear hl hr hC hM hv hv2 hb l1 l2 l3 hpa hx1 hy1 hw
  go_enter Tryz.func74, Tryz.ntmps74
  go_wp2_with fail
  refine HK.out.mono ?_
  rintro e W1 ⟨rfl, hb1⟩
  go_wp2_with fail
  refine (HCp.out _ hb1).mono ?_
  rintro e W2 ⟨gx, gy, rfl, h1, h2, h3, h4, h5, hb2⟩
  replace hb1 := hb1
  have hb3 := bnx hb1 hb2
  have hs := hb1.size
  have hfin := Qa.mk (And.intro h1 (And.intro h2 (And.intro (Nat.le_trans hs h3) (And.intro (Nat.le_trans hs h4) (And.intro h5 hb3)))))
  clear h1 h2 h3 h4 h5 hb1 hb2 hb3 hs HK HCp
  go_wp2
  go_ret3
  exact ⟨gx, gy, rfl, hfin.out⟩
 have HK := Qa.mk key
 have hb := Below.refl w.heap.size w
 clear key hl hr hC hM hv l1 l2 l3 hw
 unfold POut at *
 go_enter Tryz.func38, Tryz.ntmps38
 go_wp2_with fail
 refine (HK.out _ hb).mono ?_
 rintro e W2 ⟨gx, gy, rfl, hfin⟩
 replace hfin := Qa.mk hfin
 go_wp2
 go_ret3
 exact ⟨gx, gy, rfl, hfin.out⟩
end St

namespace Bk
attribute [local go_sem] Qj Qi Ql Qk Qg Qf
open Bts
theorem Mt (base p : Nat) (q : Option Nat) (L : List Int) (k : Nat) (hk : k < 8) (A : Option Addr) (cap : Nat) (l : List Int) (w : World) (hw : Wr w base p q L) (hB4 : 4 ≤ base) (hL : Xe w) (hr : Xw p q w A l.length l) (hl : l.length ≤ 1000) (hcap : l.length ≤ cap) (hA : Yf l = true) (hf : Vx k l = true) (hroom : (L.length : Int) + Zm k l ≤ 1048576) :
  Calls Tryz.prog 150 #[.pointer (some ⟨p, 0, none⟩), .int .i64 k, .slice A l.length cap] w fun e w' => e = .returned (.int .i64 0) ∧ ∃ bs : List Int, (bs.length : Int) = Zm k l ∧ WrP base p q (L ++ bs) w w' := by
 by_cases hk0 : 0 < k
 ·cases hesc : Ub k with
  | false => exact bWrite_1 base p q L k hk A cap l w hw hB4 hL hr hl hcap hA hf hroom hesc hk0
  | true => exact bWrite_2 base p q L k hk A cap l w hw hB4 hL hr hl hcap hA hf hroom hesc hk0
 ·exact Cw base p q L k hk A cap l w hw hB4 hL hr hl hcap hA hf hroom (by
                                         obtain rfl : k = 0 := by omega
                                         rfl) hk0
theorem bw_all (k : Nat) (hk : k < 8) : BW k := fun base p q L A cap l w hw hB4 hL hr hl hcap hA hf hroom => Mt base p q L k hk A cap l w hw hB4 hL hr hl hcap hA hf hroom
end Bk

end Go.Proofs.YtnflnicdjioflaaGreatDoor
