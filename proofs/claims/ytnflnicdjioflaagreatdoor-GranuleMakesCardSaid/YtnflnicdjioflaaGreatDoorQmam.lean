/- A part of the proof. -/
import Derived.Test.YtnflnicdjioflaaGreatDoorQmal
set_option linter.unusedVariables false
set_option linter.unusedSimpArgs false
namespace Go.Proofs.YtnflnicdjioflaaGreatDoor
open Go.RowKit Go.Proofs.YtnflnicdjioflaaGreatDoorW.PrintWords Go.Proofs.YtnflnicdjioflaaGreatDoorW.PrintLast Go.Proofs.YtnflnicdjioflaaGreatDoorW.PrintMore
namespace Q21
attribute [local go_sem] max2_int min2_int max_two min_two max_three min_three
open Q15
def rnd (x : Int) : Int := (2 * x + 128) / 256
theorem tq (a b : Int) (hb : 0 < b) : b * a.tdiv b + a.tmod b = a ∧ -b < a.tmod b ∧ a.tmod b < b := by
 have h1 := Int.tmod_lt_of_pos a hb
 have h2 := Int.tmod_lt_of_pos (-a) hb
 rw [Int.neg_tmod] at h2
 exact ⟨Int.mul_tdiv_add_tmod a b, by omega, h1⟩
set_option maxHeartbeats 1000000 in
theorem round_calls (x : Int) (w : World) (h0 : -1099511627776 ≤ x) (h1 : x ≤ 1099511627776) :
  Calls Tryz.prog 172 #[.int .i64 x, .int .i64 128] w fun e w' => e = .returned (.int .i64 (rnd x)) ∧ Below w.heap.size w w' := by
 have ht := tq (2 * x + 128) 256 (by decide)
 have hv : rnd x = (2 * x + 128) / 256 := rfl
 have hq : -4294967296 * 256 ≤ (2 * x + 128).tdiv 256 ∧ (2 * x + 128).tdiv 256 ≤ 4294967296 * 256 := by omega
 by_cases hm : (2 * x + 128).tmod 256 < 0
 ·have e : Aside0 (rnd x = (2 * x + 128).tdiv 256 - 1) := ⟨by rw [hv]; omega⟩
  clear ht hv
  obtain ⟨r, hr⟩ : ∃ r, r = rnd x := ⟨_, rfl⟩
  rw [← hr] at e ⊢
  clear hr
  go_enter Tryz.func172, Tryz.ntmps172
  go_wp2
  go_ret
  exact ⟨by rw [e.out]; rfl, Below.refl _ _⟩
 ·have e : Aside0 (rnd x = (2 * x + 128).tdiv 256) := ⟨by rw [hv]; omega⟩
  have hm' : decide ((2 * x + 128).tmod 256 < 0) = false := by simpa using hm
  clear ht hv
  obtain ⟨r, hr⟩ : ∃ r, r = rnd x := ⟨_, rfl⟩
  rw [← hr] at e ⊢
  clear hr
  go_enter Tryz.func172, Tryz.ntmps172
  go_wp2
  go_ret
  exact ⟨by rw [e.out]; rfl, Below.refl _ _⟩
end Q21

namespace Q21
attribute [local go_sem] max2_int min2_int max_two min_two max_three min_three
open Q15
def newF (a : List Int) (k : Int) (i : Nat) : Int := rd a i + rnd (k * rd a ((a.length - 1 - i : Nat) : Int))
def stepF (a : List Int) (k : Int) : List Int := ((List.range a.length).map (newF a k)) ++ [32 * k]
def weightsL (f : List Int) : List Int := f.foldl stepF []
theorem prod_bd {k y M : Int} (hk : -127 ≤ k ∧ k ≤ 127) (hy : -M ≤ y ∧ y ≤ M) : -(127 * M) ≤ k * y ∧ k * y ≤ 127 * M := by
 have h1 : (k * y).natAbs = k.natAbs * y.natAbs := Int.natAbs_mul k y
 have h2 : k.natAbs * y.natAbs ≤ 127 * M.natAbs := Nat.mul_le_mul (by omega) (by omega)
 omega
theorem rnd_bd {k y M : Int} (hk : -127 ≤ k ∧ k ≤ 127) (hy : -M ≤ y ∧ y ≤ M) : -M ≤ rnd (k * y) ∧ rnd (k * y) ≤ M := by
 have h := prod_bd hk hy
 unfold rnd
 generalize k * y = p at h ⊢
 omega
theorem weightsL_len (f : List Int) : (weightsL f).length = f.length := by
 have : ∀ (f a : List Int), (f.foldl stepF a).length = a.length + f.length := fun f => by
  induction f with
  | nil => intro a; simp
  | cons k t ih => intro a; rw [List.foldl_cons, ih]; unfold stepF; simp; omega
 rw [weightsL, this]; simp
theorem stepF_bd {a : List Int} {k M : Int} (hk : -127 ≤ k ∧ k ≤ 127) (hM : 4096 ≤ M) (ha : ∀ x ∈ a, -M ≤ x ∧ x ≤ M) : ∀ x ∈ stepF a k, -(2 * M) ≤ x ∧ x ≤ 2 * M := by
 intro x hx
 unfold stepF at hx
 rcases List.mem_append.1 hx with hx | hx
 ·obtain ⟨i, hi, rfl⟩ := List.mem_map.1 hx
  replace hi := List.mem_range.1 hi
  have h1 := ha _ (rd_mem a i hi)
  have h2 := ha _ (rd_mem a (a.length - 1 - i) (by omega))
  have h3 := rnd_bd hk h2
  unfold newF
  omega
 ·rw [List.mem_singleton.1 hx]; omega
def updF (a : List Int) (k : Int) (j : Nat) : List Int := (List.range a.length).map fun i => if i < j then newF a k i else rd a i
theorem updF_get (a : List Int) (k : Int) (j i : Nat) (h : i < (updF a k j).length) : (updF a k j)[i] = if i < j then newF a k i else rd a i := by simp [updF]
theorem updF_zero (a : List Int) (k : Int) : updF a k 0 = a := by
 refine List.ext_getElem (by simp [updF]) (fun i h1 h2 => ?_)
 rw [updF_get, if_neg (by omega)]
 exact rd_nat a i h2
theorem updF_len (a : List Int) (k : Int) (j : Nat) : (updF a k j).length = a.length := by unfold updF; simp
theorem updF_succ (a : List Int) (k : Int) {j : Nat} (hj : j < a.length) : updF a k (j + 1) = (updF a k j).set j (newF a k j) := by
 refine List.ext_getElem (by simp [updF]) (fun i h1 h2 => ?_)
 rw [List.getElem_set, updF_get, updF_get]
 by_cases h : j = i
 ·subst h; rw [if_pos (by omega), if_pos rfl]
 ·rw [if_neg h]
  by_cases h3 : i < j
  ·rw [if_pos h3, if_pos (by omega)]
  ·rw [if_neg h3, if_neg (by omega)]
theorem updF_all (a : List Int) (k : Int) : updF a k a.length = (List.range a.length).map (newF a k) := by
 unfold updF
 refine List.map_congr_left fun i hi => ?_
 rw [if_pos (List.mem_range.1 hi)]
theorem rd_updF (a : List Int) (k : Int) {j : Nat} (hj : j < a.length) : rd (updF a k j) j = rd a j := by
 rw [rd_nat _ _ (by rw [updF_len]; exact hj), updF_get, if_neg (by omega)]
end Q21

namespace Q21
attribute [local go_sem] max2_int min2_int max_two min_two max_three min_three
open Q15
theorem add_mk (g j : Nat) : (⟨g, 0, none⟩ : Addr).add j = ⟨g, j, none⟩ := by
 unfold Addr.add
 split <;> simp_all
theorem add_block (a : Addr) (j : Nat) : (a.add j).block = a.block := by
 unfold Addr.add
 split <;> rfl
theorem grown_two2 {w1 W W' : World} {b : Nat} (h1 : w1.grownBy W (some b)) (h2 : Below W.heap.size W W') : w1.grownBy W' (some b) :=
 ⟨h2.os.trans h1.os, h2.tape.trans h1.tape, h2.output.trans h1.output, Nat.le_trans h1.size h2.size, fun k hk hne => (h2.block k (Nat.lt_of_lt_of_le hk h1.size)).trans (h1.block k hk hne)⟩
theorem grown_below {w1 W : World} {b B : Nat} (h1 : w1.grownBy W (some b)) (hb : B ≤ b) (hs : B ≤ w1.heap.size) : Below B w1 W :=
 ⟨h1.os, h1.tape, h1.output, h1.size, fun k hk => h1.block k (by omega) (fun e => by injection e with e; omega)⟩
theorem grown_set {w1 W : World} {b : Nat} (h1 : w1.grownBy W (some b)) {p : Addr} (hp : p.block = b) (u : Value) : w1.grownBy (W.setCell p u) (some b) :=
 ⟨h1.os, h1.tape, h1.output, by simpa [World.setCell] using h1.size, fun k hk hne => (Below.heap_setCell W p u k (fun e => hne (by rw [e, hp]))).trans (h1.block k hk hne)⟩
theorem cell_blk {w : World} {B : Nat} {cs : Array Value} {t : TypeId} (h : w.heap[B]? = some (.cells cs t (0, 0))) (i : Nat) : w.cell? ⟨B, i, none⟩ = cs[i]? := by
 unfold World.cell?
 rw [h]
 rfl
theorem frozen_blk {w : World} {B : Nat} {cs : Array Value} {t : TypeId} (h : w.heap[B]? = some (.cells cs t (0, 0))) (i : Nat) : w.frozen? ⟨B, i, none⟩ = false := by
 unfold World.frozen?
 rw [h]
 simp
theorem R_blk {w : World} {e base : Nat} {ad : Addr} {n p : Nat} {xs : List Int} (h : (Kd.int .i64).R e w base (fun _ => True) (.slice (some ad) n p) xs) : ad = ⟨ad.block, 0, none⟩ ∧ base ≤ ad.block ∧ ad.block < w.heap.size ∧ (∃ cur, w.heap[ad.block]? = some (.cells cur e (0, 0))) ∧ ∀ i : Nat, i < xs.length → w.cell? (ad.add i) = some (.int .i64 (rd xs i)) := by
 have ho := Kd.own_of_R (enc := Value.int .i64) (h1 := fun _ => rfl) h
 have hC := Kd.R_reads h
 obtain ⟨A, p', e1, _, hC⟩ := hC
 injection e1 with e1 e2 e3
 subst e1
 rcases ho.2 with ⟨e1, _⟩ | ⟨g, cap, cur, e1, hb, hh, _⟩
 ·injection e1 with e1
  cases e1
 ·injection e1 with e1
  cases e1
  refine ⟨rfl, hb, blk_lt hh, ⟨cur, hh⟩, fun i hi => ?_⟩
  obtain ⟨ad, e2, hc⟩ := el_at hC (Below.refl _ _) hi
  cases e2
  exact hc
set_option maxRecDepth 100000 in
set_option maxHeartbeats 4000000 in
theorem step_calls (B : Nat) (v : Value) (a : List Int) (k M : Int) (w : World) (hB : w.heap[B]? = some (.cells #[v] 22 (0, 0))) (hR : (Kd.int .i64).R 3 w (B + 1) (fun _ => True) v a) (hal : a.length ≤ 12) (hk : -127 ≤ k ∧ k ≤ 127) (hM0 : 0 ≤ M) (hMb : M ≤ 16777216) (hM : ∀ x ∈ a, -M ≤ x ∧ x ≤ M) :
  Calls Tryz.prog 171 #[.int .i64 k, .pointer (some ⟨B, 0, none⟩)] w fun e w' => e = .returned (.tuple #[]) ∧ (∃ v', w'.heap[B]? = some (.cells #[v'] 22 (0, 0)) ∧ (Kd.int .i64).R 3 w' (B + 1) (fun _ => True) v' (stepF a k)) ∧ Below B w w' := by
 have hBs := blk_lt hB
 obtain ⟨A, p, rfl, hp, hC⟩ := Kd.R_reads hR
 have HK := Aside0.mk (Clone_calls A p a w hC (by omega))
 have k0 : w.cell? ⟨B, 0, none⟩ = some (.slice A a.length p) := by rw [cell_blk hB]; rfl
 have hs32 : IntKind.i64.wrap (32 * k) = 32 * k := IntWalk.i64_in _ (by omega)
 cases A with
 | none =>
  have ha0 : a = [] := by
   obtain ⟨_, _, h⟩ := hC
   rcases Nat.eq_zero_or_pos a.length with h1 | h1
   ·exact List.length_eq_zero_iff.1 h1
   ·obtain ⟨a, e, _⟩ := h h1
    cases e
  subst ha0
  have HR := Aside0.mk hR
  have HB := Aside0.mk hB
  have hBs' := Aside0.mk hBs
  have f0 := frozen_blk hB 0
  clear hR hB hM hC hBs
  go_enter Tryz.func171, Tryz.ntmps171
  go_wp2_with fail
  refine HK.out.mono ?_; rintro e w1 ⟨u, rfl, hU, hbn⟩
  obtain ⟨Aw, pw, rfl, -, -⟩ := Kd.R_reads hU
  have hBw : w1.heap[B]? = some (.cells #[.slice none ([] : List Int).length p] 22 (0, 0)) := (hbn.block B hBs'.out).trans HB.out
  have c1 : w1.cell? ⟨B, 0, none⟩ = some (.slice none ([] : List Int).length p) := by rw [cell_blk hBw]; rfl
  have f1 := frozen_blk hBw 0
  have hR1 := Aside0.mk (Kd.R_below HR.out hbn)
  have hbn' := Aside0.mk hbn
  have hsz : Aside0 (B + 1 ≤ w1.heap.size) := ⟨blk_lt hBw⟩
  have hlen : Aside0 ((([] : List Int).length + 1) * 8 ≤ 140737488355328) := ⟨by simp⟩
  have hBw' := Aside0.mk hBw
  clear k0 f0 hbn hU hBw
  go_wp2_with fail
  refine wp_loop_rounds 1 ?_
  rw [rounds_succ]
  go_wp2_with (first | (at_builtin; refine Kd.R_append (Kd.int .i64) (w0 := w1) (B + 1) rfl (.tmp 30) (.tmp 33) 22 3 (.int .i64 0) 8 rfl Tryz.underlying22 info_int rfl (by decide) (by decide) (.slice none ([] : List Int).length p) [] (32 * k) [.int .i64 (32 * k)] (fun _ => True) (fun _ => False) rfl rfl rfl (fun _ hk => hk.elim) (fun _ _ => trivial) hR1.out (Below.refl _ _) hsz.out hlen.out ?_; intro v1 wA hoA hbA hgA hatA; obtain ⟨A6, p6, rfl, -, -⟩ := Kd.R_reads hoA; have HOA := Aside0.mk hoA; have HBA := Aside0.mk hbA; have hBA := (hbA.block B (Nat.lt_succ_self B)).trans hBw'.out; have c2 : wA.cell? ⟨B, 0, none⟩ = some (.slice none ([] : List Int).length p) := (by rw [cell_blk hBA]; rfl); have f2 := frozen_blk hBA 0; have hBA' := Aside0.mk hBA; clear hoA hbA hgA hatA hBA))
  go_end0
  refine ⟨rfl, ⟨_, blk_set hBA'.out 0 _, ?_⟩, ?_⟩
  ·exact Kd.R_mono (Kd.R_far (p := ⟨B, 0, none⟩) (Kd.R_bound HOA.out) (fun k hk e => by have := hk.2.1; simp at e; omega) _) (fun _ _ => trivial)
  ·exact ((hbn'.out.mono (Nat.le_of_lt hBs'.out)).trans (HBA.out.mono (Nat.le_succ B))).setCell (p := ⟨B, 0, none⟩) (Nat.le_refl B) _
 | some ad =>
  obtain ⟨had, hg1, hg2, ⟨cur, hcur⟩, hcells⟩ := R_blk hR
  have HR := Aside0.mk hR
  have hnI : (a.length : Int) ≤ 12 := by omega
  have HB := Aside0.mk hB
  have hneB : Aside0 (some B ≠ some ad.block) := ⟨fun h => by injection h with h; omega⟩
  have HMM := Aside0.mk (fun i (hi : i < a.length) => hM _ (rd_mem a i hi))
  replace had := Aside0.mk had
  have hg1' := Aside0.mk hg1
  have hg2' := Aside0.mk hg2
  have hBs' := Aside0.mk hBs
  have hmo := Aside0.mk (show Tryz.prog.follows .mixedOrders = true by kernel_rfl)
  clear hR hB hM hC hcur hcells hg1 hg2 hBs
  go_enter Tryz.func171, Tryz.ntmps171
  go_wp2_with fail
  refine HK.out.mono ?_; rintro e w1 ⟨u, rfl, hU, hbn⟩
  have hU2 := Kd.R_reads hU
  obtain ⟨Aw, pw, rfl, _, hCw⟩ := hU2
  replace hU := Aside0.mk hU
  replace hCw := Aside0.mk hCw
  have hB1 : Aside0 (w1.heap[B]? = some (.cells #[.slice (some ad) a.length p] 22 (0, 0))) := ⟨(hbn.block B hBs'.out).trans HB.out⟩
  have hR1 := Aside0.mk (Kd.R_below HR.out hbn)
  have hbn' := Aside0.mk hbn
  clear hbn k0
  go_wp2_with fail
  go_loopw [9] (fun i wr => ∃ j : Nat, i = .int .i64 j ∧ j ≤ a.length ∧ Aside0 ((Kd.int .i64).R 3 wr (B + 1) (fun _ => True) (.slice (some ad) a.length p) (updF a k j)) ∧ Aside0 (w1.grownBy wr (some ad.block))) (fun i _ => a.length - (intOf i).toNat)
  case atStart => exact ⟨0, rfl, by omega, ⟨by rw [updF_zero]; exact hR1.out⟩, ⟨⟨rfl, rfl, rfl, Nat.le_refl _, fun _ _ _ => rfl⟩⟩⟩
  case round =>
   obtain ⟨j, rfl, hj, ho, hG⟩ := hrel
   by_cases hlt : j < a.length
   ·obtain ⟨-, -, -, ⟨cur, hcur⟩, hcells⟩ := R_blk ho.out
    have c2 := hcells j (by rw [updF_len]; exact hlt)
    rw [rd_updF a k hlt] at c2
    have c1 : wr.cell? ⟨B, 0, none⟩ = some (.slice (some ad) a.length p) := by
     have h := cell_blk hB1.out 0
     exact hG.out.cell h hneB.out
    have hfz : wr.frozen? (ad.add j) = false := by
     rw [had.out, add_mk]
     exact frozen_blk hcur j
    obtain ⟨adw, rfl, c3⟩ := el_at hCw.out (Below.refl _ _) (k := a.length - 1 - j) (by omega)
    obtain ⟨-, hw1, -⟩ := R_blk hU.out
    replace c3 := hG.out.cell c3 (fun h => by
     rw [add_block] at h
     injection h with h
     have := hg2'.out
     omega)
    have b1 := HMM.out j hlt
    have b2 := HMM.out (a.length - 1 - j) (by omega)
    have hjI : (j : Int) < (a.length : Int) := by omega
    obtain ⟨m, hm⟩ : ∃ m, m = a.length - 1 - j := ⟨_, rfl⟩
    have hmI : (a.length : Int) - 1 - (j : Int) = (m : Int) := by omega
    have hnew : newF a k j = rd a j + rnd (k * rd a (m : Int)) := by unfold newF; rw [hm]
    rw [← hm] at c3 b2
    obtain ⟨y, hy⟩ : ∃ y, y = rd a (m : Int) := ⟨_, rfl⟩
    rw [← hy] at c3 b2 hnew
    obtain ⟨x, hx⟩ : ∃ x, x = rd a j := ⟨_, rfl⟩
    rw [← hx] at c2 b1 hnew
    have hpb := prod_bd hk b2
    have hrb := rnd_bd hk b2
    have HRd := fun W => round_calls (k * y) W (by omega) (by omega)
    obtain ⟨z, hz⟩ : ∃ z, z = rnd (k * y) := ⟨_, rfl⟩
    rw [← hz] at HRd hrb hnew
    have hsum : IntKind.i64.wrap (x + z) = newF a k j := by rw [hnew]; exact IntWalk.i64_in _ (by omega)
    obtain ⟨nv, hnv⟩ : ∃ nv, nv = newF a k j := ⟨_, rfl⟩
    rw [← hnv] at hsum
    have hnv' := Aside0.mk hnv
    have hmul : IntKind.i64.wrap (k * y) = k * y := IntWalk.i64_in _ (by omega)
    have h20 : IntKind.i64.wrap ((a.length : Int) - 1) = (a.length : Int) - 1 := IntWalk.i64_in _ (by omega)
    have h22 : IntKind.i64.wrap ((a.length : Int) - 1 - (j : Int)) = (m : Int) := by rw [hmI]; exact IntWalk.i64_in _ (by omega)
    have hml : (m : Int) < (a.length : Int) := by omega
    replace HRd := Aside0.mk HRd
    have hcur' := Aside0.mk hcur
    have hdr : Below wr.heap.size wr wr.drew := (Below.refl _ _).drew
    replace hdr := Aside0.mk hdr
    clear hm hy hx hz hnv hnew hpb hrb b1 b2 hmI hcells hcur
    go_wp2_with fail
    refine wp_region_last_drew (S := fun w' => w'.cell? ⟨B, 0, none⟩ = some (.slice (some ad) a.length p) ∧ w'.cell? (ad.add j) = some (.int .i64 x) ∧ w'.cell? (adw.add m) = some (.int .i64 y)) (ds := [17]) hmo.out ⟨c1, c2, c3⟩ (fun hHeld => ?_)
    (refine Tk.tl 0 (.slice (some ad) a.length p) hHeld ?_)
    (refine Tk.tl 1 (.int .i64 j) hHeld ?_)
    (refine Tk.tl 2 (.pointer (some (ad.add j))) hHeld ?_)
    (refine Tk.tl 3 (.int .i64 x) hHeld ?_)
    (refine Tk.tl 4 (.int .i64 k) hHeld ?_)
    (refine Tk.tl 5 (.slice (some adw) a.length pw) hHeld ?_)
    (refine Tk.tl 6 (.slice (some adw) a.length pw) hHeld ?_)
    (refine Tk.tl 7 (.int .i64 a.length) hHeld ?_)
    (refine Tk.tl 8 (.int .i64 ((a.length : Int) - 1)) hHeld ?_)
    (refine Tk.tl 9 (.int .i64 j) hHeld ?_)
    (refine Tk.tl 10 (.int .i64 m) hHeld ?_)
    (refine Tk.tl 11 (.pointer (some (adw.add m))) hHeld ?_)
    (refine Tk.tl 12 (.int .i64 y) hHeld ?_)
    (refine Tk.tl 13 (.int .i64 (k * y)) hHeld ?_)
    (refine wpAnyLast_ready (rs := [14]) (by kernel_rfl) (by simp) ?_; refine AllReadyL.cons rfl (by decide) (fun K hK => ?_) AllReadyL.nil)
    go_simp
    refine (HRd.out _).mono ?_
    rintro e w7 ⟨rfl, hb7⟩
    replace hb7 := Aside0.mk (bnx hdr.out hb7)
    (go_wp2_with fail; refine hK.out _ _ (⟨cnx c1 hb7.out, cnx c2 hb7.out, cnx c3 hb7.out⟩) (fun hHeld => ?_); clear hK K; try simp only [Act.put, Tk.z1, Tk.z2, Tk.z3, Tk.z4, Tk.z5, Tk.z6])
    (refine Tk.tl 15 (.int .i64 nv) hHeld ?_)
    (refine Tk.tl 16 (.pointer (some (ad.add j))) hHeld ?_)
    have hG7 := grown_two2 hG.out hb7.out
    have hR7 := Kd.R_below ho.out hb7.out
    have hfz7 : w7.frozen? (ad.add j) = false := by
     have h := hb7.out.frozen (p := ad.add j) (World.block_lt_of_cell? wr _ c2)
     rw [h]; exact hfz
    have c27 := cnx c2 hb7.out
    replace hR7 := Aside0.mk hR7
    replace hG7 := Aside0.mk hG7
    clear hb7 hfz c1 c2 c3
    (refine wpAnyLast_ready (rs := [17]) (by kernel_rfl) (by simp) ?_; refine AllReadyL.cons_last rfl (by decide) (fun K hK => ?_) AllReadyL.nil)
    go_simp
    go_wp2_with fail
    refine hK.out _ _ ?_
    clear hK K
    try simp only [Act.put, List.setIfInBounds_toArray, List.set_cons_zero, List.set_cons_succ]
    refine wpAnyLast_done (by kernel_rfl) ?_ _
    go_wp2_with fail
    go_roundw
    case rel =>
     refine ⟨j + 1, by go_num, by omega, ⟨?_⟩, ⟨?_⟩⟩
     ·rw [updF_succ a k hlt, ← hnv'.out]
      have h := hR7.out
      rw [had.out] at h ⊢
      rw [add_mk]
      have h2 := Kd.R_putn h (j : Nat) nv
      rw [Int.toNat_natCast] at h2
      exact h2
     ·exact grown_set (p := ad.add j) hG7.out (add_block ad j) _
    case measure => simp [intOf]; omega
   ·obtain rfl : j = a.length := by omega
    have hBw : wr.heap[B]? = some (.cells #[.slice (some ad) a.length p] 22 (0, 0)) := (hG.out.block B (blk_lt hB1.out) hneB.out).trans hB1.out
    have c1 : wr.cell? ⟨B, 0, none⟩ = some (.slice (some ad) a.length p) := by rw [cell_blk hBw]; rfl
    have hBlt := blk_lt hBw
    have hlen : Aside0 (((updF a k a.length).length + 1) * 8 ≤ 140737488355328) := ⟨by rw [updF_len]; omega⟩
    have hn2 : Aside0 ((updF a k a.length).length = a.length) := ⟨updF_len _ _ _⟩
    have hb0 := Aside0.mk (grown_below (B := B) hG.out (by have := hg1'.out; omega) (show B ≤ w1.heap.size by have := blk_lt hB1.out; omega))
    have hst : Aside0 ((updF a k a.length) ++ [32 * k] = stepF a k) := ⟨by rw [updF_all]; rfl⟩
    obtain ⟨q, hq⟩ : ∃ q, q = updF a k a.length := ⟨_, rfl⟩
    rw [← hq] at ho hlen hn2 hst
    have hBw' := Aside0.mk hBw
    have hsz : Aside0 (B + 1 ≤ wr.heap.size) := ⟨hBlt⟩
    have ho2 : Aside0 ((Kd.int .i64).R 3 wr (B + 1) (fun _ => True) (.slice (some ad) a.length p) q) := ho
    clear hq hBw hBlt ho
    go_wp2_with (first | (at_builtin; refine Kd.R_append (Kd.int .i64) (w0 := wr) (B + 1) rfl (.tmp 30) (.tmp 33) 22 3 (.int .i64 0) 8 rfl Tryz.underlying22 info_int rfl (by decide) (by decide) (.slice (some ad) a.length p) q (32 * k) [.int .i64 (32 * k)] (fun _ => True) (fun _ => False) rfl rfl rfl (fun _ hk => hk.elim) (fun _ _ => trivial) ho2.out (Below.refl _ _) hsz.out hlen.out ?_; intro v1 wA hoA hbA hgA hatA; obtain ⟨A6, p6, rfl, -, -⟩ := Kd.R_reads hoA; have HOA := Aside0.mk hoA; have HBA := Aside0.mk hbA; have hBA := (hgA.block B (blk_lt hBw'.out) hneB.out).trans hBw'.out; have c2 : wA.cell? ⟨B, 0, none⟩ = some (.slice (some ad) a.length p) := (by rw [cell_blk hBA]; rfl); have f2 := frozen_blk hBA 0; have hBA' := Aside0.mk hBA; clear hoA hbA hgA hatA hBA))
    go_end0
    refine ⟨rfl, ⟨_, blk_set hBA'.out 0 _, ?_⟩, ?_⟩
    ·rw [← hst.out]
     have h0 := HOA.out
     rw [show (q ++ [32 * k]).length = q.length + 1 by simp] at h0
     exact Kd.R_mono (Kd.R_far (p := ⟨B, 0, none⟩) (Kd.R_bound h0) (fun k hk e => by have := hk.2.1; simp at e; omega) _) (fun _ _ => trivial)
    ·exact (((hbn'.out.mono (Nat.le_of_lt hBs'.out)).trans hb0.out).trans (HBA.out.mono (Nat.le_succ B))).setCell (p := ⟨B, 0, none⟩) (Nat.le_refl B) _
end Q21

namespace Bts
attribute [local go_sem] max2_int min2_int max_two min_two max_three min_three
open Q15 (cnx bnx)
open Q21 (cell_blk frozen_blk)
theorem info_u8 : (Tryz.prog.info? 5).map (fun i => (i.zero, i.size, i.bytes)) = some (some (.int .u8 0), 1, 1) := by kernel_rfl
def Wr (w : World) (base p : Nat) (q : Option Nat) (l : List Int) : Prop :=
 ∃ v, w.heap[p]? = some (.cells #[v, .int .i64 l.length] 109 (0, 0)) ∧ (Kd.int .u8).R 5 w base (fun _ => True) v (packL l) ∧ q = v.ownBlock ∧ isBits l ∧ base ≤ p ∧ l.length ≤ 1048576
def WrP (base p : Nat) (q : Option Nat) (l : List Int) (w w' : World) : Prop := ∃ q', Wr w' base p q' l ∧ (q' = q ∨ ∃ g, q' = some g ∧ w.heap.size ≤ g) ∧ Kp p q w w'
theorem Wr.qbase {w : World} {base p : Nat} {q : Option Nat} {l : List Int} (h : Wr w base p q l) : ∀ k, q = some k → base ≤ k ∧ k < w.heap.size := fun k hk => by
 obtain ⟨v, _, hR, hq, _⟩ := h
 have := (Kd.R_bound hR).1 k (by rw [← hq, hk])
 exact ⟨this.2.1, this.2.2.1⟩
theorem Wr.plt {w : World} {base p : Nat} {q : Option Nat} {l : List Int} (h : Wr w base p q l) : p < w.heap.size := by
 obtain ⟨v, hb, _⟩ := h
 exact blk_lt hb
theorem Wr.bits {w : World} {base p : Nat} {q : Option Nat} {l : List Int} (h : Wr w base p q l) : isBits l := by
 obtain ⟨v, _, _, _, h, _⟩ := h
 exact h
theorem Wr.base {w : World} {base p : Nat} {q : Option Nat} {l : List Int} (h : Wr w base p q l) : base ≤ p := by
 obtain ⟨v, _, _, _, _, h, _⟩ := h
 exact h
theorem WrP.refl {w : World} {base p : Nat} {q : Option Nat} {l : List Int} (h : Wr w base p q l) : WrP base p q l w w := ⟨q, h, .inl rfl, Kp.refl _ _ _⟩
theorem WrP.trans {w w1 w2 : World} {base p : Nat} {q q1 : Option Nat} {l : List Int} (hk : Kp p q w w1) (hq : q1 = q ∨ ∃ g, q1 = some g ∧ w.heap.size ≤ g) (h2 : WrP base p q1 l w1 w2) : WrP base p q l w w2 := by
 obtain ⟨q2, hw, hq2, hk2⟩ := h2
 refine ⟨q2, hw, ?_, hk.trans hk2 hq⟩
 rcases hq2 with e | ⟨g, e, hg⟩
 ·rw [e]
  exact hq
 ·exact .inr ⟨g, e, Nat.le_trans hk.size hg⟩
theorem WrP.below {w w1 : World} {base p : Nat} {q : Option Nat} {l0 l : List Int} (h0 : Wr w base p q l0) (h : WrP base p q l w w1) (hB : base ≤ w.heap.size) : Below base w w1 := by
 obtain ⟨q1, hw, hq, hk⟩ := h
 exact hk.below hw.base (fun k e => (h0.qbase k e).1) hB
set_option maxRecDepth 100000 in
set_option maxHeartbeats 4000000 in
theorem add_calls (base p : Nat) (q : Option Nat) (l : List Int) (b : Int) (w : World) (hw : Wr w base p q l) (hb : b = 0 ∨ b = 1) (hl : l.length + 1 ≤ 1048576) :
  Calls Tryz.prog 183 #[.pointer (some ⟨p, 0, none⟩), .int .i64 b] w fun e w' => e = .returned (.tuple #[]) ∧ WrP base p q (l ++ [b]) w w' := by
 obtain ⟨v, hB, hR, hq, hbits, hbp, hlen⟩ := hw
 have hmo := Aside0.mk (show Tryz.prog.follows .mixedOrders = true by kernel_rfl)
 have k0 : w.cell? ⟨p, 0, none⟩ = some v := by rw [cell_blk hB]; rfl
 have k1 : w.cell? ⟨p, 1, none⟩ = some (.int .i64 l.length) := by rw [cell_blk hB]; rfl
 have f0 := frozen_blk hB 0
 have f1 := frozen_blk hB 1
 have hlI : (l.length : Int) ≤ 2000000 := by omega
 have hne : some p ≠ v.ownBlock := Kd.R_ne hR hB (by decide)
 obtain ⟨A, c, rfl⟩ : ∃ A c, v = .slice A (packL l).length c := Kd.R_slice hR
 by_cases h8 : l.length % 8 = 0
 ·have t1 : ((l.length : Int) % 8 == 0) = true := by rw [beq_iff_eq]; omega
  have hbl := Aside0.mk hbits
  replace hR := Aside0.mk hR
  replace hB := Aside0.mk hB
  replace h8 := Aside0.mk h8
  replace hq := Aside0.mk hq
  replace hne := Aside0.mk hne
  have hnl : Aside0 (((packL l).length + 1) * 1 ≤ 140737488355328) := ⟨by rw [packL_len]; omega⟩
  replace hl := Aside0.mk hl
  clear hbits hlen
  have hbs : Aside0 (base ≤ w.heap.size) := ⟨by have := blk_lt hB.out; omega⟩
  replace k1 := Aside0.mk k1
  go_enter Tryz.func183, Tryz.ntmps183
  have k1' := k1.out
  go_wp2_with (first | (at_builtin; refine Kd.R_append (Kd.int .u8) (w0 := w) base rfl (.tmp 14) (.tmp 15) 107 5 (.int .u8 0) 1 rfl Tryz.underlying107 info_u8 rfl (by decide) (by decide) (.slice A (packL l).length c) (packL l) 0 [.int .u8 0] (fun _ => True) (fun _ => False) rfl rfl rfl (fun _ hk => hk.elim) (fun _ _ => trivial) hR.out (Below.refl _ _) hbs.out hnl.out ?_; intro v1 wA hoA hbA hgA hatA; have hqA := Aside0.mk hatA; clear hatA hbA; have hBA := (hgA.block p (blk_lt hB.out) hne.out).trans hB.out; replace hgA := Aside0.mk hgA; clear k0 f0 f1 k1'; have k0 : wA.cell? ⟨p, 0, none⟩ = some (.slice A (packL l).length c) := (by rw [cell_blk hBA]; rfl); have f0 := frozen_blk hBA 0; have k1' : wA.cell? ⟨p, 1, none⟩ = some (.int .i64 l.length) := (by rw [cell_blk hBA]; rfl); have hslA := R_some hoA (by simp); obtain ⟨g, c1, rfl⟩ := hslA; replace hoA := Aside0.mk hoA; replace hBA := Aside0.mk hBA))
  have hml : Aside0 ((packL l ++ [0]).length = (packL l).length + 1) := ⟨by simp⟩
  rw [hml.out] at hoA
  go_wp2_with fail
  obtain ⟨m, hm⟩ : ∃ m, m = (packL l).length + 1 := ⟨_, rfl⟩
  rw [← hm] at hoA ⊢
  obtain ⟨W2, hW2⟩ : ∃ W2, W2 = wA.setCell ⟨p, 0, none⟩ (.slice (some ⟨g, 0, none⟩) m c1) := ⟨_, rfl⟩
  rw [← hW2]
  have hB2 : W2.heap[p]? = some (.cells #[.slice (some ⟨g, 0, none⟩) m c1, .int .i64 l.length] 109 (0, 0)) := by rw [hW2]; exact blk_set hBA.out 0 _
  have hR2 : (Kd.int .u8).R 5 W2 base (fun _ => True) (.slice (some ⟨g, 0, none⟩) m c1) (packL l ++ [0]) := by rw [hW2]; exact Kd.R_set hoA.out hBA.out (by decide) 0 _
  have hqg : Aside0 (q = some g ∨ w.heap.size ≤ g) := ⟨by
   rcases hqA.out with e | ⟨b0, e, hle⟩
   ·exact .inl (by rw [hq.out, ← e]; rfl)
   ·have : some g = some b0 := e
    cases this
    exact .inr hle⟩
  have hK2 : Kp p q w W2 := by rw [hW2, hq.out]; exact (Kp.of_grown hgA.out p).setP 0 _
  have hV : Aside0 ((packL l ++ [0]).set (l.length / 8) (byteAt l (l.length / 8) + b * 2 ^ (7 - l.length % 8)) = packL (l ++ [b])) := ⟨by
   rw [packL_new b h8.out, List.set_append_right _ _ (by rw [packL_len]; have := h8.out; omega), packL_len]
   have e0 : byteAt l (l.length / 8) = 0 := by unfold byteAt; rw [byteTo_past (l := l) _ 0 8 (by omega) (by have := h8.out; omega)]; rfl
   have e1 : l.length / 8 - (l.length + 7) / 8 = 0 := by have := h8.out; omega
   rw [e0, e1, h8.out]
   simp⟩
  obtain ⟨V, hVe⟩ : ∃ V, V = packL l ++ [0] := ⟨_, rfl⟩
  rw [← hVe] at hR2 hV
  have e0 : byteAt l (l.length / 8) = 0 := by unfold byteAt; rw [byteTo_past (l := l) _ 0 8 (by omega) (by have := h8.out; omega)]; rfl
  have hx : rd V (l.length / 8 : Nat) = byteAt l (l.length / 8) := by
   rw [e0, hVe]
   have e1 : l.length / 8 = (packL l).length := by rw [packL_len]; have := h8.out; omega
   simp [rd, e1]
  have hix : l.length / 8 < m := by rw [hm, packL_len]; have := h8.out; omega
  have hlo : ∃ a : Int, byteAt l (l.length / 8) = a * 2 ^ (8 - l.length % 8) ∧ 0 ≤ a ∧ a ≤ 2 ^ (l.length % 8) - 1 := ⟨0, by rw [e0]; simp, by omega, by rw [h8.out]; simp⟩
  clear e0
  clear k0 k1' f0 hW2 hoA hBA hgA hVe hml hm
  have k0 : W2.cell? ⟨p, 0, none⟩ = some (.slice (some ⟨g, 0, none⟩) m c1) := by rw [cell_blk hB2]; rfl
  have k1' : W2.cell? ⟨p, 1, none⟩ = some (.int .i64 l.length) := by rw [cell_blk hB2]; rfl
  have k2 := (Kd.R_celln 0 hR2 (l.length / 8 : Nat) (by omega) (by omega)).1
  have f2 := (Kd.R_celln 0 hR2 (l.length / 8 : Nat) (by omega) (by omega)).2
  rw [Int.toNat_natCast] at k2 f2
  have hxo : rdOf 0 V ((l.length / 8 : Nat) : Int) = byteAt l (l.length / 8) := by rw [← hx]; rfl
  rw [hxo] at k2
  obtain ⟨x, hxe⟩ : ∃ x, x = byteAt l (l.length / 8) := ⟨_, rfl⟩
  rw [← hxe] at k2 hlo hx hV
  obtain ⟨j, hj⟩ : ∃ j, j = l.length / 8 := ⟨_, rfl⟩
  obtain ⟨r, hr⟩ : ∃ r, r = l.length % 8 := ⟨_, rfl⟩
  have hq8 : (l.length : Int) / 8 = (j : Int) := by omega
  have hr8 : (l.length : Int) % 8 = (r : Int) := by omega
  have hq9 : (l.length : Int).tdiv 8 = (j : Int) := by rw [Int.tdiv_eq_ediv_of_nonneg (by omega)]; exact hq8
  have hr9 : (l.length : Int).tmod 8 = (r : Int) := by rw [Int.tmod_eq_emod_of_nonneg (by omega)]; exact hr8
  have hrI : (r : Int) < 8 := by omega
  rw [← hj] at k2 f2 hV hix
  rw [← hr] at hlo hV
  have hixI : (j : Int) < (m : Int) := by omega
  have h7r : (7 : Int) - (r : Int) = ((7 - r : Nat) : Int) := by omega
  obtain ⟨sh, hsh⟩ : ∃ sh, sh = 7 - r := ⟨_, rfl⟩
  rw [← hsh] at h7r hV
  have hshI : (sh : Int) ≤ 7 := by omega
  have hp2 : (2 : Int) ^ sh ≤ 128 := by
   have h1 : 2 ^ sh ≤ 2 ^ 7 := Nat.pow_le_pow_right (by omega) (by omega)
   have h2 : ((2 ^ sh : Nat) : Int) = 2 ^ sh := by simp
   omega
  have hp0 : (0 : Int) < 2 ^ sh := Int.pow_pos (by omega)
  obtain ⟨y, hy⟩ : ∃ y, b * 2 ^ sh = y := ⟨_, rfl⟩
  have hyb : 0 ≤ y ∧ y ≤ 128 := by rw [← hy]; rcases hb with e | e <;> rw [e] <;> omega
  have hjw : IntKind.i64.wrap (j : Int) = j := IntWalk.i64_in _ (by have := hl.out; omega)
  have hsw : IntKind.i64.wrap (sh : Int) = sh := IntWalk.i64_in _ (by omega)
  have hyw : IntKind.i64.wrap y = y := IntWalk.i64_in _ (by omega)
  have hyw8 : IntKind.u8.wrap y = y := IntWalk.u8_in _ (by omega)
  obtain ⟨nv, hnv⟩ : ∃ nv, nv = x + y := ⟨_, rfl⟩
  have hor : bits .or .u8 x y = nv := by
   obtain ⟨a, e, a0, a1⟩ := hlo
   have h := or_bits a b r (by omega) a0 a1 hb
   rw [← hsh] at h
   rw [e, hnv, ← hy, e]
   exact h
  rw [hy, ← hnv] at hV
  replace hnv := Aside0.mk hnv
  clear hp2 hp0 hyb
  replace hj := Aside0.mk hj
  replace hr := Aside0.mk hr
  replace hsh := Aside0.mk hsh
  replace hxe := Aside0.mk hxe
  replace hlo := Aside0.mk hlo
  replace hB2 := Aside0.mk hB2
  replace hR2 := Aside0.mk hR2
  replace hK2 := Aside0.mk hK2
  have hb' := Aside0.mk hb
  clear hx hxo hix hlI hb t1
  go_wp2_with fail
  refine wp_region_last_drew (S := fun w' => w'.cell? ⟨p, 0, none⟩ = some (.slice (some ⟨g, 0, none⟩) m c1) ∧ w'.cell? ⟨p, 1, none⟩ = some (.int .i64 l.length) ∧ w'.cell? ⟨g, j, none⟩ = some (.int .u8 x)) (ds := [22]) hmo.out ⟨k0, k1', k2⟩ (fun hHeld => ?_)
  (refine Tk.tl 0 (.pointer (some ⟨p, 0, none⟩)) hHeld ?_)
  (refine Tk.tl 1 (.pointer (some ⟨p, 0, none⟩)) hHeld ?_)
  (refine Tk.tl 2 (.pointer (some ⟨p, 0, none⟩)) hHeld ?_)
  (refine Tk.tl 3 (.slice (some ⟨g, 0, none⟩) m c1) hHeld ?_)
  (refine Tk.tl 4 (.pointer (some ⟨p, 0, none⟩)) hHeld ?_)
  (refine Tk.tl 5 (.pointer (some ⟨p, 0, none⟩)) hHeld ?_)
  (refine Tk.tl 6 (.pointer (some ⟨p, 1, none⟩)) hHeld ?_)
  (refine Tk.tl 7 (.int .i64 l.length) hHeld ?_)
  (refine Tk.tl 8 (.int .i64 j) hHeld ?_)
  (refine Tk.tl 9 (.pointer (some ⟨g, j, none⟩)) hHeld ?_)
  (refine Tk.tl 10 (.int .u8 x) hHeld ?_)
  (refine Tk.tl 11 (.int .i64 b) hHeld ?_)
  (refine Tk.tl 12 (.pointer (some ⟨p, 0, none⟩)) hHeld ?_)
  (refine Tk.tl 13 (.pointer (some ⟨p, 0, none⟩)) hHeld ?_)
  (refine Tk.tl 14 (.pointer (some ⟨p, 1, none⟩)) hHeld ?_)
  (refine Tk.tl 15 (.int .i64 l.length) hHeld ?_)
  (refine Tk.tl 16 (.int .i64 r) hHeld ?_)
  (refine Tk.tl 17 (.int .i64 sh) hHeld ?_)
  (refine Tk.tl 18 (.int .i64 y) hHeld ?_)
  (refine Tk.tl 19 (.int .u8 y) hHeld ?_)
  (refine Tk.tl 20 (.int .u8 nv) hHeld ?_)
  (refine Tk.tl 21 (.pointer (some ⟨g, j, none⟩)) hHeld ?_)
  (refine wpAnyLast_ready (rs := [22]) (by kernel_rfl) (by simp) ?_; refine AllReadyL.cons_last rfl (by decide) (fun K hK => ?_) AllReadyL.nil)
  go_simp
  go_wp2_with fail
  refine hK.out _ _ ?_
  clear hK K
  try simp only [Act.put, List.setIfInBounds_toArray, List.set_cons_zero, List.set_cons_succ]
  refine wpAnyLast_done (by kernel_rfl) ?_ _
  obtain ⟨W3, hW3⟩ : ∃ W3, W3 = (W2.setCell ⟨g, j, none⟩ (.int .u8 nv)).drew := ⟨_, rfl⟩
  rw [← hW3]
  have hgp : p ≠ g := fun e => Kd.R_ne hR2.out hB2.out (by decide) (by rw [e]; rfl)
  have hB3 : W3.heap[p]? = some (.cells #[.slice (some ⟨g, 0, none⟩) m c1, .int .i64 l.length] 109 (0, 0)) := by rw [hW3]; exact blk_far hB2.out (p := ⟨g, j, none⟩) hgp _
  have hR3 : (Kd.int .u8).R 5 W3 base (fun _ => True) (.slice (some ⟨g, 0, none⟩) m c1) (V.set j nv) := by
   have h := Kd.R_putn hR2.out (j : Int) nv
   rw [Int.toNat_natCast] at h
   rw [hW3]
   exact h
  have hK3 : Kp p q w W3 := by rw [hW3]; exact (hK2.out.setQ hqg.out j _).drew
  have e1 : W3.cell? ⟨p, 1, none⟩ = some (.int .i64 l.length) := by rw [cell_blk hB3]; rfl
  have g1 := frozen_blk hB3 1
  rw [hV.out] at hR3
  have hE := Aside0.mk (And.intro hB3 (And.intro hR3 hK3))
  have hnI : (l.length : Int) ≤ 2000000 := by have := hl.out; omega
  clear hB3 hR3 hK3 hW3 hHeld k0 k1' k2 f2 hq8 hr8 hq9 hr9 hjw hsw hyw hyw8 hor h7r hy
  go_wp2_with fail
  go_end0
  obtain ⟨hB3, hR3, hK3⟩ := hE.out
  have h1 := blk_set hB3 1 (.int .i64 ((l.length : Int) + 1))
  refine ⟨rfl, some g, ⟨.slice (some ⟨g, 0, none⟩) m c1, ?_, Kd.R_set hR3 hB3 (by decide) 1 _, rfl, isBits_app hbl.out (isBits_one hb'.out), hbp, by simpa using hl.out⟩, hqg.out.imp (fun e => e.symm) (fun h => ⟨g, rfl, h⟩), hK3.setP 1 _⟩
  rw [h1]
  simp
 ·have t1 : ((l.length : Int) % 8 == 0) = false := by rw [beq_eq_false_iff_ne]; omega
  have hbl := Aside0.mk hbits
  replace hl := Aside0.mk hl
  have hm0 : 0 < (packL l).length := by rw [packL_len]; omega
  obtain ⟨g, c9, hAe⟩ := R_some hR hm0
  injection hAe with hAe1 hAe2 hAe3
  subst hAe1
  subst hAe3
  have hqg : Aside0 (q = some g ∨ w.heap.size ≤ g) := ⟨.inl hq⟩
  have hV : Aside0 ((packL l).set (l.length / 8) (byteAt l (l.length / 8) + b * 2 ^ (7 - l.length % 8)) = packL (l ++ [b])) := ⟨(packL_in b h8).symm⟩
  have hx : rd (packL l) (l.length / 8 : Nat) = byteAt l (l.length / 8) := rd_packL (by omega)
  have hlo := byteAt_low hbits h8
  obtain ⟨W2, hW2⟩ : ∃ W2, W2 = w := ⟨_, rfl⟩
  have hB2 := hB
  have hR2 := hR
  have hK2 := Kp.refl p q w
  obtain ⟨m, hm⟩ : ∃ m, m = (packL l).length := ⟨_, rfl⟩
  have hix : l.length / 8 < m := by rw [hm, packL_len]; omega
  rw [← hm] at hR2 hB2 k0
  clear hbits hlen hne hm0 hq k0 k1 f0 f1 hB hR h8
  go_enter Tryz.func183, Tryz.ntmps183
  rw [← hW2]
  have hB3 : W2.heap[p]? = some (.cells #[.slice (some ⟨g, 0, none⟩) m c, .int .i64 l.length] 109 (0, 0)) := by rw [hW2]; exact hB2
  have hR3 : (Kd.int .u8).R 5 W2 base (fun _ => True) (.slice (some ⟨g, 0, none⟩) m c) (packL l) := by rw [hW2]; exact hR2
  have hK3 : Kp p q w W2 := by rw [hW2]; exact hK2
  clear hB2 hR2 hK2
  have hB2 := hB3
  have hR2 := hR3
  have hK2 := hK3
  clear hB3 hR3 hK3
  have k1'' : W2.cell? ⟨p, 1, none⟩ = some (.int .i64 l.length) := by rw [cell_blk hB2]; rfl
  replace hx := Aside0.mk hx
  replace hlo := Aside0.mk hlo
  replace hW2 := Aside0.mk hW2
  replace hm := Aside0.mk hm
  replace hix := Aside0.mk hix
  go_wp2_with fail
  replace hx := hx.out
  replace hlo := hlo.out
  replace hix := hix.out
  obtain ⟨V, hVe⟩ : ∃ V, V = packL l := ⟨_, rfl⟩
  rw [← hVe] at hR2 hV hx
  clear k1'' hVe hm
  have k0 : W2.cell? ⟨p, 0, none⟩ = some (.slice (some ⟨g, 0, none⟩) m c) := by rw [cell_blk hB2]; rfl
  have k1' : W2.cell? ⟨p, 1, none⟩ = some (.int .i64 l.length) := by rw [cell_blk hB2]; rfl
  have k2 := (Kd.R_celln 0 hR2 (l.length / 8 : Nat) (by omega) (by omega)).1
  have f2 := (Kd.R_celln 0 hR2 (l.length / 8 : Nat) (by omega) (by omega)).2
  rw [Int.toNat_natCast] at k2 f2
  have hxo : rdOf 0 V ((l.length / 8 : Nat) : Int) = byteAt l (l.length / 8) := by rw [← hx]; rfl
  rw [hxo] at k2
  obtain ⟨x, hxe⟩ : ∃ x, x = byteAt l (l.length / 8) := ⟨_, rfl⟩
  rw [← hxe] at k2 hlo hx hV
  obtain ⟨j, hj⟩ : ∃ j, j = l.length / 8 := ⟨_, rfl⟩
  obtain ⟨r, hr⟩ : ∃ r, r = l.length % 8 := ⟨_, rfl⟩
  have hq8 : (l.length : Int) / 8 = (j : Int) := by omega
  have hr8 : (l.length : Int) % 8 = (r : Int) := by omega
  have hq9 : (l.length : Int).tdiv 8 = (j : Int) := by rw [Int.tdiv_eq_ediv_of_nonneg (by omega)]; exact hq8
  have hr9 : (l.length : Int).tmod 8 = (r : Int) := by rw [Int.tmod_eq_emod_of_nonneg (by omega)]; exact hr8
  have hrI : (r : Int) < 8 := by omega
  rw [← hj] at k2 f2 hV hix
  rw [← hr] at hlo hV
  have hixI : (j : Int) < (m : Int) := by omega
  have h7r : (7 : Int) - (r : Int) = ((7 - r : Nat) : Int) := by omega
  obtain ⟨sh, hsh⟩ : ∃ sh, sh = 7 - r := ⟨_, rfl⟩
  rw [← hsh] at h7r hV
  have hshI : (sh : Int) ≤ 7 := by omega
  have hp2 : (2 : Int) ^ sh ≤ 128 := by
   have h1 : 2 ^ sh ≤ 2 ^ 7 := Nat.pow_le_pow_right (by omega) (by omega)
   have h2 : ((2 ^ sh : Nat) : Int) = 2 ^ sh := by simp
   omega
  have hp0 : (0 : Int) < 2 ^ sh := Int.pow_pos (by omega)
  obtain ⟨y, hy⟩ : ∃ y, b * 2 ^ sh = y := ⟨_, rfl⟩
  have hyb : 0 ≤ y ∧ y ≤ 128 := by rw [← hy]; rcases hb with e | e <;> rw [e] <;> omega
  have hjw : IntKind.i64.wrap (j : Int) = j := IntWalk.i64_in _ (by have := hl.out; omega)
  have hsw : IntKind.i64.wrap (sh : Int) = sh := IntWalk.i64_in _ (by omega)
  have hyw : IntKind.i64.wrap y = y := IntWalk.i64_in _ (by omega)
  have hyw8 : IntKind.u8.wrap y = y := IntWalk.u8_in _ (by omega)
  obtain ⟨nv, hnv⟩ : ∃ nv, nv = x + y := ⟨_, rfl⟩
  have hor : bits .or .u8 x y = nv := by
   obtain ⟨a, e, a0, a1⟩ := hlo
   have h := or_bits a b r (by omega) a0 a1 hb
   rw [← hsh] at h
   rw [e, hnv, ← hy, e]
   exact h
  rw [hy, ← hnv] at hV
  replace hnv := Aside0.mk hnv
  clear hp2 hp0 hyb
  replace hj := Aside0.mk hj
  replace hr := Aside0.mk hr
  replace hsh := Aside0.mk hsh
  replace hxe := Aside0.mk hxe
  replace hlo := Aside0.mk hlo
  replace hB2 := Aside0.mk hB2
  replace hR2 := Aside0.mk hR2
  replace hK2 := Aside0.mk hK2
  have hb' := Aside0.mk hb
  clear hx hxo hix hlI hb t1
  go_wp2_with fail
  refine wp_region_last_drew (S := fun w' => w'.cell? ⟨p, 0, none⟩ = some (.slice (some ⟨g, 0, none⟩) m c) ∧ w'.cell? ⟨p, 1, none⟩ = some (.int .i64 l.length) ∧ w'.cell? ⟨g, j, none⟩ = some (.int .u8 x)) (ds := [22]) hmo.out ⟨k0, k1', k2⟩ (fun hHeld => ?_)
  (refine Tk.tl 0 (.pointer (some ⟨p, 0, none⟩)) hHeld ?_)
  (refine Tk.tl 1 (.pointer (some ⟨p, 0, none⟩)) hHeld ?_)
  (refine Tk.tl 2 (.pointer (some ⟨p, 0, none⟩)) hHeld ?_)
  (refine Tk.tl 3 (.slice (some ⟨g, 0, none⟩) m c) hHeld ?_)
  (refine Tk.tl 4 (.pointer (some ⟨p, 0, none⟩)) hHeld ?_)
  (refine Tk.tl 5 (.pointer (some ⟨p, 0, none⟩)) hHeld ?_)
  (refine Tk.tl 6 (.pointer (some ⟨p, 1, none⟩)) hHeld ?_)
  (refine Tk.tl 7 (.int .i64 l.length) hHeld ?_)
  (refine Tk.tl 8 (.int .i64 j) hHeld ?_)
  (refine Tk.tl 9 (.pointer (some ⟨g, j, none⟩)) hHeld ?_)
  (refine Tk.tl 10 (.int .u8 x) hHeld ?_)
  (refine Tk.tl 11 (.int .i64 b) hHeld ?_)
  (refine Tk.tl 12 (.pointer (some ⟨p, 0, none⟩)) hHeld ?_)
  (refine Tk.tl 13 (.pointer (some ⟨p, 0, none⟩)) hHeld ?_)
  (refine Tk.tl 14 (.pointer (some ⟨p, 1, none⟩)) hHeld ?_)
  (refine Tk.tl 15 (.int .i64 l.length) hHeld ?_)
  (refine Tk.tl 16 (.int .i64 r) hHeld ?_)
  (refine Tk.tl 17 (.int .i64 sh) hHeld ?_)
  (refine Tk.tl 18 (.int .i64 y) hHeld ?_)
  (refine Tk.tl 19 (.int .u8 y) hHeld ?_)
  (refine Tk.tl 20 (.int .u8 nv) hHeld ?_)
  (refine Tk.tl 21 (.pointer (some ⟨g, j, none⟩)) hHeld ?_)
  (refine wpAnyLast_ready (rs := [22]) (by kernel_rfl) (by simp) ?_; refine AllReadyL.cons_last rfl (by decide) (fun K hK => ?_) AllReadyL.nil)
  go_simp
  go_wp2_with fail
  refine hK.out _ _ ?_
  clear hK K
  try simp only [Act.put, List.setIfInBounds_toArray, List.set_cons_zero, List.set_cons_succ]
  refine wpAnyLast_done (by kernel_rfl) ?_ _
  obtain ⟨W3, hW3⟩ : ∃ W3, W3 = (W2.setCell ⟨g, j, none⟩ (.int .u8 nv)).drew := ⟨_, rfl⟩
  rw [← hW3]
  have hgp : p ≠ g := fun e => Kd.R_ne hR2.out hB2.out (by decide) (by rw [e]; rfl)
  have hB3 : W3.heap[p]? = some (.cells #[.slice (some ⟨g, 0, none⟩) m c, .int .i64 l.length] 109 (0, 0)) := by rw [hW3]; exact blk_far hB2.out (p := ⟨g, j, none⟩) hgp _
  have hR3 : (Kd.int .u8).R 5 W3 base (fun _ => True) (.slice (some ⟨g, 0, none⟩) m c) (V.set j nv) := by
   have h := Kd.R_putn hR2.out (j : Int) nv
   rw [Int.toNat_natCast] at h
   rw [hW3]
   exact h
  have hK3 : Kp p q w W3 := by rw [hW3]; exact (hK2.out.setQ hqg.out j _).drew
  have e1 : W3.cell? ⟨p, 1, none⟩ = some (.int .i64 l.length) := by rw [cell_blk hB3]; rfl
  have g1 := frozen_blk hB3 1
  rw [hV.out] at hR3
  have hE := Aside0.mk (And.intro hB3 (And.intro hR3 hK3))
  have hnI : (l.length : Int) ≤ 2000000 := by have := hl.out; omega
  clear hB3 hR3 hK3 hW3 hHeld k0 k1' k2 f2 hq8 hr8 hq9 hr9 hjw hsw hyw hyw8 hor h7r hy
  go_wp2_with fail
  go_end0
  obtain ⟨hB3, hR3, hK3⟩ := hE.out
  rw [hW2.out]
  have h1 := blk_set hB3 1 (.int .i64 ((l.length : Int) + 1))
  refine ⟨rfl, some g, ⟨.slice (some ⟨g, 0, none⟩) m c, ?_, Kd.R_set hR3 hB3 (by decide) 1 _, rfl, isBits_app hbl.out (isBits_one hb'.out), hbp, by simpa using hl.out⟩, hqg.out.imp (fun e => e.symm) (fun h => ⟨g, rfl, h⟩), hK3.setP 1 _⟩
  rw [h1]
  simp
end Bts

namespace Q21
attribute [local go_sem] max2_int min2_int max_two min_two max_three min_three
open Q15
theorem weightsL_snoc (f : List Int) (k : Int) : weightsL (f ++ [k]) = stepF (weightsL f) k := by
 unfold weightsL
 rw [List.foldl_append]
 rfl
theorem weightsL_bd (f : List Int) (hf : ∀ x ∈ f, -127 ≤ x ∧ x ≤ 127) : ∀ j : Nat, j ≤ f.length → ∀ x ∈ weightsL (f.take j), -(4096 * (2 : Int) ^ j) ≤ x ∧ x ≤ 4096 * (2 : Int) ^ j
 | 0, _ => fun x hx => by simp [weightsL] at hx
 | j + 1, hj => by
  have h1 := weightsL_bd f hf j (by omega)
  rw [take_rd f j (by omega), weightsL_snoc]
  have hp : (1 : Int) ≤ 2 ^ j := by
   have : 1 ≤ 2 ^ j := Nat.one_le_two_pow
   exact_mod_cast this
  have h2 := stepF_bd (M := 4096 * (2 : Int) ^ j) (hf _ (rd_mem f j (by omega))) (by omega) h1
  intro x hx
  have := h2 x hx
  rw [Int.pow_succ]
  omega
theorem weightsL_lim (f : List Int) (hf : ∀ x ∈ f, -127 ≤ x ∧ x ≤ 127) (hn : f.length ≤ 12) {j : Nat} (hj : j ≤ f.length) : ∀ x ∈ weightsL (f.take j), -16777216 ≤ x ∧ x ≤ 16777216 := fun x hx => by
 have h1 := weightsL_bd f hf j hj x hx
 have h2 : (2 : Int) ^ j ≤ 4096 := (by decide : ∀ j, j < 13 → (2 : Int) ^ j ≤ 4096) j (by omega)
 omega
set_option maxRecDepth 100000 in
set_option maxHeartbeats 2000000 in
theorem weights_calls (A : Option Addr) (cap : Nat) (l : List Int) (w : World) (hr : (Kd.int .i64).C w A l.length l) (hl : l.length ≤ 12) (hf : ∀ x ∈ l, -127 ≤ x ∧ x ≤ 127) :
  Calls Tryz.prog 119 #[.slice A l.length cap] w fun e w' => ∃ v, e = .returned v ∧ (Kd.int .i64).R 3 w' w.heap.size (fun _ => True) v (weightsL l) ∧ Below w.heap.size w w' := by
 have HR := Aside0.mk hr
 have hlI : (l.length : Int) ≤ 12 := by omega
 have HLim := Aside0.mk (fun j hj => weightsL_lim l hf hl (j := j) hj)
 have HF := Aside0.mk (fun j (hj : j < l.length) => hf _ (rd_mem l j hj))
 have HS := Aside0.mk (fun (j : Nat) (hj : j < l.length) => (weightsL_snoc (l.take j) (rd l j)))
 clear hr hf hl
 go_enter Tryz.func119, Tryz.ntmps119
 go_wp2_with fail
 obtain ⟨W, hW⟩ : ∃ W, W = w.alloc (.cells #[.slice none 0 0] 22) := ⟨_, rfl⟩
 have hB : W.heap[w.heap.size]? = some (.cells #[.slice none 0 0] 22 (0, 0)) := by rw [hW]; exact heap_alloc_new _ _
 have hb : Below w.heap.size w W := by rw [hW]; exact (Below.refl _ _).alloc (Nat.le_refl _) _
 rw [← hW]
 obtain ⟨B, hBe⟩ : ∃ B, B = w.heap.size := ⟨_, rfl⟩
 rw [← hBe] at hB hb ⊢
 have hBe' := Aside0.mk hBe
 have hB' := Aside0.mk hB
 have hb' := Aside0.mk hb
 clear hW hBe hB hb
 go_loopw [10] (fun i wr => ∃ j : Nat, i = .int .i64 j ∧ j ≤ l.length ∧ Aside0 (∃ v, wr.heap[B]? = some (.cells #[v] 22 (0, 0)) ∧ (Kd.int .i64).R 3 wr (B + 1) (fun _ => True) v (weightsL (l.take j))) ∧ Aside0 (Below B w wr)) (fun i _ => l.length - (intOf i).toNat)
 case atStart => exact ⟨0, rfl, by omega, ⟨⟨_, hB'.out, Kd.R_nil _ _ _ _ _⟩⟩, hb'⟩
 case round =>
  obtain ⟨j, rfl, hj, ho, hbL⟩ := hrel
  by_cases hlt : j < l.length
  ·obtain ⟨v, hv1, hv2⟩ := ho.out
   have hbw : Below w.heap.size w wr := by rw [← hBe'.out]; exact hbL.out
   obtain ⟨ad, rfl, hcell⟩ := el_at HR.out hbw hlt
   have hjI : (j : Int) < (l.length : Int) := by omega
   have hk := HF.out j hlt
   have hT := HS.out j hlt
   have HC := step_calls B v (weightsL (l.take j)) (rd l j) 16777216 wr hv1 hv2 (by rw [weightsL_len, List.length_take]; omega) hk (by decide) (by decide) (HLim.out j hj)
   rw [← hT, ← take_rd l j hlt] at HC
   replace HC := Aside0.mk HC
   obtain ⟨k, hkk⟩ : ∃ k, k = rd l j := ⟨_, rfl⟩
   rw [← hkk] at hcell HC
   clear hv1 hv2 hbw hT hkk ho hk
   go_wp2_with fail
   refine HC.out.mono ?_; rintro e w' ⟨rfl, ⟨v', hv1, hv2⟩, hbn⟩
   have ho2 : Aside0 (∃ v, w'.heap[B]? = some (.cells #[v] 22 (0, 0)) ∧ (Kd.int .i64).R 3 w' (B + 1) (fun _ => True) v (weightsL (l.take (j + 1)))) := ⟨⟨v', hv1, hv2⟩⟩
   have hb2 : Aside0 (Below B w w') := ⟨hbL.out.trans hbn⟩
   clear hv1 hv2 hbn HC hbL
   go_wp2_with fail
   go_roundw
   case rel => exact ⟨j + 1, by go_num, by omega, ho2, hb2⟩
   case measure => simp [intOf]; omega
  ·obtain rfl : j = l.length := by omega
   obtain ⟨v, hv1, hv2⟩ := ho.out
   rw [List.take_length] at hv2
   obtain ⟨A5, p5, rfl, -, -⟩ := Kd.R_reads hv2
   have c1 : wr.cell? ⟨B, 0, none⟩ = some (.slice A5 (weightsL l).length p5) := by rw [cell_blk hv1]; rfl
   have hv2' := Aside0.mk hv2
   clear hv1 hv2 ho
   go_wp2_with fail
   go_ret
   exact ⟨_, rfl, by rw [← hBe'.out]; exact Kd.R_lower hv2'.out (Nat.le_succ B), by rw [← hBe'.out]; exact hbL.out⟩
def wgtE (l : List Int) : Int := if isFil l then 0 else 1
def wgtL (l : List Int) : List Int := if isFil l then weightsL l else []
theorem isFil_facts {l : List Int} (h : isFil l = true) : l.length ≤ 12 ∧ ∀ x ∈ l, -127 ≤ x ∧ x ≤ 127 := by
 unfold isFil at h
 rw [Bool.and_eq_true] at h
 refine ⟨of_decide_eq_true h.1, fun x hx => ?_⟩
 have := List.all_eq_true.1 h.2 x hx
 exact of_decide_eq_true this
set_option maxRecDepth 100000 in
set_option maxHeartbeats 2000000 in
theorem Weights_calls (A : Option Addr) (cap : Nat) (l : List Int) (w : World) (hr : (Kd.int .i64).C w A l.length l) (hl : l.length ≤ 1000000) :
  Calls Tryz.prog 71 #[.slice A l.length cap] w (Outs (wgtL l) (wgtE l) w) := by
 have hb := Below.refl w.heap.size w
 have HC := isFilter_calls A cap l w hr hl
 unfold wgtL wgtE
 cases hd : isFil l with
 | false =>
  rw [hd] at HC
  replace HC := Aside0.mk HC
  rw [if_neg (by decide), if_neg (by decide)]
  clear hd hr hl
  go_enter Tryz.func71, Tryz.ntmps71
  go_wp2_with (first | (go_at_call 118; refine (HC.out).mono ?_; rintro e w' ⟨rfl, hbn⟩; replace hb := bnx hb hbn; clear hbn))
  go_ret2
  exact ⟨none, 0, rfl, Kd.C_nil _ _, hb⟩
 | true =>
  rw [hd] at HC
  obtain ⟨h12, hf⟩ := isFil_facts hd
  have HW := Aside0.mk (fun (W : World) (hb : Below w.heap.size w W) => weights_calls A cap l W (Kd.C_below hr hb) h12 hf)
  replace HC := Aside0.mk HC
  rw [if_pos rfl, if_pos rfl]
  obtain ⟨L, hLL⟩ : ∃ L, L = weightsL l := ⟨_, rfl⟩
  rw [← hLL] at HW ⊢
  clear hd hr h12 hf hLL hl
  go_enter Tryz.func71, Tryz.ntmps71
  go_wp2_with (first | (go_at_call 118; refine (HC.out).mono ?_; rintro e w' ⟨rfl, hbn⟩; replace hb := bnx hb hbn; clear hbn))
  refine (HW.out _ hb).mono ?_; rintro e w1 ⟨v, rfl, hR, hbn⟩; replace hb := bnx hb hbn
  obtain ⟨B5, p5, rfl, -, hC5⟩ := Kd.R_reads hR
  replace hC5 := Aside0.mk hC5
  clear hbn hR
  go_wp2_with fail
  go_ret2
  exact ⟨_, _, rfl, hC5.out, hb⟩
end Q21

end Go.Proofs.YtnflnicdjioflaaGreatDoor
