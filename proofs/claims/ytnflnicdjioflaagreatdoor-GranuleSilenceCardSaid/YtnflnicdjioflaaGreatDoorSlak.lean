/- A part of the proof. -/
import Derived.Test.YtnflnicdjioflaaGreatDoorSlah
import Derived.Test.YtnflnicdjioflaaGreatDoorSlai
set_option linter.unusedVariables false
set_option linter.unusedSimpArgs false
set_option maxRecDepth 100000
set_option maxHeartbeats 8000000
namespace Go.Proofs.YtnflnicdjioflaaGreatDoor
open Go.RowKit Go.Proofs.YtnflnicdjioflaaGreatDoorW.PrintWords Go.Proofs.YtnflnicdjioflaaGreatDoorW.PrintLast Go.Proofs.YtnflnicdjioflaaGreatDoorW.PrintMore
namespace Q21
attribute [local go_sem] Qj Qi Ql Qk Qg Qf
open Q15
theorem add_mk (g j : Nat) : (⟨g, 0, none⟩ : Addr).add j = ⟨g, j, none⟩ := by
 unfold Addr.add
 split <;> simp_all
theorem add_block (a : Addr) (j : Nat) : (a.add j).block = a.block := by
 unfold Addr.add
 split <;> rfl
theorem Ie {w1 W W' : World} {b : Nat} (h1 : w1.grownBy W (some b)) (h2 : Below W.heap.size W W') : w1.grownBy W' (some b) :=
 ⟨h2.os.trans h1.os, h2.tape.trans h1.tape, h2.output.trans h1.output, Nat.le_trans h1.size h2.size, fun k hk hne => (h2.block k (Nat.lt_of_lt_of_le hk h1.size)).trans (h1.block k hk hne)⟩
theorem Ey {w1 W : World} {b B : Nat} (h1 : w1.grownBy W (some b)) (hb : B ≤ b) (hs : B ≤ w1.heap.size) : Below B w1 W :=
 ⟨h1.os, h1.tape, h1.output, h1.size, fun k hk => h1.block k (by omega) (fun e => by injection e with e; omega)⟩
theorem Qa4 {w1 W : World} {b : Nat} (h1 : w1.grownBy W (some b)) {p : Addr} (hp : p.block = b) (u : Value) : w1.grownBy (W.setCell p u) (some b) :=
 ⟨h1.os, h1.tape, h1.output, by simpa [World.setCell] using h1.size, fun k hk hne => (Below.heap_setCell W p u k (fun e => hne (by rw [e, hp]))).trans (h1.block k hk hne)⟩
theorem Qb {w : World} {B : Nat} {cs : Array Value} {t : TypeId} (h : w.heap[B]? = some (.cells cs t (0, 0))) (i : Nat) : w.cell? ⟨B, i, none⟩ = cs[i]? := by
 unfold World.cell?
 rw [h]
 rfl
theorem Qe {w : World} {B : Nat} {cs : Array Value} {t : TypeId} (h : w.heap[B]? = some (.cells cs t (0, 0))) (i : Nat) : w.frozen? ⟨B, i, none⟩ = false := by
 unfold World.frozen?
 rw [h]
 simp
theorem R_blk {w : World} {e base : Nat} {ad : Addr} {n p : Nat} {xs : List Int} (h : (Kd.int .i64).R e w base (fun _ => True) (.slice (some ad) n p) xs) : ad = ⟨ad.block, 0, none⟩ ∧ base ≤ ad.block ∧ ad.block < w.heap.size ∧ (∃ cur, w.heap[ad.block]? = some (.cells cur e (0, 0))) ∧ ∀ i : Nat, i < xs.length → w.cell? (ad.add i) = some (.int .i64 (rd xs i)) := by
 have ho := Kd.Zk (enc := Value.int .i64) (h1 := fun _ => rfl) h
 have hC := Kd.Qz h
 obtain ⟨A, p', e1, _, hC⟩ := hC
 injection e1 with e1 e2 e3
 subst e1
 rcases ho.2 with ⟨e1, _⟩ | ⟨g, cap, cur, e1, hb, hh, _⟩
 ·injection e1 with e1
  cases e1
 ·injection e1 with e1
  cases e1
  refine ⟨rfl, hb, Qq hh, ⟨cur, hh⟩, fun i hi => ?_⟩
  obtain ⟨ad, e2, hc⟩ := Qr hC (Below.refl _ _) hi
  cases e2
  exact hc
theorem Td (B : Nat) (v : Value) (a : List Int) (k M : Int) (w : World) (hB : w.heap[B]? = some (.cells #[v] 22 (0, 0))) (hR : (Kd.int .i64).R 3 w (B + 1) (fun _ => True) v a) (hal : a.length ≤ 12) (hk : -127 ≤ k ∧ k ≤ 127) (hM0 : 0 ≤ M) (hMb : M ≤ 16777216) (hM : ∀ x ∈ a, -M ≤ x ∧ x ≤ M) :
  Calls Tryz.prog 171 #[.int .i64 k, .pointer (some ⟨B, 0, none⟩)] w fun e w' => e = .returned (.tuple #[]) ∧ (∃ v', w'.heap[B]? = some (.cells #[v'] 22 (0, 0)) ∧ (Kd.int .i64).R 3 w' (B + 1) (fun _ => True) v' (Nc a k)) ∧ Below B w w' := by
 have hBs := Qq hB
 obtain ⟨A, p, rfl, hp, hC⟩ := Kd.Qz hR
 have HK := Qa.mk (Vo A p a w hC (by omega))
 have k0 : w.cell? ⟨B, 0, none⟩ = some (.slice A a.length p) := by rw [Qb hB]; rfl
 have hs32 : IntKind.i64.wrap (32 * k) = 32 * k := IntWalk.i64_in _ (by omega)
 cases A with
 | none =>
  have ha0 : a = [] := by
   obtain ⟨_, _, h⟩ := hC
   rcases Nat.eq_zero_or_pos a.length with h1 | h1
   ·exact List.length_eq_zero_iff.1 h1
   ·obtain ⟨a, e, _⟩ := h h1
    cases e
  subst ha0
  have HR := Qa.mk hR
  have HB := Qa.mk hB
  have hBs' := Qa.mk hBs
  have f0 := Qe hB 0
  clear hR hB hM hC hBs
  go_enter Tryz.func171, Tryz.ntmps171
  go_wp2_with fail
  refine HK.out.mono ?_; rintro e w1 ⟨u, rfl, hU, hbn⟩
  obtain ⟨Aw, pw, rfl, -, -⟩ := Kd.Qz hU
  have hBw : w1.heap[B]? = some (.cells #[.slice none ([] : List Int).length p] 22 (0, 0)) := (hbn.block B hBs'.out).trans HB.out
  have c1 : w1.cell? ⟨B, 0, none⟩ = some (.slice none ([] : List Int).length p) := by rw [Qb hBw]; rfl
  have f1 := Qe hBw 0
  have hR1 := Qa.mk (Kd.Qy HR.out hbn)
  have hbn' := Qa.mk hbn
  have hsz : Qa (B + 1 ≤ w1.heap.size) := ⟨Qq hBw⟩
  have hlen : Qa ((([] : List Int).length + 1) * 8 ≤ 140737488355328) := ⟨by simp⟩
  have hBw' := Qa.mk hBw
  clear k0 f0 hbn hU hBw
  go_wp2_with fail
  refine wp_loop_rounds 1 ?_
  rw [rounds_succ]
  go_wp2_with (first | (at_builtin; refine Kd.Z4 (Kd.int .i64) (w0 := w1) (B + 1) rfl (.tmp 30) (.tmp 33) 22 3 (.int .i64 0) 8 rfl Tryz.underlying22 Zd rfl (by decide) (by decide) (.slice none ([] : List Int).length p) [] (32 * k) [.int .i64 (32 * k)] (fun _ => True) (fun _ => False) rfl rfl rfl (fun _ hk => hk.elim) (fun _ _ => trivial) hR1.out (Below.refl _ _) hsz.out hlen.out ?_; intro v1 wA hoA hbA hgA hatA; obtain ⟨A6, p6, rfl, -, -⟩ := Kd.Qz hoA; have HOA := Qa.mk hoA; have HBA := Qa.mk hbA; have hBA := (hbA.block B (Nat.lt_succ_self B)).trans hBw'.out; have c2 : wA.cell? ⟨B, 0, none⟩ = some (.slice none ([] : List Int).length p) := (by rw [Qb hBA]; rfl); have f2 := Qe hBA 0; have hBA' := Qa.mk hBA; clear hoA hbA hgA hatA hBA))
  go_end0
  refine ⟨rfl, ⟨_, Q5 hBA'.out 0 _, ?_⟩, ?_⟩
  ·exact Kd.X9 (Kd.Jd (p := ⟨B, 0, none⟩) (Kd.Zg HOA.out) (fun k hk e => by have := hk.2.1; simp at e; omega) _) (fun _ _ => trivial)
  ·exact ((hbn'.out.mono (Nat.le_of_lt hBs'.out)).trans (HBA.out.mono (Nat.le_succ B))).setCell (p := ⟨B, 0, none⟩) (Nat.le_refl B) _
 | some ad =>
  obtain ⟨had, hg1, hg2, ⟨cur, hcur⟩, hcells⟩ := R_blk hR
  have HR := Qa.mk hR
  have hnI : (a.length : Int) ≤ 12 := by omega
  have HB := Qa.mk hB
  have hneB : Qa (some B ≠ some ad.block) := ⟨fun h => by injection h with h; omega⟩
  have HMM := Qa.mk (fun i (hi : i < a.length) => hM _ (Qt a i hi))
  replace had := Qa.mk had
  have hg1' := Qa.mk hg1
  have hg2' := Qa.mk hg2
  have hBs' := Qa.mk hBs
  have hmo := Qa.mk (show Tryz.prog.follows .mixedOrders = true by kernel_rfl)
  clear hR hB hM hC hcur hcells hg1 hg2 hBs
  go_enter Tryz.func171, Tryz.ntmps171
  go_wp2_with fail
  refine HK.out.mono ?_; rintro e w1 ⟨u, rfl, hU, hbn⟩
  have hU2 := Kd.Qz hU
  obtain ⟨Aw, pw, rfl, _, hCw⟩ := hU2
  replace hU := Qa.mk hU
  replace hCw := Qa.mk hCw
  have hB1 : Qa (w1.heap[B]? = some (.cells #[.slice (some ad) a.length p] 22 (0, 0))) := ⟨(hbn.block B hBs'.out).trans HB.out⟩
  have hR1 := Qa.mk (Kd.Qy HR.out hbn)
  have hbn' := Qa.mk hbn
  clear hbn k0
  go_wp2_with fail
  go_loopw [9] (fun i wr => ∃ j : Nat, i = .int .i64 j ∧ j ≤ a.length ∧ Qa ((Kd.int .i64).R 3 wr (B + 1) (fun _ => True) (.slice (some ad) a.length p) (U6 a k j)) ∧ Qa (w1.grownBy wr (some ad.block))) (fun i _ => a.length - (intOf i).toNat)
  case atStart => exact ⟨0, rfl, by omega, ⟨by rw [Qbf]; exact hR1.out⟩, ⟨⟨rfl, rfl, rfl, Nat.le_refl _, fun _ _ _ => rfl⟩⟩⟩
  case round =>
   obtain ⟨j, rfl, hj, ho, hG⟩ := hrel
   by_cases hlt : j < a.length
   ·obtain ⟨-, -, -, ⟨cur, hcur⟩, hcells⟩ := R_blk ho.out
    have c2 := hcells j (by rw [Gq]; exact hlt)
    rw [rd_updF a k hlt] at c2
    have c1 : wr.cell? ⟨B, 0, none⟩ = some (.slice (some ad) a.length p) := by
     have h := Qb hB1.out 0
     exact hG.out.cell h hneB.out
    have hfz : wr.frozen? (ad.add j) = false := by
     rw [had.out, add_mk]
     exact Qe hcur j
    obtain ⟨adw, rfl, c3⟩ := Qr hCw.out (Below.refl _ _) (k := a.length - 1 - j) (by omega)
    obtain ⟨-, hw1, -⟩ := R_blk hU.out
    replace c3 := hG.out.cell c3 (fun h => by
     rw [add_block] at h
     injection h with h
     have := hg2'.out
     omega)
    have b1 := HMM.out j hlt
    have b2 := HMM.out (a.length - 1 - j) (by omega)
    have hjI : (j : Int) < (a.length : Int) := by omega
    obtain ⟨m, hm⟩ : ∃ m, m = a.length - 1 - j := ⟨_, rfl⟩
    have hmI : (a.length : Int) - 1 - (j : Int) = (m : Int) := by omega
    have hnew : newF a k j = rd a j + rnd (k * rd a (m : Int)) := by unfold newF; rw [hm]
    rw [← hm] at c3 b2
    obtain ⟨y, hy⟩ : ∃ y, y = rd a (m : Int) := ⟨_, rfl⟩
    rw [← hy] at c3 b2 hnew
    obtain ⟨x, hx⟩ : ∃ x, x = rd a j := ⟨_, rfl⟩
    rw [← hx] at c2 b1 hnew
    have hpb := I4 hk b2
    have hrb := rnd_bd hk b2
    have HRd := fun W => L9 (k * y) W (by omega) (by omega)
    obtain ⟨z, hz⟩ : ∃ z, z = rnd (k * y) := ⟨_, rfl⟩
    rw [← hz] at HRd hrb hnew
    have hsum : IntKind.i64.wrap (x + z) = newF a k j := by rw [hnew]; exact IntWalk.i64_in _ (by omega)
    obtain ⟨nv, hnv⟩ : ∃ nv, nv = newF a k j := ⟨_, rfl⟩
    rw [← hnv] at hsum
    have hnv' := Qa.mk hnv
    have hmul : IntKind.i64.wrap (k * y) = k * y := IntWalk.i64_in _ (by omega)
    have h20 : IntKind.i64.wrap ((a.length : Int) - 1) = (a.length : Int) - 1 := IntWalk.i64_in _ (by omega)
    have h22 : IntKind.i64.wrap ((a.length : Int) - 1 - (j : Int)) = (m : Int) := by rw [hmI]; exact IntWalk.i64_in _ (by omega)
    have hml : (m : Int) < (a.length : Int) := by omega
    replace HRd := Qa.mk HRd
    have hcur' := Qa.mk hcur
    have hdr : Below wr.heap.size wr wr.drew := (Below.refl _ _).drew
    replace hdr := Qa.mk hdr
    clear hm hy hx hz hnv hnew hpb hrb b1 b2 hmI hcells hcur
    go_wp2_with fail
    refine Qs (S := fun w' => w'.cell? ⟨B, 0, none⟩ = some (.slice (some ad) a.length p) ∧ w'.cell? (ad.add j) = some (.int .i64 x) ∧ w'.cell? (adw.add m) = some (.int .i64 y)) (ds := [17]) hmo.out ⟨c1, c2, c3⟩ (fun hHeld => ?_)
    (refine Tk.tl 0 (.slice (some ad) a.length p) hHeld ?_)
    (refine Tk.tl 1 (.int .i64 j) hHeld ?_)
    (refine Tk.tl 2 (.pointer (some (ad.add j))) hHeld ?_)
    (refine Tk.tl 3 (.int .i64 x) hHeld ?_)
    (refine Tk.tl 4 (.int .i64 k) hHeld ?_)
    (refine Tk.tl 5 (.slice (some adw) a.length pw) hHeld ?_)
    (refine Tk.tl 6 (.slice (some adw) a.length pw) hHeld ?_)
    (refine Tk.tl 7 (.int .i64 a.length) hHeld ?_)
    (refine Tk.tl 8 (.int .i64 ((a.length : Int) - 1)) hHeld ?_)
    (refine Tk.tl 9 (.int .i64 j) hHeld ?_)
    (refine Tk.tl 10 (.int .i64 m) hHeld ?_)
    (refine Tk.tl 11 (.pointer (some (adw.add m))) hHeld ?_)
    (refine Tk.tl 12 (.int .i64 y) hHeld ?_)
    (refine Tk.tl 13 (.int .i64 (k * y)) hHeld ?_)
    (refine Qd (rs := [14]) (by kernel_rfl) (by simp) ?_; refine Qc.cons rfl (by decide) (fun K hK => ?_) Qc.nil)
    go_simp
    refine (HRd.out _).mono ?_
    rintro e w7 ⟨rfl, hb7⟩
    replace hb7 := Qa.mk (bnx hdr.out hb7)
    (go_wp2_with fail; refine hK.out _ _ (⟨cnx c1 hb7.out, cnx c2 hb7.out, cnx c3 hb7.out⟩) (fun hHeld => ?_); clear hK K; try simp only [Act.put, Tk.z1, Tk.z2, Tk.z3, Tk.z4, Tk.z5, Tk.z6])
    (refine Tk.tl 15 (.int .i64 nv) hHeld ?_)
    (refine Tk.tl 16 (.pointer (some (ad.add j))) hHeld ?_)
    have hG7 := Ie hG.out hb7.out
    have hR7 := Kd.Qy ho.out hb7.out
    have hfz7 : w7.frozen? (ad.add j) = false := by
     have h := hb7.out.frozen (p := ad.add j) (World.block_lt_of_cell? wr _ c2)
     rw [h]; exact hfz
    have c27 := cnx c2 hb7.out
    replace hR7 := Qa.mk hR7
    replace hG7 := Qa.mk hG7
    clear hb7 hfz c1 c2 c3
    (refine Qd (rs := [17]) (by kernel_rfl) (by simp) ?_; refine Qc.Zh rfl (by decide) (fun K hK => ?_) Qc.nil)
    go_simp
    go_wp2_with fail
    refine hK.out _ _ ?_
    clear hK K
    try simp only [Act.put, List.setIfInBounds_toArray, List.set_cons_zero, List.set_cons_succ]
    refine Qp (by kernel_rfl) ?_ _
    go_wp2_with fail
    go_roundw
    case rel =>
     refine ⟨j + 1, by go_num, by omega, ⟨?_⟩, ⟨?_⟩⟩
     ·rw [Qah a k hlt, ← hnv'.out]
      have h := hR7.out
      rw [had.out] at h ⊢
      rw [add_mk]
      have h2 := Kd.O4 h (j : Nat) nv
      rw [Int.toNat_natCast] at h2
      exact h2
     ·exact Qa4 (p := ad.add j) hG7.out (add_block ad j) _
    case measure => simp [intOf]; omega
   ·obtain rfl : j = a.length := by omega
    have hBw : wr.heap[B]? = some (.cells #[.slice (some ad) a.length p] 22 (0, 0)) := (hG.out.block B (Qq hB1.out) hneB.out).trans hB1.out
    have c1 : wr.cell? ⟨B, 0, none⟩ = some (.slice (some ad) a.length p) := by rw [Qb hBw]; rfl
    have hBlt := Qq hBw
    have hlen : Qa (((U6 a k a.length).length + 1) * 8 ≤ 140737488355328) := ⟨by rw [Gq]; omega⟩
    have hn2 : Qa ((U6 a k a.length).length = a.length) := ⟨Gq _ _ _⟩
    have hb0 := Qa.mk (Ey (B := B) hG.out (by have := hg1'.out; omega) (show B ≤ w1.heap.size by have := Qq hB1.out; omega))
    have hst : Qa ((U6 a k a.length) ++ [32 * k] = Nc a k) := ⟨by rw [updF_all]; rfl⟩
    obtain ⟨q, hq⟩ : ∃ q, q = U6 a k a.length := ⟨_, rfl⟩
    rw [← hq] at ho hlen hn2 hst
    have hBw' := Qa.mk hBw
    have hsz : Qa (B + 1 ≤ wr.heap.size) := ⟨hBlt⟩
    have ho2 : Qa ((Kd.int .i64).R 3 wr (B + 1) (fun _ => True) (.slice (some ad) a.length p) q) := ho
    clear hq hBw hBlt ho
    go_wp2_with (first | (at_builtin; refine Kd.Z4 (Kd.int .i64) (w0 := wr) (B + 1) rfl (.tmp 30) (.tmp 33) 22 3 (.int .i64 0) 8 rfl Tryz.underlying22 Zd rfl (by decide) (by decide) (.slice (some ad) a.length p) q (32 * k) [.int .i64 (32 * k)] (fun _ => True) (fun _ => False) rfl rfl rfl (fun _ hk => hk.elim) (fun _ _ => trivial) ho2.out (Below.refl _ _) hsz.out hlen.out ?_; intro v1 wA hoA hbA hgA hatA; obtain ⟨A6, p6, rfl, -, -⟩ := Kd.Qz hoA; have HOA := Qa.mk hoA; have HBA := Qa.mk hbA; have hBA := (hgA.block B (Qq hBw'.out) hneB.out).trans hBw'.out; have c2 : wA.cell? ⟨B, 0, none⟩ = some (.slice (some ad) a.length p) := (by rw [Qb hBA]; rfl); have f2 := Qe hBA 0; have hBA' := Qa.mk hBA; clear hoA hbA hgA hatA hBA))
    go_end0
    refine ⟨rfl, ⟨_, Q5 hBA'.out 0 _, ?_⟩, ?_⟩
    ·rw [← hst.out]
     have h0 := HOA.out
     rw [show (q ++ [32 * k]).length = q.length + 1 by simp] at h0
     exact Kd.X9 (Kd.Jd (p := ⟨B, 0, none⟩) (Kd.Zg h0) (fun k hk e => by have := hk.2.1; simp at e; omega) _) (fun _ _ => trivial)
    ·exact (((hbn'.out.mono (Nat.le_of_lt hBs'.out)).trans hb0.out).trans (HBA.out.mono (Nat.le_succ B))).setCell (p := ⟨B, 0, none⟩) (Nat.le_refl B) _
end Q21

namespace Q21
attribute [local go_sem] Qj Qi Ql Qk Qg Qf
open Q15
theorem Dk (f : List Int) (k : Int) : Zb (f ++ [k]) = Nc (Zb f) k := by
 unfold Zb
 rw [List.foldl_append]
 rfl
theorem Bz (f : List Int) (hf : ∀ x ∈ f, -127 ≤ x ∧ x ≤ 127) : ∀ j : Nat, j ≤ f.length → ∀ x ∈ Zb (f.take j), -(4096 * (2 : Int) ^ j) ≤ x ∧ x ≤ 4096 * (2 : Int) ^ j
 | 0, _ => fun x hx => by simp [Zb] at hx
 | j + 1, hj => by
  have h1 := Bz f hf j (by omega)
  rw [Qx f j (by omega), Dk]
  have hp : (1 : Int) ≤ 2 ^ j := by
   have : 1 ≤ 2 ^ j := Nat.one_le_two_pow
   exact_mod_cast this
  have h2 := stepF_bd (M := 4096 * (2 : Int) ^ j) (hf _ (Qt f j (by omega))) (by omega) h1
  intro x hx
  have := h2 x hx
  rw [Int.pow_succ]
  omega
theorem Gf (f : List Int) (hf : ∀ x ∈ f, -127 ≤ x ∧ x ≤ 127) (hn : f.length ≤ 12) {j : Nat} (hj : j ≤ f.length) : ∀ x ∈ Zb (f.take j), -16777216 ≤ x ∧ x ≤ 16777216 := fun x hx => by
 have h1 := Bz f hf j hj x hx
 have h2 : (2 : Int) ^ j ≤ 4096 := (by decide : ∀ j, j < 13 → (2 : Int) ^ j ≤ 4096) j (by omega)
 omega
theorem Rj (A : Option Addr) (cap : Nat) (l : List Int) (w : World) (hr : (Kd.int .i64).C w A l.length l) (hl : l.length ≤ 12) (hf : ∀ x ∈ l, -127 ≤ x ∧ x ≤ 127) :
  Calls Tryz.prog 119 #[.slice A l.length cap] w fun e w' => ∃ v, e = .returned v ∧ (Kd.int .i64).R 3 w' w.heap.size (fun _ => True) v (Zb l) ∧ Below w.heap.size w w' := by
 have HR := Qa.mk hr
 have hlI : (l.length : Int) ≤ 12 := by omega
 have HLim := Qa.mk (fun j hj => Gf l hf hl (j := j) hj)
 have HF := Qa.mk (fun j (hj : j < l.length) => hf _ (Qt l j hj))
 have HS := Qa.mk (fun (j : Nat) (hj : j < l.length) => (Dk (l.take j) (rd l j)))
 clear hr hf hl
 go_enter Tryz.func119, Tryz.ntmps119
 go_wp2_with fail
 obtain ⟨W, hW⟩ : ∃ W, W = w.alloc (.cells #[.slice none 0 0] 22) := ⟨_, rfl⟩
 have hB : W.heap[w.heap.size]? = some (.cells #[.slice none 0 0] 22 (0, 0)) := by rw [hW]; exact heap_alloc_new _ _
 have hb : Below w.heap.size w W := by rw [hW]; exact (Below.refl _ _).alloc (Nat.le_refl _) _
 rw [← hW]
 obtain ⟨B, hBe⟩ : ∃ B, B = w.heap.size := ⟨_, rfl⟩
 rw [← hBe] at hB hb ⊢
 have hBe' := Qa.mk hBe
 have hB' := Qa.mk hB
 have hb' := Qa.mk hb
 clear hW hBe hB hb
 go_loopw [10] (fun i wr => ∃ j : Nat, i = .int .i64 j ∧ j ≤ l.length ∧ Qa (∃ v, wr.heap[B]? = some (.cells #[v] 22 (0, 0)) ∧ (Kd.int .i64).R 3 wr (B + 1) (fun _ => True) v (Zb (l.take j))) ∧ Qa (Below B w wr)) (fun i _ => l.length - (intOf i).toNat)
 case atStart => exact ⟨0, rfl, by omega, ⟨⟨_, hB'.out, Kd.Xr _ _ _ _ _⟩⟩, hb'⟩
 case round =>
  obtain ⟨j, rfl, hj, ho, hbL⟩ := hrel
  by_cases hlt : j < l.length
  ·obtain ⟨v, hv1, hv2⟩ := ho.out
   have hbw : Below w.heap.size w wr := by rw [← hBe'.out]; exact hbL.out
   obtain ⟨ad, rfl, hcell⟩ := Qr HR.out hbw hlt
   have hjI : (j : Int) < (l.length : Int) := by omega
   have hk := HF.out j hlt
   have hT := HS.out j hlt
   have HC := Td B v (Zb (l.take j)) (rd l j) 16777216 wr hv1 hv2 (by rw [Gp, List.length_take]; omega) hk (by decide) (by decide) (HLim.out j hj)
   rw [← hT, ← Qx l j hlt] at HC
   replace HC := Qa.mk HC
   obtain ⟨k, hkk⟩ : ∃ k, k = rd l j := ⟨_, rfl⟩
   rw [← hkk] at hcell HC
   clear hv1 hv2 hbw hT hkk ho hk
   go_wp2_with fail
   refine HC.out.mono ?_; rintro e w' ⟨rfl, ⟨v', hv1, hv2⟩, hbn⟩
   have ho2 : Qa (∃ v, w'.heap[B]? = some (.cells #[v] 22 (0, 0)) ∧ (Kd.int .i64).R 3 w' (B + 1) (fun _ => True) v (Zb (l.take (j + 1)))) := ⟨⟨v', hv1, hv2⟩⟩
   have hb2 : Qa (Below B w w') := ⟨hbL.out.trans hbn⟩
   clear hv1 hv2 hbn HC hbL
   go_wp2_with fail
   go_roundw
   case rel => exact ⟨j + 1, by go_num, by omega, ho2, hb2⟩
   case measure => simp [intOf]; omega
  ·obtain rfl : j = l.length := by omega
   obtain ⟨v, hv1, hv2⟩ := ho.out
   rw [List.take_length] at hv2
   obtain ⟨A5, p5, rfl, -, -⟩ := Kd.Qz hv2
   have c1 : wr.cell? ⟨B, 0, none⟩ = some (.slice A5 (Zb l).length p5) := by rw [Qb hv1]; rfl
   have hv2' := Qa.mk hv2
   clear hv1 hv2 ho
   go_wp2_with fail
   go_ret
   exact ⟨_, rfl, by rw [← hBe'.out]; exact Kd.Z8 hv2'.out (Nat.le_succ B), by rw [← hBe'.out]; exact hbL.out⟩
def wgtE (l : List Int) : Int := if Vp l then 0 else 1
def wgtL (l : List Int) : List Int := if Vp l then Zb l else []
theorem E8 {l : List Int} (h : Vp l = true) : l.length ≤ 12 ∧ ∀ x ∈ l, -127 ≤ x ∧ x ≤ 127 := by
 unfold Vp at h
 rw [Bool.and_eq_true] at h
 refine ⟨of_decide_eq_true h.1, fun x hx => ?_⟩
 have := List.all_eq_true.1 h.2 x hx
 exact of_decide_eq_true this
theorem Dl (A : Option Addr) (cap : Nat) (l : List Int) (w : World) (hr : (Kd.int .i64).C w A l.length l) (hl : l.length ≤ 1000000) :
  Calls Tryz.prog 71 #[.slice A l.length cap] w (Outs (wgtL l) (wgtE l) w) := by
 have hb := Below.refl w.heap.size w
 have HC := H5 A cap l w hr hl
 unfold wgtL wgtE
 cases hd : Vp l with
 | false =>
  rw [hd] at HC
  replace HC := Qa.mk HC
  rw [if_neg (by decide), if_neg (by decide)]
  clear hd hr hl
  go_enter Tryz.func71, Tryz.ntmps71
  go_wp2_with (first | (go_at_call 118; refine (HC.out).mono ?_; rintro e w' ⟨rfl, hbn⟩; replace hb := bnx hb hbn; clear hbn))
  go_ret2
  exact ⟨none, 0, rfl, Kd.Jr _ _, hb⟩
 | true =>
  rw [hd] at HC
  obtain ⟨h12, hf⟩ := E8 hd
  have HW := Qa.mk (fun (W : World) (hb : Below w.heap.size w W) => Rj A cap l W (Kd.Qh hr hb) h12 hf)
  replace HC := Qa.mk HC
  rw [if_pos rfl, if_pos rfl]
  obtain ⟨L, hLL⟩ : ∃ L, L = Zb l := ⟨_, rfl⟩
  rw [← hLL] at HW ⊢
  clear hd hr h12 hf hLL hl
  go_enter Tryz.func71, Tryz.ntmps71
  go_wp2_with (first | (go_at_call 118; refine (HC.out).mono ?_; rintro e w' ⟨rfl, hbn⟩; replace hb := bnx hb hbn; clear hbn))
  refine (HW.out _ hb).mono ?_; rintro e w1 ⟨v, rfl, hR, hbn⟩; replace hb := bnx hb hbn
  obtain ⟨B5, p5, rfl, -, hC5⟩ := Kd.Qz hR
  replace hC5 := Qa.mk hC5
  clear hbn hR
  go_wp2_with fail
  go_ret2
  exact ⟨_, _, rfl, hC5.out, hb⟩
end Q21

namespace Bts
attribute [local go_sem] Qj Qi Ql Qk Qg Qf
open Q15 (cnx bnx)
open Q21 (Qb Qe)
theorem Qaa : (Tryz.prog.info? 5).map (fun i => (i.zero, i.size, i.bytes)) = some (some (.int .u8 0), 1, 1) := by kernel_rfl
def Wr (w : World) (base p : Nat) (q : Option Nat) (l : List Int) : Prop :=
 ∃ v, w.heap[p]? = some (.cells #[v, .int .i64 l.length] 109 (0, 0)) ∧ (Kd.int .u8).R 5 w base (fun _ => True) v (Xa l) ∧ q = v.ownBlock ∧ V7 l ∧ base ≤ p ∧ l.length ≤ 1048576
def WrP (base p : Nat) (q : Option Nat) (l : List Int) (w w' : World) : Prop := ∃ q', Wr w' base p q' l ∧ (q' = q ∨ ∃ g, q' = some g ∧ w.heap.size ≤ g) ∧ Kp p q w w'
theorem Wr.Du {w : World} {base p : Nat} {q : Option Nat} {l : List Int} (h : Wr w base p q l) : ∀ k, q = some k → base ≤ k ∧ k < w.heap.size := fun k hk => by
 obtain ⟨v, _, hR, hq, _⟩ := h
 have := (Kd.Zg hR).1 k (by rw [← hq, hk])
 exact ⟨this.2.1, this.2.2.1⟩
theorem Wr.plt {w : World} {base p : Nat} {q : Option Nat} {l : List Int} (h : Wr w base p q l) : p < w.heap.size := by
 obtain ⟨v, hb, _⟩ := h
 exact Qq hb
theorem Wr.bits {w : World} {base p : Nat} {q : Option Nat} {l : List Int} (h : Wr w base p q l) : V7 l := by
 obtain ⟨v, _, _, _, h, _⟩ := h
 exact h
theorem Wr.base {w : World} {base p : Nat} {q : Option Nat} {l : List Int} (h : Wr w base p q l) : base ≤ p := by
 obtain ⟨v, _, _, _, _, h, _⟩ := h
 exact h
theorem WrP.refl {w : World} {base p : Nat} {q : Option Nat} {l : List Int} (h : Wr w base p q l) : WrP base p q l w w := ⟨q, h, .inl rfl, Kp.refl _ _ _⟩
theorem WrP.trans {w w1 w2 : World} {base p : Nat} {q q1 : Option Nat} {l : List Int} (hk : Kp p q w w1) (hq : q1 = q ∨ ∃ g, q1 = some g ∧ w.heap.size ≤ g) (h2 : WrP base p q1 l w1 w2) : WrP base p q l w w2 := by
 obtain ⟨q2, hw, hq2, hk2⟩ := h2
 refine ⟨q2, hw, ?_, hk.trans hk2 hq⟩
 rcases hq2 with e | ⟨g, e, hg⟩
 ·rw [e]
  exact hq
 ·exact .inr ⟨g, e, Nat.le_trans hk.size hg⟩
theorem WrP.below {w w1 : World} {base p : Nat} {q : Option Nat} {l0 l : List Int} (h0 : Wr w base p q l0) (h : WrP base p q l w w1) (hB : base ≤ w.heap.size) : Below base w w1 := by
 obtain ⟨q1, hw, hq, hk⟩ := h
 exact hk.below hw.base (fun k e => (h0.Du k e).1) hB
theorem Qbp (base p : Nat) (q : Option Nat) (l : List Int) (b : Int) (w : World) (hw : Wr w base p q l) (hb : b = 0 ∨ b = 1) (hl : l.length + 1 ≤ 1048576) :
  Calls Tryz.prog 183 #[.pointer (some ⟨p, 0, none⟩), .int .i64 b] w fun e w' => e = .returned (.tuple #[]) ∧ WrP base p q (l ++ [b]) w w' := by
 obtain ⟨v, hB, hR, hq, hbits, hbp, hlen⟩ := hw
 have hmo := Qa.mk (show Tryz.prog.follows .mixedOrders = true by kernel_rfl)
 have k0 : w.cell? ⟨p, 0, none⟩ = some v := by rw [Qb hB]; rfl
 have k1 : w.cell? ⟨p, 1, none⟩ = some (.int .i64 l.length) := by rw [Qb hB]; rfl
 have f0 := Qe hB 0
 have f1 := Qe hB 1
 have hlI : (l.length : Int) ≤ 2000000 := by omega
 have hne : some p ≠ v.ownBlock := Kd.R_ne hR hB (by decide)
 obtain ⟨A, c, rfl⟩ : ∃ A c, v = .slice A (Xa l).length c := Kd.Zq hR
 by_cases h8 : l.length % 8 = 0
 ·have t1 : ((l.length : Int) % 8 == 0) = true := by rw [beq_iff_eq]; omega
  have hbl := Qa.mk hbits
  replace hR := Qa.mk hR
  replace hB := Qa.mk hB
  replace h8 := Qa.mk h8
  replace hq := Qa.mk hq
  replace hne := Qa.mk hne
  have hnl : Qa (((Xa l).length + 1) * 1 ≤ 140737488355328) := ⟨by rw [Yb]; omega⟩
  replace hl := Qa.mk hl
  clear hbits hlen
  have hbs : Qa (base ≤ w.heap.size) := ⟨by have := Qq hB.out; omega⟩
  replace k1 := Qa.mk k1
  go_enter Tryz.func183, Tryz.ntmps183
  have k1' := k1.out
  go_wp2_with (first | (at_builtin; refine Kd.Z4 (Kd.int .u8) (w0 := w) base rfl (.tmp 14) (.tmp 15) 107 5 (.int .u8 0) 1 rfl Tryz.underlying107 Qaa rfl (by decide) (by decide) (.slice A (Xa l).length c) (Xa l) 0 [.int .u8 0] (fun _ => True) (fun _ => False) rfl rfl rfl (fun _ hk => hk.elim) (fun _ _ => trivial) hR.out (Below.refl _ _) hbs.out hnl.out ?_; intro v1 wA hoA hbA hgA hatA; have hqA := Qa.mk hatA; clear hatA hbA; have hBA := (hgA.block p (Qq hB.out) hne.out).trans hB.out; replace hgA := Qa.mk hgA; clear k0 f0 f1 k1'; have k0 : wA.cell? ⟨p, 0, none⟩ = some (.slice A (Xa l).length c) := (by rw [Qb hBA]; rfl); have f0 := Qe hBA 0; have k1' : wA.cell? ⟨p, 1, none⟩ = some (.int .i64 l.length) := (by rw [Qb hBA]; rfl); have hslA := Ib hoA (by simp); obtain ⟨g, c1, rfl⟩ := hslA; replace hoA := Qa.mk hoA; replace hBA := Qa.mk hBA))
  have hml : Qa ((Xa l ++ [0]).length = (Xa l).length + 1) := ⟨by simp⟩
  rw [hml.out] at hoA
  go_wp2_with fail
  obtain ⟨m, hm⟩ : ∃ m, m = (Xa l).length + 1 := ⟨_, rfl⟩
  rw [← hm] at hoA ⊢
  obtain ⟨W2, hW2⟩ : ∃ W2, W2 = wA.setCell ⟨p, 0, none⟩ (.slice (some ⟨g, 0, none⟩) m c1) := ⟨_, rfl⟩
  rw [← hW2]
  have hB2 : W2.heap[p]? = some (.cells #[.slice (some ⟨g, 0, none⟩) m c1, .int .i64 l.length] 109 (0, 0)) := by rw [hW2]; exact Q5 hBA.out 0 _
  have hR2 : (Kd.int .u8).R 5 W2 base (fun _ => True) (.slice (some ⟨g, 0, none⟩) m c1) (Xa l ++ [0]) := by rw [hW2]; exact Kd.Yq hoA.out hBA.out (by decide) 0 _
  have hqg : Qa (q = some g ∨ w.heap.size ≤ g) := ⟨by
   rcases hqA.out with e | ⟨b0, e, hle⟩
   ·exact .inl (by rw [hq.out, ← e]; rfl)
   ·have : some g = some b0 := e
    cases this
    exact .inr hle⟩
  have hK2 : Kp p q w W2 := by rw [hW2, hq.out]; exact (Kp.of_grown hgA.out p).Ki 0 _
  have hV : Qa ((Xa l ++ [0]).set (l.length / 8) (Xz l (l.length / 8) + b * 2 ^ (7 - l.length % 8)) = Xa (l ++ [b])) := ⟨by
   rw [Qag b h8.out, List.set_append_right _ _ (by rw [Yb]; have := h8.out; omega), Yb]
   have e0 : Xz l (l.length / 8) = 0 := by unfold Xz; rw [Yv (l := l) _ 0 8 (by omega) (by have := h8.out; omega)]; rfl
   have e1 : l.length / 8 - (l.length + 7) / 8 = 0 := by have := h8.out; omega
   rw [e0, e1, h8.out]
   simp⟩
  obtain ⟨V, hVe⟩ : ∃ V, V = Xa l ++ [0] := ⟨_, rfl⟩
  rw [← hVe] at hR2 hV
  have e0 : Xz l (l.length / 8) = 0 := by unfold Xz; rw [Yv (l := l) _ 0 8 (by omega) (by have := h8.out; omega)]; rfl
  have hx : rd V (l.length / 8 : Nat) = Xz l (l.length / 8) := by
   rw [e0, hVe]
   have e1 : l.length / 8 = (Xa l).length := by rw [Yb]; have := h8.out; omega
   simp [rd, e1]
  have hix : l.length / 8 < m := by rw [hm, Yb]; have := h8.out; omega
  have hlo : ∃ a : Int, Xz l (l.length / 8) = a * 2 ^ (8 - l.length % 8) ∧ 0 ≤ a ∧ a ≤ 2 ^ (l.length % 8) - 1 := ⟨0, by rw [e0]; simp, by omega, by rw [h8.out]; simp⟩
  clear e0
  clear k0 k1' f0 hW2 hoA hBA hgA hVe hml hm
  have k0 : W2.cell? ⟨p, 0, none⟩ = some (.slice (some ⟨g, 0, none⟩) m c1) := by rw [Qb hB2]; rfl
  have k1' : W2.cell? ⟨p, 1, none⟩ = some (.int .i64 l.length) := by rw [Qb hB2]; rfl
  have k2 := (Kd.Fe 0 hR2 (l.length / 8 : Nat) (by omega) (by omega)).1
  have f2 := (Kd.Fe 0 hR2 (l.length / 8 : Nat) (by omega) (by omega)).2
  rw [Int.toNat_natCast] at k2 f2
  have hxo : rdOf 0 V ((l.length / 8 : Nat) : Int) = Xz l (l.length / 8) := by rw [← hx]; rfl
  rw [hxo] at k2
  obtain ⟨x, hxe⟩ : ∃ x, x = Xz l (l.length / 8) := ⟨_, rfl⟩
  rw [← hxe] at k2 hlo hx hV
  obtain ⟨j, hj⟩ : ∃ j, j = l.length / 8 := ⟨_, rfl⟩
  obtain ⟨r, hr⟩ : ∃ r, r = l.length % 8 := ⟨_, rfl⟩
  have hq8 : (l.length : Int) / 8 = (j : Int) := by omega
  have hr8 : (l.length : Int) % 8 = (r : Int) := by omega
  have hq9 : (l.length : Int).tdiv 8 = (j : Int) := by rw [Int.tdiv_eq_ediv_of_nonneg (by omega)]; exact hq8
  have hr9 : (l.length : Int).tmod 8 = (r : Int) := by rw [Int.tmod_eq_emod_of_nonneg (by omega)]; exact hr8
  have hrI : (r : Int) < 8 := by omega
  rw [← hj] at k2 f2 hV hix
  rw [← hr] at hlo hV
  have hixI : (j : Int) < (m : Int) := by omega
  have h7r : (7 : Int) - (r : Int) = ((7 - r : Nat) : Int) := by omega
  obtain ⟨sh, hsh⟩ : ∃ sh, sh = 7 - r := ⟨_, rfl⟩
  rw [← hsh] at h7r hV
  have hshI : (sh : Int) ≤ 7 := by omega
  have hp2 : (2 : Int) ^ sh ≤ 128 := by
   have h1 : 2 ^ sh ≤ 2 ^ 7 := Nat.pow_le_pow_right (by omega) (by omega)
   have h2 : ((2 ^ sh : Nat) : Int) = 2 ^ sh := by simp
   omega
  have hp0 : (0 : Int) < 2 ^ sh := Int.pow_pos (by omega)
  obtain ⟨y, hy⟩ : ∃ y, b * 2 ^ sh = y := ⟨_, rfl⟩
  have hyb : 0 ≤ y ∧ y ≤ 128 := by rw [← hy]; rcases hb with e | e <;> rw [e] <;> omega
  have hjw : IntKind.i64.wrap (j : Int) = j := IntWalk.i64_in _ (by have := hl.out; omega)
  have hsw : IntKind.i64.wrap (sh : Int) = sh := IntWalk.i64_in _ (by omega)
  have hyw : IntKind.i64.wrap y = y := IntWalk.i64_in _ (by omega)
  have hyw8 : IntKind.u8.wrap y = y := IntWalk.u8_in _ (by omega)
  obtain ⟨nv, hnv⟩ : ∃ nv, nv = x + y := ⟨_, rfl⟩
  have hor : bits .or .u8 x y = nv := by
   obtain ⟨a, e, a0, a1⟩ := hlo
   have h := I8 a b r (by omega) a0 a1 hb
   rw [← hsh] at h
   rw [e, hnv, ← hy, e]
   exact h
  rw [hy, ← hnv] at hV
  replace hnv := Qa.mk hnv
  clear hp2 hp0 hyb
  replace hj := Qa.mk hj
  replace hr := Qa.mk hr
  replace hsh := Qa.mk hsh
  replace hxe := Qa.mk hxe
  replace hlo := Qa.mk hlo
  replace hB2 := Qa.mk hB2
  replace hR2 := Qa.mk hR2
  replace hK2 := Qa.mk hK2
  have hb' := Qa.mk hb
  clear hx hxo hix hlI hb t1
  go_wp2_with fail
  refine Qs (S := fun w' => w'.cell? ⟨p, 0, none⟩ = some (.slice (some ⟨g, 0, none⟩) m c1) ∧ w'.cell? ⟨p, 1, none⟩ = some (.int .i64 l.length) ∧ w'.cell? ⟨g, j, none⟩ = some (.int .u8 x)) (ds := [22]) hmo.out ⟨k0, k1', k2⟩ (fun hHeld => ?_)
  (refine Tk.tl 0 (.pointer (some ⟨p, 0, none⟩)) hHeld ?_)
  (refine Tk.tl 1 (.pointer (some ⟨p, 0, none⟩)) hHeld ?_)
  (refine Tk.tl 2 (.pointer (some ⟨p, 0, none⟩)) hHeld ?_)
  (refine Tk.tl 3 (.slice (some ⟨g, 0, none⟩) m c1) hHeld ?_)
  (refine Tk.tl 4 (.pointer (some ⟨p, 0, none⟩)) hHeld ?_)
  (refine Tk.tl 5 (.pointer (some ⟨p, 0, none⟩)) hHeld ?_)
  (refine Tk.tl 6 (.pointer (some ⟨p, 1, none⟩)) hHeld ?_)
  (refine Tk.tl 7 (.int .i64 l.length) hHeld ?_)
  (refine Tk.tl 8 (.int .i64 j) hHeld ?_)
  (refine Tk.tl 9 (.pointer (some ⟨g, j, none⟩)) hHeld ?_)
  (refine Tk.tl 10 (.int .u8 x) hHeld ?_)
  (refine Tk.tl 11 (.int .i64 b) hHeld ?_)
  (refine Tk.tl 12 (.pointer (some ⟨p, 0, none⟩)) hHeld ?_)
  (refine Tk.tl 13 (.pointer (some ⟨p, 0, none⟩)) hHeld ?_)
  (refine Tk.tl 14 (.pointer (some ⟨p, 1, none⟩)) hHeld ?_)
  (refine Tk.tl 15 (.int .i64 l.length) hHeld ?_)
  (refine Tk.tl 16 (.int .i64 r) hHeld ?_)
  (refine Tk.tl 17 (.int .i64 sh) hHeld ?_)
  (refine Tk.tl 18 (.int .i64 y) hHeld ?_)
  (refine Tk.tl 19 (.int .u8 y) hHeld ?_)
  (refine Tk.tl 20 (.int .u8 nv) hHeld ?_)
  (refine Tk.tl 21 (.pointer (some ⟨g, j, none⟩)) hHeld ?_)
  (refine Qd (rs := [22]) (by kernel_rfl) (by simp) ?_; refine Qc.Zh rfl (by decide) (fun K hK => ?_) Qc.nil)
  go_simp
  go_wp2_with fail
  refine hK.out _ _ ?_
  clear hK K
  try simp only [Act.put, List.setIfInBounds_toArray, List.set_cons_zero, List.set_cons_succ]
  refine Qp (by kernel_rfl) ?_ _
  obtain ⟨W3, hW3⟩ : ∃ W3, W3 = (W2.setCell ⟨g, j, none⟩ (.int .u8 nv)).drew := ⟨_, rfl⟩
  rw [← hW3]
  have hgp : p ≠ g := fun e => Kd.R_ne hR2.out hB2.out (by decide) (by rw [e]; rfl)
  have hB3 : W3.heap[p]? = some (.cells #[.slice (some ⟨g, 0, none⟩) m c1, .int .i64 l.length] 109 (0, 0)) := by rw [hW3]; exact Jj hB2.out (p := ⟨g, j, none⟩) hgp _
  have hR3 : (Kd.int .u8).R 5 W3 base (fun _ => True) (.slice (some ⟨g, 0, none⟩) m c1) (V.set j nv) := by
   have h := Kd.O4 hR2.out (j : Int) nv
   rw [Int.toNat_natCast] at h
   rw [hW3]
   exact h
  have hK3 : Kp p q w W3 := by rw [hW3]; exact (hK2.out.setQ hqg.out j _).drew
  have e1 : W3.cell? ⟨p, 1, none⟩ = some (.int .i64 l.length) := by rw [Qb hB3]; rfl
  have g1 := Qe hB3 1
  rw [hV.out] at hR3
  have hE := Qa.mk (And.intro hB3 (And.intro hR3 hK3))
  have hnI : (l.length : Int) ≤ 2000000 := by have := hl.out; omega
  clear hB3 hR3 hK3 hW3 hHeld k0 k1' k2 f2 hq8 hr8 hq9 hr9 hjw hsw hyw hyw8 hor h7r hy
  go_wp2_with fail
  go_end0
  obtain ⟨hB3, hR3, hK3⟩ := hE.out
  have h1 := Q5 hB3 1 (.int .i64 ((l.length : Int) + 1))
  refine ⟨rfl, some g, ⟨.slice (some ⟨g, 0, none⟩) m c1, ?_, Kd.Yq hR3 hB3 (by decide) 1 _, rfl, Hz hbl.out (Ho hb'.out), hbp, by simpa using hl.out⟩, hqg.out.imp (fun e => e.symm) (fun h => ⟨g, rfl, h⟩), hK3.Ki 1 _⟩
  rw [h1]
  simp
 ·have t1 : ((l.length : Int) % 8 == 0) = false := by rw [beq_eq_false_iff_ne]; omega
  have hbl := Qa.mk hbits
  replace hl := Qa.mk hl
  have hm0 : 0 < (Xa l).length := by rw [Yb]; omega
  obtain ⟨g, c9, hAe⟩ := Ib hR hm0
  injection hAe with hAe1 hAe2 hAe3
  subst hAe1
  subst hAe3
  have hqg : Qa (q = some g ∨ w.heap.size ≤ g) := ⟨.inl hq⟩
  have hV : Qa ((Xa l).set (l.length / 8) (Xz l (l.length / 8) + b * 2 ^ (7 - l.length % 8)) = Xa (l ++ [b])) := ⟨(packL_in b h8).symm⟩
  have hx : rd (Xa l) (l.length / 8 : Nat) = Xz l (l.length / 8) := rd_packL (by omega)
  have hlo := Ia hbits h8
  obtain ⟨W2, hW2⟩ : ∃ W2, W2 = w := ⟨_, rfl⟩
  have hB2 := hB
  have hR2 := hR
  have hK2 := Kp.refl p q w
  obtain ⟨m, hm⟩ : ∃ m, m = (Xa l).length := ⟨_, rfl⟩
  have hix : l.length / 8 < m := by rw [hm, Yb]; omega
  rw [← hm] at hR2 hB2 k0
  clear hbits hlen hne hm0 hq k0 k1 f0 f1 hB hR h8
  go_enter Tryz.func183, Tryz.ntmps183
  rw [← hW2]
  have hB3 : W2.heap[p]? = some (.cells #[.slice (some ⟨g, 0, none⟩) m c, .int .i64 l.length] 109 (0, 0)) := by rw [hW2]; exact hB2
  have hR3 : (Kd.int .u8).R 5 W2 base (fun _ => True) (.slice (some ⟨g, 0, none⟩) m c) (Xa l) := by rw [hW2]; exact hR2
  have hK3 : Kp p q w W2 := by rw [hW2]; exact hK2
  clear hB2 hR2 hK2
  have hB2 := hB3
  have hR2 := hR3
  have hK2 := hK3
  clear hB3 hR3 hK3
  have k1'' : W2.cell? ⟨p, 1, none⟩ = some (.int .i64 l.length) := by rw [Qb hB2]; rfl
  replace hx := Qa.mk hx
  replace hlo := Qa.mk hlo
  replace hW2 := Qa.mk hW2
  replace hm := Qa.mk hm
  replace hix := Qa.mk hix
  go_wp2_with fail
  replace hx := hx.out
  replace hlo := hlo.out
  replace hix := hix.out
  obtain ⟨V, hVe⟩ : ∃ V, V = Xa l := ⟨_, rfl⟩
  rw [← hVe] at hR2 hV hx
  clear k1'' hVe hm
  have k0 : W2.cell? ⟨p, 0, none⟩ = some (.slice (some ⟨g, 0, none⟩) m c) := by rw [Qb hB2]; rfl
  have k1' : W2.cell? ⟨p, 1, none⟩ = some (.int .i64 l.length) := by rw [Qb hB2]; rfl
  have k2 := (Kd.Fe 0 hR2 (l.length / 8 : Nat) (by omega) (by omega)).1
  have f2 := (Kd.Fe 0 hR2 (l.length / 8 : Nat) (by omega) (by omega)).2
  rw [Int.toNat_natCast] at k2 f2
  have hxo : rdOf 0 V ((l.length / 8 : Nat) : Int) = Xz l (l.length / 8) := by rw [← hx]; rfl
  rw [hxo] at k2
  obtain ⟨x, hxe⟩ : ∃ x, x = Xz l (l.length / 8) := ⟨_, rfl⟩
  rw [← hxe] at k2 hlo hx hV
  obtain ⟨j, hj⟩ : ∃ j, j = l.length / 8 := ⟨_, rfl⟩
  obtain ⟨r, hr⟩ : ∃ r, r = l.length % 8 := ⟨_, rfl⟩
  have hq8 : (l.length : Int) / 8 = (j : Int) := by omega
  have hr8 : (l.length : Int) % 8 = (r : Int) := by omega
  have hq9 : (l.length : Int).tdiv 8 = (j : Int) := by rw [Int.tdiv_eq_ediv_of_nonneg (by omega)]; exact hq8
  have hr9 : (l.length : Int).tmod 8 = (r : Int) := by rw [Int.tmod_eq_emod_of_nonneg (by omega)]; exact hr8
  have hrI : (r : Int) < 8 := by omega
  rw [← hj] at k2 f2 hV hix
  rw [← hr] at hlo hV
  have hixI : (j : Int) < (m : Int) := by omega
  have h7r : (7 : Int) - (r : Int) = ((7 - r : Nat) : Int) := by omega
  obtain ⟨sh, hsh⟩ : ∃ sh, sh = 7 - r := ⟨_, rfl⟩
  rw [← hsh] at h7r hV
  have hshI : (sh : Int) ≤ 7 := by omega
  have hp2 : (2 : Int) ^ sh ≤ 128 := by
   have h1 : 2 ^ sh ≤ 2 ^ 7 := Nat.pow_le_pow_right (by omega) (by omega)
   have h2 : ((2 ^ sh : Nat) : Int) = 2 ^ sh := by simp
   omega
  have hp0 : (0 : Int) < 2 ^ sh := Int.pow_pos (by omega)
  obtain ⟨y, hy⟩ : ∃ y, b * 2 ^ sh = y := ⟨_, rfl⟩
  have hyb : 0 ≤ y ∧ y ≤ 128 := by rw [← hy]; rcases hb with e | e <;> rw [e] <;> omega
  have hjw : IntKind.i64.wrap (j : Int) = j := IntWalk.i64_in _ (by have := hl.out; omega)
  have hsw : IntKind.i64.wrap (sh : Int) = sh := IntWalk.i64_in _ (by omega)
  have hyw : IntKind.i64.wrap y = y := IntWalk.i64_in _ (by omega)
  have hyw8 : IntKind.u8.wrap y = y := IntWalk.u8_in _ (by omega)
  obtain ⟨nv, hnv⟩ : ∃ nv, nv = x + y := ⟨_, rfl⟩
  have hor : bits .or .u8 x y = nv := by
   obtain ⟨a, e, a0, a1⟩ := hlo
   have h := I8 a b r (by omega) a0 a1 hb
   rw [← hsh] at h
   rw [e, hnv, ← hy, e]
   exact h
  rw [hy, ← hnv] at hV
  replace hnv := Qa.mk hnv
  clear hp2 hp0 hyb
  replace hj := Qa.mk hj
  replace hr := Qa.mk hr
  replace hsh := Qa.mk hsh
  replace hxe := Qa.mk hxe
  replace hlo := Qa.mk hlo
  replace hB2 := Qa.mk hB2
  replace hR2 := Qa.mk hR2
  replace hK2 := Qa.mk hK2
  have hb' := Qa.mk hb
  clear hx hxo hix hlI hb t1
  go_wp2_with fail
  refine Qs (S := fun w' => w'.cell? ⟨p, 0, none⟩ = some (.slice (some ⟨g, 0, none⟩) m c) ∧ w'.cell? ⟨p, 1, none⟩ = some (.int .i64 l.length) ∧ w'.cell? ⟨g, j, none⟩ = some (.int .u8 x)) (ds := [22]) hmo.out ⟨k0, k1', k2⟩ (fun hHeld => ?_)
  (refine Tk.tl 0 (.pointer (some ⟨p, 0, none⟩)) hHeld ?_)
  (refine Tk.tl 1 (.pointer (some ⟨p, 0, none⟩)) hHeld ?_)
  (refine Tk.tl 2 (.pointer (some ⟨p, 0, none⟩)) hHeld ?_)
  (refine Tk.tl 3 (.slice (some ⟨g, 0, none⟩) m c) hHeld ?_)
  (refine Tk.tl 4 (.pointer (some ⟨p, 0, none⟩)) hHeld ?_)
  (refine Tk.tl 5 (.pointer (some ⟨p, 0, none⟩)) hHeld ?_)
  (refine Tk.tl 6 (.pointer (some ⟨p, 1, none⟩)) hHeld ?_)
  (refine Tk.tl 7 (.int .i64 l.length) hHeld ?_)
  (refine Tk.tl 8 (.int .i64 j) hHeld ?_)
  (refine Tk.tl 9 (.pointer (some ⟨g, j, none⟩)) hHeld ?_)
  (refine Tk.tl 10 (.int .u8 x) hHeld ?_)
  (refine Tk.tl 11 (.int .i64 b) hHeld ?_)
  (refine Tk.tl 12 (.pointer (some ⟨p, 0, none⟩)) hHeld ?_)
  (refine Tk.tl 13 (.pointer (some ⟨p, 0, none⟩)) hHeld ?_)
  (refine Tk.tl 14 (.pointer (some ⟨p, 1, none⟩)) hHeld ?_)
  (refine Tk.tl 15 (.int .i64 l.length) hHeld ?_)
  (refine Tk.tl 16 (.int .i64 r) hHeld ?_)
  (refine Tk.tl 17 (.int .i64 sh) hHeld ?_)
  (refine Tk.tl 18 (.int .i64 y) hHeld ?_)
  (refine Tk.tl 19 (.int .u8 y) hHeld ?_)
  (refine Tk.tl 20 (.int .u8 nv) hHeld ?_)
  (refine Tk.tl 21 (.pointer (some ⟨g, j, none⟩)) hHeld ?_)
  (refine Qd (rs := [22]) (by kernel_rfl) (by simp) ?_; refine Qc.Zh rfl (by decide) (fun K hK => ?_) Qc.nil)
  go_simp
  go_wp2_with fail
  refine hK.out _ _ ?_
  clear hK K
  try simp only [Act.put, List.setIfInBounds_toArray, List.set_cons_zero, List.set_cons_succ]
  refine Qp (by kernel_rfl) ?_ _
  obtain ⟨W3, hW3⟩ : ∃ W3, W3 = (W2.setCell ⟨g, j, none⟩ (.int .u8 nv)).drew := ⟨_, rfl⟩
  rw [← hW3]
  have hgp : p ≠ g := fun e => Kd.R_ne hR2.out hB2.out (by decide) (by rw [e]; rfl)
  have hB3 : W3.heap[p]? = some (.cells #[.slice (some ⟨g, 0, none⟩) m c, .int .i64 l.length] 109 (0, 0)) := by rw [hW3]; exact Jj hB2.out (p := ⟨g, j, none⟩) hgp _
  have hR3 : (Kd.int .u8).R 5 W3 base (fun _ => True) (.slice (some ⟨g, 0, none⟩) m c) (V.set j nv) := by
   have h := Kd.O4 hR2.out (j : Int) nv
   rw [Int.toNat_natCast] at h
   rw [hW3]
   exact h
  have hK3 : Kp p q w W3 := by rw [hW3]; exact (hK2.out.setQ hqg.out j _).drew
  have e1 : W3.cell? ⟨p, 1, none⟩ = some (.int .i64 l.length) := by rw [Qb hB3]; rfl
  have g1 := Qe hB3 1
  rw [hV.out] at hR3
  have hE := Qa.mk (And.intro hB3 (And.intro hR3 hK3))
  have hnI : (l.length : Int) ≤ 2000000 := by have := hl.out; omega
  clear hB3 hR3 hK3 hW3 hHeld k0 k1' k2 f2 hq8 hr8 hq9 hr9 hjw hsw hyw hyw8 hor h7r hy
  go_wp2_with fail
  go_end0
  obtain ⟨hB3, hR3, hK3⟩ := hE.out
  rw [hW2.out]
  have h1 := Q5 hB3 1 (.int .i64 ((l.length : Int) + 1))
  refine ⟨rfl, some g, ⟨.slice (some ⟨g, 0, none⟩) m c, ?_, Kd.Yq hR3 hB3 (by decide) 1 _, rfl, Hz hbl.out (Ho hb'.out), hbp, by simpa using hl.out⟩, hqg.out.imp (fun e => e.symm) (fun h => ⟨g, rfl, h⟩), hK3.Ki 1 _⟩
  rw [h1]
  simp
end Bts

namespace Q21
attribute [local go_sem] Qj Qi Ql Qk Qg Qf
open Q15
open Q16 (isW off wd Zj Xx Yi Uk Za)
section
variable {α : Type} {enc : α → Value} {w : World} {g t : Nat} {l : List α}
theorem bk_cell (h : w.heap[g]? = some (.cells (l.map enc).toArray t (0, 0))) {i : Nat} {x : α} (hx : l[i]? = some x) : w.cell? ⟨g, i, none⟩ = some (enc x) := by
 rw [Zt h]
 simp [hx]
theorem bk_set (h : w.heap[g]? = some (.cells (l.map enc).toArray t (0, 0))) (i : Nat) (u : α) : (w.setCell ⟨g, i, none⟩ (enc u)).heap[g]? = some (.cells ((l.set i u).map enc).toArray t (0, 0)) := by
 rw [Q5 h, List.map_set]
 simp
theorem bk_new (w : World) (t n : Nat) (x : α) : (w.alloc (.cells (madeCells #[enc x] n) t)).heap[w.heap.size]? = some (.cells ((List.replicate n x).map enc).toArray t (0, 0)) := by
 have e : madeCells #[enc x] n = ((List.replicate n x).map enc).toArray := by
  apply Array.ext
  ·simp [madeCells]
  ·intro i h1 h2
   simp [madeCells, Nat.mod_one]
 rw [e]
 exact heap_alloc_new _ _
end
def usedK (l c : List Int) (k : Nat) : Bool := (Xx c l k).any fun v => decide (v ≠ 0)
def Xg (l c : List Int) : List Bool := (List.range l.length).map (usedK l c)
def Yz (l c : List Int) (k m : Nat) : List Bool := (List.range l.length).map fun i => if i < k then usedK l c i else if i = k then ((Xx c l k).take m).any fun v => decide (v ≠ 0) else false
theorem J9 (l c : List Int) : (Xg l c).length = l.length := by simp [Xg]
theorem Wv (l c : List Int) : Yz l c 0 0 = List.replicate l.length false := by
 apply List.ext_getElem
 ·simp [Yz]
 ·intro i h1 h2
  simp only [Yz, List.getElem_map, List.getElem_range, List.take_zero, List.any_nil, List.getElem_replicate, Nat.not_lt_zero, if_false]
  split <;> rfl
theorem Qbo (l c : List Int) (m : Nat) : Yz l c l.length m = Xg l c := by
 apply List.ext_getElem
 ·simp [Yz, Xg]
 ·intro i h1 h2
  have h : i < l.length := by simpa [Yz] using h1
  simp [Yz, Xg, h]
theorem Oc {l c : List Int} {k : Nat} {m : Nat} (hm : (Xx c l k).length ≤ m) : Yz l c k m = Yz l c (k + 1) 0 := by
 apply List.ext_getElem
 ·simp [Yz]
 ·intro i h1 h2
  simp only [Yz, List.getElem_map, List.getElem_range, List.take_of_length_le hm, List.take_zero, List.any_nil]
  by_cases h : i < k
  ·rw [if_pos h, if_pos (by omega)]
  ·by_cases h3 : i = k
   ·subst h3
    rw [if_neg h, if_pos rfl, if_pos (by omega)]
    rfl
   ·rw [if_neg h, if_neg h3, if_neg (by omega)]
    split <;> rfl
theorem usedM_at {l c : List Int} {k m : Nat} (hk : k < l.length) : (Yz l c k m)[k]? = some (((Xx c l k).take m).any fun v => decide (v ≠ 0)) := by
 simp [Yz, hk]
theorem band_rd {l c : List Int} (hc : c.length = 128) (hl : isW l = true) {k : Nat} (hk : k < l.length) {m : Nat} (hm : m < wd l k) : (Xx c l k).take (m + 1) = (Xx c l k).take m ++ [rd c (off l k + m : Nat)] := by
 have h1 := Yi hc hl hk
 have h2 := Zj hl hk
 rw [List.take_add_one]
 congr 1
 rw [List.getElem?_eq_getElem (by omega)]
 simp only [Xx, List.getElem_take, List.getElem_drop, Option.toList_some, rd, Int.toNat_natCast]
 rw [List.getD_eq_getElem?_getD, List.getElem?_eq_getElem (by omega)]
 rfl
theorem Oh {l c : List Int} (hc : c.length = 128) (hl : isW l = true) {k : Nat} (hk : k < l.length) {m : Nat} (hm : m < wd l k) :
  Yz l c k (m + 1) = (Yz l c k m).set k ((((Xx c l k).take m).any fun v => decide (v ≠ 0)) || decide (rd c (off l k + m : Nat) ≠ 0)) := by
 apply List.ext_getElem
 ·simp [Yz]
 ·intro i h1 h2
  rw [List.getElem_set]
  simp only [Yz, List.getElem_map, List.getElem_range, band_rd hc hl hk hm, List.any_append, List.any_cons, List.any_nil, Bool.or_false]
  by_cases h : k = i
  ·subst h
   rw [if_neg (by omega), if_pos rfl, if_pos rfl]
  ·rw [if_neg h]
   by_cases h3 : i < k
   ·rw [if_pos h3, if_pos h3]
   ·rw [if_neg h3, if_neg (fun e => h e.symm), if_neg h3, if_neg (fun e => h e.symm)]
theorem off_all {l : List Int} (h : isW l = true) : off l l.length = 128 := by
 unfold off
 rw [List.take_length, (Za.1 h).2.1]
 rfl
theorem D9 (A : Option Addr) (cap : Nat) (l : List Int) (a : Addr) (c1 : Nat) (c : List Int) (w : World) (hr : (Kd.int .i64).C w A l.length l) (hl : isW l = true) (hr1 : (Kd.int .i64).C w (some a) c.length c) (hc : c.length = 128) :
  Calls Tryz.prog 30 #[.slice A l.length cap, .slice (some a) 128 c1] w fun e w' => ∃ g, e = .returned (.tuple #[.slice (some ⟨g, 0, none⟩) l.length l.length, .int .i64 0]) ∧ w.heap.size ≤ g ∧ w'.heap[g]? = some (.cells ((Xg l c).map Value.bool).toArray 4 (0, 0)) ∧ Below w.heap.size w w' := by
 have HR := Qa.mk hr
 have HR1 := Qa.mk hr1
 have h32 := (Za.1 hl).2.2
 have hlI : (l.length : Int) ≤ 32 := by omega
 have hlI2 : decide ((128 : Int) < (l.length : Int)) = false := decide_eq_false (by omega)
 have HO := Qa.mk (fun k (hk : k < l.length) => Zj hl hk)
 have hoA := Qa.mk (off_all hl)
 have HS := Qa.mk (fun (k : Nat) (hk : k < l.length) (m : Nat) (hm : m < wd l k) => Oh hc hl hk hm)
 have HBL := Qa.mk (fun (k : Nat) (hk : k < l.length) => Yi hc hl hk)
 have hmk := P6 (P := Tryz.prog) 23 4 (.bool false) 1 Tryz.underlying23 Ma rfl (by decide) l.length (by omega)
 have hcL := Qa.mk hc
 clear hr hr1 hl h32 hc
 go_enter Tryz.func30, Tryz.ntmps30
 go_wp2_with fail
 go_loopw [6, 15] (fun s i wr => ∃ (k : Nat) (z : Int), i = .int .i64 k ∧ s = .int .i64 z ∧ k ≤ l.length ∧ 0 ≤ z ∧ z ≤ 128 ∧ Qa (z = (off l k : Nat)) ∧ Qa (Below w.heap.size w wr)) (fun _ i _ => l.length - (intOf i).toNat)
 case atStart => exact ⟨0, 0, rfl, rfl, by omega, by omega, by omega, ⟨by simp [off]⟩, ⟨Below.refl _ _⟩⟩
 case round =>
  obtain ⟨k, z, rfl, rfl, hk, hz0, hz1, hz, hb⟩ := hrel
  by_cases hlt : k < l.length
  ·obtain ⟨ad, rfl, hcell⟩ := Qr HR.out hb.out hlt
   obtain ⟨h1, h2, h3, h4⟩ := HO.out k hlt
   have hzv := hz.out
   have hx : rd l k = ((off l (k + 1) : Nat) : Int) - z ∧ 1 ≤ rd l k ∧ rd l k ≤ 128 ∧ z + rd l k ≤ 128 := by omega
   obtain ⟨n, hn⟩ : ∃ n, n = rd l k := ⟨_, rfl⟩
   rw [← hn] at hx hcell
   obtain ⟨hx1, hx2, hx3, hx4⟩ := hx
   have hx1' := Qa.mk hx1
   have hkI : (k : Int) < (l.length : Int) := by omega
   clear h1 h2 h3 h4 hn hzv hz hx1
   go_wp2_with fail
   go_roundw
   case rel => exact ⟨k + 1, z + n, by go_num, rfl, by omega, by omega, by omega, ⟨by have := hx1'.out; omega⟩, hb⟩
   case measure => simp [intOf]; omega
  ·obtain rfl : k = l.length := by omega
   obtain rfl : z = 128 := by rw [hz.out, hoA.out]; rfl
   clear hz hz0 hz1
   have hb' := hb
   go_wp2_with fail
   obtain ⟨W1, hW1⟩ : ∃ W, W = wr.alloc (.cells (madeCells #[Value.bool false] l.length) 4) := ⟨_, rfl⟩
   have hB1 : W1.heap[wr.heap.size]? = some (.cells ((Yz l c 0 0).map Value.bool).toArray 4 (0, 0)) := by rw [hW1, Wv]; exact bk_new wr _ _ false
   have hb1 : Below w.heap.size w W1 := by rw [hW1]; exact hb.out.alloc hb.out.size _
   rw [← hW1]
   have hg0 : Qa (w.heap.size ≤ wr.heap.size) := ⟨hb.out.size⟩
   obtain ⟨g, hg⟩ : ∃ g, g = wr.heap.size := ⟨_, rfl⟩
   rw [← hg] at hB1 hg0 ⊢
   replace hB1 := Qa.mk hB1
   replace hb1 := Qa.mk hb1
   clear hW1 hg hb hmk
   go_loopw [10, 43] (fun s i wr => ∃ (k : Nat), i = .int .i64 k ∧ s = .int .i64 ((off l k : Nat) : Int) ∧ k ≤ l.length ∧ Qa (wr.heap[g]? = some (.cells ((Yz l c k 0).map Value.bool).toArray 4 (0, 0))) ∧ Qa (Below w.heap.size w wr)) (fun _ i _ => l.length - (intOf i).toNat)
   case atStart => exact ⟨0, rfl, by simp [off], by omega, hB1, hb1⟩
   case round =>
    obtain ⟨k, rfl, rfl, hk, hB, hb⟩ := hrel
    by_cases hlt : k < l.length
    ·obtain ⟨ad, rfl, hcell⟩ := Qr HR.out hb.out hlt
     obtain ⟨h1, h2, h3, h4⟩ := HO.out k hlt
     have hkI : (k : Int) < (l.length : Int) := by omega
     rw [h4] at hcell
     have hbl := HBL.out k hlt
     have HN := Qa.mk (Oc (l := l) (c := c) (k := k) (m := wd l k) (by omega))
     have h1' := Qa.mk h1
     obtain ⟨n, hn⟩ : ∃ n, n = wd l k := ⟨_, rfl⟩
     obtain ⟨o, ho⟩ : ∃ o, o = off l k := ⟨_, rfl⟩
     have hS := HS.out k hlt
     rw [← hn] at hcell hS HN h1' h2 h3
     rw [← ho] at hS h1' h3 ⊢
     replace hS := Qa.mk hS
     have hltk := Qa.mk hlt
     have ho' := Qa.mk ho
     clear h1 h4 hbl hn ho
     go_wp2_with fail
     go_loopw [10, 49] (fun s i wr => ∃ (m : Nat), i = .int .i64 m ∧ s = .int .i64 ((o + m : Nat) : Int) ∧ m ≤ n ∧ Qa (wr.heap[g]? = some (.cells ((Yz l c k m).map Value.bool).toArray 4 (0, 0))) ∧ Qa (Below w.heap.size w wr)) (fun _ i _ => n - (intOf i).toNat)
     case atStart => exact ⟨0, rfl, rfl, by omega, hB, hb⟩
     case round =>
      obtain ⟨m, rfl, rfl, hm, hB, hb⟩ := hrel
      by_cases hlm : m < n
      ·have hom : o + m < 128 := by omega
       obtain ⟨ad, e1, c2⟩ := Qr HR1.out hb.out (k := o + m) (by have := hcL.out; omega)
       cases e1
       have c1 := bk_cell hB.out (usedM_at (l := l) (c := c) (m := m) hltk.out)
       have f1 := Ic hB.out k
       have hst := hS.out m hlm
       have hmI : (m : Int) < (n : Int) := by omega
       obtain ⟨x, hx⟩ : ∃ x, x = rd c (o + m : Nat) := ⟨_, rfl⟩
       rw [← hx] at c2 hst
       obtain ⟨v, hv⟩ : ∃ v, v = ((Xx c l k).take m).any fun v => decide (v ≠ 0) := ⟨_, rfl⟩
       rw [← hv] at c1 hst
       have hkg := Qa.mk (fun (u : Bool) => bk_set hB.out k u)
       have hbs := Qa.mk (fun (u : Bool) => Below.setCell hb.out (p := ⟨g, k, none⟩) hg0.out (.bool u))
       clear hx hv hB hb
       have hmn : Qa (m + 1 ≤ n) := ⟨hlm⟩
       have hmeas : Qa (m < n) := ⟨hlm⟩
       cases v
       ·by_cases hx0 : x = 0
        ·have hn0 : (x != 0) = false := by simp [hx0]
         rw [decide_eq_false (by simpa using hx0)] at hst
         replace hst := Qa.mk hst
         clear hx0 hlm
         go_wp2_with fail
         go_roundw
         case rel => exact ⟨m + 1, by go_num, by go_num, hmn.out, ⟨by rw [hst.out]; exact hkg.out false⟩, ⟨hbs.out false⟩⟩
         case measure => have := hmeas.out; simp [intOf]; omega
        ·have hn0 : (x != 0) = true := by simpa using hx0
         rw [decide_eq_true (by simpa using hx0)] at hst
         replace hst := Qa.mk hst
         clear hx0 hlm
         go_wp2_with fail
         go_roundw
         case rel => exact ⟨m + 1, by go_num, by go_num, hmn.out, ⟨by rw [hst.out]; exact hkg.out true⟩, ⟨hbs.out true⟩⟩
         case measure => have := hmeas.out; simp [intOf]; omega
       ·rw [Bool.true_or] at hst
        replace hst := Qa.mk hst
        clear hlm
        go_wp2_with fail
        go_roundw
        case rel => exact ⟨m + 1, by go_num, by go_num, hmn.out, ⟨by rw [hst.out]; exact hkg.out true⟩, ⟨hbs.out true⟩⟩
        case measure => have := hmeas.out; simp [intOf]; omega
      ·obtain rfl : m = n := by omega
       rw [HN.out] at hB
       have hoo : o + m = off l (k + 1) := by rw [h1'.out]
       rw [hoo]
       clear hoo
       go_wp2_with fail
       go_roundw
       case rel => exact ⟨k + 1, by go_num, rfl, by omega, hB, hb⟩
       case measure => simp [intOf]; omega
    ·obtain rfl : k = l.length := by omega
     rw [Qbo] at hB
     go_wp2_with fail
     go_ret2
     exact ⟨g, rfl, hg0.out, hB.out, hb.out⟩
end Q21

end Go.Proofs.YtnflnicdjioflaaGreatDoor
