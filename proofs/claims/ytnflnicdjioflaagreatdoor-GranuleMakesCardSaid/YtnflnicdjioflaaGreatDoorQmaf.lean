/- A part of the proof. -/
import Derived.Test.YtnflnicdjioflaaGreatDoorQmad
set_option linter.unusedVariables false
set_option linter.unusedSimpArgs false
namespace Go.Proofs.YtnflnicdjioflaaGreatDoor
namespace Ord
open Go Go.RowKit Go.Proofs.YtnflnicdjioflaaGreatDoorW.PrintLast
section
variable {P : Program} {md : Region.Mode} {ops : Array Oper} {Q : Exit → Act → World → Prop} {S : World → Prop} {ds : List Nat}
def deps (md : Region.Mode) (ops : Array Oper) (i : Nat) : List Nat :=
 match ops[i]? with
 | some o => (o.after.toList.filter (fun e => Region.binds md e)).map (·.on)
 | none => []
def reach (md : Region.Mode) (ops : Array Oper) (evs : List Nat) (e : Nat) : Nat → Nat → Bool
 | 0, _ => false
 | f + 1, i => (deps md ops i).any fun d => d == e || (evs.contains d && reach md ops evs e f d)
def topo (md : Region.Mode) (ops : Array Oper) (l0 : Array Bool) : List Nat → List Nat → Bool
 | _, [] => true
 | dn, e :: es => (deps md ops e).all (fun d => l0.getD d false || dn.contains d) && topo md ops l0 (e :: dn) es
def chk (md : Region.Mode) (ops : Array Oper) (l0 l1 : Array Bool) (evs : List Nat) : Bool :=
 l0.size == ops.size && l1.size == ops.size && (List.range ops.size).all (fun i => l1.getD i false == (l0.getD i false || evs.contains i)) &&
 evs.all (fun i => decide (i < ops.size) && !l0.getD i true) && decide evs.Nodup && topo md ops l0 [] evs &&
 (List.range ops.size).all (fun i => l0.getD i true || evs.contains i || (deps md ops i).any (fun d => !l0.getD d true && !evs.contains d) || evs.all (fun e => reach md ops evs e ops.size i))
def upd {α : Type} (x : Nat → α) (i : Nat) (v : α) : Nat → α := fun j => if j = i then v else x j
theorem upd_same {α : Type} (x : Nat → α) (i : Nat) (v : α) : upd x i v i = v := if_pos rfl
theorem upd_other {α : Type} (x : Nat → α) {i j : Nat} (v : α) (h : j ≠ i) : upd x i v j = x j := if_neg h
theorem ready_deps {i : Nat} {listed : Array Bool} (h : i ∈ Region.ready md ops listed) : ∀ d ∈ deps md ops i, listed.getD d false = true := by
 obtain ⟨_, o, ho, hall⟩ := mem_ready.1 h
 intro d hd
 unfold deps at hd
 rw [ho] at hd
 obtain ⟨e, he, rfl⟩ := List.mem_map.1 hd
 obtain ⟨h1, h2⟩ := List.mem_filter.1 he
 exact hall e (by simpa using h1) h2
theorem ready_of {i : Nat} {listed : Array Bool} (h0 : listed.getD i true = false) (hi : i < ops.size) (h : ∀ d ∈ deps md ops i, listed.getD d false = true) : i ∈ Region.ready md ops listed := by
 have ho : ops[i]? = some ops[i] := Array.getElem?_eq_some_iff.2 ⟨hi, rfl⟩
 refine mem_ready.2 ⟨h0, ops[i], ho, fun e he hb => h e.on ?_⟩
 unfold deps
 rw [ho]
 exact List.mem_map.2 ⟨e, List.mem_filter.2 ⟨by simpa using he, hb⟩, rfl⟩
theorem reach_listed {evs : List Nat} {listed : Array Bool} (hc : ∀ i ∈ evs, listed.getD i false = true → ∀ d ∈ deps md ops i, listed.getD d false = true) {e : Nat} : ∀ (f i : Nat), (∀ d ∈ deps md ops i, listed.getD d false = true) → reach md ops evs e f i = true → listed.getD e false = true
 | 0, _, _, h => by simp [reach] at h
 | f + 1, i, hi, h => by
  unfold reach at h
  obtain ⟨d, hd, h1⟩ := List.any_eq_true.1 h
  rcases Bool.or_eq_true_iff.1 h1 with h2 | h2
  ·rw [← eq_of_beq h2]; exact hi d hd
  ·obtain ⟨h3, h4⟩ := Bool.and_eq_true_iff.1 h2
   exact reach_listed hc f d (hc d (by simpa using h3) (hi d hd)) h4
theorem topo_ready {l0 listed : Array Bool} (h0 : ∀ d, l0.getD d false = true → listed.getD d false = true) : ∀ (es dn : List Nat), topo md ops l0 dn es = true → (∀ d ∈ dn, listed.getD d false = true) → (∀ e ∈ es, e < ops.size) →
  (∃ e ∈ es, listed.getD e true = false) → (∀ e ∈ es, listed.getD e true = true → listed.getD e false = true) → ∃ e ∈ es, e ∈ Region.ready md ops listed
 | [], _, _, _, _, h, _ => by obtain ⟨e, he, _⟩ := h; cases he
 | e :: es, dn, ht, hd, hlt, hex, hb => by
  unfold topo at ht
  obtain ⟨t1, t2⟩ := Bool.and_eq_true_iff.1 ht
  have hdeps : ∀ d ∈ deps md ops e, listed.getD d false = true := fun d hm => by
   have := List.all_eq_true.1 t1 d hm
   rcases Bool.or_eq_true_iff.1 this with h | h
   ·exact h0 d h
   ·exact hd d (by simpa using h)
  cases hl : listed.getD e true with
  | false => exact ⟨e, by simp, ready_of hl (hlt e (by simp)) hdeps⟩
  | true =>
   obtain ⟨e2, he2, hr⟩ := topo_ready h0 es (e :: dn) t2 (fun d hm => by
    rcases List.mem_cons.1 hm with rfl | hm
    ·exact hb _ (by simp) hl
    ·exact hd d hm) (fun e he => hlt e (by simp [he])) (by
    obtain ⟨e3, h3, h4⟩ := hex
    rcases List.mem_cons.1 h3 with rfl | h3
    ·rw [hl] at h4; cases h4
    ·exact ⟨e3, h3, h4⟩) (fun e he => hb e (by simp [he]))
   exact ⟨e2, by simp [he2], hr⟩
theorem getD_bool {l : Array Bool} {i : Nat} (h : i < l.size) : l.getD i true = l.getD i false := by simp [Array.getD, h]
def Asks (P : Program) (md : Region.Mode) (ops : Array Oper) (Q : Exit → Act → World → Prop) (S : World → Prop) (ds : List Nat) (fr : (Nat → Value) → Act) (I : (Nat → Bool) → (Nat → Value) → World → Prop) (i : Nat) : Prop :=
 ∀ L x w, L i = false → (∀ d ∈ deps md ops i, L d = true) → I L x w → wpOp P ops Q i (fun a' w' => (i ∉ ds → S w → S w') ∧ ∃ v, a' = fr (upd x i v) ∧ I (upd L i true) (upd x i v) w') (fr x) w
theorem inv_ {fuel : Nat} {a : Act} {w : World} (l0 l1 : Array Bool) (evs : List Nat) (fr : (Nat → Value) → Act) (I : (Nat → Bool) → (Nat → Value) → World → Prop) (x0 : Nat → Value)
  (hchk : chk md ops l0 l1 evs = true) (h0 : I (fun i => l0.getD i false) x0 w) (ha : a = fr x0) (hop : ∀ i ∈ evs, Asks P md ops Q S ds fr I i)
  (hend : ∀ x w, I (fun i => l1.getD i false) x w → wpAnyLast P md ops Q S ds fuel l1 (fr x) w) : wpAnyLast P md ops Q S ds (evs.length + fuel) l0 a w := by
 subst ha
 unfold chk at hchk
 simp only [Bool.and_eq_true] at hchk
 obtain ⟨⟨⟨⟨⟨⟨c1, c2⟩, c3⟩, c4⟩, c5⟩, c6⟩, c7⟩ := hchk
 have c1 := eq_of_beq c1
 have c2 := eq_of_beq c2
 have c5 : evs.Nodup := by simpa using c5
 have k4 : ∀ i ∈ evs, i < ops.size ∧ l0.getD i true = false := fun i hi => by
  have := List.all_eq_true.1 c4 i hi
  simpa using this
 have main : ∀ (k : Nat) (listed : Array Bool) (x : Nat → Value) (w : World), listed.size = ops.size → (∀ j, j ∉ evs → listed.getD j true = l0.getD j true) → (∀ i ∈ evs, listed.getD i false = true → ∀ d ∈ deps md ops i, listed.getD d false = true) →
   (evs.filter (fun e => !listed.getD e false)).length = k → I (fun i => listed.getD i false) x w → wpAnyLast P md ops Q S ds (k + fuel) listed (fr x) w := by
  intro k
  induction k with
  | zero =>
   intro listed x w hs hj hc hk hi
   have hall : ∀ e ∈ evs, listed.getD e false = true := fun e he => by
    have h := List.filter_eq_nil_iff.1 (List.eq_nil_of_length_eq_zero hk) e he
    simpa using h
   have : listed = l1 := by
    refine Array.ext (by omega) fun i g1 g2 => ?_
    have h3 := List.all_eq_true.1 c3 i (List.mem_range.2 (by omega))
    have h3 := eq_of_beq h3
    have e1 : listed.getD i false = listed[i] := by simp [Array.getD, g1]
    have e2 : l1.getD i false = l1[i] := by simp [Array.getD, g2]
    rw [← e1, ← e2, h3]
    by_cases hm : i ∈ evs
    ·rw [hall i hm]; simp [hm]
    ·have := hj i hm
     rw [getD_bool g1, getD_bool (by omega)] at this
     rw [this]; simp [hm]
   subst this
   rw [Nat.zero_add]
   exact hend x w hi
  | succ k ih =>
   intro listed x w hs hj hc hk hi
   have hex : ∃ e ∈ evs, listed.getD e false = false := by
    have hne : evs.filter (fun e => !listed.getD e false) ≠ [] := fun e => by rw [e] at hk; simp at hk
    obtain ⟨e, he⟩ := List.exists_mem_of_ne_nil _ hne
    obtain ⟨h1, h2⟩ := List.mem_filter.1 he
    exact ⟨e, h1, by simpa using h2⟩
   rw [show k + 1 + fuel = (k + fuel) + 1 by omega]
   refine ⟨fun hr => ?_, fun i hir => ?_⟩
   ·exfalso
    obtain ⟨e, he, h1⟩ := hex
    obtain ⟨e2, _, h2⟩ := topo_ready (md := md) (ops := ops) (l0 := l0) (listed := listed) (fun d hd => by
     by_cases hm : d ∈ evs
     ·have := (k4 d hm).2
      have hlt : d < l0.size := by rw [c1]; exact (k4 d hm).1
      rw [getD_bool hlt, hd] at this
      cases this
     ·have h2 := hj d hm
      have hlt : d < l0.size := by
       rcases Nat.lt_or_ge d l0.size with h | h
       ·exact h
       ·simp [Array.getD, Nat.not_lt.2 h] at hd
      rw [getD_bool (by omega), getD_bool hlt] at h2
      rw [h2]; exact hd) evs [] c6 (by simp) (fun e he => (k4 e he).1) ⟨e, he, by rw [getD_bool (by rw [hs]; exact (k4 e he).1)]; exact h1⟩ (fun e he h => by rw [← getD_bool (by rw [hs]; exact (k4 e he).1)]; exact h)
    rw [hr] at h2
    cases h2
   ·have hun := (mem_ready.1 hir).1
    have hlt : i < listed.size := by
     rcases Nat.lt_or_ge i listed.size with h | h
     ·exact h
     ·simp [Array.getD, Nat.not_lt.2 h] at hun
    have hdp := ready_deps hir
    by_cases hm : i ∈ evs
    ·have hL : listed.getD i false = false := by rw [← getD_bool hlt]; exact hun
     refine wpOp_mono ?_ (hop i hm (fun j => listed.getD j false) x w hL hdp hi)
     rintro a' w' ⟨hS, v, rfl, hI⟩
     have hset : ∀ j, (listed.setIfInBounds i true).getD j false = upd (fun j => listed.getD j false) i true j := fun j => by
      unfold upd
      by_cases hji : j = i
      ·subst hji; simp [Array.getD, hlt]
      ·rw [if_neg hji, getD_set_ne false (fun e => hji e.symm)]
     refine ⟨hS, ih (listed.setIfInBounds i true) (upd x i v) w' (by simpa using hs) (fun j hjm => ?_) (fun j hjm hjl d hd => ?_) ?_ ?_⟩
     ·rw [getD_set_ne true (fun e => hjm (by rw [← e]; exact hm))]; exact hj j hjm
     ·rw [hset]
      unfold upd
      by_cases hdi : d = i
      ·rw [if_pos hdi]
      ·rw [if_neg hdi]
       by_cases hji : j = i
       ·subst hji; exact hdp d hd
       ·rw [hset, upd_other _ _ hji] at hjl
        exact hc j hjm hjl d hd
     ·have hcount : ∀ (es : List Nat), es.Nodup → i ∈ es → (es.filter (fun e => !(listed.setIfInBounds i true).getD e false)).length + 1 = (es.filter (fun e => !listed.getD e false)).length := by
       intro es
       induction es with
       | nil => intro _ h; cases h
       | cons e es ihe =>
        intro hn hmem
        obtain ⟨n1, n2⟩ := List.nodup_cons.1 hn
        by_cases hei : e = i
        ·subst hei
         have heq : es.filter (fun e' => !(listed.setIfInBounds e true).getD e' false) = es.filter (fun e' => !listed.getD e' false) := by
          apply List.filter_congr
          intro z hz
          rw [hset, upd_other _ _ (fun q => n1 (by rw [← q]; exact hz))]
         rw [List.filter_cons, List.filter_cons, hset, upd_same, hL, heq]
         simp
        ·have hme : i ∈ es := by
          rcases List.mem_cons.1 hmem with h | h
          ·exact absurd h.symm hei
          ·exact h
         have hlen : ∀ (b : Bool) (p q : List Nat), p.length + 1 = q.length → (if b = true then e :: p else p).length + 1 = (if b = true then e :: q else q).length := fun b p q h => by
          cases b
          ·exact h
          ·show p.length + 1 + 1 = q.length + 1
           omega
         rw [List.filter_cons, List.filter_cons, hset, upd_other _ _ hei]
         exact hlen _ _ _ (ihe n2 hme)
      have := hcount evs c5 hm
      omega
     ·have : (fun i_1 => (listed.setIfInBounds i true).getD i_1 false) = upd (fun j => listed.getD j false) i true := funext hset
      rw [this]
      exact hI
    ·exfalso
     have h7 := List.all_eq_true.1 c7 i (List.mem_range.2 (by omega))
     simp only [Bool.or_eq_true] at h7
     rcases h7 with ((h7 | h7) | h7) | h7
     ·rw [← hj i hm, hun] at h7; cases h7
     ·exact hm (by simpa using h7)
     ·obtain ⟨d, hd, h8⟩ := List.any_eq_true.1 h7
      obtain ⟨g1, g2⟩ := Bool.and_eq_true_iff.1 h8
      have hdn : d ∉ evs := by simpa using g2
      have h9 := hj d hdn
      have hdl := hdp d hd
      have hlt2 : d < listed.size := by
       rcases Nat.lt_or_ge d listed.size with h | h
       ·exact h
       ·simp [Array.getD, Nat.not_lt.2 h] at hdl
      rw [getD_bool hlt2, hdl] at h9
      rw [← h9] at g1
      cases g1
     ·obtain ⟨e, he, h1⟩ := hex
      have h8 := List.all_eq_true.1 h7 e he
      rw [reach_listed hc ops.size i hdp h8] at h1
      cases h1
 have hcnt : (evs.filter (fun e => !l0.getD e false)).length = evs.length := by
  congr 1
  apply List.filter_eq_self.2
  intro e he
  have := (k4 e he).2
  rw [getD_bool (by rw [c1]; exact (k4 e he).1)] at this
  rw [this]; rfl
 exact main evs.length l0 x0 w c1 (fun _ _ => rfl) (fun i hi hl => by
  have := (k4 i hi).2
  rw [getD_bool (by rw [c1]; exact (k4 i hi).1), hl] at this
  cases this) hcnt h0
abbrev Ev := Nat × (Value → World → Prop)
def Stays (φ : Value → World → Prop) : Prop := ∀ v w w', Below w.heap.size w w' → φ v w → φ v w'
def GI (wr : World) (evs : List Ev) (L : Nat → Bool) (x : Nat → Value) (w : World) : Prop :=
 Below wr.heap.size wr w ∧ ∀ e ∈ evs, L e.1 = true → e.2 (x e.1) w
def AllG (P : Program) (md : Region.Mode) (ops : Array Oper) (Q : Exit → Act → World → Prop) (S : World → Prop) (ds : List Nat) (fr : (Nat → Value) → Act) (wr : World) (all : List Ev) (evs : List Ev) : Prop :=
 ∀ e ∈ evs, Stays e.2 ∧ Asks P md ops Q S ds fr (GI wr all) e.1
theorem AllG.nil {fr : (Nat → Value) → Act} {wr : World} {all : List Ev} : AllG P md ops Q S ds fr wr all [] := fun _ h => by cases h
theorem AllG.cons {fr : (Nat → Value) → Act} {wr : World} {all evs : List Ev} {i : Nat} {o : Oper} {φ : Value → World → Prop} (hst : Stays φ) (ho : ops[i]? = some o) (hone : (all.filter (fun e => e.1 == i)).length = 1) (hmem : (i, φ) ∈ all) (hall : ∀ e ∈ all, Stays e.2)
  (hS : ∀ w', Below wr.heap.size wr w' → S w')
  (h : ∀ x w, Below wr.heap.size wr w → (∀ e ∈ all, (deps md ops i).contains e.1 = true → e.2 (x e.1) w) → ∀ K : Act → World → Prop, Shut (∀ v w', Below w.heap.size w w' → φ v w' → K (fr (upd x i v)) w') →
   if Region.wanted o (yielded ops (fr x).tmps) = true then Oper.wp P o (fr x) w K Q else K ((fr x).put o.dst undef) w)
  (hs : AllG P md ops Q S ds fr wr all evs) : AllG P md ops Q S ds fr wr all ((i, φ) :: evs) := fun e he => by
 rcases List.mem_cons.1 he with rfl | he
 ·refine ⟨hst, fun L x w hL hd hI => ?_⟩
  have hk := h x w hI.1 (fun e he hc => hI.2 e he (hd e.1 (by simpa using hc))) (fun a' w' => (i ∉ ds → S w → S w') ∧ ∃ v, a' = fr (upd x i v) ∧ GI wr all (upd L i true) (upd x i v) w')
   (fun v w' hb hv => ⟨fun _ _ => hS w' (Q15.bnx hI.1 hb), v, rfl, Q15.bnx hI.1 hb, fun e he hl => by
    by_cases hei : e.1 = i
    ·have hee : e = (i, φ) := by
      have h2 : ∀ l : List Ev, (l.filter (fun e => e.1 == i)).length = 1 → e ∈ l → (i, φ) ∈ l → e = (i, φ) := fun l hl1 m1 m2 => by
       obtain ⟨z, hz⟩ := List.length_eq_one_iff.1 hl1
       have g1 : e ∈ l.filter (fun e => e.1 == i) := List.mem_filter.2 ⟨m1, by simp [hei]⟩
       have g2 : ((i, φ) : Ev) ∈ l.filter (fun e => e.1 == i) := List.mem_filter.2 ⟨m2, by simp⟩
       rw [hz] at g1 g2
       rw [List.mem_singleton.1 g1, List.mem_singleton.1 g2]
      exact h2 all hone he hmem
     rw [hee]
     show φ (upd x i v i) w'
     rw [upd_same]
     exact hv
    ·rw [upd_other _ _ hei] at hl ⊢
     exact hall e he _ _ _ hb (hI.2 e he hl)⟩)
  show wpOp P ops Q i _ _ _
  unfold wpOp
  rw [ho]
  dsimp only
  by_cases hw : Region.wanted o (yielded ops (fr x).tmps) = true
  ·rw [if_pos hw] at hk ⊢
   exact .inl hk
  ·rw [if_neg hw] at hk ⊢
   exact hk
 ·exact hs e he
theorem grow_ {fuel : Nat} {a : Act} {w : World} (wr : World) (l0 l1 : Array Bool) (evs : List Ev) (fr : (Nat → Value) → Act) (x0 : Nat → Value)
  (hchk : chk md ops l0 l1 (evs.map (·.1)) = true) (hb : Below wr.heap.size wr w) (ha : a = fr x0) (hop : AllG P md ops Q S ds fr wr evs evs)
  (hend : ∀ x w, Below wr.heap.size wr w → (∀ e ∈ evs, e.2 (x e.1) w) → wpAnyLast P md ops Q S ds fuel l1 (fr x) w) : wpAnyLast P md ops Q S ds (evs.length + fuel) l0 a w := by
 have hchk' := hchk
 unfold chk at hchk'
 simp only [Bool.and_eq_true] at hchk'
 obtain ⟨⟨⟨⟨⟨⟨c1, c2⟩, c3⟩, c4⟩, c5⟩, c6⟩, c7⟩ := hchk'
 have c1 := eq_of_beq c1
 have h := inv_ (P := P) (Q := Q) (S := S) (ds := ds) (w := w) (fuel := fuel) l0 l1 (evs.map (·.1)) fr (GI wr evs) x0 hchk ⟨hb, fun e he hl => by
  exfalso
  have h4 := List.all_eq_true.1 c4 e.1 (List.mem_map.2 ⟨e, he, rfl⟩)
  simp only [Bool.and_eq_true, decide_eq_true_eq, Bool.not_eq_true'] at h4
  rw [getD_bool (by rw [c1]; exact h4.1)] at h4
  dsimp only at hl
  rw [h4.2] at hl
  cases hl⟩ ha (fun i hi => by
   obtain ⟨e, he, rfl⟩ := List.mem_map.1 hi
   exact (hop e he).2) (fun x w hI => hend x w hI.1 (fun e he => hI.2 e he (by
    have hlt := List.all_eq_true.1 c4 e.1 (List.mem_map.2 ⟨e, he, rfl⟩)
    simp only [Bool.and_eq_true, decide_eq_true_eq] at hlt
    have h3 := eq_of_beq (List.all_eq_true.1 c3 e.1 (List.mem_range.2 hlt.1))
    show l1.getD e.1 false = true
    rw [h3, Bool.or_eq_true]
    exact .inr (by simpa using ⟨e.2, he⟩))))
 rwa [List.length_map] at h
def frA (a : Act) (ss : List (Nat × Nat)) (x : Nat → Value) : Act := ss.foldl (fun a p => a.put (some p.2) (x p.1)) a
def Obl (P : Program) (md : Region.Mode) (ops : Array Oper) (Q : Exit → Act → World → Prop) (fr : (Nat → Value) → Act) (wr : World) (all : List Ev) (e : Ev) : Prop :=
 ∀ (o : Oper) (x : Nat → Value) (w : World) (K : Act → World → Prop), ops[e.1]? = some o → Below wr.heap.size wr w → (∀ e' ∈ all, (deps md ops e.1).contains e'.1 = true → e'.2 (x e'.1) w) →
  Shut (∀ v w', Below w.heap.size w w' → e.2 v w' → K (fr (upd x e.1 v)) w') → if Region.wanted o (yielded ops (fr x).tmps) = true then Oper.wp P o (fr x) w K Q else K ((fr x).put o.dst undef) w
def AllO (P : Program) (md : Region.Mode) (ops : Array Oper) (Q : Exit → Act → World → Prop) (fr : (Nat → Value) → Act) (wr : World) (all evs : List Ev) : Prop := ∀ e ∈ evs, Obl P md ops Q fr wr all e
theorem AllO.nil {fr : (Nat → Value) → Act} {wr : World} {all : List Ev} : AllO P md ops Q fr wr all [] := fun _ h => by cases h
theorem AllO.cons {fr : (Nat → Value) → Act} {wr : World} {all evs : List Ev} {e : Ev} (h : Obl P md ops Q fr wr all e) (hs : AllO P md ops Q fr wr all evs) : AllO P md ops Q fr wr all (e :: evs) := fun e' he => by
 rcases List.mem_cons.1 he with rfl | he
 ·exact h
 ·exact hs e' he
theorem staysNil : ∀ e ∈ ([] : List Ev), Stays e.2 := fun _ h => by cases h
theorem staysCons {e : Ev} {es : List Ev} (h : Stays e.2) (hs : ∀ e ∈ es, Stays e.2) : ∀ e' ∈ e :: es, Stays e'.2 := fun e' he => by
 rcases List.mem_cons.1 he with rfl | he
 ·exact h
 ·exact hs e' he
theorem leafK {K : Act → World → Prop} {a a' : Act} {w : World} (h : a = a') (hk : K a w) : K a' w := by
 subst h
 exact hk
theorem put_self (a : Act) (p : Nat) : a.put (some p) (a.tmps.getD p undef) = a := by
 cases a with
 | mk tmps defers =>
  show ({ tmps := tmps.setIfInBounds p (tmps.getD p undef), defers := defers } : Act) = { tmps := tmps, defers := defers }
  congr 1
  refine Array.ext_getElem? fun i => ?_
  rw [Array.getElem?_setIfInBounds]
  by_cases h : p = i
  ·subst h
   rw [if_pos rfl]
   by_cases h2 : p < tmps.size
   ·rw [if_pos h2]
    simp [Array.getD, h2]
   ·rw [if_neg h2, Array.getElem?_eq_none (by omega)]
  ·rw [if_neg h]
theorem frA_self (a : Act) (x : Nat → Value) : ∀ ss : List (Nat × Nat), (∀ p ∈ ss, x p.1 = a.tmps.getD p.2 undef) → frA a ss x = a
 | [], _ => rfl
 | p :: ss, h => by
  show frA (a.put (some p.2) (x p.1)) ss x = a
  rw [h p (by simp), put_self]
  exact frA_self a x ss (fun q hq => h q (by simp [hq]))
theorem frA_start (a : Act) (ss : List (Nat × Nat)) (h : ss.Pairwise (fun p q => p.1 ≠ q.1)) : ∃ x, a = frA a ss x := by
 have hf : ∀ ss : List (Nat × Nat), ss.Pairwise (fun p q => p.1 ≠ q.1) → ∀ p ∈ ss, ss.find? (fun q => q.1 == p.1) = some p := by
  intro ss
  induction ss with
  | nil => intro _ p hp; cases hp
  | cons z ss ih =>
   intro h p hp
   obtain ⟨h1, h2⟩ := List.pairwise_cons.1 h
   rcases List.mem_cons.1 hp with rfl | hm
   ·simp
   ·rw [List.find?_cons_of_neg (by simpa using h1 p hm)]
    exact ih h2 p hm
 refine ⟨fun i => a.tmps.getD (((ss.find? (fun p => p.1 == i)).map (·.2)).getD 0) undef, (frA_self a _ ss fun p hp => ?_).symm⟩
 show a.tmps.getD (((ss.find? (fun q => q.1 == p.1)).map (·.2)).getD 0) undef = _
 rw [hf ss h p hp]
 rfl
theorem grow_put {n : Nat} {a : Act} {w : World} (fuel : Nat) (wr : World) (l0 l1 : Array Bool) (ss : List (Nat × Nat)) (evs : List Ev) (hn : n = evs.length + fuel) (hss : ss.Pairwise (fun p q => p.1 ≠ q.1))
  (hchk : chk md ops l0 l1 (evs.map (·.1)) = true) (hS : ∀ w', Below wr.heap.size wr w' → S w') (hb : Below wr.heap.size wr w) (hall : ∀ e ∈ evs, Stays e.2) (hop : AllO P md ops Q (frA a ss) wr evs evs)
  (hend : ∀ x w, Below wr.heap.size wr w → (∀ e ∈ evs, e.2 (x e.1) w) → wpAnyLast P md ops Q S ds fuel l1 (frA a ss x) w) : wpAnyLast P md ops Q S ds n l0 a w := by
 subst hn
 obtain ⟨x0, ha⟩ := frA_start a ss hss
 have hnd : (evs.map (·.1)).Nodup := by
  unfold chk at hchk
  simp only [Bool.and_eq_true] at hchk
  simpa using hchk.1.1.2
 have hlt : ∀ e ∈ evs, e.1 < ops.size := fun e he => by
  unfold chk at hchk
  simp only [Bool.and_eq_true] at hchk
  have := List.all_eq_true.1 hchk.1.1.1.2 e.1 (List.mem_map.2 ⟨e, he, rfl⟩)
  simp only [Bool.and_eq_true, decide_eq_true_eq] at this
  exact this.1
 have hone : ∀ (l : List Ev) (e : Ev), (l.map (·.1)).Nodup → e ∈ l → (l.filter (fun e' => e'.1 == e.1)).length = 1 := by
  intro l e
  induction l with
  | nil => intro _ h; cases h
  | cons z l ih =>
   intro hn hm
   rw [List.map_cons, List.nodup_cons] at hn
   rcases List.mem_cons.1 hm with rfl | hm
   ·have : l.filter (fun e' => e'.1 == e.1) = [] := List.filter_eq_nil_iff.2 fun y hy h => hn.1 (by
     rw [← eq_of_beq h]
     exact List.mem_map.2 ⟨y, hy, rfl⟩)
    rw [List.filter_cons, this]
    simp
   ·have hze : (z.1 == e.1) = false := by
     cases hz : z.1 == e.1 with
     | false => rfl
     | true => exact (hn.1 (List.mem_map.2 ⟨e, hm, (eq_of_beq hz).symm⟩)).elim
    rw [List.filter_cons, hze]
    exact ih hn.2 hm
 have key : ∀ es : List Ev, (∀ e ∈ es, e ∈ evs) → AllG P md ops Q S ds (frA a ss) wr evs es := by
  intro es
  induction es with
  | nil => intro _; exact AllG.nil
  | cons e es ih =>
   intro hm
   have he := hm e (by simp)
   have hoe : ops[e.1]? = some (ops[e.1]'(hlt e he)) := Array.getElem?_eq_some_iff.2 ⟨hlt e he, rfl⟩
   refine AllG.cons (i := e.1) (φ := e.2) (o := ops[e.1]'(hlt e he)) (hall e he) hoe (hone evs e hnd he) he hall hS (fun x w hb hd K hK => hop e he _ x w K hoe hb hd hK) (ih (fun e' h' => hm e' (by simp [h'])))
 exact grow_ wr l0 l1 evs (frA a ss) x0 hchk hb ha (key evs (fun _ h => h)) hend
end
end Ord

end Go.Proofs.YtnflnicdjioflaaGreatDoor
