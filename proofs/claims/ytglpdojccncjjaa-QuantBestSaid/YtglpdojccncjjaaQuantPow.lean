import Derived.Test.YtglpdojccncjjaaProg
import Derived.Test.YtglpdojccncjjaaQuantTab
import Derived.WalkKit
import Derived.WalkSpells
import Derived.WalkLawsBesides
import Derived.Laws.Rows
import Derived.Test.YtglpdojccncjjaaWWords
namespace Go.Proofs.Ytglpdojccncjjaa.Q15
open Go.RowKit Go.Proofs.YtglpdojccncjjaaW.PrintWords

theorem fill_row : ∀ (vals : List Value) (k : Nat) (cells : Array Value), (∀ v ∈ vals, v.cells = #[v]) → k + vals.length = cells.size →
    Instr.fill (fun i => some (i * 1, 1)) cells ((List.range' k vals.length).zip vals) = some (cells.toList.take k ++ vals).toArray
  | [], k, cells, _, hk => by
    simp at hk
    simp [Instr.fill, List.take_of_length_le (show cells.toList.length ≤ k by simp [hk])]
  | v :: vs, k, cells, h1, hk => by
    have hv := h1 v (by simp)
    have hlt : k < cells.size := by simp at hk; omega
    simp only [List.length_cons, List.range'_succ, List.zip_cons_cons, Instr.fill, Nat.mul_one, hv]
    rw [if_neg (by simp; omega)]
    have e : (#[v].zipIdx.foldl (fun cs (c, j) => cs.setIfInBounds (k + j) c) cells) = cells.setIfInBounds k v := by simp
    rw [show (Array.foldl (fun cs (x : Value × Nat) => match x with | (c, j) => cs.setIfInBounds (k + j) c) cells #[v].zipIdx) = cells.setIfInBounds k v from by simp]
    have ih := fill_row vs (k + 1) (cells.setIfInBounds k v) (fun u hu => h1 u (by simp [hu])) (by simp at hk ⊢; omega)
    simp only [Nat.mul_one] at ih
    rw [ih]
    congr 2
    apply List.ext_getElem?
    intro i
    simp only [Array.toList_setIfInBounds, List.getElem?_append, List.length_take, List.length_set, Array.length_toList]
    by_cases hi : i < k
    · simp [hi, show i < k + 1 by omega, show min (k + 1) cells.size = k + 1 by omega, show min k cells.size = k by omega, show k ≠ i by omega]
    · by_cases hi2 : i = k
      · subst hi2
        simp [show min (i + 1) cells.size = i + 1 by omega, show min i cells.size = i by omega]
      · have e2 : i - k = (i - (k + 1)) + 1 := by omega
        simp [hi, show ¬ i < k + 1 by omega, show min (k + 1) cells.size = k + 1 by omega, show min k cells.size = k by omega, e2]

def POW : Array Value := (powTab.map (Value.int .i64)).toArray

theorem powers_form : ∃ parts : Array (Nat × Operand), Try.f57 = 
{ name := "shawm/quant.powers", origin := "", params := #[], resultTypes := #[60], nfree := 0, ntmps := 2,
  results := #[Go.ResultVar.cell 0 60],
  body :=
    some
      ((Go.Code.region 0
            #[{ dst := some 0, op := Go.Op.alloc 60, type := 0, pos := "powers.go:6", after := #[], guard := none }]
            false).seq
        ((Go.Code.region 1
              #[{ dst := some 1,
                  op :=
                    Go.Op.build 60 parts,
                  type := 60, pos := "powers.go:7", after := #[], guard := none },
                { dst := none, op := Go.Op.store 60 (Go.Operand.tmp 0) (Go.Operand.tmp 1), type := 0,
                  pos := "powers.go:7",
                  after := #[{ on := 0, ground := Go.Ground.data }, { on := 0, ground := Go.Ground.phase }],
                  guard := none }]
              false).seq
          Go.Code.ret)),
  norace := false, file := "shawm/quant/powers.go", endLine := 73, tmpNames := #["", ""] }
   ∧ ∀ a : Act, parts.toList.map (fun (i, x) => (i, a.eval x)) = (List.range' 0 1024).zip (powTab.map (Value.int .i64)) := ⟨_, rfl, fun _ => by kernel_rfl⟩

theorem powers_size : POW.size = 1024 := by simp [POW]; decide +kernel

theorem powers_built (parts : Array (Nat × Operand)) (a : Act) (h : parts.toList.map (fun (i, x) => (i, a.eval x)) = (List.range' 0 1024).zip (powTab.map (Value.int .i64))) :
    Try.prog.built 60 (parts.map fun (i, x) => (i, a.eval x)).toList = some POW := by
  rw [Array.toList_map, h]
  have hf := fill_row (powTab.map (Value.int .i64)) 0 (Array.replicate 1024 (.int .i64 0)) (by intro v hv; simp at hv; obtain ⟨x, _, rfl⟩ := hv; rfl) (by simp; decide +kernel)
  have hl : (powTab.map (Value.int .i64)).length = 1024 := by simp; decide +kernel
  rw [hl] at hf
  have e : Try.prog.built 60 ((List.range' 0 1024).zip (powTab.map (Value.int .i64))) = Instr.fill (fun i => some (i * 1, 1)) (Array.replicate 1024 (.int .i64 0)) ((List.range' 0 1024).zip (powTab.map (Value.int .i64))) := by
    generalize (List.range' 0 1024).zip (powTab.map (Value.int .i64)) = l
    kernel_rfl
  rw [e, hf]
  simp [POW]

theorem wpList_value {P : Program} {ops : Array Oper} {rest : List Oper} {o : Oper} {a : Act} {w w' : World} {v : Value} {Q : Exit → Act → World → Prop} (hgd : o.guard = none)
    (hr : (execOp a.eval o).run P w = .ok (.value v) w') (h : wpList P ops Q rest (a.put o.dst v) w') : wpList P ops Q (o :: rest) a w :=
  wpList_plain hgd fun _ hK => by
    unfold Oper.wp
    rw [hr]
    exact hK _ _ h

def ZER : Array Value := Array.replicate 1024 (.int .i64 0)
theorem run_allocTab (ρ : Operand → Value) (o : Oper) (ho : o.op = .alloc 60) (w : World) :
    (execOp ρ o).run Try.prog w = .ok (.value (.pointer (some ⟨w.heap.size, 0, none⟩))) (w.alloc (.cells ZER 60)) := by
  obtain ⟨d, op, ty, pos, af, gu⟩ := o
  subst ho
  kernel_rfl
theorem tab_size : (Try.prog.info? 60).map (·.size) = some POW.size := by rw [powers_size]; kernel_rfl
theorem zer_size : ZER.size = POW.size := by rw [powers_size]; simp [ZER]
theorem tab_one : POW.all (·.oneCell') = true := by
  rw [Array.all_eq_true_iff_forall_mem]
  intro v hv
  simp [POW] at hv
  obtain ⟨x, _, rfl⟩ := hv
  rfl

set_option maxHeartbeats 400000 in
theorem powers_calls (w : World) :
    Calls Try.prog 57 #[] w fun e w' => e = .returned (.agg POW) ∧ Below w.heap.size w w' := by
  obtain ⟨parts, hf, hp⟩ := powers_form
  have hfn : Try.prog.funcs[57]? = some _ := Try.func57.trans (congrArg some hf)
  refine calls_of_wp hfn rfl ?_
  clear hfn hf
  have HB : ∀ a : Act, Try.prog.built 60 (parts.map fun (i, x) => (i, a.eval x)).toList = some POW := fun a => powers_built parts a (hp a)
  have HB := Aside0.mk HB
  clear hp
  simp only [List.size_toArray, List.length_nil, Nat.reduceSub, Array.replicate_succ, Array.replicate_zero, List.push_toArray, List.append_toArray, List.nil_append, List.cons_append]
  go_wp2_with (first
    | (refine wpList_value rfl (run_allocTab _ _ rfl _) ?_)
    | (refine wpList_build rfl 60 parts rfl (by rw [HB.out]; rfl) ?_; rw [HB.out, Option.getD_some])
    | (refine wpList_store_row rfl 60 (.tmp 0) (.tmp 1) rfl w.heap.size POW rfl rfl 60 ZER (heap_alloc_new _ _) tab_size zer_size tab_one ?_))
  refine bodyPost_ret (v := .agg POW) (results_cell_row rfl _ _ w.heap.size 60 POW (0, 0) (.array 1024 3) rfl (setRow_heap _ _ ZER _ _ _ (heap_alloc_new _ _)) (by kernel_rfl) rfl tab_size) rfl ⟨rfl, ?_⟩
  have h := (Below.refl w.heap.size w).alloc (Nat.le_refl _) (.cells ZER 60)
  exact h.trans ⟨rfl, rfl, rfl, by simp, fun k hk => setRow_other _ _ _ _ (by omega)⟩

end Go.Proofs.Ytglpdojccncjjaa.Q15
