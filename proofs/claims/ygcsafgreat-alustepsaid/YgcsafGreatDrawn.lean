/-
  LAWS FOR A REGION THAT DRAWS, by hand: a call by its contract, an alloc of a struct, a store of a struct.
-/
import Derived.Test.YgcsafGreatSlt
namespace Go.Proofs.YgcsafGreat
open Go.RowKit
set_option linter.unusedVariables false
set_option linter.unusedSimpArgs false

theorem run_call_func {o : Oper} {a : Act} {w : World} {f : FuncId} {fn : Func} (hf : Safg.prog.funcs[f]? = some fn) (hn : (fn.name == "runtime.NumGoroutine") = false) (hb : fn.body.isNone = false) {xs : Array Operand} {ts : Array TypeId} (ho : o.op = .call { callee := .value (.func f), args := xs, argTypes := ts }) :
    (execOp a.eval o).run Safg.prog w = .ok (.enter f (xs.map a.eval)) w := by
  have h1 : ¬ fn.name = "runtime.NumGoroutine" := by intro h; rw [h] at hn; simp at hn
  have h2 : ¬ fn.body = none := by intro h; rw [h] at hb; simp at hb
  simp [execOp, ho, resolve, invoke, Act.eval, Deferred.ofValue, callFunc, hf, h1, h2]
theorem wp_callR {o : Oper} {a : Act} {w : World} {K : Act → World → Prop} {Q : Exit → Act → World → Prop} {f : FuncId} {fn : Func} (hf : Safg.prog.funcs[f]? = some fn) (hn : (fn.name == "runtime.NumGoroutine") = false) (hb : fn.body.isNone = false) {args : Array Value} {R : Ending → World → Prop} (hc : Calls Safg.prog f args w R) {xs : Array Operand} {ts : Array TypeId} (ho : o.op = .call { callee := .value (.func f), args := xs, argTypes := ts }) (hargs : xs.toList.map a.eval = args.toList)
    (h : ∀ e w', R e w' → ∃ v, e = .returned v ∧ K (a.put o.dst v) w') : o.wp Safg.prog a w K Q := by
  have e : xs.map a.eval = args := by
    apply Array.toList_inj.1
    rw [Array.toList_map]; exact hargs
  unfold Oper.wp
  rw [run_call_func hf hn hb ho, e, Oper.upon_enter]
  refine hc.mono fun e w'' hh => ?_
  obtain ⟨v, rfl, hk⟩ := h e w'' hh
  exact hk
theorem wp_allocR {o : Oper} {a : Act} {w : World} {K : Act → World → Prop} {Q : Exit → Act → World → Prop} (ty : TypeId) (ho : o.op = .alloc ty) (cs : List Value) (hz : (Safg.prog.info? ty).map (·.zero) = some (some (.agg cs.toArray)))
    (h : ∀ w' g, w.heap.size ≤ g → Blk w' g cs → Below w.heap.size w w' → K (a.put o.dst (.pointer (some ⟨g, 0, none⟩))) w') : o.wp Safg.prog a w K Q := by
  obtain ⟨i, hi, hz'⟩ := Option.map_eq_some_iff.1 hz
  have hrun : (Instr.alloc ty true (.tuple #[])).run Safg.prog w = .ok (.pointer (some ⟨w.heap.size, 0, none⟩)) (w.alloc (.cells cs.toArray ty)) := by
    simp [Instr.alloc, zeroValue, typeInfo, hi, hz', newVar, newRow, Value.cells]
  unfold Oper.wp
  simp only [execOp, ho, Sem.run_bind, hrun, Result.andThen_ok, Sem.run_pure, Oper.upon_value]
  exact h _ _ (Nat.le_refl _) (Blk.alloc w _ ty) ((Below.refl _ _).alloc (Nat.le_refl _) _)
theorem wp_storeR {o : Oper} {a : Act} {w : World} {K : Act → World → Prop} {Q : Exit → Act → World → Prop} (ty : TypeId) (x y : Operand) (ho : o.op = .store ty x y) (g : Nat) (hx : a.eval x = .pointer (some ⟨g, 0, none⟩)) (cs cs' : List Value) (hy : a.eval y = .agg cs'.toArray) (h : Blk w g cs)
    (hl : cs'.length = cs.length) (hi : (Safg.prog.info? ty).map (·.size) = some cs.length) (h1 : ∀ v ∈ cs', v.oneCell' = true)
    (hK : ∀ w', Blk w' g cs' → Only g w w' → K (a.put o.dst undef) w') : o.wp Safg.prog a w K Q := by
  refine wp_store_mid ty x y ho g 0 cs'.toArray hx hy ?_ ?_ (all_oneCell_toArray h1) ?_
  · have : cs'.toArray.size = cs.length := by simp [hl]
    rw [this]; exact h.there
  · rw [hi]; simp [hl]
  · exact hK _ (h.store hl) (Only.setCells _ 0 (Only.refl _ _))

theorem op_at {ops : Array Oper} {i : Nat} {o : Oper} {r : List Oper} (h : ops.toList.drop i = o :: r) : ops[i]? = some o := by
  rw [← Array.getElem?_toList]
  have : (ops.toList.drop i)[0]? = some o := by rw [h]; rfl
  rwa [List.getElem?_drop, Nat.add_zero] at this
theorem wanted_plain {o : Oper} (h : o.guard = none) (y : Nat → Option Bool) : Region.wanted o y = true := by unfold Region.wanted; rw [h]
/-- One operation alone may come up. -/
theorem wpAnyH_one {P : Program} {ops : Array Oper} {Q : Exit → Act → World → Prop} {md : Region.Mode} {S : World → Prop} (i : Nat) {o : Oper} {r : List Oper} {fuel : Nat} {listed : Array Bool} {a : Act} {w : World} (hr : Region.ready md ops listed = [i]) (ho : ops.toList.drop i = o :: r)
    (hw : o.guard = none) (h : Oper.wp P o a w (fun a' w' => S w' ∧ wpAnyH P md ops Q S fuel (listed.setIfInBounds i true) a' w') Q) : wpAnyH P md ops Q S (fuel + 1) listed a w := by
  refine wpAnyH_all hr (by simp) fun j hj => ?_
  obtain rfl : j = i := by simpa using hj
  unfold Go.wpOp
  simp only [op_at ho, wanted_plain hw, if_true]
  exact .inl h
/-- Two may come up. -/
theorem wpAnyH_two {P : Program} {ops : Array Oper} {Q : Exit → Act → World → Prop} {md : Region.Mode} {S : World → Prop} (i j : Nat) {o o' : Oper} {r r' : List Oper} {fuel : Nat} {listed : Array Bool} {a : Act} {w : World} (hr : Region.ready md ops listed = [i, j]) (ho : ops.toList.drop i = o :: r) (ho' : ops.toList.drop j = o' :: r')
    (hw : o.guard = none) (hw' : o'.guard = none) (h : Oper.wp P o a w (fun a' w' => S w' ∧ wpAnyH P md ops Q S fuel (listed.setIfInBounds i true) a' w') Q) (h' : Oper.wp P o' a w (fun a' w' => S w' ∧ wpAnyH P md ops Q S fuel (listed.setIfInBounds j true) a' w') Q) : wpAnyH P md ops Q S (fuel + 1) listed a w := by
  refine wpAnyH_all hr (by simp) fun k hk => ?_
  rcases (by simpa using hk : k = i ∨ k = j) with rfl | rfl
  · unfold Go.wpOp
    simp only [op_at ho, wanted_plain hw, if_true]
    exact .inl h
  · unfold Go.wpOp
    simp only [op_at ho', wanted_plain hw', if_true]
    exact .inl h'
/-- Three may come up. -/
theorem wpAnyH_three {P : Program} {ops : Array Oper} {Q : Exit → Act → World → Prop} {md : Region.Mode} {S : World → Prop} (i j l : Nat) {o o' o'' : Oper} {r r' r'' : List Oper} {fuel : Nat} {listed : Array Bool} {a : Act} {w : World} (hr : Region.ready md ops listed = [i, j, l]) (ho : ops.toList.drop i = o :: r) (ho' : ops.toList.drop j = o' :: r') (ho'' : ops.toList.drop l = o'' :: r'')
    (hw : o.guard = none) (hw' : o'.guard = none) (hw'' : o''.guard = none) (h : Oper.wp P o a w (fun a' w' => S w' ∧ wpAnyH P md ops Q S fuel (listed.setIfInBounds i true) a' w') Q) (h' : Oper.wp P o' a w (fun a' w' => S w' ∧ wpAnyH P md ops Q S fuel (listed.setIfInBounds j true) a' w') Q) (h'' : Oper.wp P o'' a w (fun a' w' => S w' ∧ wpAnyH P md ops Q S fuel (listed.setIfInBounds l true) a' w') Q) : wpAnyH P md ops Q S (fuel + 1) listed a w := by
  refine wpAnyH_all hr (by simp) fun k hk => ?_
  rcases (by simpa using hk : k = i ∨ k = j ∨ k = l) with rfl | rfl | rfl
  · unfold Go.wpOp
    simp only [op_at ho, wanted_plain hw, if_true]
    exact .inl h
  · unfold Go.wpOp
    simp only [op_at ho', wanted_plain hw', if_true]
    exact .inl h'
  · unfold Go.wpOp
    simp only [op_at ho'', wanted_plain hw'', if_true]
    exact .inl h''
end Go.Proofs.YgcsafGreat
