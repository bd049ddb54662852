/-
  'memAnswer' as a value; 'sameMemAnswer' (62); 'reaches' (64).
-/
import Derived.Test.YgcsafMod7
import Derived.Test.YgcsafFill
import Derived.Test.YgcsafAgg
namespace Go.Proofs.Ygcsaf
open Go.RowKit
set_option linter.unusedVariables false
set_option linter.unusedSimpArgs false

/-- A memAnswer's cells. -/
def ansC (ok : Bool) (size : Nat) (word : List Nat) (rv : Value) : List Value := [.bool ok, .int .u32 (size : Int)] ++ (cellsL word ++ [rv])
theorem ansC_length {ok : Bool} {size : Nat} {word : List Nat} {rv : Value} (h : word.length = 32) : (ansC ok size word rv).length = 35 := by simp [ansC, cellsL_length, h]
theorem ansC_0 (ok : Bool) (size : Nat) (word : List Nat) (rv : Value) : (ansC ok size word rv)[0]? = some (.bool ok) := rfl
theorem ansC_1 (ok : Bool) (size : Nat) (word : List Nat) (rv : Value) : (ansC ok size word rv)[1]? = some (.int .u32 (size : Int)) := rfl
theorem ansC_34 {ok : Bool} {size : Nat} {word : List Nat} {rv : Value} (h : word.length = 32) : (ansC ok size word rv)[34]? = some rv := by
  unfold ansC
  rw [List.getElem?_append_right (by simp), List.getElem?_append_right (by simp [cellsL_length, h])]
  simp [cellsL_length, h]
theorem ansC_word {w : World} {g : Nat} {ok : Bool} {size : Nat} {word : List Nat} {rv : Value} (h : Blk w g (ansC ok size word rv)) (hl : word.length = 32) : w.rangeAt g 2 (cellsL word) := by
  intro j v hv
  have hj : j < (cellsL word).length := (List.getElem?_eq_some_iff.1 hv).1
  have := h.cell (2 + j) v (by
    unfold ansC
    rw [List.getElem?_append_right (by simp), List.getElem?_append_left (by simpa using hj)]
    simpa using hv)
  rwa [Nat.zero_add] at this
theorem ansC_one {ok : Bool} {size : Nat} {word : List Nat} {a : Option Addr} {n c : Nat} : ∀ v ∈ ansC ok size word (.slice a n c), v.oneCell' = true := by
  intro v hv
  simp only [ansC, List.mem_append, List.mem_cons, List.not_mem_nil, or_false] at hv
  rcases hv with (rfl | rfl) | hv | rfl
  · rfl
  · rfl
  · exact cellsL_one _ v hv
  · rfl

theorem wpList_wanted {P : Program} {w : World} {ops : Array Oper} {rest : List Oper} {o : Oper} {a : Act} {Q : Exit → Act → World → Prop} (hw : Region.wanted o (yielded ops a.tmps) = true) (h : o.wp P a w (wpList P ops Q rest) Q) : wpList P ops Q (o :: rest) a w := by
  unfold wpList
  rw [if_pos hw]
  exact .inl h

theorem wp_eql_arr {w : World} {op : Oper} {a : Act} {K : Act → World → Prop} {Q : Exit → Act → World → Prop} (ty yt : TypeId) (x y : Operand) (ho : op.op = .binOp .eql ty x y yt)
    (n : Nat) (hu : Safg.prog.underlying ty = some (.array n 5)) (hq : Safg.prog.eqGuardType Safg.prog.depth ty = false) (A B : List Nat) (hx : a.eval x = arrV A) (hy : a.eval y = arrV B) (ha : D.Dig A) (hb : D.Dig B) (la : A.length = n) (lb : B.length = n)
    (hK : K (a.put op.dst (.bool (decide (A = B)))) w) : op.wp Safg.prog a w K Q := by
  have hg : (eqGuard .eql ty x y (arrV A) (arrV B)).run Safg.prog w = .ok () w := by
    simp [eqGuard, arrV, hq]
  unfold Oper.wp
  simp [execOp, ho, hx, hy, hg, run_eql_arr w ty n hu A B ha hb la lb, Result.andThen]
  exact hK

theorem Safg.size52 : (Safg.prog.info? 52).map (·.size) = some 35 := by kernel_rfl
theorem Safg.eqg28 : Safg.prog.eqGuardType Safg.prog.depth 28 = false := by kernel_rfl

theorem Own.rd' {w : World} {g : Nat} {L : List Nat} (h : Own w g L) (hd : D.Dig L) {n : Nat} (hn : L.length = n) : Rd w (some ⟨g, 0, none⟩) n L := by
  subst hn; exact h.rd hd

set_option maxRecDepth 100000 in
set_option maxHeartbeats 2000000 in
theorem same_true (w : World) (ok : Bool) (size : Nat) (W r : List Nat) (ra rb : Option Addr) (n : Nat) (hW : W.length = 32) (hWd : D.Dig W) (ha : Rd w ra n r) (hb : Rd w rb n r) (hnn : (ra = none ∧ rb = none) ∨ ∃ x y, ra = some x ∧ rb = some y) :
    Calls Safg.prog 62 #[.agg (ansC ok size W (.slice ra n n)).toArray, .agg (ansC ok size W (.slice rb n n)).toArray] w fun e w' => e = .returned (.bool true) ∧ Below w.heap.size w w' := by
  have q30 := eqnil30
  go_enter Safg.func62, Safg.ntmps62
  go_upto_region 1 with (first | (refine wpList_box_agg rfl 52 (.tmp 0) rfl _ rfl ?_; intro w1 g1 hg1 k1 b1) | (refine wpList_box_agg rfl 52 (.tmp 1) rfl _ rfl ?_; intro w2 g2 hg2 k2 b2))
  have k1' := k1.below b2 k1.lt
  have bb : Below w.heap.size w w2 := b1.trans (b2.mono b1.size)
  have a0 := k1'.get (ansC_0 _ _ _ _)
  have a1 := k1'.get (ansC_1 _ _ _ _)
  have a34 := k1'.get (ansC_34 hW)
  have aw := ansC_word k1' hW
  have c0 := k2.get (ansC_0 _ _ _ _)
  have c1 := k2.get (ansC_1 _ _ _ _)
  have c34 := k2.get (ansC_34 hW)
  have cw := ansC_word k2 hW
  have hE := equalBytes_any w2 ra rb n n n n r r (ha.below bb) (hb.below bb)
  have hd : decide (r = r) = true := by simp
  rw [hd] at hE
  have hdW : decide (W = W) = true := by simp
  have HI : Hid ((Safg.prog.info? 28).map (·.size) = some (cellsL W).length) := by show _ = _; rw [cellsL_length, hW]; exact Safg.size28
  clear hd k1' k1 k2 b1 b2
  rcases hnn with ⟨rfl, rfl⟩ | ⟨x, y, rfl, rfl⟩
  all_goals (
    cases ok
    all_goals (
      go_wp2_with (first | (refine wpList_wanted rfl (wp_load_mid 28 _ rfl g1 2 rfl (cellsL W) _ aw Safg.underlying28 rfl HI.out ?_)) | (refine wpList_wanted rfl (wp_load_mid 28 _ rfl g2 2 rfl (cellsL W) _ cw Safg.underlying28 rfl HI.out ?_)) | (refine wpList_wanted rfl (wp_eql_arr 28 28 _ _ rfl 32 Safg.underlying28 Safg.eqg28 W W rfl rfl hWd hWd hW hW ?_); rw [hdW]) | (go_at_call 34; refine hE.mono ?_; rintro e w3 ⟨rfl, hw⟩; subst hw))
      go_ret
      exact ⟨rfl, bb⟩))
end Go.Proofs.Ygcsaf
