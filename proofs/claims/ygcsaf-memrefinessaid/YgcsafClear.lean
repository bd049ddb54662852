/-
  'clear' of a slice of bytes as a law for the walk.
-/
import Derived.Test.YgcsafTurn
namespace Go.Proofs.Ygcsaf
open Go.RowKit
set_option linter.unusedVariables false
set_option linter.unusedSimpArgs false

theorem zeroCells_one (n : Nat) : (Builtin.zeroCells #[Value.int .u8 0] n).toList = List.replicate n (Value.int .u8 0) := by
  unfold Builtin.zeroCells
  apply List.ext_getElem
  · simp
  · intro j h1 h2
    simp at h1 h2 ⊢
    rw [show j % 1 = 0 by omega]
    rfl

theorem wpList_clear_bytes {w : World} {ops : Array Oper} {rest : List Oper} {o : Oper} {a : Act} {Q : Exit → Act → World → Prop} (hgd : o.guard = none) (x : Operand) (t : TypeId)
    (ho : o.op = .call { callee := .builtin .clear, args := #[x], argTypes := #[t] }) (hu : Safg.prog.underlying t = some (.slice 5))
    (ad : Option Addr) (g off n c : Nat) (hx : a.eval x = .slice ad n c) (hpos : 0 < n → ad = some ⟨g, off, none⟩)
    (hc : ∀ j, j < n → (w.cell? ⟨g, off + j, none⟩).isSome = true) (hf : ∀ j, j < n → w.frozen? ⟨g, off + j, none⟩ = false)
    (hK : wpList Safg.prog ops Q rest (a.put o.dst (.tuple #[])) (w.setCells g off (List.replicate n (.int .u8 0)))) :
    wpList Safg.prog ops Q (o :: rest) a w := by
  refine wpList_plain hgd fun K hK' => ?_
  have hrun : (Builtin.clear_ #[t] o.type #[.slice ad n c]).run Safg.prog w = .ok (.tuple #[]) (w.setCells g off (List.replicate n (.int .u8 0))) := by
    cases n with
    | zero => cases ad <;> simp [Builtin.clear_, run_underlying hu, World.setCells]
    | succ m =>
      obtain rfl := hpos (by omega)
      have hst := run_storeCells_cells (P := Safg.prog) g off (List.replicate (m + 1) (.int .u8 0)) 0 w (by simpa using fun j hj => hc j hj) (by simpa using fun j hj => hf j hj) (by simp [Value.oneCell'])
      have hz : (zeroValue 5).run Safg.prog w = .ok (.int .u8 0) w := by kernel_rfl
      simp [Builtin.clear_, run_underlying hu, hz, zeroCells_one, Value.cells]
      rw [hst]
      rfl
  unfold Oper.wp
  simp [execOp, ho, resolve, invoke, builtin, hx, hrun, Result.andThen]
  exact hK' _ _ hK
end Go.Proofs.Ygcsaf
