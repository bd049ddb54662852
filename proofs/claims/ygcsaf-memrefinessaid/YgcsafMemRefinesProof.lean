/-
  'Rows.MemRefinesSaid' ('yellow/law.MemRefines'). The frame by hand, after the skeleton tool's, with the sized builder.
-/
import Derived.Test.YgcsafOpenOps
namespace Go.Proofs.Ygcsaf.memRefines
open Go.ChangeShapes Go.WideShapes Go.ChangeAt Go.RowKit
set_option linter.unusedVariables false
set_option linter.unusedSimpArgs false

set_option maxRecDepth 100000 in
theorem lifted (os : Os) (started : os.Started) (H : Type) (enc : TypeId × Value → H) :
    ReturnsInHanded {} Safg.checked os 5 .any (Rows.memRefinesSpec.pre6 enc Safg.prog Safg.f5 Rows.memRefinesRow.domain false) (Rows.memRefinesSpec.post enc Safg.prog Safg.f5 false true false false) := by
  refine returnsInHanded_of_change_sized (C := Safg.checked) own started (by kernel_rfl) Safg.func5
    (ChangeSpec.witness6 (enc := enc) (C := Safg.checked) false ⟨#[], #[.slice none 0 0], []⟩ 8 (by kernel_rfl) (by kernel_rfl) (by kernel_rfl) (by kernel_rfl)) ?_
  intro W base args ds gs before hval0 hW hcnd hsz0 _
  have hval : ∀ (j : Nat) t v, Safg.f5.params[j]? = some t → args[j]? = some v → Value.okWide Safg.prog W .any base t v := hval0
  have hW' := hW
  obtain ⟨p, q, hA0, hV, rfl, hfz, hnd⟩ := hW
  have hA : DataW.TrodAll enc Safg.prog W 0 (fun _ => true) true Safg.f5.params.toList args.toList ds p := hA0
  rw [Safg.params5] at hA hval
  obtain ⟨v0, vs0, d0, ds0, p0, q0, hargs, rfl, rfl, h0, r0⟩ := trodAll_cons hA
  obtain ⟨rfl, rfl, rfl⟩ := trodAll_nil r0
  obtain rfl : args = #[v0] := by cases args; simp_all
  obtain ⟨rfl, rfl⟩ := trodVars_none hV
  obtain ⟨a0, len0, cap0, rfl⟩ := okWide_slice Safg.underlying37 (hval 0 37 v0 rfl rfl)
  have k0 := h0
  have lt0 : ∀ x ∈ p0, x.block < W.heap.size := by obtain ⟨m, hm⟩ := k0; exact DataW.trod_lt m _ _ _ hm
  obtain ⟨hl, hm, hop⟩ := open_ops h0
  clear hA0 hval0 hsz0
  refine (memRefines_true W a0 len0 cap0 hl hm hop).mono fun e W' ⟨he, bel⟩ => ?_
  subst he
  exact ⟨_, rfl, _, _, _, [], _, [], hW', trodAll_mk1 (shut_bool Safg.underlying4 _), (trodAll_cons_mk (Below.trod laidOut (by kernel_rfl) (of_decide_eq_true (by kernel_rfl)) k0 bel lt0) trodAll_mk0), rfl, bel.frame _, fun h => by cases h⟩

theorem over : Rows.memRefinesRow.holds Safg.pinned (OpenSpec.ofChange Rows.memRefinesSpec) :=
  OpenClaim.holds_of_wide 5 Safg.f5 rfl rfl rfl rfl rfl rfl rfl ⟨rfl, rfl, rfl, rfl, rfl⟩ rfl rfl rfl rfl rfl (by kernel_rfl) Safg.func5 (by kernel_rfl)
    (of_decide_eq_true (by kernel_rfl)) (by unfold Func.isWrapper; first | (rw [if_pos (by decide +kernel)]; kernel_rfl) | (rw [if_neg (by decide +kernel)]; exact ⟨rfl, rfl⟩))
    (fun os started H enc _ => lifted os started H enc)

/-- THE STATEMENT -/
theorem proved : Rows.MemRefinesSaid := over
#print axioms proved
end Go.Proofs.Ygcsaf.memRefines
