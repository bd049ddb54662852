/-
  'law.AluStep': whatever the input, it answers true, and the input reads as it did.
-/
import Derived.Test.YgcsafGreatRows
import Derived.Test.YgcsafGreatAluClosed
import Derived.Test.YgcsafGreatAluWalk
namespace Go.Proofs.YgcsafGreat.aluStep
open Go.ChangeShapes Go.WideShapes Go.ChangeAt Go.RowKit
set_option linter.unusedVariables false
set_option linter.unusedSimpArgs false

theorem bool4 : Safg.prog.underlying 4 = some .bool := by kernel_rfl
set_option maxRecDepth 100000 in
theorem lifted (os : Os) (started : os.Started) (H : Type) (enc : TypeId × Value → H) :
    ReturnsInHanded {} Safg.checked os 3 .any (Rows.aluStepSpec.pre6 enc Safg.prog Safg.f3 Rows.aluStepRow.domain false) (Rows.aluStepSpec.post enc Safg.prog Safg.f3 false true false false) := by
  refine returnsInHanded_of_change (C := Safg.checked) own started (by kernel_rfl) Safg.func3
    (ChangeSpec.witness6 (enc := enc) (C := Safg.checked) false ⟨#[], #[.int .u8 0, arrV (List.replicate 32 0), arrV (List.replicate 32 0), arrV (List.replicate 32 0)], []⟩ 8 (by kernel_rfl) (by kernel_rfl) (by kernel_rfl) (by kernel_rfl)) ?_
  intro W base args ds gs before hval0 hW hcnd _
  have hval : ∀ (j : Nat) t v, Safg.f3.params[j]? = some t → args[j]? = some v → Value.okWide Safg.prog W .any base t v := hval0
  have hW' := hW
  obtain ⟨p, q, hA0, hV, rfl, hfz, hnd⟩ := hW
  have hA : DataW.TrodAll enc Safg.prog W 0 (fun _ => true) true Safg.f3.params.toList args.toList ds p := hA0
  rw [Safg.params3] at hA hval
  obtain ⟨v0, vs0, d0, ds0, p0, q0, hargs, rfl, rfl, h0, r0⟩ := trodAll_cons hA
  obtain ⟨v1, vs1, d1, ds1, p1, q1, rfl, rfl, rfl, h1, r1⟩ := trodAll_cons r0
  obtain ⟨v2, vs2, d2, ds2, p2, q2, rfl, rfl, rfl, h2, r2⟩ := trodAll_cons r1
  obtain ⟨v3, vs3, d3, ds3, p3, q3, rfl, rfl, rfl, h3, r3⟩ := trodAll_cons r2
  obtain ⟨rfl, rfl, rfl⟩ := trodAll_nil r3
  obtain rfl : args = #[v0, v1, v2, v3] := by cases args; simp_all
  obtain ⟨rfl, rfl⟩ := trodVars_none hV
  obtain ⟨a0, rfl, rfl, rfl, w0⟩ := open_int Safg.int5 (hval 0 5 v0 rfl rfl) h0
  obtain ⟨c1, rfl⟩ := okWide_array Safg.arr22 (hval 1 22 v1 rfl rfl)
  obtain ⟨c2, rfl⟩ := okWide_array Safg.arr22 (hval 2 22 v2 rfl rfl)
  obtain ⟨c3, rfl⟩ := okWide_array Safg.arr22 (hval 3 22 v3 rfl rfl)
  have k1 := h1
  have k2 := h2
  have k3 := h3
  have lt1 : ∀ x ∈ p1, x.block < W.heap.size := by obtain ⟨m, hm⟩ := k1; exact DataW.trod_lt m _ _ _ hm
  have lt2 : ∀ x ∈ p2, x.block < W.heap.size := by obtain ⟨m, hm⟩ := k2; exact DataW.trod_lt m _ _ _ hm
  have lt3 : ∀ x ∈ p3, x.block < W.heap.size := by obtain ⟨m, hm⟩ := k3; exact DataW.trod_lt m _ _ _ hm
  obtain ⟨A, eA, lA, dA⟩ := open_arr32 h1
  obtain ⟨B, eB, lB, dB⟩ := open_arr32 h2
  obtain ⟨C, eC, lC, dC⟩ := open_arr32 h3
  clear hA0 hval0
  have hb0 := bounds_u8 w0
  obtain ⟨x, rfl⟩ := Int.eq_ofNat_of_zero_le hb0.1
  have HW := walk_any W x A B C lA lB lC dA dB dC
  rw [← eA, ← eB, ← eC] at HW
  refine HW.mono fun e W' ⟨he, bel⟩ => ?_
  subst he
  exact ⟨_, rfl, _, _, _, [], _, [], hW', trodAll_mk1 (shut_bool bool4 _), (trodAll_cons_mk (shut_int Safg.int5 w0) (trodAll_cons_mk (Below.trod laidOut (by kernel_rfl) (of_decide_eq_true (by kernel_rfl)) k1 bel lt1) (trodAll_cons_mk (Below.trod laidOut (by kernel_rfl) (of_decide_eq_true (by kernel_rfl)) k2 bel lt2) (trodAll_cons_mk (Below.trod laidOut (by kernel_rfl) (of_decide_eq_true (by kernel_rfl)) k3 bel lt3) trodAll_mk0)))), rfl, bel.frame _, fun h => by cases h⟩

theorem inst : Safg.f3.isInstance Safg.prog Rows.aluStepRow.origin Rows.aluStepRow.targs := of_decide_eq_true (by kernel_rfl)
theorem wrap : Safg.f3.isWrapper Safg.prog Rows.aluStepRow.wrapper Rows.aluStepRow.mainSum := by unfold Func.isWrapper; first | (rw [if_pos (by decide +kernel)]; kernel_rfl) | (rw [if_neg (by decide +kernel)]; exact ⟨rfl, rfl⟩)
theorem over : Rows.aluStepRow.holds Safg.pinned (OpenSpec.ofChange Rows.aluStepSpec) :=
  OpenClaim.holds_of_wide 3 Safg.f3 rfl rfl rfl rfl rfl rfl rfl ⟨rfl, rfl, rfl, rfl, rfl⟩ rfl rfl rfl rfl rfl named Safg.func3 closed inst wrap
    (fun os started H enc _ => lifted os started H enc)

/-- THE STATEMENT -/
theorem proved : Rows.AluStepSaid :=
  over
#print axioms proved
end Go.Proofs.YgcsafGreat.aluStep
