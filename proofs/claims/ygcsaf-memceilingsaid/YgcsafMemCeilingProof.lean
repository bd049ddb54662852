/-
  'Rows.MemCeilingSaid' ('yellow/law.MemCeiling').
-/
import Derived.Test.YgcsafCeil
import Derived.Test.YgcsafOpen
namespace Go.Proofs.Ygcsaf.memCeiling
open Go.ChangeShapes Go.WideShapes Go.ChangeAt Go.RowKit
set_option linter.unusedVariables false
set_option linter.unusedSimpArgs false

theorem own : ownKnob Safg.prog.godebug = none := by kernel_rfl

set_option maxHeartbeats 400000 in
theorem walk (w : World) (n : Nat) (hn : n < 18446744073709551616) :
    Calls Safg.prog 3 #[.int .u64 (n : Int)] w fun e w' => e = .returned (.bool true) ∧ Below w.heap.size w w' := by
  have HH := memCeilingHolds_true (n := n) (hn := hn)
  have HT : Hid (costN 22415 = 1048557) := by show _ = _; decide
  obtain ⟨c, HC⟩ : ∃ c, Hid (costN n = c) := ⟨_, rfl⟩
  have HM := memCost_any (n := n) (hn := hn)
  rw [HC.out] at HH HM
  go_enter Safg.func3, Safg.ntmps3
  go_wp2_with fail
  refine (HM _).mono ?_
  rintro e w1 ⟨rfl, s1⟩
  have b1 := s1.below w.heap.size
  go_wp2_with fail
  refine (HH _).mono ?_
  rintro e w2 ⟨rfl, b2⟩
  have b02 := b1.trans (b2.mono b1.size)
  go_wp2_with (go_at_call 14; refine (memCost_any _ 22415 (by omega)).mono ?_; rintro e w3 ⟨rfl, s3⟩; rw [HT.out])
  go_ret
  exact ⟨rfl, b02.trans (s3.below _)⟩

set_option maxRecDepth 100000 in
theorem lifted (os : Os) (started : os.Started) (H : Type) (enc : TypeId × Value → H) :
    ReturnsInHanded {} Safg.checked os 3 .any (Rows.memCeilingSpec.pre6 enc Safg.prog Safg.f3 Rows.memCeilingRow.domain false) (Rows.memCeilingSpec.post enc Safg.prog Safg.f3 false true false false) := by
  refine returnsInHanded_of_change (C := Safg.checked) own started (by kernel_rfl) Safg.func3
    (ChangeSpec.witness6 (enc := enc) (C := Safg.checked) false ⟨#[], #[.int .u64 0], []⟩ 8 (by kernel_rfl) (by kernel_rfl) (by kernel_rfl) (by kernel_rfl)) ?_
  intro W base args ds gs before hval0 hW hcnd _
  have hval : ∀ (j : Nat) t v, Safg.f3.params[j]? = some t → args[j]? = some v → Value.okWide Safg.prog W .any base t v := hval0
  have hW' := hW
  obtain ⟨p, q, hA0, hV, rfl, hfz, hnd⟩ := hW
  have hA : DataW.TrodAll enc Safg.prog W 0 (fun _ => true) true Safg.f3.params.toList args.toList ds p := hA0
  rw [Safg.params3] at hA hval
  obtain ⟨v0, vs0, d0, ds0, p0, q0, hargs, rfl, rfl, h0, r0⟩ := trodAll_cons hA
  obtain ⟨rfl, rfl, rfl⟩ := trodAll_nil r0
  obtain rfl : args = #[v0] := by cases args; simp_all
  obtain ⟨rfl, rfl⟩ := trodVars_none hV
  obtain ⟨a0, rfl, rfl, rfl, w0⟩ := open_int Safg.underlying22 (hval 0 22 v0 rfl rfl) h0
  clear hA0 hval0
  simp only [List.append_nil] at hW'
  have hb0 := bounds_u64 w0
  obtain ⟨x, rfl⟩ := Int.eq_ofNat_of_zero_le hb0.1
  refine (walk W x (by omega)).mono fun e W' ⟨he, bel⟩ => ?_
  subst he
  exact ⟨_, rfl, _, _, _, [], _, [], hW', trodAll_mk1 (shut_bool Safg.underlying4 _), (trodAll_cons_mk (shut_int Safg.underlying22 w0) trodAll_mk0), rfl, bel.frame _, fun h => by cases h⟩

theorem over : Rows.memCeilingRow.holds Safg.pinned (OpenSpec.ofChange Rows.memCeilingSpec) :=
  OpenClaim.holds_of_wide 3 Safg.f3 rfl rfl rfl rfl rfl rfl rfl ⟨rfl, rfl, rfl, rfl, rfl⟩ rfl rfl rfl rfl rfl (by kernel_rfl) Safg.func3 (by kernel_rfl)
    (of_decide_eq_true (by kernel_rfl)) (by unfold Func.isWrapper; first | (rw [if_pos (by decide +kernel)]; kernel_rfl) | (rw [if_neg (by decide +kernel)]; exact ⟨rfl, rfl⟩))
    (fun os started H enc _ => lifted os started H enc)

/-- THE STATEMENT -/
theorem proved : Rows.MemCeilingSaid :=
  over
#print axioms proved
end Go.Proofs.Ygcsaf.memCeiling
