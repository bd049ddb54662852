/-
  'num.Div64' (325), whatever the numbers.
-/
import Derived.Test.YgcsafGreatDiv64
import Derived.Deep.QuietTactic
import Derived.BigQuiet
namespace Go.Proofs.YgcsafGreat
open Go.RowKit
set_option linter.unusedVariables false
set_option linter.unusedSimpArgs false

set_option maxRecDepth 100000 in
theorem div64_lo (w : World) (lo y : Nat) (h0 : 0 < y) (hy : y < 18446744073709551616) (hl : lo < 18446744073709551616) :
    Calls Safg.prog 377 #[.int .u64 0, .int .u64 (lo : Int), .int .u64 (y : Int)] w fun e w' => e = .returned (.tuple #[.int .u64 ((lo / y : Nat) : Int), .int .u64 ((lo % y : Nat) : Int)]) ∧ Same w w' := by
  have t0 : ((y : Int) == 0) = false := by simp; omega
  have t1 : decide ((y : Int) ≤ 0) = false := decide_eq_false (by omega)
  obtain ⟨Q, HQ⟩ : ∃ Q, Hid (lo / y = Q) := ⟨_, rfl⟩
  obtain ⟨R, HR⟩ : ∃ R, Hid (lo % y = R) := ⟨_, rfl⟩
  rw [HQ.out, HR.out]
  have E1 : Hid (IntKind.u64.wrap ((lo : Int) / (y : Int)) = (Q : Int)) := by
    show _ = _
    rw [← HQ.out, ← Int.natCast_ediv]; exact M64.wrapN _ (Nat.lt_of_le_of_lt (Nat.div_le_self _ _) hl)
  have E2 : Hid (IntKind.u64.wrap ((lo : Int) % (y : Int)) = (R : Int)) := by
    show _ = _
    rw [← HR.out, ← Int.natCast_emod]; exact M64.wrapN _ (Nat.lt_of_le_of_lt (Nat.mod_le _ _) hl)
  have E3 : Hid (((lo : Int) % (y : Int)) = (R : Int)) := by
    show _ = _
    rw [← HR.out, ← Int.natCast_emod]
  go_enter Safg.func377, Safg.ntmps377
  go_upto_region 6 with fail
  go_quiet (fail)
  go_wp2_with fail
  first | rw [E1.out] | skip
  first | rw [E2.out] | rw [E3.out]
  go_ret2
  exact ⟨rfl, Same.drewN _ _⟩

/-- 'num.Div64'. -/
theorem Div64_ok (w : World) (hi lo y : Nat) (hh : hi < y) (hy : y < 18446744073709551616) (hl : lo < 18446744073709551616) :
    Calls Safg.prog 325 #[.int .u64 (hi : Int), .int .u64 (lo : Int), .int .u64 (y : Int)] w fun e w' => e = .returned (.tuple #[.int .u64 (((hi * 18446744073709551616 + lo) / y : Nat) : Int), .int .u64 (((hi * 18446744073709551616 + lo) % y : Nat) : Int), .bool true]) ∧ Same w w' := by
  have t0 : ((y : Int) == 0) = false := by simp; omega
  have t1 : decide ((y : Int) ≤ (hi : Int)) = false := decide_eq_false (by omega)
  have H : Calls Safg.prog 377 #[.int .u64 (hi : Int), .int .u64 (lo : Int), .int .u64 (y : Int)] w fun e w' => e = .returned (.tuple #[.int .u64 (((hi * 18446744073709551616 + lo) / y : Nat) : Int), .int .u64 (((hi * 18446744073709551616 + lo) % y : Nat) : Int)]) ∧ Same w w' := by
    by_cases h0 : hi = 0
    · subst h0
      have := div64_lo w lo y (by omega) hy hl
      simpa using this
    · exact div64_hi w hi lo y hh hy (by simpa using h0) hl
  obtain ⟨Q, HQ⟩ : ∃ Q, Hid ((hi * 18446744073709551616 + lo) / y = Q) := ⟨_, rfl⟩
  obtain ⟨R, HR⟩ : ∃ R, Hid ((hi * 18446744073709551616 + lo) % y = R) := ⟨_, rfl⟩
  rw [HQ.out, HR.out] at H
  rw [HQ.out, HR.out]
  go_enter Safg.func325, Safg.ntmps325
  go_wp2_with fail
  refine H.mono ?_
  rintro e w1 ⟨rfl, s1⟩
  go_wp2
  go_ret3
  exact ⟨rfl, s1⟩
theorem Div64_no (w : World) (hi lo y : Nat) (hh : y ≤ hi) :
    Calls Safg.prog 325 #[.int .u64 (hi : Int), .int .u64 (lo : Int), .int .u64 (y : Int)] w fun e w' => e = .returned (.tuple #[.int .u64 0, .int .u64 0, .bool false]) ∧ w' = w := by
  by_cases h0 : y = 0
  · subst h0
    go_enter Safg.func325, Safg.ntmps325
    go_wp2
    go_ret3
    exact ⟨rfl, rfl⟩
  · have t0 : ((y : Int) == 0) = false := by simpa using h0
    have t1 : decide ((y : Int) ≤ (hi : Int)) = true := decide_eq_true (by omega)
    go_enter Safg.func325, Safg.ntmps325
    go_wp2
    go_ret3
    exact ⟨rfl, rfl⟩
end Go.Proofs.YgcsafGreat
