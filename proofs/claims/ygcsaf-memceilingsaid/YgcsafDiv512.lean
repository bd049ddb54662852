/-
  'math/bits.Div64' at the divisor 512, 'num.Div64' there.
-/
import Derived.Test.YgcsafNum
import Derived.Deep.QuietTactic
import Derived.Test.YgcsafCmp
namespace Go.Proofs.Ygcsaf
open Go.RowKit
set_option linter.unusedVariables false
set_option linter.unusedSimpArgs false

set_option maxRecDepth 100000 in
theorem len64_512 (w : World) : Calls Safg.prog 101 #[.int .u64 512] w fun e w' => e = .returned (.int .i64 10) ∧ w' = w := by
  go_enter Safg.func101, Safg.ntmps101
  go_wp2
  go_ret
  exact ⟨by kernel_rfl, rfl⟩

theorem lead64_512 (w : World) : Calls Safg.prog 99 #[.int .u64 512] w fun e w' => e = .returned (.int .i64 54) ∧ w' = w := by
  go_enter Safg.func99, Safg.ntmps99
  go_wp2_with fail
  refine (len64_512 _).mono ?_
  rintro e w1 ⟨rfl, rfl⟩
  go_wp2
  go_ret
  exact ⟨rfl, rfl⟩

set_option maxRecDepth 100000 in
theorem div64_lo (w : World) (lo : Nat) (hl : lo < 18446744073709551616) : Calls Safg.prog 91 #[.int .u64 0, .int .u64 (lo : Int), .int .u64 512] w fun e w' => ∃ r : Nat, e = .returned (.tuple #[.int .u64 ((lo / 512 : Nat) : Int), .int .u64 (r : Int)]) ∧ Same w w' := by
  go_enter Safg.func91, Safg.ntmps91
  go_upto_region 6 with fail
  go_quiet (fail)
  go_wp2_with fail
  go_ret2
  exact ⟨lo % 512, by simp, Same.drewN _ _⟩

theorem and_top : bits .and .u64 9223372036854775808 4294967295 = 0 := M64.maskN 9223372036854775808 (by omega)
theorem or_parts (hi lo : Nat) (hh : hi < 512) (hl : lo < 18446744073709551616) : bits .or .u64 ((hi : Int) * 18014398509481984) ((lo : Int) / 1024) = ((hi * 18014398509481984 + lo / 1024 : Nat) : Int) := by
  have h := u64_or_nat (hi * 18014398509481984) (lo / 1024) (by omega) (by omega)
  have e : (2 ^ 54 * hi + lo / 1024) = 2 ^ 54 * hi ||| lo / 1024 := Nat.two_pow_add_eq_or_of_lt (by omega) hi
  rw [show (2 : Nat) ^ 54 = 18014398509481984 from rfl, Nat.mul_comm] at e
  rw [← e] at h
  rw [← h]
  congr 1

set_option maxRecDepth 100000 in
theorem un21 {U V Q R : Nat} (hq : U / 2147483648 = Q) (hr : U % 2147483648 = R) (hv : V < 4294967296) :
    IntKind.u64.wrap (IntKind.u64.wrap (IntKind.u64.wrap ((U : Int) * 4294967296) + (V : Int)) - IntKind.u64.wrap ((Q : Int) * 9223372036854775808)) = ((R * 4294967296 + V : Nat) : Int) := by
  have hu : U = Q * 2147483648 + R := by omega
  have hR : R < 2147483648 := by omega
  clear hq hr
  subst hu
  simp only [IntKind.wrap_u64, Int.emod_add_emod, Int.emod_sub_emod, Int.sub_emod_emod, Int.emod_emod_of_dvd, Int.dvd_refl]
  rw [show ((Q * 2147483648 + R : Nat) : Int) * 4294967296 + (V : Int) - (Q : Int) * 9223372036854775808 = ((R * 4294967296 + V : Nat) : Int) by omega]
  omega

theorem quo_last (z q x y : Nat) (h : q * 9223372036854775808 + x = z * 4194304) (hy : x / 2147483648 = y) : z / 512 = q * 4294967296 + y := by omega
theorem quo_mid (a m k q r : Nat) (h : a * 18014398509481984 + m = q * 2147483648 + r) : q * 9223372036854775808 + (r * 4294967296 + k * 4194304) = (a * 18446744073709551616 + (m * 1024 + k)) * 4194304 := by
  have h' := congrArg (fun t => t * 4294967296 + k * 4194304) h
  simp only [Nat.add_mul, Nat.mul_assoc, Nat.reduceMul] at h' ⊢
  rw [← Nat.add_assoc, ← h', Nat.add_assoc]
theorem quo_low {lo V V1 : Nat} (h2 : lo * 18014398509481984 % 18446744073709551616 = V) (h3 : V / 4294967296 = V1) : V1 = lo % 1024 * 4194304 := by omega
theorem quo_parts {hi lo U V V1 Q R X Q0 : Nat} (h1 : hi * 18014398509481984 + lo / 1024 = U) (h2 : lo * 18014398509481984 % 18446744073709551616 = V) (h3 : V / 4294967296 = V1)
    (h4 : U / 2147483648 = Q) (h5 : U % 2147483648 = R) (h6 : R * 4294967296 + V1 = X) (h7 : X / 2147483648 = Q0) :
    (hi * 18446744073709551616 + lo) / 512 = Q * 4294967296 + Q0 := by
  have a1 := quo_low h2 h3
  have a2 : U = Q * 2147483648 + R := by clear h1 h2 h3 h6 h7 a1; omega
  refine quo_last _ _ _ _ ?_ h7
  have a6 := quo_mid hi (lo / 1024) (lo % 1024) Q R (h1.trans a2)
  have a5 : lo / 1024 * 1024 + lo % 1024 = lo := Nat.div_add_mod' lo 1024
  rw [a5, ← a1, h6] at a6
  exact a6

set_option maxRecDepth 100000 in
set_option maxHeartbeats 2000000 in
theorem div64_hi (w : World) (hi lo : Nat) (hh : hi < 512) (hp : ((hi : Int) == 0) = false) (hl : lo < 18446744073709551616) : Calls Safg.prog 91 #[.int .u64 (hi : Int), .int .u64 (lo : Int), .int .u64 512] w fun e w' => ∃ r : Int, e = .returned (.tuple #[.int .u64 (((hi * 18446744073709551616 + lo) / 512 : Nat) : Int), .int .u64 r]) ∧ Same w w' := by
  obtain ⟨q, HQQ⟩ : ∃ q, Hid ((hi * 18446744073709551616 + lo) / 512 = q) := ⟨_, rfl⟩
  rw [HQQ.out]
  go_enter Safg.func91, Safg.ntmps91
  have h5 : decide ((512 : Int) ≤ (hi : Int)) = false := decide_eq_false (by omega)
  go_upto_region 11 with (go_at_call 99; refine (lead64_512 _).mono ?_; rintro e w1 ⟨rfl, rfl⟩)
  rw [and_top]
  go_upto_region 13 with fail
  rw [or_parts hi lo hh hl]
  obtain ⟨U, HU⟩ : ∃ U, Hid (hi * 18014398509481984 + lo / 1024 = U) := ⟨_, rfl⟩
  have hU : U < 9223372036854775808 := by have := HU.out; omega
  obtain ⟨V, HV, hV⟩ : ∃ V : Nat, IntKind.u64.wrap ((lo : Int) * 18014398509481984) = (V : Int) ∧ Hid (lo * 18014398509481984 % 18446744073709551616 = V) := ⟨_, by rw [IntKind.wrap_u64]; omega, rfl⟩
  rw [HU.out, HV]
  clear HV
  have hV' : V < 18446744073709551616 := by have := hV.out; omega
  go_upto_region 15 with fail
  rw [M64.maskN V hV']
  obtain ⟨V0, HV0⟩ : ∃ V0 : Nat, Hid (V % 4294967296 = V0) := ⟨_, rfl⟩
  obtain ⟨V1, HV1, hV1⟩ : ∃ V1 : Nat, ((V : Int) / 4294967296 = (V1 : Int)) ∧ Hid (V / 4294967296 = V1) := ⟨V / 4294967296, by omega, rfl⟩
  rw [HV0.out, HV1]
  clear HV1
  go_upto_region 17 with fail
  obtain ⟨Q, HQ, hQ⟩ : ∃ Q : Nat, ((U : Int) / 2147483648 = (Q : Int)) ∧ Hid (U / 2147483648 = Q) := ⟨U / 2147483648, by omega, rfl⟩
  rw [HQ]
  obtain ⟨R, HR, hR⟩ : ∃ R : Nat, ((U : Int) - (Q : Int) * 2147483648 = (R : Int)) ∧ Hid (U % 2147483648 = R) := ⟨U % 2147483648, by omega, rfl⟩
  rw [HR]
  have hQ4 : Q < 4294967296 := by have := hQ.out; omega
  have hR4 : R < 2147483648 := by have := hR.out; omega
  have hV4 : V1 < 4294967296 := by have := hV1.out; omega
  clear HQ HR
  go_loop [15, 16] (fun q r => q = .int .u64 (Q : Int) ∧ r = .int .u64 (R : Int)) (fun _ _ => 0)
  case atStart => exact ⟨rfl, rfl⟩
  case round =>
    obtain ⟨rfl, rfl⟩ := hrel
    have t1 : decide ((4294967296 : Int) ≤ (Q : Int)) = false := decide_eq_false (by omega)
    have t2 : decide (4294967296 * (R : Int) + (V1 : Int) < 0) = false := decide_eq_false (by omega)
    go_upto_region 22 with fail
    obtain ⟨X, HX, hX⟩ : ∃ X : Nat, IntKind.u64.wrap (IntKind.u64.wrap (IntKind.u64.wrap ((U : Int) * 4294967296) + (V1 : Int)) - IntKind.u64.wrap ((Q : Int) * 9223372036854775808)) = (X : Int) ∧ Hid (R * 4294967296 + V1 = X) := ⟨R * 4294967296 + V1, un21 hQ.out hR.out hV4, rfl⟩
    rw [HX]
    clear HX
    have hX4 : X < 9223372036854775808 := by have := hX.out; omega
    go_upto_region 24 with fail
    obtain ⟨Q0, HQ0, hQ0⟩ : ∃ Q0 : Nat, ((X : Int) / 2147483648 = (Q0 : Int)) ∧ Hid (X / 2147483648 = Q0) := ⟨X / 2147483648, by omega, rfl⟩
    rw [HQ0]
    obtain ⟨R0, HR0, hR0⟩ : ∃ R0 : Nat, ((X : Int) - (Q0 : Int) * 2147483648 = (R0 : Int)) ∧ Hid (X % 2147483648 = R0) := ⟨X % 2147483648, by omega, rfl⟩
    rw [HR0]
    have hQ04 : Q0 < 4294967296 := by have := hQ0.out; omega
    have hR04 : R0 < 2147483648 := by have := hR0.out; omega
    have hV04 : V0 < 4294967296 := by have := HV0.out; omega
    clear HQ0 HR0 t1 t2
    go_loop [18, 16] (fun q r => q = .int .u64 (Q0 : Int) ∧ r = .int .u64 (R0 : Int)) (fun _ _ => 0)
    case atStart => exact ⟨rfl, rfl⟩
    case round =>
      obtain ⟨rfl, rfl⟩ := hrel
      have t1 : decide ((4294967296 : Int) ≤ (Q0 : Int)) = false := decide_eq_false (by omega)
      have t2 : decide (4294967296 * (R0 : Int) + (V0 : Int) < 0) = false := decide_eq_false (by omega)
      go_wp2_with fail
      go_ret2
      have HE : (q : Int) = (Q : Int) * 4294967296 + (Q0 : Int) := by
        rw [← HQQ.out, quo_parts HU.out hV.out hV1.out hQ.out hR.out hX.out hQ0.out]; omega
      rw [HE]
      exact ⟨⟨_, rfl⟩, Same.refl _⟩

theorem numDiv_no (w : World) (hi lo : Nat) (h : 512 ≤ hi) (hh : hi < 18446744073709551616) (hl : lo < 18446744073709551616) :
    Calls Safg.prog 46 #[.int .u64 (hi : Int), .int .u64 (lo : Int), .int .u64 512] w fun e w' => e = .returned (.tuple #[.int .u64 0, .int .u64 0, .bool false]) ∧ w' = w := by
  have h5 : decide ((512 : Int) ≤ (hi : Int)) = true := decide_eq_true (by omega)
  go_enter Safg.func46, Safg.ntmps46
  go_wp2
  go_ret3
  exact ⟨rfl, rfl⟩

set_option maxHeartbeats 400000 in
theorem numDiv_yes (w : World) (hi lo : Nat) (h : hi < 512) (hl : lo < 18446744073709551616) :
    Calls Safg.prog 46 #[.int .u64 (hi : Int), .int .u64 (lo : Int), .int .u64 512] w fun e w' => ∃ r : Int, e = .returned (.tuple #[.int .u64 (((hi * 18446744073709551616 + lo) / 512 : Nat) : Int), .int .u64 r, .bool true]) ∧ Same w w' := by
  have h5 : decide ((512 : Int) ≤ (hi : Int)) = false := decide_eq_false (by omega)
  go_enter Safg.func46, Safg.ntmps46
  go_wp2_with fail
  obtain ⟨q, HQ⟩ : ∃ q, Hid ((hi * 18446744073709551616 + lo) / 512 = q) := ⟨_, rfl⟩
  by_cases h0 : hi = 0
  · subst h0
    refine (div64_lo _ lo hl).mono ?_
    rintro e w1 ⟨r, rfl, s1⟩
    have HE : Hid (lo / 512 = q) := by show _ = _; have := HQ.out; omega
    rw [HE.out]
    go_wp2
    go_ret3
    exact ⟨r, by rw [HQ.out]; rfl, s1⟩
  · refine (div64_hi _ hi lo h (by simp; exact h0) hl).mono ?_
    rintro e w1 ⟨r, rfl, s1⟩
    rw [HQ.out]
    go_wp2
    go_ret3
    exact ⟨r, by rw [HQ.out]; rfl, s1⟩
end Go.Proofs.Ygcsaf
