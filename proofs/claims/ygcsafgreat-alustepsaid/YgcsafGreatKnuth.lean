/-
  ALGORITHM D's digit, plain: two limbs of the divisor, three of what is left, in whatever base b.
-/
import Derived.Test.YgcsafGreatDigits
namespace Go.Proofs.YgcsafGreat.K
set_option linter.unusedVariables false

/-- While the test holds the trial digit is too great. -/
theorem step {b v1 v0 u r q u1 : Nat} (hu : q * v1 + r = u) (ht : b ≤ q ∨ b * r + u1 < q * v0) (hq : (u * b + u1) / (v1 * b + v0) < b) (hv : 0 < v1 * b + v0) : (u * b + u1) / (v1 * b + v0) < q := by
  rcases ht with h | h
  · omega
  · rw [Nat.div_lt_iff_lt_mul hv]
    have h1 : u * b = q * v1 * b + r * b := by rw [← hu, Nat.add_mul]
    have h2 : q * (v1 * b + v0) = q * v1 * b + q * v0 := by rw [Nat.mul_add, Nat.mul_assoc]
    have h3 : b * r = r * b := Nat.mul_comm _ _
    omega
/-- Where the test fails the trial digit is not too great. -/
theorem done {b v1 v0 u r q u1 : Nat} (hu : q * v1 + r = u) (ht : q * v0 ≤ b * r + u1) (hv : 0 < v1 * b + v0) : q ≤ (u * b + u1) / (v1 * b + v0) := by
  rw [Nat.le_div_iff_mul_le hv]
  have h1 : u * b = q * v1 * b + r * b := by rw [← hu, Nat.add_mul]
  have h2 : q * (v1 * b + v0) = q * v1 * b + q * v0 := by rw [Nat.mul_add, Nat.mul_assoc]
  have h3 : b * r = r * b := Nat.mul_comm _ _
  omega
theorem below {b v1 v0 u u1 : Nat} (hu : u < v1 * b + v0) (h1 : u1 < b) : (u * b + u1) / (v1 * b + v0) < b := by
  have hv : 0 < v1 * b + v0 := by omega
  rw [Nat.div_lt_iff_lt_mul hv]
  have : (u + 1) * b ≤ (v1 * b + v0) * b := Nat.mul_le_mul_right b hu
  rw [Nat.add_mul] at this
  rw [Nat.mul_comm b]
  omega
theorem first {b v1 v0 u u1 : Nat} (hb : 0 < v1) (hv0 : v0 < b) : (u * b + u1) / (v1 * b + v0) ≤ u / v1 ∨ b ≤ u1 := by
  by_cases h : u1 < b
  · left
    have hb0 : 0 < b := by omega
    have hv : 0 < v1 * b + v0 := by have := Nat.mul_pos hb hb0; omega
    rw [← Nat.lt_succ_iff, Nat.div_lt_iff_lt_mul hv]
    have h1 := Nat.div_add_mod u v1
    have h2 := Nat.mod_lt u hb
    have h3 : u < (u / v1 + 1) * v1 := by rw [Nat.add_mul, Nat.mul_comm]; omega
    have h4 : (u + 1) * b ≤ (u / v1 + 1) * v1 * b := Nat.mul_le_mul_right b h3
    have h5 : (u / v1 + 1) * (v1 * b + v0) = (u / v1 + 1) * v1 * b + (u / v1 + 1) * v0 := by rw [Nat.mul_add, Nat.mul_assoc]
    have h6 : (u + 1) * b = u * b + b := by rw [Nat.add_mul, Nat.one_mul]
    show u * b + u1 < (u / v1 + 1) * (v1 * b + v0)
    omega
  · exact .inr (by omega)

/-- The first trial digit is not far above the base. -/
theorem cap {b v1 v0 u : Nat} (hb : b ≤ 2 * v1) (hv1 : 0 < v1) (hv0 : v0 < b) (hu : u < v1 * b + v0) : u / v1 ≤ b + 1 := by
  rw [← Nat.lt_succ_iff, Nat.div_lt_iff_lt_mul hv1]
  have : (b + 1 + 1) * v1 = v1 * b + 2 * v1 := by rw [Nat.add_assoc, Nat.add_mul, Nat.mul_comm b]
  show u < (b + 1 + 1) * v1
  omega
/-- The remainder behind the digit. -/
theorem rest {b v1 v0 u u1 q : Nat} (hv : 0 < v1 * b + v0) (hq : q = (u * b + u1) / (v1 * b + v0)) : q * (v1 * b + v0) + (u * b + u1) % (v1 * b + v0) = u * b + u1 := by
  subst hq
  rw [Nat.mul_comm]
  exact Nat.div_add_mod _ _
end Go.Proofs.YgcsafGreat.K
