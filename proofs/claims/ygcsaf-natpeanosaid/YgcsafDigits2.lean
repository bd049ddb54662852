import Derived.Test.YgcsafDigits
namespace Go.Proofs.Ygcsaf.D
set_option linter.unusedVariables false
set_option linter.unusedSimpArgs false

/-- One product of digits is added in: Mul's inner round. -/
theorem mul_step {L L0 Y : List Nat} {i j c x s : Nat} (hk : i + j < L.length) (h : val L + c * 256 ^ (i + j) = val L0 + x * 256 ^ i * val (Y.take j)) (hs : s = c + (x * Y.getD j 0 + L.getD (i + j) 0)) :
    val (L.set (i + j) (s % 256)) + (s / 256) * 256 ^ (i + (j + 1)) = val L0 + x * 256 ^ i * val (Y.take (j + 1)) := by
  have h1 := val_set (l := L) (k := i + j) (v := s % 256) hk
  have h2 := carry_step s (256 ^ (i + j))
  rw [val_take_succ Y j, Nat.mul_add, show i + (j + 1) = i + j + 1 by omega, Nat.pow_succ 256 (i + j)]
  have e1 : s * 256 ^ (i + j) = c * 256 ^ (i + j) + x * Y.getD j 0 * 256 ^ (i + j) + L.getD (i + j) 0 * 256 ^ (i + j) := by
    rw [hs, ← Nat.add_mul, ← Nat.add_mul]; congr 1; omega
  have e2 : x * 256 ^ i * (Y.getD j 0 * 256 ^ j) = x * Y.getD j 0 * 256 ^ (i + j) := by
    rw [Nat.pow_add, Nat.mul_assoc, Nat.mul_assoc, Nat.mul_left_comm (256 ^ i)]
  rw [e2]
  omega

theorem mul_last {L L0 X Y : List Nat} {i c x : Nat} (hx : x = X.getD i 0) (hk : i + Y.length < L.length) (h0 : L.getD (i + Y.length) 0 = 0) (h : val L + c * 256 ^ (i + Y.length) = val L0 + x * 256 ^ i * val (Y.take Y.length)) (hL0 : val L0 = val (X.take i) * val Y) :
    val (L.set (i + Y.length) c) = val (X.take (i + 1)) * val Y := by
  have h1 := val_set (l := L) (k := i + Y.length) (v := c) hk
  rw [h0] at h1
  rw [take_all (Nat.le_refl _)] at h
  rw [val_take_succ, Nat.add_mul, ← hL0, ← hx]
  omega
end Go.Proofs.Ygcsaf.D
