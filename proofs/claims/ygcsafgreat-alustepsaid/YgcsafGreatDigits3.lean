import Derived.Test.YgcsafGreatDigits2
namespace Go.Proofs.YgcsafGreat.D
set_option linter.unusedVariables false
set_option linter.unusedSimpArgs false

theorem getD_val {L : List Nat} (h : Dig L) (k : Nat) : L.getD k 0 = val L / 256 ^ k % 256 := by
  induction L generalizing k with
  | nil => simp [val]
  | cons d l ih =>
    have hd := h.head
    cases k with
    | zero => simp [val]; omega
    | succ k =>
      have := ih h.tail k
      simp only [List.getD_cons_succ, val]
      rw [this, Nat.pow_succ, Nat.mul_comm (256 ^ k) 256, ← Nat.div_div_eq_div_mul]
      congr 2
      omega

theorem dbl_step {R R0 : List Nat} {k c bit v c' : Nat} (hk : k < R.length) (h : val (R.take k) + c * 256 ^ k = 2 * val (R0.take k) + bit) (hv : v + 256 * c' = 2 * R0.getD k 0 + c) :
    val ((R.set k v).take (k + 1)) + c' * 256 ^ (k + 1) = 2 * val (R0.take (k + 1)) + bit := by
  rw [val_take_set hk, val_take_succ R0, Nat.pow_succ]
  have h1 : (v + 256 * c') * 256 ^ k = (2 * R0.getD k 0 + c) * 256 ^ k := by rw [hv]
  rw [Nat.add_mul, Nat.add_mul] at h1
  have h3 : 256 * c' * 256 ^ k = c' * (256 ^ k * 256) := by rw [Nat.mul_comm 256 c', Nat.mul_assoc, Nat.mul_comm 256]
  have h4 : 2 * R0.getD k 0 * 256 ^ k = 2 * (R0.getD k 0 * 256 ^ k) := Nat.mul_assoc _ _ _
  omega

theorem pow8 (m : Nat) : 2 ^ m = 256 ^ (m / 8) * 2 ^ (m % 8) := by
  have e : (256 : Nat) ^ (m / 8) = 2 ^ (8 * (m / 8)) := by rw [Nat.pow_mul]
  rw [e, ← Nat.pow_add]
  congr 1; omega

theorem bit_of_byte (y b : Nat) (hb : b < 8) : y % 256 / 2 ^ b % 2 = y / 2 ^ b % 2 := by
  rcases (show b = 0 ∨ b = 1 ∨ b = 2 ∨ b = 3 ∨ b = 4 ∨ b = 5 ∨ b = 6 ∨ b = 7 by omega) with h | h | h | h | h | h | h | h <;> subst h <;> simp <;> omega

/-- The bit that DivMod brings down. -/
theorem bit_at {X : List Nat} (h : Dig X) (m : Nat) : X.getD (m / 8) 0 / 2 ^ (m % 8) % 2 = val X / 2 ^ m % 2 := by
  rw [getD_val h, bit_of_byte _ _ (by omega), Nat.div_div_eq_div_mul, ← pow8]

theorem low_zero (q b : Nat) (hb : b < 8) : q * 2 ^ (b + 1) % 256 % 2 ^ (b + 1) = 0 ∧ q * 2 ^ (b + 1) % 256 + 2 ^ b < 256 := by
  rcases (show b = 0 ∨ b = 1 ∨ b = 2 ∨ b = 3 ∨ b = 4 ∨ b = 5 ∨ b = 6 ∨ b = 7 by omega) with h | h | h | h | h | h | h | h <;> subst h <;> simp <;> omega

/-- The place where a bit of the quotient is laid is free. -/
theorem free_at {Q : List Nat} (h : Dig Q) {q m : Nat} (hv : val Q = q * 2 ^ (m + 1)) : Q.getD (m / 8) 0 % 2 ^ (m % 8 + 1) = 0 ∧ Q.getD (m / 8) 0 + 2 ^ (m % 8) < 256 := by
  have e : Q.getD (m / 8) 0 = q * 2 ^ (m % 8 + 1) % 256 := by
    rw [getD_val h, hv, Nat.pow_succ, pow8 m]
    congr 1
    rw [Nat.pow_succ, show q * (256 ^ (m / 8) * 2 ^ (m % 8) * 2) = 256 ^ (m / 8) * (q * (2 ^ (m % 8) * 2)) by rw [Nat.mul_assoc, Nat.mul_left_comm]]
    exact Nat.mul_div_cancel_left _ (Nat.pow_pos (by omega))
  rw [e]
  exact low_zero q (m % 8) (by omega)

theorem lay_bit {Q : List Nat} {q m : Nat} (hk : m / 8 < Q.length) (hv : val Q = q * 2 ^ (m + 1)) : val (Q.set (m / 8) (Q.getD (m / 8) 0 + 2 ^ (m % 8))) = (2 * q + 1) * 2 ^ m := by
  have h1 := val_set (l := Q) (k := m / 8) (v := Q.getD (m / 8) 0 + 2 ^ (m % 8)) hk
  rw [Nat.add_mul, Nat.mul_comm (2 ^ (m % 8)), ← pow8] at h1
  rw [Nat.add_mul, Nat.one_mul]
  have h2 : 2 * q * 2 ^ m = q * 2 ^ (m + 1) := by rw [Nat.pow_succ, Nat.mul_comm 2 q, Nat.mul_assoc, Nat.mul_comm 2]
  omega

/-- DivMod's round in numbers. -/
theorem div_step {N m q r d : Nat} (h : N / 2 ^ (m + 1) = q * d + r) : N / 2 ^ m = 2 * q * d + (2 * r + N / 2 ^ m % 2) := by
  rw [Nat.pow_succ, ← Nat.div_div_eq_div_mul] at h
  have h1 : 2 * q * d = 2 * (q * d) := Nat.mul_assoc _ _ _
  omega

theorem or_free (x b : Nat) (hb : b < 8) (h : x % 2 ^ (b + 1) = 0) : x ||| 2 ^ b = x + 2 ^ b := by
  have e : x = 2 ^ (b + 1) * (x / 2 ^ (b + 1)) := by
    have := Nat.div_add_mod x (2 ^ (b + 1))
    omega
  rw [e, ← Nat.two_pow_add_eq_or_of_lt (by rw [Nat.pow_succ]; have : 0 < 2 ^ b := Nat.pow_pos (by omega); omega)]
end Go.Proofs.YgcsafGreat.D
