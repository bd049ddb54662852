/-
  ALGORITHM D's round, plain: the trial digit is the digit or one above it.
-/
import Derived.Test.YgcsafGreatTake
namespace Go.Proofs.YgcsafGreat
open Go.RowKit
set_option linter.unusedVariables false
set_option linter.unusedSimpArgs false

theorem K.digit_near {b P N V2 u v ur vr D : Nat} (hP : 0 < P) (hu : u = N * P + ur) (hur : ur < P) (hv : v = V2 * P + vr) (hvr : vr < P) (hb : 0 < b) (hV2 : b ≤ V2) (h1 : D ≤ N / V2) (h2 : D ≤ b - 1) (h3 : ∀ q, q ≤ N / V2 → q ≤ b - 1 → q ≤ D) (hlt : u < v * b) : D = u / v ∨ D = u / v + 1 := by
  have hV : 0 < V2 := by omega
  have hvp : 0 < v := by have := Nat.mul_pos hV hP; omega
  have hq1 : u / v < b := by rw [Nat.div_lt_iff_lt_mul hvp, Nat.mul_comm]; exact hlt
  have hm := Nat.div_add_mod u v
  have hml := Nat.mod_lt u hvp
  generalize u / v = q at *
  have hle : q ≤ D := by
    apply h3 q ?_ (by omega)
    rw [Nat.le_div_iff_mul_le hV]
    have e1 : q * v ≤ u := by rw [Nat.mul_comm]; omega
    have e2 : q * v = q * V2 * P + q * vr := by rw [hv, Nat.mul_add, Nat.mul_assoc]
    have e3 : q * V2 * P < (N + 1) * P := by rw [Nat.add_mul, Nat.one_mul]; omega
    have := Nat.lt_of_mul_lt_mul_right e3
    omega
  have hge : D ≤ q + 1 := by
    apply Nat.le_of_not_lt
    intro hc
    have e1 : D * V2 ≤ N := by rw [Nat.le_div_iff_mul_le hV] at h1; exact h1
    have e2 : D * V2 * P ≤ N * P := Nat.mul_le_mul_right _ e1
    obtain ⟨E, rfl⟩ : ∃ E, D = E + 1 := ⟨D - 1, by omega⟩
    have e3 : u < E * v := by
      have : (q + 1) * v ≤ E * v := Nat.mul_le_mul_right _ (by omega)
      rw [Nat.add_mul, Nat.one_mul, Nat.mul_comm q v] at this
      omega
    have e4 : E * v = E * V2 * P + E * vr := by rw [hv, Nat.mul_add, Nat.mul_assoc]
    have e5 : E * vr ≤ E * P := Nat.mul_le_mul_left _ (by omega)
    have e6 : (E + 1) * V2 * P = E * V2 * P + V2 * P := by rw [Nat.add_mul, Nat.one_mul, Nat.add_mul]
    have e7 : V2 * P < E * P := by omega
    have := Nat.lt_of_mul_lt_mul_right e7
    omega
  omega

theorem K.round_fin {u u1 v D k B : Nat} (hv : 0 < v) (hD : D = u / v ∨ D = u / v + 1) (e : u + B * k = u1 + D * v) (hu1 : u1 < B) (hk : k ≤ 1) (huB : u < B) :
    (k = 0 ∧ D = u / v ∧ u1 = u % v) ∨ (k = 1 ∧ D = u / v + 1 ∧ ∀ u2 k2, u1 + v = u2 + B * k2 → u2 < B → u2 = u % v) := by
  have hm := Nat.div_add_mod u v
  have hml := Nat.mod_lt u hv
  have hc : v * (u / v) = u / v * v := Nat.mul_comm _ _
  rcases hD with h | h
  · left
    subst h
    rcases (show k = 0 ∨ k = 1 by omega) with rfl | rfl
    · refine ⟨rfl, rfl, ?_⟩; rw [Nat.mul_zero] at e; omega
    · rw [Nat.mul_one] at e; omega
  · right
    subst h
    rw [Nat.add_mul, Nat.one_mul] at e
    rcases (show k = 0 ∨ k = 1 by omega) with rfl | rfl
    · rw [Nat.mul_zero] at e; omega
    · refine ⟨rfl, rfl, fun u2 k2 h2 h3 => ?_⟩
      rw [Nat.mul_one] at e
      have e2 : u2 + B * k2 = u % v + B * 1 := by omega
      have r1 : (u2 + B * k2) % B = u2 := by rw [Nat.add_mul_mod_self_left, Nat.mod_eq_of_lt h3]
      have r2 : (u % v + B * 1) % B = u % v := by rw [Nat.add_mul_mod_self_left, Nat.mod_eq_of_lt (by have := Nat.mod_le u v; omega)]
      rw [← r1, e2, r2]

theorem wv_low (U : List Nat) (o : Nat) : ∀ m, wv U o (m + 1) = U.getD o 0 + b64 * wv U (o + 1) m
  | 0 => by simp [wv]
  | m + 1 => by
    rw [wv_succ, wv_low U o m, wv_succ U (o + 1) m, Nat.mul_add, Nat.pow_succ, Nat.add_assoc, Nat.mul_comm (b64 ^ m) b64, Nat.mul_assoc, show o + 1 + m = o + (m + 1) by omega]

theorem alg2 {A X0 X1 P b : Nat} : A + P * X0 + P * b * X1 = (X1 * b + X0) * P + A := by
  have e1 : X1 * b * P = P * b * X1 := by rw [Nat.mul_comm P b, Nat.mul_comm (b * P), Nat.mul_assoc]
  rw [Nat.add_mul, e1, Nat.mul_comm X0]
  omega
theorem alg3 {A X0 X1 X2 P b : Nat} : A + P * X0 + P * b * X1 + P * b * b * X2 = ((X2 * b + X1) * b + X0) * P + A := by
  have e1 : X1 * b * P = P * b * X1 := by rw [Nat.mul_comm P b, Nat.mul_comm (b * P), Nat.mul_assoc]
  have e2 : X2 * b * b * P = P * b * b * X2 := by rw [Nat.mul_comm (P * b * b), Nat.mul_comm P b, Nat.mul_assoc, Nat.mul_assoc, Nat.mul_comm (b * P) b]
  rw [Nat.add_mul, Nat.add_mul, Nat.add_mul, e1, e2, Nat.mul_comm X0]
  omega
theorem wv_two (V : List Nat) (o m : Nat) : wv V o (m + 2) = (V.getD (o + (m + 1)) 0 * b64 + V.getD (o + m) 0) * b64 ^ m + wv V o m := by
  rw [wv_succ, wv_succ, Nat.pow_succ]
  exact alg2
theorem wv_three (U : List Nat) (o m : Nat) : wv U o (m + 3) = ((U.getD (o + (m + 2)) 0 * b64 + U.getD (o + (m + 1)) 0) * b64 + U.getD (o + m) 0) * b64 ^ m + wv U o m := by
  rw [wv_succ, wv_succ, wv_succ, Nat.pow_succ b64 (m + 1), Nat.pow_succ]
  exact alg3

/-- What DivMid says: the divisor is normal, what is left of the dividend is below it. -/
structure Mid (U V : List Nat) (o n : Nat) : Prop where
  top : 9223372036854775808 ≤ V.getD (n - 1) 0
  lt : wv U (o + 1) n < wv V 0 n

theorem Mid.high {U V : List Nat} {o m : Nat} (h : Mid U V o (m + 2)) (lU : Lim U) (lV : Lim V) : U.getD (o + (m + 2)) 0 ≤ V.getD (m + 1) 0 := by
  apply Nat.le_of_not_lt
  intro hc
  have h1 := h.lt
  rw [wv_succ, wv_succ V, Nat.zero_add, show o + 1 + (m + 1) = o + (m + 2) by omega] at h1
  have h2 := wv_lt lV 0 (m + 1)
  have h3 : b64 ^ (m + 1) * (V.getD (m + 1) 0 + 1) ≤ b64 ^ (m + 1) * U.getD (o + (m + 2)) 0 := Nat.mul_le_mul_left _ hc
  rw [Nat.mul_add, Nat.mul_one] at h3
  omega

theorem Mid.pos {U V : List Nat} {o n : Nat} (h : Mid U V o n) : 0 < wv V 0 n := by have := h.lt; omega

theorem half_base {x y : Nat} (h : 9223372036854775808 ≤ x) : b64 ≤ x * b64 + y := by
  have : 1 * b64 ≤ x * b64 := Nat.mul_le_mul_right _ (by omega)
  omega

theorem Mid.digit {U V : List Nat} {o m : Nat} (h : Mid U V o (m + 2)) (lU : Lim U) (lV : Lim V) :
    digit (U.getD (o + (m + 2)) 0) (U.getD (o + (m + 1)) 0) (U.getD (o + m) 0) (V.getD (m + 1) 0) (V.getD m 0) = wv U o (m + 3) / wv V 0 (m + 2) ∨
    digit (U.getD (o + (m + 2)) 0) (U.getD (o + (m + 1)) 0) (U.getD (o + m) 0) (V.getD (m + 1) 0) (V.getD m 0) = wv U o (m + 3) / wv V 0 (m + 2) + 1 := by
  have e1 := wv_three U o m
  have e2 := wv_two V 0 m
  rw [Nat.zero_add, Nat.zero_add] at e2
  refine K.digit_near (b := b64) (P := b64 ^ m) (pow_b64_pos m) e1 (wv_lt lU o m) e2 (wv_lt lV 0 m) b64_pos ?_ digit_le digit_cap (fun q h1 h2 => Nat.le_min.2 ⟨h1, h2⟩) ?_
  · have ht := h.top
    rw [show m + 2 - 1 = m + 1 by omega] at ht
    exact half_base ht
  · rw [show m + 3 = (m + 2) + 1 by omega, wv_low]
    have h1 := h.lt
    have h2 := lU.getD o
    rw [← b64_eq] at h2
    have h3 : b64 * (wv U (o + 1) (m + 2) + 1) ≤ b64 * wv V 0 (m + 2) := Nat.mul_le_mul_left _ h1
    rw [Nat.mul_add, Nat.mul_one] at h3
    rw [Nat.mul_comm (wv V 0 (m + 2))]
    omega
end Go.Proofs.YgcsafGreat
