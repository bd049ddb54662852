import Derived.Test.YgcsafGreatDigits
namespace Go.Proofs.YgcsafGreat.D
set_option linter.unusedVariables false
set_option linter.unusedSimpArgs false

/-- One product of digits is added in: Mul's inner round. -/
theorem mul_step {L L0 Y : List Nat} {i j c x s : Nat} (hk : i + j < L.length) (h : val L + c * 256 ^ (i + j) = val L0 + x * 256 ^ i * val (Y.take j)) (hs : s = c + (x * Y.getD j 0 + L.getD (i + j) 0)) :
    val (L.set (i + j) (s % 256)) + (s / 256) * 256 ^ (i + (j + 1)) = val L0 + x * 256 ^ i * val (Y.take (j + 1)) := by
  have h1 := val_set (l := L) (k := i + j) (v := s % 256) hk
  have h2 := carry_step s (256 ^ (i + j))
  rw [val_take_succ Y j, Nat.mul_add, show i + (j + 1) = i + j + 1 by omega, Nat.pow_succ 256 (i + j)]
  have e1 : s * 256 ^ (i + j) = c * 256 ^ (i + j) + x * Y.getD j 0 * 256 ^ (i + j) + L.getD (i + j) 0 * 256 ^ (i + j) := by
    rw [hs, ← Nat.add_mul, ← Nat.add_mul]; congr 1; omega
  have e2 : x * 256 ^ i * (Y.getD j 0 * 256 ^ j) = x * Y.getD j 0 * 256 ^ (i + j) := by
    rw [Nat.pow_add, Nat.mul_assoc, Nat.mul_assoc, Nat.mul_left_comm (256 ^ i)]
  rw [e2]
  omega

theorem mul_last {L L0 X Y : List Nat} {i c x : Nat} (hx : x = X.getD i 0) (hk : i + Y.length < L.length) (h0 : L.getD (i + Y.length) 0 = 0) (h : val L + c * 256 ^ (i + Y.length) = val L0 + x * 256 ^ i * val (Y.take Y.length)) (hL0 : val L0 = val (X.take i) * val Y) :
    val (L.set (i + Y.length) c) = val (X.take (i + 1)) * val Y := by
  have h1 := val_set (l := L) (k := i + Y.length) (v := c) hk
  rw [h0] at h1
  rw [take_all (Nat.le_refl _)] at h
  rw [val_take_succ, Nat.add_mul, ← hL0, ← hx]
  omega
/-- -1, 0 or 1. -/
def cmpN (a b : Nat) : Int := if a < b then -1 else if b < a then 1 else 0
theorem cmpN_lt {a b : Nat} (h : a < b) : cmpN a b = -1 := by simp [cmpN, h]
theorem cmpN_gt {a b : Nat} (h : b < a) : cmpN a b = 1 := by unfold cmpN; rw [if_neg (by omega), if_pos h]
theorem cmpN_eq {a b : Nat} (h : a = b) : cmpN a b = 0 := by unfold cmpN; rw [if_neg (by omega), if_neg (by omega)]

theorem val_split (l : List Nat) (i : Nat) (hi : i ≤ l.length) : val l = val (l.take i) + 256 ^ i * val (l.drop i) := by
  have := val_append (l.take i) (l.drop i)
  rw [List.take_append_drop] at this
  rw [this]
  have e : (l.take i).length = i := by simp; omega
  rw [e]

theorem Nm.val_ge {l : List Nat} (h : Nm l) (hne : l ≠ []) : 256 ^ (l.length - 1) ≤ val l := by
  have hl : 0 < l.length := List.length_pos_iff.2 hne
  have h1 := h hne
  have h2 := val_take_succ l (l.length - 1)
  rw [show l.length - 1 + 1 = l.length by omega, take_all (Nat.le_refl _)] at h2
  have h3 : 256 ^ (l.length - 1) ≤ l.getD (l.length - 1) 0 * 256 ^ (l.length - 1) := Nat.le_mul_of_pos_left _ (by omega)
  omega

theorem lt_of_len {X Y : List Nat} (dX : Dig X) (nY : Nm Y) (h : X.length < Y.length) : val X < val Y := by
  have hne : Y ≠ [] := by intro e; rw [e] at h; simp at h
  have h1 := val_lt dX
  have h2 := nY.val_ge hne
  have h3 : 256 ^ X.length ≤ 256 ^ (Y.length - 1) := Nat.pow_le_pow_right (by omega) (by omega)
  omega

/-- The first digit from the top that differs tells. -/
theorem lt_of_digit {X Y : List Nat} {i : Nat} (dX : Dig X) (hX : i < X.length) (hY : i < Y.length) (ht : val (X.drop (i + 1)) = val (Y.drop (i + 1))) (hd : X.getD i 0 < Y.getD i 0) : val X < val Y := by
  rw [val_split X (i + 1) (by omega), val_split Y (i + 1) (by omega), ht, val_take_succ, val_take_succ]
  have h1 := val_lt (dX.take i)
  have e : (X.take i).length = i := by simp; omega
  rw [e] at h1
  have h2 : (X.getD i 0 + 1) * 256 ^ i ≤ Y.getD i 0 * 256 ^ i := Nat.mul_le_mul_right _ hd
  rw [Nat.add_mul] at h2
  omega

theorem drop_succ_eq {X Y : List Nat} {i : Nat} (hX : i < X.length) (hY : i < Y.length) (ht : val (X.drop (i + 1)) = val (Y.drop (i + 1))) (hd : X.getD i 0 = Y.getD i 0) : val (X.drop i) = val (Y.drop i) := by
  rw [val_drop hX, val_drop hY, ht, hd]

/-- One digit is taken off: take's round. -/
theorem take_step {L L0 B : List Nat} {k bw s v bw' : Nat} (hk : k < L.length) (h : val (L.take k) + val (B.take k) = val (L0.take k) + bw * 256 ^ k) (hs : s = bw + B.getD k 0) (hv : v + s = L0.getD k 0 + 256 * bw') :
    val ((L.set k v).take (k + 1)) + val (B.take (k + 1)) = val (L0.take (k + 1)) + bw' * 256 ^ (k + 1) := by
  rw [val_take_set hk, val_take_succ B, val_take_succ L0, Nat.pow_succ]
  have h1 : (v + s) * 256 ^ k = (L0.getD k 0 + 256 * bw') * 256 ^ k := by rw [hv]
  rw [Nat.add_mul, Nat.add_mul] at h1
  have h2 : s * 256 ^ k = bw * 256 ^ k + B.getD k 0 * 256 ^ k := by rw [hs, Nat.add_mul]
  have h3 : 256 * bw' * 256 ^ k = bw' * (256 ^ k * 256) := by rw [Nat.mul_comm 256 bw', Nat.mul_assoc, Nat.mul_comm 256]
  omega
end Go.Proofs.YgcsafGreat.D
