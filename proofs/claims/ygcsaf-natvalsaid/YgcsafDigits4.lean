import Derived.Test.YgcsafDigits2
namespace Go.Proofs.Ygcsaf.D
set_option linter.unusedVariables false
set_option linter.unusedSimpArgs false

/-- A column of the product, its first i summands. -/
def ps (X Y : List Nat) (k : Nat) : Nat → Nat
  | 0 => 0
  | i + 1 => ps X Y k i + X.getD i 0 * Y.getD (k - i) 0
/-- The first k columns. -/
def pr (X Y : List Nat) : Nat → Nat
  | 0 => 0
  | k + 1 => pr X Y k + ps X Y k (k + 1) * 256 ^ k

theorem ps_cons (x : Nat) (X Y : List Nat) (k i : Nat) : ps (x :: X) Y (k + 1) (i + 1) = x * Y.getD (k + 1) 0 + ps X Y k i := by
  induction i with
  | zero => simp [ps]
  | succ i ih =>
    rw [ps, ih, ps, List.getD_cons_succ, show k + 1 - (i + 1) = k - i by omega]
    omega

theorem pr_cons (x : Nat) (X Y : List Nat) (n : Nat) : pr (x :: X) Y (n + 1) = x * val (Y.take (n + 1)) + 256 * pr X Y n := by
  induction n with
  | zero => rw [val_take_succ]; simp [pr, ps, val]
  | succ n ih =>
    rw [pr, ih, ps_cons, val_take_succ Y (n + 1), pr, Nat.mul_add, Nat.mul_add, Nat.add_mul, Nat.pow_succ]
    have e1 : x * Y.getD (n + 1) 0 * (256 ^ n * 256) = x * (Y.getD (n + 1) 0 * (256 ^ n * 256)) := Nat.mul_assoc _ _ _
    have e2 : ps X Y n (n + 1) * (256 ^ n * 256) = 256 * (ps X Y n (n + 1) * 256 ^ n) := by rw [← Nat.mul_assoc, Nat.mul_comm]
    omega

theorem pr_nil (Y : List Nat) (n : Nat) : pr [] Y n = 0 := by
  have h : ∀ k i, ps [] Y k i = 0 := by
    intro k i
    induction i with
    | zero => rfl
    | succ i ih => simp [ps, ih]
  induction n with
  | zero => rfl
  | succ n ih => simp [pr, ih, h]

theorem pr_all (X Y : List Nat) (n : Nat) (hn : X.length + Y.length ≤ n) : pr X Y n = val X * val Y := by
  induction X generalizing n with
  | nil => simp [pr_nil, val]
  | cons x X ih =>
    obtain ⟨m, rfl⟩ : ∃ m, n = m + 1 := ⟨n - 1, by simp at hn; omega⟩
    have hm : X.length + Y.length ≤ m := by simp at hn; omega
    rw [pr_cons, ih m hm, take_all (by omega), val, Nat.add_mul, Nat.mul_assoc]

/-- Where the column begins nothing lies ahead. -/
theorem ps_start (X Y : List Nat) (k s : Nat) (hs : s + Y.length ≤ k + 1) : ps X Y k s = 0 := by
  induction s with
  | zero => rfl
  | succ s ih =>
    rw [ps, ih (by omega)]
    have : Y.getD (k - s) 0 = 0 := by simp [List.getElem?_eq_none (show Y.length ≤ k - s by omega)]
    rw [this]
    simp

/-- Behind the number's end nothing is added. -/
theorem ps_end (X Y : List Nat) (k i j : Nat) (hi : X.length ≤ i) (hij : i ≤ j) : ps X Y k j = ps X Y k i := by
  induction j with
  | zero => have : i = 0 := by omega
            rw [this]
  | succ j ih =>
    by_cases e : i = j + 1
    · rw [e]
    · rw [ps, ih (by omega)]
      have : X.getD j 0 = 0 := by simp [List.getElem?_eq_none (show X.length ≤ j by omega)]
      rw [this]
      simp

theorem col_step {L X Y : List Nat} {k c s : Nat} (hk : k < L.length) (h : val (L.take k) + c * 256 ^ k = pr X Y k) (hs : s = c + ps X Y k (k + 1)) :
    val ((L.set k (s % 256)).take (k + 1)) + (s / 256) * 256 ^ (k + 1) = pr X Y (k + 1) := by
  rw [val_take_set hk, pr, Nat.pow_succ]
  have h1 := carry_step s (256 ^ k)
  have h2 : s * 256 ^ k = c * 256 ^ k + ps X Y k (k + 1) * 256 ^ k := by rw [hs, Nat.add_mul]
  omega

/-- A carry over the top is none. -/
theorem carry_zero {v c P t : Nat} (h : v + c * P = t) (ht : t < P) : c = 0 := by
  rcases Nat.eq_zero_or_pos c with h' | h'
  · exact h'
  · exfalso
    have : P ≤ c * P := Nat.le_mul_of_pos_left _ h'
    omega

theorem cmp_step_lt {X Y : List Nat} {k : Nat} (dX : Dig X) (hX : k < X.length) (hd : X.getD k 0 < Y.getD k 0) : val (X.take (k + 1)) < val (Y.take (k + 1)) := by
  rw [val_take_succ, val_take_succ]
  have h1 := val_lt (dX.take k)
  have e : (X.take k).length = k := by simp; omega
  rw [e] at h1
  have h2 : (X.getD k 0 + 1) * 256 ^ k ≤ Y.getD k 0 * 256 ^ k := Nat.mul_le_mul_right _ hd
  rw [Nat.add_mul] at h2
  omega

theorem cmp_step_eq {X Y : List Nat} {k : Nat} (hd : X.getD k 0 = Y.getD k 0) : cmpN (val (X.take (k + 1))) (val (Y.take (k + 1))) = cmpN (val (X.take k)) (val (Y.take k)) := by
  rw [val_take_succ, val_take_succ, hd]
  unfold cmpN
  by_cases h1 : val (X.take k) < val (Y.take k)
  · rw [if_pos h1, if_pos (by omega)]
  · rw [if_neg h1, if_neg (by omega)]
    by_cases h2 : val (Y.take k) < val (X.take k)
    · rw [if_pos h2, if_pos (by omega)]
    · rw [if_neg h2, if_neg (by omega)]
end Go.Proofs.Ygcsaf.D
