/-
  PLAIN MATHEMATICS: digits to the base 256, the least first. No Go in sight.
-/
namespace Go.Proofs.YgcsafGreat.D
set_option linter.unusedVariables false
set_option linter.unusedSimpArgs false

/-- The number that the digits make. -/
def val : List Nat → Nat
  | [] => 0
  | d :: l => d + 256 * val l

/-- Every digit is below 256. -/
def Dig (l : List Nat) : Prop := ∀ x ∈ l, x < 256

/-- No zero digit at the top. -/
def Nm (l : List Nat) : Prop := l ≠ [] → l.getD (l.length - 1) 0 ≠ 0

/-- Without the zero digits at the top. -/
def trimL : List Nat → List Nat
  | [] => []
  | d :: l => if trimL l = [] ∧ d = 0 then [] else d :: trimL l

theorem Dig.nil : Dig [] := by intro x hx; cases hx
theorem Dig.cons {d : Nat} {l : List Nat} (hd : d < 256) (hl : Dig l) : Dig (d :: l) := by
  intro x hx
  rcases List.mem_cons.1 hx with rfl | h
  · exact hd
  · exact hl x h
theorem Dig.head {d : Nat} {l : List Nat} (h : Dig (d :: l)) : d < 256 := h d (by simp)
theorem Dig.tail {d : Nat} {l : List Nat} (h : Dig (d :: l)) : Dig l := fun x hx => h x (by simp [hx])
theorem Dig.append {a b : List Nat} (ha : Dig a) (hb : Dig b) : Dig (a ++ b) := by
  intro x hx
  rcases List.mem_append.1 hx with h | h
  · exact ha x h
  · exact hb x h
theorem Dig.getD {l : List Nat} (h : Dig l) (i : Nat) : l.getD i 0 < 256 := by
  by_cases hi : i < l.length
  · have e : l.getD i 0 = l[i] := by simp [hi]
    rw [e]; exact h _ (List.getElem_mem hi)
  · have e : l.getD i 0 = 0 := by simp [List.getElem?_eq_none (show l.length ≤ i by omega)]
    omega
theorem Dig.take {l : List Nat} (h : Dig l) (i : Nat) : Dig (l.take i) := fun x hx => h x (List.mem_of_mem_take hx)
theorem Dig.drop {l : List Nat} (h : Dig l) (i : Nat) : Dig (l.drop i) := fun x hx => h x (List.mem_of_mem_drop hx)
theorem Dig.set {l : List Nat} (h : Dig l) (i : Nat) {v : Nat} (hv : v < 256) : Dig (l.set i v) := by
  intro x hx
  rcases List.mem_or_eq_of_mem_set hx with h' | rfl
  · exact h x h'
  · exact hv
theorem Dig.replicate (n : Nat) : Dig (List.replicate n 0) := by
  intro x hx
  have := List.eq_of_mem_replicate hx
  omega

theorem val_append (a b : List Nat) : val (a ++ b) = val a + 256 ^ a.length * val b := by
  induction a with
  | nil => simp [val]
  | cons d l ih => simp [val, ih, Nat.pow_succ, Nat.mul_add]; rw [← Nat.add_assoc]; congr 1; rw [Nat.mul_comm (256 ^ l.length) 256, Nat.mul_assoc]

theorem val_lt {l : List Nat} (h : Dig l) : val l < 256 ^ l.length := by
  induction l with
  | nil => simp [val]
  | cons d l ih =>
    have h1 := ih h.tail
    have h2 := h.head
    simp only [val, List.length_cons, Nat.pow_succ]
    omega

theorem val_replicate (n : Nat) : val (List.replicate n 0) = 0 := by
  induction n with
  | zero => rfl
  | succ n ih => simp [List.replicate_succ, val, ih]

theorem trimL_val (l : List Nat) : val (trimL l) = val l := by
  induction l with
  | nil => rfl
  | cons d l ih =>
    unfold trimL
    split
    · rename_i h
      rw [h.1] at ih
      simp [val] at ih ⊢
      omega
    · simp [val, ih]

theorem trimL_len (l : List Nat) : (trimL l).length ≤ l.length := by
  induction l with
  | nil => simp [trimL]
  | cons d l ih =>
    unfold trimL
    split
    · simp
    · simp; exact ih

theorem trimL_take (l : List Nat) : l.take (trimL l).length = trimL l := by
  induction l with
  | nil => rfl
  | cons d l ih =>
    unfold trimL
    split
    · rfl
    · simp [ih]

theorem trimL_dig {l : List Nat} (h : Dig l) : Dig (trimL l) := by
  rw [← trimL_take l]; exact h.take _

theorem Nm.nil : Nm [] := fun h => absurd rfl h

theorem trimL_nm (l : List Nat) : Nm (trimL l) := by
  induction l with
  | nil => exact Nm.nil
  | cons d l ih =>
    unfold trimL
    split
    · exact Nm.nil
    · rename_i h
      intro _
      by_cases ht : trimL l = []
      · rw [ht]; simp; intro hd; exact h ⟨ht, hd⟩
      · have := ih ht
        have hl : 0 < (trimL l).length := by
          cases hh : trimL l with
          | nil => exact absurd hh ht
          | cons => simp
        simp only [List.length_cons, Nat.add_sub_cancel]
        obtain ⟨m, hm⟩ : ∃ m, (trimL l).length = m + 1 := ⟨(trimL l).length - 1, by omega⟩
        rw [hm] at this ⊢
        simpa using this

theorem Nm.tail {d : Nat} {l : List Nat} (h : Nm (d :: l)) : Nm l := by
  intro hl
  have := h (by simp)
  cases l with
  | nil => exact absurd rfl hl
  | cons e l => simpa using this

/-- A normal number that is zero has no digits. -/
theorem Nm.zero {l : List Nat} (h : Nm l) (hv : val l = 0) : l = [] := by
  induction l with
  | nil => rfl
  | cons d l ih =>
    have h1 : val l = 0 := by simp [val] at hv; omega
    have h2 := ih h.tail h1
    subst h2
    have := h (by simp)
    simp [val] at hv this
    exact absurd hv this

/-- NORMAL NUMBERS ARE KNOWN BY THEIR VALUE. -/
theorem ext {a b : List Nat} (da : Dig a) (db : Dig b) (na : Nm a) (nb : Nm b) (hv : val a = val b) : a = b := by
  induction a generalizing b with
  | nil => exact (nb.zero (by rw [← hv]; rfl)).symm
  | cons d l ih =>
    cases b with
    | nil => exact na.zero (by rw [hv]; rfl)
    | cons e m =>
      have h1 := da.head
      have h2 := db.head
      simp only [val] at hv
      have h3 : d = e := by omega
      have h4 : val l = val m := by omega
      rw [h3, ih da.tail db.tail na.tail nb.tail h4]

theorem trimL_self {l : List Nat} (hd : Dig l) (hn : Nm l) : trimL l = l :=
  ext (trimL_dig hd) hd (trimL_nm l) hn (trimL_val l)

theorem trimL_eq {a b : List Nat} (da : Dig a) (db : Dig b) (hv : val a = val b) : trimL a = trimL b :=
  ext (trimL_dig da) (trimL_dig db) (trimL_nm a) (trimL_nm b) (by rw [trimL_val, trimL_val, hv])

/-- How trim's loop finds the place. -/
theorem trimL_of {l : List Nat} {k : Nat} (hk : k ≤ l.length) (hz : ∀ j, k ≤ j → j < l.length → l.getD j 0 = 0) (ht : k = 0 ∨ l.getD (k - 1) 0 ≠ 0) : (trimL l).length = k := by
  induction l generalizing k with
  | nil => simp at hk; subst hk; rfl
  | cons d l ih =>
    cases k with
    | zero =>
      have h1 : (trimL l).length = 0 := ih (Nat.zero_le _) (fun j _ hj => by simpa using hz (j + 1) (by omega) (by simp; omega)) (.inl rfl)
      have h2 : trimL l = [] := List.length_eq_zero_iff.1 h1
      have h3 : d = 0 := by simpa using hz 0 (by omega) (by simp)
      simp [trimL, h2, h3]
    | succ k =>
      have ht' : (d :: l).getD k 0 ≠ 0 := by rcases ht with h | h; · omega
                                             · simpa using h
      have hk' : k ≤ l.length := by simpa using hk
      cases k with
      | zero =>
        have hd : d ≠ 0 := by simpa using ht'
        have h1 : (trimL l).length = 0 := ih (Nat.zero_le _) (fun j _ hj => by simpa using hz (j + 1) (by omega) (by simp; omega)) (.inl rfl)
        have h2 : trimL l = [] := List.length_eq_zero_iff.1 h1
        simp [trimL, h2, hd]
      | succ k =>
        have h1 : (trimL l).length = k + 1 := ih hk' (fun j hj hj' => by simpa using hz (j + 1) (by omega) (by simp; omega)) (.inr (by simpa using ht'))
        have h2 : trimL l ≠ [] := by intro h; rw [h] at h1; simp at h1
        simp [trimL, h2, h1]

theorem ext_getD {a b : List Nat} (h : a.length = b.length) (hj : ∀ j, j < a.length → a.getD j 0 = b.getD j 0) : a = b := by
  apply List.ext_getElem h
  intro i h1 h2
  have := hj i h1
  simpa [h1, h2] using this

theorem getD_set {l : List Nat} {k v j : Nat} (hk : k < l.length) : (l.set k v).getD j 0 = if j = k then v else l.getD j 0 := by
  by_cases e : j = k
  · subst e; simp [hk]
  · simp [List.getElem?_set, Ne.symm e, e]

theorem getD_take {l : List Nat} {k j : Nat} (hj : j < k) : (l.take k).getD j 0 = l.getD j 0 := by
  simp [hj]

theorem getD_reverse {l : List Nat} {j : Nat} (hj : j < l.length) : l.reverse.getD j 0 = l.getD (l.length - 1 - j) 0 := by
  have h2 : l.length - 1 - j < l.length := by omega
  simp [hj, h2]

/-- FromBE: behind the leading zeros. -/
theorem lead_len {l : List Nat} {n : Nat} (hn : n ≤ l.length) (hz : ∀ j, j < n → l.getD j 0 = 0) (ht : n = l.length ∨ l.getD n 0 ≠ 0) : (trimL l.reverse).length = l.length - n := by
  apply trimL_of
  · simp
  · intro j h1 h2
    have h2' : j < l.length := by simpa using h2
    rw [getD_reverse h2']
    exact hz _ (by omega)
  · rcases ht with h | h
    · left; omega
    · by_cases e : n = l.length
      · left; omega
      · right
        rw [getD_reverse (by omega)]
        rw [show l.length - 1 - (l.length - n - 1) = n by omega]
        exact h

theorem lead_eq {l L : List Nat} {n : Nat} (hn : n ≤ l.length) (hz : ∀ j, j < n → l.getD j 0 = 0) (ht : n = l.length ∨ l.getD n 0 ≠ 0) (hL : L.length = l.length - n)
    (hj : ∀ j, j < l.length - n → L.getD j 0 = l.getD (l.length - 1 - j) 0) : L = trimL l.reverse := by
  have hlen := lead_len hn hz ht
  apply ext_getD
  · rw [hlen, hL]
  · intro j h1
    rw [hj j (by omega), ← trimL_take l.reverse, hlen, getD_take (by omega), getD_reverse (by omega)]

theorem getD_replicate (n j : Nat) : (List.replicate n 0).getD j 0 = 0 := by
  simp [List.getElem?_replicate]
  split <;> rfl

theorem trimL_getD {S : List Nat} {p : Nat} : (trimL S).getD p 0 = S.getD p 0 := by
  induction S generalizing p with
  | nil => rfl
  | cons d l ih =>
    unfold trimL
    split
    · rename_i h
      cases p with
      | zero => simp [h.2]
      | succ p => have := ih (p := p); rw [h.1] at this; simpa using this
    · cases p with
      | zero => rfl
      | succ p => simpa using ih (p := p)

theorem val_of_digits {x : Nat} : ∀ {L : List Nat} (k : Nat), (∀ j, j < L.length → L.getD j 0 = x / 256 ^ (k + j) % 256) → val L = x / 256 ^ k % 256 ^ L.length
  | [], k, _ => by simp [val, Nat.mod_one]
  | d :: l, k, h => by
    have h0 : d = x / 256 ^ k % 256 := by simpa using h 0 (by simp)
    have ih := val_of_digits (L := l) (k + 1) (fun j hj => by
      have := h (j + 1) (by simp; omega)
      rw [show k + 1 + j = k + (j + 1) by omega]
      simpa using this)
    simp only [val, List.length_cons]
    rw [ih, h0, Nat.pow_succ 256 k, ← Nat.div_div_eq_div_mul]
    generalize x / 256 ^ k = y
    rw [Nat.pow_succ, Nat.mul_comm (256 ^ l.length) 256, Nat.mod_mul]

theorem val_of_u64 {x : Nat} (hx : x < 18446744073709551616) {L : List Nat} (hL : L.length = 8) (h : ∀ j, j < 8 → L.getD j 0 = x / 256 ^ j % 256) : val L = x := by
  have := val_of_digits (x := x) (L := L) 0 (fun j hj => by rw [Nat.zero_add]; exact h j (by omega))
  rw [this, hL]
  simp
  omega

theorem val_drop {l : List Nat} {i : Nat} (h : i < l.length) : val (l.drop i) = l.getD i 0 + 256 * val (l.drop (i + 1)) := by
  rw [List.drop_eq_getElem_cons h]
  simp [val, h]

theorem val_take_succ (l : List Nat) (k : Nat) : val (l.take (k + 1)) = val (l.take k) + l.getD k 0 * 256 ^ k := by
  by_cases h : k < l.length
  · rw [List.take_succ_eq_append_getElem h, val_append]
    have e : (l.take k).length = k := by simp; omega
    rw [e]
    simp [val, h, Nat.mul_comm]
  · have h1 : l.length ≤ k := by omega
    rw [List.take_of_length_le h1, List.take_of_length_le (by omega)]
    simp [List.getElem?_eq_none h1]

theorem val_set {l : List Nat} {k v : Nat} (h : k < l.length) : val (l.set k v) + l.getD k 0 * 256 ^ k = val l + v * 256 ^ k := by
  induction l generalizing k with
  | nil => simp at h
  | cons d l ih =>
    cases k with
    | zero => simp [val]; omega
    | succ k =>
      have := ih (k := k) (by simpa using h)
      simp only [List.set_cons_succ, val, List.getD_cons_succ, Nat.pow_succ]
      have e1 : l.getD k 0 * (256 ^ k * 256) = 256 * (l.getD k 0 * 256 ^ k) := by rw [← Nat.mul_assoc, Nat.mul_comm]
      have e2 : v * (256 ^ k * 256) = 256 * (v * 256 ^ k) := by rw [← Nat.mul_assoc, Nat.mul_comm]
      rw [e1, e2]
      omega

theorem val_take_set {l : List Nat} {k v : Nat} (h : k < l.length) : val ((l.set k v).take (k + 1)) = val (l.take k) + v * 256 ^ k := by
  rw [val_take_succ, List.take_set_of_le (by omega)]
  simp [h]

theorem take_all {l : List Nat} {n : Nat} (h : l.length ≤ n) : l.take n = l := List.take_of_length_le h

/-- A carry goes on. -/
theorem carry_step (s P : Nat) : (s % 256) * P + (s / 256) * (P * 256) = s * P := by
  have e : (s / 256) * (P * 256) = (256 * (s / 256)) * P := by rw [Nat.mul_comm P 256, ← Nat.mul_assoc, Nat.mul_comm (s / 256) 256]
  rw [e, ← Nat.add_mul, Nat.mod_add_div]

/-- A digit is laid and the carry goes on: Add, successor. -/
theorem add_step {L X Y : List Nat} {k c s : Nat} (hk : k < L.length) (h : val (L.take k) + c * 256 ^ k = val (X.take k) + val (Y.take k)) (hs : s = c + X.getD k 0 + Y.getD k 0) :
    val ((L.set k (s % 256)).take (k + 1)) + (s / 256) * 256 ^ (k + 1) = val (X.take (k + 1)) + val (Y.take (k + 1)) := by
  rw [val_take_set hk, val_take_succ X, val_take_succ Y, Nat.pow_succ]
  have := carry_step s (256 ^ k)
  have e : s * 256 ^ k = c * 256 ^ k + X.getD k 0 * 256 ^ k + Y.getD k 0 * 256 ^ k := by rw [hs, Nat.add_mul, Nat.add_mul]
  omega

theorem add_last {L X Y : List Nat} {n c : Nat} (hL : L.length = n + 1) (hX : X.length ≤ n) (hY : Y.length ≤ n) (h : val (L.take n) + c * 256 ^ n = val (X.take n) + val (Y.take n)) : val (L.set n c) = val X + val Y := by
  rw [take_all hX, take_all hY] at h
  rw [← h, ← val_take_set (by omega), take_all (by simp; omega)]

/-- Every place from k on is zero: then there are at most k digits. -/
theorem Nm.len_le {N : List Nat} (h : Nm N) {k : Nat} (hz : ∀ p, k ≤ p → p < N.length → N.getD p 0 = 0) : N.length ≤ k := by
  apply Nat.le_of_not_lt
  intro hk
  have hne : N ≠ [] := by intro e; rw [e] at hk; simp at hk
  exact h hne (hz _ (by omega) (by omega))

end Go.Proofs.YgcsafGreat.D
