/-
  'u256.trial' (404): the trial digit of Algorithm D.
-/
import Derived.Test.YgcsafGreatSquare
namespace Go.Proofs.YgcsafGreat
open Go.RowKit
set_option linter.unusedVariables false
set_option linter.unusedSimpArgs false

namespace K
theorem step2 {b v1 v0 u r q u1 : Nat} (hu : q * v1 + r = u) (h : b * r + u1 < q * v0) (hv : 0 < v1 * b + v0) : (u * b + u1) / (v1 * b + v0) < q := by
  rw [Nat.div_lt_iff_lt_mul hv]
  have h1 : u * b = q * v1 * b + r * b := by rw [← hu, Nat.add_mul]
  have h2 : q * (v1 * b + v0) = q * v1 * b + q * v0 := by rw [Nat.mul_add, Nat.mul_assoc]
  have h3 : b * r = r * b := Nat.mul_comm _ _
  omega
end K

/-- The digit that trial finds. -/
def digit (high mid low top next : Nat) : Nat := min (((high * b64 + mid) * b64 + low) / (top * b64 + next)) (b64 - 1)

structure TrialInv (high mid low top next q r over : Nat) : Prop where
  sum : q * top + (r + b64 * over) = high * b64 + mid
  ge : digit high mid low top next ≤ q
  hq : q < 18446744073709551616
  hr : r < 18446744073709551616
  ho : over ≤ 1

theorem digit_le {high mid low top next : Nat} : digit high mid low top next ≤ ((high * b64 + mid) * b64 + low) / (top * b64 + next) := Nat.min_le_left _ _
theorem digit_cap {high mid low top next : Nat} : digit high mid low top next ≤ b64 - 1 := Nat.min_le_right _ _
theorem digit_eq {high mid low top next q : Nat} (h1 : digit high mid low top next ≤ q) (h2 : q ≤ ((high * b64 + mid) * b64 + low) / (top * b64 + next)) (h3 : q < 18446744073709551616) : q = digit high mid low top next :=
  Nat.le_antisymm (Nat.le_min.2 ⟨h2, by rw [← b64_eq] at h3; exact Nat.le_sub_one_of_lt h3⟩) h1
theorem base_le {r : Nat} : b64 ≤ r + b64 * 1 := by rw [Nat.mul_one]; exact Nat.le_add_left _ _

theorem TrialInv.over1 {high mid low top next q r : Nat} (h : TrialInv high mid low top next q r 1) (htop : 0 < top) (hn : next < 18446744073709551616) : q = digit high mid low top next := by
  have hp := b64_pos
  have hv : 0 < top * b64 + next := Nat.lt_of_lt_of_le (Nat.mul_pos htop hp) (Nat.le_add_right _ _)
  have hq := h.hq
  have hq' := hq
  rw [← b64_eq] at hq' hn
  have h1 := K.done (b := b64) (v0 := next) (u1 := low) h.sum (Nat.le_trans (Nat.mul_le_mul (Nat.le_of_lt hq') (Nat.le_of_lt hn)) (Nat.le_trans (Nat.mul_le_mul_left _ base_le) (Nat.le_add_right _ _))) hv
  exact digit_eq h.ge h1 hq
theorem TrialInv.stop {high mid low top next q r : Nat} (h : TrialInv high mid low top next q r 0) (htop : 0 < top) (ht : q * next ≤ b64 * r + low) : q = digit high mid low top next := by
  have hp := b64_pos
  have hv : 0 < top * b64 + next := Nat.lt_of_lt_of_le (Nat.mul_pos htop hp) (Nat.le_add_right _ _)
  have hs := h.sum
  rw [Nat.mul_zero, Nat.add_zero] at hs
  exact digit_eq h.ge (K.done (b := b64) (v0 := next) (u1 := low) hs ht hv) h.hq
theorem TrialInv.down {high mid low top next q r s k : Nat} (h : TrialInv high mid low top next q r 0) (htop : 0 < top) (ht : b64 * r + low < q * next) (hs : s < 18446744073709551616) (hk : k ≤ 1) (e : s + b64 * k = r + top) : 0 < q ∧ TrialInv high mid low top next (q - 1) s k := by
  have hp := b64_pos
  have hv : 0 < top * b64 + next := Nat.lt_of_lt_of_le (Nat.mul_pos htop hp) (Nat.le_add_right _ _)
  have hsum := h.sum
  rw [Nat.mul_zero, Nat.add_zero] at hsum
  have h1 := K.step2 (b := b64) (v0 := next) (u1 := low) hsum ht hv
  have hq0 : 0 < q := Nat.lt_of_le_of_lt (Nat.zero_le _) h1
  refine ⟨hq0, ?_, Nat.le_trans digit_le (Nat.le_sub_one_of_lt h1), Nat.lt_of_le_of_lt (Nat.sub_le _ _) h.hq, hs, hk⟩
  have e1 : q * top = (q - 1) * top + top := by
    conv => lhs; rw [show q = (q - 1) + 1 by omega]
    rw [Nat.add_mul, Nat.one_mul]
  rw [e, ← hsum, e1]
  generalize (q - 1) * top = z
  omega
/-- The test in two limbs. -/
theorem two_limbs {p l h r low : Nat} (hp : p = l + b64 * h) (hl : l < b64) (hlow : low < b64) : (p ≤ b64 * r + low) ↔ (h < r ∨ h = r ∧ l ≤ low) := by
  generalize b64 = b at *
  constructor
  · intro hle
    by_cases h1 : h < r
    · exact .inl h1
    · right
      by_cases h2 : h = r
      · subst h2; omega
      · exfalso
        have : b * (r + 1) ≤ b * h := Nat.mul_le_mul_left _ (by omega)
        rw [Nat.mul_add] at this
        omega
  · rintro (h1 | ⟨rfl, h2⟩)
    · have : b * (h + 1) ≤ b * r := Nat.mul_le_mul_left _ h1
      rw [Nat.mul_add] at this
      omega
    · omega

/-- 'num.Div64' told by its quotient and remainder. -/
theorem Div64_rel (w : World) (hi lo y : Nat) (hh : hi < y) (hy : y < 18446744073709551616) (hl : lo < 18446744073709551616) :
    Calls Safg.prog 325 #[.int .u64 (hi : Int), .int .u64 (lo : Int), .int .u64 (y : Int)] w fun e w' => ∃ q r : Nat, e = .returned (.tuple #[.int .u64 (q : Int), .int .u64 (r : Int), .bool true]) ∧ q < 18446744073709551616 ∧ r < y ∧ Hid (q * y + r = hi * b64 + lo) ∧ Same w w' := by
  refine (Div64_ok w hi lo y hh hy hl).mono ?_
  rintro e w1 ⟨rfl, s⟩
  have hp : 0 < y := by omega
  refine ⟨_, _, rfl, ?_, Nat.mod_lt _ hp, ?_, s⟩
  · rw [Nat.div_lt_iff_lt_mul hp]
    have h2 : (hi + 1) * 18446744073709551616 ≤ y * 18446744073709551616 := Nat.mul_le_mul_right _ hh
    rw [Nat.add_mul, Nat.one_mul] at h2
    rw [Nat.mul_comm 18446744073709551616 y]
    exact Nat.lt_of_lt_of_le (Nat.add_lt_add_left hl _) h2
  · show _ = _
    rw [b64_eq, Nat.mul_comm]
    exact Nat.div_add_mod _ _

theorem TrialInv.start {high mid low top next q r : Nat} (htop : 0 < top) (h4 : next < 18446744073709551616) (h2 : low < 18446744073709551616) (hr : r < top) (h3 : top < 18446744073709551616) (hq : q < 18446744073709551616) (e : q * top + r = high * b64 + mid) : TrialInv high mid low top next q r 0 := by
  refine ⟨by rw [Nat.mul_zero, Nat.add_zero]; exact e, ?_, hq, Nat.lt_trans hr h3, Nat.zero_le _⟩
  rw [← b64_eq] at h4 h2
  rcases K.first (b := b64) (v1 := top) (v0 := next) (u := high * b64 + mid) (u1 := low) htop h4 with h | h
  · have e2 : (high * b64 + mid) / top = q := by
      rw [← e, Nat.add_comm, Nat.add_mul_div_right _ _ htop, Nat.div_eq_of_lt hr, Nat.zero_add]
    rw [e2] at h
    exact Nat.le_trans digit_le h
  · exact absurd h2 (Nat.not_lt.2 h)
theorem TrialInv.over {mid low top next s k : Nat} (hs : s < 18446744073709551616) (hk : k ≤ 1) (e : s + b64 * k = mid + top) : TrialInv top mid low top next 18446744073709551615 s k := by
  refine ⟨?_, ?_, by omega, hs, hk⟩
  · rw [e]
    have : 18446744073709551615 * top + top = top * b64 := by rw [b64_eq, Nat.mul_comm top]; omega
    generalize top * b64 = z at *
    generalize 18446744073709551615 * top = z' at *
    omega
  · have := @digit_cap top mid low top next
    rw [b64_eq] at this
    exact this

set_option maxRecDepth 100000 in
set_option maxHeartbeats 4000000 in
theorem trial_lo (w : World) (high mid low top next : Nat) (h0 : high < top) (h1 : mid < 18446744073709551616) (h2 : low < 18446744073709551616) (h3 : top < 18446744073709551616) (h4 : next < 18446744073709551616) :
    Calls Safg.prog 404 #[.int .u64 (high : Int), .int .u64 (mid : Int), .int .u64 (low : Int), .int .u64 (top : Int), .int .u64 (next : Int)] w fun e w' => ∃ (q : Nat), q < 18446744073709551616 ∧ Hid (q = digit high mid low top next) ∧ (∃ f : Int, e = .returned (.tuple #[.int .u64 (q : Int), .int .u8 f])) ∧ Same w w' := by
  have htop : 0 < top := by omega
  go_enter Safg.func404, Safg.ntmps404
  go_upto_region 6 with (go_at_call 325; refine (Div64_rel _ high mid top h0 h3 h1).mono ?_; rintro e w1 ⟨q0, r0, rfl, hq0, hr0, E0, s1⟩)
  have I0 : Hid (TrialInv high mid low top next q0 r0 0) := TrialInv.start htop h4 h2 hr0 h3 hq0 E0.out
  go_loop [10, 11, 12, 14] (fun qv fv rv kv => ∃ (q r k : Nat) (f : Int), qv = .int .u64 (q : Int) ∧ fv = .int .u8 f ∧ rv = .int .u64 (r : Int) ∧ kv = .int .u64 (k : Int) ∧ TrialInv high mid low top next q r k) (fun qv _ _ _ => (intOf qv).toNat)
  case atStart => exact ⟨_, _, _, _, rfl, rfl, rfl, rfl, I0.out⟩
  case round =>
    obtain ⟨q, r, k, f, rfl, rfl, rfl, rfl, I⟩ := hrel
    have hq := I.hq
    have hr := I.hr
    have hk := I.ho
    have HI : Hid (TrialInv high mid low top next q r k) := I
    clear I
    rcases (show k = 0 ∨ k = 1 by omega) with hk0 | hk1
    · subst hk0
      go_upto_region 8 with (go_at_call 169; refine (Mul64_rel _ q next hq h4).mono ?_; rintro e w2 ⟨ph, pl, rfl, hph, hpl, EP, hw⟩; subst hw)
      have T := two_limbs (p := q * next) (r := r) (low := low) EP.out (by rw [b64_eq]; exact hpl) (by rw [b64_eq]; exact h2)
      by_cases c1 : ph < r
      · have t1 : decide ((ph : Int) < (r : Int)) = true := decide_eq_true (by omega)
        have HD : Hid (q = digit high mid low top next) := HI.out.stop htop (T.2 (.inl c1))
        clear T
        go_wp2
        go_ret2
        exact ⟨q, hq, HD, ⟨f, rfl⟩, s1⟩
      · have t1 : decide ((ph : Int) < (r : Int)) = false := decide_eq_false (by omega)
        by_cases c2 : ph = r ∧ pl ≤ low
        · have HD : Hid (q = digit high mid low top next) := HI.out.stop htop (T.2 (.inr c2))
          have t2 : ((ph : Int) == (r : Int)) = true := by simp; omega
          have t3 : decide ((pl : Int) ≤ (low : Int)) = true := decide_eq_true (by omega)
          clear T
          go_wp2
          go_ret2
          exact ⟨q, hq, HD, ⟨f, rfl⟩, s1⟩
        · have hgt : b64 * r + low < q * next := by
            rw [← Nat.not_le, T]
            rintro (h | h)
            · exact c1 h
            · exact c2 h
          have HG : Hid (b64 * r + low < q * next) := hgt
          have q0 : 0 < q := by
            rcases Nat.eq_zero_or_pos q with h | h
            · subst h; rw [Nat.zero_mul] at hgt; exact absurd hgt (Nat.not_lt_zero _)
            · exact h
          clear T hgt
          have qe : ((q : Int) - 1) = ((q - 1 : Nat) : Int) := by omega
          by_cases c3 : ph = r
          · have t2 : ((ph : Int) == (r : Int)) = true := by simp; omega
            have t3 : decide ((pl : Int) ≤ (low : Int)) = false := decide_eq_false (by omega)
            go_wp2_with (go_at_call 170; refine (Add64_rel0 _ r top hr h3).mono ?_; rintro e w2 ⟨s, k', rfl, hs, hk', EK, hw⟩; subst hw)
            go_round
            case rel => exact ⟨q - 1, s, k', _, by (first | rfl | (rw [qe]; rfl)), rfl, rfl, rfl, (HI.out.down htop HG.out hs hk' EK.out).2⟩
            case measure => simp [intOf]; omega
          · have t2 : ((ph : Int) == (r : Int)) = false := by simp; omega
            go_wp2_with (go_at_call 170; refine (Add64_rel0 _ r top hr h3).mono ?_; rintro e w2 ⟨s, k', rfl, hs, hk', EK, hw⟩; subst hw)
            go_round
            case rel => exact ⟨q - 1, s, k', _, by (first | rfl | (rw [qe]; rfl)), rfl, rfl, rfl, (HI.out.down htop HG.out hs hk' EK.out).2⟩
            case measure => simp [intOf]; omega
    · subst hk1
      have HD : Hid (q = digit high mid low top next) := HI.out.over1 htop h4
      go_wp2
      go_ret2
      exact ⟨q, hq, HD, ⟨f, rfl⟩, s1⟩

end Go.Proofs.YgcsafGreat
