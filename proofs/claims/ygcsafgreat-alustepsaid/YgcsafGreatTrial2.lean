/-
  'u256.trial' (404), where the first division has no room.
-/
import Derived.Test.YgcsafGreatTrial
namespace Go.Proofs.YgcsafGreat
open Go.RowKit
set_option linter.unusedVariables false
set_option linter.unusedSimpArgs false

set_option maxRecDepth 100000 in
set_option maxHeartbeats 4000000 in
theorem trial_hi (w : World) (mid low top next : Nat) (htop : 0 < top) (h1 : mid < 18446744073709551616) (h2 : low < 18446744073709551616) (h3 : top < 18446744073709551616) (h4 : next < 18446744073709551616) :
    Calls Safg.prog 404 #[.int .u64 (top : Int), .int .u64 (mid : Int), .int .u64 (low : Int), .int .u64 (top : Int), .int .u64 (next : Int)] w fun e w' => ∃ (q : Nat), q < 18446744073709551616 ∧ Hid (q = digit top mid low top next) ∧ (∃ f : Int, e = .returned (.tuple #[.int .u64 (q : Int), .int .u8 f])) ∧ Same w w' := by
  have s1 : Same w w := Same.refl w
  go_enter Safg.func404, Safg.ntmps404
  go_upto_region 6 with (first | (go_at_call 325; refine (Div64_no _ top mid top (Nat.le_refl _)).mono ?_; rintro e w1 ⟨rfl, hw⟩; subst hw) | (go_at_call 170; refine (Add64_rel0 _ mid top h1 h3).mono ?_; rintro e w2 ⟨r0, k0, rfl, hs0, hk0, E0, hw⟩; subst hw))
  obtain ⟨qm, HM, HM2⟩ : ∃ qm : Nat, Hid (18446744073709551615 = qm) ∧ Hid ((18446744073709551615 : Int) = (qm : Int)) := ⟨18446744073709551615, rfl, rfl⟩
  have I0 : Hid (TrialInv top mid low top next qm r0 k0) := by rw [← HM.out]; exact TrialInv.over hs0 hk0 E0.out
  rw [HM2.out]
  go_loop [10, 11, 12, 14] (fun qv fv rv kv => ∃ (q r k : Nat) (f : Int), qv = .int .u64 (q : Int) ∧ fv = .int .u8 f ∧ rv = .int .u64 (r : Int) ∧ kv = .int .u64 (k : Int) ∧ TrialInv top mid low top next q r k) (fun qv _ _ _ => (intOf qv).toNat)
  case atStart => exact ⟨_, _, _, _, rfl, rfl, rfl, rfl, I0.out⟩
  case round =>
    obtain ⟨q, r, k, f, rfl, rfl, rfl, rfl, I⟩ := hrel
    have hq := I.hq
    have hr := I.hr
    have hk := I.ho
    have HI : Hid (TrialInv top mid low top next q r k) := I
    clear I
    rcases (show k = 0 ∨ k = 1 by omega) with hk0 | hk1
    · subst hk0
      go_upto_region 8 with (go_at_call 169; refine (Mul64_rel _ q next hq h4).mono ?_; rintro e w2 ⟨ph, pl, rfl, hph, hpl, EP, hw⟩; subst hw)
      have T := two_limbs (p := q * next) (r := r) (low := low) EP.out (by rw [b64_eq]; exact hpl) (by rw [b64_eq]; exact h2)
      by_cases c1 : ph < r
      · have t1 : decide ((ph : Int) < (r : Int)) = true := decide_eq_true (by omega)
        have HD : Hid (q = digit top mid low top next) := HI.out.stop htop (T.2 (.inl c1))
        clear T
        go_wp2
        go_ret2
        exact ⟨q, hq, HD, ⟨f, rfl⟩, s1⟩
      · have t1 : decide ((ph : Int) < (r : Int)) = false := decide_eq_false (by omega)
        by_cases c2 : ph = r ∧ pl ≤ low
        · have HD : Hid (q = digit top mid low top next) := HI.out.stop htop (T.2 (.inr c2))
          have t2 : ((ph : Int) == (r : Int)) = true := by simp; omega
          have t3 : decide ((pl : Int) ≤ (low : Int)) = true := decide_eq_true (by omega)
          clear T
          go_wp2
          go_ret2
          exact ⟨q, hq, HD, ⟨f, rfl⟩, s1⟩
        · have hgt : b64 * r + low < q * next := by
            rw [← Nat.not_le, T]
            rintro (h | h)
            · exact c1 h
            · exact c2 h
          have HG : Hid (b64 * r + low < q * next) := hgt
          have q0 : 0 < q := by
            rcases Nat.eq_zero_or_pos q with h | h
            · subst h; rw [Nat.zero_mul] at hgt; exact absurd hgt (Nat.not_lt_zero _)
            · exact h
          clear T hgt
          have qe : ((q : Int) - 1) = ((q - 1 : Nat) : Int) := by omega
          by_cases c3 : ph = r
          · have t2 : ((ph : Int) == (r : Int)) = true := by simp; omega
            have t3 : decide ((pl : Int) ≤ (low : Int)) = false := decide_eq_false (by omega)
            go_wp2_with (go_at_call 170; refine (Add64_rel0 _ r top hr h3).mono ?_; rintro e w2 ⟨s, k', rfl, hs, hk', EK, hw⟩; subst hw)
            go_round
            case rel => exact ⟨q - 1, s, k', _, by (first | rfl | (rw [qe]; rfl)), rfl, rfl, rfl, (HI.out.down htop HG.out hs hk' EK.out).2⟩
            case measure => simp [intOf]; omega
          · have t2 : ((ph : Int) == (r : Int)) = false := by simp; omega
            go_wp2_with (go_at_call 170; refine (Add64_rel0 _ r top hr h3).mono ?_; rintro e w2 ⟨s, k', rfl, hs, hk', EK, hw⟩; subst hw)
            go_round
            case rel => exact ⟨q - 1, s, k', _, by (first | rfl | (rw [qe]; rfl)), rfl, rfl, rfl, (HI.out.down htop HG.out hs hk' EK.out).2⟩
            case measure => simp [intOf]; omega
    · subst hk1
      have HD : Hid (q = digit top mid low top next) := HI.out.over1 htop h4
      go_wp2
      go_ret2
      exact ⟨q, hq, HD, ⟨f, rfl⟩, s1⟩

theorem trial_any (w : World) (high mid low top next : Nat) (h0 : high ≤ top) (htop : 0 < top) (h1 : mid < 18446744073709551616) (h2 : low < 18446744073709551616) (h3 : top < 18446744073709551616) (h4 : next < 18446744073709551616) :
    Calls Safg.prog 404 #[.int .u64 (high : Int), .int .u64 (mid : Int), .int .u64 (low : Int), .int .u64 (top : Int), .int .u64 (next : Int)] w fun e w' => ∃ (q : Nat), q < 18446744073709551616 ∧ Hid (q = digit high mid low top next) ∧ (∃ f : Int, e = .returned (.tuple #[.int .u64 (q : Int), .int .u8 f])) ∧ Same w w' := by
  by_cases h : high < top
  · exact trial_lo w high mid low top next h h1 h2 h3 h4
  · have e : high = top := by omega
    subst e
    exact trial_hi w mid low high next htop h1 h2 h3 h4
end Go.Proofs.YgcsafGreat
