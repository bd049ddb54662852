/-
  'yp.shifted' (112): SHR, SAR.
-/
import Derived.Test.YgcsafGreatYp7
namespace Go.Proofs.YgcsafGreat
open Go.RowKit
set_option linter.unusedVariables false
set_option linter.unusedSimpArgs false

set_option maxRecDepth 100000 in
set_option maxHeartbeats 2000000 in
theorem shifted_shr (w : World) (a b : Option Addr) (A B : List Nat) (ha : IsNat w a A) (hb : IsNat w b B) (va : D.val A < b256) (vb : D.val B < b256) :
    Calls Safg.prog 112 #[.int .u8 28, .slice a A.length A.length, .slice b B.length B.length] w (NatRes w (shrW (D.val A) (D.val B))) := by
  have la : A.length ≤ 32 := ha.len (by rw [← b256_pow]; exact va)
  have lb : B.length ≤ 32 := hb.len (by rw [← b256_pow]; exact vb)
  obtain ⟨z, HZ⟩ : ∃ z, Hid (shrW (D.val A) (D.val B) = z) := ⟨_, rfl⟩
  rw [HZ.out]
  have key : ∀ (n : Nat), n ≤ 256 → n = min (D.val A) 256 → Hid (∀ l : List Nat, D.val l = 2 ^ n → D.val B / D.val l = z) := fun n hn e l hl => by
    rw [hl, e, ← HZ.out]; rfl
  rcases Nat.lt_or_ge (D.val A) 18446744073709551616 with hbig | hbig
  · have HU := u64_small w a A ha (by omega) hbig
    by_cases h256 : 256 < D.val A
    · have K := key 256 (by omega) (by omega)
      have t1 : decide ((256 : Int) < (D.val A : Int)) = true := decide_eq_true (by omega)
      clear key HZ va vb
      generalize D.val A = x at *
      go_enter Safg.func112, Safg.ntmps112
      go_wp2_with (first | (go_at_call 262; refine HU.mono ?_; rintro e w1 ⟨hw, rfl⟩; subst hw) | (go_at_call 259; refine (pow2_any _ 256 (by omega)).mono ?_; rintro e w2 ⟨a2, l2, rfl, m2, v2, b2⟩; have l233 : l2.length ≤ 33 := m2.nat.len (by rw [v2, ← b256_pow2, b256_pow]; exact Nat.pow_lt_pow_right (by omega) (by omega)); have p2 : 0 < D.val l2 := (by rw [v2]; exact Nat.pow_pos (by omega)); have V2 := K.out l2 v2; clear v2) | (go_at_call 101; refine (div_nat _ b a2 B l2 (hb.below b2) m2.nat (by omega) (by omega) p2).mono ?_; rintro e w3 ⟨b3, a3, l3, a5, l5, rfl, n3, n5, v3, v5⟩))
      go_ret
      exact ⟨a3, l3, rfl, n3, by rw [v3]; exact V2, b2.trans (b3.mono b2.size)⟩
    · have K := key (D.val A) (by omega) (by omega)
      have t1 : decide ((256 : Int) < (D.val A : Int)) = false := decide_eq_false (by omega)
      have h2 : D.val A ≤ 256 := by omega
      clear key HZ va vb
      generalize D.val A = x at *
      have HP : Hid (2 ^ x < 256 ^ 33) := by
        show _ < _
        have := byW_lt x
        unfold byW at this
        rwa [Nat.min_eq_left h2] at this
      go_enter Safg.func112, Safg.ntmps112
      go_wp2_with (first | (go_at_call 262; refine HU.mono ?_; rintro e w1 ⟨hw, rfl⟩; subst hw) | (go_at_call 259; refine (pow2_any _ x (by omega)).mono ?_; rintro e w2 ⟨a2, l2, rfl, m2, v2, b2⟩; have l233 : l2.length ≤ 33 := m2.nat.len (by rw [v2]; exact HP.out); have p2 : 0 < D.val l2 := (by rw [v2]; exact Nat.pow_pos (by omega)); have V2 := K.out l2 v2; clear v2) | (go_at_call 101; refine (div_nat _ b a2 B l2 (hb.below b2) m2.nat (by omega) (by omega) p2).mono ?_; rintro e w3 ⟨b3, a3, l3, a5, l5, rfl, n3, n5, v3, v5⟩))
      go_ret
      exact ⟨a3, l3, rfl, n3, by rw [v3]; exact V2, b2.trans (b3.mono b2.size)⟩
  · have HU := u64_big w a A ha (by omega) hbig
    have K := key 256 (by omega) (by omega)
    clear key HZ va vb
    go_enter Safg.func112, Safg.ntmps112
    go_wp2_with (first | (go_at_call 262; refine HU.mono ?_; rintro e w1 ⟨hw, rfl⟩; subst hw) | (go_at_call 259; refine (pow2_any _ 256 (by omega)).mono ?_; rintro e w2 ⟨a2, l2, rfl, m2, v2, b2⟩; have l233 : l2.length ≤ 33 := m2.nat.len (by rw [v2, ← b256_pow2, b256_pow]; exact Nat.pow_lt_pow_right (by omega) (by omega)); have p2 : 0 < D.val l2 := (by rw [v2]; exact Nat.pow_pos (by omega)); have V2 := K.out l2 v2; clear v2) | (go_at_call 101; refine (div_nat _ b a2 B l2 (hb.below b2) m2.nat (by omega) (by omega) p2).mono ?_; rintro e w3 ⟨b3, a3, l3, a5, l5, rfl, n3, n5, v3, v5⟩))
    go_ret
    exact ⟨a3, l3, rfl, n3, by rw [v3]; exact V2, b2.trans (b3.mono b2.size)⟩

set_option maxRecDepth 100000 in
set_option maxHeartbeats 2000000 in
theorem shifted_sar0 (w : World) (a b : Option Addr) (A B : List Nat) (ha : IsNat w a A) (hb : IsNat w b B) (va : D.val A < b256) (vb : D.val B < b256) (hn : isNegW (D.val B) = false) :
    Calls Safg.prog 112 #[.int .u8 29, .slice a A.length A.length, .slice b B.length B.length] w (NatRes w (sarW (D.val A) (D.val B))) := by
  have la : A.length ≤ 32 := ha.len (by rw [← b256_pow]; exact va)
  have lb : B.length ≤ 32 := hb.len (by rw [← b256_pow]; exact vb)
  have HI : ∀ w', IsNat w' b B → Calls Safg.prog 104 #[.slice b B.length B.length] w' fun e w'' => e = .returned (.bool false) ∧ w'' = w' := fun w' h => by
    have := isNegative_any w' b B h vb
    rwa [hn] at this
  obtain ⟨z, HZ⟩ : ∃ z, Hid (sarW (D.val A) (D.val B) = z) := ⟨_, rfl⟩
  rw [HZ.out]
  have key : ∀ (n : Nat), n ≤ 256 → n = min (D.val A) 256 → Hid (∀ l : List Nat, D.val l = 2 ^ n → D.val B / D.val l = z) := fun n hn' e l hl => by
    rw [hl, e, ← HZ.out]; unfold sarW; rw [hn]; rfl
  clear hn
  rcases Nat.lt_or_ge (D.val A) 18446744073709551616 with hbig | hbig
  · have HU := u64_small w a A ha (by omega) hbig
    by_cases h256 : 256 < D.val A
    · have K := key 256 (by omega) (by omega)
      have t1 : decide ((256 : Int) < (D.val A : Int)) = true := decide_eq_true (by omega)
      clear key HZ va vb
      generalize D.val A = x at *
      go_enter Safg.func112, Safg.ntmps112
      go_wp2_with (first | (go_at_call 262; refine HU.mono ?_; rintro e w1 ⟨hw, rfl⟩; subst hw) | (go_at_call 259; refine (pow2_any _ 256 (by omega)).mono ?_; rintro e w2 ⟨a2, l2, rfl, m2, v2, b2⟩; have l233 : l2.length ≤ 33 := m2.nat.len (by rw [v2, ← b256_pow2, b256_pow]; exact Nat.pow_lt_pow_right (by omega) (by omega)); have p2 : 0 < D.val l2 := (by rw [v2]; exact Nat.pow_pos (by omega)); have V2 := K.out l2 v2; clear v2) | (go_at_call 104; refine (HI w2 (hb.below b2)).mono ?_; rintro e w9 ⟨rfl, hw⟩; subst hw) | (go_at_call 101; refine (div_nat _ b a2 B l2 (hb.below b2) m2.nat (by omega) (by omega) p2).mono ?_; rintro e w3 ⟨b3, a3, l3, a5, l5, rfl, n3, n5, v3, v5⟩))
      go_ret
      exact ⟨a3, l3, rfl, n3, by rw [v3]; exact V2, b2.trans (b3.mono b2.size)⟩
    · have K := key (D.val A) (by omega) (by omega)
      have t1 : decide ((256 : Int) < (D.val A : Int)) = false := decide_eq_false (by omega)
      have h2 : D.val A ≤ 256 := by omega
      clear key HZ va vb
      generalize D.val A = x at *
      have HP : Hid (2 ^ x < 256 ^ 33) := by
        show _ < _
        have := byW_lt x
        unfold byW at this
        rwa [Nat.min_eq_left h2] at this
      go_enter Safg.func112, Safg.ntmps112
      go_wp2_with (first | (go_at_call 262; refine HU.mono ?_; rintro e w1 ⟨hw, rfl⟩; subst hw) | (go_at_call 259; refine (pow2_any _ x (by omega)).mono ?_; rintro e w2 ⟨a2, l2, rfl, m2, v2, b2⟩; have l233 : l2.length ≤ 33 := m2.nat.len (by rw [v2]; exact HP.out); have p2 : 0 < D.val l2 := (by rw [v2]; exact Nat.pow_pos (by omega)); have V2 := K.out l2 v2; clear v2) | (go_at_call 104; refine (HI w2 (hb.below b2)).mono ?_; rintro e w9 ⟨rfl, hw⟩; subst hw) | (go_at_call 101; refine (div_nat _ b a2 B l2 (hb.below b2) m2.nat (by omega) (by omega) p2).mono ?_; rintro e w3 ⟨b3, a3, l3, a5, l5, rfl, n3, n5, v3, v5⟩))
      go_ret
      exact ⟨a3, l3, rfl, n3, by rw [v3]; exact V2, b2.trans (b3.mono b2.size)⟩
  · have HU := u64_big w a A ha (by omega) hbig
    have K := key 256 (by omega) (by omega)
    clear key HZ va vb
    go_enter Safg.func112, Safg.ntmps112
    go_wp2_with (first | (go_at_call 262; refine HU.mono ?_; rintro e w1 ⟨hw, rfl⟩; subst hw) | (go_at_call 259; refine (pow2_any _ 256 (by omega)).mono ?_; rintro e w2 ⟨a2, l2, rfl, m2, v2, b2⟩; have l233 : l2.length ≤ 33 := m2.nat.len (by rw [v2, ← b256_pow2, b256_pow]; exact Nat.pow_lt_pow_right (by omega) (by omega)); have p2 : 0 < D.val l2 := (by rw [v2]; exact Nat.pow_pos (by omega)); have V2 := K.out l2 v2; clear v2) | (go_at_call 104; refine (HI w2 (hb.below b2)).mono ?_; rintro e w9 ⟨rfl, hw⟩; subst hw) | (go_at_call 101; refine (div_nat _ b a2 B l2 (hb.below b2) m2.nat (by omega) (by omega) p2).mono ?_; rintro e w3 ⟨b3, a3, l3, a5, l5, rfl, n3, n5, v3, v5⟩))
    go_ret
    exact ⟨a3, l3, rfl, n3, by rw [v3]; exact V2, b2.trans (b3.mono b2.size)⟩

set_option maxRecDepth 100000 in
set_option maxHeartbeats 2000000 in
theorem shifted_sar1 (w : World) (a b : Option Addr) (A B : List Nat) (ha : IsNat w a A) (hb : IsNat w b B) (va : D.val A < b256) (vb : D.val B < b256) (hn : isNegW (D.val B) = true) :
    Calls Safg.prog 112 #[.int .u8 29, .slice a A.length A.length, .slice b B.length B.length] w (NatRes w (sarW (D.val A) (D.val B))) := by
  have la : A.length ≤ 32 := ha.len (by rw [← b256_pow]; exact va)
  have lb : B.length ≤ 32 := hb.len (by rw [← b256_pow]; exact vb)
  have HI : ∀ w', IsNat w' b B → Calls Safg.prog 104 #[.slice b B.length B.length] w' fun e w'' => e = .returned (.bool true) ∧ w'' = w' := fun w' h => by
    have := isNegative_any w' b B h vb
    rwa [hn] at this
  have HN : ∀ w', IsNat w' b B → Calls Safg.prog 110 #[.int .u8 25, .slice b B.length B.length, .slice none 0 0] w' (NatRes w' (b256 - 1 - D.val B)) := fun w' h =>
    bitwise_not w' b none B [] h (Made.nil 0 _).nat vb b256_pos
  obtain ⟨z, HZ⟩ : ∃ z, Hid (sarW (D.val A) (D.val B) = z) := ⟨_, rfl⟩
  rw [HZ.out]
  have key : ∀ (n : Nat), n ≤ 256 → n = min (D.val A) 256 → Hid (∀ l : List Nat, D.val l = 2 ^ n → b256 - 1 - (b256 - 1 - D.val B) / D.val l = z) := fun n hn' e l hl => by
    rw [hl, e, ← HZ.out]; unfold sarW; rw [hn]; rfl
  clear hn
  rcases Nat.lt_or_ge (D.val A) 18446744073709551616 with hbig | hbig
  · have HU := u64_small w a A ha (by omega) hbig
    by_cases h256 : 256 < D.val A
    · have K := key 256 (by omega) (by omega)
      have t1 : decide ((256 : Int) < (D.val A : Int)) = true := decide_eq_true (by omega)
      clear key HZ va vb
      generalize D.val A = x at *
      go_enter Safg.func112, Safg.ntmps112
      go_wp2_with (first | (go_at_call 262; refine HU.mono ?_; rintro e w1 ⟨hw, rfl⟩; subst hw) | (go_at_call 259; refine (pow2_any _ 256 (by omega)).mono ?_; rintro e w2 ⟨a2, l2, rfl, m2, v2, b2⟩; have l233 : l2.length ≤ 33 := m2.nat.len (by rw [v2, ← b256_pow2, b256_pow]; exact Nat.pow_lt_pow_right (by omega) (by omega)); have p2 : 0 < D.val l2 := (by rw [v2]; exact Nat.pow_pos (by omega)); have V2 := K.out l2 v2; clear v2) | (go_at_call 104; refine (HI w2 (hb.below b2)).mono ?_; rintro e w9 ⟨rfl, hw⟩; subst hw) | (go_at_call 110; first | ((fail_if_success (revert n6)); refine (HN _ (hb.below b2)).mono ?_; rintro e w6 ⟨a6, l6, rfl, n6, v6, b6⟩; have l632 : l6.length ≤ 32 := n6.len (by rw [v6, ← b256_pow]; exact Nat.lt_of_le_of_lt (Nat.sub_le _ _) (Nat.sub_lt b256_pos (by omega)))) | (refine (bitwise_not _ a3 none l3 [] n3 (Made.nil 0 _).nat VL b256_pos).mono ?_; rintro e w7 ⟨a7, l7, rfl, n7, v7, b7⟩)) | (go_at_call 101; refine (div_nat _ a6 a2 l6 l2 n6 (m2.nat.below b6) (by omega) (by omega) p2).mono ?_; rintro e w3 ⟨b3, a3, l3, a5, l5, rfl, n3, n5, v3, v5⟩; have VL : D.val l3 < b256 := (by rw [v3, v6]; exact Nat.lt_of_le_of_lt (Nat.div_le_self _ _) (Nat.lt_of_le_of_lt (Nat.sub_le _ _) (Nat.sub_lt b256_pos (by omega))))))
      go_ret
      exact ⟨a7, l7, rfl, n7, by rw [v7, v3, v6]; exact V2, b2.trans ((b6.mono b2.size).trans ((b3.mono (Nat.le_trans b2.size b6.size)).trans (b7.mono (Nat.le_trans (Nat.le_trans b2.size b6.size) b3.size))))⟩
    · have K := key (D.val A) (by omega) (by omega)
      have t1 : decide ((256 : Int) < (D.val A : Int)) = false := decide_eq_false (by omega)
      have h2 : D.val A ≤ 256 := by omega
      clear key HZ va vb
      generalize D.val A = x at *
      have HP : Hid (2 ^ x < 256 ^ 33) := by
        show _ < _
        have := byW_lt x
        unfold byW at this
        rwa [Nat.min_eq_left h2] at this
      go_enter Safg.func112, Safg.ntmps112
      go_wp2_with (first | (go_at_call 262; refine HU.mono ?_; rintro e w1 ⟨hw, rfl⟩; subst hw) | (go_at_call 259; refine (pow2_any _ x (by omega)).mono ?_; rintro e w2 ⟨a2, l2, rfl, m2, v2, b2⟩; have l233 : l2.length ≤ 33 := m2.nat.len (by rw [v2]; exact HP.out); have p2 : 0 < D.val l2 := (by rw [v2]; exact Nat.pow_pos (by omega)); have V2 := K.out l2 v2; clear v2) | (go_at_call 104; refine (HI w2 (hb.below b2)).mono ?_; rintro e w9 ⟨rfl, hw⟩; subst hw) | (go_at_call 110; first | ((fail_if_success (revert n6)); refine (HN _ (hb.below b2)).mono ?_; rintro e w6 ⟨a6, l6, rfl, n6, v6, b6⟩; have l632 : l6.length ≤ 32 := n6.len (by rw [v6, ← b256_pow]; exact Nat.lt_of_le_of_lt (Nat.sub_le _ _) (Nat.sub_lt b256_pos (by omega)))) | (refine (bitwise_not _ a3 none l3 [] n3 (Made.nil 0 _).nat VL b256_pos).mono ?_; rintro e w7 ⟨a7, l7, rfl, n7, v7, b7⟩)) | (go_at_call 101; refine (div_nat _ a6 a2 l6 l2 n6 (m2.nat.below b6) (by omega) (by omega) p2).mono ?_; rintro e w3 ⟨b3, a3, l3, a5, l5, rfl, n3, n5, v3, v5⟩; have VL : D.val l3 < b256 := (by rw [v3, v6]; exact Nat.lt_of_le_of_lt (Nat.div_le_self _ _) (Nat.lt_of_le_of_lt (Nat.sub_le _ _) (Nat.sub_lt b256_pos (by omega))))))
      go_ret
      exact ⟨a7, l7, rfl, n7, by rw [v7, v3, v6]; exact V2, b2.trans ((b6.mono b2.size).trans ((b3.mono (Nat.le_trans b2.size b6.size)).trans (b7.mono (Nat.le_trans (Nat.le_trans b2.size b6.size) b3.size))))⟩
  · have HU := u64_big w a A ha (by omega) hbig
    have K := key 256 (by omega) (by omega)
    clear key HZ va vb
    go_enter Safg.func112, Safg.ntmps112
    go_wp2_with (first | (go_at_call 262; refine HU.mono ?_; rintro e w1 ⟨hw, rfl⟩; subst hw) | (go_at_call 259; refine (pow2_any _ 256 (by omega)).mono ?_; rintro e w2 ⟨a2, l2, rfl, m2, v2, b2⟩; have l233 : l2.length ≤ 33 := m2.nat.len (by rw [v2, ← b256_pow2, b256_pow]; exact Nat.pow_lt_pow_right (by omega) (by omega)); have p2 : 0 < D.val l2 := (by rw [v2]; exact Nat.pow_pos (by omega)); have V2 := K.out l2 v2; clear v2) | (go_at_call 104; refine (HI w2 (hb.below b2)).mono ?_; rintro e w9 ⟨rfl, hw⟩; subst hw) | (go_at_call 110; first | ((fail_if_success (revert n6)); refine (HN _ (hb.below b2)).mono ?_; rintro e w6 ⟨a6, l6, rfl, n6, v6, b6⟩; have l632 : l6.length ≤ 32 := n6.len (by rw [v6, ← b256_pow]; exact Nat.lt_of_le_of_lt (Nat.sub_le _ _) (Nat.sub_lt b256_pos (by omega)))) | (refine (bitwise_not _ a3 none l3 [] n3 (Made.nil 0 _).nat VL b256_pos).mono ?_; rintro e w7 ⟨a7, l7, rfl, n7, v7, b7⟩)) | (go_at_call 101; refine (div_nat _ a6 a2 l6 l2 n6 (m2.nat.below b6) (by omega) (by omega) p2).mono ?_; rintro e w3 ⟨b3, a3, l3, a5, l5, rfl, n3, n5, v3, v5⟩; have VL : D.val l3 < b256 := (by rw [v3, v6]; exact Nat.lt_of_le_of_lt (Nat.div_le_self _ _) (Nat.lt_of_le_of_lt (Nat.sub_le _ _) (Nat.sub_lt b256_pos (by omega))))))
    go_ret
    exact ⟨a7, l7, rfl, n7, by rw [v7, v3, v6]; exact V2, b2.trans ((b6.mono b2.size).trans ((b3.mono (Nat.le_trans b2.size b6.size)).trans (b7.mono (Nat.le_trans (Nat.le_trans b2.size b6.size) b3.size))))⟩

theorem shifted_sar (w : World) (a b : Option Addr) (A B : List Nat) (ha : IsNat w a A) (hb : IsNat w b B) (va : D.val A < b256) (vb : D.val B < b256) :
    Calls Safg.prog 112 #[.int .u8 29, .slice a A.length A.length, .slice b B.length B.length] w (NatRes w (sarW (D.val A) (D.val B))) := by
  cases h : isNegW (D.val B)
  · exact shifted_sar0 w a b A B ha hb va vb h
  · exact shifted_sar1 w a b A B ha hb va vb h
end Go.Proofs.YgcsafGreat
