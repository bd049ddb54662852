/-
  'yp.shifted' (112).
-/
import Derived.Test.YgcsafGreatYp6
namespace Go.Proofs.YgcsafGreat
open Go.RowKit
set_option linter.unusedVariables false
set_option linter.unusedSimpArgs false

def byW (a : Nat) : Nat := 2 ^ min a 256
def shlW (a b : Nat) : Nat := b * byW a % b256
def shrW (a b : Nat) : Nat := b / byW a
def sarW (a b : Nat) : Nat := if isNegW b then b256 - 1 - (b256 - 1 - b) / byW a else b / byW a

/-- What stands ahead of the three: 'by'. -/
theorem div_nat (w : World) (a b : Option Addr) (A B : List Nat) (ha : IsNat w a A) (hb : IsNat w b B) (la : A.length ≤ 100) (lb : B.length ≤ 100) (hB : 0 < D.val B) :
    Calls Safg.prog 101 #[.slice a A.length A.length, .slice b B.length B.length] w fun e w' => Below w.heap.size w w' ∧ ∃ qa q ra r, e = .returned (.tuple #[.slice qa q.length q.length, .slice ra r.length r.length, .bool true]) ∧ IsNat w' qa q ∧ IsNat w' ra r ∧ D.val q = D.val A / D.val B ∧ D.val r = D.val A % D.val B :=
  (divMod_any w a b _ _ _ _ A B ha.rd hb.rd (Nat.le_refl _) (Nat.le_refl _) (by omega) (by omega)).mono fun e w' ⟨h1, h2⟩ => ⟨h1, by
    rcases h2 with ⟨h, _⟩ | ⟨_, qa, q, ra, r, he, mq, mr, hd, hr, _, _⟩
    · omega
    · obtain ⟨h3, h4⟩ := mod_of_div hd hr
      exact ⟨qa, q, ra, r, he, mq.nat, mr.nat, h4.symm, h3.symm⟩⟩
theorem div_zero (w : World) (a b : Option Addr) (A B : List Nat) (ha : IsNat w a A) (hb : IsNat w b B) (la : A.length ≤ 100) (lb : B.length ≤ 100) (hB : D.val B = 0) :
    Calls Safg.prog 101 #[.slice a A.length A.length, .slice b B.length B.length] w fun e w' => Below w.heap.size w w' ∧ e = .returned (.tuple #[.slice none 0 0, .slice none 0 0, .bool false]) :=
  (divMod_any w a b _ _ _ _ A B ha.rd hb.rd (Nat.le_refl _) (Nat.le_refl _) (by omega) (by omega)).mono fun e w' ⟨h1, h2⟩ => ⟨h1, by
    rcases h2 with ⟨_, h⟩ | ⟨h, _⟩
    · exact h
    · omega⟩

theorem byW_pos (a : Nat) : 0 < byW a := Nat.pow_pos (by omega)
theorem byW_lt (a : Nat) : byW a < 256 ^ 33 := by
  have h1 : byW a ≤ 2 ^ 256 := Nat.pow_le_pow_right (by omega) (by omega)
  have h2 : (2 : Nat) ^ 256 < 256 ^ 33 := by rw [← b256_pow2, b256_pow]; exact Nat.pow_lt_pow_right (by omega) (by omega)
  omega

set_option maxRecDepth 100000 in
set_option maxHeartbeats 2000000 in
theorem shifted_shl (w : World) (a b : Option Addr) (A B : List Nat) (ha : IsNat w a A) (hb : IsNat w b B) (va : D.val A < b256) (vb : D.val B < b256) :
    Calls Safg.prog 112 #[.int .u8 27, .slice a A.length A.length, .slice b B.length B.length] w (NatRes w (shlW (D.val A) (D.val B))) := by
  have la : A.length ≤ 32 := ha.len (by rw [← b256_pow]; exact va)
  have lb : B.length ≤ 32 := hb.len (by rw [← b256_pow]; exact vb)
  obtain ⟨z, HZ⟩ : ∃ z, Hid (shlW (D.val A) (D.val B) = z) := ⟨_, rfl⟩
  rw [HZ.out]
  have key : ∀ (n : Nat), n ≤ 256 → n = min (D.val A) 256 → Hid (∀ l : List Nat, D.val l = 2 ^ n → D.val B * D.val l % b256 = z) := fun n hn e l hl => by
    rw [hl, e, ← HZ.out]; rfl
  rcases Nat.lt_or_ge (D.val A) 18446744073709551616 with hbig | hbig
  · have HU := u64_small w a A ha (by omega) hbig
    by_cases h256 : 256 < D.val A
    · have K := key 256 (by omega) (by omega)
      have t1 : decide ((256 : Int) < (D.val A : Int)) = true := decide_eq_true (by omega)
      clear key HZ va vb
      generalize D.val A = x at *
      go_enter Safg.func112, Safg.ntmps112
      go_wp2_with (first | (go_at_call 262; refine HU.mono ?_; rintro e w1 ⟨hw, rfl⟩; subst hw) | (go_at_call 259; refine (pow2_any _ 256 (by omega)).mono ?_; rintro e w2 ⟨a2, l2, rfl, m2, v2, b2⟩; have l233 : l2.length ≤ 33 := m2.nat.len (by rw [v2, ← b256_pow2, b256_pow]; exact Nat.pow_lt_pow_right (by omega) (by omega)); have V2 := K.out l2 v2; clear v2) | (go_at_call 99; refine (mul_any _ b a2 _ _ _ _ B l2 (hb.rd.below b2) m2.nat.rd (Nat.le_refl _) (Nat.le_refl _) (by omega) (by omega) (by omega)).mono ?_; rintro e w3 ⟨a3, l3, rfl, m3, v3, hl3, b3⟩) | (go_at_call 97; refine (wrapped_nat _ a3 l3 m3.nat (by omega)).mono ?_; rintro e w4 ⟨a4, l4, rfl, n4, v4, b4⟩))
      go_ret
      exact ⟨a4, l4, rfl, n4, by rw [v4, v3]; exact V2, b2.trans ((b3.mono b2.size).trans (b4.mono (Nat.le_trans b2.size b3.size)))⟩
    · have K := key (D.val A) (by omega) (by omega)
      have t1 : decide ((256 : Int) < (D.val A : Int)) = false := decide_eq_false (by omega)
      have h2 : D.val A ≤ 256 := by omega
      clear key HZ va vb
      generalize D.val A = x at *
      have HP : Hid (2 ^ x < 256 ^ 33) := by
        show _ < _
        have := byW_lt x
        unfold byW at this
        rwa [Nat.min_eq_left h2] at this
      go_enter Safg.func112, Safg.ntmps112
      go_wp2_with (first | (go_at_call 262; refine HU.mono ?_; rintro e w1 ⟨hw, rfl⟩; subst hw) | (go_at_call 259; refine (pow2_any _ x (by omega)).mono ?_; rintro e w2 ⟨a2, l2, rfl, m2, v2, b2⟩; have l233 : l2.length ≤ 33 := m2.nat.len (by rw [v2]; exact HP.out); have V2 := K.out l2 v2; clear v2) | (go_at_call 99; refine (mul_any _ b a2 _ _ _ _ B l2 (hb.rd.below b2) m2.nat.rd (Nat.le_refl _) (Nat.le_refl _) (by omega) (by omega) (by omega)).mono ?_; rintro e w3 ⟨a3, l3, rfl, m3, v3, hl3, b3⟩) | (go_at_call 97; refine (wrapped_nat _ a3 l3 m3.nat (by omega)).mono ?_; rintro e w4 ⟨a4, l4, rfl, n4, v4, b4⟩))
      go_ret
      exact ⟨a4, l4, rfl, n4, by rw [v4, v3]; exact V2, b2.trans ((b3.mono b2.size).trans (b4.mono (Nat.le_trans b2.size b3.size)))⟩
  · have HU := u64_big w a A ha (by omega) hbig
    have K := key 256 (by omega) (by omega)
    clear key HZ va vb
    go_enter Safg.func112, Safg.ntmps112
    go_wp2_with (first | (go_at_call 262; refine HU.mono ?_; rintro e w1 ⟨hw, rfl⟩; subst hw) | (go_at_call 259; refine (pow2_any _ 256 (by omega)).mono ?_; rintro e w2 ⟨a2, l2, rfl, m2, v2, b2⟩; have l233 : l2.length ≤ 33 := m2.nat.len (by rw [v2, ← b256_pow2, b256_pow]; exact Nat.pow_lt_pow_right (by omega) (by omega)); have V2 := K.out l2 v2; clear v2) | (go_at_call 99; refine (mul_any _ b a2 _ _ _ _ B l2 (hb.rd.below b2) m2.nat.rd (Nat.le_refl _) (Nat.le_refl _) (by omega) (by omega) (by omega)).mono ?_; rintro e w3 ⟨a3, l3, rfl, m3, v3, hl3, b3⟩) | (go_at_call 97; refine (wrapped_nat _ a3 l3 m3.nat (by omega)).mono ?_; rintro e w4 ⟨a4, l4, rfl, n4, v4, b4⟩))
    go_ret
    exact ⟨a4, l4, rfl, n4, by rw [v4, v3]; exact V2, b2.trans ((b3.mono b2.size).trans (b4.mono (Nat.le_trans b2.size b3.size)))⟩
end Go.Proofs.YgcsafGreat
