/-
  'yp.signExtended' (106), 'yp.pickedByte' (111).
-/
import Derived.Test.YgcsafGreatYp3
import Derived.Test.YgcsafGreatU64
namespace Go.Proofs.YgcsafGreat
open Go.RowKit
set_option linter.unusedVariables false
set_option linter.unusedSimpArgs false

/-- SIGNEXTEND. -/
def sextW (a b : Nat) : Nat :=
  if 31 ≤ a then b else if b / 2 ^ (8 * a + 7) % 2 = 1 then b % 2 ^ (8 * a + 8) + (b256 - 2 ^ (8 * a + 8)) else b % 2 ^ (8 * a + 8)
/-- BYTE. -/
def byteW (a b : Nat) : Nat := if 32 ≤ a then 0 else b / 256 ^ (31 - a) % 256

/-- 'nat.U64' of a normal number. -/
theorem u64_nat (w : World) (a : Option Addr) (l : List Nat) (h : IsNat w a l) (hm : l.length ≤ 281474976710656) :
    Calls Safg.prog 262 #[.slice a l.length l.length] w fun e w' => w' = w ∧ ((18446744073709551616 ≤ D.val l ∧ e = .returned (.tuple #[.int .u64 0, .bool false])) ∨ (D.val l < 18446744073709551616 ∧ e = .returned (.tuple #[.int .u64 ((D.val l : Nat) : Int), .bool true]))) :=
  (u64_any w a _ _ l h.rd (Nat.le_refl _) hm).mono fun e w' ⟨h1, h2⟩ => by
    refine ⟨h1, ?_⟩
    rw [D.trimL_self h.rd.dig h.nm] at h2
    rcases h2 with ⟨h3, h4⟩ | ⟨h3, h4⟩
    · refine .inl ⟨?_, h4⟩
      have := h.nm.val_ge (by intro e; rw [e] at h3; simp at h3)
      have h5 : 256 ^ 8 ≤ 256 ^ (l.length - 1) := Nat.pow_le_pow_right (by omega) (by omega)
      have : (256 : Nat) ^ 8 = 18446744073709551616 := rfl
      omega
    · refine .inr ⟨?_, h4⟩
      have := D.val_lt h.rd.dig
      have h5 : 256 ^ l.length ≤ 256 ^ 8 := Nat.pow_le_pow_right (by omega) h3
      have : (256 : Nat) ^ 8 = 18446744073709551616 := rfl
      omega

theorem u64_big (w : World) (a : Option Addr) (l : List Nat) (h : IsNat w a l) (hm : l.length ≤ 281474976710656) (hv : 18446744073709551616 ≤ D.val l) :
    Calls Safg.prog 262 #[.slice a l.length l.length] w fun e w' => w' = w ∧ e = .returned (.tuple #[.int .u64 0, .bool false]) :=
  (u64_nat w a l h hm).mono fun e w' ⟨h1, h2⟩ => ⟨h1, by rcases h2 with ⟨_, h⟩ | ⟨h, _⟩; exact h; omega⟩
theorem u64_small (w : World) (a : Option Addr) (l : List Nat) (h : IsNat w a l) (hm : l.length ≤ 281474976710656) (hv : D.val l < 18446744073709551616) :
    Calls Safg.prog 262 #[.slice a l.length l.length] w fun e w' => w' = w ∧ e = .returned (.tuple #[.int .u64 ((D.val l : Nat) : Int), .bool true]) :=
  (u64_nat w a l h hm).mono fun e w' ⟨h1, h2⟩ => ⟨h1, by rcases h2 with ⟨h, _⟩ | ⟨_, h⟩; omega; exact h⟩

theorem mod_of_div {A q d r : Nat} (h : A = q * d + r) (hr : r < d) : A % d = r ∧ A / d = q := by
  subst h
  have hd : 0 < d := by omega
  rw [Nat.mul_comm, Nat.mul_add_mod, Nat.mod_eq_of_lt hr, Nat.mul_add_div hd, Nat.div_eq_of_lt hr]
  exact ⟨rfl, rfl⟩
theorem pow_le_b256 {k : Nat} (h : k ≤ 256) : 2 ^ k ≤ b256 := by
  rw [b256_pow2]; exact Nat.pow_le_pow_right (by omega) h

set_option maxRecDepth 100000 in
set_option maxHeartbeats 2000000 in
theorem signExtended_any (w : World) (a b : Option Addr) (A B : List Nat) (ha : IsNat w a A) (hb : IsNat w b B) (va : D.val A < b256) (vb : D.val B < b256) :
    Calls Safg.prog 106 #[.slice a A.length A.length, .slice b B.length B.length] w (NatRes w (sextW (D.val A) (D.val B))) := by
  have la : A.length ≤ 32 := ha.len (by rw [← b256_pow]; exact va)
  have lb : B.length ≤ 32 := hb.len (by rw [← b256_pow]; exact vb)
  have HN := norm_any w b _ _ B hb.rd (Nat.le_refl _) (by omega)
  have HY : Hid (D.val (D.trimL B) = D.val B) := D.trimL_val B
  rcases Nat.lt_or_ge (D.val A) 18446744073709551616 with hbig | hbig
  · have HU := u64_small w a A ha (by omega) hbig
    by_cases h31 : 31 ≤ D.val A
    · have e : sextW (D.val A) (D.val B) = D.val B := by unfold sextW; rw [if_pos h31]
      rw [e, ← HY.out]
      have t1 : decide ((31 : Int) ≤ (D.val A : Int)) = true := decide_eq_true (by omega)
      generalize D.val A = x at *
      clear va vb e
      go_enter Safg.func106, Safg.ntmps106
      go_wp2_with (first | (go_at_call 262; refine HU.mono ?_; rintro e w1 ⟨hw, rfl⟩; subst hw) | (go_at_call 256; refine HN.mono ?_; rintro e w1 ⟨a1, rfl, m1, b1⟩))
      go_ret
      exact ⟨a1, _, rfl, m1.nat, rfl, b1⟩
    · have hx31 : D.val A < 31 := by omega
      have HS : Hid (sextW (D.val A) (D.val B) = if D.val B / 2 ^ (8 * D.val A + 7) % 2 = 1 then D.val B % 2 ^ (8 * D.val A + 8) + (b256 - 2 ^ (8 * D.val A + 8)) else D.val B % 2 ^ (8 * D.val A + 8)) := by
        show _ = _
        unfold sextW; rw [if_neg h31]
      obtain ⟨z, HZ⟩ : ∃ z, Hid (sextW (D.val A) (D.val B) = z) := ⟨_, rfl⟩
      rw [HZ.out]
      rw [HZ.out] at HS
      have t1 : decide ((31 : Int) ≤ (D.val A : Int)) = false := decide_eq_false (by omega)
      clear HZ h31 hbig va HN HY
      generalize D.val A = x at *
      have HP := pow2_any w (8 * x + 8) (by omega)
      have HPL : Hid (2 ^ (8 * x + 8) < 256 ^ 33) := by
        show _ < _
        have := pow_le_b256 (k := 8 * x + 8) (by omega)
        have h2 : b256 < 256 ^ 33 := by rw [b256_pow]; exact Nat.pow_lt_pow_right (by omega) (by omega)
        omega
      have HPB : Hid (2 ^ (8 * x + 8) ≤ b256) := pow_le_b256 (by omega)
      have HP0 : Hid (0 < 2 ^ (8 * x + 8)) := Nat.pow_pos (by omega)
      have HPI : (((8 * x + 8 : Nat)) : Int) = 8 * (x : Int) + 7 + 1 := by omega
      have HP7 : (((8 * x + 7 : Nat)) : Int) = 8 * (x : Int) + 7 := by omega
      have HB := bit_any w b _ _ B hb.rd (Nat.le_refl _) (by omega) (8 * x + 7) (by omega)
      rw [HPI] at HP
      go_enter Safg.func106, Safg.ntmps106
      go_upto_region 6 with (first | (go_at_call 262; refine HU.mono ?_; rintro e w1 ⟨hw, rfl⟩; subst hw) | (go_at_call 259; refine HP.mono ?_; rintro e w2 ⟨a2, l2, rfl, m2, v2, b2⟩; have hl2 : l2.length ≤ 33 := m2.nat.len (by rw [v2]; exact HPL.out)) | (go_at_call 101; refine (divMod_any _ b a2 _ _ _ _ B l2 (hb.rd.below b2) m2.nat.rd (Nat.le_refl _) (Nat.le_refl _) (by omega) (by omega)).mono ?_; rintro e w3 ⟨b3, ⟨hz, _⟩ | ⟨hpos, qa, q, ra, r, rfl, mq, mr, hdiv, hlt, hlq, hlr⟩⟩; (exact absurd hz (by rw [v2]; have := HP0.out; omega))))
      rw [v2] at hdiv hlt
      have HM : Hid (D.val B % 2 ^ (8 * x + 8) = D.val r) := (mod_of_div hdiv hlt).1
      have HRL : Hid (D.val r < 2 ^ (8 * x + 8)) := hlt
      have b13 : Below w1.heap.size w1 w3 := b2.trans (b3.mono b2.size)
      have HB := bit_any w3 b _ _ B (hb.rd.below b13) (Nat.le_refl _) (by omega) (8 * x + 7) (by omega)
      rw [HP7] at HB
      have hrl : r.length ≤ 33 := mr.nat.len (Nat.lt_trans HRL.out HPL.out)
      clear hdiv hlt hlq hlr hpos v2 m2 hl2 HU HP
      by_cases hbit : D.val B / 2 ^ (8 * x + 7) % 2 = 1
      · have HZ2 : Hid (z = D.val r + (b256 - 2 ^ (8 * x + 8))) := by
          show _ = _
          rw [HS.out, if_pos hbit, HM.out]
        rw [decide_eq_true hbit] at HB
        clear hbit HM HS
        go_wp2_with (first | (go_at_call 261; refine HB.mono ?_; rintro e w4 ⟨rfl, hw⟩; subst hw) | (go_at_call 259; first | ((fail_if_success (revert m5)); refine (pow2_any _ 256 (by omega)).mono ?_; rintro e w5 ⟨a5, l5, rfl, m5, v5, b5⟩) | (have HP2 := pow2_any w5 (8 * x + 8) (by omega); rw [HPI] at HP2; refine HP2.mono ?_; rintro e w6 ⟨a6, l6, rfl, m6, v6, b6⟩; have hl6 : l6.length ≤ 33 := m6.nat.len (by rw [v6]; exact HPL.out); have hl5 : l5.length ≤ 33 := m5.nat.len (by rw [v5, ← b256_pow2, b256_pow]; exact Nat.pow_lt_pow_right (by omega) (by omega)); have V5 : Hid (D.val l5 = b256) := v5; have V6 : Hid (D.val l6 = 2 ^ (8 * x + 8)) := v6; clear v5 v6)) | (go_at_call 258; refine (sub_any _ _ _ _ _ _ _ l5 l6 (m5.nat.rd.below b6) m6.nat.rd (Nat.le_refl _) (Nat.le_refl _) (by omega) (by omega)).mono ?_; rintro e w7 ⟨b7, ⟨hlt, _⟩ | ⟨hle, a7, l7, rfl, m7, v7, hl7⟩⟩; (exact absurd hlt (by rw [V5.out, V6.out]; have := HPB.out; omega))) | (go_at_call 98; refine (add_any w7 ra a7 _ _ _ _ r l7 (((mr.nat.rd.below b5).below b6).below b7) m7.nat.rd (Nat.le_refl _) (Nat.le_refl _) (by omega) (by omega)).mono ?_; rintro e w8 ⟨a8, l8, rfl, m8, v8, hl8, b8⟩))
        go_ret
        refine ⟨a8, l8, rfl, m8.nat, ?_, ?_⟩
        · rw [HZ2.out, v8, v7, V5.out, V6.out]
        · have s1 := b13.size; have s2 := b5.size; have s3 := b6.size; have s4 := b7.size
          exact b13.trans ((b5.mono s1).trans ((b6.mono (by omega)).trans ((b7.mono (by omega)).trans (b8.mono (by omega)))))
      · have HZ2 : Hid (z = D.val r) := by
          show _ = _
          rw [HS.out, if_neg hbit, HM.out]
        rw [decide_eq_false hbit] at HB
        clear hbit HM HS
        go_wp2_with (first | (go_at_call 261; refine HB.mono ?_; rintro e w4 ⟨rfl, hw⟩; subst hw))
        go_ret
        exact ⟨ra, r, rfl, mr.nat, HZ2.out.symm, b13⟩
  · have HU := u64_big w a A ha (by omega) hbig
    have e : sextW (D.val A) (D.val B) = D.val B := by unfold sextW; rw [if_pos (by omega)]
    rw [e, ← HY.out]
    generalize D.val A = x at *
    clear va vb e
    go_enter Safg.func106, Safg.ntmps106
    go_wp2_with (first | (go_at_call 262; refine HU.mono ?_; rintro e w1 ⟨hw, rfl⟩; subst hw) | (go_at_call 256; refine HN.mono ?_; rintro e w1 ⟨a1, rfl, m1, b1⟩))
    go_ret
    exact ⟨a1, _, rfl, m1.nat, rfl, b1⟩

end Go.Proofs.YgcsafGreat
