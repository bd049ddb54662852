/-
  'yp.power' (105), 'yp.signExtended' (106), 'yp.pickedByte' (111).
-/
import Derived.Test.YgcsafGreatYp2
import Derived.Test.YgcsafGreatMul
namespace Go.Proofs.YgcsafGreat
open Go.RowKit
set_option linter.unusedVariables false
set_option linter.unusedSimpArgs false

theorem pow_sq {a m q p : Nat} (h : p = a ^ q % m) : p * p % m = a ^ (2 * q) % m := by
  rw [h, ← Nat.mul_mod, ← Nat.pow_add, Nat.two_mul]
theorem pow_sq1 {a m q p : Nat} (h : p = a ^ (2 * q) % m) : p * a % m = a ^ (2 * q + 1) % m := by
  rw [h, Nat.mod_mul_mod, ← Nat.pow_succ]
theorem div_bit (e k : Nat) : e / 2 ^ k = 2 * (e / 2 ^ (k + 1)) + e / 2 ^ k % 2 := by
  rw [Nat.pow_succ, ← Nat.div_div_eq_div_mul]
  omega

set_option maxRecDepth 100000 in
set_option maxHeartbeats 2000000 in
theorem power_any (w : World) (a b : Option Addr) (A B : List Nat) (ha : IsNat w a A) (hb : IsNat w b B) (va : D.val A < b256) (vb : D.val B < b256) :
    Calls Safg.prog 105 #[.slice a A.length A.length, .slice b B.length B.length] w (NatRes w (D.val A ^ D.val B % b256)) := by
  have la : A.length ≤ 32 := ha.len (by rw [← b256_pow]; exact va)
  have lb : B.length ≤ 32 := hb.len (by rw [← b256_pow]; exact vb)
  have hS0 : D.val B / 2 ^ (8 * B.length) = 0 := by
    rw [Nat.pow_mul]
    exact Nat.div_eq_of_lt (D.val_lt hb.rd.dig)
  obtain ⟨x, hx⟩ : ∃ x, D.val A = x := ⟨_, rfl⟩
  obtain ⟨y, hy⟩ : ∃ x, D.val B = x := ⟨_, rfl⟩
  have HX : Hid (D.val A = x) := hx
  have HY : Hid (D.val B = y) := hy
  rw [hx, hy]
  rw [hy] at hS0
  have H0 : Hid (x ^ (y / 2 ^ (8 * B.length)) % b256 = 1) := by
    show _ = _
    rw [hS0, Nat.pow_zero]; rfl
  clear va vb hx hy hS0
  have hmin : min (B.length : Int) 32 = (B.length : Int) := by omega
  go_enter Safg.func105, Safg.ntmps105
  go_upto_region 3 with fail
  have own1 : Own (w.alloc (Obj.cells #[Value.int IntKind.u8 1] 5)) w.heap.size [1] := Own.of_slice w 1 5
  have nat1 : IsNat (w.alloc (Obj.cells #[Value.int IntKind.u8 1] 5)) (some ⟨w.heap.size, 0, none⟩) [1] := (Made.of_own (B := 0) own1 (D.Dig.cons (by omega) D.Dig.nil) (fun _ => by decide) (by simp) (Nat.zero_le _)).nat
  have b1 : Below w.heap.size w (w.alloc (Obj.cells #[Value.int IntKind.u8 1] 5)) := (Below.refl _ _).alloc (Nat.le_refl _) _
  clear own1
  generalize w.alloc (Obj.cells #[Value.int IntKind.u8 1] 5) = w1 at *
  go_loopw [5, 6] (fun p i wr => ∃ (k : Nat) (ap : Option Addr) (lp : List Nat), k ≤ 8 * B.length ∧ i = .int .i64 k ∧ p = .slice ap lp.length lp.length ∧ IsNat wr ap lp ∧ Hid (D.val lp = x ^ (y / 2 ^ k) % b256) ∧ Below w.heap.size w wr) (fun _ i _ => (intOf i).toNat)
  case atStart => exact ⟨8 * B.length, _, [1], Nat.le_refl _, by go_num, rfl, nat1, H0.out.symm, b1⟩
  case round =>
    obtain ⟨k, ap, lp, hk, rfl, rfl, np, vp, br⟩ := hrel
    have lp32 : lp.length ≤ 32 := np.len (by rw [vp.out, ← b256_pow]; exact Nat.mod_lt _ b256_pos)
    rcases Nat.eq_zero_or_pos k with h0 | h0
    · subst h0
      go_wp2
      go_ret
      exact ⟨ap, lp, rfl, np, by rw [vp.out, Nat.pow_zero, Nat.div_one], br⟩
    · obtain ⟨k, rfl⟩ : ∃ j, k = j + 1 := ⟨k - 1, by omega⟩
      have hki : ((k + 1 : Nat) : Int) - 1 = (k : Int) := by omega
      have hki2 : (k : Int) + 1 - 1 = (k : Int) := by omega
      have t0 : decide ((0 : Int) < (k : Int) + 1) = true := decide_eq_true (by omega)
      have hA : Rd wr a A.length A := ha.rd.below br
      have hB : Rd wr b B.length B := hb.rd.below br
      go_upto_region 6 with (first | (go_at_call 99; refine (mul_any wr ap ap _ _ _ _ lp lp np.rd np.rd (Nat.le_refl _) (Nat.le_refl _) (by omega) (by omega) (by omega)).mono ?_; rintro e w2 ⟨a2, l2, rfl, m2, v2, hl2, b2⟩) | (go_at_call 97; refine (wrapped_nat w2 a2 l2 m2.nat (by omega)).mono ?_; rintro e w3 ⟨a3, l3, rfl, n3, v3, b3⟩))
      have V3 : Hid (D.val l3 = x ^ (2 * (y / 2 ^ (k + 1))) % b256) := by show _ = _; rw [v3, v2]; exact pow_sq vp.out
      have b13 : Below wr.heap.size wr w3 := b2.trans (b3.mono b2.size)
      have bb : Below w.heap.size w w3 := br.trans (b13.mono br.size)
      have hA3 := hA.below b13
      have hB3 := hB.below b13
      have l332 : l3.length ≤ 32 := n3.len (by rw [V3.out, ← b256_pow]; exact Nat.mod_lt _ b256_pos)
      clear v2 v3 m2 np b2 b3
      have HB := bit_any w3 b _ _ B hB3 (Nat.le_refl _) (by omega) k (by omega)
      rw [HY.out] at HB
      have hd := div_bit y k
      by_cases hbit : y / 2 ^ k % 2 = 1
      · rw [decide_eq_true hbit] at HB
        rw [hbit] at hd
        have HD : Hid (y / 2 ^ k = 2 * (y / 2 ^ (k + 1)) + 1) := hd
        clear hbit hd
        go_wp2_with (first | (go_at_call 261; refine HB.mono ?_; rintro e w4 ⟨rfl, hw⟩; subst hw) | (go_at_call 99; refine (mul_any _ a3 a _ _ _ _ l3 A n3.rd hA3 (Nat.le_refl _) (Nat.le_refl _) (by omega) (by omega) (by omega)).mono ?_; rintro e w5 ⟨a5, l5, rfl, m5, v5, hl5, b5⟩) | (go_at_call 97; refine (wrapped_nat w5 a5 l5 m5.nat (by omega)).mono ?_; rintro e w6 ⟨a6, l6, rfl, n6, v6, b6⟩))
        go_roundw
        case rel =>
          refine ⟨k, a6, l6, by omega, by go_num, rfl, n6, ?_, bb.trans ((b5.mono bb.size).trans (b6.mono (Nat.le_trans bb.size b5.size)))⟩
          show _ = _
          rw [v6, v5, HX.out, HD.out]
          exact pow_sq1 V3.out
        case measure => simp [intOf]
      · rw [decide_eq_false hbit] at HB
        have HD : Hid (y / 2 ^ k = 2 * (y / 2 ^ (k + 1))) := by show _ = _; omega
        clear hbit hd
        go_wp2_with (first | (go_at_call 261; refine HB.mono ?_; rintro e w4 ⟨rfl, hw⟩; subst hw))
        go_roundw
        case rel =>
          refine ⟨k, a3, l3, by omega, by go_num, rfl, n3, ?_, bb⟩
          show _ = _
          rw [HD.out]; exact V3.out
        case measure => simp [intOf]
end Go.Proofs.YgcsafGreat
