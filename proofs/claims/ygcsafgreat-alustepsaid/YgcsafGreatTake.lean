/-
  'u256.takeTimes' (405), 'u256.putBack' (406).
-/
import Derived.Test.YgcsafGreatLimbs
namespace Go.Proofs.YgcsafGreat
open Go.RowKit
set_option linter.unusedVariables false
set_option linter.unusedSimpArgs false

set_option maxRecDepth 100000 in
set_option maxHeartbeats 2000000 in
theorem takeTimes_any (w : World) (g h o n cu cv q : Nat) (U V : List Nat) (hU : OwnU w g U) (hV : OwnU w h V) (hgh : h ≠ g) (lU : Lim U) (lV : Lim V) (ho : o + (n + 1) ≤ U.length) (hn : n ≤ V.length) (hq : q < 18446744073709551616) (hs : n < 4294967296) :
    Calls Safg.prog 405 #[.slice (some ⟨g, o, none⟩) (n + 1) cu, .slice (some ⟨h, 0, none⟩) n cv, .int .u64 (q : Int)] w fun e w' => ∃ (U' : List Nat) (k : Nat), e = .returned (.bool (decide (k ≠ 0))) ∧ k ≤ 1 ∧ OwnU w' g U' ∧ Only g w w' ∧ Lim U' ∧ Within U U' o (n + 1) ∧ wv U o (n + 1) + b64 ^ (n + 1) * k = wv U' o (n + 1) + q * wv V 0 n := by
  go_enter Safg.func405, Safg.ntmps405
  go_upto_region 4 with fail
  go_loopw [7, 8, 19] (fun cr br i wr => ∃ (k c b : Nat) (L : List Nat), k ≤ n ∧ i = .int .i64 k ∧ cr = .int .u64 (c : Int) ∧ br = .int .u64 (b : Int) ∧ c < 18446744073709551616 ∧ b ≤ 1 ∧ OwnU wr g L ∧ Only g w wr ∧ Lim L ∧ Within U L o k ∧ wv U o k + b64 ^ k * (c + b) = wv L o k + q * wv V 0 k) (fun _ _ i _ => n - (intOf i).toNat)
  case atStart => exact ⟨0, 0, 0, U, Nat.zero_le _, rfl, rfl, rfl, by omega, by omega, hU, Only.refl _ _, lU, Within.refl _ _ _, by simp [wv]⟩
  case round =>
    obtain ⟨k, c, b, L, hk, rfl, rfl, rfl, hc, hb, own, only, lL, hw, I⟩ := hrel
    have HI : Hid (wv U o k + b64 ^ k * (c + b) = wv L o k + q * wv V 0 k) := I
    have HW : Hid (Within U L o k) := hw
    have hLl := hw.1
    clear I hw
    by_cases hkn : k < n
    · have c1 := (hV.only only hgh).cell k (by omega)
      have c2 := own.cell (o + k) (by omega)
      rw [HW.out.2 (o + k) (by omega)] at c2
      have l1 := lV.getD k
      have l2 := lU.getD (o + k)
      have fr := own.free (o + k)
      have HS : Hid (∀ lo hi d b', lo + b64 * hi = q * V.getD k 0 + c → U.getD (o + k) 0 + b64 * b' = d + lo + b → wv U o (k + 1) + b64 ^ (k + 1) * (hi + b') = wv (L.set (o + k) d) o (k + 1) + q * wv V 0 (k + 1)) := by
        intro lo hi d b' e1 e2
        rw [wv_set_succ (by omega), wv_succ U, wv_succ V, Nat.zero_add, Nat.pow_succ]
        exact take_limb HI.out e1 e2
      generalize V.getD k 0 = x at *
      generalize U.getD (o + k) 0 = u at *
      go_upto_region 7 with (go_at_call 375; refine (mulAdd_any _ q x c 0 hq l1 hc (by omega)).mono ?_; rintro e w4 ⟨lo, hi, rfl, hlo, hhi, E1, hw⟩; subst hw)
      go_upto_region 8 with (go_at_call 308; refine (Sub64_rel _ u lo b l2 hlo hb).mono ?_; rintro e w5 ⟨d, b', rfl, hd, hb', E2, hw⟩; subst hw)
      go_wp2
      go_roundw
      case rel =>
        exact ⟨k + 1, hi, b', L.set (o + k) d, by omega, by go_num, rfl, rfl, hhi, hb', own.set (by omega) d, only.setCell _ _, lL.set _ hd, HW.out.set (by omega) d, HS.out lo hi d b' (by rw [E1.out, Nat.add_zero]) E2.out⟩
      case measure => simp [intOf]; omega
    · have hkU : k = n := by omega
      subst hkU
      have c2 := own.cell (o + k) (by omega)
      rw [HW.out.2 (o + k) (by omega)] at c2
      have l2 := lU.getD (o + k)
      have fr := own.free (o + k)
      have HS : Hid (∀ d b', U.getD (o + k) 0 + b64 * b' = d + c + b → wv U o (k + 1) + b64 ^ (k + 1) * b' = wv (L.set (o + k) d) o (k + 1) + q * wv V 0 k) := by
        intro d b' e2
        rw [wv_set_succ (by omega), wv_succ U, Nat.pow_succ]
        have := take_limb (x := 0) (lo := c) (hi := 0) HI.out (by rw [Nat.mul_zero, Nat.mul_zero, Nat.add_zero, Nat.zero_add]) e2
        rw [Nat.zero_add, Nat.mul_zero, Nat.add_zero] at this
        exact this
      generalize U.getD (o + k) 0 = u at *
      go_upto_region 13 with (go_at_call 308; refine (Sub64_rel _ u c b l2 hc hb).mono ?_; rintro e w5 ⟨d, b', rfl, hd, hb', E2, hw⟩; subst hw)
      obtain ⟨ov, HOV⟩ : ∃ o, Hid (decide (b' ≠ 0) = o) := ⟨_, rfl⟩
      have t9 : ((b' : Int) != 0) = ov := by
        rw [← HOV.out]
        rcases (show b' = 0 ∨ b' = 1 by omega) with h | h <;> subst h <;> rfl
      go_wp2
      go_ret
      exact ⟨L.set (o + k) d, b', by rw [HOV.out]; rfl, hb', own.set (by omega) d, only.setCell _ _, lL.set _ hd, HW.out.set (by omega) d, HS.out d b' E2.out⟩

set_option maxRecDepth 100000 in
set_option maxHeartbeats 2000000 in
theorem putBack_any (w : World) (g h o n cu cv : Nat) (U V : List Nat) (hU : OwnU w g U) (hV : OwnU w h V) (hgh : h ≠ g) (lU : Lim U) (lV : Lim V) (ho : o + (n + 1) ≤ U.length) (hn : n ≤ V.length) (hs : n < 4294967296) :
    Calls Safg.prog 406 #[.slice (some ⟨g, o, none⟩) (n + 1) cu, .slice (some ⟨h, 0, none⟩) n cv] w fun e w' => ∃ (U' : List Nat) (k : Nat), e = .returned (.tuple #[]) ∧ OwnU w' g U' ∧ Only g w w' ∧ Lim U' ∧ Within U U' o (n + 1) ∧ wv U o (n + 1) + wv V 0 n = wv U' o (n + 1) + b64 ^ (n + 1) * k := by
  go_enter Safg.func406, Safg.ntmps406
  go_upto_region 2 with fail
  go_loopw [4, 11] (fun cr i wr => ∃ (k c : Nat) (L : List Nat), k ≤ n ∧ i = .int .i64 k ∧ cr = .int .u64 (c : Int) ∧ c ≤ 1 ∧ OwnU wr g L ∧ Only g w wr ∧ Lim L ∧ Within U L o k ∧ wv U o k + wv V 0 k = wv L o k + b64 ^ k * c) (fun _ i _ => n - (intOf i).toNat)
  case atStart => exact ⟨0, 0, U, Nat.zero_le _, rfl, rfl, by omega, hU, Only.refl _ _, lU, Within.refl _ _ _, by simp [wv]⟩
  case round =>
    obtain ⟨k, c, L, hk, rfl, rfl, hc, own, only, lL, hw, I⟩ := hrel
    have HI : Hid (wv U o k + wv V 0 k = wv L o k + b64 ^ k * c) := I
    have HW : Hid (Within U L o k) := hw
    have hLl := hw.1
    clear I hw
    by_cases hkn : k < n
    · have c1 := (hV.only only hgh).cell k (by omega)
      have c2 := own.cell (o + k) (by omega)
      rw [HW.out.2 (o + k) (by omega)] at c2
      have l1 := lV.getD k
      have l2 := lU.getD (o + k)
      have fr := own.free (o + k)
      have HS : Hid (∀ s c', s + b64 * c' = U.getD (o + k) 0 + V.getD k 0 + c → wv U o (k + 1) + wv V 0 (k + 1) = wv (L.set (o + k) s) o (k + 1) + b64 ^ (k + 1) * c') := by
        intro s c' e1
        rw [wv_set_succ (by omega), wv_succ U, wv_succ V, Nat.zero_add, Nat.pow_succ]
        exact back_limb HI.out e1
      generalize V.getD k 0 = x at *
      generalize U.getD (o + k) 0 = u at *
      go_upto_region 5 with (go_at_call 170; refine (Add64_rel _ u x c l2 l1 hc).mono ?_; rintro e w5 ⟨s, c', rfl, hs', hc', E2, hw⟩; subst hw)
      go_wp2
      go_roundw
      case rel =>
        exact ⟨k + 1, c', L.set (o + k) s, by omega, by go_num, rfl, hc', own.set (by omega) s, only.setCell _ _, lL.set _ hs', HW.out.set (by omega) s, HS.out s c' E2.out⟩
      case measure => simp [intOf]; omega
    · have hkU : k = n := by omega
      subst hkU
      have c2 := own.cell (o + k) (by omega)
      rw [HW.out.2 (o + k) (by omega)] at c2
      have l2 := lU.getD (o + k)
      have fr := own.free (o + k)
      have HS : Hid (∀ s c', s + b64 * c' = U.getD (o + k) 0 + c → wv U o (k + 1) + wv V 0 k = wv (L.set (o + k) s) o (k + 1) + b64 ^ (k + 1) * c') := by
        intro s c' e1
        rw [wv_set_succ (by omega), wv_succ U, Nat.pow_succ]
        have := back_limb (x := 0) HI.out (by rw [Nat.add_zero]; exact e1)
        rw [Nat.mul_zero, Nat.add_zero] at this
        exact this
      generalize U.getD (o + k) 0 = u at *
      obtain ⟨s, m, HH, hs', G⟩ := wrap_to (u + c) ((u : Int) + (c : Int)) (by simp only [Int.natCast_add])
      go_wp2
      first | rw [HH] | skip
      go_end0
      exact ⟨L.set (o + k) s, m, rfl, own.set (by omega) s, only.setCell _ _, lL.set _ hs', HW.out.set (by omega) s, HS.out s m (by rw [G.out])⟩
end Go.Proofs.YgcsafGreat
