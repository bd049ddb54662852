import Derived.Test.YgcsafU64
namespace Go.Proofs.Ygcsaf
open Go.RowKit
set_option linter.unusedVariables false
set_option linter.unusedSimpArgs false

theorem shr_byte (x k : Nat) (hk : k < 8) : (x : Int) / 2 ^ (56 - 8 * k) % 256 = ((x / 256 ^ (7 - k) % 256 : Nat) : Int) := by
  have e : (256 : Nat) ^ (7 - k) = 2 ^ (56 - 8 * k) := by
    rw [show (256 : Nat) = 2 ^ 8 by rfl, ← Nat.pow_mul]
    congr 1; omega
  rw [e]
  simp

set_option maxHeartbeats 400000 in
theorem natFromHolds_true (w : World) (x : Nat) (hx : x < 18446744073709551616) (xa : Option Addr) (xl : List Nat) (cap : Nat) (hxn : IsNat w xa xl) (hv : Hid (D.val xl = x)) :
    Calls Safg.prog 31 #[.int .u64 (x : Int), .slice xa xl.length cap] w fun e w' => e = .returned (.bool true) ∧ Below w.heap.size w w' := by
  go_enter Safg.func31, Safg.ntmps31
  go_upto_region 2 with (refine wpList_alloc_arr rfl 112 rfl 8 Safg.zero112 ?_; intro w1 g hg o1 b1)
  go_wp2
  go_loopw [7] (fun i wr => ∃ (k : Nat) (L : List Nat), k ≤ 8 ∧ i = .int .i64 k ∧ Own wr g L ∧ Only g w1 wr ∧ L.length = 8 ∧ D.Dig L ∧ ∀ j, j < k → L.getD j 0 = x / 256 ^ (7 - j) % 256) (fun i _ => 8 - (intOf i).toNat)
  case atStart => exact ⟨0, _, by omega, rfl, o1, Only.refl _ _, by simp, D.Dig.replicate _, fun j hj => absurd hj (by omega)⟩
  case round =>
    obtain ⟨k, L, hk, rfl, ownr, onlyr, hL, hdL, hj⟩ := hrel
    have HJ : Hid (∀ j, j < k → L.getD j 0 = x / 256 ^ (7 - j) % 256) := hj
    clear hj
    by_cases hlt : k < 8
    · have hcell := ownr.cell k (by omega)
      have hfr := ownr.free k
      go_wp2
      go_roundw
      case rel =>
        refine ⟨k + 1, _, by omega, by go_num, ownr.setI (k := k) (by omega) (x / 256 ^ (7 - k) % 256) (shr_byte x k hlt), onlyr.setCell _ _, by simpa using hL, hdL.set _ (Nat.mod_lt _ (by omega)), fun j hj => ?_⟩
        rw [D.getD_set (by omega)]
        by_cases e : j = k
        · subst e; rw [if_pos rfl]
        · rw [if_neg e]; exact HJ.out j (by omega)
      case measure => simp [intOf]; omega
    · have h8 : k = 8 := by omega
      subst h8
      have hrd := ownr.rd hdL
      have b2 : Below w.heap.size w wr := b1.trans (onlyr.below hg)
      have hnx := hxn.below b2
      have hvr : D.val L.reverse = x := D.val_of_u64 hx (by simpa using hL) (fun j hj => by rw [D.getD_reverse (by omega), HJ.out _ (by omega), show 7 - (L.length - 1 - j) = j by omega])
      have HV : Hid (D.val (D.trimL L.reverse) = x) := by show D.val (D.trimL L.reverse) = x; rw [D.trimL_val]; exact hvr
      clear hvr
      rw [hL] at hrd
      go_wp2_with (first | (go_at_call 40; refine (fromBE_any _ _ _ _ L hrd (Nat.le_refl _) (by omega)).mono ?_; rintro e w2 ⟨a', rfl, hm, b3⟩) | (go_at_call 34; refine (equalBytes_any _ _ _ _ _ _ _ xl (D.trimL L.reverse) (hnx.rd.below b3) hm.rd).mono ?_; rintro e w3 ⟨rfl, hw⟩; subst hw))
      go_ret
      refine ⟨ret_bool (decide_eq_true ?_), b2.trans (b3.mono b2.size)⟩
      exact D.ext hxn.rd.dig hm.rd.dig hxn.nm hm.nm (by rw [hv.out, HV.out])
end Go.Proofs.Ygcsaf
