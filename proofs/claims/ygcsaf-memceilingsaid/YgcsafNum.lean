import Derived.Test.YgcsafLow
import Derived.Test.YgcsafNatFrom
import Derived.Lib.Mul64
import Derived.Laws.Externs
namespace Go.Proofs.Ygcsaf
open Go.RowKit
set_option linter.unusedVariables false
set_option linter.unusedSimpArgs false

theorem add64 (x y : Nat) (w : World) : (callFunc 98 #[.int .u64 (x : Int), .int .u64 (y : Int), .int .u64 0]).run Safg.prog w =
    .ok (.value (.tuple #[.int .u64 (((x + y) % 18446744073709551616 : Nat) : Int), .int .u64 (((x + y) / 18446744073709551616 : Nat) : Int)])) w := by
  have h := run_add64 (P := Safg.prog) (w := w) (x : Int) (y : Int) 0 (by omega) (by omega) (by omega) (by omega)
  rw [run_callFunc_extern Safg.func98 (by kernel_rfl) (by kernel_rfl) (by kernel_rfl) (e := add64Entry) (by kernel_rfl), h]
  simp only [Result.andThen]
  congr 5 <;> omega

set_option maxHeartbeats 400000 in
theorem Add64_any (w : World) (x y : Nat) (hx : x < 18446744073709551616) (hy : y < 18446744073709551616) :
    Calls Safg.prog 81 #[.int .u64 (x : Int), .int .u64 (y : Int), .int .u64 0] w fun e w' => e = .returned (.tuple #[.int .u64 (((x + y) % 18446744073709551616 : Nat) : Int), .int .u64 (((x + y) / 18446744073709551616 : Nat) : Int)]) ∧ w' = w := by
  have ha := add64 x y
  go_enter Safg.func81, Safg.ntmps81
  go_wp2
  go_ret2
  exact ⟨rfl, rfl⟩

namespace M64
theorem maskN (a : Nat) (ha : a < 18446744073709551616) : bits .and .u64 (a : Int) 4294967295 = ((a % 4294967296 : Nat) : Int) := by
  have h := u64_and_nat a 4294967295 ha (by omega)
  have e : a &&& 4294967295 = a % 4294967296 := Nat.and_two_pow_sub_one_eq_mod a 32
  rw [e] at h
  exact h
theorem divN (a : Nat) : (a : Int) / 4294967296 = ((a / 4294967296 : Nat) : Int) := by omega
theorem mulN (a b : Nat) : (a : Int) * (b : Int) = ((a * b : Nat) : Int) := (Int.natCast_mul a b).symm
theorem addN (a b : Nat) : (a : Int) + (b : Int) = ((a + b : Nat) : Int) := (Int.natCast_add a b).symm
theorem wrapN (a : Nat) (ha : a < 18446744073709551616) : IntKind.u64.wrap (a : Int) = (a : Int) := by rw [IntKind.wrap_u64]; omega
theorem wrapM (a : Nat) : IntKind.u64.wrap (a : Int) = ((a % 18446744073709551616 : Nat) : Int) := by rw [IntKind.wrap_u64]; omega
end M64

set_option maxHeartbeats 1000000 in
theorem bitsMul64_any (w : World) (x y : Nat) (hx : x < 18446744073709551616) (hy : y < 18446744073709551616) :
    Calls Safg.prog 90 #[.int .u64 (x : Int), .int .u64 (y : Int)] w fun e w' => e = .returned (.tuple #[.int .u64 ((x * y / 18446744073709551616 : Nat) : Int), .int .u64 ((x * y % 18446744073709551616 : Nat) : Int)]) ∧ w' = w := by
  obtain ⟨bd, bt, bw, hhi⟩ := Lib.mul64_hi x y hx hy
  have ba := Lib.half_mul_le (a := x / 4294967296) (b := y / 4294967296) (by omega) (by omega)
  have bb := Lib.half_mul_le (a := x / 4294967296) (b := y % 4294967296) (by omega) (by omega)
  have bc := Lib.half_mul_le (a := x % 4294967296) (b := y / 4294967296) (by omega) (by omega)
  have ba' : x / 4294967296 * (y / 4294967296) < 18446744073709551616 := by omega
  have bb' : x / 4294967296 * (y % 4294967296) < 18446744073709551616 := by omega
  have bc' : x % 4294967296 * (y / 4294967296) < 18446744073709551616 := by omega
  have bh1 : x / 4294967296 * (y / 4294967296) + (x / 4294967296 * (y % 4294967296) + x % 4294967296 * (y % 4294967296) / 4294967296) / 4294967296 < 18446744073709551616 := by omega
  have bh : x / 4294967296 * (y / 4294967296) + (x / 4294967296 * (y % 4294967296) + x % 4294967296 * (y % 4294967296) / 4294967296) / 4294967296 + ((x / 4294967296 * (y % 4294967296) + x % 4294967296 * (y % 4294967296) / 4294967296) % 4294967296 + x % 4294967296 * (y / 4294967296)) / 4294967296 < 18446744073709551616 := by omega
  have HH : Hid _ := hhi
  clear hhi
  go_enter Safg.func90, Safg.ntmps90
  go_wp2
  simp only [M64.maskN x hx, M64.maskN y hy, M64.divN, M64.mulN, M64.addN, M64.wrapN _ bd, M64.wrapN _ bb', M64.wrapN _ bt, M64.maskN _ bt, M64.wrapN _ bc', M64.wrapN _ bw, M64.wrapN _ ba', M64.wrapN _ bh1, M64.wrapN _ bh, M64.wrapM (x * y)]
  rw [HH.out]
  go_ret2
  exact ⟨rfl, rfl⟩

set_option maxHeartbeats 400000 in
theorem Mul64_any (w : World) (x y : Nat) (hx : x < 18446744073709551616) (hy : y < 18446744073709551616) :
    Calls Safg.prog 45 #[.int .u64 (x : Int), .int .u64 (y : Int)] w fun e w' => e = .returned (.tuple #[.int .u64 ((x * y / 18446744073709551616 : Nat) : Int), .int .u64 ((x * y % 18446744073709551616 : Nat) : Int)]) ∧ w' = w := by
  go_enter Safg.func45, Safg.ntmps45
  go_wp2_with fail
  refine (bitsMul64_any _ x y hx hy).mono ?_
  rintro e w1 ⟨rfl, hw⟩
  subst hw
  obtain ⟨p, hp⟩ : ∃ p, p = x * y / 18446744073709551616 := ⟨_, rfl⟩
  obtain ⟨q, hq⟩ : ∃ q, q = x * y % 18446744073709551616 := ⟨_, rfl⟩
  rw [← hp, ← hq]
  have HP : Hid (p = x * y / 18446744073709551616) := hp
  have HQ : Hid (q = x * y % 18446744073709551616) := hq
  clear hp hq
  go_wp2
  go_ret2
  exact ⟨by rw [← HP.out, ← HQ.out]; rfl, rfl⟩

theorem val_of_u128 {hi lo : Nat} (hh : hi < 18446744073709551616) (hl : lo < 18446744073709551616) {L : List Nat} (hL : L.length = 16)
    (h : ∀ j, j < 16 → L.getD j 0 = if j < 8 then lo / 256 ^ j % 256 else hi / 256 ^ (j - 8) % 256) : D.val L = hi * 18446744073709551616 + lo := by
  have := D.val_of_digits (x := hi * 18446744073709551616 + lo) (L := L) 0 (fun j hj => by
    rw [Nat.zero_add, h j (by omega)]
    by_cases h8 : j < 8
    · rw [if_pos h8]
      have e : (18446744073709551616 : Nat) = 256 ^ j * 256 ^ (8 - j) := by rw [← Nat.pow_add, show j + (8 - j) = 8 by omega]
      have e2 : hi * 18446744073709551616 + lo = lo + 256 ^ j * (hi * 256 ^ (8 - j)) := by rw [e, Nat.mul_left_comm]; omega
      rw [e2, Nat.add_mul_div_left _ _ (Nat.pow_pos (by omega))]
      obtain ⟨m, hm⟩ : ∃ m, 8 - j = m + 1 := ⟨7 - j, by omega⟩
      rw [hm, Nat.pow_succ, ← Nat.mul_assoc]
      omega
    · rw [if_neg h8]
      have e : 256 ^ j = 18446744073709551616 * 256 ^ (j - 8) := by
        have : (18446744073709551616 : Nat) = 256 ^ 8 := by decide
        rw [this, ← Nat.pow_add]; congr 1; omega
      rw [e, ← Nat.div_div_eq_div_mul]
      congr 2
      omega)
  rw [this, hL]
  simp
  omega

theorem shr_pow (x k : Nat) : (x : Int) / 2 ^ (8 * k) % 256 = ((x / 256 ^ k % 256 : Nat) : Int) := by
  have e : (256 : Nat) ^ k = 2 ^ (8 * k) := by rw [show (256 : Nat) = 2 ^ 8 by rfl, ← Nat.pow_mul]
  rw [e]
  simp

theorem Safg.zero127 : (Safg.prog.info? 127).map (·.zero) = some (some (arrV (List.replicate 16 0))) := by kernel_rfl

set_option maxHeartbeats 800000 in
theorem is128_true (w : World) (na : Option Addr) (N : List Nat) (cap hi lo : Nat) (hn : IsNat w na N) (hh : hi < 18446744073709551616) (hl : lo < 18446744073709551616) (hv : Hid (D.val N = hi * 18446744073709551616 + lo)) :
    Calls Safg.prog 82 #[.slice na N.length cap, .int .u64 (hi : Int), .int .u64 (lo : Int)] w fun e w' => e = .returned (.bool true) ∧ Below w.heap.size w w' := by
  go_enter Safg.func82, Safg.ntmps82
  go_upto_region 2 with (refine wpList_alloc_arr rfl 127 rfl 16 Safg.zero127 ?_; intro w1 g hg o1 b1)
  go_wp2
  go_loopw [9] (fun i wr => ∃ (k : Nat) (L : List Nat), k ≤ 16 ∧ i = .int .i64 k ∧ Own wr g L ∧ Only g w1 wr ∧ L.length = 16 ∧ D.Dig L ∧ ∀ j, j < k → L.getD j 0 = if j < 8 then lo / 256 ^ j % 256 else hi / 256 ^ (j - 8) % 256) (fun i _ => 16 - (intOf i).toNat)
  case atStart => exact ⟨0, _, by omega, rfl, o1, Only.refl _ _, by simp, D.Dig.replicate _, fun j hj => absurd hj (by omega)⟩
  case round =>
    obtain ⟨k, L, hk, rfl, ownr, onlyr, hL, hdL, hj⟩ := hrel
    have HJ : Hid (∀ j, j < k → L.getD j 0 = if j < 8 then lo / 256 ^ j % 256 else hi / 256 ^ (j - 8) % 256) := hj
    clear hj
    by_cases hlt : k < 16
    · have hcell := ownr.cell k (by omega)
      have hfr := ownr.free k
      by_cases h8 : k < 8
      · go_wp2
        go_roundw
        case rel =>
          refine ⟨k + 1, _, by omega, by go_num, ownr.setI (k := k) (by omega) (lo / 256 ^ k % 256) (shr_pow lo k), onlyr.setCell _ _, by simpa using hL, hdL.set _ (Nat.mod_lt _ (by omega)), fun j hj => ?_⟩
          rw [D.getD_set (by omega)]
          by_cases e : j = k
          · subst e; rw [if_pos rfl, if_pos h8]
          · rw [if_neg e]; exact HJ.out j (by omega)
        case measure => simp [intOf]; omega
      · go_wp2
        go_roundw
        case rel =>
          refine ⟨k + 1, _, by omega, by go_num, ownr.setI (k := k) (by omega) (hi / 256 ^ (k - 8) % 256) (shr_pow hi (k - 8)), onlyr.setCell _ _, by simpa using hL, hdL.set _ (Nat.mod_lt _ (by omega)), fun j hj => ?_⟩
          rw [D.getD_set (by omega)]
          by_cases e : j = k
          · subst e; rw [if_pos rfl, if_neg h8]
          · rw [if_neg e]; exact HJ.out j (by omega)
        case measure => simp [intOf]; omega
    · have h16 : k = 16 := by omega
      subst h16
      have hrd := ownr.rd hdL
      have b2 : Below w.heap.size w wr := b1.trans (onlyr.below hg)
      have hn2 := hn.below b2
      have HE : Hid (N = D.trimL L) := D.ext hn.rd.dig (D.trimL_dig hdL) hn.nm (D.trimL_nm L) (by rw [hv.out, D.trimL_val]; exact (val_of_u128 hh hl hL HJ.out).symm)
      rw [hL] at hrd
      go_wp2_with (first | (go_at_call 39; refine (lowDigits_any _ _ _ _ L hrd (Nat.le_refl _) (by omega)).mono ?_; rintro e w2 ⟨rfl, hw⟩; subst hw) | (go_at_call 34; refine (equalBytes_any _ _ _ _ _ _ _ N (D.trimL L) hn2.rd hrd.trim).mono ?_; rintro e w3 ⟨rfl, hw⟩; subst hw))
      go_ret
      exact ⟨ret_bool (decide_eq_true HE.out), b2⟩
end Go.Proofs.Ygcsaf
