/-
  'num': Add64, Sub64, Mul64, Len64, LeadingZeros64.
-/
import Derived.Test.YgcsafGreatCmp
import Derived.Test.YgcsafGreatLen64
import Derived.Lib.Mul64
import Derived.Lib.ItoaNum
import Derived.Laws.Externs
import Derived.Shelf.Spec.BitsCarry
namespace Go.Proofs.YgcsafGreat
open Go.RowKit
set_option linter.unusedVariables false
set_option linter.unusedSimpArgs false

theorem add64c (x y c : Nat) (hc : c ≤ 1) (w : World) : (callFunc 307 #[.int .u64 (x : Int), .int .u64 (y : Int), .int .u64 (c : Int)]).run Safg.prog w =
    .ok (.value (.tuple #[.int .u64 (((x + y + c) % 18446744073709551616 : Nat) : Int), .int .u64 (((x + y + c) / 18446744073709551616 : Nat) : Int)])) w := by
  have h := run_add64 (P := Safg.prog) (w := w) (x : Int) (y : Int) (c : Int) (by omega) (by omega) (by omega) (by omega)
  rw [run_callFunc_extern Safg.func307 (by kernel_rfl) (by kernel_rfl) (by kernel_rfl) (e := add64Entry) (by kernel_rfl), h]
  simp only [Result.andThen]
  congr 5 <;> omega
theorem sub64c (x y b : Nat) (hb : b ≤ 1) (w : World) : (callFunc 367 #[.int .u64 (x : Int), .int .u64 (y : Int), .int .u64 (b : Int)]).run Safg.prog w =
    .ok (.value (.tuple #[.int .u64 (((x + 18446744073709551616 - y - b) % 18446744073709551616 : Nat) : Int), .int .u64 ((if x < y + b then 1 else 0 : Nat) : Int)])) w := by
  rw [run_callFunc_extern Safg.func367 (by kernel_rfl) (by kernel_rfl) (by kernel_rfl) (e := sub64Entry) (by kernel_rfl), run_sub64 x y b hb]
  rfl

theorem Add64_any (w : World) (x y c : Nat) (hc : c ≤ 1) :
    Calls Safg.prog 170 #[.int .u64 (x : Int), .int .u64 (y : Int), .int .u64 (c : Int)] w fun e w' => e = .returned (.tuple #[.int .u64 (((x + y + c) % 18446744073709551616 : Nat) : Int), .int .u64 (((x + y + c) / 18446744073709551616 : Nat) : Int)]) ∧ w' = w := by
  obtain ⟨p, HP⟩ : ∃ p, Hid ((x + y + c) % 18446744073709551616 = p) := ⟨_, rfl⟩
  obtain ⟨q, HQ⟩ : ∃ q, Hid ((x + y + c) / 18446744073709551616 = q) := ⟨_, rfl⟩
  have ha := add64c x y c hc
  rw [HP.out, HQ.out] at ha
  rw [HP.out, HQ.out]
  go_enter Safg.func170, Safg.ntmps170
  go_wp2
  go_ret2
  exact ⟨rfl, rfl⟩
theorem Sub64_any (w : World) (x y b : Nat) (hb : b ≤ 1) :
    Calls Safg.prog 308 #[.int .u64 (x : Int), .int .u64 (y : Int), .int .u64 (b : Int)] w fun e w' => e = .returned (.tuple #[.int .u64 (((x + 18446744073709551616 - y - b) % 18446744073709551616 : Nat) : Int), .int .u64 ((if x < y + b then 1 else 0 : Nat) : Int)]) ∧ w' = w := by
  obtain ⟨p, HP⟩ : ∃ p, Hid ((x + 18446744073709551616 - y - b) % 18446744073709551616 = p) := ⟨_, rfl⟩
  obtain ⟨q, HQ⟩ : ∃ q : Nat, Hid ((if x < y + b then 1 else 0) = q) := ⟨_, rfl⟩
  have ha := sub64c x y b hb
  rw [HP.out, HQ.out] at ha
  rw [HP.out, HQ.out]
  go_enter Safg.func308, Safg.ntmps308
  go_wp2
  go_ret2
  exact ⟨rfl, rfl⟩

namespace M64
theorem maskN (a : Nat) (ha : a < 18446744073709551616) : bits .and .u64 (a : Int) 4294967295 = ((a % 4294967296 : Nat) : Int) := by
  have h := u64_and_nat a 4294967295 ha (by omega)
  have e : a &&& 4294967295 = a % 4294967296 := Nat.and_two_pow_sub_one_eq_mod a 32
  rw [e] at h
  exact h
theorem divN (a : Nat) : (a : Int) / 4294967296 = ((a / 4294967296 : Nat) : Int) := by omega
theorem mulN (a b : Nat) : (a : Int) * (b : Int) = ((a * b : Nat) : Int) := (Int.natCast_mul a b).symm
theorem addN (a b : Nat) : (a : Int) + (b : Int) = ((a + b : Nat) : Int) := (Int.natCast_add a b).symm
theorem wrapN (a : Nat) (ha : a < 18446744073709551616) : IntKind.u64.wrap (a : Int) = (a : Int) := by rw [IntKind.wrap_u64]; omega
theorem wrapM (a : Nat) : IntKind.u64.wrap (a : Int) = ((a % 18446744073709551616 : Nat) : Int) := by rw [IntKind.wrap_u64]; omega
end M64

set_option maxHeartbeats 1000000 in
theorem bitsMul64_any (w : World) (x y : Nat) (hx : x < 18446744073709551616) (hy : y < 18446744073709551616) :
    Calls Safg.prog 306 #[.int .u64 (x : Int), .int .u64 (y : Int)] w fun e w' => e = .returned (.tuple #[.int .u64 ((x * y / 18446744073709551616 : Nat) : Int), .int .u64 ((x * y % 18446744073709551616 : Nat) : Int)]) ∧ w' = w := by
  obtain ⟨bd, bt, bw, hhi⟩ := Lib.mul64_hi x y hx hy
  have ba := Lib.half_mul_le (a := x / 4294967296) (b := y / 4294967296) (by omega) (by omega)
  have bb := Lib.half_mul_le (a := x / 4294967296) (b := y % 4294967296) (by omega) (by omega)
  have bc := Lib.half_mul_le (a := x % 4294967296) (b := y / 4294967296) (by omega) (by omega)
  have ba' : x / 4294967296 * (y / 4294967296) < 18446744073709551616 := by omega
  have bb' : x / 4294967296 * (y % 4294967296) < 18446744073709551616 := by omega
  have bc' : x % 4294967296 * (y / 4294967296) < 18446744073709551616 := by omega
  have bh1 : x / 4294967296 * (y / 4294967296) + (x / 4294967296 * (y % 4294967296) + x % 4294967296 * (y % 4294967296) / 4294967296) / 4294967296 < 18446744073709551616 := by omega
  have bh : x / 4294967296 * (y / 4294967296) + (x / 4294967296 * (y % 4294967296) + x % 4294967296 * (y % 4294967296) / 4294967296) / 4294967296 + ((x / 4294967296 * (y % 4294967296) + x % 4294967296 * (y % 4294967296) / 4294967296) % 4294967296 + x % 4294967296 * (y / 4294967296)) / 4294967296 < 18446744073709551616 := by rw [hhi]; exact Nat.div_lt_of_lt_mul (Nat.mul_lt_mul'' hx hy)
  have HH : Hid _ := hhi
  clear hhi
  go_enter Safg.func306, Safg.ntmps306
  go_wp2
  simp only [M64.maskN x hx, M64.maskN y hy, M64.divN, M64.mulN, M64.addN, M64.wrapN _ bd, M64.wrapN _ bb', M64.wrapN _ bt, M64.maskN _ bt, M64.wrapN _ bc', M64.wrapN _ bw, M64.wrapN _ ba', M64.wrapN _ bh1, M64.wrapN _ bh, M64.wrapM (x * y)]
  rw [HH.out]
  go_ret2
  exact ⟨rfl, rfl⟩

set_option maxHeartbeats 400000 in
theorem Mul64_any (w : World) (x y : Nat) (hx : x < 18446744073709551616) (hy : y < 18446744073709551616) :
    Calls Safg.prog 169 #[.int .u64 (x : Int), .int .u64 (y : Int)] w fun e w' => e = .returned (.tuple #[.int .u64 ((x * y / 18446744073709551616 : Nat) : Int), .int .u64 ((x * y % 18446744073709551616 : Nat) : Int)]) ∧ w' = w := by
  obtain ⟨p, HP⟩ : ∃ p, Hid (x * y / 18446744073709551616 = p) := ⟨_, rfl⟩
  obtain ⟨q, HQ⟩ : ∃ q, Hid (x * y % 18446744073709551616 = q) := ⟨_, rfl⟩
  have H := bitsMul64_any w x y hx hy
  rw [HP.out, HQ.out] at H
  rw [HP.out, HQ.out]
  go_enter Safg.func169, Safg.ntmps169
  go_wp2_with fail
  refine H.mono ?_
  rintro e w1 ⟨rfl, hw⟩
  subst hw
  go_wp2
  go_ret2
  exact ⟨rfl, rfl⟩

/-- bitLen in powers. -/
theorem bitLen_pos (x : Nat) (hx : x < 18446744073709551616) (h0 : x ≠ 0) : 1 ≤ Lib.bitLen x ∧ Lib.bitLen x ≤ 64 ∧ 2 ^ (Lib.bitLen x - 1) ≤ x ∧ x < 2 ^ Lib.bitLen x := by
  obtain ⟨h1, h2, h3⟩ := Lib.bitLenAux_bounds 64 x (by simpa using hx) h0
  exact ⟨h1, Lib.bitLen_le x 64 (Nat.le_refl _) (by simpa using hx), h2, h3⟩

theorem bitsLead64_any (w : World) (x : Nat) (hx : x < 18446744073709551616) :
    Calls Safg.prog 393 #[.int .u64 (x : Int)] w fun e w' => e = .returned (.int .i64 ((64 - Lib.bitLen x : Nat) : Int)) ∧ w' = w := by
  have H := Safg.bits_Len64 (x : Int) w (by omega) (by omega)
  rw [Int.toNat_natCast] at H
  have hle := Lib.bitLen_le x 64 (Nat.le_refl _) (by simpa using hx)
  obtain ⟨L, HL⟩ : ∃ L, Hid (Lib.bitLen x = L) := ⟨_, rfl⟩
  rw [HL.out] at H hle
  rw [HL.out]
  obtain ⟨R, HR⟩ : ∃ R, Hid (64 - L = R) := ⟨_, rfl⟩
  rw [HR.out]
  go_enter Safg.func393, Safg.ntmps393
  go_wp2_with fail
  refine H.mono ?_
  rintro e w1 ⟨rfl, hw⟩
  subst hw
  go_wp2
  go_ret
  exact ⟨ret_int (by have := HR.out; omega), rfl⟩
theorem Lead64_any (w : World) (x : Nat) (hx : x < 18446744073709551616) :
    Calls Safg.prog 371 #[.int .u64 (x : Int)] w fun e w' => e = .returned (.int .i64 ((64 - Lib.bitLen x : Nat) : Int)) ∧ w' = w := by
  have H := bitsLead64_any w x hx
  obtain ⟨R, HR⟩ : ∃ R, Hid (64 - Lib.bitLen x = R) := ⟨_, rfl⟩
  rw [HR.out] at H
  rw [HR.out]
  go_enter Safg.func371, Safg.ntmps371
  go_wp2_with fail
  refine H.mono ?_
  rintro e w1 ⟨rfl, hw⟩
  subst hw
  go_wp2
  go_ret
  exact ⟨rfl, rfl⟩
theorem Len64_any (w : World) (x : Nat) (hx : x < 18446744073709551616) :
    Calls Safg.prog 188 #[.int .u64 (x : Int)] w fun e w' => e = .returned (.int .i64 ((Lib.bitLen x : Nat) : Int)) ∧ w' = w := by
  have H := Safg.bits_Len64 (x : Int) w (by omega) (by omega)
  rw [Int.toNat_natCast] at H
  obtain ⟨R, HR⟩ : ∃ R, Hid (Lib.bitLen x = R) := ⟨_, rfl⟩
  rw [HR.out] at H
  rw [HR.out]
  go_enter Safg.func188, Safg.ntmps188
  go_wp2_with fail
  refine H.mono ?_
  rintro e w1 ⟨rfl, hw⟩
  subst hw
  go_wp2
  go_ret
  exact ⟨rfl, rfl⟩
end Go.Proofs.YgcsafGreat
