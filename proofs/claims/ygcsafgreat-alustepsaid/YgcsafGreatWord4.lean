/-
  'u256': Not (222), below (333), signed (330), Slt (216), Sgt (217).
-/
import Derived.Test.YgcsafGreatDivOps
import Derived.Test.YgcsafGreatYp2
namespace Go.Proofs.YgcsafGreat
open Go.RowKit
set_option linter.unusedVariables false
set_option linter.unusedSimpArgs false

theorem u64_not (x : Nat) (hx : x < 18446744073709551616) : bits .xor .u64 (if IntKind.u64.signed = true then -1 else IntKind.u64.max) (x : Int) = ((18446744073709551615 - x : Nat) : Int) := by
  have e : (if IntKind.u64.signed = true then (-1 : Int) else IntKind.u64.max) = ((18446744073709551615 : Nat) : Int) := rfl
  rw [e, u64_xor_nat 18446744073709551615 x (by omega) hx]
  congr 1
  have h : 18446744073709551615 = 2 ^ 64 - 1 := rfl
  rw [h, Nat.xor_comm]
  apply Nat.eq_of_testBit_eq
  intro i
  rw [Nat.testBit_xor, Nat.testBit_two_pow_sub_one, show 2 ^ 64 - 1 - x = 2 ^ 64 - (x + 1) by omega, Nat.testBit_two_pow_sub_succ (by omega)]
  by_cases hi : i < 64
  · simp [hi]
  · simp [hi]
    have h2 : 2 ^ 64 ≤ 2 ^ i := Nat.pow_le_pow_right (by omega) (by omega)
    exact Nat.testBit_lt_two_pow (Nat.lt_of_lt_of_le hx h2)

set_option maxRecDepth 100000 in
set_option maxHeartbeats 1000000 in
theorem not_any (w : World) (a : Wd4) (ha : a.Ok) :
    Calls Safg.prog 222 #[a.v] w (WdRes w (b256 - 1 - a.val)) := by
  have o0 := u64_not a.x0 ha.h0
  have o1 := u64_not a.x1 ha.h1
  have o2 := u64_not a.x2 ha.h2
  have o3 := u64_not a.x3 ha.h3
  have H : Hid (Wd4.val ⟨18446744073709551615 - a.x0, 18446744073709551615 - a.x1, 18446744073709551615 - a.x2, 18446744073709551615 - a.x3⟩ = b256 - 1 - a.val ∧ Wd4.Ok ⟨18446744073709551615 - a.x0, 18446744073709551615 - a.x1, 18446744073709551615 - a.x2, 18446744073709551615 - a.x3⟩) := by
    have h0 := ha.h0; have h1 := ha.h1; have h2 := ha.h2; have h3 := ha.h3
    refine ⟨?_, ⟨Nat.lt_of_le_of_lt (Nat.sub_le _ _) (by decide), Nat.lt_of_le_of_lt (Nat.sub_le _ _) (by decide), Nat.lt_of_le_of_lt (Nat.sub_le _ _) (by decide), Nat.lt_of_le_of_lt (Nat.sub_le _ _) (by decide)⟩⟩
    unfold Wd4.val b256
    rw [b64_eq]
    show _ = _
    simp only
    omega
  go_enter Safg.func222, Safg.ntmps222
  go_upto_region 1 with (first | (refine wpList_box_agg rfl 65 (.tmp 0) rfl a.cells rfl ?_; intro w1 g2 hg2 k2 c2) | (refine wpList_alloc_agg rfl 65 rfl _ Safg.zero65 ?_; intro w3 g4 hg4 k4 c4))
  have k2' := k2.below c4 k2.lt
  have b03 : Below w.heap.size w w3 := c2.trans (c4.mono c2.size)
  have A0 := k2'.get (j := 0) (v := .int .u64 (a.x0 : Int)) rfl
  have A1 := k2'.get (j := 1) (v := .int .u64 (a.x1 : Int)) rfl
  have A2 := k2'.get (j := 2) (v := .int .u64 (a.x2 : Int)) rfl
  have A3 := k2'.get (j := 3) (v := .int .u64 (a.x3 : Int)) rfl
  have hgg : w.heap.size ≤ g4 := by have := c2.size; omega
  clear c2 c4 k2 k2'
  obtain ⟨z0, HZ0⟩ : ∃ z, Hid ((18446744073709551615 - a.x0) = z) := ⟨_, rfl⟩
  obtain ⟨z1, HZ1⟩ : ∃ z, Hid ((18446744073709551615 - a.x1) = z) := ⟨_, rfl⟩
  obtain ⟨z2, HZ2⟩ : ∃ z, Hid ((18446744073709551615 - a.x2) = z) := ⟨_, rfl⟩
  obtain ⟨z3, HZ3⟩ : ∃ z, Hid ((18446744073709551615 - a.x3) = z) := ⟨_, rfl⟩
  rw [HZ0.out] at o0
  rw [HZ1.out] at o1
  rw [HZ2.out] at o2
  rw [HZ3.out] at o3
  rw [HZ0.out, HZ1.out, HZ2.out, HZ3.out] at H
  go_wp2_with (refine wpList_store_agg rfl 65 _ _ rfl g4 rfl _ (Wd4.cells ⟨z0, z1, z2, z3⟩) rfl k4 rfl Safg.size65 (Wd4.one _) ?_; intro w7 k7 n7)
  refine bodyPost_ret (results_cell1 Safg.results222 _ w7 g4 _ _ rfl k7 Safg.under65 rfl Safg.size65) rfl ⟨⟨z0, z1, z2, z3⟩, H.out.2, H.out.1, rfl, b03.trans (n7.below hgg)⟩

theorem val_small {a : Wd4} (h : a.x1 = 0 ∧ a.x2 = 0 ∧ a.x3 = 0) : a.val = a.x0 := by
  unfold Wd4.val; rw [h.1, h.2.1, h.2.2]; simp
theorem val_big {a : Wd4} (h : ¬ (a.x1 = 0 ∧ a.x2 = 0 ∧ a.x3 = 0)) : 18446744073709551616 ≤ a.val := by
  have hp := b64_pos
  unfold Wd4.val
  have h1 : 1 ≤ a.x1 + b64 * (a.x2 + b64 * a.x3) := by
    rcases Nat.eq_zero_or_pos (a.x1 + b64 * (a.x2 + b64 * a.x3)) with h0 | h0
    · exfalso
      apply h
      have e1 : a.x1 = 0 := by omega
      have e2 : b64 * (a.x2 + b64 * a.x3) = 0 := by omega
      have e3 : a.x2 + b64 * a.x3 = 0 := by
        rcases Nat.mul_eq_zero.1 e2 with h | h
        · omega
        · exact h
      have e4 : b64 * a.x3 = 0 := by omega
      have e5 : a.x3 = 0 := by
        rcases Nat.mul_eq_zero.1 e4 with h | h
        · omega
        · exact h
      exact ⟨e1, by omega, e5⟩
    · exact h0
  have h2 : b64 * 1 ≤ b64 * (a.x1 + b64 * (a.x2 + b64 * a.x3)) := Nat.mul_le_mul_left _ h1
  have h3 : b64 = 18446744073709551616 := rfl
  omega

set_option maxRecDepth 100000 in
set_option maxHeartbeats 1000000 in
theorem below_small (w : World) (a : Wd4) (ha : a.Ok) (n : Nat) (hn : n < 18446744073709551616) (h : a.val < n) :
    Calls Safg.prog 333 #[a.v, .int .u64 (n : Int)] w fun e w' => e = .returned (.tuple #[.int .u64 (a.val : Int), .bool true]) ∧ Below w.heap.size w w' := by
  have hs : a.x1 = 0 ∧ a.x2 = 0 ∧ a.x3 = 0 := by
    by_cases h1 : a.x1 = 0 ∧ a.x2 = 0 ∧ a.x3 = 0
    · exact h1
    · have := val_big h1; omega
  have hv := val_small hs
  have HU : ∀ w, Calls Safg.prog 235 #[a.v] w fun e w' => e = .returned (.tuple #[.int .u64 (a.val : Int), .bool true]) ∧ Below w.heap.size w w' := fun w =>
    (u64of_any w a ha).mono fun e w' ⟨h1, h2⟩ => ⟨by rcases h1 with ⟨_, _, _, h3⟩ | ⟨h3, _⟩; (rw [hv]; exact h3); exact absurd hs h3, h2⟩
  have t1 : decide ((a.val : Int) < (n : Int)) = true := decide_eq_true (by omega)
  generalize a.val = x at *
  clear hv hs
  go_enter Safg.func333, Safg.ntmps333
  go_wp2_with (first | (refine wpList_box_agg rfl 65 (.tmp 0) rfl a.cells rfl ?_; intro w1 g2 hg2 k2 c2) | (refine wpList_load_mid rfl 65 (.tmp 2) rfl g2 0 rfl _ _ k2.cell Safg.under65 rfl Safg.size65 ?_) | (go_at_call 235; refine (HU _).mono ?_; rintro e w2 ⟨rfl, b2⟩))
  go_ret2
  exact ⟨rfl, c2.trans (b2.mono c2.size)⟩

set_option maxRecDepth 100000 in
set_option maxHeartbeats 1000000 in
theorem below_big (w : World) (a : Wd4) (ha : a.Ok) (n : Nat) (hn : n < 18446744073709551616) (h : n ≤ a.val) :
    Calls Safg.prog 333 #[a.v, .int .u64 (n : Int)] w fun e w' => ∃ x : Int, e = .returned (.tuple #[.int .u64 x, .bool false]) ∧ Below w.heap.size w w' := by
  by_cases hs : a.x1 = 0 ∧ a.x2 = 0 ∧ a.x3 = 0
  · have hv := val_small hs
    have HU : ∀ w, Calls Safg.prog 235 #[a.v] w fun e w' => e = .returned (.tuple #[.int .u64 (a.val : Int), .bool true]) ∧ Below w.heap.size w w' := fun w =>
      (u64of_any w a ha).mono fun e w' ⟨h1, h2⟩ => ⟨by rcases h1 with ⟨_, _, _, h3⟩ | ⟨h3, _⟩; (rw [hv]; exact h3); exact absurd hs h3, h2⟩
    have t1 : decide ((a.val : Int) < (n : Int)) = false := decide_eq_false (by omega)
    have t2 : decide (a.val < n) = false := decide_eq_false (by omega)
    generalize a.val = x at *
    clear hv hs
    go_enter Safg.func333, Safg.ntmps333
    go_wp2_with (first | (refine wpList_box_agg rfl 65 (.tmp 0) rfl a.cells rfl ?_; intro w1 g2 hg2 k2 c2) | (refine wpList_load_mid rfl 65 (.tmp 2) rfl g2 0 rfl _ _ k2.cell Safg.under65 rfl Safg.size65 ?_) | (go_at_call 235; refine (HU _).mono ?_; rintro e w2 ⟨rfl, b2⟩))
    go_ret2
    exact ⟨_, rfl, c2.trans (b2.mono c2.size)⟩
  · have HU : ∀ w, Calls Safg.prog 235 #[a.v] w fun e w' => e = .returned (.tuple #[.int .u64 0, .bool false]) ∧ Below w.heap.size w w' := fun w =>
      (u64of_any w a ha).mono fun e w' ⟨h1, h2⟩ => ⟨by rcases h1 with ⟨h3, h4, h5, _⟩ | ⟨_, h3⟩; (exact absurd ⟨h3, h4, h5⟩ hs); exact h3, h2⟩
    clear hs
    go_enter Safg.func333, Safg.ntmps333
    go_wp2_with (first | (refine wpList_box_agg rfl 65 (.tmp 0) rfl a.cells rfl ?_; intro w1 g2 hg2 k2 c2) | (refine wpList_load_mid rfl 65 (.tmp 2) rfl g2 0 rfl _ _ k2.cell Safg.under65 rfl Safg.size65 ?_) | (go_at_call 235; refine (HU _).mono ?_; rintro e w2 ⟨rfl, b2⟩))
    go_ret2
    exact ⟨_, rfl, c2.trans (b2.mono c2.size)⟩

set_option maxRecDepth 100000 in
set_option maxHeartbeats 1000000 in
theorem signed_any (w : World) (a : Wd4) (ha : a.Ok) (n : Bool) :
    Calls Safg.prog 330 #[a.v, .bool n] w (WdRes w (sgnW a.val n)) := by
  have z0 : Wd4.zero.Ok := ⟨by decide, by decide, by decide, by decide⟩
  cases n
  · go_enter Safg.func330, Safg.ntmps330
    go_upto_region 1 with (first | (refine wpList_box_agg rfl 65 (.tmp 0) rfl a.cells rfl ?_; intro w1 g2 hg2 k2 c2) | (refine wpList_alloc_agg rfl 65 rfl _ Safg.zero65 ?_; intro w3 g4 hg4 k4 c4))
    have k2' := k2.below c4 k2.lt
    have b03 : Below w.heap.size w w3 := c2.trans (c4.mono c2.size)
    have hgg : w.heap.size ≤ g4 := by have := c2.size; omega
    go_wp2_with (first | (refine wpList_load_mid rfl 65 (.tmp 2) rfl g2 0 rfl _ _ k2'.cell Safg.under65 rfl Safg.size65 ?_) | (refine wpList_store_agg rfl 65 _ _ rfl g4 rfl _ a.cells rfl k4 rfl Safg.size65 (Wd4.one _) ?_; intro w7 k7 n7))
    refine bodyPost_ret (results_cell1 Safg.results330 _ w7 g4 _ _ rfl k7 Safg.under65 rfl Safg.size65) rfl ⟨a, ha, rfl, rfl, b03.trans (n7.below hgg)⟩
  · go_enter Safg.func330, Safg.ntmps330
    go_upto_region 1 with (first | (refine wpList_box_agg rfl 65 (.tmp 0) rfl a.cells rfl ?_; intro w1 g2 hg2 k2 c2) | (refine wpList_alloc_agg rfl 65 rfl _ Safg.zero65 ?_; intro w3 g4 hg4 k4 c4))
    have k2' := k2.below c4 k2.lt
    have b03 : Below w.heap.size w w3 := c2.trans (c4.mono c2.size)
    have hgg : w.heap.size ≤ g4 := by have := c2.size; omega
    go_wp2_with (first | (refine wpList_load_mid rfl 65 (.tmp 2) rfl g2 0 rfl _ _ k2'.cell Safg.under65 rfl Safg.size65 ?_) | (go_at_call 59; refine (uSub_any _ Wd4.zero a z0 ha).mono ?_; rintro e w5 ⟨s, sok, hs, rfl, b5⟩; have k4' : Blk w5 g4 _ := k4.below b5 k4.lt) | (refine wpList_store_agg rfl 65 _ _ rfl g4 rfl _ s.cells rfl k4' rfl Safg.size65 (Wd4.one _) ?_; intro w7 k7 n7))
    refine bodyPost_ret (results_cell1 Safg.results330 _ w7 g4 _ _ rfl k7 Safg.under65 rfl Safg.size65) rfl ⟨s, sok, ?_, rfl, b03.trans ((b5.mono b03.size).trans (n7.below hgg))⟩
    rw [hs, show Wd4.zero.val = 0 from rfl, Nat.zero_add]; rfl

theorem negative_isNeg {a : Wd4} (ha : a.Ok) : decide (9223372036854775808 ≤ a.x3) = isNegW a.val := by
  unfold isNegW
  congr 1
  apply propext
  have h0 := ha.h0; have h1 := ha.h1; have h2 := ha.h2; have h3 := ha.h3
  have e : half = 9223372036854775808 * (b64 * (b64 * b64)) := by rfl
  rw [e]
  unfold Wd4.val
  rw [b64_eq]
  omega
theorem negative_nat (w : World) (a : Wd4) (ha : a.Ok) :
    Calls Safg.prog 331 #[a.v] w fun e w' => e = .returned (.bool (isNegW a.val)) ∧ Below w.heap.size w w' := by
  have := negative_any w a ha
  rwa [negative_isNeg ha] at this
end Go.Proofs.YgcsafGreat
