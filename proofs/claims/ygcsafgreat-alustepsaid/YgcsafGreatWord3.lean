/-
  'u256': IsZero (205), U64 (235), below (333), And (219), Or (220), Xor (221), Not (222), signed (330), Limbs (187).
-/
import Derived.Test.YgcsafGreatWord2
namespace Go.Proofs.YgcsafGreat
open Go.RowKit
set_option linter.unusedVariables false
set_option linter.unusedSimpArgs false

theorem b64_pow : b64 = 2 ^ 64 := rfl
theorem or_lt {x y : Nat} (hx : x < 18446744073709551616) (hy : y < 18446744073709551616) : x ||| y < 18446744073709551616 := Nat.or_lt_two_pow (n := 64) hx hy
theorem and_lt {x y : Nat} (hx : x < 18446744073709551616) : x &&& y < 18446744073709551616 := Nat.lt_of_le_of_lt Nat.and_le_left hx
theorem xor_lt {x y : Nat} (hx : x < 18446744073709551616) (hy : y < 18446744073709551616) : x ^^^ y < 18446744073709551616 := Nat.xor_lt_two_pow (n := 64) hx hy

theorem or_zero (x y : Nat) : (x ||| y = 0) ↔ x = 0 ∧ y = 0 := by
  constructor
  · intro h
    have h1 : x ≤ x ||| y := Nat.left_le_or
    have h2 : y ≤ x ||| y := Nat.right_le_or
    omega
  · rintro ⟨rfl, rfl⟩; rfl

theorem val_zero {a : Wd4} : a.val = 0 ↔ a.x0 = 0 ∧ a.x1 = 0 ∧ a.x2 = 0 ∧ a.x3 = 0 := by
  have hp := b64_pos
  unfold Wd4.val
  constructor
  · intro h
    have h0 : a.x0 = 0 := by omega
    have h1 : b64 * (a.x1 + b64 * (a.x2 + b64 * a.x3)) = 0 := by omega
    have h2 : a.x1 + b64 * (a.x2 + b64 * a.x3) = 0 := by
      rcases Nat.mul_eq_zero.1 h1 with h | h
      · omega
      · exact h
    have h3 : b64 * (a.x2 + b64 * a.x3) = 0 := by omega
    have h4 : a.x2 + b64 * a.x3 = 0 := by
      rcases Nat.mul_eq_zero.1 h3 with h | h
      · omega
      · exact h
    have h5 : b64 * a.x3 = 0 := by omega
    have h6 : a.x3 = 0 := by
      rcases Nat.mul_eq_zero.1 h5 with h | h
      · omega
      · exact h
    exact ⟨h0, by omega, by omega, h6⟩
  · rintro ⟨h0, h1, h2, h3⟩
    rw [h0, h1, h2, h3]
    rfl

set_option maxRecDepth 100000 in
set_option maxHeartbeats 1000000 in
theorem isZero_any (w : World) (a : Wd4) (ha : a.Ok) :
    Calls Safg.prog 205 #[a.v] w fun e w' => e = .returned (.bool (decide (a.val = 0))) ∧ Below w.heap.size w w' := by
  obtain ⟨q, HQ⟩ : ∃ q, Hid (decide (a.val = 0) = q) := ⟨_, rfl⟩
  rw [HQ.out]
  have h0 := ha.h0; have h1 := ha.h1; have h2 := ha.h2; have h3 := ha.h3
  have o1 := u64_or_nat a.x0 a.x1 h0 h1
  have o2 := u64_or_nat (a.x0 ||| a.x1) a.x2 (or_lt h0 h1) h2
  have o3 := u64_or_nat (a.x0 ||| a.x1 ||| a.x2) a.x3 (or_lt (or_lt h0 h1) h2) h3
  have t1 : (((a.x0 ||| a.x1 ||| a.x2 ||| a.x3 : Nat) : Int) == 0) = q := by
    rw [← HQ.out]
    rw [Bool.eq_iff_iff]
    simp only [beq_iff_eq, decide_eq_true_eq, val_zero]
    rw [show ((((a.x0 ||| a.x1 ||| a.x2 ||| a.x3 : Nat) : Int) = 0) ↔ (a.x0 ||| a.x1 ||| a.x2 ||| a.x3) = 0) by omega, or_zero, or_zero, or_zero]
    omega
  obtain ⟨z, HZ⟩ : ∃ z, Hid ((a.x0 ||| a.x1 ||| a.x2 ||| a.x3) = z) := ⟨_, rfl⟩
  obtain ⟨z2, HZ2⟩ : ∃ z, Hid ((a.x0 ||| a.x1 ||| a.x2) = z) := ⟨_, rfl⟩
  obtain ⟨z1, HZ1⟩ : ∃ z, Hid ((a.x0 ||| a.x1) = z) := ⟨_, rfl⟩
  rw [HZ.out] at o3 t1
  rw [HZ2.out] at o2 o3
  rw [HZ1.out] at o1 o2
  go_enter Safg.func205, Safg.ntmps205
  go_upto_region 1 with (refine wpList_box_agg rfl 65 (.tmp 0) rfl a.cells rfl ?_; intro w1 g2 hg2 k2 c2)
  have A0 := k2.get (j := 0) (v := .int .u64 (a.x0 : Int)) rfl
  have A1 := k2.get (j := 1) (v := .int .u64 (a.x1 : Int)) rfl
  have A2 := k2.get (j := 2) (v := .int .u64 (a.x2 : Int)) rfl
  have A3 := k2.get (j := 3) (v := .int .u64 (a.x3 : Int)) rfl
  go_wp2
  go_ret
  exact ⟨rfl, c2⟩

set_option maxRecDepth 100000 in
set_option maxHeartbeats 1000000 in
theorem u64of_any (w : World) (a : Wd4) (ha : a.Ok) :
    Calls Safg.prog 235 #[a.v] w fun e w' => ((a.x1 = 0 ∧ a.x2 = 0 ∧ a.x3 = 0 ∧ e = .returned (.tuple #[.int .u64 (a.x0 : Int), .bool true])) ∨ (¬ (a.x1 = 0 ∧ a.x2 = 0 ∧ a.x3 = 0) ∧ e = .returned (.tuple #[.int .u64 0, .bool false]))) ∧ Below w.heap.size w w' := by
  have h0 := ha.h0; have h1 := ha.h1; have h2 := ha.h2; have h3 := ha.h3
  have o2 := u64_or_nat a.x1 a.x2 h1 h2
  have o3 := u64_or_nat (a.x1 ||| a.x2) a.x3 (or_lt h1 h2) h3
  obtain ⟨z, HZ⟩ : ∃ z, Hid ((a.x1 ||| a.x2 ||| a.x3) = z) := ⟨_, rfl⟩
  obtain ⟨z2, HZ2⟩ : ∃ z, Hid ((a.x1 ||| a.x2) = z) := ⟨_, rfl⟩
  rw [HZ.out] at o3
  rw [HZ2.out] at o2 o3
  have key : z = 0 ↔ (a.x1 = 0 ∧ a.x2 = 0 ∧ a.x3 = 0) := by
    rw [← HZ.out, or_zero, or_zero]
    omega
  have KEY : Hid (z = 0 ↔ (a.x1 = 0 ∧ a.x2 = 0 ∧ a.x3 = 0)) := key
  clear key
  go_enter Safg.func235, Safg.ntmps235
  go_upto_region 1 with (refine wpList_box_agg rfl 65 (.tmp 0) rfl a.cells rfl ?_; intro w1 g2 hg2 k2 c2)
  have A0 := k2.get (j := 0) (v := .int .u64 (a.x0 : Int)) rfl
  have A1 := k2.get (j := 1) (v := .int .u64 (a.x1 : Int)) rfl
  have A2 := k2.get (j := 2) (v := .int .u64 (a.x2 : Int)) rfl
  have A3 := k2.get (j := 3) (v := .int .u64 (a.x3 : Int)) rfl
  by_cases hz : z = 0
  · have t1 : ((z : Int) != 0) = false := by rw [hz]; rfl
    have HZ0 : Hid (z = 0) := hz
    clear hz
    go_wp2
    go_ret2
    have := KEY.out.1 HZ0.out
    exact ⟨.inl ⟨this.1, this.2.1, this.2.2, rfl⟩, c2⟩
  · have t1 : ((z : Int) != 0) = true := by simpa using hz
    have HZ0 : Hid (¬ z = 0) := hz
    clear hz
    go_wp2
    go_ret2
    exact ⟨.inr ⟨fun h => HZ0.out (KEY.out.2 h), rfl⟩, c2⟩


set_option maxRecDepth 100000 in
set_option maxHeartbeats 1000000 in
theorem and_any (w : World) (a b : Wd4) (ha : a.Ok) (hb : b.Ok) :
    Calls Safg.prog 219 #[a.v, b.v] w fun e w' => e = .returned (Wd4.v ⟨a.x0 &&& b.x0, a.x1 &&& b.x1, a.x2 &&& b.x2, a.x3 &&& b.x3⟩) ∧ Below w.heap.size w w' := by
  have o0 := u64_and_nat a.x0 b.x0 ha.h0 hb.h0
  have o1 := u64_and_nat a.x1 b.x1 ha.h1 hb.h1
  have o2 := u64_and_nat a.x2 b.x2 ha.h2 hb.h2
  have o3 := u64_and_nat a.x3 b.x3 ha.h3 hb.h3
  go_enter Safg.func219, Safg.ntmps219
  go_upto_region 1 with (first | (refine wpList_box_agg rfl 65 (.tmp 0) rfl a.cells rfl ?_; intro w1 g2 hg2 k2 c2) | (refine wpList_box_agg rfl 65 (.tmp 1) rfl b.cells rfl ?_; intro w2 g3 hg3 k3 c3) | (refine wpList_alloc_agg rfl 65 rfl _ Safg.zero65 ?_; intro w3 g4 hg4 k4 c4))
  have k2' := (k2.below c3 k2.lt).below c4 (Nat.lt_of_lt_of_le k2.lt c3.size)
  have k3' := k3.below c4 k3.lt
  have b03 : Below w.heap.size w w3 := (c2.trans (c3.mono c2.size)).trans (c4.mono (Nat.le_trans c2.size c3.size))
  have A0 := k2'.get (j := 0) (v := .int .u64 (a.x0 : Int)) rfl
  have A1 := k2'.get (j := 1) (v := .int .u64 (a.x1 : Int)) rfl
  have A2 := k2'.get (j := 2) (v := .int .u64 (a.x2 : Int)) rfl
  have A3 := k2'.get (j := 3) (v := .int .u64 (a.x3 : Int)) rfl
  have B0 := k3'.get (j := 0) (v := .int .u64 (b.x0 : Int)) rfl
  have B1 := k3'.get (j := 1) (v := .int .u64 (b.x1 : Int)) rfl
  have B2 := k3'.get (j := 2) (v := .int .u64 (b.x2 : Int)) rfl
  have B3 := k3'.get (j := 3) (v := .int .u64 (b.x3 : Int)) rfl
  have hgg : w.heap.size ≤ g4 := by have := c2.size; have := c3.size; omega
  clear c2 c3 c4 k2 k3 k2' k3'
  obtain ⟨z0, HZ0⟩ : ∃ z, Hid ((a.x0 &&& b.x0) = z) := ⟨_, rfl⟩
  obtain ⟨z1, HZ1⟩ : ∃ z, Hid ((a.x1 &&& b.x1) = z) := ⟨_, rfl⟩
  obtain ⟨z2, HZ2⟩ : ∃ z, Hid ((a.x2 &&& b.x2) = z) := ⟨_, rfl⟩
  obtain ⟨z3, HZ3⟩ : ∃ z, Hid ((a.x3 &&& b.x3) = z) := ⟨_, rfl⟩
  rw [HZ0.out] at o0
  rw [HZ1.out] at o1
  rw [HZ2.out] at o2
  rw [HZ3.out] at o3
  go_wp2_with (refine wpList_store_agg rfl 65 _ _ rfl g4 rfl _ (Wd4.cells ⟨z0, z1, z2, z3⟩) rfl k4 rfl Safg.size65 (Wd4.one _) ?_; intro w7 k7 n7)
  refine bodyPost_ret (results_cell1 Safg.results219 _ w7 g4 _ _ rfl k7 Safg.under65 rfl Safg.size65) rfl ⟨by rw [HZ0.out, HZ1.out, HZ2.out, HZ3.out]; rfl, b03.trans (n7.below hgg)⟩


set_option maxRecDepth 100000 in
set_option maxHeartbeats 1000000 in
theorem or_any (w : World) (a b : Wd4) (ha : a.Ok) (hb : b.Ok) :
    Calls Safg.prog 220 #[a.v, b.v] w fun e w' => e = .returned (Wd4.v ⟨a.x0 ||| b.x0, a.x1 ||| b.x1, a.x2 ||| b.x2, a.x3 ||| b.x3⟩) ∧ Below w.heap.size w w' := by
  have o0 := u64_or_nat a.x0 b.x0 ha.h0 hb.h0
  have o1 := u64_or_nat a.x1 b.x1 ha.h1 hb.h1
  have o2 := u64_or_nat a.x2 b.x2 ha.h2 hb.h2
  have o3 := u64_or_nat a.x3 b.x3 ha.h3 hb.h3
  go_enter Safg.func220, Safg.ntmps220
  go_upto_region 1 with (first | (refine wpList_box_agg rfl 65 (.tmp 0) rfl a.cells rfl ?_; intro w1 g2 hg2 k2 c2) | (refine wpList_box_agg rfl 65 (.tmp 1) rfl b.cells rfl ?_; intro w2 g3 hg3 k3 c3) | (refine wpList_alloc_agg rfl 65 rfl _ Safg.zero65 ?_; intro w3 g4 hg4 k4 c4))
  have k2' := (k2.below c3 k2.lt).below c4 (Nat.lt_of_lt_of_le k2.lt c3.size)
  have k3' := k3.below c4 k3.lt
  have b03 : Below w.heap.size w w3 := (c2.trans (c3.mono c2.size)).trans (c4.mono (Nat.le_trans c2.size c3.size))
  have A0 := k2'.get (j := 0) (v := .int .u64 (a.x0 : Int)) rfl
  have A1 := k2'.get (j := 1) (v := .int .u64 (a.x1 : Int)) rfl
  have A2 := k2'.get (j := 2) (v := .int .u64 (a.x2 : Int)) rfl
  have A3 := k2'.get (j := 3) (v := .int .u64 (a.x3 : Int)) rfl
  have B0 := k3'.get (j := 0) (v := .int .u64 (b.x0 : Int)) rfl
  have B1 := k3'.get (j := 1) (v := .int .u64 (b.x1 : Int)) rfl
  have B2 := k3'.get (j := 2) (v := .int .u64 (b.x2 : Int)) rfl
  have B3 := k3'.get (j := 3) (v := .int .u64 (b.x3 : Int)) rfl
  have hgg : w.heap.size ≤ g4 := by have := c2.size; have := c3.size; omega
  clear c2 c3 c4 k2 k3 k2' k3'
  obtain ⟨z0, HZ0⟩ : ∃ z, Hid ((a.x0 ||| b.x0) = z) := ⟨_, rfl⟩
  obtain ⟨z1, HZ1⟩ : ∃ z, Hid ((a.x1 ||| b.x1) = z) := ⟨_, rfl⟩
  obtain ⟨z2, HZ2⟩ : ∃ z, Hid ((a.x2 ||| b.x2) = z) := ⟨_, rfl⟩
  obtain ⟨z3, HZ3⟩ : ∃ z, Hid ((a.x3 ||| b.x3) = z) := ⟨_, rfl⟩
  rw [HZ0.out] at o0
  rw [HZ1.out] at o1
  rw [HZ2.out] at o2
  rw [HZ3.out] at o3
  go_wp2_with (refine wpList_store_agg rfl 65 _ _ rfl g4 rfl _ (Wd4.cells ⟨z0, z1, z2, z3⟩) rfl k4 rfl Safg.size65 (Wd4.one _) ?_; intro w7 k7 n7)
  refine bodyPost_ret (results_cell1 Safg.results220 _ w7 g4 _ _ rfl k7 Safg.under65 rfl Safg.size65) rfl ⟨by rw [HZ0.out, HZ1.out, HZ2.out, HZ3.out]; rfl, b03.trans (n7.below hgg)⟩


set_option maxRecDepth 100000 in
set_option maxHeartbeats 1000000 in
theorem xor_any (w : World) (a b : Wd4) (ha : a.Ok) (hb : b.Ok) :
    Calls Safg.prog 221 #[a.v, b.v] w fun e w' => e = .returned (Wd4.v ⟨a.x0 ^^^ b.x0, a.x1 ^^^ b.x1, a.x2 ^^^ b.x2, a.x3 ^^^ b.x3⟩) ∧ Below w.heap.size w w' := by
  have o0 := u64_xor_nat a.x0 b.x0 ha.h0 hb.h0
  have o1 := u64_xor_nat a.x1 b.x1 ha.h1 hb.h1
  have o2 := u64_xor_nat a.x2 b.x2 ha.h2 hb.h2
  have o3 := u64_xor_nat a.x3 b.x3 ha.h3 hb.h3
  go_enter Safg.func221, Safg.ntmps221
  go_upto_region 1 with (first | (refine wpList_box_agg rfl 65 (.tmp 0) rfl a.cells rfl ?_; intro w1 g2 hg2 k2 c2) | (refine wpList_box_agg rfl 65 (.tmp 1) rfl b.cells rfl ?_; intro w2 g3 hg3 k3 c3) | (refine wpList_alloc_agg rfl 65 rfl _ Safg.zero65 ?_; intro w3 g4 hg4 k4 c4))
  have k2' := (k2.below c3 k2.lt).below c4 (Nat.lt_of_lt_of_le k2.lt c3.size)
  have k3' := k3.below c4 k3.lt
  have b03 : Below w.heap.size w w3 := (c2.trans (c3.mono c2.size)).trans (c4.mono (Nat.le_trans c2.size c3.size))
  have A0 := k2'.get (j := 0) (v := .int .u64 (a.x0 : Int)) rfl
  have A1 := k2'.get (j := 1) (v := .int .u64 (a.x1 : Int)) rfl
  have A2 := k2'.get (j := 2) (v := .int .u64 (a.x2 : Int)) rfl
  have A3 := k2'.get (j := 3) (v := .int .u64 (a.x3 : Int)) rfl
  have B0 := k3'.get (j := 0) (v := .int .u64 (b.x0 : Int)) rfl
  have B1 := k3'.get (j := 1) (v := .int .u64 (b.x1 : Int)) rfl
  have B2 := k3'.get (j := 2) (v := .int .u64 (b.x2 : Int)) rfl
  have B3 := k3'.get (j := 3) (v := .int .u64 (b.x3 : Int)) rfl
  have hgg : w.heap.size ≤ g4 := by have := c2.size; have := c3.size; omega
  clear c2 c3 c4 k2 k3 k2' k3'
  obtain ⟨z0, HZ0⟩ : ∃ z, Hid ((a.x0 ^^^ b.x0) = z) := ⟨_, rfl⟩
  obtain ⟨z1, HZ1⟩ : ∃ z, Hid ((a.x1 ^^^ b.x1) = z) := ⟨_, rfl⟩
  obtain ⟨z2, HZ2⟩ : ∃ z, Hid ((a.x2 ^^^ b.x2) = z) := ⟨_, rfl⟩
  obtain ⟨z3, HZ3⟩ : ∃ z, Hid ((a.x3 ^^^ b.x3) = z) := ⟨_, rfl⟩
  rw [HZ0.out] at o0
  rw [HZ1.out] at o1
  rw [HZ2.out] at o2
  rw [HZ3.out] at o3
  go_wp2_with (refine wpList_store_agg rfl 65 _ _ rfl g4 rfl _ (Wd4.cells ⟨z0, z1, z2, z3⟩) rfl k4 rfl Safg.size65 (Wd4.one _) ?_; intro w7 k7 n7)
  refine bodyPost_ret (results_cell1 Safg.results221 _ w7 g4 _ _ rfl k7 Safg.under65 rfl Safg.size65) rfl ⟨by rw [HZ0.out, HZ1.out, HZ2.out, HZ3.out]; rfl, b03.trans (n7.below hgg)⟩

end Go.Proofs.YgcsafGreat
