/-
  'u256.Byte' (223).
-/
import Derived.Test.YgcsafGreatWord4
import Derived.Test.YgcsafGreatYp4
namespace Go.Proofs.YgcsafGreat
open Go.RowKit
set_option linter.unusedVariables false
set_option linter.unusedSimpArgs false

/-- A limb by division. -/
theorem limb_div {a : Wd4} (ha : a.Ok) {k : Nat} (hk : k < 4) : a.val / b64 ^ k % b64 = a.l.getD k 0 := by
  have hp := b64_pos
  have h0 : a.x0 < b64 := ha.h0
  have h1 : a.x1 < b64 := ha.h1
  have h2 : a.x2 < b64 := ha.h2
  have h3 : a.x3 < b64 := ha.h3
  have e1 : a.val / b64 = a.x1 + b64 * (a.x2 + b64 * a.x3) := by
    unfold Wd4.val; rw [Nat.add_mul_div_left _ _ hp, Nat.div_eq_of_lt h0, Nat.zero_add]
  have e2 : (a.x1 + b64 * (a.x2 + b64 * a.x3)) / b64 = a.x2 + b64 * a.x3 := by
    rw [Nat.add_mul_div_left _ _ hp, Nat.div_eq_of_lt h1, Nat.zero_add]
  have e3 : (a.x2 + b64 * a.x3) / b64 = a.x3 := by
    rw [Nat.add_mul_div_left _ _ hp, Nat.div_eq_of_lt h2, Nat.zero_add]
  rcases (show k = 0 ∨ k = 1 ∨ k = 2 ∨ k = 3 by omega) with rfl | rfl | rfl | rfl
  · rw [Nat.pow_zero, Nat.div_one]; unfold Wd4.val; rw [Nat.add_mul_mod_self_left, Nat.mod_eq_of_lt h0]; rfl
  · rw [Nat.pow_one, e1, Nat.add_mul_mod_self_left, Nat.mod_eq_of_lt h1]; rfl
  · rw [Nat.pow_succ, Nat.pow_one, ← Nat.div_div_eq_div_mul, e1, e2, Nat.add_mul_mod_self_left, Nat.mod_eq_of_lt h2]; rfl
  · rw [Nat.pow_succ, Nat.pow_succ, Nat.pow_one, ← Nat.div_div_eq_div_mul, ← Nat.div_div_eq_div_mul, e1, e2, e3, Nat.mod_eq_of_lt h3]; rfl

theorem byte_limb {b : Wd4} (hb : b.Ok) {i k s : Nat} (hi : i < 32) (hk : k = 3 - i / 8) (hs : s = 56 - 8 * (i % 8)) : byteW i b.val = b.l.getD k 0 / 2 ^ s % 256 := by
  unfold byteW
  rw [if_neg (by omega), ← limb_div hb (k := k) (by omega)]
  have e1 : 256 ^ (31 - i) = b64 ^ k * 2 ^ s := by
    rw [b64_pow, ← Nat.pow_mul, ← Nat.pow_add, show (256 : Nat) = 2 ^ 8 from rfl, ← Nat.pow_mul]
    congr 1
    omega
  rw [e1, ← Nat.div_div_eq_div_mul]
  generalize b.val / b64 ^ k = y
  have e2 : b64 = 2 ^ s * (256 * 2 ^ (56 - s)) := by
    rw [b64_pow, show (256 : Nat) = 2 ^ 8 from rfl, ← Nat.pow_add, ← Nat.pow_add]
    congr 1
    omega
  rw [e2, Nat.mod_mul_right_div_self, Nat.mod_mul_right_mod]

theorem and255 (x s : Nat) (hx : x < 18446744073709551616) : bits .and .u64 ((x : Int) / 2 ^ s) 255 = ((x / 2 ^ s % 256 : Nat) : Int) := by
  have h1 : x / 2 ^ s ≤ x := Nat.div_le_self _ _
  have e : (x : Int) / 2 ^ s = ((x / 2 ^ s : Nat) : Int) := by simp
  rw [e, show (255 : Int) = ((255 : Nat) : Int) from rfl, u64_and_nat _ _ (by omega) (by omega)]
  rw [show (255 : Nat) = 2 ^ 8 - 1 from rfl, Nat.and_two_pow_sub_one_eq_mod]

set_option maxRecDepth 100000 in
set_option maxHeartbeats 2000000 in
theorem uByte_any (w : World) (a b : Wd4) (ha : a.Ok) (hb : b.Ok) :
    Calls Safg.prog 223 #[a.v, b.v] w (WdRes w (byteW a.val b.val)) := by
  have z0 : Wd4.zero.Ok := ⟨by decide, by decide, by decide, by decide⟩
  by_cases h32 : a.val < 32
  · have HB := fun w => below_small w a ha 32 (by omega) h32
    obtain ⟨k, hk⟩ : ∃ k, 3 - a.val / 8 = k := ⟨_, rfl⟩
    obtain ⟨s, hs⟩ : ∃ s, 56 - 8 * (a.val % 8) = s := ⟨_, rfl⟩
    obtain ⟨d, hd⟩ : ∃ d, a.val / 8 = d := ⟨_, rfl⟩
    obtain ⟨f, hf⟩ : ∃ d, a.val % 8 = d := ⟨_, rfl⟩
    have q1 : (a.val : Int) / 8 = (d : Int) := by omega
    have q2 : (3 : Int) - (d : Int) = (k : Int) := by omega
    have q3 : (a.val : Int) % 8 = (f : Int) := by omega
    have q4 : (56 : Int) - 8 * (f : Int) = (s : Int) := by omega
    have hk4 : k < 4 := by omega
    have hs64 : s ≤ 56 := by omega
    have hf8 : f < 8 := by omega
    have hd4 : d < 4 := by omega
    have HV : Hid (byteW a.val b.val = b.l.getD k 0 / 2 ^ s % 256) := byte_limb hb h32 hk.symm hs.symm
    obtain ⟨z, HZ⟩ : ∃ z, Hid (byteW a.val b.val = z) := ⟨_, rfl⟩
    rw [HZ.out] at HV ⊢
    have hx := (Wd4.lim hb).getD k
    have HA := and255 (b.l.getD k 0) s hx
    rw [← HV.out] at HA
    have hz : z < 256 := by rw [HV.out]; exact Nat.mod_lt _ (by omega)
    generalize a.val = i at *
    clear hk hs hd hf HZ HV
    go_enter Safg.func223, Safg.ntmps223
    go_upto_region 4 with (first | (refine wpList_box_agg rfl 65 (.tmp 0) rfl a.cells rfl ?_; intro w1 g2 hg2 k2 c2) | (refine wpList_box_agg rfl 65 (.tmp 1) rfl b.cells rfl ?_; intro w2 g3 hg3 k3 c3; have k2 := k2.below c3 k2.lt) | (refine wpList_alloc_agg rfl 65 rfl _ Safg.zero65 ?_; intro w3 g4 hg4 k4 c4; have l2 := k2.lt; have l3 := k3.lt; have k2 := k2.below c4 k2.lt; have k3 := k3.below c4 k3.lt) | (refine wpList_load_mid rfl 65 (.tmp 2) rfl g2 0 rfl _ _ k2.cell Safg.under65 rfl Safg.size65 ?_) | (go_at_call 333; refine (HB _).mono ?_; rintro e w5 ⟨rfl, b5⟩))
    have s1 := c2.size; have s2 := c3.size; have s3 := c4.size; have s5 := b5.size
    have r3 : Blk w5 g3 b.cells := k3.below b5 k3.lt
    have r4 : Blk w5 g4 _ := k4.below b5 k4.lt
    have bb : Below w.heap.size w w5 := c2.trans ((c3.mono s1).trans ((c4.mono (by omega)).trans (b5.mono (by omega))))
    have C3 := (show OwnU w5 g3 b.l from Blk.ownU r3).cell k hk4
    generalize b.l.getD k 0 = x at *
    go_wp2_with (refine wpList_store_agg rfl 65 _ _ rfl g4 rfl _ (Wd4.cells ⟨z, 0, 0, 0⟩) rfl r4 rfl Safg.size65 (Wd4.one _) ?_; intro w7 k7 n7)
    refine bodyPost_ret (results_cell1 Safg.results223 _ w7 g4 _ _ rfl k7 Safg.under65 rfl Safg.size65) rfl ⟨⟨z, 0, 0, 0⟩, ⟨by show z < _; omega, by show 0 < _; omega, by show 0 < _; omega, by show 0 < _; omega⟩, by simp [Wd4.val], rfl, bb.trans (n7.below (by omega))⟩
  · have HB := fun w => below_big w a ha 32 (by omega) (by omega)
    have e : byteW a.val b.val = 0 := by unfold byteW; rw [if_pos (by omega)]
    rw [e]
    clear h32 e
    go_enter Safg.func223, Safg.ntmps223
    go_upto_region 3 with (first | (refine wpList_box_agg rfl 65 (.tmp 0) rfl a.cells rfl ?_; intro w1 g2 hg2 k2 c2) | (refine wpList_box_agg rfl 65 (.tmp 1) rfl b.cells rfl ?_; intro w2 g3 hg3 k3 c3; have k2 := k2.below c3 k2.lt) | (refine wpList_alloc_agg rfl 65 rfl _ Safg.zero65 ?_; intro w3 g4 hg4 k4 c4; have l2 := k2.lt; have l3 := k3.lt; have k2 := k2.below c4 k2.lt; have k3 := k3.below c4 k3.lt) | (refine wpList_load_mid rfl 65 (.tmp 2) rfl g2 0 rfl _ _ k2.cell Safg.under65 rfl Safg.size65 ?_) | (go_at_call 333; refine (HB _).mono ?_; rintro e w5 ⟨x, rfl, b5⟩))
    have s1 := c2.size; have s2 := c3.size; have s3 := c4.size; have s5 := b5.size
    have r4 : Blk w5 g4 _ := k4.below b5 k4.lt
    have bb : Below w.heap.size w w5 := c2.trans ((c3.mono s1).trans ((c4.mono (by omega)).trans (b5.mono (by omega))))
    go_wp2_with (refine wpList_store_agg rfl 65 _ _ rfl g4 rfl _ Wd4.zero.cells rfl r4 rfl Safg.size65 (Wd4.one _) ?_; intro w7 k7 n7)
    refine bodyPost_ret (results_cell1 Safg.results223 _ w7 g4 _ _ rfl k7 Safg.under65 rfl Safg.size65) rfl ⟨Wd4.zero, z0, rfl, rfl, bb.trans (n7.below (by omega))⟩
end Go.Proofs.YgcsafGreat
