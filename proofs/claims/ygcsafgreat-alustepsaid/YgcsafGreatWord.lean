/-
  'u256.Word': four limbs; AddOver (163), SubUnder (172), Add (166), Sub (59), Lt (164), Gt (165).
-/
import Derived.Test.YgcsafGreatDivN
import Derived.Test.YgcsafGreatAgg
import Derived.Laws.ResultCell
namespace Go.Proofs.YgcsafGreat
open Go.RowKit
set_option linter.unusedVariables false
set_option linter.unusedSimpArgs false

/-- 2^64, by a name that no tactic opens. -/
def b64 : Nat := 18446744073709551616
theorem b64_eq : b64 = 18446744073709551616 := rfl

/-- A word: four limbs, each below 2^64. -/
structure Wd4 where
  x0 : Nat
  x1 : Nat
  x2 : Nat
  x3 : Nat

namespace Wd4
def val (w : Wd4) : Nat := w.x0 + b64 * (w.x1 + b64 * (w.x2 + b64 * w.x3))
structure Ok (w : Wd4) : Prop where
  h0 : w.x0 < 18446744073709551616
  h1 : w.x1 < 18446744073709551616
  h2 : w.x2 < 18446744073709551616
  h3 : w.x3 < 18446744073709551616
def cells (w : Wd4) : List Value := [.int .u64 (w.x0 : Int), .int .u64 (w.x1 : Int), .int .u64 (w.x2 : Int), .int .u64 (w.x3 : Int)]
def v (w : Wd4) : Value := .agg w.cells.toArray
def zero : Wd4 := ⟨0, 0, 0, 0⟩
theorem one (w : Wd4) : ∀ u ∈ w.cells, u.oneCell' = true := by
  intro u hu
  simp only [cells, List.mem_cons, List.not_mem_nil, or_false] at hu
  rcases hu with rfl | rfl | rfl | rfl <;> rfl
end Wd4

/-- 2^256. -/
def b256 : Nat := b64 * (b64 * (b64 * b64))

theorem Wd4.lt {w : Wd4} (h : w.Ok) : w.val < b256 := by
  have h0 := h.h0; have h1 := h.h1; have h2 := h.h2; have h3 := h.h3
  rw [← b64_eq] at h0 h1 h2 h3
  unfold Wd4.val b256
  have e3 : b64 * (w.x3 + 1) ≤ b64 * b64 := Nat.mul_le_mul_left _ h3
  have s2 : w.x2 + b64 * w.x3 + 1 ≤ b64 * b64 := by rw [Nat.mul_add] at e3; omega
  have e2 : b64 * (w.x2 + b64 * w.x3 + 1) ≤ b64 * (b64 * b64) := Nat.mul_le_mul_left _ s2
  have s1 : w.x1 + b64 * (w.x2 + b64 * w.x3) + 1 ≤ b64 * (b64 * b64) := by rw [Nat.mul_add b64 (w.x2 + b64 * w.x3)] at e2; omega
  have e1 : b64 * (w.x1 + b64 * (w.x2 + b64 * w.x3) + 1) ≤ b64 * (b64 * (b64 * b64)) := Nat.mul_le_mul_left _ s1
  rw [Nat.mul_add b64 (w.x1 + b64 * (w.x2 + b64 * w.x3))] at e1
  omega

/-- Limb by limb with a carry. -/
theorem add_limbs {a b s : Wd4} {k0 k1 k2 k3 : Nat} (e0 : s.x0 + b64 * k0 = a.x0 + b.x0) (e1 : s.x1 + b64 * k1 = a.x1 + b.x1 + k0) (e2 : s.x2 + b64 * k2 = a.x2 + b.x2 + k1) (e3 : s.x3 + b64 * k3 = a.x3 + b.x3 + k2) :
    s.val + b256 * k3 = a.val + b.val := by
  unfold Wd4.val b256
  have f3 : b64 * (s.x3 + b64 * k3) = b64 * (a.x3 + b.x3 + k2) := by rw [e3]
  have f2 : b64 * (s.x2 + b64 * (s.x3 + b64 * k3)) = b64 * (a.x2 + b64 * a.x3 + (b.x2 + b64 * b.x3) + k1) := by
    congr 1
    rw [f3, Nat.mul_add, Nat.mul_add]
    omega
  have f1 : b64 * (s.x1 + b64 * (s.x2 + b64 * (s.x3 + b64 * k3))) = b64 * (a.x1 + b64 * (a.x2 + b64 * a.x3) + (b.x1 + b64 * (b.x2 + b64 * b.x3)) + k0) := by
    congr 1
    rw [f2, Nat.mul_add, Nat.mul_add]
    omega
  have g : s.x0 + b64 * (s.x1 + b64 * (s.x2 + b64 * s.x3)) + b64 * (b64 * (b64 * b64)) * k3 = s.x0 + b64 * (s.x1 + b64 * (s.x2 + b64 * (s.x3 + b64 * k3))) := by
    simp only [Nat.mul_add, Nat.mul_assoc]
    omega
  rw [g, f1, Nat.mul_add, Nat.mul_add]
  omega

/-- 'Add64' told by its sum. -/
theorem Add64_rel (w : World) (x y c : Nat) (hx : x < 18446744073709551616) (hy : y < 18446744073709551616) (hc : c ≤ 1) :
    Calls Safg.prog 170 #[.int .u64 (x : Int), .int .u64 (y : Int), .int .u64 (c : Int)] w fun e w' => ∃ s k : Nat, e = .returned (.tuple #[.int .u64 (s : Int), .int .u64 (k : Int)]) ∧ s < 18446744073709551616 ∧ k ≤ 1 ∧ Hid (s + b64 * k = x + y + c) ∧ w' = w := by
  refine (Add64_any w x y c hc).mono ?_
  rintro e w1 ⟨rfl, rfl⟩
  refine ⟨_, _, rfl, by omega, by omega, ?_, rfl⟩
  show _ = _
  rw [b64_eq]
  omega
theorem Add64_rel0 (w : World) (x y : Nat) (hx : x < 18446744073709551616) (hy : y < 18446744073709551616) :
    Calls Safg.prog 170 #[.int .u64 (x : Int), .int .u64 (y : Int), .int .u64 0] w fun e w' => ∃ s k : Nat, e = .returned (.tuple #[.int .u64 (s : Int), .int .u64 (k : Int)]) ∧ s < 18446744073709551616 ∧ k ≤ 1 ∧ Hid (s + b64 * k = x + y) ∧ w' = w := Add64_rel w x y 0 hx hy (by omega)
theorem Sub64_rel (w : World) (x y c : Nat) (hx : x < 18446744073709551616) (hy : y < 18446744073709551616) (hc : c ≤ 1) :
    Calls Safg.prog 308 #[.int .u64 (x : Int), .int .u64 (y : Int), .int .u64 (c : Int)] w fun e w' => ∃ s k : Nat, e = .returned (.tuple #[.int .u64 (s : Int), .int .u64 (k : Int)]) ∧ s < 18446744073709551616 ∧ k ≤ 1 ∧ Hid (x + b64 * k = s + y + c) ∧ w' = w := by
  refine (Sub64_any w x y c hc).mono ?_
  rintro e w1 ⟨rfl, rfl⟩
  refine ⟨_, _, rfl, by omega, by split <;> omega, ?_, rfl⟩
  show _ = _
  rw [b64_eq]
  split <;> omega
theorem Sub64_rel0 (w : World) (x y : Nat) (hx : x < 18446744073709551616) (hy : y < 18446744073709551616) :
    Calls Safg.prog 308 #[.int .u64 (x : Int), .int .u64 (y : Int), .int .u64 0] w fun e w' => ∃ s k : Nat, e = .returned (.tuple #[.int .u64 (s : Int), .int .u64 (k : Int)]) ∧ s < 18446744073709551616 ∧ k ≤ 1 ∧ Hid (x + b64 * k = s + y) ∧ w' = w := Sub64_rel w x y 0 hx hy (by omega)

theorem Safg.zero65 : (Safg.prog.info? 65).map (·.zero) = some (some (.agg Wd4.zero.cells.toArray)) := by kernel_rfl
theorem Safg.size65 : (Safg.prog.info? 65).map (·.size) = some 4 := by kernel_rfl
theorem Safg.under65 : Safg.prog.underlying 65 = some (.array 4 31) := by kernel_rfl

theorem sub_limbs {a b s : Wd4} {k0 k1 k2 k3 : Nat} (e0 : a.x0 + b64 * k0 = s.x0 + b.x0) (e1 : a.x1 + b64 * k1 = s.x1 + b.x1 + k0) (e2 : a.x2 + b64 * k2 = s.x2 + b.x2 + k1) (e3 : a.x3 + b64 * k3 = s.x3 + b.x3 + k2) :
    a.val + b256 * k3 = s.val + b.val := add_limbs (s := a) (a := s) e0 e1 e2 e3

set_option maxHeartbeats 1000000 in
theorem addOver_any (w : World) (a b : Wd4) (ha : a.Ok) (hb : b.Ok) :
    Calls Safg.prog 163 #[a.v, b.v] w fun e w' => ∃ (s : Wd4) (k : Nat), s.Ok ∧ k ≤ 1 ∧ s.val + b256 * k = a.val + b.val ∧ e = .returned (.tuple #[s.v, .bool (decide (k ≠ 0))]) ∧ Below w.heap.size w w' := by
  have a0 := ha.h0; have a1 := ha.h1; have a2 := ha.h2; have a3 := ha.h3
  have b0 := hb.h0; have b1 := hb.h1; have b2 := hb.h2; have b3 := hb.h3
  obtain ⟨p0, p1, p2, p3⟩ := a
  obtain ⟨q0, q1, q2, q3⟩ := b
  simp only at a0 a1 a2 a3 b0 b1 b2 b3
  go_enter Safg.func163, Safg.ntmps163
  go_upto_region 1 with (first | (refine wpList_box_agg rfl 65 (.tmp 0) rfl (Wd4.cells ⟨p0, p1, p2, p3⟩) rfl ?_; intro w1 g2 hg2 k2 c2) | (refine wpList_box_agg rfl 65 (.tmp 1) rfl (Wd4.cells ⟨q0, q1, q2, q3⟩) rfl ?_; intro w2 g3 hg3 k3 c3) | (refine wpList_alloc_agg rfl 65 rfl _ Safg.zero65 ?_; intro w3 g4 hg4 k4 c4))
  have BB : Hid (Below w.heap.size w w3) := (c2.trans (c3.mono c2.size)).trans (c4.mono (Nat.le_trans c2.size c3.size))
  have k2' := (k2.below c3 k2.lt).below c4 (Nat.lt_of_lt_of_le k2.lt c3.size)
  have k3' := k3.below c4 k3.lt
  have A0 := k2'.get (j := 0) (v := .int .u64 (p0 : Int)) rfl
  have A1 := k2'.get (j := 1) (v := .int .u64 (p1 : Int)) rfl
  have A2 := k2'.get (j := 2) (v := .int .u64 (p2 : Int)) rfl
  have A3 := k2'.get (j := 3) (v := .int .u64 (p3 : Int)) rfl
  have B0 := k3'.get (j := 0) (v := .int .u64 (q0 : Int)) rfl
  have B1 := k3'.get (j := 1) (v := .int .u64 (q1 : Int)) rfl
  have B2 := k3'.get (j := 2) (v := .int .u64 (q2 : Int)) rfl
  have B3 := k3'.get (j := 3) (v := .int .u64 (q3 : Int)) rfl
  have hgg : w.heap.size ≤ g4 := by have := c2.size; have := c3.size; omega
  clear k2 k3 k2' k3' c2 c3 c4 ha hb
  go_wp2_with fail
  refine (Add64_rel0 _ p0 q0 a0 b0).mono ?_
  rintro e w4 ⟨s0, k0, rfl, hs0, hk0, E0, hw⟩
  subst hw
  go_wp2_with fail
  refine (Add64_rel _ p1 q1 k0 a1 b1 hk0).mono ?_
  rintro e w5 ⟨s1, k1, rfl, hs1, hk1, E1, hw⟩
  subst hw
  go_wp2_with fail
  refine (Add64_rel _ p2 q2 k1 a2 b2 hk1).mono ?_
  rintro e w6 ⟨s2, k2, rfl, hs2, hk2, E2, hw⟩
  subst hw
  go_wp2_with fail
  refine (Add64_rel _ p3 q3 k2 a3 b3 hk2).mono ?_
  rintro e w7 ⟨s3, k3, rfl, hs3, hk3, E3, hw⟩
  subst hw
  clear A0 A1 A2 A3 B0 B1 B2 B3
  obtain ⟨ov, HOV⟩ : ∃ o, Hid (decide (k3 ≠ 0) = o) := ⟨_, rfl⟩
  have t9 : ((k3 : Int) != 0) = ov := by
    rw [← HOV.out]
    rcases (show k3 = 0 ∨ k3 = 1 by omega) with h | h <;> subst h <;> rfl
  go_wp2_with (refine wpList_store_agg rfl 65 _ _ rfl g4 rfl _ (Wd4.cells ⟨s0, s1, s2, s3⟩) rfl k4 rfl Safg.size65 (Wd4.one _) ?_; intro w8 k8 n8)
  have hload := run_loadVar_mid (P := Safg.prog) w8 g4 0 65 _ _ k8.cell Safg.under65 rfl Safg.size65
  refine bodyPost_ret (v := .tuple #[Wd4.v ⟨s0, s1, s2, s3⟩, .bool ov]) ?_ rfl ⟨⟨s0, s1, s2, s3⟩, k3, ⟨hs0, hs1, hs2, hs3⟩, hk3, add_limbs E0.out E1.out E2.out E3.out, by rw [HOV.out], BB.out.trans (n8.below hgg)⟩
  rw [results_cell_tmp Safg.results163]
  simp [asAddr, hload, Wd4.v]

set_option maxHeartbeats 1000000 in
theorem subUnder_any (w : World) (a b : Wd4) (ha : a.Ok) (hb : b.Ok) :
    Calls Safg.prog 172 #[a.v, b.v] w fun e w' => ∃ (s : Wd4) (k : Nat), s.Ok ∧ k ≤ 1 ∧ a.val + b256 * k = s.val + b.val ∧ e = .returned (.tuple #[s.v, .bool (decide (k ≠ 0))]) ∧ Below w.heap.size w w' := by
  have a0 := ha.h0; have a1 := ha.h1; have a2 := ha.h2; have a3 := ha.h3
  have b0 := hb.h0; have b1 := hb.h1; have b2 := hb.h2; have b3 := hb.h3
  obtain ⟨p0, p1, p2, p3⟩ := a
  obtain ⟨q0, q1, q2, q3⟩ := b
  simp only at a0 a1 a2 a3 b0 b1 b2 b3
  go_enter Safg.func172, Safg.ntmps172
  go_upto_region 1 with (first | (refine wpList_box_agg rfl 65 (.tmp 0) rfl (Wd4.cells ⟨p0, p1, p2, p3⟩) rfl ?_; intro w1 g2 hg2 k2 c2) | (refine wpList_box_agg rfl 65 (.tmp 1) rfl (Wd4.cells ⟨q0, q1, q2, q3⟩) rfl ?_; intro w2 g3 hg3 k3 c3) | (refine wpList_alloc_agg rfl 65 rfl _ Safg.zero65 ?_; intro w3 g4 hg4 k4 c4))
  have BB : Hid (Below w.heap.size w w3) := (c2.trans (c3.mono c2.size)).trans (c4.mono (Nat.le_trans c2.size c3.size))
  have k2' := (k2.below c3 k2.lt).below c4 (Nat.lt_of_lt_of_le k2.lt c3.size)
  have k3' := k3.below c4 k3.lt
  have A0 := k2'.get (j := 0) (v := .int .u64 (p0 : Int)) rfl
  have A1 := k2'.get (j := 1) (v := .int .u64 (p1 : Int)) rfl
  have A2 := k2'.get (j := 2) (v := .int .u64 (p2 : Int)) rfl
  have A3 := k2'.get (j := 3) (v := .int .u64 (p3 : Int)) rfl
  have B0 := k3'.get (j := 0) (v := .int .u64 (q0 : Int)) rfl
  have B1 := k3'.get (j := 1) (v := .int .u64 (q1 : Int)) rfl
  have B2 := k3'.get (j := 2) (v := .int .u64 (q2 : Int)) rfl
  have B3 := k3'.get (j := 3) (v := .int .u64 (q3 : Int)) rfl
  have hgg : w.heap.size ≤ g4 := by have := c2.size; have := c3.size; omega
  clear k2 k3 k2' k3' c2 c3 c4 ha hb
  go_wp2_with fail
  refine (Sub64_rel0 _ p0 q0 a0 b0).mono ?_
  rintro e w4 ⟨s0, k0, rfl, hs0, hk0, E0, hw⟩
  subst hw
  go_wp2_with fail
  refine (Sub64_rel _ p1 q1 k0 a1 b1 hk0).mono ?_
  rintro e w5 ⟨s1, k1, rfl, hs1, hk1, E1, hw⟩
  subst hw
  go_wp2_with fail
  refine (Sub64_rel _ p2 q2 k1 a2 b2 hk1).mono ?_
  rintro e w6 ⟨s2, k2, rfl, hs2, hk2, E2, hw⟩
  subst hw
  go_wp2_with fail
  refine (Sub64_rel _ p3 q3 k2 a3 b3 hk2).mono ?_
  rintro e w7 ⟨s3, k3, rfl, hs3, hk3, E3, hw⟩
  subst hw
  clear A0 A1 A2 A3 B0 B1 B2 B3
  obtain ⟨ov, HOV⟩ : ∃ o, Hid (decide (k3 ≠ 0) = o) := ⟨_, rfl⟩
  have t9 : ((k3 : Int) != 0) = ov := by
    rw [← HOV.out]
    rcases (show k3 = 0 ∨ k3 = 1 by omega) with h | h <;> subst h <;> rfl
  go_wp2_with (refine wpList_store_agg rfl 65 _ _ rfl g4 rfl _ (Wd4.cells ⟨s0, s1, s2, s3⟩) rfl k4 rfl Safg.size65 (Wd4.one _) ?_; intro w8 k8 n8)
  have hload := run_loadVar_mid (P := Safg.prog) w8 g4 0 65 _ _ k8.cell Safg.under65 rfl Safg.size65
  refine bodyPost_ret (v := .tuple #[Wd4.v ⟨s0, s1, s2, s3⟩, .bool ov]) ?_ rfl ⟨⟨s0, s1, s2, s3⟩, k3, ⟨hs0, hs1, hs2, hs3⟩, hk3, sub_limbs E0.out E1.out E2.out E3.out, by rw [HOV.out], BB.out.trans (n8.below hgg)⟩
  rw [results_cell_tmp Safg.results172]
  simp [asAddr, hload, Wd4.v]

end Go.Proofs.YgcsafGreat
