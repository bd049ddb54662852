/-
  'u256.Mul' (56).
-/
import Derived.Test.YgcsafGreatWord3
namespace Go.Proofs.YgcsafGreat
open Go.RowKit
set_option linter.unusedVariables false
set_option linter.unusedSimpArgs false

theorem Mul64_rel (w : World) (x y : Nat) (hx : x < 18446744073709551616) (hy : y < 18446744073709551616) :
    Calls Safg.prog 169 #[.int .u64 (x : Int), .int .u64 (y : Int)] w fun e w' => ∃ h l : Nat, e = .returned (.tuple #[.int .u64 (h : Int), .int .u64 (l : Int)]) ∧ h < 18446744073709551615 ∧ l < 18446744073709551616 ∧ Hid (x * y = l + b64 * h) ∧ w' = w := by
  refine (Mul64_any w x y hx hy).mono ?_
  rintro e w1 ⟨rfl, rfl⟩
  have hp : x * y ≤ 18446744073709551615 * 18446744073709551615 := Nat.mul_le_mul (by omega) (by omega)
  refine ⟨_, _, rfl, ?_, by omega, ?_, rfl⟩
  · rw [Nat.div_lt_iff_lt_mul (by omega)]; omega
  · show _ = _
    rw [b64_eq]
    have := Nat.div_add_mod (x * y) 18446744073709551616
    omega

theorem wrap_to (N : Nat) (e : Int) (he : e % 18446744073709551616 = (N : Int) % 18446744073709551616) : ∃ s m : Nat, IntKind.u64.wrap e = (s : Int) ∧ s < 18446744073709551616 ∧ Hid (s + b64 * m = N) := by
  refine ⟨N % 18446744073709551616, N / 18446744073709551616, ?_, by omega, ?_⟩
  · rw [IntKind.wrap_u64, he]; omega
  · show _ = _
    rw [b64_eq]
    have := Nat.div_add_mod N 18446744073709551616
    omega

/-- The schoolbook's rows, what passes limb 3 left out. -/
theorem mul_limbs {p0 p1 p2 p3 q0 q1 q2 q3 h00 l00 h01 l01 h02 l02 r1 c1 r2 c2 u3 m1 h10 l10 h11 l11 t1 c3 t2 c4 v3 m2 s2 c5 x3 m3 h20 l20 z2 c6 z3 m4 : Nat}
    (E00 : p0 * q0 = l00 + b64 * h00) (E01 : p0 * q1 = l01 + b64 * h01) (E02 : p0 * q2 = l02 + b64 * h02) (F1 : r1 + b64 * c1 = h00 + l01) (F2 : r2 + b64 * c2 = h01 + l02 + c1) (G1 : u3 + b64 * m1 = h02 + p0 * q3 + c2)
    (E10 : p1 * q0 = l10 + b64 * h10) (E11 : p1 * q1 = l11 + b64 * h11) (F3 : t1 + b64 * c3 = r1 + l10) (F4 : t2 + b64 * c4 = r2 + l11 + c3) (G2 : v3 + b64 * m2 = u3 + (h11 + p1 * q2 + c4)) (F5 : s2 + b64 * c5 = t2 + h10) (G3 : x3 + b64 * m3 = v3 + c5)
    (E20 : p2 * q0 = l20 + b64 * h20) (F6 : z2 + b64 * c6 = s2 + l20) (G4 : z3 + b64 * m4 = x3 + (h20 + p2 * q1 + c6 + p3 * q0)) :
    ∃ M, Wd4.val ⟨l00, t1, z2, z3⟩ + b256 * M = Wd4.val ⟨p0, p1, p2, p3⟩ * Wd4.val ⟨q0, q1, q2, q3⟩ := by
  -- limb 3
  have y3 : z3 + b64 * (m1 + m2 + m3 + m4) = c2 + c4 + c5 + c6 + h02 + h11 + h20 + (p0 * q3 + p1 * q2 + p2 * q1 + p3 * q0) := by
    rw [Nat.mul_add, Nat.mul_add, Nat.mul_add]; omega
  have y2 : z2 + b64 * (z3 + b64 * (m1 + m2 + m3 + m4)) = c1 + c3 + h01 + h10 + (p0 * q2 + p1 * q1 + p2 * q0 + b64 * (p0 * q3 + p1 * q2 + p2 * q1 + p3 * q0)) := by
    rw [y3, E02, E11, E20]
    simp only [Nat.mul_add]
    omega
  have y1 : t1 + b64 * (z2 + b64 * (z3 + b64 * (m1 + m2 + m3 + m4))) = h00 + (p0 * q1 + p1 * q0 + b64 * (p0 * q2 + p1 * q1 + p2 * q0 + b64 * (p0 * q3 + p1 * q2 + p2 * q1 + p3 * q0))) := by
    rw [y2, E01, E10]
    generalize p0 * q2 + p1 * q1 + p2 * q0 + b64 * (p0 * q3 + p1 * q2 + p2 * q1 + p3 * q0) = L at *
    simp only [Nat.mul_add]
    omega
  have y0 : l00 + b64 * (t1 + b64 * (z2 + b64 * (z3 + b64 * (m1 + m2 + m3 + m4)))) = p0 * q0 + b64 * (p0 * q1 + p1 * q0 + b64 * (p0 * q2 + p1 * q1 + p2 * q0 + b64 * (p0 * q3 + p1 * q2 + p2 * q1 + p3 * q0))) := by
    rw [y1, E00, Nat.mul_add b64 h00]
    omega
  refine ⟨(m1 + m2 + m3 + m4) + (p1 * q3 + p2 * q2 + p3 * q1 + b64 * (p2 * q3 + p3 * q2 + b64 * (p3 * q3))), ?_⟩
  have g : l00 + b64 * (t1 + b64 * (z2 + b64 * (z3 + b64 * (m1 + m2 + m3 + m4)))) = Wd4.val ⟨l00, t1, z2, z3⟩ + b256 * (m1 + m2 + m3 + m4) := by
    unfold Wd4.val b256
    simp only [Nat.mul_add, Nat.mul_assoc]
    omega
  rw [Nat.mul_add b256, ← Nat.add_assoc, ← g, y0]
  unfold Wd4.val b256
  simp only [Nat.mul_add, Nat.add_mul, Nat.mul_assoc, Nat.mul_comm, Nat.mul_left_comm]
  omega

set_option maxRecDepth 100000 in
set_option maxHeartbeats 2000000 in
theorem mulW_any (w : World) (a b : Wd4) (ha : a.Ok) (hb : b.Ok) :
    Calls Safg.prog 56 #[a.v, b.v] w fun e w' => ∃ s : Wd4, s.Ok ∧ s.val = a.val * b.val % b256 ∧ e = .returned s.v ∧ Below w.heap.size w w' := by
  have a0 := ha.h0; have a1 := ha.h1; have a2 := ha.h2; have a3 := ha.h3
  have b0 := hb.h0; have b1 := hb.h1; have b2 := hb.h2; have b3 := hb.h3
  obtain ⟨p0, p1, p2, p3⟩ := a
  obtain ⟨q0, q1, q2, q3⟩ := b
  simp only at a0 a1 a2 a3 b0 b1 b2 b3
  go_enter Safg.func56, Safg.ntmps56
  go_upto_region 1 with (first | (refine wpList_box_agg rfl 65 (.tmp 0) rfl (Wd4.cells ⟨p0, p1, p2, p3⟩) rfl ?_; intro w1 g2 hg2 k2 c2) | (refine wpList_box_agg rfl 65 (.tmp 1) rfl (Wd4.cells ⟨q0, q1, q2, q3⟩) rfl ?_; intro w2 g3 hg3 k3 c3) | (refine wpList_alloc_agg rfl 65 rfl _ Safg.zero65 ?_; intro w3 g4 hg4 k4 c4))
  have BB : Hid (Below w.heap.size w w3) := (c2.trans (c3.mono c2.size)).trans (c4.mono (Nat.le_trans c2.size c3.size))
  have k2' := (k2.below c3 k2.lt).below c4 (Nat.lt_of_lt_of_le k2.lt c3.size)
  have k3' := k3.below c4 k3.lt
  have A0 := k2'.get (j := 0) (v := .int .u64 (p0 : Int)) rfl
  have A1 := k2'.get (j := 1) (v := .int .u64 (p1 : Int)) rfl
  have A2 := k2'.get (j := 2) (v := .int .u64 (p2 : Int)) rfl
  have A3 := k2'.get (j := 3) (v := .int .u64 (p3 : Int)) rfl
  have B0 := k3'.get (j := 0) (v := .int .u64 (q0 : Int)) rfl
  have B1 := k3'.get (j := 1) (v := .int .u64 (q1 : Int)) rfl
  have B2 := k3'.get (j := 2) (v := .int .u64 (q2 : Int)) rfl
  have B3 := k3'.get (j := 3) (v := .int .u64 (q3 : Int)) rfl
  have hgg : w.heap.size ≤ g4 := by have := c2.size; have := c3.size; omega
  clear k2 k3 k2' k3' c2 c3 c4 ha hb
  go_wp2_with fail
  refine (Mul64_rel _ p0 q0 a0 b0).mono ?_
  rintro e w4 ⟨h00, l00, rfl, hh00, hl00, E00, hw⟩
  subst hw
  go_wp2_with fail
  refine (Mul64_rel _ p0 q1 a0 b1).mono ?_
  rintro e w4 ⟨h01, l01, rfl, hh01, hl01, E01, hw⟩
  subst hw
  go_wp2_with fail
  refine (Mul64_rel _ p0 q2 a0 b2).mono ?_
  rintro e w4 ⟨h02, l02, rfl, hh02, hl02, E02, hw⟩
  subst hw
  go_wp2_with fail
  refine (Add64_rel0 _ h00 l01 (by omega) hl01).mono ?_
  rintro e w4 ⟨r1, c1, rfl, hr1, hc1, F1, hw⟩
  subst hw
  go_wp2_with fail
  refine (Add64_rel _ h01 l02 c1 (by omega) hl02 hc1).mono ?_
  rintro e w4 ⟨r2, c2, rfl, hr2, hc2, F2, hw⟩
  subst hw
  go_upto_region 7 with fail
  obtain ⟨u3, m1, HU3, hu3, G1⟩ := wrap_to (h02 + p0 * q3 + c2) (IntKind.u64.wrap ((h02 : Int) + IntKind.u64.wrap ((p0 : Int) * (q3 : Int))) + (c2 : Int)) (by simp only [IntKind.wrap_u64, Int.emod_add_emod, Int.add_emod_emod, Int.natCast_add, Int.natCast_mul])
  rw [HU3]
  clear HU3
  go_wp2_with fail
  refine (Mul64_rel _ p1 q0 a1 b0).mono ?_
  rintro e w4 ⟨h10, l10, rfl, hh10, hl10, E10, hw⟩
  subst hw
  go_wp2_with fail
  refine (Mul64_rel _ p1 q1 a1 b1).mono ?_
  rintro e w4 ⟨h11, l11, rfl, hh11, hl11, E11, hw⟩
  subst hw
  go_wp2_with fail
  refine (Add64_rel0 _ r1 l10 hr1 hl10).mono ?_
  rintro e w4 ⟨t1, c3, rfl, ht1, hc3, F3, hw⟩
  subst hw
  go_wp2_with fail
  refine (Add64_rel _ r2 l11 c3 hr2 hl11 hc3).mono ?_
  rintro e w4 ⟨t2, c4, rfl, ht2, hc4, F4, hw⟩
  subst hw
  go_upto_region 12 with fail
  obtain ⟨v3, m2, HV3, hv3, G2⟩ := wrap_to (u3 + (h11 + p1 * q2 + c4)) ((u3 : Int) + IntKind.u64.wrap (IntKind.u64.wrap ((h11 : Int) + IntKind.u64.wrap ((p1 : Int) * (q2 : Int))) + (c4 : Int))) (by simp only [IntKind.wrap_u64, Int.emod_add_emod, Int.add_emod_emod, Int.natCast_add, Int.natCast_mul])
  rw [HV3]
  clear HV3
  go_wp2_with fail
  refine (Add64_rel0 _ t2 h10 ht2 (by omega)).mono ?_
  rintro e w4 ⟨s2, c5, rfl, hs2, hc5, F5, hw⟩
  subst hw
  go_upto_region 14 with fail
  obtain ⟨x3, m3, HX3, hx3, G3⟩ := wrap_to (v3 + c5) ((v3 : Int) + (c5 : Int)) (by simp only [Int.natCast_add])
  rw [HX3]
  clear HX3
  go_wp2_with fail
  refine (Mul64_rel _ p2 q0 a2 b0).mono ?_
  rintro e w4 ⟨h20, l20, rfl, hh20, hl20, E20, hw⟩
  subst hw
  go_wp2_with fail
  refine (Add64_rel0 _ s2 l20 hs2 hl20).mono ?_
  rintro e w4 ⟨z2, c6, rfl, hz2, hc6, F6, hw⟩
  subst hw
  go_upto_region 17 with fail
  obtain ⟨z3, m4, HZ3, hz3, G4⟩ := wrap_to (x3 + (h20 + p2 * q1 + c6 + p3 * q0)) ((x3 : Int) + IntKind.u64.wrap (IntKind.u64.wrap (IntKind.u64.wrap ((h20 : Int) + IntKind.u64.wrap ((p2 : Int) * (q1 : Int))) + (c6 : Int)) + IntKind.u64.wrap ((p3 : Int) * (q0 : Int)))) (by simp only [IntKind.wrap_u64, Int.emod_add_emod, Int.add_emod_emod, Int.natCast_add, Int.natCast_mul])
  rw [HZ3]
  clear HZ3
  clear A0 A1 A2 A3 B0 B1 B2 B3
  go_wp2_with (refine wpList_store_agg rfl 65 _ _ rfl g4 rfl _ (Wd4.cells ⟨l00, t1, z2, z3⟩) rfl k4 rfl Safg.size65 (Wd4.one _) ?_; intro w8 k8 n8)
  have hok : Wd4.Ok ⟨l00, t1, z2, z3⟩ := ⟨hl00, ht1, hz2, hz3⟩
  refine bodyPost_ret (results_cell1 Safg.results56 _ w8 g4 _ _ rfl k8 Safg.under65 rfl Safg.size65) rfl ⟨⟨l00, t1, z2, z3⟩, hok, ?_, rfl, BB.out.trans (n8.below hgg)⟩
  obtain ⟨M, hM⟩ := mul_limbs E00.out E01.out E02.out F1.out F2.out G1.out E10.out E11.out F3.out F4.out G2.out F5.out G3.out E20.out F6.out G4.out
  exact (add_mod hM (Wd4.lt hok)).symm
end Go.Proofs.YgcsafGreat
