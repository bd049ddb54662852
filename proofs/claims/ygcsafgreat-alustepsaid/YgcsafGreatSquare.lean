/-
  'u256.square' (332).
-/
import Derived.Test.YgcsafGreatMulW2
namespace Go.Proofs.YgcsafGreat
open Go.RowKit
set_option linter.unusedVariables false
set_option linter.unusedSimpArgs false

/-- A limb doubled: what stays, what goes up. -/
theorem twice (x : Nat) (hx : x < 18446744073709551616) : ∃ n d : Nat, n < 18446744073709551616 ∧ d ≤ 1 ∧ Hid (n + b64 * d = 2 * x) ∧ IntKind.u64.wrap ((x : Int) * 2) = (n : Int) ∧ (x : Int) / 9223372036854775808 = (d : Int) ∧ n + 1 < 18446744073709551616 + 1 ∧ (∀ k : Nat, k ≤ 1 → bits .or .u64 (n : Int) (k : Int) = ((n + k : Nat) : Int) ∧ n + k < 18446744073709551616) := by
  refine ⟨2 * x % 18446744073709551616, x / 9223372036854775808, by omega, by omega, ?_, ?_, by omega, by omega, ?_⟩
  · show _ = _
    rw [b64_eq]
    omega
  · rw [IntKind.wrap_u64]; omega
  · intro k hk
    have hn : 2 * x % 18446744073709551616 = 2 * (x % 9223372036854775808) := by omega
    rw [hn]
    have h := u64_or_nat (2 * (x % 9223372036854775808)) k (by omega) (by omega)
    have e : 2 ^ 1 * (x % 9223372036854775808) + k = 2 ^ 1 * (x % 9223372036854775808) ||| k := Nat.two_pow_add_eq_or_of_lt (by omega) _
    rw [show (2 : Nat) ^ 1 = 2 from rfl] at e
    rw [h, ← e]
    exact ⟨rfl, by omega⟩

theorem square_limbs {a0 a1 a2 a3 h1 l1 h2 l2 m2 c1 m3 k1 h0 p0 h3 l3 n1 d1 p1 c2 n2 d2 p2 c3 n3 d3 p3 k2 : Nat}
    (E1 : a0 * a1 = l1 + b64 * h1) (E2 : a0 * a2 = l2 + b64 * h2) (F1 : m2 + b64 * c1 = h1 + l2) (G1 : m3 + b64 * k1 = h2 + a0 * a3 + a1 * a2 + c1)
    (E0 : a0 * a0 = p0 + b64 * h0) (E3 : a1 * a1 = l3 + b64 * h3) (D1 : n1 + b64 * d1 = 2 * l1) (F2 : p1 + b64 * c2 = h0 + n1) (D2 : n2 + b64 * d2 = 2 * m2) (F3 : p2 + b64 * c3 = l3 + (n2 + d1) + c2)
    (D3 : n3 + b64 * d3 = 2 * m3) (G2 : p3 + b64 * k2 = h3 + (n3 + d2) + c3) :
    ∃ M, Wd4.val ⟨p0, p1, p2, p3⟩ + b256 * M = Wd4.val ⟨a0, a1, a2, a3⟩ * Wd4.val ⟨a0, a1, a2, a3⟩ := by
  have y3 : p3 + b64 * (k2 + d3 + 2 * k1) = h3 + d2 + c3 + 2 * (h2 + a0 * a3 + a1 * a2 + c1) := by
    have e : b64 * (k2 + d3 + 2 * k1) = b64 * k2 + b64 * d3 + 2 * (b64 * k1) := by rw [Nat.mul_add, Nat.mul_add, Nat.mul_left_comm]
    rw [e]; omega
  have y2 : p2 + b64 * (p3 + b64 * (k2 + d3 + 2 * k1)) = d1 + c2 + 2 * h1 + (a1 * a1 + 2 * (a0 * a2) + b64 * (2 * (a0 * a3 + a1 * a2))) := by
    rw [y3, E3, E2]
    simp only [Nat.mul_add, Nat.mul_left_comm b64 2]
    simp only [Nat.mul_add, Nat.mul_left_comm b64 2] at *
    omega
  have y1 : p1 + b64 * (p2 + b64 * (p3 + b64 * (k2 + d3 + 2 * k1))) = h0 + (2 * (a0 * a1) + b64 * (a1 * a1 + 2 * (a0 * a2) + b64 * (2 * (a0 * a3 + a1 * a2)))) := by
    rw [y2, E1]
    generalize a1 * a1 + 2 * (a0 * a2) + b64 * (2 * (a0 * a3 + a1 * a2)) = A at *
    simp only [Nat.mul_add, Nat.mul_left_comm b64 2]
    omega
  have y0 : p0 + b64 * (p1 + b64 * (p2 + b64 * (p3 + b64 * (k2 + d3 + 2 * k1)))) = a0 * a0 + b64 * (2 * (a0 * a1) + b64 * (a1 * a1 + 2 * (a0 * a2) + b64 * (2 * (a0 * a3 + a1 * a2)))) := by
    rw [y1, E0, Nat.mul_add b64 h0]
    omega
  refine ⟨(k2 + d3 + 2 * k1) + (2 * (a1 * a3) + a2 * a2 + b64 * (2 * (a2 * a3) + b64 * (a3 * a3))), ?_⟩
  have g : p0 + b64 * (p1 + b64 * (p2 + b64 * (p3 + b64 * (k2 + d3 + 2 * k1)))) = Wd4.val ⟨p0, p1, p2, p3⟩ + b256 * (k2 + d3 + 2 * k1) := by
    unfold Wd4.val b256
    simp only [Nat.mul_add, Nat.mul_assoc]
    omega
  rw [Nat.mul_add b256, ← Nat.add_assoc, ← g, y0]
  unfold Wd4.val b256
  simp only [Nat.two_mul]
  simp only [Nat.mul_add, Nat.add_mul, Nat.mul_assoc, Nat.mul_comm, Nat.mul_left_comm]
  omega

set_option maxRecDepth 100000 in
set_option maxHeartbeats 2000000 in
theorem square_any (w : World) (a : Wd4) (ha : a.Ok) :
    Calls Safg.prog 332 #[a.v] w fun e w' => ∃ s : Wd4, s.Ok ∧ s.val = a.val * a.val % b256 ∧ e = .returned s.v ∧ Below w.heap.size w w' := by
  have a0 := ha.h0; have a1 := ha.h1; have a2 := ha.h2; have a3 := ha.h3
  obtain ⟨p0, p1, p2, p3⟩ := a
  simp only at a0 a1 a2 a3
  go_enter Safg.func332, Safg.ntmps332
  go_upto_region 1 with (first | (refine wpList_box_agg rfl 65 (.tmp 0) rfl (Wd4.cells ⟨p0, p1, p2, p3⟩) rfl ?_; intro w1 g2 hg2 k2 c2) | (refine wpList_alloc_agg rfl 65 rfl _ Safg.zero65 ?_; intro w3 g4 hg4 k4 c4))
  have BB : Hid (Below w.heap.size w w3) := c2.trans (c4.mono c2.size)
  have k2' := k2.below c4 k2.lt
  have A0 := k2'.get (j := 0) (v := .int .u64 (p0 : Int)) rfl
  have A1 := k2'.get (j := 1) (v := .int .u64 (p1 : Int)) rfl
  have A2 := k2'.get (j := 2) (v := .int .u64 (p2 : Int)) rfl
  have A3 := k2'.get (j := 3) (v := .int .u64 (p3 : Int)) rfl
  have hgg : w.heap.size ≤ g4 := by have := c2.size; omega
  clear k2 k2' c2 c4 ha
  go_wp2_with fail
  refine (Mul64_rel _ p0 p1 a0 a1).mono ?_
  rintro e w4 ⟨h1, l1, rfl, hh1, hl1, E1, hw⟩
  subst hw
  go_wp2_with fail
  refine (Mul64_rel _ p0 p2 a0 a2).mono ?_
  rintro e w4 ⟨h2, l2, rfl, hh2, hl2, E2, hw⟩
  subst hw
  go_wp2_with fail
  refine (Add64_rel0 _ h1 l2 (by omega) hl2).mono ?_
  rintro e w4 ⟨m2, c1, rfl, hm2, hc1, F1, hw⟩
  subst hw
  go_upto_region 5 with fail
  obtain ⟨m3, k1, HM3, hm3, G1⟩ := wrap_to (h2 + p0 * p3 + p1 * p2 + c1) (IntKind.u64.wrap (IntKind.u64.wrap ((h2 : Int) + IntKind.u64.wrap ((p0 : Int) * (p3 : Int))) + IntKind.u64.wrap ((p1 : Int) * (p2 : Int))) + (c1 : Int)) (by simp only [IntKind.wrap_u64, Int.emod_add_emod, Int.add_emod_emod, Int.natCast_add, Int.natCast_mul])
  rw [HM3]
  clear HM3
  go_wp2_with fail
  refine (Mul64_rel _ p0 p0 a0 a0).mono ?_
  rintro e w4 ⟨h0, r0, rfl, hh0, hr0, E0, hw⟩
  subst hw
  go_wp2_with fail
  refine (Mul64_rel _ p1 p1 a1 a1).mono ?_
  rintro e w4 ⟨h3, l3, rfl, hh3, hl3, E3, hw⟩
  subst hw
  clear A0 A1 A2 A3
  obtain ⟨n1, d1, hn1, hd1, D1, W1, Q1, _, O1⟩ := twice l1 hl1
  obtain ⟨n2, d2, hn2, hd2, D2, W2, Q2, _, O2⟩ := twice m2 hm2
  obtain ⟨n3, d3, hn3, hd3, D3, W3, Q3, _, O3⟩ := twice m3 hm3
  obtain ⟨o2, lo2⟩ := O2 d1 hd1
  obtain ⟨o3, lo3⟩ := O3 d2 hd2
  obtain ⟨v2, HV2⟩ : ∃ v, Hid (n2 + d1 = v) := ⟨_, rfl⟩
  obtain ⟨v3, HV3⟩ : ∃ v, Hid (n3 + d2 = v) := ⟨_, rfl⟩
  rw [HV2.out] at o2 lo2
  rw [HV3.out] at o3 lo3
  clear O1 O2 O3
  go_wp2_with fail
  refine (Add64_rel0 _ h0 n1 (by omega) hn1).mono ?_
  rintro e w4 ⟨r1, c2, rfl, hr1, hc2, F2, hw⟩
  subst hw
  go_wp2_with fail
  refine (Add64_rel _ l3 v2 c2 hl3 lo2 hc2).mono ?_
  rintro e w4 ⟨r2, c3, rfl, hr2, hc3, F3, hw⟩
  subst hw
  go_upto_region 10 with fail
  obtain ⟨r3, k2, HR3, hr3, G2⟩ := wrap_to (h3 + v3 + c3) (IntKind.u64.wrap ((h3 : Int) + (v3 : Int)) + (c3 : Int)) (by simp only [IntKind.wrap_u64, Int.emod_add_emod, Int.add_emod_emod, Int.natCast_add])
  rw [HR3]
  clear HR3
  go_wp2_with (refine wpList_store_agg rfl 65 _ _ rfl g4 rfl _ (Wd4.cells ⟨r0, r1, r2, r3⟩) rfl k4 rfl Safg.size65 (Wd4.one _) ?_; intro w8 k8 n8)
  have hok : Wd4.Ok ⟨r0, r1, r2, r3⟩ := ⟨hr0, hr1, hr2, hr3⟩
  refine bodyPost_ret (results_cell1 Safg.results332 _ w8 g4 _ _ rfl k8 Safg.under65 rfl Safg.size65) rfl ⟨⟨r0, r1, r2, r3⟩, hok, ?_, rfl, BB.out.trans (n8.below hgg)⟩
  obtain ⟨M, hM⟩ := square_limbs E1.out E2.out F1.out G1.out E0.out E3.out D1.out F2.out D2.out (by rw [HV2.out]; exact F3.out) D3.out (by rw [HV3.out]; exact G2.out)
  exact (add_mod hM (Wd4.lt hok)).symm
end Go.Proofs.YgcsafGreat
