/-
  'u256': mulAdd (375), square (332), row (365), Mul512 (303).
-/
import Derived.Test.YgcsafGreatMulW
namespace Go.Proofs.YgcsafGreat
open Go.RowKit
set_option linter.unusedVariables false
set_option linter.unusedSimpArgs false

theorem small_lt {x : Nat} (h : x < 18446744073709551616) : x < b64 := by rw [b64_eq]; exact h

set_option maxRecDepth 100000 in
set_option maxHeartbeats 2000000 in
theorem mulAdd_any (w : World) (x y s c : Nat) (hx : x < 18446744073709551616) (hy : y < 18446744073709551616) (hs : s < 18446744073709551616) (hc : c < 18446744073709551616) :
    Calls Safg.prog 375 #[.int .u64 (x : Int), .int .u64 (y : Int), .int .u64 (s : Int), .int .u64 (c : Int)] w fun e w' => ∃ l h : Nat, e = .returned (.tuple #[.int .u64 (l : Int), .int .u64 (h : Int)]) ∧ l < 18446744073709551616 ∧ h < 18446744073709551616 ∧ Hid (l + b64 * h = x * y + s + c) ∧ w' = w := by
  go_enter Safg.func375, Safg.ntmps375
  go_wp2_with fail
  refine (Mul64_rel _ x y hx hy).mono ?_
  rintro e w4 ⟨h0, l0, rfl, hh0, hl0, E0, hw⟩
  subst hw
  go_wp2_with fail
  refine (Add64_rel0 _ l0 s hl0 hs).mono ?_
  rintro e w4 ⟨l1, k1, rfl, hl1, hk1, F1, hw⟩
  subst hw
  go_upto_region 4 with fail
  obtain ⟨h1, m1, HH1, hh1, G1⟩ := wrap_to (h0 + k1) ((h0 : Int) + (k1 : Int)) (by simp only [Int.natCast_add])
  first | rw [HH1] | skip
  go_wp2_with fail
  refine (Add64_rel0 _ l1 c hl1 hc).mono ?_
  rintro e w4 ⟨l2, k2, rfl, hl2, hk2, F2, hw⟩
  subst hw
  have hm1 : Hid (h1 = h0 + k1) := by
    have := G1.out
    rw [b64_eq] at this
    show _ = _
    omega
  obtain ⟨h2, m2, HH2, hh2, G2⟩ := wrap_to (h0 + k1 + k2) ((h0 : Int) + (k1 : Int) + (k2 : Int)) (by simp only [Int.natCast_add])
  have HH3 : IntKind.u64.wrap ((h1 : Int) + (k2 : Int)) = (h2 : Int) := by rw [← HH2, hm1.out, Int.natCast_add]
  have key : Hid (l2 + b64 * h2 = x * y + s + c) := by
    show _ = _
    have g2 := G2.out
    have e0 := E0.out
    have f1 := F1.out
    have f2 := F2.out
    have hp : x * y ≤ 18446744073709551615 * 18446744073709551615 := Nat.mul_le_mul (by omega) (by omega)
    have tot : l2 + b64 * (h2 + b64 * m2) = x * y + s + c := by
      rw [g2, e0]
      simp only [Nat.mul_add]
      omega
    have hm2 : m2 = 0 := by
      rcases Nat.eq_zero_or_pos m2 with h | h
      · exact h
      · exfalso
        have h3 : b64 * (b64 * 1) ≤ b64 * (b64 * m2) := Nat.mul_le_mul_left _ (Nat.mul_le_mul_left _ h)
        rw [Nat.mul_add] at tot
        have h4 : b64 * (b64 * 1) = 340282366920938463463374607431768211456 := by rw [b64_eq]
        omega
    rw [hm2] at tot
    simpa using tot
  go_wp2
  first | rw [HH2] | rw [HH3] | skip
  go_ret2
  exact ⟨l2, h2, rfl, hl2, hh2, key, rfl⟩


theorem row_limbs {x q0 q1 q2 q3 s0 s1 s2 s3 h0 l0 h1 l1 h2 l2 h3 l3 m1 c1 m2 c2 m3 c3 g t0 d0 t1 d1 t2 d2 t3 d3 t4 : Nat}
    (E0 : x * q0 = l0 + b64 * h0) (E1 : x * q1 = l1 + b64 * h1) (E2 : x * q2 = l2 + b64 * h2) (E3 : x * q3 = l3 + b64 * h3)
    (F1 : m1 + b64 * c1 = l1 + h0) (F2 : m2 + b64 * c2 = l2 + h1 + c1) (F3 : m3 + b64 * c3 = l3 + h2 + c2) (F4 : g = h3 + c3)
    (G0 : t0 + b64 * d0 = l0 + s0) (G1 : t1 + b64 * d1 = m1 + s1 + d0) (G2 : t2 + b64 * d2 = m2 + s2 + d1) (G3 : t3 + b64 * d3 = m3 + s3 + d2) (G4 : t4 = g + d3) :
    Wd4.val ⟨t0, t1, t2, t3⟩ + b256 * t4 = x * Wd4.val ⟨q0, q1, q2, q3⟩ + Wd4.val ⟨s0, s1, s2, s3⟩ := by
  have y3 : t3 + b64 * t4 = x * q3 + h2 + c2 + s3 + d2 := by rw [G4, F4, E3]; simp only [Nat.mul_add]; omega
  have y2 : t2 + b64 * (t3 + b64 * t4) = x * q2 + b64 * (x * q3) + h1 + c1 + (s2 + b64 * s3) + d1 := by
    rw [y3, E2]
    simp only [Nat.mul_add]
    omega
  have y1 : t1 + b64 * (t2 + b64 * (t3 + b64 * t4)) = x * q1 + b64 * (x * q2 + b64 * (x * q3)) + h0 + (s1 + b64 * (s2 + b64 * s3)) + d0 := by
    rw [y2, E1]
    generalize s2 + b64 * s3 = A at *
    generalize b64 * (x * q3) = A2 at *
    simp only [Nat.mul_add]
    omega
  have y0 : t0 + b64 * (t1 + b64 * (t2 + b64 * (t3 + b64 * t4))) = x * q0 + b64 * (x * q1 + b64 * (x * q2 + b64 * (x * q3))) + (s0 + b64 * (s1 + b64 * (s2 + b64 * s3))) := by
    rw [y1, E0]
    generalize s1 + b64 * (s2 + b64 * s3) = A at *
    generalize b64 * (x * q2 + b64 * (x * q3)) = A2 at *
    simp only [Nat.mul_add]
    omega
  have g1 : Wd4.val ⟨t0, t1, t2, t3⟩ + b256 * t4 = t0 + b64 * (t1 + b64 * (t2 + b64 * (t3 + b64 * t4))) := by
    unfold Wd4.val b256
    simp only [Nat.mul_add, Nat.mul_assoc]
    omega
  have g2 : x * Wd4.val ⟨q0, q1, q2, q3⟩ = x * q0 + b64 * (x * q1 + b64 * (x * q2 + b64 * (x * q3))) := by
    unfold Wd4.val
    simp only [Nat.mul_add, Nat.mul_left_comm x b64]
  rw [g1, y0, g2]
  rfl

/-- x*b + s fits five limbs. -/
theorem row_fits {x : Nat} (hx : x < 18446744073709551616) {b s t : Wd4} (hb : b.Ok) (hs : s.Ok) {t4 : Nat} (h : t.val + b256 * t4 = x * b.val + s.val) : t4 < 18446744073709551616 := by
  have h1 := Wd4.lt hb
  have h2 := Wd4.lt hs
  have h3 : x * b.val + s.val < b64 * b256 := by
    have : x * b.val ≤ x * b256 := Nat.mul_le_mul_left _ (by omega)
    have e : (x + 1) * b256 ≤ b64 * b256 := Nat.mul_le_mul_right _ (by rw [b64_eq]; omega)
    rw [Nat.add_mul, Nat.one_mul] at e
    omega
  rw [← b64_eq]
  have hp := b256_pos
  have h4 : b256 * t4 < b256 * b64 := by rw [Nat.mul_comm b256 b64]; omega
  exact Nat.lt_of_mul_lt_mul_left h4

set_option maxRecDepth 100000 in
set_option maxHeartbeats 4000000 in
theorem row_any (w : World) (x : Nat) (hx : x < 18446744073709551616) (g : Nat) (b s : Wd4) (hb : b.Ok) (hs : s.Ok) (kb : Blk w g b.cells) :
    Calls Safg.prog 365 #[.int .u64 (x : Int), .pointer (some ⟨g, 0, none⟩), .int .u64 (s.x0 : Int), .int .u64 (s.x1 : Int), .int .u64 (s.x2 : Int), .int .u64 (s.x3 : Int)] w fun e w' => ∃ (t : Wd4) (t4 : Nat), t.Ok ∧ t4 < 18446744073709551616 ∧ Hid (t.val + b256 * t4 = x * b.val + s.val) ∧ e = .returned (.tuple #[.int .u64 (t.x0 : Int), .int .u64 (t.x1 : Int), .int .u64 (t.x2 : Int), .int .u64 (t.x3 : Int), .int .u64 (t4 : Int)]) ∧ w' = w := by
  have b0 := hb.h0; have b1 := hb.h1; have b2 := hb.h2; have b3 := hb.h3
  have a0 := hs.h0; have a1 := hs.h1; have a2 := hs.h2; have a3 := hs.h3
  have B0 := kb.get (j := 0) (v := .int .u64 (b.x0 : Int)) rfl
  have B1 := kb.get (j := 1) (v := .int .u64 (b.x1 : Int)) rfl
  have B2 := kb.get (j := 2) (v := .int .u64 (b.x2 : Int)) rfl
  have B3 := kb.get (j := 3) (v := .int .u64 (b.x3 : Int)) rfl
  have HBS : Hid (b.Ok ∧ s.Ok) := ⟨hb, hs⟩
  clear kb hb hs
  obtain ⟨q0, q1, q2, q3⟩ := b
  obtain ⟨s0, s1, s2, s3⟩ := s
  simp only at a0 a1 a2 a3 b0 b1 b2 b3 B0 B1 B2 B3
  go_enter Safg.func365, Safg.ntmps365
  go_wp2_with fail
  refine (Mul64_rel _ x q0 hx b0).mono ?_
  rintro e w4 ⟨h0, l0, rfl, hh0, hl0, E0, hw⟩
  subst hw
  go_wp2_with fail
  refine (Mul64_rel _ x q1 hx b1).mono ?_
  rintro e w4 ⟨h1, l1, rfl, hh1, hl1, E1, hw⟩
  subst hw
  go_wp2_with fail
  refine (Mul64_rel _ x q2 hx b2).mono ?_
  rintro e w4 ⟨h2, l2, rfl, hh2, hl2, E2, hw⟩
  subst hw
  go_wp2_with fail
  refine (Mul64_rel _ x q3 hx b3).mono ?_
  rintro e w4 ⟨h3, l3, rfl, hh3, hl3, E3, hw⟩
  subst hw
  clear B0 B1 B2 B3
  go_wp2_with fail
  refine (Add64_rel0 _ l1 h0 hl1 (by omega)).mono ?_
  rintro e w4 ⟨m1, c1, rfl, hm1, hc1, F1, hw⟩
  subst hw
  go_wp2_with fail
  refine (Add64_rel _ l2 h1 c1 hl2 (by omega) hc1).mono ?_
  rintro e w4 ⟨m2, c2, rfl, hm2, hc2, F2, hw⟩
  subst hw
  go_wp2_with fail
  refine (Add64_rel _ l3 h2 c2 hl3 (by omega) hc2).mono ?_
  rintro e w4 ⟨m3, c3, rfl, hm3, hc3, F3, hw⟩
  subst hw
  obtain ⟨gg, HG⟩ : ∃ g', Hid (h3 + c3 = g') := ⟨_, rfl⟩
  have hgg : gg < 18446744073709551616 := by have := HG.out; omega
  have EG : IntKind.u64.wrap ((h3 : Int) + (c3 : Int)) = (gg : Int) := by rw [← HG.out, ← Int.natCast_add]; exact M64.wrapN _ (by omega)
  have EG2 : (h3 : Int) + (c3 : Int) = (gg : Int) := by rw [← HG.out, ← Int.natCast_add]
  go_upto_region 9 with fail
  first | rw [EG] | rw [EG2] | skip
  clear EG EG2
  go_wp2_with fail
  refine (Add64_rel0 _ l0 s0 hl0 a0).mono ?_
  rintro e w4 ⟨t0, d0, rfl, ht0, hd0, G0, hw⟩
  subst hw
  go_wp2_with fail
  refine (Add64_rel _ m1 s1 d0 hm1 a1 hd0).mono ?_
  rintro e w4 ⟨t1, d1, rfl, ht1, hd1, G1, hw⟩
  subst hw
  go_wp2_with fail
  refine (Add64_rel _ m2 s2 d1 hm2 a2 hd1).mono ?_
  rintro e w4 ⟨t2, d2, rfl, ht2, hd2, G2, hw⟩
  subst hw
  go_wp2_with fail
  refine (Add64_rel _ m3 s3 d2 hm3 a3 hd2).mono ?_
  rintro e w4 ⟨t3, d3, rfl, ht3, hd3, G3, hw⟩
  subst hw
  obtain ⟨t4, HT4⟩ : ∃ t, Hid (gg + d3 = t) := ⟨_, rfl⟩
  have key := row_limbs E0.out E1.out E2.out E3.out F1.out F2.out F3.out HG.out.symm G0.out G1.out G2.out G3.out HT4.out.symm
  have hok : Wd4.Ok ⟨t0, t1, t2, t3⟩ := ⟨ht0, ht1, ht2, ht3⟩
  have ht4 := row_fits hx HBS.out.1 HBS.out.2 key
  have KEY : Hid (Wd4.val ⟨t0, t1, t2, t3⟩ + b256 * t4 = x * Wd4.val ⟨q0, q1, q2, q3⟩ + Wd4.val ⟨s0, s1, s2, s3⟩) := key
  have ET : IntKind.u64.wrap ((gg : Int) + (d3 : Int)) = (t4 : Int) := by rw [← HT4.out, ← Int.natCast_add]; exact M64.wrapN _ (by rw [HT4.out]; exact ht4)
  clear key
  go_wp2
  first | rw [ET] | skip
  refine bodyPost_ret (v := .tuple #[.int .u64 (t0 : Int), .int .u64 (t1 : Int), .int .u64 (t2 : Int), .int .u64 (t3 : Int), .int .u64 (t4 : Int)]) ?_ rfl ⟨⟨t0, t1, t2, t3⟩, t4, hok, ht4, KEY, rfl, rfl⟩
  simp [results, Safg.results365]


theorem row_shift (t0 t1 t2 t3 t4 : Nat) : Wd4.val ⟨t0, t1, t2, t3⟩ + b256 * t4 = t0 + b64 * Wd4.val ⟨t1, t2, t3, t4⟩ := by
  unfold Wd4.val b256
  simp only [Nat.mul_add, Nat.mul_assoc]
  omega
theorem rows_sum {a0 a1 a2 a3 b p0 p1 p2 p3 S1 S2 S3 S4 : Nat} (h0 : p0 + b64 * S1 = a0 * b) (h1 : p1 + b64 * S2 = a1 * b + S1) (h2 : p2 + b64 * S3 = a2 * b + S2) (h3 : p3 + b64 * S4 = a3 * b + S3) :
    Wd4.val ⟨p0, p1, p2, p3⟩ + b256 * S4 = Wd4.val ⟨a0, a1, a2, a3⟩ * b := by
  have y2 : p2 + b64 * (p3 + b64 * S4) = a2 * b + b64 * (a3 * b) + S2 := by rw [h3, Nat.mul_add]; omega
  have y1 : p1 + b64 * (p2 + b64 * (p3 + b64 * S4)) = a1 * b + b64 * (a2 * b + b64 * (a3 * b)) + S1 := by rw [y2, Nat.mul_add]; omega
  have y0 : p0 + b64 * (p1 + b64 * (p2 + b64 * (p3 + b64 * S4))) = a0 * b + b64 * (a1 * b + b64 * (a2 * b + b64 * (a3 * b))) := by rw [y1, Nat.mul_add b64 _ S1]; omega
  have g1 : Wd4.val ⟨p0, p1, p2, p3⟩ + b256 * S4 = p0 + b64 * (p1 + b64 * (p2 + b64 * (p3 + b64 * S4))) := by
    unfold Wd4.val b256
    simp only [Nat.mul_add, Nat.mul_assoc]
    omega
  rw [g1, y0]
  unfold Wd4.val
  simp only [Nat.add_mul, Nat.mul_assoc]

theorem Safg.size67 : (Safg.prog.info? 67).map (·.size) = some 8 := by kernel_rfl
theorem Safg.under67 : Safg.prog.underlying 67 = some (.array 8 31) := by kernel_rfl
theorem Safg.zero67 : (Safg.prog.info? 67).map (·.zero) = some (some (.agg (Wd4.zero.cells ++ Wd4.zero.cells).toArray)) := by kernel_rfl
theorem one8 (a b : Wd4) : ∀ u ∈ a.cells ++ b.cells, u.oneCell' = true := by
  intro u hu
  rcases List.mem_append.1 hu with h | h
  · exact a.one u h
  · exact b.one u h

set_option maxRecDepth 100000 in
set_option maxHeartbeats 4000000 in
theorem mul512_any (w : World) (a b : Wd4) (ha : a.Ok) (hb : b.Ok) :
    Calls Safg.prog 303 #[a.v, b.v] w fun e w' => ∃ lo hi : Wd4, lo.Ok ∧ hi.Ok ∧ lo.val + b256 * hi.val = a.val * b.val ∧ e = .returned (.agg (lo.cells ++ hi.cells).toArray) ∧ Below w.heap.size w w' := by
  have a0 := ha.h0; have a1 := ha.h1; have a2 := ha.h2; have a3 := ha.h3
  obtain ⟨p0, p1, p2, p3⟩ := a
  simp only at a0 a1 a2 a3
  go_enter Safg.func303, Safg.ntmps303
  go_upto_region 1 with (first | (refine wpList_box_agg rfl 65 (.tmp 0) rfl (Wd4.cells ⟨p0, p1, p2, p3⟩) rfl ?_; intro w1 g2 hg2 k2 c2) | (refine wpList_box_agg rfl 65 (.tmp 1) rfl b.cells rfl ?_; intro w2 g3 hg3 k3 c3) | (refine wpList_alloc_agg rfl 67 rfl _ Safg.zero67 ?_; intro w3 g4 hg4 k4 c4))
  have BB : Hid (Below w.heap.size w w3) := (c2.trans (c3.mono c2.size)).trans (c4.mono (Nat.le_trans c2.size c3.size))
  have k2' := (k2.below c3 k2.lt).below c4 (Nat.lt_of_lt_of_le k2.lt c3.size)
  have k3' := k3.below c4 k3.lt
  have A0 := k2'.get (j := 0) (v := .int .u64 (p0 : Int)) rfl
  have A1 := k2'.get (j := 1) (v := .int .u64 (p1 : Int)) rfl
  have A2 := k2'.get (j := 2) (v := .int .u64 (p2 : Int)) rfl
  have A3 := k2'.get (j := 3) (v := .int .u64 (p3 : Int)) rfl
  have hgg : w.heap.size ≤ g4 := by have := c2.size; have := c3.size; omega
  have z0 : Wd4.zero.Ok := ⟨by decide, by decide, by decide, by decide⟩
  clear k2 k3 k2' c2 c3 c4
  go_wp2_with fail
  refine (row_any w3 p0 a0 g3 b Wd4.zero hb z0 k3').mono ?_
  rintro e w4 ⟨⟨t0, t1, t2, t3⟩, t4, ok1, ht4, R0, rfl, hw⟩
  subst hw
  have s1ok : Wd4.Ok ⟨t1, t2, t3, t4⟩ := ⟨ok1.h1, ok1.h2, ok1.h3, ht4⟩
  go_wp2_with fail
  refine (row_any w4 p1 a1 g3 b ⟨t1, t2, t3, t4⟩ hb s1ok k3').mono ?_
  rintro e w5 ⟨⟨u0, u1, u2, u3⟩, u4, ok2, hu4, R1, rfl, hw⟩
  subst hw
  have s2ok : Wd4.Ok ⟨u1, u2, u3, u4⟩ := ⟨ok2.h1, ok2.h2, ok2.h3, hu4⟩
  go_wp2_with fail
  refine (row_any w5 p2 a2 g3 b ⟨u1, u2, u3, u4⟩ hb s2ok k3').mono ?_
  rintro e w6 ⟨⟨v0, v1, v2, v3⟩, v4, ok3, hv4, R2, rfl, hw⟩
  subst hw
  have s3ok : Wd4.Ok ⟨v1, v2, v3, v4⟩ := ⟨ok3.h1, ok3.h2, ok3.h3, hv4⟩
  go_wp2_with fail
  refine (row_any w6 p3 a3 g3 b ⟨v1, v2, v3, v4⟩ hb s3ok k3').mono ?_
  rintro e w7 ⟨⟨x0, x1, x2, x3⟩, x4, ok4, hx4, R3, rfl, hw⟩
  subst hw
  have s4ok : Wd4.Ok ⟨x1, x2, x3, x4⟩ := ⟨ok4.h1, ok4.h2, ok4.h3, hx4⟩
  have lok : Wd4.Ok ⟨t0, u0, v0, x0⟩ := ⟨ok1.h0, ok2.h0, ok3.h0, ok4.h0⟩
  clear A0 A1 A2 A3 k3'
  go_wp2_with (refine wpList_store_agg rfl 67 _ _ rfl g4 rfl _ (Wd4.cells ⟨t0, u0, v0, x0⟩ ++ Wd4.cells ⟨x1, x2, x3, x4⟩) rfl k4 rfl Safg.size67 (one8 _ _) ?_; intro w8 k8 n8)
  refine bodyPost_ret (results_cell1 Safg.results303 _ w8 g4 _ _ rfl k8 Safg.under67 rfl Safg.size67) rfl ⟨⟨t0, u0, v0, x0⟩, ⟨x1, x2, x3, x4⟩, lok, s4ok, ?_, rfl, BB.out.trans (n8.below hgg)⟩
  have r0 := R0.out; have r1 := R1.out; have r2 := R2.out; have r3 := R3.out
  rw [row_shift] at r0 r1 r2 r3
  exact rows_sum (by rw [r0]; show p0 * b.val + 0 = _; omega) r1 r2 r3

end Go.Proofs.YgcsafGreat
