/-
  'bits.Div64' (377), 'num.Div64' (325).
-/
import Derived.Test.YgcsafGreatNum
import Derived.Test.YgcsafGreatKnuth
import Derived.Deep.DeepCutAuto
namespace Go.Proofs.YgcsafGreat
open Go.RowKit
set_option linter.unusedVariables false
set_option linter.unusedSimpArgs false

theorem cast_shl (a s : Nat) : ((a : Int) * 2 ^ s) = ((a * 2 ^ s : Nat) : Int) := by
  rw [Int.natCast_mul, Int.natCast_pow]; rfl
theorem wrap_shl (a s : Nat) : IntKind.u64.wrap ((a : Int) * 2 ^ s) = ((a * 2 ^ s % 18446744073709551616 : Nat) : Int) := by
  rw [cast_shl]; exact M64.wrapM _
theorem cast_shr (a s : Nat) : ((a : Int) / 2 ^ s) = ((a / 2 ^ s : Nat) : Int) := by
  rw [Int.natCast_ediv, Int.natCast_pow]; rfl

/-- The shift that brings y's top bit up. -/
theorem norm_shift {y : Nat} (hy : y < 18446744073709551616) (h0 : y ≠ 0) {s : Nat} (hs : 64 - Lib.bitLen y = s) : s < 64 ∧ y * 2 ^ s < 18446744073709551616 ∧ 9223372036854775808 ≤ y * 2 ^ s := by
  obtain ⟨h1, h2, h3, h4⟩ := bitLen_pos y hy h0
  have e : Lib.bitLen y + s = 64 := by omega
  have e2 : (Lib.bitLen y - 1) + s = 63 := by omega
  have p1 : 2 ^ Lib.bitLen y * 2 ^ s = 18446744073709551616 := by rw [← Nat.pow_add, e]
  have p2 : 2 ^ (Lib.bitLen y - 1) * 2 ^ s = 9223372036854775808 := by rw [← Nat.pow_add, e2]
  have pos : 0 < 2 ^ s := Nat.pow_pos (by omega)
  refine ⟨by omega, ?_, ?_⟩
  · rw [← p1]; exact Nat.mul_lt_mul_of_pos_right h4 pos
  · rw [← p2]; exact Nat.mul_le_mul_right _ h3

/-- The dividend, shifted: its two limbs. -/
theorem norm_parts {hi lo y s : Nat} (hh : hi < y) (hl : lo < 18446744073709551616) (hs : s < 64) (hY : y * 2 ^ s < 18446744073709551616) :
    hi * 2 ^ s % 18446744073709551616 = hi * 2 ^ s ∧ bits .or .u64 ((hi * 2 ^ s : Nat) : Int) ((lo / 2 ^ (64 - s) : Nat) : Int) = ((hi * 2 ^ s + lo / 2 ^ (64 - s) : Nat) : Int) ∧ hi * 2 ^ s + lo / 2 ^ (64 - s) < y * 2 ^ s ∧
      (hi * 2 ^ s + lo / 2 ^ (64 - s)) * 18446744073709551616 + lo * 2 ^ s % 18446744073709551616 = (hi * 18446744073709551616 + lo) * 2 ^ s := by
  have pos : 0 < 2 ^ s := Nat.pow_pos (by omega)
  have pq : 2 ^ (64 - s) * 2 ^ s = 18446744073709551616 := by rw [← Nat.pow_add, show 64 - s + s = 64 by omega]
  have posq : 0 < 2 ^ (64 - s) := Nat.pow_pos (by omega)
  have hlow : lo / 2 ^ (64 - s) < 2 ^ s := by
    rw [Nat.div_lt_iff_lt_mul posq, Nat.mul_comm, pq]; exact hl
  have hle : (hi + 1) * 2 ^ s ≤ y * 2 ^ s := Nat.mul_le_mul_right _ hh
  rw [Nat.add_mul, Nat.one_mul] at hle
  have hsum : hi * 2 ^ s + lo / 2 ^ (64 - s) < y * 2 ^ s := by omega
  refine ⟨Nat.mod_eq_of_lt (by omega), ?_, hsum, ?_⟩
  · have h := u64_or_nat (hi * 2 ^ s) (lo / 2 ^ (64 - s)) (by omega) (by omega)
    have e : 2 ^ s * hi + lo / 2 ^ (64 - s) = 2 ^ s * hi ||| lo / 2 ^ (64 - s) := Nat.two_pow_add_eq_or_of_lt hlow hi
    rw [Nat.mul_comm] at e
    rw [h, ← e]
  · have hd := Nat.div_add_mod lo (2 ^ (64 - s))
    have h1 : lo * 2 ^ s = (lo / 2 ^ (64 - s)) * 18446744073709551616 + lo % 2 ^ (64 - s) * 2 ^ s := by
      conv => lhs; rw [← hd]
      rw [Nat.add_mul, Nat.mul_comm (2 ^ (64 - s)), Nat.mul_assoc, pq]
    have h2 : lo % 2 ^ (64 - s) * 2 ^ s < 18446744073709551616 := by
      rw [← pq]; exact Nat.mul_lt_mul_of_pos_right (Nat.mod_lt _ posq) pos
    have h3 : lo * 2 ^ s % 18446744073709551616 = lo % 2 ^ (64 - s) * 2 ^ s := by
      rw [h1, Nat.add_comm, Nat.add_mul_mod_self_right, Nat.mod_eq_of_lt h2]
    rw [h3, Nat.add_mul (hi * 18446744073709551616), h1, Nat.add_mul]
    have h4 : hi * 2 ^ s * 18446744073709551616 = hi * 18446744073709551616 * 2 ^ s := by rw [Nat.mul_assoc, Nat.mul_comm (2 ^ s), Nat.mul_assoc]
    rw [h4, Nat.add_assoc]

/-- What the search for a digit keeps: the trial digit q and its remainder r. -/
structure TrialAt (v1 U q1 q r : Nat) : Prop where
  sum : q * v1 + r = U
  low : r < 4294967296
  ge : q1 ≤ q
  cap : q ≤ 4294967297
/-- The numbers fit. -/
structure TrialOk (v1 v0 U u1 q1 : Nat) : Prop where
  h1 : 2147483648 ≤ v1
  h1' : v1 < 4294967296
  h0 : v0 < 4294967296
  hu : u1 < 4294967296
  lt : U < v1 * 4294967296 + v0
  q : (U * 4294967296 + u1) / (v1 * 4294967296 + v0) = q1
theorem trialOk {v1 v0 U u1 q1 : Nat} (a1 : 2147483648 ≤ v1) (a2 : v1 < 4294967296) (a3 : v0 < 4294967296) (a4 : u1 < 4294967296) (a5 : U < v1 * 4294967296 + v0) (a6 : (U * 4294967296 + u1) / (v1 * 4294967296 + v0) = q1) : TrialOk v1 v0 U u1 q1 := ⟨a1, a2, a3, a4, a5, a6⟩
theorem TrialOk.pos {v1 v0 U u1 q1 : Nat} (h : TrialOk v1 v0 U u1 q1) : 0 < v1 * 4294967296 + v0 := by have := h.h1; omega
theorem TrialOk.start {v1 v0 U u1 q1 a c : Nat} (h : TrialOk v1 v0 U u1 q1) (ha : U / v1 = a) (hc : U % v1 = c) : TrialAt v1 U q1 a c := by
  have hp : 0 < v1 := by have := h.h1; omega
  refine ⟨?_, ?_, ?_, ?_⟩
  · rw [← ha, ← hc, Nat.mul_comm]; exact Nat.div_add_mod _ _
  · rw [← hc]; exact Nat.lt_trans (Nat.mod_lt _ hp) h.h1'
  · rw [← ha, ← h.q]
    rcases K.first (b := 4294967296) (v1 := v1) (v0 := v0) (u := U) (u1 := u1) hp h.h0 with h' | h'
    · exact h'
    · have := h.hu; omega
  · rw [← ha]; exact K.cap (by have := h.h1; omega) hp h.h0 h.lt
/-- The test holds: one lower. -/
theorem TrialOk.step {v1 v0 U u1 q1 q r : Nat} (h : TrialOk v1 v0 U u1 q1) (t : TrialAt v1 U q1 q r) (ht : 4294967296 ≤ q ∨ 4294967296 * r + u1 < q * v0) : q1 < q ∧ (q - 1) * v1 + (r + v1) = U ∧ (r + v1 < 4294967296 → TrialAt v1 U q1 (q - 1) (r + v1)) ∧ (4294967296 ≤ r + v1 → q - 1 = q1) := by
  have h1 := K.step (b := 4294967296) t.sum ht (by rw [h.q]; have := K.below (b := 4294967296) h.lt h.hu; rw [h.q] at this; exact this) h.pos
  rw [h.q] at h1
  have h2 : (q - 1) * v1 + (r + v1) = U := by
    have e : q * v1 = (q - 1) * v1 + v1 := by
      conv => lhs; rw [show q = (q - 1) + 1 by omega]
      rw [Nat.add_mul, Nat.one_mul]
    have := t.sum
    omega
  refine ⟨h1, h2, fun hr => ⟨h2, hr, by omega, by have := t.cap; omega⟩, fun hr => ?_⟩
  have h3 := K.done (b := 4294967296) (u1 := u1) (v0 := v0) h2 (by
    have a1 : (q - 1) * v0 ≤ 4294967296 * 4294967296 := Nat.mul_le_mul (by have := t.cap; omega) (by have := h.h0; omega)
    have a2 : 4294967296 * 4294967296 ≤ 4294967296 * (r + v1) := Nat.mul_le_mul_left _ hr
    omega) h.pos
  rw [h.q] at h3
  omega
/-- The test fails: the digit is found. -/
theorem TrialOk.done {v1 v0 U u1 q1 q r : Nat} (h : TrialOk v1 v0 U u1 q1) (t : TrialAt v1 U q1 q r) (ht : q * v0 ≤ 4294967296 * r + u1) : q = q1 := by
  have h3 := K.done (b := 4294967296) t.sum ht h.pos
  rw [h.q] at h3
  have := t.ge
  omega
theorem first_trial {U v1 : Nat} (hU : U < 18446744073709551616) (hv : 0 < v1) : IntKind.u64.wrap ((U : Int) / (v1 : Int)) = ((U / v1 : Nat) : Int) ∧ IntKind.u64.wrap ((U : Int) - IntKind.u64.wrap (((U / v1 : Nat) : Int) * (v1 : Int))) = ((U % v1 : Nat) : Int) ∧ True := by
  have h1 : U / v1 ≤ U := Nat.div_le_self _ _
  have h2 := Nat.div_add_mod U v1
  have h3 : U / v1 * v1 ≤ U := Nat.div_mul_le_self _ _
  refine ⟨?_, ?_, trivial⟩
  · rw [← Int.natCast_ediv]; exact M64.wrapN _ (by omega)
  · rw [M64.mulN, M64.wrapN _ (by omega), IntKind.wrap_u64, Nat.mul_comm v1] at *
    omega

set_option maxRecDepth 100000 in
theorem digit_rest {U u q Y X : Nat} (hq : (U * 4294967296 + u) / Y = q) (hX : (U * 4294967296 + u) % Y = X) (hl : X < 18446744073709551616) :
    IntKind.u64.wrap (IntKind.u64.wrap (IntKind.u64.wrap ((U : Int) * 4294967296) + (u : Int)) - IntKind.u64.wrap ((q : Int) * (Y : Int))) = (X : Int) := by
  have h := Nat.div_add_mod (U * 4294967296 + u) Y
  rw [hq, hX] at h
  have h' : (U : Int) * 4294967296 + (u : Int) - (q : Int) * (Y : Int) = (X : Int) := by
    have := congrArg (fun n : Nat => (n : Int)) h
    simp only [Int.natCast_add, Int.natCast_mul] at this
    have e : (Y : Int) * (q : Int) = (q : Int) * (Y : Int) := Int.mul_comm _ _
    have e2 : ((4294967296 : Nat) : Int) = 4294967296 := rfl
    rw [e, e2] at this
    omega
  simp only [IntKind.wrap_u64, Int.emod_add_emod, Int.emod_sub_emod, Int.sub_emod_emod]
  rw [h']
  omega

theorem TrialOk.lt_base {v1 v0 U u1 q1 : Nat} (h : TrialOk v1 v0 U u1 q1) : q1 < 4294967296 := by
  have := K.below (b := 4294967296) h.lt h.hu
  rw [h.q] at this
  exact this

theorem quo_rem {b BB hi lo y s U V Y u1 u0 q1 X q2 X2 : Nat} (hb : b * b = BB) (h1 : (U * b + u1) / Y = q1) (h2 : (U * b + u1) % Y = X) (h3 : (X * b + u0) / Y = q2) (h4 : (X * b + u0) % Y = X2)
    (hV : V = u1 * b + u0) (hN : U * BB + V = (hi * BB + lo) * 2 ^ s) (hY : y * 2 ^ s = Y) (hy : hi < y) :
    (hi * BB + lo) / y = q1 * b + q2 ∧ (hi * BB + lo) % y = X2 / 2 ^ s := by
  have pos : 0 < 2 ^ s := Nat.pow_pos (by omega)
  have hyp : 0 < y := by omega
  have hYp : 0 < Y := by rw [← hY]; exact Nat.mul_pos hyp pos
  have e1 := Nat.div_add_mod (U * b + u1) Y
  rw [h1, h2] at e1
  have e2 := Nat.div_add_mod (X * b + u0) Y
  rw [h3, h4] at e2
  have e3 : (hi * BB + lo) * 2 ^ s = (q1 * b + q2) * Y + X2 := by
    rw [← hN, hV]
    have a1 : U * BB = (U * b) * b := by rw [Nat.mul_assoc, hb]
    have a2 : (Y * q1 + X) * b = (U * b + u1) * b := by rw [e1]
    rw [Nat.add_mul, Nat.add_mul] at a2
    have a3 : (q1 * b + q2) * Y = Y * q1 * b + Y * q2 := by
      rw [Nat.add_mul, Nat.mul_comm q2, Nat.mul_comm Y q1, Nat.mul_assoc, Nat.mul_comm b Y, ← Nat.mul_assoc]
    rw [a1, a3]
    omega
  have hX2 : X2 < Y := by rw [← h4]; exact Nat.mod_lt _ hYp
  generalize hi * BB + lo = N at *
  generalize q1 * b + q2 = q at *
  rw [← hY, ← Nat.mul_assoc] at e3
  have e5 : q * y ≤ N := by
    have : q * y * 2 ^ s ≤ N * 2 ^ s := by omega
    exact Nat.le_of_mul_le_mul_right this pos
  have e4 : X2 = (N - q * y) * 2 ^ s := by rw [Nat.sub_mul]; omega
  have e6 : X2 / 2 ^ s = N - q * y := by rw [e4]; exact Nat.mul_div_cancel _ pos
  have e7 : N - q * y < y := by
    rw [e4, ← hY] at hX2
    exact Nat.lt_of_mul_lt_mul_right hX2
  have e9 : y * q = q * y := Nat.mul_comm _ _
  have e8 : N = (N - q * y) + y * q := by omega
  constructor
  · conv => lhs; rw [e8]
    rw [Nat.add_mul_div_left _ _ hyp, Nat.div_eq_of_lt e7, Nat.zero_add]
  · rw [e6]
    conv => lhs; rw [e8]
    rw [Nat.add_mul_mod_self_left, Nat.mod_eq_of_lt e7]

set_option maxRecDepth 100000 in
set_option maxHeartbeats 2000000 in
theorem div64_hi (w : World) (hi lo y : Nat) (hh : hi < y) (hy : y < 18446744073709551616) (hp : ((hi : Int) == 0) = false) (hl : lo < 18446744073709551616) :
    Calls Safg.prog 377 #[.int .u64 (hi : Int), .int .u64 (lo : Int), .int .u64 (y : Int)] w fun e w' => e = .returned (.tuple #[.int .u64 (((hi * 18446744073709551616 + lo) / y : Nat) : Int), .int .u64 (((hi * 18446744073709551616 + lo) % y : Nat) : Int)]) ∧ Same w w' := by
  have HL := bitsLead64_any w y hy
  obtain ⟨s, HS⟩ : ∃ s, Hid (64 - Lib.bitLen y = s) := ⟨_, rfl⟩
  rw [HS.out] at HL
  have hs64 : s < 64 := by
    have := (bitLen_pos y hy (by omega)).1
    have := HS.out
    omega
  have t0 : ((y : Int) == 0) = false := by simp; omega
  have t1 : decide ((y : Int) ≤ (hi : Int)) = false := decide_eq_false (by omega)
  obtain ⟨Q, HQ⟩ : ∃ Q, Hid ((hi * 18446744073709551616 + lo) / y = Q) := ⟨_, rfl⟩
  obtain ⟨R, HR⟩ : ∃ R, Hid ((hi * 18446744073709551616 + lo) % y = R) := ⟨_, rfl⟩
  rw [HQ.out, HR.out]
  obtain ⟨hs1, hY1, hY2⟩ := norm_shift hy (by omega) HS.out
  obtain ⟨n1, n2, n3, n4⟩ := norm_parts hh hl hs1 hY1
  obtain ⟨Y, HY⟩ : ∃ Y, Hid (y * 2 ^ s = Y) := ⟨_, rfl⟩
  obtain ⟨U, HU⟩ : ∃ U, Hid (hi * 2 ^ s + lo / 2 ^ (64 - s) = U) := ⟨_, rfl⟩
  obtain ⟨V, HV⟩ : ∃ V, Hid (lo * 2 ^ s % 18446744073709551616 = V) := ⟨_, rfl⟩
  rw [HU.out, HY.out] at n3
  rw [HU.out, HV.out] at n4
  have E1 : Hid (IntKind.u64.wrap ((y : Int) * 2 ^ s) = (Y : Int)) := by show _ = _; rw [wrap_shl, Nat.mod_eq_of_lt hY1, HY.out]
  have E2 : Hid (bits .or .u64 (IntKind.u64.wrap ((hi : Int) * 2 ^ s)) ((lo : Int) / 2 ^ (64 - s)) = (U : Int)) := by show _ = _; rw [wrap_shl, n1, cast_shr, n2, HU.out]
  have E3 : Hid (IntKind.u64.wrap ((lo : Int) * 2 ^ s) = (V : Int)) := by show _ = _; rw [wrap_shl, HV.out]
  rw [HY.out] at hY1 hY2
  have hV : V < 18446744073709551616 := by rw [← HV.out]; exact Nat.mod_lt _ (by omega)
  have N4 : Hid (U * 18446744073709551616 + V = (hi * 18446744073709551616 + lo) * 2 ^ s) := n4
  clear n1 n2 n4
  obtain ⟨v1, HV1⟩ : ∃ v, Hid (Y / 4294967296 = v) := ⟨_, rfl⟩
  obtain ⟨v0, HV0⟩ : ∃ v, Hid (Y % 4294967296 = v) := ⟨_, rfl⟩
  obtain ⟨u1, HU1⟩ : ∃ v, Hid (V / 4294967296 = v) := ⟨_, rfl⟩
  obtain ⟨u0, HU0⟩ : ∃ v, Hid (V % 4294967296 = v) := ⟨_, rfl⟩
  have hYe : Y = v1 * 4294967296 + v0 := by have := HV1.out; have := HV0.out; omega
  have hVe : V = u1 * 4294967296 + u0 := by have := HU1.out; have := HU0.out; omega
  have hv0 : v0 < 4294967296 := by have := HV0.out; omega
  have hv1 : v1 < 4294967296 := by have := HV1.out; omega
  have hv1' : 2147483648 ≤ v1 := by have := HV1.out; omega
  have hu1 : u1 < 4294967296 := by have := HU1.out; omega
  have hu0 : u0 < 4294967296 := by have := HU0.out; omega
  have HYE : Hid (Y = v1 * 4294967296 + v0) := hYe
  have HVE : Hid (V = u1 * 4294967296 + u0) := hVe
  clear hYe hVe
  go_enter Safg.func377, Safg.ntmps377
  go_upto_region 13 with (go_at_call 393; refine HL.mono ?_; rintro e w1 ⟨rfl, rfl⟩)
  rw [E1.out, E2.out, E3.out, M64.maskN Y hY1, M64.divN Y, HV1.out, HV0.out]
  go_upto_region 15 with fail
  rw [M64.maskN V hV, M64.divN V, HU1.out, HU0.out]
  have tz : ((v1 : Int) == 0) = false := by simp; omega
  have hUl : U < 18446744073709551616 := by omega
  go_upto_region 17 with fail
  obtain ⟨q1, HQ1⟩ : ∃ q, Hid ((U * 4294967296 + u1) / Y = q) := ⟨_, rfl⟩
  obtain ⟨E4, E5, I0⟩ := first_trial (U := U) (v1 := v1) hUl (by omega)
  rw [E4, E5]
  obtain ⟨a0, HA0⟩ : ∃ a, Hid (U / v1 = a) := ⟨_, rfl⟩
  obtain ⟨c0, HC0⟩ : ∃ c, Hid (U % v1 = c) := ⟨_, rfl⟩
  rw [HA0.out, HC0.out]
  clear E4 E5 I0
  have LP : Hid (TrialOk v1 v0 U u1 q1) := trialOk hv1' hv1 hv0 hu1 (by rw [← HYE.out]; exact n3) (by rw [← HYE.out]; exact HQ1.out)
  have ST : Hid (TrialAt v1 U q1 a0 c0) := LP.out.start HA0.out HC0.out
  obtain ⟨X, HX⟩ : ∃ X, Hid ((U * 4294967296 + u1) % Y = X) := ⟨_, rfl⟩
  obtain ⟨q2, HY2⟩ : ∃ q, Hid ((X * 4294967296 + u0) / Y = q) := ⟨_, rfl⟩
  obtain ⟨X2, HX2⟩ : ∃ z, Hid ((X * 4294967296 + u0) % Y = z) := ⟨_, rfl⟩
  have hX : X < Y := by rw [← HX.out]; exact Nat.mod_lt _ (by omega)
  have hX2 : X2 < 18446744073709551616 := by rw [← HX2.out]; exact Nat.lt_trans (Nat.mod_lt _ (by omega)) hY1
  have hXl : X < 18446744073709551616 := by omega
  have E7 : Hid (IntKind.u64.wrap (IntKind.u64.wrap (IntKind.u64.wrap ((U : Int) * 4294967296) + (u1 : Int)) - IntKind.u64.wrap ((q1 : Int) * (Y : Int))) = (X : Int)) := digit_rest HQ1.out HX.out hXl
  have BLP : Hid (TrialOk v1 v0 X u0 q2) := trialOk hv1' hv1 hv0 hu0 (by rw [← HYE.out]; exact hX) (by rw [← HYE.out]; exact HY2.out)
  obtain ⟨f1, f2, _⟩ := first_trial (U := X) (v1 := v1) hXl (by omega)
  obtain ⟨a2, HA2⟩ : ∃ a, Hid (X / v1 = a) := ⟨_, rfl⟩
  obtain ⟨c2, HC2⟩ : ∃ c, Hid (X % v1 = c) := ⟨_, rfl⟩
  rw [HA2.out] at f1 f2
  rw [HC2.out] at f2
  have E9 : Hid (IntKind.u64.wrap ((X : Int) / (v1 : Int)) = (a2 : Int)) := f1
  have E10 : Hid (IntKind.u64.wrap ((X : Int) - IntKind.u64.wrap ((a2 : Int) * (v1 : Int))) = (c2 : Int)) := f2
  have BST : Hid (TrialAt v1 X q2 a2 c2) := BLP.out.start HA2.out HC2.out
  have HQR : Hid (Q = q1 * 4294967296 + q2 ∧ R = X2 / 2 ^ s) := by
    have := quo_rem (b := 4294967296) (BB := 18446744073709551616) rfl HQ1.out HX.out HY2.out HX2.out HVE.out N4.out HY.out hh
    rw [HQ.out, HR.out] at this
    exact this
  have hq1l : q1 < 4294967296 := LP.out.lt_base
  have hq2l : q2 < 4294967296 := BLP.out.lt_base
  clear f1 f2
  go_loop [15, 16] (fun qv rv => ∃ q r : Nat, qv = .int .u64 (q : Int) ∧ rv = .int .u64 (r : Int) ∧ TrialAt v1 U q1 q r) (fun qv _ => (intOf qv).toNat)
  case atStart => exact ⟨_, _, rfl, rfl, ST.out⟩
  case round =>
    obtain ⟨q, r, rfl, rfl, st⟩ := hrel
    have qc := st.cap
    have rl := st.low
    obtain ⟨m, HM⟩ : ∃ m, Hid (q * v0 = m) := ⟨_, rfl⟩
    have hm64 : m < 18446744073709551616 := by
      have : q * v0 ≤ 4294967297 * 4294967295 := Nat.mul_le_mul qc (by omega)
      have := HM.out
      omega
    have wm : IntKind.u64.wrap ((q : Int) * (v0 : Int)) = (m : Int) := by rw [M64.mulN, HM.out]; exact M64.wrapN _ hm64
    have TA : Hid (TrialAt v1 U q1 q r) := st
    clear st
    by_cases hq : 4294967296 ≤ q
    · have tq : decide ((4294967296 : Int) ≤ (q : Int)) = true := decide_eq_true (by omega)
      obtain ⟨s1, s2, s3, s4⟩ := LP.out.step TA.out (.inl hq)
      have S3 : Hid (r + v1 < 4294967296 → TrialAt v1 U q1 (q - 1) (r + v1)) := s3
      have S4 : Hid (4294967296 ≤ r + v1 → q - 1 = q1) := s4
      clear s2 s3 s4
      by_cases hr : 4294967296 ≤ r + v1
      · have tr : decide ((4294967296 : Int) ≤ (r : Int) + (v1 : Int)) = true := decide_eq_true (by omega)
        have qe : ((q : Int) - 1) = (q1 : Int) := by have := S4.out hr; omega
        go_upto_region 22 with fail
        rw [E7.out]
        go_upto_region 24 with fail
        rw [E9.out]
        rw [E10.out]
        go_loop [18, 16] (fun qv rv => ∃ q r : Nat, qv = .int .u64 (q : Int) ∧ rv = .int .u64 (r : Int) ∧ TrialAt v1 X q2 q r) (fun qv _ => (intOf qv).toNat)
        case atStart => exact ⟨_, _, rfl, rfl, BST.out⟩
        case round =>
          obtain ⟨q, r, rfl, rfl, st⟩ := hrel
          have qc := st.cap
          have rl := st.low
          obtain ⟨m, HM⟩ : ∃ m, Hid (q * v0 = m) := ⟨_, rfl⟩
          have hm64 : m < 18446744073709551616 := by
            have : q * v0 ≤ 4294967297 * 4294967295 := Nat.mul_le_mul qc (by omega)
            have := HM.out
            omega
          have wm : IntKind.u64.wrap ((q : Int) * (v0 : Int)) = (m : Int) := by rw [M64.mulN, HM.out]; exact M64.wrapN _ hm64
          have TA : Hid (TrialAt v1 X q2 q r) := st
          clear st
          by_cases hq : 4294967296 ≤ q
          · have tq : decide ((4294967296 : Int) ≤ (q : Int)) = true := decide_eq_true (by omega)
            obtain ⟨s1, s2, s3, s4⟩ := BLP.out.step TA.out (.inl hq)
            have S3 : Hid (r + v1 < 4294967296 → TrialAt v1 X q2 (q - 1) (r + v1)) := s3
            have S4 : Hid (4294967296 ≤ r + v1 → q - 1 = q2) := s4
            clear s2 s3 s4
            by_cases hr : 4294967296 ≤ r + v1
            · have tr : decide ((4294967296 : Int) ≤ (r : Int) + (v1 : Int)) = true := decide_eq_true (by omega)
              have qe : ((q : Int) - 1) = (q2 : Int) := by have := S4.out hr; omega
              have E8 : Hid (IntKind.u64.wrap (IntKind.u64.wrap (IntKind.u64.wrap ((X : Int) * 4294967296) + (u0 : Int)) - IntKind.u64.wrap ((q2 : Int) * (Y : Int))) = (X2 : Int)) := digit_rest HY2.out HX2.out hX2
              go_upto_region 28 with fail
              go_wp2
              first | rw [E8.out] | skip
              first | rw [cast_shr X2 s] | skip
              go_ret2
              exact ⟨by rw [HQR.out.1, HQR.out.2]; rfl, Same.refl _⟩
            · have tr : decide ((4294967296 : Int) ≤ (r : Int) + (v1 : Int)) = false := decide_eq_false (by omega)
              have qe : ((q : Int) - 1) = ((q - 1 : Nat) : Int) := by omega
              go_wp2
              go_round
              case rel => exact ⟨q - 1, r + v1, by (first | rfl | (rw [qe]; rfl)), by go_num, S3.out (by omega)⟩
              case measure => simp [intOf]; omega
          · have tq : decide ((4294967296 : Int) ≤ (q : Int)) = false := decide_eq_false (by omega)
            by_cases hm : 4294967296 * r + u0 < m
            · have tm : decide (4294967296 * (r : Int) + (u0 : Int) < (m : Int)) = true := decide_eq_true (by omega)
              obtain ⟨s1, s2, s3, s4⟩ := BLP.out.step TA.out (.inr (by rw [HM.out]; exact hm))
              have S3 : Hid (r + v1 < 4294967296 → TrialAt v1 X q2 (q - 1) (r + v1)) := s3
              have S4 : Hid (4294967296 ≤ r + v1 → q - 1 = q2) := s4
              clear s2 s3 s4
              by_cases hr : 4294967296 ≤ r + v1
              · have tr : decide ((4294967296 : Int) ≤ (r : Int) + (v1 : Int)) = true := decide_eq_true (by omega)
                have qe : ((q : Int) - 1) = (q2 : Int) := by have := S4.out hr; omega
                have E8 : Hid (IntKind.u64.wrap (IntKind.u64.wrap (IntKind.u64.wrap ((X : Int) * 4294967296) + (u0 : Int)) - IntKind.u64.wrap ((q2 : Int) * (Y : Int))) = (X2 : Int)) := digit_rest HY2.out HX2.out hX2
                go_upto_region 28 with fail
                go_wp2
                first | rw [E8.out] | skip
                first | rw [cast_shr X2 s] | skip
                go_ret2
                exact ⟨by rw [HQR.out.1, HQR.out.2]; rfl, Same.refl _⟩
              · have tr : decide ((4294967296 : Int) ≤ (r : Int) + (v1 : Int)) = false := decide_eq_false (by omega)
                have qe : ((q : Int) - 1) = ((q - 1 : Nat) : Int) := by omega
                go_wp2
                go_round
                case rel => exact ⟨q - 1, r + v1, by (first | rfl | (rw [qe]; rfl)), by go_num, S3.out (by omega)⟩
                case measure => simp [intOf]; omega
            · have tm : decide (4294967296 * (r : Int) + (u0 : Int) < (m : Int)) = false := decide_eq_false (by omega)
              have qe : q2 = q := (BLP.out.done TA.out (by rw [HM.out]; omega)).symm
              subst qe
              have E8 : Hid (IntKind.u64.wrap (IntKind.u64.wrap (IntKind.u64.wrap ((X : Int) * 4294967296) + (u0 : Int)) - IntKind.u64.wrap ((q2 : Int) * (Y : Int))) = (X2 : Int)) := digit_rest HY2.out HX2.out hX2
              go_upto_region 28 with fail
              go_wp2
              first | rw [E8.out] | skip
              first | rw [cast_shr X2 s] | skip
              go_ret2
              exact ⟨by rw [HQR.out.1, HQR.out.2]; rfl, Same.refl _⟩
      · have tr : decide ((4294967296 : Int) ≤ (r : Int) + (v1 : Int)) = false := decide_eq_false (by omega)
        have qe : ((q : Int) - 1) = ((q - 1 : Nat) : Int) := by omega
        go_wp2
        go_round
        case rel => exact ⟨q - 1, r + v1, by (first | rfl | (rw [qe]; rfl)), by go_num, S3.out (by omega)⟩
        case measure => simp [intOf]; omega
    · have tq : decide ((4294967296 : Int) ≤ (q : Int)) = false := decide_eq_false (by omega)
      by_cases hm : 4294967296 * r + u1 < m
      · have tm : decide (4294967296 * (r : Int) + (u1 : Int) < (m : Int)) = true := decide_eq_true (by omega)
        obtain ⟨s1, s2, s3, s4⟩ := LP.out.step TA.out (.inr (by rw [HM.out]; exact hm))
        have S3 : Hid (r + v1 < 4294967296 → TrialAt v1 U q1 (q - 1) (r + v1)) := s3
        have S4 : Hid (4294967296 ≤ r + v1 → q - 1 = q1) := s4
        clear s2 s3 s4
        by_cases hr : 4294967296 ≤ r + v1
        · have tr : decide ((4294967296 : Int) ≤ (r : Int) + (v1 : Int)) = true := decide_eq_true (by omega)
          have qe : ((q : Int) - 1) = (q1 : Int) := by have := S4.out hr; omega
          go_upto_region 22 with fail
          rw [E7.out]
          go_upto_region 24 with fail
          rw [E9.out]
          rw [E10.out]
          go_loop [18, 16] (fun qv rv => ∃ q r : Nat, qv = .int .u64 (q : Int) ∧ rv = .int .u64 (r : Int) ∧ TrialAt v1 X q2 q r) (fun qv _ => (intOf qv).toNat)
          case atStart => exact ⟨_, _, rfl, rfl, BST.out⟩
          case round =>
            obtain ⟨q, r, rfl, rfl, st⟩ := hrel
            have qc := st.cap
            have rl := st.low
            obtain ⟨m, HM⟩ : ∃ m, Hid (q * v0 = m) := ⟨_, rfl⟩
            have hm64 : m < 18446744073709551616 := by
              have : q * v0 ≤ 4294967297 * 4294967295 := Nat.mul_le_mul qc (by omega)
              have := HM.out
              omega
            have wm : IntKind.u64.wrap ((q : Int) * (v0 : Int)) = (m : Int) := by rw [M64.mulN, HM.out]; exact M64.wrapN _ hm64
            have TA : Hid (TrialAt v1 X q2 q r) := st
            clear st
            by_cases hq : 4294967296 ≤ q
            · have tq : decide ((4294967296 : Int) ≤ (q : Int)) = true := decide_eq_true (by omega)
              obtain ⟨s1, s2, s3, s4⟩ := BLP.out.step TA.out (.inl hq)
              have S3 : Hid (r + v1 < 4294967296 → TrialAt v1 X q2 (q - 1) (r + v1)) := s3
              have S4 : Hid (4294967296 ≤ r + v1 → q - 1 = q2) := s4
              clear s2 s3 s4
              by_cases hr : 4294967296 ≤ r + v1
              · have tr : decide ((4294967296 : Int) ≤ (r : Int) + (v1 : Int)) = true := decide_eq_true (by omega)
                have qe : ((q : Int) - 1) = (q2 : Int) := by have := S4.out hr; omega
                have E8 : Hid (IntKind.u64.wrap (IntKind.u64.wrap (IntKind.u64.wrap ((X : Int) * 4294967296) + (u0 : Int)) - IntKind.u64.wrap ((q2 : Int) * (Y : Int))) = (X2 : Int)) := digit_rest HY2.out HX2.out hX2
                go_upto_region 28 with fail
                go_wp2
                first | rw [E8.out] | skip
                first | rw [cast_shr X2 s] | skip
                go_ret2
                exact ⟨by rw [HQR.out.1, HQR.out.2]; rfl, Same.refl _⟩
              · have tr : decide ((4294967296 : Int) ≤ (r : Int) + (v1 : Int)) = false := decide_eq_false (by omega)
                have qe : ((q : Int) - 1) = ((q - 1 : Nat) : Int) := by omega
                go_wp2
                go_round
                case rel => exact ⟨q - 1, r + v1, by (first | rfl | (rw [qe]; rfl)), by go_num, S3.out (by omega)⟩
                case measure => simp [intOf]; omega
            · have tq : decide ((4294967296 : Int) ≤ (q : Int)) = false := decide_eq_false (by omega)
              by_cases hm : 4294967296 * r + u0 < m
              · have tm : decide (4294967296 * (r : Int) + (u0 : Int) < (m : Int)) = true := decide_eq_true (by omega)
                obtain ⟨s1, s2, s3, s4⟩ := BLP.out.step TA.out (.inr (by rw [HM.out]; exact hm))
                have S3 : Hid (r + v1 < 4294967296 → TrialAt v1 X q2 (q - 1) (r + v1)) := s3
                have S4 : Hid (4294967296 ≤ r + v1 → q - 1 = q2) := s4
                clear s2 s3 s4
                by_cases hr : 4294967296 ≤ r + v1
                · have tr : decide ((4294967296 : Int) ≤ (r : Int) + (v1 : Int)) = true := decide_eq_true (by omega)
                  have qe : ((q : Int) - 1) = (q2 : Int) := by have := S4.out hr; omega
                  have E8 : Hid (IntKind.u64.wrap (IntKind.u64.wrap (IntKind.u64.wrap ((X : Int) * 4294967296) + (u0 : Int)) - IntKind.u64.wrap ((q2 : Int) * (Y : Int))) = (X2 : Int)) := digit_rest HY2.out HX2.out hX2
                  go_upto_region 28 with fail
                  go_wp2
                  first | rw [E8.out] | skip
                  first | rw [cast_shr X2 s] | skip
                  go_ret2
                  exact ⟨by rw [HQR.out.1, HQR.out.2]; rfl, Same.refl _⟩
                · have tr : decide ((4294967296 : Int) ≤ (r : Int) + (v1 : Int)) = false := decide_eq_false (by omega)
                  have qe : ((q : Int) - 1) = ((q - 1 : Nat) : Int) := by omega
                  go_wp2
                  go_round
                  case rel => exact ⟨q - 1, r + v1, by (first | rfl | (rw [qe]; rfl)), by go_num, S3.out (by omega)⟩
                  case measure => simp [intOf]; omega
              · have tm : decide (4294967296 * (r : Int) + (u0 : Int) < (m : Int)) = false := decide_eq_false (by omega)
                have qe : q2 = q := (BLP.out.done TA.out (by rw [HM.out]; omega)).symm
                subst qe
                have E8 : Hid (IntKind.u64.wrap (IntKind.u64.wrap (IntKind.u64.wrap ((X : Int) * 4294967296) + (u0 : Int)) - IntKind.u64.wrap ((q2 : Int) * (Y : Int))) = (X2 : Int)) := digit_rest HY2.out HX2.out hX2
                go_upto_region 28 with fail
                go_wp2
                first | rw [E8.out] | skip
                first | rw [cast_shr X2 s] | skip
                go_ret2
                exact ⟨by rw [HQR.out.1, HQR.out.2]; rfl, Same.refl _⟩
        · have tr : decide ((4294967296 : Int) ≤ (r : Int) + (v1 : Int)) = false := decide_eq_false (by omega)
          have qe : ((q : Int) - 1) = ((q - 1 : Nat) : Int) := by omega
          go_wp2
          go_round
          case rel => exact ⟨q - 1, r + v1, by (first | rfl | (rw [qe]; rfl)), by go_num, S3.out (by omega)⟩
          case measure => simp [intOf]; omega
      · have tm : decide (4294967296 * (r : Int) + (u1 : Int) < (m : Int)) = false := decide_eq_false (by omega)
        have qe : q1 = q := (LP.out.done TA.out (by rw [HM.out]; omega)).symm
        subst qe
        go_upto_region 22 with fail
        rw [E7.out]
        go_upto_region 24 with fail
        rw [E9.out]
        rw [E10.out]
        go_loop [18, 16] (fun qv rv => ∃ q r : Nat, qv = .int .u64 (q : Int) ∧ rv = .int .u64 (r : Int) ∧ TrialAt v1 X q2 q r) (fun qv _ => (intOf qv).toNat)
        case atStart => exact ⟨_, _, rfl, rfl, BST.out⟩
        case round =>
          obtain ⟨q, r, rfl, rfl, st⟩ := hrel
          have qc := st.cap
          have rl := st.low
          obtain ⟨m, HM⟩ : ∃ m, Hid (q * v0 = m) := ⟨_, rfl⟩
          have hm64 : m < 18446744073709551616 := by
            have : q * v0 ≤ 4294967297 * 4294967295 := Nat.mul_le_mul qc (by omega)
            have := HM.out
            omega
          have wm : IntKind.u64.wrap ((q : Int) * (v0 : Int)) = (m : Int) := by rw [M64.mulN, HM.out]; exact M64.wrapN _ hm64
          have TA : Hid (TrialAt v1 X q2 q r) := st
          clear st
          by_cases hq : 4294967296 ≤ q
          · have tq : decide ((4294967296 : Int) ≤ (q : Int)) = true := decide_eq_true (by omega)
            obtain ⟨s1, s2, s3, s4⟩ := BLP.out.step TA.out (.inl hq)
            have S3 : Hid (r + v1 < 4294967296 → TrialAt v1 X q2 (q - 1) (r + v1)) := s3
            have S4 : Hid (4294967296 ≤ r + v1 → q - 1 = q2) := s4
            clear s2 s3 s4
            by_cases hr : 4294967296 ≤ r + v1
            · have tr : decide ((4294967296 : Int) ≤ (r : Int) + (v1 : Int)) = true := decide_eq_true (by omega)
              have qe : ((q : Int) - 1) = (q2 : Int) := by have := S4.out hr; omega
              have E8 : Hid (IntKind.u64.wrap (IntKind.u64.wrap (IntKind.u64.wrap ((X : Int) * 4294967296) + (u0 : Int)) - IntKind.u64.wrap ((q2 : Int) * (Y : Int))) = (X2 : Int)) := digit_rest HY2.out HX2.out hX2
              go_upto_region 28 with fail
              go_wp2
              first | rw [E8.out] | skip
              first | rw [cast_shr X2 s] | skip
              go_ret2
              exact ⟨by rw [HQR.out.1, HQR.out.2]; rfl, Same.refl _⟩
            · have tr : decide ((4294967296 : Int) ≤ (r : Int) + (v1 : Int)) = false := decide_eq_false (by omega)
              have qe : ((q : Int) - 1) = ((q - 1 : Nat) : Int) := by omega
              go_wp2
              go_round
              case rel => exact ⟨q - 1, r + v1, by (first | rfl | (rw [qe]; rfl)), by go_num, S3.out (by omega)⟩
              case measure => simp [intOf]; omega
          · have tq : decide ((4294967296 : Int) ≤ (q : Int)) = false := decide_eq_false (by omega)
            by_cases hm : 4294967296 * r + u0 < m
            · have tm : decide (4294967296 * (r : Int) + (u0 : Int) < (m : Int)) = true := decide_eq_true (by omega)
              obtain ⟨s1, s2, s3, s4⟩ := BLP.out.step TA.out (.inr (by rw [HM.out]; exact hm))
              have S3 : Hid (r + v1 < 4294967296 → TrialAt v1 X q2 (q - 1) (r + v1)) := s3
              have S4 : Hid (4294967296 ≤ r + v1 → q - 1 = q2) := s4
              clear s2 s3 s4
              by_cases hr : 4294967296 ≤ r + v1
              · have tr : decide ((4294967296 : Int) ≤ (r : Int) + (v1 : Int)) = true := decide_eq_true (by omega)
                have qe : ((q : Int) - 1) = (q2 : Int) := by have := S4.out hr; omega
                have E8 : Hid (IntKind.u64.wrap (IntKind.u64.wrap (IntKind.u64.wrap ((X : Int) * 4294967296) + (u0 : Int)) - IntKind.u64.wrap ((q2 : Int) * (Y : Int))) = (X2 : Int)) := digit_rest HY2.out HX2.out hX2
                go_upto_region 28 with fail
                go_wp2
                first | rw [E8.out] | skip
                first | rw [cast_shr X2 s] | skip
                go_ret2
                exact ⟨by rw [HQR.out.1, HQR.out.2]; rfl, Same.refl _⟩
              · have tr : decide ((4294967296 : Int) ≤ (r : Int) + (v1 : Int)) = false := decide_eq_false (by omega)
                have qe : ((q : Int) - 1) = ((q - 1 : Nat) : Int) := by omega
                go_wp2
                go_round
                case rel => exact ⟨q - 1, r + v1, by (first | rfl | (rw [qe]; rfl)), by go_num, S3.out (by omega)⟩
                case measure => simp [intOf]; omega
            · have tm : decide (4294967296 * (r : Int) + (u0 : Int) < (m : Int)) = false := decide_eq_false (by omega)
              have qe : q2 = q := (BLP.out.done TA.out (by rw [HM.out]; omega)).symm
              subst qe
              have E8 : Hid (IntKind.u64.wrap (IntKind.u64.wrap (IntKind.u64.wrap ((X : Int) * 4294967296) + (u0 : Int)) - IntKind.u64.wrap ((q2 : Int) * (Y : Int))) = (X2 : Int)) := digit_rest HY2.out HX2.out hX2
              go_upto_region 28 with fail
              go_wp2
              first | rw [E8.out] | skip
              first | rw [cast_shr X2 s] | skip
              go_ret2
              exact ⟨by rw [HQR.out.1, HQR.out.2]; rfl, Same.refl _⟩
end Go.Proofs.YgcsafGreat
