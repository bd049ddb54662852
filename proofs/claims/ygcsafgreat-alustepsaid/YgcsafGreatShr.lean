/-
  'u256.Shr' (225), 'u256.Sar' (226).
-/
import Derived.Test.YgcsafGreatDown
namespace Go.Proofs.YgcsafGreat
open Go.RowKit
set_option linter.unusedVariables false
set_option linter.unusedSimpArgs false

theorem wv_ones {U : List Nat} {o : Nat} : ∀ {m : Nat}, (∀ i, i < m → U.getD (o + i) 0 = 18446744073709551615) → wv U o m + 1 = b64 ^ m
  | 0, _ => by simp [wv]
  | m + 1, h => by
    have ih := wv_ones (U := U) (o := o) (m := m) (fun i hi => h i (by omega))
    rw [wv_succ, h m (by omega), Nat.pow_succ]
    have e : b64 = 18446744073709551615 + 1 := rfl
    generalize b64 ^ m = P at *
    rw [e, Nat.mul_add]
    omega
theorem ext_split {b : Wd4} (hb : b.Ok) {d f : Nat} (hd : d < 4) : wv (extF b d f) 0 4 = b.val / b64 ^ d + b64 ^ (4 - d) * wv (extF b d f) (4 - d) d := by
  have h1 := wv_split (extF b d f) 0 (4 - d) d
  rw [show 4 - d + d = 4 by omega, Nat.zero_add] at h1
  rw [h1]
  congr 1
  have h2 : wv (extF b d f) 0 (4 - d) = wv b.l d (4 - d) := wv_congr fun j hj => by rw [Nat.zero_add, ext_low (by omega)]
  have h3 := wv_split b.l 0 d (4 - d)
  rw [show d + (4 - d) = 4 by omega, Nat.zero_add, ← Wd4.val_wv] at h3
  rw [h2, h3, Nat.add_mul_div_left _ _ (pow_b64_pos d), Nat.div_eq_of_lt (wv_lt (Wd4.lim hb) 0 d), Nat.zero_add]
theorem pow_parts {i d r : Nat} (hd : i / 64 = d) (hr : i % 64 = r) : 2 ^ i = b64 ^ d * 2 ^ r := by
  rw [b64_pow, ← Nat.pow_mul, ← Nat.pow_add]
  congr 1
  omega
theorem shr_fin {b v : Wd4} (hb : b.Ok) {i d r : Nat} (hi : i < 256) (hd : i / 64 = d) (hr : i % 64 = r) (h : v.val * 2 ^ r + (extF b d 0).getD 0 0 % 2 ^ r = wv (extF b d 0) 0 4 + b256 * (0 % 2 ^ r)) : v.val = shrW i b.val := by
  have hd4 : d < 4 := by omega
  have p : 0 < 2 ^ r := Nat.pow_pos (by omega)
  unfold shrW byW
  rw [Nat.min_eq_left (by omega), pow_parts hd hr, ← Nat.div_div_eq_div_mul]
  have hz : wv (extF b d 0) (4 - d) d = 0 := wv_zeros fun j hj => ext_high hd4 (by omega) (by omega)
  rw [ext_split hb hd4, hz, Nat.mul_zero, Nat.add_zero, Nat.zero_mod, Nat.mul_zero, Nat.add_zero] at h
  rw [← h, Nat.add_comm, Nat.add_mul_div_right _ _ p, Nat.div_eq_of_lt (Nat.mod_lt _ p), Nat.zero_add]
theorem not_div {X P R v : Nat} (hP : 0 < P) (hv : v < R * P) (hX : v / P = X) : (R * P - 1 - v) / P = R - 1 - X ∧ X < R := by
  have h1 : X < R := by rw [← hX, Nat.div_lt_iff_lt_mul hP]; exact hv
  refine ⟨?_, h1⟩
  have h2 := Nat.div_add_mod v P
  have h3 := Nat.mod_lt v hP
  rw [hX] at h2
  obtain ⟨Z, rfl⟩ : ∃ Z, R = X + 1 + Z := ⟨R - X - 1, by omega⟩
  have e : (X + 1 + Z) * P - 1 - v = (P - 1 - v % P) + P * Z := by
    rw [Nat.add_mul, Nat.add_mul, Nat.one_mul, Nat.mul_comm X P, Nat.mul_comm Z P]
    omega
  rw [e, Nat.add_mul_div_left _ _ hP, Nat.div_eq_of_lt (by omega)]
  omega
theorem sar_fin {b v : Wd4} (hb : b.Ok) (hn : isNegW b.val = true) {i d r : Nat} (hi : i < 256) (hd : i / 64 = d) (hr : i % 64 = r) (h : v.val * 2 ^ r + (extF b d 18446744073709551615).getD 0 0 % 2 ^ r = wv (extF b d 18446744073709551615) 0 4 + b256 * (18446744073709551615 % 2 ^ r)) : v.val = sarW i b.val := by
  have hd4 : d < 4 := by omega
  have p : 0 < 2 ^ r := Nat.pow_pos (by omega)
  unfold sarW byW
  rw [hn, if_pos rfl, Nat.min_eq_left (by omega), pow_parts hd hr, ← Nat.div_div_eq_div_mul]
  have hz : wv (extF b d 18446744073709551615) (4 - d) d + 1 = b64 ^ d := wv_ones fun j hj => ext_high hd4 (by omega) (by omega)
  have e4 : b64 ^ (4 - d) * b64 ^ d = b256 := by rw [← Nat.pow_add, show 4 - d + d = 4 by omega, b64_four]
  rw [ext_split hb hd4, ones_mod (by omega)] at h
  have hE := Nat.mod_lt ((extF b d 18446744073709551615).getD 0 0) p
  have hlt := Wd4.lt hb
  obtain ⟨g1, g2⟩ := not_div (pow_b64_pos d) (by rw [e4]; exact hlt) (rfl : b.val / b64 ^ d = _) (R := b64 ^ (4 - d))
  rw [e4] at g1
  rw [g1]
  have e5 : b64 ^ (4 - d) * wv (extF b d 18446744073709551615) (4 - d) d = b256 - b64 ^ (4 - d) := by
    have : b64 ^ (4 - d) * (wv (extF b d 18446744073709551615) (4 - d) d + 1) = b256 := by rw [hz, e4]
    rw [Nat.mul_add] at this
    omega
  rw [e5] at h
  have hRle : b64 ^ (4 - d) ≤ b256 := by rw [← e4]; exact Nat.le_mul_of_pos_right _ (pow_b64_pos d)
  generalize (extF b d 18446744073709551615).getD 0 0 % 2 ^ r = e at *
  generalize b.val / b64 ^ d = X at *
  generalize b64 ^ (4 - d) = R at *
  clear hz e4 e5 g1
  -- v * T + e = X + (b256 - R) + b256 * (T - 1)
  obtain ⟨Y, hY⟩ : ∃ Y, R - 1 - X = Y := ⟨_, rfl⟩
  rw [hY]
  have hX : X = R - 1 - Y := by omega
  have hYR : Y < R := by omega
  have h2 := Nat.div_add_mod Y (2 ^ r)
  have h3 := Nat.mod_lt Y p
  generalize 2 ^ r = T at *
  have hT : b256 * (T - 1) + b256 = b256 * T := by
    rw [Nat.mul_sub, Nat.mul_one]
    have : b256 * 1 ≤ b256 * T := Nat.mul_le_mul_left _ p
    omega
  have hq : Y / T < b256 := Nat.lt_of_le_of_lt (Nat.div_le_self _ _) (by omega)
  obtain ⟨C, hC⟩ : ∃ C, b256 = Y / T + 1 + C := ⟨b256 - Y / T - 1, by omega⟩
  have key : v.val * T + e = T * C + (T - 1 - Y % T) := by
    have h5 : v.val * T + e + Y + 1 = b256 * T := by omega
    have h6 : b256 * T = T * (Y / T) + T + T * C := by rw [hC, Nat.add_mul, Nat.add_mul, Nat.one_mul, Nat.mul_comm (Y / T) T, Nat.mul_comm C T]
    omega
  have e1 : (v.val * T + e) / T = v.val := by rw [Nat.mul_comm, Nat.mul_add_div p, Nat.div_eq_of_lt hE, Nat.add_zero]
  have e2 : (T * C + (T - 1 - Y % T)) / T = C := by rw [Nat.mul_add_div p, Nat.div_eq_of_lt (by omega), Nat.add_zero]
  have : v.val = C := by rw [← e1, key, e2]
  omega

theorem down_shr (w : World) (a b : Wd4) (ha : a.Ok) (hb : b.Ok) : Calls Safg.prog 335 #[a.v, b.v, .int .u64 0] w (WdRes w (shrW a.val b.val)) := by
  rcases Nat.lt_or_ge a.val 256 with h | h
  · exact down_small w a b ha hb 0 (by omega) h _ _ _ rfl rfl (fun v hv => shr_fin hb h rfl rfl hv) (fixed_zero _)
  · have := down_big w a b ha hb 0 (by omega) h
    have e : (fillW 0).val = shrW a.val b.val := by
      unfold shrW byW
      rw [Nat.min_eq_right h, ← b256_pow2, Nat.div_eq_of_lt (Wd4.lt hb)]; rfl
    rwa [e] at this
theorem down_sar0 (w : World) (a b : Wd4) (ha : a.Ok) (hb : b.Ok) (hn : isNegW b.val = false) : Calls Safg.prog 335 #[a.v, b.v, .int .u64 0] w (WdRes w (sarW a.val b.val)) := by
  have := down_shr w a b ha hb
  have e : shrW a.val b.val = sarW a.val b.val := by unfold sarW; rw [hn]; rfl
  rwa [e] at this
theorem down_sar1 (w : World) (a b : Wd4) (ha : a.Ok) (hb : b.Ok) (hn : isNegW b.val = true) : Calls Safg.prog 335 #[a.v, b.v, .int .u64 18446744073709551615] w (WdRes w (sarW a.val b.val)) := by
  rcases Nat.lt_or_ge a.val 256 with h | h
  · exact down_small w a b ha hb 18446744073709551615 (by omega) h _ _ _ rfl rfl (fun v hv => sar_fin hb hn h rfl rfl hv) (fixed_ones (by omega))
  · have := down_big w a b ha hb 18446744073709551615 (by omega) h
    have e : (fillW 18446744073709551615).val = sarW a.val b.val := by
      unfold sarW byW
      rw [hn, if_pos rfl, Nat.min_eq_right h, ← b256_pow2, Nat.div_eq_of_lt (by have := Wd4.lt hb; omega)]; rfl
    rwa [e] at this

set_option maxRecDepth 100000 in
set_option maxHeartbeats 1000000 in
theorem shr_any (w : World) (a b : Wd4) (ha : a.Ok) (hb : b.Ok) :
    Calls Safg.prog 225 #[a.v, b.v] w (WdRes w (shrW a.val b.val)) := by
  have H := fun w => down_shr w a b ha hb
  generalize shrW a.val b.val = z at *
  go_enter Safg.func225, Safg.ntmps225
  go_upto_region 1 with (first | (refine wpList_box_agg rfl 65 (.tmp 0) rfl a.cells rfl ?_; intro w1 g2 hg2 k2 c2) | (refine wpList_box_agg rfl 65 (.tmp 1) rfl b.cells rfl ?_; intro w2 g3 hg3 k3 c3; have k2 := k2.below c3 k2.lt) | (refine wpList_alloc_agg rfl 65 rfl _ Safg.zero65 ?_; intro w3 g4 hg4 k4 c4; have k2 := k2.below c4 k2.lt; have k3 := k3.below c4 k3.lt))
  have s1 := c2.size; have s2 := c3.size; have s3 := c4.size
  have bb : Below w.heap.size w w3 := c2.trans ((c3.mono s1).trans (c4.mono (by omega)))
  go_wp2_with (first | (refine wpList_load_mid rfl 65 (.tmp 2) rfl g2 0 rfl _ _ k2.cell Safg.under65 rfl Safg.size65 ?_) | (refine wpList_load_mid rfl 65 (.tmp 3) rfl g3 0 rfl _ _ k3.cell Safg.under65 rfl Safg.size65 ?_) | (go_at_call 335; refine (H _).mono ?_; rintro e w5 ⟨s, sok, hs, rfl, b5⟩; have r4 : Blk w5 g4 _ := k4.below b5 k4.lt) | (refine wpList_store_agg rfl 65 _ _ rfl g4 rfl _ s.cells rfl r4 rfl Safg.size65 (Wd4.one _) ?_; intro w7 k7 n7))
  refine bodyPost_ret (results_cell1 Safg.results225 _ w7 g4 _ _ rfl k7 Safg.under65 rfl Safg.size65) rfl ⟨s, sok, hs, rfl, bb.trans ((b5.mono bb.size).trans (n7.below (by omega)))⟩

set_option maxRecDepth 100000 in
set_option maxHeartbeats 1000000 in
theorem sar_any (w : World) (a b : Wd4) (ha : a.Ok) (hb : b.Ok) :
    Calls Safg.prog 226 #[a.v, b.v] w (WdRes w (sarW a.val b.val)) := by
  have h3 := hb.h3
  have hneg := negative_isNeg hb
  by_cases hx : 9223372036854775808 ≤ b.x3
  · rw [decide_eq_true hx] at hneg
    have H := fun w => down_sar1 w a b ha hb hneg.symm
    generalize sarW a.val b.val = z at *
    clear hneg
    go_enter Safg.func226, Safg.ntmps226
    go_upto_region 1 with (first | (refine wpList_box_agg rfl 65 (.tmp 0) rfl a.cells rfl ?_; intro w1 g2 hg2 k2 c2) | (refine wpList_box_agg rfl 65 (.tmp 1) rfl b.cells rfl ?_; intro w2 g3 hg3 k3 c3; have k2 := k2.below c3 k2.lt) | (refine wpList_alloc_agg rfl 65 rfl _ Safg.zero65 ?_; intro w3 g4 hg4 k4 c4; have k2 := k2.below c4 k2.lt; have k3 := k3.below c4 k3.lt))
    have s1 := c2.size; have s2 := c3.size; have s3 := c4.size
    have bb : Below w.heap.size w w3 := c2.trans ((c3.mono s1).trans (c4.mono (by omega)))
    have B3 := k3.get (j := 3) (v := .int .u64 (b.x3 : Int)) rfl
    have q1 : IntKind.i64.wrap (b.x3 : Int) = (b.x3 : Int) - 18446744073709551616 := by simp [IntKind.wrap, IntKind.bits, IntKind.signed]; omega
    have q2 : ((b.x3 : Int) - 18446744073709551616) / 9223372036854775808 = -1 := by omega
    generalize b.x3 = x3 at *
    go_wp2_with (first | (refine wpList_load_mid rfl 65 (.tmp 2) rfl g2 0 rfl _ _ k2.cell Safg.under65 rfl Safg.size65 ?_) | (refine wpList_load_mid rfl 65 (.tmp 3) rfl g3 0 rfl _ _ k3.cell Safg.under65 rfl Safg.size65 ?_) | (go_at_call 335; refine (H _).mono ?_; rintro e w5 ⟨s, sok, hs, rfl, b5⟩; have r4 : Blk w5 g4 _ := k4.below b5 k4.lt) | (refine wpList_store_agg rfl 65 _ _ rfl g4 rfl _ s.cells rfl r4 rfl Safg.size65 (Wd4.one _) ?_; intro w7 k7 n7))
    refine bodyPost_ret (results_cell1 Safg.results226 _ w7 g4 _ _ rfl k7 Safg.under65 rfl Safg.size65) rfl ⟨s, sok, hs, rfl, bb.trans ((b5.mono bb.size).trans (n7.below (by omega)))⟩
  · rw [decide_eq_false hx] at hneg
    have H := fun w => down_sar0 w a b ha hb hneg.symm
    generalize sarW a.val b.val = z at *
    clear hneg
    go_enter Safg.func226, Safg.ntmps226
    go_upto_region 1 with (first | (refine wpList_box_agg rfl 65 (.tmp 0) rfl a.cells rfl ?_; intro w1 g2 hg2 k2 c2) | (refine wpList_box_agg rfl 65 (.tmp 1) rfl b.cells rfl ?_; intro w2 g3 hg3 k3 c3; have k2 := k2.below c3 k2.lt) | (refine wpList_alloc_agg rfl 65 rfl _ Safg.zero65 ?_; intro w3 g4 hg4 k4 c4; have k2 := k2.below c4 k2.lt; have k3 := k3.below c4 k3.lt))
    have s1 := c2.size; have s2 := c3.size; have s3 := c4.size
    have bb : Below w.heap.size w w3 := c2.trans ((c3.mono s1).trans (c4.mono (by omega)))
    have B3 := k3.get (j := 3) (v := .int .u64 (b.x3 : Int)) rfl
    have q1 : IntKind.i64.wrap (b.x3 : Int) = (b.x3 : Int) := by simp [IntKind.wrap, IntKind.bits, IntKind.signed]; omega
    have q2 : (b.x3 : Int) / 9223372036854775808 = 0 := by omega
    generalize b.x3 = x3 at *
    go_wp2_with (first | (refine wpList_load_mid rfl 65 (.tmp 2) rfl g2 0 rfl _ _ k2.cell Safg.under65 rfl Safg.size65 ?_) | (refine wpList_load_mid rfl 65 (.tmp 3) rfl g3 0 rfl _ _ k3.cell Safg.under65 rfl Safg.size65 ?_) | (go_at_call 335; refine (H _).mono ?_; rintro e w5 ⟨s, sok, hs, rfl, b5⟩; have r4 : Blk w5 g4 _ := k4.below b5 k4.lt) | (refine wpList_store_agg rfl 65 _ _ rfl g4 rfl _ s.cells rfl r4 rfl Safg.size65 (Wd4.one _) ?_; intro w7 k7 n7))
    refine bodyPost_ret (results_cell1 Safg.results226 _ w7 g4 _ _ rfl k7 Safg.under65 rfl Safg.size65) rfl ⟨s, sok, hs, rfl, bb.trans ((b5.mono bb.size).trans (n7.below (by omega)))⟩
end Go.Proofs.YgcsafGreat
