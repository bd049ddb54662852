/-
  'u256.Shl' (224).
-/
import Derived.Test.YgcsafGreatByte
import Derived.Test.YgcsafGreatYp7
namespace Go.Proofs.YgcsafGreat
open Go.RowKit
set_option linter.unusedVariables false
set_option linter.unusedSimpArgs false

theorem b64_four : b64 ^ 4 = b256 := by
  unfold b256
  rw [show (4 : Nat) = 0 + 1 + 1 + 1 + 1 from rfl, Nat.pow_succ, Nat.pow_succ, Nat.pow_succ, Nat.pow_succ, Nat.pow_zero, Nat.one_mul, Nat.mul_assoc, Nat.mul_assoc]
theorem shl_fin {b : Wd4} {K : List Nat} {v : Wd4} {d r c s : Nat} (hK : v.l = K) (lK : Lim K) (hd : d < 4) (hs : s = 64 * d + r) (hz : ∀ j, j < d → K.getD j 0 = 0) (I : wv K d (4 - d) + b64 ^ (4 - d) * c = wv b.l 0 (4 - d) * 2 ^ r) : v.val = b.val * 2 ^ s % b256 := by
  have e1 : v.val = b64 ^ d * wv K d (4 - d) := by
    rw [Wd4.val_wv, hK, show (4 : Nat) = d + (4 - d) by omega, wv_split, wv_zeros (fun i hi => by rw [Nat.zero_add]; exact hz i hi), Nat.zero_add, Nat.zero_add]
    congr 2
    omega
  have e2 : b.val = wv b.l 0 (4 - d) + b64 ^ (4 - d) * wv b.l (4 - d) d := by
    have := wv_split b.l 0 (4 - d) d
    rw [show 4 - d + d = 4 by omega, Nat.zero_add] at this
    rw [Wd4.val_wv]; exact this
  have e3 : (2 : Nat) ^ s = b64 ^ d * 2 ^ r := by
    rw [hs, Nat.pow_add, b64_pow, ← Nat.pow_mul]
  have e4 : b64 ^ d * b64 ^ (4 - d) = b256 := by rw [← Nat.pow_add, show d + (4 - d) = 4 by omega, b64_four]
  have e5 : b.val * 2 ^ s = v.val + b256 * (c + wv b.l (4 - d) d * 2 ^ r) := by
    rw [e2, e3, e1, ← e4, Nat.add_mul]
    have i2 : b64 ^ d * (wv K d (4 - d) + b64 ^ (4 - d) * c) = b64 ^ d * (wv b.l 0 (4 - d) * 2 ^ r) := by rw [I]
    generalize wv b.l 0 (4 - d) = X at *
    generalize wv b.l (4 - d) d = Y at *
    generalize wv K d (4 - d) = Z at *
    generalize b64 ^ d = P at *
    generalize b64 ^ (4 - d) = R at *
    generalize 2 ^ r = T at *
    rw [Nat.mul_add] at i2
    rw [Nat.mul_add]
    have j1 : X * (P * T) = P * (X * T) := by rw [Nat.mul_left_comm]
    have j2 : R * Y * (P * T) = P * R * (Y * T) := by simp only [Nat.mul_comm, Nat.mul_left_comm, Nat.mul_assoc]
    rw [j1, j2, ← i2, Nat.mul_assoc P R c]
    omega
  rw [e5, Nat.add_mul_mod_self_left, Nat.mod_eq_of_lt]
  exact Wd4.lt (Lim.ok (by rw [hK]; exact lK))

/-- The carry into limb m. -/
def carryU (L : List Nat) (r : Nat) : Nat → Nat
  | 0 => 0
  | m + 1 => L.getD m 0 / 2 ^ (64 - r)

set_option maxRecDepth 100000 in
set_option maxHeartbeats 2000000 in
theorem shl_any (w : World) (a b : Wd4) (ha : a.Ok) (hb : b.Ok) :
    Calls Safg.prog 224 #[a.v, b.v] w (WdRes w (shlW a.val b.val)) := by
  have z0 : Wd4.zero.Ok := ⟨by decide, by decide, by decide, by decide⟩
  by_cases h256 : a.val < 256
  · have HB := fun w => below_small w a ha 256 (by omega) h256
    obtain ⟨d, hd⟩ : ∃ d, a.val / 64 = d := ⟨_, rfl⟩
    obtain ⟨r, hr⟩ : ∃ d, a.val % 64 = d := ⟨_, rfl⟩
    have q1 : (a.val : Int) / 64 = (d : Int) := by omega
    have q2 : (a.val : Int) % 64 = (r : Int) := by omega
    have hd4 : d < 4 := by omega
    have hr64 : r < 64 := by omega
    have hsd : a.val = 64 * d + r := by omega
    obtain ⟨z, HZ⟩ : ∃ z, Hid (shlW a.val b.val = z) := ⟨_, rfl⟩
    rw [HZ.out]
    have HF : Hid (∀ (K : List Nat) (v : Wd4) (c : Nat), v.l = K → Lim K → (∀ j, j < d → K.getD j 0 = 0) → wv K d (4 - d) + b64 ^ (4 - d) * c = wv b.l 0 (4 - d) * 2 ^ r → v.val = z) := fun K v c h1 h2 h3 h4 => by
      rw [← HZ.out, shl_fin h1 h2 hd4 hsd h3 h4]
      unfold shlW byW
      rw [Nat.min_eq_left (by omega)]
    have lb := Wd4.lim hb
    generalize a.val = i at *
    clear hd hr hsd HZ
    go_enter Safg.func224, Safg.ntmps224
    go_upto_region 5 with (first | (refine wpList_box_agg rfl 65 (.tmp 0) rfl a.cells rfl ?_; intro w1 g2 hg2 k2 c2) | (refine wpList_box_agg rfl 65 (.tmp 1) rfl b.cells rfl ?_; intro w2 g3 hg3 k3 c3; have k2 := k2.below c3 k2.lt) | (refine wpList_alloc_agg rfl 65 rfl _ Safg.zero65 ?_; first | ((fail_if_success (revert hg4)); intro w3 g4 hg4 k4 c4; have l2 := k2.lt; have l3 := k3.lt; have k2 := k2.below c4 k2.lt; have k3 := k3.below c4 k3.lt) | (intro w6 g7 hg7 k7 c7)) | (refine wpList_load_mid rfl 65 (.tmp 2) rfl g2 0 rfl _ _ k2.cell Safg.under65 rfl Safg.size65 ?_) | (go_at_call 333; refine (HB _).mono ?_; rintro e w5 ⟨rfl, b5⟩))
    have s1 := c2.size; have s2 := c3.size; have s3 := c4.size; have s5 := b5.size; have s6 := c7.size
    have t3 := k3.lt; have t4 := k4.lt; have t7 := k7.lt
    have r3 : OwnU w6 g3 b.l := Blk.ownU ((k3.below b5 k3.lt).below c7 (by omega))
    have r4 : Blk w6 g4 _ := (k4.below b5 k4.lt).below c7 (by omega)
    have r7 : OwnU w6 g7 (List.replicate 4 0) := Blk.ownU k7
    have n37 : g3 ≠ g7 := by omega
    have n47 : g4 ≠ g7 := by omega
    have bb : Below w.heap.size w w6 := c2.trans ((c3.mono s1).trans ((c4.mono (by omega)).trans ((b5.mono (by omega)).trans (c7.mono (by omega)))))
    have h7 : w.heap.size ≤ g7 := by omega
    have h4 : w.heap.size ≤ g4 := by omega
    clear c2 c3 c4 c7 b5 k2 k3 k4 k7
    go_upto_region 6 with fail
    go_loopw [8] (fun i wr => ∃ (k m : Nat) (K : List Nat), k = d + m ∧ k ≤ 4 ∧ i = .int .u64 (k : Int) ∧ OwnU wr g7 K ∧ Only g7 w6 wr ∧ Lim K ∧ K.length = 4 ∧ Hid ((∀ j, j < d → K.getD j 0 = 0) ∧ wv K d m + b64 ^ m * carryU b.l r m = wv b.l 0 m * 2 ^ r)) (fun i _ => 4 - (intOf i).toNat)
    case atStart =>
      refine ⟨d, 0, _, by omega, by omega, rfl, r7, Only.refl _ _, lim_replicate 4, rfl, fun j hj => getD_replicate 4 j, by simp [wv, carryU]⟩
    case round =>
      obtain ⟨k, m, K, hkm, hk4, rfl, own, only, lK, hK, HI⟩ := hrel
      have own3 : OwnU wr g3 b.l := r3.only only n37
      by_cases hm4 : k < 4
      · have t0 : decide ((k : Int) < 4) = true := decide_eq_true (by omega)
        have q5 : (k : Int) - (d : Int) = (m : Int) := by omega
        have cm := own3.cell m (by show m < 4; omega)
        have ck := own.cell k (by omega)
        have fk := own.free k
        have lm := lb.getD m
        have HS : Hid (∀ e c', e + b64 * c' = b.l.getD m 0 * 2 ^ r + carryU b.l r m → wv (K.set k e) d (m + 1) + b64 ^ (m + 1) * c' = wv b.l 0 (m + 1) * 2 ^ r) := by
          intro e c' h
          have := wv_set_succ (U := K) (o := d) (m := m) (by omega) e
          rw [← hkm] at this
          rw [this, wv_succ b.l, Nat.zero_add, Nat.pow_succ]
          exact up_step HI.out.2 h
        have HW : Hid (∀ e j, j < d → (K.set k e).getD j 0 = 0) := fun e j hj => by
          rw [getD_setU (by omega), if_neg (by omega)]; exact HI.out.1 j hj
        have HCS : Hid (carryU b.l r (m + 1) = b.l.getD m 0 / 2 ^ (64 - r)) := rfl
        by_cases h0 : k = d
        · have hm0 : m = 0 := by omega
          have e1 : Hid (carryU b.l r m = 0) := by show _ = _; rw [hm0]; rfl
          have t1 : decide ((d : Int) < (k : Int)) = false := decide_eq_false (by omega)
          have t2 : ¬ d < k := by omega
          have t3 : ¬ (d : Int) < (k : Int) := by omega
          obtain ⟨x, HX⟩ : ∃ x, Hid (b.l.getD m 0 = x) := ⟨_, rfl⟩
          rw [HX.out] at cm lm HS HCS
          rw [e1.out] at HS
          obtain ⟨f1, f2, f3, f4⟩ := up_limb lm hr64 (c := 0) (Nat.pow_pos (by omega))
          rw [Nat.add_zero] at f2 f4
          obtain ⟨y, HY⟩ : ∃ y, Hid (x * 2 ^ r % 18446744073709551616 = y) := ⟨_, rfl⟩
          have E1 : Hid (IntKind.u64.wrap ((x : Int) * 2 ^ r) = (y : Int)) := by show _ = _; rw [wrap_shl, HY.out]
          rw [HY.out] at f2 f4
          have F4 : Hid (wv (K.set k y) d (m + 1) + b64 ^ (m + 1) * carryU b.l r (m + 1) = wv b.l 0 (m + 1) * 2 ^ r) := by
            show _ = _
            rw [HCS.out]; exact HS.out y _ f4
          have HKM : Hid (k = d + m) := hkm
          clear f1 f3 f4 HS HCS HX HY e1 h0 hm0 hkm
          go_upto_region 9 with fail
          rw [E1.out]
          go_wp2
          go_roundw
          case rel =>
            exact ⟨k + 1, m + 1, K.set k y, by have := HKM.out; omega, by omega, by go_num, own.set (by omega) y, only.setCell _ _, lK.set _ f2, by simpa using hK, HW.out y, F4.out⟩
          case measure => simp [intOf]; omega
        · obtain ⟨n, hn⟩ : ∃ n, m = n + 1 := ⟨m - 1, by omega⟩
          subst hn
          have t1 : decide ((d : Int) < (k : Int)) = true := decide_eq_true (by omega)
          have t2 : d < k := by omega
          have t3 : (d : Int) < (k : Int) := by omega
          have q6 : ((n + 1 : Nat) : Int) - 1 = (n : Int) := by omega
          have q7 : (n : Int) + 1 - 1 = (n : Int) := by omega
          have q8 : (64 : Int) - (r : Int) = ((64 - r : Nat) : Int) := by omega
          have cn := own3.cell n (by show n < 4; omega)
          have ln := lb.getD n
          have hc : carryU b.l r (n + 1) = b.l.getD n 0 / 2 ^ (64 - r) := rfl
          obtain ⟨x, HX⟩ : ∃ x, Hid (b.l.getD (n + 1) 0 = x) := ⟨_, rfl⟩
          rw [HX.out] at cm lm HS HCS
          obtain ⟨y, HYN⟩ : ∃ x, Hid (b.l.getD n 0 = x) := ⟨_, rfl⟩
          rw [HYN.out] at cn ln hc
          rw [hc] at HS
          have gc := (up_limb ln hr64 (c := 0) (Nat.pow_pos (by omega))).2.2.1
          obtain ⟨f1, f2, f3, f4⟩ := up_limb lm hr64 gc
          obtain ⟨v, HV⟩ : ∃ v, Hid (x * 2 ^ r % 18446744073709551616 = v) := ⟨_, rfl⟩
          obtain ⟨c, HC⟩ : ∃ v, Hid (y / 2 ^ (64 - r) = v) := ⟨_, rfl⟩
          obtain ⟨u, HU⟩ : ∃ v, Hid (x * 2 ^ r % 18446744073709551616 + y / 2 ^ (64 - r) = v) := ⟨_, rfl⟩
          have E1 : Hid (IntKind.u64.wrap ((x : Int) * 2 ^ r) = (v : Int)) := by show _ = _; rw [wrap_shl, HV.out]
          have E2 : ((y : Int) / 2 ^ (64 - r)) = (c : Int) := by rw [cast_shr, HC.out]
          rw [HU.out] at f1 f2 f4
          rw [HV.out, HC.out] at f1
          have F4 : Hid (wv (K.set k u) d (n + 1 + 1) + b64 ^ (n + 1 + 1) * carryU b.l r (n + 1 + 1) = wv b.l 0 (n + 1 + 1) * 2 ^ r) := by
            show _ = _
            rw [HCS.out]; exact HS.out u _ f4
          have HKM : Hid (k = d + (n + 1)) := hkm
          clear f3 f4 HS HCS HX HYN gc hc HV HC HU h0 hkm
          go_upto_region 9 with fail
          rw [E1.out]
          have own1 := own.set (k := k) (by omega) v
          have only1 := only.setCell k (.int .u64 (v : Int))
          have own31 := r3.only only1 n37
          have ck1 := own1.cell k (by simpa using (show k < K.length by omega))
          rw [getD_setU (by omega), if_pos rfl] at ck1
          have fk1 := own1.free k
          have cn1 : (wr.setCell ⟨g7, k, none⟩ (.int .u64 (v : Int))).cell? ⟨g3, n, none⟩ = some (.int .u64 (y : Int)) := by rw [cell_far n37]; exact cn
          generalize wr.setCell ⟨g7, k, none⟩ (.int .u64 (v : Int)) = wr1 at *
          go_upto_region 10 with fail
          go_region
          have own2 := own1.set (k := k) (by simpa using (show k < K.length by omega)) u
          rw [List.set_set] at own2
          have only2 := only1.setCell k (.int .u64 (u : Int))
          have own3 := own2.same (Same.drew _)
          have only3 := only2.trans ((Same.drew _).only g7)
          generalize (wr1.setCell ⟨g7, k, none⟩ (.int .u64 (u : Int))).drew = wr2 at *
          go_wp2
          go_roundw
          case rel =>
            exact ⟨k + 1, n + 1 + 1, K.set k u, by have := HKM.out; omega, by omega, by go_num, own3, only3, lK.set _ f2, by simpa using hK, HW.out u, F4.out⟩
          case measure => simp [intOf]; omega
      · have hk : k = 4 := by omega
        subst hk
        have hm : m = 4 - d := by omega
        subst hm
        obtain ⟨v, hv⟩ := list4 hK
        have vz := HF.out K v _ hv lK HI.out.1 HI.out.2
        have VZ : Hid (v.val = z) := vz
        have vok : v.Ok := Lim.ok (by rw [hv]; exact lK)
        have k7 : Blk wr g7 v.cells := by
          have := own.blk
          rw [← hv] at this
          exact this
        have k4 : Blk wr g4 _ := only.blk r4 n47
        clear vz HI HF hv hkm
        go_wp2_with (first | (refine wpList_load_mid rfl 65 (.tmp 7) rfl g7 0 rfl _ _ k7.cell Safg.under65 rfl Safg.size65 ?_) | (refine wpList_store_agg rfl 65 _ _ rfl g4 rfl _ v.cells rfl k4 rfl Safg.size65 (Wd4.one _) ?_; intro w9 k9 n9))
        refine bodyPost_ret (results_cell1 Safg.results224 _ w9 g4 _ _ rfl k9 Safg.under65 rfl Safg.size65) rfl ⟨v, vok, VZ.out, rfl, bb.trans ((only.below (by omega)).trans (n9.below (by omega)))⟩
  · have HB := fun w => below_big w a ha 256 (by omega) (by omega)
    have e : shlW a.val b.val = 0 := by
      unfold shlW byW
      rw [Nat.min_eq_right (by omega), ← b256_pow2, Nat.mul_mod_left]
    rw [e]
    clear h256 e
    go_enter Safg.func224, Safg.ntmps224
    go_upto_region 3 with (first | (refine wpList_box_agg rfl 65 (.tmp 0) rfl a.cells rfl ?_; intro w1 g2 hg2 k2 c2) | (refine wpList_box_agg rfl 65 (.tmp 1) rfl b.cells rfl ?_; intro w2 g3 hg3 k3 c3; have k2 := k2.below c3 k2.lt) | (refine wpList_alloc_agg rfl 65 rfl _ Safg.zero65 ?_; intro w3 g4 hg4 k4 c4; have l2 := k2.lt; have l3 := k3.lt; have k2 := k2.below c4 k2.lt; have k3 := k3.below c4 k3.lt) | (refine wpList_load_mid rfl 65 (.tmp 2) rfl g2 0 rfl _ _ k2.cell Safg.under65 rfl Safg.size65 ?_) | (go_at_call 333; refine (HB _).mono ?_; rintro e w5 ⟨x, rfl, b5⟩))
    have s1 := c2.size; have s2 := c3.size; have s3 := c4.size; have s5 := b5.size
    have r4 : Blk w5 g4 _ := k4.below b5 k4.lt
    have bb : Below w.heap.size w w5 := c2.trans ((c3.mono s1).trans ((c4.mono (by omega)).trans (b5.mono (by omega))))
    go_wp2_with (refine wpList_store_agg rfl 65 _ _ rfl g4 rfl _ Wd4.zero.cells rfl r4 rfl Safg.size65 (Wd4.one _) ?_; intro w7 k7 n7)
    refine bodyPost_ret (results_cell1 Safg.results224 _ w7 g4 _ _ rfl k7 Safg.under65 rfl Safg.size65) rfl ⟨Wd4.zero, z0, rfl, rfl, bb.trans (n7.below (by omega))⟩
end Go.Proofs.YgcsafGreat
