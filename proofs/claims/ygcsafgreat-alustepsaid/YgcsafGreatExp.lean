/-
  'u256.Exp' (212).
-/
import Derived.Test.YgcsafGreatSext
import Derived.Test.YgcsafGreatSquare
namespace Go.Proofs.YgcsafGreat
open Go.RowKit
set_option linter.unusedVariables false
set_option linter.unusedSimpArgs false

theorem and_one64 (x b : Nat) (hx : x < 18446744073709551616) : bits .and .u64 ((x : Int) / 2 ^ b) 1 = ((x / 2 ^ b % 2 : Nat) : Int) := by
  have h1 : x / 2 ^ b ≤ x := Nat.div_le_self _ _
  have e : (x : Int) / 2 ^ b = ((x / 2 ^ b : Nat) : Int) := by simp
  rw [e, show (1 : Int) = ((1 : Nat) : Int) from rfl, u64_and_nat _ _ (by omega) (by omega)]
  rw [show (1 : Nat) = 2 ^ 1 - 1 from rfl, Nat.and_two_pow_sub_one_eq_mod]
theorem bit_limb {b : Wd4} (hb : b.Ok) {k : Nat} (hk : k < 256) : b.l.getD (k / 64) 0 / 2 ^ (k % 64) % 2 = b.val / 2 ^ k % 2 := by
  have hx := limb_div hb (k := k / 64) (by omega)
  have m := (mod_low (Z := b.val / b64 ^ (k / 64)) (q := k % 64) (by omega)).2
  rw [hx] at m
  rw [← m, Nat.div_div_eq_div_mul, ← pow_parts rfl rfl]
theorem top_limb {b : Wd4} (hb : b.Ok) {n : Nat} (hn : 1 ≤ n) (h : IsLimbs b.l n) : n ≤ 4 ∧ 1 ≤ Lib.bitLen (b.l.getD (n - 1) 0) ∧ Lib.bitLen (b.l.getD (n - 1) 0) ≤ 64 ∧ 2 ^ (64 * (n - 1) + Lib.bitLen (b.l.getD (n - 1) 0) - 1) ≤ b.val ∧ b.val < 2 ^ (64 * (n - 1) + Lib.bitLen (b.l.getD (n - 1) 0)) := by
  have hn4 : n ≤ 4 := h.le
  have hx := (Wd4.lim hb).getD (n - 1)
  have ht := h.top (by omega)
  obtain ⟨l1, l2, l3, l4⟩ := bitLen_pos _ hx ht
  have hv : b.val = wv b.l 0 (n - 1) + b64 ^ (n - 1) * b.l.getD (n - 1) 0 := by
    rw [Wd4.val_wv, wv_drop (n := n) hn4 (fun i h1 h2 => h.zero i h1)]
    obtain ⟨m, rfl⟩ : ∃ m, n = m + 1 := ⟨n - 1, by omega⟩
    rw [Nat.add_sub_cancel, wv_succ, Nat.zero_add]
  have hlow := wv_lt (Wd4.lim hb) 0 (n - 1)
  have e1 : (2 : Nat) ^ (64 * (n - 1) + Lib.bitLen (b.l.getD (n - 1) 0) - 1) = b64 ^ (n - 1) * 2 ^ (Lib.bitLen (b.l.getD (n - 1) 0) - 1) := by
    rw [b64_pow, ← Nat.pow_mul, ← Nat.pow_add]; congr 1; omega
  have e2 : (2 : Nat) ^ (64 * (n - 1) + Lib.bitLen (b.l.getD (n - 1) 0)) = b64 ^ (n - 1) * 2 ^ (Lib.bitLen (b.l.getD (n - 1) 0)) := by
    rw [b64_pow, ← Nat.pow_mul, ← Nat.pow_add]
  refine ⟨hn4, l1, l2, ?_, ?_⟩
  · rw [e1, hv]
    exact Nat.le_trans (Nat.mul_le_mul_left _ l3) (Nat.le_add_left _ _)
  · rw [e2, hv]
    have : b64 ^ (n - 1) * (b.l.getD (n - 1) 0 + 1) ≤ b64 ^ (n - 1) * 2 ^ (Lib.bitLen (b.l.getD (n - 1) 0)) := Nat.mul_le_mul_left _ l4
    rw [Nat.mul_add, Nat.mul_one] at this
    omega
theorem exp_bit {A B k p a m : Nat} (hp : p = A ^ (B % 2 ^ k) % m) (ha : a = A ^ (2 ^ k) % m) (hbit : B / 2 ^ k % 2 = 1) : p * a % m = A ^ (B % 2 ^ (k + 1)) % m := by
  rw [hp, ha, ← Nat.mul_mod, ← Nat.pow_add, Nat.pow_succ 2 k, Nat.mod_mul, hbit, Nat.mul_one]
theorem exp_nobit {A B k p m : Nat} (hp : p = A ^ (B % 2 ^ k) % m) (hbit : ¬ B / 2 ^ k % 2 = 1) : p = A ^ (B % 2 ^ (k + 1)) % m := by
  have : B / 2 ^ k % 2 = 0 := by omega
  rw [hp, Nat.pow_succ 2 k, Nat.mod_mul, this, Nat.mul_zero, Nat.add_zero]
theorem exp_sq {A k a m : Nat} (ha : a = A ^ (2 ^ k) % m) : a * a % m = A ^ (2 ^ (k + 1)) % m := by
  rw [ha, ← Nat.mul_mod, ← Nat.pow_add, Nat.pow_succ, Nat.mul_two]
theorem exp_zero {A B k m : Nat} (h : A ^ (2 ^ k) % m = 0) (hB : 2 ^ k ≤ B) : A ^ B % m = 0 := by
  obtain ⟨C, rfl⟩ : ∃ C, B = 2 ^ k + C := ⟨B - 2 ^ k, by omega⟩
  rw [Nat.pow_add, Nat.mul_mod, h, Nat.zero_mul, Nat.zero_mod]
theorem exp_last {A B k p a m : Nat} (hp : p = A ^ (B % 2 ^ k) % m) (ha : a = A ^ (2 ^ k) % m) (h1 : 2 ^ k ≤ B) (h2 : B < 2 ^ (k + 1)) : p * a % m = A ^ B % m := by
  have hq : B / 2 ^ k = 1 := by
    have p0 : 0 < 2 ^ k := Nat.pow_pos (by omega)
    have a1 : 1 ≤ B / 2 ^ k := (Nat.le_div_iff_mul_le p0).2 (by omega)
    have a2 : B / 2 ^ k < 2 := (Nat.div_lt_iff_lt_mul p0).2 (by rw [Nat.pow_succ] at h2; omega)
    omega
  have := Nat.div_add_mod B (2 ^ k)
  rw [hq, Nat.mul_one] at this
  rw [hp, ha, ← Nat.mul_mod, ← Nat.pow_add, Nat.add_comm (B % 2 ^ k), this]

set_option maxRecDepth 100000 in
set_option maxHeartbeats 4000000 in
theorem exp_any (w : World) (a b : Wd4) (ha : a.Ok) (hb : b.Ok) :
    Calls Safg.prog 212 #[a.v, b.v] w (WdRes w (a.val ^ b.val % b256)) := by
  have z0 : Wd4.zero.Ok := ⟨by decide, by decide, by decide, by decide⟩
  have z1 : Wd4.Ok ⟨1, 0, 0, 0⟩ := ⟨by decide, by decide, by decide, by decide⟩
  obtain ⟨n, hn⟩ := limbs_of b.l
  have HL : ∀ w, Calls Safg.prog 187 #[b.v] w fun e w' => e = .returned (.int .u8 (n : Int)) ∧ Below w.heap.size w w' := fun w =>
    (limbs_any w b hb).mono fun e w' ⟨m, _, h1, h2, h3⟩ => ⟨by rw [h2, IsLimbs.unique h1 hn], h3⟩
  obtain ⟨z, HZ⟩ : ∃ z, Hid (a.val ^ b.val % b256 = z) := ⟨_, rfl⟩
  rw [HZ.out]
  rcases Nat.eq_zero_or_pos n with h0 | h0
  · subst h0
    have e : z = 1 := by rw [← HZ.out, limbs_zero hn, Nat.pow_zero]; rfl
    subst e
    clear hn HZ
    go_enter Safg.func212, Safg.ntmps212
    go_upto_region 4 with (first | (refine wpList_box_agg rfl 65 (.tmp 0) rfl a.cells rfl ?_; intro w1 g2 hg2 k2 c2) | (refine wpList_box_agg rfl 65 (.tmp 1) rfl b.cells rfl ?_; intro w2 g3 hg3 k3 c3; have d2 := k2.lt; have k2 := k2.below c3 k2.lt) | (refine wpList_alloc_agg rfl 65 rfl _ Safg.zero65 ?_; first | ((fail_if_success (revert hg4)); intro w3 g4 hg4 k4 c4; have e2 := k2.lt; have e3 := k3.lt; have k2 := k2.below c4 k2.lt; have k3 := k3.below c4 k3.lt) | (intro w4 g5 hg5 k5 c5; have l2 := k2.lt; have l3 := k3.lt; have l4 := k4.lt; have k2 := k2.below c5 k2.lt; have k3 := k3.below c5 k3.lt; have k4 := k4.below c5 k4.lt)) | (refine wpList_store_agg rfl 65 _ _ rfl g5 rfl _ (Wd4.cells ⟨1, 0, 0, 0⟩) rfl k5 rfl Safg.size65 (Wd4.one _) ?_; intro w5 k5' o5; have k2 := o5.blk k2 (by omega); have k3 := o5.blk k3 (by omega); have k4 := o5.blk k4 (by omega)) | (refine wpList_load_mid rfl 65 (.tmp 3) rfl g3 0 rfl _ _ k3.cell Safg.under65 rfl Safg.size65 ?_) | (go_at_call 187; refine (HL _).mono ?_; rintro e w6 ⟨rfl, b6⟩))
    have s1 := c2.size; have s2 := c3.size; have s3 := c4.size; have s4 := c5.size; have s5 := o5.size; have s6 := b6.size
    have r4 : Blk w6 g4 _ := k4.below b6 k4.lt
    have r5 : Blk w6 g5 _ := k5'.below b6 k5'.lt
    have bb : Below w.heap.size w w6 := c2.trans ((c3.mono s1).trans ((c4.mono (by omega)).trans ((c5.mono (by omega)).trans ((o5.below (by omega)).trans (b6.mono (by omega))))))
    go_wp2_with (first | (refine wpList_load_mid rfl 65 (.tmp 5) rfl g5 0 rfl _ _ r5.cell Safg.under65 rfl Safg.size65 ?_) | (refine wpList_store_agg rfl 65 _ _ rfl g4 rfl _ (Wd4.cells ⟨1, 0, 0, 0⟩) rfl r4 rfl Safg.size65 (Wd4.one _) ?_; intro w7 k7 n7))
    refine bodyPost_ret (results_cell1 Safg.results212 _ w7 g4 _ _ rfl k7 Safg.under65 rfl Safg.size65) rfl ⟨⟨1, 0, 0, 0⟩, z1, rfl, rfl, bb.trans (n7.below (by omega))⟩
  · obtain ⟨hn4, L1, L2, T1, T2⟩ := top_limb hb h0 hn
    have lb := Wd4.lim hb
    have htop := lb.getD (n - 1)
    obtain ⟨x, HX⟩ : ∃ x, Hid (b.l.getD (n - 1) 0 = x) := ⟨_, rfl⟩
    rw [HX.out] at L1 L2 T1 T2 htop
    have HLEN := fun w => Len64_any w x htop
    obtain ⟨L, HLL⟩ : ∃ L, Hid (Lib.bitLen x = L) := ⟨_, rfl⟩
    rw [HLL.out] at L1 L2 T1 T2
    simp only [HLL.out] at HLEN
    obtain ⟨la, hla⟩ : ∃ la, 64 * (n - 1) + L - 1 = la := ⟨_, rfl⟩
    have hla2 : 64 * (n - 1) + L = la + 1 := by omega
    rw [hla] at T1
    rw [hla2] at T2
    have HT1 : Hid (2 ^ la ≤ b.val) := T1
    have HT2 : Hid (b.val < 2 ^ (la + 1)) := T2
    have hla256 : la < 256 := by omega
    have q0 : ((n : Int) == 0) = false := by simp; omega
    obtain ⟨m, hm⟩ : ∃ m, n - 1 = m := ⟨_, rfl⟩
    have q1 : (n : Int) - 1 = (m : Int) := by omega
    have q2 : 64 * (m : Int) + (L : Int) - 1 = (la : Int) := by omega
    have hm4 : m < 4 := by omega
    rw [hm] at HX
    clear T1 T2 hla hla2 hm hn htop
    go_enter Safg.func212, Safg.ntmps212
    go_upto_region 5 with (first | (refine wpList_box_agg rfl 65 (.tmp 0) rfl a.cells rfl ?_; intro w1 g2 hg2 k2 c2) | (refine wpList_box_agg rfl 65 (.tmp 1) rfl b.cells rfl ?_; intro w2 g3 hg3 k3 c3; have d2 := k2.lt; have k2 := k2.below c3 k2.lt) | (refine wpList_alloc_agg rfl 65 rfl _ Safg.zero65 ?_; first | ((fail_if_success (revert hg4)); intro w3 g4 hg4 k4 c4; have e2 := k2.lt; have e3 := k3.lt; have k2 := k2.below c4 k2.lt; have k3 := k3.below c4 k3.lt) | (intro w4 g5 hg5 k5 c5; have l2 := k2.lt; have l3 := k3.lt; have l4 := k4.lt; have k2 := k2.below c5 k2.lt; have k3 := k3.below c5 k3.lt; have k4 := k4.below c5 k4.lt)) | (refine wpList_store_agg rfl 65 _ _ rfl g5 rfl _ (Wd4.cells ⟨1, 0, 0, 0⟩) rfl k5 rfl Safg.size65 (Wd4.one _) ?_; intro w5 k5' o5; have k2 := o5.blk k2 (by omega); have k3 := o5.blk k3 (by omega); have k4 := o5.blk k4 (by omega)) | (refine wpList_load_mid rfl 65 (.tmp 3) rfl g3 0 rfl _ _ k3.cell Safg.under65 rfl Safg.size65 ?_) | (go_at_call 187; refine (HL _).mono ?_; rintro e w6 ⟨rfl, b6⟩))
    have s1 := c2.size; have s2 := c3.size; have s3 := c4.size; have s4 := c5.size; have s5 := o5.size; have s6 := b6.size
    have r2 : Blk w6 g2 a.cells := k2.below b6 k2.lt
    have r3 : Blk w6 g3 b.cells := k3.below b6 k3.lt
    have r4 : Blk w6 g4 _ := k4.below b6 k4.lt
    have r5 : Blk w6 g5 (Wd4.cells ⟨1, 0, 0, 0⟩) := k5'.below b6 k5'.lt
    have bb : Below w.heap.size w w6 := c2.trans ((c3.mono s1).trans ((c4.mono (by omega)).trans ((c5.mono (by omega)).trans ((o5.below (by omega)).trans (b6.mono (by omega))))))
    have n23 : g2 ≠ g3 := by omega
    have n24 : g2 ≠ g4 := by omega
    have n25 : g2 ≠ g5 := by omega
    have n35 : g3 ≠ g5 := by omega
    have n45 : g4 ≠ g5 := by omega
    have h2 : w.heap.size ≤ g2 := by omega
    have h4 : w.heap.size ≤ g4 := by omega
    have h5 : w.heap.size ≤ g5 := by omega
    clear c2 c3 c4 c5 o5 b6 k2 k3 k4 k5 k5'
    have cm := (show OwnU w6 g3 b.l from Blk.ownU r3).cell m hm4
    rw [HX.out] at cm
    go_upto_region 7 with (go_at_call 188; refine (HLEN _).mono ?_; rintro e w7 ⟨rfl, hw⟩; subst hw)
    go_loopw [8] (fun kv wr => ∃ (k : Nat) (P A : Wd4), k ≤ la ∧ kv = .int .i64 k ∧ Blk wr g5 P.cells ∧ Blk wr g2 A.cells ∧ Blk wr g3 b.cells ∧ Blk wr g4 Wd4.zero.cells ∧ P.Ok ∧ A.Ok ∧ Below w.heap.size w wr ∧ Hid (P.val = a.val ^ (b.val % 2 ^ k) % b256 ∧ A.val = a.val ^ (2 ^ k) % b256)) (fun kv _ => la - (intOf kv).toNat)
    case atStart =>
      refine ⟨0, ⟨1, 0, 0, 0⟩, a, Nat.zero_le _, rfl, r5, r2, r3, r4, z1, ha, bb, ?_, ?_⟩
      · rw [Nat.pow_zero, Nat.mod_one, Nat.pow_zero]; rfl
      · rw [Nat.pow_zero, Nat.pow_one, Nat.mod_eq_of_lt (Wd4.lt ha)]
    case round =>
      obtain ⟨k, P, A, hk, rfl, B5, B2, B3, B4, okP, okA, br, HI⟩ := hrel
      by_cases hlt : k < la
      · have t0 : decide ((k : Int) < (la : Int)) = true := decide_eq_true (by omega)
        obtain ⟨j, hj⟩ : ∃ j, k / 64 = j := ⟨_, rfl⟩
        obtain ⟨r, hr⟩ : ∃ j, k % 64 = j := ⟨_, rfl⟩
        have q3 : (k : Int) / 64 = (j : Int) := by omega
        have q4 : (k : Int) % 64 = (r : Int) := by omega
        have q5 : Int.tdiv (k : Int) 64 = (j : Int) := by rw [Int.tdiv_eq_ediv_of_nonneg (by omega)]; exact q3
        have q6 : Int.tmod (k : Int) 64 = (r : Int) := by rw [Int.tmod_eq_emod_of_nonneg (by omega)]; exact q4
        have hj4 : j < 4 := by omega
        have hr64 : r < 64 := by omega
        have cj := (show OwnU wr g3 b.l from Blk.ownU B3).cell j hj4
        have lj := lb.getD j
        have hbl := bit_limb hb (k := k) (by omega)
        rw [hj, hr] at hbl
        have HA := and_one64 (b.l.getD j 0) r lj
        rw [hbl] at HA
        obtain ⟨y, HY⟩ : ∃ y, Hid (b.l.getD j 0 = y) := ⟨_, rfl⟩
        rw [HY.out] at cj lj HA
        have HZR : Hid (∀ S : Wd4, S.val = A.val * A.val % b256 → S.val = a.val ^ (2 ^ (k + 1)) % b256) := fun S h => by rw [h]; exact exp_sq HI.out.2
        have HZ0 : Hid (∀ S : Wd4, S.val = A.val * A.val % b256 → S.val = 0 → z = 0) := fun S h h' => by
          have e := HZR.out S h
          rw [h'] at e
          rw [← HZ.out]
          exact exp_zero e.symm (Nat.le_trans (Nat.pow_le_pow_right (by omega) (by omega)) HT1.out)
        have HSQ := fun w => square_any w A okA
        clear hj hr hbl q3 HY
        by_cases hbit : b.val / 2 ^ k % 2 = 1
        · rw [hbit] at HA
          have HP : Hid (∀ S : Wd4, S.val = P.val * A.val % b256 → S.val = a.val ^ (b.val % 2 ^ (k + 1)) % b256) := fun S h => by rw [h]; exact exp_bit HI.out.1 HI.out.2 hbit
          clear hbit
          go_upto_region 12 with (first | (refine wpList_load_mid rfl 65 (.tmp 5) rfl g5 0 rfl _ _ B5.cell Safg.under65 rfl Safg.size65 ?_) | (refine wpList_load_mid rfl 65 (.tmp 2) rfl g2 0 rfl _ _ B2.cell Safg.under65 rfl Safg.size65 ?_) | (go_at_call 56; refine (mulW_any _ P A okP okA).mono ?_; rintro e w8 ⟨P2, okP2, vP2, rfl, b8⟩; have B5 := B5.below b8 B5.lt; have B2 := B2.below b8 B2.lt; have B3 := B3.below b8 B3.lt; have B4 := B4.below b8 B4.lt; have br := br.trans (b8.mono br.size)) | (refine wpList_store_agg rfl 65 _ _ rfl g5 rfl _ P2.cells rfl B5 rfl Safg.size65 (Wd4.one _) ?_; intro w9 B5 o9; have B2 := o9.blk B2 n25; have B3 := o9.blk B3 n35; have B4 := o9.blk B4 n45; have br := br.trans (o9.below h5)) | (go_at_call 332; refine (HSQ _).mono ?_; rintro e w10 ⟨A2, okA2, vA2, rfl, b10⟩; have B5 := B5.below b10 B5.lt; have B2 := B2.below b10 B2.lt; have B3 := B3.below b10 B3.lt; have B4 := B4.below b10 B4.lt; have br := br.trans (b10.mono br.size)) | (refine wpList_store_agg rfl 65 _ _ rfl g2 rfl _ A2.cells rfl B2 rfl Safg.size65 (Wd4.one _) ?_; intro w11 B2 o11; have B5 := o11.blk B5 (Ne.symm n25); have B3 := o11.blk B3 (Ne.symm n23); have B4 := o11.blk B4 (Ne.symm n24); have br := br.trans (o11.below h2)))
          have VP := HP.out P2 vP2
          have VA := HZR.out A2 vA2
          have HV : Hid (P2.val = a.val ^ (b.val % 2 ^ (k + 1)) % b256 ∧ A2.val = a.val ^ (2 ^ (k + 1)) % b256) := ⟨VP, VA⟩
          have HZ1 : Hid (A2.val = 0 → z = 0) := HZ0.out A2 vA2
          clear VP VA vP2 vA2 HP HZR HZ0 HSQ HI
          by_cases hz : A2.val = 0
          · have HIZ := fun w => isZero_any w A2 okA2
            simp only [hz, decide_true] at HIZ
            have ez := HZ1.out hz
            subst ez
            clear hz HZ1 HV
            go_wp2_with (first | (refine wpList_load_mid rfl 65 (.tmp 2) rfl g2 0 rfl _ _ B2.cell Safg.under65 rfl Safg.size65 ?_) | (go_at_call 205; refine (HIZ _).mono ?_; rintro e w12 ⟨rfl, b12⟩; have B4 := B4.below b12 B4.lt; have br := br.trans (b12.mono br.size)) | (refine wpList_store_agg rfl 65 _ _ rfl g4 rfl _ Wd4.zero.cells rfl B4 rfl Safg.size65 (Wd4.one _) ?_; intro w13 k13 o13))
            refine bodyPost_ret (results_cell1 Safg.results212 _ w13 g4 _ _ rfl k13 Safg.under65 rfl Safg.size65) rfl ⟨Wd4.zero, z0, rfl, rfl, br.trans (o13.below h4)⟩
          · have HIZ := fun w => isZero_any w A2 okA2
            simp only [hz, decide_false] at HIZ
            clear hz HZ1
            go_wp2_with (first | (refine wpList_load_mid rfl 65 (.tmp 2) rfl g2 0 rfl _ _ B2.cell Safg.under65 rfl Safg.size65 ?_) | (go_at_call 205; refine (HIZ _).mono ?_; rintro e w12 ⟨rfl, b12⟩; have B5 := B5.below b12 B5.lt; have B2 := B2.below b12 B2.lt; have B3 := B3.below b12 B3.lt; have B4 := B4.below b12 B4.lt; have br := br.trans (b12.mono br.size)))
            go_roundw
            case rel => exact ⟨k + 1, P2, A2, by omega, by go_num, B5, B2, B3, B4, okP2, okA2, br, HV.out⟩
            case measure => simp [intOf]; omega
        · have hb0 : b.val / 2 ^ k % 2 = 0 := by omega
          rw [hb0] at HA
          have HP : Hid (P.val = a.val ^ (b.val % 2 ^ (k + 1)) % b256) := exp_nobit HI.out.1 hbit
          clear hbit hb0
          go_upto_region 12 with (first | (refine wpList_load_mid rfl 65 (.tmp 5) rfl g5 0 rfl _ _ B5.cell Safg.under65 rfl Safg.size65 ?_) | (refine wpList_load_mid rfl 65 (.tmp 2) rfl g2 0 rfl _ _ B2.cell Safg.under65 rfl Safg.size65 ?_) | (go_at_call 332; refine (HSQ _).mono ?_; rintro e w10 ⟨A2, okA2, vA2, rfl, b10⟩; have B5 := B5.below b10 B5.lt; have B2 := B2.below b10 B2.lt; have B3 := B3.below b10 B3.lt; have B4 := B4.below b10 B4.lt; have br := br.trans (b10.mono br.size)) | (refine wpList_store_agg rfl 65 _ _ rfl g2 rfl _ A2.cells rfl B2 rfl Safg.size65 (Wd4.one _) ?_; intro w11 B2 o11; have B5 := o11.blk B5 (Ne.symm n25); have B3 := o11.blk B3 (Ne.symm n23); have B4 := o11.blk B4 (Ne.symm n24); have br := br.trans (o11.below h2)))
          have VP := HP.out
          have VA := HZR.out A2 vA2
          have HV : Hid (P.val = a.val ^ (b.val % 2 ^ (k + 1)) % b256 ∧ A2.val = a.val ^ (2 ^ (k + 1)) % b256) := ⟨VP, VA⟩
          have HZ1 : Hid (A2.val = 0 → z = 0) := HZ0.out A2 vA2
          clear VP VA vA2 HP HZR HZ0 HSQ HI
          by_cases hz : A2.val = 0
          · have HIZ := fun w => isZero_any w A2 okA2
            simp only [hz, decide_true] at HIZ
            have ez := HZ1.out hz
            subst ez
            clear hz HZ1 HV
            go_wp2_with (first | (refine wpList_load_mid rfl 65 (.tmp 2) rfl g2 0 rfl _ _ B2.cell Safg.under65 rfl Safg.size65 ?_) | (go_at_call 205; refine (HIZ _).mono ?_; rintro e w12 ⟨rfl, b12⟩; have B4 := B4.below b12 B4.lt; have br := br.trans (b12.mono br.size)) | (refine wpList_store_agg rfl 65 _ _ rfl g4 rfl _ Wd4.zero.cells rfl B4 rfl Safg.size65 (Wd4.one _) ?_; intro w13 k13 o13))
            refine bodyPost_ret (results_cell1 Safg.results212 _ w13 g4 _ _ rfl k13 Safg.under65 rfl Safg.size65) rfl ⟨Wd4.zero, z0, rfl, rfl, br.trans (o13.below h4)⟩
          · have HIZ := fun w => isZero_any w A2 okA2
            simp only [hz, decide_false] at HIZ
            clear hz HZ1
            go_wp2_with (first | (refine wpList_load_mid rfl 65 (.tmp 2) rfl g2 0 rfl _ _ B2.cell Safg.under65 rfl Safg.size65 ?_) | (go_at_call 205; refine (HIZ _).mono ?_; rintro e w12 ⟨rfl, b12⟩; have B5 := B5.below b12 B5.lt; have B2 := B2.below b12 B2.lt; have B3 := B3.below b12 B3.lt; have B4 := B4.below b12 B4.lt; have br := br.trans (b12.mono br.size)))
            go_roundw
            case rel => exact ⟨k + 1, P, A2, by omega, by go_num, B5, B2, B3, B4, okP, okA2, br, HV.out⟩
            case measure => simp [intOf]; omega
      · have ek : k = la := by omega
        have HF : Hid (∀ S : Wd4, S.val = P.val * A.val % b256 → S.val = z) := fun S h => by
          rw [h, ← HZ.out]
          have h1 := HI.out
          rw [ek] at h1
          exact exp_last h1.1 h1.2 HT1.out HT2.out
        have t0 : decide ((k : Int) < (la : Int)) = false := decide_eq_false (by omega)
        have t1 : ¬ k < la := hlt
        clear ek HI
        go_wp2_with (first | (refine wpList_load_mid rfl 65 (.tmp 5) rfl g5 0 rfl _ _ B5.cell Safg.under65 rfl Safg.size65 ?_) | (refine wpList_load_mid rfl 65 (.tmp 2) rfl g2 0 rfl _ _ B2.cell Safg.under65 rfl Safg.size65 ?_) | (go_at_call 56; refine (mulW_any _ P A okP okA).mono ?_; rintro e w8 ⟨P2, okP2, vP2, rfl, b8⟩; have B4 := B4.below b8 B4.lt; have br := br.trans (b8.mono br.size)) | (refine wpList_store_agg rfl 65 _ _ rfl g4 rfl _ P2.cells rfl B4 rfl Safg.size65 (Wd4.one _) ?_; intro w13 k13 o13))
        refine bodyPost_ret (results_cell1 Safg.results212 _ w13 g4 _ _ rfl k13 Safg.under65 rfl Safg.size65) rfl ⟨P2, okP2, HF.out P2 vP2, rfl, br.trans (o13.below h4)⟩
end Go.Proofs.YgcsafGreat
