/-
  'u256.SignExtend' (213).
-/
import Derived.Test.YgcsafGreatShr
namespace Go.Proofs.YgcsafGreat
open Go.RowKit
set_option linter.unusedVariables false
set_option linter.unusedSimpArgs false

/-- The limb in which the sign stands. -/
theorem sext_limb {x q : Nat} (hx : x < 18446744073709551616) (hq : q < 64) (t : Bool) (ht : decide (x / 2 ^ q % 2 = 1) = t) :
    IntKind.u64.wrap (IntKind.i64.wrap (IntKind.u64.wrap ((x : Int) * 2 ^ (63 - q))) / 2 ^ (63 - q)) = ((x % 2 ^ (q + 1) + (if t then 18446744073709551616 - 2 ^ (q + 1) else 0) : Nat) : Int) ∧
    x % 2 ^ (q + 1) + (if t then 18446744073709551616 - 2 ^ (q + 1) else 0) < 18446744073709551616 ∧
    (t = true → 9223372036854775808 ≤ x % 2 ^ (q + 1) + (18446744073709551616 - 2 ^ (q + 1))) ∧ (t = false → x % 2 ^ (q + 1) < 9223372036854775808) ∧ 2 ^ (q + 1) ≤ 18446744073709551616 := by
  have p : 0 < 2 ^ (63 - q) := Nat.pow_pos (by omega)
  have pq : 2 ^ (q + 1) * 2 ^ (63 - q) = 18446744073709551616 := by rw [← Nat.pow_add, show q + 1 + (63 - q) = 64 by omega]
  have pq2 : 2 ^ q * 2 ^ (63 - q) = 9223372036854775808 := by rw [← Nat.pow_add, show q + (63 - q) = 63 by omega]
  have pqs : 2 ^ (q + 1) = 2 ^ q * 2 := Nat.pow_succ _ _
  have p0 : 0 < 2 ^ q := Nat.pow_pos (by omega)
  have ple : 2 ^ (q + 1) ≤ 18446744073709551616 := by rw [← pq]; exact Nat.le_mul_of_pos_right _ p
  have e1 : x * 2 ^ (63 - q) % 18446744073709551616 = x % 2 ^ (q + 1) * 2 ^ (63 - q) := by
    conv => lhs; rw [← pq]
    rw [Nat.mul_mod_mul_right]
  have hm := Nat.mod_lt x (show 0 < 2 ^ (q + 1) by omega)
  have hbit : x % 2 ^ (q + 1) / 2 ^ q = x / 2 ^ q % 2 := by
    rw [pqs, Nat.mod_mul_right_div_self]
  have w1 : IntKind.u64.wrap ((x : Int) * 2 ^ (63 - q)) = ((x % 2 ^ (q + 1) * 2 ^ (63 - q) : Nat) : Int) := by rw [wrap_shl, e1]
  rw [w1]
  have hb2 : x / 2 ^ q % 2 < 2 := Nat.mod_lt _ (by omega)
  generalize x % 2 ^ (q + 1) = l at *
  have hdm := Nat.div_add_mod l (2 ^ q)
  have hml := Nat.mod_lt l p0
  rw [hbit] at hdm
  cases t
  · have hne : ¬ (x / 2 ^ q % 2 = 1) := by simpa using ht
    have h0 : x / 2 ^ q % 2 = 0 := by omega
    rw [h0, Nat.mul_zero, Nat.zero_add] at hdm
    have hl : l < 2 ^ q := by omega
    have hl2 : l * 2 ^ (63 - q) < 9223372036854775808 := by rw [← pq2]; exact Nat.mul_lt_mul_of_pos_right hl p
    have w2 : IntKind.i64.wrap ((l * 2 ^ (63 - q) : Nat) : Int) = ((l * 2 ^ (63 - q) : Nat) : Int) := by
      generalize l * 2 ^ (63 - q) = Y at *
      simp [IntKind.wrap, IntKind.bits, IntKind.signed]; omega
    have w3 : (((l * 2 ^ (63 - q) : Nat) : Int) / 2 ^ (63 - q)) = (l : Int) := by
      have : (2 : Int) ^ (63 - q) = ((2 ^ (63 - q) : Nat) : Int) := by simp
      rw [this, ← Int.natCast_ediv, Nat.mul_div_cancel _ p]
    have hl3 : l < 9223372036854775808 := by
      have : 2 ^ q ≤ 2 ^ q * 2 ^ (63 - q) := Nat.le_mul_of_pos_right _ p
      omega
    rw [w2, w3]
    refine ⟨?_, by simp; omega, by simp, fun _ => hl3, ple⟩
    simp [IntKind.wrap, IntKind.bits, IntKind.signed]; omega
  · have h1 : x / 2 ^ q % 2 = 1 := by simpa using ht
    rw [h1, Nat.mul_one] at hdm
    have hl : 2 ^ q ≤ l := by omega
    have hl2 : 9223372036854775808 ≤ l * 2 ^ (63 - q) := by rw [← pq2]; exact Nat.mul_le_mul_right _ hl
    have hl4 : l * 2 ^ (63 - q) < 18446744073709551616 := by rw [← pq]; exact Nat.mul_lt_mul_of_pos_right hm p
    have w2 : IntKind.i64.wrap ((l * 2 ^ (63 - q) : Nat) : Int) = ((l * 2 ^ (63 - q) : Nat) : Int) - 18446744073709551616 := by
      generalize l * 2 ^ (63 - q) = Y at *
      simp [IntKind.wrap, IntKind.bits, IntKind.signed]; omega
    have w3 : ((((l * 2 ^ (63 - q) : Nat) : Int) - 18446744073709551616) / 2 ^ (63 - q)) = (l : Int) - ((2 ^ (q + 1) : Nat) : Int) := by
      have e2 : (2 : Int) ^ (63 - q) = ((2 ^ (63 - q) : Nat) : Int) := by simp
      have e3 : (18446744073709551616 : Int) = ((2 ^ (q + 1) * 2 ^ (63 - q) : Nat) : Int) := by rw [pq]; rfl
      rw [e2, e3, Int.natCast_mul, Int.natCast_mul, ← Int.sub_mul, Int.mul_ediv_cancel _ (by omega)]
    have hle : 2 ^ q ≤ 9223372036854775808 := by rw [← pq2]; exact Nat.le_mul_of_pos_right _ p
    rw [w2, w3]
    generalize 2 ^ (q + 1) = T at *
    refine ⟨?_, by simp; omega, fun _ => by omega, by simp, ple⟩
    simp [IntKind.wrap, IntKind.bits, IntKind.signed]; omega

theorem mod_low {Z q : Nat} (hq : q < 64) : Z % 2 ^ (q + 1) = Z % b64 % 2 ^ (q + 1) ∧ Z / 2 ^ q % 2 = Z % b64 / 2 ^ q % 2 := by
  have e : b64 = 2 ^ (q + 1) * 2 ^ (63 - q) := by rw [b64_pow, ← Nat.pow_add]; congr 1; omega
  have e2 : b64 = 2 ^ q * (2 * 2 ^ (63 - q)) := by rw [e, Nat.pow_succ, Nat.mul_assoc]
  constructor
  · rw [e, Nat.mod_mul_right_mod]
  · rw [e2, Nat.mod_mul_right_div_self, Nat.mod_mul_right_mod]

theorem sext_fin {b v : Wd4} (hb : b.Ok) {k p q : Nat} {t : Bool} (hk : k < 31) (hp : (8 * k + 7) / 64 = p) (hq : (8 * k + 7) % 64 = q)
    (ht : decide (b.l.getD p 0 / 2 ^ q % 2 = 1) = t) (h1 : ∀ j, j < p → v.l.getD j 0 = b.l.getD j 0) (h2 : v.l.getD p 0 = b.l.getD p 0 % 2 ^ (q + 1) + (if t then 18446744073709551616 - 2 ^ (q + 1) else 0))
    (h3 : ∀ j, p < j → j < 4 → v.l.getD j 0 = if t then 18446744073709551615 else 0) : v.val = sextW k b.val := by
  have hp4 : p < 4 := by omega
  have hq64 : q < 64 := by omega
  have hx := limb_div hb hp4
  have hlim := (Wd4.lim hb).getD p
  obtain ⟨_, _, _, _, ple⟩ := sext_limb hlim hq64 t ht
  obtain ⟨m1, m2⟩ := mod_low (Z := b.val / b64 ^ p) hq64
  rw [hx] at m1 m2
  have e1 : (2 : Nat) ^ (8 * k + 8) = b64 ^ p * 2 ^ (q + 1) := by rw [b64_pow, ← Nat.pow_mul, ← Nat.pow_add]; congr 1; omega
  have e2 : (2 : Nat) ^ (8 * k + 7) = b64 ^ p * 2 ^ q := by rw [b64_pow, ← Nat.pow_mul, ← Nat.pow_add]; congr 1; omega
  have hbit : b.val / 2 ^ (8 * k + 7) % 2 = b.l.getD p 0 / 2 ^ q % 2 := by rw [e2, ← Nat.div_div_eq_div_mul]; exact m2
  have hlow : b.val % 2 ^ (8 * k + 8) = wv b.l 0 p + b64 ^ p * (b.l.getD p 0 % 2 ^ (q + 1)) := by
    rw [e1, Nat.mod_mul, m1]
    congr 1
    have h4 := wv_split b.l 0 p (4 - p)
    rw [show p + (4 - p) = 4 by omega, Nat.zero_add, ← Wd4.val_wv] at h4
    rw [h4, Nat.add_mul_mod_self_left, Nat.mod_eq_of_lt (wv_lt (Wd4.lim hb) 0 p)]
  have hv : v.val = wv b.l 0 p + b64 ^ p * (v.l.getD p 0 + b64 * wv v.l (p + 1) (3 - p)) := by
    have h4 := wv_split v.l 0 p (4 - p)
    rw [show p + (4 - p) = 4 by omega, Nat.zero_add, ← Wd4.val_wv] at h4
    rw [h4, wv_at v.l hp4, show 4 - (p + 1) = 3 - p by omega, wv_congr (U := v.l) (U' := b.l) (o := 0) (o' := 0) (fun j hj => by rw [Nat.zero_add]; exact h1 j hj)]
  have hs : sextW k b.val = if b.val / 2 ^ (8 * k + 7) % 2 = 1 then b.val % 2 ^ (8 * k + 8) + (b256 - 2 ^ (8 * k + 8)) else b.val % 2 ^ (8 * k + 8) := by
    unfold sextW; rw [if_neg (show ¬ 31 ≤ k by omega)]
  rw [hv, h2, hs, hbit, hlow, e1]
  clear hs hv h2 hlow hbit e2 m1 m2
  cases t
  · have : ¬ (b.l.getD p 0 / 2 ^ q % 2 = 1) := by simpa using ht
    rw [if_neg this, wv_zeros (m := 3 - p) (fun i hi => by have := h3 (p + 1 + i) (by omega) (by omega); simpa using this)]
    simp only [Bool.false_eq_true, if_false, Nat.mul_zero, Nat.add_zero]
  · have : b.l.getD p 0 / 2 ^ q % 2 = 1 := by simpa using ht
    rw [if_pos this]
    have ho := wv_ones (U := v.l) (o := p + 1) (m := 3 - p) (fun i hi => by have := h3 (p + 1 + i) (by omega) (by omega); simpa using this)
    have e4 : b64 ^ p * (b64 * b64 ^ (3 - p)) = b256 := by rw [← Nat.pow_succ', ← Nat.pow_add, show p + (3 - p).succ = 4 by omega, b64_four]
    rw [← ho, Nat.mul_add, Nat.mul_one] at e4
    have hb6 : b64 = 18446744073709551616 := rfl
    simp only [if_true]
    generalize b.l.getD p 0 % 2 ^ (q + 1) = l at *
    generalize wv v.l (p + 1) (3 - p) = O at *
    generalize wv b.l 0 p = W at *
    rw [← hb6] at ple ⊢
    obtain ⟨D, hD⟩ : ∃ D, b64 = 2 ^ (q + 1) + D := ⟨b64 - 2 ^ (q + 1), by omega⟩
    have e5 : b64 - 2 ^ (q + 1) = D := by omega
    rw [e5]
    have e6 : b256 - b64 ^ p * 2 ^ (q + 1) = b64 ^ p * (D + b64 * O) := by
      rw [← e4]
      generalize b64 * O = BO at *
      rw [hD]
      generalize (2 ^ (q + 1) + D) ^ p = P at *
      rw [Nat.mul_add, Nat.mul_add, Nat.mul_add]
      omega
    rw [e6, Nat.mul_add, Nat.mul_add, Nat.mul_add]
    generalize b64 ^ p * (b64 * O) = A1
    generalize b64 ^ p * D = A2
    generalize b64 ^ p * l = A3
    omega

theorem wrap64_i64 (x : Int) : wrap64 x = IntKind.i64.wrap x := by rw [IntKind.wrap_i64]; unfold wrap64; omega
set_option maxRecDepth 100000 in
set_option maxHeartbeats 2000000 in
theorem sext_any (w : World) (a b : Wd4) (ha : a.Ok) (hb : b.Ok) :
    Calls Safg.prog 213 #[a.v, b.v] w (WdRes w (sextW a.val b.val)) := by
  by_cases h31 : a.val < 31
  · have HB := fun w => below_small w a ha 31 (by omega) h31
    obtain ⟨p, hp⟩ : ∃ p, (8 * a.val + 7) / 64 = p := ⟨_, rfl⟩
    obtain ⟨q, hq⟩ : ∃ q, (8 * a.val + 7) % 64 = q := ⟨_, rfl⟩
    have q1 : (8 * (a.val : Int) + 7) / 64 = (p : Int) := by omega
    have q2 : (8 * (a.val : Int) + 7) % 64 = (q : Int) := by omega
    have hp4 : p < 4 := by omega
    have hq64 : q < 64 := by omega
    have q3 : (63 : Int) - (q : Int) = ((63 - q : Nat) : Int) := by omega
    obtain ⟨t, HT⟩ : ∃ t, decide (b.l.getD p 0 / 2 ^ q % 2 = 1) = t := ⟨_, rfl⟩
    have lb := Wd4.lim hb
    have lp := lb.getD p
    obtain ⟨e1, e2, e3, e4, _⟩ := sext_limb lp hq64 t HT
    obtain ⟨y, hy⟩ : ∃ y, b.l.getD p 0 % 2 ^ (q + 1) + (if t then 18446744073709551616 - 2 ^ (q + 1) else 0) = y := ⟨_, rfl⟩
    obtain ⟨f, hf⟩ : ∃ f, (if t then 18446744073709551615 else 0) = f := ⟨_, rfl⟩
    have hf64 : f < 18446744073709551616 := by rw [← hf]; split <;> omega
    have HF : Hid (∀ v : Wd4, (∀ j, j < p → v.l.getD j 0 = b.l.getD j 0) → v.l.getD p 0 = y → (∀ j, p < j → j < 4 → v.l.getD j 0 = f) → v.val = sextW a.val b.val) := fun v h1 h2 h3 =>
      sext_fin hb h31 hp hq HT h1 (by rw [h2, hy]) (fun j h4 h5 => by rw [h3 j h4 h5, hf])
    have E1 : Hid (IntKind.u64.wrap (wrap64 (IntKind.u64.wrap (((b.l.getD p 0 : Nat) : Int) * 2 ^ (63 - q))) / 2 ^ (63 - q)) = (y : Int)) := by show _ = _; rw [wrap64_i64, e1, hy]
    have hy64 : y < 18446744073709551616 := by rw [← hy]; exact e2
    have E2 : Hid (IntKind.u64.wrap (wrap64 (y : Int) / 9223372036854775808) = (f : Int)) := by
      show IntKind.u64.wrap (wrap64 (y : Int) / 9223372036854775808) = (f : Int)
      rw [wrap64_i64]
      show _ = _
      cases t
      · have h1 := e4 rfl
        simp only [Bool.false_eq_true, if_false, Nat.add_zero] at hy hf
        have h2 : y < 9223372036854775808 := by omega
        have h3 : IntKind.i64.wrap (y : Int) = (y : Int) := by simp [IntKind.wrap, IntKind.bits, IntKind.signed]; omega
        have h4 : (y : Int) / 9223372036854775808 = 0 := by omega
        rw [h3, h4, ← hf]; rfl
      · have h1 := e3 rfl
        simp only [if_true] at hy hf
        have h2 : 9223372036854775808 ≤ y := by omega
        have h3 : IntKind.i64.wrap (y : Int) = (y : Int) - 18446744073709551616 := by simp [IntKind.wrap, IntKind.bits, IntKind.signed]; omega
        have h4 : ((y : Int) - 18446744073709551616) / 9223372036854775808 = -1 := by omega
        rw [h3, h4, ← hf]; rfl
    generalize sextW a.val b.val = z at *
    generalize a.val = i at *
    clear hp hq e1 e2 e3 e4 hy hf HT
    go_enter Safg.func213, Safg.ntmps213
    go_upto_region 6 with (first | (refine wpList_box_agg rfl 65 (.tmp 0) rfl a.cells rfl ?_; intro w1 g2 hg2 k2 c2) | (refine wpList_box_agg rfl 65 (.tmp 1) rfl b.cells rfl ?_; intro w2 g3 hg3 k3 c3; have k2 := k2.below c3 k2.lt) | (refine wpList_alloc_agg rfl 65 rfl _ Safg.zero65 ?_; intro w3 g4 hg4 k4 c4; have l2 := k2.lt; have l3 := k3.lt; have k2 := k2.below c4 k2.lt; have k3 := k3.below c4 k3.lt) | (refine wpList_load_mid rfl 65 (.tmp 2) rfl g2 0 rfl _ _ k2.cell Safg.under65 rfl Safg.size65 ?_) | (go_at_call 333; refine (HB _).mono ?_; rintro e w5 ⟨rfl, b5⟩))
    have s1 := c2.size; have s2 := c3.size; have s3 := c4.size; have s5 := b5.size
    have t4 := k4.lt; have t3 := k3.lt
    have r3 : OwnU w5 g3 b.l := Blk.ownU (k3.below b5 k3.lt)
    have r4 : Blk w5 g4 _ := k4.below b5 k4.lt
    have n34 : g3 ≠ g4 := by omega
    have bb : Below w.heap.size w w5 := c2.trans ((c3.mono s1).trans ((c4.mono (by omega)).trans (b5.mono (by omega))))
    have h3 : w.heap.size ≤ g3 := by omega
    have h4 : w.heap.size ≤ g4 := by omega
    clear c2 c3 c4 b5 k2 k3 k4
    have cp := r3.cell p hp4
    have fp := r3.free p
    obtain ⟨x, HX⟩ : ∃ x, Hid (b.l.getD p 0 = x) := ⟨_, rfl⟩
    rw [HX.out] at cp E1
    go_upto_region 7 with fail
    rw [E1.out]
    have own1 := r3.set (k := p) hp4 y
    have only1 : Only g3 w5 (w5.setCell ⟨g3, p, none⟩ (.int .u64 (y : Int))) := (Only.refl _ _).setCell _ _
    have cp1 := own1.cell p (by rw [List.length_set]; exact hp4)
    rw [getD_setU hp4, if_pos rfl] at cp1
    generalize w5.setCell ⟨g3, p, none⟩ (.int .u64 (y : Int)) = w6 at *
    go_upto_region 8 with fail
    rw [E2.out]
    go_upto_region 9 with fail
    have hi1 : ((p + 1 : Nat) : Int) = (p : Int) + 1 := by omega
    go_loopw [10] (fun i wr => ∃ (k : Nat) (K : List Nat), p < k ∧ k ≤ 4 ∧ i = .int .u64 (k : Int) ∧ OwnU wr g3 K ∧ Only g3 w6 wr ∧ Lim K ∧ K.length = 4 ∧ Hid ((∀ j, j < p → K.getD j 0 = b.l.getD j 0) ∧ K.getD p 0 = y ∧ (∀ j, p < j → j < k → K.getD j 0 = f))) (fun i _ => 4 - (intOf i).toNat)
    case atStart =>
      refine ⟨p + 1, _, by omega, by omega, by rw [hi1], own1, Only.refl _ _, lb.set _ hy64, by rw [List.length_set]; rfl, fun j hj => ?_, ?_, fun j h1 h2 => absurd h2 (by omega)⟩
      · rw [getD_setU hp4, if_neg (by omega)]
      · rw [getD_setU hp4, if_pos rfl]
    case round =>
      obtain ⟨k, K, hpk, hk4, rfl, own, only, lK, hK, HI⟩ := hrel
      by_cases hm4 : k < 4
      · have t0 : decide ((k : Int) < 4) = true := decide_eq_true (by omega)
        have ck := own.cell k (by omega)
        have fk := own.free k
        have HN : Hid ((∀ j, j < p → (K.set k f).getD j 0 = b.l.getD j 0) ∧ (K.set k f).getD p 0 = y ∧ (∀ j, p < j → j < k + 1 → (K.set k f).getD j 0 = f)) := by
          refine ⟨fun j hj => ?_, ?_, fun j h1 h2 => ?_⟩
          · rw [getD_setU (by omega), if_neg (by omega)]; exact HI.out.1 j hj
          · rw [getD_setU (by omega), if_neg (by omega)]; exact HI.out.2.1
          · rw [getD_setU (by omega)]
            by_cases e : j = k
            · rw [if_pos e]
            · rw [if_neg e]; exact HI.out.2.2 j h1 (by omega)
        go_wp2
        go_roundw
        case rel => exact ⟨k + 1, K.set k f, by omega, by omega, by go_num, own.set (by omega) f, only.setCell _ _, lK.set _ hf64, by simpa using hK, HN.out⟩
        case measure => simp [intOf]; omega
      · have hk : k = 4 := by omega
        subst hk
        obtain ⟨v, hv⟩ := list4 hK
        have vz := HF.out v (by rw [hv]; exact HI.out.1) (by rw [hv]; exact HI.out.2.1) (by rw [hv]; exact HI.out.2.2)
        have VZ : Hid (v.val = z) := vz
        have vok : v.Ok := Lim.ok (by rw [hv]; exact lK)
        have k3 : Blk wr g3 v.cells := by
          have := own.blk
          rw [← hv] at this
          exact this
        have k4 : Blk wr g4 _ := only.blk (only1.blk r4 (Ne.symm n34)) (Ne.symm n34)
        clear vz HI HF hv
        go_wp2_with (first | (refine wpList_load_mid rfl 65 (.tmp 3) rfl g3 0 rfl _ _ k3.cell Safg.under65 rfl Safg.size65 ?_) | (refine wpList_store_agg rfl 65 _ _ rfl g4 rfl _ v.cells rfl k4 rfl Safg.size65 (Wd4.one _) ?_; intro w9 k9 n9))
        refine bodyPost_ret (results_cell1 Safg.results213 _ w9 g4 _ _ rfl k9 Safg.under65 rfl Safg.size65) rfl ⟨v, vok, VZ.out, rfl, bb.trans ((only1.below (by omega)).trans ((only.below (by omega)).trans (n9.below (by omega))))⟩
  · have HB := fun w => below_big w a ha 31 (by omega) (by omega)
    have e : sextW a.val b.val = b.val := by unfold sextW; rw [if_pos (by omega)]
    rw [e]
    clear h31 e
    go_enter Safg.func213, Safg.ntmps213
    go_upto_region 3 with (first | (refine wpList_box_agg rfl 65 (.tmp 0) rfl a.cells rfl ?_; intro w1 g2 hg2 k2 c2) | (refine wpList_box_agg rfl 65 (.tmp 1) rfl b.cells rfl ?_; intro w2 g3 hg3 k3 c3; have k2 := k2.below c3 k2.lt) | (refine wpList_alloc_agg rfl 65 rfl _ Safg.zero65 ?_; intro w3 g4 hg4 k4 c4; have l2 := k2.lt; have l3 := k3.lt; have k2 := k2.below c4 k2.lt; have k3 := k3.below c4 k3.lt) | (refine wpList_load_mid rfl 65 (.tmp 2) rfl g2 0 rfl _ _ k2.cell Safg.under65 rfl Safg.size65 ?_) | (go_at_call 333; refine (HB _).mono ?_; rintro e w5 ⟨x, rfl, b5⟩))
    have s1 := c2.size; have s2 := c3.size; have s3 := c4.size; have s5 := b5.size
    have r3 : Blk w5 g3 b.cells := k3.below b5 k3.lt
    have r4 : Blk w5 g4 _ := k4.below b5 k4.lt
    have bb : Below w.heap.size w w5 := c2.trans ((c3.mono s1).trans ((c4.mono (by omega)).trans (b5.mono (by omega))))
    go_wp2_with (first | (refine wpList_load_mid rfl 65 (.tmp 3) rfl g3 0 rfl _ _ r3.cell Safg.under65 rfl Safg.size65 ?_) | (refine wpList_store_agg rfl 65 _ _ rfl g4 rfl _ b.cells rfl r4 rfl Safg.size65 (Wd4.one _) ?_; intro w7 k7 n7))
    refine bodyPost_ret (results_cell1 Safg.results213 _ w7 g4 _ _ rfl k7 Safg.under65 rfl Safg.size65) rfl ⟨b, hb, rfl, rfl, bb.trans (n7.below (by omega))⟩
end Go.Proofs.YgcsafGreat
